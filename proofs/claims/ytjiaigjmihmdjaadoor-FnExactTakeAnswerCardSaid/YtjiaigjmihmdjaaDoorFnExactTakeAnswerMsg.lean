
/- Plain laws that are used here (declaration by declaration out of this session's own texts): no program's step stands here. -/
import Derived.Test.YtjiaigjmihmdjaaDoorPFnExactTakeAnswerx1
import Derived.Test.YtjiaigjmihmdjaaDoorPFnExactTakeAnswerx2
import Derived.Test.YtjiaigjmihmdjaaDoorPFnExactTakeAnswerx3
import Derived.Test.YtjiaigjmihmdjaaDoorPFnExactTakeAnswerx6
import Derived.Test.YtjiaigjmihmdjaaDoorPFnExactTakeAnswerx7
import Derived.Test.YtjiaigjmihmdjaaDoorPFnExactTakeAnswerx8
import Derived.Test.YtjiaigjmihmdjaaDoorPFnExactTakeAnswerx10
import Derived.Test.YtjiaigjmihmdjaaDoorPFnExactTakeAnswerx11
import Derived.Test.YtjiaigjmihmdjaaDoorPFnExactTakeAnswerx12
namespace Go.Proofs.YtjiaigjmihmdjaaDoor.Pure
open Go.RowKit Go.Proofs.YtjiaigjmihmdjaaDoor.PFnExactTakeAnswer Go.Proofs.YtjiaigjmihmdjaaDoorW.PrintWords Go.Proofs.YtjiaigjmihmdjaaDoorW.PrintLast Go.Proofs.YtjiaigjmihmdjaaDoorW.PrintMore
set_option linter.unusedVariables false
set_option linter.unusedSimpArgs false
/-- With enough rounds. -/
def Ev {α : Type} (f : Nat → Option α) (r : α) : Prop := ∃ K, ∀ k, K ≤ k → f k = some r
section
variable {α β : Type} {f g : Nat → Option α} {r a : α}
theorem Ev.pure (h : ∀ k, f k = some r) : Ev f r := ⟨0, fun k _ => h k⟩
theorem Ev.succ (h : ∀ k, f (k + 1) = g k) (hg : Ev g r) : Ev f r := by
 obtain ⟨K, hK⟩ := hg
 refine ⟨K + 1, fun k hk => ?_⟩
 obtain ⟨k, rfl⟩ : ∃ m, k = m + 1 := ⟨k - 1, by omega⟩
 rw [h]; exact hK k (by omega)
theorem Ev.congr (h : ∀ k, f k = g k) (hg : Ev g r) : Ev f r := by
 obtain ⟨K, hK⟩ := hg
 exact ⟨K, fun k hk => by rw [h]; exact hK k hk⟩
theorem Ev.bind {b : β} {g : Nat → α → Option β} (hf : Ev f a) (hg : Ev (fun k => g k a) b) : Ev (fun k => (f k).bind (g k)) b := by
 obtain ⟨K, hK⟩ := hf
 obtain ⟨M, hM⟩ := hg
 refine ⟨max K M, fun k hk => ?_⟩
 show (f k).bind (g k) = some b
 rw [hK k (by omega)]; exact hM k (by omega)
theorem Ev.bind' {b : β} {o : Option α} {g : Nat → α → Option β} (ho : o = some a) (hg : Ev (fun k => g k a) b) : Ev (fun k => o.bind (g k)) b := by
 subst ho; exact hg
theorem Ev.get (h : Ev f r) : ∃ k, f k = some r := by
 obtain ⟨K, hK⟩ := h
 exact ⟨K, hK K (Nat.le_refl _)⟩
end
/-- The bytes of a list as a string, and as numbers. -/
def B (L : List UInt8) : ByteArray := ⟨L.toArray⟩
def nums (L : List UInt8) : List Int := L.map fun b => (b.toNat : Int)
theorem B_size (L : List UInt8) : (B L).size = L.length := by simp [B, ByteArray.size]
theorem B_toList (s : ByteArray) : B s.data.toList = s := rfl
theorem nums_length (L : List UInt8) : (nums L).length = L.length := by simp [nums]
theorem wrap64_id {x : Int} (h0 : -9223372036854775808 ≤ x) (h1 : x < 9223372036854775808) : wrap64 x = x := by unfold wrap64; omega
theorem vtl_pos (v : Nat) : 1 ≤ (vtl v).length := by
 rw [vtl]; split <;> simp
theorem vtl_le9 {v : Nat} (h : v < 9223372036854775808) : (vtl v).length ≤ 9 := by
  have : ∀ n v : Nat, v < 128 ^ (n + 1) → (vtl v).length ≤ n + 1 := by
    intro n
    induction n with
    | zero => intro v hv; rw [vtl, if_pos (by simpa using hv)]; simp
    | succ n ih =>
      intro v hv
      rw [vtl]
      split
      · simp
      · have := ih (v / 128) (by rw [Nat.pow_succ] at hv; omega)
        simp; omega
  exact this 8 v (by have : (128 : Nat) ^ (8 + 1) = 9223372036854775808 := by decide
                     omega)
theorem putVar_l0 : ∀ (n : Nat) (v : Nat) (acc : List Int), v ≤ n → v < 9223372036854775808 → acc.length + (vtl v).length ≤ 140737488355328 →
  Ev (fun k => spec_PutVar.l0 k (v : Int) acc) (acc ++ nums (vtl v)) := by
 intro n
 induction n with
 | zero =>
  intro v acc hn hv hl
  obtain rfl : v = 0 := by omega
  have e : vtl 0 = [0] := by rw [vtl]; rfl
  rw [e] at hl ⊢
  simp at hl
  refine Ev.succ (g := fun _ => some (acc ++ [0])) (fun k => ?_) (Ev.pure fun _ => rfl)
  simp only [spec_PutVar.l0]
  rw [if_neg (by decide), if_pos (by omega)]; rfl
 | succ n ih =>
  intro v acc hn hv hl
  by_cases h : v < 128
  ·have e : vtl v = [v.toUInt8] := by rw [vtl, if_pos h]
   rw [e] at hl ⊢
   simp at hl
   refine Ev.succ (g := fun _ => some (acc ++ nums [v.toUInt8])) (fun k => ?_) (Ev.pure fun _ => rfl)
   simp only [spec_PutVar.l0]
   rw [if_neg (by omega), if_pos (by omega)]
   simp [nums]
  ·have e : vtl v = (v % 128 + 128).toUInt8 :: vtl (v / 128) := by rw [vtl, if_neg h]
   rw [e] at hl ⊢
   rw [List.length_cons] at hl
   have hp := vtl_pos (v / 128)
   have := ih (v / 128) (acc ++ nums [(v % 128 + 128).toUInt8]) (by omega) (by omega) (by simp [nums]; omega)
   have e2 : acc ++ nums [(v % 128 + 128).toUInt8] ++ nums (vtl (v / 128)) = acc ++ nums ((v % 128 + 128).toUInt8 :: vtl (v / 128)) := by simp [nums]
   rw [e2] at this
   refine Ev.succ (fun k => ?_) this
   simp only [spec_PutVar.l0]
   rw [if_pos (by omega), if_pos (by omega)]
   have h1 : wrap64 (Int.tdiv (v : Int) 128) = ((v / 128 : Nat) : Int) := by
    rw [Int.tdiv_eq_ediv_of_nonneg (by omega), wrap64_id (by omega) (by omega)]; omega
   have h2 : (wrap64 (128 + Int.tmod (v : Int) 128)) % 256 = (((v % 128 + 128).toUInt8).toNat : Int) := by
    rw [Int.tmod_eq_emod_of_nonneg (by omega), wrap64_id (by omega) (by omega)]; simp; omega
   rw [h1, h2]; simp [nums]
theorem putVar_says {v : Nat} (hv : v < 9223372036854775808) : Ev (fun k => spec_PutVar.f k (v : Int)) (nums (vtl v)) := by
 have h := putVar_l0 v v [] (Nat.le_refl _) hv (by have := vtl_le9 hv; simp; omega)
 refine Ev.congr (g := fun k => spec_PutVar.l0 k (v : Int) []) (fun k => ?_) h
 simp only [spec_PutVar.f, Option.bind_some]
 rw [if_neg (by omega)]
section
variable {α β : Type} {f g : Nat → Option α} {r a : α}
theorem Ev.ite_pos {c : Prop} [Decidable c] (hc : c) (h : Ev f r) : Ev (fun k => if c then f k else g k) r := Ev.congr (fun k => if_pos hc) h
theorem Ev.ite_neg {c : Prop} [Decidable c] (hc : ¬ c) (h : Ev g r) : Ev (fun k => if c then f k else g k) r := Ev.congr (fun k => if_neg hc) h
theorem Ev.some_bind {b : β} {g : Nat → α → Option β} (h : Ev (fun k => g k a) b) : Ev (fun k => (some a).bind (g k)) b := h
theorem Ev.some : Ev (fun _ => some r) r := Ev.pure fun _ => rfl
end
theorem vti_nat (v : Nat) : vti (v : Int) = vtl v := by unfold vti; rw [if_pos (by omega)]; simp
theorem toksBytes_cons (t : S148) (out : List S148) : toksBytes (t :: out) = tokBytes t ++ toksBytes out := by simp [toksBytes]
theorem lit_bytes (t : List UInt8) (v : Nat) (h : v = 2 * t.length) : tokBytes ⟨0, B t, 0, 0⟩ = vtl v ++ t := by
 unfold tokBytes
 rw [if_pos rfl]
 show vti (2 * ((B t).size : Int)) ++ t = _
 rw [B_size, show (2 * (t.length : Int)) = ((v : Nat) : Int) by omega, vti_nat]
theorem ref_bytes (p w v : Nat) (h : v = 2 * w + 1) : tokBytes ⟨1, ⟨#[]⟩, (p : Int), (w : Int)⟩ = vtl v ++ vtl p := by
 unfold tokBytes
 rw [if_neg (by simp)]
 show vti (2 * (w : Int) + 1) ++ vti (p : Int) = _
 rw [show (2 * (w : Int) + 1) = ((v : Nat) : Int) by omega, vti_nat, vti_nat]
/-- A good token is a literal or a reference. -/
theorem good_cases {t : S148} (h : tokGood t = true) : (∃ l : List UInt8, t = ⟨0, B l, 0, 0⟩ ∧ 1 ≤ l.length ∧ l.length ≤ 100) ∨ ∃ p w : Nat, t = ⟨1, ⟨#[]⟩, (p : Int), (w : Int)⟩ ∧ 1 ≤ w ∧ w ≤ 1000000 ∧ p ≤ 1000000 := by
 obtain ⟨f0, f1, f2, f3⟩ := t
 simp [tokGood] at h
 obtain ⟨⟨h | h, h3⟩, h2⟩ := h
 ·obtain ⟨⟨⟨⟨a, b⟩, c⟩, d⟩, e⟩ := h
  refine .inl ⟨f1.data.toList, ?_, ?_, ?_⟩
  ·rw [B_toList]; simp [a, d, e]
  ·have : f1.data.toList.length = f1.size := data_length f1
   omega
  ·have : f1.data.toList.length = f1.size := data_length f1
   omega
 ·obtain ⟨⟨⟨a, b⟩, c⟩, d⟩ := h
  refine .inr ⟨f2.toNat, f3.toNat, ?_, by omega, by omega, by omega⟩
  have e : f1 = ⟨#[]⟩ := by
   have b' : f1.size = 0 := by first | exact b | simp [b]
   have : f1.data.toList.length = f1.size := data_length f1
   rw [← B_toList f1, List.eq_nil_of_length_eq_zero (l := f1.data.toList) (by omega)]; rfl
  rw [e, Int.toNat_of_nonneg (by omega), Int.toNat_of_nonneg (by omega), a]
theorem extract_B (L : List UInt8) (a b : Nat) : (B L).extract a b = B ((L.take b).drop a) := by
 apply ByteArray.ext
 simp [B, ByteArray.extract, ByteArray.copySlice, List.drop_take]
theorem tokensText_good {l : List S148} (h : ∀ t ∈ l, tokGood t = true) (hl : l.length ≤ 20000) : impl_tokensText.f l = some (B (toksBytes l), true) := by
 unfold impl_tokensText.f
 rw [if_neg (by omega), if_neg]
 ·rfl
 ·simp only [List.any_eq_true]
  rintro ⟨t, ht, hb⟩
  simp [h t ht] at hb
def sigLen (size rest : Int) (n : Nat) : Int := if 0 < rest ∧ 0 < n then size * n - size + rest else size * n
def sigGood (size rest : Int) (weak : List Int) (strong : List ByteArray) : Bool :=
 decide (1 ≤ size ∧ size ≤ 256) && decide (0 ≤ rest ∧ rest ≤ size - 1) && decide (weak.length ≤ 2500) && decide (weak.length = strong.length) && (strong.all fun s => decide (s.size = 4)) && (decide (rest = 0) || decide (0 < weak.length)) && decide (sigLen size rest weak.length ≤ 20000)
theorem in_says (x a b : Int) : spec_l01In.f x a b = some (decide (a ≤ x ∧ x ≤ b)) := by
 unfold spec_l01In.f
 by_cases h : a ≤ x
 ·rw [if_pos h]; simp [h]
 ·rw [if_neg h]; simp [h]
theorem within_says (x a b : Int) : impl_within.f x a b = some (decide (a ≤ x ∧ x ≤ b)) := by
 unfold impl_within.f
 by_cases h : a ≤ x
 ·rw [if_pos h]; simp [h]
 ·rw [if_neg h]; simp [h]
theorem prod_bound {size : Int} {weak : List Int} (h1 : 1 ≤ size ∧ size ≤ 256) (h3 : weak.length ≤ 2500) : 0 ≤ size * (weak.length : Int) ∧ size * (weak.length : Int) ≤ 640000 := by
 constructor
 ·exact Int.mul_nonneg (by omega) (by omega)
 ·have : size * (weak.length : Int) ≤ 256 * (weak.length : Int) := Int.mul_le_mul_of_nonneg_right h1.2 (by omega)
  omega
section
variable {size rest : Int} {weak : List Int} {strong : List ByteArray} (h1 : 1 ≤ size ∧ size ≤ 256) (h2 : 0 ≤ rest ∧ rest ≤ size - 1) (h3 : weak.length ≤ 2500)
include h1 h2 h3
theorem specSigLen : Ev (fun k => spec_SigLen.f k size rest weak strong) (sigLen size rest weak.length) := by
 obtain ⟨p1, p2⟩ := prod_bound (weak := weak) h1 h3
 refine Ev.congr (fun k => spec_SigLen.f.eq_1 ..) (Ev.bind' (in_says ..) (Ev.ite_pos (by simpa using h1) (Ev.bind' (in_says ..) (Ev.ite_pos ?_ ?_))))
 ·rw [wrap64_id (by omega) (by omega)]; simpa using h2
 ·rw [decide_eq_false (by omega : ¬ ((weak.length : Int) > 2500))]
  refine Ev.succ (fun k => spec_SigLen.j0.eq_2 ..) (Ev.ite_neg (by decide) ?_)
  have e : wrap64 (size * (weak.length : Int)) = size * (weak.length : Int) := wrap64_id (by omega) (by omega)
  rw [e]
  by_cases hr : 0 < rest
  ·refine Ev.ite_pos hr ?_
   by_cases hp : 0 < size * (weak.length : Int)
   ·refine Ev.ite_pos hp ?_
    have hw : 0 < weak.length := by
     rcases Nat.eq_zero_or_pos weak.length with h | h
     ·rw [h] at hp; simp at hp
     ·exact h
    rw [wrap64_id (x := size * (weak.length : Int) - size) (by omega) (by omega), wrap64_id (by omega) (by omega), sigLen, if_pos ⟨hr, hw⟩]
    exact Ev.some
   ·refine Ev.ite_neg hp ?_
    have hw : ¬ 0 < weak.length := by
     intro h
     have : 1 * 1 ≤ size * (weak.length : Int) := Int.mul_le_mul h1.1 (by omega) (by omega) (by omega)
     omega
    rw [sigLen, if_neg (by omega)]
    exact Ev.some
  ·refine Ev.ite_neg hr ?_
   rw [sigLen, if_neg (by omega)]
   exact Ev.some
theorem implCut : impl_Sig_isCut.f size rest weak strong = some true := by
 unfold impl_Sig_isCut.f
 rw [within_says, Option.bind_some, if_pos (by simpa using h1), within_says, Option.bind_some, wrap64_id (by omega) (by omega), if_pos (by simpa using h2), decide_eq_true (by omega)]
theorem implSigLen : Ev (fun k => impl_SigLen.f k size rest weak strong) (sigLen size rest weak.length) := by
 obtain ⟨p1, p2⟩ := prod_bound (weak := weak) h1 h3
 refine Ev.congr (fun k => impl_SigLen.f.eq_1 ..) (Ev.bind' (implCut h1 h2 h3) (Ev.ite_pos rfl (Ev.succ (fun k => impl_SigLen.j0.eq_2 ..) ?_)))
 have e : wrap64 (size * (weak.length : Int)) = size * (weak.length : Int) := wrap64_id (by omega) (by omega)
 by_cases hw : weak.length = 0
 ·refine Ev.ite_pos (by simp; exact List.eq_nil_of_length_eq_zero hw) ?_
  rw [sigLen, if_neg (by omega), hw]
  simp only [Int.natCast_zero, Int.mul_zero]
  exact Ev.some
 ·refine Ev.ite_neg (by simp; intro h; rw [h] at hw; exact hw rfl) ?_
  rw [e]
  by_cases hr : 0 < rest
  ·refine Ev.ite_pos hr ?_
   rw [wrap64_id (x := rest - size) (by omega) (by omega), wrap64_id (by omega) (by omega), sigLen, if_pos ⟨hr, by omega⟩, show size * (weak.length : Int) + (rest - size) = size * (weak.length : Int) - size + rest by omega]
   exact Ev.some
  ·refine Ev.ite_neg hr ?_
   rw [sigLen, if_neg (by omega)]
   exact Ev.some
end
theorem specSigOk_l0 {size rest : Int} {weak : List Int} {strong : List ByteArray} (h1 : 1 ≤ size ∧ size ≤ 256) (h2 : 0 ≤ rest ∧ rest ≤ size - 1) (h3 : weak.length ≤ 2500) (h4 : strong.length ≤ 2500) : ∀ (n i : Nat), strong.length - i = n → i ≤ strong.length →
  Ev (fun k => spec_SigOk.l0 k (i : Int) size rest weak strong) (((strong.drop i).all fun s => decide (s.size = 4)) && (decide (rest = 0) || decide (0 < weak.length)) && decide (sigLen size rest weak.length ≤ 20000)) := by
 intro n
 induction n with
 | zero =>
  intro i hn hi
  rw [List.drop_eq_nil_of_le (by omega)]
  refine Ev.succ (fun k => spec_SigOk.l0.eq_2 ..) (Ev.ite_neg (by omega) ?_)
  by_cases hr : rest = 0
  ·refine Ev.ite_pos hr (Ev.bind (specSigLen h1 h2 h3) ?_)
   simp [hr]
   exact Ev.some
  ·refine Ev.ite_neg hr ?_
   by_cases hw : 0 < weak.length
   ·refine Ev.ite_pos (by omega) (Ev.bind (specSigLen h1 h2 h3) ?_)
    simp [hr, hw]
    exact Ev.some
   ·refine Ev.ite_neg (by omega) ?_
    simp [hr, hw]
    exact Ev.some
 | succ n ih =>
  intro i hn hi
  have hlt : i < strong.length := by omega
  rw [List.drop_eq_getElem_cons hlt]
  have hrd : rdOf ByteArray.empty strong (i : Int) = strong[i] := by
   simp [rdOf, List.getD_eq_getElem?_getD, List.getElem?_eq_getElem hlt]
  refine Ev.succ (fun k => spec_SigOk.l0.eq_2 ..) (Ev.ite_pos (by omega) (Ev.ite_pos (by omega) ?_))
  rw [hrd]
  by_cases hs : strong[i].size = 4
  ·refine Ev.ite_pos (by omega) ?_
   have := ih (i + 1) (by omega) (by omega)
   rw [wrap64_id (by omega) (by omega)]
   simp only [List.all_cons, hs, decide_true, Bool.true_and]
   exact this
  ·refine Ev.ite_neg (by omega) ?_
   simp only [List.all_cons, hs, decide_false, Bool.false_and]
   exact Ev.some
theorem specSigOk (size rest : Int) (weak : List Int) (strong : List ByteArray) (hb : weak.length ≤ 140737488351232) (hs : strong.length ≤ 140737488351232) : Ev (fun k => spec_SigOk.f k size rest weak strong) (sigGood size rest weak strong) := by
 have bad : ∀ k, spec_SigOk.j0 (k + 1) true size rest weak strong = some false := fun k => by rw [spec_SigOk.j0, if_pos rfl]
 refine Ev.congr (fun k => spec_SigOk.f.eq_1 ..) (Ev.bind' (in_says ..) ?_)
 by_cases h1 : 1 ≤ size ∧ size ≤ 256
 ·refine Ev.ite_pos (by simpa using h1) (Ev.bind' (in_says ..) ?_)
  rw [wrap64_id (by omega) (by omega)]
  by_cases h2 : 0 ≤ rest ∧ rest ≤ size - 1
  ·refine Ev.ite_pos (by simpa using h2) ?_
   by_cases h3 : weak.length ≤ 2500
   ·refine Ev.ite_neg (by omega) ?_
    by_cases h4 : weak.length = strong.length
    ·have e : ((weak.length : Int) != (strong.length : Int)) = false := by simp [h4]
     rw [e]
     refine Ev.succ (fun k => spec_SigOk.j0.eq_2 ..) (Ev.ite_neg (by decide) ?_)
     have := specSigOk_l0 (strong := strong) h1 h2 h3 (by omega) strong.length 0 (by omega) (by omega)
     rw [List.drop_zero] at this
     have e2 : sigGood size rest weak strong = ((strong.all fun s => decide (s.size = 4)) && (decide (rest = 0) || decide (0 < weak.length)) && decide (sigLen size rest weak.length ≤ 20000)) := by
      simp only [sigGood, decide_eq_true h1, decide_eq_true h2, decide_eq_true h3, decide_eq_true h4, Bool.true_and]
     rw [e2]; exact this
    ·have e : ((weak.length : Int) != (strong.length : Int)) = true := by simp; omega
     rw [e]
     have e2 : sigGood size rest weak strong = false := by simp only [sigGood, decide_eq_false h4, Bool.and_false, Bool.false_and]
     rw [e2]
     exact Ev.succ bad Ev.some
   ·refine Ev.ite_pos (by omega) ?_
    have e2 : sigGood size rest weak strong = false := by simp only [sigGood, decide_eq_false h3, Bool.and_false, Bool.false_and]
    rw [e2]
    exact Ev.succ bad Ev.some
  ·refine Ev.ite_neg (by simpa using h2) ?_
   have e2 : sigGood size rest weak strong = false := by simp only [sigGood, decide_eq_false h2, Bool.and_false, Bool.false_and]
   rw [e2]
   exact Ev.succ bad Ev.some
 ·refine Ev.ite_neg (by simpa using h1) ?_
  have e2 : sigGood size rest weak strong = false := by simp only [sigGood, decide_eq_false h1, Bool.and_false, Bool.false_and]
  rw [e2]
  exact Ev.succ bad Ev.some
theorem implSigOk (size rest : Int) (weak : List Int) (strong : List ByteArray) (hb : weak.length ≤ 140737488351232) (hs : strong.length ≤ 140737488351232) : Ev (fun k => impl_SigOk.f k size rest weak strong) (sigGood size rest weak strong) := by
 have hany : (strong.any fun t => decide (t.size ≠ 4)) = !(strong.all fun s => decide (s.size = 4)) := by
  rw [List.not_all_eq_any_not]; congr 1; funext t; simp
 by_cases h1 : 1 ≤ size ∧ size ≤ 256
 ·by_cases h2 : 0 ≤ rest ∧ rest ≤ size - 1
  ·by_cases h3 : weak.length ≤ 2500
   ·refine Ev.congr (fun k => impl_SigOk.f.eq_1 ..) (Ev.bind' (implCut h1 h2 h3) (Ev.ite_pos rfl ?_))
    by_cases h4 : weak.length = strong.length
    ·refine Ev.ite_pos (by omega) ?_
     have e2 : sigGood size rest weak strong = ((strong.all fun s => decide (s.size = 4)) && (decide (rest = 0) || decide (0 < weak.length)) && decide (sigLen size rest weak.length ≤ 20000)) := by
      simp only [sigGood, decide_eq_true h1, decide_eq_true h2, decide_eq_true h3, decide_eq_true h4, Bool.true_and]
     rw [e2]
     by_cases hr : rest = 0
     ·refine Ev.ite_pos hr (Ev.bind' (slices_ContainsFunc_SigOk.f.eq_1 ..) ?_)
      rw [hany]
      cases ha : strong.all fun s => decide (s.size = 4) with
      | true =>
       refine Ev.ite_neg (by decide) (Ev.bind (implSigLen h1 h2 h3) ?_)
       simp [hr]; exact Ev.some
      | false =>
       refine Ev.ite_pos (by decide) ?_
       simp only [Bool.false_and]; exact Ev.some
     ·refine Ev.ite_neg hr ?_
      by_cases hw : 0 < weak.length
      ·refine Ev.ite_pos (by omega) (Ev.bind' (slices_ContainsFunc_SigOk.f.eq_1 ..) ?_)
       rw [hany]
       cases ha : strong.all fun s => decide (s.size = 4) with
       | true =>
        refine Ev.ite_neg (by decide) (Ev.bind (implSigLen h1 h2 h3) ?_)
        simp [hw]; exact Ev.some
       | false =>
        refine Ev.ite_pos (by decide) ?_
        simp only [Bool.false_and]; exact Ev.some
      ·refine Ev.ite_neg (by omega) ?_
       simp only [decide_eq_false hr, decide_eq_false hw, Bool.or_self, Bool.and_false, Bool.false_and]; exact Ev.some
    ·refine Ev.ite_neg (by omega) ?_
     have e2 : sigGood size rest weak strong = false := by simp only [sigGood, decide_eq_false h4, Bool.and_false, Bool.false_and]
     rw [e2]; exact Ev.some
   ·have e : impl_Sig_isCut.f size rest weak strong = some false := by
     unfold impl_Sig_isCut.f
     rw [within_says, Option.bind_some, if_pos (by simpa using h1), within_says, Option.bind_some, wrap64_id (by omega) (by omega), if_pos (by simpa using h2), decide_eq_false (by omega)]
    have e2 : sigGood size rest weak strong = false := by simp only [sigGood, decide_eq_false h3, Bool.and_false, Bool.false_and]
    rw [e2]
    exact Ev.congr (fun k => impl_SigOk.f.eq_1 ..) (Ev.bind' e (Ev.ite_neg (by decide) Ev.some))
  ·have e : impl_Sig_isCut.f size rest weak strong = some false := by
    unfold impl_Sig_isCut.f
    rw [within_says, Option.bind_some, if_pos (by simpa using h1), within_says, Option.bind_some, wrap64_id (by omega) (by omega), if_neg (by simpa using h2)]
   have e2 : sigGood size rest weak strong = false := by simp only [sigGood, decide_eq_false h2, Bool.and_false, Bool.false_and]
   rw [e2]
   exact Ev.congr (fun k => impl_SigOk.f.eq_1 ..) (Ev.bind' e (Ev.ite_neg (by decide) Ev.some))
 ·have e : impl_Sig_isCut.f size rest weak strong = some false := by
   unfold impl_Sig_isCut.f
   rw [within_says, Option.bind_some, if_neg (by simpa using h1)]
  have e2 : sigGood size rest weak strong = false := by simp only [sigGood, decide_eq_false h1, Bool.and_false, Bool.false_and]
  rw [e2]
  exact Ev.congr (fun k => impl_SigOk.f.eq_1 ..) (Ev.bind' e (Ev.ite_neg (by decide) Ev.some))
theorem B_append (L M : List UInt8) : B L ++ B M = B (L ++ M) := by
 apply ByteArray.ext
 simp [B]
def toksOk (l : List S148) : Bool := decide (l.length ≤ 20000) && l.all tokGood
theorem toksOk_parts {l : List S148} (h : toksOk l = true) : l.length ≤ 20000 ∧ ∀ t ∈ l, tokGood t = true := by
 simp only [toksOk, Bool.and_eq_true, decide_eq_true_eq, List.all_eq_true] at h
 exact h
theorem toksOk_of {l : List S148} (h1 : l.length ≤ 20000) (h2 : ∀ t ∈ l, tokGood t = true) : toksOk l = true := by
 simp only [toksOk, Bool.and_eq_true, decide_eq_true_eq, List.all_eq_true]
 exact ⟨h1, h2⟩
theorem tokensText_ok (l : List S148) : ∃ b, impl_tokensText.f l = some (b, toksOk l) := by
 by_cases h1 : l.length ≤ 20000
 ·by_cases h2 : ∀ t ∈ l, tokGood t = true
  ·exact ⟨_, by rw [tokensText_good h2 h1, toksOk_of h1 h2]⟩
  ·refine ⟨⟨#[]⟩, ?_⟩
   have e : toksOk l = false := by
    cases h : toksOk l with
    | false => rfl
    | true => exact absurd (toksOk_parts h).2 h2
   rw [e]
   unfold impl_tokensText.f
   rw [if_neg (by omega), if_pos]
   simp only [List.any_eq_true]
   obtain ⟨t, ht⟩ := Classical.not_forall.1 h2
   obtain ⟨ht1, ht2⟩ := Classical.not_imp.1 ht
   exact ⟨t, ht1, by simp [ht2]⟩
 ·refine ⟨⟨#[]⟩, ?_⟩
  have e : toksOk l = false := by simp only [toksOk, decide_eq_false h1, Bool.false_and]
  rw [e]
  unfold impl_tokensText.f
  rw [if_pos (by omega)]
def tokOkB (t : S148) : Bool := (decide (t.f0 = 0) && decide (1 ≤ t.f1.size) && decide (t.f1.size ≤ 100) && decide (t.f2 = 0) && decide (t.f3 = 0)) || (decide (t.f0 = 1) && decide (t.f1.size = 0) && decide (0 ≤ t.f2) && decide (1 ≤ t.f3))
theorem tokGood_is (t : S148) : tokGood t = (tokOkB t && decide (t.f3 ≤ 1000000) && decide (t.f2 ≤ 1000000)) := rfl
theorem specTokenOk (t : S148) : spec_TokenOk.f t.f0 t.f1 t.f2 t.f3 = some (tokOkB t) := by
 obtain ⟨f0, f1, f2, f3⟩ := t
 simp only [spec_TokenOk.f, in_says, tokOkB, tok_list_nil]
 by_cases h0 : f0 = 0
 ·subst h0
  rw [if_pos rfl]
  by_cases h1 : 1 ≤ f1.size ∧ f1.size ≤ 100
  ·have e : decide ((1 : Int) ≤ (f1.size : Int) ∧ (f1.size : Int) ≤ 100) = true := decide_eq_true (by omega)
   rw [e]
   by_cases h2 : f2 = 0
   ·simp [h1, h2]; rfl
   ·simp [h1, h2]
  ·have e : decide ((1 : Int) ≤ (f1.size : Int) ∧ (f1.size : Int) ≤ 100) = false := decide_eq_false (by omega)
   rw [e]
   have : ¬ (1 ≤ f1.size ∧ f1.size ≤ 100) := h1
   simp
   omega
 ·rw [if_neg h0]
  by_cases h1 : f0 = 1
  ·rw [if_pos h1]
   by_cases h2 : f1.size = 0
   ·rw [if_pos h2]
    by_cases h3 : 0 ≤ f2
    ·simp [h0, h1, h2, h3]
    ·simp [h0, h1, h2, h3]
   ·simp [h0, h1, h2]
  ·rw [if_neg h1]
   simp [h0, h1]
theorem putTokens_l0 (x0 : List S148) (hl : x0.length ≤ 20000) : ∀ (m i : Nat) (acc : List Int), i + m = x0.length → acc.length + 200 * m ≤ 4000000 →
  Ev (fun k => spec_PutTokens.l0 k x0 acc (i : Int)) (if (x0.drop i).all tokGood = true then acc ++ nums (toksBytes (x0.drop i)) else []) := by
 intro m
 induction m with
 | zero =>
  intro i acc hi ha
  rw [List.drop_eq_nil_of_le (by omega)]
  refine Ev.succ (fun k => spec_PutTokens.l0.eq_2 ..) (Ev.ite_neg (by omega) (Ev.ite_pos (by omega) Ev.some))
 | succ m ih =>
  intro i acc hi ha
  have hlt : i < x0.length := by omega
  have hrd : rd_T148 x0 (i : Int) = x0[i] := by simp [rd_T148, List.getD_eq_getElem?_getD, List.getElem?_eq_getElem hlt]
  rw [List.drop_eq_getElem_cons hlt]
  have stop : ∀ (f0 : Int) (f1 : ByteArray) (f2 f3 : Int), Ev (fun k => spec_PutTokens.j1 k x0 acc (i : Int) true f0 f1 f2 f3) [] := fun f0 f1 f2 f3 => Ev.succ (fun k => spec_PutTokens.j1.eq_2 ..) (Ev.ite_pos rfl Ev.some)
  have start : ∀ r, (tokGood x0[i] = true → Ev (fun k => spec_PutTokens.j1 k x0 acc (i : Int) false x0[i].f0 x0[i].f1 x0[i].f2 x0[i].f3) r) → (tokGood x0[i] = false → r = []) → Ev (fun k => spec_PutTokens.l0 k x0 acc (i : Int)) r := by
   intro r h1 h2
   refine Ev.succ (fun k => spec_PutTokens.l0.eq_2 ..) (Ev.ite_pos (by omega) (Ev.ite_pos (by omega) ?_))
   rw [hrd, specTokenOk]
   refine Ev.some_bind ?_
   rw [tokGood_is] at h1 h2
   by_cases ho : tokOkB x0[i] = true
   ·refine Ev.ite_pos ho ?_
    by_cases hf2 : x0[i].f2 ≤ 1000000
    ·refine Ev.ite_neg (by omega) ?_
     by_cases hf3 : x0[i].f3 ≤ 1000000
     ·rw [decide_eq_false (by omega)]
      exact h1 (by simp [ho, hf2, hf3])
     ·rw [decide_eq_true (by omega), h2 (by simp [hf3])]
      exact stop ..
    ·refine Ev.ite_pos (by omega) ?_
     rw [h2 (by simp [hf2])]
     exact stop ..
   ·refine Ev.ite_neg ho ?_
    rw [h2 (by simp [ho])]
    exact stop ..
  have fin : ∀ r, (tokGood x0[i] = true → Ev (fun k => spec_PutTokens.j1 k x0 acc (i : Int) false x0[i].f0 x0[i].f1 x0[i].f2 x0[i].f3) (if (x0.drop (i + 1)).all tokGood = true then acc ++ nums (tokBytes x0[i] ++ toksBytes (x0.drop (i + 1))) else [])) → r = (if (x0[i] :: x0.drop (i + 1)).all tokGood = true then acc ++ nums (toksBytes (x0[i] :: x0.drop (i + 1))) else []) → Ev (fun k => spec_PutTokens.l0 k x0 acc (i : Int)) r := by
   intro r h1 hr
   subst hr
   refine start _ (fun hg => ?_) (fun hg => ?_)
   ·have := h1 hg
    rw [toksBytes_cons]
    simp only [List.all_cons, hg, Bool.true_and]
    exact this
   ·simp only [List.all_cons, hg, Bool.false_and]
    rw [if_neg (by decide)]
  refine fin _ (fun hg => ?_) rfl
  have next : ∀ (P : List UInt8), P.length ≤ 200 → Ev (fun k => spec_PutTokens.l0 k x0 (acc ++ nums P) (wrap64 ((i : Int) + 1))) (if (x0.drop (i + 1)).all tokGood = true then acc ++ nums (P ++ toksBytes (x0.drop (i + 1))) else []) := by
   intro P hP
   have := ih (i + 1) (acc ++ nums P) (by omega) (by rw [List.length_append, nums_length]; omega)
   rw [wrap64_id (by omega) (by omega)]
   have e : acc ++ nums P ++ nums (toksBytes (x0.drop (i + 1))) = acc ++ nums (P ++ toksBytes (x0.drop (i + 1))) := by simp [nums]
   rw [e] at this
   exact this
  have nums_app : ∀ P Q : List UInt8, acc ++ nums P ++ nums Q = acc ++ nums (P ++ Q) := fun P Q => by simp [nums]
  rcases good_cases hg with ⟨l, hl0, h1, h2⟩ | ⟨p, w, hl0, h1, h2, h3⟩
  ·rw [hl0]
   have hv := putVar_says (v := 2 * l.length) (by omega)
   have hvl := vtl_le9 (v := 2 * l.length) (by omega)
   refine Ev.succ (fun k => spec_PutTokens.j1.eq_2 ..) (Ev.ite_neg (by decide) (Ev.ite_pos rfl ?_))
   have e : wrap64 (2 * ((B l).size : Int)) = ((2 * l.length : Nat) : Int) := by rw [B_size, wrap64_id (by omega) (by omega)]; omega
   rw [e]
   refine Ev.bind hv (Ev.ite_pos (by rw [nums_length]; omega) (Ev.some_bind (Ev.ite_pos (by rw [B_size]; omega) ?_)))
   have eb : bytesOf (B l) = nums l := rfl
   rw [eb]
   refine Ev.some_bind (Ev.ite_pos (by rw [List.length_append, nums_length, nums_length]; omega) ?_)
   rw [nums_app, lit_bytes l (2 * l.length) rfl]
   exact next _ (by rw [List.length_append]; omega)
  ·rw [hl0]
   have hv := putVar_says (v := 2 * w + 1) (by omega)
   have hvl := vtl_le9 (v := 2 * w + 1) (by omega)
   have hv2 := putVar_says (v := p) (by omega)
   have hvl2 := vtl_le9 (v := p) (by omega)
   refine Ev.succ (fun k => spec_PutTokens.j1.eq_2 ..) (Ev.ite_neg (by decide) (Ev.ite_neg (show ¬ ((1 : Int) = 0) by decide) ?_))
   have e : wrap64 ((wrap64 (2 * (w : Int))) + 1) = ((2 * w + 1 : Nat) : Int) := by rw [wrap64_id (x := 2 * (w : Int)) (by omega) (by omega), wrap64_id (by omega) (by omega)]; omega
   rw [e]
   refine Ev.bind hv (Ev.ite_pos (by rw [nums_length]; omega) (Ev.some_bind (Ev.bind hv2 (Ev.ite_pos (by rw [List.length_append, nums_length, nums_length]; omega) ?_))))
   rw [nums_app, ref_bytes p w (2 * w + 1) rfl]
   exact next _ (by rw [List.length_append]; omega)
theorem putTokens_says (l : List S148) : Ev (fun k => spec_PutTokens.f k l) (if toksOk l = true then nums (toksBytes l) else []) := by
 refine Ev.congr (fun k => spec_PutTokens.f.eq_1 ..) (Ev.some_bind ?_)
 by_cases h : l.length ≤ 20000
 ·refine Ev.ite_neg (by omega) ?_
  have := putTokens_l0 l h l.length 0 [] (by omega) (by simp; omega)
  rw [List.drop_zero, List.nil_append] at this
  have e : toksOk l = l.all tokGood := by simp only [toksOk, decide_eq_true h, Bool.true_and]
  rw [e]
  exact this
 ·refine Ev.ite_pos (by omega) ?_
  have e : toksOk l = false := by simp only [toksOk, decide_eq_false h, Bool.false_and]
  rw [e]
  exact Ev.some
def noSig (size rest : Int) (weak : List Int) (strong : List ByteArray) : Bool := decide (size = 0) && decide (rest = 0) && decide (weak.length = 0) && decide (strong.length = 0)
theorem specNoSig (size rest : Int) (weak : List Int) (strong : List ByteArray) : spec_l18NoSig.f size rest weak strong = some (noSig size rest weak strong) := by
 unfold spec_l18NoSig.f noSig
 by_cases h1 : size = 0
 ·rw [if_pos h1]
  by_cases h2 : rest = 0
  ·rw [if_pos h2]
   by_cases h3 : weak.length = 0
   ·rw [if_pos (by omega)]
    by_cases h4 : strong.length = 0
    ·simp [h1, h2, h3, h4]
    ·simp [h1, h2, h3, h4]
   ·rw [if_neg (by omega)]; simp [h3]
  ·rw [if_neg h2]; simp [h2]
 ·rw [if_neg h1]; simp [h1]
theorem implNoSig (size rest : Int) (weak : List Int) (strong : List ByteArray) : impl_Sig_isNone.f size rest weak strong = some (noSig size rest weak strong) := specNoSig size rest weak strong
def msgGood (kd pl sz rs : Int) (w : List Int) (s : List ByteArray) (t : List S148) (u : ByteArray) : Bool :=
 decide (0 ≤ pl ∧ pl ≤ 1000) && (if kd = 0 then sigGood sz rs w s && decide (t.length = 0) && decide (u.size = 0) else if kd = 1 then noSig sz rs w s && toksOk t && decide (u.size = 16) else if kd = 2 then noSig sz rs w s && decide (t.length = 0) && decide (u.size = 0) else false)
theorem nil_beq (u : ByteArray) : (u.toList == ([] : List UInt8)) = decide (u.size = 0) := by
 by_cases h : u.size = 0
 ·rw [(tok_list_nil u).2 h, decide_eq_true h]; rfl
 ·have : ¬ u.toList = [] := fun e => h ((tok_list_nil u).1 e)
  rw [decide_eq_false h]; simp [this]
theorem size_beq (u : ByteArray) : ((u.size : Int) == 16) = decide (u.size = 16) := by
 by_cases h : u.size = 16
 ·rw [h]; rfl
 ·rw [decide_eq_false h]; simp; omega
theorem specMsgOk (kd pl sz rs : Int) (w : List Int) (s : List ByteArray) (t : List S148) (u : ByteArray) (hw : w.length ≤ 140737488351232) (hs : s.length ≤ 140737488351232) : Ev (fun k => spec_MsgOk.f k kd pl sz rs w s t u) (msgGood kd pl sz rs w s t u) := by
 refine Ev.congr (fun k => spec_MsgOk.f.eq_1 ..) (Ev.bind' (in_says ..) ?_)
 unfold msgGood
 by_cases hp : 0 ≤ pl ∧ pl ≤ 1000
 ·refine Ev.ite_pos (by simpa using hp) ?_
  rw [decide_eq_true hp, Bool.true_and]
  by_cases h0 : kd = 0
  ·rw [if_pos h0]
   refine Ev.ite_pos h0 (Ev.bind (specSigOk sz rs w s hw hs) ?_)
   cases sigGood sz rs w s with
   | false => exact Ev.ite_neg (by decide) Ev.some
   | true =>
    refine Ev.ite_pos rfl ?_
    by_cases ht : t.length = 0
    ·refine Ev.ite_pos (by omega) ?_
     rw [nil_beq]; simp only [ht, decide_true, Bool.true_and]; exact Ev.some
    ·refine Ev.ite_neg (by omega) ?_
     simp only [ht, decide_false, Bool.and_false, Bool.false_and]; exact Ev.some
  ·refine Ev.ite_neg h0 ?_
   rw [if_neg h0]
   by_cases h1 : kd = 1
   ·refine Ev.ite_pos h1 (Ev.bind' (specNoSig ..) ?_)
    rw [if_pos h1]
    cases noSig sz rs w s with
    | false => exact Ev.ite_neg (by decide) Ev.some
    | true =>
     refine Ev.ite_pos rfl (Ev.bind (putTokens_says t) ?_)
     cases hk : toksOk t with
     | true =>
      refine Ev.ite_pos ?_ ?_
      ·rw [if_pos rfl, nums_length]
       have : 0 < (toksBytes t).length := by simp [toksBytes]
       omega
      ·rw [size_beq]; simp only [Bool.true_and]; exact Ev.some
     | false =>
      refine Ev.ite_neg (by rw [if_neg (by decide)]; simp) ?_
      simp only [Bool.and_false, Bool.false_and]; exact Ev.some
   ·refine Ev.ite_neg h1 ?_
    rw [if_neg h1]
    by_cases h2 : kd = 2
    ·refine Ev.ite_pos h2 (Ev.bind' (specNoSig ..) ?_)
     rw [if_pos h2]
     cases noSig sz rs w s with
     | false => exact Ev.ite_neg (by decide) Ev.some
     | true =>
      refine Ev.ite_pos rfl ?_
      by_cases ht : t.length = 0
      ·refine Ev.ite_pos (by omega) ?_
       rw [nil_beq]; simp only [ht, decide_true, Bool.true_and]; exact Ev.some
      ·refine Ev.ite_neg (by omega) ?_
       simp only [ht, decide_false, Bool.and_false, Bool.false_and]; exact Ev.some
    ·refine Ev.ite_neg h2 ?_
     rw [if_neg h2]
     exact Ev.some
 ·refine Ev.ite_neg (by simpa using hp) ?_
  rw [decide_eq_false hp, Bool.false_and]
  exact Ev.some
theorem implMsgOk (kd pl sz rs : Int) (w : List Int) (s : List ByteArray) (t : List S148) (u : ByteArray) (hw : w.length ≤ 140737488351232) (hs : s.length ≤ 140737488351232) : Ev (fun k => impl_MsgOk.f k kd pl sz rs w s t u) (msgGood kd pl sz rs w s t u) := by
 have main : ∀ x : Bool, x = (decide (t.length = 0) && decide (u.size = 0)) → Ev (fun k => impl_MsgOk.j0 k x kd pl sz rs w s t u) (if kd = 0 then sigGood sz rs w s && decide (t.length = 0) && decide (u.size = 0) else if kd = 1 then noSig sz rs w s && toksOk t && decide (u.size = 16) else if kd = 2 then noSig sz rs w s && decide (t.length = 0) && decide (u.size = 0) else false) := by
  intro x hx
  refine Ev.succ (fun k => impl_MsgOk.j0.eq_2 ..) ?_
  by_cases h0 : kd = 0
  ·rw [if_pos h0]
   refine Ev.ite_pos h0 (Ev.bind (implSigOk sz rs w s hw hs) ?_)
   rw [Bool.and_assoc, ← hx]
   cases sigGood sz rs w s with
   | false => exact Ev.ite_neg (by decide) Ev.some
   | true => exact Ev.ite_pos rfl Ev.some
  ·refine Ev.ite_neg h0 ?_
   rw [if_neg h0]
   by_cases h1 : kd = 1
   ·obtain ⟨b, hb⟩ := tokensText_ok t
    refine Ev.ite_pos h1 (Ev.bind' hb ?_)
    refine Ev.bind' (implNoSig ..) ?_
    rw [if_pos h1]
    cases noSig sz rs w s with
    | false => exact Ev.ite_neg (by decide) Ev.some
    | true =>
     refine Ev.ite_pos rfl ?_
     cases toksOk t with
     | false => exact Ev.ite_neg (by simp) Ev.some
     | true =>
      refine Ev.ite_pos rfl ?_
      rw [size_beq]; simp only [Bool.true_and]; exact Ev.some
   ·refine Ev.ite_neg h1 ?_
    rw [if_neg h1]
    by_cases h2 : kd = 2
    ·refine Ev.ite_pos h2 (Ev.bind' (implNoSig ..) ?_)
     rw [if_pos h2]
     rw [Bool.and_assoc, ← hx]
     cases noSig sz rs w s with
     | false => exact Ev.ite_neg (by decide) Ev.some
     | true => exact Ev.ite_pos rfl Ev.some
    ·refine Ev.ite_neg h2 ?_
     rw [if_neg h2]
     exact Ev.some
 refine Ev.congr (fun k => impl_MsgOk.f.eq_1 ..) (Ev.bind' (within_says ..) ?_)
 unfold msgGood
 by_cases hp : 0 ≤ pl ∧ pl ≤ 1000
 ·refine Ev.ite_pos (by simpa using hp) ?_
  rw [decide_eq_true hp, Bool.true_and]
  by_cases ht : t.length = 0
  ·refine Ev.ite_pos (by omega) (main _ ?_)
   rw [nil_beq]; simp [ht]
  ·refine Ev.ite_neg (by omega) (main _ ?_)
   simp only [ht, decide_false, Bool.false_and]
 ·refine Ev.ite_neg (by simpa using hp) ?_
  rw [decide_eq_false hp, Bool.false_and]
  exact Ev.some
theorem rd_set (xs : List Int) (i j : Nat) (v : Int) (hi : i < xs.length) : rd (xs.set i v) (j : Int) = if i = j then v else rd xs (j : Int) := by
 unfold rd
 have e : ((j : Nat) : Int).toNat = j := by omega
 rw [e, List.getD_eq_getElem?_getD, List.getD_eq_getElem?_getD, List.getElem?_set]
 by_cases h : i = j
 ·subst h; simp [hi]
 ·simp [h]
theorem rdB_set (xs : List ByteArray) (i j : Nat) (v : ByteArray) (hi : i < xs.length) : rdOf ByteArray.empty (xs.set i v) (j : Int) = if i = j then v else rdOf ByteArray.empty xs (j : Int) := by
 unfold rdOf
 have e : ((j : Nat) : Int).toNat = j := by omega
 rw [e, List.getD_eq_getElem?_getD, List.getD_eq_getElem?_getD, List.getElem?_set]
 by_cases h : i = j
 ·subst h; simp [hi]
 ·simp [h]
theorem rdT_set (xs : List S148) (i j : Nat) (v : S148) (hi : i < xs.length) : rd_T148 (xs.set i v) (j : Int) = if i = j then v else rd_T148 xs (j : Int) := by
 unfold rd_T148
 have e : ((j : Nat) : Int).toNat = j := by omega
 rw [e, List.getD_eq_getElem?_getD, List.getD_eq_getElem?_getD, List.getElem?_set]
 by_cases h : i = j
 ·subst h; simp [hi]
 ·simp [h]
theorem rd_ext {xs ys : List Int} (hl : xs.length = ys.length) (h : ∀ j : Nat, j < xs.length → rd xs (j : Int) = rd ys (j : Int)) : xs = ys := by
 apply List.ext_getElem hl
 intro j h1 h2
 have := h j h1
 simpa [rd, List.getD_eq_getElem?_getD, List.getElem?_eq_getElem h1, List.getElem?_eq_getElem h2] using this
theorem eqUint32S_l0 (x : List Int) (hx : x.length ≤ 1048576) : ∀ (m i : Nat), i + m = x.length → Ev (fun k => laws_eqUint32S.l0 k x x (i : Int)) true := by
 intro m
 induction m with
 | zero => intro i hi; exact Ev.succ (fun k => laws_eqUint32S.l0.eq_2 ..) (Ev.ite_neg (by omega) Ev.some)
 | succ m ih =>
  intro i hi
  refine Ev.succ (fun k => laws_eqUint32S.l0.eq_2 ..) (Ev.ite_pos (by omega) (Ev.ite_pos (by omega) (Ev.ite_pos (by omega) (Ev.ite_pos rfl ?_))))
  rw [wrap64_id (by omega) (by omega)]
  exact ih (i + 1) (by omega)
theorem eqUint32S_says (x : List Int) (hx : x.length ≤ 1048576) : Ev (fun k => laws_eqUint32S.f k x x) true := Ev.congr (fun k => laws_eqUint32S.f.eq_1 ..) (Ev.ite_pos rfl (eqUint32S_l0 x hx x.length 0 (by omega)))
theorem eqStringS_l0 (x : List ByteArray) (hx : x.length ≤ 1048576) : ∀ (m i : Nat), i + m = x.length → Ev (fun k => laws_eqStringS.l0 k x x (i : Int)) true := by
 intro m
 induction m with
 | zero => intro i hi; exact Ev.succ (fun k => laws_eqStringS.l0.eq_2 ..) (Ev.ite_neg (by omega) Ev.some)
 | succ m ih =>
  intro i hi
  refine Ev.succ (fun k => laws_eqStringS.l0.eq_2 ..) (Ev.ite_pos (by omega) (Ev.ite_pos (by omega) (Ev.ite_pos (by omega) (Ev.ite_pos rfl ?_))))
  rw [wrap64_id (by omega) (by omega)]
  exact ih (i + 1) (by omega)
theorem eqStringS_says (x : List ByteArray) (hx : x.length ≤ 1048576) : Ev (fun k => laws_eqStringS.f k x x) true := Ev.congr (fun k => laws_eqStringS.f.eq_1 ..) (Ev.ite_pos rfl (eqStringS_l0 x hx x.length 0 (by omega)))
theorem eqToken_says (a b : Int) (s : ByteArray) (c : Int) : laws_eqToken.f a s b c a s b c = some true := by simp [laws_eqToken.f]
theorem eqTokenS_l0 (x : List S148) (hx : x.length ≤ 1048576) : ∀ (m i : Nat), i + m = x.length → Ev (fun k => laws_eqTokenS.l0 k x x (i : Int)) true := by
 intro m
 induction m with
 | zero => intro i hi; exact Ev.succ (fun k => laws_eqTokenS.l0.eq_2 ..) (Ev.ite_neg (by omega) Ev.some)
 | succ m ih =>
  intro i hi
  refine Ev.succ (fun k => laws_eqTokenS.l0.eq_2 ..) (Ev.ite_pos (by omega) (Ev.ite_pos (by omega) (Ev.ite_pos (by omega) (Ev.bind' (eqToken_says ..) (Ev.ite_pos rfl ?_)))))
  rw [wrap64_id (by omega) (by omega)]
  exact ih (i + 1) (by omega)
theorem eqTokenS_says (x : List S148) (hx : x.length ≤ 1048576) : Ev (fun k => laws_eqTokenS.f k x x) true := Ev.congr (fun k => laws_eqTokenS.f.eq_1 ..) (Ev.ite_pos rfl (eqTokenS_l0 x hx x.length 0 (by omega)))
theorem eqMsg_says (a b c d : Int) (w : List Int) (s : List ByteArray) (t : List S148) (u : ByteArray) (hw : w.length ≤ 1048576) (hs : s.length ≤ 1048576) (ht : t.length ≤ 1048576) : Ev (fun k => laws_eqMsg.f k a b c d w s t u a b c d w s t u) true := by
 refine Ev.congr (fun k => laws_eqMsg.f.eq_1 ..) (Ev.ite_pos rfl (Ev.ite_pos rfl (Ev.bind (a := true) ?_ (Ev.ite_pos rfl (Ev.bind (eqTokenS_says t ht) (Ev.ite_pos rfl (Ev.ite_pos rfl Ev.some)))))))
 exact Ev.congr (fun k => laws_eqSig.f.eq_1 ..) (Ev.ite_pos rfl (Ev.ite_pos rfl (Ev.bind (eqUint32S_says w hw) (Ev.ite_pos rfl (Ev.bind (eqStringS_says s hs) (Ev.ite_pos rfl Ev.some))))))
end Go.Proofs.YtjiaigjmihmdjaaDoor.Pure
