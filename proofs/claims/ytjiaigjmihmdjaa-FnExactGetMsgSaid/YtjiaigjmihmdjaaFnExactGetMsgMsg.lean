
/- Messages: what the reference's and the program's readers tell of a list of bytes; both tell the right message whose bytes these are. Plain Lean. -/
import Derived.Test.YtjiaigjmihmdjaaPFnExactGetMsgx2
import Derived.Test.YtjiaigjmihmdjaaPFnExactGetMsgx3
import Derived.Test.YtjiaigjmihmdjaaPFnExactGetMsgx6
import Derived.Test.YtjiaigjmihmdjaaPFnExactGetMsgx9
import Derived.Test.YtjiaigjmihmdjaaPFnExactGetMsgx13
import Derived.Test.YtjiaigjmihmdjaaPFnExactGetMsgx14
import Derived.Test.YtjiaigjmihmdjaaFnExactGetMsgSig
namespace Go.Proofs.Ytjiaigjmihmdjaa.Pure
open Go.RowKit Go.Proofs.Ytjiaigjmihmdjaa.PFnExactGetMsg Go.Proofs.YtjiaigjmihmdjaaW.PrintWords Go.Proofs.YtjiaigjmihmdjaaW.PrintLast Go.Proofs.YtjiaigjmihmdjaaW.PrintMore
set_option linter.unusedVariables false
set_option linter.unusedSimpArgs false
def toksOk (l : List S72) : Bool := decide (l.length ≤ 20000) && l.all tokGood
theorem toksOk_parts {l : List S72} (h : toksOk l = true) : l.length ≤ 20000 ∧ ∀ t ∈ l, tokGood t = true := by
 simp only [toksOk, Bool.and_eq_true, decide_eq_true_eq, List.all_eq_true] at h
 exact h
theorem toksOk_of {l : List S72} (h1 : l.length ≤ 20000) (h2 : ∀ t ∈ l, tokGood t = true) : toksOk l = true := by
 simp only [toksOk, Bool.and_eq_true, decide_eq_true_eq, List.all_eq_true]
 exact ⟨h1, h2⟩
theorem tokensText_ok (l : List S72) : ∃ b, impl_tokensText.f l = some (b, toksOk l) := by
 by_cases h1 : l.length ≤ 20000
 ·by_cases h2 : ∀ t ∈ l, tokGood t = true
  ·exact ⟨_, by rw [tokensText_good h2 h1, toksOk_of h1 h2]⟩
  ·refine ⟨⟨#[]⟩, ?_⟩
   have e : toksOk l = false := by
    cases h : toksOk l with
    | false => rfl
    | true => exact absurd (toksOk_parts h).2 h2
   rw [e]
   unfold impl_tokensText.f
   rw [if_neg (by omega), if_pos]
   simp only [List.any_eq_true]
   obtain ⟨t, ht⟩ := Classical.not_forall.1 h2
   obtain ⟨ht1, ht2⟩ := Classical.not_imp.1 ht
   exact ⟨t, ht1, by simp [ht2]⟩
 ·refine ⟨⟨#[]⟩, ?_⟩
  have e : toksOk l = false := by simp only [toksOk, decide_eq_false h1, Bool.false_and]
  rw [e]
  unfold impl_tokensText.f
  rw [if_pos (by omega)]
/-! ### The reference's bytes of tokens -/
def tokOkB (t : S72) : Bool := (decide (t.f0 = 0) && decide (1 ≤ t.f1.size) && decide (t.f1.size ≤ 100) && decide (t.f2 = 0) && decide (t.f3 = 0)) || (decide (t.f0 = 1) && decide (t.f1.size = 0) && decide (0 ≤ t.f2) && decide (1 ≤ t.f3))
theorem tokGood_is (t : S72) : tokGood t = (tokOkB t && decide (t.f3 ≤ 1000000) && decide (t.f2 ≤ 1000000)) := rfl
theorem specTokenOk (t : S72) : spec_TokenOk.f t.f0 t.f1 t.f2 t.f3 = some (tokOkB t) := by
 obtain ⟨f0, f1, f2, f3⟩ := t
 simp only [spec_TokenOk.f, in_says, tokOkB, tok_list_nil]
 by_cases h0 : f0 = 0
 ·subst h0
  rw [if_pos rfl]
  by_cases h1 : 1 ≤ f1.size ∧ f1.size ≤ 100
  ·have e : decide ((1 : Int) ≤ (f1.size : Int) ∧ (f1.size : Int) ≤ 100) = true := decide_eq_true (by omega)
   rw [e]
   by_cases h2 : f2 = 0
   ·simp [h1, h2]; rfl
   ·simp [h1, h2]
  ·have e : decide ((1 : Int) ≤ (f1.size : Int) ∧ (f1.size : Int) ≤ 100) = false := decide_eq_false (by omega)
   rw [e]
   have : ¬ (1 ≤ f1.size ∧ f1.size ≤ 100) := h1
   simp
   omega
 ·rw [if_neg h0]
  by_cases h1 : f0 = 1
  ·rw [if_pos h1]
   by_cases h2 : f1.size = 0
   ·rw [if_pos h2]
    by_cases h3 : 0 ≤ f2
    ·simp [h0, h1, h2, h3]
    ·simp [h0, h1, h2, h3]
   ·simp [h0, h1, h2]
  ·rw [if_neg h1]
   simp [h0, h1]
theorem putTokens_l0 (x0 : List S72) (hl : x0.length ≤ 20000) : ∀ (m i : Nat) (acc : List Int), i + m = x0.length → acc.length + 200 * m ≤ 4000000 →
  Ev (fun k => spec_PutTokens.l0 k x0 acc (i : Int)) (if (x0.drop i).all tokGood = true then acc ++ nums (toksBytes (x0.drop i)) else []) := by
 intro m
 induction m with
 | zero =>
  intro i acc hi ha
  rw [List.drop_eq_nil_of_le (by omega)]
  refine Ev.succ (fun k => spec_PutTokens.l0.eq_2 ..) (Ev.ite_neg (by omega) (Ev.ite_pos (by omega) Ev.some))
 | succ m ih =>
  intro i acc hi ha
  have hlt : i < x0.length := by omega
  have hrd : rd_T72 x0 (i : Int) = x0[i] := by simp [rd_T72, List.getD_eq_getElem?_getD, List.getElem?_eq_getElem hlt]
  rw [List.drop_eq_getElem_cons hlt]
  have stop : ∀ (f0 : Int) (f1 : ByteArray) (f2 f3 : Int), Ev (fun k => spec_PutTokens.j1 k x0 acc (i : Int) true f0 f1 f2 f3) [] := fun f0 f1 f2 f3 => Ev.succ (fun k => spec_PutTokens.j1.eq_2 ..) (Ev.ite_pos rfl Ev.some)
  have start : ∀ r, (tokGood x0[i] = true → Ev (fun k => spec_PutTokens.j1 k x0 acc (i : Int) false x0[i].f0 x0[i].f1 x0[i].f2 x0[i].f3) r) → (tokGood x0[i] = false → r = []) → Ev (fun k => spec_PutTokens.l0 k x0 acc (i : Int)) r := by
   intro r h1 h2
   refine Ev.succ (fun k => spec_PutTokens.l0.eq_2 ..) (Ev.ite_pos (by omega) (Ev.ite_pos (by omega) ?_))
   rw [hrd, specTokenOk]
   refine Ev.some_bind ?_
   rw [tokGood_is] at h1 h2
   by_cases ho : tokOkB x0[i] = true
   ·refine Ev.ite_pos ho ?_
    by_cases hf2 : x0[i].f2 ≤ 1000000
    ·refine Ev.ite_neg (by omega) ?_
     by_cases hf3 : x0[i].f3 ≤ 1000000
     ·rw [decide_eq_false (by omega)]
      exact h1 (by simp [ho, hf2, hf3])
     ·rw [decide_eq_true (by omega), h2 (by simp [hf3])]
      exact stop ..
    ·refine Ev.ite_pos (by omega) ?_
     rw [h2 (by simp [hf2])]
     exact stop ..
   ·refine Ev.ite_neg ho ?_
    rw [h2 (by simp [ho])]
    exact stop ..
  have fin : ∀ r, (tokGood x0[i] = true → Ev (fun k => spec_PutTokens.j1 k x0 acc (i : Int) false x0[i].f0 x0[i].f1 x0[i].f2 x0[i].f3) (if (x0.drop (i + 1)).all tokGood = true then acc ++ nums (tokBytes x0[i] ++ toksBytes (x0.drop (i + 1))) else [])) → r = (if (x0[i] :: x0.drop (i + 1)).all tokGood = true then acc ++ nums (toksBytes (x0[i] :: x0.drop (i + 1))) else []) → Ev (fun k => spec_PutTokens.l0 k x0 acc (i : Int)) r := by
   intro r h1 hr
   subst hr
   refine start _ (fun hg => ?_) (fun hg => ?_)
   ·have := h1 hg
    rw [toksBytes_cons]
    simp only [List.all_cons, hg, Bool.true_and]
    exact this
   ·simp only [List.all_cons, hg, Bool.false_and]
    rw [if_neg (by decide)]
  refine fin _ (fun hg => ?_) rfl
  have next : ∀ (P : List UInt8), P.length ≤ 200 → Ev (fun k => spec_PutTokens.l0 k x0 (acc ++ nums P) (wrap64 ((i : Int) + 1))) (if (x0.drop (i + 1)).all tokGood = true then acc ++ nums (P ++ toksBytes (x0.drop (i + 1))) else []) := by
   intro P hP
   have := ih (i + 1) (acc ++ nums P) (by omega) (by rw [List.length_append, nums_length]; omega)
   rw [wrap64_id (by omega) (by omega)]
   have e : acc ++ nums P ++ nums (toksBytes (x0.drop (i + 1))) = acc ++ nums (P ++ toksBytes (x0.drop (i + 1))) := by simp [nums]
   rw [e] at this
   exact this
  have nums_app : ∀ P Q : List UInt8, acc ++ nums P ++ nums Q = acc ++ nums (P ++ Q) := fun P Q => by simp [nums]
  rcases good_cases hg with ⟨l, hl0, h1, h2⟩ | ⟨p, w, hl0, h1, h2, h3⟩
  ·rw [hl0]
   have hv := putVar_says (v := 2 * l.length) (by omega)
   have hvl := vtl_le9 (v := 2 * l.length) (by omega)
   refine Ev.succ (fun k => spec_PutTokens.j1.eq_2 ..) (Ev.ite_neg (by decide) (Ev.ite_pos rfl ?_))
   have e : wrap64 (2 * ((B l).size : Int)) = ((2 * l.length : Nat) : Int) := by rw [B_size, wrap64_id (by omega) (by omega)]; omega
   rw [e]
   refine Ev.bind hv (Ev.ite_pos (by rw [nums_length]; omega) (Ev.some_bind (Ev.ite_pos (by rw [B_size]; omega) ?_)))
   have eb : bytesOf (B l) = nums l := rfl
   rw [eb]
   refine Ev.some_bind (Ev.ite_pos (by rw [List.length_append, nums_length, nums_length]; omega) ?_)
   rw [nums_app, lit_bytes l (2 * l.length) rfl]
   exact next _ (by rw [List.length_append]; omega)
  ·rw [hl0]
   have hv := putVar_says (v := 2 * w + 1) (by omega)
   have hvl := vtl_le9 (v := 2 * w + 1) (by omega)
   have hv2 := putVar_says (v := p) (by omega)
   have hvl2 := vtl_le9 (v := p) (by omega)
   refine Ev.succ (fun k => spec_PutTokens.j1.eq_2 ..) (Ev.ite_neg (by decide) (Ev.ite_neg (show ¬ ((1 : Int) = 0) by decide) ?_))
   have e : wrap64 ((wrap64 (2 * (w : Int))) + 1) = ((2 * w + 1 : Nat) : Int) := by rw [wrap64_id (x := 2 * (w : Int)) (by omega) (by omega), wrap64_id (by omega) (by omega)]; omega
   rw [e]
   refine Ev.bind hv (Ev.ite_pos (by rw [nums_length]; omega) (Ev.some_bind (Ev.bind hv2 (Ev.ite_pos (by rw [List.length_append, nums_length, nums_length]; omega) ?_))))
   rw [nums_app, ref_bytes p w (2 * w + 1) rfl]
   exact next _ (by rw [List.length_append]; omega)
theorem putTokens_says (l : List S72) : Ev (fun k => spec_PutTokens.f k l) (if toksOk l = true then nums (toksBytes l) else []) := by
 refine Ev.congr (fun k => spec_PutTokens.f.eq_1 ..) (Ev.some_bind ?_)
 by_cases h : l.length ≤ 20000
 ·refine Ev.ite_neg (by omega) ?_
  have := putTokens_l0 l h l.length 0 [] (by omega) (by simp; omega)
  rw [List.drop_zero, List.nil_append] at this
  have e : toksOk l = l.all tokGood := by simp only [toksOk, decide_eq_true h, Bool.true_and]
  rw [e]
  exact this
 ·refine Ev.ite_pos (by omega) ?_
  have e : toksOk l = false := by simp only [toksOk, decide_eq_false h, Bool.false_and]
  rw [e]
  exact Ev.some
/-! ### A right message -/
def noSig (size rest : Int) (weak : List Int) (strong : List ByteArray) : Bool := decide (size = 0) && decide (rest = 0) && decide (weak.length = 0) && decide (strong.length = 0)
theorem specNoSig (size rest : Int) (weak : List Int) (strong : List ByteArray) : spec_l18NoSig.f size rest weak strong = some (noSig size rest weak strong) := by
 unfold spec_l18NoSig.f noSig
 by_cases h1 : size = 0
 ·rw [if_pos h1]
  by_cases h2 : rest = 0
  ·rw [if_pos h2]
   by_cases h3 : weak.length = 0
   ·rw [if_pos (by omega)]
    by_cases h4 : strong.length = 0
    ·simp [h1, h2, h3, h4]
    ·simp [h1, h2, h3, h4]
   ·rw [if_neg (by omega)]; simp [h3]
  ·rw [if_neg h2]; simp [h2]
 ·rw [if_neg h1]; simp [h1]
theorem implNoSig (size rest : Int) (weak : List Int) (strong : List ByteArray) : impl_Sig_isNone.f size rest weak strong = some (noSig size rest weak strong) := specNoSig size rest weak strong
def msgGood (kd pl sz rs : Int) (w : List Int) (s : List ByteArray) (t : List S72) (u : ByteArray) : Bool :=
 decide (0 ≤ pl ∧ pl ≤ 1000) && (if kd = 0 then sigGood sz rs w s && decide (t.length = 0) && decide (u.size = 0) else if kd = 1 then noSig sz rs w s && toksOk t && decide (u.size = 16) else if kd = 2 then noSig sz rs w s && decide (t.length = 0) && decide (u.size = 0) else false)
theorem nil_beq (u : ByteArray) : (u.toList == ([] : List UInt8)) = decide (u.size = 0) := by
 by_cases h : u.size = 0
 ·rw [(tok_list_nil u).2 h, decide_eq_true h]; rfl
 ·have : ¬ u.toList = [] := fun e => h ((tok_list_nil u).1 e)
  rw [decide_eq_false h]; simp [this]
theorem size_beq (u : ByteArray) : ((u.size : Int) == 16) = decide (u.size = 16) := by
 by_cases h : u.size = 16
 ·rw [h]; rfl
 ·rw [decide_eq_false h]; simp; omega
theorem specMsgOk (kd pl sz rs : Int) (w : List Int) (s : List ByteArray) (t : List S72) (u : ByteArray) (hw : w.length ≤ 140737488351232) (hs : s.length ≤ 140737488351232) : Ev (fun k => spec_MsgOk.f k kd pl sz rs w s t u) (msgGood kd pl sz rs w s t u) := by
 refine Ev.congr (fun k => spec_MsgOk.f.eq_1 ..) (Ev.bind' (in_says ..) ?_)
 unfold msgGood
 by_cases hp : 0 ≤ pl ∧ pl ≤ 1000
 ·refine Ev.ite_pos (by simpa using hp) ?_
  rw [decide_eq_true hp, Bool.true_and]
  by_cases h0 : kd = 0
  ·rw [if_pos h0]
   refine Ev.ite_pos h0 (Ev.bind (specSigOk sz rs w s hw hs) ?_)
   cases sigGood sz rs w s with
   | false => exact Ev.ite_neg (by decide) Ev.some
   | true =>
    refine Ev.ite_pos rfl ?_
    by_cases ht : t.length = 0
    ·refine Ev.ite_pos (by omega) ?_
     rw [nil_beq]; simp only [ht, decide_true, Bool.true_and]; exact Ev.some
    ·refine Ev.ite_neg (by omega) ?_
     simp only [ht, decide_false, Bool.and_false, Bool.false_and]; exact Ev.some
  ·refine Ev.ite_neg h0 ?_
   rw [if_neg h0]
   by_cases h1 : kd = 1
   ·refine Ev.ite_pos h1 (Ev.bind' (specNoSig ..) ?_)
    rw [if_pos h1]
    cases noSig sz rs w s with
    | false => exact Ev.ite_neg (by decide) Ev.some
    | true =>
     refine Ev.ite_pos rfl (Ev.bind (putTokens_says t) ?_)
     cases hk : toksOk t with
     | true =>
      refine Ev.ite_pos ?_ ?_
      ·rw [if_pos rfl, nums_length]
       have : 0 < (toksBytes t).length := by simp [toksBytes]
       omega
      ·rw [size_beq]; simp only [Bool.true_and]; exact Ev.some
     | false =>
      refine Ev.ite_neg (by rw [if_neg (by decide)]; simp) ?_
      simp only [Bool.and_false, Bool.false_and]; exact Ev.some
   ·refine Ev.ite_neg h1 ?_
    rw [if_neg h1]
    by_cases h2 : kd = 2
    ·refine Ev.ite_pos h2 (Ev.bind' (specNoSig ..) ?_)
     rw [if_pos h2]
     cases noSig sz rs w s with
     | false => exact Ev.ite_neg (by decide) Ev.some
     | true =>
      refine Ev.ite_pos rfl ?_
      by_cases ht : t.length = 0
      ·refine Ev.ite_pos (by omega) ?_
       rw [nil_beq]; simp only [ht, decide_true, Bool.true_and]; exact Ev.some
      ·refine Ev.ite_neg (by omega) ?_
       simp only [ht, decide_false, Bool.and_false, Bool.false_and]; exact Ev.some
    ·refine Ev.ite_neg h2 ?_
     rw [if_neg h2]
     exact Ev.some
 ·refine Ev.ite_neg (by simpa using hp) ?_
  rw [decide_eq_false hp, Bool.false_and]
  exact Ev.some
theorem implMsgOk (kd pl sz rs : Int) (w : List Int) (s : List ByteArray) (t : List S72) (u : ByteArray) (hw : w.length ≤ 140737488351232) (hs : s.length ≤ 140737488351232) : Ev (fun k => impl_MsgOk.f k kd pl sz rs w s t u) (msgGood kd pl sz rs w s t u) := by
 have main : ∀ x : Bool, x = (decide (t.length = 0) && decide (u.size = 0)) → Ev (fun k => impl_MsgOk.j0 k x kd pl sz rs w s t u) (if kd = 0 then sigGood sz rs w s && decide (t.length = 0) && decide (u.size = 0) else if kd = 1 then noSig sz rs w s && toksOk t && decide (u.size = 16) else if kd = 2 then noSig sz rs w s && decide (t.length = 0) && decide (u.size = 0) else false) := by
  intro x hx
  refine Ev.succ (fun k => impl_MsgOk.j0.eq_2 ..) ?_
  by_cases h0 : kd = 0
  ·rw [if_pos h0]
   refine Ev.ite_pos h0 (Ev.bind (implSigOk sz rs w s hw hs) ?_)
   rw [Bool.and_assoc, ← hx]
   cases sigGood sz rs w s with
   | false => exact Ev.ite_neg (by decide) Ev.some
   | true => exact Ev.ite_pos rfl Ev.some
  ·refine Ev.ite_neg h0 ?_
   rw [if_neg h0]
   by_cases h1 : kd = 1
   ·obtain ⟨b, hb⟩ := tokensText_ok t
    refine Ev.ite_pos h1 (Ev.bind' hb ?_)
    refine Ev.bind' (implNoSig ..) ?_
    rw [if_pos h1]
    cases noSig sz rs w s with
    | false => exact Ev.ite_neg (by decide) Ev.some
    | true =>
     refine Ev.ite_pos rfl ?_
     cases toksOk t with
     | false => exact Ev.ite_neg (by simp) Ev.some
     | true =>
      refine Ev.ite_pos rfl ?_
      rw [size_beq]; simp only [Bool.true_and]; exact Ev.some
   ·refine Ev.ite_neg h1 ?_
    rw [if_neg h1]
    by_cases h2 : kd = 2
    ·refine Ev.ite_pos h2 (Ev.bind' (implNoSig ..) ?_)
     rw [if_pos h2]
     rw [Bool.and_assoc, ← hx]
     cases noSig sz rs w s with
     | false => exact Ev.ite_neg (by decide) Ev.some
     | true => exact Ev.ite_pos rfl Ev.some
    ·refine Ev.ite_neg h2 ?_
     rw [if_neg h2]
     exact Ev.some
 refine Ev.congr (fun k => impl_MsgOk.f.eq_1 ..) (Ev.bind' (within_says ..) ?_)
 unfold msgGood
 by_cases hp : 0 ≤ pl ∧ pl ≤ 1000
 ·refine Ev.ite_pos (by simpa using hp) ?_
  rw [decide_eq_true hp, Bool.true_and]
  by_cases ht : t.length = 0
  ·refine Ev.ite_pos (by omega) (main _ ?_)
   rw [nil_beq]; simp [ht]
  ·refine Ev.ite_neg (by omega) (main _ ?_)
   simp only [ht, decide_false, Bool.false_and]
 ·refine Ev.ite_neg (by simpa using hp) ?_
  rw [decide_eq_false hp, Bool.false_and]
  exact Ev.some
/-! ### Its bytes -/
def msgBytes (kd pl sz rs : Int) (w : List Int) (s : List ByteArray) (t : List S72) (u : ByteArray) : List UInt8 :=
 vti kd ++ (vti pl ++ (if kd = 0 then sigBytes sz rs w s else if kd = 1 then u.data.toList ++ toksBytes t else []))
/-- What a message's parts are, kind by kind. -/
theorem msgGood_cases {kd pl sz rs : Int} {w : List Int} {s : List ByteArray} {t : List S72} {u : ByteArray} (h : msgGood kd pl sz rs w s t u = true) : (0 ≤ pl ∧ pl ≤ 1000) ∧
  ((kd = 0 ∧ sigGood sz rs w s = true ∧ t = [] ∧ u = ⟨#[]⟩) ∨ (kd = 1 ∧ sz = 0 ∧ rs = 0 ∧ w = [] ∧ s = [] ∧ toksOk t = true ∧ u.size = 16) ∨ (kd = 2 ∧ sz = 0 ∧ rs = 0 ∧ w = [] ∧ s = [] ∧ t = [] ∧ u = ⟨#[]⟩)) := by
 have hu : u.size = 0 → u = ⟨#[]⟩ := by
  intro h0
  have : u.data.toList.length = u.size := data_length u
  rw [← B_toList u, List.eq_nil_of_length_eq_zero (l := u.data.toList) (by omega)]; rfl
 unfold msgGood at h
 rw [Bool.and_eq_true, decide_eq_true_eq] at h
 refine ⟨h.1, ?_⟩
 have h2 := h.2
 by_cases h0 : kd = 0
 ·rw [if_pos h0, Bool.and_eq_true, Bool.and_eq_true, decide_eq_true_eq, decide_eq_true_eq] at h2
  exact .inl ⟨h0, h2.1.1, List.eq_nil_of_length_eq_zero h2.1.2, hu h2.2⟩
 ·rw [if_neg h0] at h2
  by_cases h1 : kd = 1
  ·rw [if_pos h1, Bool.and_eq_true, Bool.and_eq_true, decide_eq_true_eq] at h2
   have hn := h2.1.1
   simp only [noSig, Bool.and_eq_true, decide_eq_true_eq] at hn
   exact .inr (.inl ⟨h1, hn.1.1.1, hn.1.1.2, List.eq_nil_of_length_eq_zero hn.1.2, List.eq_nil_of_length_eq_zero hn.2, h2.1.2, h2.2⟩)
  ·rw [if_neg h1] at h2
   by_cases hk : kd = 2
   ·rw [if_pos hk, Bool.and_eq_true, Bool.and_eq_true, decide_eq_true_eq, decide_eq_true_eq] at h2
    have hn := h2.1.1
    simp only [noSig, Bool.and_eq_true, decide_eq_true_eq] at hn
    exact .inr (.inr ⟨hk, hn.1.1.1, hn.1.1.2, List.eq_nil_of_length_eq_zero hn.1.2, List.eq_nil_of_length_eq_zero hn.2, List.eq_nil_of_length_eq_zero h2.1.2, hu h2.2⟩)
   ·rw [if_neg hk] at h2
    cases h2
theorem toksBytes_len : ∀ t : List S72, (∀ x ∈ t, tokGood x = true) → (toksBytes t).length ≤ 200 * t.length + 1
 | [], _ => by simp [toksBytes]
 | x :: t, h => by
  have := toksBytes_len t (fun y hy => h y (List.mem_cons_of_mem _ hy))
  rw [toksBytes_cons, List.length_append, List.length_cons]
  rcases good_cases (h x (List.mem_cons_self ..)) with ⟨l, rfl, h1, h2⟩ | ⟨p, w, rfl, h1, h2, h3⟩
  ·have := vtl_le9 (v := 2 * l.length) (by omega)
   rw [lit_bytes l (2 * l.length) rfl, List.length_append]; omega
  ·have := vtl_le9 (v := 2 * w + 1) (by omega)
   have := vtl_le9 (v := p) (by omega)
   rw [ref_bytes p w (2 * w + 1) rfl, List.length_append]; omega
theorem sigBytes_len {a b : Int} {w : List Int} {s : List ByteArray} (hg : sigGood a b w s = true) : (sigBytes a b w s).length ≤ 30000 := by
 obtain ⟨⟨a1, a2⟩, ⟨b1, b2⟩, h3, h4, h5⟩ := sigGood_parts hg
 have l1 := vti_len (x := a) (by omega)
 have l2 := vti_len (x := b) (by omega)
 have l3 := vti_len (x := (w.length : Int)) (by omega)
 have := pieces_length w s h4 h5
 unfold sigBytes
 rw [List.length_append, List.length_append, List.length_append]; omega
theorem msgText_says {kd pl sz rs : Int} {w : List Int} {s : List ByteArray} {t : List S72} {u : ByteArray} (h : msgGood kd pl sz rs w s t u = true) : Ev (fun k => impl_msgText.f k kd pl sz rs w s t u) (B (msgBytes kd pl sz rs w s t u)) := by
 obtain ⟨⟨p0, p1⟩, hc⟩ := msgGood_cases h
 have hk : 0 ≤ kd ∧ kd ≤ 2 := by omega
 have l1 := vti_len (x := kd) (by omega)
 have l2 := vti_len (x := pl) (by omega)
 refine Ev.congr (fun k => impl_msgText.f.eq_1 ..) ?_
 refine Ev.bind' (varText_says (by omega)) ?_
 refine Ev.bind' (varText_says (by omega)) ?_
 refine Ev.ite_pos (by rw [B_size, B_size]; omega) ?_
 rw [B_append]
 unfold msgBytes
 rcases hc with ⟨h0, hg, _, _⟩ | ⟨h1, _, _, _, _, ht, hu⟩ | ⟨h2, _⟩
 ·refine Ev.ite_pos h0 (Ev.bind (sigText_says hg) ?_)
  have := sigBytes_len hg
  refine Ev.ite_pos (by rw [B_size, B_size, List.length_append]; omega) ?_
  rw [B_append, if_pos h0, List.append_assoc]
  exact Ev.some
 ·obtain ⟨t1, t2⟩ := toksOk_parts ht
  have := toksBytes_len t t2
  have hul : u.data.toList.length = 16 := by rw [data_length]; exact hu
  refine Ev.ite_neg (by omega) ?_
  refine Ev.ite_pos h1 ?_
  refine Ev.bind' (tokensText_good t2 t1) ?_
  have eb : u ++ B (toksBytes t) = B (u.data.toList ++ toksBytes t) := by rw [← B_append, B_toList]
  refine Ev.ite_pos (by rw [B_size]; omega) ?_
  rw [eb, B_append]
  refine Ev.ite_pos (by rw [B_size, B_size, List.length_append, List.length_append]; omega) ?_
  rw [if_neg (by omega), if_pos h1, List.append_assoc]
  exact Ev.some
 ·refine Ev.ite_neg (by omega) ?_
  refine Ev.ite_neg (by omega) ?_
  rw [if_neg (by omega), if_neg (by omega), List.append_nil]
  exact Ev.some
/-! ### The reference's reader -/
def MsgRes := Int × Int × Int × Int × List Int × List ByteArray × List S72 × ByteArray × Bool
def zero9 : Int × Int × Int × Int × List Int × List ByteArray × List S72 × ByteArray × Bool := (0, 0, 0, 0, [], [], [], ⟨#[]⟩, false)
def Got (L : List UInt8) (r : Int × Int × Int × Int × List Int × List ByteArray × List S72 × ByteArray × Bool) : Prop :=
 r = zero9 ∨ ∃ kd pl sz rs w s t u, r = (kd, pl, sz, rs, w, s, t, u, true) ∧ L = msgBytes kd pl sz rs w s t u ∧ msgGood kd pl sz rs w s t u = true ∧ ∀ x ∈ w, 0 ≤ x ∧ x < 4294967296
theorem getTokens_f (L : List UInt8) (hL : L.length ≤ 1048576) : ∃ res, Ev (fun k => spec_GetTokens.f k (nums L)) res ∧ TokRes L [] res := getTokens_sound L.length L [] (Nat.le_refl _) (by simp; omega)
/-- Behind the kind and the place. -/
theorem specMsg_start {L : List UInt8} {kd c1 pl c2 : Nat} (h1 : dv 9 L = some (kd, c1)) (h2 : dv 9 (L.drop c1) = some (pl, c2)) {r : Int × Int × Int × Int × List Int × List ByteArray × List S72 × ByteArray × Bool}
  (h : Ev (fun k => (if (kd : Int) = 0 then ((spec_GetSig.f k (nums ((L.drop c1).drop c2))).bind fun bt284 => (if bt284.2.2.2.2 = true then ((spec_MsgOk.f k (kd : Int) (pl : Int) bt284.1 bt284.2.1 bt284.2.2.1 bt284.2.2.2.1 ([] : List (S72)) (⟨#[]⟩ : ByteArray)).bind fun t294 => (if t294 = true then (some ((kd : Int), (pl : Int), bt284.1, bt284.2.1, bt284.2.2.1, bt284.2.2.2.1, ([] : List (S72)), (⟨#[]⟩ : ByteArray), true)) else (some zero9))) else (some zero9))) else (if (kd : Int) = 1 then (spec_GetMsg.j0 k (kd : Int) (nums ((L.drop c1).drop c2)) (decide (((nums ((L.drop c1).drop c2)).length : Int) ≥ 16)) (kd : Int) (pl : Int) 0 0 (⟨#[]⟩ : ByteArray)) else (spec_GetMsg.j0 k (kd : Int) (nums ((L.drop c1).drop c2)) false (kd : Int) (pl : Int) 0 0 (⟨#[]⟩ : ByteArray))))) r) :
  Ev (fun k => spec_GetMsg.f k (nums L)) r := by
 obtain ⟨a1, a2, a3, a4⟩ := dv_bound 9 L kd c1 h1
 obtain ⟨b1, b2, b3, b4⟩ := dv_bound 9 _ pl c2 h2
 rw [List.length_drop] at b3
 refine Ev.congr (fun k => spec_GetMsg.f.eq_1 ..) (Ev.bind (getVar_says L) ?_)
 rw [h1]
 simp only [vout]
 refine Ev.ite_neg (by omega) (Ev.ite_pos (by omega) (Ev.ite_pos (by rw [nums_length]; omega) ?_))
 rw [show ((c1 : Nat) : Int).toNat = c1 by omega, drop_nums]
 refine Ev.bind (getVar_says _) ?_
 rw [h2]
 have e : wrap64 ((c1 : Int) + (c2 : Int)) = ((c1 + c2 : Nat) : Int) := by rw [wrap64_id (by omega) (by omega)]; omega
 simp only [vout]
 simp only [e]
 rw [show ((c1 + c2 : Nat) : Int).toNat = c1 + c2 by omega, drop_nums, ← List.drop_drop]
 exact Ev.ite_neg (by omega) (Ev.ite_pos (by omega) (Ev.ite_pos (by rw [nums_length]; omega) h))
theorem zero_size : (⟨#[]⟩ : ByteArray).size = 0 := rfl
theorem good_kind0 {pl sz rs : Int} {w : List Int} {s : List ByteArray} : msgGood 0 pl sz rs w s [] ⟨#[]⟩ = (decide (0 ≤ pl ∧ pl ≤ 1000) && sigGood sz rs w s) := by
 unfold msgGood
 rw [if_pos rfl, zero_size]
 simp
theorem specMsg_sig (M : List UInt8) (pl : Nat) : ∃ r, Ev (fun k => ((spec_GetSig.f k (nums M)).bind fun bt284 => (if bt284.2.2.2.2 = true then ((spec_MsgOk.f k (0 : Int) (pl : Int) bt284.1 bt284.2.1 bt284.2.2.1 bt284.2.2.2.1 ([] : List (S72)) (⟨#[]⟩ : ByteArray)).bind fun t294 => (if t294 = true then (some ((0 : Int), (pl : Int), bt284.1, bt284.2.1, bt284.2.2.1, bt284.2.2.2.1, ([] : List (S72)), (⟨#[]⟩ : ByteArray), true)) else (some zero9))) else (some zero9)))) r ∧
  (r = zero9 ∨ ∃ sz rs w s, r = (0, (pl : Int), sz, rs, w, s, [], ⟨#[]⟩, true) ∧ M = sigBytes sz rs w s ∧ msgGood 0 pl sz rs w s [] ⟨#[]⟩ = true ∧ ∀ x ∈ w, 0 ≤ x ∧ x < 4294967296) := by
 obtain ⟨q, hq, hs⟩ := getSig_sound M
 rcases hs with rfl | ⟨a, b, w, s, rfl, hM, hg, hr⟩
 ·exact ⟨zero9, Ev.bind hq (Ev.ite_neg (by decide) Ev.some), .inl rfl⟩
 ·obtain ⟨_, _, h3, h4, _⟩ := sigGood_parts hg
  have hm := specMsgOk 0 pl a b w s [] ⟨#[]⟩ (by omega) (by omega)
  cases ho : msgGood 0 pl a b w s [] ⟨#[]⟩ with
  | true =>
   rw [ho] at hm
   exact ⟨_, Ev.bind hq (Ev.ite_pos rfl (Ev.bind hm (Ev.ite_pos rfl Ev.some))), .inr ⟨a, b, w, s, rfl, hM, ho, hr⟩⟩
  | false =>
   rw [ho] at hm
   exact ⟨zero9, Ev.bind hq (Ev.ite_pos rfl (Ev.bind hm (Ev.ite_neg (by decide) Ev.some))), .inl rfl⟩
theorem specMsg_send (M : List UInt8) (hM : M.length ≤ 1048576) (h16 : 16 ≤ M.length) (pl : Nat) : ∃ r, Ev (fun k => spec_GetMsg.j0 k 1 (nums M) true 1 (pl : Int) 0 0 (⟨#[]⟩ : ByteArray)) r ∧
  (r = zero9 ∨ ∃ t, r = (1, (pl : Int), 0, 0, [], [], t, B (M.take 16), true) ∧ M.drop 16 = toksBytes t ∧ msgGood 1 pl 0 0 [] [] t (B (M.take 16)) = true) := by
 obtain ⟨q, hq, hs⟩ := getTokens_f (M.drop 16) (by rw [List.length_drop]; omega)
 have start : ∀ r, Ev (fun k => (spec_GetTokens.f k (nums (M.drop 16))).bind fun bt297 => (if bt297.2 = true then ((spec_MsgOk.f k 1 (pl : Int) 0 0 ([] : List Int) ([] : List ByteArray) bt297.1 (B (M.take 16))).bind fun t301 => (if t301 = true then (some ((1 : Int), (pl : Int), (0 : Int), (0 : Int), ([] : List Int), ([] : List ByteArray), bt297.1, B (M.take 16), true)) else (some zero9))) else (some zero9))) r → Ev (fun k => spec_GetMsg.j0 k 1 (nums M) true 1 (pl : Int) 0 0 (⟨#[]⟩ : ByteArray)) r := by
  intro r h
  refine Ev.succ (fun k => spec_GetMsg.j0.eq_2 ..) (Ev.ite_pos rfl (Ev.ite_pos (by rw [nums_length]; omega) ?_))
  rw [take_nums, strOfNums_nums, drop_nums]
  exact h
 rcases hs with rfl | ⟨out, rfl, h1, h2, h3⟩
 ·exact ⟨zero9, start _ (Ev.bind hq (Ev.ite_neg (by decide) Ev.some)), .inl rfl⟩
 ·rw [List.nil_append] at hq
  have hm := specMsgOk 1 pl 0 0 [] [] out (B (M.take 16)) (by simp) (by simp)
  cases ho : msgGood 1 pl 0 0 [] [] out (B (M.take 16)) with
  | true =>
   rw [ho] at hm
   exact ⟨_, start _ (Ev.bind hq (Ev.ite_pos rfl (Ev.bind hm (Ev.ite_pos rfl Ev.some)))), .inr ⟨out, rfl, h1, ho⟩⟩
  | false =>
   rw [ho] at hm
   exact ⟨zero9, start _ (Ev.bind hq (Ev.ite_pos rfl (Ev.bind hm (Ev.ite_neg (by decide) Ev.some)))), .inl rfl⟩
theorem specMsg_other (M : List UInt8) (kd pl : Nat) : ∃ r, Ev (fun k => spec_GetMsg.j0 k (kd : Int) (nums M) false (kd : Int) (pl : Int) 0 0 (⟨#[]⟩ : ByteArray)) r ∧
  (r = zero9 ∨ (kd = 2 ∧ r = (2, (pl : Int), 0, 0, [], [], [], ⟨#[]⟩, true) ∧ M = [] ∧ msgGood 2 pl 0 0 [] [] [] ⟨#[]⟩ = true)) := by
 by_cases h2 : kd = 2
 ·subst h2
  by_cases hM : M.length = 0
  ·have hm := specMsgOk 2 pl 0 0 [] [] [] ⟨#[]⟩ (by simp) (by simp)
   cases ho : msgGood 2 pl 0 0 [] [] [] ⟨#[]⟩ with
   | true =>
    rw [ho] at hm
    refine ⟨(2, (pl : Int), 0, 0, [], [], [], ⟨#[]⟩, true), Ev.succ (fun k => spec_GetMsg.j0.eq_2 ..) (Ev.ite_neg (by decide) (Ev.ite_pos rfl (Ev.ite_pos (by rw [nums_length]; omega) (Ev.bind hm (Ev.ite_pos rfl Ev.some))))), .inr ⟨rfl, rfl, List.eq_nil_of_length_eq_zero hM, rfl⟩⟩
   | false =>
    rw [ho] at hm
    exact ⟨zero9, Ev.succ (fun k => spec_GetMsg.j0.eq_2 ..) (Ev.ite_neg (by decide) (Ev.ite_pos rfl (Ev.ite_pos (by rw [nums_length]; omega) (Ev.bind hm (Ev.ite_neg (by decide) Ev.some))))), .inl rfl⟩
  ·exact ⟨zero9, Ev.succ (fun k => spec_GetMsg.j0.eq_2 ..) (Ev.ite_neg (by decide) (Ev.ite_pos rfl (Ev.ite_neg (by rw [nums_length]; omega) Ev.some))), .inl rfl⟩
 ·exact ⟨zero9, Ev.succ (fun k => spec_GetMsg.j0.eq_2 ..) (Ev.ite_neg (by decide) (Ev.ite_neg (by omega) Ev.some)), .inl rfl⟩
theorem getMsg_sound (L : List UInt8) (hL : L.length ≤ 1048576) : ∃ r, Ev (fun k => spec_GetMsg.f k (nums L)) r ∧ Got L r := by
 cases h1 : dv 9 L with
 | none =>
  refine ⟨zero9, Ev.congr (fun k => spec_GetMsg.f.eq_1 ..) (Ev.bind (getVar_says L) ?_), .inl rfl⟩
  rw [h1]
  exact Ev.ite_pos rfl Ev.some
 | some p =>
  obtain ⟨kd, c1⟩ := p
  obtain ⟨a1, a2, a3, a4⟩ := dv_bound 9 L kd c1 h1
  cases h2 : dv 9 (L.drop c1) with
  | none =>
   refine ⟨zero9, Ev.congr (fun k => spec_GetMsg.f.eq_1 ..) (Ev.bind (getVar_says L) ?_), .inl rfl⟩
   rw [h1]
   refine Ev.ite_neg (by simp only [vout]; omega) (Ev.ite_pos (by simp only [vout]; omega) (Ev.ite_pos (by simp only [vout]; rw [nums_length]; omega) ?_))
   simp only [vout]
   rw [show ((c1 : Nat) : Int).toNat = c1 by omega, drop_nums]
   refine Ev.bind (getVar_says _) ?_
   rw [h2]
   exact Ev.ite_pos rfl Ev.some
  | some p =>
   obtain ⟨pl, c2⟩ := p
   have hs1 := vti_split h1
   have hs2 := vti_split h2
   have whole : ∀ (sz rs : Int) (w : List Int) (s : List ByteArray) (t : List S72) (u : ByteArray), (L.drop c1).drop c2 = (if (kd : Int) = 0 then sigBytes sz rs w s else if (kd : Int) = 1 then u.data.toList ++ toksBytes t else []) → L = msgBytes (kd : Int) (pl : Int) sz rs w s t u := by
    intro sz rs w s t u h
    unfold msgBytes
    rw [← h, ← hs2]; exact hs1
   have hlen : ((L.drop c1).drop c2).length ≤ 1048576 := by rw [List.length_drop, List.length_drop]; omega
   by_cases k0 : kd = 0
   ·subst k0
    obtain ⟨r, hr, hc⟩ := specMsg_sig ((L.drop c1).drop c2) pl
    refine ⟨r, specMsg_start h1 h2 (Ev.ite_pos rfl hr), ?_⟩
    rcases hc with h | ⟨sz, rs, w, s, rfl, h, hg, hrg⟩
    ·exact .inl h
    ·exact .inr ⟨_, _, _, _, _, _, _, _, rfl, whole _ _ _ _ _ _ (by rw [if_pos (by decide : ((0 : Nat) : Int) = 0)]; exact h), hg, hrg⟩
   ·by_cases k1 : kd = 1
    ·subst k1
     by_cases h16 : 16 ≤ ((L.drop c1).drop c2).length
     ·obtain ⟨r, hr, hc⟩ := specMsg_send _ hlen h16 pl
      refine ⟨r, specMsg_start h1 h2 (Ev.ite_neg (by decide) (Ev.ite_pos rfl ?_)), ?_⟩
      ·rw [decide_eq_true (by rw [nums_length]; omega)]; exact hr
      ·rcases hc with h | ⟨t, rfl, h, hg⟩
       ·exact .inl h
       ·refine .inr ⟨_, _, _, _, _, _, _, _, rfl, whole _ _ _ _ _ _ ?_, hg, by simp⟩
        rw [if_neg (by decide), if_pos (by decide : ((1 : Nat) : Int) = 1), ← h]
        exact (List.take_append_drop 16 _).symm
     ·obtain ⟨r, hr, hc⟩ := specMsg_other ((L.drop c1).drop c2) 1 pl
      refine ⟨r, specMsg_start h1 h2 (Ev.ite_neg (by decide) (Ev.ite_pos rfl ?_)), ?_⟩
      ·rw [decide_eq_false (by rw [nums_length]; omega)]; exact hr
      ·rcases hc with h | ⟨h, _⟩
       ·exact .inl h
       ·exact absurd h (by decide)
    ·obtain ⟨r, hr, hc⟩ := specMsg_other ((L.drop c1).drop c2) kd pl
     refine ⟨r, specMsg_start h1 h2 (Ev.ite_neg (by omega) (Ev.ite_neg (by omega) hr)), ?_⟩
     rcases hc with h | ⟨rfl, rfl, h, hg⟩
     ·exact .inl h
     ·exact .inr ⟨_, _, _, _, _, _, _, _, rfl, whole 0 0 [] [] [] ⟨#[]⟩ (by rw [if_neg (by decide), if_neg (by decide)]; exact h), hg, by simp⟩
theorem dv_nat (p : Nat) (hp : p < 9223372036854775808) (r : List UInt8) : dv 9 (vti (p : Int) ++ r) = some (p, (vtl p).length) ∧ (vti (p : Int) ++ r).drop (vtl p).length = r := by
 rw [vti_nat]
 exact ⟨dv_of_vtl 9 p r (vtl_le9 hp), List.drop_left⟩
theorem getMsg_complete {kd pl sz rs : Int} {w : List Int} {s : List ByteArray} {t : List S72} {u : ByteArray} (h : msgGood kd pl sz rs w s t u = true) (hr : ∀ x ∈ w, 0 ≤ x ∧ x < 4294967296) :
  Ev (fun k => spec_GetMsg.f k (nums (msgBytes kd pl sz rs w s t u))) (kd, pl, sz, rs, w, s, t, u, true) := by
 obtain ⟨⟨p0, p1⟩, hc⟩ := msgGood_cases h
 obtain ⟨p, rfl⟩ := Int.eq_ofNat_of_zero_le p0
 have hwl : w.length ≤ 140737488351232 ∧ s.length ≤ 140737488351232 := by
  rcases hc with ⟨_, hg, _, _⟩ | ⟨_, _, _, rfl, rfl, _⟩ | ⟨_, _, _, rfl, rfl, _⟩
  ·obtain ⟨_, _, h3, h4, _⟩ := sigGood_parts hg
   omega
  ·simp
  ·simp
 have hm := specMsgOk kd p sz rs w s t u hwl.1 hwl.2
 rw [h] at hm
 unfold msgBytes
 rcases hc with ⟨rfl, hg, rfl, rfl⟩ | ⟨rfl, rfl, rfl, rfl, rfl, ht, hu⟩ | ⟨rfl, rfl, rfl, rfl, rfl, rfl, rfl⟩
 ·rw [if_pos rfl]
  obtain ⟨d1, e1⟩ := dv_nat 0 (by decide) (vti (p : Int) ++ sigBytes sz rs w s)
  obtain ⟨d2, e2⟩ := dv_nat p (by omega) (sigBytes sz rs w s)
  refine specMsg_start d1 (by rw [e1]; exact d2) (Ev.ite_pos rfl ?_)
  rw [e1, e2]
  exact Ev.bind (getSig_complete hg hr) (Ev.ite_pos rfl (Ev.bind hm (Ev.ite_pos rfl Ev.some)))
 ·rw [if_neg (by decide), if_pos rfl]
  obtain ⟨t1, t2⟩ := toksOk_parts ht
  have hul : u.data.toList.length = 16 := by rw [data_length]; exact hu
  obtain ⟨d1, e1⟩ := dv_nat 1 (by decide) (vti (p : Int) ++ (u.data.toList ++ toksBytes t))
  obtain ⟨d2, e2⟩ := dv_nat p (by omega) (u.data.toList ++ toksBytes t)
  refine specMsg_start d1 (by rw [e1]; exact d2) (Ev.ite_neg (by decide) (Ev.ite_pos rfl ?_))
  rw [e1, e2, decide_eq_true (by rw [nums_length, List.length_append]; omega)]
  refine Ev.succ (fun k => spec_GetMsg.j0.eq_2 ..) (Ev.ite_pos rfl (Ev.ite_pos (by rw [nums_length, List.length_append]; omega) ?_))
  rw [take_nums, strOfNums_nums, drop_nums, List.take_left' hul, List.drop_left' hul, B_toList]
  have hk := getTokens_complete t [] t2 (by simpa using t1)
  rw [List.nil_append] at hk
  exact Ev.bind hk (Ev.ite_pos rfl (Ev.bind hm (Ev.ite_pos rfl Ev.some)))
 ·rw [if_neg (by decide), if_neg (by decide)]
  obtain ⟨d1, e1⟩ := dv_nat 2 (by decide) (vti (p : Int) ++ [])
  obtain ⟨d2, e2⟩ := dv_nat p (by omega) []
  refine specMsg_start d1 (by rw [e1]; exact d2) (Ev.ite_neg (by decide) (Ev.ite_neg (by decide) ?_))
  rw [e1, e2]
  exact Ev.succ (fun k => spec_GetMsg.j0.eq_2 ..) (Ev.ite_neg (by decide) (Ev.ite_pos rfl (Ev.ite_pos rfl (Ev.bind hm (Ev.ite_pos rfl Ev.some)))))
/-! ### The program's reader -/
theorem implMsg_end (L : List UInt8) (ok : Bool) (text : ByteArray) (bad : Bool) (kd pl sz rs : Int) (w : List Int) (s : List ByteArray) (t : List S72) (u : ByteArray) (hw : w.length ≤ 140737488351232) (hs : s.length ≤ 140737488351232) :
  ∃ r, Ev (fun k => impl_GetMsg.j0 k (nums L) ok text bad kd pl sz rs w s t u) r ∧ (r = zero9 ∨ (r = (kd, pl, sz, rs, w, s, t, u, true) ∧ L = msgBytes kd pl sz rs w s t u ∧ msgGood kd pl sz rs w s t u = true)) := by
 have fail : Ev (fun k => impl_GetMsg.j1 k true kd pl sz rs w s t u) zero9 := Ev.succ (fun k => impl_GetMsg.j1.eq_2 ..) (Ev.ite_pos rfl Ev.some)
 cases bad with
 | true => exact ⟨_, Ev.succ (fun k => impl_GetMsg.j0.eq_2 ..) (Ev.ite_pos rfl fail), .inl rfl⟩
 | false =>
  cases ok with
  | false => exact ⟨_, Ev.succ (fun k => impl_GetMsg.j0.eq_2 ..) (Ev.ite_neg (by decide) (Ev.ite_neg (by decide) fail)), .inl rfl⟩
  | true =>
   have hm := implMsgOk kd pl sz rs w s t u hw hs
   cases hg : msgGood kd pl sz rs w s t u with
   | false =>
    rw [hg] at hm
    exact ⟨_, Ev.succ (fun k => impl_GetMsg.j0.eq_2 ..) (Ev.ite_neg (by decide) (Ev.ite_pos rfl (Ev.bind hm (Ev.ite_neg (by decide) fail)))), .inl rfl⟩
   | true =>
    rw [hg] at hm
    by_cases he : msgBytes kd pl sz rs w s t u = L
    ·refine ⟨(kd, pl, sz, rs, w, s, t, u, true), Ev.succ (fun k => impl_GetMsg.j0.eq_2 ..) (Ev.ite_neg (by decide) (Ev.ite_pos rfl (Ev.bind hm (Ev.ite_pos rfl (Ev.bind (msgText_says hg) ?_))))), .inr ⟨rfl, he.symm, rfl⟩⟩
     rw [strOfNums_nums, he]
     have e : ((B L).toList != (B L).toList) = false := by simp
     rw [e]
     exact Ev.succ (fun k => impl_GetMsg.j1.eq_2 ..) (Ev.ite_neg (by decide) Ev.some)
    ·refine ⟨zero9, Ev.succ (fun k => impl_GetMsg.j0.eq_2 ..) (Ev.ite_neg (by decide) (Ev.ite_pos rfl (Ev.bind hm (Ev.ite_pos rfl (Ev.bind (msgText_says hg) ?_))))), .inl rfl⟩
     rw [strOfNums_nums]
     have e : ((B (msgBytes kd pl sz rs w s t u)).toList != (B L).toList) = true := by
      simp only [Lib.toList_data, bne_iff_ne]
      exact fun h => he (by simpa [B] using h)
     rw [e]
     exact fail
theorem implMsg_sound (L : List UInt8) (hL : L.length ≤ 1048576) : ∃ r, Ev (fun k => impl_GetMsg.f k (nums L)) r ∧ Got L r := by
 obtain ⟨kd, M1, bad1, e1, l1, v1⟩ := number_ex L false (by omega)
 obtain ⟨pl, M2, bad2, e2, l2, v2⟩ := number_ex M1 bad1 (by omega)
 have start : ∀ r, Ev (fun k => (if (kd : Int) = 0 then ((impl_readSig.f k (B M2)).bind fun bt414 => (impl_GetMsg.j0 k (nums L) bt414.2.2.2.2 (B M2) bad2 (kd : Int) (pl : Int) bt414.1 bt414.2.1 bt414.2.2.1 bt414.2.2.2.1 ([] : List (S72)) (⟨#[]⟩ : ByteArray))) else (if (kd : Int) = 1 then ((impl_reader_take.f (B M2) bad2 16).bind fun bt423 => ((impl_readTokens.f k bt423.2.1).bind fun bt426 => (impl_GetMsg.j0 k (nums L) bt426.2 bt423.2.1 bt423.2.2 (kd : Int) (pl : Int) 0 0 ([] : List Int) ([] : List ByteArray) bt426.1 bt423.1))) else (impl_GetMsg.j0 k (nums L) true (B M2) bad2 (kd : Int) (pl : Int) 0 0 ([] : List Int) ([] : List ByteArray) ([] : List (S72)) (⟨#[]⟩ : ByteArray))))) r → Ev (fun k => impl_GetMsg.f k (nums L)) r := by
  intro r h
  refine Ev.congr (fun k => impl_GetMsg.f.eq_1 ..) ?_
  rw [strOfNums_nums]
  exact Ev.bind e1 (Ev.bind e2 h)
 by_cases k0 : kd = 0
 ·subst k0
  obtain ⟨a, b, q, _, _, hq, hs⟩ := readSig_sound M2 (by omega)
  rcases hs with rfl | ⟨w, s, rfl, hr, hwl, hsl⟩
  ·obtain ⟨r, h1, h2⟩ := implMsg_end L false (B M2) bad2 0 pl 0 0 [] [] [] ⟨#[]⟩ (by simp) (by simp)
   refine ⟨r, start _ (Ev.ite_pos rfl (Ev.bind hq h1)), ?_⟩
   rcases h2 with h | ⟨h, h', h''⟩
   ·exact .inl h
   ·exact .inr ⟨_, _, _, _, _, _, _, _, h, h', h'', by simp⟩
  ·obtain ⟨r, h1, h2⟩ := implMsg_end L true (B M2) bad2 0 pl a b w s [] ⟨#[]⟩ (by omega) (by omega)
   refine ⟨r, start _ (Ev.ite_pos rfl (Ev.bind hq h1)), ?_⟩
   rcases h2 with h | ⟨h, h', h''⟩
   ·exact .inl h
   ·exact .inr ⟨_, _, _, _, _, _, _, _, h, h', h'', hr⟩
 ·by_cases k1 : kd = 1
  ·subst k1
   have tk : ∃ (y : ByteArray) (M3 : List UInt8) (bad3 : Bool), impl_reader_take.f (B M2) bad2 16 = some (y, B M3, bad3) ∧ M3.length ≤ M2.length := by
    have e16 : (16 : Int) = ((16 : Nat) : Int) := rfl
    rw [e16, take_says]
    cases bad2 with
    | true => exact ⟨⟨#[]⟩, M2, true, rfl, Nat.le_refl _⟩
    | false =>
     by_cases hl : M2.length < 16
     ·exact ⟨⟨#[]⟩, M2, true, by simp [hl], Nat.le_refl _⟩
     ·exact ⟨B (M2.take 16), M2.drop 16, false, by simp [hl], by rw [List.length_drop]; omega⟩
   obtain ⟨y, M3, bad3, ht, l3⟩ := tk
   obtain ⟨q, hq, _⟩ := readTokens_sound M3 (by omega)
   obtain ⟨r, h1, h2⟩ := implMsg_end L q.2 (B M3) bad3 1 pl 0 0 [] [] q.1 y (by simp) (by simp)
   refine ⟨r, start _ (Ev.ite_neg (by decide) (Ev.ite_pos rfl ?_)), ?_⟩
   ·refine Ev.bind' ht ?_
    exact Ev.bind hq h1
   ·rcases h2 with h | ⟨h, h', h''⟩
    ·exact .inl h
    ·exact .inr ⟨_, _, _, _, _, _, _, _, h, h', h'', by simp⟩
  ·obtain ⟨r, h1, h2⟩ := implMsg_end L true (B M2) bad2 kd pl 0 0 [] [] [] ⟨#[]⟩ (by simp) (by simp)
   refine ⟨r, start _ (Ev.ite_neg (by omega) (Ev.ite_neg (by omega) h1)), ?_⟩
   rcases h2 with h | ⟨h, h', h''⟩
   ·exact .inl h
   ·exact .inr ⟨_, _, _, _, _, _, _, _, h, h', h'', by simp⟩
theorem nres_nat (p : Nat) (hp : p < 9223372036854775808) (r : List UInt8) : nres (vti (p : Int) ++ r) false (dv 9 (vti (p : Int) ++ r)) = ((p : Int), B r, false) := nres_vti (by omega) (by omega) r
theorem implMsg_complete {kd pl sz rs : Int} {w : List Int} {s : List ByteArray} {t : List S72} {u : ByteArray} (h : msgGood kd pl sz rs w s t u = true) (hr : ∀ x ∈ w, 0 ≤ x ∧ x < 4294967296) (hL : (msgBytes kd pl sz rs w s t u).length ≤ 140737488351232) :
  Ev (fun k => impl_GetMsg.f k (nums (msgBytes kd pl sz rs w s t u))) (kd, pl, sz, rs, w, s, t, u, true) := by
 obtain ⟨⟨p0, p1⟩, hc⟩ := msgGood_cases h
 have hwl : w.length ≤ 140737488351232 ∧ s.length ≤ 140737488351232 := by
  rcases hc with ⟨_, hg, _, _⟩ | ⟨_, _, _, rfl, rfl, _⟩ | ⟨_, _, _, rfl, rfl, _⟩
  ·obtain ⟨_, _, h3, h4, _⟩ := sigGood_parts hg
   omega
  ·simp
  ·simp
 have hm := implMsgOk kd pl sz rs w s t u hwl.1 hwl.2
 rw [h] at hm
 have hend : ∀ text, Ev (fun k => impl_GetMsg.j0 k (nums (msgBytes kd pl sz rs w s t u)) true text false kd pl sz rs w s t u) (kd, pl, sz, rs, w, s, t, u, true) := by
  intro text
  refine Ev.succ (fun k => impl_GetMsg.j0.eq_2 ..) (Ev.ite_neg (by decide) (Ev.ite_pos rfl (Ev.bind hm (Ev.ite_pos rfl (Ev.bind (msgText_says h) ?_)))))
  rw [strOfNums_nums]
  have e : ((B (msgBytes kd pl sz rs w s t u)).toList != (B (msgBytes kd pl sz rs w s t u)).toList) = false := by simp
  rw [e]
  exact Ev.succ (fun k => impl_GetMsg.j1.eq_2 ..) (Ev.ite_neg (by decide) Ev.some)
 refine Ev.congr (fun k => impl_GetMsg.f.eq_1 ..) ?_
 rw [strOfNums_nums]
 have h1 := number_says (msgBytes kd pl sz rs w s t u) false hL
 generalize hX : (if kd = 0 then sigBytes sz rs w s else if kd = 1 then u.data.toList ++ toksBytes t else []) = X
 have hb : msgBytes kd pl sz rs w s t u = vti kd ++ (vti pl ++ X) := by rw [← hX]; rfl
 rw [hb, List.length_append, List.length_append] at hL
 have h2 := number_says (vti pl ++ X) false (by rw [List.length_append]; omega)
 rw [nres_vti p0 (by omega)] at h2
 have hk : nres (msgBytes kd pl sz rs w s t u) false (dv 9 (msgBytes kd pl sz rs w s t u)) = (kd, B (vti pl ++ X), false) := by
  rw [hb]; exact nres_vti (by omega) (by omega) _
 rw [hk] at h1
 refine Ev.bind h1 (Ev.bind h2 ?_)
 rcases hc with ⟨rfl, hg, rfl, rfl⟩ | ⟨rfl, rfl, rfl, rfl, rfl, ht, hu⟩ | ⟨rfl, rfl, rfl, rfl, rfl, rfl, rfl⟩
 ·refine Ev.ite_pos rfl ?_
  rw [if_pos rfl] at hX
  have hq := readSig_complete hg hr (by rw [hX]; omega)
  rw [hX] at hq
  exact Ev.bind hq (hend _)
 ·refine Ev.ite_neg (show ¬ ((1 : Int) = 0) by decide) (Ev.ite_pos rfl ?_)
  rw [if_neg (by decide), if_pos rfl] at hX
  obtain ⟨t1, t2⟩ := toksOk_parts ht
  have hul : u.data.toList.length = 16 := by rw [data_length]; exact hu
  have hx16 : impl_reader_take.f (B X) false 16 = some (u, B (toksBytes t), false) := by
   have e16 : (16 : Int) = ((16 : Nat) : Int) := rfl
   rw [e16, take_says, ← hX, if_neg (by decide), if_neg (by rw [List.length_append]; omega), List.take_left' hul, List.drop_left' hul, B_toList]
  refine Ev.bind' hx16 ?_
  refine Ev.bind (readTokens_complete t t2 t1 (by have := toksBytes_len t t2; omega)) (hend _)
 ·exact Ev.ite_neg (show ¬ ((2 : Int) = 0) by decide) (Ev.ite_neg (show ¬ ((2 : Int) = 1) by decide) (hend _))
/-- Both tell the same. -/
theorem both (L : List UInt8) (hL : L.length ≤ 1048576) : ∃ r, Ev (fun k => spec_GetMsg.f k (nums L)) r ∧ Ev (fun k => impl_GetMsg.f k (nums L)) r ∧ Got L r := by
 obtain ⟨r1, e1, g1⟩ := getMsg_sound L hL
 rcases g1 with h | ⟨kd, pl, sz, rs, w, s, t, u, rfl, h2, h3, h4⟩
 ·obtain ⟨r2, e2, g2⟩ := implMsg_sound L hL
  rcases g2 with h' | ⟨kd, pl, sz, rs, w, s, t, u, rfl, h2, h3, h4⟩
  ·exact ⟨r1, e1, by rw [h, ← h']; exact e2, .inl h⟩
  ·have := getMsg_complete h3 h4
   rw [← h2] at this
   exact ⟨_, this, e2, .inr ⟨kd, pl, sz, rs, w, s, t, u, rfl, h2, h3, h4⟩⟩
 ·have := implMsg_complete h3 h4 (by rw [← h2]; omega)
  rw [← h2] at this
  exact ⟨_, e1, this, .inr ⟨kd, pl, sz, rs, w, s, t, u, rfl, h2, h3, h4⟩⟩
end Go.Proofs.Ytjiaigjmihmdjaa.Pure
