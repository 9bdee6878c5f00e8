
/- Tokens: what the reference's and the program's readers tell of a list of bytes; both tell the tokens whose bytes these are. Plain Lean. -/
import Derived.Test.YtjiaigjmihmdjaaPFnExactGetMsgx5
import Derived.Test.YtjiaigjmihmdjaaPFnExactGetMsgx8
import Derived.Test.YtjiaigjmihmdjaaPFnExactGetMsgx12
import Derived.Test.YtjiaigjmihmdjaaFnExactGetMsgVar
namespace Go.Proofs.Ytjiaigjmihmdjaa.Pure
open Go.RowKit Go.Proofs.Ytjiaigjmihmdjaa.PFnExactGetMsg Go.Proofs.YtjiaigjmihmdjaaW.PrintWords Go.Proofs.YtjiaigjmihmdjaaW.PrintLast Go.Proofs.YtjiaigjmihmdjaaW.PrintMore
set_option linter.unusedVariables false
set_option linter.unusedSimpArgs false
section
variable {α β : Type} {f g : Nat → Option α} {r a : α}
theorem Ev.ite_pos {c : Prop} [Decidable c] (hc : c) (h : Ev f r) : Ev (fun k => if c then f k else g k) r := Ev.congr (fun k => if_pos hc) h
theorem Ev.ite_neg {c : Prop} [Decidable c] (hc : ¬ c) (h : Ev g r) : Ev (fun k => if c then f k else g k) r := Ev.congr (fun k => if_neg hc) h
theorem Ev.some_bind {b : β} {g : Nat → α → Option β} (h : Ev (fun k => g k a) b) : Ev (fun k => (some a).bind (g k)) b := h
theorem Ev.some : Ev (fun _ => some r) r := Ev.pure fun _ => rfl
end
theorem pow_le63 {v c : Nat} (h : v < 128 ^ c) (hc : c ≤ 9) : v < 9223372036854775808 := by
 have : 128 ^ c ≤ 128 ^ 9 := Nat.pow_le_pow_right (by decide) hc
 have e : (128 : Nat) ^ 9 = 9223372036854775808 := by decide
 omega
theorem dv_of_vtl : ∀ (n v : Nat) (r : List UInt8), (vtl v).length ≤ n → dv n (vtl v ++ r) = some (v, (vtl v).length)
 | 0, v, r, h => by have := vtl_pos v; omega
 | n + 1, v, r, h => by
  by_cases hv : v < 128
  ·have e : vtl v = [v.toUInt8] := by rw [vtl, if_pos hv]
   have e2 : (v.toUInt8).toNat = v := by simp; omega
   rw [e, List.cons_append, List.nil_append, dv, if_pos (by omega), e2]; rfl
  ·have e : vtl v = (v % 128 + 128).toUInt8 :: vtl (v / 128) := by rw [vtl, if_neg hv]
   have e2 : ((v % 128 + 128).toUInt8).toNat = v % 128 + 128 := by simp; omega
   rw [e] at h
   simp at h
   rw [e, List.cons_append, dv_cons (by omega), dv_of_vtl n (v / 128) r (by omega)]
   simp only
   rw [if_neg (by omega), e2]
   simp; omega
theorem vti_nat (v : Nat) : vti (v : Int) = vtl v := by unfold vti; rw [if_pos (by omega)]; simp
theorem split_at {n : Nat} {L : List UInt8} {v c : Nat} (h : dv n L = some (v, c)) : L = vtl v ++ L.drop c := by
 rw [dv_vtl n L v c h, List.take_append_drop]
theorem empty_toList : (⟨#[]⟩ : ByteArray).toList = ([] : List UInt8) := by simp [ByteArray.toList, ByteArray.toList.loop, ByteArray.size]
theorem specTokenOk0 {m : Nat} (t : List UInt8) (hm : t.length = m) : spec_TokenOk.f 0 (B t) 0 0 = some (decide (1 ≤ m ∧ m ≤ 100)) := by
 have hs : (B t).size = m := by rw [B_size, hm]
 simp only [spec_TokenOk.f, spec_l01In.f, hs]
 rw [if_pos trivial]
 by_cases h1 : 1 ≤ m
 ·rw [if_pos (by omega)]
  by_cases h2 : m ≤ 100
  ·simp [h1, h2]; omega
  ·simp [h1, h2]; omega
 ·rw [if_neg (by omega)]
  simp [h1]
theorem specTokenOk1 (p w : Nat) : spec_TokenOk.f 1 (⟨#[]⟩ : ByteArray) (p : Int) (w : Int) = some (decide (1 ≤ w)) := by
 simp only [spec_TokenOk.f, empty_toList]
 rw [if_neg (by decide), if_pos trivial, if_pos trivial, if_pos (by omega)]
 congr 1
 by_cases h : 1 ≤ w
 ·rw [decide_eq_true h, decide_eq_true (by omega)]
 ·rw [decide_eq_false h, decide_eq_false (by omega)]
theorem toksBytes_cons (t : S72) (out : List S72) : toksBytes (t :: out) = tokBytes t ++ toksBytes out := by simp [toksBytes]
theorem lit_bytes (t : List UInt8) (v : Nat) (h : v = 2 * t.length) : tokBytes ⟨0, B t, 0, 0⟩ = vtl v ++ t := by
 unfold tokBytes
 rw [if_pos rfl]
 show vti (2 * ((B t).size : Int)) ++ t = _
 rw [B_size, show (2 * (t.length : Int)) = ((v : Nat) : Int) by omega, vti_nat]
theorem ref_bytes (p w v : Nat) (h : v = 2 * w + 1) : tokBytes ⟨1, ⟨#[]⟩, (p : Int), (w : Int)⟩ = vtl v ++ vtl p := by
 unfold tokBytes
 rw [if_neg (by simp)]
 show vti (2 * (w : Int) + 1) ++ vti (p : Int) = _
 rw [show (2 * (w : Int) + 1) = ((v : Nat) : Int) by omega, vti_nat, vti_nat]
theorem good_lit (t : List UInt8) (h1 : 1 ≤ t.length) (h2 : t.length ≤ 100) : tokGood ⟨0, B t, 0, 0⟩ = true := by
 have : (B t).size = t.length := B_size t
 simp [tokGood, this, h1, h2]
theorem good_ref (p w : Nat) (h1 : 1 ≤ w) (h2 : w ≤ 1000000) (h3 : p ≤ 1000000) : tokGood ⟨1, ⟨#[]⟩, (p : Int), (w : Int)⟩ = true := by
 have : (⟨#[]⟩ : ByteArray).size = 0 := rfl
 simp [tokGood, this]; omega
/-- What a reader of tokens may tell of L, behind those it has. -/
def TokRes (L : List UInt8) (acc : List S72) (res : List S72 × Bool) : Prop :=
 res = ([], false) ∨ ∃ out, res = (acc ++ out, true) ∧ L = toksBytes out ∧ (∀ t ∈ out, tokGood t = true) ∧ acc.length + out.length ≤ 20000
theorem TokRes.step {L L' : List UInt8} {acc : List S72} {t : S72} {res : List S72 × Bool} (h : TokRes L' (acc ++ [t]) res) (hL : L = tokBytes t ++ L') (ht : tokGood t = true) : TokRes L acc res := by
 rcases h with h | ⟨out, h1, h2, h3, h4⟩
 ·exact .inl h
 ·refine .inr ⟨t :: out, by rw [h1]; simp, by rw [toksBytes_cons, hL, h2], ?_, by simp at h4 ⊢; omega⟩
  intro x hx
  rcases List.mem_cons.1 hx with rfl | hx
  ·exact ht
  ·exact h3 x hx
theorem tok_start {L : List UInt8} {acc : List S72} {v c : Nat} (hd : dv 9 L = some (v, c)) {res : List S72 × Bool}
  (h : Ev (fun k => (some (nums (L.drop c)) : Option (List Int)).bind fun y221 => (if ((v : Nat) : Int) = 0 then (if (y221.length : Int) = 0 then (if (acc.length : Int) > 20000 then (some ((([] : List (S72))), false)) else (some (acc, true))) else (some ((([] : List (S72))), false))) else (if (Int.tmod ((v : Nat) : Int) 2) = 0 then (if (wrap64 (Int.tdiv ((v : Nat) : Int) 2)) > (y221.length : Int) then (some ((([] : List (S72))), false)) else (if 0 ≤ (wrap64 (Int.tdiv ((v : Nat) : Int) 2)) then (if (wrap64 (Int.tdiv ((v : Nat) : Int) 2)) ≤ (y221.length : Int) then ((some (y221.take ((wrap64 (Int.tdiv ((v : Nat) : Int) 2)) : Int).toNat : List Int)).bind fun y236 => ((spec_TokenOk.f 0 (strOfNums y236) 0 0).bind fun t246 => (if t246 = true then (if acc.length < 3518437208883 then (spec_GetTokens.l0 k (y221.drop ((wrap64 (Int.tdiv ((v : Nat) : Int) 2)) : Int).toNat) (acc ++ [(⟨0, strOfNums y236, 0, 0⟩ : S72)])) else (none)) else (some ((([] : List (S72))), false))))) else (none)) else (none))) else ((spec_GetVar.f k y221).bind fun bt253 => (if bt253.2 = 0 then (some ((([] : List (S72))), false)) else (if 0 ≤ bt253.2 then (if bt253.2 ≤ (y221.length : Int) then ((spec_TokenOk.f 1 (⟨#[]⟩ : ByteArray) bt253.1 (wrap64 (Int.tdiv ((v : Nat) : Int) 2))).bind fun t263 => (if t263 = true then (if bt253.1 > 1000000 then (some ((([] : List (S72))), false)) else (if (wrap64 (Int.tdiv ((v : Nat) : Int) 2)) > 1000000 then (some ((([] : List (S72))), false)) else (if acc.length < 3518437208883 then (spec_GetTokens.l0 k (y221.drop (bt253.2 : Int).toNat) (acc ++ [(⟨1, (⟨#[]⟩ : ByteArray), bt253.1, wrap64 (Int.tdiv ((v : Nat) : Int) 2)⟩ : S72)])) else (none)))) else (some ((([] : List (S72))), false)))) else (none)) else (none))))))) res) : Ev (fun k => spec_GetTokens.l0 k (nums L) acc) res := by
 obtain ⟨h1, h2, h3, h4⟩ := dv_bound 9 L v c hd
 refine Ev.succ (fun k => spec_GetTokens.l0.eq_2 ..) (Ev.bind (getVar_says L) ?_)
 rw [hd]
 refine Ev.ite_neg (by simp only [vout]; omega) (Ev.ite_pos (by simp only [vout]; omega) (Ev.ite_pos (by simp only [vout]; rw [nums_length]; omega) ?_))
 simp only [vout]
 rw [show ((c : Nat) : Int).toNat = c by omega, drop_nums]
 exact h
/-- A literal token. -/
theorem tok_lit {L : List UInt8} {acc : List S72} {v c : Nat} (hd : dv 9 L = some (v, c)) (hv : v ≠ 0) (hev : v % 2 = 0) (hbig : v / 2 ≤ (L.drop c).length) (h100 : v / 2 ≤ 100) (ha : acc.length < 3518437208883) {res : List S72 × Bool}
  (h : Ev (fun k => spec_GetTokens.l0 k (nums ((L.drop c).drop (v / 2))) (acc ++ [⟨0, B ((L.drop c).take (v / 2)), 0, 0⟩])) res) : Ev (fun k => spec_GetTokens.l0 k (nums L) acc) res := by
 obtain ⟨h1, h2, h3, h4⟩ := dv_bound 9 L v c hd
 have h63 := pow_le63 h4 h2
 refine tok_start hd ?_
 have hdiv : wrap64 (Int.tdiv ((v : Nat) : Int) 2) = ((v / 2 : Nat) : Int) := by
  rw [Int.tdiv_eq_ediv_of_nonneg (by omega), wrap64_id (by omega) (by omega)]; omega
 have hmod : Int.tmod ((v : Nat) : Int) 2 = ((v % 2 : Nat) : Int) := by
  rw [Int.tmod_eq_emod_of_nonneg (by omega)]; omega
 rw [hdiv, hmod]
 have htk : ((L.drop c).take (v / 2)).length = v / 2 := by rw [List.length_take]; omega
 have e1 : ((v / 2 : Nat) : Int).toNat = v / 2 := by omega
 refine Ev.some_bind (Ev.ite_neg (by omega) (Ev.ite_pos (by omega) (Ev.ite_neg (by rw [nums_length]; omega) (Ev.ite_pos (by omega) (Ev.ite_pos (by rw [nums_length]; omega) ?_)))))
 rw [e1, take_nums, drop_nums]
 refine Ev.some_bind ?_
 rw [strOfNums_nums, specTokenOk0 _ htk]
 exact Ev.some_bind (Ev.ite_pos (by simp; omega) (Ev.ite_pos (by omega) h))
theorem tok_odd {L : List UInt8} {acc : List S72} {v c p c2 : Nat} (hd : dv 9 L = some (v, c)) (hv : v ≠ 0) (hev : v % 2 = 1) (hd2 : dv 9 (L.drop c) = some (p, c2)) {res : List S72 × Bool}
  (h : Ev (fun k => ((some (decide (1 ≤ v / 2)) : Option Bool).bind fun t263 => (if t263 = true then (if (p : Int) > 1000000 then (some ((([] : List (S72))), false)) else (if ((v / 2 : Nat) : Int) > 1000000 then (some ((([] : List (S72))), false)) else (if acc.length < 3518437208883 then (spec_GetTokens.l0 k (nums ((L.drop c).drop c2)) (acc ++ [(⟨1, (⟨#[]⟩ : ByteArray), (p : Int), ((v / 2 : Nat) : Int)⟩ : S72)])) else (none)))) else (some ((([] : List (S72))), false))))) res) : Ev (fun k => spec_GetTokens.l0 k (nums L) acc) res := by
 obtain ⟨h1, h2, h3, h4⟩ := dv_bound 9 L v c hd
 obtain ⟨g1, g2, g3, g4⟩ := dv_bound 9 _ p c2 hd2
 have h63 := pow_le63 h4 h2
 refine tok_start hd ?_
 have hdiv : wrap64 (Int.tdiv ((v : Nat) : Int) 2) = ((v / 2 : Nat) : Int) := by
  rw [Int.tdiv_eq_ediv_of_nonneg (by omega), wrap64_id (by omega) (by omega)]; omega
 have hmod : Int.tmod ((v : Nat) : Int) 2 = ((v % 2 : Nat) : Int) := by
  rw [Int.tmod_eq_emod_of_nonneg (by omega)]; omega
 rw [hdiv, hmod]
 refine Ev.some_bind (Ev.ite_neg (by omega) (Ev.ite_neg (by omega) (Ev.bind (getVar_says _) ?_)))
 rw [hd2]
 refine Ev.ite_neg (by simp only [vout]; omega) (Ev.ite_pos (by simp only [vout]; omega) (Ev.ite_pos (by simp only [vout]; rw [nums_length]; omega) ?_))
 simp only [vout]
 rw [specTokenOk1, show ((c2 : Nat) : Int).toNat = c2 by omega, drop_nums]
 exact h
/-- A token that refers to a block. -/
theorem tok_ref {L : List UInt8} {acc : List S72} {v c p c2 : Nat} (hd : dv 9 L = some (v, c)) (hev : v % 2 = 1) (hd2 : dv 9 (L.drop c) = some (p, c2)) (hw1 : 1 ≤ v / 2) (hw6 : v / 2 ≤ 1000000) (hp6 : p ≤ 1000000) (ha : acc.length < 3518437208883) {res : List S72 × Bool}
  (h : Ev (fun k => spec_GetTokens.l0 k (nums ((L.drop c).drop c2)) (acc ++ [⟨1, ⟨#[]⟩, (p : Int), ((v / 2 : Nat) : Int)⟩])) res) : Ev (fun k => spec_GetTokens.l0 k (nums L) acc) res :=
 tok_odd hd (by omega) hev hd2 (Ev.some_bind (Ev.ite_pos (by simpa using hw1) (Ev.ite_neg (by omega) (Ev.ite_neg (by omega) (Ev.ite_pos (by omega) h)))))
theorem getTokens_sound : ∀ (n : Nat) (L : List UInt8) (acc : List S72), L.length ≤ n → acc.length + L.length < 3518437208883 →
  ∃ res, Ev (fun k => spec_GetTokens.l0 k (nums L) acc) res ∧ TokRes L acc res := by
 intro n
 induction n with
 | zero =>
  intro L acc hn hl
  have e : L = [] := List.eq_nil_of_length_eq_zero (by omega)
  subst e
  refine ⟨([], false), Ev.succ (fun k => spec_GetTokens.l0.eq_2 ..) (Ev.bind (getVar_says []) ?_), .inl rfl⟩
  exact Ev.ite_pos rfl Ev.some
 | succ n ih =>
  intro L acc hn hl
  cases hd : dv 9 L with
  | none =>
   refine ⟨([], false), Ev.succ (fun k => spec_GetTokens.l0.eq_2 ..) (Ev.bind (getVar_says L) ?_), .inl rfl⟩
   rw [hd]
   exact Ev.ite_pos rfl Ev.some
  | some p =>
   obtain ⟨v, c⟩ := p
   obtain ⟨h1, h2, h3, h4⟩ := dv_bound 9 L v c hd
   have h63 := pow_le63 h4 h2
   have hsp := split_at hd
   have start : ∀ res, _ → Ev (fun k => spec_GetTokens.l0 k (nums L) acc) res := fun res h => tok_start (res := res) hd h
   by_cases hv0 : v = 0
   ·subst hv0
    by_cases he : (L.drop c).length = 0
    ·have hnil : L.drop c = [] := List.eq_nil_of_length_eq_zero he
     have hL : L = toksBytes [] := by
      rw [hsp, hnil]
      rw [vtl, if_pos (by decide)]; rfl
     by_cases h20 : acc.length ≤ 20000
     ·refine ⟨(acc, true), start _ ?_, .inr ⟨[], by simp, hL, by simp, by simpa using h20⟩⟩
      exact Ev.some_bind (Ev.ite_pos rfl (Ev.ite_pos (by rw [nums_length]; omega) (Ev.ite_neg (by omega) Ev.some)))
     ·refine ⟨([], false), start _ ?_, .inl rfl⟩
      exact Ev.some_bind (Ev.ite_pos rfl (Ev.ite_pos (by rw [nums_length]; omega) (Ev.ite_pos (by omega) Ev.some)))
    ·refine ⟨([], false), start _ ?_, .inl rfl⟩
     exact Ev.some_bind (Ev.ite_pos rfl (Ev.ite_neg (by rw [nums_length]; omega) Ev.some))
   ·have hdiv : wrap64 (Int.tdiv ((v : Nat) : Int) 2) = ((v / 2 : Nat) : Int) := by
     rw [Int.tdiv_eq_ediv_of_nonneg (by omega), wrap64_id (by omega) (by omega)]; omega
    have hmod : Int.tmod ((v : Nat) : Int) 2 = ((v % 2 : Nat) : Int) := by
     rw [Int.tmod_eq_emod_of_nonneg (by omega)]; omega
    rw [hdiv, hmod] at start
    have hlen : (L.drop c).length = L.length - c := List.length_drop
    by_cases hev : v % 2 = 0
    ·by_cases hbig : v / 2 ≤ (L.drop c).length
     ·have htk : ((L.drop c).take (v / 2)).length = v / 2 := by rw [List.length_take]; omega
      have e1 : ((v / 2 : Nat) : Int).toNat = v / 2 := by omega
      by_cases h100 : v / 2 ≤ 100
      ·obtain ⟨res, hr, ht⟩ := ih ((L.drop c).drop (v / 2)) (acc ++ [⟨0, B ((L.drop c).take (v / 2)), 0, 0⟩]) (by simp; omega) (by simp; omega)
       refine ⟨res, tok_lit hd hv0 hev hbig h100 (by omega) hr, ht.step ?_ (good_lit _ (by omega) (by omega))⟩
       rw [lit_bytes _ v (by omega), List.append_assoc, List.take_append_drop]; exact hsp
      ·refine ⟨([], false), start _ ?_, .inl rfl⟩
       refine Ev.some_bind (Ev.ite_neg (by omega) (Ev.ite_pos (by omega) (Ev.ite_neg (by rw [nums_length]; omega) (Ev.ite_pos (by omega) (Ev.ite_pos (by rw [nums_length]; omega) ?_)))))
       rw [e1, take_nums]
       refine Ev.some_bind ?_
       rw [strOfNums_nums, specTokenOk0 _ htk]
       exact Ev.some_bind (Ev.ite_neg (by simp; omega) Ev.some)
     ·refine ⟨([], false), start _ ?_, .inl rfl⟩
      exact Ev.some_bind (Ev.ite_neg (by omega) (Ev.ite_pos (by omega) (Ev.ite_pos (by rw [nums_length]; omega) Ev.some)))
    ·cases hd2 : dv 9 (L.drop c) with
     | none =>
      refine ⟨([], false), start _ (Ev.some_bind (Ev.ite_neg (by omega) (Ev.ite_neg (by omega) (Ev.bind (getVar_says _) ?_)))), .inl rfl⟩
      rw [hd2]
      exact Ev.ite_pos rfl Ev.some
     | some q =>
      obtain ⟨p, c2⟩ := q
      obtain ⟨g1, g2, g3, g4⟩ := dv_bound 9 _ p c2 hd2
      have hsp2 := split_at hd2
      have odd2 : ∀ res, _ → Ev (fun k => spec_GetTokens.l0 k (nums L) acc) res := fun res h => tok_odd (res := res) hd hv0 (by omega) hd2 h
      by_cases hw1 : 1 ≤ v / 2
      ·by_cases hp6 : p ≤ 1000000
       ·by_cases hw6 : v / 2 ≤ 1000000
        ·obtain ⟨res, hr, ht⟩ := ih ((L.drop c).drop c2) (acc ++ [⟨1, ⟨#[]⟩, (p : Int), ((v / 2 : Nat) : Int)⟩]) (by simp; omega) (by simp; omega)
         refine ⟨res, tok_ref hd (by omega) hd2 hw1 hw6 hp6 (by omega) hr, ht.step ?_ (good_ref p (v / 2) hw1 hw6 hp6)⟩
         rw [ref_bytes p (v / 2) v (by omega), List.append_assoc, ← hsp2]; exact hsp
        ·exact ⟨([], false), odd2 _ (Ev.some_bind (Ev.ite_pos (by simpa using hw1) (Ev.ite_neg (by omega) (Ev.ite_pos (by omega) Ev.some)))), .inl rfl⟩
       ·exact ⟨([], false), odd2 _ (Ev.some_bind (Ev.ite_pos (by simpa using hw1) (Ev.ite_pos (by omega) Ev.some))), .inl rfl⟩
      ·exact ⟨([], false), odd2 _ (Ev.some_bind (Ev.ite_neg (by simpa using hw1) Ev.some)), .inl rfl⟩
theorem tok_end {L : List UInt8} {acc : List S72} (hd : dv 9 L = some (0, 1)) (he : L.length = 1) (h20 : acc.length ≤ 20000) : Ev (fun k => spec_GetTokens.l0 k (nums L) acc) (acc, true) :=
 tok_start hd (Ev.some_bind (Ev.ite_pos rfl (Ev.ite_pos (by rw [nums_length, List.length_drop]; omega) (Ev.ite_neg (by omega) Ev.some))))
/-- A good token is a literal or a reference. -/
theorem good_cases {t : S72} (h : tokGood t = true) : (∃ l : List UInt8, t = ⟨0, B l, 0, 0⟩ ∧ 1 ≤ l.length ∧ l.length ≤ 100) ∨ ∃ p w : Nat, t = ⟨1, ⟨#[]⟩, (p : Int), (w : Int)⟩ ∧ 1 ≤ w ∧ w ≤ 1000000 ∧ p ≤ 1000000 := by
 obtain ⟨f0, f1, f2, f3⟩ := t
 simp [tokGood] at h
 obtain ⟨⟨h | h, h3⟩, h2⟩ := h
 ·obtain ⟨⟨⟨⟨a, b⟩, c⟩, d⟩, e⟩ := h
  refine .inl ⟨f1.data.toList, ?_, ?_, ?_⟩
  ·rw [B_toList]; simp [a, d, e]
  ·have : f1.data.toList.length = f1.size := data_length f1
   omega
  ·have : f1.data.toList.length = f1.size := data_length f1
   omega
 ·obtain ⟨⟨⟨a, b⟩, c⟩, d⟩ := h
  refine .inr ⟨f2.toNat, f3.toNat, ?_, by omega, by omega, by omega⟩
  have e : f1 = ⟨#[]⟩ := by
   have b' : f1.size = 0 := by first | exact b | simp [b]
   have : f1.data.toList.length = f1.size := data_length f1
   rw [← B_toList f1, List.eq_nil_of_length_eq_zero (l := f1.data.toList) (by omega)]; rfl
  rw [e, Int.toNat_of_nonneg (by omega), Int.toNat_of_nonneg (by omega), a]
theorem getTokens_complete : ∀ (out acc : List S72), (∀ t ∈ out, tokGood t = true) → acc.length + out.length ≤ 20000 → Ev (fun k => spec_GetTokens.l0 k (nums (toksBytes out)) acc) (acc ++ out, true) := by
 intro out
 induction out with
 | nil =>
  intro acc _ hl
  rw [List.append_nil]
  exact tok_end (L := toksBytes []) rfl rfl (by simpa using hl)
 | cons t out ih =>
  intro acc hg hl
  rw [List.length_cons] at hl
  have := ih (acc ++ [t]) (fun x hx => hg x (List.mem_cons_of_mem _ hx)) (by simp; omega)
  rw [List.append_assoc, List.singleton_append] at this
  rw [toksBytes_cons]
  rcases good_cases (hg t (List.mem_cons_self ..)) with ⟨l, rfl, h1, h2⟩ | ⟨p, w, rfl, h1, h2, h3⟩
  ·rw [lit_bytes l (2 * l.length) rfl, List.append_assoc]
   have hd := dv_of_vtl 9 (2 * l.length) (l ++ toksBytes out) (vtl_le9 (by omega))
   have e2 : 2 * l.length / 2 = l.length := by omega
   refine tok_lit hd (by omega) (by omega) (by rw [List.drop_left, e2]; simp) (by omega) (by omega) ?_
   rw [List.drop_left, e2, List.drop_left, List.take_left]
   exact this
  ·rw [ref_bytes p w (2 * w + 1) rfl, List.append_assoc]
   have hd := dv_of_vtl 9 (2 * w + 1) (vtl p ++ toksBytes out) (vtl_le9 (by omega))
   have hd2 := dv_of_vtl 9 p (toksBytes out) (vtl_le9 (by omega))
   have e2 : (2 * w + 1) / 2 = w := by omega
   refine tok_ref hd (by omega) (p := p) (c2 := (vtl p).length) (by rw [List.drop_left]; exact hd2) (by omega) (by omega) (by omega) (by omega) ?_
   rw [List.drop_left, List.drop_left, e2]
   exact this
/-! ### The program's reading -/
theorem extract_B (L : List UInt8) (a b : Nat) : (B L).extract a b = B ((L.take b).drop a) := by
 apply ByteArray.ext
 simp [B, ByteArray.extract, ByteArray.copySlice, List.drop_take]
theorem take_says (L : List UInt8) (n : Nat) (bad : Bool) : impl_reader_take.f (B L) bad (n : Int) = some (if bad = true then (⟨#[]⟩, B L, true) else if L.length < n then (⟨#[]⟩, B L, true) else (B (L.take n), B (L.drop n), false)) := by
 unfold impl_reader_take.f
 cases bad with
 | true => rfl
 | false =>
  rw [if_neg (by decide), if_neg (by decide : ¬ (false = true))]
  by_cases h : L.length < n
  ·rw [if_pos (by rw [B_size]; omega), if_pos h]
  ·rw [if_neg (by rw [B_size]; omega), if_neg h, if_pos (by omega), if_pos (by rw [B_size]; omega), extract_B, extract_B, B_size]
   have e : ((n : Nat) : Int).toNat = n := by omega
   rw [e, List.drop_zero, List.take_length]
def nres (L : List UInt8) (bad : Bool) : Option (Nat × Nat) → Int × ByteArray × Bool
 | none => (0, B L, true)
 | some (v, c) => if bad = true then ((v : Int), B L, true) else ((v : Int), B (L.drop c), false)
theorem number_says (L : List UInt8) (bad : Bool) (hL : L.length ≤ 140737488351232) : Ev (fun k => impl_reader_number.f k (B L) bad) (nres L bad (dv 9 L)) := by
 refine Ev.congr (fun k => impl_reader_number.f.eq_1 ..) (Ev.bind (readVar_says L hL) ?_)
 cases hd : dv 9 L with
 | none =>
  refine Ev.ite_pos rfl (Ev.succ (fun k => impl_reader_number.j0.eq_2 ..) ?_)
  refine Ev.bind' (a := (⟨#[]⟩, B L, true)) ?_ Ev.some
  exact (take_says L 0 true)
 | some p =>
  obtain ⟨v, c⟩ := p
  obtain ⟨h1, h2, h3, h4⟩ := dv_bound 9 L v c hd
  refine Ev.ite_neg (by simp only [vout]; omega) (Ev.succ (fun k => impl_reader_number.j0.eq_2 ..) ?_)
  refine Ev.bind' (take_says L c bad) ?_
  cases bad with
  | true => exact Ev.some
  | false =>
   rw [if_neg (by decide), if_neg (by omega)]
   exact Ev.some
theorem tokensText_good {l : List S72} (h : ∀ t ∈ l, tokGood t = true) (hl : l.length ≤ 20000) : impl_tokensText.f l = some (B (toksBytes l), true) := by
 unfold impl_tokensText.f
 rw [if_neg (by omega), if_neg]
 ·rfl
 ·simp only [List.any_eq_true]
  rintro ⟨t, ht, hb⟩
  simp [h t ht] at hb
/-- How the loop ends. -/
theorem tok_last (x0 : ByteArray) (acc : List S72) (x6 : Int) (s : ByteArray) (bad : Bool) : ∃ res, Ev (fun k => impl_readTokens.j1 k x0 acc x6 false s bad) res ∧
  (res = ([], false) ∨ (res = (acc, true) ∧ B (toksBytes acc) = x0 ∧ (∀ t ∈ acc, tokGood t = true) ∧ acc.length ≤ 20000)) := by
 have fail : Ev (fun k => impl_readTokens.j3 k acc true) ([], false) := Ev.succ (fun k => impl_readTokens.j3.eq_2 ..) (Ev.ite_pos rfl Ev.some)
 by_cases hl : acc.length ≤ 20000
 ·by_cases hg : ∀ t ∈ acc, tokGood t = true
  ·cases bad with
   | true => exact ⟨_, Ev.succ (fun k => impl_readTokens.j1.eq_2 ..) (Ev.ite_neg (by decide) (Ev.bind' (tokensText_good hg hl) (Ev.ite_pos rfl fail))), .inl rfl⟩
   | false =>
    by_cases he : B (toksBytes acc) = x0
    ·refine ⟨(acc, true), Ev.succ (fun k => impl_readTokens.j1.eq_2 ..) (Ev.ite_neg (by decide) (Ev.bind' (tokensText_good hg hl) (Ev.ite_neg (by decide) (Ev.ite_pos rfl ?_)))), .inr ⟨rfl, he, hg, hl⟩⟩
     refine Ev.succ (fun k => impl_readTokens.j3.eq_2 ..) (Ev.ite_neg ?_ Ev.some)
     simp [he]
    ·refine ⟨([], false), Ev.succ (fun k => impl_readTokens.j1.eq_2 ..) (Ev.ite_neg (by decide) (Ev.bind' (tokensText_good hg hl) (Ev.ite_neg (by decide) (Ev.ite_pos rfl ?_)))), .inl rfl⟩
     refine Ev.succ (fun k => impl_readTokens.j3.eq_2 ..) (Ev.ite_pos ?_ Ev.some)
     simp only [Lib.toList_data, bne_iff_ne]
     intro h
     exact he (by rw [← B_toList x0, ← h]; rfl)
  ·have e : impl_tokensText.f acc = some (⟨#[]⟩, false) := by
    unfold impl_tokensText.f
    rw [if_neg (by omega), if_pos]
    simp only [List.any_eq_true]
    obtain ⟨t, ht⟩ := Classical.not_forall.1 hg
    obtain ⟨ht1, ht2⟩ := Classical.not_imp.1 ht
    exact ⟨t, ht1, by simp [ht2]⟩
   cases bad with
   | true => exact ⟨_, Ev.succ (fun k => impl_readTokens.j1.eq_2 ..) (Ev.ite_neg (by decide) (Ev.bind' e (Ev.ite_pos rfl fail))), .inl rfl⟩
   | false => exact ⟨_, Ev.succ (fun k => impl_readTokens.j1.eq_2 ..) (Ev.ite_neg (by decide) (Ev.bind' e (Ev.ite_neg (by decide) (Ev.ite_neg (by decide) fail)))), .inl rfl⟩
 ·have e : impl_tokensText.f acc = some (⟨#[]⟩, false) := by
   unfold impl_tokensText.f
   rw [if_pos (by omega)]
  cases bad with
  | true => exact ⟨_, Ev.succ (fun k => impl_readTokens.j1.eq_2 ..) (Ev.ite_neg (by decide) (Ev.bind' e (Ev.ite_pos rfl fail))), .inl rfl⟩
  | false => exact ⟨_, Ev.succ (fun k => impl_readTokens.j1.eq_2 ..) (Ev.ite_neg (by decide) (Ev.bind' e (Ev.ite_neg (by decide) (Ev.ite_neg (by decide) fail)))), .inl rfl⟩
/-- What the program's reader of tokens may tell. -/
def TokIs (x0 : ByteArray) (res : List S72 × Bool) : Prop := res = ([], false) ∨ ∃ out, res = (out, true) ∧ B (toksBytes out) = x0 ∧ (∀ t ∈ out, tokGood t = true) ∧ out.length ≤ 20000
theorem readTokens_over (x0 : ByteArray) (acc : List S72) (x6 : Int) (s : ByteArray) (bad : Bool) (h : bad = true ∨ ¬ 0 < x6) : ∃ res, Ev (fun k => impl_readTokens.l0 k x0 acc x6 s bad) res ∧ TokIs x0 res := by
 obtain ⟨res, hr, hs⟩ := tok_last x0 acc x6 s bad
 refine ⟨res, Ev.succ (fun k => impl_readTokens.l0.eq_2 ..) ?_, ?_⟩
 ·by_cases hx : 0 < x6
  ·rcases h with rfl | h
   ·exact Ev.ite_pos hx hr
   ·exact absurd hx h
  ·exact Ev.ite_neg hx hr
 ·rcases hs with h | ⟨h1, h2, h3, h4⟩
  ·exact .inl h
  ·exact .inr ⟨acc, h1, h2, h3, h4⟩
theorem readTokens_lit {x0 : ByteArray} {acc : List S72} {v : Nat} {L : List UInt8} {res : List S72 × Bool} (hv : v ≠ 0) (h63 : v < 9223372036854775808) (hev : v % 2 = 0) (h100 : v / 2 ≤ 100) (ha : acc.length < 20000)
  (h : Ev (fun k => (impl_reader_take.f (B L) false ((v / 2 : Nat) : Int)).bind fun bt369 => ((impl_reader_number.f k bt369.2.1 bt369.2.2).bind fun bt375 => (impl_readTokens.l0 k x0 (acc ++ [(⟨0, bt369.1, 0, 0⟩ : S72)]) bt375.1 bt375.2.1 bt375.2.2))) res) :
  Ev (fun k => impl_readTokens.l0 k x0 acc (v : Int) (B L) false) res := by
 have hdiv : wrap64 (Int.tdiv ((v : Nat) : Int) 2) = ((v / 2 : Nat) : Int) := by
  rw [Int.tdiv_eq_ediv_of_nonneg (by omega), wrap64_id (by omega) (by omega)]; omega
 have hmod : Int.tmod ((v : Nat) : Int) 2 = ((v % 2 : Nat) : Int) := by
  rw [Int.tmod_eq_emod_of_nonneg (by omega)]; omega
 refine Ev.succ (fun k => impl_readTokens.l0.eq_2 ..) (Ev.ite_pos (by omega) (Ev.succ (fun k => impl_readTokens.j1.eq_2 ..) (Ev.ite_pos rfl (Ev.ite_neg (by omega) ?_))))
 rw [hmod, hdiv]
 refine Ev.ite_pos (by omega) ?_
 rw [decide_eq_true (by omega : ((v / 2 : Nat) : Int) ≤ 100)]
 refine Ev.succ (fun k => impl_readTokens.j2.eq_2 ..) (Ev.ite_pos rfl ?_)
 rw [hdiv]
 refine Ev.congr (fun k => ?_) h
 congr 1
 funext bt
 rw [if_pos (by omega)]
theorem readTokens_ref {x0 : ByteArray} {acc : List S72} {v : Nat} {L : List UInt8} {res : List S72 × Bool} (h63 : v < 9223372036854775808) (hev : v % 2 = 1) (ha : acc.length < 20000)
  (h : Ev (fun k => (impl_reader_number.f k (B L) false).bind fun bt378 => ((impl_reader_number.f k bt378.2.1 bt378.2.2).bind fun bt384 => (impl_readTokens.l0 k x0 (acc ++ [(⟨1, (⟨#[]⟩ : ByteArray), bt378.1, ((v / 2 : Nat) : Int)⟩ : S72)]) bt384.1 bt384.2.1 bt384.2.2))) res) :
  Ev (fun k => impl_readTokens.l0 k x0 acc (v : Int) (B L) false) res := by
 have hdiv : wrap64 (Int.tdiv ((v : Nat) : Int) 2) = ((v / 2 : Nat) : Int) := by
  rw [Int.tdiv_eq_ediv_of_nonneg (by omega), wrap64_id (by omega) (by omega)]; omega
 have hmod : Int.tmod ((v : Nat) : Int) 2 = ((v % 2 : Nat) : Int) := by
  rw [Int.tmod_eq_emod_of_nonneg (by omega)]; omega
 refine Ev.succ (fun k => impl_readTokens.l0.eq_2 ..) (Ev.ite_pos (by omega) (Ev.succ (fun k => impl_readTokens.j1.eq_2 ..) (Ev.ite_pos rfl (Ev.ite_neg (by omega) ?_))))
 rw [hmod]
 refine Ev.ite_neg (by omega) (Ev.succ (fun k => impl_readTokens.j2.eq_2 ..) (Ev.ite_neg (by decide) ?_))
 rw [hmod, hdiv]
 refine Ev.ite_pos (by omega) ?_
 refine Ev.congr (fun k => ?_) h
 congr 1
 funext bt
 rw [if_pos (by omega)]
theorem readTokens_bad {x0 : ByteArray} {acc : List S72} {v : Nat} {L : List UInt8} (hv : v ≠ 0) (h63 : v < 9223372036854775808) (h : acc.length = 20000 ∨ (v % 2 = 0 ∧ 100 < v / 2)) :
  Ev (fun k => impl_readTokens.l0 k x0 acc (v : Int) (B L) false) ([], false) := by
 have hdiv : wrap64 (Int.tdiv ((v : Nat) : Int) 2) = ((v / 2 : Nat) : Int) := by
  rw [Int.tdiv_eq_ediv_of_nonneg (by omega), wrap64_id (by omega) (by omega)]; omega
 have hmod : Int.tmod ((v : Nat) : Int) 2 = ((v % 2 : Nat) : Int) := by
  rw [Int.tmod_eq_emod_of_nonneg (by omega)]; omega
 refine Ev.succ (fun k => impl_readTokens.l0.eq_2 ..) (Ev.ite_pos (by omega) (Ev.succ (fun k => impl_readTokens.j1.eq_2 ..) (Ev.ite_pos rfl ?_)))
 by_cases hl : acc.length = 20000
 ·exact Ev.ite_pos (by omega) Ev.some
 ·have h' : v % 2 = 0 ∧ 100 < v / 2 := by omega
  refine Ev.ite_neg (by omega) ?_
  rw [hmod, hdiv]
  refine Ev.ite_pos (by omega) ?_
  rw [decide_eq_false (by omega : ¬ ((v / 2 : Nat) : Int) ≤ 100)]
  refine Ev.succ (fun k => impl_readTokens.j2.eq_2 ..) (Ev.ite_neg (by decide) ?_)
  rw [hmod]
  exact Ev.ite_neg (by omega) Ev.some
theorem readTokens_loop (x0 : ByteArray) : ∀ (n : Nat) (L : List UInt8) (acc : List S72) (v : Nat), L.length ≤ n → L.length ≤ 140737488351232 → v < 9223372036854775808 → acc.length ≤ 20000 →
  ∃ res, Ev (fun k => impl_readTokens.l0 k x0 acc (v : Int) (B L) false) res ∧ TokIs x0 res := by
 intro n
 induction n with
 | zero =>
  intro L acc v hn hL h63 hl
  have e : L = [] := List.eq_nil_of_length_eq_zero (by omega)
  subst e
  by_cases hv : v = 0
  ·exact readTokens_over x0 acc _ _ _ (.inr (by omega))
  ·by_cases h20 : acc.length = 20000
   ·exact ⟨_, readTokens_bad hv h63 (.inl h20), .inl rfl⟩
   ·by_cases hev : v % 2 = 0
    ·by_cases h100 : v / 2 ≤ 100
     ·obtain ⟨res, hr, ht⟩ := readTokens_over x0 (acc ++ [(⟨0, ⟨#[]⟩, 0, 0⟩ : S72)]) 0 (B []) true (.inl rfl)
      refine ⟨res, readTokens_lit hv h63 hev h100 (by omega) (Ev.bind' (take_says [] (v / 2) false) ?_), ht⟩
      rw [if_neg (by decide), if_pos (by simp; omega)]
      exact Ev.bind (number_says [] true (by simp)) hr
     ·exact ⟨_, readTokens_bad hv h63 (.inr ⟨hev, by omega⟩), .inl rfl⟩
    ·obtain ⟨res, hr, ht⟩ := readTokens_over x0 (acc ++ [(⟨1, ⟨#[]⟩, 0, ((v / 2 : Nat) : Int)⟩ : S72)]) 0 (B []) true (.inl rfl)
     exact ⟨res, readTokens_ref h63 (by omega) (by omega) (Ev.bind (number_says [] false (by simp)) (Ev.bind (number_says [] true (by simp)) hr)), ht⟩
 | succ n ih =>
  intro L acc v hn hL h63 hl
  by_cases hv : v = 0
  ·exact readTokens_over x0 acc _ _ _ (.inr (by omega))
  ·by_cases h20 : acc.length = 20000
   ·exact ⟨_, readTokens_bad hv h63 (.inl h20), .inl rfl⟩
   ·-- a number behind what was read
    have next : ∀ (t : S72) (M : List UInt8), M.length ≤ L.length → ∃ res, Ev (fun k => (impl_reader_number.f k (B M) false).bind fun bt => (impl_readTokens.l0 k x0 (acc ++ [t]) bt.1 bt.2.1 bt.2.2)) res ∧ TokIs x0 res := by
     intro t M hM
     cases hd : dv 9 M with
     | none =>
      obtain ⟨res, hr, ht⟩ := readTokens_over x0 (acc ++ [t]) 0 (B M) true (.inl rfl)
      refine ⟨res, Ev.bind (number_says M false (by omega)) ?_, ht⟩
      rw [hd]; exact hr
     | some q =>
      obtain ⟨w, c⟩ := q
      obtain ⟨h1, h2, h3, h4⟩ := dv_bound 9 M w c hd
      obtain ⟨res, hr, ht⟩ := ih (M.drop c) (acc ++ [t]) w (by rw [List.length_drop]; omega) (by rw [List.length_drop]; omega) (pow_le63 h4 h2) (by simp; omega)
      refine ⟨res, Ev.bind (number_says M false (by omega)) ?_, ht⟩
      rw [hd]; exact hr
    have nextbad : ∀ (t : S72) (M : List UInt8), M.length ≤ L.length → ∃ res, Ev (fun k => (impl_reader_number.f k (B M) true).bind fun bt => (impl_readTokens.l0 k x0 (acc ++ [t]) bt.1 bt.2.1 bt.2.2)) res ∧ TokIs x0 res := by
     intro t M hM
     obtain ⟨res, hr, ht⟩ := readTokens_over x0 (acc ++ [t]) (nres M true (dv 9 M)).1 (nres M true (dv 9 M)).2.1 (nres M true (dv 9 M)).2.2 (.inl (by cases dv 9 M <;> rfl))
     exact ⟨res, Ev.bind (number_says M true (by omega)) hr, ht⟩
    by_cases hev : v % 2 = 0
    ·by_cases h100 : v / 2 ≤ 100
     ·by_cases hs : L.length < v / 2
      ·obtain ⟨res, hr, ht⟩ := nextbad ⟨0, ⟨#[]⟩, 0, 0⟩ L (Nat.le_refl _)
       refine ⟨res, readTokens_lit hv h63 hev h100 (by omega) (Ev.bind' (take_says L (v / 2) false) ?_), ht⟩
       rw [if_neg (by decide), if_pos hs]
       exact hr
      ·obtain ⟨res, hr, ht⟩ := next ⟨0, B (L.take (v / 2)), 0, 0⟩ (L.drop (v / 2)) (by rw [List.length_drop]; omega)
       refine ⟨res, readTokens_lit hv h63 hev h100 (by omega) (Ev.bind' (take_says L (v / 2) false) ?_), ht⟩
       rw [if_neg (by decide), if_neg hs]
       exact hr
     ·exact ⟨_, readTokens_bad hv h63 (.inr ⟨hev, by omega⟩), .inl rfl⟩
    ·cases hd : dv 9 L with
     | none =>
      obtain ⟨res, hr, ht⟩ := nextbad ⟨1, ⟨#[]⟩, 0, ((v / 2 : Nat) : Int)⟩ L (Nat.le_refl _)
      refine ⟨res, readTokens_ref h63 (by omega) (by omega) (Ev.bind (number_says L false hL) ?_), ht⟩
      rw [hd]; exact hr
     | some q =>
      obtain ⟨p, c⟩ := q
      obtain ⟨res, hr, ht⟩ := next ⟨1, ⟨#[]⟩, (p : Int), ((v / 2 : Nat) : Int)⟩ (L.drop c) (by rw [List.length_drop]; omega)
      refine ⟨res, readTokens_ref h63 (by omega) (by omega) (Ev.bind (number_says L false hL) ?_), ht⟩
      rw [hd]; exact hr
theorem readTokens_sound (L : List UInt8) (hL : L.length ≤ 140737488351232) : ∃ res, Ev (fun k => impl_readTokens.f k (B L)) res ∧ TokIs (B L) res := by
 cases hd : dv 9 L with
 | none =>
  obtain ⟨res, hr, ht⟩ := readTokens_over (B L) [] 0 (B L) true (.inl rfl)
  refine ⟨res, Ev.congr (fun k => impl_readTokens.f.eq_1 ..) (Ev.bind (number_says L false hL) ?_), ht⟩
  rw [hd]; exact hr
 | some q =>
  obtain ⟨w, c⟩ := q
  obtain ⟨h1, h2, h3, h4⟩ := dv_bound 9 L w c hd
  obtain ⟨res, hr, ht⟩ := readTokens_loop (B L) L.length (L.drop c) [] w (by rw [List.length_drop]; omega) (by rw [List.length_drop]; omega) (pow_le63 h4 h2) (by simp)
  refine ⟨res, Ev.congr (fun k => impl_readTokens.f.eq_1 ..) (Ev.bind (number_says L false hL) ?_), ht⟩
  rw [hd]; exact hr
theorem readTokens_rest (x0 : ByteArray) : ∀ (r acc : List S72), (∀ t ∈ acc ++ r, tokGood t = true) → (acc ++ r).length ≤ 20000 → x0 = B (toksBytes (acc ++ r)) → (toksBytes r).length ≤ 140737488351232 →
  Ev (fun k => (impl_reader_number.f k (B (toksBytes r)) false).bind fun bt => (impl_readTokens.l0 k x0 acc bt.1 bt.2.1 bt.2.2)) (acc ++ r, true) := by
 intro r
 induction r with
 | nil =>
  intro acc hg hl hx hs
  rw [List.append_nil] at hg hl hx ⊢
  refine Ev.bind (number_says (toksBytes []) false hs) ?_
  have e : dv 9 (toksBytes []) = some (0, 1) := rfl
  rw [e]
  refine Ev.succ (fun k => impl_readTokens.l0.eq_2 ..) (Ev.ite_neg (by decide) (Ev.succ (fun k => impl_readTokens.j1.eq_2 ..) (Ev.ite_neg (by decide) (Ev.bind' (tokensText_good hg hl) (Ev.ite_neg (by decide) (Ev.ite_pos rfl ?_))))))
  refine Ev.succ (fun k => impl_readTokens.j3.eq_2 ..) (Ev.ite_neg ?_ Ev.some)
  simp [hx]
 | cons t r ih =>
  intro acc hg hl hx hs
  have hlen : acc.length < 20000 := by simp at hl; omega
  have e : acc ++ t :: r = acc ++ [t] ++ r := by simp
  have hs' : (toksBytes r).length ≤ 140737488351232 := by rw [toksBytes_cons] at hs; simp at hs; omega
  have := ih (acc ++ [t]) (by rw [← e]; exact hg) (by rw [← e]; exact hl) (by rw [← e]; exact hx) hs'
  rw [← e] at this
  have ht : tokGood t = true := hg t (by simp)
  refine Ev.bind (number_says _ false hs) ?_
  rw [toksBytes_cons] at hs ⊢
  rcases good_cases ht with ⟨l, rfl, h1, h2⟩ | ⟨p, w, rfl, h1, h2, h3⟩
  ·rw [lit_bytes l (2 * l.length) rfl, List.append_assoc]
   have hd := dv_of_vtl 9 (2 * l.length) (l ++ toksBytes r) (vtl_le9 (by omega))
   have e2 : 2 * l.length / 2 = l.length := by omega
   rw [hd]
   simp only [nres]
   rw [if_neg (by decide), List.drop_left]
   refine readTokens_lit (by omega) (by omega) (by omega) (by omega) hlen (Ev.bind' (take_says _ _ false) ?_)
   rw [e2, if_neg (by decide), if_neg (by simp), List.take_left, List.drop_left]
   exact this
  ·rw [ref_bytes p w (2 * w + 1) rfl, List.append_assoc]
   have hd := dv_of_vtl 9 (2 * w + 1) (vtl p ++ toksBytes r) (vtl_le9 (by omega))
   have hd2 := dv_of_vtl 9 p (toksBytes r) (vtl_le9 (by omega))
   have e2 : (2 * w + 1) / 2 = w := by omega
   rw [hd]
   simp only [nres]
   rw [if_neg (by decide), List.drop_left]
   refine readTokens_ref (by omega) (by omega) hlen (Ev.bind (number_says _ false ?_) ?_)
   ·rw [ref_bytes p w (2 * w + 1) rfl] at hs
    simp at hs ⊢; omega
   ·rw [hd2, e2]
    simp only [nres]
    rw [if_neg (by decide), List.drop_left]
    exact this
theorem readTokens_complete (out : List S72) (hg : ∀ t ∈ out, tokGood t = true) (hl : out.length ≤ 20000) (hs : (toksBytes out).length ≤ 140737488351232) :
  Ev (fun k => impl_readTokens.f k (B (toksBytes out))) (out, true) :=
 Ev.congr (fun k => impl_readTokens.f.eq_1 ..) (readTokens_rest _ out [] hg hl rfl hs)
end Go.Proofs.Ytjiaigjmihmdjaa.Pure
