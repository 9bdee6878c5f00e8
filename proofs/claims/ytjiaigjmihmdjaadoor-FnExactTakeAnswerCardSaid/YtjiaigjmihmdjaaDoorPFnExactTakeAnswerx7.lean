
/- The machine's side, written by a program of this session (a turned print): each function as a plain Lean function, and that the call comes to it. -/
import Derived.Test.YtjiaigjmihmdjaaDoorPFnExactTakeAnswerx0
import Derived.Test.YtjiaigjmihmdjaaDoorPFnExactTakeAnswerx6
namespace Go.Proofs.YtjiaigjmihmdjaaDoor.PFnExactTakeAnswer
open Go.RowKit Go.Proofs.YtjiaigjmihmdjaaDoorW.PrintWords Go.Proofs.YtjiaigjmihmdjaaDoorW.PrintLast Go.Proofs.YtjiaigjmihmdjaaDoorW.PrintMore
attribute [local go_sem] max2_int min2_int max_two min_two max_three min_three max_four min_four   -- for this text's walks alone
set_option linter.unusedVariables false
set_option linter.unusedSimpArgs false

/-! ### slices_ContainsFunc_tokens: function 185 at (186,) (by hand) -/
/-- Is a token right, and small enough to be written? -/
def tokGood (t : S148) : Bool := ((decide (t.f0 = 0) && decide (1 ≤ t.f1.size) && decide (t.f1.size ≤ 100) && decide (t.f2 = 0) && decide (t.f3 = 0)) || (decide (t.f0 = 1) && decide (t.f1.size = 0) && decide (0 ≤ t.f2) && decide (1 ≤ t.f3))) && decide (t.f3 ≤ 1000000) && decide (t.f2 ≤ 1000000)
theorem tok_list_nil (s : ByteArray) : s.toList = [] ↔ s.size = 0 := by
  rw [Lib.toList_data]
  constructor
  · intro h; have := congrArg List.length h; rw [data_length] at this; simpa using this
  · intro h; apply List.eq_nil_of_length_eq_zero; rw [data_length]; exact h
theorem tokens_1_tells (t : S148) : impl_tokensText_1.f t.f0 t.f1 t.f2 t.f3 = some (!tokGood t) := by
  unfold impl_tokensText_1.f impl_TokenOk.f tokGood impl_within.f
  have big : ∀ x : Int, decide (1000000 < x) = !decide (x ≤ 1000000) := by intro x; by_cases h : x ≤ 1000000 <;> simp [h] <;> omega
  by_cases h0 : t.f0 = 0
  · by_cases h1 : (1 : Int) ≤ (t.f1.size : Int)
    · have h1' : 1 ≤ t.f1.size := by omega
      by_cases h2 : (t.f1.size : Int) ≤ 100
      · have h2' : t.f1.size ≤ 100 := by omega
        by_cases h3 : t.f2 = 0
        · by_cases h4 : t.f3 = 0
          · simp [h0, h1, h1', h2, h2', h3, h4]
          · simp [h0, h1, h1', h2, h2', h3, h4]
        · simp [h0, h1, h1', h2, h2', h3]
      · have h2' : ¬ t.f1.size ≤ 100 := by omega
        simp [h0, h1, h1', h2, h2']
    · have h1' : ¬ (1 ≤ t.f1.size) := by omega
      simp [h0, h1, h1']
  · by_cases h1 : t.f0 = 1
    · by_cases h2 : t.f1.size = 0
      · have h2' := (tok_list_nil t.f1).2 h2
        by_cases h3 : 0 ≤ t.f2
        · by_cases h4 : 1 ≤ t.f3
          · simp [h1, h2, h2', h3, h4]
            by_cases h5 : t.f3 ≤ 1000000
            · have h6 : ¬ (1000000 < t.f3) := by omega
              simp [h5, h6, big]
            · have h6 : 1000000 < t.f3 := by omega
              simp [h5, h6]
          · simp [h1, h2, h2', h3, h4]
        · simp [h1, h2, h2', h3]
      · have h2' : ¬ t.f1.toList = [] := fun h => h2 ((tok_list_nil _).1 h)
        simp [h1, h2, h2']
    · simp [h0, h1]
def slices_ContainsFunc_tokens.f (l0 : List S148) : Option (Bool) := some (l0.any fun t => !tokGood t)
theorem any_take_snoc' {α : Type} (p : α → Bool) (l : List α) (z : α) (i : Nat) (hi : i < l.length) : ((l.take (i + 1)).any p) = ((l.take i).any p || p (l.getD i z)) := by
  rw [List.take_succ_eq_append_getElem hi, List.any_append]
  simp [List.getD_eq_getElem?_getD, List.getElem?_eq_getElem hi]
/-- An int that meets P came back; memory was made. -/
def SomeIntB (P : Int → Prop) (w : World) (e : Ending) (w' : World) : Prop := ∃ n : Int, e = .returned (.int .i64 n) ∧ P n ∧ Below w.heap.size w w'
set_option maxHeartbeats 4000000 in
set_option maxRecDepth 100000 in
theorem slices_IndexFunc_tokens (A0 : Option Addr) (c0 : Nat) (l0 : List S148) (w : World) (hr0 : Kd.C k148 w A0 l0.length l0) :
    Calls Tryd.prog 209 #[.slice A0 l0.length c0, .func (.func 186) #[] #[]] w fun e w' => SomeIntB (fun i => decide (0 ≤ i) = (l0.any fun t => !tokGood t)) w e w' := by
  have hu := Tryd.underlying148
  have hmax := hr0.2.1
  have HR := Aside0.mk hr0
  clear hr0
  go_enter Tryd.func209, Tryd.ntmps209
  go_wp2
  go_loopw [8] (fun v w' => ∃ i : Nat, v = .int .i64 i ∧ i ≤ l0.length ∧ Aside0 (((l0.take i).any fun t => !tokGood t) = false) ∧ Aside0 (Below w.heap.size w w')) (fun v _ => l0.length - (intOf v).toNat)
  case atStart => exact ⟨0, rfl, Nat.zero_le _, ⟨rfl⟩, ⟨Below.refl _ _⟩⟩
  case round =>
    obtain ⟨i, rfl, hi, HA, HB⟩ := hrel
    by_cases hlt : i < l0.length
    · obtain ⟨ad, rfl, hc0, hc1, hc2, hc3⟩ := at_T148 HR.out i (by omega) (by omega)
      rw [Int.toNat_natCast] at hc0 hc1 hc2 hc3
      replace hc0 := (HB.out.cell (World.block_lt_of_cell? w _ hc0)).trans hc0
      replace hc1 := (HB.out.cell (World.block_lt_of_cell? w _ hc1)).trans hc1
      replace hc2 := (HB.out.cell (World.block_lt_of_cell? w _ hc2)).trans hc2
      replace hc3 := (HB.out.cell (World.block_lt_of_cell? w _ hc3)).trans hc3
      have h0 : (0 : Int) ≤ (i : Int) := by omega
      have h1 : (i : Int) < (l0.length : Int) := by omega
      have HS := Aside0.mk (any_take_snoc' (fun t : S148 => !tokGood t) l0 z148 i hlt)
      have HF := Aside0.mk (tokens_1_tells (rd_T148 l0 i))
      by_cases hp : tokGood (rd_T148 l0 i) = true
      · have HP := Aside0.mk hp
        rw [hp] at HF
        clear hp
        go_wp2_with (go_at_call 186; refine (impl_tokensText_1.calls _ _ _ _ _ _ HF.out).mono ?_; rintro e w' ⟨rfl, hb⟩)
        go_roundw
        case rel => exact ⟨i + 1, by go_num, by omega, ⟨by rw [HS.out, HA.out]; have := HP.out; unfold rd_T148 at this; rw [Int.toNat_natCast] at this; rw [this]; rfl⟩, ⟨below_then HB.out HB.out.size hb⟩⟩
        case measure => simp [intOf]; omega
      · have HP := Aside0.mk hp
        rw [Bool.not_eq_true] at hp
        rw [hp] at HF
        clear hp
        go_wp2_with (go_at_call 186; refine (impl_tokensText_1.calls _ _ _ _ _ _ HF.out).mono ?_; rintro e w' ⟨rfl, hb⟩)
        go_ret
        refine ⟨i, rfl, ?_, below_then HB.out HB.out.size hb⟩
        have h2 : (l0.any fun t => !tokGood t) = true := by
          rw [List.any_eq_true]
          refine ⟨rd_T148 l0 i, ?_, by have := HP.out; simpa using this⟩
          unfold rd_T148
          rw [Int.toNat_natCast, List.getD_eq_getElem?_getD, List.getElem?_eq_getElem hlt]
          exact List.getElem_mem hlt
        rw [h2]
        simp
    · have HE := Aside0.mk (show i = l0.length by omega)
      go_wp2
      go_ret
      refine ⟨-1, rfl, ?_, HB.out⟩
      have h2 := HA.out
      rw [HE.out, List.take_length] at h2
      rw [h2]
      decide
theorem slices_ContainsFunc_tokens.calls (A0 : Option Addr) (c0 : Nat) (l0 : List S148) (r : Bool) (w : World) (hr0 : Kd.C k148 w A0 l0.length l0) (hc0 : l0.length ≤ c0) (h : slices_ContainsFunc_tokens.f l0 = some r) :
    Calls Tryd.prog 185 #[.slice A0 l0.length c0, .func (.func 186) #[] #[]] w fun e w' => e = .returned (.bool r) ∧ Below w.heap.size w w' := by
  obtain rfl := Option.some.inj h
  go_enter Tryd.func185, Tryd.ntmps185
  go_wp2_with (go_at_call 209; refine (slices_IndexFunc_tokens _ _ _ _ hr0).mono ?_; rintro e w' ⟨i, rfl, hi, hb⟩)
  go_ret
  exact ⟨by simp, hb⟩

/-! ### impl_tokensText: function 123 (by hand) -/
/-- The bytes of a right token. -/
def tokBytes (t : S148) : List UInt8 := if t.f0 = 0 then vti (2 * (t.f1.size : Int)) ++ t.f1.data.toList else vti (2 * t.f3 + 1) ++ vti t.f2
/-- The bytes of right tokens, a zero behind them. -/
def toksBytes (l : List S148) : List UInt8 := l.flatMap tokBytes ++ [0]
def impl_tokensText.f (l0 : List S148) : Option (ByteArray × Bool) := if 20000 < (l0.length : Int) then some (⟨#[]⟩, false) else if (l0.any fun t => !tokGood t) = true then some (⟨#[]⟩, false) else some (⟨(toksBytes l0).toArray⟩, true)
theorem tokBytes_len (t : S148) (h : tokGood t = true) : (tokBytes t).length ≤ 109 := by
  unfold tokGood at h
  simp only [Bool.and_eq_true, Bool.or_eq_true, decide_eq_true_eq] at h
  unfold tokBytes
  split
  · have h1 := vti_len (x := 2 * (t.f1.size : Int)) (by omega)
    rw [List.length_append, data_length]
    omega
  · have h1 := vti_len (x := 2 * t.f3 + 1) (by omega)
    have h2 := vti_len (x := t.f2) (by omega)
    rw [List.length_append]
    omega
theorem toks_len (l : List S148) (h : (l.any fun t => !tokGood t) = false) : (l.flatMap tokBytes).length ≤ 109 * l.length := by
  induction l with
  | nil => simp
  | cons t l ih =>
    simp only [List.any_cons, Bool.or_eq_false_iff] at h
    have h1 := tokBytes_len t (by simpa using h.1)
    have h2 := ih h.2
    simp only [List.flatMap_cons, List.length_append, List.length_cons]
    omega
set_option maxHeartbeats 4000000 in
set_option maxRecDepth 100000 in
theorem impl_tokensText.calls (A0 : Option Addr) (c0 : Nat) (l0 : List S148) (r1 : ByteArray) (r2 : Bool) (w : World) (hr0 : Kd.C k148 w A0 l0.length l0) (hc0 : l0.length ≤ c0) (h : impl_tokensText.f l0 = some (r1, r2)) :
    Calls Tryd.prog 123 #[.slice A0 l0.length c0] w fun e w' => e = .returned (.tuple #[.string r1, .bool r2]) ∧ Below w.heap.size w w' := by
  have hu := Tryd.underlying148
  have hu2 := Tryd.underlying191
  have hmax := hr0.2.1
  have HR := Aside0.mk hr0
  have HC0 := Aside0.mk hc0
  clear hr0 hc0
  unfold impl_tokensText.f at h
  by_cases c1 : 20000 < (l0.length : Int)
  · rw [if_pos c1] at h
    simp only [Option.some.injEq, Prod.mk.injEq] at h
    obtain ⟨rfl, rfl⟩ := h
    have c1b : decide (20000 < l0.length) = true := by simp; omega
    have c1c : decide ((20000 : Int) < (l0.length : Int)) = true := by simp; omega
    go_enter Tryd.func123, Tryd.ntmps123
    go_wp2
    go_ret2
    exact ⟨rfl, Below.refl _ _⟩
  rw [if_neg c1] at h
  have c1b : decide (20000 < l0.length) = false := by simp; omega
  have c1c : decide ((20000 : Int) < (l0.length : Int)) = false := by simp; omega
  have HF := Aside0.mk (show slices_ContainsFunc_tokens.f l0 = some (l0.any fun t => !tokGood t) from rfl)
  by_cases c2 : (l0.any fun t => !tokGood t) = true
  · rw [if_pos c2] at h
    simp only [Option.some.injEq, Prod.mk.injEq] at h
    obtain ⟨rfl, rfl⟩ := h
    rw [c2] at HF
    clear c2
    go_enter Tryd.func123, Tryd.ntmps123
    go_wp2_with (go_at_call 185; refine (slices_ContainsFunc_tokens.calls _ _ _ _ _ HR.out HC0.out HF.out).mono ?_; rintro e w' ⟨rfl, hb⟩)
    go_ret2
    exact ⟨rfl, hb⟩
  rw [if_neg c2] at h
  simp only [Option.some.injEq, Prod.mk.injEq] at h
  obtain ⟨rfl, rfl⟩ := h
  rw [Bool.not_eq_true] at c2
  rw [c2] at HF
  have HG := Aside0.mk c2
  have HL : Aside0 (l0.length ≤ 20000) := ⟨by omega⟩
  clear c2 c1
  go_enter Tryd.func123, Tryd.ntmps123
  go_wp2_with (go_at_call 185; refine (slices_ContainsFunc_tokens.calls _ _ _ _ _ HR.out HC0.out HF.out).mono ?_; rintro e w1 ⟨rfl, hb1⟩; have HB1 := Aside0.mk hb1; clear hb1; have HFB := Aside0.mk (Lib.fresh_isBuilder 191 5 w1))
  have hs1 := HB1.out.size
  go_loopw [16] (fun v w' => ∃ i : Nat, v = .int .i64 i ∧ i ≤ l0.length ∧ Aside0 (Lib.IsBuilder 191 5 w1.heap.size w1.heap.size (Lib.byteCells ((l0.take i).flatMap tokBytes)) w') ∧ Aside0 (Below w1.heap.size w1 w')) (fun v _ => l0.length - (intOf v).toNat)
  case atStart => exact ⟨0, rfl, Nat.zero_le _, HFB, ⟨(Below.refl _ _).alloc (Nat.le_refl _) _⟩⟩
  case round =>
    obtain ⟨i, rfl, hi, HBl, HB⟩ := hrel
    by_cases hlt : i < l0.length
    · obtain ⟨ad, rfl, hc0, hc1, hc2, hc3⟩ := at_T148 HR.out i (by omega) (by omega)
      rw [Int.toNat_natCast] at hc0 hc1 hc2 hc3
      have HBW := Aside0.mk (below_then HB1.out HB1.out.size HB.out)
      replace hc0 := (HBW.out.cell (World.block_lt_of_cell? w _ hc0)).trans hc0
      replace hc1 := (HBW.out.cell (World.block_lt_of_cell? w _ hc1)).trans hc1
      replace hc2 := (HBW.out.cell (World.block_lt_of_cell? w _ hc2)).trans hc2
      replace hc3 := (HBW.out.cell (World.block_lt_of_cell? w _ hc3)).trans hc3
      have h0 : (0 : Int) ≤ (i : Int) := by omega
      have h1 : (i : Int) < (l0.length : Int) := by omega
      have HGi : Aside0 (tokGood (rd_T148 l0 ↑i) = true) := ⟨by
        have h2 := HG.out
        rw [List.any_eq_false] at h2
        have h3 := h2 (rd_T148 l0 ↑i) (by unfold rd_T148; rw [Int.toNat_natCast, List.getD_eq_getElem?_getD, List.getElem?_eq_getElem hlt]; exact List.getElem_mem hlt)
        simpa using h3⟩
      have HS : Aside0 ((l0.take (i + 1)).flatMap tokBytes = (l0.take i).flatMap tokBytes ++ tokBytes (rd_T148 l0 ↑i)) := ⟨by
        rw [List.take_succ_eq_append_getElem hlt, List.flatMap_append]
        unfold rd_T148
        rw [Int.toNat_natCast, List.getD_eq_getElem?_getD, List.getElem?_eq_getElem hlt]
        simp⟩
      have HN : Aside0 (((l0.take i).flatMap tokBytes).length ≤ 109 * 20000) := ⟨by
        have h2 := toks_len (l0.take i) (by
          rw [List.any_eq_false]
          intro x hx
          have h3 := HG.out
          rw [List.any_eq_false] at h3
          exact h3 x (List.mem_of_mem_take hx))
        have h4 := HL.out
        have h5 : (l0.take i).length ≤ l0.length := List.length_take_le' _ _
        omega⟩
      have hsz : (rd_T148 l0 ↑i).f1.size ≤ 140737488355328 := by
        have h2 := HGi.out; unfold tokGood at h2; simp only [Bool.and_eq_true, Bool.or_eq_true, decide_eq_true_eq] at h2; omega
      have hf3 : (rd_T148 l0 ↑i).f3 ≤ 1000000 := by
        have h2 := HGi.out; unfold tokGood at h2; simp only [Bool.and_eq_true, Bool.or_eq_true, decide_eq_true_eq] at h2; omega
      have hf3' : 0 ≤ (rd_T148 l0 ↑i).f3 := by
        have h2 := HGi.out; unfold tokGood at h2; simp only [Bool.and_eq_true, Bool.or_eq_true, decide_eq_true_eq] at h2; omega
      have hf2 : (rd_T148 l0 ↑i).f2 ≤ 1000000 := by
        have h2 := HGi.out; unfold tokGood at h2; simp only [Bool.and_eq_true, Bool.or_eq_true, decide_eq_true_eq] at h2; omega
      have BK : Aside0 ((wr.alloc (.cells #[.int .i64 (rd_T148 l0 ↑i).f0, .string (rd_T148 l0 ↑i).f1, .int .i64 (rd_T148 l0 ↑i).f2, .int .i64 (rd_T148 l0 ↑i).f3] 148)).heap[wr.heap.size]? = some (.cells #[.int .i64 (rd_T148 l0 ↑i).f0, .string (rd_T148 l0 ↑i).f1, .int .i64 (rd_T148 l0 ↑i).f2, .int .i64 (rd_T148 l0 ↑i).f3] 148 (0, 0))) := ⟨blk_new _ _⟩
      have hne : wr.heap.size ≠ w1.heap.size := by
        have h2 := HBl.out
        rcases h2 with h2 | h2 <;> (have := h2.lt; omega)
      replace HBl := Aside0.mk (bld_below HBl.out (below_alloc (Below.refl _ _) (.cells #[.int .i64 (rd_T148 l0 ↑i).f0, .string (rd_T148 l0 ↑i).f1, .int .i64 (rd_T148 l0 ↑i).f2, .int .i64 (rd_T148 l0 ↑i).f3] 148)))
      replace HB := Aside0.mk (HB.out.alloc HB.out.size (.cells #[.int .i64 (rd_T148 l0 ↑i).f0, .string (rd_T148 l0 ↑i).f1, .int .i64 (rd_T148 l0 ↑i).f2, .int .i64 (rd_T148 l0 ↑i).f3] 148))
      by_cases hk : (rd_T148 l0 ↑i).f0 = 0
      · have hk1 : ((rd_T148 l0 ↑i).f0 == 0) = true := by simp [hk]
        have HK := Aside0.mk hk
        clear hk
        obtain ⟨s1, hs1_⟩ : ∃ s : ByteArray, s = ⟨(vti (2 * ((rd_T148 l0 ↑i).f1.size : Int))).toArray⟩ := ⟨_, rfl⟩
        have Hs1 := Aside0.mk hs1_
        clear hs1_
        have HV1 : Aside0 (impl_varText.f (wrap64 (2 * ((rd_T148 l0 ↑i).f1.size : Int))) = some s1) := ⟨by
          rw [Hs1.out]
          rw [show wrap64 (2 * ((rd_T148 l0 ↑i).f1.size : Int)) = 2 * ((rd_T148 l0 ↑i).f1.size : Int) from by unfold wrap64; omega]
          unfold impl_varText.f
          rw [if_pos (by omega)]⟩
        have hlen : (Lib.byteCells ((l0.take i).flatMap tokBytes)).length + (s1 ++ (rd_T148 l0 ↑i).f1 : ByteArray).size ≤ 140737488355328 := by
          rw [Lib.byteCells_length]
          have h2 := HN.out
          have h3 := tokBytes_len _ HGi.out
          unfold tokBytes at h3
          rw [if_pos HK.out, List.length_append, data_length] at h3
          rw [ByteArray.size_append]
          rw [Hs1.out]
          show _ + ((vti (2 * ((rd_T148 l0 ↑i).f1.size : Int))).toArray.size + _) ≤ _
          rw [List.size_toArray]
          omega
        have hcat : (9223372036854775807 < s1.size + (rd_T148 l0 ↑i).f1.size) = False := eq_false (by
          have h2 := hlen
          rw [ByteArray.size_append] at h2
          omega)
        go_wp2_with fail
        replace BK := Aside0.mk (blk_drew BK.out)
        replace HB := Aside0.mk (below_drew1 HB.out)
        replace HBl := Aside0.mk (bld_drew HBl.out)
        refine start_ (n := 9) (S := fun w' => w'.cell? ⟨wr.heap.size, 1, none⟩ = some (.string (rd_T148 l0 ↑i).f1)) (ds := []) #[false, false, false, false, false, false, false, false, false] (by kernel_rfl) rfl rfl ((blk_cell BK.out 1).trans rfl) (fun hHeld => ?_)
        generalize (wr.alloc (.cells #[.int .i64 (rd_T148 l0 ↑i).f0, .string (rd_T148 l0 ↑i).f1, .int .i64 (rd_T148 l0 ↑i).f2, .int .i64 (rd_T148 l0 ↑i).f3] 148)).drew = w6 at BK HBl HB hHeld ⊢
        refine pure_ (i := 0) (N := some 23) (v := ?_) (a' := ?_) #[true, false, false, false, false, false, false, false, false] rfl rfl (by kernel_rfl) (fun _ _ _ h => h) (Or.inl ⟨by rfl, ?_⟩) ?_ ?_
        rotate_left
        · intro w'
          go_simp
          with_reducible rfl
        rotate_left
        · simp only [Act.put, List.setIfInBounds_toArray, List.set_cons_zero, List.set_cons_succ, i64_w, i32_w]
          rfl
        refine take_ (i := 1) (N := some 24) (v := ?_) (a' := ?_) #[true, true, false, false, false, false, false, false, false] rfl rfl (by kernel_rfl) (fun _ _ _ h => h) (Or.inl ⟨by rfl, ?_⟩) hHeld ?_ ?_
        rotate_left
        · rintro w' s0
          go_simp
          with_reducible rfl
        rotate_left
        · simp only [Act.put, List.setIfInBounds_toArray, List.set_cons_zero, List.set_cons_succ, i64_w, i32_w]
          rfl
        refine pure_ (i := 2) (N := some 25) (v := ?_) (a' := ?_) #[true, true, true, false, false, false, false, false, false] rfl rfl (by kernel_rfl) (fun _ _ _ h => h) (Or.inl ⟨by rfl, ?_⟩) ?_ ?_
        rotate_left
        · intro w'
          go_simp
          with_reducible rfl
        rotate_left
        · simp only [Act.put, List.setIfInBounds_toArray, List.set_cons_zero, List.set_cons_succ, i64_w, i32_w]
          rfl
        refine pure_ (i := 3) (N := some 26) (v := ?_) (a' := ?_) #[true, true, true, true, false, false, false, false, false] rfl rfl (by kernel_rfl) (fun _ _ _ h => h) (Or.inl ⟨by rfl, ?_⟩) ?_ ?_
        rotate_left
        · intro w'
          go_simp
          with_reducible rfl
        rotate_left
        · simp only [Act.put, List.setIfInBounds_toArray, List.set_cons_zero, List.set_cons_succ, i64_w, i32_w]
          rfl
        refine pure_ (i := 5) (N := some 28) (v := ?_) (a' := ?_) #[true, true, true, true, false, true, false, false, false] rfl rfl (by kernel_rfl) (fun _ _ _ h => h) (Or.inl ⟨by rfl, ?_⟩) ?_ ?_
        rotate_left
        · intro w'
          go_simp
          with_reducible rfl
        rotate_left
        · simp only [Act.put, List.setIfInBounds_toArray, List.set_cons_zero, List.set_cons_succ, i64_w, i32_w]
          rfl
        refine take_ (i := 6) (N := some 29) (v := ?_) (a' := ?_) #[true, true, true, true, false, true, true, false, false] rfl rfl (by kernel_rfl) (fun _ _ _ h => h) (Or.inl ⟨by rfl, ?_⟩) hHeld ?_ ?_
        rotate_left
        · rintro w' s0
          go_simp
          with_reducible rfl
        rotate_left
        · simp only [Act.put, List.setIfInBounds_toArray, List.set_cons_zero, List.set_cons_succ, i64_w, i32_w]
          rfl
        refine one_ (i := 4) (N := some 27) #[true, true, true, true, true, true, true, false, false] rfl rfl (by kernel_rfl) (by decide) (fun K hK => ?_)
        refine goes_ Tryd.func139 (by kernel_rfl) rfl #[.int .i64 (wrap64 (2 * ((rd_T148 l0 ↑i).f1.size : Int)))] (by rfl) rfl rfl mt ?_
        refine (impl_varText.calls _ _ _ HV1.out).mono ?_
        rintro e w7 ⟨rfl, hb⟩
        refine ⟨_, rfl, ?_⟩
        replace BK := Aside0.mk (blk_below BK.out hb)
        replace HBl := Aside0.mk (bld_below HBl.out hb)
        replace HB := Aside0.mk (below_then HB.out HB.out.size hb)
        clear hb
        refine hK.out _ _ ((blk_cell BK.out 1).trans rfl) (fun hHeld => ?_)
        clear hK K
        refine norm_ (a' := ?_) ?_ ?_
        rotate_left
        · show Act.put _ (some 27) _ = _
          simp only [Act.put, List.setIfInBounds_toArray, List.set_cons_zero, List.set_cons_succ, i64_w, i32_w]
          rfl
        refine pure_ (i := 7) (N := some 30) (v := ?_) (a' := ?_) #[true, true, true, true, true, true, true, true, false] rfl rfl (by kernel_rfl) (fun _ _ _ h => h) (Or.inl ⟨by rfl, ?_⟩) ?_ ?_
        rotate_left
        · intro w'
          go_simp
          with_reducible rfl
        rotate_left
        · simp only [Act.put, List.setIfInBounds_toArray, List.set_cons_zero, List.set_cons_succ, i64_w, i32_w]
          rfl
        refine one_ (i := 8) (N := some 31) #[true, true, true, true, true, true, true, true, true] rfl rfl (by kernel_rfl) (by decide) (fun K hK => ?_)
        refine goes_ Tryd.func176 (by kernel_rfl) rfl #[.pointer (some ⟨w1.heap.size, 0, none⟩), .string (s1 ++ (rd_T148 l0 ↑i).f1)] (by rfl) rfl rfl mt ?_
        refine (bld_writeString _ _ _ _ _ HBl.out hlen HB.out.size).mono ?_
        rintro e w9 ⟨rfl, hbl2, hb, hk⟩
        refine ⟨_, rfl, ?_⟩
        replace BK := Aside0.mk (bld_other hk BK.out hne (by decide))
        replace HBl := Aside0.mk hbl2
        replace HB := Aside0.mk (HB.out.trans hb)
        clear hb hk hbl2
        refine hK.out _ _ ((blk_cell BK.out 1).trans rfl) (fun hHeld => ?_)
        clear hK K
        refine norm_ (a' := ?_) ?_ ?_
        rotate_left
        · show Act.put _ (some 31) _ = _
          simp only [Act.put, List.setIfInBounds_toArray, List.set_cons_zero, List.set_cons_succ, i64_w, i32_w]
          rfl
        refine done_ (by kernel_rfl) ?_
        try go_wp2
        go_roundw
        case rel =>
          refine ⟨i + 1, by go_num, by omega, ?_, HB⟩
          rw [HS.out]
          refine ⟨?_⟩
          have h2 : Lib.byteCells ((l0.take i).flatMap tokBytes) ++ Lib.strCells (s1 ++ (rd_T148 l0 ↑i).f1) = Lib.byteCells ((l0.take i).flatMap tokBytes ++ tokBytes (rd_T148 l0 ↑i)) := by
            rw [Lib.strCells_eq, Lib.byteCells_append]
            congr 2
            unfold tokBytes
            rw [if_pos HK.out, Hs1.out]
            simp [ByteArray.data_append]
          rw [← h2]
          exact .inr HBl.out
        case measure => simp [intOf]; omega
      · have hk1 : ((rd_T148 l0 ↑i).f0 == 0) = false := by simp [hk]
        have HK := Aside0.mk hk
        clear hk
        obtain ⟨s1, hs1_⟩ : ∃ s : ByteArray, s = ⟨(vti (2 * (rd_T148 l0 ↑i).f3 + 1)).toArray⟩ := ⟨_, rfl⟩
        have Hs1 := Aside0.mk hs1_
        clear hs1_
        obtain ⟨s2, hs2_⟩ : ∃ s : ByteArray, s = ⟨(vti (rd_T148 l0 ↑i).f2).toArray⟩ := ⟨_, rfl⟩
        have Hs2 := Aside0.mk hs2_
        clear hs2_
        have HV1 : Aside0 (impl_varText.f (wrap64 (wrap64 (2 * (rd_T148 l0 ↑i).f3) + 1)) = some s1) := ⟨by
          rw [Hs1.out]
          rw [show wrap64 (wrap64 (2 * (rd_T148 l0 ↑i).f3) + 1) = 2 * (rd_T148 l0 ↑i).f3 + 1 from by unfold wrap64; omega]
          unfold impl_varText.f
          rw [if_pos (by omega)]⟩
        have HV2 : Aside0 (impl_varText.f (rd_T148 l0 ↑i).f2 = some s2) := ⟨by rw [Hs2.out]; unfold impl_varText.f; rw [if_pos (by omega)]⟩
        have hlen : (Lib.byteCells ((l0.take i).flatMap tokBytes)).length + (s1 ++ s2 : ByteArray).size ≤ 140737488355328 := by
          rw [Lib.byteCells_length]
          have h2 := HN.out
          have h3 := tokBytes_len _ HGi.out
          unfold tokBytes at h3
          rw [if_neg HK.out, List.length_append] at h3
          rw [ByteArray.size_append]
          rw [Hs1.out, Hs2.out]
          show _ + ((vti (2 * (rd_T148 l0 ↑i).f3 + 1)).toArray.size + (vti (rd_T148 l0 ↑i).f2).toArray.size) ≤ _
          rw [List.size_toArray, List.size_toArray]
          omega
        have hcat : (9223372036854775807 < s1.size + s2.size) = False := eq_false (by
          have h2 := hlen
          rw [ByteArray.size_append] at h2
          omega)
        go_wp2_with fail
        replace BK := Aside0.mk (blk_drew BK.out)
        replace HB := Aside0.mk (below_drew1 HB.out)
        replace HBl := Aside0.mk (bld_drew HBl.out)
        refine start_ (n := 10) (S := fun w' => w'.cell? ⟨wr.heap.size, 3, none⟩ = some (.int .i64 (rd_T148 l0 ↑i).f3) ∧ w'.cell? ⟨wr.heap.size, 2, none⟩ = some (.int .i64 (rd_T148 l0 ↑i).f2)) (ds := []) #[false, false, false, false, false, false, false, false, false, false] (by kernel_rfl) rfl rfl ⟨(blk_cell BK.out 3).trans rfl, (blk_cell BK.out 2).trans rfl⟩ (fun hHeld => ?_)
        generalize (wr.alloc (.cells #[.int .i64 (rd_T148 l0 ↑i).f0, .string (rd_T148 l0 ↑i).f1, .int .i64 (rd_T148 l0 ↑i).f2, .int .i64 (rd_T148 l0 ↑i).f3] 148)).drew = w6 at BK HBl HB hHeld ⊢
        refine pure_ (i := 0) (N := some 32) (v := ?_) (a' := ?_) #[true, false, false, false, false, false, false, false, false, false] rfl rfl (by kernel_rfl) (fun _ _ _ h => h) (Or.inl ⟨by rfl, ?_⟩) ?_ ?_
        rotate_left
        · intro w'
          go_simp
          with_reducible rfl
        rotate_left
        · simp only [Act.put, List.setIfInBounds_toArray, List.set_cons_zero, List.set_cons_succ, i64_w, i32_w]
          rfl
        refine take_ (i := 1) (N := some 33) (v := ?_) (a' := ?_) #[true, true, false, false, false, false, false, false, false, false] rfl rfl (by kernel_rfl) (fun _ _ _ h => h) (Or.inl ⟨by rfl, ?_⟩) hHeld ?_ ?_
        rotate_left
        · rintro w' ⟨s0, s1⟩
          go_simp
          with_reducible rfl
        rotate_left
        · simp only [Act.put, List.setIfInBounds_toArray, List.set_cons_zero, List.set_cons_succ, i64_w, i32_w]
          rfl
        refine pure_ (i := 2) (N := some 34) (v := ?_) (a' := ?_) #[true, true, true, false, false, false, false, false, false, false] rfl rfl (by kernel_rfl) (fun _ _ _ h => h) (Or.inl ⟨by rfl, ?_⟩) ?_ ?_
        rotate_left
        · intro w'
          go_simp
          with_reducible rfl
        rotate_left
        · simp only [Act.put, List.setIfInBounds_toArray, List.set_cons_zero, List.set_cons_succ, i64_w, i32_w]
          rfl
        refine pure_ (i := 3) (N := some 35) (v := ?_) (a' := ?_) #[true, true, true, true, false, false, false, false, false, false] rfl rfl (by kernel_rfl) (fun _ _ _ h => h) (Or.inl ⟨by rfl, ?_⟩) ?_ ?_
        rotate_left
        · intro w'
          go_simp
          with_reducible rfl
        rotate_left
        · simp only [Act.put, List.setIfInBounds_toArray, List.set_cons_zero, List.set_cons_succ, i64_w, i32_w]
          rfl
        refine pure_ (i := 5) (N := some 37) (v := ?_) (a' := ?_) #[true, true, true, true, false, true, false, false, false, false] rfl rfl (by kernel_rfl) (fun _ _ _ h => h) (Or.inl ⟨by rfl, ?_⟩) ?_ ?_
        rotate_left
        · intro w'
          go_simp
          with_reducible rfl
        rotate_left
        · simp only [Act.put, List.setIfInBounds_toArray, List.set_cons_zero, List.set_cons_succ, i64_w, i32_w]
          rfl
        refine take_ (i := 6) (N := some 38) (v := ?_) (a' := ?_) #[true, true, true, true, false, true, true, false, false, false] rfl rfl (by kernel_rfl) (fun _ _ _ h => h) (Or.inl ⟨by rfl, ?_⟩) hHeld ?_ ?_
        rotate_left
        · rintro w' ⟨s0, s1⟩
          go_simp
          with_reducible rfl
        rotate_left
        · simp only [Act.put, List.setIfInBounds_toArray, List.set_cons_zero, List.set_cons_succ, i64_w, i32_w]
          rfl
        refine one_ (i := 4) (N := some 36) #[true, true, true, true, true, true, true, false, false, false] rfl rfl (by kernel_rfl) (by decide) (fun K hK => ?_)
        refine goes_ Tryd.func139 (by kernel_rfl) rfl #[.int .i64 (wrap64 (wrap64 (2 * (rd_T148 l0 ↑i).f3) + 1))] (by rfl) rfl rfl mt ?_
        refine (impl_varText.calls _ _ _ HV1.out).mono ?_
        rintro e w7 ⟨rfl, hb⟩
        refine ⟨_, rfl, ?_⟩
        replace BK := Aside0.mk (blk_below BK.out hb)
        replace HBl := Aside0.mk (bld_below HBl.out hb)
        replace HB := Aside0.mk (below_then HB.out HB.out.size hb)
        clear hb
        refine hK.out _ _ ⟨(blk_cell BK.out 3).trans rfl, (blk_cell BK.out 2).trans rfl⟩ (fun hHeld => ?_)
        clear hK K
        refine norm_ (a' := ?_) ?_ ?_
        rotate_left
        · show Act.put _ (some 36) _ = _
          simp only [Act.put, List.setIfInBounds_toArray, List.set_cons_zero, List.set_cons_succ, i64_w, i32_w]
          rfl
        refine one_ (i := 7) (N := some 39) #[true, true, true, true, true, true, true, true, false, false] rfl rfl (by kernel_rfl) (by decide) (fun K hK => ?_)
        refine goes_ Tryd.func139 (by kernel_rfl) rfl #[.int .i64 ((rd_T148 l0 ↑i).f2)] (by rfl) rfl rfl mt ?_
        refine (impl_varText.calls _ _ _ HV2.out).mono ?_
        rintro e w8 ⟨rfl, hb⟩
        refine ⟨_, rfl, ?_⟩
        replace BK := Aside0.mk (blk_below BK.out hb)
        replace HBl := Aside0.mk (bld_below HBl.out hb)
        replace HB := Aside0.mk (below_then HB.out HB.out.size hb)
        clear hb
        refine hK.out _ _ ⟨(blk_cell BK.out 3).trans rfl, (blk_cell BK.out 2).trans rfl⟩ (fun hHeld => ?_)
        clear hK K
        refine norm_ (a' := ?_) ?_ ?_
        rotate_left
        · show Act.put _ (some 39) _ = _
          simp only [Act.put, List.setIfInBounds_toArray, List.set_cons_zero, List.set_cons_succ, i64_w, i32_w]
          rfl
        refine pure_ (i := 8) (N := some 40) (v := ?_) (a' := ?_) #[true, true, true, true, true, true, true, true, true, false] rfl rfl (by kernel_rfl) (fun _ _ _ h => h) (Or.inl ⟨by rfl, ?_⟩) ?_ ?_
        rotate_left
        · intro w'
          go_simp
          with_reducible rfl
        rotate_left
        · simp only [Act.put, List.setIfInBounds_toArray, List.set_cons_zero, List.set_cons_succ, i64_w, i32_w]
          rfl
        refine one_ (i := 9) (N := some 41) #[true, true, true, true, true, true, true, true, true, true] rfl rfl (by kernel_rfl) (by decide) (fun K hK => ?_)
        refine goes_ Tryd.func176 (by kernel_rfl) rfl #[.pointer (some ⟨w1.heap.size, 0, none⟩), .string (s1 ++ s2)] (by rfl) rfl rfl mt ?_
        refine (bld_writeString _ _ _ _ _ HBl.out hlen HB.out.size).mono ?_
        rintro e w9 ⟨rfl, hbl2, hb, hk⟩
        refine ⟨_, rfl, ?_⟩
        replace BK := Aside0.mk (bld_other hk BK.out hne (by decide))
        replace HBl := Aside0.mk hbl2
        replace HB := Aside0.mk (HB.out.trans hb)
        clear hb hk hbl2
        refine hK.out _ _ ⟨(blk_cell BK.out 3).trans rfl, (blk_cell BK.out 2).trans rfl⟩ (fun hHeld => ?_)
        clear hK K
        refine norm_ (a' := ?_) ?_ ?_
        rotate_left
        · show Act.put _ (some 41) _ = _
          simp only [Act.put, List.setIfInBounds_toArray, List.set_cons_zero, List.set_cons_succ, i64_w, i32_w]
          rfl
        refine done_ (by kernel_rfl) ?_
        try go_wp2
        go_roundw
        case rel =>
          refine ⟨i + 1, by go_num, by omega, ?_, HB⟩
          rw [HS.out]
          refine ⟨?_⟩
          have h2 : Lib.byteCells ((l0.take i).flatMap tokBytes) ++ Lib.strCells (s1 ++ s2) = Lib.byteCells ((l0.take i).flatMap tokBytes ++ tokBytes (rd_T148 l0 ↑i)) := by
            rw [Lib.strCells_eq, Lib.byteCells_append]
            congr 2
            unfold tokBytes
            rw [if_neg HK.out, Hs1.out, Hs2.out]
            simp [ByteArray.data_append]
          rw [← h2]
          exact .inr HBl.out
        case measure => simp [intOf]; omega
    · have HE := Aside0.mk (show i = l0.length by omega)
      have HT : Aside0 ((l0.take i).flatMap tokBytes = l0.flatMap tokBytes) := ⟨by rw [HE.out, List.take_length]⟩
      rw [HT.out] at HBl
      have hlen : (Lib.byteCells (l0.flatMap tokBytes)).length + 1 ≤ 140737488355328 := by
        rw [Lib.byteCells_length]
        have h2 := toks_len l0 HG.out
        have h4 := HL.out
        omega
      go_wp2_with (go_at_call 187; refine (bld_writeByte _ _ _ _ _ HBl.out hlen HB.out.size).mono ?_; rintro e w2 ⟨rfl, hb2, hB2, -⟩)
      have HC : Aside0 (Lib.byteCells (l0.flatMap tokBytes) ++ [Value.int .u8 0] = Lib.byteCells (toksBytes l0)) := ⟨by unfold toksBytes; rw [Lib.byteCells_append]; rfl⟩
      rw [HC.out] at hb2
      have hs2 : w1.heap.size ≤ w2.heap.size := Nat.le_trans HB.out.size hB2.size
      go_wp2_with (go_at_call 179; refine (Tryd.Builder_String_any _ _ _ _ (.inr hb2) hs2).mono ?_; rintro e w3 ⟨rfl, hB3⟩)
      go_ret2
      exact ⟨rfl, below_then HB1.out hs1 (((HB.out.trans hB2).trans hB3))⟩

/-! ### impl_Sig_isNone: function 150 -/
def impl_Sig_isNone.f (a0_0 : Int) (a0_1 : Int) (l0_2 : List Int) (l0_3 : List ByteArray) : Option (Bool) := if a0_0 = 0 then (if a0_1 = 0 then (if (l0_2.length : Int) = 0 then (some ((l0_3.length : Int) == 0)) else (some false)) else (some false)) else (some false)
set_option maxHeartbeats 8000000 in
set_option maxRecDepth 100000 in
theorem impl_Sig_isNone.calls (a0_0 : Int) (a0_1 : Int) (A0_2 : Option Addr) (c0_2 : Nat) (l0_2 : List Int) (A0_3 : Option Addr) (c0_3 : Nat) (l0_3 : List ByteArray) (r : Bool) (w : World) (hr0_2 : Kd.C (Kd.int .u32) w A0_2 l0_2.length l0_2) (hc0_2 : l0_2.length ≤ c0_2) (hr0_3 : Kd.C Kd.string w A0_3 l0_3.length l0_3) (hc0_3 : l0_3.length ≤ c0_3) (h : impl_Sig_isNone.f a0_0 a0_1 l0_2 l0_3 = some r) :
  Calls Tryd.prog 150 #[.agg #[.int .i64 a0_0, .int .i64 a0_1, .slice A0_2 l0_2.length c0_2, .slice A0_3 l0_3.length c0_3]] w fun e w' => e = .returned (.bool r) ∧ Below w.heap.size w w' := by
 have hu30 := Tryd.underlying30
 have HR0_2 := Aside0.mk hr0_2
 have HC0_2 := Aside0.mk hc0_2
 clear hr0_2 hc0_2
 have HR0_3 := Aside0.mk hr0_3
 have HC0_3 := Aside0.mk hc0_3
 clear hr0_3 hc0_3
 have HB := Aside0.mk (Below.refl w.heap.size w)
 have H : (if a0_0 = 0 then (if a0_1 = 0 then (if (l0_2.length : Int) = 0 then (some ((l0_3.length : Int) == 0)) else (some false)) else (some false)) else (some false)) = some r := h
 clear h
 by_cases c2 : a0_0 = 0
 ·rw [if_pos c2] at H
  have c2b0 : (a0_0 == 0) = true := beq_iff_eq.mpr c2
  have c2b1 : (a0_0 != 0) = false := bne_eq_false_iff_eq.mpr c2
  clear c2
  by_cases c3 : a0_1 = 0
  ·rw [if_pos c3] at H
   have c3b0 : (a0_1 == 0) = true := beq_iff_eq.mpr c3
   have c3b1 : (a0_1 != 0) = false := bne_eq_false_iff_eq.mpr c3
   clear c3
   by_cases c4 : (l0_2.length : Int) = 0
   ·rw [if_pos c4] at H
    have c4b0 : ((l0_2.length : Int) == 0) = true := beq_iff_eq.mpr c4
    have c4b1 : ((l0_2.length : Int) != 0) = false := bne_eq_false_iff_eq.mpr c4
    clear c4
    obtain rfl := Option.some.inj H
    go_enter Tryd.func150, Tryd.ntmps150
    go_wp2_with (first | ((with_reducible refine gate_dst (N := 1) rfl ?_); (try (refine gate_guard (by rfl) ?_; dsimp only)); refine box_event ?hg (N := 1) ?hd (cs := #[.int .i64 a0_0, .int .i64 a0_1, .slice A0_2 l0_2.length c0_2, .slice A0_3 l0_3.length c0_3]) (t := 30) ?hr ?_; (case hd => rfl); (case hg => rfl); (case hr => first | (go_simp; done) | (go_simp; rfl)); intro gb289 hg w5 hbox hb; have n0_ := Aside0.mk (below_step bz hb); have n1_ := Aside0.mk (hbox); have n2_ := Aside0.mk (bg : w.heap.size ≤ gb289); have n3_ := Aside0.mk (bg : w.heap.size ≤ gb289); clear HB; have HB := n0_; have BK289 := n1_; have GW289 := n2_; have GE289 := n3_; clear n0_ n1_ n2_ n3_; clear hb hbox hg; obtain ⟨hcz6_0, hcz6_1, hcz6_2, hcz6_3, hfz6_0, hfz6_1, hfz6_2, hfz6_3⟩ := bc4 BK289.out))
    go_ret
    exact ⟨rq, bz⟩
   ·rw [if_neg c4] at H
    have c4b0 : ((l0_2.length : Int) == 0) = false := beq_eq_false_iff_ne.mpr c4
    have c4b1 : ((l0_2.length : Int) != 0) = true := bne_iff_ne.mpr c4
    have c4b2 : ¬ (l0_2 = []) := fun h_ => c4 (by rw [h_]; rfl)
    obtain rfl := Option.some.inj H
    go_enter Tryd.func150, Tryd.ntmps150
    go_wp2_with (first | ((with_reducible refine gate_dst (N := 1) rfl ?_); (try (refine gate_guard (by rfl) ?_; dsimp only)); refine box_event ?hg (N := 1) ?hd (cs := #[.int .i64 a0_0, .int .i64 a0_1, .slice A0_2 l0_2.length c0_2, .slice A0_3 l0_3.length c0_3]) (t := 30) ?hr ?_; (case hd => rfl); (case hg => rfl); (case hr => first | (go_simp; done) | (go_simp; rfl)); intro gb289 hg w7 hbox hb; have n0_ := Aside0.mk (below_step bz hb); have n1_ := Aside0.mk (hbox); have n2_ := Aside0.mk (bg : w.heap.size ≤ gb289); have n3_ := Aside0.mk (bg : w.heap.size ≤ gb289); clear HB; have HB := n0_; have BK289 := n1_; have GW289 := n2_; have GE289 := n3_; clear n0_ n1_ n2_ n3_; clear hb hbox hg; obtain ⟨hcz8_0, hcz8_1, hcz8_2, hcz8_3, hfz8_0, hfz8_1, hfz8_2, hfz8_3⟩ := bc4 BK289.out))
    go_ret
    exact ⟨rq, bz⟩
  ·rw [if_neg c3] at H
   have c3b0 : (a0_1 == 0) = false := beq_eq_false_iff_ne.mpr c3
   have c3b1 : (a0_1 != 0) = true := bne_iff_ne.mpr c3
   obtain rfl := Option.some.inj H
   go_enter Tryd.func150, Tryd.ntmps150
   go_wp2_with (first | ((with_reducible refine gate_dst (N := 1) rfl ?_); (try (refine gate_guard (by rfl) ?_; dsimp only)); refine box_event ?hg (N := 1) ?hd (cs := #[.int .i64 a0_0, .int .i64 a0_1, .slice A0_2 l0_2.length c0_2, .slice A0_3 l0_3.length c0_3]) (t := 30) ?hr ?_; (case hd => rfl); (case hg => rfl); (case hr => first | (go_simp; done) | (go_simp; rfl)); intro gb289 hg w9 hbox hb; have n0_ := Aside0.mk (below_step bz hb); have n1_ := Aside0.mk (hbox); have n2_ := Aside0.mk (bg : w.heap.size ≤ gb289); have n3_ := Aside0.mk (bg : w.heap.size ≤ gb289); clear HB; have HB := n0_; have BK289 := n1_; have GW289 := n2_; have GE289 := n3_; clear n0_ n1_ n2_ n3_; clear hb hbox hg; obtain ⟨hcz10_0, hcz10_1, hcz10_2, hcz10_3, hfz10_0, hfz10_1, hfz10_2, hfz10_3⟩ := bc4 BK289.out))
   go_ret
   exact ⟨rq, bz⟩
 ·rw [if_neg c2] at H
  have c2b0 : (a0_0 == 0) = false := beq_eq_false_iff_ne.mpr c2
  have c2b1 : (a0_0 != 0) = true := bne_iff_ne.mpr c2
  obtain rfl := Option.some.inj H
  go_enter Tryd.func150, Tryd.ntmps150
  go_wp2_with (first | ((with_reducible refine gate_dst (N := 1) rfl ?_); (try (refine gate_guard (by rfl) ?_; dsimp only)); refine box_event ?hg (N := 1) ?hd (cs := #[.int .i64 a0_0, .int .i64 a0_1, .slice A0_2 l0_2.length c0_2, .slice A0_3 l0_3.length c0_3]) (t := 30) ?hr ?_; (case hd => rfl); (case hg => rfl); (case hr => first | (go_simp; done) | (go_simp; rfl)); intro gb289 hg w11 hbox hb; have n0_ := Aside0.mk (below_step bz hb); have n1_ := Aside0.mk (hbox); have n2_ := Aside0.mk (bg : w.heap.size ≤ gb289); have n3_ := Aside0.mk (bg : w.heap.size ≤ gb289); clear HB; have HB := n0_; have BK289 := n1_; have GW289 := n2_; have GE289 := n3_; clear n0_ n1_ n2_ n3_; clear hb hbox hg; obtain ⟨hcz12_0, hcz12_1, hcz12_2, hcz12_3, hfz12_0, hfz12_1, hfz12_2, hfz12_3⟩ := bc4 BK289.out))
  go_ret
  exact ⟨rq, bz⟩

end Go.Proofs.YtjiaigjmihmdjaaDoor.PFnExactTakeAnswer
