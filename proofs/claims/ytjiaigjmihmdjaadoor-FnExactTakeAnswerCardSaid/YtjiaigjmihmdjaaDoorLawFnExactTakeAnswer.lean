/- The row and the tied card of FnExactTakeAnswer: the message and the laid tables opened, the call joined with the plain law. -/
import Derived.Test.YtjiaigjmihmdjaaDoorCards
import Derived.Test.YtjiaigjmihmdjaaDoorTie
import Derived.Test.YtjiaigjmihmdjaaDoorPFnExactTakeAnswerx12
import Derived.Test.YtjiaigjmihmdjaaDoorFnExactTakeAnswerTake
import Derived.WalkKit
import Derived.ProofKit
import Derived.OpenShut
import Derived.ShutString
import Derived.ChangeOld
import Derived.ChangeArms
import Derived.Below
import Derived.OpenVars
import Derived.SizedLaws
import Derived.LaidMore
import Derived.LaidLaws
import Derived.Lib.LaidTab
import Derived.Stop.Joined
import Derived.MakeChecks
import Derived.SevenTiedAt
namespace Go.Proofs.YtjiaigjmihmdjaaDoor.fnExactTakeAnswer
open Go.ChangeShapes Go.WideShapes Go.ChangeAt Go.RowKit
open Go.Proofs.YtjiaigjmihmdjaaDoorW.PrintWords
open Go.Proofs.YtjiaigjmihmdjaaDoor.PFnExactTakeAnswer
set_option linter.unusedVariables false
set_option maxRecDepth 100000
theorem own : ownKnob Tryd.prog.godebug = none := by kernel_rfl
theorem laidOut : laidOutB Tryd.prog = true := by kernel_rfl

/-! ### A slice that reads is a row -/
theorem cells_at {w : World} {b : Nat} {a : Addr} {n : Nat} {cs : List Value} (h : w.cells? b a n = some cs) : cs.length = n ∧ ∀ i u, cs[i]? = some u → w.cell? (a.add i) = some u := by
  unfold World.cells? at h
  split at h
  · have hl : cs.length = n := by simpa using Lib.mapM_length h
    refine ⟨hl, fun i u hu => ?_⟩
    have hi : i < n := by have := (List.getElem?_eq_some_iff.1 hu).1; omega
    obtain ⟨b', hb, hf⟩ := Lib.mapM_at h i i (by simp [hi])
    rw [hb] at hu
    cases hu
    exact hf
  · cases h
theorem reads_slice {H α : Type} {enc : TypeId × Value → H} {P : Program} {w : World} {spare : Nat → Bool} {held : Bool} {t e : TypeId} (d : Kd α) (good : α → Prop)
    (ht : P.underlying t = some (.slice e)) (hc : P.cellsOf e = d.sz)
    (hK : ∀ (fuel : Nat) (cs : List Value) (x : DataW H × List MemPlace), DataW.trod enc P w 0 spare held fuel e cs = some x → ∃ y : α, d.K w y cs ∧ good y)
    {fuel : Nat} {cs : List Value} {x : DataW H × List MemPlace} (h : DataW.trod enc P w 0 spare held fuel t cs = some x) :
    ∃ (A : Option Addr) (cap : Nat) (xs : List α), cs = [.slice A xs.length cap] ∧ xs.length ≤ cap ∧ d.C w A xs.length xs ∧ xs.length ≤ 9223372036854775807 ∧ ∀ y ∈ xs, good y := by
  rcases DataW.trod_slice ht h with ⟨rfl, _⟩ | ⟨a, len, cap, elems, rest, n, _, rfl, _, _, hl, hm, hel, hat, _⟩
  · exact ⟨none, 0, [], rfl, Nat.le_refl _, ⟨rfl, by simp, fun h => absurd h (by simp)⟩, by simp, fun y hy => by simp at hy⟩
  · have hmx : len ≤ 9223372036854775807 := by
      have : maxLen = 9223372036854775807 := by decide
      omega
    have each : ∀ i : Fin len, ∃ y : α, good y ∧ ∃ c, c.length = d.sz ∧ d.K w y c ∧ ∀ j u, c[j]? = some u → w.cell? (a.add (i.val * d.sz + j)) = some u := by
      intro i
      have h1 := hat i.val i.isLt
      rw [List.getElem?_eq_getElem (by omega)] at h1
      obtain ⟨c, hcs, htr⟩ := Option.bind_eq_some_iff.1 h1
      obtain ⟨y, hy, hg⟩ := hK _ _ _ htr
      obtain ⟨hl1, hat1⟩ := cells_at hcs
      refine ⟨y, hg, c, by rw [hl1, hc], hy, fun j u hu => ?_⟩
      have := hat1 j u hu
      rw [hc, Go.Addr.add_add] at this
      exact this
    obtain ⟨f, hf⟩ := Classical.axiomOfChoice each
    have hlen : (List.ofFn f).length = len := List.length_ofFn
    refine ⟨some a, cap, List.ofFn f, by rw [hlen], by omega, ?_, by omega, fun y hy => ?_⟩
    · rw [hlen]
      refine ⟨hlen, hmx, fun _ => ⟨a, rfl, fun j p hp => ?_⟩⟩
      have hj : j < len := by have := (List.getElem?_eq_some_iff.1 hp).1; omega
      obtain ⟨_, c, h1, h2, h3⟩ := hf ⟨j, hj⟩
      have hpe : f ⟨j, hj⟩ = p := by
        rw [List.getElem?_ofFn] at hp
        simpa [hj] using hp
      rw [hpe] at h2
      exact ⟨c, h1, h2, h3⟩
    · obtain ⟨i, rfl⟩ := List.mem_ofFn.1 hy
      exact (hf i).1

/-! ### The message -/
theorem arr8 (cs : Array Value) (h : cs.size = 8) : ∃ a b c d e f g i, cs = #[a, b, c, d, e, f, g, i] := by
  obtain ⟨l⟩ := cs
  match l, h with
  | [a, b, c, d, e, f, g, i], _ => exact ⟨a, b, c, d, e, f, g, i, rfl⟩
theorem c3 : Tryd.prog.cellsOf 3 = 1 := by kernel_rfl
theorem c9 : Tryd.prog.cellsOf 9 = 1 := by kernel_rfl
theorem c24 : Tryd.prog.cellsOf 24 = 1 := by kernel_rfl
theorem c27 : Tryd.prog.cellsOf 27 = 1 := by kernel_rfl
theorem c28 : Tryd.prog.cellsOf 28 = 1 := by kernel_rfl
theorem c40 : Tryd.prog.cellsOf 40 = 4 := by kernel_rfl
theorem c41 : Tryd.prog.cellsOf 41 = 1 := by kernel_rfl
theorem c43 : Tryd.prog.cellsOf 43 = 8 := by kernel_rfl
theorem c165 : Tryd.prog.cellsOf 165 = 4 := by kernel_rfl
section
variable {H : Type} {enc : TypeId × Value → H} {w : World} {spare : Nat → Bool} {held : Bool} {fuel : Nat} {cs : List Value} {x : DataW H × List MemPlace}
theorem len_max {n : Nat} (h : n ≤ maxLen) : n ≤ 9223372036854775807 := by
  have : maxLen = 9223372036854775807 := by decide
  omega
theorem read24 (h : DataW.trod enc Tryd.prog w 0 spare held fuel 24 cs = some x) : ∃ y : Int, (Kd.int .u32).K w y cs ∧ True := by
  obtain ⟨n, rfl, _⟩ := DataW.trod_int Tryd.underlying24 h
  exact ⟨n, rfl, trivial⟩
theorem read9 (h : DataW.trod enc Tryd.prog w 0 spare held fuel 9 cs = some x) : ∃ y : ByteArray, Kd.string.K w y cs ∧ y.size ≤ 9223372036854775807 := by
  obtain ⟨n, rfl, _, hs⟩ := DataW.trod_string Tryd.underlying9 h
  exact ⟨n, rfl, len_max hs⟩
theorem read165 (h : DataW.trod enc Tryd.prog w 0 spare held fuel 165 cs = some x) : ∃ y : S165, k165.K w y cs ∧ y.f1.size ≤ 9223372036854775807 := by
  obtain ⟨xs, n, _, _, hl, hxs, hel⟩ := DataW.trod_struct Tryd.underlying165 h
  rw [c165] at hl
  match cs, hl, hel with
  | [a, b, c, d], _, hel =>
    match xs, hxs, hel with
    | [x0, x1, x2, x3], _, hel =>
      have h0 : DataW.trod enc Tryd.prog w 0 spare held n 3 (([a, b, c, d].drop 0).take (Tryd.prog.cellsOf 3)) = some x0 := hel 0 _ rfl
      have h1 : DataW.trod enc Tryd.prog w 0 spare held n 9 (([a, b, c, d].drop 1).take (Tryd.prog.cellsOf 9)) = some x1 := hel 1 _ rfl
      have h2 : DataW.trod enc Tryd.prog w 0 spare held n 3 (([a, b, c, d].drop 2).take (Tryd.prog.cellsOf 3)) = some x2 := hel 2 _ rfl
      have h3 : DataW.trod enc Tryd.prog w 0 spare held n 3 (([a, b, c, d].drop 3).take (Tryd.prog.cellsOf 3)) = some x3 := hel 3 _ rfl
      obtain ⟨n0, e0, _⟩ := DataW.trod_int Tryd.underlying3 h0
      obtain ⟨n1, e1, _, hs⟩ := DataW.trod_string Tryd.underlying9 h1
      obtain ⟨n2, e2, _⟩ := DataW.trod_int Tryd.underlying3 h2
      obtain ⟨n3, e3, _⟩ := DataW.trod_int Tryd.underlying3 h3
      simp only [c3, c9, List.drop_zero, List.drop_succ_cons, List.take_succ_cons, List.take_zero, List.cons.injEq, and_true] at e0 e1 e2 e3
      subst e0 e1 e2 e3
      exact ⟨⟨n0, n1, n2, n3⟩, k165_mk w ⟨n0, n1, n2, n3⟩, len_max hs⟩
theorem readMsg {v : Value} {d : DataW H} {p : List MemPlace} (hv : ∃ cs, v = .agg cs ∧ cs.size = Tryd.prog.cellsOf 43) (h : DataW.Trod enc Tryd.prog w 0 spare held 43 v d p) :
    ∃ (a b c e : Int) (A4 : Option Addr) (c4 : Nat) (l4 : List Int) (A5 : Option Addr) (c5 : Nat) (l5 : List ByteArray) (A6 : Option Addr) (c6 : Nat) (l6 : List S165) (s : ByteArray),
      v = .agg #[.int .i64 a, .int .i64 b, .int .i64 c, .int .i64 e, .slice A4 l4.length c4, .slice A5 l5.length c5, .slice A6 l6.length c6, .string s] ∧
      (l4.length ≤ c4 ∧ (Kd.int .u32).C w A4 l4.length l4 ∧ l4.length ≤ 9223372036854775807) ∧
      (l5.length ≤ c5 ∧ Kd.string.C w A5 l5.length l5 ∧ l5.length ≤ 9223372036854775807 ∧ ∀ x ∈ l5, x.size ≤ 9223372036854775807) ∧
      (l6.length ≤ c6 ∧ k165.C w A6 l6.length l6 ∧ l6.length ≤ 9223372036854775807 ∧ ∀ x ∈ l6, x.f1.size ≤ 9223372036854775807) ∧ s.size ≤ 9223372036854775807 := by
  obtain ⟨cs, rfl, hz⟩ := hv
  rw [c43] at hz
  obtain ⟨v0, v1, v2, v3, v4, v5, v6, v7, rfl⟩ := arr8 cs hz
  obtain ⟨fuel, hf⟩ := h
  obtain ⟨xs, n, _, _, _, hxs, hel⟩ := DataW.trod_struct Tryd.underlying43 hf
  match xs, hxs, hel with
  | [x0, x1, x2, x3, x4], _, hel =>
    have h0 : DataW.trod enc Tryd.prog w 0 spare held n 3 (([v0, v1, v2, v3, v4, v5, v6, v7].drop 0).take (Tryd.prog.cellsOf 3)) = some x0 := hel 0 _ rfl
    have h1 : DataW.trod enc Tryd.prog w 0 spare held n 3 (([v0, v1, v2, v3, v4, v5, v6, v7].drop 1).take (Tryd.prog.cellsOf 3)) = some x1 := hel 1 _ rfl
    have h2 : DataW.trod enc Tryd.prog w 0 spare held n 40 (([v0, v1, v2, v3, v4, v5, v6, v7].drop 2).take (Tryd.prog.cellsOf 40)) = some x2 := hel 2 _ rfl
    have h3 : DataW.trod enc Tryd.prog w 0 spare held n 41 (([v0, v1, v2, v3, v4, v5, v6, v7].drop 6).take (Tryd.prog.cellsOf 41)) = some x3 := hel 3 _ rfl
    have h4 : DataW.trod enc Tryd.prog w 0 spare held n 9 (([v0, v1, v2, v3, v4, v5, v6, v7].drop 7).take (Tryd.prog.cellsOf 9)) = some x4 := hel 4 _ rfl
    obtain ⟨a, e0, _⟩ := DataW.trod_int Tryd.underlying3 h0
    obtain ⟨b, e1, _⟩ := DataW.trod_int Tryd.underlying3 h1
    obtain ⟨s, e4, _, hs⟩ := DataW.trod_string Tryd.underlying9 h4
    obtain ⟨A6, c6, l6, e3, q6, r6, z6, g6⟩ := reads_slice k165 (fun y => y.f1.size ≤ 9223372036854775807) Tryd.underlying41 c165 (fun _ _ _ h => read165 h) h3
    obtain ⟨ys, n2, _, _, _, hys, hel2⟩ := DataW.trod_struct Tryd.underlying40 h2
    match ys, hys, hel2 with
    | [y0, y1, y2, y3], _, hel2 =>
      have k0 : DataW.trod enc Tryd.prog w 0 spare held n2 3 (((([v0, v1, v2, v3, v4, v5, v6, v7].drop 2).take (Tryd.prog.cellsOf 40)).drop 0).take (Tryd.prog.cellsOf 3)) = some y0 := hel2 0 _ rfl
      have k1 : DataW.trod enc Tryd.prog w 0 spare held n2 3 (((([v0, v1, v2, v3, v4, v5, v6, v7].drop 2).take (Tryd.prog.cellsOf 40)).drop 1).take (Tryd.prog.cellsOf 3)) = some y1 := hel2 1 _ rfl
      have k2 : DataW.trod enc Tryd.prog w 0 spare held n2 27 (((([v0, v1, v2, v3, v4, v5, v6, v7].drop 2).take (Tryd.prog.cellsOf 40)).drop 2).take (Tryd.prog.cellsOf 27)) = some y2 := hel2 2 _ rfl
      have k3 : DataW.trod enc Tryd.prog w 0 spare held n2 28 (((([v0, v1, v2, v3, v4, v5, v6, v7].drop 2).take (Tryd.prog.cellsOf 40)).drop 3).take (Tryd.prog.cellsOf 28)) = some y3 := hel2 3 _ rfl
      obtain ⟨c, f0, _⟩ := DataW.trod_int Tryd.underlying3 k0
      obtain ⟨e, f1, _⟩ := DataW.trod_int Tryd.underlying3 k1
      obtain ⟨A4, c4, l4, f2, q4, r4, z4, g4⟩ := reads_slice (Kd.int .u32) (fun _ => True) Tryd.underlying27 c24 (fun _ _ _ h => read24 h) k2
      obtain ⟨A5, c5, l5, f3, q5, r5, z5, g5⟩ := reads_slice Kd.string (fun y => y.size ≤ 9223372036854775807) Tryd.underlying28 c9 (fun _ _ _ h => read9 h) k3
      simp only [c3, c9, c40, c41, c27, c28, List.drop_zero, List.drop_succ_cons, List.take_succ_cons, List.take_zero, List.cons.injEq, and_true] at e0 e1 e3 e4 f0 f1 f2 f3
      subst e0 e1 e3 e4 f0 f1 f2 f3
      exact ⟨a, b, c, e, A4, c4, l4, A5, c5, l5, A6, c6, l6, s, rfl, ⟨q4, r4, z4⟩, ⟨q5, r5, z5, g5⟩, ⟨q6, r6, z6, g6⟩, len_max hs⟩
end

/-! ### The tables -/
theorem tabs {W : World} (h : laidMetH Tryd.prog Rows.fnExactTakeAnswerRow.laid W) : Sum.Tabs W := by
  rw [MakeChecks.laidMetH_plain _ _ _ (by kernel_rfl)] at h
  have hT : Lib.TabIs Tryd.prog W "loop.example/g00100/impl.sines" .u32 Sum.mxK := Lib.tabIs_of_head (g := 0) (t := 209) (n := 64) (e := 24) (by kernel_rfl) (by kernel_rfl) Tryd.underlying209 Tryd.underlying24 (by kernel_rfl) (by kernel_rfl) h
  refine ⟨fun i hi => hT.cell (by kernel_rfl) i hi, fun i hi => ?_⟩
  obtain ⟨ps, ⟨g0, t0, cs0, f0, p0, q0, hg0, ht0, hv0, hd0, ⟨g1, t1, cs1, f1, p1, q1, hg1, ht1, hv1, hd1, _, _⟩, _⟩, _⟩ := h
  obtain rfl := Option.some.inj ((show Tryd.prog.globalNamed "loop.example/g00100/impl.turns" = some 1 by kernel_rfl).symm.trans hg1)
  obtain rfl := Option.some.inj ((show (Tryd.prog.globals[1]?).map (·.type) = some 212 by kernel_rfl).symm.trans ht1)
  obtain ⟨xs, m, _, hx, hl, hn, hel⟩ := DataW.trod_array Tryd.underlying212 hd1
  have c211 : Tryd.prog.cellsOf 211 = 4 := by kernel_rfl
  have c212 : Tryd.prog.cellsOf 212 = 16 := by kernel_rfl
  rw [c212] at hl
  have hc : cs1.toList = Sum.mxS.map (Value.int .i64) := by
    generalize cs1.toList = l at hl hel
    simp only [Prod.mk.injEq] at hx
    have hx1 := hx.1
    match xs, hn, hx1, hel with
    | [x0, x1, x2, x3], _, hx1, hel =>
      simp only [Rows.laid_loop_example_g00100_impl_turns, List.map_cons, List.map_nil, DataW.agg.injEq, List.cons.injEq, and_true] at hx1
      obtain ⟨e0, e1, e2, e3⟩ := hx1
      have seg : ∀ (i : Nat) (zs : List Int) (y : DataW Unit × List MemPlace), y.1 = Lib.tabData .i64 zs → DataW.trod (fun _ => ()) Tryd.prog W 0 (fun _ => true) false m 211 ((l.drop (i * Tryd.prog.cellsOf 211)).take (Tryd.prog.cellsOf 211)) = some y → (l.drop (i * 4)).take 4 = zs.map (Value.int .i64) := by
        intro i zs y hy h
        rw [c211] at h
        obtain ⟨y1, y2⟩ := y
        subst hy
        exact Lib.cells_of_tab Tryd.underlying211 Tryd.underlying3 c3 c211 h
      have s0 := seg 0 [7, 12, 17, 22] x0 e0.symm (hel 0 (by decide))
      have s1 := seg 1 [5, 9, 14, 20] x1 e1.symm (hel 1 (by decide))
      have s2 := seg 2 [4, 11, 16, 23] x2 e2.symm (hel 2 (by decide))
      have s3 := seg 3 [6, 10, 15, 21] x3 e3.symm (hel 3 (by decide))
      match l, hl, s0, s1, s2, s3 with
      | [a0, a1, a2, a3, a4, a5, a6, a7, a8, a9, a10, a11, a12, a13, a14, a15], _, s0, s1, s2, s3 =>
        simp only [Nat.zero_mul, Nat.reduceMul, List.drop_zero, List.drop_succ_cons, List.take_succ_cons, List.take_zero, List.map_cons, List.map_nil, List.cons.injEq, and_true] at s0 s1 s2 s3
        obtain ⟨rfl, rfl, rfl, rfl⟩ := s0
        obtain ⟨rfl, rfl, rfl, rfl⟩ := s1
        obtain ⟨rfl, rfl, rfl, rfl⟩ := s2
        obtain ⟨rfl, rfl, rfl, rfl⟩ := s3
        rfl
  have := World.var?_cell hg1 hv1 i
  rw [this]
  have e : cs1[i]? = cs1.toList[i]? := by simp
  rw [e, hc, List.getElem?_map]
  have hi' : i < Sum.mxS.length := hi
  rw [List.getElem?_eq_getElem hi']
  simp [Sum.mxSi, List.getD, List.getElem?_eq_getElem hi']

theorem door_met (os : Os) (args : Array Value) : laidMetH Tryd.prog Rows.fnExactTakeAnswerRow.laid ((World.doorLaid Tryd.prog 48 os).forCall (fun _ _ => 0) ⟨#[], args, []⟩).memory :=
  laidMetH_of_parts3 (fuel := 8) (laidMet_of_run' 8 (by kernel_rfl) (by kernel_rfl)) (by kernel_rfl) (by kernel_rfl)

theorem lifted (os : Os) (started : os.Started) (H : Type) (enc : TypeId × Value → H) :
    ReturnsInHanded {} Tryd.checked os 4 .any (fun w args => (Rows.fnExactTakeAnswerSpec.pre enc Tryd.prog Tryd.f4 [] false w args ∧ laidMetH Tryd.prog Rows.fnExactTakeAnswerRow.laid w) ∧ sizedMet enc Tryd.prog Tryd.f4 (OpenSpec.ofChange Rows.fnExactTakeAnswerSpec) false w args)
      (Rows.fnExactTakeAnswerSpec.post enc Tryd.prog Tryd.f4 false true false false) := by
  refine returnsInHanded_of_change_and (C := Tryd.checked) (X := fun w _ => laidMetH Tryd.prog Rows.fnExactTakeAnswerRow.laid w) (fun _ _ _ hh h => h.of_heap hh) own started (by kernel_rfl) Tryd.func4
    (ChangeSpec.witness_shaped (enc := enc) (C := Tryd.checked) (os := os) (X := fun w _ => laidMetH Tryd.prog Rows.fnExactTakeAnswerRow.laid w) false (World.doorLaid Tryd.prog 48 os)
      #[.agg #[.int .i64 0, .int .i64 0, .int .i64 0, .int .i64 0, .slice none 0 0, .slice none 0 0, .slice none 0 0, .string ⟨#[]⟩], .string ⟨#[]⟩] 8 rfl (World.shaped_of_RefB (by kernel_rfl) (by kernel_rfl)) (by kernel_rfl) (by kernel_rfl) (by kernel_rfl) (door_met os _)) ?_
  intro W base args ds gs before hval0 hW _ _ hL _
  have hval : ∀ (j : Nat) t v, Tryd.f4.params[j]? = some t → args[j]? = some v → Value.okWide Tryd.prog W .any base t v := hval0
  have hW' := hW
  obtain ⟨p, q, hA0, hV, rfl, hfz, hnd⟩ := hW
  have hA : DataW.TrodAll enc Tryd.prog W 0 (fun _ => true) true Tryd.f4.params.toList args.toList ds p := hA0
  rw [Tryd.params4] at hA hval
  obtain ⟨v0, v1, d0, d1, p0, p1, rfl, rfl, rfl, h0, h1⟩ := trodAll_two hA
  have hV' := hV
  obtain ⟨_, _, _, _, e0, _, _, _, _, _, e1, _, rfl, _⟩ := trodVars_two hV
  obtain ⟨a, b, c, e, A4, c4, l4, A5, c5, l5, A6, c6, l6, s, rfl, ⟨q4, r4, z4⟩, ⟨q5, r5, z5, g5⟩, ⟨q6, r6, z6, g6⟩, hs⟩ := readMsg (okWide_struct Tryd.underlying43 (hval 0 43 v0 rfl rfl)) h0
  obtain ⟨old, rfl⟩ := okWide_string Tryd.underlying9 (hval 1 9 v1 rfl rfl)
  have lt0 : ∀ x ∈ p0, x.block < W.heap.size := by obtain ⟨m, hm⟩ := h0; exact DataW.trod_lt m _ _ _ hm
  have lt1 : ∀ x ∈ p1, x.block < W.heap.size := by obtain ⟨m, hm⟩ := h1; exact DataW.trod_lt m _ _ _ hm
  clear hA0 hval0
  obtain ⟨k, hk⟩ := Pure.law a b c e l4 l5 l6 s old z4 z5 z6 g5 g6 hs
  refine (laws_FnExactTakeAnswer.calls k a b c e A4 c4 l4 A5 c5 l5 A6 c6 l6 s old true W r4 q4 r5 q5 r6 q6 hk (tabs hL)).mono fun f W' ⟨he, bel⟩ => ?_
  subst he
  exact ⟨_, rfl, _, _, _, [], _, _, hW', trodAll_mk1 (shut_bool Tryd.underlying4 _),
    (trodAll_cons_mk (Below.trod laidOut (by kernel_rfl) (of_decide_eq_true (by kernel_rfl)) h0 bel lt0) (trodAll_cons_mk (Below.trod laidOut (by kernel_rfl) (of_decide_eq_true (by kernel_rfl)) h1 bel lt1) trodAll_mk0)),
    Below.trodVars laidOut bel (by kernel_rfl) hV', bel.frame _, fun h => by cases h⟩

theorem over : Rows.FnExactTakeAnswerSaid :=
  OpenClaim.holds_of_wide 4 Tryd.f4 rfl rfl rfl rfl rfl rfl rfl ⟨rfl, rfl, rfl, rfl, rfl⟩ rfl rfl rfl rfl rfl (by kernel_rfl) Tryd.func4 (by kernel_rfl)
    (of_decide_eq_true (by kernel_rfl)) (by unfold Func.isWrapper; first | (rw [if_pos (by decide +kernel)]; kernel_rfl) | (rw [if_neg (by decide +kernel)]; exact ⟨rfl, rfl⟩))
    (fun os started H enc _ => lifted os started H enc)

theorem proved : Rows.FnExactTakeAnswerCardSaid :=
  Claim7.holds_tied_plain_at .later [] [.data, .data] true (true, "4f26daf7a6f421a851165f49f69630428135ad5379fc95ca66114c830c3122df") false
    over (fun _ h => by cases h) (by kernel_rfl) (fun _ h => by cases h) fnExactTakeAnswer_row_tie rfl ⟨rfl, rfl⟩ (by kernel_rfl) rfl
    (fun f fn hf hfn => by
      obtain rfl : f = 4 := Option.some.inj ((show Tryd.prog.funcNamed "loop.example/g00100/laws.FnExactTakeAnswer" = some 4 by kernel_rfl).symm.trans hf) |>.symm
      obtain rfl : fn = Tryd.f4 := (Option.some.inj (Tryd.func4.symm.trans hfn)).symm
      exact ⟨by kernel_rfl, fun j t ht => by
        rw [Tryd.params4] at ht
        have hm : t ∈ [43, 9] := by simpa using Array.mem_of_getElem? ht
        have hall : ([43, 9].all fun u => !Tryd.prog.wantsStandIn u) = true := by kernel_rfl
        exact (show Tryd.prog.wantsStandIn t = false by simpa using List.all_eq_true.1 hall t hm)⟩)
    (by kernel_rfl)
#print axioms proved
end Go.Proofs.YtjiaigjmihmdjaaDoor.fnExactTakeAnswer
namespace Go.Proofs.YtjiaigjmihmdjaaDoor
/-- The row, under a short name, for the claim. -/
theorem fnExactTakeAnswer_holds : Rows.FnExactTakeAnswerCardSaid := fnExactTakeAnswer.proved
end Go.Proofs.YtjiaigjmihmdjaaDoor
