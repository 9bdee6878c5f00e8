
/- What the library's functions ask of the world: the table of strconv's powers, and some number in bytealg's MaxLen. -/
import Derived.Test.YtjiaigjmihmdjaaDoorK0
import Derived.Test.YtjiaigjmihmdjaaDoorProg
import Derived.Test.YtjiaigjmihmdjaaDoorMine
import Derived.Test.YtjiaigjmihmdjaaDoorShelf
import Derived.Below
import Derived.Lib.LaidTab
import Derived.Sort.Grow
namespace Go.Proofs.YtjiaigjmihmdjaaDoor.Sum
open Go.RowKit Go.Sort
theorem var_below {P : Program} {w w' : World} {B : Nat} {n : String} {cs : Array Value} (h : w.var? P n = some cs) (hb : Below B w w') (hB : w.heap.size ≤ B) : w'.var? P n = some cs := by
 unfold World.var? at h ⊢
 cases hg : P.globalNamed n with
 | none => rw [hg] at h; cases h
 | some g =>
  rw [hg] at h
  simp only [Option.bind_some] at h ⊢
  have hlt : g < w.heap.size := by
   cases hh : w.heap[g]? with
   | none => rw [hh] at h; cases h
   | some o => exact (Array.getElem?_eq_some_iff.1 hh).1
  rw [hb.block g (by omega)]
  exact h
/-- The table lies where the program lays it; the other cell holds some number. -/
structure Tabs (w : World) : Prop where
 m : ∃ m : Int, w.cell? ⟨2, 0, none⟩ = some (.int .i64 m)
 pow : Lib.TabIs Tryd.prog w "internal/strconv.uint64pow10" .u64 Lib.pow10Tab
theorem Tabs.at {w W : World} (h : Tabs w) (hb : Below w.heap.size w W) : Tabs W :=
 ⟨h.m.imp fun _ hm => (hb.cell (World.block_lt_of_cell? w _ hm)).trans hm, var_below h.pow hb (Nat.le_refl _)⟩
theorem below_grow {B : Nat} {w W : World} (h : Below B w W) (hB : B ≤ W.heap.size) (os : Array Obj) : Below B w (grow W os) :=
 h.trans ⟨rfl, rfl, rfl, by simp [grow], fun k hk => by simp only [grow]; rw [Array.getElem?_append_left (by omega)]⟩
end Go.Proofs.YtjiaigjmihmdjaaDoor.Sum
