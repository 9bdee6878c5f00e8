
/- The strong sum, in plain Lean: the tables, a round, a block, the padding, the whole sum; no program stands here. -/
import Derived.Test.YtjiaigjmihmdjaaDoorK0
import Derived.Lib.IndexBytes
import Derived.Laws.BitsLemmas
namespace Go.Proofs.YtjiaigjmihmdjaaDoor.Sum
open Go.RowKit Go.Proofs.YtjiaigjmihmdjaaDoorW.PrintWords Go.Proofs.YtjiaigjmihmdjaaDoorW.PrintLast Go.Proofs.YtjiaigjmihmdjaaDoorW.PrintMore
/-- The bytes of a list as a string, and as numbers. -/
def B (L : List UInt8) : ByteArray := ⟨L.toArray⟩
def nums (L : List UInt8) : List Int := L.map fun b => (b.toNat : Int)
theorem B_size (L : List UInt8) : (B L).size = L.length := by simp [B, ByteArray.size]
theorem B_inj {L M : List UInt8} (h : B L = B M) : L = M := by simpa [B] using h
theorem B_toList (s : ByteArray) : B s.data.toList = s := rfl
theorem nums_length (L : List UInt8) : (nums L).length = L.length := by simp [nums]
theorem bt_B (L : List UInt8) (i : Int) : bt (B L) i = ((L.getD i.toNat 0).toNat : Int) := by
 unfold bt
 split
 ·rename_i h
  have h' : i.toNat < L.length := by rwa [B_size] at h
  simp [B, List.getD_eq_getElem?_getD, List.getElem?_eq_getElem h']
  rfl
 ·rename_i h
  have h' : ¬ i.toNat < L.length := by rwa [B_size] at h
  simp [List.getD_eq_getElem?_getD, List.getElem?_eq_none (Nat.le_of_not_lt h')]
theorem rd_nums (L : List UInt8) (i : Int) : rd (nums L) i = ((L.getD i.toNat 0).toNat : Int) := by
 unfold rd nums
 by_cases h : i.toNat < L.length
 ·simp [List.getD_eq_getElem?_getD, List.getElem?_eq_getElem h]
 ·simp [List.getD_eq_getElem?_getD, List.getElem?_eq_none (Nat.le_of_not_lt h)]
theorem drop_nums (L : List UInt8) (n : Nat) : (nums L).drop n = nums (L.drop n) := by simp [nums, List.map_drop]
theorem take_nums (L : List UInt8) (n : Nat) : (nums L).take n = nums (L.take n) := by simp [nums, List.map_take]
theorem strOfNums_nums (L : List UInt8) : strOfNums (nums L) = B L := by
 unfold strOfNums nums B
 congr 2
 rw [List.map_map]
 conv => rhs; rw [← List.map_id L]
 apply List.map_congr_left
 intro b _
 simp
theorem byte_lt (b : UInt8) : b.toNat < 256 := by have := b.toNat_lt; omega

theorem wrap64_id {x : Int} (h0 : -9223372036854775808 ≤ x) (h1 : x < 9223372036854775808) : wrap64 x = x := by unfold wrap64; omega
def w4 (l : List UInt8) : Nat := (l.getD 0 0).toNat + 256 * (l.getD 1 0).toNat + 65536 * (l.getD 2 0).toNat + 16777216 * (l.getD 3 0).toNat
theorem w4_lt (l : List UInt8) : w4 l < 4294967296 := by
 have h0 := byte_lt (l.getD 0 0)
 have h1 := byte_lt (l.getD 1 0)
 have h2 := byte_lt (l.getD 2 0)
 have h3 := byte_lt (l.getD 3 0)
 unfold w4; omega
/-- The four bytes of a word. -/
def wb (w : Int) : List UInt8 := [w % 256, (w / 256) % 256, (w / 65536) % 256, (w / 16777216) % 256].map fun n => UInt8.ofNat n.toNat
theorem wb_length (w : Int) : (wb w).length = 4 := rfl
theorem ofNat_byte (b : UInt8) (n : Nat) (h : n = b.toNat) : UInt8.ofNat n = b := by subst h; simp
theorem extract_B (L : List UInt8) (a b : Nat) : (B L).extract a b = B ((L.take b).drop a) := by
 apply ByteArray.ext
 simp [B, ByteArray.extract, ByteArray.copySlice, List.drop_take]
/-- The words that the rounds add. -/
def mxK : List Int := [3614090360, 3905402710, 606105819, 3250441966, 4118548399, 1200080426, 2821735955, 4249261313, 1770035416, 2336552879, 4294925233, 2304563134, 1804603682, 4254626195, 2792965006, 1236535329, 4129170786, 3225465664, 643717713, 3921069994, 3593408605, 38016083, 3634488961, 3889429448, 568446438, 3275163606, 4107603335, 1163531501, 2850285829, 4243563512, 1735328473, 2368359562, 4294588738, 2272392833, 1839030562, 4259657740, 2763975236, 1272893353, 4139469664, 3200236656, 681279174, 3936430074, 3572445317, 76029189, 3654602809, 3873151461, 530742520, 3299628645, 4096336452, 1126891415, 2878612391, 4237533241, 1700485571, 2399980690, 4293915773, 2240044497, 1873313359, 4264355552, 2734768916, 1309151649, 4149444226, 3174756917, 718787259, 3951481745]
/-- By how many bits a round turns: four numbers for each quarter of the rounds. -/
def mxS : List Int := [7, 12, 17, 22, 5, 9, 14, 20, 4, 11, 16, 23, 6, 10, 15, 21]
theorem mxK_len : mxK.length = 64 := rfl
theorem mxS_len : mxS.length = 16 := rfl
/-- The word at byte 4 * g of a block. -/
def mxW (B : ByteArray) (g : Int) : Int := ((w4 (B.data.toList.drop (4 * g).toNat) : Nat) : Int)
/-- A turn to the left by s bits. -/
def mxT (x s : Int) : Int := Go.bits .or .u32 (shl .u32 x s) (shr .u32 x (32 - s))
def mxF (i b c d : Int) : Int :=
 if i / 16 = 0 then Go.bits .or .u32 (Go.bits .and .u32 b c) (Go.bits .and .u32 (Go.bits .xor .u32 IntKind.u32.max b) d)
 else if i / 16 = 1 then Go.bits .or .u32 (Go.bits .and .u32 d b) (Go.bits .and .u32 (Go.bits .xor .u32 IntKind.u32.max d) c)
 else if i / 16 = 2 then Go.bits .xor .u32 (Go.bits .xor .u32 b c) d
 else Go.bits .xor .u32 c (Go.bits .or .u32 b (Go.bits .xor .u32 IntKind.u32.max d))
def mxG (i : Int) : Int :=
 if i / 16 = 0 then i else if i / 16 = 1 then (5 * i + 1) % 16 else if i / 16 = 2 then (3 * i + 5) % 16 else 7 * i % 16
def mxKi (i : Nat) : Int := mxK.getD i 0
def mxSi (i : Nat) : Int := mxS.getD i 0
theorem mxSi_bound : ∀ j < 16, 4 ≤ mxSi j ∧ mxSi j ≤ 23 := by decide
/-- What a round makes of the four words. -/
def mxX (B : ByteArray) (i : Nat) (a b c d : Int) : Int := (b + mxT ((a + mxF i b c d + mxKi i + mxW B (mxG i)) % 4294967296) (mxSi (i / 16 * 4 + i % 4))) % 4294967296
def mxN : Nat → Nat → ByteArray → Int × Int × Int × Int → Int × Int × Int × Int
 | 0, _, _, s => s
 | n + 1, i, B, s => mxN n (i + 1) B (s.2.2.2, mxX B i s.1 s.2.1 s.2.2.1 s.2.2.2, s.2.1, s.2.2.1)
theorem mxN_step {i : Nat} (h : i < 64) (B : ByteArray) (s : Int × Int × Int × Int) : mxN (64 - i) i B s = mxN (64 - (i + 1)) (i + 1) B (s.2.2.2, mxX B i s.1 s.2.1 s.2.2.1 s.2.2.2, s.2.1, s.2.2.1) := by
 obtain ⟨n, hn⟩ : ∃ n, 64 - i = n + 1 := ⟨63 - i, by omega⟩
 rw [hn, show 64 - (i + 1) = n from by omega]
 rfl
/-- What a block makes of the four words. -/
def mxB (B : ByteArray) (s : Int × Int × Int × Int) : Int × Int × Int × Int :=
 ((s.1 + (mxN 64 0 B s).1) % 4294967296, (s.2.1 + (mxN 64 0 B s).2.1) % 4294967296, (s.2.2.1 + (mxN 64 0 B s).2.2.1) % 4294967296, (s.2.2.2 + (mxN 64 0 B s).2.2.2) % 4294967296)
end Go.Proofs.YtjiaigjmihmdjaaDoor.Sum
