/- Strings as lists of bytes; arrays in blocks; make, copy, conversions; numbers of 8, 32, 64 bits. No program in sight. -/
import Derived.Test.YtjkdpnkbdfnokaaDoorHp
import Derived.Laws.IdiomStrings
import Derived.Laws.MakeOwn
namespace Go.Vk
open Go
set_option linter.unusedSimpArgs false
set_option linter.unusedVariables false
/- TEXTS -/
def bsA (l : List UInt8) : ByteArray := ⟨l.toArray⟩
theorem bsA_of (s : ByteArray) : s = bsA s.data.toList := by cases s; simp [bsA]
theorem bsA_size (l : List UInt8) : (bsA l).size = l.length := by simp [bsA, ByteArray.size]
theorem bsA_append (a b : List UInt8) : bsA a ++ bsA b = bsA (a ++ b) := by
  have : (bsA a ++ bsA b).data = (bsA (a ++ b)).data := by rw [ByteArray.data_append]; simp [bsA]
  cases h : bsA a ++ bsA b; rw [h] at this; cases h2 : bsA (a ++ b); rw [h2] at this; simp_all
theorem bsA_eq (a b : List UInt8) : (bsA a = bsA b) = (a = b) := by
  refine propext ⟨fun h => ?_, fun h => by rw [h]⟩
  have := congrArg (fun s : ByteArray => s.data.toList) h
  simpa [bsA] using this
theorem bsA_extract (l : List UInt8) (i j : Nat) : (bsA l).extract i j = bsA ((l.drop i).take (j - i)) := by
  have : ((bsA l).extract i j).data = (bsA ((l.drop i).take (j - i))).data := by
    rw [ByteArray.data_extract]
    apply Array.toList_inj.1
    simp [bsA, List.extract_eq_take_drop]
  cases h : (bsA l).extract i j; rw [h] at this; cases h2 : bsA ((l.drop i).take (j - i)); rw [h2] at this; simp_all
theorem Pure1_eq {P : Program} {s : Sem Value} {v : Value} (h : ∀ w, s.run P w = .ok v w) (w : World) (K : Value → World → Prop) : Pure1 P s w K = K v w := by
  refine propext ⟨fun ⟨u, h1, h2⟩ => ?_, fun g => ⟨v, h, g⟩⟩
  have := (h1 w).symm.trans (h w)
  cases this; exact h2
theorem str_index {P : Program} {t : TypeId} (hu : P.underlying t = some .string) {k : IntKind} {l : List UInt8} {i : Int} {c : UInt8} (h0 : 0 ≤ i) (hc : l[i.toNat]? = some c) (w : World) (K : Value → World → Prop) :
    Pure1 P (Instr.index t (.string (bsA l)) (.int k i)) w K = K (.int .u8 (c.toNat : Int)) w := by
  refine Pure1_eq (fun w => ?_) w K
  have hlt : i.toNat < l.length := (List.getElem?_eq_some_iff.1 hc).1
  have : (bsA l)[i.toNat]? = some c := by
    show (if h : i.toNat < (bsA l).size then some (bsA l)[i.toNat] else none) = some c
    rw [dif_pos (by rw [bsA_size]; exact hlt)]
    obtain ⟨h1, h2⟩ := List.getElem?_eq_some_iff.1 hc
    rw [← h2]
    rfl
  simp [Instr.index, asIntOf, run_underlying hu, h0, this]
theorem agg_index {P : Program} {t e n : Nat} (hu : P.underlying t = some (.array n e)) {d : TypeDesc} (he : P.underlying e = some d) (hd : aggD d = false) (hs : ∀ w, (sizeOf e).run P w = .ok 1 w) {k : IntKind} {l : List Value} {i : Int} {v : Value}
    (h0 : 0 ≤ i) (hn : i < n) (hc : l[i.toNat]? = some v) (w : World) (K : Value → World → Prop) :
    Pure1 P (Instr.index t (.agg l.toArray) (.int k i)) w K = K v w := by
  refine Pure1_eq (fun w => ?_) w K
  simp [Instr.index, asIntOf, run_underlying hu, h0, hn, hs, part, run_isAgg he, hd, hc]
/- ARRAYS -/
theorem arr_blk {w : World} {b n : Nat} {l : List Value} {t' : TypeId} {f : Nat × Nat} (hb : w.heap[b]? = some (.cells l.toArray t' f)) (hl : l.length = n) (k : List Value → Prop) : arrCells w ⟨b, 0, none⟩ n k = k l := by
  unfold arrCells
  subst hl
  have hc : ∀ j v, l[j]? = some v → w.cell? ((⟨b, 0, none⟩ : Addr).add (0 + j)) = some v := fun j v hv => by
    rw [add_mk, cell_blk hb]; simpa using hv
  refine propext ⟨fun h => ?_, fun h => onCells_of l 0 _ hc h⟩
  obtain ⟨cs, h1, h2, h3⟩ := onCells_spec _ _ _ h
  have : cs = l := by
    apply List.ext_getElem?
    intro j
    by_cases hj : j < l.length
    · have a1 := h2 j cs[j] (by simp)
      have a2 := hc j l[j] (by simp)
      rw [a1] at a2
      simp only [Option.some.injEq] at a2
      simp [hj, h1, a2]
    · simp [h1, hj]
  rw [← this]; exact h3
theorem setCells_arr {w : World} {b : Nat} {cs : Array Value} {t : TypeId} {f : Nat × Nat} (hb : w.heap[b]? = some (.cells cs t f)) {l : List Value} (hl : cs.size = l.length) : (setCells w ⟨b, 0, none⟩ l 0).heap[b]? = some (.cells l.toArray t f) := by
  rw [setCells_same l w b 0 0 cs t f hb]
  congr 2
  apply Array.ext_getElem?
  intro j
  by_cases hj : j < l.length
  · have := ovw_in l cs 0 j hj (by omega)
    simpa using this
  · rw [ovw_out l cs _ j (by omega), Array.getElem?_eq_none (by omega)]
    simp [hj]
theorem allStore_arr {w : World} {b : Nat} {cs : Array Value} {t : TypeId} (hb : w.heap[b]? = some (.cells cs t (0, 0))) : ∀ n i, i + n ≤ cs.size → allStore w ⟨b, 0, none⟩ i n := by
  intro n
  induction n with
  | zero => intro i _; trivial
  | succ n ih => intro i hi; exact ⟨by rw [add_mk]; exact canStore_blk hb (by omega), ih (i + 1) (by omega)⟩
theorem build_arr {P : Program} {t e n : Nat} {z : Value} (hz : ∀ w, (zeroValue t).run P w = .ok z w) (hu : P.underlying t = some (.array n e)) (hs : ∀ w, (sizeOf e).run P w = .ok 1 w)
    {parts : List (Nat × Value)} {cs : Array Value} (hf : Instr.fill (fun i => some (i * 1, 1)) z.cells parts = some cs) {w : World} {K : Value → World → Prop} (h : K (.agg cs) w) : Pure1 P (Instr.build t parts.toArray) w K := by
  refine ⟨_, fun w => ?_, h⟩
  simp only [Instr.build, Sem.run_bind, hz w, Result.andThen, run_underlying hu w, hs w, hf]
  rfl
/-- memory as it was, but for what was drawn -/
structure Still (w w' : World) : Prop where
  heap : w'.heap = w.heap
  alike : Alike w w'
theorem Still.refl (w : World) : Still w w := ⟨rfl, .refl w⟩
theorem Still.drew (w : World) : Still w w.drew := ⟨by cases w; rfl, .drew w⟩
theorem Still.trans {a b c : World} (h : Still a b) (k : Still b c) : Still a c := ⟨k.heap.trans h.heap, h.alike.trans k.alike⟩
theorem Still.ext {w w' : World} (h : Still w w') : Ext w w' := ⟨h.alike, fun b _ _ => by rw [h.heap]⟩
/- WORDS IN CELLS -/
def Vs32 (l : List (BitVec 32)) : List Value := l.map fun x => .int .u32 (x.toNat : Int)
def Vs64 (l : List (BitVec 64)) : List Value := l.map fun x => .int .u64 (x.toNat : Int)
theorem Vs32_len (l : List (BitVec 32)) : (Vs32 l).length = l.length := by simp [Vs32]
theorem Vs64_len (l : List (BitVec 64)) : (Vs64 l).length = l.length := by simp [Vs64]
theorem Vs32_one (l : List (BitVec 32)) : (Vs32 l).all oneCell = true := by simp [Vs32, oneCell]
theorem Vs64_one (l : List (BitVec 64)) : (Vs64 l).all oneCell = true := by simp [Vs64, oneCell]
theorem Vs32_get {l : List (BitVec 32)} {i : Nat} {x : BitVec 32} (h : l[i]? = some x) : (Vs32 l)[i]? = some (.int .u32 (x.toNat : Int)) := by simp [Vs32, h]
theorem Vs64_get {l : List (BitVec 64)} {i : Nat} {x : BitVec 64} (h : l[i]? = some x) : (Vs64 l)[i]? = some (.int .u64 (x.toNat : Int)) := by simp [Vs64, h]
theorem Vs32_set (l : List (BitVec 32)) (i : Nat) (x : BitVec 32) : (Vs32 l).set i (.int .u32 (x.toNat : Int)) = Vs32 (l.set i x) := by simp [Vs32, List.map_set]
theorem Vs64_set (l : List (BitVec 64)) (i : Nat) (x : BitVec 64) : (Vs64 l).set i (.int .u64 (x.toNat : Int)) = Vs64 (l.set i x) := by simp [Vs64, List.map_set]
theorem Vs32_append (a b : List (BitVec 32)) : Vs32 (a ++ b) = Vs32 a ++ Vs32 b := by simp [Vs32]
theorem Vs64_append (a b : List (BitVec 64)) : Vs64 (a ++ b) = Vs64 a ++ Vs64 b := by simp [Vs64]
theorem offs {k m : Nat} (c : Nat) {ci mi : Int} (hc : ci = c) (hm : mi = m) (h : c ≤ k) (h2 : k < m) (h3 : m ≤ 100) : ∃ d : Nat, d + c = k ∧ (k : Int) - ci = d ∧ inI64 (d : Int) ∧ (0 : Int) ≤ d ∧ (d : Int) < mi := ⟨k - c, by omega, by omega, by unfold inI64; omega, by omega, by omega⟩
theorem get_pad {α : Type} {l : List α} {d : Nat} (h : d < l.length) (r : List α) (z : α) : (l ++ r)[d]? = some (l.getD d z) := by
  rw [List.getElem?_append_left h, List.getElem?_eq_getElem h, List.getD_eq_getElem?_getD, List.getElem?_eq_getElem h]; rfl
theorem set_pad {α : Type} (l : List α) (k n : Nat) (z x : α) (h : l.length = k) (hn : k < n) : (l ++ List.replicate (n - k) z).set k x = (l ++ [x]) ++ List.replicate (n - (k + 1)) z := by
  subst h
  rw [List.set_append_right _ _ (Nat.le_refl _), show n - l.length = (n - (l.length + 1)) + 1 by omega, List.replicate_succ]
  simp
/- MAKE -/
structure ETy (P : Program) (e : TypeId) (z : Value) : Prop where
  info : ∃ i, P.info? e = some i ∧ i.zero = some z ∧ i.size = 1 ∧ i.bytes ≤ 1024
  one : z.cells = #[z]
theorem madeCells_one (z : Value) (n : Nat) (h : z.cells = #[z]) : madeCells z.cells n = (List.replicate n z).toArray := by
  rw [h]
  apply Array.ext
  · simp [size_madeCells]
  · intro j h1 h2
    simp [madeCells, Nat.mod_one]
theorem make_zero {P : Program} {t e : Nat} (hT : P.underlying t = some (.slice e)) {z : Value} (hE : ETy P e z) {k k' : IntKind} {m : Int} {w : World} {K : Value → World → Prop} {n : Nat} (hm : m = n) (hn : n ≤ 1000000)
    (h : ∀ v w', SlAt w' 1 v (List.replicate n z) (some w.heap.size) → Ext w w' → v = .slice (some ⟨w.heap.size, 0, none⟩) n n → w' = w.alloc (.cells (List.replicate n z).toArray e) → K v w') : RunV P (Instr.makeSlice t (.int k m) (.int k' m)) w K := by
  subst hm
  obtain ⟨i, hi, hz, hs, hb⟩ := hE.info
  have hbytes : (i.bytes : Int) * (n : Int) ≤ 281474976710656 := by
    have h1 : i.bytes * n ≤ 1024 * 1000000 := Nat.mul_le_mul hb hn
    rw [← Int.natCast_mul]; omega
  have hr := run_make (P := P) w t e i z hT hi hz k k' n n (by omega) (Int.le_refl _) hbytes (by omega)
  rw [hs, Nat.mul_one, Int.toNat_natCast, madeCells_one z n hE.one] at hr
  have := SlAt.new w 1 (List.replicate n z).toArray e n (by simp)
  exact .of hr (h _ _ (by simpa using this) (Ext.alloc _ _) rfl rfl)
theorem SlAt.lit {w : World} {b : Nat} {L : List Value} {t : TypeId} (h : HB w b L.toArray t) {o n c : Nat} (h1 : n ≤ c) (h2 : o + c ≤ L.length) : SlAt w 1 (.slice (some ⟨b, o, none⟩) n c) ((L.drop o).take n) (some b) := by
  refine .inr ⟨b, o, n, c, L.toArray, t, rfl, rfl, h1, by simp; omega, h, by simpa using h2, fun i hi => ?_⟩
  simp at hi
  rw [List.getElem?_take, if_pos (by omega), List.getElem?_drop]; simp
theorem copy_spec {P : Program} {t e ty t2 : Nat} (hT : P.underlying t = some (.slice e)) (hs : ∀ w, (sizeOf e).run P w = .ok 1 w) {w : World} {b o n c : Nat} {x : Value} {cells : List Value} {b2 : Option Nat} {k : Nat}
    (h2 : SlAt w 1 x cells b2) (hk : cells.length = k) (hn : k ≤ n) (ho : cells.all oneCell = true) (hc : ∀ j, j < k → canStore w ⟨b, o + j, none⟩) {K : Value → World → Prop}
    (h : K (.int .i64 (k : Int)) (setCells w ⟨b, o, none⟩ cells 0)) : RunV P (Builtin.copy_ #[t, t2] ty #[.slice (some ⟨b, o, none⟩) n c, x]) w K := by
  obtain ⟨a2, n2, k2, rfl, hk2, hc2⟩ := h2.len
  have hf2 := firstCells_run (P := P) h2 hc2
  have hn2 : n2 = k := by omega
  subst hn2
  have hst := run_storeCells (P := P) (a := ⟨b, o, none⟩) cells 0 w ho (fun j _ hj => by rw [add_mk]; exact hc j (by omega))
  refine .of (w' := setCells w ⟨b, o, none⟩ cells 0) ?_ h
  have hm : Nat.min n2 n = n2 := Nat.min_eq_left hn
  simp [Builtin.copy_, run_underlying hT, hs, Builtin.lenOf, hm, hf2, hst, goInt]
/- BYTES AND TEXTS -/
def byteCells (l : List UInt8) : List Value := l.map fun c => .int .u8 (c.toNat : Int)
theorem byteCells_length (l : List UInt8) : (byteCells l).length = l.length := by simp [byteCells]
theorem byteCells_one (l : List UInt8) : (byteCells l).all oneCell = true := by simp [byteCells, oneCell]
theorem byteCells_append (a b : List UInt8) : byteCells (a ++ b) = byteCells a ++ byteCells b := by simp [byteCells]
theorem byteCells_zeros (n : Nat) : List.replicate n (Value.int .u8 0) = byteCells (List.replicate n 0) := by simp [byteCells]
theorem to_str {P : Program} {s d e : TypeId} (hs : P.underlying s = some (.slice e)) (he : P.underlying e = some (.int .u8)) (hd : P.underlying d = some .string) {w : World} {v : Value} {l : List UInt8} {bo : Option Nat}
    (h : SlAt w 1 v (byteCells l) bo) {K : Value → World → Prop} (hk : K (.string (bsA l)) w) : RunV P (convert s d v) w K := by
  rcases h with ⟨_, rfl, h⟩ | ⟨b, o, n, c, cs, t, _, rfl, h3, h4, h5, h6, h7⟩
  · have : l = [] := by simpa [byteCells] using h
    subst this
    exact .of (run_convert_bytes_nil w s e hs he 0 0 d hd) hk
  · rw [byteCells_length, Nat.mul_one] at h4
    subst h4
    refine .of (run_convert_bytes_back w s d e ⟨b, o, none⟩ c l hs he hd fun j hj => ?_) hk
    rw [add_mk, h5.cell, h7 j (by rw [byteCells_length]; exact hj)]
    simp [byteCells, hj]
theorem of_str {P : Program} {s d e : TypeId} (hs : P.underlying s = some .string) (hd : P.underlying d = some (.slice e)) (he : P.underlying e = some (.int .u8)) {w : World} {l : List UInt8} {K : Value → World → Prop}
    (hk : ∀ v w', SlAt w' 1 v (byteCells l) (some w.heap.size) → Ext w w' → K v w') : RunV P (convert s d (.string (bsA l))) w K := by
  refine .of (run_bytes_of_string w s d e (bsA l) hs hd he) (hk _ _ ?_ ((Ext.drew _).trans (Ext.alloc _ _)))
  have hle : l.length ≤ grownCap w (bsA l).size 0 e := by
    rw [bsA_size]
    unfold grownCap Question.cut
    simp only; omega
  refine .inr ⟨w.heap.size, 0, (bsA l).size, _, bytesRow (bsA l) (grownCap w (bsA l).size 0 e), e, rfl, rfl, by rw [bsA_size] at hle ⊢; exact hle, by rw [byteCells_length, bsA_size, Nat.mul_one],
    ⟨_, .inr (Nat.le_refl _), heap_alloc_new' w.drew _⟩, ?_, fun i hi => ?_⟩
  · simp only [bytesRow, Array.size_append, Array.size_map, Array.size_replicate, bsA_size] at hle ⊢
    simp only [bsA, List.size_toArray]
    omega
  · rw [byteCells_length] at hi
    simp only [bytesRow, Nat.zero_add]
    rw [Array.getElem?_append_left (by simp [bsA]; exact hi)]
    simp [byteCells, bsA]
theorem tmod_nat (a b : Nat) : (a : Int).tmod (b : Int) = ((a % b : Nat) : Int) := rfl
theorem tdiv_nat (a b : Nat) : (a : Int).tdiv (b : Int) = ((a / b : Nat) : Int) := rfl
/- NUMBERS -/
theorem wrap_u8 (n : Int) : IntKind.u8.wrap n = n % 256 := by simp [IntKind.wrap, IntKind.bits, IntKind.signed]
theorem wrap_u32 (n : Int) : IntKind.u32.wrap n = n % 4294967296 := by simp [IntKind.wrap, IntKind.bits, IntKind.signed]
theorem wrap_u64 (n : Int) : IntKind.u64.wrap n = n % 18446744073709551616 := by simp [IntKind.wrap, IntKind.bits, IntKind.signed]
theorem cm8 (m : Nat) : IntKind.u8.wrap (m : Int) = ((m % 2 ^ 8 : Nat) : Int) := by rw [wrap_u8]; omega
theorem fdivp (a s : Nat) : (a : Int).fdiv (2 ^ s) = ((a >>> s : Nat) : Int) := by
  rw [Int.fdiv_eq_ediv_of_nonneg _ (by have : (0:Int) < 2 ^ s := Int.pow_pos (by decide); omega), Nat.shiftRight_eq_div_pow]; push_cast; rfl
section
variable (x y : BitVec 32)
theorem cm32 (m : Nat) : IntKind.u32.wrap (m : Int) = ((m % 2 ^ 32 : Nat) : Int) := by rw [wrap_u32]; omega
theorem add32 : IntKind.u32.wrap ((x.toNat : Int) + (y.toNat : Int)) = ((x + y).toNat : Int) := by rw [← Int.natCast_add, cm32, BitVec.toNat_add]
theorem mul32 : IntKind.u32.wrap ((x.toNat : Int) * (y.toNat : Int)) = ((x * y).toNat : Int) := by rw [← Int.natCast_mul, cm32, BitVec.toNat_mul]
theorem self32 : IntKind.u32.wrap (x.toNat : Int) = (x.toNat : Int) := by rw [wrap_u32]; have := x.isLt; omega
theorem of32 : BitVec.ofInt (IntKind.u32.bits) (x.toNat : Int) = x := by simp [IntKind.bits]
theorem xor32 : bits .xor .u32 (x.toNat : Int) (y.toNat : Int) = ((x ^^^ y).toNat : Int) := by simp only [bits, of32]; exact self32 _
theorem and32 : bits .and .u32 (x.toNat : Int) (y.toNat : Int) = ((x &&& y).toNat : Int) := by simp only [bits, of32]; exact self32 _
theorem or32 : bits .or .u32 (x.toNat : Int) (y.toNat : Int) = ((x ||| y).toNat : Int) := by simp only [bits, of32]; exact self32 _
theorem andn32 : bits .andNot .u32 (x.toNat : Int) (y.toNat : Int) = ((x &&& ~~~y).toNat : Int) := by simp only [bits, of32]; exact self32 _
theorem max32 : IntKind.u32.max = ((BitVec.allOnes 32).toNat : Int) := by decide
theorem not32 : bits .xor .u32 (if IntKind.u32.signed = true then -1 else IntKind.u32.max) (x.toNat : Int) = ((~~~x).toNat : Int) := by
  rw [if_neg (by decide), max32, xor32, BitVec.allOnes_xor]
theorem shl32 (s : Nat) : IntKind.u32.wrap ((x.toNat : Int) * 2 ^ min s IntKind.u32.bits) = ((x <<< s).toNat : Int) := by
  by_cases h : s ≤ 32
  · rw [show min s IntKind.u32.bits = s from Nat.min_eq_left h, BitVec.toNat_shiftLeft, Nat.shiftLeft_eq, ← cm32, Int.natCast_mul, Int.natCast_pow]; rfl
  · rw [show min s IntKind.u32.bits = 32 from Nat.min_eq_right (by simp [IntKind.bits]; omega), wrap_u32]
    rw [BitVec.shiftLeft_eq_zero (by omega)]; simp
theorem shr32 (s : Nat) : (x.toNat : Int).fdiv (2 ^ min s IntKind.u32.bits) = ((x >>> s).toNat : Int) := by
  rw [fdivp, BitVec.toNat_ushiftRight]
  by_cases h : s ≤ 32
  · rw [show min s IntKind.u32.bits = s from Nat.min_eq_left h]
  · rw [show min s IntKind.u32.bits = 32 from Nat.min_eq_right (by simp [IntKind.bits]; omega)]
    have a : x.toNat >>> 32 = 0 := by rw [Nat.shiftRight_eq_div_pow]; exact Nat.div_eq_of_lt x.isLt
    have b : x.toNat >>> s = 0 := by
      rw [Nat.shiftRight_eq_div_pow]; exact Nat.div_eq_of_lt (Nat.lt_of_lt_of_le x.isLt (Nat.pow_le_pow_right (by decide) (by omega)))
    rw [a, b]
theorem byte32 : IntKind.u8.wrap (x.toNat : Int) = ((UInt8.ofBitVec (x.setWidth 8)).toNat : Int) := by
  rw [cm8]
  show _ = (((x.setWidth 8).toNat : Nat) : Int)
  rw [BitVec.toNat_setWidth]
theorem up32 (c : UInt8) : IntKind.u32.wrap (c.toNat : Int) = ((c.toBitVec.setWidth 32).toNat : Int) := by
  rw [BitVec.toNat_setWidth]
  exact cm32 _
end
section
variable (x y : BitVec 64)
theorem cm64 (m : Nat) : IntKind.u64.wrap (m : Int) = ((m % 2 ^ 64 : Nat) : Int) := by rw [wrap_u64]; omega
theorem add64 : IntKind.u64.wrap ((x.toNat : Int) + (y.toNat : Int)) = ((x + y).toNat : Int) := by rw [← Int.natCast_add, cm64, BitVec.toNat_add]
theorem mul64 : IntKind.u64.wrap ((x.toNat : Int) * (y.toNat : Int)) = ((x * y).toNat : Int) := by rw [← Int.natCast_mul, cm64, BitVec.toNat_mul]
theorem self64 : IntKind.u64.wrap (x.toNat : Int) = (x.toNat : Int) := by rw [wrap_u64]; have := x.isLt; omega
theorem of64 : BitVec.ofInt (IntKind.u64.bits) (x.toNat : Int) = x := by simp [IntKind.bits]
theorem xor64 : bits .xor .u64 (x.toNat : Int) (y.toNat : Int) = ((x ^^^ y).toNat : Int) := by simp only [bits, of64]; exact self64 _
theorem and64 : bits .and .u64 (x.toNat : Int) (y.toNat : Int) = ((x &&& y).toNat : Int) := by simp only [bits, of64]; exact self64 _
theorem or64 : bits .or .u64 (x.toNat : Int) (y.toNat : Int) = ((x ||| y).toNat : Int) := by simp only [bits, of64]; exact self64 _
theorem andn64 : bits .andNot .u64 (x.toNat : Int) (y.toNat : Int) = ((x &&& ~~~y).toNat : Int) := by simp only [bits, of64]; exact self64 _
theorem max64 : IntKind.u64.max = ((BitVec.allOnes 64).toNat : Int) := by decide
theorem not64 : bits .xor .u64 (if IntKind.u64.signed = true then -1 else IntKind.u64.max) (x.toNat : Int) = ((~~~x).toNat : Int) := by
  rw [if_neg (by decide), max64, xor64, BitVec.allOnes_xor]
theorem shl64 (s : Nat) : IntKind.u64.wrap ((x.toNat : Int) * 2 ^ min s IntKind.u64.bits) = ((x <<< s).toNat : Int) := by
  by_cases h : s ≤ 64
  · rw [show min s IntKind.u64.bits = s from Nat.min_eq_left h, BitVec.toNat_shiftLeft, Nat.shiftLeft_eq, ← cm64, Int.natCast_mul, Int.natCast_pow]; rfl
  · rw [show min s IntKind.u64.bits = 64 from Nat.min_eq_right (by simp [IntKind.bits]; omega), wrap_u64]
    rw [BitVec.shiftLeft_eq_zero (by omega)]; simp
theorem shr64 (s : Nat) : (x.toNat : Int).fdiv (2 ^ min s IntKind.u64.bits) = ((x >>> s).toNat : Int) := by
  rw [fdivp, BitVec.toNat_ushiftRight]
  by_cases h : s ≤ 64
  · rw [show min s IntKind.u64.bits = s from Nat.min_eq_left h]
  · rw [show min s IntKind.u64.bits = 64 from Nat.min_eq_right (by simp [IntKind.bits]; omega)]
    have a : x.toNat >>> 64 = 0 := by rw [Nat.shiftRight_eq_div_pow]; exact Nat.div_eq_of_lt x.isLt
    have b : x.toNat >>> s = 0 := by
      rw [Nat.shiftRight_eq_div_pow]; exact Nat.div_eq_of_lt (Nat.lt_of_lt_of_le x.isLt (Nat.pow_le_pow_right (by decide) (by omega)))
    rw [a, b]
theorem byte64 : IntKind.u8.wrap (x.toNat : Int) = ((UInt8.ofBitVec (x.setWidth 8)).toNat : Int) := by
  rw [cm8]
  show _ = (((x.setWidth 8).toNat : Nat) : Int)
  rw [BitVec.toNat_setWidth]
theorem up64 (c : UInt8) : IntKind.u64.wrap (c.toNat : Int) = ((c.toBitVec.setWidth 64).toNat : Int) := by
  rw [BitVec.toNat_setWidth]
  exact cm64 _
end
end Go.Vk
