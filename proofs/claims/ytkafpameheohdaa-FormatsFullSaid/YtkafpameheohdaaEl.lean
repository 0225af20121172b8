/- The elements that the laws of formats make: both arenas. -/
import Derived.Test.YtkafpameheohdaaHd
import Derived.Test.YtkafpameheohdaaRf
set_option linter.unusedSimpArgs false
set_option linter.unusedVariables false
namespace Go.Vk
open Go
def u8Cells (l : List Nat) : List Value := l.map fun n : Nat => Value.int .u8 (n : Int)
theorem u8Cells_length (l : List Nat) : (u8Cells l).length = l.length := by simp [u8Cells]
theorem u8_len {w : World} {v : Value} {l : List Nat} (h : RdAt w 1 v (u8Cells l)) : ∃ a c, v = .slice a l.length c ∧ l.length ≤ c ∧ ∀ (i : Nat) (x : Nat), l[i]? = some x → ∃ b o, a = some ⟨b, o, none⟩ ∧ w.cell? ⟨b, o + i, none⟩ = some (.int .u8 (x : Int)) := by
  obtain ⟨a, n, c, rfl, h1, h2, h3⟩ := h
  rw [u8Cells_length] at h2
  have : n = l.length := by omega
  subst this
  refine ⟨a, c, rfl, h1, fun i x hx => ?_⟩
  obtain ⟨b, o, e1, e2⟩ := h3 i (.int .u8 (x : Int)) (by simp [u8Cells, hx])
  exact ⟨b, o, e1, e2⟩
theorem build_arr {P : Program} {t e n : Nat} {z : Value} (hz : ∀ w, (zeroValue t).run P w = .ok z w) (hu : P.underlying t = some (.array n e)) (hs : ∀ w, (sizeOf e).run P w = .ok 1 w)
    {parts : List (Nat × Value)} {cs : Array Value} (hf : Instr.fill (fun i => some (i * 1, 1)) z.cells parts = some cs) {w : World} {K : Value → World → Prop} (h : K (.agg cs) w) : Pure1 P (Instr.build t parts.toArray) w K := by
  refine ⟨_, fun w => ?_, h⟩
  simp only [Instr.build, Sem.run_bind, hz w, Result.andThen, run_underlying hu w, hs w, hf]
  rfl
theorem agg_index {P : Program} {t e n : Nat} (hu : P.underlying t = some (.array n e)) {d : TypeDesc} (he : P.underlying e = some d) (hd : aggD d = false) (hs : ∀ w, (sizeOf e).run P w = .ok 1 w) {k : IntKind} {l : List Value} {i : Int} {v : Value}
    (h0 : 0 ≤ i) (hn : i < n) (hc : l[i.toNat]? = some v) (w : World) (K : Value → World → Prop) :
    Pure1 P (Instr.index t (.agg l.toArray) (.int k i)) w K = K v w := by
  refine Pure1_eq (fun w => ?_) w K
  simp [Instr.index, asIntOf, run_underlying hu, h0, hn, hs, part, run_isAgg he, hd, hc]
theorem bs_of {P : Program} {t e es : Nat} (hT : STy P t e es) {n : Nat} (h0 : 0 < n * es) (h1 : n * es ≤ 4096) {w : World} {parts : List (Nat × Value)} {z : Value} (hz : ∀ w, (zeroValue e).run P w = .ok z w) {cs : Array Value}
    (hf : Instr.fill (fun i => some (i * es, es)) ((Array.range (n * es)).map (z.cells[· % z.cells.size]!)) parts = some cs) {K : Value → World → Prop}
    (h : K (.slice (some ⟨w.heap.size, 0, none⟩) n n) (w.alloc (.cells cs e))) : RunV P (Instr.buildSlice t n parts.toArray) w K := by
  refine .of (w' := w.alloc (.cells cs e)) ?_ h
  have hlim : ¬ (n * es > 2 ^ 24) := by omega
  have hne : ¬ (n * es = 0) := by omega
  simp only [Instr.buildSlice, Sem.run_bind, run_underlying hT.und, hT.size, Result.andThen_ok, hlim, if_false, hne, hz, Sem.run_pure, hf, newRow, newObj]
  simp [Sem.run]
theorem range4 : Array.range 4 = #[0, 1, 2, 3] := rfl
theorem fill94 (a b c d : ByteArray) : Instr.fill (fun i => some (i * 2, 2)) ((Array.range (2 * 2)).map ((Value.agg #[.string ⟨#[]⟩, .string ⟨#[]⟩]).cells[· % (Value.agg #[.string ⟨#[]⟩, .string ⟨#[]⟩]).cells.size]!)) [(0, .agg #[.string a, .string b]), (1, .agg #[.string c, .string d])] = some #[.string a, .string b, .string c, .string d] := by
  rw [show 2 * 2 = 4 from rfl, range4]
  simp [Instr.fill, Value.cells]
def sb_ : ByteArray := ⟨#[98]⟩
def si_ : ByteArray := ⟨#[105]⟩
def sa_ : ByteArray := ⟨#[97]⟩
def atX : ByteArray × ByteArray := (⟨#[99]⟩, ⟨#[49]⟩)
def atY : ByteArray × ByteArray := (⟨#[100]⟩, ⟨#[50]⟩)
def nmN (c : Nat) : ByteArray := if c % 3 = 0 then sb_ else if c % 3 = 1 then si_ else sa_
def atN (c : Nat) : List (ByteArray × ByteArray) := if c / 3 % 6 = 1 then [atX] else if c / 3 % 6 = 2 then [atX, atY] else if c / 3 % 6 = 3 then [atY, atX] else []
def fmN (c : Nat) : Nd := { zN with kind := 3, name := nmN c, attrs := atN c, space := if c / 3 % 6 = 4 then 1 else 0, parent := -1 }
def elsL (l : List Nat) : List Nd := docN :: l.map fmN
theorem nmN_ne (c : Nat) : ¬ nmN c = tmpl := by
  unfold nmN
  split
  · decide
  · split <;> decide
end Go.Vk
namespace Go.Proofs.Ytkafpameheohdaa
open Go Go.Vk
set_option maxHeartbeats 40000000
theorem pl94 (w : World) : ((fsOf Try.prog 94).mapM plOf).run Try.prog w = .ok #[(0,1),(1,1)] w := by
  simp [fsOf, plOf, Try.underlying94, Sem.run, Try.sizeOf9]
theorem un94 : Try.prog.underlying 94 = some (.struct (fsOf Try.prog 94)) := by rw [fsOf, Try.underlying94]
theorem made_c {w : World} {kv : Value} {l : List Nat} (hk : RdAt w 1 kv (u8Cells l)) (hl : l.length < 1000) (h8 : ∀ c ∈ l, c < 256) :
    Gives Try.prog 28 #[kv] w fun v w' => ∃ pa pb F, v = .tuple #[.pointer (some ⟨pa, 0, none⟩), .pointer (some ⟨pb, 0, none⟩)] ∧ At w w' F pa (elsL l) ∧ Ar w' pb (elsL l) F ∧ ∀ b, F b → w.heap.size ≤ b := by
  obtain ⟨ka, kc, rfl, hkc, _⟩ := u8_len hk
  refine Gives.of_W Try.call28 Try.func28 rfl Try.ntmps28 (by simp) ?_; intro Z hZ
  (repeat (first | (with_reducible first | (refine hK _ _ ?_; clear hK K) | refine (show ∀ σ' w', _ → K σ' w' from by assumption) _ _ ?_ | refine W_seq_k fun K hK => ?_ | refine W_block_k fun K hK => ?_ | refine W_skip ?_ | refine W_ret ?_) | ((first | ((with_reducible refine W_id ?_); refine W_reg (by decide) (by rfl) ?_) | (with_reducible first | refine W_cond ?_ | refine hZ _ _ ?_ | refine W_exit ?_ | refine Wo_id ?_)); repeat1' simp only [push_cast, Nat.reduceBEq, Nat.reduceLT, Nat.reduceEqDiff, reduceIte, reduceCtorEq, Nat.reduceMul, Nat.reduceAdd, Nat.reduceSub, Int.reduceEq, Int.reduceLT, Int.reduceLE, Int.reduceNeg, Int.reduceAdd, Int.reduceSub, Int.reduceMul, Nat.reduceLeDiff, Int.reduceToNat]) | ((repeat ((fail_if_success with_reducible refine hK _ _ ?_); clear hK K)); (with_reducible refine hK _ _ ?_); clear hK K)))
  refine new_a.mono ?_
  rintro v w2 ⟨pa, rfl, hA⟩
  ((repeat simp only [push_cast, Nat.reduceBEq, Nat.reduceLT, Nat.reduceEqDiff, reduceIte, reduceCtorEq, Nat.reduceMul, Nat.reduceAdd, Nat.reduceSub, Int.reduceEq, Int.reduceLT, Int.reduceLE, Int.reduceNeg, Int.reduceAdd, Int.reduceSub, Int.reduceMul, Nat.reduceLeDiff, Int.reduceToNat]); (repeat (first | (with_reducible first | (refine hK _ _ ?_; clear hK K) | refine (show ∀ σ' w', _ → K σ' w' from by assumption) _ _ ?_ | refine W_seq_k fun K hK => ?_ | refine W_block_k fun K hK => ?_ | refine W_skip ?_ | refine W_ret ?_) | ((first | ((with_reducible refine W_id ?_); refine W_reg (by decide) (by rfl) ?_) | (with_reducible first | refine W_cond ?_ | refine hZ _ _ ?_ | refine W_exit ?_ | refine Wo_id ?_)); repeat1' simp only [push_cast, Nat.reduceBEq, Nat.reduceLT, Nat.reduceEqDiff, reduceIte, reduceCtorEq, Nat.reduceMul, Nat.reduceAdd, Nat.reduceSub, Int.reduceEq, Int.reduceLT, Int.reduceLE, Int.reduceNeg, Int.reduceAdd, Int.reduceSub, Int.reduceMul, Nat.reduceLeDiff, Int.reduceToNat]) | ((repeat ((fail_if_success with_reducible refine hK _ _ ?_); clear hK K)); (with_reducible refine hK _ _ ?_); clear hK K))))
  refine rnew_c.mono ?_
  rintro v w3 ⟨pb, rfl, hB, hx3⟩
  ((repeat simp only [push_cast, Nat.reduceBEq, Nat.reduceLT, Nat.reduceEqDiff, reduceIte, reduceCtorEq, Nat.reduceMul, Nat.reduceAdd, Nat.reduceSub, Int.reduceEq, Int.reduceLT, Int.reduceLE, Int.reduceNeg, Int.reduceAdd, Int.reduceSub, Int.reduceMul, Nat.reduceLeDiff, Int.reduceToNat]); (repeat (first | (with_reducible first | (refine hK _ _ ?_; clear hK K) | refine (show ∀ σ' w', _ → K σ' w' from by assumption) _ _ ?_ | refine W_seq_k fun K hK => ?_ | refine W_block_k fun K hK => ?_ | refine W_skip ?_ | refine W_ret ?_) | ((first | ((with_reducible refine W_id ?_); refine W_reg (by decide) (by rfl) ?_) | (with_reducible first | refine W_cond ?_ | refine hZ _ _ ?_ | refine W_exit ?_ | refine Wo_id ?_)); repeat1' simp only [push_cast, Nat.reduceBEq, Nat.reduceLT, Nat.reduceEqDiff, reduceIte, reduceCtorEq, Nat.reduceMul, Nat.reduceAdd, Nat.reduceSub, Int.reduceEq, Int.reduceLT, Int.reduceLE, Int.reduceNeg, Int.reduceAdd, Int.reduceSub, Int.reduceMul, Nat.reduceLeDiff, Int.reduceToNat]) | ((repeat ((fail_if_success with_reducible refine hK _ _ ?_); clear hK K)); (with_reducible refine hK _ _ ?_); clear hK K))))
  refine build_arr Try.zeroValue66 Try.underlying66 Try.sizeOf9 (cs := #[.string sb_, .string si_, .string sa_]) (by rfl) ?_
  (repeat simp only [push_cast, Nat.reduceBEq, Nat.reduceLT, Nat.reduceEqDiff, reduceIte, reduceCtorEq, Nat.reduceMul, Nat.reduceAdd, Nat.reduceSub, Int.reduceEq, Int.reduceLT, Int.reduceLE, Int.reduceNeg, Int.reduceAdd, Int.reduceSub, Int.reduceMul, Nat.reduceLeDiff, Int.reduceToNat, RunV_zero Try.zeroValue66])
  simp only [vcells_agg, can_h, heap_alloc_h, if_true, canO_cells, List.size_toArray, List.length_cons, List.length_nil, Nat.zero_add, Nat.reduceAdd, Nat.reduceLT, true_and]
  have z1 : (w3.alloc (.cells #[.string ⟨#[]⟩, .string ⟨#[]⟩, .string ⟨#[]⟩] 66)).heap[w3.heap.size]? = some (.cells #[.string ⟨#[]⟩, .string ⟨#[]⟩, .string ⟨#[]⟩] 66 (0, 0)) := by rw [heap_alloc_h, if_pos rfl]
  have hpn := setCells_all z1 (l := [.string sb_, .string si_, .string sa_]) rfl
  have hx4 : Ext w3 (setCells (w3.alloc (.cells #[.string ⟨#[]⟩, .string ⟨#[]⟩, .string ⟨#[]⟩] 66)) ⟨w3.heap.size, 0, none⟩ [.string sb_, .string si_, .string sa_] 0) := Upd.trans (Ext.alloc w3 _) (Upd.setCells (F := fun b => b = w3.heap.size) (a := ⟨w3.heap.size, 0, none⟩) _ rfl _ 0) fun i hi e => by omega
  generalize setCells (w3.alloc (.cells #[.string ⟨#[]⟩, .string ⟨#[]⟩, .string ⟨#[]⟩] 66)) ⟨w3.heap.size, 0, none⟩ [.string sb_, .string si_, .string sa_] 0 = w4 at *
  have hs2 := hA.ext.alike.size
  have hs3 := hx3.alike.size
  have hs4 := hx4.alike.size
  have hpl4 := blk_lt hpn
  obtain ⟨pn, hpe⟩ : ∃ pn, pn = w3.heap.size := ⟨_, rfl⟩
  rw [← hpe] at hpn hpl4 ⊢
  ((repeat simp only [push_cast, Nat.reduceBEq, Nat.reduceLT, Nat.reduceEqDiff, reduceIte, reduceCtorEq, Nat.reduceMul, Nat.reduceAdd, Nat.reduceSub, Int.reduceEq, Int.reduceLT, Int.reduceLE, Int.reduceNeg, Int.reduceAdd, Int.reduceSub, Int.reduceMul, Nat.reduceLeDiff, Int.reduceToNat]); (repeat (first | (with_reducible first | (refine hK _ _ ?_; clear hK K) | refine (show ∀ σ' w', _ → K σ' w' from by assumption) _ _ ?_ | refine W_seq_k fun K hK => ?_ | refine W_block_k fun K hK => ?_ | refine W_skip ?_ | refine W_ret ?_) | ((first | ((with_reducible refine W_id ?_); refine W_reg (by decide) (by rfl) ?_) | (with_reducible first | refine W_cond ?_ | refine hZ _ _ ?_ | refine W_exit ?_ | refine Wo_id ?_)); repeat1' simp only [push_cast, Nat.reduceBEq, Nat.reduceLT, Nat.reduceEqDiff, reduceIte, reduceCtorEq, Nat.reduceMul, Nat.reduceAdd, Nat.reduceSub, Int.reduceEq, Int.reduceLT, Int.reduceLE, Int.reduceNeg, Int.reduceAdd, Int.reduceSub, Int.reduceMul, Nat.reduceLeDiff, Int.reduceToNat]) | ((repeat ((fail_if_success with_reducible refine hK _ _ ?_); clear hK K)); (with_reducible refine hK _ _ ?_); clear hK K))))
  refine W_loop (S := Nat) (fun k => [(0, .slice ka l.length kc), (4, .pointer (some ⟨pa, 0, none⟩)), (5, .pointer (some ⟨pb, 0, none⟩)), (6, .pointer (some ⟨pn, 0, none⟩)), (7, .int .i64 (k : Int))])
    (fun k w5 => k ≤ l.length ∧ ∃ F, At w w5 (fun b => F b ∨ b = pn) pa (elsL (l.take k)) ∧ Ar w5 pb (elsL (l.take k)) F ∧ (∀ b, F b → w.heap.size ≤ b) ∧ ¬ F pn ∧ w5.heap[pn]? = some (.cells #[.string sb_, .string si_, .string sa_] 66 (0, 0))) (fun k => l.length - k) 0 ?_ ?_ ?_
  · (repeat simp only [push_cast, Nat.reduceBEq, Nat.reduceLT, Nat.reduceEqDiff, reduceIte, reduceCtorEq, Nat.reduceMul, Nat.reduceAdd, Nat.reduceSub, Int.reduceEq, Int.reduceLT, Int.reduceLE, Int.reduceNeg, Int.reduceAdd, Int.reduceSub, Int.reduceMul, Nat.reduceLeDiff, Int.reduceToNat])
  · refine ⟨by omega, fun b => w2.heap.size ≤ b ∧ b < w3.heap.size, hA.guard (hx3.trans hx4) fun b hb => ?_, ?_, fun b hb => by omega, by omega, hpn⟩
    · rcases hb with hb | rfl
      · exact .inr ⟨hb.1, by omega⟩
      · exact .inr ⟨by omega, hpl4⟩
    · exact (hB.mono fun b hb hw => ⟨hw, hb⟩).ext hx4
  rintro k w5 ⟨hkl, F, hA5, hB5, hF, hFn, hp5⟩
  by_cases hkk : k < l.length
  · obtain ⟨c, hc⟩ : ∃ c, l[k]? = some c := ⟨_, List.getElem?_eq_getElem hkk⟩
    obtain ⟨_, _, e, _, hcell⟩ := u8_len (hk.ext hA5.ext)
    cases e
    obtain ⟨b, o, rfl, hcl⟩ := hcell k c hc
    have hc8 := h8 c (List.mem_of_getElem? hc)
    rw [cell_h] at hcl
    have b0 : (k : Int) < (l.length : Int) := by omega
    have b1 : (0 : Int) ≤ (k : Int) := by omega
    have b2 : inI64 ((k : Int) + 1) := by unfold inI64; omega
    clear hcell
    (repeat (first | (with_reducible first | (refine hK _ _ ?_; clear hK K) | refine (show ∀ σ' w', _ → K σ' w' from by assumption) _ _ ?_ | refine W_seq_k fun K hK => ?_ | refine W_block_k fun K hK => ?_ | refine W_skip ?_ | refine W_ret ?_) | ((first | ((with_reducible refine W_id ?_); refine W_reg (by decide) (by rfl) ?_) | (with_reducible first | refine W_cond ?_ | refine hZ _ _ ?_ | refine W_exit ?_ | refine Wo_id ?_)); repeat1' simp only [push_cast, Nat.reduceBEq, Nat.reduceLT, Nat.reduceEqDiff, reduceIte, reduceCtorEq, Nat.reduceMul, Nat.reduceAdd, Nat.reduceSub, Int.reduceEq, Int.reduceLT, Int.reduceLE, Int.reduceNeg, Int.reduceAdd, Int.reduceSub, Int.reduceMul, Nat.reduceLeDiff, Int.reduceToNat, cell_h, cellO_cells, b0, b1, b2, hcl, hp5]) | ((repeat ((fail_if_success with_reducible refine hK _ _ ?_); clear hK K)); (with_reducible refine hK _ _ ?_); clear hK K)))
    have r0 : 0 ≤ (c : Int).tmod 3 := by rw [Int.tmod_eq_emod_of_nonneg (by omega)]; omega
    have r1 : (c : Int).tmod 3 < 3 := by rw [Int.tmod_eq_emod_of_nonneg (by omega)]; omega
    have r2 : [Value.string sb_, Value.string si_, Value.string sa_][((c : Int).tmod 3).toNat]? = some (.string (nmN c)) := by
      have e : ((c : Int).tmod 3).toNat = c % 3 := by rw [Int.tmod_eq_emod_of_nonneg (by omega)]; omega
      rw [e]; unfold nmN
      have : c % 3 = 0 ∨ c % 3 = 1 ∨ c % 3 = 2 := by omega
      rcases this with h | h | h <;> rw [h] <;> rfl
    refine ⟨r0, r1, ?_⟩
    (repeat simp only [push_cast, Nat.reduceBEq, Nat.reduceLT, Nat.reduceEqDiff, reduceIte, reduceCtorEq, Nat.reduceMul, Nat.reduceAdd, Nat.reduceSub, Int.reduceEq, Int.reduceLT, Int.reduceLE, Int.reduceNeg, Int.reduceAdd, Int.reduceSub, Int.reduceMul, Nat.reduceLeDiff, Int.reduceToNat, r2])
    refine build_struct Try.zeroValue30 un30 pl30 (cs := #[.int .i64 3, .string (nmN c), .string ⟨#[]⟩, .int .i64 0, .slice none 0 0, .bool false, .int .i64 0, .int .i64 0, .slice none 0 0, .int .i64 0, .int .i64 0]) (by rfl) ?_
    (repeat simp only [push_cast, Nat.reduceBEq, Nat.reduceLT, Nat.reduceEqDiff, reduceIte, reduceCtorEq, Nat.reduceMul, Nat.reduceAdd, Nat.reduceSub, Int.reduceEq, Int.reduceLT, Int.reduceLE, Int.reduceNeg, Int.reduceAdd, Int.reduceSub, Int.reduceMul, Nat.reduceLeDiff, Int.reduceToNat, RunV_zero Try.zeroValue30])
    simp only [vcells_agg, can_h, heap_alloc_h, if_true, canO_cells, List.size_toArray, List.length_cons, List.length_nil, Nat.zero_add, Nat.reduceAdd, Nat.reduceLT, true_and]
    have z6 : (w5.alloc (.cells #[.int .i64 0, .string ⟨#[]⟩, .string ⟨#[]⟩, .int .i64 0, .slice none 0 0, .bool false, .int .i64 0, .int .i64 0, .slice none 0 0, .int .i64 0, .int .i64 0] 30)).heap[w5.heap.size]? = some (.cells #[.int .i64 0, .string ⟨#[]⟩, .string ⟨#[]⟩, .int .i64 0, .slice none 0 0, .bool false, .int .i64 0, .int .i64 0, .slice none 0 0, .int .i64 0, .int .i64 0] 30 (0, 0)) := by rw [heap_alloc_h, if_pos rfl]
    have hp6 := setCells_all z6 (l := [.int .i64 3, .string (nmN c), .string ⟨#[]⟩, .int .i64 0, .slice none 0 0, .bool false, .int .i64 0, .int .i64 0, .slice none 0 0, .int .i64 0, .int .i64 0]) rfl
    have hx6 : Ext w5 (setCells (w5.alloc (.cells #[.int .i64 0, .string ⟨#[]⟩, .string ⟨#[]⟩, .int .i64 0, .slice none 0 0, .bool false, .int .i64 0, .int .i64 0, .slice none 0 0, .int .i64 0, .int .i64 0] 30)) ⟨w5.heap.size, 0, none⟩ [.int .i64 3, .string (nmN c), .string ⟨#[]⟩, .int .i64 0, .slice none 0 0, .bool false, .int .i64 0, .int .i64 0, .slice none 0 0, .int .i64 0, .int .i64 0] 0) := Upd.trans (Ext.alloc w5 _) (Upd.setCells (F := fun b => b = w5.heap.size) (a := ⟨w5.heap.size, 0, none⟩) _ rfl _ 0) fun i hi e => by omega
    generalize setCells (w5.alloc (.cells #[.int .i64 0, .string ⟨#[]⟩, .string ⟨#[]⟩, .int .i64 0, .slice none 0 0, .bool false, .int .i64 0, .int .i64 0, .slice none 0 0, .int .i64 0, .int .i64 0] 30)) ⟨w5.heap.size, 0, none⟩ [.int .i64 3, .string (nmN c), .string ⟨#[]⟩, .int .i64 0, .slice none 0 0, .bool false, .int .i64 0, .int .i64 0, .slice none 0 0, .int .i64 0, .int .i64 0] 0 = w6 at *
    have hpl5 := blk_lt hp6
    obtain ⟨p8, hp8⟩ : ∃ p8, p8 = w5.heap.size := ⟨_, rfl⟩
    rw [← hp8] at hp6 hpl5 ⊢
    have hcl6 := hcl
    ((repeat simp only [push_cast, Nat.reduceBEq, Nat.reduceLT, Nat.reduceEqDiff, reduceIte, reduceCtorEq, Nat.reduceMul, Nat.reduceAdd, Nat.reduceSub, Int.reduceEq, Int.reduceLT, Int.reduceLE, Int.reduceNeg, Int.reduceAdd, Int.reduceSub, Int.reduceMul, Nat.reduceLeDiff, Int.reduceToNat]); (repeat (first | (with_reducible first | (refine hK _ _ ?_; clear hK K) | refine (show ∀ σ' w', _ → K σ' w' from by assumption) _ _ ?_ | refine W_seq_k fun K hK => ?_ | refine W_block_k fun K hK => ?_ | refine W_skip ?_ | refine W_ret ?_) | ((first | ((with_reducible refine W_id ?_); refine W_reg (by decide) (by rfl) ?_) | (with_reducible first | refine W_cond ?_ | refine hZ _ _ ?_ | refine W_exit ?_ | refine Wo_id ?_)); repeat1' simp only [push_cast, Nat.reduceBEq, Nat.reduceLT, Nat.reduceEqDiff, reduceIte, reduceCtorEq, Nat.reduceMul, Nat.reduceAdd, Nat.reduceSub, Int.reduceEq, Int.reduceLT, Int.reduceLE, Int.reduceNeg, Int.reduceAdd, Int.reduceSub, Int.reduceMul, Nat.reduceLeDiff, Int.reduceToNat]) | ((repeat ((fail_if_success with_reducible refine hK _ _ ?_); clear hK K)); (with_reducible refine hK _ _ ?_); clear hK K))))
    refine build_struct Try.zeroValue94 un94 pl94 (cs := #[.string atX.1, .string atX.2]) (by rfl) ?_
    refine build_struct Try.zeroValue94 un94 pl94 (cs := #[.string atY.1, .string atY.2]) (by rfl) ?_
    (repeat simp only [push_cast, Nat.reduceBEq, Nat.reduceLT, Nat.reduceEqDiff, reduceIte, reduceCtorEq, Nat.reduceMul, Nat.reduceAdd, Nat.reduceSub, Int.reduceEq, Int.reduceLT, Int.reduceLE, Int.reduceNeg, Int.reduceAdd, Int.reduceSub, Int.reduceMul, Nat.reduceLeDiff, Int.reduceToNat, RunV_zero Try.zeroValue94, size_alloc_h, vcells_agg, can_h, heap_alloc_h, if_true, canO_cells, succ_ne, ne_succ])
    have y1 : ((w6.alloc (.cells #[.string ⟨#[]⟩, .string ⟨#[]⟩] 94)).alloc (.cells #[.string ⟨#[]⟩, .string ⟨#[]⟩] 94)).heap[w6.heap.size]? = some (.cells #[.string ⟨#[]⟩, .string ⟨#[]⟩] 94 (0, 0)) := by
      rw [heap_alloc_h, if_neg (by rw [size_alloc_h]; omega), heap_alloc_h, if_pos rfl]
    have y2 : ((w6.alloc (.cells #[.string ⟨#[]⟩, .string ⟨#[]⟩] 94)).alloc (.cells #[.string ⟨#[]⟩, .string ⟨#[]⟩] 94)).heap[w6.heap.size + 1]? = some (.cells #[.string ⟨#[]⟩, .string ⟨#[]⟩] 94 (0, 0)) := by
      rw [heap_alloc_h, if_pos (by rw [size_alloc_h])]
    have hp9 := setCells_all y1 (l := [.string atX.1, .string atX.2]) rfl
    have u9 := Upd.setCells (F := fun b => b = w6.heap.size) (a := ⟨w6.heap.size, 0, none⟩) ((w6.alloc (.cells #[.string ⟨#[]⟩, .string ⟨#[]⟩] 94)).alloc (.cells #[.string ⟨#[]⟩, .string ⟨#[]⟩] 94)) rfl [.string atX.1, .string atX.2] 0
    have hx7 : Ext w6 (setCells ((w6.alloc (.cells #[.string ⟨#[]⟩, .string ⟨#[]⟩] 94)).alloc (.cells #[.string ⟨#[]⟩, .string ⟨#[]⟩] 94)) ⟨w6.heap.size, 0, none⟩ [.string atX.1, .string atX.2] 0) := Upd.trans ((Ext.alloc _ _).trans (Ext.alloc _ _)) u9 fun i hi e => by omega
    have y3 := (u9.same (w6.heap.size + 1) (blk_lt y2) (by omega)).trans y2
    generalize setCells ((w6.alloc (.cells #[.string ⟨#[]⟩, .string ⟨#[]⟩] 94)).alloc (.cells #[.string ⟨#[]⟩, .string ⟨#[]⟩] 94)) ⟨w6.heap.size, 0, none⟩ [.string atX.1, .string atX.2] 0 = w7 at *
    simp only [y3, canO_cells, List.size_toArray, List.length_cons, List.length_nil, Nat.zero_add, Nat.reduceAdd, Nat.reduceLT, true_and]
    have hp10 := setCells_all y3 (l := [.string atY.1, .string atY.2]) rfl
    have u10 := Upd.setCells (F := fun b => b = w6.heap.size + 1) (a := ⟨w6.heap.size + 1, 0, none⟩) w7 rfl [.string atY.1, .string atY.2] 0
    have hx8 : Ext w6 (setCells w7 ⟨w6.heap.size + 1, 0, none⟩ [.string atY.1, .string atY.2] 0) := Upd.trans hx7 u10 fun i hi e => by omega
    have hq9 := (u10.same w6.heap.size (blk_lt hp9) (by omega)).trans hp9
    generalize setCells w7 ⟨w6.heap.size + 1, 0, none⟩ [.string atY.1, .string atY.2] 0 = w8 at *
    have hq8 := hx8.blk hp6
    have hcl8 : cellO w8.heap[b]? (o + k) = some (.int .u8 (c : Int)) := by
      have := hx6.trans hx8
      have hb5 : b < w5.heap.size := by
        cases hq : w5.heap[b]? with
        | none => rw [hq] at hcl; cases hcl
        | some o => exact blk_lt hq
      rw [this.heap hb5]; exact hcl
    have hd : (IntKind.u8.wrap ((c : Int).tdiv 3)).tmod 6 = ((c / 3 % 6 : Nat) : Int) := by
      have e1 : (c : Int).tdiv 3 = ((c / 3 : Nat) : Int) := by rw [Int.tdiv_eq_ediv_of_nonneg (by omega)]; omega
      have e2 : IntKind.u8.wrap ((c / 3 : Nat) : Int) = ((c / 3 : Nat) : Int) := by
        simp only [IntKind.wrap, IntKind.signed, IntKind.bits]
        simp; omega
      rw [e1, e2, Int.tmod_eq_emod_of_nonneg (by omega)]; omega
    have hpl8 := blk_lt hp10
    obtain ⟨p9, hp9e⟩ : ∃ p9, p9 = w6.heap.size := ⟨_, rfl⟩
    rw [← hp9e] at hp10 hq9 hpl8 ⊢
    have n1 : ¬ p8 = p9 := by omega
    have n2 : ¬ p8 = p9 + 1 := by omega
    have hx9 : Ext w5 w8 := hx6.trans hx8
    generalize hdd : c / 3 % 6 = d at hd
    by_cases d1 : d = 1
    · subst d1
      ((repeat simp only [push_cast, Nat.reduceBEq, Nat.reduceLT, Nat.reduceEqDiff, reduceIte, reduceCtorEq, Nat.reduceMul, Nat.reduceAdd, Nat.reduceSub, Int.reduceEq, Int.reduceLT, Int.reduceLE, Int.reduceNeg, Int.reduceAdd, Int.reduceSub, Int.reduceMul, Nat.reduceLeDiff, Int.reduceToNat, cell_h, cellO_cells, b0, b1, b2, hcl8, hd, hq8, hq9, hp10]); (repeat (first | (with_reducible first | (refine hK _ _ ?_; clear hK K) | refine (show ∀ σ' w', _ → K σ' w' from by assumption) _ _ ?_ | refine W_seq_k fun K hK => ?_ | refine W_block_k fun K hK => ?_ | refine W_skip ?_ | refine W_ret ?_) | ((first | ((with_reducible refine W_id ?_); refine W_reg (by decide) (by rfl) ?_) | (with_reducible first | refine W_cond ?_ | refine hZ _ _ ?_ | refine W_exit ?_ | refine Wo_id ?_)); repeat1' simp only [push_cast, Nat.reduceBEq, Nat.reduceLT, Nat.reduceEqDiff, reduceIte, reduceCtorEq, Nat.reduceMul, Nat.reduceAdd, Nat.reduceSub, Int.reduceEq, Int.reduceLT, Int.reduceLE, Int.reduceNeg, Int.reduceAdd, Int.reduceSub, Int.reduceMul, Nat.reduceLeDiff, Int.reduceToNat, cell_h, cellO_cells, b0, b1, b2, hcl8, hd, hq8, hq9, hp10]) | ((repeat ((fail_if_success with_reducible refine hK _ _ ?_); clear hK K)); (with_reducible refine hK _ _ ?_); clear hK K))))
      refine bs_of sty27 (n := 1) (by decide) (by decide) Try.zeroValue94 (cs := #[.string atX.1, .string atX.2]) (by rw [show 1 * 2 = 2 from rfl, show Array.range 2 = #[0, 1] from rfl]; simp [Instr.fill, Value.cells]) ?_
      have hx9b : Ext w8 (w8.alloc (.cells #[.string atX.1, .string atX.2] 94)) := Ext.alloc _ _
      have hat9 : SlAt (w8.alloc (.cells #[.string atX.1, .string atX.2] 94)) 2 (.slice (some ⟨w8.heap.size, 0, none⟩) 1 1) (attrCells [atX]) (some w8.heap.size) := SlAt.new w8 2 #[.string atX.1, .string atX.2] 94 1 rfl
      have hq9b := hx9b.blk hq8
      have hpr : w8.heap.size < (w8.alloc (.cells #[.string atX.1, .string atX.2] 94)).heap.size := by rw [size_alloc_h]; omega
      have hs8 := hx9.alike.size
      generalize hpre : w8.heap.size = pr at *
      generalize w8.alloc (.cells #[.string atX.1, .string atX.2] 94) = w9 at *
      have hst : canStore w9 ⟨p8, 4, none⟩ := by rw [can_h, hq9b, canO_cells]; simp
      have u10b := Upd.setCell (F := fun b => b = p8) (a := ⟨p8, 4, none⟩) w9 rfl (.slice (some ⟨pr, 0, none⟩) 1 1)
      have hq10 : (w9.setCell ⟨p8, 4, none⟩ (.slice (some ⟨pr, 0, none⟩) 1 1)).heap[p8]? = some (.cells #[.int .i64 3, .string (nmN c), .string ⟨#[]⟩, .int .i64 0, .slice (some ⟨pr, 0, none⟩) 1 1, .bool false, .int .i64 0, .int .i64 0, .slice none 0 0, .int .i64 0, .int .i64 0] 30 (0, 0)) := by
        rw [heap_set_h, if_pos rfl, hq9b]; rfl
      have hx10 : Ext w5 (w9.setCell ⟨p8, 4, none⟩ (.slice (some ⟨pr, 0, none⟩) 1 1)) := Upd.trans (hx9.trans hx9b) u10b fun i hi e => by omega
      have hat := hat9.upd u10b fun b hb e => by cases hb; omega
      have hbr : ∀ b, some pr = some b → w5.heap.size ≤ b ∧ b < (w9.setCell ⟨p8, 4, none⟩ (.slice (some ⟨pr, 0, none⟩) 1 1)).heap.size := fun b hb => by cases hb; rw [size_set_h]; omega
      ((repeat simp only [push_cast, Nat.reduceBEq, Nat.reduceLT, Nat.reduceEqDiff, reduceIte, reduceCtorEq, Nat.reduceMul, Nat.reduceAdd, Nat.reduceSub, Int.reduceEq, Int.reduceLT, Int.reduceLE, Int.reduceNeg, Int.reduceAdd, Int.reduceSub, Int.reduceMul, Nat.reduceLeDiff, Int.reduceToNat, cell_h, cellO_cells, hst]); (repeat (first | (with_reducible first | (refine hK _ _ ?_; clear hK K) | refine (show ∀ σ' w', _ → K σ' w' from by assumption) _ _ ?_ | refine W_seq_k fun K hK => ?_ | refine W_block_k fun K hK => ?_ | refine W_skip ?_ | refine W_ret ?_) | ((first | ((with_reducible refine W_id ?_); refine W_reg (by decide) (by rfl) ?_) | (with_reducible first | refine W_cond ?_ | refine hZ _ _ ?_ | refine W_exit ?_ | refine Wo_id ?_)); repeat1' simp only [push_cast, Nat.reduceBEq, Nat.reduceLT, Nat.reduceEqDiff, reduceIte, reduceCtorEq, Nat.reduceMul, Nat.reduceAdd, Nat.reduceSub, Int.reduceEq, Int.reduceLT, Int.reduceLE, Int.reduceNeg, Int.reduceAdd, Int.reduceSub, Int.reduceMul, Nat.reduceLeDiff, Int.reduceToNat, cell_h, cellO_cells, hst]) | ((repeat ((fail_if_success with_reducible refine hK _ _ ?_); clear hK K)); (with_reducible refine hK _ _ ?_); clear hK K))))
      generalize w9.setCell ⟨p8, 4, none⟩ (.slice (some ⟨pr, 0, none⟩) 1 1) = w10 at *
      ((repeat simp only [push_cast, Nat.reduceBEq, Nat.reduceLT, Nat.reduceEqDiff, reduceIte, reduceCtorEq, Nat.reduceMul, Nat.reduceAdd, Nat.reduceSub, Int.reduceEq, Int.reduceLT, Int.reduceLE, Int.reduceNeg, Int.reduceAdd, Int.reduceSub, Int.reduceMul, Nat.reduceLeDiff, Int.reduceToNat, cell_h, cellO_cells, hq10]); (repeat (first | (with_reducible first | (refine hK _ _ ?_; clear hK K) | refine (show ∀ σ' w', _ → K σ' w' from by assumption) _ _ ?_ | refine W_seq_k fun K hK => ?_ | refine W_block_k fun K hK => ?_ | refine W_skip ?_ | refine W_ret ?_) | ((first | ((with_reducible refine W_id ?_); refine W_reg (by decide) (by rfl) ?_) | (with_reducible first | refine W_cond ?_ | refine hZ _ _ ?_ | refine W_exit ?_ | refine Wo_id ?_)); repeat1' simp only [push_cast, Nat.reduceBEq, Nat.reduceLT, Nat.reduceEqDiff, reduceIte, reduceCtorEq, Nat.reduceMul, Nat.reduceAdd, Nat.reduceSub, Int.reduceEq, Int.reduceLT, Int.reduceLE, Int.reduceNeg, Int.reduceAdd, Int.reduceSub, Int.reduceMul, Nat.reduceLeDiff, Int.reduceToNat, cell_h, cellO_cells, hq10]) | ((repeat ((fail_if_success with_reducible refine hK _ _ ?_); clear hK K)); (with_reducible refine hK _ _ ?_); clear hK K))))
      have hs10 := hx10.alike.size
      have hP : ∀ b, ((F b ∨ b = pn) ∨ b = p8 ∨ (some pr) = some b) → (F b ∨ b = pn) ∨ (w5.heap.size ≤ b ∧ b < w10.heap.size) := fun b hb => by
        rcases hb with hb | rfl | hb
        · exact .inl hb
        · exact .inr ⟨by omega, blk_lt hq10⟩
        · exact .inr (hbr b hb)
      have hA10 : At w w10 (fun b => (F b ∨ b = pn) ∨ b = p8 ∨ (some pr) = some b) pa (elsL (l.take k)) := hA5.guard hx10 hP
      have hB10 := hB5.ext hx10
      have hlen : (elsL (l.take k)).length < 100000 := by simp [elsL]; omega
      refine (add_a hA10 hlen (m := (⟨{ zN with kind := 3, name := nmN c, attrs := [atX], space := 0 }, .slice (some ⟨pr, 0, none⟩) 1 1, .slice none 0 0, (some pr), none⟩ : Laid)) hat.rd (by simp)).mono ?_
      rintro v w11 ⟨rfl, hA11, hu11⟩
      have hq11 := (hu11.same p8 (blk_lt hq10) (fun h => h.2 (.inr (.inl rfl)))).trans hq10
      have hp11 := (hu11.same pn (blk_lt (hx10.blk hp5)) (fun h => h.2 (.inl (.inr rfl)))).trans (hx10.blk hp5)
      have hB11 := hB10.frame hu11 fun b hb h => h.2 (.inl (.inl hb))
      have hat11 := hat.upd hu11 fun b hb h => h.2 (.inr (.inr hb))
      have hs11 := hu11.alike.size
      ((repeat simp only [push_cast, Nat.reduceBEq, Nat.reduceLT, Nat.reduceEqDiff, reduceIte, reduceCtorEq, Nat.reduceMul, Nat.reduceAdd, Nat.reduceSub, Int.reduceEq, Int.reduceLT, Int.reduceLE, Int.reduceNeg, Int.reduceAdd, Int.reduceSub, Int.reduceMul, Nat.reduceLeDiff, Int.reduceToNat, cell_h, hq11, cellO_cells]); (repeat (first | (with_reducible first | (refine hK _ _ ?_; clear hK K) | refine (show ∀ σ' w', _ → K σ' w' from by assumption) _ _ ?_ | refine W_seq_k fun K hK => ?_ | refine W_block_k fun K hK => ?_ | refine W_skip ?_ | refine W_ret ?_) | ((first | ((with_reducible refine W_id ?_); refine W_reg (by decide) (by rfl) ?_) | (with_reducible first | refine W_cond ?_ | refine hZ _ _ ?_ | refine W_exit ?_ | refine Wo_id ?_)); repeat1' simp only [push_cast, Nat.reduceBEq, Nat.reduceLT, Nat.reduceEqDiff, reduceIte, reduceCtorEq, Nat.reduceMul, Nat.reduceAdd, Nat.reduceSub, Int.reduceEq, Int.reduceLT, Int.reduceLE, Int.reduceNeg, Int.reduceAdd, Int.reduceSub, Int.reduceMul, Nat.reduceLeDiff, Int.reduceToNat, cell_h, hq11, cellO_cells]) | ((repeat ((fail_if_success with_reducible refine hK _ _ ?_); clear hK K)); (with_reducible refine hK _ _ ?_); clear hK K))))
      refine (radd_c hB11 (by omega) (m := (⟨{ zN with kind := 3, name := nmN c, attrs := [atX], space := 0 }, .slice (some ⟨pr, 0, none⟩) 1 1, .slice none 0 0, (some pr), none⟩ : Laid)) hat11.rd (by simp) rfl (nmN_ne c)).mono ?_
      rintro v w12 ⟨hB12, hu12⟩
      ((repeat simp only [push_cast, Nat.reduceBEq, Nat.reduceLT, Nat.reduceEqDiff, reduceIte, reduceCtorEq, Nat.reduceMul, Nat.reduceAdd, Nat.reduceSub, Int.reduceEq, Int.reduceLT, Int.reduceLE, Int.reduceNeg, Int.reduceAdd, Int.reduceSub, Int.reduceMul, Nat.reduceLeDiff, Int.reduceToNat, b2]); (repeat (first | (with_reducible first | (refine hK _ _ ?_; clear hK K) | refine (show ∀ σ' w', _ → K σ' w' from by assumption) _ _ ?_ | refine W_seq_k fun K hK => ?_ | refine W_block_k fun K hK => ?_ | refine W_skip ?_ | refine W_ret ?_) | ((first | ((with_reducible refine W_id ?_); refine W_reg (by decide) (by rfl) ?_) | (with_reducible first | refine W_cond ?_ | refine hZ _ _ ?_ | refine W_exit ?_ | refine Wo_id ?_)); repeat1' simp only [push_cast, Nat.reduceBEq, Nat.reduceLT, Nat.reduceEqDiff, reduceIte, reduceCtorEq, Nat.reduceMul, Nat.reduceAdd, Nat.reduceSub, Int.reduceEq, Int.reduceLT, Int.reduceLE, Int.reduceNeg, Int.reduceAdd, Int.reduceSub, Int.reduceMul, Nat.reduceLeDiff, Int.reduceToNat, b2]) | ((repeat ((fail_if_success with_reducible refine hK _ _ ?_); clear hK K)); (with_reducible refine hK _ _ ?_); clear hK K))))
      refine ⟨k + 1, by omega, ?_⟩
      (repeat simp only [push_cast, Nat.reduceBEq, Nat.reduceLT, Nat.reduceEqDiff, reduceIte, reduceCtorEq, Nat.reduceMul, Nat.reduceAdd, Nat.reduceSub, Int.reduceEq, Int.reduceLT, Int.reduceLE, Int.reduceNeg, Int.reduceAdd, Int.reduceSub, Int.reduceMul, Nat.reduceLeDiff, Int.reduceToNat])
      have eL : elsL (l.take (k + 1)) = elsL (l.take k) ++ [bareN (⟨{ zN with kind := 3, name := nmN c, attrs := [atX], space := 0 }, .slice (some ⟨pr, 0, none⟩) 1 1, .slice none 0 0, (some pr), none⟩ : Laid).nd] := by
        rw [List.take_add_one, hc]
        simp only [elsL, Option.toList_some, List.map_append, List.map_cons, List.map_nil, List.cons_append]
        rw [show fmN c = bareN (⟨{ zN with kind := 3, name := nmN c, attrs := [atX], space := 0 }, .slice (some ⟨pr, 0, none⟩) 1 1, .slice none 0 0, (some pr), none⟩ : Laid).nd from by simp [fmN, bareN, atN, hdd, zN]]
      have eA : (addN (elsL (l.take k)) (⟨{ zN with kind := 3, name := nmN c, attrs := [atX], space := 0 }, .slice (some ⟨pr, 0, none⟩) 1 1, .slice none 0 0, (some pr), none⟩ : Laid).nd).1 = elsL (l.take (k + 1)) := by
        rw [eL, addN, if_pos (by rfl), if_neg (fun h => nmN_ne c h.2.2)]
      rw [eA] at hA11
      rw [← eL] at hB12
      have hs12 := hu12.alike.size
      refine ⟨by omega, fun b => (F b ∨ w11.heap.size ≤ b) ∧ b < w12.heap.size, ?_, hB12.mono fun b hb hf => ⟨hf, hb⟩, ?_, ?_, ?_⟩
      · refine hA11.app hu12 (fun b _ hb => ⟨.inl (.inl hb), hF b hb⟩) fun b hb => ?_
        rcases hb with ⟨hb | hb, h2⟩ | rfl
        · exact .inl (.inl (.inl hb))
        · exact .inr ⟨hb, h2⟩
        · exact .inl (.inl (.inr rfl))
      · rintro b ⟨hb | hb, _⟩
        · exact hF b hb
        · have := hA11.ext.alike.size; omega
      · rintro ⟨hb | hb, _⟩
        · exact hFn hb
        · have := blk_lt hp11; omega
      · exact (hu12.same pn (blk_lt hp11) hFn).trans hp11
    by_cases d2 : d = 2
    · subst d2
      ((repeat simp only [push_cast, Nat.reduceBEq, Nat.reduceLT, Nat.reduceEqDiff, reduceIte, reduceCtorEq, Nat.reduceMul, Nat.reduceAdd, Nat.reduceSub, Int.reduceEq, Int.reduceLT, Int.reduceLE, Int.reduceNeg, Int.reduceAdd, Int.reduceSub, Int.reduceMul, Nat.reduceLeDiff, Int.reduceToNat, cell_h, cellO_cells, b0, b1, b2, hcl8, hd, hq8, hq9, hp10]); (repeat (first | (with_reducible first | (refine hK _ _ ?_; clear hK K) | refine (show ∀ σ' w', _ → K σ' w' from by assumption) _ _ ?_ | refine W_seq_k fun K hK => ?_ | refine W_block_k fun K hK => ?_ | refine W_skip ?_ | refine W_ret ?_) | ((first | ((with_reducible refine W_id ?_); refine W_reg (by decide) (by rfl) ?_) | (with_reducible first | refine W_cond ?_ | refine hZ _ _ ?_ | refine W_exit ?_ | refine Wo_id ?_)); repeat1' simp only [push_cast, Nat.reduceBEq, Nat.reduceLT, Nat.reduceEqDiff, reduceIte, reduceCtorEq, Nat.reduceMul, Nat.reduceAdd, Nat.reduceSub, Int.reduceEq, Int.reduceLT, Int.reduceLE, Int.reduceNeg, Int.reduceAdd, Int.reduceSub, Int.reduceMul, Nat.reduceLeDiff, Int.reduceToNat, cell_h, cellO_cells, b0, b1, b2, hcl8, hd, hq8, hq9, hp10]) | ((repeat ((fail_if_success with_reducible refine hK _ _ ?_); clear hK K)); (with_reducible refine hK _ _ ?_); clear hK K))))
      refine bs_of sty27 (n := 2) (by decide) (by decide) Try.zeroValue94 (cs := #[.string atX.1, .string atX.2, .string atY.1, .string atY.2]) (fill94 _ _ _ _) ?_
      have hx9b : Ext w8 (w8.alloc (.cells #[.string atX.1, .string atX.2, .string atY.1, .string atY.2] 94)) := Ext.alloc _ _
      have hat9 : SlAt (w8.alloc (.cells #[.string atX.1, .string atX.2, .string atY.1, .string atY.2] 94)) 2 (.slice (some ⟨w8.heap.size, 0, none⟩) 2 2) (attrCells [atX, atY]) (some w8.heap.size) := SlAt.new w8 2 #[.string atX.1, .string atX.2, .string atY.1, .string atY.2] 94 2 rfl
      have hq9b := hx9b.blk hq8
      have hpr : w8.heap.size < (w8.alloc (.cells #[.string atX.1, .string atX.2, .string atY.1, .string atY.2] 94)).heap.size := by rw [size_alloc_h]; omega
      have hs8 := hx9.alike.size
      generalize hpre : w8.heap.size = pr at *
      generalize w8.alloc (.cells #[.string atX.1, .string atX.2, .string atY.1, .string atY.2] 94) = w9 at *
      have hst : canStore w9 ⟨p8, 4, none⟩ := by rw [can_h, hq9b, canO_cells]; simp
      have u10b := Upd.setCell (F := fun b => b = p8) (a := ⟨p8, 4, none⟩) w9 rfl (.slice (some ⟨pr, 0, none⟩) 2 2)
      have hq10 : (w9.setCell ⟨p8, 4, none⟩ (.slice (some ⟨pr, 0, none⟩) 2 2)).heap[p8]? = some (.cells #[.int .i64 3, .string (nmN c), .string ⟨#[]⟩, .int .i64 0, .slice (some ⟨pr, 0, none⟩) 2 2, .bool false, .int .i64 0, .int .i64 0, .slice none 0 0, .int .i64 0, .int .i64 0] 30 (0, 0)) := by
        rw [heap_set_h, if_pos rfl, hq9b]; rfl
      have hx10 : Ext w5 (w9.setCell ⟨p8, 4, none⟩ (.slice (some ⟨pr, 0, none⟩) 2 2)) := Upd.trans (hx9.trans hx9b) u10b fun i hi e => by omega
      have hat := hat9.upd u10b fun b hb e => by cases hb; omega
      have hbr : ∀ b, some pr = some b → w5.heap.size ≤ b ∧ b < (w9.setCell ⟨p8, 4, none⟩ (.slice (some ⟨pr, 0, none⟩) 2 2)).heap.size := fun b hb => by cases hb; rw [size_set_h]; omega
      ((repeat simp only [push_cast, Nat.reduceBEq, Nat.reduceLT, Nat.reduceEqDiff, reduceIte, reduceCtorEq, Nat.reduceMul, Nat.reduceAdd, Nat.reduceSub, Int.reduceEq, Int.reduceLT, Int.reduceLE, Int.reduceNeg, Int.reduceAdd, Int.reduceSub, Int.reduceMul, Nat.reduceLeDiff, Int.reduceToNat, cell_h, cellO_cells, hst]); (repeat (first | (with_reducible first | (refine hK _ _ ?_; clear hK K) | refine (show ∀ σ' w', _ → K σ' w' from by assumption) _ _ ?_ | refine W_seq_k fun K hK => ?_ | refine W_block_k fun K hK => ?_ | refine W_skip ?_ | refine W_ret ?_) | ((first | ((with_reducible refine W_id ?_); refine W_reg (by decide) (by rfl) ?_) | (with_reducible first | refine W_cond ?_ | refine hZ _ _ ?_ | refine W_exit ?_ | refine Wo_id ?_)); repeat1' simp only [push_cast, Nat.reduceBEq, Nat.reduceLT, Nat.reduceEqDiff, reduceIte, reduceCtorEq, Nat.reduceMul, Nat.reduceAdd, Nat.reduceSub, Int.reduceEq, Int.reduceLT, Int.reduceLE, Int.reduceNeg, Int.reduceAdd, Int.reduceSub, Int.reduceMul, Nat.reduceLeDiff, Int.reduceToNat, cell_h, cellO_cells, hst]) | ((repeat ((fail_if_success with_reducible refine hK _ _ ?_); clear hK K)); (with_reducible refine hK _ _ ?_); clear hK K))))
      generalize w9.setCell ⟨p8, 4, none⟩ (.slice (some ⟨pr, 0, none⟩) 2 2) = w10 at *
      ((repeat simp only [push_cast, Nat.reduceBEq, Nat.reduceLT, Nat.reduceEqDiff, reduceIte, reduceCtorEq, Nat.reduceMul, Nat.reduceAdd, Nat.reduceSub, Int.reduceEq, Int.reduceLT, Int.reduceLE, Int.reduceNeg, Int.reduceAdd, Int.reduceSub, Int.reduceMul, Nat.reduceLeDiff, Int.reduceToNat, cell_h, cellO_cells, hq10]); (repeat (first | (with_reducible first | (refine hK _ _ ?_; clear hK K) | refine (show ∀ σ' w', _ → K σ' w' from by assumption) _ _ ?_ | refine W_seq_k fun K hK => ?_ | refine W_block_k fun K hK => ?_ | refine W_skip ?_ | refine W_ret ?_) | ((first | ((with_reducible refine W_id ?_); refine W_reg (by decide) (by rfl) ?_) | (with_reducible first | refine W_cond ?_ | refine hZ _ _ ?_ | refine W_exit ?_ | refine Wo_id ?_)); repeat1' simp only [push_cast, Nat.reduceBEq, Nat.reduceLT, Nat.reduceEqDiff, reduceIte, reduceCtorEq, Nat.reduceMul, Nat.reduceAdd, Nat.reduceSub, Int.reduceEq, Int.reduceLT, Int.reduceLE, Int.reduceNeg, Int.reduceAdd, Int.reduceSub, Int.reduceMul, Nat.reduceLeDiff, Int.reduceToNat, cell_h, cellO_cells, hq10]) | ((repeat ((fail_if_success with_reducible refine hK _ _ ?_); clear hK K)); (with_reducible refine hK _ _ ?_); clear hK K))))
      have hs10 := hx10.alike.size
      have hP : ∀ b, ((F b ∨ b = pn) ∨ b = p8 ∨ (some pr) = some b) → (F b ∨ b = pn) ∨ (w5.heap.size ≤ b ∧ b < w10.heap.size) := fun b hb => by
        rcases hb with hb | rfl | hb
        · exact .inl hb
        · exact .inr ⟨by omega, blk_lt hq10⟩
        · exact .inr (hbr b hb)
      have hA10 : At w w10 (fun b => (F b ∨ b = pn) ∨ b = p8 ∨ (some pr) = some b) pa (elsL (l.take k)) := hA5.guard hx10 hP
      have hB10 := hB5.ext hx10
      have hlen : (elsL (l.take k)).length < 100000 := by simp [elsL]; omega
      refine (add_a hA10 hlen (m := (⟨{ zN with kind := 3, name := nmN c, attrs := [atX, atY], space := 0 }, .slice (some ⟨pr, 0, none⟩) 2 2, .slice none 0 0, (some pr), none⟩ : Laid)) hat.rd (by simp)).mono ?_
      rintro v w11 ⟨rfl, hA11, hu11⟩
      have hq11 := (hu11.same p8 (blk_lt hq10) (fun h => h.2 (.inr (.inl rfl)))).trans hq10
      have hp11 := (hu11.same pn (blk_lt (hx10.blk hp5)) (fun h => h.2 (.inl (.inr rfl)))).trans (hx10.blk hp5)
      have hB11 := hB10.frame hu11 fun b hb h => h.2 (.inl (.inl hb))
      have hat11 := hat.upd hu11 fun b hb h => h.2 (.inr (.inr hb))
      have hs11 := hu11.alike.size
      ((repeat simp only [push_cast, Nat.reduceBEq, Nat.reduceLT, Nat.reduceEqDiff, reduceIte, reduceCtorEq, Nat.reduceMul, Nat.reduceAdd, Nat.reduceSub, Int.reduceEq, Int.reduceLT, Int.reduceLE, Int.reduceNeg, Int.reduceAdd, Int.reduceSub, Int.reduceMul, Nat.reduceLeDiff, Int.reduceToNat, cell_h, hq11, cellO_cells]); (repeat (first | (with_reducible first | (refine hK _ _ ?_; clear hK K) | refine (show ∀ σ' w', _ → K σ' w' from by assumption) _ _ ?_ | refine W_seq_k fun K hK => ?_ | refine W_block_k fun K hK => ?_ | refine W_skip ?_ | refine W_ret ?_) | ((first | ((with_reducible refine W_id ?_); refine W_reg (by decide) (by rfl) ?_) | (with_reducible first | refine W_cond ?_ | refine hZ _ _ ?_ | refine W_exit ?_ | refine Wo_id ?_)); repeat1' simp only [push_cast, Nat.reduceBEq, Nat.reduceLT, Nat.reduceEqDiff, reduceIte, reduceCtorEq, Nat.reduceMul, Nat.reduceAdd, Nat.reduceSub, Int.reduceEq, Int.reduceLT, Int.reduceLE, Int.reduceNeg, Int.reduceAdd, Int.reduceSub, Int.reduceMul, Nat.reduceLeDiff, Int.reduceToNat, cell_h, hq11, cellO_cells]) | ((repeat ((fail_if_success with_reducible refine hK _ _ ?_); clear hK K)); (with_reducible refine hK _ _ ?_); clear hK K))))
      refine (radd_c hB11 (by omega) (m := (⟨{ zN with kind := 3, name := nmN c, attrs := [atX, atY], space := 0 }, .slice (some ⟨pr, 0, none⟩) 2 2, .slice none 0 0, (some pr), none⟩ : Laid)) hat11.rd (by simp) rfl (nmN_ne c)).mono ?_
      rintro v w12 ⟨hB12, hu12⟩
      ((repeat simp only [push_cast, Nat.reduceBEq, Nat.reduceLT, Nat.reduceEqDiff, reduceIte, reduceCtorEq, Nat.reduceMul, Nat.reduceAdd, Nat.reduceSub, Int.reduceEq, Int.reduceLT, Int.reduceLE, Int.reduceNeg, Int.reduceAdd, Int.reduceSub, Int.reduceMul, Nat.reduceLeDiff, Int.reduceToNat, b2]); (repeat (first | (with_reducible first | (refine hK _ _ ?_; clear hK K) | refine (show ∀ σ' w', _ → K σ' w' from by assumption) _ _ ?_ | refine W_seq_k fun K hK => ?_ | refine W_block_k fun K hK => ?_ | refine W_skip ?_ | refine W_ret ?_) | ((first | ((with_reducible refine W_id ?_); refine W_reg (by decide) (by rfl) ?_) | (with_reducible first | refine W_cond ?_ | refine hZ _ _ ?_ | refine W_exit ?_ | refine Wo_id ?_)); repeat1' simp only [push_cast, Nat.reduceBEq, Nat.reduceLT, Nat.reduceEqDiff, reduceIte, reduceCtorEq, Nat.reduceMul, Nat.reduceAdd, Nat.reduceSub, Int.reduceEq, Int.reduceLT, Int.reduceLE, Int.reduceNeg, Int.reduceAdd, Int.reduceSub, Int.reduceMul, Nat.reduceLeDiff, Int.reduceToNat, b2]) | ((repeat ((fail_if_success with_reducible refine hK _ _ ?_); clear hK K)); (with_reducible refine hK _ _ ?_); clear hK K))))
      refine ⟨k + 1, by omega, ?_⟩
      (repeat simp only [push_cast, Nat.reduceBEq, Nat.reduceLT, Nat.reduceEqDiff, reduceIte, reduceCtorEq, Nat.reduceMul, Nat.reduceAdd, Nat.reduceSub, Int.reduceEq, Int.reduceLT, Int.reduceLE, Int.reduceNeg, Int.reduceAdd, Int.reduceSub, Int.reduceMul, Nat.reduceLeDiff, Int.reduceToNat])
      have eL : elsL (l.take (k + 1)) = elsL (l.take k) ++ [bareN (⟨{ zN with kind := 3, name := nmN c, attrs := [atX, atY], space := 0 }, .slice (some ⟨pr, 0, none⟩) 2 2, .slice none 0 0, (some pr), none⟩ : Laid).nd] := by
        rw [List.take_add_one, hc]
        simp only [elsL, Option.toList_some, List.map_append, List.map_cons, List.map_nil, List.cons_append]
        rw [show fmN c = bareN (⟨{ zN with kind := 3, name := nmN c, attrs := [atX, atY], space := 0 }, .slice (some ⟨pr, 0, none⟩) 2 2, .slice none 0 0, (some pr), none⟩ : Laid).nd from by simp [fmN, bareN, atN, hdd, zN]]
      have eA : (addN (elsL (l.take k)) (⟨{ zN with kind := 3, name := nmN c, attrs := [atX, atY], space := 0 }, .slice (some ⟨pr, 0, none⟩) 2 2, .slice none 0 0, (some pr), none⟩ : Laid).nd).1 = elsL (l.take (k + 1)) := by
        rw [eL, addN, if_pos (by rfl), if_neg (fun h => nmN_ne c h.2.2)]
      rw [eA] at hA11
      rw [← eL] at hB12
      have hs12 := hu12.alike.size
      refine ⟨by omega, fun b => (F b ∨ w11.heap.size ≤ b) ∧ b < w12.heap.size, ?_, hB12.mono fun b hb hf => ⟨hf, hb⟩, ?_, ?_, ?_⟩
      · refine hA11.app hu12 (fun b _ hb => ⟨.inl (.inl hb), hF b hb⟩) fun b hb => ?_
        rcases hb with ⟨hb | hb, h2⟩ | rfl
        · exact .inl (.inl (.inl hb))
        · exact .inr ⟨hb, h2⟩
        · exact .inl (.inl (.inr rfl))
      · rintro b ⟨hb | hb, _⟩
        · exact hF b hb
        · have := hA11.ext.alike.size; omega
      · rintro ⟨hb | hb, _⟩
        · exact hFn hb
        · have := blk_lt hp11; omega
      · exact (hu12.same pn (blk_lt hp11) hFn).trans hp11
    by_cases d3 : d = 3
    · subst d3
      ((repeat simp only [push_cast, Nat.reduceBEq, Nat.reduceLT, Nat.reduceEqDiff, reduceIte, reduceCtorEq, Nat.reduceMul, Nat.reduceAdd, Nat.reduceSub, Int.reduceEq, Int.reduceLT, Int.reduceLE, Int.reduceNeg, Int.reduceAdd, Int.reduceSub, Int.reduceMul, Nat.reduceLeDiff, Int.reduceToNat, cell_h, cellO_cells, b0, b1, b2, hcl8, hd, hq8, hq9, hp10]); (repeat (first | (with_reducible first | (refine hK _ _ ?_; clear hK K) | refine (show ∀ σ' w', _ → K σ' w' from by assumption) _ _ ?_ | refine W_seq_k fun K hK => ?_ | refine W_block_k fun K hK => ?_ | refine W_skip ?_ | refine W_ret ?_) | ((first | ((with_reducible refine W_id ?_); refine W_reg (by decide) (by rfl) ?_) | (with_reducible first | refine W_cond ?_ | refine hZ _ _ ?_ | refine W_exit ?_ | refine Wo_id ?_)); repeat1' simp only [push_cast, Nat.reduceBEq, Nat.reduceLT, Nat.reduceEqDiff, reduceIte, reduceCtorEq, Nat.reduceMul, Nat.reduceAdd, Nat.reduceSub, Int.reduceEq, Int.reduceLT, Int.reduceLE, Int.reduceNeg, Int.reduceAdd, Int.reduceSub, Int.reduceMul, Nat.reduceLeDiff, Int.reduceToNat, cell_h, cellO_cells, b0, b1, b2, hcl8, hd, hq8, hq9, hp10]) | ((repeat ((fail_if_success with_reducible refine hK _ _ ?_); clear hK K)); (with_reducible refine hK _ _ ?_); clear hK K))))
      refine bs_of sty27 (n := 2) (by decide) (by decide) Try.zeroValue94 (cs := #[.string atY.1, .string atY.2, .string atX.1, .string atX.2]) (fill94 _ _ _ _) ?_
      have hx9b : Ext w8 (w8.alloc (.cells #[.string atY.1, .string atY.2, .string atX.1, .string atX.2] 94)) := Ext.alloc _ _
      have hat9 : SlAt (w8.alloc (.cells #[.string atY.1, .string atY.2, .string atX.1, .string atX.2] 94)) 2 (.slice (some ⟨w8.heap.size, 0, none⟩) 2 2) (attrCells [atY, atX]) (some w8.heap.size) := SlAt.new w8 2 #[.string atY.1, .string atY.2, .string atX.1, .string atX.2] 94 2 rfl
      have hq9b := hx9b.blk hq8
      have hpr : w8.heap.size < (w8.alloc (.cells #[.string atY.1, .string atY.2, .string atX.1, .string atX.2] 94)).heap.size := by rw [size_alloc_h]; omega
      have hs8 := hx9.alike.size
      generalize hpre : w8.heap.size = pr at *
      generalize w8.alloc (.cells #[.string atY.1, .string atY.2, .string atX.1, .string atX.2] 94) = w9 at *
      have hst : canStore w9 ⟨p8, 4, none⟩ := by rw [can_h, hq9b, canO_cells]; simp
      have u10b := Upd.setCell (F := fun b => b = p8) (a := ⟨p8, 4, none⟩) w9 rfl (.slice (some ⟨pr, 0, none⟩) 2 2)
      have hq10 : (w9.setCell ⟨p8, 4, none⟩ (.slice (some ⟨pr, 0, none⟩) 2 2)).heap[p8]? = some (.cells #[.int .i64 3, .string (nmN c), .string ⟨#[]⟩, .int .i64 0, .slice (some ⟨pr, 0, none⟩) 2 2, .bool false, .int .i64 0, .int .i64 0, .slice none 0 0, .int .i64 0, .int .i64 0] 30 (0, 0)) := by
        rw [heap_set_h, if_pos rfl, hq9b]; rfl
      have hx10 : Ext w5 (w9.setCell ⟨p8, 4, none⟩ (.slice (some ⟨pr, 0, none⟩) 2 2)) := Upd.trans (hx9.trans hx9b) u10b fun i hi e => by omega
      have hat := hat9.upd u10b fun b hb e => by cases hb; omega
      have hbr : ∀ b, some pr = some b → w5.heap.size ≤ b ∧ b < (w9.setCell ⟨p8, 4, none⟩ (.slice (some ⟨pr, 0, none⟩) 2 2)).heap.size := fun b hb => by cases hb; rw [size_set_h]; omega
      ((repeat simp only [push_cast, Nat.reduceBEq, Nat.reduceLT, Nat.reduceEqDiff, reduceIte, reduceCtorEq, Nat.reduceMul, Nat.reduceAdd, Nat.reduceSub, Int.reduceEq, Int.reduceLT, Int.reduceLE, Int.reduceNeg, Int.reduceAdd, Int.reduceSub, Int.reduceMul, Nat.reduceLeDiff, Int.reduceToNat, cell_h, cellO_cells, hst]); (repeat (first | (with_reducible first | (refine hK _ _ ?_; clear hK K) | refine (show ∀ σ' w', _ → K σ' w' from by assumption) _ _ ?_ | refine W_seq_k fun K hK => ?_ | refine W_block_k fun K hK => ?_ | refine W_skip ?_ | refine W_ret ?_) | ((first | ((with_reducible refine W_id ?_); refine W_reg (by decide) (by rfl) ?_) | (with_reducible first | refine W_cond ?_ | refine hZ _ _ ?_ | refine W_exit ?_ | refine Wo_id ?_)); repeat1' simp only [push_cast, Nat.reduceBEq, Nat.reduceLT, Nat.reduceEqDiff, reduceIte, reduceCtorEq, Nat.reduceMul, Nat.reduceAdd, Nat.reduceSub, Int.reduceEq, Int.reduceLT, Int.reduceLE, Int.reduceNeg, Int.reduceAdd, Int.reduceSub, Int.reduceMul, Nat.reduceLeDiff, Int.reduceToNat, cell_h, cellO_cells, hst]) | ((repeat ((fail_if_success with_reducible refine hK _ _ ?_); clear hK K)); (with_reducible refine hK _ _ ?_); clear hK K))))
      generalize w9.setCell ⟨p8, 4, none⟩ (.slice (some ⟨pr, 0, none⟩) 2 2) = w10 at *
      ((repeat simp only [push_cast, Nat.reduceBEq, Nat.reduceLT, Nat.reduceEqDiff, reduceIte, reduceCtorEq, Nat.reduceMul, Nat.reduceAdd, Nat.reduceSub, Int.reduceEq, Int.reduceLT, Int.reduceLE, Int.reduceNeg, Int.reduceAdd, Int.reduceSub, Int.reduceMul, Nat.reduceLeDiff, Int.reduceToNat, cell_h, cellO_cells, hq10]); (repeat (first | (with_reducible first | (refine hK _ _ ?_; clear hK K) | refine (show ∀ σ' w', _ → K σ' w' from by assumption) _ _ ?_ | refine W_seq_k fun K hK => ?_ | refine W_block_k fun K hK => ?_ | refine W_skip ?_ | refine W_ret ?_) | ((first | ((with_reducible refine W_id ?_); refine W_reg (by decide) (by rfl) ?_) | (with_reducible first | refine W_cond ?_ | refine hZ _ _ ?_ | refine W_exit ?_ | refine Wo_id ?_)); repeat1' simp only [push_cast, Nat.reduceBEq, Nat.reduceLT, Nat.reduceEqDiff, reduceIte, reduceCtorEq, Nat.reduceMul, Nat.reduceAdd, Nat.reduceSub, Int.reduceEq, Int.reduceLT, Int.reduceLE, Int.reduceNeg, Int.reduceAdd, Int.reduceSub, Int.reduceMul, Nat.reduceLeDiff, Int.reduceToNat, cell_h, cellO_cells, hq10]) | ((repeat ((fail_if_success with_reducible refine hK _ _ ?_); clear hK K)); (with_reducible refine hK _ _ ?_); clear hK K))))
      have hs10 := hx10.alike.size
      have hP : ∀ b, ((F b ∨ b = pn) ∨ b = p8 ∨ (some pr) = some b) → (F b ∨ b = pn) ∨ (w5.heap.size ≤ b ∧ b < w10.heap.size) := fun b hb => by
        rcases hb with hb | rfl | hb
        · exact .inl hb
        · exact .inr ⟨by omega, blk_lt hq10⟩
        · exact .inr (hbr b hb)
      have hA10 : At w w10 (fun b => (F b ∨ b = pn) ∨ b = p8 ∨ (some pr) = some b) pa (elsL (l.take k)) := hA5.guard hx10 hP
      have hB10 := hB5.ext hx10
      have hlen : (elsL (l.take k)).length < 100000 := by simp [elsL]; omega
      refine (add_a hA10 hlen (m := (⟨{ zN with kind := 3, name := nmN c, attrs := [atY, atX], space := 0 }, .slice (some ⟨pr, 0, none⟩) 2 2, .slice none 0 0, (some pr), none⟩ : Laid)) hat.rd (by simp)).mono ?_
      rintro v w11 ⟨rfl, hA11, hu11⟩
      have hq11 := (hu11.same p8 (blk_lt hq10) (fun h => h.2 (.inr (.inl rfl)))).trans hq10
      have hp11 := (hu11.same pn (blk_lt (hx10.blk hp5)) (fun h => h.2 (.inl (.inr rfl)))).trans (hx10.blk hp5)
      have hB11 := hB10.frame hu11 fun b hb h => h.2 (.inl (.inl hb))
      have hat11 := hat.upd hu11 fun b hb h => h.2 (.inr (.inr hb))
      have hs11 := hu11.alike.size
      ((repeat simp only [push_cast, Nat.reduceBEq, Nat.reduceLT, Nat.reduceEqDiff, reduceIte, reduceCtorEq, Nat.reduceMul, Nat.reduceAdd, Nat.reduceSub, Int.reduceEq, Int.reduceLT, Int.reduceLE, Int.reduceNeg, Int.reduceAdd, Int.reduceSub, Int.reduceMul, Nat.reduceLeDiff, Int.reduceToNat, cell_h, hq11, cellO_cells]); (repeat (first | (with_reducible first | (refine hK _ _ ?_; clear hK K) | refine (show ∀ σ' w', _ → K σ' w' from by assumption) _ _ ?_ | refine W_seq_k fun K hK => ?_ | refine W_block_k fun K hK => ?_ | refine W_skip ?_ | refine W_ret ?_) | ((first | ((with_reducible refine W_id ?_); refine W_reg (by decide) (by rfl) ?_) | (with_reducible first | refine W_cond ?_ | refine hZ _ _ ?_ | refine W_exit ?_ | refine Wo_id ?_)); repeat1' simp only [push_cast, Nat.reduceBEq, Nat.reduceLT, Nat.reduceEqDiff, reduceIte, reduceCtorEq, Nat.reduceMul, Nat.reduceAdd, Nat.reduceSub, Int.reduceEq, Int.reduceLT, Int.reduceLE, Int.reduceNeg, Int.reduceAdd, Int.reduceSub, Int.reduceMul, Nat.reduceLeDiff, Int.reduceToNat, cell_h, hq11, cellO_cells]) | ((repeat ((fail_if_success with_reducible refine hK _ _ ?_); clear hK K)); (with_reducible refine hK _ _ ?_); clear hK K))))
      refine (radd_c hB11 (by omega) (m := (⟨{ zN with kind := 3, name := nmN c, attrs := [atY, atX], space := 0 }, .slice (some ⟨pr, 0, none⟩) 2 2, .slice none 0 0, (some pr), none⟩ : Laid)) hat11.rd (by simp) rfl (nmN_ne c)).mono ?_
      rintro v w12 ⟨hB12, hu12⟩
      ((repeat simp only [push_cast, Nat.reduceBEq, Nat.reduceLT, Nat.reduceEqDiff, reduceIte, reduceCtorEq, Nat.reduceMul, Nat.reduceAdd, Nat.reduceSub, Int.reduceEq, Int.reduceLT, Int.reduceLE, Int.reduceNeg, Int.reduceAdd, Int.reduceSub, Int.reduceMul, Nat.reduceLeDiff, Int.reduceToNat, b2]); (repeat (first | (with_reducible first | (refine hK _ _ ?_; clear hK K) | refine (show ∀ σ' w', _ → K σ' w' from by assumption) _ _ ?_ | refine W_seq_k fun K hK => ?_ | refine W_block_k fun K hK => ?_ | refine W_skip ?_ | refine W_ret ?_) | ((first | ((with_reducible refine W_id ?_); refine W_reg (by decide) (by rfl) ?_) | (with_reducible first | refine W_cond ?_ | refine hZ _ _ ?_ | refine W_exit ?_ | refine Wo_id ?_)); repeat1' simp only [push_cast, Nat.reduceBEq, Nat.reduceLT, Nat.reduceEqDiff, reduceIte, reduceCtorEq, Nat.reduceMul, Nat.reduceAdd, Nat.reduceSub, Int.reduceEq, Int.reduceLT, Int.reduceLE, Int.reduceNeg, Int.reduceAdd, Int.reduceSub, Int.reduceMul, Nat.reduceLeDiff, Int.reduceToNat, b2]) | ((repeat ((fail_if_success with_reducible refine hK _ _ ?_); clear hK K)); (with_reducible refine hK _ _ ?_); clear hK K))))
      refine ⟨k + 1, by omega, ?_⟩
      (repeat simp only [push_cast, Nat.reduceBEq, Nat.reduceLT, Nat.reduceEqDiff, reduceIte, reduceCtorEq, Nat.reduceMul, Nat.reduceAdd, Nat.reduceSub, Int.reduceEq, Int.reduceLT, Int.reduceLE, Int.reduceNeg, Int.reduceAdd, Int.reduceSub, Int.reduceMul, Nat.reduceLeDiff, Int.reduceToNat])
      have eL : elsL (l.take (k + 1)) = elsL (l.take k) ++ [bareN (⟨{ zN with kind := 3, name := nmN c, attrs := [atY, atX], space := 0 }, .slice (some ⟨pr, 0, none⟩) 2 2, .slice none 0 0, (some pr), none⟩ : Laid).nd] := by
        rw [List.take_add_one, hc]
        simp only [elsL, Option.toList_some, List.map_append, List.map_cons, List.map_nil, List.cons_append]
        rw [show fmN c = bareN (⟨{ zN with kind := 3, name := nmN c, attrs := [atY, atX], space := 0 }, .slice (some ⟨pr, 0, none⟩) 2 2, .slice none 0 0, (some pr), none⟩ : Laid).nd from by simp [fmN, bareN, atN, hdd, zN]]
      have eA : (addN (elsL (l.take k)) (⟨{ zN with kind := 3, name := nmN c, attrs := [atY, atX], space := 0 }, .slice (some ⟨pr, 0, none⟩) 2 2, .slice none 0 0, (some pr), none⟩ : Laid).nd).1 = elsL (l.take (k + 1)) := by
        rw [eL, addN, if_pos (by rfl), if_neg (fun h => nmN_ne c h.2.2)]
      rw [eA] at hA11
      rw [← eL] at hB12
      have hs12 := hu12.alike.size
      refine ⟨by omega, fun b => (F b ∨ w11.heap.size ≤ b) ∧ b < w12.heap.size, ?_, hB12.mono fun b hb hf => ⟨hf, hb⟩, ?_, ?_, ?_⟩
      · refine hA11.app hu12 (fun b _ hb => ⟨.inl (.inl hb), hF b hb⟩) fun b hb => ?_
        rcases hb with ⟨hb | hb, h2⟩ | rfl
        · exact .inl (.inl (.inl hb))
        · exact .inr ⟨hb, h2⟩
        · exact .inl (.inl (.inr rfl))
      · rintro b ⟨hb | hb, _⟩
        · exact hF b hb
        · have := hA11.ext.alike.size; omega
      · rintro ⟨hb | hb, _⟩
        · exact hFn hb
        · have := blk_lt hp11; omega
      · exact (hu12.same pn (blk_lt hp11) hFn).trans hp11
    by_cases d4 : d = 4
    · subst d4
      have hst : canStore w8 ⟨p8, 3, none⟩ := by rw [can_h, hq8, canO_cells]; simp
      have u10b := Upd.setCell (F := fun b => b = p8) (a := ⟨p8, 3, none⟩) w8 rfl (.int .i64 1)
      have hq10 : (w8.setCell ⟨p8, 3, none⟩ (.int .i64 1)).heap[p8]? = some (.cells #[.int .i64 3, .string (nmN c), .string ⟨#[]⟩, .int .i64 1, .slice none 0 0, .bool false, .int .i64 0, .int .i64 0, .slice none 0 0, .int .i64 0, .int .i64 0] 30 (0, 0)) := by
        rw [heap_set_h, if_pos rfl, hq8]; rfl
      have hx10 : Ext w5 (w8.setCell ⟨p8, 3, none⟩ (.int .i64 1)) := Upd.trans hx9 u10b fun i hi e => by omega
      ((repeat simp only [push_cast, Nat.reduceBEq, Nat.reduceLT, Nat.reduceEqDiff, reduceIte, reduceCtorEq, Nat.reduceMul, Nat.reduceAdd, Nat.reduceSub, Int.reduceEq, Int.reduceLT, Int.reduceLE, Int.reduceNeg, Int.reduceAdd, Int.reduceSub, Int.reduceMul, Nat.reduceLeDiff, Int.reduceToNat, cell_h, cellO_cells, b0, b1, b2, hcl8, hd, hq8, hq9, hp10, hst]); (repeat (first | (with_reducible first | (refine hK _ _ ?_; clear hK K) | refine (show ∀ σ' w', _ → K σ' w' from by assumption) _ _ ?_ | refine W_seq_k fun K hK => ?_ | refine W_block_k fun K hK => ?_ | refine W_skip ?_ | refine W_ret ?_) | ((first | ((with_reducible refine W_id ?_); refine W_reg (by decide) (by rfl) ?_) | (with_reducible first | refine W_cond ?_ | refine hZ _ _ ?_ | refine W_exit ?_ | refine Wo_id ?_)); repeat1' simp only [push_cast, Nat.reduceBEq, Nat.reduceLT, Nat.reduceEqDiff, reduceIte, reduceCtorEq, Nat.reduceMul, Nat.reduceAdd, Nat.reduceSub, Int.reduceEq, Int.reduceLT, Int.reduceLE, Int.reduceNeg, Int.reduceAdd, Int.reduceSub, Int.reduceMul, Nat.reduceLeDiff, Int.reduceToNat, cell_h, cellO_cells, b0, b1, b2, hcl8, hd, hq8, hq9, hp10, hst]) | ((repeat ((fail_if_success with_reducible refine hK _ _ ?_); clear hK K)); (with_reducible refine hK _ _ ?_); clear hK K))))
      generalize w8.setCell ⟨p8, 3, none⟩ (.int .i64 1) = w10 at *
      have hat : SlAt w10 2 (.slice none 0 0) (attrCells []) none := SlAt.nil _ _
      have hbr : ∀ b, (none : Option Nat) = some b → w5.heap.size ≤ b ∧ b < w10.heap.size := fun b hb => by cases hb
      ((repeat simp only [push_cast, Nat.reduceBEq, Nat.reduceLT, Nat.reduceEqDiff, reduceIte, reduceCtorEq, Nat.reduceMul, Nat.reduceAdd, Nat.reduceSub, Int.reduceEq, Int.reduceLT, Int.reduceLE, Int.reduceNeg, Int.reduceAdd, Int.reduceSub, Int.reduceMul, Nat.reduceLeDiff, Int.reduceToNat, cell_h, cellO_cells, hq10]); (repeat (first | (with_reducible first | (refine hK _ _ ?_; clear hK K) | refine (show ∀ σ' w', _ → K σ' w' from by assumption) _ _ ?_ | refine W_seq_k fun K hK => ?_ | refine W_block_k fun K hK => ?_ | refine W_skip ?_ | refine W_ret ?_) | ((first | ((with_reducible refine W_id ?_); refine W_reg (by decide) (by rfl) ?_) | (with_reducible first | refine W_cond ?_ | refine hZ _ _ ?_ | refine W_exit ?_ | refine Wo_id ?_)); repeat1' simp only [push_cast, Nat.reduceBEq, Nat.reduceLT, Nat.reduceEqDiff, reduceIte, reduceCtorEq, Nat.reduceMul, Nat.reduceAdd, Nat.reduceSub, Int.reduceEq, Int.reduceLT, Int.reduceLE, Int.reduceNeg, Int.reduceAdd, Int.reduceSub, Int.reduceMul, Nat.reduceLeDiff, Int.reduceToNat, cell_h, cellO_cells, hq10]) | ((repeat ((fail_if_success with_reducible refine hK _ _ ?_); clear hK K)); (with_reducible refine hK _ _ ?_); clear hK K))))
      have hs10 := hx10.alike.size
      have hP : ∀ b, ((F b ∨ b = pn) ∨ b = p8 ∨ (none : Option Nat) = some b) → (F b ∨ b = pn) ∨ (w5.heap.size ≤ b ∧ b < w10.heap.size) := fun b hb => by
        rcases hb with hb | rfl | hb
        · exact .inl hb
        · exact .inr ⟨by omega, blk_lt hq10⟩
        · exact .inr (hbr b hb)
      have hA10 : At w w10 (fun b => (F b ∨ b = pn) ∨ b = p8 ∨ (none : Option Nat) = some b) pa (elsL (l.take k)) := hA5.guard hx10 hP
      have hB10 := hB5.ext hx10
      have hlen : (elsL (l.take k)).length < 100000 := by simp [elsL]; omega
      refine (add_a hA10 hlen (m := (⟨{ zN with kind := 3, name := nmN c, attrs := [], space := 1 }, .slice none 0 0, .slice none 0 0, (none : Option Nat), none⟩ : Laid)) hat.rd (by simp)).mono ?_
      rintro v w11 ⟨rfl, hA11, hu11⟩
      have hq11 := (hu11.same p8 (blk_lt hq10) (fun h => h.2 (.inr (.inl rfl)))).trans hq10
      have hp11 := (hu11.same pn (blk_lt (hx10.blk hp5)) (fun h => h.2 (.inl (.inr rfl)))).trans (hx10.blk hp5)
      have hB11 := hB10.frame hu11 fun b hb h => h.2 (.inl (.inl hb))
      have hat11 := hat.upd hu11 fun b hb h => h.2 (.inr (.inr hb))
      have hs11 := hu11.alike.size
      ((repeat simp only [push_cast, Nat.reduceBEq, Nat.reduceLT, Nat.reduceEqDiff, reduceIte, reduceCtorEq, Nat.reduceMul, Nat.reduceAdd, Nat.reduceSub, Int.reduceEq, Int.reduceLT, Int.reduceLE, Int.reduceNeg, Int.reduceAdd, Int.reduceSub, Int.reduceMul, Nat.reduceLeDiff, Int.reduceToNat, cell_h, hq11, cellO_cells]); (repeat (first | (with_reducible first | (refine hK _ _ ?_; clear hK K) | refine (show ∀ σ' w', _ → K σ' w' from by assumption) _ _ ?_ | refine W_seq_k fun K hK => ?_ | refine W_block_k fun K hK => ?_ | refine W_skip ?_ | refine W_ret ?_) | ((first | ((with_reducible refine W_id ?_); refine W_reg (by decide) (by rfl) ?_) | (with_reducible first | refine W_cond ?_ | refine hZ _ _ ?_ | refine W_exit ?_ | refine Wo_id ?_)); repeat1' simp only [push_cast, Nat.reduceBEq, Nat.reduceLT, Nat.reduceEqDiff, reduceIte, reduceCtorEq, Nat.reduceMul, Nat.reduceAdd, Nat.reduceSub, Int.reduceEq, Int.reduceLT, Int.reduceLE, Int.reduceNeg, Int.reduceAdd, Int.reduceSub, Int.reduceMul, Nat.reduceLeDiff, Int.reduceToNat, cell_h, hq11, cellO_cells]) | ((repeat ((fail_if_success with_reducible refine hK _ _ ?_); clear hK K)); (with_reducible refine hK _ _ ?_); clear hK K))))
      refine (radd_c hB11 (by omega) (m := (⟨{ zN with kind := 3, name := nmN c, attrs := [], space := 1 }, .slice none 0 0, .slice none 0 0, (none : Option Nat), none⟩ : Laid)) hat11.rd (by simp) rfl (nmN_ne c)).mono ?_
      rintro v w12 ⟨hB12, hu12⟩
      ((repeat simp only [push_cast, Nat.reduceBEq, Nat.reduceLT, Nat.reduceEqDiff, reduceIte, reduceCtorEq, Nat.reduceMul, Nat.reduceAdd, Nat.reduceSub, Int.reduceEq, Int.reduceLT, Int.reduceLE, Int.reduceNeg, Int.reduceAdd, Int.reduceSub, Int.reduceMul, Nat.reduceLeDiff, Int.reduceToNat, b2]); (repeat (first | (with_reducible first | (refine hK _ _ ?_; clear hK K) | refine (show ∀ σ' w', _ → K σ' w' from by assumption) _ _ ?_ | refine W_seq_k fun K hK => ?_ | refine W_block_k fun K hK => ?_ | refine W_skip ?_ | refine W_ret ?_) | ((first | ((with_reducible refine W_id ?_); refine W_reg (by decide) (by rfl) ?_) | (with_reducible first | refine W_cond ?_ | refine hZ _ _ ?_ | refine W_exit ?_ | refine Wo_id ?_)); repeat1' simp only [push_cast, Nat.reduceBEq, Nat.reduceLT, Nat.reduceEqDiff, reduceIte, reduceCtorEq, Nat.reduceMul, Nat.reduceAdd, Nat.reduceSub, Int.reduceEq, Int.reduceLT, Int.reduceLE, Int.reduceNeg, Int.reduceAdd, Int.reduceSub, Int.reduceMul, Nat.reduceLeDiff, Int.reduceToNat, b2]) | ((repeat ((fail_if_success with_reducible refine hK _ _ ?_); clear hK K)); (with_reducible refine hK _ _ ?_); clear hK K))))
      refine ⟨k + 1, by omega, ?_⟩
      (repeat simp only [push_cast, Nat.reduceBEq, Nat.reduceLT, Nat.reduceEqDiff, reduceIte, reduceCtorEq, Nat.reduceMul, Nat.reduceAdd, Nat.reduceSub, Int.reduceEq, Int.reduceLT, Int.reduceLE, Int.reduceNeg, Int.reduceAdd, Int.reduceSub, Int.reduceMul, Nat.reduceLeDiff, Int.reduceToNat])
      have eL : elsL (l.take (k + 1)) = elsL (l.take k) ++ [bareN (⟨{ zN with kind := 3, name := nmN c, attrs := [], space := 1 }, .slice none 0 0, .slice none 0 0, (none : Option Nat), none⟩ : Laid).nd] := by
        rw [List.take_add_one, hc]
        simp only [elsL, Option.toList_some, List.map_append, List.map_cons, List.map_nil, List.cons_append]
        rw [show fmN c = bareN (⟨{ zN with kind := 3, name := nmN c, attrs := [], space := 1 }, .slice none 0 0, .slice none 0 0, (none : Option Nat), none⟩ : Laid).nd from by simp [fmN, bareN, atN, hdd, zN]]
      have eA : (addN (elsL (l.take k)) (⟨{ zN with kind := 3, name := nmN c, attrs := [], space := 1 }, .slice none 0 0, .slice none 0 0, (none : Option Nat), none⟩ : Laid).nd).1 = elsL (l.take (k + 1)) := by
        rw [eL, addN, if_pos (by rfl), if_neg (fun h => nmN_ne c h.2.2)]
      rw [eA] at hA11
      rw [← eL] at hB12
      have hs12 := hu12.alike.size
      refine ⟨by omega, fun b => (F b ∨ w11.heap.size ≤ b) ∧ b < w12.heap.size, ?_, hB12.mono fun b hb hf => ⟨hf, hb⟩, ?_, ?_, ?_⟩
      · refine hA11.app hu12 (fun b _ hb => ⟨.inl (.inl hb), hF b hb⟩) fun b hb => ?_
        rcases hb with ⟨hb | hb, h2⟩ | rfl
        · exact .inl (.inl (.inl hb))
        · exact .inr ⟨hb, h2⟩
        · exact .inl (.inl (.inr rfl))
      · rintro b ⟨hb | hb, _⟩
        · exact hF b hb
        · have := hA11.ext.alike.size; omega
      · rintro ⟨hb | hb, _⟩
        · exact hFn hb
        · have := blk_lt hp11; omega
      · exact (hu12.same pn (blk_lt hp11) hFn).trans hp11
    have e1 : ¬ (d : Int) = 1 := by omega
    have e2 : ¬ (d : Int) = 2 := by omega
    have e3 : ¬ (d : Int) = 3 := by omega
    have e4 : ¬ (d : Int) = 4 := by omega
    ((repeat simp only [push_cast, Nat.reduceBEq, Nat.reduceLT, Nat.reduceEqDiff, reduceIte, reduceCtorEq, Nat.reduceMul, Nat.reduceAdd, Nat.reduceSub, Int.reduceEq, Int.reduceLT, Int.reduceLE, Int.reduceNeg, Int.reduceAdd, Int.reduceSub, Int.reduceMul, Nat.reduceLeDiff, Int.reduceToNat, cell_h, cellO_cells, b0, b1, b2, hcl8, hd, hq8, hq9, hp10, e1, e2, e3, e4]); (repeat (first | (with_reducible first | (refine hK _ _ ?_; clear hK K) | refine (show ∀ σ' w', _ → K σ' w' from by assumption) _ _ ?_ | refine W_seq_k fun K hK => ?_ | refine W_block_k fun K hK => ?_ | refine W_skip ?_ | refine W_ret ?_) | ((first | ((with_reducible refine W_id ?_); refine W_reg (by decide) (by rfl) ?_) | (with_reducible first | refine W_cond ?_ | refine hZ _ _ ?_ | refine W_exit ?_ | refine Wo_id ?_)); repeat1' simp only [push_cast, Nat.reduceBEq, Nat.reduceLT, Nat.reduceEqDiff, reduceIte, reduceCtorEq, Nat.reduceMul, Nat.reduceAdd, Nat.reduceSub, Int.reduceEq, Int.reduceLT, Int.reduceLE, Int.reduceNeg, Int.reduceAdd, Int.reduceSub, Int.reduceMul, Nat.reduceLeDiff, Int.reduceToNat, cell_h, cellO_cells, b0, b1, b2, hcl8, hd, hq8, hq9, hp10, e1, e2, e3, e4]) | ((repeat ((fail_if_success with_reducible refine hK _ _ ?_); clear hK K)); (with_reducible refine hK _ _ ?_); clear hK K))))
    have hq10 := hq8
    have hx10 := hx9
    have hat : SlAt w8 2 (.slice none 0 0) (attrCells []) none := SlAt.nil _ _
    have hbr : ∀ b, (none : Option Nat) = some b → w5.heap.size ≤ b ∧ b < w8.heap.size := fun b hb => by cases hb
    have hs10 := hx10.alike.size
    have hP : ∀ b, ((F b ∨ b = pn) ∨ b = p8 ∨ (none : Option Nat) = some b) → (F b ∨ b = pn) ∨ (w5.heap.size ≤ b ∧ b < w8.heap.size) := fun b hb => by
      rcases hb with hb | rfl | hb
      · exact .inl hb
      · exact .inr ⟨by omega, blk_lt hq10⟩
      · exact .inr (hbr b hb)
    have hA10 : At w w8 (fun b => (F b ∨ b = pn) ∨ b = p8 ∨ (none : Option Nat) = some b) pa (elsL (l.take k)) := hA5.guard hx10 hP
    have hB10 := hB5.ext hx10
    have hlen : (elsL (l.take k)).length < 100000 := by simp [elsL]; omega
    refine (add_a hA10 hlen (m := (⟨{ zN with kind := 3, name := nmN c, attrs := [], space := 0 }, .slice none 0 0, .slice none 0 0, (none : Option Nat), none⟩ : Laid)) hat.rd (by simp)).mono ?_
    rintro v w11 ⟨rfl, hA11, hu11⟩
    have hq11 := (hu11.same p8 (blk_lt hq10) (fun h => h.2 (.inr (.inl rfl)))).trans hq10
    have hp11 := (hu11.same pn (blk_lt (hx10.blk hp5)) (fun h => h.2 (.inl (.inr rfl)))).trans (hx10.blk hp5)
    have hB11 := hB10.frame hu11 fun b hb h => h.2 (.inl (.inl hb))
    have hat11 := hat.upd hu11 fun b hb h => h.2 (.inr (.inr hb))
    have hs11 := hu11.alike.size
    ((repeat simp only [push_cast, Nat.reduceBEq, Nat.reduceLT, Nat.reduceEqDiff, reduceIte, reduceCtorEq, Nat.reduceMul, Nat.reduceAdd, Nat.reduceSub, Int.reduceEq, Int.reduceLT, Int.reduceLE, Int.reduceNeg, Int.reduceAdd, Int.reduceSub, Int.reduceMul, Nat.reduceLeDiff, Int.reduceToNat, cell_h, hq11, cellO_cells]); (repeat (first | (with_reducible first | (refine hK _ _ ?_; clear hK K) | refine (show ∀ σ' w', _ → K σ' w' from by assumption) _ _ ?_ | refine W_seq_k fun K hK => ?_ | refine W_block_k fun K hK => ?_ | refine W_skip ?_ | refine W_ret ?_) | ((first | ((with_reducible refine W_id ?_); refine W_reg (by decide) (by rfl) ?_) | (with_reducible first | refine W_cond ?_ | refine hZ _ _ ?_ | refine W_exit ?_ | refine Wo_id ?_)); repeat1' simp only [push_cast, Nat.reduceBEq, Nat.reduceLT, Nat.reduceEqDiff, reduceIte, reduceCtorEq, Nat.reduceMul, Nat.reduceAdd, Nat.reduceSub, Int.reduceEq, Int.reduceLT, Int.reduceLE, Int.reduceNeg, Int.reduceAdd, Int.reduceSub, Int.reduceMul, Nat.reduceLeDiff, Int.reduceToNat, cell_h, hq11, cellO_cells]) | ((repeat ((fail_if_success with_reducible refine hK _ _ ?_); clear hK K)); (with_reducible refine hK _ _ ?_); clear hK K))))
    refine (radd_c hB11 (by omega) (m := (⟨{ zN with kind := 3, name := nmN c, attrs := [], space := 0 }, .slice none 0 0, .slice none 0 0, (none : Option Nat), none⟩ : Laid)) hat11.rd (by simp) rfl (nmN_ne c)).mono ?_
    rintro v w12 ⟨hB12, hu12⟩
    ((repeat simp only [push_cast, Nat.reduceBEq, Nat.reduceLT, Nat.reduceEqDiff, reduceIte, reduceCtorEq, Nat.reduceMul, Nat.reduceAdd, Nat.reduceSub, Int.reduceEq, Int.reduceLT, Int.reduceLE, Int.reduceNeg, Int.reduceAdd, Int.reduceSub, Int.reduceMul, Nat.reduceLeDiff, Int.reduceToNat, b2]); (repeat (first | (with_reducible first | (refine hK _ _ ?_; clear hK K) | refine (show ∀ σ' w', _ → K σ' w' from by assumption) _ _ ?_ | refine W_seq_k fun K hK => ?_ | refine W_block_k fun K hK => ?_ | refine W_skip ?_ | refine W_ret ?_) | ((first | ((with_reducible refine W_id ?_); refine W_reg (by decide) (by rfl) ?_) | (with_reducible first | refine W_cond ?_ | refine hZ _ _ ?_ | refine W_exit ?_ | refine Wo_id ?_)); repeat1' simp only [push_cast, Nat.reduceBEq, Nat.reduceLT, Nat.reduceEqDiff, reduceIte, reduceCtorEq, Nat.reduceMul, Nat.reduceAdd, Nat.reduceSub, Int.reduceEq, Int.reduceLT, Int.reduceLE, Int.reduceNeg, Int.reduceAdd, Int.reduceSub, Int.reduceMul, Nat.reduceLeDiff, Int.reduceToNat, b2]) | ((repeat ((fail_if_success with_reducible refine hK _ _ ?_); clear hK K)); (with_reducible refine hK _ _ ?_); clear hK K))))
    refine ⟨k + 1, by omega, ?_⟩
    (repeat simp only [push_cast, Nat.reduceBEq, Nat.reduceLT, Nat.reduceEqDiff, reduceIte, reduceCtorEq, Nat.reduceMul, Nat.reduceAdd, Nat.reduceSub, Int.reduceEq, Int.reduceLT, Int.reduceLE, Int.reduceNeg, Int.reduceAdd, Int.reduceSub, Int.reduceMul, Nat.reduceLeDiff, Int.reduceToNat])
    have eL : elsL (l.take (k + 1)) = elsL (l.take k) ++ [bareN (⟨{ zN with kind := 3, name := nmN c, attrs := [], space := 0 }, .slice none 0 0, .slice none 0 0, (none : Option Nat), none⟩ : Laid).nd] := by
      rw [List.take_add_one, hc]
      simp only [elsL, Option.toList_some, List.map_append, List.map_cons, List.map_nil, List.cons_append]
      rw [show fmN c = bareN (⟨{ zN with kind := 3, name := nmN c, attrs := [], space := 0 }, .slice none 0 0, .slice none 0 0, (none : Option Nat), none⟩ : Laid).nd from by simp [fmN, bareN, atN, hdd, zN, d1, d2, d3, d4]]
    have eA : (addN (elsL (l.take k)) (⟨{ zN with kind := 3, name := nmN c, attrs := [], space := 0 }, .slice none 0 0, .slice none 0 0, (none : Option Nat), none⟩ : Laid).nd).1 = elsL (l.take (k + 1)) := by
      rw [eL, addN, if_pos (by rfl), if_neg (fun h => nmN_ne c h.2.2)]
    rw [eA] at hA11
    rw [← eL] at hB12
    have hs12 := hu12.alike.size
    refine ⟨by omega, fun b => (F b ∨ w11.heap.size ≤ b) ∧ b < w12.heap.size, ?_, hB12.mono fun b hb hf => ⟨hf, hb⟩, ?_, ?_, ?_⟩
    · refine hA11.app hu12 (fun b _ hb => ⟨.inl (.inl hb), hF b hb⟩) fun b hb => ?_
      rcases hb with ⟨hb | hb, h2⟩ | rfl
      · exact .inl (.inl (.inl hb))
      · exact .inr ⟨hb, h2⟩
      · exact .inl (.inl (.inr rfl))
    · rintro b ⟨hb | hb, _⟩
      · exact hF b hb
      · have := hA11.ext.alike.size; omega
    · rintro ⟨hb | hb, _⟩
      · exact hFn hb
      · have := blk_lt hp11; omega
    · exact (hu12.same pn (blk_lt hp11) hFn).trans hp11
  · have hke : k = l.length := by omega
    subst hke
    have b0 : ¬ (l.length : Int) < (l.length : Int) := by omega
    (repeat (first | (with_reducible first | (refine hK _ _ ?_; clear hK K) | refine (show ∀ σ' w', _ → K σ' w' from by assumption) _ _ ?_ | refine W_seq_k fun K hK => ?_ | refine W_block_k fun K hK => ?_ | refine W_skip ?_ | refine W_ret ?_) | ((first | ((with_reducible refine W_id ?_); refine W_reg (by decide) (by rfl) ?_) | (with_reducible first | refine W_cond ?_ | refine hZ _ _ ?_ | refine W_exit ?_ | refine Wo_id ?_)); repeat1' simp only [push_cast, Nat.reduceBEq, Nat.reduceLT, Nat.reduceEqDiff, reduceIte, reduceCtorEq, Nat.reduceMul, Nat.reduceAdd, Nat.reduceSub, Int.reduceEq, Int.reduceLT, Int.reduceLE, Int.reduceNeg, Int.reduceAdd, Int.reduceSub, Int.reduceMul, Nat.reduceLeDiff, Int.reduceToNat, b0]) | ((repeat ((fail_if_success with_reducible refine hK _ _ ?_); clear hK K)); (with_reducible refine hK _ _ ?_); clear hK K)))
    rw [List.take_length] at hA5 hB5
    exact ⟨pa, pb, rfl, F, hA5.guard (Ext.refl _) fun b hb => .inl (.inl hb), hB5, hF⟩
end Go.Proofs.Ytkafpameheohdaa
