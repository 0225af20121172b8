/- What the proof leans on, part 6 of 8. -/
import Derived.Test.YtkafpameheohdaaQFormatsPlayE
section
set_option linter.unusedSimpArgs false
set_option linter.unusedVariables false
namespace Go.Vk
open Go
def u8Cells (l : List Nat) : List Value := l.map fun n : Nat => Value.int .u8 (n : Int)
theorem u8Cells_length (l : List Nat) : (u8Cells l).length = l.length := by simp [u8Cells]
theorem u8_len {w : World} {v : Value} {l : List Nat} (h : RdAt w 1 v (u8Cells l)) : ∃ a c, v = .slice a l.length c ∧ l.length ≤ c ∧ ∀ (i : Nat) (x : Nat), l[i]? = some x → ∃ b o, a = some ⟨b, o, none⟩ ∧ w.cell? ⟨b, o + i, none⟩ = some (.int .u8 (x : Int)) := by
  obtain ⟨a, n, c, rfl, h1, h2, h3⟩ := h
  rw [u8Cells_length] at h2
  have : n = l.length := by omega
  subst this
  refine ⟨a, c, rfl, h1, fun i x hx => ?_⟩
  obtain ⟨b, o, e1, e2⟩ := h3 i (.int .u8 (x : Int)) (by simp [u8Cells, hx])
  exact ⟨b, o, e1, e2⟩
theorem build_arr {P : Program} {t e n : Nat} {z : Value} (hz : ∀ w, (zeroValue t).run P w = .ok z w) (hu : P.underlying t = some (.array n e)) (hs : ∀ w, (sizeOf e).run P w = .ok 1 w)
    {parts : List (Nat × Value)} {cs : Array Value} (hf : Instr.fill (fun i => some (i * 1, 1)) z.cells parts = some cs) {w : World} {K : Value → World → Prop} (h : K (.agg cs) w) : Pure1 P (Instr.build t parts.toArray) w K := by
  refine ⟨_, fun w => ?_, h⟩
  simp only [Instr.build, Sem.run_bind, hz w, Result.andThen, run_underlying hu w, hs w, hf]
  rfl
theorem agg_index {P : Program} {t e n : Nat} (hu : P.underlying t = some (.array n e)) {d : TypeDesc} (he : P.underlying e = some d) (hd : aggD d = false) (hs : ∀ w, (sizeOf e).run P w = .ok 1 w) {k : IntKind} {l : List Value} {i : Int} {v : Value}
    (h0 : 0 ≤ i) (hn : i < n) (hc : l[i.toNat]? = some v) (w : World) (K : Value → World → Prop) :
    Pure1 P (Instr.index t (.agg l.toArray) (.int k i)) w K = K v w := by
  refine Pure1_eq (fun w => ?_) w K
  simp [Instr.index, asIntOf, run_underlying hu, h0, hn, hs, part, run_isAgg he, hd, hc]
theorem bs_of {P : Program} {t e es : Nat} (hT : STy P t e es) {n : Nat} (h0 : 0 < n * es) (h1 : n * es ≤ 4096) {w : World} {parts : List (Nat × Value)} {z : Value} (hz : ∀ w, (zeroValue e).run P w = .ok z w) {cs : Array Value}
    (hf : Instr.fill (fun i => some (i * es, es)) ((Array.range (n * es)).map (z.cells[· % z.cells.size]!)) parts = some cs) {K : Value → World → Prop}
    (h : K (.slice (some ⟨w.heap.size, 0, none⟩) n n) (w.alloc (.cells cs e))) : RunV P (Instr.buildSlice t n parts.toArray) w K := by
  refine .of (w' := w.alloc (.cells cs e)) ?_ h
  have hlim : ¬ (n * es > 2 ^ 24) := by omega
  have hne : ¬ (n * es = 0) := by omega
  simp only [Instr.buildSlice, Sem.run_bind, run_underlying hT.und, hT.size, Result.andThen_ok, hlim, if_false, hne, hz, Sem.run_pure, hf, newRow, newObj]
  simp [Sem.run]
theorem range4 : Array.range 4 = #[0, 1, 2, 3] := rfl
theorem fill94 (a b c d : ByteArray) : Instr.fill (fun i => some (i * 2, 2)) ((Array.range (2 * 2)).map ((Value.agg #[.string ⟨#[]⟩, .string ⟨#[]⟩]).cells[· % (Value.agg #[.string ⟨#[]⟩, .string ⟨#[]⟩]).cells.size]!)) [(0, .agg #[.string a, .string b]), (1, .agg #[.string c, .string d])] = some #[.string a, .string b, .string c, .string d] := by
  rw [show 2 * 2 = 4 from rfl, range4]
  simp [Instr.fill, Value.cells]
def sb_ : ByteArray := ⟨#[98]⟩
def si_ : ByteArray := ⟨#[105]⟩
def sa_ : ByteArray := ⟨#[97]⟩
def atX : ByteArray × ByteArray := (⟨#[99]⟩, ⟨#[49]⟩)
def atY : ByteArray × ByteArray := (⟨#[100]⟩, ⟨#[50]⟩)
def nmN (c : Nat) : ByteArray := if c % 3 = 0 then sb_ else if c % 3 = 1 then si_ else sa_
def atN (c : Nat) : List (ByteArray × ByteArray) := if c / 3 % 6 = 1 then [atX] else if c / 3 % 6 = 2 then [atX, atY] else if c / 3 % 6 = 3 then [atY, atX] else []
def fmN (c : Nat) : Nd := { zN with kind := 3, name := nmN c, attrs := atN c, space := if c / 3 % 6 = 4 then 1 else 0, parent := -1 }
def elsL (l : List Nat) : List Nd := docN :: l.map fmN
theorem nmN_ne (c : Nat) : ¬ nmN c = tmpl := by
  unfold nmN
  split
  · decide
  · split <;> decide
end Go.Vk
namespace Go.Proofs.Ytkafpameheohdaa
open Go Go.Vk
set_option maxHeartbeats 40000000
theorem pl94 (w : World) : ((fsOf Try.prog 94).mapM plOf).run Try.prog w = .ok #[(0,1),(1,1)] w := by
  simp [fsOf, plOf, Try.underlying94, Sem.run, Try.sizeOf9]
theorem un94 : Try.prog.underlying 94 = some (.struct (fsOf Try.prog 94)) := by rw [fsOf, Try.underlying94]
theorem made_c {w : World} {kv : Value} {l : List Nat} (hk : RdAt w 1 kv (u8Cells l)) (hl : l.length < 1000) (h8 : ∀ c ∈ l, c < 256) :
    Gives Try.prog 28 #[kv] w fun v w' => ∃ pa pb F, v = .tuple #[.pointer (some ⟨pa, 0, none⟩), .pointer (some ⟨pb, 0, none⟩)] ∧ At w w' F pa (elsL l) ∧ Ar w' pb (elsL l) F ∧ ∀ b, F b → w.heap.size ≤ b := by
  obtain ⟨ka, kc, rfl, hkc, _⟩ := u8_len hk
  refine Gives.of_W Try.call28 Try.func28 rfl Try.ntmps28 (by simp) ?_; intro Z hZ
  (repeat (first | (with_reducible first | (refine hK _ _ ?_; clear hK K) | refine (show ∀ σ' w', _ → K σ' w' from by assumption) _ _ ?_ | refine W_seq_k fun K hK => ?_ | refine W_block_k fun K hK => ?_ | refine W_skip ?_ | refine W_ret ?_) | ((first | ((with_reducible refine W_id ?_); refine W_reg (by decide) (by rfl) ?_) | (with_reducible first | refine W_cond ?_ | refine hZ _ _ ?_ | refine W_exit ?_ | refine Wo_id ?_)); repeat1' simp only [push_cast, Nat.reduceBEq, Nat.reduceLT, Nat.reduceEqDiff, reduceIte, reduceCtorEq, Nat.reduceMul, Nat.reduceAdd, Nat.reduceSub, Int.reduceEq, Int.reduceLT, Int.reduceLE, Int.reduceNeg, Int.reduceAdd, Int.reduceSub, Int.reduceMul, Nat.reduceLeDiff, Int.reduceToNat]) | ((repeat ((fail_if_success with_reducible refine hK _ _ ?_); clear hK K)); (with_reducible refine hK _ _ ?_); clear hK K)))
  refine new_a.mono ?_
  rintro v w2 ⟨pa, rfl, hA⟩
  ((repeat simp only [push_cast, Nat.reduceBEq, Nat.reduceLT, Nat.reduceEqDiff, reduceIte, reduceCtorEq, Nat.reduceMul, Nat.reduceAdd, Nat.reduceSub, Int.reduceEq, Int.reduceLT, Int.reduceLE, Int.reduceNeg, Int.reduceAdd, Int.reduceSub, Int.reduceMul, Nat.reduceLeDiff, Int.reduceToNat]); (repeat (first | (with_reducible first | (refine hK _ _ ?_; clear hK K) | refine (show ∀ σ' w', _ → K σ' w' from by assumption) _ _ ?_ | refine W_seq_k fun K hK => ?_ | refine W_block_k fun K hK => ?_ | refine W_skip ?_ | refine W_ret ?_) | ((first | ((with_reducible refine W_id ?_); refine W_reg (by decide) (by rfl) ?_) | (with_reducible first | refine W_cond ?_ | refine hZ _ _ ?_ | refine W_exit ?_ | refine Wo_id ?_)); repeat1' simp only [push_cast, Nat.reduceBEq, Nat.reduceLT, Nat.reduceEqDiff, reduceIte, reduceCtorEq, Nat.reduceMul, Nat.reduceAdd, Nat.reduceSub, Int.reduceEq, Int.reduceLT, Int.reduceLE, Int.reduceNeg, Int.reduceAdd, Int.reduceSub, Int.reduceMul, Nat.reduceLeDiff, Int.reduceToNat]) | ((repeat ((fail_if_success with_reducible refine hK _ _ ?_); clear hK K)); (with_reducible refine hK _ _ ?_); clear hK K))))
  refine rnew_c.mono ?_
  rintro v w3 ⟨pb, rfl, hB, hx3⟩
  ((repeat simp only [push_cast, Nat.reduceBEq, Nat.reduceLT, Nat.reduceEqDiff, reduceIte, reduceCtorEq, Nat.reduceMul, Nat.reduceAdd, Nat.reduceSub, Int.reduceEq, Int.reduceLT, Int.reduceLE, Int.reduceNeg, Int.reduceAdd, Int.reduceSub, Int.reduceMul, Nat.reduceLeDiff, Int.reduceToNat]); (repeat (first | (with_reducible first | (refine hK _ _ ?_; clear hK K) | refine (show ∀ σ' w', _ → K σ' w' from by assumption) _ _ ?_ | refine W_seq_k fun K hK => ?_ | refine W_block_k fun K hK => ?_ | refine W_skip ?_ | refine W_ret ?_) | ((first | ((with_reducible refine W_id ?_); refine W_reg (by decide) (by rfl) ?_) | (with_reducible first | refine W_cond ?_ | refine hZ _ _ ?_ | refine W_exit ?_ | refine Wo_id ?_)); repeat1' simp only [push_cast, Nat.reduceBEq, Nat.reduceLT, Nat.reduceEqDiff, reduceIte, reduceCtorEq, Nat.reduceMul, Nat.reduceAdd, Nat.reduceSub, Int.reduceEq, Int.reduceLT, Int.reduceLE, Int.reduceNeg, Int.reduceAdd, Int.reduceSub, Int.reduceMul, Nat.reduceLeDiff, Int.reduceToNat]) | ((repeat ((fail_if_success with_reducible refine hK _ _ ?_); clear hK K)); (with_reducible refine hK _ _ ?_); clear hK K))))
  refine build_arr Try.zeroValue66 Try.underlying66 Try.sizeOf9 (cs := #[.string sb_, .string si_, .string sa_]) (by rfl) ?_
  (repeat simp only [push_cast, Nat.reduceBEq, Nat.reduceLT, Nat.reduceEqDiff, reduceIte, reduceCtorEq, Nat.reduceMul, Nat.reduceAdd, Nat.reduceSub, Int.reduceEq, Int.reduceLT, Int.reduceLE, Int.reduceNeg, Int.reduceAdd, Int.reduceSub, Int.reduceMul, Nat.reduceLeDiff, Int.reduceToNat, RunV_zero Try.zeroValue66])
  simp only [vcells_agg, can_h, heap_alloc_h, if_true, canO_cells, List.size_toArray, List.length_cons, List.length_nil, Nat.zero_add, Nat.reduceAdd, Nat.reduceLT, true_and]
  have z1 : (w3.alloc (.cells #[.string ⟨#[]⟩, .string ⟨#[]⟩, .string ⟨#[]⟩] 66)).heap[w3.heap.size]? = some (.cells #[.string ⟨#[]⟩, .string ⟨#[]⟩, .string ⟨#[]⟩] 66 (0, 0)) := by rw [heap_alloc_h, if_pos rfl]
  have hpn := setCells_all z1 (l := [.string sb_, .string si_, .string sa_]) rfl
  have hx4 : Ext w3 (setCells (w3.alloc (.cells #[.string ⟨#[]⟩, .string ⟨#[]⟩, .string ⟨#[]⟩] 66)) ⟨w3.heap.size, 0, none⟩ [.string sb_, .string si_, .string sa_] 0) := Upd.trans (Ext.alloc w3 _) (Upd.setCells (F := fun b => b = w3.heap.size) (a := ⟨w3.heap.size, 0, none⟩) _ rfl _ 0) fun i hi e => by omega
  generalize setCells (w3.alloc (.cells #[.string ⟨#[]⟩, .string ⟨#[]⟩, .string ⟨#[]⟩] 66)) ⟨w3.heap.size, 0, none⟩ [.string sb_, .string si_, .string sa_] 0 = w4 at *
  have hs2 := hA.ext.alike.size
  have hs3 := hx3.alike.size
  have hs4 := hx4.alike.size
  have hpl4 := blk_lt hpn
  obtain ⟨pn, hpe⟩ : ∃ pn, pn = w3.heap.size := ⟨_, rfl⟩
  rw [← hpe] at hpn hpl4 ⊢
  ((repeat simp only [push_cast, Nat.reduceBEq, Nat.reduceLT, Nat.reduceEqDiff, reduceIte, reduceCtorEq, Nat.reduceMul, Nat.reduceAdd, Nat.reduceSub, Int.reduceEq, Int.reduceLT, Int.reduceLE, Int.reduceNeg, Int.reduceAdd, Int.reduceSub, Int.reduceMul, Nat.reduceLeDiff, Int.reduceToNat]); (repeat (first | (with_reducible first | (refine hK _ _ ?_; clear hK K) | refine (show ∀ σ' w', _ → K σ' w' from by assumption) _ _ ?_ | refine W_seq_k fun K hK => ?_ | refine W_block_k fun K hK => ?_ | refine W_skip ?_ | refine W_ret ?_) | ((first | ((with_reducible refine W_id ?_); refine W_reg (by decide) (by rfl) ?_) | (with_reducible first | refine W_cond ?_ | refine hZ _ _ ?_ | refine W_exit ?_ | refine Wo_id ?_)); repeat1' simp only [push_cast, Nat.reduceBEq, Nat.reduceLT, Nat.reduceEqDiff, reduceIte, reduceCtorEq, Nat.reduceMul, Nat.reduceAdd, Nat.reduceSub, Int.reduceEq, Int.reduceLT, Int.reduceLE, Int.reduceNeg, Int.reduceAdd, Int.reduceSub, Int.reduceMul, Nat.reduceLeDiff, Int.reduceToNat]) | ((repeat ((fail_if_success with_reducible refine hK _ _ ?_); clear hK K)); (with_reducible refine hK _ _ ?_); clear hK K))))
  refine W_loop (S := Nat) (fun k => [(0, .slice ka l.length kc), (4, .pointer (some ⟨pa, 0, none⟩)), (5, .pointer (some ⟨pb, 0, none⟩)), (6, .pointer (some ⟨pn, 0, none⟩)), (7, .int .i64 (k : Int))])
    (fun k w5 => k ≤ l.length ∧ ∃ F, At w w5 (fun b => F b ∨ b = pn) pa (elsL (l.take k)) ∧ Ar w5 pb (elsL (l.take k)) F ∧ (∀ b, F b → w.heap.size ≤ b) ∧ ¬ F pn ∧ w5.heap[pn]? = some (.cells #[.string sb_, .string si_, .string sa_] 66 (0, 0))) (fun k => l.length - k) 0 ?_ ?_ ?_
  · (repeat simp only [push_cast, Nat.reduceBEq, Nat.reduceLT, Nat.reduceEqDiff, reduceIte, reduceCtorEq, Nat.reduceMul, Nat.reduceAdd, Nat.reduceSub, Int.reduceEq, Int.reduceLT, Int.reduceLE, Int.reduceNeg, Int.reduceAdd, Int.reduceSub, Int.reduceMul, Nat.reduceLeDiff, Int.reduceToNat])
  · refine ⟨by omega, fun b => w2.heap.size ≤ b ∧ b < w3.heap.size, hA.guard (hx3.trans hx4) fun b hb => ?_, ?_, fun b hb => by omega, by omega, hpn⟩
    · rcases hb with hb | rfl
      · exact .inr ⟨hb.1, by omega⟩
      · exact .inr ⟨by omega, hpl4⟩
    · exact (hB.mono fun b hb hw => ⟨hw, hb⟩).ext hx4
  rintro k w5 ⟨hkl, F, hA5, hB5, hF, hFn, hp5⟩
  by_cases hkk : k < l.length
  · obtain ⟨c, hc⟩ : ∃ c, l[k]? = some c := ⟨_, List.getElem?_eq_getElem hkk⟩
    obtain ⟨_, _, e, _, hcell⟩ := u8_len (hk.ext hA5.ext)
    cases e
    obtain ⟨b, o, rfl, hcl⟩ := hcell k c hc
    have hc8 := h8 c (List.mem_of_getElem? hc)
    rw [cell_h] at hcl
    have b0 : (k : Int) < (l.length : Int) := by omega
    have b1 : (0 : Int) ≤ (k : Int) := by omega
    have b2 : inI64 ((k : Int) + 1) := by unfold inI64; omega
    clear hcell
    (repeat (first | (with_reducible first | (refine hK _ _ ?_; clear hK K) | refine (show ∀ σ' w', _ → K σ' w' from by assumption) _ _ ?_ | refine W_seq_k fun K hK => ?_ | refine W_block_k fun K hK => ?_ | refine W_skip ?_ | refine W_ret ?_) | ((first | ((with_reducible refine W_id ?_); refine W_reg (by decide) (by rfl) ?_) | (with_reducible first | refine W_cond ?_ | refine hZ _ _ ?_ | refine W_exit ?_ | refine Wo_id ?_)); repeat1' simp only [push_cast, Nat.reduceBEq, Nat.reduceLT, Nat.reduceEqDiff, reduceIte, reduceCtorEq, Nat.reduceMul, Nat.reduceAdd, Nat.reduceSub, Int.reduceEq, Int.reduceLT, Int.reduceLE, Int.reduceNeg, Int.reduceAdd, Int.reduceSub, Int.reduceMul, Nat.reduceLeDiff, Int.reduceToNat, cell_h, cellO_cells, b0, b1, b2, hcl, hp5]) | ((repeat ((fail_if_success with_reducible refine hK _ _ ?_); clear hK K)); (with_reducible refine hK _ _ ?_); clear hK K)))
    have r0 : 0 ≤ (c : Int).tmod 3 := by rw [Int.tmod_eq_emod_of_nonneg (by omega)]; omega
    have r1 : (c : Int).tmod 3 < 3 := by rw [Int.tmod_eq_emod_of_nonneg (by omega)]; omega
    have r2 : [Value.string sb_, Value.string si_, Value.string sa_][((c : Int).tmod 3).toNat]? = some (.string (nmN c)) := by
      have e : ((c : Int).tmod 3).toNat = c % 3 := by rw [Int.tmod_eq_emod_of_nonneg (by omega)]; omega
      rw [e]; unfold nmN
      have : c % 3 = 0 ∨ c % 3 = 1 ∨ c % 3 = 2 := by omega
      rcases this with h | h | h <;> rw [h] <;> rfl
    refine ⟨r0, r1, ?_⟩
    (repeat simp only [push_cast, Nat.reduceBEq, Nat.reduceLT, Nat.reduceEqDiff, reduceIte, reduceCtorEq, Nat.reduceMul, Nat.reduceAdd, Nat.reduceSub, Int.reduceEq, Int.reduceLT, Int.reduceLE, Int.reduceNeg, Int.reduceAdd, Int.reduceSub, Int.reduceMul, Nat.reduceLeDiff, Int.reduceToNat, r2])
    refine build_struct Try.zeroValue30 un30 pl30 (cs := #[.int .i64 3, .string (nmN c), .string ⟨#[]⟩, .int .i64 0, .slice none 0 0, .bool false, .int .i64 0, .int .i64 0, .slice none 0 0, .int .i64 0, .int .i64 0]) (by rfl) ?_
    (repeat simp only [push_cast, Nat.reduceBEq, Nat.reduceLT, Nat.reduceEqDiff, reduceIte, reduceCtorEq, Nat.reduceMul, Nat.reduceAdd, Nat.reduceSub, Int.reduceEq, Int.reduceLT, Int.reduceLE, Int.reduceNeg, Int.reduceAdd, Int.reduceSub, Int.reduceMul, Nat.reduceLeDiff, Int.reduceToNat, RunV_zero Try.zeroValue30])
    simp only [vcells_agg, can_h, heap_alloc_h, if_true, canO_cells, List.size_toArray, List.length_cons, List.length_nil, Nat.zero_add, Nat.reduceAdd, Nat.reduceLT, true_and]
    have z6 : (w5.alloc (.cells #[.int .i64 0, .string ⟨#[]⟩, .string ⟨#[]⟩, .int .i64 0, .slice none 0 0, .bool false, .int .i64 0, .int .i64 0, .slice none 0 0, .int .i64 0, .int .i64 0] 30)).heap[w5.heap.size]? = some (.cells #[.int .i64 0, .string ⟨#[]⟩, .string ⟨#[]⟩, .int .i64 0, .slice none 0 0, .bool false, .int .i64 0, .int .i64 0, .slice none 0 0, .int .i64 0, .int .i64 0] 30 (0, 0)) := by rw [heap_alloc_h, if_pos rfl]
    have hp6 := setCells_all z6 (l := [.int .i64 3, .string (nmN c), .string ⟨#[]⟩, .int .i64 0, .slice none 0 0, .bool false, .int .i64 0, .int .i64 0, .slice none 0 0, .int .i64 0, .int .i64 0]) rfl
    have hx6 : Ext w5 (setCells (w5.alloc (.cells #[.int .i64 0, .string ⟨#[]⟩, .string ⟨#[]⟩, .int .i64 0, .slice none 0 0, .bool false, .int .i64 0, .int .i64 0, .slice none 0 0, .int .i64 0, .int .i64 0] 30)) ⟨w5.heap.size, 0, none⟩ [.int .i64 3, .string (nmN c), .string ⟨#[]⟩, .int .i64 0, .slice none 0 0, .bool false, .int .i64 0, .int .i64 0, .slice none 0 0, .int .i64 0, .int .i64 0] 0) := Upd.trans (Ext.alloc w5 _) (Upd.setCells (F := fun b => b = w5.heap.size) (a := ⟨w5.heap.size, 0, none⟩) _ rfl _ 0) fun i hi e => by omega
    generalize setCells (w5.alloc (.cells #[.int .i64 0, .string ⟨#[]⟩, .string ⟨#[]⟩, .int .i64 0, .slice none 0 0, .bool false, .int .i64 0, .int .i64 0, .slice none 0 0, .int .i64 0, .int .i64 0] 30)) ⟨w5.heap.size, 0, none⟩ [.int .i64 3, .string (nmN c), .string ⟨#[]⟩, .int .i64 0, .slice none 0 0, .bool false, .int .i64 0, .int .i64 0, .slice none 0 0, .int .i64 0, .int .i64 0] 0 = w6 at *
    have hpl5 := blk_lt hp6
    obtain ⟨p8, hp8⟩ : ∃ p8, p8 = w5.heap.size := ⟨_, rfl⟩
    rw [← hp8] at hp6 hpl5 ⊢
    have hcl6 := hcl
    ((repeat simp only [push_cast, Nat.reduceBEq, Nat.reduceLT, Nat.reduceEqDiff, reduceIte, reduceCtorEq, Nat.reduceMul, Nat.reduceAdd, Nat.reduceSub, Int.reduceEq, Int.reduceLT, Int.reduceLE, Int.reduceNeg, Int.reduceAdd, Int.reduceSub, Int.reduceMul, Nat.reduceLeDiff, Int.reduceToNat]); (repeat (first | (with_reducible first | (refine hK _ _ ?_; clear hK K) | refine (show ∀ σ' w', _ → K σ' w' from by assumption) _ _ ?_ | refine W_seq_k fun K hK => ?_ | refine W_block_k fun K hK => ?_ | refine W_skip ?_ | refine W_ret ?_) | ((first | ((with_reducible refine W_id ?_); refine W_reg (by decide) (by rfl) ?_) | (with_reducible first | refine W_cond ?_ | refine hZ _ _ ?_ | refine W_exit ?_ | refine Wo_id ?_)); repeat1' simp only [push_cast, Nat.reduceBEq, Nat.reduceLT, Nat.reduceEqDiff, reduceIte, reduceCtorEq, Nat.reduceMul, Nat.reduceAdd, Nat.reduceSub, Int.reduceEq, Int.reduceLT, Int.reduceLE, Int.reduceNeg, Int.reduceAdd, Int.reduceSub, Int.reduceMul, Nat.reduceLeDiff, Int.reduceToNat]) | ((repeat ((fail_if_success with_reducible refine hK _ _ ?_); clear hK K)); (with_reducible refine hK _ _ ?_); clear hK K))))
    refine build_struct Try.zeroValue94 un94 pl94 (cs := #[.string atX.1, .string atX.2]) (by rfl) ?_
    refine build_struct Try.zeroValue94 un94 pl94 (cs := #[.string atY.1, .string atY.2]) (by rfl) ?_
    (repeat simp only [push_cast, Nat.reduceBEq, Nat.reduceLT, Nat.reduceEqDiff, reduceIte, reduceCtorEq, Nat.reduceMul, Nat.reduceAdd, Nat.reduceSub, Int.reduceEq, Int.reduceLT, Int.reduceLE, Int.reduceNeg, Int.reduceAdd, Int.reduceSub, Int.reduceMul, Nat.reduceLeDiff, Int.reduceToNat, RunV_zero Try.zeroValue94, size_alloc_h, vcells_agg, can_h, heap_alloc_h, if_true, canO_cells, succ_ne, ne_succ])
    have y1 : ((w6.alloc (.cells #[.string ⟨#[]⟩, .string ⟨#[]⟩] 94)).alloc (.cells #[.string ⟨#[]⟩, .string ⟨#[]⟩] 94)).heap[w6.heap.size]? = some (.cells #[.string ⟨#[]⟩, .string ⟨#[]⟩] 94 (0, 0)) := by
      rw [heap_alloc_h, if_neg (by rw [size_alloc_h]; omega), heap_alloc_h, if_pos rfl]
    have y2 : ((w6.alloc (.cells #[.string ⟨#[]⟩, .string ⟨#[]⟩] 94)).alloc (.cells #[.string ⟨#[]⟩, .string ⟨#[]⟩] 94)).heap[w6.heap.size + 1]? = some (.cells #[.string ⟨#[]⟩, .string ⟨#[]⟩] 94 (0, 0)) := by
      rw [heap_alloc_h, if_pos (by rw [size_alloc_h])]
    have hp9 := setCells_all y1 (l := [.string atX.1, .string atX.2]) rfl
    have u9 := Upd.setCells (F := fun b => b = w6.heap.size) (a := ⟨w6.heap.size, 0, none⟩) ((w6.alloc (.cells #[.string ⟨#[]⟩, .string ⟨#[]⟩] 94)).alloc (.cells #[.string ⟨#[]⟩, .string ⟨#[]⟩] 94)) rfl [.string atX.1, .string atX.2] 0
    have hx7 : Ext w6 (setCells ((w6.alloc (.cells #[.string ⟨#[]⟩, .string ⟨#[]⟩] 94)).alloc (.cells #[.string ⟨#[]⟩, .string ⟨#[]⟩] 94)) ⟨w6.heap.size, 0, none⟩ [.string atX.1, .string atX.2] 0) := Upd.trans ((Ext.alloc _ _).trans (Ext.alloc _ _)) u9 fun i hi e => by omega
    have y3 := (u9.same (w6.heap.size + 1) (blk_lt y2) (by omega)).trans y2
    generalize setCells ((w6.alloc (.cells #[.string ⟨#[]⟩, .string ⟨#[]⟩] 94)).alloc (.cells #[.string ⟨#[]⟩, .string ⟨#[]⟩] 94)) ⟨w6.heap.size, 0, none⟩ [.string atX.1, .string atX.2] 0 = w7 at *
    simp only [y3, canO_cells, List.size_toArray, List.length_cons, List.length_nil, Nat.zero_add, Nat.reduceAdd, Nat.reduceLT, true_and]
    have hp10 := setCells_all y3 (l := [.string atY.1, .string atY.2]) rfl
    have u10 := Upd.setCells (F := fun b => b = w6.heap.size + 1) (a := ⟨w6.heap.size + 1, 0, none⟩) w7 rfl [.string atY.1, .string atY.2] 0
    have hx8 : Ext w6 (setCells w7 ⟨w6.heap.size + 1, 0, none⟩ [.string atY.1, .string atY.2] 0) := Upd.trans hx7 u10 fun i hi e => by omega
    have hq9 := (u10.same w6.heap.size (blk_lt hp9) (by omega)).trans hp9
    generalize setCells w7 ⟨w6.heap.size + 1, 0, none⟩ [.string atY.1, .string atY.2] 0 = w8 at *
    have hq8 := hx8.blk hp6
    have hcl8 : cellO w8.heap[b]? (o + k) = some (.int .u8 (c : Int)) := by
      have := hx6.trans hx8
      have hb5 : b < w5.heap.size := by
        cases hq : w5.heap[b]? with
        | none => rw [hq] at hcl; cases hcl
        | some o => exact blk_lt hq
      rw [this.heap hb5]; exact hcl
    have hd : (IntKind.u8.wrap ((c : Int).tdiv 3)).tmod 6 = ((c / 3 % 6 : Nat) : Int) := by
      have e1 : (c : Int).tdiv 3 = ((c / 3 : Nat) : Int) := by rw [Int.tdiv_eq_ediv_of_nonneg (by omega)]; omega
      have e2 : IntKind.u8.wrap ((c / 3 : Nat) : Int) = ((c / 3 : Nat) : Int) := by
        simp only [IntKind.wrap, IntKind.signed, IntKind.bits]
        simp; omega
      rw [e1, e2, Int.tmod_eq_emod_of_nonneg (by omega)]; omega
    have hpl8 := blk_lt hp10
    obtain ⟨p9, hp9e⟩ : ∃ p9, p9 = w6.heap.size := ⟨_, rfl⟩
    rw [← hp9e] at hp10 hq9 hpl8 ⊢
    have n1 : ¬ p8 = p9 := by omega
    have n2 : ¬ p8 = p9 + 1 := by omega
    have hx9 : Ext w5 w8 := hx6.trans hx8
    generalize hdd : c / 3 % 6 = d at hd
    by_cases d1 : d = 1
    · subst d1
      ((repeat simp only [push_cast, Nat.reduceBEq, Nat.reduceLT, Nat.reduceEqDiff, reduceIte, reduceCtorEq, Nat.reduceMul, Nat.reduceAdd, Nat.reduceSub, Int.reduceEq, Int.reduceLT, Int.reduceLE, Int.reduceNeg, Int.reduceAdd, Int.reduceSub, Int.reduceMul, Nat.reduceLeDiff, Int.reduceToNat, cell_h, cellO_cells, b0, b1, b2, hcl8, hd, hq8, hq9, hp10]); (repeat (first | (with_reducible first | (refine hK _ _ ?_; clear hK K) | refine (show ∀ σ' w', _ → K σ' w' from by assumption) _ _ ?_ | refine W_seq_k fun K hK => ?_ | refine W_block_k fun K hK => ?_ | refine W_skip ?_ | refine W_ret ?_) | ((first | ((with_reducible refine W_id ?_); refine W_reg (by decide) (by rfl) ?_) | (with_reducible first | refine W_cond ?_ | refine hZ _ _ ?_ | refine W_exit ?_ | refine Wo_id ?_)); repeat1' simp only [push_cast, Nat.reduceBEq, Nat.reduceLT, Nat.reduceEqDiff, reduceIte, reduceCtorEq, Nat.reduceMul, Nat.reduceAdd, Nat.reduceSub, Int.reduceEq, Int.reduceLT, Int.reduceLE, Int.reduceNeg, Int.reduceAdd, Int.reduceSub, Int.reduceMul, Nat.reduceLeDiff, Int.reduceToNat, cell_h, cellO_cells, b0, b1, b2, hcl8, hd, hq8, hq9, hp10]) | ((repeat ((fail_if_success with_reducible refine hK _ _ ?_); clear hK K)); (with_reducible refine hK _ _ ?_); clear hK K))))
      refine bs_of sty27 (n := 1) (by decide) (by decide) Try.zeroValue94 (cs := #[.string atX.1, .string atX.2]) (by rw [show 1 * 2 = 2 from rfl, show Array.range 2 = #[0, 1] from rfl]; simp [Instr.fill, Value.cells]) ?_
      have hx9b : Ext w8 (w8.alloc (.cells #[.string atX.1, .string atX.2] 94)) := Ext.alloc _ _
      have hat9 : SlAt (w8.alloc (.cells #[.string atX.1, .string atX.2] 94)) 2 (.slice (some ⟨w8.heap.size, 0, none⟩) 1 1) (attrCells [atX]) (some w8.heap.size) := SlAt.new w8 2 #[.string atX.1, .string atX.2] 94 1 rfl
      have hq9b := hx9b.blk hq8
      have hpr : w8.heap.size < (w8.alloc (.cells #[.string atX.1, .string atX.2] 94)).heap.size := by rw [size_alloc_h]; omega
      have hs8 := hx9.alike.size
      generalize hpre : w8.heap.size = pr at *
      generalize w8.alloc (.cells #[.string atX.1, .string atX.2] 94) = w9 at *
      have hst : canStore w9 ⟨p8, 4, none⟩ := by rw [can_h, hq9b, canO_cells]; simp
      have u10b := Upd.setCell (F := fun b => b = p8) (a := ⟨p8, 4, none⟩) w9 rfl (.slice (some ⟨pr, 0, none⟩) 1 1)
      have hq10 : (w9.setCell ⟨p8, 4, none⟩ (.slice (some ⟨pr, 0, none⟩) 1 1)).heap[p8]? = some (.cells #[.int .i64 3, .string (nmN c), .string ⟨#[]⟩, .int .i64 0, .slice (some ⟨pr, 0, none⟩) 1 1, .bool false, .int .i64 0, .int .i64 0, .slice none 0 0, .int .i64 0, .int .i64 0] 30 (0, 0)) := by
        rw [heap_set_h, if_pos rfl, hq9b]; rfl
      have hx10 : Ext w5 (w9.setCell ⟨p8, 4, none⟩ (.slice (some ⟨pr, 0, none⟩) 1 1)) := Upd.trans (hx9.trans hx9b) u10b fun i hi e => by omega
      have hat := hat9.upd u10b fun b hb e => by cases hb; omega
      have hbr : ∀ b, some pr = some b → w5.heap.size ≤ b ∧ b < (w9.setCell ⟨p8, 4, none⟩ (.slice (some ⟨pr, 0, none⟩) 1 1)).heap.size := fun b hb => by cases hb; rw [size_set_h]; omega
      ((repeat simp only [push_cast, Nat.reduceBEq, Nat.reduceLT, Nat.reduceEqDiff, reduceIte, reduceCtorEq, Nat.reduceMul, Nat.reduceAdd, Nat.reduceSub, Int.reduceEq, Int.reduceLT, Int.reduceLE, Int.reduceNeg, Int.reduceAdd, Int.reduceSub, Int.reduceMul, Nat.reduceLeDiff, Int.reduceToNat, cell_h, cellO_cells, hst]); (repeat (first | (with_reducible first | (refine hK _ _ ?_; clear hK K) | refine (show ∀ σ' w', _ → K σ' w' from by assumption) _ _ ?_ | refine W_seq_k fun K hK => ?_ | refine W_block_k fun K hK => ?_ | refine W_skip ?_ | refine W_ret ?_) | ((first | ((with_reducible refine W_id ?_); refine W_reg (by decide) (by rfl) ?_) | (with_reducible first | refine W_cond ?_ | refine hZ _ _ ?_ | refine W_exit ?_ | refine Wo_id ?_)); repeat1' simp only [push_cast, Nat.reduceBEq, Nat.reduceLT, Nat.reduceEqDiff, reduceIte, reduceCtorEq, Nat.reduceMul, Nat.reduceAdd, Nat.reduceSub, Int.reduceEq, Int.reduceLT, Int.reduceLE, Int.reduceNeg, Int.reduceAdd, Int.reduceSub, Int.reduceMul, Nat.reduceLeDiff, Int.reduceToNat, cell_h, cellO_cells, hst]) | ((repeat ((fail_if_success with_reducible refine hK _ _ ?_); clear hK K)); (with_reducible refine hK _ _ ?_); clear hK K))))
      generalize w9.setCell ⟨p8, 4, none⟩ (.slice (some ⟨pr, 0, none⟩) 1 1) = w10 at *
      ((repeat simp only [push_cast, Nat.reduceBEq, Nat.reduceLT, Nat.reduceEqDiff, reduceIte, reduceCtorEq, Nat.reduceMul, Nat.reduceAdd, Nat.reduceSub, Int.reduceEq, Int.reduceLT, Int.reduceLE, Int.reduceNeg, Int.reduceAdd, Int.reduceSub, Int.reduceMul, Nat.reduceLeDiff, Int.reduceToNat, cell_h, cellO_cells, hq10]); (repeat (first | (with_reducible first | (refine hK _ _ ?_; clear hK K) | refine (show ∀ σ' w', _ → K σ' w' from by assumption) _ _ ?_ | refine W_seq_k fun K hK => ?_ | refine W_block_k fun K hK => ?_ | refine W_skip ?_ | refine W_ret ?_) | ((first | ((with_reducible refine W_id ?_); refine W_reg (by decide) (by rfl) ?_) | (with_reducible first | refine W_cond ?_ | refine hZ _ _ ?_ | refine W_exit ?_ | refine Wo_id ?_)); repeat1' simp only [push_cast, Nat.reduceBEq, Nat.reduceLT, Nat.reduceEqDiff, reduceIte, reduceCtorEq, Nat.reduceMul, Nat.reduceAdd, Nat.reduceSub, Int.reduceEq, Int.reduceLT, Int.reduceLE, Int.reduceNeg, Int.reduceAdd, Int.reduceSub, Int.reduceMul, Nat.reduceLeDiff, Int.reduceToNat, cell_h, cellO_cells, hq10]) | ((repeat ((fail_if_success with_reducible refine hK _ _ ?_); clear hK K)); (with_reducible refine hK _ _ ?_); clear hK K))))
      have hs10 := hx10.alike.size
      have hP : ∀ b, ((F b ∨ b = pn) ∨ b = p8 ∨ (some pr) = some b) → (F b ∨ b = pn) ∨ (w5.heap.size ≤ b ∧ b < w10.heap.size) := fun b hb => by
        rcases hb with hb | rfl | hb
        · exact .inl hb
        · exact .inr ⟨by omega, blk_lt hq10⟩
        · exact .inr (hbr b hb)
      have hA10 : At w w10 (fun b => (F b ∨ b = pn) ∨ b = p8 ∨ (some pr) = some b) pa (elsL (l.take k)) := hA5.guard hx10 hP
      have hB10 := hB5.ext hx10
      have hlen : (elsL (l.take k)).length < 100000 := by simp [elsL]; omega
      refine (add_a hA10 hlen (m := (⟨{ zN with kind := 3, name := nmN c, attrs := [atX], space := 0 }, .slice (some ⟨pr, 0, none⟩) 1 1, .slice none 0 0, (some pr), none⟩ : Laid)) hat.rd (by simp)).mono ?_
      rintro v w11 ⟨rfl, hA11, hu11⟩
      have hq11 := (hu11.same p8 (blk_lt hq10) (fun h => h.2 (.inr (.inl rfl)))).trans hq10
      have hp11 := (hu11.same pn (blk_lt (hx10.blk hp5)) (fun h => h.2 (.inl (.inr rfl)))).trans (hx10.blk hp5)
      have hB11 := hB10.frame hu11 fun b hb h => h.2 (.inl (.inl hb))
      have hat11 := hat.upd hu11 fun b hb h => h.2 (.inr (.inr hb))
      have hs11 := hu11.alike.size
      ((repeat simp only [push_cast, Nat.reduceBEq, Nat.reduceLT, Nat.reduceEqDiff, reduceIte, reduceCtorEq, Nat.reduceMul, Nat.reduceAdd, Nat.reduceSub, Int.reduceEq, Int.reduceLT, Int.reduceLE, Int.reduceNeg, Int.reduceAdd, Int.reduceSub, Int.reduceMul, Nat.reduceLeDiff, Int.reduceToNat, cell_h, hq11, cellO_cells]); (repeat (first | (with_reducible first | (refine hK _ _ ?_; clear hK K) | refine (show ∀ σ' w', _ → K σ' w' from by assumption) _ _ ?_ | refine W_seq_k fun K hK => ?_ | refine W_block_k fun K hK => ?_ | refine W_skip ?_ | refine W_ret ?_) | ((first | ((with_reducible refine W_id ?_); refine W_reg (by decide) (by rfl) ?_) | (with_reducible first | refine W_cond ?_ | refine hZ _ _ ?_ | refine W_exit ?_ | refine Wo_id ?_)); repeat1' simp only [push_cast, Nat.reduceBEq, Nat.reduceLT, Nat.reduceEqDiff, reduceIte, reduceCtorEq, Nat.reduceMul, Nat.reduceAdd, Nat.reduceSub, Int.reduceEq, Int.reduceLT, Int.reduceLE, Int.reduceNeg, Int.reduceAdd, Int.reduceSub, Int.reduceMul, Nat.reduceLeDiff, Int.reduceToNat, cell_h, hq11, cellO_cells]) | ((repeat ((fail_if_success with_reducible refine hK _ _ ?_); clear hK K)); (with_reducible refine hK _ _ ?_); clear hK K))))
      refine (radd_c hB11 (by omega) (m := (⟨{ zN with kind := 3, name := nmN c, attrs := [atX], space := 0 }, .slice (some ⟨pr, 0, none⟩) 1 1, .slice none 0 0, (some pr), none⟩ : Laid)) hat11.rd (by simp) rfl (nmN_ne c)).mono ?_
      rintro v w12 ⟨hB12, hu12⟩
      ((repeat simp only [push_cast, Nat.reduceBEq, Nat.reduceLT, Nat.reduceEqDiff, reduceIte, reduceCtorEq, Nat.reduceMul, Nat.reduceAdd, Nat.reduceSub, Int.reduceEq, Int.reduceLT, Int.reduceLE, Int.reduceNeg, Int.reduceAdd, Int.reduceSub, Int.reduceMul, Nat.reduceLeDiff, Int.reduceToNat, b2]); (repeat (first | (with_reducible first | (refine hK _ _ ?_; clear hK K) | refine (show ∀ σ' w', _ → K σ' w' from by assumption) _ _ ?_ | refine W_seq_k fun K hK => ?_ | refine W_block_k fun K hK => ?_ | refine W_skip ?_ | refine W_ret ?_) | ((first | ((with_reducible refine W_id ?_); refine W_reg (by decide) (by rfl) ?_) | (with_reducible first | refine W_cond ?_ | refine hZ _ _ ?_ | refine W_exit ?_ | refine Wo_id ?_)); repeat1' simp only [push_cast, Nat.reduceBEq, Nat.reduceLT, Nat.reduceEqDiff, reduceIte, reduceCtorEq, Nat.reduceMul, Nat.reduceAdd, Nat.reduceSub, Int.reduceEq, Int.reduceLT, Int.reduceLE, Int.reduceNeg, Int.reduceAdd, Int.reduceSub, Int.reduceMul, Nat.reduceLeDiff, Int.reduceToNat, b2]) | ((repeat ((fail_if_success with_reducible refine hK _ _ ?_); clear hK K)); (with_reducible refine hK _ _ ?_); clear hK K))))
      refine ⟨k + 1, by omega, ?_⟩
      (repeat simp only [push_cast, Nat.reduceBEq, Nat.reduceLT, Nat.reduceEqDiff, reduceIte, reduceCtorEq, Nat.reduceMul, Nat.reduceAdd, Nat.reduceSub, Int.reduceEq, Int.reduceLT, Int.reduceLE, Int.reduceNeg, Int.reduceAdd, Int.reduceSub, Int.reduceMul, Nat.reduceLeDiff, Int.reduceToNat])
      have eL : elsL (l.take (k + 1)) = elsL (l.take k) ++ [bareN (⟨{ zN with kind := 3, name := nmN c, attrs := [atX], space := 0 }, .slice (some ⟨pr, 0, none⟩) 1 1, .slice none 0 0, (some pr), none⟩ : Laid).nd] := by
        rw [List.take_add_one, hc]
        simp only [elsL, Option.toList_some, List.map_append, List.map_cons, List.map_nil, List.cons_append]
        rw [show fmN c = bareN (⟨{ zN with kind := 3, name := nmN c, attrs := [atX], space := 0 }, .slice (some ⟨pr, 0, none⟩) 1 1, .slice none 0 0, (some pr), none⟩ : Laid).nd from by simp [fmN, bareN, atN, hdd, zN]]
      have eA : (addN (elsL (l.take k)) (⟨{ zN with kind := 3, name := nmN c, attrs := [atX], space := 0 }, .slice (some ⟨pr, 0, none⟩) 1 1, .slice none 0 0, (some pr), none⟩ : Laid).nd).1 = elsL (l.take (k + 1)) := by
        rw [eL, addN, if_pos (by rfl), if_neg (fun h => nmN_ne c h.2.2)]
      rw [eA] at hA11
      rw [← eL] at hB12
      have hs12 := hu12.alike.size
      refine ⟨by omega, fun b => (F b ∨ w11.heap.size ≤ b) ∧ b < w12.heap.size, ?_, hB12.mono fun b hb hf => ⟨hf, hb⟩, ?_, ?_, ?_⟩
      · refine hA11.app hu12 (fun b _ hb => ⟨.inl (.inl hb), hF b hb⟩) fun b hb => ?_
        rcases hb with ⟨hb | hb, h2⟩ | rfl
        · exact .inl (.inl (.inl hb))
        · exact .inr ⟨hb, h2⟩
        · exact .inl (.inl (.inr rfl))
      · rintro b ⟨hb | hb, _⟩
        · exact hF b hb
        · have := hA11.ext.alike.size; omega
      · rintro ⟨hb | hb, _⟩
        · exact hFn hb
        · have := blk_lt hp11; omega
      · exact (hu12.same pn (blk_lt hp11) hFn).trans hp11
    by_cases d2 : d = 2
    · subst d2
      ((repeat simp only [push_cast, Nat.reduceBEq, Nat.reduceLT, Nat.reduceEqDiff, reduceIte, reduceCtorEq, Nat.reduceMul, Nat.reduceAdd, Nat.reduceSub, Int.reduceEq, Int.reduceLT, Int.reduceLE, Int.reduceNeg, Int.reduceAdd, Int.reduceSub, Int.reduceMul, Nat.reduceLeDiff, Int.reduceToNat, cell_h, cellO_cells, b0, b1, b2, hcl8, hd, hq8, hq9, hp10]); (repeat (first | (with_reducible first | (refine hK _ _ ?_; clear hK K) | refine (show ∀ σ' w', _ → K σ' w' from by assumption) _ _ ?_ | refine W_seq_k fun K hK => ?_ | refine W_block_k fun K hK => ?_ | refine W_skip ?_ | refine W_ret ?_) | ((first | ((with_reducible refine W_id ?_); refine W_reg (by decide) (by rfl) ?_) | (with_reducible first | refine W_cond ?_ | refine hZ _ _ ?_ | refine W_exit ?_ | refine Wo_id ?_)); repeat1' simp only [push_cast, Nat.reduceBEq, Nat.reduceLT, Nat.reduceEqDiff, reduceIte, reduceCtorEq, Nat.reduceMul, Nat.reduceAdd, Nat.reduceSub, Int.reduceEq, Int.reduceLT, Int.reduceLE, Int.reduceNeg, Int.reduceAdd, Int.reduceSub, Int.reduceMul, Nat.reduceLeDiff, Int.reduceToNat, cell_h, cellO_cells, b0, b1, b2, hcl8, hd, hq8, hq9, hp10]) | ((repeat ((fail_if_success with_reducible refine hK _ _ ?_); clear hK K)); (with_reducible refine hK _ _ ?_); clear hK K))))
      refine bs_of sty27 (n := 2) (by decide) (by decide) Try.zeroValue94 (cs := #[.string atX.1, .string atX.2, .string atY.1, .string atY.2]) (fill94 _ _ _ _) ?_
      have hx9b : Ext w8 (w8.alloc (.cells #[.string atX.1, .string atX.2, .string atY.1, .string atY.2] 94)) := Ext.alloc _ _
      have hat9 : SlAt (w8.alloc (.cells #[.string atX.1, .string atX.2, .string atY.1, .string atY.2] 94)) 2 (.slice (some ⟨w8.heap.size, 0, none⟩) 2 2) (attrCells [atX, atY]) (some w8.heap.size) := SlAt.new w8 2 #[.string atX.1, .string atX.2, .string atY.1, .string atY.2] 94 2 rfl
      have hq9b := hx9b.blk hq8
      have hpr : w8.heap.size < (w8.alloc (.cells #[.string atX.1, .string atX.2, .string atY.1, .string atY.2] 94)).heap.size := by rw [size_alloc_h]; omega
      have hs8 := hx9.alike.size
      generalize hpre : w8.heap.size = pr at *
      generalize w8.alloc (.cells #[.string atX.1, .string atX.2, .string atY.1, .string atY.2] 94) = w9 at *
      have hst : canStore w9 ⟨p8, 4, none⟩ := by rw [can_h, hq9b, canO_cells]; simp
      have u10b := Upd.setCell (F := fun b => b = p8) (a := ⟨p8, 4, none⟩) w9 rfl (.slice (some ⟨pr, 0, none⟩) 2 2)
      have hq10 : (w9.setCell ⟨p8, 4, none⟩ (.slice (some ⟨pr, 0, none⟩) 2 2)).heap[p8]? = some (.cells #[.int .i64 3, .string (nmN c), .string ⟨#[]⟩, .int .i64 0, .slice (some ⟨pr, 0, none⟩) 2 2, .bool false, .int .i64 0, .int .i64 0, .slice none 0 0, .int .i64 0, .int .i64 0] 30 (0, 0)) := by
        rw [heap_set_h, if_pos rfl, hq9b]; rfl
      have hx10 : Ext w5 (w9.setCell ⟨p8, 4, none⟩ (.slice (some ⟨pr, 0, none⟩) 2 2)) := Upd.trans (hx9.trans hx9b) u10b fun i hi e => by omega
      have hat := hat9.upd u10b fun b hb e => by cases hb; omega
      have hbr : ∀ b, some pr = some b → w5.heap.size ≤ b ∧ b < (w9.setCell ⟨p8, 4, none⟩ (.slice (some ⟨pr, 0, none⟩) 2 2)).heap.size := fun b hb => by cases hb; rw [size_set_h]; omega
      ((repeat simp only [push_cast, Nat.reduceBEq, Nat.reduceLT, Nat.reduceEqDiff, reduceIte, reduceCtorEq, Nat.reduceMul, Nat.reduceAdd, Nat.reduceSub, Int.reduceEq, Int.reduceLT, Int.reduceLE, Int.reduceNeg, Int.reduceAdd, Int.reduceSub, Int.reduceMul, Nat.reduceLeDiff, Int.reduceToNat, cell_h, cellO_cells, hst]); (repeat (first | (with_reducible first | (refine hK _ _ ?_; clear hK K) | refine (show ∀ σ' w', _ → K σ' w' from by assumption) _ _ ?_ | refine W_seq_k fun K hK => ?_ | refine W_block_k fun K hK => ?_ | refine W_skip ?_ | refine W_ret ?_) | ((first | ((with_reducible refine W_id ?_); refine W_reg (by decide) (by rfl) ?_) | (with_reducible first | refine W_cond ?_ | refine hZ _ _ ?_ | refine W_exit ?_ | refine Wo_id ?_)); repeat1' simp only [push_cast, Nat.reduceBEq, Nat.reduceLT, Nat.reduceEqDiff, reduceIte, reduceCtorEq, Nat.reduceMul, Nat.reduceAdd, Nat.reduceSub, Int.reduceEq, Int.reduceLT, Int.reduceLE, Int.reduceNeg, Int.reduceAdd, Int.reduceSub, Int.reduceMul, Nat.reduceLeDiff, Int.reduceToNat, cell_h, cellO_cells, hst]) | ((repeat ((fail_if_success with_reducible refine hK _ _ ?_); clear hK K)); (with_reducible refine hK _ _ ?_); clear hK K))))
      generalize w9.setCell ⟨p8, 4, none⟩ (.slice (some ⟨pr, 0, none⟩) 2 2) = w10 at *
      ((repeat simp only [push_cast, Nat.reduceBEq, Nat.reduceLT, Nat.reduceEqDiff, reduceIte, reduceCtorEq, Nat.reduceMul, Nat.reduceAdd, Nat.reduceSub, Int.reduceEq, Int.reduceLT, Int.reduceLE, Int.reduceNeg, Int.reduceAdd, Int.reduceSub, Int.reduceMul, Nat.reduceLeDiff, Int.reduceToNat, cell_h, cellO_cells, hq10]); (repeat (first | (with_reducible first | (refine hK _ _ ?_; clear hK K) | refine (show ∀ σ' w', _ → K σ' w' from by assumption) _ _ ?_ | refine W_seq_k fun K hK => ?_ | refine W_block_k fun K hK => ?_ | refine W_skip ?_ | refine W_ret ?_) | ((first | ((with_reducible refine W_id ?_); refine W_reg (by decide) (by rfl) ?_) | (with_reducible first | refine W_cond ?_ | refine hZ _ _ ?_ | refine W_exit ?_ | refine Wo_id ?_)); repeat1' simp only [push_cast, Nat.reduceBEq, Nat.reduceLT, Nat.reduceEqDiff, reduceIte, reduceCtorEq, Nat.reduceMul, Nat.reduceAdd, Nat.reduceSub, Int.reduceEq, Int.reduceLT, Int.reduceLE, Int.reduceNeg, Int.reduceAdd, Int.reduceSub, Int.reduceMul, Nat.reduceLeDiff, Int.reduceToNat, cell_h, cellO_cells, hq10]) | ((repeat ((fail_if_success with_reducible refine hK _ _ ?_); clear hK K)); (with_reducible refine hK _ _ ?_); clear hK K))))
      have hs10 := hx10.alike.size
      have hP : ∀ b, ((F b ∨ b = pn) ∨ b = p8 ∨ (some pr) = some b) → (F b ∨ b = pn) ∨ (w5.heap.size ≤ b ∧ b < w10.heap.size) := fun b hb => by
        rcases hb with hb | rfl | hb
        · exact .inl hb
        · exact .inr ⟨by omega, blk_lt hq10⟩
        · exact .inr (hbr b hb)
      have hA10 : At w w10 (fun b => (F b ∨ b = pn) ∨ b = p8 ∨ (some pr) = some b) pa (elsL (l.take k)) := hA5.guard hx10 hP
      have hB10 := hB5.ext hx10
      have hlen : (elsL (l.take k)).length < 100000 := by simp [elsL]; omega
      refine (add_a hA10 hlen (m := (⟨{ zN with kind := 3, name := nmN c, attrs := [atX, atY], space := 0 }, .slice (some ⟨pr, 0, none⟩) 2 2, .slice none 0 0, (some pr), none⟩ : Laid)) hat.rd (by simp)).mono ?_
      rintro v w11 ⟨rfl, hA11, hu11⟩
      have hq11 := (hu11.same p8 (blk_lt hq10) (fun h => h.2 (.inr (.inl rfl)))).trans hq10
      have hp11 := (hu11.same pn (blk_lt (hx10.blk hp5)) (fun h => h.2 (.inl (.inr rfl)))).trans (hx10.blk hp5)
      have hB11 := hB10.frame hu11 fun b hb h => h.2 (.inl (.inl hb))
      have hat11 := hat.upd hu11 fun b hb h => h.2 (.inr (.inr hb))
      have hs11 := hu11.alike.size
      ((repeat simp only [push_cast, Nat.reduceBEq, Nat.reduceLT, Nat.reduceEqDiff, reduceIte, reduceCtorEq, Nat.reduceMul, Nat.reduceAdd, Nat.reduceSub, Int.reduceEq, Int.reduceLT, Int.reduceLE, Int.reduceNeg, Int.reduceAdd, Int.reduceSub, Int.reduceMul, Nat.reduceLeDiff, Int.reduceToNat, cell_h, hq11, cellO_cells]); (repeat (first | (with_reducible first | (refine hK _ _ ?_; clear hK K) | refine (show ∀ σ' w', _ → K σ' w' from by assumption) _ _ ?_ | refine W_seq_k fun K hK => ?_ | refine W_block_k fun K hK => ?_ | refine W_skip ?_ | refine W_ret ?_) | ((first | ((with_reducible refine W_id ?_); refine W_reg (by decide) (by rfl) ?_) | (with_reducible first | refine W_cond ?_ | refine hZ _ _ ?_ | refine W_exit ?_ | refine Wo_id ?_)); repeat1' simp only [push_cast, Nat.reduceBEq, Nat.reduceLT, Nat.reduceEqDiff, reduceIte, reduceCtorEq, Nat.reduceMul, Nat.reduceAdd, Nat.reduceSub, Int.reduceEq, Int.reduceLT, Int.reduceLE, Int.reduceNeg, Int.reduceAdd, Int.reduceSub, Int.reduceMul, Nat.reduceLeDiff, Int.reduceToNat, cell_h, hq11, cellO_cells]) | ((repeat ((fail_if_success with_reducible refine hK _ _ ?_); clear hK K)); (with_reducible refine hK _ _ ?_); clear hK K))))
      refine (radd_c hB11 (by omega) (m := (⟨{ zN with kind := 3, name := nmN c, attrs := [atX, atY], space := 0 }, .slice (some ⟨pr, 0, none⟩) 2 2, .slice none 0 0, (some pr), none⟩ : Laid)) hat11.rd (by simp) rfl (nmN_ne c)).mono ?_
      rintro v w12 ⟨hB12, hu12⟩
      ((repeat simp only [push_cast, Nat.reduceBEq, Nat.reduceLT, Nat.reduceEqDiff, reduceIte, reduceCtorEq, Nat.reduceMul, Nat.reduceAdd, Nat.reduceSub, Int.reduceEq, Int.reduceLT, Int.reduceLE, Int.reduceNeg, Int.reduceAdd, Int.reduceSub, Int.reduceMul, Nat.reduceLeDiff, Int.reduceToNat, b2]); (repeat (first | (with_reducible first | (refine hK _ _ ?_; clear hK K) | refine (show ∀ σ' w', _ → K σ' w' from by assumption) _ _ ?_ | refine W_seq_k fun K hK => ?_ | refine W_block_k fun K hK => ?_ | refine W_skip ?_ | refine W_ret ?_) | ((first | ((with_reducible refine W_id ?_); refine W_reg (by decide) (by rfl) ?_) | (with_reducible first | refine W_cond ?_ | refine hZ _ _ ?_ | refine W_exit ?_ | refine Wo_id ?_)); repeat1' simp only [push_cast, Nat.reduceBEq, Nat.reduceLT, Nat.reduceEqDiff, reduceIte, reduceCtorEq, Nat.reduceMul, Nat.reduceAdd, Nat.reduceSub, Int.reduceEq, Int.reduceLT, Int.reduceLE, Int.reduceNeg, Int.reduceAdd, Int.reduceSub, Int.reduceMul, Nat.reduceLeDiff, Int.reduceToNat, b2]) | ((repeat ((fail_if_success with_reducible refine hK _ _ ?_); clear hK K)); (with_reducible refine hK _ _ ?_); clear hK K))))
      refine ⟨k + 1, by omega, ?_⟩
      (repeat simp only [push_cast, Nat.reduceBEq, Nat.reduceLT, Nat.reduceEqDiff, reduceIte, reduceCtorEq, Nat.reduceMul, Nat.reduceAdd, Nat.reduceSub, Int.reduceEq, Int.reduceLT, Int.reduceLE, Int.reduceNeg, Int.reduceAdd, Int.reduceSub, Int.reduceMul, Nat.reduceLeDiff, Int.reduceToNat])
      have eL : elsL (l.take (k + 1)) = elsL (l.take k) ++ [bareN (⟨{ zN with kind := 3, name := nmN c, attrs := [atX, atY], space := 0 }, .slice (some ⟨pr, 0, none⟩) 2 2, .slice none 0 0, (some pr), none⟩ : Laid).nd] := by
        rw [List.take_add_one, hc]
        simp only [elsL, Option.toList_some, List.map_append, List.map_cons, List.map_nil, List.cons_append]
        rw [show fmN c = bareN (⟨{ zN with kind := 3, name := nmN c, attrs := [atX, atY], space := 0 }, .slice (some ⟨pr, 0, none⟩) 2 2, .slice none 0 0, (some pr), none⟩ : Laid).nd from by simp [fmN, bareN, atN, hdd, zN]]
      have eA : (addN (elsL (l.take k)) (⟨{ zN with kind := 3, name := nmN c, attrs := [atX, atY], space := 0 }, .slice (some ⟨pr, 0, none⟩) 2 2, .slice none 0 0, (some pr), none⟩ : Laid).nd).1 = elsL (l.take (k + 1)) := by
        rw [eL, addN, if_pos (by rfl), if_neg (fun h => nmN_ne c h.2.2)]
      rw [eA] at hA11
      rw [← eL] at hB12
      have hs12 := hu12.alike.size
      refine ⟨by omega, fun b => (F b ∨ w11.heap.size ≤ b) ∧ b < w12.heap.size, ?_, hB12.mono fun b hb hf => ⟨hf, hb⟩, ?_, ?_, ?_⟩
      · refine hA11.app hu12 (fun b _ hb => ⟨.inl (.inl hb), hF b hb⟩) fun b hb => ?_
        rcases hb with ⟨hb | hb, h2⟩ | rfl
        · exact .inl (.inl (.inl hb))
        · exact .inr ⟨hb, h2⟩
        · exact .inl (.inl (.inr rfl))
      · rintro b ⟨hb | hb, _⟩
        · exact hF b hb
        · have := hA11.ext.alike.size; omega
      · rintro ⟨hb | hb, _⟩
        · exact hFn hb
        · have := blk_lt hp11; omega
      · exact (hu12.same pn (blk_lt hp11) hFn).trans hp11
    by_cases d3 : d = 3
    · subst d3
      ((repeat simp only [push_cast, Nat.reduceBEq, Nat.reduceLT, Nat.reduceEqDiff, reduceIte, reduceCtorEq, Nat.reduceMul, Nat.reduceAdd, Nat.reduceSub, Int.reduceEq, Int.reduceLT, Int.reduceLE, Int.reduceNeg, Int.reduceAdd, Int.reduceSub, Int.reduceMul, Nat.reduceLeDiff, Int.reduceToNat, cell_h, cellO_cells, b0, b1, b2, hcl8, hd, hq8, hq9, hp10]); (repeat (first | (with_reducible first | (refine hK _ _ ?_; clear hK K) | refine (show ∀ σ' w', _ → K σ' w' from by assumption) _ _ ?_ | refine W_seq_k fun K hK => ?_ | refine W_block_k fun K hK => ?_ | refine W_skip ?_ | refine W_ret ?_) | ((first | ((with_reducible refine W_id ?_); refine W_reg (by decide) (by rfl) ?_) | (with_reducible first | refine W_cond ?_ | refine hZ _ _ ?_ | refine W_exit ?_ | refine Wo_id ?_)); repeat1' simp only [push_cast, Nat.reduceBEq, Nat.reduceLT, Nat.reduceEqDiff, reduceIte, reduceCtorEq, Nat.reduceMul, Nat.reduceAdd, Nat.reduceSub, Int.reduceEq, Int.reduceLT, Int.reduceLE, Int.reduceNeg, Int.reduceAdd, Int.reduceSub, Int.reduceMul, Nat.reduceLeDiff, Int.reduceToNat, cell_h, cellO_cells, b0, b1, b2, hcl8, hd, hq8, hq9, hp10]) | ((repeat ((fail_if_success with_reducible refine hK _ _ ?_); clear hK K)); (with_reducible refine hK _ _ ?_); clear hK K))))
      refine bs_of sty27 (n := 2) (by decide) (by decide) Try.zeroValue94 (cs := #[.string atY.1, .string atY.2, .string atX.1, .string atX.2]) (fill94 _ _ _ _) ?_
      have hx9b : Ext w8 (w8.alloc (.cells #[.string atY.1, .string atY.2, .string atX.1, .string atX.2] 94)) := Ext.alloc _ _
      have hat9 : SlAt (w8.alloc (.cells #[.string atY.1, .string atY.2, .string atX.1, .string atX.2] 94)) 2 (.slice (some ⟨w8.heap.size, 0, none⟩) 2 2) (attrCells [atY, atX]) (some w8.heap.size) := SlAt.new w8 2 #[.string atY.1, .string atY.2, .string atX.1, .string atX.2] 94 2 rfl
      have hq9b := hx9b.blk hq8
      have hpr : w8.heap.size < (w8.alloc (.cells #[.string atY.1, .string atY.2, .string atX.1, .string atX.2] 94)).heap.size := by rw [size_alloc_h]; omega
      have hs8 := hx9.alike.size
      generalize hpre : w8.heap.size = pr at *
      generalize w8.alloc (.cells #[.string atY.1, .string atY.2, .string atX.1, .string atX.2] 94) = w9 at *
      have hst : canStore w9 ⟨p8, 4, none⟩ := by rw [can_h, hq9b, canO_cells]; simp
      have u10b := Upd.setCell (F := fun b => b = p8) (a := ⟨p8, 4, none⟩) w9 rfl (.slice (some ⟨pr, 0, none⟩) 2 2)
      have hq10 : (w9.setCell ⟨p8, 4, none⟩ (.slice (some ⟨pr, 0, none⟩) 2 2)).heap[p8]? = some (.cells #[.int .i64 3, .string (nmN c), .string ⟨#[]⟩, .int .i64 0, .slice (some ⟨pr, 0, none⟩) 2 2, .bool false, .int .i64 0, .int .i64 0, .slice none 0 0, .int .i64 0, .int .i64 0] 30 (0, 0)) := by
        rw [heap_set_h, if_pos rfl, hq9b]; rfl
      have hx10 : Ext w5 (w9.setCell ⟨p8, 4, none⟩ (.slice (some ⟨pr, 0, none⟩) 2 2)) := Upd.trans (hx9.trans hx9b) u10b fun i hi e => by omega
      have hat := hat9.upd u10b fun b hb e => by cases hb; omega
      have hbr : ∀ b, some pr = some b → w5.heap.size ≤ b ∧ b < (w9.setCell ⟨p8, 4, none⟩ (.slice (some ⟨pr, 0, none⟩) 2 2)).heap.size := fun b hb => by cases hb; rw [size_set_h]; omega
      ((repeat simp only [push_cast, Nat.reduceBEq, Nat.reduceLT, Nat.reduceEqDiff, reduceIte, reduceCtorEq, Nat.reduceMul, Nat.reduceAdd, Nat.reduceSub, Int.reduceEq, Int.reduceLT, Int.reduceLE, Int.reduceNeg, Int.reduceAdd, Int.reduceSub, Int.reduceMul, Nat.reduceLeDiff, Int.reduceToNat, cell_h, cellO_cells, hst]); (repeat (first | (with_reducible first | (refine hK _ _ ?_; clear hK K) | refine (show ∀ σ' w', _ → K σ' w' from by assumption) _ _ ?_ | refine W_seq_k fun K hK => ?_ | refine W_block_k fun K hK => ?_ | refine W_skip ?_ | refine W_ret ?_) | ((first | ((with_reducible refine W_id ?_); refine W_reg (by decide) (by rfl) ?_) | (with_reducible first | refine W_cond ?_ | refine hZ _ _ ?_ | refine W_exit ?_ | refine Wo_id ?_)); repeat1' simp only [push_cast, Nat.reduceBEq, Nat.reduceLT, Nat.reduceEqDiff, reduceIte, reduceCtorEq, Nat.reduceMul, Nat.reduceAdd, Nat.reduceSub, Int.reduceEq, Int.reduceLT, Int.reduceLE, Int.reduceNeg, Int.reduceAdd, Int.reduceSub, Int.reduceMul, Nat.reduceLeDiff, Int.reduceToNat, cell_h, cellO_cells, hst]) | ((repeat ((fail_if_success with_reducible refine hK _ _ ?_); clear hK K)); (with_reducible refine hK _ _ ?_); clear hK K))))
      generalize w9.setCell ⟨p8, 4, none⟩ (.slice (some ⟨pr, 0, none⟩) 2 2) = w10 at *
      ((repeat simp only [push_cast, Nat.reduceBEq, Nat.reduceLT, Nat.reduceEqDiff, reduceIte, reduceCtorEq, Nat.reduceMul, Nat.reduceAdd, Nat.reduceSub, Int.reduceEq, Int.reduceLT, Int.reduceLE, Int.reduceNeg, Int.reduceAdd, Int.reduceSub, Int.reduceMul, Nat.reduceLeDiff, Int.reduceToNat, cell_h, cellO_cells, hq10]); (repeat (first | (with_reducible first | (refine hK _ _ ?_; clear hK K) | refine (show ∀ σ' w', _ → K σ' w' from by assumption) _ _ ?_ | refine W_seq_k fun K hK => ?_ | refine W_block_k fun K hK => ?_ | refine W_skip ?_ | refine W_ret ?_) | ((first | ((with_reducible refine W_id ?_); refine W_reg (by decide) (by rfl) ?_) | (with_reducible first | refine W_cond ?_ | refine hZ _ _ ?_ | refine W_exit ?_ | refine Wo_id ?_)); repeat1' simp only [push_cast, Nat.reduceBEq, Nat.reduceLT, Nat.reduceEqDiff, reduceIte, reduceCtorEq, Nat.reduceMul, Nat.reduceAdd, Nat.reduceSub, Int.reduceEq, Int.reduceLT, Int.reduceLE, Int.reduceNeg, Int.reduceAdd, Int.reduceSub, Int.reduceMul, Nat.reduceLeDiff, Int.reduceToNat, cell_h, cellO_cells, hq10]) | ((repeat ((fail_if_success with_reducible refine hK _ _ ?_); clear hK K)); (with_reducible refine hK _ _ ?_); clear hK K))))
      have hs10 := hx10.alike.size
      have hP : ∀ b, ((F b ∨ b = pn) ∨ b = p8 ∨ (some pr) = some b) → (F b ∨ b = pn) ∨ (w5.heap.size ≤ b ∧ b < w10.heap.size) := fun b hb => by
        rcases hb with hb | rfl | hb
        · exact .inl hb
        · exact .inr ⟨by omega, blk_lt hq10⟩
        · exact .inr (hbr b hb)
      have hA10 : At w w10 (fun b => (F b ∨ b = pn) ∨ b = p8 ∨ (some pr) = some b) pa (elsL (l.take k)) := hA5.guard hx10 hP
      have hB10 := hB5.ext hx10
      have hlen : (elsL (l.take k)).length < 100000 := by simp [elsL]; omega
      refine (add_a hA10 hlen (m := (⟨{ zN with kind := 3, name := nmN c, attrs := [atY, atX], space := 0 }, .slice (some ⟨pr, 0, none⟩) 2 2, .slice none 0 0, (some pr), none⟩ : Laid)) hat.rd (by simp)).mono ?_
      rintro v w11 ⟨rfl, hA11, hu11⟩
      have hq11 := (hu11.same p8 (blk_lt hq10) (fun h => h.2 (.inr (.inl rfl)))).trans hq10
      have hp11 := (hu11.same pn (blk_lt (hx10.blk hp5)) (fun h => h.2 (.inl (.inr rfl)))).trans (hx10.blk hp5)
      have hB11 := hB10.frame hu11 fun b hb h => h.2 (.inl (.inl hb))
      have hat11 := hat.upd hu11 fun b hb h => h.2 (.inr (.inr hb))
      have hs11 := hu11.alike.size
      ((repeat simp only [push_cast, Nat.reduceBEq, Nat.reduceLT, Nat.reduceEqDiff, reduceIte, reduceCtorEq, Nat.reduceMul, Nat.reduceAdd, Nat.reduceSub, Int.reduceEq, Int.reduceLT, Int.reduceLE, Int.reduceNeg, Int.reduceAdd, Int.reduceSub, Int.reduceMul, Nat.reduceLeDiff, Int.reduceToNat, cell_h, hq11, cellO_cells]); (repeat (first | (with_reducible first | (refine hK _ _ ?_; clear hK K) | refine (show ∀ σ' w', _ → K σ' w' from by assumption) _ _ ?_ | refine W_seq_k fun K hK => ?_ | refine W_block_k fun K hK => ?_ | refine W_skip ?_ | refine W_ret ?_) | ((first | ((with_reducible refine W_id ?_); refine W_reg (by decide) (by rfl) ?_) | (with_reducible first | refine W_cond ?_ | refine hZ _ _ ?_ | refine W_exit ?_ | refine Wo_id ?_)); repeat1' simp only [push_cast, Nat.reduceBEq, Nat.reduceLT, Nat.reduceEqDiff, reduceIte, reduceCtorEq, Nat.reduceMul, Nat.reduceAdd, Nat.reduceSub, Int.reduceEq, Int.reduceLT, Int.reduceLE, Int.reduceNeg, Int.reduceAdd, Int.reduceSub, Int.reduceMul, Nat.reduceLeDiff, Int.reduceToNat, cell_h, hq11, cellO_cells]) | ((repeat ((fail_if_success with_reducible refine hK _ _ ?_); clear hK K)); (with_reducible refine hK _ _ ?_); clear hK K))))
      refine (radd_c hB11 (by omega) (m := (⟨{ zN with kind := 3, name := nmN c, attrs := [atY, atX], space := 0 }, .slice (some ⟨pr, 0, none⟩) 2 2, .slice none 0 0, (some pr), none⟩ : Laid)) hat11.rd (by simp) rfl (nmN_ne c)).mono ?_
      rintro v w12 ⟨hB12, hu12⟩
      ((repeat simp only [push_cast, Nat.reduceBEq, Nat.reduceLT, Nat.reduceEqDiff, reduceIte, reduceCtorEq, Nat.reduceMul, Nat.reduceAdd, Nat.reduceSub, Int.reduceEq, Int.reduceLT, Int.reduceLE, Int.reduceNeg, Int.reduceAdd, Int.reduceSub, Int.reduceMul, Nat.reduceLeDiff, Int.reduceToNat, b2]); (repeat (first | (with_reducible first | (refine hK _ _ ?_; clear hK K) | refine (show ∀ σ' w', _ → K σ' w' from by assumption) _ _ ?_ | refine W_seq_k fun K hK => ?_ | refine W_block_k fun K hK => ?_ | refine W_skip ?_ | refine W_ret ?_) | ((first | ((with_reducible refine W_id ?_); refine W_reg (by decide) (by rfl) ?_) | (with_reducible first | refine W_cond ?_ | refine hZ _ _ ?_ | refine W_exit ?_ | refine Wo_id ?_)); repeat1' simp only [push_cast, Nat.reduceBEq, Nat.reduceLT, Nat.reduceEqDiff, reduceIte, reduceCtorEq, Nat.reduceMul, Nat.reduceAdd, Nat.reduceSub, Int.reduceEq, Int.reduceLT, Int.reduceLE, Int.reduceNeg, Int.reduceAdd, Int.reduceSub, Int.reduceMul, Nat.reduceLeDiff, Int.reduceToNat, b2]) | ((repeat ((fail_if_success with_reducible refine hK _ _ ?_); clear hK K)); (with_reducible refine hK _ _ ?_); clear hK K))))
      refine ⟨k + 1, by omega, ?_⟩
      (repeat simp only [push_cast, Nat.reduceBEq, Nat.reduceLT, Nat.reduceEqDiff, reduceIte, reduceCtorEq, Nat.reduceMul, Nat.reduceAdd, Nat.reduceSub, Int.reduceEq, Int.reduceLT, Int.reduceLE, Int.reduceNeg, Int.reduceAdd, Int.reduceSub, Int.reduceMul, Nat.reduceLeDiff, Int.reduceToNat])
      have eL : elsL (l.take (k + 1)) = elsL (l.take k) ++ [bareN (⟨{ zN with kind := 3, name := nmN c, attrs := [atY, atX], space := 0 }, .slice (some ⟨pr, 0, none⟩) 2 2, .slice none 0 0, (some pr), none⟩ : Laid).nd] := by
        rw [List.take_add_one, hc]
        simp only [elsL, Option.toList_some, List.map_append, List.map_cons, List.map_nil, List.cons_append]
        rw [show fmN c = bareN (⟨{ zN with kind := 3, name := nmN c, attrs := [atY, atX], space := 0 }, .slice (some ⟨pr, 0, none⟩) 2 2, .slice none 0 0, (some pr), none⟩ : Laid).nd from by simp [fmN, bareN, atN, hdd, zN]]
      have eA : (addN (elsL (l.take k)) (⟨{ zN with kind := 3, name := nmN c, attrs := [atY, atX], space := 0 }, .slice (some ⟨pr, 0, none⟩) 2 2, .slice none 0 0, (some pr), none⟩ : Laid).nd).1 = elsL (l.take (k + 1)) := by
        rw [eL, addN, if_pos (by rfl), if_neg (fun h => nmN_ne c h.2.2)]
      rw [eA] at hA11
      rw [← eL] at hB12
      have hs12 := hu12.alike.size
      refine ⟨by omega, fun b => (F b ∨ w11.heap.size ≤ b) ∧ b < w12.heap.size, ?_, hB12.mono fun b hb hf => ⟨hf, hb⟩, ?_, ?_, ?_⟩
      · refine hA11.app hu12 (fun b _ hb => ⟨.inl (.inl hb), hF b hb⟩) fun b hb => ?_
        rcases hb with ⟨hb | hb, h2⟩ | rfl
        · exact .inl (.inl (.inl hb))
        · exact .inr ⟨hb, h2⟩
        · exact .inl (.inl (.inr rfl))
      · rintro b ⟨hb | hb, _⟩
        · exact hF b hb
        · have := hA11.ext.alike.size; omega
      · rintro ⟨hb | hb, _⟩
        · exact hFn hb
        · have := blk_lt hp11; omega
      · exact (hu12.same pn (blk_lt hp11) hFn).trans hp11
    by_cases d4 : d = 4
    · subst d4
      have hst : canStore w8 ⟨p8, 3, none⟩ := by rw [can_h, hq8, canO_cells]; simp
      have u10b := Upd.setCell (F := fun b => b = p8) (a := ⟨p8, 3, none⟩) w8 rfl (.int .i64 1)
      have hq10 : (w8.setCell ⟨p8, 3, none⟩ (.int .i64 1)).heap[p8]? = some (.cells #[.int .i64 3, .string (nmN c), .string ⟨#[]⟩, .int .i64 1, .slice none 0 0, .bool false, .int .i64 0, .int .i64 0, .slice none 0 0, .int .i64 0, .int .i64 0] 30 (0, 0)) := by
        rw [heap_set_h, if_pos rfl, hq8]; rfl
      have hx10 : Ext w5 (w8.setCell ⟨p8, 3, none⟩ (.int .i64 1)) := Upd.trans hx9 u10b fun i hi e => by omega
      ((repeat simp only [push_cast, Nat.reduceBEq, Nat.reduceLT, Nat.reduceEqDiff, reduceIte, reduceCtorEq, Nat.reduceMul, Nat.reduceAdd, Nat.reduceSub, Int.reduceEq, Int.reduceLT, Int.reduceLE, Int.reduceNeg, Int.reduceAdd, Int.reduceSub, Int.reduceMul, Nat.reduceLeDiff, Int.reduceToNat, cell_h, cellO_cells, b0, b1, b2, hcl8, hd, hq8, hq9, hp10, hst]); (repeat (first | (with_reducible first | (refine hK _ _ ?_; clear hK K) | refine (show ∀ σ' w', _ → K σ' w' from by assumption) _ _ ?_ | refine W_seq_k fun K hK => ?_ | refine W_block_k fun K hK => ?_ | refine W_skip ?_ | refine W_ret ?_) | ((first | ((with_reducible refine W_id ?_); refine W_reg (by decide) (by rfl) ?_) | (with_reducible first | refine W_cond ?_ | refine hZ _ _ ?_ | refine W_exit ?_ | refine Wo_id ?_)); repeat1' simp only [push_cast, Nat.reduceBEq, Nat.reduceLT, Nat.reduceEqDiff, reduceIte, reduceCtorEq, Nat.reduceMul, Nat.reduceAdd, Nat.reduceSub, Int.reduceEq, Int.reduceLT, Int.reduceLE, Int.reduceNeg, Int.reduceAdd, Int.reduceSub, Int.reduceMul, Nat.reduceLeDiff, Int.reduceToNat, cell_h, cellO_cells, b0, b1, b2, hcl8, hd, hq8, hq9, hp10, hst]) | ((repeat ((fail_if_success with_reducible refine hK _ _ ?_); clear hK K)); (with_reducible refine hK _ _ ?_); clear hK K))))
      generalize w8.setCell ⟨p8, 3, none⟩ (.int .i64 1) = w10 at *
      have hat : SlAt w10 2 (.slice none 0 0) (attrCells []) none := SlAt.nil _ _
      have hbr : ∀ b, (none : Option Nat) = some b → w5.heap.size ≤ b ∧ b < w10.heap.size := fun b hb => by cases hb
      ((repeat simp only [push_cast, Nat.reduceBEq, Nat.reduceLT, Nat.reduceEqDiff, reduceIte, reduceCtorEq, Nat.reduceMul, Nat.reduceAdd, Nat.reduceSub, Int.reduceEq, Int.reduceLT, Int.reduceLE, Int.reduceNeg, Int.reduceAdd, Int.reduceSub, Int.reduceMul, Nat.reduceLeDiff, Int.reduceToNat, cell_h, cellO_cells, hq10]); (repeat (first | (with_reducible first | (refine hK _ _ ?_; clear hK K) | refine (show ∀ σ' w', _ → K σ' w' from by assumption) _ _ ?_ | refine W_seq_k fun K hK => ?_ | refine W_block_k fun K hK => ?_ | refine W_skip ?_ | refine W_ret ?_) | ((first | ((with_reducible refine W_id ?_); refine W_reg (by decide) (by rfl) ?_) | (with_reducible first | refine W_cond ?_ | refine hZ _ _ ?_ | refine W_exit ?_ | refine Wo_id ?_)); repeat1' simp only [push_cast, Nat.reduceBEq, Nat.reduceLT, Nat.reduceEqDiff, reduceIte, reduceCtorEq, Nat.reduceMul, Nat.reduceAdd, Nat.reduceSub, Int.reduceEq, Int.reduceLT, Int.reduceLE, Int.reduceNeg, Int.reduceAdd, Int.reduceSub, Int.reduceMul, Nat.reduceLeDiff, Int.reduceToNat, cell_h, cellO_cells, hq10]) | ((repeat ((fail_if_success with_reducible refine hK _ _ ?_); clear hK K)); (with_reducible refine hK _ _ ?_); clear hK K))))
      have hs10 := hx10.alike.size
      have hP : ∀ b, ((F b ∨ b = pn) ∨ b = p8 ∨ (none : Option Nat) = some b) → (F b ∨ b = pn) ∨ (w5.heap.size ≤ b ∧ b < w10.heap.size) := fun b hb => by
        rcases hb with hb | rfl | hb
        · exact .inl hb
        · exact .inr ⟨by omega, blk_lt hq10⟩
        · exact .inr (hbr b hb)
      have hA10 : At w w10 (fun b => (F b ∨ b = pn) ∨ b = p8 ∨ (none : Option Nat) = some b) pa (elsL (l.take k)) := hA5.guard hx10 hP
      have hB10 := hB5.ext hx10
      have hlen : (elsL (l.take k)).length < 100000 := by simp [elsL]; omega
      refine (add_a hA10 hlen (m := (⟨{ zN with kind := 3, name := nmN c, attrs := [], space := 1 }, .slice none 0 0, .slice none 0 0, (none : Option Nat), none⟩ : Laid)) hat.rd (by simp)).mono ?_
      rintro v w11 ⟨rfl, hA11, hu11⟩
      have hq11 := (hu11.same p8 (blk_lt hq10) (fun h => h.2 (.inr (.inl rfl)))).trans hq10
      have hp11 := (hu11.same pn (blk_lt (hx10.blk hp5)) (fun h => h.2 (.inl (.inr rfl)))).trans (hx10.blk hp5)
      have hB11 := hB10.frame hu11 fun b hb h => h.2 (.inl (.inl hb))
      have hat11 := hat.upd hu11 fun b hb h => h.2 (.inr (.inr hb))
      have hs11 := hu11.alike.size
      ((repeat simp only [push_cast, Nat.reduceBEq, Nat.reduceLT, Nat.reduceEqDiff, reduceIte, reduceCtorEq, Nat.reduceMul, Nat.reduceAdd, Nat.reduceSub, Int.reduceEq, Int.reduceLT, Int.reduceLE, Int.reduceNeg, Int.reduceAdd, Int.reduceSub, Int.reduceMul, Nat.reduceLeDiff, Int.reduceToNat, cell_h, hq11, cellO_cells]); (repeat (first | (with_reducible first | (refine hK _ _ ?_; clear hK K) | refine (show ∀ σ' w', _ → K σ' w' from by assumption) _ _ ?_ | refine W_seq_k fun K hK => ?_ | refine W_block_k fun K hK => ?_ | refine W_skip ?_ | refine W_ret ?_) | ((first | ((with_reducible refine W_id ?_); refine W_reg (by decide) (by rfl) ?_) | (with_reducible first | refine W_cond ?_ | refine hZ _ _ ?_ | refine W_exit ?_ | refine Wo_id ?_)); repeat1' simp only [push_cast, Nat.reduceBEq, Nat.reduceLT, Nat.reduceEqDiff, reduceIte, reduceCtorEq, Nat.reduceMul, Nat.reduceAdd, Nat.reduceSub, Int.reduceEq, Int.reduceLT, Int.reduceLE, Int.reduceNeg, Int.reduceAdd, Int.reduceSub, Int.reduceMul, Nat.reduceLeDiff, Int.reduceToNat, cell_h, hq11, cellO_cells]) | ((repeat ((fail_if_success with_reducible refine hK _ _ ?_); clear hK K)); (with_reducible refine hK _ _ ?_); clear hK K))))
      refine (radd_c hB11 (by omega) (m := (⟨{ zN with kind := 3, name := nmN c, attrs := [], space := 1 }, .slice none 0 0, .slice none 0 0, (none : Option Nat), none⟩ : Laid)) hat11.rd (by simp) rfl (nmN_ne c)).mono ?_
      rintro v w12 ⟨hB12, hu12⟩
      ((repeat simp only [push_cast, Nat.reduceBEq, Nat.reduceLT, Nat.reduceEqDiff, reduceIte, reduceCtorEq, Nat.reduceMul, Nat.reduceAdd, Nat.reduceSub, Int.reduceEq, Int.reduceLT, Int.reduceLE, Int.reduceNeg, Int.reduceAdd, Int.reduceSub, Int.reduceMul, Nat.reduceLeDiff, Int.reduceToNat, b2]); (repeat (first | (with_reducible first | (refine hK _ _ ?_; clear hK K) | refine (show ∀ σ' w', _ → K σ' w' from by assumption) _ _ ?_ | refine W_seq_k fun K hK => ?_ | refine W_block_k fun K hK => ?_ | refine W_skip ?_ | refine W_ret ?_) | ((first | ((with_reducible refine W_id ?_); refine W_reg (by decide) (by rfl) ?_) | (with_reducible first | refine W_cond ?_ | refine hZ _ _ ?_ | refine W_exit ?_ | refine Wo_id ?_)); repeat1' simp only [push_cast, Nat.reduceBEq, Nat.reduceLT, Nat.reduceEqDiff, reduceIte, reduceCtorEq, Nat.reduceMul, Nat.reduceAdd, Nat.reduceSub, Int.reduceEq, Int.reduceLT, Int.reduceLE, Int.reduceNeg, Int.reduceAdd, Int.reduceSub, Int.reduceMul, Nat.reduceLeDiff, Int.reduceToNat, b2]) | ((repeat ((fail_if_success with_reducible refine hK _ _ ?_); clear hK K)); (with_reducible refine hK _ _ ?_); clear hK K))))
      refine ⟨k + 1, by omega, ?_⟩
      (repeat simp only [push_cast, Nat.reduceBEq, Nat.reduceLT, Nat.reduceEqDiff, reduceIte, reduceCtorEq, Nat.reduceMul, Nat.reduceAdd, Nat.reduceSub, Int.reduceEq, Int.reduceLT, Int.reduceLE, Int.reduceNeg, Int.reduceAdd, Int.reduceSub, Int.reduceMul, Nat.reduceLeDiff, Int.reduceToNat])
      have eL : elsL (l.take (k + 1)) = elsL (l.take k) ++ [bareN (⟨{ zN with kind := 3, name := nmN c, attrs := [], space := 1 }, .slice none 0 0, .slice none 0 0, (none : Option Nat), none⟩ : Laid).nd] := by
        rw [List.take_add_one, hc]
        simp only [elsL, Option.toList_some, List.map_append, List.map_cons, List.map_nil, List.cons_append]
        rw [show fmN c = bareN (⟨{ zN with kind := 3, name := nmN c, attrs := [], space := 1 }, .slice none 0 0, .slice none 0 0, (none : Option Nat), none⟩ : Laid).nd from by simp [fmN, bareN, atN, hdd, zN]]
      have eA : (addN (elsL (l.take k)) (⟨{ zN with kind := 3, name := nmN c, attrs := [], space := 1 }, .slice none 0 0, .slice none 0 0, (none : Option Nat), none⟩ : Laid).nd).1 = elsL (l.take (k + 1)) := by
        rw [eL, addN, if_pos (by rfl), if_neg (fun h => nmN_ne c h.2.2)]
      rw [eA] at hA11
      rw [← eL] at hB12
      have hs12 := hu12.alike.size
      refine ⟨by omega, fun b => (F b ∨ w11.heap.size ≤ b) ∧ b < w12.heap.size, ?_, hB12.mono fun b hb hf => ⟨hf, hb⟩, ?_, ?_, ?_⟩
      · refine hA11.app hu12 (fun b _ hb => ⟨.inl (.inl hb), hF b hb⟩) fun b hb => ?_
        rcases hb with ⟨hb | hb, h2⟩ | rfl
        · exact .inl (.inl (.inl hb))
        · exact .inr ⟨hb, h2⟩
        · exact .inl (.inl (.inr rfl))
      · rintro b ⟨hb | hb, _⟩
        · exact hF b hb
        · have := hA11.ext.alike.size; omega
      · rintro ⟨hb | hb, _⟩
        · exact hFn hb
        · have := blk_lt hp11; omega
      · exact (hu12.same pn (blk_lt hp11) hFn).trans hp11
    have e1 : ¬ (d : Int) = 1 := by omega
    have e2 : ¬ (d : Int) = 2 := by omega
    have e3 : ¬ (d : Int) = 3 := by omega
    have e4 : ¬ (d : Int) = 4 := by omega
    ((repeat simp only [push_cast, Nat.reduceBEq, Nat.reduceLT, Nat.reduceEqDiff, reduceIte, reduceCtorEq, Nat.reduceMul, Nat.reduceAdd, Nat.reduceSub, Int.reduceEq, Int.reduceLT, Int.reduceLE, Int.reduceNeg, Int.reduceAdd, Int.reduceSub, Int.reduceMul, Nat.reduceLeDiff, Int.reduceToNat, cell_h, cellO_cells, b0, b1, b2, hcl8, hd, hq8, hq9, hp10, e1, e2, e3, e4]); (repeat (first | (with_reducible first | (refine hK _ _ ?_; clear hK K) | refine (show ∀ σ' w', _ → K σ' w' from by assumption) _ _ ?_ | refine W_seq_k fun K hK => ?_ | refine W_block_k fun K hK => ?_ | refine W_skip ?_ | refine W_ret ?_) | ((first | ((with_reducible refine W_id ?_); refine W_reg (by decide) (by rfl) ?_) | (with_reducible first | refine W_cond ?_ | refine hZ _ _ ?_ | refine W_exit ?_ | refine Wo_id ?_)); repeat1' simp only [push_cast, Nat.reduceBEq, Nat.reduceLT, Nat.reduceEqDiff, reduceIte, reduceCtorEq, Nat.reduceMul, Nat.reduceAdd, Nat.reduceSub, Int.reduceEq, Int.reduceLT, Int.reduceLE, Int.reduceNeg, Int.reduceAdd, Int.reduceSub, Int.reduceMul, Nat.reduceLeDiff, Int.reduceToNat, cell_h, cellO_cells, b0, b1, b2, hcl8, hd, hq8, hq9, hp10, e1, e2, e3, e4]) | ((repeat ((fail_if_success with_reducible refine hK _ _ ?_); clear hK K)); (with_reducible refine hK _ _ ?_); clear hK K))))
    have hq10 := hq8
    have hx10 := hx9
    have hat : SlAt w8 2 (.slice none 0 0) (attrCells []) none := SlAt.nil _ _
    have hbr : ∀ b, (none : Option Nat) = some b → w5.heap.size ≤ b ∧ b < w8.heap.size := fun b hb => by cases hb
    have hs10 := hx10.alike.size
    have hP : ∀ b, ((F b ∨ b = pn) ∨ b = p8 ∨ (none : Option Nat) = some b) → (F b ∨ b = pn) ∨ (w5.heap.size ≤ b ∧ b < w8.heap.size) := fun b hb => by
      rcases hb with hb | rfl | hb
      · exact .inl hb
      · exact .inr ⟨by omega, blk_lt hq10⟩
      · exact .inr (hbr b hb)
    have hA10 : At w w8 (fun b => (F b ∨ b = pn) ∨ b = p8 ∨ (none : Option Nat) = some b) pa (elsL (l.take k)) := hA5.guard hx10 hP
    have hB10 := hB5.ext hx10
    have hlen : (elsL (l.take k)).length < 100000 := by simp [elsL]; omega
    refine (add_a hA10 hlen (m := (⟨{ zN with kind := 3, name := nmN c, attrs := [], space := 0 }, .slice none 0 0, .slice none 0 0, (none : Option Nat), none⟩ : Laid)) hat.rd (by simp)).mono ?_
    rintro v w11 ⟨rfl, hA11, hu11⟩
    have hq11 := (hu11.same p8 (blk_lt hq10) (fun h => h.2 (.inr (.inl rfl)))).trans hq10
    have hp11 := (hu11.same pn (blk_lt (hx10.blk hp5)) (fun h => h.2 (.inl (.inr rfl)))).trans (hx10.blk hp5)
    have hB11 := hB10.frame hu11 fun b hb h => h.2 (.inl (.inl hb))
    have hat11 := hat.upd hu11 fun b hb h => h.2 (.inr (.inr hb))
    have hs11 := hu11.alike.size
    ((repeat simp only [push_cast, Nat.reduceBEq, Nat.reduceLT, Nat.reduceEqDiff, reduceIte, reduceCtorEq, Nat.reduceMul, Nat.reduceAdd, Nat.reduceSub, Int.reduceEq, Int.reduceLT, Int.reduceLE, Int.reduceNeg, Int.reduceAdd, Int.reduceSub, Int.reduceMul, Nat.reduceLeDiff, Int.reduceToNat, cell_h, hq11, cellO_cells]); (repeat (first | (with_reducible first | (refine hK _ _ ?_; clear hK K) | refine (show ∀ σ' w', _ → K σ' w' from by assumption) _ _ ?_ | refine W_seq_k fun K hK => ?_ | refine W_block_k fun K hK => ?_ | refine W_skip ?_ | refine W_ret ?_) | ((first | ((with_reducible refine W_id ?_); refine W_reg (by decide) (by rfl) ?_) | (with_reducible first | refine W_cond ?_ | refine hZ _ _ ?_ | refine W_exit ?_ | refine Wo_id ?_)); repeat1' simp only [push_cast, Nat.reduceBEq, Nat.reduceLT, Nat.reduceEqDiff, reduceIte, reduceCtorEq, Nat.reduceMul, Nat.reduceAdd, Nat.reduceSub, Int.reduceEq, Int.reduceLT, Int.reduceLE, Int.reduceNeg, Int.reduceAdd, Int.reduceSub, Int.reduceMul, Nat.reduceLeDiff, Int.reduceToNat, cell_h, hq11, cellO_cells]) | ((repeat ((fail_if_success with_reducible refine hK _ _ ?_); clear hK K)); (with_reducible refine hK _ _ ?_); clear hK K))))
    refine (radd_c hB11 (by omega) (m := (⟨{ zN with kind := 3, name := nmN c, attrs := [], space := 0 }, .slice none 0 0, .slice none 0 0, (none : Option Nat), none⟩ : Laid)) hat11.rd (by simp) rfl (nmN_ne c)).mono ?_
    rintro v w12 ⟨hB12, hu12⟩
    ((repeat simp only [push_cast, Nat.reduceBEq, Nat.reduceLT, Nat.reduceEqDiff, reduceIte, reduceCtorEq, Nat.reduceMul, Nat.reduceAdd, Nat.reduceSub, Int.reduceEq, Int.reduceLT, Int.reduceLE, Int.reduceNeg, Int.reduceAdd, Int.reduceSub, Int.reduceMul, Nat.reduceLeDiff, Int.reduceToNat, b2]); (repeat (first | (with_reducible first | (refine hK _ _ ?_; clear hK K) | refine (show ∀ σ' w', _ → K σ' w' from by assumption) _ _ ?_ | refine W_seq_k fun K hK => ?_ | refine W_block_k fun K hK => ?_ | refine W_skip ?_ | refine W_ret ?_) | ((first | ((with_reducible refine W_id ?_); refine W_reg (by decide) (by rfl) ?_) | (with_reducible first | refine W_cond ?_ | refine hZ _ _ ?_ | refine W_exit ?_ | refine Wo_id ?_)); repeat1' simp only [push_cast, Nat.reduceBEq, Nat.reduceLT, Nat.reduceEqDiff, reduceIte, reduceCtorEq, Nat.reduceMul, Nat.reduceAdd, Nat.reduceSub, Int.reduceEq, Int.reduceLT, Int.reduceLE, Int.reduceNeg, Int.reduceAdd, Int.reduceSub, Int.reduceMul, Nat.reduceLeDiff, Int.reduceToNat, b2]) | ((repeat ((fail_if_success with_reducible refine hK _ _ ?_); clear hK K)); (with_reducible refine hK _ _ ?_); clear hK K))))
    refine ⟨k + 1, by omega, ?_⟩
    (repeat simp only [push_cast, Nat.reduceBEq, Nat.reduceLT, Nat.reduceEqDiff, reduceIte, reduceCtorEq, Nat.reduceMul, Nat.reduceAdd, Nat.reduceSub, Int.reduceEq, Int.reduceLT, Int.reduceLE, Int.reduceNeg, Int.reduceAdd, Int.reduceSub, Int.reduceMul, Nat.reduceLeDiff, Int.reduceToNat])
    have eL : elsL (l.take (k + 1)) = elsL (l.take k) ++ [bareN (⟨{ zN with kind := 3, name := nmN c, attrs := [], space := 0 }, .slice none 0 0, .slice none 0 0, (none : Option Nat), none⟩ : Laid).nd] := by
      rw [List.take_add_one, hc]
      simp only [elsL, Option.toList_some, List.map_append, List.map_cons, List.map_nil, List.cons_append]
      rw [show fmN c = bareN (⟨{ zN with kind := 3, name := nmN c, attrs := [], space := 0 }, .slice none 0 0, .slice none 0 0, (none : Option Nat), none⟩ : Laid).nd from by simp [fmN, bareN, atN, hdd, zN, d1, d2, d3, d4]]
    have eA : (addN (elsL (l.take k)) (⟨{ zN with kind := 3, name := nmN c, attrs := [], space := 0 }, .slice none 0 0, .slice none 0 0, (none : Option Nat), none⟩ : Laid).nd).1 = elsL (l.take (k + 1)) := by
      rw [eL, addN, if_pos (by rfl), if_neg (fun h => nmN_ne c h.2.2)]
    rw [eA] at hA11
    rw [← eL] at hB12
    have hs12 := hu12.alike.size
    refine ⟨by omega, fun b => (F b ∨ w11.heap.size ≤ b) ∧ b < w12.heap.size, ?_, hB12.mono fun b hb hf => ⟨hf, hb⟩, ?_, ?_, ?_⟩
    · refine hA11.app hu12 (fun b _ hb => ⟨.inl (.inl hb), hF b hb⟩) fun b hb => ?_
      rcases hb with ⟨hb | hb, h2⟩ | rfl
      · exact .inl (.inl (.inl hb))
      · exact .inr ⟨hb, h2⟩
      · exact .inl (.inl (.inr rfl))
    · rintro b ⟨hb | hb, _⟩
      · exact hF b hb
      · have := hA11.ext.alike.size; omega
    · rintro ⟨hb | hb, _⟩
      · exact hFn hb
      · have := blk_lt hp11; omega
    · exact (hu12.same pn (blk_lt hp11) hFn).trans hp11
  · have hke : k = l.length := by omega
    subst hke
    have b0 : ¬ (l.length : Int) < (l.length : Int) := by omega
    (repeat (first | (with_reducible first | (refine hK _ _ ?_; clear hK K) | refine (show ∀ σ' w', _ → K σ' w' from by assumption) _ _ ?_ | refine W_seq_k fun K hK => ?_ | refine W_block_k fun K hK => ?_ | refine W_skip ?_ | refine W_ret ?_) | ((first | ((with_reducible refine W_id ?_); refine W_reg (by decide) (by rfl) ?_) | (with_reducible first | refine W_cond ?_ | refine hZ _ _ ?_ | refine W_exit ?_ | refine Wo_id ?_)); repeat1' simp only [push_cast, Nat.reduceBEq, Nat.reduceLT, Nat.reduceEqDiff, reduceIte, reduceCtorEq, Nat.reduceMul, Nat.reduceAdd, Nat.reduceSub, Int.reduceEq, Int.reduceLT, Int.reduceLE, Int.reduceNeg, Int.reduceAdd, Int.reduceSub, Int.reduceMul, Nat.reduceLeDiff, Int.reduceToNat, b0]) | ((repeat ((fail_if_success with_reducible refine hK _ _ ?_); clear hK K)); (with_reducible refine hK _ _ ?_); clear hK K)))
    rw [List.take_length] at hA5 hB5
    exact ⟨pa, pb, rfl, F, hA5.guard (Ext.refl _) fun b hb => .inl (.inl hb), hB5, hF⟩
end Go.Proofs.Ytkafpameheohdaa
end
section
set_option linter.unusedSimpArgs false
set_option linter.unusedVariables false
namespace Go.Vk
open Go
theorem extract0 {P : Program} (a b : Value) (w : World) (K : Value → World → Prop) : Pure1 P (Instr.extract (.tuple #[a, b]) 0) w K = K a w := Pure1_eq (fun w => by simp [Instr.extract, Sem.run]) w K
theorem extract1 {P : Program} (a b : Value) (w : World) (K : Value → World → Prop) : Pure1 P (Instr.extract (.tuple #[a, b]) 1) w K = K b w := Pure1_eq (fun w => by simp [Instr.extract, Sem.run]) w K
end Go.Vk
namespace Go.Proofs.Ytkafpameheohdaa
open Go Go.Vk
set_option maxHeartbeats 40000000
theorem same_c {va vb : Value} {la lb : List Int} {ba bb : Option Nat} {w : World} (ha : SlAt w 1 va (intCells la) ba) (hb : SlAt w 1 vb (intCells lb) bb) (hl : la.length < 1000000000) :
    Gives Try.prog 38 #[va, vb] w fun v w' => v = .bool (decide (la = lb)) ∧ Ext w w' := by
  obtain ⟨pa, ca, rfl, hca⟩ := ha.ints_len
  obtain ⟨pb, cb, rfl, hcb⟩ := hb.ints_len
  by_cases hlen : la.length = lb.length
  · have n0 : (la.length : Int) = lb.length := by omega
    refine Gives.of_W Try.call38 Try.func38 rfl Try.ntmps38 (by simp) ?_; intro Z hZ
    (repeat (first | (with_reducible first | (refine hK _ _ ?_; clear hK K) | refine (show ∀ σ' w', _ → K σ' w' from by assumption) _ _ ?_ | refine W_seq_k fun K hK => ?_ | refine W_block_k fun K hK => ?_ | refine W_skip ?_ | refine W_ret ?_) | ((first | ((with_reducible refine W_id ?_); refine W_reg (by decide) (by rfl) ?_) | (with_reducible first | refine W_cond ?_ | refine hZ _ _ ?_ | refine W_exit ?_ | refine Wo_id ?_)); repeat1' simp only [push_cast, Nat.reduceBEq, Nat.reduceLT, Nat.reduceEqDiff, reduceIte, reduceCtorEq, Nat.reduceMul, Nat.reduceAdd, Nat.reduceSub, Int.reduceEq, Int.reduceLT, Int.reduceLE, Int.reduceNeg, Int.reduceAdd, Int.reduceSub, Int.reduceMul, Nat.reduceLeDiff, Int.reduceToNat, n0, not_true_eq_false]) | ((repeat ((fail_if_success with_reducible refine hK _ _ ?_); clear hK K)); (with_reducible refine hK _ _ ?_); clear hK K)))
    refine W_loop (S := Nat) (fun k => [(0, .slice pa la.length ca), (1, .slice pb lb.length cb), (5, .int .i64 (k : Int))])
      (fun k w2 => k ≤ la.length ∧ la.take k = lb.take k ∧ Ext w w2) (fun k => la.length - k) 0 ?_ ?_ ?_
    · (repeat simp only [push_cast, Nat.reduceBEq, Nat.reduceLT, Nat.reduceEqDiff, reduceIte, reduceCtorEq, Nat.reduceMul, Nat.reduceAdd, Nat.reduceSub, Int.reduceEq, Int.reduceLT, Int.reduceLE, Int.reduceNeg, Int.reduceAdd, Int.reduceSub, Int.reduceMul, Nat.reduceLeDiff, Int.reduceToNat])
    · exact ⟨by omega, by simp, Ext.refl _⟩
    rintro k w2 ⟨hk, ht, hx⟩
    by_cases hkl : k < la.length
    · obtain ⟨b1, o1, n1, c1, e1, h1⟩ := ha.some_of (by intro e; have := intCells_length la; rw [e] at this; simp at this; omega)
      obtain ⟨b2, o2, n2, c2, e2, h2⟩ := hb.some_of (by intro e; have := intCells_length lb; rw [e] at this; simp at this; omega)
      cases e1; cases e2
      have hka : la[k]? = some la[k] := List.getElem?_eq_getElem hkl
      have hkb : lb[k]? = some (lb[k]'(by omega)) := List.getElem?_eq_getElem (by omega)
      have d1 := ((ha.ext hx).ext (Ext.drew _)).ints_cell hka
      have d2 := ((hb.ext hx).ext (Ext.drew _)).ints_cell hkb
      have b0 : (k : Int) < (la.length : Int) := by omega
      have b1' : (k : Int) < (lb.length : Int) := by omega
      have b2' : (0 : Int) ≤ (k : Int) := by omega
      have b3 : inI64 ((k : Int) + 1) := by unfold inI64; omega
      rcases take_same ht hlen hkl with ⟨e, ht'⟩ | ⟨e, ht'⟩
      · have e' : la[k] = lb[k]'(by omega) := by rw [hka, hkb] at e; exact Option.some.inj e
        rw [← e'] at d2
        generalize la[k] = x at d1 d2
        clear hka hkb
        (repeat (first | (with_reducible first | (refine hK _ _ ?_; clear hK K) | refine (show ∀ σ' w', _ → K σ' w' from by assumption) _ _ ?_ | refine W_seq_k fun K hK => ?_ | refine W_block_k fun K hK => ?_ | refine W_skip ?_ | refine W_ret ?_) | ((first | ((with_reducible refine W_id ?_); refine W_reg (by decide) (by rfl) ?_) | (with_reducible first | refine W_cond ?_ | refine hZ _ _ ?_ | refine W_exit ?_ | refine Wo_id ?_)); repeat1' simp only [push_cast, Nat.reduceBEq, Nat.reduceLT, Nat.reduceEqDiff, reduceIte, reduceCtorEq, Nat.reduceMul, Nat.reduceAdd, Nat.reduceSub, Int.reduceEq, Int.reduceLT, Int.reduceLE, Int.reduceNeg, Int.reduceAdd, Int.reduceSub, Int.reduceMul, Nat.reduceLeDiff, Int.reduceToNat, b0, b1', b2']) | ((repeat ((fail_if_success with_reducible refine hK _ _ ?_); clear hK K)); (with_reducible refine hK _ _ ?_); clear hK K)))
        refine W_draw (.pas 0 (.pas 1 (.pas 2 (.pas 3 (.pas 4 (.pas 5 (.pas 6 (.pas 7 (.pas 8 .fin))))))))) (fun _ => True) (by decide) mixed (by kernel_rfl) ?_
        (repeat (first | ((first | refine pas_plain rfl ?_ | refine pas_g rfl rfl ?_ | refine act_plain rfl ?_ | refine act_g rfl rfl ?_ | refine last_plain rfl ?_ | refine tail_plain rfl ?_ | refine tail_g rfl rfl ?_); (repeat simp only [push_cast, Nat.reduceBEq, Nat.reduceLT, Nat.reduceEqDiff, reduceIte, reduceCtorEq, Nat.reduceMul, Nat.reduceAdd, Nat.reduceSub, Int.reduceEq, Int.reduceLT, Int.reduceLE, Int.reduceNeg, Int.reduceAdd, Int.reduceSub, Int.reduceMul, Nat.reduceLeDiff, Int.reduceToNat, d1, d2, b0, b1', b2', not_true_eq_false])) | (refine tail_fin ?_) | (refine sch_fin ?_)))
        ((repeat simp only [push_cast, Nat.reduceBEq, Nat.reduceLT, Nat.reduceEqDiff, reduceIte, reduceCtorEq, Nat.reduceMul, Nat.reduceAdd, Nat.reduceSub, Int.reduceEq, Int.reduceLT, Int.reduceLE, Int.reduceNeg, Int.reduceAdd, Int.reduceSub, Int.reduceMul, Nat.reduceLeDiff, Int.reduceToNat, b3]); (repeat (first | (with_reducible first | (refine hK _ _ ?_; clear hK K) | refine (show ∀ σ' w', _ → K σ' w' from by assumption) _ _ ?_ | refine W_seq_k fun K hK => ?_ | refine W_block_k fun K hK => ?_ | refine W_skip ?_ | refine W_ret ?_) | ((first | ((with_reducible refine W_id ?_); refine W_reg (by decide) (by rfl) ?_) | (with_reducible first | refine W_cond ?_ | refine hZ _ _ ?_ | refine W_exit ?_ | refine Wo_id ?_)); repeat1' simp only [push_cast, Nat.reduceBEq, Nat.reduceLT, Nat.reduceEqDiff, reduceIte, reduceCtorEq, Nat.reduceMul, Nat.reduceAdd, Nat.reduceSub, Int.reduceEq, Int.reduceLT, Int.reduceLE, Int.reduceNeg, Int.reduceAdd, Int.reduceSub, Int.reduceMul, Nat.reduceLeDiff, Int.reduceToNat, b3]) | ((repeat ((fail_if_success with_reducible refine hK _ _ ?_); clear hK K)); (with_reducible refine hK _ _ ?_); clear hK K))))
        refine ⟨k + 1, by omega, ?_⟩
        (repeat simp only [push_cast, Nat.reduceBEq, Nat.reduceLT, Nat.reduceEqDiff, reduceIte, reduceCtorEq, Nat.reduceMul, Nat.reduceAdd, Nat.reduceSub, Int.reduceEq, Int.reduceLT, Int.reduceLE, Int.reduceNeg, Int.reduceAdd, Int.reduceSub, Int.reduceMul, Nat.reduceLeDiff, Int.reduceToNat])
        exact ⟨by omega, ht', hx.trans (Ext.drew _)⟩
      · have e' : ¬ la[k] = lb[k]'(by omega) := fun e' => e (by rw [hka, hkb, e'])
        generalize la[k] = x at *
        generalize lb[k]'_ = y at *
        clear hka hkb
        (repeat (first | (with_reducible first | (refine hK _ _ ?_; clear hK K) | refine (show ∀ σ' w', _ → K σ' w' from by assumption) _ _ ?_ | refine W_seq_k fun K hK => ?_ | refine W_block_k fun K hK => ?_ | refine W_skip ?_ | refine W_ret ?_) | ((first | ((with_reducible refine W_id ?_); refine W_reg (by decide) (by rfl) ?_) | (with_reducible first | refine W_cond ?_ | refine hZ _ _ ?_ | refine W_exit ?_ | refine Wo_id ?_)); repeat1' simp only [push_cast, Nat.reduceBEq, Nat.reduceLT, Nat.reduceEqDiff, reduceIte, reduceCtorEq, Nat.reduceMul, Nat.reduceAdd, Nat.reduceSub, Int.reduceEq, Int.reduceLT, Int.reduceLE, Int.reduceNeg, Int.reduceAdd, Int.reduceSub, Int.reduceMul, Nat.reduceLeDiff, Int.reduceToNat, b0, b1', b2']) | ((repeat ((fail_if_success with_reducible refine hK _ _ ?_); clear hK K)); (with_reducible refine hK _ _ ?_); clear hK K)))
        refine W_draw (.pas 0 (.pas 1 (.pas 2 (.pas 3 (.pas 4 (.pas 5 (.pas 6 (.pas 7 (.pas 8 .fin))))))))) (fun _ => True) (by decide) mixed (by kernel_rfl) ?_
        (repeat (first | ((first | refine pas_plain rfl ?_ | refine pas_g rfl rfl ?_ | refine act_plain rfl ?_ | refine act_g rfl rfl ?_ | refine last_plain rfl ?_ | refine tail_plain rfl ?_ | refine tail_g rfl rfl ?_); (repeat simp only [push_cast, Nat.reduceBEq, Nat.reduceLT, Nat.reduceEqDiff, reduceIte, reduceCtorEq, Nat.reduceMul, Nat.reduceAdd, Nat.reduceSub, Int.reduceEq, Int.reduceLT, Int.reduceLE, Int.reduceNeg, Int.reduceAdd, Int.reduceSub, Int.reduceMul, Nat.reduceLeDiff, Int.reduceToNat, d1, d2, b0, b1', b2', e', not_false_eq_true])) | (refine tail_fin ?_) | (refine sch_fin ?_)))
        ((repeat simp only [push_cast, Nat.reduceBEq, Nat.reduceLT, Nat.reduceEqDiff, reduceIte, reduceCtorEq, Nat.reduceMul, Nat.reduceAdd, Nat.reduceSub, Int.reduceEq, Int.reduceLT, Int.reduceLE, Int.reduceNeg, Int.reduceAdd, Int.reduceSub, Int.reduceMul, Nat.reduceLeDiff, Int.reduceToNat, b3]); (repeat (first | (with_reducible first | (refine hK _ _ ?_; clear hK K) | refine (show ∀ σ' w', _ → K σ' w' from by assumption) _ _ ?_ | refine W_seq_k fun K hK => ?_ | refine W_block_k fun K hK => ?_ | refine W_skip ?_ | refine W_ret ?_) | ((first | ((with_reducible refine W_id ?_); refine W_reg (by decide) (by rfl) ?_) | (with_reducible first | refine W_cond ?_ | refine hZ _ _ ?_ | refine W_exit ?_ | refine Wo_id ?_)); repeat1' simp only [push_cast, Nat.reduceBEq, Nat.reduceLT, Nat.reduceEqDiff, reduceIte, reduceCtorEq, Nat.reduceMul, Nat.reduceAdd, Nat.reduceSub, Int.reduceEq, Int.reduceLT, Int.reduceLE, Int.reduceNeg, Int.reduceAdd, Int.reduceSub, Int.reduceMul, Nat.reduceLeDiff, Int.reduceToNat, b3]) | ((repeat ((fail_if_success with_reducible refine hK _ _ ?_); clear hK K)); (with_reducible refine hK _ _ ?_); clear hK K))))
        exact ⟨by simp [ht'], hx.trans (Ext.drew _)⟩
    · have hke : k = la.length := by omega
      subst hke
      have hab : la = lb := by
        have h1 := List.take_length (l := la)
        have h2 := List.take_length (l := lb)
        rw [← hlen, ← ht, h1] at h2; exact h2
      have b0 : ¬ (la.length : Int) < (la.length : Int) := by omega
      (repeat (first | (with_reducible first | (refine hK _ _ ?_; clear hK K) | refine (show ∀ σ' w', _ → K σ' w' from by assumption) _ _ ?_ | refine W_seq_k fun K hK => ?_ | refine W_block_k fun K hK => ?_ | refine W_skip ?_ | refine W_ret ?_) | ((first | ((with_reducible refine W_id ?_); refine W_reg (by decide) (by rfl) ?_) | (with_reducible first | refine W_cond ?_ | refine hZ _ _ ?_ | refine W_exit ?_ | refine Wo_id ?_)); repeat1' simp only [push_cast, Nat.reduceBEq, Nat.reduceLT, Nat.reduceEqDiff, reduceIte, reduceCtorEq, Nat.reduceMul, Nat.reduceAdd, Nat.reduceSub, Int.reduceEq, Int.reduceLT, Int.reduceLE, Int.reduceNeg, Int.reduceAdd, Int.reduceSub, Int.reduceMul, Nat.reduceLeDiff, Int.reduceToNat, b0]) | ((repeat ((fail_if_success with_reducible refine hK _ _ ?_); clear hK K)); (with_reducible refine hK _ _ ?_); clear hK K)))
      exact ⟨by simp [hab], hx⟩
  · have n0 : ¬ (la.length : Int) = lb.length := by omega
    have hne : ¬ la = lb := fun e => hlen (by rw [e])
    refine Gives.of_W Try.call38 Try.func38 rfl Try.ntmps38 (by simp) ?_; intro Z hZ
    (repeat (first | (with_reducible first | (refine hK _ _ ?_; clear hK K) | refine (show ∀ σ' w', _ → K σ' w' from by assumption) _ _ ?_ | refine W_seq_k fun K hK => ?_ | refine W_block_k fun K hK => ?_ | refine W_skip ?_ | refine W_ret ?_) | ((first | ((with_reducible refine W_id ?_); refine W_reg (by decide) (by rfl) ?_) | (with_reducible first | refine W_cond ?_ | refine hZ _ _ ?_ | refine W_exit ?_ | refine Wo_id ?_)); repeat1' simp only [push_cast, Nat.reduceBEq, Nat.reduceLT, Nat.reduceEqDiff, reduceIte, reduceCtorEq, Nat.reduceMul, Nat.reduceAdd, Nat.reduceSub, Int.reduceEq, Int.reduceLT, Int.reduceLE, Int.reduceNeg, Int.reduceAdd, Int.reduceSub, Int.reduceMul, Nat.reduceLeDiff, Int.reduceToNat, n0, not_false_eq_true]) | ((repeat ((fail_if_success with_reducible refine hK _ _ ?_); clear hK K)); (with_reducible refine hK _ _ ?_); clear hK K)))
    exact ⟨by simp [hne], Ext.refl _⟩
section
variable {w0 w : World} {Q : Nat → Prop} {pl pa : Nat} {L : List Nd} {l : List Int}
theorem entries_c (h : LsAt w0 w Q pl pa L l) (hl : l.length < 10000) : Gives Try.prog 34 #[.pointer (some ⟨pl, 0, none⟩)] w fun v w' => (∃ bo, SlAt w' 1 v (intCells l) bo ∧ ∀ b, bo = some b → w.heap.size ≤ b) ∧ Ext w w' := by
  refine Gives.of_W Try.call34 Try.func34 rfl Try.ntmps34 (by simp) ?_; intro Z hZ
  (repeat (first | (with_reducible first | (refine hK _ _ ?_; clear hK K) | refine (show ∀ σ' w', _ → K σ' w' from by assumption) _ _ ?_ | refine W_seq_k fun K hK => ?_ | refine W_block_k fun K hK => ?_ | refine W_skip ?_ | refine W_ret ?_) | ((first | ((with_reducible refine W_id ?_); refine W_reg (by decide) (by rfl) ?_) | (with_reducible first | refine W_cond ?_ | refine hZ _ _ ?_ | refine W_exit ?_ | refine Wo_id ?_)); repeat1' simp only [push_cast, Nat.reduceBEq, Nat.reduceLT, Nat.reduceEqDiff, reduceIte, reduceCtorEq, Nat.reduceMul, Nat.reduceAdd, Nat.reduceSub, Int.reduceEq, Int.reduceLT, Int.reduceLE, Int.reduceNeg, Int.reduceAdd, Int.reduceSub, Int.reduceMul, Nat.reduceLeDiff, Int.reduceToNat]) | ((repeat ((fail_if_success with_reducible refine hK _ _ ?_); clear hK K)); (with_reducible refine hK _ _ ?_); clear hK K)))
  refine W_loop (S := Nat × Value) (fun z => [(0, .pointer (some ⟨pl, 0, none⟩)), (3, z.2), (4, .int .i64 (z.1 : Int))])
    (fun z w1 => z.1 ≤ l.length ∧ Ext w w1 ∧ ∃ bo, SlAt w1 1 z.2 (intCells (l.take z.1)) bo ∧ ∀ b, bo = some b → w.heap.size ≤ b) (fun z => l.length - z.1) (0, .slice none 0 0) ?_ ?_ ?_
  · (repeat simp only [push_cast, Nat.reduceBEq, Nat.reduceLT, Nat.reduceEqDiff, reduceIte, reduceCtorEq, Nat.reduceMul, Nat.reduceAdd, Nat.reduceSub, Int.reduceEq, Int.reduceLT, Int.reduceLE, Int.reduceNeg, Int.reduceAdd, Int.reduceSub, Int.reduceMul, Nat.reduceLeDiff, Int.reduceToNat])
  · exact ⟨Nat.zero_le _, Ext.refl _, none, SlAt.nil _ _, fun b hb => by cases hb⟩
  rintro ⟨k, u⟩ w1 ⟨hk, hx, bo, hs, hbo⟩
  dsimp only at hk hs ⊢
  have h1 := h.pass hx
  have h1' := h1
  obtain ⟨lv, bo', hF, _⟩ := h1'
  by_cases hkl : k < l.length
  · have b0 : (k : Int) < (l.length : Int) := by omega
    have b1 : (0 : Int) ≤ (k : Int) := by omega
    have b2 : inI64 ((k : Int) + 1) := by unfold inI64; omega
    have hxk : l[k]? = some l[k] := List.getElem?_eq_getElem hkl
    have hgd : l.getD ((k : Int).toNat) 0 = l[k] := by simp [List.getD, hxk]
    have hat := fat_c h1 k
    rw [if_pos ⟨b1, b0⟩, hgd] at hat
    generalize l[k] = y at *
    (repeat (first | (with_reducible first | (refine hK _ _ ?_; clear hK K) | refine (show ∀ σ' w', _ → K σ' w' from by assumption) _ _ ?_ | refine W_seq_k fun K hK => ?_ | refine W_block_k fun K hK => ?_ | refine W_skip ?_ | refine W_ret ?_) | ((first | ((with_reducible refine W_id ?_); refine W_reg (by decide) (by rfl) ?_) | (with_reducible first | refine W_cond ?_ | refine hZ _ _ ?_ | refine W_exit ?_ | refine Wo_id ?_)); repeat1' simp only [push_cast, Nat.reduceBEq, Nat.reduceLT, Nat.reduceEqDiff, reduceIte, reduceCtorEq, Nat.reduceMul, Nat.reduceAdd, Nat.reduceSub, Int.reduceEq, Int.reduceLT, Int.reduceLE, Int.reduceNeg, Int.reduceAdd, Int.reduceSub, Int.reduceMul, Nat.reduceLeDiff, Int.reduceToNat]) | ((repeat ((fail_if_success with_reducible refine hK _ _ ?_); clear hK K)); (with_reducible refine hK _ _ ?_); clear hK K)))
    refine (flen_c hF).mono ?_
    rintro v w' ⟨rfl, rfl⟩
    ((repeat simp only [push_cast, Nat.reduceBEq, Nat.reduceLT, Nat.reduceEqDiff, reduceIte, reduceCtorEq, Nat.reduceMul, Nat.reduceAdd, Nat.reduceSub, Int.reduceEq, Int.reduceLT, Int.reduceLE, Int.reduceNeg, Int.reduceAdd, Int.reduceSub, Int.reduceMul, Nat.reduceLeDiff, Int.reduceToNat, b0]); (repeat (first | (with_reducible first | (refine hK _ _ ?_; clear hK K) | refine (show ∀ σ' w', _ → K σ' w' from by assumption) _ _ ?_ | refine W_seq_k fun K hK => ?_ | refine W_block_k fun K hK => ?_ | refine W_skip ?_ | refine W_ret ?_) | ((first | ((with_reducible refine W_id ?_); refine W_reg (by decide) (by rfl) ?_) | (with_reducible first | refine W_cond ?_ | refine hZ _ _ ?_ | refine W_exit ?_ | refine Wo_id ?_)); repeat1' simp only [push_cast, Nat.reduceBEq, Nat.reduceLT, Nat.reduceEqDiff, reduceIte, reduceCtorEq, Nat.reduceMul, Nat.reduceAdd, Nat.reduceSub, Int.reduceEq, Int.reduceLT, Int.reduceLE, Int.reduceNeg, Int.reduceAdd, Int.reduceSub, Int.reduceMul, Nat.reduceLeDiff, Int.reduceToNat, b0]) | ((repeat ((fail_if_success with_reducible refine hK _ _ ?_); clear hK K)); (with_reducible refine hK _ _ ?_); clear hK K))))
    refine hat.mono ?_
    rintro v w2 ⟨rfl, hx2⟩
    have hm : decide (((0 : Int) ≤ (k : Int) ∧ (k : Int) < (l.length : Int)) ∧ y = -1) = decide (y = -1) := by simp [b0, b1]
    rw [hm]
    have hbb : (decide (y = -1) == decide (y = -1)) = true := by simp
    ((repeat simp only [push_cast, Nat.reduceBEq, Nat.reduceLT, Nat.reduceEqDiff, reduceIte, reduceCtorEq, Nat.reduceMul, Nat.reduceAdd, Nat.reduceSub, Int.reduceEq, Int.reduceLT, Int.reduceLE, Int.reduceNeg, Int.reduceAdd, Int.reduceSub, Int.reduceMul, Nat.reduceLeDiff, Int.reduceToNat, extract0, extract1, hbb]); (repeat (first | (with_reducible first | (refine hK _ _ ?_; clear hK K) | refine (show ∀ σ' w', _ → K σ' w' from by assumption) _ _ ?_ | refine W_seq_k fun K hK => ?_ | refine W_block_k fun K hK => ?_ | refine W_skip ?_ | refine W_ret ?_) | ((first | ((with_reducible refine W_id ?_); refine W_reg (by decide) (by rfl) ?_) | (with_reducible first | refine W_cond ?_ | refine hZ _ _ ?_ | refine W_exit ?_ | refine Wo_id ?_)); repeat1' simp only [push_cast, Nat.reduceBEq, Nat.reduceLT, Nat.reduceEqDiff, reduceIte, reduceCtorEq, Nat.reduceMul, Nat.reduceAdd, Nat.reduceSub, Int.reduceEq, Int.reduceLT, Int.reduceLE, Int.reduceNeg, Int.reduceAdd, Int.reduceSub, Int.reduceMul, Nat.reduceLeDiff, Int.reduceToNat, extract0, extract1, hbb]) | ((repeat ((fail_if_success with_reducible refine hK _ _ ?_); clear hK K)); (with_reducible refine hK _ _ ?_); clear hK K))))
    refine bs_one sty28 (by decide) (by decide) (v := .int .i64 y) rfl ?_
    ((repeat simp only [push_cast, Nat.reduceBEq, Nat.reduceLT, Nat.reduceEqDiff, reduceIte, reduceCtorEq, Nat.reduceMul, Nat.reduceAdd, Nat.reduceSub, Int.reduceEq, Int.reduceLT, Int.reduceLE, Int.reduceNeg, Int.reduceAdd, Int.reduceSub, Int.reduceMul, Nat.reduceLeDiff, Int.reduceToNat]); (repeat (first | (with_reducible first | (refine hK _ _ ?_; clear hK K) | refine (show ∀ σ' w', _ → K σ' w' from by assumption) _ _ ?_ | refine W_seq_k fun K hK => ?_ | refine W_block_k fun K hK => ?_ | refine W_skip ?_ | refine W_ret ?_) | ((first | ((with_reducible refine W_id ?_); refine W_reg (by decide) (by rfl) ?_) | (with_reducible first | refine W_cond ?_ | refine hZ _ _ ?_ | refine W_exit ?_ | refine Wo_id ?_)); repeat1' simp only [push_cast, Nat.reduceBEq, Nat.reduceLT, Nat.reduceEqDiff, reduceIte, reduceCtorEq, Nat.reduceMul, Nat.reduceAdd, Nat.reduceSub, Int.reduceEq, Int.reduceLT, Int.reduceLE, Int.reduceNeg, Int.reduceAdd, Int.reduceSub, Int.reduceMul, Nat.reduceLeDiff, Int.reduceToNat]) | ((repeat ((fail_if_success with_reducible refine hK _ _ ?_); clear hK K)); (with_reducible refine hK _ _ ?_); clear hK K))))
    have hx3 := Ext.alloc w2 (.cells (Value.int .i64 y).cells 3)
    have hs2 := hs.ext (hx2.trans hx3)
    refine app_to sty28 sty28.und (by decide) hs2 (SlAt.new w2 1 (Value.int .i64 y).cells 3 1 rfl) (by rfl) (by rw [intCells_length]; simp [Value.cells]; omega) ?_
    intro v w4 bo4 g1 g2 g3
    have e : intCells (l.take k) ++ (Value.int .i64 y).cells.toList = intCells (l.take (k + 1)) := by
      rw [List.take_add_one, hxk]; simp [intCells, Value.cells]
    rw [e] at g1
    ((repeat simp only [push_cast, Nat.reduceBEq, Nat.reduceLT, Nat.reduceEqDiff, reduceIte, reduceCtorEq, Nat.reduceMul, Nat.reduceAdd, Nat.reduceSub, Int.reduceEq, Int.reduceLT, Int.reduceLE, Int.reduceNeg, Int.reduceAdd, Int.reduceSub, Int.reduceMul, Nat.reduceLeDiff, Int.reduceToNat, b2]); (repeat (first | (with_reducible first | (refine hK _ _ ?_; clear hK K) | refine (show ∀ σ' w', _ → K σ' w' from by assumption) _ _ ?_ | refine W_seq_k fun K hK => ?_ | refine W_block_k fun K hK => ?_ | refine W_skip ?_ | refine W_ret ?_) | ((first | ((with_reducible refine W_id ?_); refine W_reg (by decide) (by rfl) ?_) | (with_reducible first | refine W_cond ?_ | refine hZ _ _ ?_ | refine W_exit ?_ | refine Wo_id ?_)); repeat1' simp only [push_cast, Nat.reduceBEq, Nat.reduceLT, Nat.reduceEqDiff, reduceIte, reduceCtorEq, Nat.reduceMul, Nat.reduceAdd, Nat.reduceSub, Int.reduceEq, Int.reduceLT, Int.reduceLE, Int.reduceNeg, Int.reduceAdd, Int.reduceSub, Int.reduceMul, Nat.reduceLeDiff, Int.reduceToNat, b2]) | ((repeat ((fail_if_success with_reducible refine hK _ _ ?_); clear hK K)); (with_reducible refine hK _ _ ?_); clear hK K))))
    refine ⟨(k + 1, v), by simp; omega, ?_⟩
    (repeat simp only [push_cast, Nat.reduceBEq, Nat.reduceLT, Nat.reduceEqDiff, reduceIte, reduceCtorEq, Nat.reduceMul, Nat.reduceAdd, Nat.reduceSub, Int.reduceEq, Int.reduceLT, Int.reduceLE, Int.reduceNeg, Int.reduceAdd, Int.reduceSub, Int.reduceMul, Nat.reduceLeDiff, Int.reduceToNat])
    have hx12 := hx.trans (hx2.trans hx3)
    have hsz := hx12.alike.size
    refine ⟨by omega, Upd.trans hx12 g2 fun b hb e => by have := hbo b e; omega, bo4, g1, fun b hb => ?_⟩
    rcases g3 b hb with h2 | h2
    · exact hbo b h2
    · omega
  · have hke : k = l.length := by omega
    subst hke
    have b0 : ¬ (l.length : Int) < (l.length : Int) := by omega
    rw [List.take_length] at hs
    (repeat (first | (with_reducible first | (refine hK _ _ ?_; clear hK K) | refine (show ∀ σ' w', _ → K σ' w' from by assumption) _ _ ?_ | refine W_seq_k fun K hK => ?_ | refine W_block_k fun K hK => ?_ | refine W_skip ?_ | refine W_ret ?_) | ((first | ((with_reducible refine W_id ?_); refine W_reg (by decide) (by rfl) ?_) | (with_reducible first | refine W_cond ?_ | refine hZ _ _ ?_ | refine W_exit ?_ | refine Wo_id ?_)); repeat1' simp only [push_cast, Nat.reduceBEq, Nat.reduceLT, Nat.reduceEqDiff, reduceIte, reduceCtorEq, Nat.reduceMul, Nat.reduceAdd, Nat.reduceSub, Int.reduceEq, Int.reduceLT, Int.reduceLE, Int.reduceNeg, Int.reduceAdd, Int.reduceSub, Int.reduceMul, Nat.reduceLeDiff, Int.reduceToNat]) | ((repeat ((fail_if_success with_reducible refine hK _ _ ?_); clear hK K)); (with_reducible refine hK _ _ ?_); clear hK K)))
    refine (flen_c hF).mono ?_
    rintro v w' ⟨rfl, rfl⟩
    ((repeat simp only [push_cast, Nat.reduceBEq, Nat.reduceLT, Nat.reduceEqDiff, reduceIte, reduceCtorEq, Nat.reduceMul, Nat.reduceAdd, Nat.reduceSub, Int.reduceEq, Int.reduceLT, Int.reduceLE, Int.reduceNeg, Int.reduceAdd, Int.reduceSub, Int.reduceMul, Nat.reduceLeDiff, Int.reduceToNat, b0]); (repeat (first | (with_reducible first | (refine hK _ _ ?_; clear hK K) | refine (show ∀ σ' w', _ → K σ' w' from by assumption) _ _ ?_ | refine W_seq_k fun K hK => ?_ | refine W_block_k fun K hK => ?_ | refine W_skip ?_ | refine W_ret ?_) | ((first | ((with_reducible refine W_id ?_); refine W_reg (by decide) (by rfl) ?_) | (with_reducible first | refine W_cond ?_ | refine hZ _ _ ?_ | refine W_exit ?_ | refine Wo_id ?_)); repeat1' simp only [push_cast, Nat.reduceBEq, Nat.reduceLT, Nat.reduceEqDiff, reduceIte, reduceCtorEq, Nat.reduceMul, Nat.reduceAdd, Nat.reduceSub, Int.reduceEq, Int.reduceLT, Int.reduceLE, Int.reduceNeg, Int.reduceAdd, Int.reduceSub, Int.reduceMul, Nat.reduceLeDiff, Int.reduceToNat, b0]) | ((repeat ((fail_if_success with_reducible refine hK _ _ ?_); clear hK K)); (with_reducible refine hK _ _ ?_); clear hK K))))
    exact ⟨⟨bo, hs, hbo⟩, hx⟩
end
end Go.Proofs.Ytkafpameheohdaa
end
section
set_option linter.unusedSimpArgs false
set_option linter.unusedVariables false
namespace Go.Vk
open Go
def actK : List Nat := [0, 0, 0, 0, 1]
def actI (k : Nat) : Int := [1, 2, 3, 5, 4].getD k 0
def actL (k : Nat) : List Int := [[], [1], [1, 2], [1, 2, 3], [1, 2, 3, 5], [2, 3, 5, 4]].getD k []
theorem els_len (l : List Nat) : (elsL l).length = l.length + 1 := by simp [elsL]
theorem els_attrs (l : List Nat) : ∀ n ∈ elsL l, n.attrs.length < 1000000 := by
  intro n hn
  simp only [elsL, List.mem_cons, List.mem_map] at hn
  rcases hn with rfl | ⟨c, _, rfl⟩
  · decide
  · simp only [fmN, atN]
    split
    · decide
    · split
      · decide
      · split <;> decide
theorem LsAt.out {w0 w : World} {Q : Nat → Prop} {pl pa : Nat} {L : List Nd} {l : List Int} (h : LsAt w0 w Q pl pa L l) : Ext w0 w := by
  obtain ⟨_, _, _, hA, _⟩ := h; exact hA.ext
theorem range5 : Array.range 5 = #[0, 1, 2, 3, 4] := rfl
theorem range6 : Array.range 6 = #[0, 1, 2, 3, 4, 5] := rfl
theorem fill5u (a b c d e : Int) : Instr.fill (fun i => some (i * 1, 1)) ((Array.range (5 * 1)).map ((Value.int .u8 0).cells[· % (Value.int .u8 0).cells.size]!)) [(0, .int .u8 a), (1, .int .u8 b), (2, .int .u8 c), (3, .int .u8 d), (4, .int .u8 e)] = some #[.int .u8 a, .int .u8 b, .int .u8 c, .int .u8 d, .int .u8 e] := by
  rw [show 5 * 1 = 5 from rfl, range5]
  simp [Instr.fill, Value.cells]
theorem fill4i (a b c d : Int) : Instr.fill (fun i => some (i * 1, 1)) ((Array.range (4 * 1)).map ((Value.int .i64 0).cells[· % (Value.int .i64 0).cells.size]!)) [(0, .int .i64 a), (1, .int .i64 b), (2, .int .i64 c), (3, .int .i64 d)] = some #[.int .i64 a, .int .i64 b, .int .i64 c, .int .i64 d] := by
  rw [show 4 * 1 = 4 from rfl, range4]
  simp [Instr.fill, Value.cells]
theorem fill6i (a b c d e f : Int) : Instr.fill (fun i => some (i * 1, 1)) ((Array.range (6 * 1)).map ((Value.int .i64 0).cells[· % (Value.int .i64 0).cells.size]!)) [(0, .int .i64 a), (1, .int .i64 b), (2, .int .i64 c), (3, .int .i64 d), (4, .int .i64 e), (5, .int .i64 f)] = some #[.int .i64 a, .int .i64 b, .int .i64 c, .int .i64 d, .int .i64 e, .int .i64 f] := by
  rw [show 6 * 1 = 6 from rfl, range6]
  simp [Instr.fill, Value.cells]
end Go.Vk
namespace Go.Proofs.Ytkafpameheohdaa
open Go Go.Vk
set_option maxHeartbeats 40000000
theorem sty53 : STy Try.prog 53 5 1 := ⟨Try.underlying53, fun w => by simp [Try.sizeOf5, Sem.run], fun w => ⟨_, by simp [Try.typeInfo5, Sem.run]; rfl, by decide, by decide⟩, fun w => ⟨_, by simp [Try.zeroValue5, Sem.run]; rfl, by decide⟩⟩
theorem act_push : ∀ k : Nat, k < 5 → pushN (elsL actK) (actL k) (actI k) = (actL (k + 1), 0) := by decide +kernel
theorem act_last : lastName (elsL actK) [2, 3, 5, 4] sb_ = 4 := by decide +kernel
theorem act_mark : layN [2, 3, 5, 4] 4 (-1) = ([2, 3, 5, 4, -1], 0) := by decide +kernel
theorem act_last2 : lastName (elsL actK) [2, 3, 5, 4, -1] sb_ = -1 := by decide +kernel
theorem act_push2 : pushN (elsL actK) [2, 3, 5, 4, -1] 1 = ([2, 3, 5, 4, -1, 1], 0) := by decide +kernel
theorem act_push3 : pushN (elsL actK) [2, 3, 5, 4, -1, 1] 0 = ([2, 3, 5, 4, -1, 1], 2) := by decide +kernel
theorem act_clear : clearN [2, 3, 5, 4, -1, 1] (openN [2, 3, 5, 4, -1, 1]) = [2, 3, 5, 4] := by decide +kernel
theorem act_len (k : Nat) (h : k ≤ 5) : (actL k).length < 10000 := by
  have : k = 0 ∨ k = 1 ∨ k = 2 ∨ k = 3 ∨ k = 4 ∨ k = 5 := by omega
  rcases this with rfl | rfl | rfl | rfl | rfl | rfl <;> decide
theorem active_c {w : World} : Gives Try.prog 27 #[] w fun v w' => v = .bool true ∧ Ext w w' := by
  refine Gives.of_W Try.call27 Try.func27 rfl Try.ntmps27 (by simp) ?_; intro Z hZ
  (repeat (first | (with_reducible first | (refine hK _ _ ?_; clear hK K) | refine (show ∀ σ' w', _ → K σ' w' from by assumption) _ _ ?_ | refine W_seq_k fun K hK => ?_ | refine W_block_k fun K hK => ?_ | refine W_skip ?_ | refine W_ret ?_) | ((first | ((with_reducible refine W_id ?_); refine W_reg (by decide) (by rfl) ?_) | (with_reducible first | refine W_cond ?_ | refine hZ _ _ ?_ | refine W_exit ?_ | refine Wo_id ?_)); repeat1' simp only [push_cast, Nat.reduceBEq, Nat.reduceLT, Nat.reduceEqDiff, reduceIte, reduceCtorEq, Nat.reduceMul, Nat.reduceAdd, Nat.reduceSub, Int.reduceEq, Int.reduceLT, Int.reduceLE, Int.reduceNeg, Int.reduceAdd, Int.reduceSub, Int.reduceMul, Nat.reduceLeDiff, Int.reduceToNat]) | ((repeat ((fail_if_success with_reducible refine hK _ _ ?_); clear hK K)); (with_reducible refine hK _ _ ?_); clear hK K)))
  refine bs_of sty53 (n := 5) (by decide) (by decide) Try.zeroValue5 (cs := #[.int .u8 0, .int .u8 0, .int .u8 0, .int .u8 0, .int .u8 1]) (fill5u _ _ _ _ _) ?_
  have hx1 := Ext.alloc w (.cells #[.int .u8 0, .int .u8 0, .int .u8 0, .int .u8 0, .int .u8 1] 5)
  have hk := (SlAt.new w 1 #[.int .u8 0, .int .u8 0, .int .u8 0, .int .u8 0, .int .u8 1] 5 5 rfl).rd
  generalize w.alloc (.cells #[.int .u8 0, .int .u8 0, .int .u8 0, .int .u8 0, .int .u8 1] 5) = w1 at *
  ((repeat simp only [push_cast, Nat.reduceBEq, Nat.reduceLT, Nat.reduceEqDiff, reduceIte, reduceCtorEq, Nat.reduceMul, Nat.reduceAdd, Nat.reduceSub, Int.reduceEq, Int.reduceLT, Int.reduceLE, Int.reduceNeg, Int.reduceAdd, Int.reduceSub, Int.reduceMul, Nat.reduceLeDiff, Int.reduceToNat]); (repeat (first | (with_reducible first | (refine hK _ _ ?_; clear hK K) | refine (show ∀ σ' w', _ → K σ' w' from by assumption) _ _ ?_ | refine W_seq_k fun K hK => ?_ | refine W_block_k fun K hK => ?_ | refine W_skip ?_ | refine W_ret ?_) | ((first | ((with_reducible refine W_id ?_); refine W_reg (by decide) (by rfl) ?_) | (with_reducible first | refine W_cond ?_ | refine hZ _ _ ?_ | refine W_exit ?_ | refine Wo_id ?_)); repeat1' simp only [push_cast, Nat.reduceBEq, Nat.reduceLT, Nat.reduceEqDiff, reduceIte, reduceCtorEq, Nat.reduceMul, Nat.reduceAdd, Nat.reduceSub, Int.reduceEq, Int.reduceLT, Int.reduceLE, Int.reduceNeg, Int.reduceAdd, Int.reduceSub, Int.reduceMul, Nat.reduceLeDiff, Int.reduceToNat]) | ((repeat ((fail_if_success with_reducible refine hK _ _ ?_); clear hK K)); (with_reducible refine hK _ _ ?_); clear hK K))))
  refine (made_c (l := actK) hk (by decide) (by decide)).mono ?_
  rintro v w2 ⟨pa, pb, F, rfl, hA, hB, hF⟩
  ((repeat simp only [push_cast, Nat.reduceBEq, Nat.reduceLT, Nat.reduceEqDiff, reduceIte, reduceCtorEq, Nat.reduceMul, Nat.reduceAdd, Nat.reduceSub, Int.reduceEq, Int.reduceLT, Int.reduceLE, Int.reduceNeg, Int.reduceAdd, Int.reduceSub, Int.reduceMul, Nat.reduceLeDiff, Int.reduceToNat, extract0, extract1]); (repeat (first | (with_reducible first | (refine hK _ _ ?_; clear hK K) | refine (show ∀ σ' w', _ → K σ' w' from by assumption) _ _ ?_ | refine W_seq_k fun K hK => ?_ | refine W_block_k fun K hK => ?_ | refine W_skip ?_ | refine W_ret ?_) | ((first | ((with_reducible refine W_id ?_); refine W_reg (by decide) (by rfl) ?_) | (with_reducible first | refine W_cond ?_ | refine hZ _ _ ?_ | refine W_exit ?_ | refine Wo_id ?_)); repeat1' simp only [push_cast, Nat.reduceBEq, Nat.reduceLT, Nat.reduceEqDiff, reduceIte, reduceCtorEq, Nat.reduceMul, Nat.reduceAdd, Nat.reduceSub, Int.reduceEq, Int.reduceLT, Int.reduceLE, Int.reduceNeg, Int.reduceAdd, Int.reduceSub, Int.reduceMul, Nat.reduceLeDiff, Int.reduceToNat, extract0, extract1]) | ((repeat ((fail_if_success with_reducible refine hK _ _ ?_); clear hK K)); (with_reducible refine hK _ _ ?_); clear hK K))))
  refine (fnew_c hA (by simp [elsL])).mono ?_
  rintro v w3 ⟨pl, rfl, hL, hx3⟩
  ((repeat simp only [push_cast, Nat.reduceBEq, Nat.reduceLT, Nat.reduceEqDiff, reduceIte, reduceCtorEq, Nat.reduceMul, Nat.reduceAdd, Nat.reduceSub, Int.reduceEq, Int.reduceLT, Int.reduceLE, Int.reduceNeg, Int.reduceAdd, Int.reduceSub, Int.reduceMul, Nat.reduceLeDiff, Int.reduceToNat]); (repeat (first | (with_reducible first | (refine hK _ _ ?_; clear hK K) | refine (show ∀ σ' w', _ → K σ' w' from by assumption) _ _ ?_ | refine W_seq_k fun K hK => ?_ | refine W_block_k fun K hK => ?_ | refine W_skip ?_ | refine W_ret ?_) | ((first | ((with_reducible refine W_id ?_); refine W_reg (by decide) (by rfl) ?_) | (with_reducible first | refine W_cond ?_ | refine hZ _ _ ?_ | refine W_exit ?_ | refine Wo_id ?_)); repeat1' simp only [push_cast, Nat.reduceBEq, Nat.reduceLT, Nat.reduceEqDiff, reduceIte, reduceCtorEq, Nat.reduceMul, Nat.reduceAdd, Nat.reduceSub, Int.reduceEq, Int.reduceLT, Int.reduceLE, Int.reduceNeg, Int.reduceAdd, Int.reduceSub, Int.reduceMul, Nat.reduceLeDiff, Int.reduceToNat]) | ((repeat ((fail_if_success with_reducible refine hK _ _ ?_); clear hK K)); (with_reducible refine hK _ _ ?_); clear hK K))))
  refine build_arr Try.zeroValue98 Try.underlying98 Try.sizeOf3 (cs := #[.int .i64 1, .int .i64 2, .int .i64 3, .int .i64 5, .int .i64 4]) (by rfl) ?_
  ((repeat simp only [push_cast, Nat.reduceBEq, Nat.reduceLT, Nat.reduceEqDiff, reduceIte, reduceCtorEq, Nat.reduceMul, Nat.reduceAdd, Nat.reduceSub, Int.reduceEq, Int.reduceLT, Int.reduceLE, Int.reduceNeg, Int.reduceAdd, Int.reduceSub, Int.reduceMul, Nat.reduceLeDiff, Int.reduceToNat]); (repeat (first | (with_reducible first | (refine hK _ _ ?_; clear hK K) | refine (show ∀ σ' w', _ → K σ' w' from by assumption) _ _ ?_ | refine W_seq_k fun K hK => ?_ | refine W_block_k fun K hK => ?_ | refine W_skip ?_ | refine W_ret ?_) | ((first | ((with_reducible refine W_id ?_); refine W_reg (by decide) (by rfl) ?_) | (with_reducible first | refine W_cond ?_ | refine hZ _ _ ?_ | refine W_exit ?_ | refine Wo_id ?_)); repeat1' simp only [push_cast, Nat.reduceBEq, Nat.reduceLT, Nat.reduceEqDiff, reduceIte, reduceCtorEq, Nat.reduceMul, Nat.reduceAdd, Nat.reduceSub, Int.reduceEq, Int.reduceLT, Int.reduceLE, Int.reduceNeg, Int.reduceAdd, Int.reduceSub, Int.reduceMul, Nat.reduceLeDiff, Int.reduceToNat]) | ((repeat ((fail_if_success with_reducible refine hK _ _ ?_); clear hK K)); (with_reducible refine hK _ _ ?_); clear hK K))))
  refine W_loop (S := Nat) (fun k => [(3, .pointer (some ⟨pl, 0, none⟩)), (13, .agg #[.int .i64 1, .int .i64 2, .int .i64 3, .int .i64 5, .int .i64 4]), (14, .int .i64 (k : Int))])
    (fun k w4 => k ≤ 5 ∧ LsAt w1 w4 F pl pa (elsL actK) (actL k)) (fun k => 5 - k) 0 ?_ ?_ ?_
  · (repeat simp only [push_cast, Nat.reduceBEq, Nat.reduceLT, Nat.reduceEqDiff, reduceIte, reduceCtorEq, Nat.reduceMul, Nat.reduceAdd, Nat.reduceSub, Int.reduceEq, Int.reduceLT, Int.reduceLE, Int.reduceNeg, Int.reduceAdd, Int.reduceSub, Int.reduceMul, Nat.reduceLeDiff, Int.reduceToNat])
  · exact ⟨by omega, hL⟩
  rintro k w4 ⟨hk, hL4⟩
  by_cases hk5 : k < 5
  · have b0 : (k : Int) < 5 := by omega
    have b1 : inI64 ((k : Int) + 1) := by unfold inI64; omega
    have hai : ([.int .i64 1, .int .i64 2, .int .i64 3, .int .i64 5, .int .i64 4] : List Value)[((k : Int)).toNat]? = some (.int .i64 (actI k)) := by
      have : k = 0 ∨ k = 1 ∨ k = 2 ∨ k = 3 ∨ k = 4 := by omega
      rcases this with rfl | rfl | rfl | rfl | rfl <;> rfl
    have hidx : ∀ (w : World) (K : Value → World → Prop), Pure1 Try.prog (Instr.index 98 (.agg #[.int .i64 1, .int .i64 2, .int .i64 3, .int .i64 5, .int .i64 4]) (.int .i64 (k : Int))) w K = K (.int .i64 (actI k)) w :=
      agg_index Try.underlying98 Try.underlying3 rfl Try.sizeOf3 (by omega) (by omega) hai
    have hpu := push_c hL4 (by decide) (els_attrs _) (act_len k hk) (actI k)
    rw [act_push k hk5] at hpu
    (repeat (first | (with_reducible first | (refine hK _ _ ?_; clear hK K) | refine (show ∀ σ' w', _ → K σ' w' from by assumption) _ _ ?_ | refine W_seq_k fun K hK => ?_ | refine W_block_k fun K hK => ?_ | refine W_skip ?_ | refine W_ret ?_) | ((first | ((with_reducible refine W_id ?_); refine W_reg (by decide) (by rfl) ?_) | (with_reducible first | refine W_cond ?_ | refine hZ _ _ ?_ | refine W_exit ?_ | refine Wo_id ?_)); repeat1' simp only [push_cast, Nat.reduceBEq, Nat.reduceLT, Nat.reduceEqDiff, reduceIte, reduceCtorEq, Nat.reduceMul, Nat.reduceAdd, Nat.reduceSub, Int.reduceEq, Int.reduceLT, Int.reduceLE, Int.reduceNeg, Int.reduceAdd, Int.reduceSub, Int.reduceMul, Nat.reduceLeDiff, Int.reduceToNat, b0, hidx]) | ((repeat ((fail_if_success with_reducible refine hK _ _ ?_); clear hK K)); (with_reducible refine hK _ _ ?_); clear hK K)))
    refine hpu.mono ?_
    rintro v w5 ⟨rfl, hL5, _⟩
    ((repeat simp only [push_cast, Nat.reduceBEq, Nat.reduceLT, Nat.reduceEqDiff, reduceIte, reduceCtorEq, Nat.reduceMul, Nat.reduceAdd, Nat.reduceSub, Int.reduceEq, Int.reduceLT, Int.reduceLE, Int.reduceNeg, Int.reduceAdd, Int.reduceSub, Int.reduceMul, Nat.reduceLeDiff, Int.reduceToNat, b1, not_true_eq_false, eq_self]); (repeat (first | (with_reducible first | (refine hK _ _ ?_; clear hK K) | refine (show ∀ σ' w', _ → K σ' w' from by assumption) _ _ ?_ | refine W_seq_k fun K hK => ?_ | refine W_block_k fun K hK => ?_ | refine W_skip ?_ | refine W_ret ?_) | ((first | ((with_reducible refine W_id ?_); refine W_reg (by decide) (by rfl) ?_) | (with_reducible first | refine W_cond ?_ | refine hZ _ _ ?_ | refine W_exit ?_ | refine Wo_id ?_)); repeat1' simp only [push_cast, Nat.reduceBEq, Nat.reduceLT, Nat.reduceEqDiff, reduceIte, reduceCtorEq, Nat.reduceMul, Nat.reduceAdd, Nat.reduceSub, Int.reduceEq, Int.reduceLT, Int.reduceLE, Int.reduceNeg, Int.reduceAdd, Int.reduceSub, Int.reduceMul, Nat.reduceLeDiff, Int.reduceToNat, b1, not_true_eq_false, eq_self]) | ((repeat ((fail_if_success with_reducible refine hK _ _ ?_); clear hK K)); (with_reducible refine hK _ _ ?_); clear hK K))))
    refine ⟨k + 1, by omega, ?_⟩
    (repeat simp only [push_cast, Nat.reduceBEq, Nat.reduceLT, Nat.reduceEqDiff, reduceIte, reduceCtorEq, Nat.reduceMul, Nat.reduceAdd, Nat.reduceSub, Int.reduceEq, Int.reduceLT, Int.reduceLE, Int.reduceNeg, Int.reduceAdd, Int.reduceSub, Int.reduceMul, Nat.reduceLeDiff, Int.reduceToNat])
    exact ⟨by omega, hL5⟩
  · have hke : k = 5 := by omega
    subst hke
    have b0 : ¬ ((5 : Nat) : Int) < 5 := by omega
    rw [show actL 5 = [2, 3, 5, 4] from rfl] at hL4
    have hEA := els_attrs actK
    have hEL : (elsL actK).length < 100000 := by decide
    generalize hEQ : elsL actK = EL at *
    have a1 := act_last
    have a2 := act_last2
    have a3 := act_push2
    have a4 := act_push3
    rw [hEQ] at a1 a2 a3 a4
    (repeat (first | (with_reducible first | (refine hK _ _ ?_; clear hK K) | refine (show ∀ σ' w', _ → K σ' w' from by assumption) _ _ ?_ | refine W_seq_k fun K hK => ?_ | refine W_block_k fun K hK => ?_ | refine W_skip ?_ | refine W_ret ?_) | ((first | ((with_reducible refine W_id ?_); refine W_reg (by decide) (by rfl) ?_) | (with_reducible first | refine W_cond ?_ | refine hZ _ _ ?_ | refine W_exit ?_ | refine Wo_id ?_)); repeat1' simp only [push_cast, Nat.reduceBEq, Nat.reduceLT, Nat.reduceEqDiff, reduceIte, reduceCtorEq, Nat.reduceMul, Nat.reduceAdd, Nat.reduceSub, Int.reduceEq, Int.reduceLT, Int.reduceLE, Int.reduceNeg, Int.reduceAdd, Int.reduceSub, Int.reduceMul, Nat.reduceLeDiff, Int.reduceToNat]) | ((repeat ((fail_if_success with_reducible refine hK _ _ ?_); clear hK K)); (with_reducible refine hK _ _ ?_); clear hK K)))
    refine (entries_c hL4 (by decide)).mono ?_
    rintro v wpa ⟨⟨bop, hsp, hbp⟩, hxpa⟩
    have hpa := hL4.pass hxpa
    ((repeat simp only [push_cast, Nat.reduceBEq, Nat.reduceLT, Nat.reduceEqDiff, reduceIte, reduceCtorEq, Nat.reduceMul, Nat.reduceAdd, Nat.reduceSub, Int.reduceEq, Int.reduceLT, Int.reduceLE, Int.reduceNeg, Int.reduceAdd, Int.reduceSub, Int.reduceMul, Nat.reduceLeDiff, Int.reduceToNat]); (repeat (first | (with_reducible first | (refine hK _ _ ?_; clear hK K) | refine (show ∀ σ' w', _ → K σ' w' from by assumption) _ _ ?_ | refine W_seq_k fun K hK => ?_ | refine W_block_k fun K hK => ?_ | refine W_skip ?_ | refine W_ret ?_) | ((first | ((with_reducible refine W_id ?_); refine W_reg (by decide) (by rfl) ?_) | (with_reducible first | refine W_cond ?_ | refine hZ _ _ ?_ | refine W_exit ?_ | refine Wo_id ?_)); repeat1' simp only [push_cast, Nat.reduceBEq, Nat.reduceLT, Nat.reduceEqDiff, reduceIte, reduceCtorEq, Nat.reduceMul, Nat.reduceAdd, Nat.reduceSub, Int.reduceEq, Int.reduceLT, Int.reduceLE, Int.reduceNeg, Int.reduceAdd, Int.reduceSub, Int.reduceMul, Nat.reduceLeDiff, Int.reduceToNat]) | ((repeat ((fail_if_success with_reducible refine hK _ _ ?_); clear hK K)); (with_reducible refine hK _ _ ?_); clear hK K))))
    refine bs_of sty28 (n := 4) (by decide) (by decide) Try.zeroValue3 (cs := #[.int .i64 2, .int .i64 3, .int .i64 5, .int .i64 4]) (fill4i _ _ _ _) ?_
    have hxpb := Ext.alloc wpa (.cells #[.int .i64 2, .int .i64 3, .int .i64 5, .int .i64 4] 3)
    have hnp : SlAt (wpa.alloc (.cells #[.int .i64 2, .int .i64 3, .int .i64 5, .int .i64 4] 3)) 1 _ (intCells [2, 3, 5, 4]) _ := SlAt.new wpa 1 #[.int .i64 2, .int .i64 3, .int .i64 5, .int .i64 4] 3 4 rfl
    have hsp' := hsp.ext hxpb
    have hpb := hpa.pass hxpb
    generalize wpa.alloc (.cells #[.int .i64 2, .int .i64 3, .int .i64 5, .int .i64 4] 3) = wpb at *
    ((repeat simp only [push_cast, Nat.reduceBEq, Nat.reduceLT, Nat.reduceEqDiff, reduceIte, reduceCtorEq, Nat.reduceMul, Nat.reduceAdd, Nat.reduceSub, Int.reduceEq, Int.reduceLT, Int.reduceLE, Int.reduceNeg, Int.reduceAdd, Int.reduceSub, Int.reduceMul, Nat.reduceLeDiff, Int.reduceToNat]); (repeat (first | (with_reducible first | (refine hK _ _ ?_; clear hK K) | refine (show ∀ σ' w', _ → K σ' w' from by assumption) _ _ ?_ | refine W_seq_k fun K hK => ?_ | refine W_block_k fun K hK => ?_ | refine W_skip ?_ | refine W_ret ?_) | ((first | ((with_reducible refine W_id ?_); refine W_reg (by decide) (by rfl) ?_) | (with_reducible first | refine W_cond ?_ | refine hZ _ _ ?_ | refine W_exit ?_ | refine Wo_id ?_)); repeat1' simp only [push_cast, Nat.reduceBEq, Nat.reduceLT, Nat.reduceEqDiff, reduceIte, reduceCtorEq, Nat.reduceMul, Nat.reduceAdd, Nat.reduceSub, Int.reduceEq, Int.reduceLT, Int.reduceLE, Int.reduceNeg, Int.reduceAdd, Int.reduceSub, Int.reduceMul, Nat.reduceLeDiff, Int.reduceToNat]) | ((repeat ((fail_if_success with_reducible refine hK _ _ ?_); clear hK K)); (with_reducible refine hK _ _ ?_); clear hK K))))
    refine (same_c (la := [2, 3, 5, 4]) (lb := [2, 3, 5, 4]) hsp' hnp (by decide)).mono ?_
    rintro v wpc ⟨rfl, hxpc⟩
    rw [show decide (([2, 3, 5, 4] : List Int) = [2, 3, 5, 4]) = true from by decide]
    have hpc := hpb.pass hxpc
    ((repeat simp only [push_cast, Nat.reduceBEq, Nat.reduceLT, Nat.reduceEqDiff, reduceIte, reduceCtorEq, Nat.reduceMul, Nat.reduceAdd, Nat.reduceSub, Int.reduceEq, Int.reduceLT, Int.reduceLE, Int.reduceNeg, Int.reduceAdd, Int.reduceSub, Int.reduceMul, Nat.reduceLeDiff, Int.reduceToNat, not_true_eq_false, eq_self]); (repeat (first | (with_reducible first | (refine hK _ _ ?_; clear hK K) | refine (show ∀ σ' w', _ → K σ' w' from by assumption) _ _ ?_ | refine W_seq_k fun K hK => ?_ | refine W_block_k fun K hK => ?_ | refine W_skip ?_ | refine W_ret ?_) | ((first | ((with_reducible refine W_id ?_); refine W_reg (by decide) (by rfl) ?_) | (with_reducible first | refine W_cond ?_ | refine hZ _ _ ?_ | refine W_exit ?_ | refine Wo_id ?_)); repeat1' simp only [push_cast, Nat.reduceBEq, Nat.reduceLT, Nat.reduceEqDiff, reduceIte, reduceCtorEq, Nat.reduceMul, Nat.reduceAdd, Nat.reduceSub, Int.reduceEq, Int.reduceLT, Int.reduceLE, Int.reduceNeg, Int.reduceAdd, Int.reduceSub, Int.reduceMul, Nat.reduceLeDiff, Int.reduceToNat, not_true_eq_false, eq_self]) | ((repeat ((fail_if_success with_reducible refine hK _ _ ?_); clear hK K)); (with_reducible refine hK _ _ ?_); clear hK K))))
    refine (flast_c hpc hEL hEA (by decide) sb_).mono ?_
    rintro v w5 ⟨rfl, hx5⟩
    rw [a1]
    have h5 := hpc.pass hx5
    ((repeat simp only [push_cast, Nat.reduceBEq, Nat.reduceLT, Nat.reduceEqDiff, reduceIte, reduceCtorEq, Nat.reduceMul, Nat.reduceAdd, Nat.reduceSub, Int.reduceEq, Int.reduceLT, Int.reduceLE, Int.reduceNeg, Int.reduceAdd, Int.reduceSub, Int.reduceMul, Nat.reduceLeDiff, Int.reduceToNat, not_true_eq_false, eq_self]); (repeat (first | (with_reducible first | (refine hK _ _ ?_; clear hK K) | refine (show ∀ σ' w', _ → K σ' w' from by assumption) _ _ ?_ | refine W_seq_k fun K hK => ?_ | refine W_block_k fun K hK => ?_ | refine W_skip ?_ | refine W_ret ?_) | ((first | ((with_reducible refine W_id ?_); refine W_reg (by decide) (by rfl) ?_) | (with_reducible first | refine W_cond ?_ | refine hZ _ _ ?_ | refine W_exit ?_ | refine Wo_id ?_)); repeat1' simp only [push_cast, Nat.reduceBEq, Nat.reduceLT, Nat.reduceEqDiff, reduceIte, reduceCtorEq, Nat.reduceMul, Nat.reduceAdd, Nat.reduceSub, Int.reduceEq, Int.reduceLT, Int.reduceLE, Int.reduceNeg, Int.reduceAdd, Int.reduceSub, Int.reduceMul, Nat.reduceLeDiff, Int.reduceToNat, not_true_eq_false, eq_self]) | ((repeat ((fail_if_success with_reducible refine hK _ _ ?_); clear hK K)); (with_reducible refine hK _ _ ?_); clear hK K))))
    refine (mark_c h5 (by decide)).mono ?_
    rintro v w6 ⟨rfl, h6, _⟩
    rw [show layN [2, 3, 5, 4] ([2, 3, 5, 4] : List Int).length (-1) = ([2, 3, 5, 4, -1], 0) from act_mark] at h6 ⊢
    ((repeat simp only [push_cast, Nat.reduceBEq, Nat.reduceLT, Nat.reduceEqDiff, reduceIte, reduceCtorEq, Nat.reduceMul, Nat.reduceAdd, Nat.reduceSub, Int.reduceEq, Int.reduceLT, Int.reduceLE, Int.reduceNeg, Int.reduceAdd, Int.reduceSub, Int.reduceMul, Nat.reduceLeDiff, Int.reduceToNat, not_true_eq_false, eq_self]); (repeat (first | (with_reducible first | (refine hK _ _ ?_; clear hK K) | refine (show ∀ σ' w', _ → K σ' w' from by assumption) _ _ ?_ | refine W_seq_k fun K hK => ?_ | refine W_block_k fun K hK => ?_ | refine W_skip ?_ | refine W_ret ?_) | ((first | ((with_reducible refine W_id ?_); refine W_reg (by decide) (by rfl) ?_) | (with_reducible first | refine W_cond ?_ | refine hZ _ _ ?_ | refine W_exit ?_ | refine Wo_id ?_)); repeat1' simp only [push_cast, Nat.reduceBEq, Nat.reduceLT, Nat.reduceEqDiff, reduceIte, reduceCtorEq, Nat.reduceMul, Nat.reduceAdd, Nat.reduceSub, Int.reduceEq, Int.reduceLT, Int.reduceLE, Int.reduceNeg, Int.reduceAdd, Int.reduceSub, Int.reduceMul, Nat.reduceLeDiff, Int.reduceToNat, not_true_eq_false, eq_self]) | ((repeat ((fail_if_success with_reducible refine hK _ _ ?_); clear hK K)); (with_reducible refine hK _ _ ?_); clear hK K))))
    refine (flast_c h6 hEL hEA (by decide) sb_).mono ?_
    rintro v w7 ⟨rfl, hx7⟩
    rw [a2]
    have h7 := h6.pass hx7
    ((repeat simp only [push_cast, Nat.reduceBEq, Nat.reduceLT, Nat.reduceEqDiff, reduceIte, reduceCtorEq, Nat.reduceMul, Nat.reduceAdd, Nat.reduceSub, Int.reduceEq, Int.reduceLT, Int.reduceLE, Int.reduceNeg, Int.reduceAdd, Int.reduceSub, Int.reduceMul, Nat.reduceLeDiff, Int.reduceToNat, not_true_eq_false, eq_self]); (repeat (first | (with_reducible first | (refine hK _ _ ?_; clear hK K) | refine (show ∀ σ' w', _ → K σ' w' from by assumption) _ _ ?_ | refine W_seq_k fun K hK => ?_ | refine W_block_k fun K hK => ?_ | refine W_skip ?_ | refine W_ret ?_) | ((first | ((with_reducible refine W_id ?_); refine W_reg (by decide) (by rfl) ?_) | (with_reducible first | refine W_cond ?_ | refine hZ _ _ ?_ | refine W_exit ?_ | refine Wo_id ?_)); repeat1' simp only [push_cast, Nat.reduceBEq, Nat.reduceLT, Nat.reduceEqDiff, reduceIte, reduceCtorEq, Nat.reduceMul, Nat.reduceAdd, Nat.reduceSub, Int.reduceEq, Int.reduceLT, Int.reduceLE, Int.reduceNeg, Int.reduceAdd, Int.reduceSub, Int.reduceMul, Nat.reduceLeDiff, Int.reduceToNat, not_true_eq_false, eq_self]) | ((repeat ((fail_if_success with_reducible refine hK _ _ ?_); clear hK K)); (with_reducible refine hK _ _ ?_); clear hK K))))
    refine (push_c h7 hEL hEA (by decide) 1).mono ?_
    rintro v w8 ⟨rfl, h8, _⟩
    rw [a3] at h8 ⊢
    ((repeat simp only [push_cast, Nat.reduceBEq, Nat.reduceLT, Nat.reduceEqDiff, reduceIte, reduceCtorEq, Nat.reduceMul, Nat.reduceAdd, Nat.reduceSub, Int.reduceEq, Int.reduceLT, Int.reduceLE, Int.reduceNeg, Int.reduceAdd, Int.reduceSub, Int.reduceMul, Nat.reduceLeDiff, Int.reduceToNat, not_true_eq_false, eq_self]); (repeat (first | (with_reducible first | (refine hK _ _ ?_; clear hK K) | refine (show ∀ σ' w', _ → K σ' w' from by assumption) _ _ ?_ | refine W_seq_k fun K hK => ?_ | refine W_block_k fun K hK => ?_ | refine W_skip ?_ | refine W_ret ?_) | ((first | ((with_reducible refine W_id ?_); refine W_reg (by decide) (by rfl) ?_) | (with_reducible first | refine W_cond ?_ | refine hZ _ _ ?_ | refine W_exit ?_ | refine Wo_id ?_)); repeat1' simp only [push_cast, Nat.reduceBEq, Nat.reduceLT, Nat.reduceEqDiff, reduceIte, reduceCtorEq, Nat.reduceMul, Nat.reduceAdd, Nat.reduceSub, Int.reduceEq, Int.reduceLT, Int.reduceLE, Int.reduceNeg, Int.reduceAdd, Int.reduceSub, Int.reduceMul, Nat.reduceLeDiff, Int.reduceToNat, not_true_eq_false, eq_self]) | ((repeat ((fail_if_success with_reducible refine hK _ _ ?_); clear hK K)); (with_reducible refine hK _ _ ?_); clear hK K))))
    refine (entries_c h8 (by decide)).mono ?_
    rintro v wqa ⟨⟨boq, hsq, hbq⟩, hxqa⟩
    have hqa := h8.pass hxqa
    ((repeat simp only [push_cast, Nat.reduceBEq, Nat.reduceLT, Nat.reduceEqDiff, reduceIte, reduceCtorEq, Nat.reduceMul, Nat.reduceAdd, Nat.reduceSub, Int.reduceEq, Int.reduceLT, Int.reduceLE, Int.reduceNeg, Int.reduceAdd, Int.reduceSub, Int.reduceMul, Nat.reduceLeDiff, Int.reduceToNat]); (repeat (first | (with_reducible first | (refine hK _ _ ?_; clear hK K) | refine (show ∀ σ' w', _ → K σ' w' from by assumption) _ _ ?_ | refine W_seq_k fun K hK => ?_ | refine W_block_k fun K hK => ?_ | refine W_skip ?_ | refine W_ret ?_) | ((first | ((with_reducible refine W_id ?_); refine W_reg (by decide) (by rfl) ?_) | (with_reducible first | refine W_cond ?_ | refine hZ _ _ ?_ | refine W_exit ?_ | refine Wo_id ?_)); repeat1' simp only [push_cast, Nat.reduceBEq, Nat.reduceLT, Nat.reduceEqDiff, reduceIte, reduceCtorEq, Nat.reduceMul, Nat.reduceAdd, Nat.reduceSub, Int.reduceEq, Int.reduceLT, Int.reduceLE, Int.reduceNeg, Int.reduceAdd, Int.reduceSub, Int.reduceMul, Nat.reduceLeDiff, Int.reduceToNat]) | ((repeat ((fail_if_success with_reducible refine hK _ _ ?_); clear hK K)); (with_reducible refine hK _ _ ?_); clear hK K))))
    refine bs_of sty28 (n := 6) (by decide) (by decide) Try.zeroValue3 (cs := #[.int .i64 2, .int .i64 3, .int .i64 5, .int .i64 4, .int .i64 (-1), .int .i64 1]) (fill6i _ _ _ _ _ _) ?_
    have hxqb := Ext.alloc wqa (.cells #[.int .i64 2, .int .i64 3, .int .i64 5, .int .i64 4, .int .i64 (-1), .int .i64 1] 3)
    have hnq : SlAt (wqa.alloc (.cells #[.int .i64 2, .int .i64 3, .int .i64 5, .int .i64 4, .int .i64 (-1), .int .i64 1] 3)) 1 _ (intCells [2, 3, 5, 4, -1, 1]) _ := SlAt.new wqa 1 #[.int .i64 2, .int .i64 3, .int .i64 5, .int .i64 4, .int .i64 (-1), .int .i64 1] 3 6 rfl
    have hsq' := hsq.ext hxqb
    have hqb := hqa.pass hxqb
    generalize wqa.alloc (.cells #[.int .i64 2, .int .i64 3, .int .i64 5, .int .i64 4, .int .i64 (-1), .int .i64 1] 3) = wqb at *
    ((repeat simp only [push_cast, Nat.reduceBEq, Nat.reduceLT, Nat.reduceEqDiff, reduceIte, reduceCtorEq, Nat.reduceMul, Nat.reduceAdd, Nat.reduceSub, Int.reduceEq, Int.reduceLT, Int.reduceLE, Int.reduceNeg, Int.reduceAdd, Int.reduceSub, Int.reduceMul, Nat.reduceLeDiff, Int.reduceToNat]); (repeat (first | (with_reducible first | (refine hK _ _ ?_; clear hK K) | refine (show ∀ σ' w', _ → K σ' w' from by assumption) _ _ ?_ | refine W_seq_k fun K hK => ?_ | refine W_block_k fun K hK => ?_ | refine W_skip ?_ | refine W_ret ?_) | ((first | ((with_reducible refine W_id ?_); refine W_reg (by decide) (by rfl) ?_) | (with_reducible first | refine W_cond ?_ | refine hZ _ _ ?_ | refine W_exit ?_ | refine Wo_id ?_)); repeat1' simp only [push_cast, Nat.reduceBEq, Nat.reduceLT, Nat.reduceEqDiff, reduceIte, reduceCtorEq, Nat.reduceMul, Nat.reduceAdd, Nat.reduceSub, Int.reduceEq, Int.reduceLT, Int.reduceLE, Int.reduceNeg, Int.reduceAdd, Int.reduceSub, Int.reduceMul, Nat.reduceLeDiff, Int.reduceToNat]) | ((repeat ((fail_if_success with_reducible refine hK _ _ ?_); clear hK K)); (with_reducible refine hK _ _ ?_); clear hK K))))
    refine (same_c (la := [2, 3, 5, 4, -1, 1]) (lb := [2, 3, 5, 4, -1, 1]) hsq' hnq (by decide)).mono ?_
    rintro v wqc ⟨rfl, hxqc⟩
    rw [show decide (([2, 3, 5, 4, -1, 1] : List Int) = [2, 3, 5, 4, -1, 1]) = true from by decide]
    have hqc := hqb.pass hxqc
    ((repeat simp only [push_cast, Nat.reduceBEq, Nat.reduceLT, Nat.reduceEqDiff, reduceIte, reduceCtorEq, Nat.reduceMul, Nat.reduceAdd, Nat.reduceSub, Int.reduceEq, Int.reduceLT, Int.reduceLE, Int.reduceNeg, Int.reduceAdd, Int.reduceSub, Int.reduceMul, Nat.reduceLeDiff, Int.reduceToNat, not_true_eq_false, eq_self]); (repeat (first | (with_reducible first | (refine hK _ _ ?_; clear hK K) | refine (show ∀ σ' w', _ → K σ' w' from by assumption) _ _ ?_ | refine W_seq_k fun K hK => ?_ | refine W_block_k fun K hK => ?_ | refine W_skip ?_ | refine W_ret ?_) | ((first | ((with_reducible refine W_id ?_); refine W_reg (by decide) (by rfl) ?_) | (with_reducible first | refine W_cond ?_ | refine hZ _ _ ?_ | refine W_exit ?_ | refine Wo_id ?_)); repeat1' simp only [push_cast, Nat.reduceBEq, Nat.reduceLT, Nat.reduceEqDiff, reduceIte, reduceCtorEq, Nat.reduceMul, Nat.reduceAdd, Nat.reduceSub, Int.reduceEq, Int.reduceLT, Int.reduceLE, Int.reduceNeg, Int.reduceAdd, Int.reduceSub, Int.reduceMul, Nat.reduceLeDiff, Int.reduceToNat, not_true_eq_false, eq_self]) | ((repeat ((fail_if_success with_reducible refine hK _ _ ?_); clear hK K)); (with_reducible refine hK _ _ ?_); clear hK K))))
    refine (push_c hqc hEL hEA (by decide) 0).mono ?_
    rintro v w9 ⟨rfl, h9, _⟩
    rw [a4] at h9 ⊢
    ((repeat simp only [push_cast, Nat.reduceBEq, Nat.reduceLT, Nat.reduceEqDiff, reduceIte, reduceCtorEq, Nat.reduceMul, Nat.reduceAdd, Nat.reduceSub, Int.reduceEq, Int.reduceLT, Int.reduceLE, Int.reduceNeg, Int.reduceAdd, Int.reduceSub, Int.reduceMul, Nat.reduceLeDiff, Int.reduceToNat, not_true_eq_false, eq_self]); (repeat (first | (with_reducible first | (refine hK _ _ ?_; clear hK K) | refine (show ∀ σ' w', _ → K σ' w' from by assumption) _ _ ?_ | refine W_seq_k fun K hK => ?_ | refine W_block_k fun K hK => ?_ | refine W_skip ?_ | refine W_ret ?_) | ((first | ((with_reducible refine W_id ?_); refine W_reg (by decide) (by rfl) ?_) | (with_reducible first | refine W_cond ?_ | refine hZ _ _ ?_ | refine W_exit ?_ | refine Wo_id ?_)); repeat1' simp only [push_cast, Nat.reduceBEq, Nat.reduceLT, Nat.reduceEqDiff, reduceIte, reduceCtorEq, Nat.reduceMul, Nat.reduceAdd, Nat.reduceSub, Int.reduceEq, Int.reduceLT, Int.reduceLE, Int.reduceNeg, Int.reduceAdd, Int.reduceSub, Int.reduceMul, Nat.reduceLeDiff, Int.reduceToNat, not_true_eq_false, eq_self]) | ((repeat ((fail_if_success with_reducible refine hK _ _ ?_); clear hK K)); (with_reducible refine hK _ _ ?_); clear hK K))))
    refine (clear_c h9 (by decide)).mono ?_
    rintro v w10 ⟨h10, _⟩
    rw [act_clear] at h10
    ((repeat simp only [push_cast, Nat.reduceBEq, Nat.reduceLT, Nat.reduceEqDiff, reduceIte, reduceCtorEq, Nat.reduceMul, Nat.reduceAdd, Nat.reduceSub, Int.reduceEq, Int.reduceLT, Int.reduceLE, Int.reduceNeg, Int.reduceAdd, Int.reduceSub, Int.reduceMul, Nat.reduceLeDiff, Int.reduceToNat]); (repeat (first | (with_reducible first | (refine hK _ _ ?_; clear hK K) | refine (show ∀ σ' w', _ → K σ' w' from by assumption) _ _ ?_ | refine W_seq_k fun K hK => ?_ | refine W_block_k fun K hK => ?_ | refine W_skip ?_ | refine W_ret ?_) | ((first | ((with_reducible refine W_id ?_); refine W_reg (by decide) (by rfl) ?_) | (with_reducible first | refine W_cond ?_ | refine hZ _ _ ?_ | refine W_exit ?_ | refine Wo_id ?_)); repeat1' simp only [push_cast, Nat.reduceBEq, Nat.reduceLT, Nat.reduceEqDiff, reduceIte, reduceCtorEq, Nat.reduceMul, Nat.reduceAdd, Nat.reduceSub, Int.reduceEq, Int.reduceLT, Int.reduceLE, Int.reduceNeg, Int.reduceAdd, Int.reduceSub, Int.reduceMul, Nat.reduceLeDiff, Int.reduceToNat]) | ((repeat ((fail_if_success with_reducible refine hK _ _ ?_); clear hK K)); (with_reducible refine hK _ _ ?_); clear hK K))))
    refine (entries_c h10 (by decide)).mono ?_
    rintro v wra ⟨⟨bor, hsr, hbr⟩, hxra⟩
    have hra := h10.pass hxra
    ((repeat simp only [push_cast, Nat.reduceBEq, Nat.reduceLT, Nat.reduceEqDiff, reduceIte, reduceCtorEq, Nat.reduceMul, Nat.reduceAdd, Nat.reduceSub, Int.reduceEq, Int.reduceLT, Int.reduceLE, Int.reduceNeg, Int.reduceAdd, Int.reduceSub, Int.reduceMul, Nat.reduceLeDiff, Int.reduceToNat]); (repeat (first | (with_reducible first | (refine hK _ _ ?_; clear hK K) | refine (show ∀ σ' w', _ → K σ' w' from by assumption) _ _ ?_ | refine W_seq_k fun K hK => ?_ | refine W_block_k fun K hK => ?_ | refine W_skip ?_ | refine W_ret ?_) | ((first | ((with_reducible refine W_id ?_); refine W_reg (by decide) (by rfl) ?_) | (with_reducible first | refine W_cond ?_ | refine hZ _ _ ?_ | refine W_exit ?_ | refine Wo_id ?_)); repeat1' simp only [push_cast, Nat.reduceBEq, Nat.reduceLT, Nat.reduceEqDiff, reduceIte, reduceCtorEq, Nat.reduceMul, Nat.reduceAdd, Nat.reduceSub, Int.reduceEq, Int.reduceLT, Int.reduceLE, Int.reduceNeg, Int.reduceAdd, Int.reduceSub, Int.reduceMul, Nat.reduceLeDiff, Int.reduceToNat]) | ((repeat ((fail_if_success with_reducible refine hK _ _ ?_); clear hK K)); (with_reducible refine hK _ _ ?_); clear hK K))))
    refine bs_of sty28 (n := 4) (by decide) (by decide) Try.zeroValue3 (cs := #[.int .i64 2, .int .i64 3, .int .i64 5, .int .i64 4]) (fill4i _ _ _ _) ?_
    have hxrb := Ext.alloc wra (.cells #[.int .i64 2, .int .i64 3, .int .i64 5, .int .i64 4] 3)
    have hnr : SlAt (wra.alloc (.cells #[.int .i64 2, .int .i64 3, .int .i64 5, .int .i64 4] 3)) 1 _ (intCells [2, 3, 5, 4]) _ := SlAt.new wra 1 #[.int .i64 2, .int .i64 3, .int .i64 5, .int .i64 4] 3 4 rfl
    have hsr' := hsr.ext hxrb
    have hrb := hra.pass hxrb
    generalize wra.alloc (.cells #[.int .i64 2, .int .i64 3, .int .i64 5, .int .i64 4] 3) = wrb at *
    ((repeat simp only [push_cast, Nat.reduceBEq, Nat.reduceLT, Nat.reduceEqDiff, reduceIte, reduceCtorEq, Nat.reduceMul, Nat.reduceAdd, Nat.reduceSub, Int.reduceEq, Int.reduceLT, Int.reduceLE, Int.reduceNeg, Int.reduceAdd, Int.reduceSub, Int.reduceMul, Nat.reduceLeDiff, Int.reduceToNat]); (repeat (first | (with_reducible first | (refine hK _ _ ?_; clear hK K) | refine (show ∀ σ' w', _ → K σ' w' from by assumption) _ _ ?_ | refine W_seq_k fun K hK => ?_ | refine W_block_k fun K hK => ?_ | refine W_skip ?_ | refine W_ret ?_) | ((first | ((with_reducible refine W_id ?_); refine W_reg (by decide) (by rfl) ?_) | (with_reducible first | refine W_cond ?_ | refine hZ _ _ ?_ | refine W_exit ?_ | refine Wo_id ?_)); repeat1' simp only [push_cast, Nat.reduceBEq, Nat.reduceLT, Nat.reduceEqDiff, reduceIte, reduceCtorEq, Nat.reduceMul, Nat.reduceAdd, Nat.reduceSub, Int.reduceEq, Int.reduceLT, Int.reduceLE, Int.reduceNeg, Int.reduceAdd, Int.reduceSub, Int.reduceMul, Nat.reduceLeDiff, Int.reduceToNat]) | ((repeat ((fail_if_success with_reducible refine hK _ _ ?_); clear hK K)); (with_reducible refine hK _ _ ?_); clear hK K))))
    refine (same_c (la := [2, 3, 5, 4]) (lb := [2, 3, 5, 4]) hsr' hnr (by decide)).mono ?_
    rintro v wrc ⟨rfl, hxrc⟩
    rw [show decide (([2, 3, 5, 4] : List Int) = [2, 3, 5, 4]) = true from by decide]
    have hrc := hrb.pass hxrc
    ((repeat simp only [push_cast, Nat.reduceBEq, Nat.reduceLT, Nat.reduceEqDiff, reduceIte, reduceCtorEq, Nat.reduceMul, Nat.reduceAdd, Nat.reduceSub, Int.reduceEq, Int.reduceLT, Int.reduceLE, Int.reduceNeg, Int.reduceAdd, Int.reduceSub, Int.reduceMul, Nat.reduceLeDiff, Int.reduceToNat, not_true_eq_false, eq_self]); (repeat (first | (with_reducible first | (refine hK _ _ ?_; clear hK K) | refine (show ∀ σ' w', _ → K σ' w' from by assumption) _ _ ?_ | refine W_seq_k fun K hK => ?_ | refine W_block_k fun K hK => ?_ | refine W_skip ?_ | refine W_ret ?_) | ((first | ((with_reducible refine W_id ?_); refine W_reg (by decide) (by rfl) ?_) | (with_reducible first | refine W_cond ?_ | refine hZ _ _ ?_ | refine W_exit ?_ | refine Wo_id ?_)); repeat1' simp only [push_cast, Nat.reduceBEq, Nat.reduceLT, Nat.reduceEqDiff, reduceIte, reduceCtorEq, Nat.reduceMul, Nat.reduceAdd, Nat.reduceSub, Int.reduceEq, Int.reduceLT, Int.reduceLE, Int.reduceNeg, Int.reduceAdd, Int.reduceSub, Int.reduceMul, Nat.reduceLeDiff, Int.reduceToNat, not_true_eq_false, eq_self]) | ((repeat ((fail_if_success with_reducible refine hK _ _ ?_); clear hK K)); (with_reducible refine hK _ _ ?_); clear hK K))))
    exact hx1.trans hrc.out
end Go.Proofs.Ytkafpameheohdaa
end
section
set_option linter.unusedSimpArgs false
set_option linter.unusedVariables false
namespace Go.Proofs.Ytkafpameheohdaa
open Go Go.Vk
section
theorem eraseP_count {p : Int → Bool} {l : List Int} (h : 0 < l.countP p) : (l.eraseP p).countP p = l.countP p - 1 := by
  induction l with
  | nil => simp at h
  | cons y l ih =>
    cases hy : p y with
    | true => rw [List.eraseP_cons_of_pos hy, List.countP_cons_of_pos hy]; rfl
    | false =>
      rw [List.eraseP_cons_of_neg (by rw [hy]; decide), List.countP_cons_of_neg (by rw [hy]; decide), List.countP_cons_of_neg (by rw [hy]; decide)]
      rw [List.countP_cons_of_neg (by rw [hy]; decide)] at h
      exact ih h
variable {κ : Type} [DecidableEq κ]
/-- no more than three of one key -/
def Three (key : Int → κ) (m : List Int) : Prop := ∀ k, m.countP (fun y => decide (key y = k)) ≤ 3
theorem Three.push {key : Int → κ} {m : List Int} (h : Three key m) (i : Int) : Three key (pushM (fun y => decide (key y = key i)) m i) := by
  intro k
  unfold pushM
  rw [List.countP_append]
  by_cases hk : key i = k
  · subst hk
    have h1 : List.countP (fun y => decide (key y = key i)) [i] = 1 := by simp
    have h2 := h (key i)
    rw [h1]
    by_cases hc : 3 ≤ m.countP (fun y => decide (key y = key i))
    · rw [if_pos hc, eraseP_count (by omega)]; omega
    · rw [if_neg hc]; omega
  · have h1 : List.countP (fun y => decide (key y = k)) [i] = 0 := by simp [hk]
    have h2 := h k
    rw [h1]
    split
    · exact Nat.le_trans (by simpa using (List.Sublist.countP_le (p := fun y => decide (key y = k)) (List.eraseP_sublist (p := fun y => decide (key y = key i)) (l := m)))) h2
    · exact h2
end
end Go.Proofs.Ytkafpameheohdaa
end
section
set_option linter.unusedSimpArgs false
set_option linter.unusedVariables false
namespace Go.Vk
open Go
theorem LsAt.guard {w0 w w' : World} {Q Q' : Nat → Prop} {pl pa : Nat} {L : List Nd} {l : List Int} (h : LsAt w0 w Q pl pa L l) (hx : Ext w w') (hQ : ∀ b, Q' b → Q b ∨ (w.heap.size ≤ b ∧ b < w'.heap.size)) : LsAt w0 w' Q' pl pa L l := by
  obtain ⟨lv, bo, h1, h2, h3, h4, h5⟩ := h
  have hlt := blk_lt h1.head
  refine ⟨lv, bo, h1.ext hx, h2.guard hx fun b hb => ?_, h3, fun b hb => ⟨(h4 b hb).1, fun hq => ?_⟩, fun hq => ?_⟩
  · rcases hb with hb | hb | hb
    · rcases hQ b hb with h | h
      · exact .inl (.inl h)
      · exact .inr h
    · exact .inl (.inr (.inl hb))
    · exact .inl (.inr (.inr hb))
  · rcases hQ b hq with h | h
    · exact (h4 b hb).2 h
    · subst hb
      have := h1.sl.lt; omega
  · rcases hQ pl hq with h | h
    · exact h5 h
    · omega
end Go.Vk
end
