/- The document's arena (lazaretref14): New, Add of an element that is no template. -/
import Derived.Test.YtkafpameheohdaaHd
import Derived.Test.YtkafpameheohdaaFl5
set_option linter.unusedSimpArgs false
set_option linter.unusedVariables false
namespace Go.Vk
open Go
theorem fill_step (place : Nat → Option (Nat × Nat)) (cells : Array Value) (i off : Nat) (v : Value) (rest : List (Nat × Value)) (h1 : place i = some (off, 1)) (h2 : v.cells = #[v]) (h3 : off < cells.size) : Instr.fill place cells ((i, v) :: rest) = Instr.fill place (cells.setIfInBounds off v) rest := by
  have e : ¬ (v.cells.size ≠ 1 || decide (off + v.cells.size > cells.size)) = true := by rw [h2]; simp; omega
  rw [Instr.fill]
  simp only [h1]
  rw [if_neg e, h2]
  rfl
theorem fill30 (k : Int) (s t : ByteArray) (sp : Int) (a : Option Addr) (n c : Nat) (d : Bool) (p f o : Int) :
    Instr.fill (#[(0,1),(1,1),(2,1),(3,1),(4,1),(5,1),(6,1),(7,1),(8,1),(9,1),(10,1)][·]?) #[.int .i64 0, .string ⟨#[]⟩, .string ⟨#[]⟩, .int .i64 0, .slice none 0 0, .bool false, .int .i64 0, .int .i64 0, .slice none 0 0, .int .i64 0, .int .i64 0]
      [(0, .int .i64 k), (1, .string s), (2, .string t), (3, .int .i64 sp), (4, .slice a n c), (5, .bool d), (6, .int .i64 p), (9, .int .i64 f), (10, .int .i64 o)] = some #[.int .i64 k, .string s, .string t, .int .i64 sp, .slice a n c, .bool d, .int .i64 p, .int .i64 0, .slice none 0 0, .int .i64 f, .int .i64 o] := by
  simp [Instr.fill, Value.cells]
end Go.Vk
namespace Go.Proofs.Ytkafpameheohdaa
open Go Go.Vk
set_option maxHeartbeats 40000000
theorem rkid_c (k : Int) {w : World} : Gives Try.prog 87 #[.int .i64 k] w fun v w' => v = .bool (kidK k) ∧ w' = w := by
  unfold kidK
  by_cases h2 : k = 2
  · refine Gives.of_W Try.call87 Try.func87 rfl Try.ntmps87 (by simp) ?_; intro Z hZ
    (repeat (first | (with_reducible first | (refine hK _ _ ?_; clear hK K) | refine (show ∀ σ' w', _ → K σ' w' from by assumption) _ _ ?_ | refine W_seq_k fun K hK => ?_ | refine W_block_k fun K hK => ?_ | refine W_skip ?_ | refine W_ret ?_) | ((first | ((with_reducible refine W_id ?_); refine W_reg (by decide) (by rfl) ?_) | (with_reducible first | refine W_cond ?_ | refine hZ _ _ ?_ | refine W_exit ?_ | refine Wo_id ?_)); repeat1' simp only [push_cast, Nat.reduceBEq, Nat.reduceLT, Nat.reduceEqDiff, reduceIte, reduceCtorEq, Nat.reduceMul, Nat.reduceAdd, Nat.reduceSub, Int.reduceEq, Int.reduceLT, Int.reduceLE, Int.reduceNeg, Int.reduceAdd, Int.reduceSub, Int.reduceMul, Nat.reduceLeDiff, Int.reduceToNat, h2]) | ((repeat ((fail_if_success with_reducible refine hK _ _ ?_); clear hK K)); (with_reducible refine hK _ _ ?_); clear hK K)))
    simp [h2]
  · by_cases h3 : k = 3
    · refine Gives.of_W Try.call87 Try.func87 rfl Try.ntmps87 (by simp) ?_; intro Z hZ
      (repeat (first | (with_reducible first | (refine hK _ _ ?_; clear hK K) | refine (show ∀ σ' w', _ → K σ' w' from by assumption) _ _ ?_ | refine W_seq_k fun K hK => ?_ | refine W_block_k fun K hK => ?_ | refine W_skip ?_ | refine W_ret ?_) | ((first | ((with_reducible refine W_id ?_); refine W_reg (by decide) (by rfl) ?_) | (with_reducible first | refine W_cond ?_ | refine hZ _ _ ?_ | refine W_exit ?_ | refine Wo_id ?_)); repeat1' simp only [push_cast, Nat.reduceBEq, Nat.reduceLT, Nat.reduceEqDiff, reduceIte, reduceCtorEq, Nat.reduceMul, Nat.reduceAdd, Nat.reduceSub, Int.reduceEq, Int.reduceLT, Int.reduceLE, Int.reduceNeg, Int.reduceAdd, Int.reduceSub, Int.reduceMul, Nat.reduceLeDiff, Int.reduceToNat, h2, h3]) | ((repeat ((fail_if_success with_reducible refine hK _ _ ?_); clear hK K)); (with_reducible refine hK _ _ ?_); clear hK K)))
      simp [h3]
    · by_cases h4 : k = 4
      · refine Gives.of_W Try.call87 Try.func87 rfl Try.ntmps87 (by simp) ?_; intro Z hZ
        (repeat (first | (with_reducible first | (refine hK _ _ ?_; clear hK K) | refine (show ∀ σ' w', _ → K σ' w' from by assumption) _ _ ?_ | refine W_seq_k fun K hK => ?_ | refine W_block_k fun K hK => ?_ | refine W_skip ?_ | refine W_ret ?_) | ((first | ((with_reducible refine W_id ?_); refine W_reg (by decide) (by rfl) ?_) | (with_reducible first | refine W_cond ?_ | refine hZ _ _ ?_ | refine W_exit ?_ | refine Wo_id ?_)); repeat1' simp only [push_cast, Nat.reduceBEq, Nat.reduceLT, Nat.reduceEqDiff, reduceIte, reduceCtorEq, Nat.reduceMul, Nat.reduceAdd, Nat.reduceSub, Int.reduceEq, Int.reduceLT, Int.reduceLE, Int.reduceNeg, Int.reduceAdd, Int.reduceSub, Int.reduceMul, Nat.reduceLeDiff, Int.reduceToNat, h2, h3, h4]) | ((repeat ((fail_if_success with_reducible refine hK _ _ ?_); clear hK K)); (with_reducible refine hK _ _ ?_); clear hK K)))
        simp [h4]
      · by_cases h5 : k = 5
        · refine Gives.of_W Try.call87 Try.func87 rfl Try.ntmps87 (by simp) ?_; intro Z hZ
          (repeat (first | (with_reducible first | (refine hK _ _ ?_; clear hK K) | refine (show ∀ σ' w', _ → K σ' w' from by assumption) _ _ ?_ | refine W_seq_k fun K hK => ?_ | refine W_block_k fun K hK => ?_ | refine W_skip ?_ | refine W_ret ?_) | ((first | ((with_reducible refine W_id ?_); refine W_reg (by decide) (by rfl) ?_) | (with_reducible first | refine W_cond ?_ | refine hZ _ _ ?_ | refine W_exit ?_ | refine Wo_id ?_)); repeat1' simp only [push_cast, Nat.reduceBEq, Nat.reduceLT, Nat.reduceEqDiff, reduceIte, reduceCtorEq, Nat.reduceMul, Nat.reduceAdd, Nat.reduceSub, Int.reduceEq, Int.reduceLT, Int.reduceLE, Int.reduceNeg, Int.reduceAdd, Int.reduceSub, Int.reduceMul, Nat.reduceLeDiff, Int.reduceToNat, h2, h3, h4, h5]) | ((repeat ((fail_if_success with_reducible refine hK _ _ ?_); clear hK K)); (with_reducible refine hK _ _ ?_); clear hK K)))
          simp [h5]
        · refine Gives.of_W Try.call87 Try.func87 rfl Try.ntmps87 (by simp) ?_; intro Z hZ
          (repeat (first | (with_reducible first | (refine hK _ _ ?_; clear hK K) | refine (show ∀ σ' w', _ → K σ' w' from by assumption) _ _ ?_ | refine W_seq_k fun K hK => ?_ | refine W_block_k fun K hK => ?_ | refine W_skip ?_ | refine W_ret ?_) | ((first | ((with_reducible refine W_id ?_); refine W_reg (by decide) (by rfl) ?_) | (with_reducible first | refine W_cond ?_ | refine hZ _ _ ?_ | refine W_exit ?_ | refine Wo_id ?_)); repeat1' simp only [push_cast, Nat.reduceBEq, Nat.reduceLT, Nat.reduceEqDiff, reduceIte, reduceCtorEq, Nat.reduceMul, Nat.reduceAdd, Nat.reduceSub, Int.reduceEq, Int.reduceLT, Int.reduceLE, Int.reduceNeg, Int.reduceAdd, Int.reduceSub, Int.reduceMul, Nat.reduceLeDiff, Int.reduceToNat, h2, h3, h4, h5]) | ((repeat ((fail_if_success with_reducible refine hK _ _ ?_); clear hK K)); (with_reducible refine hK _ _ ?_); clear hK K)))
          simp [h2, h3, h4, h5]
theorem rmade_c {w : World} {m : Laid} (h : RdAt w 2 m.av (attrCells m.nd.attrs)) (hb : m.nd.attrs.length < 1000000) :
    Gives Try.prog 86 #[m.val] w fun v w' => ∃ m' : Laid, v = m'.val ∧ m'.nd = bareN m.nd ∧ m'.ok w' ∧ Ext w w' ∧ (∀ b ∈ m'.blks, w.heap.size ≤ b) ∧ m'.blks.Nodup ∧ m'.kb = none := by
  rw [Laid.val_eq]
  refine Gives.of_W Try.call86 Try.func86 rfl Try.ntmps86 (by simp) ?_; intro Z hZ
  (repeat (first | (with_reducible first | (refine hK _ _ ?_; clear hK K) | refine (show ∀ σ' w', _ → K σ' w' from by assumption) _ _ ?_ | refine W_seq_k fun K hK => ?_ | refine W_block_k fun K hK => ?_ | refine W_skip ?_ | refine W_ret ?_) | ((first | ((with_reducible refine W_id ?_); refine W_reg (by decide) (by rfl) ?_) | (with_reducible first | refine W_cond ?_ | refine hZ _ _ ?_ | refine W_exit ?_ | refine Wo_id ?_)); repeat1' simp only [push_cast, Nat.reduceBEq, Nat.reduceLT, Nat.reduceEqDiff, reduceIte, reduceCtorEq, Nat.reduceMul, Nat.reduceAdd, Nat.reduceSub, Int.reduceEq, Int.reduceLT, Int.reduceLE, Int.reduceNeg, Int.reduceAdd, Int.reduceSub, Int.reduceMul, Nat.reduceLeDiff, Int.reduceToNat, RunV_zero Try.zeroValue30, vcells_agg, size_alloc_h]) | ((repeat ((fail_if_success with_reducible refine hK _ _ ?_); clear hK K)); (with_reducible refine hK _ _ ?_); clear hK K)))
  have hx1 : Ext w ((w.alloc (.cells #[.int .i64 m.nd.kind, .string m.nd.name, .string m.nd.text, .int .i64 m.nd.space, m.av, .bool m.nd.dup, .int .i64 m.nd.parent, .int .i64 m.nd.content, m.kv, .int .i64 m.nd.frm, .int .i64 m.nd.to] 30)).alloc (.cells #[.int .i64 0, .string ⟨#[]⟩, .string ⟨#[]⟩, .int .i64 0, .slice none 0 0, .bool false, .int .i64 0, .int .i64 0, .slice none 0 0, .int .i64 0, .int .i64 0] 30)) := (Ext.alloc _ _).trans (Ext.alloc _ _)
  have c1 : ((w.alloc (.cells #[.int .i64 m.nd.kind, .string m.nd.name, .string m.nd.text, .int .i64 m.nd.space, m.av, .bool m.nd.dup, .int .i64 m.nd.parent, .int .i64 m.nd.content, m.kv, .int .i64 m.nd.frm, .int .i64 m.nd.to] 30)).alloc (.cells #[.int .i64 0, .string ⟨#[]⟩, .string ⟨#[]⟩, .int .i64 0, .slice none 0 0, .bool false, .int .i64 0, .int .i64 0, .slice none 0 0, .int .i64 0, .int .i64 0] 30)).heap[w.heap.size]? = some (.cells #[.int .i64 m.nd.kind, .string m.nd.name, .string m.nd.text, .int .i64 m.nd.space, m.av, .bool m.nd.dup, .int .i64 m.nd.parent, .int .i64 m.nd.content, m.kv, .int .i64 m.nd.frm, .int .i64 m.nd.to] 30 (0, 0)) := by
    rw [heap_alloc_h, if_neg (by rw [size_alloc_h]; omega), heap_alloc_h, if_pos rfl]
  have c2 : ((w.alloc (.cells #[.int .i64 m.nd.kind, .string m.nd.name, .string m.nd.text, .int .i64 m.nd.space, m.av, .bool m.nd.dup, .int .i64 m.nd.parent, .int .i64 m.nd.content, m.kv, .int .i64 m.nd.frm, .int .i64 m.nd.to] 30)).alloc (.cells #[.int .i64 0, .string ⟨#[]⟩, .string ⟨#[]⟩, .int .i64 0, .slice none 0 0, .bool false, .int .i64 0, .int .i64 0, .slice none 0 0, .int .i64 0, .int .i64 0] 30)).heap[w.heap.size + 1]? = some (.cells #[.int .i64 0, .string ⟨#[]⟩, .string ⟨#[]⟩, .int .i64 0, .slice none 0 0, .bool false, .int .i64 0, .int .i64 0, .slice none 0 0, .int .i64 0, .int .i64 0] 30 (0, 0)) := by
    rw [heap_alloc_h, if_pos (by rw [size_alloc_h])]
  generalize (w.alloc (.cells #[.int .i64 m.nd.kind, .string m.nd.name, .string m.nd.text, .int .i64 m.nd.space, m.av, .bool m.nd.dup, .int .i64 m.nd.parent, .int .i64 m.nd.content, m.kv, .int .i64 m.nd.frm, .int .i64 m.nd.to] 30)).alloc (.cells #[.int .i64 0, .string ⟨#[]⟩, .string ⟨#[]⟩, .int .i64 0, .slice none 0 0, .bool false, .int .i64 0, .int .i64 0, .slice none 0 0, .int .i64 0, .int .i64 0] 30) = w1 at *
  have d1 := (Ext.drew w1).blk c1
  have d2 := (Ext.drew w1).blk c2
  have hxd := hx1.trans (Ext.drew w1)
  refine W_draw (.pas 0 (.pas 1 (.pas 2 (.pas 3 (.pas 4 (.pas 5 (.pas 6 (.pas 7 (.pas 8 (.pas 9 (.pas 11 (.pas 12 (.pas 13 (.pas 14 (.pas 15 (.pas 16 (.act 10 (.pas 17 (.last 18))))))))))))))))))) (fun b => b = w.heap.size) (by decide) mixed (by kernel_rfl) ?_
  generalize w1.drew = w2 at *
  have hl1 := blk_lt d1
  have hl2 := blk_lt d2
  (repeat (first | ((first | refine pas_plain rfl ?_ | refine pas_g rfl rfl ?_ | refine act_plain rfl ?_ | refine act_g rfl rfl ?_ | refine last_plain rfl ?_ | refine tail_plain rfl ?_ | refine tail_g rfl rfl ?_); (repeat simp only [push_cast, Nat.reduceBEq, Nat.reduceLT, Nat.reduceEqDiff, reduceIte, reduceCtorEq, Nat.reduceMul, Nat.reduceAdd, Nat.reduceSub, Int.reduceEq, Int.reduceLT, Int.reduceLE, Int.reduceNeg, Int.reduceAdd, Int.reduceSub, Int.reduceMul, Nat.reduceLeDiff, Int.reduceToNat, cell_h, d1, cellO_cells, eq_self])) | (refine tail_fin ?_) | (refine sch_fin ?_)))
  refine app_to_rd sty27 sty27.und (by decide) (SlAt.nil _ _) (h.ext hxd) (attrCells_one _) (by rw [attrCells_length]; simp; omega) ?_
  intro v w3 bo g1 g2 g3
  rw [List.nil_append] at g1
  refine ⟨kept_upd g2 fun b hb => ⟨by have : b = w.heap.size := hb; omega, fun e => by cases e⟩, ?_⟩
  have hx3 : Ext w2 w3 := g2.mono fun b _ e => by cases e
  have d3 := hx3.blk d2
  obtain ⟨va, vn, vc, rfl, _, _⟩ := g1.len
  (repeat (first | ((first | refine pas_plain rfl ?_ | refine pas_g rfl rfl ?_ | refine act_plain rfl ?_ | refine act_g rfl rfl ?_ | refine last_plain rfl ?_ | refine tail_plain rfl ?_ | refine tail_g rfl rfl ?_); (repeat simp only [push_cast, Nat.reduceBEq, Nat.reduceLT, Nat.reduceEqDiff, reduceIte, reduceCtorEq, Nat.reduceMul, Nat.reduceAdd, Nat.reduceSub, Int.reduceEq, Int.reduceLT, Int.reduceLE, Int.reduceNeg, Int.reduceAdd, Int.reduceSub, Int.reduceMul, Nat.reduceLeDiff, Int.reduceToNat, cell_h, d1, cellO_cells, eq_self])) | (refine tail_fin ?_) | (refine sch_fin ?_)))
  refine build_struct Try.zeroValue30 un30 pl30 (cs := #[.int .i64 m.nd.kind, .string m.nd.name, .string m.nd.text, .int .i64 m.nd.space, .slice va vn vc, .bool m.nd.dup, .int .i64 (-1), .int .i64 0, .slice none 0 0, .int .i64 m.nd.frm, .int .i64 m.nd.to]) (fill30 _ _ _ _ _ _ _ _ _ _ _) ?_
  (repeat (first | ((first | refine pas_plain rfl ?_ | refine pas_g rfl rfl ?_ | refine act_plain rfl ?_ | refine act_g rfl rfl ?_ | refine last_plain rfl ?_ | refine tail_plain rfl ?_ | refine tail_g rfl rfl ?_); (repeat simp only [push_cast, Nat.reduceBEq, Nat.reduceLT, Nat.reduceEqDiff, reduceIte, reduceCtorEq, Nat.reduceMul, Nat.reduceAdd, Nat.reduceSub, Int.reduceEq, Int.reduceLT, Int.reduceLE, Int.reduceNeg, Int.reduceAdd, Int.reduceSub, Int.reduceMul, Nat.reduceLeDiff, Int.reduceToNat, cell_h, d1, cellO_cells, eq_self])) | (refine tail_fin ?_) | (refine sch_fin ?_)))
  simp only [can_h, d3, canO_cells, List.size_toArray, List.length_cons, List.length_nil, Nat.zero_add, Nat.reduceAdd, Nat.reduceLT, true_and]
  have hp4 := setCells_all d3 (l := [.int .i64 m.nd.kind, .string m.nd.name, .string m.nd.text, .int .i64 m.nd.space, .slice va vn vc, .bool m.nd.dup, .int .i64 (-1), .int .i64 0, .slice none 0 0, .int .i64 m.nd.frm, .int .i64 m.nd.to]) rfl
  have hu4 := Upd.setCells (F := fun b => b = w.heap.size + 1) (a := ⟨w.heap.size + 1, 0, none⟩) w3 rfl [.int .i64 m.nd.kind, .string m.nd.name, .string m.nd.text, .int .i64 m.nd.space, .slice va vn vc, .bool m.nd.dup, .int .i64 (-1), .int .i64 0, .slice none 0 0, .int .i64 m.nd.frm, .int .i64 m.nd.to] 0
  generalize setCells w3 ⟨w.heap.size + 1, 0, none⟩ [.int .i64 m.nd.kind, .string m.nd.name, .string m.nd.text, .int .i64 m.nd.space, .slice va vn vc, .bool m.nd.dup, .int .i64 (-1), .int .i64 0, .slice none 0 0, .int .i64 m.nd.frm, .int .i64 m.nd.to] 0 = w4 at *
  ((repeat simp only [push_cast, Nat.reduceBEq, Nat.reduceLT, Nat.reduceEqDiff, reduceIte, reduceCtorEq, Nat.reduceMul, Nat.reduceAdd, Nat.reduceSub, Int.reduceEq, Int.reduceLT, Int.reduceLE, Int.reduceNeg, Int.reduceAdd, Int.reduceSub, Int.reduceMul, Nat.reduceLeDiff, Int.reduceToNat, cell_h, hp4, cellO_cells]); (repeat (first | (with_reducible first | (refine hK _ _ ?_; clear hK K) | refine (show ∀ σ' w', _ → K σ' w' from by assumption) _ _ ?_ | refine W_seq_k fun K hK => ?_ | refine W_block_k fun K hK => ?_ | refine W_skip ?_ | refine W_ret ?_) | ((first | ((with_reducible refine W_id ?_); refine W_reg (by decide) (by rfl) ?_) | (with_reducible first | refine W_cond ?_ | refine hZ _ _ ?_ | refine W_exit ?_ | refine Wo_id ?_)); repeat1' simp only [push_cast, Nat.reduceBEq, Nat.reduceLT, Nat.reduceEqDiff, reduceIte, reduceCtorEq, Nat.reduceMul, Nat.reduceAdd, Nat.reduceSub, Int.reduceEq, Int.reduceLT, Int.reduceLE, Int.reduceNeg, Int.reduceAdd, Int.reduceSub, Int.reduceMul, Nat.reduceLeDiff, Int.reduceToNat, cell_h, hp4, cellO_cells]) | ((repeat ((fail_if_success with_reducible refine hK _ _ ?_); clear hK K)); (with_reducible refine hK _ _ ?_); clear hK K))))
  have hx4 : Ext w w4 := Upd.trans (hxd.trans hx3) hu4 fun i hi e => by omega
  refine ⟨⟨bareN m.nd, .slice va vn vc, .slice none 0 0, bo, none⟩, rfl, rfl, ⟨g1.upd hu4 fun b hb e => ?_, SlAt.nil _ _⟩, hx4, fun b hb => ?_, ?_, rfl⟩
  · rcases g3 b hb with h1 | h1
    · cases h1
    · omega
  · simp only [Laid.blks, Option.toList_none, List.append_nil, Option.mem_toList] at hb
    rcases g3 b hb with h1 | h1
    · cases h1
    · omega
  · cases bo <;> simp [Laid.blks]
theorem pl64 (w : World) : ((fsOf Try.prog 64).mapM plOf).run Try.prog w = .ok #[(0,1)] w := by
  simp [fsOf, plOf, Try.underlying64, Sem.run, Try.sizeOf39]
theorem un64 : Try.prog.underlying 64 = some (.struct (fsOf Try.prog 64)) := by rw [fsOf, Try.underlying64]
theorem rnew_c {w : World} :
    Gives Try.prog 64 #[] w fun v w' => ∃ pa, v = .pointer (some ⟨pa, 0, none⟩) ∧ Ar w' pa [docN] (fun b => w.heap.size ≤ b) ∧ Ext w w' := by
  refine Gives.of_W Try.call64 Try.func64 rfl Try.ntmps64 (by simp) ?_; intro Z hZ
  (repeat (first | (with_reducible first | (refine hK _ _ ?_; clear hK K) | refine (show ∀ σ' w', _ → K σ' w' from by assumption) _ _ ?_ | refine W_seq_k fun K hK => ?_ | refine W_block_k fun K hK => ?_ | refine W_skip ?_ | refine W_ret ?_) | ((first | ((with_reducible refine W_id ?_); refine W_reg (by decide) (by rfl) ?_) | (with_reducible first | refine W_cond ?_ | refine hZ _ _ ?_ | refine W_exit ?_ | refine Wo_id ?_)); repeat1' simp only [push_cast, Nat.reduceBEq, Nat.reduceLT, Nat.reduceEqDiff, reduceIte, reduceCtorEq, Nat.reduceMul, Nat.reduceAdd, Nat.reduceSub, Int.reduceEq, Int.reduceLT, Int.reduceLE, Int.reduceNeg, Int.reduceAdd, Int.reduceSub, Int.reduceMul, Nat.reduceLeDiff, Int.reduceToNat]) | ((repeat ((fail_if_success with_reducible refine hK _ _ ?_); clear hK K)); (with_reducible refine hK _ _ ?_); clear hK K)))
  refine build_struct Try.zeroValue30 un30 pl30 (cs := #[.int .i64 1, .string ⟨#[]⟩, .string ⟨#[]⟩, .int .i64 0, .slice none 0 0, .bool false, .int .i64 0, .int .i64 0, .slice none 0 0, .int .i64 (-1), .int .i64 (-1)]) (by rfl) ?_
  refine (rmade_c (m := ⟨{ zN with kind := 1, frm := -1, to := -1 }, .slice none 0 0, .slice none 0 0, none, none⟩) (SlAt.nil _ _).rd (by decide)).mono ?_
  rintro v w' ⟨m', rfl, h1, h2, h3, h4, h5, h6⟩
  ((repeat simp only [push_cast, Nat.reduceBEq, Nat.reduceLT, Nat.reduceEqDiff, reduceIte, reduceCtorEq, Nat.reduceMul, Nat.reduceAdd, Nat.reduceSub, Int.reduceEq, Int.reduceLT, Int.reduceLE, Int.reduceNeg, Int.reduceAdd, Int.reduceSub, Int.reduceMul, Nat.reduceLeDiff, Int.reduceToNat]); (repeat (first | (with_reducible first | (refine hK _ _ ?_; clear hK K) | refine (show ∀ σ' w', _ → K σ' w' from by assumption) _ _ ?_ | refine W_seq_k fun K hK => ?_ | refine W_block_k fun K hK => ?_ | refine W_skip ?_ | refine W_ret ?_) | ((first | ((with_reducible refine W_id ?_); refine W_reg (by decide) (by rfl) ?_) | (with_reducible first | refine W_cond ?_ | refine hZ _ _ ?_ | refine W_exit ?_ | refine Wo_id ?_)); repeat1' simp only [push_cast, Nat.reduceBEq, Nat.reduceLT, Nat.reduceEqDiff, reduceIte, reduceCtorEq, Nat.reduceMul, Nat.reduceAdd, Nat.reduceSub, Int.reduceEq, Int.reduceLT, Int.reduceLE, Int.reduceNeg, Int.reduceAdd, Int.reduceSub, Int.reduceMul, Nat.reduceLeDiff, Int.reduceToNat]) | ((repeat ((fail_if_success with_reducible refine hK _ _ ?_); clear hK K)); (with_reducible refine hK _ _ ?_); clear hK K))))
  refine bs_one sty39 (by decide) (by decide) (v := m'.val) rfl ?_
  ((repeat simp only [push_cast, Nat.reduceBEq, Nat.reduceLT, Nat.reduceEqDiff, reduceIte, reduceCtorEq, Nat.reduceMul, Nat.reduceAdd, Nat.reduceSub, Int.reduceEq, Int.reduceLT, Int.reduceLE, Int.reduceNeg, Int.reduceAdd, Int.reduceSub, Int.reduceMul, Nat.reduceLeDiff, Int.reduceToNat]); (repeat (first | (with_reducible first | (refine hK _ _ ?_; clear hK K) | refine (show ∀ σ' w', _ → K σ' w' from by assumption) _ _ ?_ | refine W_seq_k fun K hK => ?_ | refine W_block_k fun K hK => ?_ | refine W_skip ?_ | refine W_ret ?_) | ((first | ((with_reducible refine W_id ?_); refine W_reg (by decide) (by rfl) ?_) | (with_reducible first | refine W_cond ?_ | refine hZ _ _ ?_ | refine W_exit ?_ | refine Wo_id ?_)); repeat1' simp only [push_cast, Nat.reduceBEq, Nat.reduceLT, Nat.reduceEqDiff, reduceIte, reduceCtorEq, Nat.reduceMul, Nat.reduceAdd, Nat.reduceSub, Int.reduceEq, Int.reduceLT, Int.reduceLE, Int.reduceNeg, Int.reduceAdd, Int.reduceSub, Int.reduceMul, Nat.reduceLeDiff, Int.reduceToNat]) | ((repeat ((fail_if_success with_reducible refine hK _ _ ?_); clear hK K)); (with_reducible refine hK _ _ ?_); clear hK K))))
  refine build_struct Try.zeroValue64 un64 pl64 (cs := #[.slice (some ⟨w'.heap.size, 0, none⟩) 1 1]) (by rfl) ?_
  ((repeat simp only [push_cast, Nat.reduceBEq, Nat.reduceLT, Nat.reduceEqDiff, reduceIte, reduceCtorEq, Nat.reduceMul, Nat.reduceAdd, Nat.reduceSub, Int.reduceEq, Int.reduceLT, Int.reduceLE, Int.reduceNeg, Int.reduceAdd, Int.reduceSub, Int.reduceMul, Nat.reduceLeDiff, Int.reduceToNat, cell_h, can_h, cellO_cells, canO_cells, setO_cells, heap_set_h, heap_alloc_h, size_set_h, size_alloc_h, vcells_agg, succ_ne, ne_succ, List.setIfInBounds_toArray, List.set_cons_succ, List.set_cons_zero, setCells, drew_h]); (repeat (first | (with_reducible first | (refine hK _ _ ?_; clear hK K) | refine (show ∀ σ' w', _ → K σ' w' from by assumption) _ _ ?_ | refine W_seq_k fun K hK => ?_ | refine W_block_k fun K hK => ?_ | refine W_skip ?_ | refine W_ret ?_) | ((first | ((with_reducible refine W_id ?_); refine W_reg (by decide) (by rfl) ?_) | (with_reducible first | refine W_cond ?_ | refine hZ _ _ ?_ | refine W_exit ?_ | refine Wo_id ?_)); repeat1' simp only [push_cast, Nat.reduceBEq, Nat.reduceLT, Nat.reduceEqDiff, reduceIte, reduceCtorEq, Nat.reduceMul, Nat.reduceAdd, Nat.reduceSub, Int.reduceEq, Int.reduceLT, Int.reduceLE, Int.reduceNeg, Int.reduceAdd, Int.reduceSub, Int.reduceMul, Nat.reduceLeDiff, Int.reduceToNat, cell_h, can_h, cellO_cells, canO_cells, setO_cells, heap_set_h, heap_alloc_h, size_set_h, size_alloc_h, vcells_agg, succ_ne, ne_succ, List.setIfInBounds_toArray, List.set_cons_succ, List.set_cons_zero, setCells, drew_h]) | ((repeat ((fail_if_success with_reducible refine hK _ _ ?_); clear hK K)); (with_reducible refine hK _ _ ?_); clear hK K))))
  have hsz := h3.alike.size
  have hx : Ext w' ((w'.alloc (.cells m'.val.cells 30)).alloc (.cells #[.slice (some ⟨w'.heap.size, 0, none⟩) 1 1] 64)) := (Ext.alloc _ _).trans (Ext.alloc _ _)
  refine ⟨w'.heap.size + 1, rfl, ⟨w'.heap.size, 1, [m'], ⟨⟨64, ?_⟩, ?_, ?_, ?_⟩, ?_, ?_⟩, h3.trans hx⟩
  · rw [heap_alloc_h, if_pos (by simp)]; rfl
  · exact (SlAt.new w' 11 m'.val.cells 30 1 rfl).ext (Ext.alloc _ _)
  · intro m hm
    simp only [List.mem_singleton] at hm
    subst hm
    exact h2.upd hx fun _ _ h => h.elim
  · have hb : ∀ b ∈ m'.blks, b < w'.heap.size := fun b hb => h2.lt hb
    simp only [blocks, List.flatMap_cons, List.flatMap_nil, List.append_nil, List.nodup_cons, List.mem_cons, not_or]
    refine ⟨⟨by omega, fun hm => ?_⟩, fun hm => ?_, h5⟩
    · have := hb _ hm; omega
    · have := hb _ hm; omega
  · simp [h1, docN, bareN, zN]
  · intro b hb
    simp only [blocks, List.flatMap_cons, List.flatMap_nil, List.append_nil, List.mem_cons] at hb
    rcases hb with rfl | rfl | hb
    · omega
    · omega
    · exact h4 b hb
theorem radd_c {pa : Nat} {L : List Nd} {F : Nat → Prop} {w : World} (h : Ar w pa L F) (hb : L.length < 1000000) {m : Laid} (hm : RdAt w 2 m.av (attrCells m.nd.attrs)) (hmb : m.nd.attrs.length < 1000000) (hk3 : m.nd.kind = 3) (hnt : ¬ m.nd.name = tmpl) :
    Gives Try.prog 65 #[.pointer (some ⟨pa, 0, none⟩), m.val] w fun v w' => Ar w' pa (L ++ [bareN m.nd]) (fun b => F b ∨ w.heap.size ≤ b) ∧ Upd F w w' := by
  rw [Laid.val_eq]
  have hpa : pa < w.heap.size := by obtain ⟨bn, cap, M, hM, _, _⟩ := h; exact hM.lt (by simp [blocks])
  have hne : ¬ pa = w.heap.size := by omega
  have hk : kidK m.nd.kind = true := by rw [hk3]; rfl
  have hnt' : ¬ m.nd.name = ⟨#[116, 101, 109, 112, 108, 97, 116, 101]⟩ := hnt
  refine Gives.of_W Try.call65 Try.func65 rfl Try.ntmps65 (by simp) ?_; intro Z hZ
  (repeat (first | (with_reducible first | (refine hK _ _ ?_; clear hK K) | refine (show ∀ σ' w', _ → K σ' w' from by assumption) _ _ ?_ | refine W_seq_k fun K hK => ?_ | refine W_block_k fun K hK => ?_ | refine W_skip ?_ | refine W_ret ?_) | ((first | ((with_reducible refine W_id ?_); refine W_reg (by decide) (by rfl) ?_) | (with_reducible first | refine W_cond ?_ | refine hZ _ _ ?_ | refine W_exit ?_ | refine Wo_id ?_)); repeat1' simp only [push_cast, Nat.reduceBEq, Nat.reduceLT, Nat.reduceEqDiff, reduceIte, reduceCtorEq, Nat.reduceMul, Nat.reduceAdd, Nat.reduceSub, Int.reduceEq, Int.reduceLT, Int.reduceLE, Int.reduceNeg, Int.reduceAdd, Int.reduceSub, Int.reduceMul, Nat.reduceLeDiff, Int.reduceToNat, cell_h, can_h, cellO_cells, canO_cells, setO_cells, heap_set_h, heap_alloc_h, size_set_h, size_alloc_h, vcells_agg, succ_ne, ne_succ, List.setIfInBounds_toArray, List.set_cons_succ, List.set_cons_zero, setCells, drew_h]) | ((repeat ((fail_if_success with_reducible refine hK _ _ ?_); clear hK K)); (with_reducible refine hK _ _ ?_); clear hK K)))
  refine (rkid_c _).mono ?_
  rintro v w' ⟨rfl, rfl⟩
  have hx := h.ext (Ext.alloc w (.cells #[.int .i64 m.nd.kind, .string m.nd.name, .string m.nd.text, .int .i64 m.nd.space, m.av, .bool m.nd.dup, .int .i64 m.nd.parent, .int .i64 m.nd.content, m.kv, .int .i64 m.nd.frm, .int .i64 m.nd.to] 30))
  obtain ⟨bn, cap, M, hM, hML, hMF⟩ := h
  obtain ⟨t, ht⟩ := hM.hdr
  ((repeat simp only [push_cast, Nat.reduceBEq, Nat.reduceLT, Nat.reduceEqDiff, reduceIte, reduceCtorEq, Nat.reduceMul, Nat.reduceAdd, Nat.reduceSub, Int.reduceEq, Int.reduceLT, Int.reduceLE, Int.reduceNeg, Int.reduceAdd, Int.reduceSub, Int.reduceMul, Nat.reduceLeDiff, Int.reduceToNat, cell_h, can_h, cellO_cells, canO_cells, setO_cells, heap_set_h, heap_alloc_h, size_set_h, size_alloc_h, vcells_agg, succ_ne, ne_succ, List.setIfInBounds_toArray, List.set_cons_succ, List.set_cons_zero, setCells, drew_h, hk, hne, ht]); (repeat (first | (with_reducible first | (refine hK _ _ ?_; clear hK K) | refine (show ∀ σ' w', _ → K σ' w' from by assumption) _ _ ?_ | refine W_seq_k fun K hK => ?_ | refine W_block_k fun K hK => ?_ | refine W_skip ?_ | refine W_ret ?_) | ((first | ((with_reducible refine W_id ?_); refine W_reg (by decide) (by rfl) ?_) | (with_reducible first | refine W_cond ?_ | refine hZ _ _ ?_ | refine W_exit ?_ | refine Wo_id ?_)); repeat1' simp only [push_cast, Nat.reduceBEq, Nat.reduceLT, Nat.reduceEqDiff, reduceIte, reduceCtorEq, Nat.reduceMul, Nat.reduceAdd, Nat.reduceSub, Int.reduceEq, Int.reduceLT, Int.reduceLE, Int.reduceNeg, Int.reduceAdd, Int.reduceSub, Int.reduceMul, Nat.reduceLeDiff, Int.reduceToNat, cell_h, can_h, cellO_cells, canO_cells, setO_cells, heap_set_h, heap_alloc_h, size_set_h, size_alloc_h, vcells_agg, succ_ne, ne_succ, List.setIfInBounds_toArray, List.set_cons_succ, List.set_cons_zero, setCells, drew_h, hk, hne, ht]) | ((repeat ((fail_if_success with_reducible refine hK _ _ ?_); clear hK K)); (with_reducible refine hK _ _ ?_); clear hK K))))
  refine W_draw (.pas 0 (.pas 1 (.pas 2 (.pas 3 (.pas 4 (.pas 5 (.act 6 (.act 7 (.act 8 (.pas 9 (.pas 10 (.last 11)))))))))))) (fun b => b = pa ∨ b = w.heap.size) (by decide) mixed (by kernel_rfl) ?_
  (repeat (first | ((first | refine pas_plain rfl ?_ | refine pas_g rfl rfl ?_ | refine act_plain rfl ?_ | refine act_g rfl rfl ?_ | refine last_plain rfl ?_ | refine tail_plain rfl ?_ | refine tail_g rfl rfl ?_); (repeat simp only [push_cast, Nat.reduceBEq, Nat.reduceLT, Nat.reduceEqDiff, reduceIte, reduceCtorEq, Nat.reduceMul, Nat.reduceAdd, Nat.reduceSub, Int.reduceEq, Int.reduceLT, Int.reduceLE, Int.reduceNeg, Int.reduceAdd, Int.reduceSub, Int.reduceMul, Nat.reduceLeDiff, Int.reduceToNat, cell_h, can_h, cellO_cells, canO_cells, setO_cells, heap_set_h, heap_alloc_h, size_set_h, size_alloc_h, vcells_agg, succ_ne, ne_succ, List.setIfInBounds_toArray, List.set_cons_succ, List.set_cons_zero, setCells, drew_h, true_or, or_true, hne, ht])) | (refine tail_fin ?_) | (refine sch_fin ?_)))
  have hx1 : Ext w (w.alloc (.cells #[.int .i64 m.nd.kind, .string m.nd.name, .string m.nd.text, .int .i64 m.nd.space, m.av, .bool m.nd.dup, .int .i64 m.nd.parent, .int .i64 m.nd.content, m.kv, .int .i64 m.nd.frm, .int .i64 m.nd.to] 30)).drew := (Ext.alloc _ _).trans (Ext.drew _)
  refine (rmade_c (m := m) (hm.ext hx1) hmb).mono ?_
  rintro v w2 ⟨m', rfl, h1, h2, h3, h4, h5, h6⟩
  refine ⟨kept_upd h3 fun b hb => ⟨by simp only [drew_size, size_alloc_h]; omega, id⟩, ?_⟩
  (repeat (first | ((first | refine pas_plain rfl ?_ | refine pas_g rfl rfl ?_ | refine act_plain rfl ?_ | refine act_g rfl rfl ?_ | refine last_plain rfl ?_ | refine tail_plain rfl ?_ | refine tail_g rfl rfl ?_); (repeat simp only [push_cast, Nat.reduceBEq, Nat.reduceLT, Nat.reduceEqDiff, reduceIte, reduceCtorEq, Nat.reduceMul, Nat.reduceAdd, Nat.reduceSub, Int.reduceEq, Int.reduceLT, Int.reduceLE, Int.reduceNeg, Int.reduceAdd, Int.reduceSub, Int.reduceMul, Nat.reduceLeDiff, Int.reduceToNat, cell_h, can_h, cellO_cells, canO_cells, setO_cells, heap_set_h, heap_alloc_h, size_set_h, size_alloc_h, vcells_agg, succ_ne, ne_succ, List.setIfInBounds_toArray, List.set_cons_succ, List.set_cons_zero, setCells, drew_h, true_or, or_true, hne, ht])) | (refine tail_fin ?_) | (refine sch_fin ?_)))
  refine bs_one sty39 (by decide) (by decide) (v := m'.val) rfl ?_
  refine ⟨kept_upd (Ext.alloc _ _) fun b hb => ⟨?_, id⟩, ?_⟩
  · have := h3.alike.size
    simp only [drew_size, size_alloc_h] at this; omega
  (repeat (first | ((first | refine pas_plain rfl ?_ | refine pas_g rfl rfl ?_ | refine act_plain rfl ?_ | refine act_g rfl rfl ?_ | refine last_plain rfl ?_ | refine tail_plain rfl ?_ | refine tail_g rfl rfl ?_); (repeat simp only [push_cast, Nat.reduceBEq, Nat.reduceLT, Nat.reduceEqDiff, reduceIte, reduceCtorEq, Nat.reduceMul, Nat.reduceAdd, Nat.reduceSub, Int.reduceEq, Int.reduceLT, Int.reduceLE, Int.reduceNeg, Int.reduceAdd, Int.reduceSub, Int.reduceMul, Nat.reduceLeDiff, Int.reduceToNat, cell_h, can_h, cellO_cells, canO_cells, setO_cells, heap_set_h, heap_alloc_h, size_set_h, size_alloc_h, vcells_agg, succ_ne, ne_succ, List.setIfInBounds_toArray, List.set_cons_succ, List.set_cons_zero, setCells, drew_h, true_or, or_true, hne, ht])) | (refine tail_fin ?_) | (refine sch_fin ?_)))
  have hx2 : Ext w (w2.alloc (.cells m'.val.cells 30)) := hx1.trans (h3.trans (Ext.alloc _ _))
  have hok2 : m'.ok (w2.alloc (.cells m'.val.cells 30)) := h2.upd (Ext.alloc _ _) fun _ _ h => h.elim
  have hmlen : M.length = L.length := by rw [← hML]; simp
  refine hM.app sty39 hx2 hok2 (SlAt.new w2 11 m'.val.cells 30 1 rfl) (by omega) ?_
  intro bn' cap' w3 g1 g2 g3
  have hne2 : ¬ bn = w.heap.size := by have := hM.lt (b := bn) (by simp [blocks]); omega
  have hnp : ¬ pa = bn := by have := hM.own; simp [blocks] at this; exact this.1.1
  have hsz2 := h3.alike.size
  simp only [drew_size, size_alloc_h] at hsz2
  refine ⟨kept_upd g2 fun b hb => ⟨?_, ?_⟩, ?_⟩
  · simp only [size_alloc_h]; omega
  · rcases hb with rfl | rfl <;> omega
  (repeat (first | ((first | refine pas_plain rfl ?_ | refine pas_g rfl rfl ?_ | refine act_plain rfl ?_ | refine act_g rfl rfl ?_ | refine last_plain rfl ?_ | refine tail_plain rfl ?_ | refine tail_g rfl rfl ?_); (repeat simp only [push_cast, Nat.reduceBEq, Nat.reduceLT, Nat.reduceEqDiff, reduceIte, reduceCtorEq, Nat.reduceMul, Nat.reduceAdd, Nat.reduceSub, Int.reduceEq, Int.reduceLT, Int.reduceLE, Int.reduceNeg, Int.reduceAdd, Int.reduceSub, Int.reduceMul, Nat.reduceLeDiff, Int.reduceToNat, cell_h, can_h, cellO_cells, canO_cells, setO_cells, heap_set_h, heap_alloc_h, size_set_h, size_alloc_h, vcells_agg, succ_ne, ne_succ, List.setIfInBounds_toArray, List.set_cons_succ, List.set_cons_zero, setCells, drew_h, true_or, or_true, hne, ht])) | (refine tail_fin ?_) | (refine sch_fin ?_)))
  have hp3 : w3.heap[pa]? = some (.cells #[.slice (some ⟨bn, 0, none⟩) M.length cap] t (0, 0)) :=
    (g2.same pa (by simp only [size_alloc_h]; omega) hnp).trans ((hx2.heap hpa).trans ht)
  have hb3 : w3.heap[w.heap.size]? = some (.cells #[.int .i64 m.nd.kind, .string m.nd.name, .string m.nd.text, .int .i64 m.nd.space, m.av, .bool m.nd.dup, .int .i64 m.nd.parent, .int .i64 m.nd.content, m.kv, .int .i64 m.nd.frm, .int .i64 m.nd.to] 30 (0, 0)) := by
    refine (g2.same _ (by simp only [size_alloc_h]; omega) (fun e => hne2 e.symm)).trans ?_
    rw [heap_alloc_h, if_neg (by omega), h3.heap (by simp only [drew_size, size_alloc_h]; omega), drew_h, heap_alloc_h, if_pos rfl]
  (repeat simp only [push_cast, Nat.reduceBEq, Nat.reduceLT, Nat.reduceEqDiff, reduceIte, reduceCtorEq, Nat.reduceMul, Nat.reduceAdd, Nat.reduceSub, Int.reduceEq, Int.reduceLT, Int.reduceLE, Int.reduceNeg, Int.reduceAdd, Int.reduceSub, Int.reduceMul, Nat.reduceLeDiff, Int.reduceToNat, cell_h, can_h, cellO_cells, canO_cells, setO_cells, heap_set_h, heap_alloc_h, size_set_h, size_alloc_h, vcells_agg, succ_ne, ne_succ, List.setIfInBounds_toArray, List.set_cons_succ, List.set_cons_zero, setCells, drew_h, hp3])
  have hA := hM.push hx2 m' hok2 (fun b hb => by have := h4 b hb; simp only [drew_size, size_alloc_h] at this; omega) h5 g1 g2 g3
  have hu4 : Upd F w (w3.setCell ⟨pa, 0, none⟩ (.slice (some ⟨bn', 0, none⟩) (M.length + 1) cap')) :=
    (Upd.trans (hx2.upd (F := F)) g2 fun i hi e => by subst e; exact hMF _ (by simp [blocks])).put (hMF _ (by simp [blocks]))
  have hb4 : (w3.setCell ⟨pa, 0, none⟩ (.slice (some ⟨bn', 0, none⟩) (M.length + 1) cap')).heap[w.heap.size]? = some (.cells #[.int .i64 m.nd.kind, .string m.nd.name, .string m.nd.text, .int .i64 m.nd.space, m.av, .bool m.nd.dup, .int .i64 m.nd.parent, .int .i64 m.nd.content, m.kv, .int .i64 m.nd.frm, .int .i64 m.nd.to] 30 (0, 0)) := by
    rw [heap_set_h, if_neg (by omega), hb3]
  generalize w3.setCell ⟨pa, 0, none⟩ (.slice (some ⟨bn', 0, none⟩) (M.length + 1) cap') = w4 at *
  have hres : Ar w4 pa (L ++ [bareN m.nd]) (fun b => F b ∨ w.heap.size ≤ b) ∧ Upd F w w4 := by
    refine ⟨⟨bn', cap', M ++ [m'], hA, by simp [hML, h1], fun b hb => ?_⟩, hu4⟩
    simp only [blocks, List.flatMap_append, List.flatMap_cons, List.flatMap_nil, List.append_nil, List.mem_cons, List.mem_append] at hb
    rcases hb with rfl | rfl | hb | hb
    · exact .inl (hMF _ (by simp [blocks]))
    · rcases g3 with rfl | g3
      · exact .inl (hMF _ (by simp [blocks]))
      · simp only [size_alloc_h] at g3; exact .inr (by omega)
    · exact .inl (hMF _ (by simp only [blocks, List.mem_cons]; exact .inr (.inr hb)))
    · have := h4 b hb
      simp only [drew_size, size_alloc_h] at this; exact .inr (by omega)
  ((repeat simp only [push_cast, Nat.reduceBEq, Nat.reduceLT, Nat.reduceEqDiff, reduceIte, reduceCtorEq, Nat.reduceMul, Nat.reduceAdd, Nat.reduceSub, Int.reduceEq, Int.reduceLT, Int.reduceLE, Int.reduceNeg, Int.reduceAdd, Int.reduceSub, Int.reduceMul, Nat.reduceLeDiff, Int.reduceToNat, cell_h, can_h, cellO_cells, canO_cells, setO_cells, heap_set_h, heap_alloc_h, size_set_h, size_alloc_h, vcells_agg, succ_ne, ne_succ, List.setIfInBounds_toArray, List.set_cons_succ, List.set_cons_zero, setCells, drew_h, hb4, hk3, hnt']); (repeat (first | (with_reducible first | (refine hK _ _ ?_; clear hK K) | refine (show ∀ σ' w', _ → K σ' w' from by assumption) _ _ ?_ | refine W_seq_k fun K hK => ?_ | refine W_block_k fun K hK => ?_ | refine W_skip ?_ | refine W_ret ?_) | ((first | ((with_reducible refine W_id ?_); refine W_reg (by decide) (by rfl) ?_) | (with_reducible first | refine W_cond ?_ | refine hZ _ _ ?_ | refine W_exit ?_ | refine Wo_id ?_)); repeat1' simp only [push_cast, Nat.reduceBEq, Nat.reduceLT, Nat.reduceEqDiff, reduceIte, reduceCtorEq, Nat.reduceMul, Nat.reduceAdd, Nat.reduceSub, Int.reduceEq, Int.reduceLT, Int.reduceLE, Int.reduceNeg, Int.reduceAdd, Int.reduceSub, Int.reduceMul, Nat.reduceLeDiff, Int.reduceToNat, cell_h, can_h, cellO_cells, canO_cells, setO_cells, heap_set_h, heap_alloc_h, size_set_h, size_alloc_h, vcells_agg, succ_ne, ne_succ, List.setIfInBounds_toArray, List.set_cons_succ, List.set_cons_zero, setCells, drew_h, hb4, hk3, hnt']) | ((repeat ((fail_if_success with_reducible refine hK _ _ ?_); clear hK K)); (with_reducible refine hK _ _ ?_); clear hK K))))
  exact hres
end Go.Proofs.Ytkafpameheohdaa
