/- What the proof leans on,part 4 of 15. -/
import Derived.Test.YtgnnlaeikcnhcaaGreatDoorQHeadsPlayC
set_option linter.unusedSimpArgs false
set_option linter.unusedVariables false
section
namespace Go.Proofs.YtgnnlaeikcnhcaaGreatDoor
open Go.Vk
set_option maxHeartbeats 40000000
theorem ahead {L : List Nd} (h : Gd L) {p : Nat} {k : Nat} (hk : k < (gN L p).kids.length) : ∃ t : Nat,(gN L p).kids[k]? = some (t : Int) ∧ t < L.length ∧ (gN L t).parent = p := by
  have hm := (h.kid p ((gN L p).kids[k])).1 (List.getElem_mem hk)
  have hr := (h.range (j := (gN L p).kids[k]) (by omega)).1
  refine ⟨((gN L p).kids[k]).toNat,?_,by omega,?_⟩
  · rw [List.getElem?_eq_getElem hk]; congr 1; omega
  · rw [Int.toNat_of_nonneg (by omega)]; exact hm.2
theorem kids_ne {l : List Int} {k : Nat} (h : k < l.length) : intCells l ≠ [] := fun e => by
  have := intCells_length l
  rw [e] at this; simp at this; omega
theorem text_c {pa : Nat} {L : List Nd} {F : Nat → Prop} {w : World} (h : Ar w pa L F) (hG : Gd L) (hb : L.length < 100000) (p r : Int) (s : ByteArray) (hs : s.size < 1000000000) (hts : ∀ n ∈ L,n.text.size < 1000000000) :
    Gives Tryz.prog 114 #[.pointer (some ⟨pa,0,none⟩),.int .i64 p,.int .i64 r,.string s] w fun v w' => v = .int .i64 (textN L p r s).2 ∧ Ar w' pa (textN L p r s).1 (fun b => F b ∨ w.heap.size ≤ b) ∧ Upd F w w' := by
  have no : Ar w pa L (fun b => F b ∨ w.heap.size ≤ b) ∧ Upd F w w := ⟨h.mono fun b _ hb => .inl hb,Upd.refl _ _⟩
  have hne := hG.ne
  by_cases h1 : holdsN L p = true
  · obtain ⟨p, rfl, hpl⟩ := holds_in h1
    obtain ⟨bn,cap,M,m,hM,hML,hF,hm,hmn,hl⟩ := h.at (gN_some hpl)
    have hh := hM.head
    have c8 := hM.cell hm (j := 8) (by decide)
    simp only [Laid.cells,List.getElem?_cons_zero,List.getElem?_cons_succ] at c8
    have hkids := (hM.sub m (List.mem_of_getElem? hm)).kids
    rw [hmn] at hkids
    have hi1 : (0 : Int) ≤ p := by omega
    have hi2 : (p : Int) < M.length := by omega
    have hfew := hG.few p
    obtain ⟨va,vc,ekv,hvc⟩ := hkids.ints_len
    rw [ekv] at hkids c8
    by_cases hr1 : r = -1
    · subst hr1
      obtain ⟨kk,hkk,hkl⟩ : ∃ kk : Nat,kk = (gN L p).kids.length ∧ kk ≤ (gN L p).kids.length := ⟨_,rfl,Nat.le_refl _⟩
      have hat : atK (-1) (gN L p).kids = kk := by rw [hkk]; rfl
      by_cases hs0 : s = ⟨#[]⟩
      · have e : textN L p (-1) s = (L,0) := by
          unfold textN
          rw [if_pos ⟨h1,.inl rfl⟩,if_pos hs0]
        rw [e]
        refine Gives.of_W Tryz.call114 Tryz.func114 rfl Tryz.ntmps114 (by simp) ?_; intro Z hZ
        (repeat revert hK K);refine W0 ?_;repeat with_reducible intro K hK
        refine (none_c h hne).mono ?_
        rintro v w' ⟨rfl,rfl⟩
        (repeat revert hK K);refine W0 ?_;repeat with_reducible intro K hK
        refine (holds_c _ h).mono ?_
        rintro v w' ⟨rfl,rfl⟩
        (repeat revert hK K);refine W3 @not_true_eq_false @h1 @hs0 ?_;repeat with_reducible intro K hK
        exact no
      · refine Gives.of_W Tryz.call114 Tryz.func114 rfl Tryz.ntmps114 (by simp) ?_; intro Z hZ
        (repeat revert hK K);refine W0 ?_;repeat with_reducible intro K hK
        refine (none_c h hne).mono ?_
        rintro v w' ⟨rfl,rfl⟩
        (repeat revert hK K);refine W0 ?_;repeat with_reducible intro K hK
        refine (holds_c _ h).mono ?_
        rintro v w' ⟨rfl,rfl⟩
        (repeat revert hK K);refine W7 @not_true_eq_false @h1 @hs0 @hh @hi1 @hi2 @c8 ?_;repeat with_reducible intro K hK
        rw [← hkk]
        by_cases hk0 : kk = 0
        · subst hk0
          have hh1 := (hM.frame (Ext.drew _) fun _ _ h => h.elim).head
          have e : textN L p (-1) s = (hangN (L ++ [textNd s]) p (-1) L.length,0) := by
            unfold textN
            rw [if_pos ⟨h1,.inl rfl⟩,if_neg hs0,if_neg (by rw [hat]; simp)]
            rfl
          refine W_draw (.pas 0 (.pas 1 (.pas 2 (.pas 3 (.pas 4 (.pas 5 (.pas 6 (.pas 7 (.pas 8 (.pas 9 (.pas 10 (.pas 11 (.pas 12 (.pas 13 (.pas 14 (.pas 15 (.pas 16 .fin))))))))))))))))) (fun _ => True) (by decide) mixed (by kernel_rfl) ?_
          refine D4 @hh1 @hi1 @hi2 @Int.lt_irrefl ?_
          (repeat revert hK K);refine W0 ?_;repeat with_reducible intro K hK
          refine build_struct Tryz.zeroValue46 un30 pl30 (cs := #[.int .i64 4,.string ⟨#[]⟩,.string s,.int .i64 0,.slice none 0 0,.bool false,.int .i64 0,.int .i64 0,.slice none 0 0,.int .i64 (-1),.int .i64 (-1)]) (by rfl) ?_
          (repeat revert hK K);refine W0 ?_;repeat with_reducible intro K hK
          refine (add_c (h.ext (Ext.drew _)) hne (by omega) (m := ⟨{ zN with kind := 4,text := s,frm := -1,to := -1 },.slice none 0 0,.slice none 0 0,none,none⟩) (SlAt.nil _ _).rd (show (0 : Nat) < 1000000 by decide)).mono ?_
          rintro v w1 ⟨rfl,hA1,hu1⟩
          have ea : addN L { zN with kind := 4,text := s,frm := -1,to := -1 } = (L ++ [textNd s],(L.length : Int)) := rfl
          simp only [ea] at hA1 ⊢
          have hl1 : (L ++ [textNd s]).length = L.length + 1 := by simp
          (repeat revert hK K);refine W0 ?_;repeat with_reducible intro K hK
          refine (hang_g hA1 (hG.push (n := textNd s) rfl rfl (show (4 : Int) ≠ 1 by decide)) (by omega) (i := L.length) (p := p) (r := (-1)) (by omega) (by omega) (by omega) (fun h => absurd h (by decide))).mono ?_
          rintro v w2 ⟨rfl,hA2,hu2⟩
          (repeat revert hK K);refine W0 ?_;repeat with_reducible intro K hK
          have hz1 := hu1.alike.size
          simp only [drew_size] at hz1
          rw [e]
          refine ⟨rfl,hA2.mono fun b _ hb => ?_,Upd.trans ((Ext.drew w').upd.trans hu1 fun _ _ h => h) hu2 fun b hl hb => ?_⟩
          · simp only [drew_size] at hb
            rcases hb with hb | hb
            · exact hb
            · exact .inr (by omega)
          · simp only [drew_size] at hb
            rcases hb with hb | hb
            · exact hb
            · omega
        · have b0 : (0 : Int) < (kk : Int) := by omega
          have b1 : inI64 ((kk : Int) - 1) := by unfold inI64; omega
          have b2 : (0 : Int) ≤ (kk : Int) - 1 := by omega
          have b3 : (kk : Int) - 1 < ((gN L p).kids.length : Int) := by omega
          have b5 : (kk : Int) - 1 < (kk : Int) := by omega
          have b4 : ((kk : Int) - 1).toNat = kk - 1 := by omega
          obtain ⟨tn,ht,htl,htp⟩ := ahead hG (p := p) (k := kk - 1) (by omega)
          have hkk1 : ((kk : Int) - 1).toNat = kk - 1 := by omega
          have t1 : (0 : Int) ≤ tn := by omega
          have t2 : (tn : Int) < M.length := by omega
          have hMmt : ∃ mt,M[tn]? = some mt ∧ mt.nd = gN L tn := by
            have : (M.map Laid.nd)[tn]? = some (gN L tn) := by rw [hML]; exact gN_some htl
            rw [List.getElem?_map] at this
            exact Option.map_eq_some_iff.1 this
          obtain ⟨mt,hmt,hmtn⟩ := hMmt
          have hM1 := hM.frame (Ext.drew _) fun _ _ h => h.elim
          have hM2 := hM1.frame (Ext.drew _) fun _ _ h => h.elim
          have hh1 := hM1.head
          have hh2 := hM2.head
          have c81 := hM1.cell hm (j := 8) (by decide)
          have c82 := hM2.cell hm (j := 8) (by decide)
          have d0 := hM1.cell hmt (j := 0) (by decide)
          have d2 := hM2.cell hmt (j := 2) (by decide)
          simp only [Laid.cells,List.getElem?_cons_zero,List.getElem?_cons_succ,Nat.add_zero,ekv,hmn,hmtn] at c81 c82 d0 d2
          have hcan := hM2.can (i := tn) (j := 2) (by omega) (by decide)
          obtain ⟨cb,co,kn',kc',ekv',hcb⟩ := hkids.some_of (kids_ne (k := kk - 1) (by omega))
          cases ekv'
          have hk1 := hkids.ext (Ext.drew w')
          have hk2 := hk1.ext (Ext.drew _)
          have hcell := hk1.ints_cell ht
          have hcell2 := hk2.ints_cell ht
          have hcat : (gN L tn).text.size + s.size ≤ 9223372036854775807 := by
            have := hts (gN L tn) (List.mem_of_getElem? (gN_some htl))
            omega
          by_cases h4 : (gN L tn).kind = 4
          · have e : textN L p (-1) s = (L.modify tn (addText s),0) := by
              unfold textN
              rw [if_pos ⟨h1,.inl rfl⟩,if_neg hs0,if_pos ⟨by rw [hat]; omega,by rw [hat,hkk1,ht]; exact h4⟩,hat,hkk1,ht]
              rfl
            refine W_draw (.pas 0 (.pas 1 (.pas 2 (.pas 3 (.pas 4 (.pas 5 (.pas 6 (.pas 7 (.pas 8 (.pas 9 (.pas 10 (.pas 11 (.pas 12 (.pas 13 (.pas 14 (.pas 15 (.pas 16 .fin))))))))))))))))) (fun _ => True) (by decide) mixed (by kernel_rfl) ?_
            (repeat (first | ((first | refine pas_plain rfl ?_ | refine pas_g rfl rfl ?_ | refine act_plain rfl ?_ | refine act_g rfl rfl ?_ | refine last_plain rfl ?_ | refine tail_plain rfl ?_ | refine tail_g rfl rfl ?_); (repeat simp only [push_cast,seval,-Nat.reduceSubDiff,hh1,hi1,hi2,c81,hcell,b0,b1,b2,b3,b4,b5,t1,t2,d0,h4])) | (refine tail_fin ?_) | (refine sch_fin ?_)))
            (repeat revert hK K);refine W0 ?_;repeat with_reducible intro K hK
  
            refine W_draw (.pas 0 (.pas 1 (.pas 2 (.pas 3 (.pas 4 (.pas 5 (.pas 6 (.pas 7 (.pas 8 (.pas 9 (.pas 10 (.pas 11 (.pas 12 (.pas 13 (.pas 14 (.pas 15 (.last 16))))))))))))))))) (fun _ => True) (by decide) mixed (by kernel_rfl) ?_
            (repeat (first | ((first | refine pas_plain rfl ?_ | refine pas_g rfl rfl ?_ | refine act_plain rfl ?_ | refine act_g rfl rfl ?_ | refine last_plain rfl ?_ | refine tail_plain rfl ?_ | refine tail_g rfl rfl ?_); (repeat simp only [push_cast,seval,-Nat.reduceSubDiff,hh2,hi1,hi2,c82,hcell2,b0,b1,b2,b3,b4,b5,t1,t2,d2,hcat,hcan])) | (refine tail_fin ?_) | (refine sch_fin ?_)))
            (repeat revert hK K);refine W0 ?_;repeat with_reducible intro K hK
            have hA := hM2.repl (i := tn) (m := mt) hmt { mt with nd := addText s mt.nd } 2 (.string ((gN L tn).text ++ s)) (by rw [← hmtn]; rfl) (by decide) (Upd.refl none_ _) (fun _ _ h => h.elim) ⟨(hM2.sub mt (List.mem_of_getElem? hmt)).attrs,(hM2.sub mt (List.mem_of_getElem? hmt)).kids⟩ (fun b hb => .inl hb) (hM2.nd_blks (List.mem_of_getElem? hmt)).1
            have hu : Upd F w' (w'.drew.drew.setCell ⟨bn,tn * 11 + 2,none⟩ (.string ((gN L tn).text ++ s))) := ((Upd.refl F w').drewR.drewR).put (hF _ (by simp [blocks]))
            rw [e]
            refine ⟨rfl,⟨bn,cap,_,hA,?_,fun b hb => ?_⟩,hu⟩
            · rw [map_set_modify (addText s) hmt rfl,hML]
            · rcases blocks_set hb with hb | hb
              · exact .inl (hF _ hb)
              · exact .inl (hF _ (by simp only [blocks,List.mem_cons,List.mem_flatMap]; exact .inr (.inr ⟨mt,List.mem_of_getElem? hmt,hb⟩)))
          · have e : textN L p (-1) s = (hangN (L ++ [textNd s]) p (-1) L.length,0) := by
              unfold textN
              rw [if_pos ⟨h1,.inl rfl⟩,if_neg hs0,if_neg (by rw [hat,hkk1,ht]; simp [h4])]
              rfl
            refine W_draw (.pas 0 (.pas 1 (.pas 2 (.pas 3 (.pas 4 (.pas 5 (.pas 6 (.pas 7 (.pas 8 (.pas 9 (.pas 10 (.pas 11 (.pas 12 (.pas 13 (.pas 14 (.pas 15 (.pas 16 .fin))))))))))))))))) (fun _ => True) (by decide) mixed (by kernel_rfl) ?_
            (repeat (first | ((first | refine pas_plain rfl ?_ | refine pas_g rfl rfl ?_ | refine act_plain rfl ?_ | refine act_g rfl rfl ?_ | refine last_plain rfl ?_ | refine tail_plain rfl ?_ | refine tail_g rfl rfl ?_); (repeat simp only [push_cast,seval,-Nat.reduceSubDiff,hh1,hi1,hi2,c81,hcell,b0,b1,b2,b3,b4,b5,t1,t2,d0,h4])) | (refine tail_fin ?_) | (refine sch_fin ?_)))
            (repeat revert hK K);refine W0 ?_;repeat with_reducible intro K hK
            refine build_struct Tryz.zeroValue46 un30 pl30 (cs := #[.int .i64 4,.string ⟨#[]⟩,.string s,.int .i64 0,.slice none 0 0,.bool false,.int .i64 0,.int .i64 0,.slice none 0 0,.int .i64 (-1),.int .i64 (-1)]) (by rfl) ?_
            (repeat revert hK K);refine W0 ?_;repeat with_reducible intro K hK
            refine (add_c (h.ext (Ext.drew _)) hne (by omega) (m := ⟨{ zN with kind := 4,text := s,frm := -1,to := -1 },.slice none 0 0,.slice none 0 0,none,none⟩) (SlAt.nil _ _).rd (show (0 : Nat) < 1000000 by decide)).mono ?_
            rintro v w1 ⟨rfl,hA1,hu1⟩
            have ea : addN L { zN with kind := 4,text := s,frm := -1,to := -1 } = (L ++ [textNd s],(L.length : Int)) := rfl
            simp only [ea] at hA1 ⊢
            have hl1 : (L ++ [textNd s]).length = L.length + 1 := by simp
            (repeat revert hK K);refine W0 ?_;repeat with_reducible intro K hK
            refine (hang_g hA1 (hG.push (n := textNd s) rfl rfl (show (4 : Int) ≠ 1 by decide)) (by omega) (i := L.length) (p := p) (r := (-1)) (by omega) (by omega) (by omega) (fun h => absurd h (by decide))).mono ?_
            rintro v w2 ⟨rfl,hA2,hu2⟩
            (repeat revert hK K);refine W0 ?_;repeat with_reducible intro K hK
            have hz1 := hu1.alike.size
            simp only [drew_size] at hz1
            rw [e]
            refine ⟨rfl,hA2.mono fun b _ hb => ?_,Upd.trans ((Ext.drew w').upd.trans hu1 fun _ _ h => h) hu2 fun b hl hb => ?_⟩
            · simp only [drew_size] at hb
              rcases hb with hb | hb
              · exact hb
              · exact .inr (by omega)
            · simp only [drew_size] at hb
              rcases hb with hb | hb
              · exact hb
              · omega
    · by_cases hr2 : 0 ≤ r ∧ r < L.length
      · obtain ⟨r, rfl⟩ : ∃ k : Nat, r = k := ⟨r.toNat, by omega⟩
        have hrl : r < L.length := by omega
        obtain ⟨mr,hmr,hmrn⟩ : ∃ mt,M[r]? = some mt ∧ mt.nd = gN L r := by
          have : (M.map Laid.nd)[r]? = some (gN L r) := by rw [hML]; exact gN_some hrl
          rw [List.getElem?_map] at this
          exact Option.map_eq_some_iff.1 this
        have c6 := hM.cell hmr (j := 6) (by decide)
        simp only [Laid.cells,List.getElem?_cons_zero,List.getElem?_cons_succ,hmrn] at c6
        have hr3 : (0 : Int) ≤ r := by omega
        have hr4 : (r : Int) < M.length := by omega
        have hr5 : (r : Int) < L.length := by omega
        by_cases h3 : (gN L r).parent = p
        · have hmem := (hG.kid p r).2 ⟨hi1, h3⟩
          obtain ⟨kk,hkk,hkl,_,_⟩ := idxF_mem r (gN L p).kids 0 hmem
          rw [Nat.zero_add] at hkk
          have hat : atK r (gN L p).kids = kk := by rw [← hkk]; exact if_neg (by omega)
          have okr : (r : Int) = -1 ∨ ((0 ≤ (r : Int) ∧ (r : Int) < L.length) ∧ (gN L r).parent = p) := .inr ⟨hr2,h3⟩
          by_cases hs0 : s = ⟨#[]⟩
          · have e : textN L p r s = (L,0) := by
              unfold textN
              rw [if_pos ⟨h1,okr⟩,if_pos hs0]
            rw [e]
            refine Gives.of_W Tryz.call114 Tryz.func114 rfl Tryz.ntmps114 (by simp) ?_; intro Z hZ
            (repeat revert hK K);refine W0 ?_;repeat with_reducible intro K hK
            refine (none_c h hne).mono ?_
            rintro v w' ⟨rfl,rfl⟩
            (repeat revert hK K);refine W0 ?_;repeat with_reducible intro K hK
            refine (holds_c _ h).mono ?_
            rintro v w' ⟨rfl,rfl⟩
            (repeat revert hK K);refine W4 @not_true_eq_false @h1 @hs0 @hr1 ?_;repeat with_reducible intro K hK
            refine (has_c _ h).mono ?_
            rintro v w' ⟨rfl,rfl⟩
            (repeat first|(with_reducible first|(refine hK _ _ ?_;clear hK K)|refine ‹∀σ w,_→K σ w› _ _ ?_|(refine W_st ?_;constructor;try intro K hK))|((with_reducible first|refine hZ _ _ ?_|refine W_rg ?_|skip);repeat1' simp only[push_cast,seval,-Nat.reduceSubDiff,not_true_eq_false,hr2,hr3,hr4,hr5,hh,c6,h3,hs0])|((repeat((fail_if_success with_reducible refine hK _ _ ?_);clear hK K));with_reducible refine hK _ _ ?_;clear hK K))
            exact no
          · refine Gives.of_W Tryz.call114 Tryz.func114 rfl Tryz.ntmps114 (by simp) ?_; intro Z hZ
            (repeat revert hK K);refine W0 ?_;repeat with_reducible intro K hK
            refine (none_c h hne).mono ?_
            rintro v w' ⟨rfl,rfl⟩
            (repeat revert hK K);refine W0 ?_;repeat with_reducible intro K hK
            refine (holds_c _ h).mono ?_
            rintro v w' ⟨rfl,rfl⟩
            (repeat revert hK K);refine W4 @not_true_eq_false @h1 @hs0 @hr1 ?_;repeat with_reducible intro K hK
            refine (has_c _ h).mono ?_
            rintro v w' ⟨rfl,rfl⟩
            (repeat first|(with_reducible first|(refine hK _ _ ?_;clear hK K)|refine ‹∀σ w,_→K σ w› _ _ ?_|(refine W_st ?_;constructor;try intro K hK))|((with_reducible first|refine hZ _ _ ?_|refine W_rg ?_|skip);repeat1' simp only[push_cast,seval,-Nat.reduceSubDiff,not_true_eq_false,hr2,hr3,hr4,hr5,hh,c6,h3,hs0,hi1,hi2,c8])|((repeat((fail_if_success with_reducible refine hK _ _ ?_);clear hK K));with_reducible refine hK _ _ ?_;clear hK K))
            refine (index_c _ hkids (by omega)).mono ?_
            rintro v w' ⟨rfl,rfl⟩
            rw [hkk]
            (repeat revert hK K);refine W0 ?_;repeat with_reducible intro K hK
            by_cases hk0 : kk = 0
            · subst hk0
              have hh1 := (hM.frame (Ext.drew _) fun _ _ h => h.elim).head
              have e : textN L p r s = (hangN (L ++ [textNd s]) p r L.length,0) := by
                unfold textN
                rw [if_pos ⟨h1,okr⟩,if_neg hs0,if_neg (by rw [hat]; simp)]
                rfl
              refine W_draw (.pas 0 (.pas 1 (.pas 2 (.pas 3 (.pas 4 (.pas 5 (.pas 6 (.pas 7 (.pas 8 (.pas 9 (.pas 10 (.pas 11 (.pas 12 (.pas 13 (.pas 14 (.pas 15 (.pas 16 .fin))))))))))))))))) (fun _ => True) (by decide) mixed (by kernel_rfl) ?_
              refine D4 @hh1 @hi1 @hi2 @Int.lt_irrefl ?_
              (repeat revert hK K);refine W0 ?_;repeat with_reducible intro K hK
              refine build_struct Tryz.zeroValue46 un30 pl30 (cs := #[.int .i64 4,.string ⟨#[]⟩,.string s,.int .i64 0,.slice none 0 0,.bool false,.int .i64 0,.int .i64 0,.slice none 0 0,.int .i64 (-1),.int .i64 (-1)]) (by rfl) ?_
              (repeat revert hK K);refine W0 ?_;repeat with_reducible intro K hK
              refine (add_c (h.ext (Ext.drew _)) hne (by omega) (m := ⟨{ zN with kind := 4,text := s,frm := -1,to := -1 },.slice none 0 0,.slice none 0 0,none,none⟩) (SlAt.nil _ _).rd (show (0 : Nat) < 1000000 by decide)).mono ?_
              rintro v w1 ⟨rfl,hA1,hu1⟩
              have ea : addN L { zN with kind := 4,text := s,frm := -1,to := -1 } = (L ++ [textNd s],(L.length : Int)) := rfl
              simp only [ea] at hA1 ⊢
              have hl1 : (L ++ [textNd s]).length = L.length + 1 := by simp
              (repeat revert hK K);refine W0 ?_;repeat with_reducible intro K hK
              refine (hang_g hA1 (hG.push (n := textNd s) rfl rfl (show (4 : Int) ≠ 1 by decide)) (by omega) (i := L.length) (p := p) (r := r) (by omega) (by omega) (by omega) (fun _ => ⟨by omega,by rw [gN_push,if_neg (by omega)]; exact h3⟩)).mono ?_
              rintro v w2 ⟨rfl,hA2,hu2⟩
              (repeat revert hK K);refine W0 ?_;repeat with_reducible intro K hK
              have hz1 := hu1.alike.size
              simp only [drew_size] at hz1
              rw [e]
              refine ⟨rfl,hA2.mono fun b _ hb => ?_,Upd.trans ((Ext.drew w').upd.trans hu1 fun _ _ h => h) hu2 fun b hl hb => ?_⟩
              · simp only [drew_size] at hb
                rcases hb with hb | hb
                · exact hb
                · exact .inr (by omega)
              · simp only [drew_size] at hb
                rcases hb with hb | hb
                · exact hb
                · omega
            · have b0 : (0 : Int) < (kk : Int) := by omega
              have b1 : inI64 ((kk : Int) - 1) := by unfold inI64; omega
              have b2 : (0 : Int) ≤ (kk : Int) - 1 := by omega
              have b3 : (kk : Int) - 1 < ((gN L p).kids.length : Int) := by omega
              have b5 : (kk : Int) - 1 < (kk : Int) := by omega
              have b4 : ((kk : Int) - 1).toNat = kk - 1 := by omega
              obtain ⟨tn,ht,htl,htp⟩ := ahead hG (p := p) (k := kk - 1) (by omega)
              have hkk1 : ((kk : Int) - 1).toNat = kk - 1 := by omega
              have t1 : (0 : Int) ≤ tn := by omega
              have t2 : (tn : Int) < M.length := by omega
              have hMmt : ∃ mt,M[tn]? = some mt ∧ mt.nd = gN L tn := by
                have : (M.map Laid.nd)[tn]? = some (gN L tn) := by rw [hML]; exact gN_some htl
                rw [List.getElem?_map] at this
                exact Option.map_eq_some_iff.1 this
              obtain ⟨mt,hmt,hmtn⟩ := hMmt
              have hM1 := hM.frame (Ext.drew _) fun _ _ h => h.elim
              have hM2 := hM1.frame (Ext.drew _) fun _ _ h => h.elim
              have hh1 := hM1.head
              have hh2 := hM2.head
              have c81 := hM1.cell hm (j := 8) (by decide)
              have c82 := hM2.cell hm (j := 8) (by decide)
              have d0 := hM1.cell hmt (j := 0) (by decide)
              have d2 := hM2.cell hmt (j := 2) (by decide)
              simp only [Laid.cells,List.getElem?_cons_zero,List.getElem?_cons_succ,Nat.add_zero,ekv,hmn,hmtn] at c81 c82 d0 d2
              have hcan := hM2.can (i := tn) (j := 2) (by omega) (by decide)
              obtain ⟨cb,co,kn',kc',ekv',hcb⟩ := hkids.some_of (kids_ne (k := kk - 1) (by omega))
              cases ekv'
              have hk1 := hkids.ext (Ext.drew w')
              have hk2 := hk1.ext (Ext.drew _)
              have hcell := hk1.ints_cell ht
              have hcell2 := hk2.ints_cell ht
              have hcat : (gN L tn).text.size + s.size ≤ 9223372036854775807 := by
                have := hts (gN L tn) (List.mem_of_getElem? (gN_some htl))
                omega
              by_cases h4 : (gN L tn).kind = 4
              · have e : textN L p r s = (L.modify tn (addText s),0) := by
                  unfold textN
                  rw [if_pos ⟨h1,okr⟩,if_neg hs0,if_pos ⟨by rw [hat]; omega,by rw [hat,hkk1,ht]; exact h4⟩,hat,hkk1,ht]
                  rfl
                refine W_draw (.pas 0 (.pas 1 (.pas 2 (.pas 3 (.pas 4 (.pas 5 (.pas 6 (.pas 7 (.pas 8 (.pas 9 (.pas 10 (.pas 11 (.pas 12 (.pas 13 (.pas 14 (.pas 15 (.pas 16 .fin))))))))))))))))) (fun _ => True) (by decide) mixed (by kernel_rfl) ?_
                (repeat (first | ((first | refine pas_plain rfl ?_ | refine pas_g rfl rfl ?_ | refine act_plain rfl ?_ | refine act_g rfl rfl ?_ | refine last_plain rfl ?_ | refine tail_plain rfl ?_ | refine tail_g rfl rfl ?_); (repeat simp only [push_cast,seval,-Nat.reduceSubDiff,hh1,hi1,hi2,c81,hcell,b0,b1,b2,b3,b4,b5,t1,t2,d0,h4])) | (refine tail_fin ?_) | (refine sch_fin ?_)))
                (repeat revert hK K);refine W0 ?_;repeat with_reducible intro K hK
  
                refine W_draw (.pas 0 (.pas 1 (.pas 2 (.pas 3 (.pas 4 (.pas 5 (.pas 6 (.pas 7 (.pas 8 (.pas 9 (.pas 10 (.pas 11 (.pas 12 (.pas 13 (.pas 14 (.pas 15 (.last 16))))))))))))))))) (fun _ => True) (by decide) mixed (by kernel_rfl) ?_
                (repeat (first | ((first | refine pas_plain rfl ?_ | refine pas_g rfl rfl ?_ | refine act_plain rfl ?_ | refine act_g rfl rfl ?_ | refine last_plain rfl ?_ | refine tail_plain rfl ?_ | refine tail_g rfl rfl ?_); (repeat simp only [push_cast,seval,-Nat.reduceSubDiff,hh2,hi1,hi2,c82,hcell2,b0,b1,b2,b3,b4,b5,t1,t2,d2,hcat,hcan])) | (refine tail_fin ?_) | (refine sch_fin ?_)))
                (repeat revert hK K);refine W0 ?_;repeat with_reducible intro K hK
                have hA := hM2.repl (i := tn) (m := mt) hmt { mt with nd := addText s mt.nd } 2 (.string ((gN L tn).text ++ s)) (by rw [← hmtn]; rfl) (by decide) (Upd.refl none_ _) (fun _ _ h => h.elim) ⟨(hM2.sub mt (List.mem_of_getElem? hmt)).attrs,(hM2.sub mt (List.mem_of_getElem? hmt)).kids⟩ (fun b hb => .inl hb) (hM2.nd_blks (List.mem_of_getElem? hmt)).1
                have hu : Upd F w' (w'.drew.drew.setCell ⟨bn,tn * 11 + 2,none⟩ (.string ((gN L tn).text ++ s))) := ((Upd.refl F w').drewR.drewR).put (hF _ (by simp [blocks]))
                rw [e]
                refine ⟨rfl,⟨bn,cap,_,hA,?_,fun b hb => ?_⟩,hu⟩
                · rw [map_set_modify (addText s) hmt rfl,hML]
                · rcases blocks_set hb with hb | hb
                  · exact .inl (hF _ hb)
                  · exact .inl (hF _ (by simp only [blocks,List.mem_cons,List.mem_flatMap]; exact .inr (.inr ⟨mt,List.mem_of_getElem? hmt,hb⟩)))
              · have e : textN L p r s = (hangN (L ++ [textNd s]) p r L.length,0) := by
                  unfold textN
                  rw [if_pos ⟨h1,okr⟩,if_neg hs0,if_neg (by rw [hat,hkk1,ht]; simp [h4])]
                  rfl
                refine W_draw (.pas 0 (.pas 1 (.pas 2 (.pas 3 (.pas 4 (.pas 5 (.pas 6 (.pas 7 (.pas 8 (.pas 9 (.pas 10 (.pas 11 (.pas 12 (.pas 13 (.pas 14 (.pas 15 (.pas 16 .fin))))))))))))))))) (fun _ => True) (by decide) mixed (by kernel_rfl) ?_
                (repeat (first | ((first | refine pas_plain rfl ?_ | refine pas_g rfl rfl ?_ | refine act_plain rfl ?_ | refine act_g rfl rfl ?_ | refine last_plain rfl ?_ | refine tail_plain rfl ?_ | refine tail_g rfl rfl ?_); (repeat simp only [push_cast,seval,-Nat.reduceSubDiff,hh1,hi1,hi2,c81,hcell,b0,b1,b2,b3,b4,b5,t1,t2,d0,h4])) | (refine tail_fin ?_) | (refine sch_fin ?_)))
                (repeat revert hK K);refine W0 ?_;repeat with_reducible intro K hK
                refine build_struct Tryz.zeroValue46 un30 pl30 (cs := #[.int .i64 4,.string ⟨#[]⟩,.string s,.int .i64 0,.slice none 0 0,.bool false,.int .i64 0,.int .i64 0,.slice none 0 0,.int .i64 (-1),.int .i64 (-1)]) (by rfl) ?_
                (repeat revert hK K);refine W0 ?_;repeat with_reducible intro K hK
                refine (add_c (h.ext (Ext.drew _)) hne (by omega) (m := ⟨{ zN with kind := 4,text := s,frm := -1,to := -1 },.slice none 0 0,.slice none 0 0,none,none⟩) (SlAt.nil _ _).rd (show (0 : Nat) < 1000000 by decide)).mono ?_
                rintro v w1 ⟨rfl,hA1,hu1⟩
                have ea : addN L { zN with kind := 4,text := s,frm := -1,to := -1 } = (L ++ [textNd s],(L.length : Int)) := rfl
                simp only [ea] at hA1 ⊢
                have hl1 : (L ++ [textNd s]).length = L.length + 1 := by simp
                (repeat revert hK K);refine W0 ?_;repeat with_reducible intro K hK
                refine (hang_g hA1 (hG.push (n := textNd s) rfl rfl (show (4 : Int) ≠ 1 by decide)) (by omega) (i := L.length) (p := p) (r := r) (by omega) (by omega) (by omega) (fun _ => ⟨by omega,by rw [gN_push,if_neg (by omega)]; exact h3⟩)).mono ?_
                rintro v w2 ⟨rfl,hA2,hu2⟩
                (repeat revert hK K);refine W0 ?_;repeat with_reducible intro K hK
                have hz1 := hu1.alike.size
                simp only [drew_size] at hz1
                rw [e]
                refine ⟨rfl,hA2.mono fun b _ hb => ?_,Upd.trans ((Ext.drew w').upd.trans hu1 fun _ _ h => h) hu2 fun b hl hb => ?_⟩
                · simp only [drew_size] at hb
                  rcases hb with hb | hb
                  · exact hb
                  · exact .inr (by omega)
                · simp only [drew_size] at hb
                  rcases hb with hb | hb
                  · exact hb
                  · omega
        · have e : textN L p r s = (L, 2) := if_neg (fun ⟨_, hx⟩ => by rcases hx with hx | hx; exact hr1 hx; exact h3 hx.2)
          rw [e]
          refine Gives.of_W Tryz.call114 Tryz.func114 rfl Tryz.ntmps114 (by simp) ?_; intro Z hZ
          (repeat revert hK K);refine W0 ?_;repeat with_reducible intro K hK
          refine (none_c h hne).mono ?_
          rintro v w' ⟨rfl,rfl⟩
          (repeat revert hK K);refine W0 ?_;repeat with_reducible intro K hK
          refine (holds_c _ h).mono ?_
          rintro v w' ⟨rfl,rfl⟩
          (repeat revert hK K);refine W3 @not_true_eq_false @h1 @hr1 ?_;repeat with_reducible intro K hK
          refine (has_c _ h).mono ?_
          rintro v w' ⟨rfl,rfl⟩
          (repeat revert hK K);refine W8 @not_true_eq_false @hr2 @hr3 @hr4 @hr5 @hh @c6 @h3 ?_;repeat with_reducible intro K hK
          exact no
      · have e : textN L p r s = (L, 2) := if_neg (fun ⟨_, hx⟩ => by rcases hx with hx | hx; exact hr1 hx; exact hr2 hx.1)
        rw [e]
        refine Gives.of_W Tryz.call114 Tryz.func114 rfl Tryz.ntmps114 (by simp) ?_; intro Z hZ
        (repeat revert hK K);refine W0 ?_;repeat with_reducible intro K hK
        refine (none_c h hne).mono ?_
        rintro v w' ⟨rfl,rfl⟩
        (repeat revert hK K);refine W0 ?_;repeat with_reducible intro K hK
        refine (holds_c _ h).mono ?_
        rintro v w' ⟨rfl,rfl⟩
        (repeat revert hK K);refine W3 @not_true_eq_false @h1 @hr1 ?_;repeat with_reducible intro K hK
        refine (has_c _ h).mono ?_
        rintro v w' ⟨rfl,rfl⟩
        (repeat revert hK K);refine W2 @not_true_eq_false @hr2 ?_;repeat with_reducible intro K hK
        exact no
  · have e : textN L p r s = (L, 2) := if_neg (by simp [h1])
    rw [e]
    replace h1 : holdsN L p = false := by simpa using h1
    refine Gives.of_W Tryz.call114 Tryz.func114 rfl Tryz.ntmps114 (by simp) ?_; intro Z hZ
    (repeat revert hK K);refine W0 ?_;repeat with_reducible intro K hK
    refine (none_c h hne).mono ?_
    rintro v w' ⟨rfl,rfl⟩
    (repeat revert hK K);refine W0 ?_;repeat with_reducible intro K hK
    refine (holds_c _ h).mono ?_
    rintro v w' ⟨rfl,rfl⟩
    (repeat revert hK K);refine W2 @not_true_eq_false @h1 ?_;repeat with_reducible intro K hK
    exact no
end Go.Proofs.YtgnnlaeikcnhcaaGreatDoor
end
section
namespace Go.Vk
def AF (w0 : World) (P : Nat → Prop) (b : Nat) : Prop := w0.heap.size ≤ b ∧ ¬ P b
structure At (w0 w : World) (P : Nat → Prop) (pa : Nat) (L : List Nd) : Prop where
  ar : Ar w pa L (AF w0 P)
  gd : Gd L
  ext : Ext w0 w
  low : ∀ b,P b → b < w.heap.size
def noP : Nat → Prop := fun _ => False
theorem At.next {w0 w w' : World} {P : Nat → Prop} {pa : Nat} {L L' : List Nd} (h : At w0 w P pa L) (ha : Ar w' pa L' (fun b => AF w0 P b ∨ w.heap.size ≤ b)) (hg : Gd L') (hu : Upd (AF w0 P) w w') : At w0 w' P pa L' :=
  ⟨ha.mono fun b _ hb => by
    rcases hb with hb | hb
    · exact hb
    · exact ⟨by have := h.ext.alike.size; omega,fun hp => by have := h.low b hp; omega⟩,
    hg,Upd.trans h.ext hu fun i hi hb => by have := hb.1; omega,fun b hb => by have := h.low b hb; have := hu.alike.size; omega⟩
theorem At.pass {w0 w w' : World} {P : Nat → Prop} {pa : Nat} {L : List Nd} (h : At w0 w P pa L) (hu : Ext w w') : At w0 w' P pa L :=
  ⟨h.ar.ext hu,h.gd,h.ext.trans hu,fun b hb => by have := h.low b hb; have := hu.alike.size; omega⟩
theorem At.frame {G : Nat → Prop} {w0 w w' : World} {P : Nat → Prop} {pa : Nat} {L : List Nd} (h : At w0 w P pa L) (hu : Upd G w w') (hG : ∀ b,G b → P b ∧ w0.heap.size ≤ b) : At w0 w' P pa L :=
  ⟨h.ar.frame hu fun b hb hg => hb.2 (hG b hg).1,h.gd,Upd.trans h.ext hu fun i hi hb => by have := (hG i hb).2; omega,fun b hb => by have := h.low b hb; have := hu.alike.size; omega⟩
theorem At.guard {Q : Nat → Prop} {w0 w w' : World} {P : Nat → Prop} {pa : Nat} {L : List Nd} (h : At w0 w P pa L) (hu : Ext w w') (hQ : ∀ b,Q b → P b ∨ (w.heap.size ≤ b ∧ b < w'.heap.size)) : At w0 w' Q pa L :=
  ⟨(h.ar.mono (G := AF w0 Q) fun b hb hf => ⟨hf.1,fun hq => by rcases hQ b hq with hp | hp; exact hf.2 hp; omega⟩).ext hu,h.gd,h.ext.trans hu,fun b hb => by
    rcases hQ b hb with hp | hp
    · have := h.low b hp; have := hu.alike.size; omega
    · exact hp.2⟩
end Go.Vk
namespace Go.Proofs.YtgnnlaeikcnhcaaGreatDoor
open Go.Vk
theorem new_a {w0 : World} :
    Gives Tryz.prog 92 #[] w0 fun v w' => ∃ pa,v = .pointer (some ⟨pa,0,none⟩) ∧ At w0 w' noP pa [docN] :=
  new_c.mono fun v w' ⟨pa,h1,h2,h3⟩ => ⟨pa,h1,h2.mono fun b _ hb => ⟨hb,id⟩,docN_gd,h3,fun _ h => h.elim⟩
section
variable {w0 w : World} {P : Nat → Prop} {pa : Nat} {L : List Nd}
theorem len_a (h : At w0 w P pa L) : Gives Tryz.prog 26 #[.pointer (some ⟨pa,0,none⟩)] w fun v w' => v = .int .i64 (L.length : Int) ∧ w' = w := len_c h.ar
theorem add_a (h : At w0 w P pa L) (hb : L.length < 100000) {m : Laid} (hm : RdAt w 2 m.av (attrCells m.nd.attrs)) (hmb : m.nd.attrs.length < 1000000) :
    Gives Tryz.prog 98 #[.pointer (some ⟨pa,0,none⟩),m.val] w fun v w' => v = .int .i64 (addN L m.nd).2 ∧ At w0 w' P pa (addN L m.nd).1 ∧ Upd (AF w0 P) w w' :=
  (add_c h.ar h.gd.ne (by omega) hm hmb).mono fun v w' ⟨h1,h2,h3⟩ => ⟨h1,h.next h2 (add_gd h.gd _) h3,h3⟩
theorem append_a (h : At w0 w P pa L) (hb : L.length < 100000) (p i : Int) :
    Gives Tryz.prog 132 #[.pointer (some ⟨pa,0,none⟩),.int .i64 p,.int .i64 i] w fun v w' => v = .int .i64 (appendN L p i).2 ∧ At w0 w' P pa (appendN L p i).1 ∧ Upd (AF w0 P) w w' :=
  (append_c h.ar h.gd (by omega) p i).mono fun v w' ⟨h1,h2,h3⟩ => ⟨h1,h.next h2 (append_gd h.gd _ _) h3,h3⟩
theorem before_a (h : At w0 w P pa L) (hb : L.length < 100000) (i r : Int) :
    Gives Tryz.prog 131 #[.pointer (some ⟨pa,0,none⟩),.int .i64 i,.int .i64 r] w fun v w' => v = .int .i64 (beforeN L i r).2 ∧ At w0 w' P pa (beforeN L i r).1 ∧ Upd (AF w0 P) w w' :=
  (before_c h.ar h.gd (by omega) i r).mono fun v w' ⟨h1,h2,h3⟩ => ⟨h1,h.next h2 (before_gd h.gd _ _) h3,h3⟩
theorem text_a (h : At w0 w P pa L) (hb : L.length < 100000) (p r : Int) (s : ByteArray) (hs : s.size < 1000000000) (hts : ∀ n ∈ L,n.text.size < 1000000000) :
    Gives Tryz.prog 114 #[.pointer (some ⟨pa,0,none⟩),.int .i64 p,.int .i64 r,.string s] w fun v w' => v = .int .i64 (textN L p r s).2 ∧ At w0 w' P pa (textN L p r s).1 ∧ Upd (AF w0 P) w w' :=
  (text_c h.ar h.gd hb p r s hs hts).mono fun v w' ⟨h1,h2,h3⟩ => ⟨h1,h.next h2 (text_gd h.gd _ _ _) h3,h3⟩
theorem node_a (h : At w0 w P pa L) (hb : L.length < 100000) (ha : ∀ n ∈ L,n.attrs.length < 1000000) (i : Int) :
    Gives Tryz.prog 29 #[.pointer (some ⟨pa,0,none⟩),.int .i64 i] w fun v w' => ∃ m : Laid,v = m.val ∧ m.nd = (nd? L i).getD zN ∧ m.ok w' ∧ At w0 w' P pa L ∧ Ext w w' ∧ (∀ b ∈ m.blks,w.heap.size ≤ b) ∧ m.blks.Nodup :=
  (node_c h.ar (fun n hn => by
    obtain ⟨k,hk⟩ := List.getElem?_of_mem hn
    refine ⟨?_,ha n hn⟩
    have := h.gd.few k
    rw [gN_nat hk] at this; omega) i).mono fun v w' ⟨m,h1,h2,h3,h4,h5,h6⟩ => ⟨m,h1,h2,h3,h.pass h4,h4,h5,h6⟩
end
end Go.Proofs.YtgnnlaeikcnhcaaGreatDoor
end
section
namespace Go.Vk
def elN (s : ByteArray) : Nd := { zN with kind := 3,name := s }
def sDiv : ByteArray := ⟨#[100,105,118]⟩
def s_a : ByteArray := ⟨#[97]⟩
def s_b : ByteArray := ⟨#[98]⟩
def s_c : ByteArray := ⟨#[99]⟩
def g1 : List Nd := (addN [docN] (elN sDiv)).1
def g2 : List Nd := (appendN g1 0 1).1
def g3 : List Nd := (addN g2 (elN tmpl)).1
def g4 : List Nd := (appendN g3 1 2).1
def g5 : List Nd := (textN g4 1 (-1) s_a).1
def g6 : List Nd := (textN g5 1 (-1) s_b).1
def g7 : List Nd := (textN g6 1 4 s_c).1
def g8 : List Nd := (beforeN g7 5 2).1
end Go.Vk
end
section
namespace Go.Vk
open Go
theorem Pure1_eq {P : Program} {s : Sem Value} {v : Value} (h : ∀ w,s.run P w = .ok v w) (w : World) (K : Value → World → Prop) : Pure1 P s w K = K v w := by
  refine propext ⟨fun ⟨u,h1,h2⟩ => ?_,fun hk => ⟨v,h,hk⟩⟩
  have := h1 w
  rw [h w] at this
  cases this; exact h2
end Go.Vk
namespace Go.Proofs.YtgnnlaeikcnhcaaGreatDoor
open Go.Vk
theorem fld7 (m : Laid) (w : World) (K : Value → World → Prop) : Pure1 Tryz.prog (Instr.field 46 m.val 7) w K = K (.int .i64 m.nd.content) w :=
  Pure1_eq (fun w => by rw [Laid.val_eq]; simp [Instr.field,run_underlying Tryz.underlying46,asAgg,part,Tryz.sizeOf3,Sem.run]) w K
end Go.Proofs.YtgnnlaeikcnhcaaGreatDoor
end
section
namespace Go.Vk
theorem lapp_nil {α : Type} (r : List α) : List.append [] r = r := rfl
theorem lapp_cons {α : Type} (x : α) (l r : List α) : List.append (x :: l) r = x :: List.append l r := rfl
theorem Wo_flat {P : Program} {l l' : List Oper} {σ : Regs} {w : World} {K : Regs → World → Prop} (hl : l = l') (h : Wo P l'.toArray l' σ w K) : Wo P l.toArray l σ w K := by subst hl; exact h
def t1 : List Nd := (addN [docN] (elN ⟨#[112]⟩)).1
def t2 : List Nd := (addN t1 (elN s_b)).1
def t3 : List Nd := (appendN t2 0 1).1
def t4 : List Nd := (appendN t3 1 2).1
def t5 (s : ByteArray) : List Nd := hangN (t4 ++ [textNd s]) 1 (-1) 3
end Go.Vk
end
section
namespace Go.Vk
structure NdsAt (w : World) (v : Value) (T : List Laid) (bo : Option Nat) : Prop where
  sl : SlAt w 11 v (flat T) bo
  ok : ∀ m ∈ T,m.ok w
  apart : ∀ m ∈ T,∀ b ∈ m.blks,bo ≠ some b
theorem NdsAt.upd {G : Nat → Prop} {w w' : World} {v : Value} {T : List Laid} {bo : Option Nat} (h : NdsAt w v T bo) (hu : Upd G w w') (h1 : ∀ b,bo = some b → ¬ G b) (h2 : ∀ m ∈ T,∀ b ∈ m.blks,¬ G b) : NdsAt w' v T bo :=
  ⟨h.sl.upd hu h1,fun m hm => (h.ok m hm).upd hu (h2 m hm),h.apart⟩
theorem NdsAt.ext {w w' : World} {v : Value} {T : List Laid} {bo : Option Nat} (h : NdsAt w v T bo) (hu : Ext w w') : NdsAt w' v T bo := h.upd hu (fun _ _ h => h) (fun _ _ _ _ h => h)
theorem NdsAt.len {w : World} {v : Value} {T : List Laid} {bo : Option Nat} (h : NdsAt w v T bo) : ∃ a c,v = .slice a T.length c ∧ T.length ≤ c := by
  obtain ⟨a,n,c,rfl,h1,h2⟩ := h.sl.len
  rw [flat_length] at h2
  have : n = T.length := by omega
  subst this
  exact ⟨a,c,rfl,h1⟩
end Go.Vk
namespace Go.Proofs.YtgnnlaeikcnhcaaGreatDoor
open Go.Vk
set_option maxHeartbeats 40000000
theorem tree_a {w0 w : World} {P : Nat → Prop} {pa : Nat} {L : List Nd} (h : At w0 w P pa L) (hb : L.length < 100000) (hab : ∀ n ∈ L,n.attrs.length < 1000000) :
    Gives Tryz.prog 68 #[.pointer (some ⟨pa,0,none⟩)] w fun v w' => ∃ T bo,NdsAt w' v T bo ∧ T.map Laid.nd = L ∧ Ext w w' ∧ (∀ b,bo = some b → w.heap.size ≤ b) ∧ ∀ m ∈ T,∀ b ∈ m.blks,w.heap.size ≤ b := by
  refine Gives.of_W Tryz.call68 Tryz.func68 rfl Tryz.ntmps68 (by simp) ?_; intro Z hZ
  (repeat revert hK K);refine W0 ?_;repeat with_reducible intro K hK
  refine (len_a h).mono ?_
  rintro v w' ⟨rfl,rfl⟩
  (repeat revert hK K);refine W0 ?_;repeat with_reducible intro K hK
  refine W_loop (S := Value × Nat × List Laid × Option Nat) (fun s => [(0, .pointer (some ⟨pa, 0, none⟩)), (3, s.1), (6, .int .i64 (L.length : Int)), (7, .int .i64 (s.2.1 : Int))])
    (fun s w2 => s.2.1 ≤ L.length ∧ NdsAt w2 s.1 s.2.2.1 s.2.2.2 ∧ s.2.2.1.map Laid.nd = L.take s.2.1 ∧ Ext w' w2 ∧ (∀ b,s.2.2.2 = some b → w'.heap.size ≤ b) ∧ ∀ m ∈ s.2.2.1,∀ b ∈ m.blks,w'.heap.size ≤ b) (fun s => L.length - s.2.1) (.slice none 0 0,0,[],none) ?_ ?_ ?_
  · (repeat simp only [push_cast,seval,-Nat.reduceSubDiff])
  · exact ⟨by simp,⟨SlAt.nil _ _,by simp,by simp⟩,rfl,Ext.refl _,by simp,by simp⟩
  rintro ⟨vo,k,T,bo⟩ w2 ⟨hk,hT,hmap,hx,hf,hf2⟩
  simp only at hk hT hmap hf hf2 ⊢
  by_cases hkl : k < L.length
  · have hTl : T.length = k := by
      have := congrArg List.length hmap
      simpa [List.length_take,Nat.min_eq_left hk] using this
    have b0 : (k : Int) < (L.length : Int) := by omega
    have b2 : inI64 ((k : Int) + 1) := by unfold inI64; omega
    (repeat revert hK K);refine W1 @b0 ?_;repeat with_reducible intro K hK
    refine (node_a (h.pass hx) hb hab k).mono ?_
    rintro v w3 ⟨m,rfl,em,hok,_,hx3,hfr,hnd⟩
    (repeat revert hK K);refine W0 ?_;repeat with_reducible intro K hK
    refine bs_one sty39 (by decide) (by decide) (v := m.val) rfl ?_
    have hx4 : Ext w2 (w3.alloc (.cells m.val.cells 46)) := hx3.trans (Ext.alloc _ _)
    have hok4 : m.ok (w3.alloc (.cells m.val.cells 46)) := hok.upd (Ext.alloc _ _) fun _ _ h => h
    have hs4 : SlAt (w3.alloc (.cells m.val.cells 46)) 11 (.slice (some ⟨w3.heap.size,0,none⟩) 1 1) m.cells (some w3.heap.size) := SlAt.new w3 11 m.val.cells 46 1 rfl
    have hT4 := hT.ext hx4
    have hml : m.cells.length = 11 := rfl
    have hsz : (w3.alloc (.cells m.val.cells 46)).heap.size = w3.heap.size + 1 := size_alloc_h _ _
    have hsx := hx.alike.size
    have hsx3 := hx3.alike.size
    refine app_to sty39 sty39.und (by decide) hT4.sl hs4 hok.one (by rw [flat_length,hml]; omega) ?_
    intro v w5 bo5 g1 g2 g3
    have e5 : flat T ++ m.cells = flat (T ++ [m]) := by simp [flat]
    rw [e5] at g1
    have hnd? : (nd? L k).getD zN = L[k] := by rw [nd?_nat,List.getElem?_eq_getElem hkl]; rfl
    have hbo : ∀ b,bo = some b → b < w2.heap.size := fun b hb => by have := hT.sl; rw [hb] at this; exact this.lt
    (repeat revert hK K);refine W1 @b2 ?_;repeat with_reducible intro K hK
    refine ⟨(v,k + 1,T ++ [m],bo5),by simp only; omega,?_⟩
    (repeat simp only [push_cast,seval,-Nat.reduceSubDiff])
    refine ⟨by omega,⟨g1,fun x hx' => ?_,fun x hx' b hb e => ?_⟩,?_,?_,fun b hb => ?_,fun x hx' b hb => ?_⟩
    · simp only [List.mem_append, List.mem_singleton] at hx'
      rcases hx' with hx' | rfl
      · exact (hT4.ok x hx').upd g2 fun b hb e => hT.apart x hx' b hb e
      · exact hok4.upd g2 fun b hb e => by have := hfr b hb; have := hbo b e; omega
    · simp only [List.mem_append, List.mem_singleton] at hx'
      rcases g3 b e with h' | h'
      · rcases hx' with hx' | rfl
        · exact hT.apart x hx' b hb h'
        · have := hfr b hb; have := hbo b h'; omega
      · rcases hx' with hx' | rfl
        · have := (hT4.ok x hx').lt hb; omega
        · have := hok4.lt hb; omega
    · rw [List.map_append, hmap, List.take_add_one, List.getElem?_eq_getElem hkl]
      simp [em,hnd?]
    · exact Upd.trans (hx.trans hx4) g2 fun b hb e => by have := hf b e; omega
    · rcases g3 b hb with h' | h'
      · exact hf b h'
      · omega
    · simp only [List.mem_append, List.mem_singleton] at hx'
      rcases hx' with hx' | rfl
      · exact hf2 x hx' b hb
      · have := hfr b hb; omega
  · have hke : k = L.length := by omega
    subst hke
    rw [List.take_length] at hmap
    have b0 : ¬ (L.length : Int) < (L.length : Int) := by omega
    (repeat revert hK K);refine W1 @b0 ?_;repeat with_reducible intro K hK
    exact ⟨T,bo,hT,hmap,hx,hf,hf2⟩
end Go.Proofs.YtgnnlaeikcnhcaaGreatDoor
end
section
namespace Go.Vk
open Go
theorem madeCells_one (z : Value) (n : Nat) (h : z.cells = #[z]) : madeCells z.cells n = (List.replicate n z).toArray := by
  rw [h]
  apply Array.ext
  · simp [size_madeCells]
  · intro j h1 h2
    simp [madeCells,Nat.mod_one]
theorem NdsAt.get {w : World} {b o n c : Nat} {T : List Laid} {bo : Option Nat} (h : NdsAt w (.slice (some ⟨b,o,none⟩) n c) T bo) {i : Nat} {m : Laid} (hm : T[i]? = some m) {j : Nat} (hj : j < 11) : w.cell? ⟨b,o + i * 11 + j,none⟩ = m.cells[j]? := by
  have e := flat_get T i j m hm hj
  rw [← e]
  have hc : ∃ v,(flat T)[i * 11 + j]? = some v := by
    rw [e]; exact ⟨_,List.getElem?_eq_getElem (by rw [m.cells_length]; exact hj)⟩
  obtain ⟨v,hv⟩ := hc
  rw [hv,Nat.add_assoc]
  exact h.sl.get hv
end Go.Vk
end
section
namespace Go.Vk
open Go
theorem zeroCells_one (z : Value) (n : Nat) (h : z.cells = #[z]) : Builtin.zeroCells z.cells n = (List.replicate n z).toArray := by
  have := madeCells_one z n h
  rw [h] at this ⊢
  simpa [Builtin.zeroCells,madeCells] using this
set_option maxHeartbeats 1000000 in
theorem app_zeros {P : Program} {t e t3 ty : Nat} {k0 : IntKind} (hT : STy P t e 1) (h3 : P.underlying t3 = some (.int k0)) {z : Value} (hz : ∀ w, (zeroValue e).run P w = .ok z w) (hz1 : z.cells = #[z]) (ho : oneCell z = true)
    {w : World} {s : Value} {c1 : List Value} {b1 : Option Nat} (h1 : SlAt w 1 s c1 b1) {n : Nat} {m : Int} (hm : m = n) (hl : c1.length + n ≤ 1000000) {K : Value → World → Prop}
    (h : ∀ v w' bo,SlAt w' 1 v (c1 ++ List.replicate n z) bo → Upd (fun b => b1 = some b) w w' → (∀ b,bo = some b → b1 = some b ∨ w.heap.size ≤ b) → (∀ a n1 c,s = .slice a n1 c → c < n1 + n → Ext w w' ∧ (∀ b,bo = some b → w.heap.size ≤ b) ∧ ∃ b o c',v = .slice (some ⟨b,o,none⟩) (n1 + n) c') → K v w') :
    RunV P (Builtin.append_ #[t,t3] ty #[s,.int .i64 m]) w K := by
  subst hm
  obtain ⟨a1,n1,k1,rfl,hk1,hc1⟩ := h1.len
  have hc1' : c1.length = n1 := by omega
  have hf1 := firstCells_run (P := P) h1 hc1
  rw [Nat.mul_one] at hc1
  have hw : IntKind.i64.wrap (n : Int) = n := wrap_in (by unfold inI64; omega)
  have hneg : ¬ (n : Int) < 0 := by omega
  obtain ⟨i,hi,hi1,hi2⟩ := hT.bytes w
  have hbig : ¬ ((n : Int) * (i.bytes : Int) > 2 ^ 48) := by
    have : n * i.bytes ≤ 1000000 * 1024 := Nat.mul_le_mul (by omega) hi2
    rw [← Int.natCast_mul]; omega
  have happ : ∀ w : World,(if n * 1 = 0 then (pure #[] : Sem (Array Value)) else do pure (Builtin.zeroCells (← zeroValue e).cells n)).run P w = .ok (List.replicate n z).toArray w := by
    intro w
    by_cases h0 : n = 0
    · subst h0; simp [Sem.run]
    · rw [if_neg (by omega)]
      simp [hz w,zeroCells_one z n hz1]
  by_cases hfits : n1 + n ≤ k1
  · have key : ∃ w',(Builtin.append_ #[t,t3] ty #[.slice a1 n1 k1,.int .i64 (n : Int)]).run P w = .ok (.slice a1 (n1 + n) k1) w' ∧ SlAt w' 1 (.slice a1 (n1 + n) k1) (c1 ++ List.replicate n z) b1 ∧ Upd (fun b => b1 = some b) w w' := by
      rcases h1 with ⟨rfl,hv,rfl⟩ | ⟨b,o,m,c,cs,tt,rfl,hv,g3,g4,g5,g6,g7⟩
      · cases hv
        have hn2 : n = 0 := by omega
        subst hn2
        refine ⟨w,?_,.inl ⟨rfl,rfl,rfl⟩,.refl _ _⟩
        have hh := happ w
        simp only [Builtin.append_,List.getElem?_toArray,List.getElem?_cons_zero,List.getElem?_cons_succ,Sem.run_bind,Sem.run_pure,Result.andThen_ok,run_underlying hT.und,run_underlying h3,hT.size,asInt,asIntOf,
          hi,hw,hneg,hbig,if_false,if_true,hfits,Bool.not_true,hh,Bool.false_eq_true,Int.toNat_natCast]
      · cases hv
        have hst := run_storeCells (P := P) (a := ⟨b,o + n1 * 1,none⟩) (List.replicate n z) 0 w (by simp [ho]) (fun j _ hj => by rw [add_mk]; exact g5.can (by simp at hj; omega))
        refine ⟨setCells w ⟨b,o + n1 * 1,none⟩ (List.replicate n z) 0,?_,.inr ⟨b,o,n1 + n,k1,ovw cs (o + n1 * 1) (List.replicate n z),tt,rfl,rfl,hfits,by simp [hc1],g5.sets _ (o + n1 * 1) 0,by rw [ovw_size]; exact g6,?_⟩,
          Upd.setCells (F := fun i => some b = some i) (a := ⟨b,o + n1 * 1,none⟩) w rfl _ 0⟩
        · have hh := happ w
          simp only [Builtin.append_,List.getElem?_toArray,List.getElem?_cons_zero,List.getElem?_cons_succ,Sem.run_bind,Sem.run_pure,Result.andThen_ok,run_underlying hT.und,run_underlying h3,hT.size,asInt,asIntOf,
            hi,hw,hneg,hbig,if_false,if_true,hfits,Bool.not_true,hh,Bool.false_eq_true,Int.toNat_natCast,add_mk,hst]
        · intro i hi
          rw [List.length_append] at hi
          by_cases hlt : i < c1.length
          · rw [ovw_out _ _ _ _ (by omega),g7 i hlt,List.getElem?_append_left hlt]
          · rw [List.getElem?_append_right (by omega)]
            have := ovw_in (List.replicate n z) cs (o + n1 * 1) (i - c1.length) (by omega) (by simp; omega)
            rw [show o + n1 * 1 + (i - c1.length) = o + i by omega] at this
            exact this
    obtain ⟨w',hr,hS,hU⟩ := key
    exact .of hr (h _ _ _ hS hU (fun b hb => .inl hb) fun a n1 c e hlt => by cases e; omega)
  · have hcap := nextcap_le (need := n1 + n) (old := k1) (by omega)
    obtain ⟨i',hi',_,_⟩ := hT.bytes w.drew
    have hii : i' = i := by
      have e1 : (typeInfo e).run P w.drew = (match (typeInfo e).run P w with | .ok x _ => .ok x w.drew | .halt h _ => .halt h w.drew) := by
        simp only [typeInfo,program,Sem.run_bind,Sem.run,Result.andThen_ok]
        cases P.info? e <;> simp [stuck,Sem.run]
      rw [hi] at e1
      rw [hi'] at e1
      cases e1; rfl
    subst hii
    have hbytes : ¬ (Builtin.nextslicecap (n1 + n) k1 * i'.bytes > 2 ^ 48) := by
      have : Builtin.nextslicecap (n1 + n) k1 * i'.bytes ≤ (2 * (n1 + n) + 1000) * 1024 := Nat.mul_le_mul hcap hi2
      omega
    have hmax : ¬ (((n1 + n : Nat) : Int) > IntKind.i64.max) := by
      simp [IntKind.max,IntKind.bits,IntKind.signed]; omega
    have h1' : SlAt w.drew 1 (.slice a1 n1 k1) c1 b1 := h1.ext (Ext.drew w)
    have hf1' := firstCells_run (P := P) (n := n1) h1' (by omega)
    have hroom : ∀ (n : Nat) (w : World),(askRoom n).run P w = .ok () w := by
      intro n w; unfold askRoom; split <;> simp [mark,Sem.run]
    let nc := (Question.appendCap (n1 + n) k1 e).cut (w.tape w.drawn (.appendCap (n1 + n) k1 e))
    have hnc : n1 + n ≤ nc := by simp only [nc,Question.cut]; omega
    have hch : (choose (.appendCap (n1 + n) k1 e)).run P w = .ok nc w.drew := rfl
    have hh := happ w.drew
    have hr : (Builtin.append_ #[t, t3] ty #[.slice a1 n1 k1, .int .i64 (n : Int)]).run P w =
        .ok (.slice (some ⟨w.heap.size,0,none⟩) (n1 + n) nc) (w.drew.alloc (.cells (c1.toArray ++ (List.replicate n z).toArray ++ Builtin.zeroCells z.cells (nc - (n1 + n))) e)) := by
      simp only [Builtin.append_,List.getElem?_toArray,List.getElem?_cons_zero,List.getElem?_cons_succ,Sem.run_bind,Sem.run_pure,Result.andThen_ok,run_underlying hT.und,run_underlying h3,hT.size,asInt,asIntOf,
        hi,hw,hneg,hbig,if_false,if_true,hfits,hmax,false_and,hbytes,hch,hroom,hi',hf1',Bool.not_true,hh,hz,newRow,newObj,Bool.false_eq_true,Int.toNat_natCast]
      simp [Sem.run,World.alloc_eq]
      rfl
    refine .of hr (h _ _ _ ?_ ((Ext.drew w).trans (Ext.alloc _ _)).upd (fun b hb => .inr (Nat.le_of_eq (Option.some.inj hb))) fun a n1 c e _ => ⟨(Ext.drew w).trans (Ext.alloc _ _),fun b hb => Nat.le_of_eq (Option.some.inj hb),by cases e; exact ⟨_,_,_,rfl⟩⟩)
    refine .inr ⟨w.heap.size,0,n1 + n,nc,_,e,rfl,rfl,hnc,by simp [hc1],.of (heap_alloc_new' w.drew _),?_,?_⟩
    · simp only [Array.size_append, List.size_toArray, zeroCells_size, hz1, hc1, List.length_replicate]
      simp; omega
    · intro j hj
      rw [Nat.zero_add,Array.getElem?_append_left (by simpa using hj),List.append_toArray]
      exact List.getElem?_toArray
theorem firstCells_take {P : Program} {w : World} {n m c n' c' : Nat} {a : Option Addr} {cells : List Value} (h : RdAt w 1 (.slice a n c) cells) (hm : m ≤ cells.length) :
    (Builtin.firstCells 1 m (.slice a n' c')).run P w = .ok (cells.take m).toArray w := by
  obtain ⟨a',n0,c0,e,_,_,h4⟩ := h
  cases e
  cases a with
  | none =>
    have : cells = [] := by
      cases cells with
      | nil => rfl
      | cons x r => obtain ⟨b,o,e,_⟩ := h4 0 x rfl; cases e
    subst this
    simp [Builtin.firstCells]
  | some a =>
    have hc : cellsAt w a (cells.take m) := by
      intro i v hv
      have hi : cells[i]? = some v := by
        rw [List.getElem?_take] at hv
        split at hv
        · exact hv
        · cases hv
      obtain ⟨b,o,e,h5⟩ := h4 i v hi
      cases e
      rw [add_mk]; exact h5
    have hr := run_loadCells (P := P) hc
    rw [List.length_take,Nat.min_eq_left hm] at hr
    simpa [Builtin.firstCells] using hr
theorem copy_part {P : Program} {t e ty t2 : Nat} (hT : P.underlying t = some (.slice e)) (hs : ∀ w, (sizeOf e).run P w = .ok 1 w) {w : World} {b o n c : Nat} {x : Value} {c2 : List Value} {k : Nat}
    (h2 : RdAt w 1 x c2) (ho : c2.all oneCell = true) (hk : k = min c2.length n) (hc : ∀ j,j < k → canStore w ⟨b,o + j,none⟩) {K : Value → World → Prop}
    (h : K (.int .i64 (k : Int)) (setCells w ⟨b,o,none⟩ (c2.take k) 0)) : RunV P (Builtin.copy_ #[t,t2] ty #[.slice (some ⟨b,o,none⟩) n c,x]) w K := by
  have h2' := h2
  obtain ⟨a2,n2,k2,rfl,hk2,hc2,_⟩ := h2'
  rw [Nat.mul_one] at hc2
  have hf2 := firstCells_take (P := P) (m := k) (n' := n2) (c' := k2) h2 (by omega)
  have hst := run_storeCells (P := P) (a := ⟨b,o,none⟩) (c2.take k) 0 w (by rw [List.all_eq_true] at ho ⊢; exact fun x hx => ho x (List.mem_of_mem_take hx)) (fun j _ hj => by rw [add_mk]; exact hc j (by rw [List.length_take] at hj; omega))
  refine .of (w' := setCells w ⟨b,o,none⟩ (c2.take k) 0) ?_ h
  have hm : Nat.min n2 n = k := by rw [hk,hc2]
  simp [Builtin.copy_,run_underlying hT,hs,Builtin.lenOf,hm,hf2,hst,goInt]
theorem cap_part {P : Program} {t e ty : Nat} (hT : P.underlying t = some (.slice e)) {w : World} {a : Option Addr} {n c : Nat} {K : Value → World → Prop} (h : K (.int .i64 (c : Int)) w) : RunV P (Builtin.cap_ #[t] ty #[.slice a n c]) w K := by
  refine .of (w' := w) ?_ h
  simp [Builtin.cap_,run_underlying hT,goInt]
end Go.Vk
namespace Go.Proofs.YtgnnlaeikcnhcaaGreatDoor
open Go Go.Vk
theorem overlaps_c {w : World} {va vb : Value} {a b : Addr} {la ca lb cb : Nat} (ea : va = .slice (some a) la ca) (eb : vb = .slice (some b) lb cb) (hne : a.block ≠ b.block) {tA tB : TypeId} {kA kB : Nat}
    (hsa : w.shape? a.block = some (tA,kA)) (hsb : w.shape? b.block = some (tB,kB)) (hkB : kB ≠ 0) (hfa : w.frozen? a = false) (hfe : w.frozen? { block := a.block,off := kA } = false) :
    Gives Tryz.prog 195 #[va,vb] w fun v w' => v = .bool false ∧ w' = w := by
  subst ea; subst eb
  refine Gives.of_ext (v := .bool false) (w' := w) ?_ ⟨rfl,rfl⟩
  rw [run_callFunc_extern Tryz.func195 (by kernel_rfl) (by kernel_rfl) (by kernel_rfl) (e := Extern.SlicesOverlaps.overlaps #[44,44] #[4]) (by kernel_rfl),
    Lib.run_overlaps_apart w 44 4 3 Tryz.underlying44 1 (fun w => by simp [Tryz.sizeOf3,Sem.run]) a b la ca lb cb hne tA tB kA kB hsa hsb hkB hfa hfe]
  rfl
end Go.Proofs.YtgnnlaeikcnhcaaGreatDoor
end
section
namespace Go.Vk
theorem SlAt.beyond {w : World} {es b o n c : Nat} {cells : List Value} {bo : Option Nat} (h : SlAt w es (.slice (some ⟨b,o,none⟩) n c) cells bo) {q : Nat} (hq : o + cells.length ≤ q) (xs : List Value) :
    SlAt (setCells w ⟨b,q,none⟩ xs 0) es (.slice (some ⟨b,o,none⟩) n c) cells bo := by
  obtain ⟨g1,g3,g4,cs,t,g5,g6,g7⟩ := h.inv
  refine .inr ⟨b,o,n,c,ovw cs (q + 0) xs,t,g1,rfl,g3,g4,g5.sets xs q 0,by rw [ovw_size]; exact g6,fun i hi => ?_⟩
  rw [ovw_out _ _ _ _ (.inl (by omega))]; exact g7 i hi
theorem SlAt.canAt {w : World} {b o n c : Nat} {cells : List Value} {bo : Option Nat} (h : SlAt w 1 (.slice (some ⟨b,o,none⟩) n c) cells bo) {q : Nat} (hq : q < c) : canStore w ⟨b,o + q,none⟩ := by
  obtain ⟨g1,g3,g4,cs,t,g5,g6,g7⟩ := h.inv
  exact g5.can (by omega)
theorem intCells_part (l : List Int) (a b : Nat) : ((intCells l).drop a).take b = intCells ((l.drop a).take b) := by simp [intCells,List.map_take,List.map_drop]
end Go.Vk
end
section
namespace Go.Vk
open Go
theorem SlAt.write {w : World} {b o n c : Nat} {cells : List Value} {bo : Option Nat} (h : SlAt w 1 (.slice (some ⟨b,o,none⟩) n c) cells bo) {q : Nat} (xs : List Value) (hq : q + xs.length ≤ n) :
    SlAt (setCells w ⟨b,o + q,none⟩ xs 0) 1 (.slice (some ⟨b,o,none⟩) n c) (cells.take q ++ xs ++ cells.drop (q + xs.length)) bo := by
  obtain ⟨g1,g3,g4,cs,t,g5,g6,g7⟩ := h.inv
  refine .inr ⟨b,o,n,c,ovw cs (o + q + 0) xs,t,g1,rfl,g3,by simp; omega,g5.sets xs (o + q) 0,by rw [ovw_size]; exact g6,fun i hi => ?_⟩
  have hlen : i < n := by simp at hi; omega
  rw [Nat.add_zero]
  have hqt : (cells.take q).length = q := by rw [List.length_take]; omega
  by_cases h1 : i < q
  · rw [ovw_out _ _ _ _ (.inl (by omega)),g7 i (by omega),List.append_assoc,List.getElem?_append_left (by omega),List.getElem?_take,if_pos h1]
  · by_cases h2 : i < q + xs.length
    · have := ovw_in xs cs (o + q) (i - q) (by omega) (by omega)
      rw [show o + q + (i - q) = o + i by omega] at this
      rw [this,List.getElem?_append_left (by rw [List.length_append]; omega),List.getElem?_append_right (by omega),hqt]
    · rw [ovw_out _ _ _ _ (.inr (by omega)),g7 i (by omega),List.getElem?_append_right (by rw [List.length_append]; omega),List.getElem?_drop,List.length_append,hqt,show q + xs.length + (i - (q + xs.length)) = i by omega]
theorem SlAt.longer {w : World} {b o n c : Nat} {cells : List Value} {bo : Option Nat} (h : SlAt w 1 (.slice (some ⟨b,o,none⟩) n c) cells bo) (hc : n + 1 ≤ c) : ∃ u,SlAt w 1 (.slice (some ⟨b,o,none⟩) (n + 1) c) (cells ++ [u]) bo := by
  obtain ⟨g1,g3,g4,cs,t,g5,g6,g7⟩ := h.inv
  have hlt : o + n < cs.size := by omega
  refine ⟨cs[o + n],.inr ⟨b,o,n + 1,c,cs,t,g1,rfl,hc,by simp; omega,g5,g6,fun i hi => ?_⟩⟩
  simp only [List.length_append,List.length_singleton] at hi
  by_cases h1 : i < cells.length
  · rw [g7 i h1,List.getElem?_append_left h1]
  · have : i = n := by omega
    subst this
    rw [List.getElem?_append_right (by omega),Array.getElem?_eq_getElem hlt,show i - cells.length = 0 by omega]
    rfl
theorem copy_cut {P : Program} {t e ty t2 : Nat} (hT : P.underlying t = some (.slice e)) (hs : ∀ w, (sizeOf e).run P w = .ok 1 w) {w : World} {b o n c : Nat} {x : Value} {c2 : List Value} {k : Nat}
    (h2 : RdAt w 1 x c2) (ho : (c2.take k).all oneCell = true) (hk : k = min c2.length n) (hc : ∀ j,j < k → canStore w ⟨b,o + j,none⟩) {K : Value → World → Prop}
    (h : K (.int .i64 (k : Int)) (setCells w ⟨b,o,none⟩ (c2.take k) 0)) : RunV P (Builtin.copy_ #[t,t2] ty #[.slice (some ⟨b,o,none⟩) n c,x]) w K := by
  have h2' := h2
  obtain ⟨a2,n2,k2,rfl,hk2,hc2,_⟩ := h2'
  rw [Nat.mul_one] at hc2
  have hf2 := firstCells_take (P := P) (m := k) (n' := n2) (c' := k2) h2 (by omega)
  have hst := run_storeCells (P := P) (a := ⟨b,o,none⟩) (c2.take k) 0 w ho (fun j _ hj => by rw [add_mk]; exact hc j (by rw [List.length_take] at hj; omega))
  refine .of (w' := setCells w ⟨b,o,none⟩ (c2.take k) 0) ?_ h
  have hm : Nat.min n2 n = k := by rw [hk,hc2]
  simp [Builtin.copy_,run_underlying hT,hs,Builtin.lenOf,hm,hf2,hst,goInt]
theorem ins_grow (l : List Value) (x z : Value) (k n : Nat) (hk : k < n) (hl : l.length = n) :
    ((l.take k ++ List.replicate (n + 1 - k) z).take k ++ [x] ++ (l.take k ++ List.replicate (n + 1 - k) z).drop (k + 1)).take (k + 1) ++ l.drop k ++ ((l.take k ++ List.replicate (n + 1 - k) z).take k ++ [x] ++ (l.take k ++ List.replicate (n + 1 - k) z).drop (k + 1)).drop (k + 1 + (l.drop k).length) = l.take k ++ x :: l.drop k := by
  have hlt : (l.take k).length = k := by rw [List.length_take]; omega
  have e1 : (l.take k ++ List.replicate (n + 1 - k) z).take k = l.take k := by
    rw [List.take_append_of_le_length (by omega),List.take_take,Nat.min_self]
  rw [e1]
  have hl1 : (l.take k ++ [x]).length = k + 1 := by rw [List.length_append,hlt]; rfl
  have e2 : (l.take k ++ [x] ++ (l.take k ++ List.replicate (n + 1 - k) z).drop (k + 1)).take (k + 1) = l.take k ++ [x] := by
    rw [List.take_append_of_le_length (by omega),List.take_of_length_le (by omega)]
  have e3 : (l.take k ++ [x] ++ (l.take k ++ List.replicate (n + 1 - k) z).drop (k + 1)).drop (k + 1 + (l.drop k).length) = [] :=
    List.drop_eq_nil_of_le (by simp only [List.length_append,List.length_take,List.length_drop,List.length_replicate,List.length_singleton,hl]; omega)
  rw [e2,e3]
  simp
theorem ins_here (l : List Value) (x u : Value) (k n : Nat) (hk : k < n) (hl : l.length = n) :
    (((l ++ [u]).take (k + 1) ++ l.drop k ++ (l ++ [u]).drop (k + 1 + (l.drop k).length)).take k ++ [x] ++ ((l ++ [u]).take (k + 1) ++ l.drop k ++ (l ++ [u]).drop (k + 1 + (l.drop k).length)).drop (k + 1)) = l.take k ++ x :: l.drop k := by
  have hd : (l.drop k).length = n - k := by rw [List.length_drop]; omega
  have e0 : (l ++ [u]).take (k + 1) = l.take (k + 1) := List.take_append_of_le_length (by omega)
  have hlt : (l.take (k + 1)).length = k + 1 := by rw [List.length_take]; omega
  have e3 : (l ++ [u]).drop (k + 1 + (l.drop k).length) = [] := List.drop_eq_nil_of_le (by simp only [List.length_append,List.length_take,List.length_drop,List.length_replicate,List.length_singleton,hl]; omega)
  rw [e0,e3,List.append_nil]
  have e1 : (l.take (k + 1) ++ l.drop k).take k = l.take k := by
    rw [List.take_append_of_le_length (by omega),List.take_take,Nat.min_eq_left (by omega)]
  have e2 : (l.take (k + 1) ++ l.drop k).drop (k + 1) = l.drop k := by
    rw [List.drop_append_of_le_length (by omega),List.drop_eq_nil_of_le (by omega),List.nil_append]
  rw [e1,e2]; simp
end Go.Vk
namespace Go.Proofs.YtgnnlaeikcnhcaaGreatDoor
open Go Go.Vk
set_option maxHeartbeats 40000000
theorem insert_c {w : World} {v : Value} {l : List Int} {bo : Option Nat} (h : SlAt w 1 v (intCells l) bo) (hl : l.length < 100000) {bx : Nat} {x : Int} (hx : w.heap[bx]? = some (.cells #[.int .i64 x] 3 (0,0))) (hne : bo ≠ some bx) (k : Nat) (hk : k ≤ l.length) :
    Gives Tryz.prog 146 #[v,.int .i64 (k : Int),.slice (some ⟨bx,0,none⟩) 1 1] w fun u w' => ∃ bo',SlAt w' 1 u (intCells (l.take k ++ x :: l.drop k)) bo' ∧ Upd (fun b => bo = some b) w w' ∧ ∀ b,bo' = some b → bo = some b ∨ w.heap.size ≤ b := by
  have hxs : SlAt w 1 (.slice (some ⟨bx,0,none⟩) 1 1) (intCells [x]) (some bx) := .inr ⟨bx,0,1,1,_,3,rfl,rfl,Nat.le_refl _,rfl,.of hx,by simp,fun i hi => by
    have : i = 0 := by simp [intCells] at hi; omega
    subst this; rfl⟩
  obtain ⟨a,c,rfl,hc⟩ := h.ints_len
  have s1 : (0 : Int) ≤ k := by omega
  have s2 : (k : Int) ≤ (l.length : Int) := by omega
  have s3 : (l.length : Int) ≤ c := by omega
  have s4 : (k : Int) ≤ c := by omega
  have s5 : ((1 : Int) = 0) = False := by decide
  by_cases hkl : k = l.length
  · subst hkl
    refine Gives.of_W Tryz.call146 Tryz.func146 rfl Tryz.ntmps146 (by simp) ?_; intro Z hZ
    (repeat revert hK K);refine W6 @s1 @s2 @s3 @s4 @s5 @Int.le_refl ?_;repeat with_reducible intro K hK
    refine app_to sty28 sty28.und (by decide) h hxs (intCells_one _) (by rw [intCells_length]; simp [intCells]; omega) ?_
    intro v' w' bo' g1 g2 g3
    rw [← intCells_append] at g1
    (repeat revert hK K);refine W0 ?_;repeat with_reducible intro K hK
    rw [List.take_length,List.drop_length]
    exact ⟨bo',g1,g2,g3⟩
  · have hlt : k < l.length := by omega
    obtain ⟨b,o,n0,c0,e0,hbo⟩ := h.some_of (kids_ne hlt)
    cases e0
    obtain ⟨_,_,_,cs,ct,hHB,hcs,_⟩ := h.inv
    have hbx : b ≠ bx := fun e => hne (by rw [hbo,e])
    generalize hn : l.length = n at *
    have s6 : ((k : Int) = (n : Int)) = False := eq_false (by omega)
    have s7 : inI64 ((n : Int) + 1) := by unfold inI64; omega
    have s8 : inI64 ((n : Int) + 1 - k) := by unfold inI64; omega
    have s9 : inI64 ((k : Int) + 1) := by unfold inI64; omega
    have s10 : (0 : Int) ≤ (k : Int) + 1 := by omega
    have s11 : ((k : Int) + 1).toNat = k + 1 := by omega
    have s12 : (0 : Int) ≤ (n : Int) + 1 := by omega
    have s13 : ((n : Int) + 1).toNat = n + 1 := by omega
    have s14 : (k : Int) ≤ (n : Int) + 1 := by omega
    have s15 : (k : Int) + 1 ≤ (n : Int) + 1 := by omega
    by_cases hroom : n + 1 ≤ c
    · have r1 : ¬ (c : Int) < (n : Int) + 1 := by omega
      have r2 : (n : Int) + 1 ≤ c := by omega
      obtain ⟨u,hu⟩ := h.longer hroom
      refine Gives.of_W Tryz.call146 Tryz.func146 rfl Tryz.ntmps146 (by simp) ?_; intro Z hZ
      (repeat revert hK K);refine W8 @s1 @s2 @s3 @s4 @s5 @s6 @s7 @Int.le_refl ?_;repeat with_reducible intro K hK
      refine cap_part sty28.und ?_
      have z0 : (c = 0) = False := eq_false (by omega)
      have z1 : (c = k) = False := eq_false (by omega)
      have z2 : (c = k + 1) = False := eq_false (by omega)
      have hHB' := hHB
      obtain ⟨f,hf,hbk⟩ := hHB'
      have hsb : w.shape? b = some (ct,cs.size) := by simp [World.shape?,hbk]
      have hsx : w.shape? bx = some (3,1) := by simp [World.shape?,hx]
      have hfa : w.frozen? ⟨bx,0,none⟩ = false := by rw [froz_h,hx]; rfl
      have hfe : w.frozen? ⟨bx,1,none⟩ = false := by rw [froz_h,hx]; rfl
      (repeat first|(with_reducible first|(refine hK _ _ ?_;clear hK K)|refine ‹∀σ w,_→K σ w› _ _ ?_|(refine W_st ?_;constructor;try intro K hK))|((with_reducible first|refine hZ _ _ ?_|refine W_rg ?_|skip);repeat1' simp only[push_cast,seval,-Nat.reduceSubDiff,r1,r2,s7,s9,s10,s11,s12,s13,s14,s15,z0,z1,z2,Nat.sub_zero,Int.sub_zero,Option.map_some])|((repeat((fail_if_success with_reducible refine hK _ _ ?_);clear hK K));with_reducible refine hK _ _ ?_;clear hK K))
      refine (overlaps_c (a := ⟨bx,0,none⟩) (b := ⟨b,o + (k + 1),none⟩) rfl rfl (fun e => hbx e.symm) hsx hsb (by omega) hfa hfe).mono ?_
      rintro v' w' ⟨rfl,rfl⟩
      (repeat revert hK K);refine W1 @s9 ?_;repeat with_reducible intro K hK
      refine W_draw (.pas 0 (.pas 1 (.pas 2 (.pas 3 (.pas 4 (.pas 5 (.pas 6 (.pas 7 (.tail [8]))))))))) (fun _ => False) (by decide) mixed (by kernel_rfl) ?_
      (repeat (first | ((first | refine pas_plain rfl ?_ | refine pas_g rfl rfl ?_ | refine act_plain rfl ?_ | refine act_g rfl rfl ?_ | refine last_plain rfl ?_ | refine tail_plain rfl ?_ | refine tail_g rfl rfl ?_); (repeat simp only [push_cast,seval,-Nat.reduceSubDiff,s1,s2,s3,s4,r2,s9,s10,s11,s12,s13,s14,s15,z0,z1,z2,Nat.sub_zero,Int.sub_zero,Option.map_some])) | (refine tail_fin ?_) | (refine sch_fin ?_)))
      have hLl : (intCells l).length = n := by rw [intCells_length]; exact hn
      have hud := hu.ext (Ext.drew w')
      have p1 := hud.part (l := k) (k := n + 1) (m := c) (by omega) (by omega) (by omega) (by omega)
      simp only [Nat.mul_one] at p1
      have hc2l : (((intCells l ++ [u]).drop k).take (n + 1 - k)).length = n + 1 - k := by
        simp only [List.length_take,List.length_drop,List.length_append,List.length_singleton,hLl]; omega
      have e1 : (((intCells l ++ [u]).drop k).take (n + 1 - k)).take (n - k) = (intCells l).drop k := by
        rw [List.take_take,Nat.min_eq_left (by omega),List.drop_append_of_le_length (by omega),List.take_append_of_le_length (by rw [List.length_drop]; omega),List.take_of_length_le (by rw [List.length_drop]; omega)]
      have hone : (((intCells l ++ [u]).drop k).take (n - k)).all oneCell = true := by
        have e2 : ((intCells l ++ [u]).drop k).take (n - k) = (intCells l).drop k := by rw [← e1,List.take_take,Nat.min_eq_left (by omega)]
        rw [e2]
        have := intCells_one l
        rw [List.all_eq_true] at this ⊢
        exact fun y hy => this y (List.mem_of_mem_drop hy)
      have p2 : RdAt w'.drew 1 (.slice (some ⟨b,o + k,none⟩) (n + 1 - k) (c - k)) (((intCells l ++ [u]).drop k).take (n + 1 - k)) := p1.rd
      refine copy_cut sty28.und (fun w => by simp [Tryz.sizeOf3,Sem.run]) (k := n - k) p2 (by rw [e1]; have := intCells_one l; rw [List.all_eq_true] at this ⊢; exact fun y hy => this y (List.mem_of_mem_drop hy)) (by rw [hc2l]; omega) (fun q hq => ?_) ?_
      · have := hud.canAt (q := k + 1 + q) (by omega)
        rw [Nat.add_assoc]; exact this
      rw [e1]
      have hu1 := hud.write (q := k + 1) ((intCells l).drop k) (by rw [List.length_drop]; omega)
      have hbo' : bo = some b := hbo
      have up1 : Upd (fun b => bo = some b) w' (setCells w'.drew ⟨b,o + (k + 1),none⟩ ((intCells l).drop k) 0) :=
        Upd.trans (Ext.drew w').upd (Upd.setCells (F := fun b => bo = some b) (a := ⟨b,o + (k + 1),none⟩) w'.drew hbo' _ 0) fun _ _ h => h
      have hxs1 := hxs.upd up1 fun q hq e => hne (by rw [e]; exact hq.symm ▸ rfl)
      generalize setCells w'.drew ⟨b,o + (k + 1),none⟩ ((intCells l).drop k) 0 = w1 at *
      refine D0 ?_
      (repeat first|(with_reducible first|(refine hK _ _ ?_;clear hK K)|refine ‹∀σ w,_→K σ w› _ _ ?_|(refine W_st ?_;constructor;try intro K hK))|((with_reducible first|refine hZ _ _ ?_|refine W_rg ?_|skip);repeat1' simp only[push_cast,seval,-Nat.reduceSubDiff,s1,s2,s3,s4,r2,s14,s12,z0,z1,z2,Nat.sub_zero,Int.sub_zero,Option.map_some])|((repeat((fail_if_success with_reducible refine hK _ _ ?_);clear hK K));with_reducible refine hK _ _ ?_;clear hK K))
      refine copy_part sty28.und (fun w => by simp [Tryz.sizeOf3,Sem.run]) (k := 1) hxs1.rd (intCells_one _) (by simp [intCells]; omega) (fun q hq => ?_) ?_
      · have := hu1.canAt (q := k + q) (by omega)
        rw [Nat.add_assoc]; exact this
      have e3 : (intCells [x]).take 1 = [Value.int .i64 x] := rfl
      rw [e3]
      have hu2 := hu1.write (q := k) [Value.int .i64 x] (by simp; omega)
      rw [show ([Value.int .i64 x] : List Value).length = 1 from rfl,ins_here (intCells l) (.int .i64 x) u k n hlt hLl] at hu2
      have up2 : Upd (fun b => bo = some b) w' (setCells w1 ⟨b,o + k,none⟩ [.int .i64 x] 0) :=
        Upd.trans up1 (Upd.setCells (F := fun b => bo = some b) (a := ⟨b,o + k,none⟩) w1 hbo' _ 0) fun _ _ h => h
      (repeat revert hK K);refine W0 ?_;repeat with_reducible intro K hK
      exact ⟨bo, by have e4 : intCells (l.take k ++ x :: l.drop k) = (intCells l).take k ++ Value.int .i64 x :: (intCells l).drop k := by simp [intCells, List.map_take, List.map_drop]
                    rw [e4]; exact hu2,up2,fun b hb => .inl hb⟩
    · have r1 : (c : Int) < (n : Int) + 1 := by omega
      refine Gives.of_W Tryz.call146 Tryz.func146 rfl Tryz.ntmps146 (by simp) ?_; intro Z hZ
      (repeat revert hK K);refine W8 @s1 @s2 @s3 @s4 @s5 @s6 @s7 @Int.le_refl ?_;repeat with_reducible intro K hK
      refine cap_part sty28.und ?_
      (repeat revert hK K);refine W5 @r1 @s1 @s4 @s7 @s8 ?_;repeat with_reducible intro K hK
      have hLl : (intCells l).length = n := by rw [intCells_length]; exact hn
      have x1 := h.part1 (l := 0) (k := k) (m := c) (by omega) (by omega) (by omega) (by omega)
      rw [List.drop_zero] at x1
      refine app_zeros sty28 Tryz.underlying3 (z := .int .i64 0) (fun w => by simp [Tryz.zeroValue3,Sem.run]) rfl rfl x1 (n := n + 1 - k) (by omega) (by simp [hLl]; omega) ?_
      intro v1 w1 bo1 g1 g2 g3 g4
      obtain ⟨hx1,hf1,b1,o1,c1,rfl⟩ := g4 _ _ _ rfl (by omega)
      have eN : k - 0 + (n + 1 - k) = n + 1 := by omega
      rw [eN,show k - 0 = k by omega] at g1
      rw [eN]
      obtain ⟨hb1,hc1,_⟩ := g1.inv
      have t1 : (k : Int) ≤ c1 := by omega
      have t2 : (c1 = k) = False := eq_false (by omega)
      have t3 : (c1 = k + 1) = False := eq_false (by omega)
      have t4 : (n : Int) + 1 ≤ c1 := by omega
      have t5 : (c = k) = False := eq_false (by omega)
      have hxs1 := hxs.ext hx1
      have hh1 := h.ext hx1
      have hfr := hf1 b1 hb1
      (repeat first|(with_reducible first|(refine hK _ _ ?_;clear hK K)|refine ‹∀σ w,_→K σ w› _ _ ?_|(refine W_st ?_;constructor;try intro K hK))|((with_reducible first|refine hZ _ _ ?_|refine W_rg ?_|skip);repeat1' simp only[push_cast,seval,-Nat.reduceSubDiff,s1,s2,s3,s4,s9,s10,s11,s12,s13,s14,s15,t1,t2,t4,Option.map_some])|((repeat((fail_if_success with_reducible refine hK _ _ ?_);clear hK K));with_reducible refine hK _ _ ?_;clear hK K))
      refine copy_part sty28.und (fun w => by simp [Tryz.sizeOf3,Sem.run]) (k := 1) hxs1.rd (intCells_one _) (by simp [intCells]; omega) (fun q hq => ?_) ?_
      · have := g1.canAt (q := k + q) (by omega)
        rw [Nat.add_assoc]; exact this
      have e3 : (intCells [x]).take 1 = [Value.int .i64 x] := rfl
      rw [e3]
      have hu1 := g1.write (q := k) [Value.int .i64 x] (by simp; omega)
      rw [show ([Value.int .i64 x] : List Value).length = 1 from rfl] at hu1
      have hbl : ∀ q,bo = some q → q < w.heap.size := fun q hq => by rw [hq] at h; exact h.lt
      have hh2 := hh1.upd (Upd.setCells (F := fun q => q = b1) (a := ⟨b1,o1 + k,none⟩) w1 rfl [Value.int .i64 x] 0) fun q hq e => by have := hbl q hq; omega
      have hx2 : Ext w (setCells w1 ⟨b1,o1 + k,none⟩ [Value.int .i64 x] 0) := Upd.trans hx1 (Upd.setCells (F := fun q => q = b1) (a := ⟨b1,o1 + k,none⟩) w1 rfl _ 0) fun q hq e => by omega
      generalize setCells w1 ⟨b1,o1 + k,none⟩ [Value.int .i64 x] 0 = w2 at *
      (repeat revert hK K);refine W0 ?_;repeat with_reducible intro K hK
      refine W_draw (.pas 0 (.pas 1 (.pas 2 (.pas 3 (.pas 4 (.pas 5 (.pas 6 (.pas 7 (.tail [8]))))))))) (fun _ => False) (by decide) mixed (by kernel_rfl) ?_
      (repeat (first | ((first | refine pas_plain rfl ?_ | refine pas_g rfl rfl ?_ | refine act_plain rfl ?_ | refine act_g rfl rfl ?_ | refine last_plain rfl ?_ | refine tail_plain rfl ?_ | refine tail_g rfl rfl ?_); (repeat simp only [push_cast,seval,-Nat.reduceSubDiff,s1,s2,s3,s4,s9,s10,s11,s12,s13,s14,s15,t1,t2,t3,t4,t5,Option.map_some,Int.le_refl])) | (refine tail_fin ?_) | (refine sch_fin ?_)))
      have q1 := (hh2.ext (Ext.drew w2)).part (l := k) (k := n) (m := c) (by omega) (by omega) (by omega) (by omega)
      simp only [Nat.mul_one] at q1
      have eD : ((intCells l).drop k).take (n - k) = (intCells l).drop k := List.take_of_length_le (by rw [List.length_drop]; omega)
      rw [eD] at q1
      have hdl : ((intCells l).drop k).length = n - k := by rw [List.length_drop]; omega
      have hone : ((intCells l).drop k).all oneCell = true := by
        have := intCells_one l
        rw [List.all_eq_true] at this ⊢
        exact fun y hy => this y (List.mem_of_mem_drop hy)
      have hud := hu1.ext (Ext.drew w2)
      refine copy_part sty28.und (fun w => by simp [Tryz.sizeOf3,Sem.run]) (k := n - k) q1.rd hone (by rw [hdl]; omega) (fun q hq => ?_) ?_
      · have := hud.canAt (q := k + 1 + q) (by omega)
        rw [Nat.add_assoc]; exact this
      rw [List.take_of_length_le (by omega)]
      have hu3 := hud.write (q := k + 1) ((intCells l).drop k) (by omega)
      rw [ins_grow (intCells l) (.int .i64 x) (.int .i64 0) k n hlt hLl] at hu3
      have hx3 : Ext w (setCells w2.drew ⟨b1,o1 + (k + 1),none⟩ ((intCells l).drop k) 0) := Upd.trans (hx2.trans (Ext.drew w2)) (Upd.setCells (F := fun q => q = b1) (a := ⟨b1,o1 + (k + 1),none⟩) w2.drew rfl _ 0) fun q hq e => by omega
      refine D0 ?_
      (repeat revert hK K);refine W0 ?_;repeat with_reducible intro K hK
      exact ⟨bo1, by have e4 : intCells (l.take k ++ x :: l.drop k) = (intCells l).take k ++ Value.int .i64 x :: (intCells l).drop k := by simp [intCells, List.map_take, List.map_drop]
                     rw [e4]; exact hu3,hx3.upd,fun b hb => .inr (hf1 b hb)⟩
end Go.Proofs.YtgnnlaeikcnhcaaGreatDoor
end
section
namespace Go.Vk
open Go
structure FL (w : World) (pl : Nat) (ap lv : Value) (l : List Int) (bo : Option Nat) : Prop where
  head : w.heap[pl]? = some (.cells #[ap,lv] 112 (0,0))
  sl : SlAt w 1 lv (intCells l) bo
  ne : bo ≠ some pl
theorem FL.upd {G : Nat → Prop} {w w' : World} {pl : Nat} {ap lv : Value} {l : List Int} {bo : Option Nat} (h : FL w pl ap lv l bo) (hu : Upd G w w') (h1 : ¬ G pl) (h2 : ∀ b,bo = some b → ¬ G b) : FL w' pl ap lv l bo :=
  ⟨(hu.same pl (blk_lt h.head) h1).trans h.head,h.sl.upd hu h2,h.ne⟩
theorem FL.ext {w w' : World} {pl : Nat} {ap lv : Value} {l : List Int} {bo : Option Nat} (h : FL w pl ap lv l bo) (hu : Ext w w') : FL w' pl ap lv l bo := h.upd hu id fun _ _ => id
theorem FL.c0 {w : World} {pl : Nat} {ap lv : Value} {l : List Int} {bo : Option Nat} (h : FL w pl ap lv l bo) : w.cell? ⟨pl,0,none⟩ = some ap := by rw [cell_h,h.head]; rfl
theorem FL.c1 {w : World} {pl : Nat} {ap lv : Value} {l : List Int} {bo : Option Nat} (h : FL w pl ap lv l bo) : w.cell? ⟨pl,1,none⟩ = some lv := by rw [cell_h,h.head]; rfl
theorem vcells_int (k : IntKind) (n : Int) : (Value.int k n).cells = #[.int k n] := rfl
def lastF (p : Int → Bool) (l : List Int) (fr : Int) : Nat → Int
  | 0 => -1
  | k + 1 => if (k : Int) < fr then -1 else if p (l.getD k 0) = true then k else lastF p l fr k
end Go.Vk
namespace Go.Proofs.YtgnnlaeikcnhcaaGreatDoor
open Go Go.Vk
set_option maxHeartbeats 40000000
section
variable {w : World} {pl pa : Nat} {lv : Value} {l : List Int} {bo : Option Nat}
theorem flen_c (h : FL w pl (.pointer (some ⟨pa,0,none⟩)) lv l bo) : Gives Tryz.prog 27 #[.pointer (some ⟨pl,0,none⟩)] w fun v w' => v = .int .i64 (l.length : Int) ∧ w' = w := by
  obtain ⟨a,c,rfl,hc⟩ := h.sl.ints_len
  have h1 := h.c1
  refine Gives.of_W Tryz.call27 Tryz.func27 rfl Tryz.ntmps27 (by simp) ?_; intro Z hZ
  (repeat first|(with_reducible first|(refine hK _ _ ?_;clear hK K)|refine ‹∀σ w,_→K σ w› _ _ ?_|(refine W_st ?_;constructor;try intro K hK))|((with_reducible first|refine hZ _ _ ?_|refine W_rg ?_|skip);repeat1' simp only[push_cast,seval,-Nat.reduceSubDiff,h1])|((repeat((fail_if_success with_reducible refine hK _ _ ?_);clear hK K));with_reducible refine hK _ _ ?_;clear hK K))
theorem fnone_c (h : FL w pl (.pointer (some ⟨pa,0,none⟩)) lv l bo) : Gives Tryz.prog 96 #[.pointer (some ⟨pl,0,none⟩)] w fun v w' => v = .bool false ∧ w' = w := by
  have h0 := h.c0
  refine Gives.of_W Tryz.call96 Tryz.func96 rfl Tryz.ntmps96 (by simp) ?_; intro Z hZ
  (repeat first|(with_reducible first|(refine hK _ _ ?_;clear hK K)|refine ‹∀σ w,_→K σ w› _ _ ?_|(refine W_st ?_;constructor;try intro K hK))|((with_reducible first|refine hZ _ _ ?_|refine W_rg ?_|skip);repeat1' simp only[push_cast,seval,-Nat.reduceSubDiff,h0])|((repeat((fail_if_success with_reducible refine hK _ _ ?_);clear hK K));with_reducible refine hK _ _ ?_;clear hK K))
theorem last_c (h : FL w pl (.pointer (some ⟨pa, 0, none⟩)) lv l bo) (hl : l.length < 100000) {f : FuncId} {first captured : Array Value} {p : Int → Bool} (fr : Int) (hfr : 0 ≤ fr)
    (hso : ∀ i ∈ l,∀ w1,Ext w w1 → Gives Tryz.prog f (first.toList ++ [Value.int .i64 i] ++ captured.toList).toArray w1 fun v w' => v = .bool (p i) ∧ Ext w1 w') :
    Gives Tryz.prog 119 #[.pointer (some ⟨pl,0,none⟩),.int .i64 fr,.func (.func f) first captured] w fun v w' => v = .int .i64 (lastF p l fr l.length) ∧ Ext w w' := by
  obtain ⟨a,c,rfl,hc⟩ := h.sl.ints_len
  have s0 : inI64 ((l.length : Int) - 1) := by unfold inI64; omega
  refine Gives.of_W Tryz.call119 Tryz.func119 rfl Tryz.ntmps119 (by simp) ?_; intro Z hZ
  (repeat revert hK K);refine W0 ?_;repeat with_reducible intro K hK
  refine (flen_c h).mono ?_
  rintro v w' ⟨rfl,rfl⟩
  (repeat revert hK K);refine W1 @s0 ?_;repeat with_reducible intro K hK
  refine W_loop (S := Nat) (fun k => [(0, .pointer (some ⟨pl, 0, none⟩)), (1, .int .i64 fr), (2, .func (.func f) first captured), (7, .int .i64 ((k : Int) - 1))])
    (fun k w2 => k ≤ l.length ∧ lastF p l fr l.length = lastF p l fr k ∧ Ext w' w2) (fun k => k) l.length ?_ ?_ ?_
  · (repeat simp only [push_cast,seval,-Nat.reduceSubDiff])
  · exact ⟨Nat.le_refl _,rfl,Ext.refl _⟩
  rintro k w2 ⟨hk,he,hx⟩
  cases k with
  | zero =>
    have e0 : (((0 : Nat) : Int) - 1) = -1 := rfl
    rw [e0]
    have b0 : ¬ fr ≤ -1 := by omega
    (repeat revert hK K);refine W1 @b0 ?_;repeat with_reducible intro K hK
    rw [he]
    exact ⟨rfl,hx⟩
  | succ k =>
    have e0 : (((k + 1 : Nat) : Int) - 1) = k := by omega
    rw [e0]
    rw [lastF] at he
    have b2 : inI64 ((k : Int) - 1) := by unfold inI64; omega
    by_cases hkf : (k : Int) < fr
    · have b0 : ¬ fr ≤ (k : Int) := by omega
      rw [if_pos hkf] at he
      (repeat revert hK K);refine W1 @b0 ?_;repeat with_reducible intro K hK
      exact ⟨he.symm,hx⟩
    · have b0 : fr ≤ (k : Int) := by omega
      rw [if_neg hkf] at he
      have hkl : k < l.length := by omega
      have hxk : l[k]? = some l[k] := List.getElem?_eq_getElem hkl
      have hgd : l.getD k 0 = l[k] := by simp [List.getD,hxk]
      rw [hgd] at he
      have hmem : l[k] ∈ l := List.getElem_mem hkl
      generalize l[k] = y at *
      obtain ⟨b,o,_,_,e1,_⟩ := h.sl.some_of (kids_ne hkl)
      cases e1
      have h1 := (h.ext hx).c1
      have hcell := (h.sl.ext hx).ints_cell hxk
      have b1 : (0 : Int) ≤ (k : Int) := by omega
      have b3 : (k : Int) < (l.length : Int) := by omega
      (repeat revert hK K);refine W5 @b0 @b1 @b3 @h1 @hcell ?_;repeat with_reducible intro K hK
      refine (hso y hmem w2 hx).mono ?_
      rintro v w3 ⟨rfl,hx3⟩
      cases hpy : p y with
      | true =>
        rw [if_pos hpy] at he
        (repeat revert hK K);refine W0 ?_;repeat with_reducible intro K hK
        rw [he]
        exact ⟨rfl,hx.trans hx3⟩
      | false =>
        rw [if_neg (by rw [hpy]; decide)] at he
        (repeat revert hK K);refine W1 @b2 ?_;repeat with_reducible intro K hK
        refine ⟨k,by omega,?_⟩
        (repeat simp only [push_cast,seval,-Nat.reduceSubDiff])
        exact ⟨by omega,he,hx.trans hx3⟩
def openN (l : List Int) : Int := lastF (fun i => decide (i = -1)) l 0 l.length + 1
theorem lastF_rng (p : Int → Bool) (l : List Int) (fr : Int) : ∀ k : Nat, -1 ≤ lastF p l fr k ∧ lastF p l fr k < k
  | 0 => by simp [lastF]
  | k + 1 => by
    have := lastF_rng p l fr k
    rw [lastF]
    split
    · omega
    · split <;> omega
theorem open1_c (i : Int) {w : World} : Gives Tryz.prog 151 #[.int .i64 i] w fun v w' => v = .bool (decide (i = -1)) ∧ Ext w w' := by
  refine Gives.of_W Tryz.call151 Tryz.func151 rfl Tryz.ntmps151 (by simp) ?_; intro Z hZ
  (repeat revert hK K);refine W0 ?_;repeat with_reducible intro K hK
  exact Ext.refl _
theorem open_c (h : FL w pl (.pointer (some ⟨pa,0,none⟩)) lv l bo) (hl : l.length < 100000) : Gives Tryz.prog 104 #[.pointer (some ⟨pl,0,none⟩)] w fun v w' => v = .int .i64 (openN l) ∧ Ext w w' := by
  have hr := lastF_rng (fun i => decide (i = -1)) l 0 l.length
  have s0 : inI64 (lastF (fun i => decide (i = -1)) l 0 l.length + 1) := by unfold inI64; omega
  refine Gives.of_W Tryz.call104 Tryz.func104 rfl Tryz.ntmps104 (by simp) ?_; intro Z hZ
  (repeat revert hK K);refine W0 ?_;repeat with_reducible intro K hK
  refine (last_c h hl (first := #[]) (captured := #[]) (p := fun i => decide (i = -1)) 0 (by omega) fun i _ w1 _ => open1_c i).mono ?_
  rintro v w' ⟨rfl,hx⟩
  (repeat revert hK K);refine W1 @s0 ?_;repeat with_reducible intro K hK
  exact ⟨rfl,hx⟩
end
end Go.Proofs.YtgnnlaeikcnhcaaGreatDoor
end
section
namespace Go.Vk
theorem ArM.setAttrs {w w1 : World} {pa bn cap : Nat} {M : List Laid} (h : ArM w pa bn cap M) {p : Nat} {m : Laid} (hm : M[p]? = some m) {v : Value} {ks : List (ByteArray × ByteArray)} {bo : Option Nat} (g1 : SlAt w1 2 v (attrCells ks) bo)
    (g2 : Upd (fun b => m.ab = some b) w w1) (g3 : ∀ b,bo = some b → m.ab = some b ∨ w.heap.size ≤ b) :
    canStore w1 ⟨bn,p * 11 + 4,none⟩ ∧ ArM (w1.setCell ⟨bn,p * 11 + 4,none⟩ v) pa bn cap (M.set p { nd := Vk.setAttrs ks m.nd,av := v,kv := m.kv,ab := bo,kb := m.kb }) := by
  have hbm : ∀ b,m.ab = some b → b ∈ m.blks := fun b hb => by simp [Laid.blks,hb]
  obtain ⟨nd1,nd2,nd3⟩ := h.nd_blks (List.mem_of_getElem? hm)
  have hbody := h.body.upd g2 fun b hb e => by cases hb; exact nd3 (hbm _ e)
  refine ⟨?_,h.repl hm _ 4 v rfl (by decide) g2 (fun b _ hb => hbm b hb) ⟨g1,(h.sub m (List.mem_of_getElem? hm)).kids.upd g2 fun b hb e => by simp [Laid.blks,hb,e] at nd1⟩ (fun b hb => ?_) ?_⟩
  · have := hbody.can (i := p * 11 + 4) (by rw [flat_length]; have := (List.getElem?_eq_some_iff.1 hm).1; omega)
    simpa using this
  · simp only [Laid.blks, List.mem_append, Option.mem_toList] at hb
    rcases hb with hb | hb
    · rcases g3 b hb with h | h
      · exact .inl (hbm b h)
      · exact .inr h
    · exact .inl (by simp [Laid.blks,hb])
  · simp only [Laid.blks]
    have hkb : ∀ b,m.kb = some b → b < w.heap.size := fun b hb => (h.sub m (List.mem_of_getElem? hm)).lt (by simp [Laid.blks,hb])
    cases ha : m.kb with
    | none => cases bo <;> simp
    | some a =>
      cases hbo : bo with
      | none => simp
      | some c =>
        have : c ≠ a := fun e => by
          subst e
          rcases g3 c hbo with h | h
          · simp [Laid.blks,ha,h] at nd1
          · have := hkb c ha; omega
        simp [this]
theorem attrCells_get0 {l : List (ByteArray × ByteArray)} {i : Nat} {x : ByteArray × ByteArray} (h : l[i]? = some x) : (attrCells l)[i * 2]? = some (.string x.1) ∧ (attrCells l)[i * 2 + 1]? = some (.string x.2) := by
  induction l generalizing i with
  | nil => simp at h
  | cons y r ih =>
    cases i with
    | zero => simp only [List.getElem?_cons_zero,Option.some.injEq] at h; subst h; exact ⟨rfl,rfl⟩
    | succ i =>
      rw [List.getElem?_cons_succ] at h
      obtain ⟨h1,h2⟩ := ih h
      rw [show (i + 1) * 2 = i * 2 + 1 + 1 by omega]
      exact ⟨h1,h2⟩
theorem attrs_len {w : World} {v : Value} {l : List (ByteArray × ByteArray)} (h : RdAt w 2 v (attrCells l)) : ∃ a c,v = .slice a l.length c ∧ l.length ≤ c ∧ ∀ i x,l[i]? = some x → ∃ b o,a = some ⟨b,o,none⟩ ∧ w.cell? ⟨b,o + i * 2,none⟩ = some (.string x.1) ∧ w.cell? ⟨b,o + i * 2 + 1,none⟩ = some (.string x.2) := by
  obtain ⟨a,n,c,rfl,h2,h3,h4⟩ := h
  rw [attrCells_length] at h3
  obtain rfl : n = l.length := by omega
  refine ⟨a,c,rfl,h2,fun i x hx => ?_⟩
  obtain ⟨g1,g2⟩ := attrCells_get0 hx
  obtain ⟨b,o,rfl,k1⟩ := h4 _ _ g1
  obtain ⟨b',o',e,k2⟩ := h4 _ _ g2
  cases e
  exact ⟨b,o,rfl,k1,by rw [Nat.add_assoc]; exact k2⟩
def idxA (p : ByteArray × ByteArray → Bool) : List (ByteArray × ByteArray) → Nat → Int
  | [],_ => -1
  | y :: r,k => if p y = true then k else idxA p r (k + 1)
theorem idxA_any (p : ByteArray × ByteArray → Bool) : ∀ (l : List (ByteArray × ByteArray)) (k : Nat), decide (0 ≤ idxA p l k) = l.any p
  | [],k => by simp [idxA]
  | y :: r,k => by
    rw [idxA,List.any_cons]
    by_cases h : p y = true
    · rw [if_pos h,h]; simp
    · rw [if_neg h,idxA_any p r]; simp [h]
theorem idxA_skip (p : ByteArray × ByteArray → Bool) : ∀ (l : List (ByteArray × ByteArray)) (j k : Nat), (∀ y ∈ l.take j, p y = false) → j ≤ l.length → idxA p l k = idxA p (l.drop j) (k + j)
  | l,0,k,_,_ => by simp
  | [],j + 1,k,_,h => by simp at h
  | y :: r,j + 1,k,h,hl => by
    rw [idxA,if_neg (by simp [h y (by simp)]),List.drop_succ_cons,idxA_skip p r j (k + 1) (fun z hz => h z (by simp [hz])) (by simpa using hl)]
    congr 1; omega
end Go.Vk
namespace Go.Proofs.YtgnnlaeikcnhcaaGreatDoor
open Go.Vk
set_option maxHeartbeats 40000000
theorem more1f_c {w : World} {px : Nat} {x y : ByteArray × ByteArray} (hp : w.heap[px]? = some (.cells #[.string x.1,.string x.2] 34 (0,0))) :
    Gives Tryz.prog 179 #[.agg #[.string y.1,.string y.2],.pointer (some ⟨px,0,none⟩)] w fun v w' => v = .bool (decide (y.1 = x.1)) ∧ Ext w w' := by
  have hl := blk_lt hp
  have hne : ¬ px = w.heap.size := by omega
  refine Gives.of_W Tryz.call179 Tryz.func179 rfl Tryz.ntmps179 (by simp) ?_; intro Z hZ
  (repeat first|(with_reducible first|(refine hK _ _ ?_;clear hK K)|refine ‹∀σ w,_→K σ w› _ _ ?_|(refine W_st ?_;constructor;try intro K hK))|((with_reducible first|refine hZ _ _ ?_|refine W_rg ?_|skip);repeat1' simp only[push_cast,seval,-Nat.reduceSubDiff,cell_h,can_h,cellO_cells,canO_cells,setO_cells,heap_set_h,heap_alloc_h,size_set_h,size_alloc_h,vcells_agg,succ_ne,ne_succ,List.setIfInBounds_toArray,List.set_cons_succ,List.set_cons_zero,setCells,drew_h,hp,hne])|((repeat((fail_if_success with_reducible refine hK _ _ ?_);clear hK K));with_reducible refine hK _ _ ?_;clear hK K))
  exact Ext.alloc _ _
theorem idxf_c {w : World} {v : Value} {l : List (ByteArray × ByteArray)} (ha : RdAt w 2 v (attrCells l)) (hb : l.length < 1000000000) {px : Nat} {x : ByteArray × ByteArray} (hp : w.heap[px]? = some (.cells #[.string x.1,.string x.2] 34 (0,0))) :
    Gives Tryz.prog 214 #[v,.func (.func 179) #[] #[.pointer (some ⟨px,0,none⟩)]] w fun u w' => u = .int .i64 (idxA (fun y => decide (y.1 = x.1)) l 0) ∧ Ext w w' := by
  obtain ⟨a,c,rfl,hc,hcell⟩ := attrs_len ha
  refine Gives.of_W Tryz.call214 Tryz.func214 rfl Tryz.ntmps214 (by simp) ?_; intro Z hZ
  (repeat revert hK K);refine W0 ?_;repeat with_reducible intro K hK
  refine W_loop (S := Nat) (fun k => [(0, .slice a l.length c), (1, .func (.func 179) #[] #[.pointer (some ⟨px, 0, none⟩)]), (7, .int .i64 (l.length : Int)), (8, .int .i64 (k : Int))])
    (fun k w2 => k ≤ l.length ∧ (∀ y ∈ l.take k,decide (y.1 = x.1) = false) ∧ Ext w w2) (fun k => l.length - k) 0 ?_ ?_ ?_
  · (repeat simp only [push_cast,seval,-Nat.reduceSubDiff])
  · exact ⟨by omega,by simp,Ext.refl _⟩
  rintro k w2 ⟨hk,hn,hx⟩
  have hsk := idxA_skip (fun y => decide (y.1 = x.1)) l k 0 hn hk
  rw [Nat.zero_add] at hsk
  by_cases hkl : k < l.length
  · obtain ⟨y, hy⟩ : ∃ y, l[k]? = some y := ⟨_, List.getElem?_eq_getElem hkl⟩
    have hd : l.drop k = y :: l.drop (k + 1) := by
      rw [List.drop_eq_getElem_cons hkl]; congr 1
      rw [List.getElem?_eq_getElem hkl] at hy; exact Option.some.inj hy
    obtain ⟨a',c',e,_,hcell2⟩ := attrs_len (ha.ext hx)
    cases e
    obtain ⟨b,o,rfl,q1,q2⟩ := hcell2 k y hy
    have b0 : (k : Int) < (l.length : Int) := by omega
    have b1 : (0 : Int) ≤ (k : Int) := by omega
    have b2 : inI64 ((k : Int) + 1) := by unfold inI64; omega
    have hp2 := (hx.heap (blk_lt hp)).trans hp
    clear hcell hcell2
    (repeat revert hK K);refine W4 @b0 @b1 @q1 @q2 ?_;repeat with_reducible intro K hK
    refine (more1f_c (y := y) hp2).mono ?_
    rintro v w3 ⟨rfl,hx3⟩
    rw [hd,idxA] at hsk
    by_cases hyx : decide (y.1 = x.1) = true
    · (repeat revert hK K);refine W1 @hyx ?_;repeat with_reducible intro K hK
      exact ⟨by rw [hsk,if_pos hyx],hx.trans hx3⟩
    · have hyx' : decide (y.1 = x.1) = false := by simpa using hyx
      (repeat revert hK K);refine W2 @hyx' @b2 ?_;repeat with_reducible intro K hK
      refine ⟨k + 1,by omega,?_⟩
      (repeat simp only [push_cast,seval,-Nat.reduceSubDiff])
      refine ⟨by omega,fun z hz => ?_,hx.trans hx3⟩
      rw [List.take_add_one,hy] at hz
      simp only [Option.toList_some,List.mem_append,List.mem_singleton] at hz
      rcases hz with hz | rfl
      · exact hn z hz
      · exact hyx'
  · have hke : k = l.length := by omega
    subst hke
    have b0 : ¬ (l.length : Int) < (l.length : Int) := by omega
    rw [List.drop_length,idxA] at hsk
    (repeat revert hK K);refine W1 @b0 ?_;repeat with_reducible intro K hK
    exact ⟨by rw [hsk],hx⟩
theorem contains_c {w : World} {v : Value} {l : List (ByteArray × ByteArray)} (ha : RdAt w 2 v (attrCells l)) (hb : l.length < 1000000000) {px : Nat} {x : ByteArray × ByteArray} (hp : w.heap[px]? = some (.cells #[.string x.1,.string x.2] 34 (0,0))) :
    Gives Tryz.prog 178 #[v,.func (.func 179) #[] #[.pointer (some ⟨px,0,none⟩)]] w fun u w' => u = .bool (l.any fun y => decide (y.1 = x.1)) ∧ Ext w w' := by
  refine Gives.of_W Tryz.call178 Tryz.func178 rfl Tryz.ntmps178 (by simp) ?_; intro Z hZ
  (repeat revert hK K);refine W0 ?_;repeat with_reducible intro K hK
  refine (idxf_c ha hb hp).mono ?_
  rintro v w' ⟨rfl,hx⟩
  have e := idxA_any (fun y => decide (y.1 = x.1)) l 0
  (repeat revert hK K);refine W0 ?_;repeat with_reducible intro K hK
  exact ⟨by rw [← e],hx⟩
theorem moreA_take {cs xs : List (ByteArray × ByteArray)} {k : Nat} {x : ByteArray × ByteArray} (h : xs[k]? = some x) : moreA cs (xs.take (k + 1)) = more1 (moreA cs (xs.take k)) x := by
  rw [List.take_add_one,h]; simp [moreA]
theorem moreA_len (cs : List (ByteArray × ByteArray)) : ∀ xs : List (ByteArray × ByteArray),(moreA cs xs).length ≤ cs.length + xs.length := by
  intro xs
  induction xs generalizing cs with
  | nil => simp [moreA]
  | cons x r ih =>
    have := ih (more1 cs x)
    simp only [moreA,List.foldl_cons] at this ⊢
    have h2 : (more1 cs x).length ≤ cs.length + 1 := by unfold more1; split <;> simp
    simp only [List.length_cons]; omega
def upA (L : List Nd) (i : Nat) (xs : List (ByteArray × ByteArray)) : List Nd := L.modify i fun n => setAttrs (moreA n.attrs xs) n
theorem upA_gd {L : List Nd} (h : Gd L) (i : Nat) (xs : List (ByteArray × ByteArray)) : Gd (upA L i xs) := h.modify fun n => ⟨rfl,rfl,rfl⟩
theorem upA_gN {L : List Nd} {i : Nat} (h : i < L.length) (xs : List (ByteArray × ByteArray)) : gN (upA L i xs) i = setAttrs (moreA (gN L i).attrs xs) (gN L i) := by
  rw [upA,gN_modify h,if_pos rfl]
theorem upA_set {L : List Nd} {i : Nat} (h : i < L.length) (xs ys : List (ByteArray × ByteArray)) (cs : List (ByteArray × ByteArray)) (e : moreA (gN L i).attrs ys = cs) : (upA L i xs).modify i (setAttrs cs) = upA L i ys := by
  apply List.ext_getElem?
  intro j
  simp only [upA,List.getElem?_modify]
  by_cases hj : i = j
  · subst hj
    rw [List.getElem?_eq_getElem h]
    have : gN L i = L[i] := gN_nat (List.getElem?_eq_getElem h)
    rw [this] at e
    simp only [if_true,Option.map_eq_map,Option.map_some]
    rw [e]; rfl
  · simp [hj]
theorem upA_congr {L : List Nd} {i : Nat} (h : i < L.length) (xs ys : List (ByteArray × ByteArray)) (e : moreA (gN L i).attrs ys = moreA (gN L i).attrs xs) : upA L i xs = upA L i ys := by
  apply List.ext_getElem?
  intro j
  simp only [upA,List.getElem?_modify]
  by_cases hj : i = j
  · subst hj
    have : gN L i = L[i] := gN_nat (List.getElem?_eq_getElem h)
    rw [this] at e
    rw [List.getElem?_eq_getElem h]
    simp only [if_true,Option.map_eq_map,Option.map_some]
    rw [e]
  · simp [hj]
theorem more_a {w0 w : World} {P : Nat → Prop} {pa : Nat} {L : List Nd} (h : At w0 w P pa L) (hb : L.length < 100000) (hab : ∀ n ∈ L,n.attrs.length < 1000000) {v0 : Value} {xs : List (ByteArray × ByteArray)} (hv : RdAt w0 2 v0 (attrCells xs)) (hxl : xs.length < 1000000) (i : Int) :
    Gives Tryz.prog 134 #[.pointer (some ⟨pa,0,none⟩),.int .i64 i,v0] w fun v w' => v = .int .i64 (moreN L i xs).2 ∧ At w0 w' P pa (moreN L i xs).1 ∧ Upd (AF w0 P) w w' := by
  have no : At w0 w P pa L ∧ Upd (AF w0 P) w w := ⟨h,Upd.refl _ _⟩
  have hne := h.gd.ne
  by_cases h1 : 0 ≤ i ∧ i < L.length
  · obtain ⟨i, rfl⟩ : ∃ k : Nat, i = k := ⟨i.toNat, by omega⟩
    have hil : i < L.length := by omega
    obtain ⟨bn,cap,M,m,hM,hML,hF,hm,hmn,hl⟩ := h.ar.at (gN_some hil)
    have hh := hM.head
    have c0 := hM.cell hm (j := 0) (by decide)
    simp only [Laid.cells,List.getElem?_cons_zero,List.getElem?_cons_succ,Nat.add_zero,hmn] at c0
    have hi1 : (0 : Int) ≤ i := by omega
    have hi2 : (i : Int) < M.length := by omega
    have hi3 : (i : Int) < L.length := by omega
    by_cases h3 : (gN L i).kind = 3
    · have e : moreN L i xs = (upA L i xs, 0) := if_pos ⟨h1, h3⟩
      rw [e]
      obtain ⟨a,c,rfl,hc,hcell⟩ := attrs_len hv
      refine Gives.of_W Tryz.call134 Tryz.func134 rfl Tryz.ntmps134 (by simp) ?_; intro Z hZ
      (repeat revert hK K);refine W0 ?_;repeat with_reducible intro K hK
      refine (none_c h.ar hne).mono ?_
      rintro v w' ⟨rfl,rfl⟩
      (repeat revert hK K);refine W0 ?_;repeat with_reducible intro K hK
      refine (has_c _ h.ar).mono ?_
      rintro v w' ⟨rfl,rfl⟩
      (repeat revert hK K);refine W7 @hi1 @hi3 @hh @hi2 @c0 @h3 @not_true_eq_false ?_;repeat with_reducible intro K hK
      refine W_loop (S := Nat) (fun k => [(0, .pointer (some ⟨pa, 0, none⟩)), (1, .int .i64 (i : Int)), (28, .slice a xs.length c), (29, .int .i64 (xs.length : Int)), (30, .int .i64 (k : Int))])
        (fun k w2 => k ≤ xs.length ∧ At w0 w2 P pa (upA L i (xs.take k)) ∧ Upd (AF w0 P) w' w2) (fun k => xs.length - k) 0 ?_ ?_ ?_
      · (repeat simp only [push_cast,seval,-Nat.reduceSubDiff])
      · refine ⟨by omega, ?_, Upd.refl _ _⟩
        have : upA L i (xs.take 0) = L := by
          rw [List.take_zero,upA]
          have e : (fun n : Nd => setAttrs (moreA n.attrs []) n) = id := by funext n; rfl
          rw [e]; exact List.modify_id ..
        rw [this]; exact h
      clear hh c0 hM hML hF hm hmn hl hi2
      rintro k w2 ⟨hk,hA,hu⟩
      by_cases hkl : k < xs.length
      · obtain ⟨x, hx⟩ : ∃ x, xs[k]? = some x := ⟨_, List.getElem?_eq_getElem hkl⟩
        obtain ⟨a',c',e,_,hcell2⟩ := attrs_len (hv.ext hA.ext)
        cases e
        obtain ⟨b,o,rfl,q1,q2⟩ := hcell2 k x hx
        rw [cell_h] at q1 q2
        have b0 : (k : Int) < (xs.length : Int) := by omega
        have b1 : (0 : Int) ≤ (k : Int) := by omega
        have b2 : inI64 ((k : Int) + 1) := by unfold inI64; omega
        clear hcell hcell2
        (repeat first|(with_reducible first|(refine hK _ _ ?_;clear hK K)|refine ‹∀σ w,_→K σ w› _ _ ?_|(refine W_st ?_;constructor;try intro K hK))|((with_reducible first|refine hZ _ _ ?_|refine W_rg ?_|skip);repeat1' simp only[push_cast,seval,-Nat.reduceSubDiff,cell_h,can_h,cellO_cells,canO_cells,setO_cells,heap_set_h,heap_alloc_h,size_set_h,size_alloc_h,vcells_agg,succ_ne,ne_succ,List.setIfInBounds_toArray,List.set_cons_succ,List.set_cons_zero,drew_h,b0,b1,q1,q2,RunV_zero Tryz.zeroValue34])|((repeat((fail_if_success with_reducible refine hK _ _ ?_);clear hK K));with_reducible refine hK _ _ ?_;clear hK K))
        have z1 : (w2.alloc (.cells #[.string ⟨#[]⟩,.string ⟨#[]⟩] 34)).heap[w2.heap.size]? = some (.cells #[.string ⟨#[]⟩,.string ⟨#[]⟩] 34 (0,0)) := by rw [heap_alloc_h,if_pos rfl]
        have hp3 := setCells_all z1 (l := [.string x.1,.string x.2]) rfl
        have hx3 : Ext w2 (setCells (w2.alloc (.cells #[.string ⟨#[]⟩,.string ⟨#[]⟩] 34)) ⟨w2.heap.size,0,none⟩ [.string x.1,.string x.2] 0) := Upd.trans (Ext.alloc w2 _) (Upd.setCells (F := fun b => b = w2.heap.size) (a := ⟨w2.heap.size,0,none⟩) _ rfl _ 0) fun i hi e => by omega
        generalize setCells (w2.alloc (.cells #[.string ⟨#[]⟩,.string ⟨#[]⟩] 34)) ⟨w2.heap.size,0,none⟩ [.string x.1,.string x.2] 0 = w3 at *
        have hpl := blk_lt hp3
        have hA3 : At w0 w3 (fun b => P b ∨ b = w2.heap.size) pa (upA L i (xs.take k)) := hA.guard hx3 fun b hb => by
          rcases hb with hb | rfl
          · exact .inl hb
          · exact .inr ⟨Nat.le_refl _,hpl⟩
        have hup := upA_gN hil (xs.take k)
        have hlen : (upA L i (xs.take k)).length = L.length := by simp [upA]
        obtain ⟨bn,cap,M,m,hM,hML,hF,hm,hmn,hl⟩ := hA3.ar.at (gN_some (L := upA L i (xs.take k)) (i := i) (by omega))
        have hh := hM.head
        have c4 := hM.cell hm (j := 4) (by decide)
        simp only [Laid.cells,List.getElem?_cons_zero,List.getElem?_cons_succ] at c4
        have hat := (hM.sub m (List.mem_of_getElem? hm)).attrs
        rw [hmn,hup] at hat
        simp only [setAttrs] at hat
        obtain ⟨ea,ec,eav,_⟩ := (attrs_len hat.rd)
        have hml := moreA_len (gN L i).attrs (xs.take k)
        have hal : (gN L i).attrs.length < 1000000 := hab _ (List.mem_of_getElem? (gN_some hil))
        have htk : (xs.take k).length ≤ xs.length := by rw [List.length_take]; omega
        have hmr : moreA (gN L i).attrs (xs.take (k + 1)) = more1 (moreA (gN L i).attrs (xs.take k)) x := moreA_take hx
        rw [cell_h] at hh c4
        rw [eav] at c4
        have hi2 : (i : Int) < M.length := by omega
        (repeat revert hK K);refine W5 @cell_h @hh @hi1 @hi2 @c4 ?_;repeat with_reducible intro K hK
        have hcon := contains_c (l := moreA (gN L i).attrs (xs.take k)) (by rw [eav] at hat; exact hat.rd) (by omega) hp3
        refine hcon.mono ?_
        rintro v w4 ⟨rfl,hx4⟩
        cases hany : (moreA (gN L i).attrs (xs.take k)).any (fun y => decide (y.1 = x.1)) with
        | true =>
          (repeat revert hK K);refine W1 @b2 ?_;repeat with_reducible intro K hK
          refine ⟨k + 1,by omega,?_⟩
          (repeat simp only [push_cast,seval,-Nat.reduceSubDiff])
          have e1 : upA L i (xs.take k) = upA L i (xs.take (k + 1)) := upA_congr hil _ _ (by rw [hmr,more1,if_pos hany])
          rw [← e1]
          exact ⟨by omega,(hA.pass (hx3.trans hx4)),Upd.trans hu (hx3.trans hx4) fun _ _ h => h.elim⟩
        | false =>
          have hx5 : Ext w3 w4.drew := hx4.trans (Ext.drew w4)
          have hA4 := hA3.pass hx5
          have hM4 := hM.frame hx5 fun _ _ h => h.elim
          have hh4 := hM4.head
          have c44 := hM4.cell hm (j := 4) (by decide)
          have hp4 := (hx5.heap hpl).trans hp3
          have hat4 := hat.ext hx5
          simp only [Laid.cells,List.getElem?_cons_zero,List.getElem?_cons_succ] at c44
          rw [eav] at c44 hat4
          rw [cell_h] at hh4 c44
          have hbl : ∀ b,m.ab = some b → b ∈ m.blks := fun b hb => by simp [Laid.blks,hb]
          have hin : ∀ b,b ∈ m.blks → b ∈ blocks pa bn M := fun b hb => by simp only [blocks,List.mem_cons,List.mem_flatMap]; exact .inr (.inr ⟨m,List.mem_of_getElem? hm,hb⟩)
          obtain ⟨nd1,nd2,nd3⟩ := hM.nd_blks (List.mem_of_getElem? hm)
          have hpx : ∀ b,m.ab = some b → ¬ b = w2.heap.size := fun b hb e => (hF b (hin b (hbl b hb))).2 (.inr e)
          have hs4 := hx5.alike.size
          have hpa4 : pa < w4.drew.heap.size := hM4.lt (by simp [blocks])
          have hbn4 : bn < w4.drew.heap.size := hM4.lt (by simp [blocks])
          have hne1 : (bn = pa) = False := by have := hM.own; simp [blocks] at this; exact eq_false fun e => this.1.1 e.symm
          (repeat revert hK K);refine W0 ?_;repeat with_reducible intro K hK
          refine W_draw (.pas 0 (.pas 1 (.pas 2 (.pas 3 (.pas 4 (.pas 5 (.pas 6 (.pas 7 (.pas 8 (.pas 9 (.pas 10 (.pas 11 (.pas 12 (.pas 13 (.act 14 (.act 15 (.pas 16 (.pas 17 (.last 18))))))))))))))))))) (fun b => b = pa ∨ b = bn ∨ b = w2.heap.size) (by decide) mixed (by kernel_rfl) ?_
          refine Dd7 @hh4 @hi1 @hi2 @c44 @hp4 @true_or @or_true ?_
          refine bs_one sty27 (by decide) (by decide) (v := .agg #[.string x.1,.string x.2]) rfl ?_
          have hxa : Ext w4.drew (w4.drew.alloc (.cells (Value.agg #[.string x.1,.string x.2]).cells 34)) := Ext.alloc _ _
          have hsz : (w4.drew.alloc (.cells (Value.agg #[.string x.1,.string x.2]).cells 34)).heap.size = w4.drew.heap.size + 1 := size_alloc_h _ _
          have hBl : ∀ b,(b = pa ∨ b = bn ∨ b = w2.heap.size) → b < w4.drew.heap.size := fun b hb => by
            rcases hb with rfl | rfl | rfl
            · exact hpa4
            · exact hbn4
            · omega
          refine ⟨kept_upd hxa fun b hb => ⟨hBl b hb,id⟩,?_⟩
          refine Dd7 @hh4 @hi1 @hi2 @c44 @hp4 @true_or @or_true ?_
          have hs1 : SlAt (w4.drew.alloc (.cells (Value.agg #[.string x.1,.string x.2]).cells 34)) 2 (.slice (some ⟨w4.drew.heap.size,0,none⟩) 1 1) (attrCells [x]) (some w4.drew.heap.size) := SlAt.new w4.drew 2 (Value.agg #[.string x.1,.string x.2]).cells 34 1 rfl
          have hM5 := hM4.frame hxa fun _ _ h => h.elim
          have hA5 := hA4.pass hxa
          refine app_to sty27 sty27.und (by decide) (hat4.ext hxa) hs1 (attrCells_one _) (by rw [attrCells_length,attrCells_length]; simp; omega) ?_
          intro v w6 bo g1 g2 g3
          rw [← attrCells_append] at g1
          refine ⟨kept_upd g2 fun b hb => ⟨by have := hBl b hb; omega,fun e => ?_⟩,?_⟩
          · rcases hb with rfl | rfl | hb
            · exact nd2 (hbl _ e)
            · exact nd3 (hbl _ e)
            · exact hpx b e hb
          obtain ⟨k1,k2⟩ := hM5.setAttrs hm g1 g2 g3
          obtain ⟨va,vn,vc,rfl,_,_⟩ := g1.len
          have hsA5 := hA5.low
          have hFo : ∀ b,m.ab = some b → AF w0 (fun b => P b ∨ b = w2.heap.size) b := fun b hb => hF b (hin b (hbl b hb))
          have hU : Upd (AF w0 (fun b => P b ∨ b = w2.heap.size)) (w4.drew.alloc (.cells (Value.agg #[.string x.1,.string x.2]).cells 34)) (w6.setCell ⟨bn,i * 11 + 4,none⟩ (.slice va vn vc)) :=
            Upd.put (Upd.mono g2 fun b _ hb => hFo b hb) (hF bn (by simp [blocks]))
          refine D3 @hi1 @hi2 @k1 ?_
          (repeat revert hK K);refine W1 @b2 ?_;repeat with_reducible intro K hK
          refine ⟨k + 1,by omega,?_⟩
          (repeat simp only [push_cast,seval,-Nat.reduceSubDiff])
          have e1 : (upA L i (xs.take k)).modify i (setAttrs (moreA (gN L i).attrs (xs.take k) ++ [x])) = upA L i (xs.take (k + 1)) := upA_set hil _ _ _ (by rw [hmr,more1,if_neg (by rw [hany]; decide)])
          have hA7 : At w0 (w6.setCell ⟨bn,i * 11 + 4,none⟩ (.slice va vn vc)) (fun b => P b ∨ b = w2.heap.size) pa (upA L i (xs.take (k + 1))) := by
            refine hA5.next ⟨bn,cap,_,k2,?_,fun b hb => ?_⟩ (upA_gd h.gd i _) hU
            · rw [map_set_modify (setAttrs (moreA (gN L i).attrs (xs.take k) ++ [x])) hm rfl,hML,e1]
            · rcases blocks_set hb with hb | hb
              · exact .inl (hF _ hb)
              · simp only [Laid.blks, List.mem_append, Option.mem_toList] at hb
                rcases hb with hb | hb
                · rcases g3 b hb with h' | h'
                  · exact .inl (hFo b h')
                  · exact .inr h'
                · exact .inl (hF b (hin b (by simp [Laid.blks,hb])))
          refine ⟨by omega,hA7.guard (Ext.refl _) fun b hb => .inl (.inl hb),?_⟩
          have hx7 : Ext w2 (w4.drew.alloc (.cells (Value.agg #[.string x.1,.string x.2]).cells 34)) := hx3.trans (hx5.trans hxa)
          exact Upd.trans (Upd.trans hu hx7 fun _ _ h => h.elim) hU fun b _ hb => ⟨hb.1,fun hp => hb.2 (.inl hp)⟩
      · have hke : k = xs.length := by omega
        subst hke
        rw [List.take_length] at hA
        have b0 : ¬ (xs.length : Int) < (xs.length : Int) := by omega
        (repeat revert hK K);refine W1 @b0 ?_;repeat with_reducible intro K hK
        exact ⟨hA,hu⟩
    · have e : moreN L i xs = (L, 2) := if_neg (fun h => h3 h.2)
      rw [e]
      refine Gives.of_W Tryz.call134 Tryz.func134 rfl Tryz.ntmps134 (by simp) ?_; intro Z hZ
      (repeat revert hK K);refine W0 ?_;repeat with_reducible intro K hK
      refine (none_c h.ar hne).mono ?_
      rintro v w' ⟨rfl,rfl⟩
      (repeat revert hK K);refine W0 ?_;repeat with_reducible intro K hK
      refine (has_c _ h.ar).mono ?_
      rintro v w' ⟨rfl,rfl⟩
      (repeat revert hK K);refine W7 @hi1 @hi3 @hh @hi2 @c0 @h3 @not_false_eq_true ?_;repeat with_reducible intro K hK
      exact no
  · have e : moreN L i xs = (L, 2) := if_neg (fun h => h1 h.1)
    rw [e]
    refine Gives.of_W Tryz.call134 Tryz.func134 rfl Tryz.ntmps134 (by simp) ?_; intro Z hZ
    (repeat revert hK K);refine W0 ?_;repeat with_reducible intro K hK
    refine (none_c h.ar hne).mono ?_
    rintro v w' ⟨rfl,rfl⟩
    (repeat revert hK K);refine W0 ?_;repeat with_reducible intro K hK
    refine (has_c _ h.ar).mono ?_
    rintro v w' ⟨rfl,rfl⟩
    (repeat revert hK K);refine W1 @h1 ?_;repeat with_reducible intro K hK
    exact no
end Go.Proofs.YtgnnlaeikcnhcaaGreatDoor
end
