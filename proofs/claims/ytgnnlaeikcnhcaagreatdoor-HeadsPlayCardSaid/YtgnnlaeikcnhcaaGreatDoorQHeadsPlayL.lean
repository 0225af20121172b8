/- What the proof leans on,part 12 of 15. -/
import Derived.Test.YtgnnlaeikcnhcaaGreatDoorQHeadsPlayK
set_option linter.unusedSimpArgs false
set_option linter.unusedVariables false
section
namespace Go.Vk
open Go Go.Proofs.YtgnnlaeikcnhcaaGreatDoor
theorem Dc.base {w0 w : World} {S : Nat → Prop} {pd : Nat} {b : BSt} (h : Dc w0 S w pd b) : ∃ S1 : Nat → Prop,(∀ q,S1 q → q < w.heap.size) ∧ (∀ q,S1 q → S q ∨ w0.heap.size ≤ q) ∧ ∀ w1,Ext w w1 → Dc w1 S1 w1 pd b ∧ (∀ w',Upd S1 w1 w' → Upd S w0 w') ∧ ∀ w' b',Dc w1 S1 w' pd b' → Dc w0 S w' pd b' := by
  obtain ⟨hu,x,hM,hS⟩ := h
  have h0 := hu.alike.size
  have tr : ∀ w1,Ext w w1 → ∀ w',Upd (fun q => q ∈ x.own pd) w1 w' → Upd S w0 w' := fun w1 hx w' hu2 =>
    Upd.trans hu (Upd.trans (F := fun q => q ∈ x.own pd) hx.upd hu2 fun q _ hq => hq) fun q hq hm => by
      rcases hS q hm with h | h
      · exact h
      · omega
  refine ⟨fun q => q ∈ x.own pd,fun q hq => hM.lt hq,hS,fun w1 hx => ⟨⟨Upd.refl _ _,x,hM.ext hx,fun q hq => .inl hq⟩,tr w1 hx,fun w' b' h2 => ?_⟩⟩
  obtain ⟨hu2,x2,hM2,hS2⟩ := h2
  refine ⟨tr w1 hx w' hu2,x2,hM2,fun q hq => ?_⟩
  have := hx.alike.size
  rcases hS2 q hq with h | h
  · exact hS q h
  · exact .inr (by omega)
theorem Dc.keep {w1 w2 : World} {S1 : Nat → Prop} {pd p : Nat} {b : BSt} {o : Obj} (h : Dc w1 S1 w2 pd b) (hp : w1.heap[p]? = some o) (np : ¬ S1 p) : w2.heap[p]? = some o :=
  (h.1.same p (blk_lt hp) np).trans hp
theorem gd_kids {L : List Nd} (hG : Gd L) (q : Int) : (∀ j ∈ (gN L q).kids,0 ≤ j) ∧ (gN L q).kids.length ≤ L.length := by
  refine ⟨fun j hj => ?_,hG.few q⟩
  have := (hG.kid q j).1 hj
  exact (hG.range (j := j) (by omega)).1.1
theorem Shp.tq {b : BSt} (h : Shp b) : ∃ q : Nat,targB b = q ∧ q < b.L.length ∧ hN b.L q tmpl = false := by
  obtain ⟨t0,t1,t2⟩ := h.t0
  refine ⟨(targB b).toNat,by omega,by omega,?_⟩
  rw [show (((targB b).toNat : Nat) : Int) = targB b by omega]
  unfold hN
  rcases t2 with t2 | t2
  · rw [t2.1]; rfl
  · rw [decide_eq_false t2.2,Bool.and_false,Bool.and_false]
end Go.Vk
namespace Go.Proofs.YtgnnlaeikcnhcaaGreatDoor
open Go Go.Vk
set_option maxHeartbeats 40000000
section
variable {w0 w : World} {S : Nat → Prop} {pd : Nat} {b : BSt}
theorem dnew_lay (hG : Gd b.L) {n : Nd} (h : Dc w0 S w pd { b with L := (addN b.L n).1 }) (hL : b.L.length < 90000) (hk : kidK n.kind = true) {q : Nat} (hq : q < b.L.length) :
    Gives Tryz.prog 181 #[.pointer (some ⟨pd,0,none⟩),.int .i64 (q : Int),.int .i64 (-1),.int .i64 (b.L.length : Int)] w fun _ w' => Dc w0 S w' pd { b with L := hangN (addN b.L n).1 q (-1) b.L.length } := by
  obtain ⟨h1,h2,h3,h4,h5,h6,h7,h8⟩ := addN_new (L := b.L) hk
  obtain ⟨k0,g1,g2⟩ := add_way hG hk hq
  have ho := addN_old (L := b.L) (n := n) (q : Int) (by omega)
  obtain ⟨g3,g4⟩ := gd_kids hG (q : Int)
  exact dlay_c h (by show (addN b.L n).1.length < _; omega) (p := q) (i := b.L.length) (k0 := k0) (by show q < (addN b.L n).1.length; omega) h2 (by show (gN (addN b.L n).1 _).parent < 0; rw [h7]; decide)
    (by show ∀ j ∈ (gN (addN b.L n).1 _).kids,_; rw [ho]; exact g3) (by show (gN (addN b.L n).1 _).kids.length < _; rw [ho]; omega) g1 g2
theorem dput_c (hG : Gd b.L) {n : Nd} (h : Dc w0 S w pd { b with L := (addN b.L n).1 }) (hL : b.L.length < 90000) (hk : kidK n.kind = true) (hf : b.foster = false) {q : Nat} (hq : q < b.L.length) (hn : hN b.L q tmpl = false) :
    Gives Tryz.prog 218 #[.pointer (some ⟨pd,0,none⟩),.int .i64 (b.L.length : Int),.int .i64 (q : Int)] w fun _ w' => Dc w0 S w' pd { b with L := hangN (addN b.L n).1 q (-1) b.L.length } := by
  obtain ⟨h1,h2,h3,_⟩ := addN_new (L := b.L) hk
  have hn2 : hN ({ b with L := (addN b.L n).1 } : BSt).L q tmpl = false := by
    show hN (addN b.L n).1 q tmpl = false
    unfold hN at hn ⊢
    rw [addN_old _ (by omega)]; exact hn
  refine Gives.of_W Tryz.call218 Tryz.func218 rfl Tryz.ntmps218 (by simp) ?_; intro Z hZ
  (repeat revert hK K);refine W0 ?_;repeat with_reducible intro K hK
  refine (dplace_c h (by show (addN b.L n).1.length < _; omega) hf hn2).mono ?_
  intro v w' ⟨hv,hw⟩
  subst hv; subst w'
  (repeat revert hK K);refine W2 @ext0 @ext1 ?_;repeat with_reducible intro K hK
  refine (dnew_lay hG h hL hk hq).mono ?_
  intro v w2 h2
  (repeat revert hK K);refine W0 ?_;repeat with_reducible intro K hK
  exact h2
set_option maxHeartbeats 4000000 in
theorem dins_c (h : Dc w0 S w pd b) (hsh : Shp b) (hs : b.s.length < 500) (hL : b.L.length < 80000) {t : HTok} {av : Value} (ha : ∀ w',Upd S w0 w' → RdAt w' 2 av (attrCells t.attrs)) (hal : t.attrs.length < 1000000) (sp : Int) :
    Gives Tryz.prog 183 #[.pointer (some ⟨pd,0,none⟩),.agg (t.row av),.int .i64 sp] w fun v w' => v = .int .i64 (b.L.length : Int) ∧ Dc w0 S w' pd (insL b (elTok t sp)) := by
  obtain ⟨xa,xn,xc,eav,_⟩ := id (ha w h.1)
  subst eav
  have hrow : t.row (.slice xa xn xc) = #[.int .i64 t.kind,.string t.name,.string t.text,.slice xa xn xc,.bool t.dup,.bool t.self,.bool t.quirks,.int .i64 t.frm,.int .i64 t.to] := rfl
  have hx := Ext.alloc w (.cells (t.row (.slice xa xn xc)) 37)
  have hp : (w.alloc (.cells (t.row (.slice xa xn xc)) 37)).heap[w.heap.size]? = some (.cells (t.row (.slice xa xn xc)) 37 (0,0)) := by rw [heap_alloc_h,if_pos rfl]
  obtain ⟨S1,lo,_,hbase⟩ := h.base
  obtain ⟨q,hq,hql,hqn⟩ := hsh.tq
  refine Gives.of_W Tryz.call183 Tryz.func183 rfl Tryz.ntmps183 (by simp) ?_; intro Z hZ
  (repeat revert hK K);refine W1 @vcells_agg ?_;repeat with_reducible intro K hK
  generalize w.alloc (.cells (t.row (.slice xa xn xc)) 37) = w1 at *
  obtain ⟨p,hpe⟩ : ∃ p,p = w.heap.size := ⟨_,rfl⟩
  rw [← hpe] at hp ⊢
  rw [hrow] at hp
  obtain ⟨h1,hup,hback⟩ := hbase w1 hx
  have np : ¬ S1 p := fun hq => by have := lo p hq; omega
  obtain ⟨oa,oc,la,lc,ma,mc,eo,ho,_,_,_,_,_,hh⟩ := h1.2.choose_spec.1.hd
  have d0 : ¬ (512 : Int) ≤ (b.s.length : Int) := by omega
  (repeat revert hK K);refine Wc3 @hh @hp @d0 ?_;repeat with_reducible intro K hK
  refine build_struct Tryz.zeroValue46 un30 pl30 (cs := #[.int .i64 3,.string t.name,.string ⟨#[]⟩,.int .i64 sp,.slice xa xn xc,.bool t.dup,.int .i64 0,.int .i64 0,.slice none 0 0,.int .i64 t.frm,.int .i64 t.to]) (by rfl) ?_
  (repeat revert hK K);refine W0 ?_;repeat with_reducible intro K hK
  refine (dadd_c h1 (by omega) (m := ⟨elTok t sp,.slice xa xn xc,.slice none 0 0,none,none⟩) (ha _ (hup _ h1.1)) hal rfl rfl).mono ?_
  rintro v w2 ⟨rfl,h2⟩
  rw [(addN_new (L := b.L) (n := elTok t sp) rfl).1]
  (repeat revert hK K);refine W0 ?_;repeat with_reducible intro K hK
  refine (dhere_c h2 (by show b.s.length < _; omega)).mono ?_
  rintro v w3 ⟨rfl,hx3⟩
  have h3 := h2.ext hx3
  rw [show targB ({ b with L := (addN b.L (elTok t sp)).1 } : BSt) = targB b from rfl,hq]
  (repeat revert hK K);refine W0 ?_;repeat with_reducible intro K hK
  refine (dput_c hsh.gd h3 (by omega) rfl hsh.fo hql hqn).mono ?_
  intro v w4 h4
  obtain ⟨hu4,x4,hM4,hS4⟩ := h4
  obtain ⟨oa4,oc4,la4,lc4,ma4,mc4,eo4,ho4,_,_,_,_,_,hh4⟩ := hM4.hd
  dsimp only at hh4 eo4 ho4
  (repeat revert hK K);refine Wc1 @hh4 ?_;repeat with_reducible intro K hK
  refine bs_one sty28 (by decide) (by decide) (v := .int .i64 (b.L.length : Int)) rfl ?_
  have hxa := Ext.alloc w4 (.cells (Value.int .i64 (b.L.length : Int)).cells 3)
  have hna := SlAt.new w4 1 (Value.int .i64 (b.L.length : Int)).cells 3 1 rfl
  generalize w4.alloc (.cells (Value.int .i64 (b.L.length : Int)).cells 3) = w5 at *
  (repeat revert hK K);refine W0 ?_;repeat with_reducible intro K hK
  have hop := hM4.op
  rw [eo4] at hop
  refine app_to_rd sty28 sty28.und (by decide) (hop.ext hxa) hna.rd (by rfl) (by rw [intCells_length,nds_lenD]; simp [Value.cells]; omega) ?_
  intro v w6 bo g1 g2 g3
  have e1 : intCells (nds b.s) ++ (Value.int .i64 (b.L.length : Int)).cells.toList = intCells (nds (b.s ++ [⟨(b.L.length : Int),sp,t.name⟩])) := by
    rw [show nds (b.s ++ [⟨(b.L.length : Int),sp,t.name⟩]) = nds b.s ++ [(b.L.length : Int)] by simp [nds],intCells_append]; rfl
  dsimp only at g1
  rw [e1] at g1
  obtain ⟨va,vn,vc,rfl,_,_⟩ := g1.len
  have hsa := hxa.alike.size
  obtain ⟨k1,k2,k3,k4⟩ := hM4.opn (w2 := w6) (s' := b.s ++ [⟨(b.L.length : Int),sp,t.name⟩]) g1 (Upd.trans hxa.upd g2 fun _ _ e => e) fun q hq => by
    rcases g3 q hq with h | h
    · exact .inl h
    · exact .inr (by omega)
  have hfin := hback _ _ (Dc.step hu4 hM4 hS4 k3 k2 k4)
  (repeat revert hK K);refine W1 @k1 ?_;repeat with_reducible intro K hK
  unfold insL
  rw [hq]
  exact hfin
end
end Go.Proofs.YtgnnlaeikcnhcaaGreatDoor
end
section
namespace Go.Vk
open Go Go.Proofs.YtgnnlaeikcnhcaaGreatDoor
theorem Shp.hungL {b : BSt} (h : Shp b) {n : Nd} (hkk : kidK n.kind = true) : hungB b n = { b with L := hangN (addN b.L n).1 (targB b).toNat (-1) b.L.length } := by
  obtain ⟨⟨t0,t1⟩,hh,hp,hp2⟩ := h.targ
  obtain ⟨h1,h2,h3,h4,h5,h6,h7,h8⟩ := addN_new (L := b.L) hkk
  have happ := add_app h.gd hkk ⟨t0,t1⟩ hh
  have hpl : placeB (addB b n) (targB (addB b n)) = (targB b,-1) := by
    show placeB { b with L := (addN b.L n).1 } (targB b) = _
    refine h.place ?_
    obtain ⟨_,_,t2⟩ := h.t0
    rw [nodeN_gN (by omega),addN_old _ t1]
    rcases t2 with t2 | t2
    · left; rw [t2.1]; decide
    · exact .inr t2.2
  unfold hungB putB
  rw [hpl,if_neg (show ¬ (0 : Int) ≤ -1 by decide),h1]
  dsimp only
  rw [show (addB b n).L = (addN b.L n).1 from rfl,happ]
  rfl
theorem Shp.commL {b : BSt} (h : Shp b) (x : ByteArray) : commB b x (-1) = { b with L := hangN (addN b.L (comTok x)).1 (targB b).toNat (-1) b.L.length } ∧ commB b x 0 = { b with L := hangN (addN b.L (comTok x)).1 0 (-1) b.L.length } := by
  have hpos : 0 < b.L.length := List.length_pos_iff.2 h.gd.ne
  obtain ⟨h1,_⟩ := addN_new (L := b.L) (n := comTok x) rfl
  refine ⟨?_,?_⟩
  · unfold commB
    rw [if_pos (by decide)]
    exact h.hungL rfl
  · unfold commB
    rw [if_neg (by decide),h1]
    have happ := add_app h.gd (n := comTok x) rfl (q := 0) ⟨by decide,by omega⟩ (by rw [h.gd.doc]; rfl)
    rw [show (addB b (comTok x)).L = (addN b.L (comTok x)).1 from rfl,happ]
    rfl
end Go.Vk
namespace Go.Proofs.YtgnnlaeikcnhcaaGreatDoor
open Go Go.Vk
set_option maxHeartbeats 40000000
section
variable {w0 w : World} {S : Nat → Prop} {pd : Nat} {b : BSt}
theorem dimply_c (h : Dc w0 S w pd b) (hsh : Shp b) (hs : b.s.length < 500) (hL : b.L.length < 80000) (x : ByteArray) :
    Gives Tryz.prog 184 #[.pointer (some ⟨pd,0,none⟩),.string x] w fun v w' => v = .int .i64 (b.L.length : Int) ∧ Dc w0 S w' pd (insL b (elTok (tokI x) 0)) := by
  refine Gives.of_W Tryz.call184 Tryz.func184 rfl Tryz.ntmps184 (by simp) ?_; intro Z hZ
  (repeat revert hK K);refine W0 ?_;repeat with_reducible intro K hK
  refine build_struct Tryz.zeroValue37 unTo plTo (cs := #[.int .i64 2,.string x,.string ⟨#[]⟩,.slice none 0 0,.bool false,.bool false,.bool false,.int .i64 (-1),.int .i64 (-1)]) (by rfl) ?_
  (repeat revert hK K);refine W0 ?_;repeat with_reducible intro K hK
  refine (dins_c h hsh hs hL (t := tokI x) (av := .slice none 0 0) (fun _ _ => (SlAt.nil _ _).rd) (show (0 : Nat) < 1000000 by decide) 0).mono ?_
  rintro v w2 ⟨rfl,h2⟩
  (repeat revert hK K);refine W0 ?_;repeat with_reducible intro K hK
  exact h2
theorem donly_c (h : Dc w0 S w pd b) (hsh : Shp b) (hs : b.s.length < 500) (hL : b.L.length < 80000) {t : HTok} {av : Value} (ha : ∀ w',Upd S w0 w' → RdAt w' 2 av (attrCells t.attrs)) (hal : t.attrs.length < 1000000) :
    Gives Tryz.prog 228 #[.pointer (some ⟨pd,0,none⟩),.agg (t.row av)] w fun v w' => Dc w0 S w' pd (popS (insL b (elTok t 0))) := by
  obtain ⟨xa,xn,xc,eav,_⟩ := id (ha w h.1)
  subst eav
  have hrow : t.row (.slice xa xn xc) = #[.int .i64 t.kind,.string t.name,.string t.text,.slice xa xn xc,.bool t.dup,.bool t.self,.bool t.quirks,.int .i64 t.frm,.int .i64 t.to] := rfl
  have hx := Ext.alloc w (.cells (t.row (.slice xa xn xc)) 37)
  have hp : (w.alloc (.cells (t.row (.slice xa xn xc)) 37)).heap[w.heap.size]? = some (.cells (t.row (.slice xa xn xc)) 37 (0,0)) := by rw [heap_alloc_h,if_pos rfl]
  obtain ⟨S1,lo,loS,hbase⟩ := h.base
  refine Gives.of_W Tryz.call228 Tryz.func228 rfl Tryz.ntmps228 (by simp) ?_; intro Z hZ
  (repeat revert hK K);refine W1 @vcells_agg ?_;repeat with_reducible intro K hK
  generalize w.alloc (.cells (t.row (.slice xa xn xc)) 37) = w1 at *
  obtain ⟨p,hpe⟩ : ∃ p,p = w.heap.size := ⟨_,rfl⟩
  rw [← hpe] at hp ⊢
  rw [hrow] at hp
  obtain ⟨h1,hup,hback⟩ := hbase w1 hx
  have np : ¬ S1 p := fun hq => by have := lo p hq; omega
  have ha1 : ∀ w',Upd S1 w1 w' → RdAt w' 2 (.slice xa xn xc) (attrCells t.attrs) := fun w' hu => ha w' (hup w' hu)
  (repeat revert hK K);refine Wc1 @hp ?_;repeat with_reducible intro K hK
  rw [← hrow]
  refine (dins_c h1 hsh hs hL ha1 hal 0).mono ?_
  rintro v w2 ⟨rfl,h2⟩
  have i0 : (0 : Int) ≤ (b.L.length : Int) := by omega
  (repeat revert hK K);refine W1 @i0 ?_;repeat with_reducible intro K hK
  refine (dpop_c h2 (by show (b.s ++ [_]).length < _; simp; omega)).mono ?_
  intro v w3 h3
  (repeat revert hK K);refine W0 ?_;repeat with_reducible intro K hK
  exact hback _ _ h3
theorem dcomm_c (h : Dc w0 S w pd b) (hsh : Shp b) (hs : b.s.length < 500) (hL : b.L.length < 80000) {t : HTok} {av : Value} (ha : ∀ w',Upd S w0 w' → RdAt w' 2 av (attrCells t.attrs)) (hal : t.attrs.length < 1000000) {into : Int} (hi : into = -1 ∨ into = 0) :
    Gives Tryz.prog 188 #[.pointer (some ⟨pd,0,none⟩),.agg (t.row av),.int .i64 into] w fun v w' => Dc w0 S w' pd (commB b t.text into) := by
  obtain ⟨q,hq,hql,hqn⟩ := hsh.tq
  obtain ⟨e1,e2⟩ := hsh.commL t.text
  have hpos : 0 < b.L.length := by omega
  obtain ⟨xa,xn,xc,eav,_⟩ := id (ha w h.1)
  subst eav
  have hrow : t.row (.slice xa xn xc) = #[.int .i64 t.kind,.string t.name,.string t.text,.slice xa xn xc,.bool t.dup,.bool t.self,.bool t.quirks,.int .i64 t.frm,.int .i64 t.to] := rfl
  have hx := Ext.alloc w (.cells (t.row (.slice xa xn xc)) 37)
  have hp : (w.alloc (.cells (t.row (.slice xa xn xc)) 37)).heap[w.heap.size]? = some (.cells (t.row (.slice xa xn xc)) 37 (0,0)) := by rw [heap_alloc_h,if_pos rfl]
  obtain ⟨S1,lo,loS,hbase⟩ := h.base
  refine Gives.of_W Tryz.call188 Tryz.func188 rfl Tryz.ntmps188 (by simp) ?_; intro Z hZ
  (repeat revert hK K);refine W1 @vcells_agg ?_;repeat with_reducible intro K hK
  generalize w.alloc (.cells (t.row (.slice xa xn xc)) 37) = w1 at *
  obtain ⟨p,hpe⟩ : ∃ p,p = w.heap.size := ⟨_,rfl⟩
  rw [← hpe] at hp ⊢
  rw [hrow] at hp
  obtain ⟨h1,hup,hback⟩ := hbase w1 hx
  have np : ¬ S1 p := fun hq => by have := lo p hq; omega
  have ha1 : ∀ w',Upd S1 w1 w' → RdAt w' 2 (.slice xa xn xc) (attrCells t.attrs) := fun w' hu => ha w' (hup w' hu)
  (repeat revert hK K);refine Wc1 @hp ?_;repeat with_reducible intro K hK
  refine build_struct Tryz.zeroValue46 un30 pl30 (cs := #[.int .i64 5,.string ⟨#[]⟩,.string t.text,.int .i64 0,.slice none 0 0,.bool false,.int .i64 0,.int .i64 0,.slice none 0 0,.int .i64 (-1),.int .i64 (-1)]) (by rfl) ?_
  (repeat revert hK K);refine W0 ?_;repeat with_reducible intro K hK
  refine (dadd_c h1 (by omega) (m := ⟨comTok t.text,.slice none 0 0,.slice none 0 0,none,none⟩) (SlAt.nil _ _).rd (show (0 : Nat) < 1000000 by decide) rfl rfl).mono ?_
  rintro v w2 ⟨rfl,h2⟩
  rw [(addN_new (L := b.L) (n := comTok t.text) rfl).1]
  rcases hi with rfl | rfl
  · have i0 : ¬ (0 : Int) ≤ -1 := by decide
    (repeat revert hK K);refine W1 @i0 ?_;repeat with_reducible intro K hK
    refine (dhere_c h2 (by show b.s.length < _; omega)).mono ?_
    rintro v w3 ⟨rfl,hx3⟩
    have h3 := h2.ext hx3
    rw [show targB ({ b with L := (addN b.L (comTok t.text)).1 } : BSt) = targB b from rfl,hq]
    (repeat revert hK K);refine W0 ?_;repeat with_reducible intro K hK
    refine (dput_c hsh.gd h3 (by omega) rfl hsh.fo hql hqn).mono ?_
    intro v w4 h4
    (repeat revert hK K);refine W0 ?_;repeat with_reducible intro K hK
    rw [e1,hq,Int.toNat_natCast]
    exact hback _ _ h4
  · (repeat revert hK K);refine W0 ?_;repeat with_reducible intro K hK
    refine (dnew_lay hsh.gd h2 (by omega) rfl (q := 0) hpos).mono ?_
    intro v w4 h4
    (repeat revert hK K);refine W0 ?_;repeat with_reducible intro K hK
    rw [e2]
    exact hback _ _ h4
set_option maxHeartbeats 4000000 in
theorem draw_c (h : Dc w0 S w pd b) (hsh : Shp b) (hs : b.s.length < 500) (hL : b.L.length < 80000) {t : HTok} {av : Value} (ha : ∀ w',Upd S w0 w' → RdAt w' 2 av (attrCells t.attrs)) (hal : t.attrs.length < 1000000) (st : Int) :
    Gives Tryz.prog 226 #[.pointer (some ⟨pd,0,none⟩),.agg (t.row av),.int .i64 st] w fun v w' => Dc w0 S w' pd { insL b (elTok t 0) with ask := some (st,t.name),back := b.mode,mode := 7 } := by
  obtain ⟨xa,xn,xc,eav,_⟩ := id (ha w h.1)
  subst eav
  have hrow : t.row (.slice xa xn xc) = #[.int .i64 t.kind,.string t.name,.string t.text,.slice xa xn xc,.bool t.dup,.bool t.self,.bool t.quirks,.int .i64 t.frm,.int .i64 t.to] := rfl
  have hx := Ext.alloc w (.cells (t.row (.slice xa xn xc)) 37)
  have hp : (w.alloc (.cells (t.row (.slice xa xn xc)) 37)).heap[w.heap.size]? = some (.cells (t.row (.slice xa xn xc)) 37 (0,0)) := by rw [heap_alloc_h,if_pos rfl]
  obtain ⟨S1,lo,loS,hbase⟩ := h.base
  refine Gives.of_W Tryz.call226 Tryz.func226 rfl Tryz.ntmps226 (by simp) ?_; intro Z hZ
  (repeat revert hK K);refine W1 @vcells_agg ?_;repeat with_reducible intro K hK
  generalize w.alloc (.cells (t.row (.slice xa xn xc)) 37) = w1 at *
  obtain ⟨p,hpe⟩ : ∃ p,p = w.heap.size := ⟨_,rfl⟩
  rw [← hpe] at hp ⊢
  rw [hrow] at hp
  obtain ⟨h1,hup,hback⟩ := hbase w1 hx
  have np : ¬ S1 p := fun hq => by have := lo p hq; omega
  have ha1 : ∀ w',Upd S1 w1 w' → RdAt w' 2 (.slice xa xn xc) (attrCells t.attrs) := fun w' hu => ha w' (hup w' hu)
  (repeat revert hK K);refine Wc1 @hp ?_;repeat with_reducible intro K hK
  rw [← hrow]
  refine (dins_c h1 hsh hs hL ha1 hal 0).mono ?_
  rintro v w2 ⟨rfl,h2⟩
  have hp2 := h2.keep hp np
  have hxd := Ext.drew w2
  have hpd := hxd.blk hp2
  have hd := h2.ext hxd
  (repeat revert hK K);refine W0 ?_;repeat with_reducible intro K hK
  refine W_draw (.pas 0 (.pas 1 (.pas 2 (.pas 3 (.pas 4 (.pas 5 (.pas 6 (.pas 7 (.act 8 (.pas 9 (.pas 10 (.act 11 (.pas 12 (.pas 13 (.last 14))))))))))))))) (fun q => q = p) (by decide) mixed (by kernel_rfl) ?_
  generalize w2.drew = wd at *
  obtain ⟨hu,x,hM,hS⟩ := hd
  refine Dd1 @hpd ?_
  have npo : ∀ q,q = p → q < wd.heap.size ∧ ¬ q ∈ x.own pd := fun q hq => ⟨by subst hq; exact blk_lt hpd,fun hm => by
    subst hq
    rcases hS _ hm with h | h
    · exact np h
    · have := blk_lt hp; omega⟩
  obtain ⟨z1,hM1,u1⟩ := hM.put { insL b (elTok t 0) with ask := some (x.st,x.nm) } 12 (.bool true) x.st x.nm (by rfl) (by decide) ⟨rfl,rfl,rfl,rfl⟩ (fun y hy => by cases hy; exact ⟨rfl,rfl⟩)
  obtain ⟨z2,hM2,u2⟩ := hM1.put { insL b (elTok t 0) with ask := some (st,x.nm) } 13 (.int .i64 st) st x.nm (by rfl) (by decide) ⟨rfl,rfl,rfl,rfl⟩ (fun y hy => by cases hy; exact ⟨rfl,rfl⟩)
  obtain ⟨z3,hM3,u3⟩ := hM2.put { insL b (elTok t 0) with ask := some (st,t.name) } 14 (.string t.name) st t.name (by rfl) (by decide) ⟨rfl,rfl,rfl,rfl⟩ (fun y hy => by cases hy; exact ⟨rfl,rfl⟩)
  refine ⟨z1,kept_upd u1 npo,?_⟩
  have npo1 : ∀ q,q = p → q < (wd.setCell ⟨pd,12,none⟩ (.bool true)).heap.size ∧ ¬ q ∈ x.own pd := fun q hq => ⟨by have := (npo q hq).1; have := u1.alike.size; omega,(npo q hq).2⟩
  have hp1 := (u1.same p (npo p rfl).1 (npo p rfl).2).trans hpd
  generalize wd.setCell ⟨pd,12,none⟩ (.bool true) = wa at *
  refine Dd1 @hp1 ?_
  refine ⟨z2,kept_upd u2 npo1,?_⟩
  have hp2' := (u2.same p (npo1 p rfl).1 (npo1 p rfl).2).trans hp1
  generalize wa.setCell ⟨pd,13,none⟩ (.int .i64 st) = wb at *
  refine Dd1 @hp2' ?_
  refine ⟨z3,?_⟩
  have h3 : Dc w1 S1 (wb.setCell ⟨pd,14,none⟩ (.string t.name)) pd { insL b (elTok t 0) with ask := some (st,t.name) } := Dc.step hu hM hS (Upd.trans (Upd.trans u1 u2 fun _ _ h => h) u3 fun _ _ h => h) hM3 fun q hq => .inl hq
  generalize wb.setCell ⟨pd,14,none⟩ (.string t.name) = wc at *
  obtain ⟨_,x3,hM3',_⟩ := id h3
  obtain ⟨oa3,oc3,la3,lc3,ma3,mc3,_,_,_,_,_,_,_,hh3⟩ := hM3'.hd
  obtain ⟨y1,h4⟩ := h3.put { insL b (elTok t 0) with ask := some (st,t.name),back := b.mode } 4 (.int .i64 b.mode) (by decide) (fun x => rfl) ⟨rfl,rfl,rfl,rfl,rfl⟩
  have em : (insL b (elTok t 0)).mode = b.mode := rfl
  (repeat revert hK K);refine Wc3 @hh3 @em @y1 ?_;repeat with_reducible intro K hK
  generalize wc.setCell ⟨pd,4,none⟩ (.int .i64 b.mode) = we at *
  obtain ⟨v1,h5⟩ := h4.put { insL b (elTok t 0) with ask := some (st,t.name),back := b.mode,mode := 7 } 3 (.int .i64 7) (by decide) (fun x => rfl) ⟨rfl,rfl,rfl,rfl,rfl⟩
  (repeat revert hK K);refine W1 @v1 ?_;repeat with_reducible intro K hK
  exact hback _ _ h5
end
end Go.Proofs.YtgnnlaeikcnhcaaGreatDoor
end
section
namespace Go.Vk
open Go Go.Proofs.YtgnnlaeikcnhcaaGreatDoor
def txtB (b : BSt) (x : ByteArray) : BSt := { b with L := hangN (b.L ++ [textNd x]) (targB b).toNat (-1) b.L.length }
theorem Shp.charsL {b : BSt} (h : Shp b) (x : ByteArray) : charsB b x = if targB b = 0 ∨ x = ⟨#[]⟩ then b
    else match (gN b.L (targB b)).kids.getLast? with
      | some k => if (gN b.L k).kind = 4 then { b with L := b.L.modify k.toNat (addText x) } else txtB b x
      | none => txtB b x := by
  obtain ⟨⟨t0,t1⟩,hh,hp,_⟩ := h.targ
  have hnew : layD b.L (targB b) (textNd x) = hangN (b.L ++ [textNd x]) (targB b).toNat (-1) b.L.length := by
    have hgn := gN_hang_new h.gd (n := textNd x) rfl rfl (by show (4 : Int) ≠ 1; decide) (p := (targB b).toNat) (by omega)
    rw [Int.toNat_of_nonneg t0] at hgn
    have hN : New b.L (hangN (b.L ++ [textNd x]) (targB b).toNat (-1) b.L.length) (targB b) (textNd x) := ⟨h.gd,h.gd.new_free rfl rfl rfl (by omega) _,by rw [hangN_len]; simp,⟨t0,t1⟩,rfl,hgn⟩
    exact hN.list.symm
  rw [h.charsD]
  unfold Go.Vk.charsD txtB
  rw [hnew]
  by_cases hc : targB b = 0 ∨ x = ⟨#[]⟩
  · rw [if_pos hc,if_pos hc]
  · rw [if_neg hc, if_neg hc]
    cases (gN b.L (targB b)).kids.getLast? <;> rfl
def ahK (ks : List Int) : Nat → Int
  | 0 => -1
  | k + 1 => ks.getD k 0
theorem ahK_end (ks : List Int) : ahK ks ks.length = match ks.getLast? with | some k => k | none => -1 := by
  rcases List.eq_nil_or_concat ks with rfl | ⟨r,k,rfl⟩
  · rfl
  · rw [List.concat_eq_append, List.getLast?_concat, List.length_append]
    simp [ahK,List.getD]
end Go.Vk
namespace Go.Proofs.YtgnnlaeikcnhcaaGreatDoor
open Go Go.Vk
set_option maxHeartbeats 40000000
section
variable {w0 w : World} {S : Nat → Prop} {pd : Nat} {b : BSt}
set_option maxHeartbeats 4000000 in
theorem dchars_c (h : Dc w0 S w pd b) (hsh : Shp b) (hs : b.s.length < 500) (hL : b.L.length < 80000) (htx : ∀ n ∈ b.L,n.text.size < 1000000000) (x : ByteArray) (hxs : x.size < 1000000000) :
    Gives Tryz.prog 187 #[.pointer (some ⟨pd,0,none⟩),.string x] w fun _ w' => Dc w0 S w' pd (charsB b x) := by
  obtain ⟨q,hq,hql,hqn⟩ := hsh.tq
  obtain ⟨r,hr⟩ : ∃ r,r = charsB b x := ⟨_,rfl⟩
  rw [← hr]
  rw [hsh.charsL,hq] at hr
  have hadd : addN b.L ({ zN with kind := 4,text := x,frm := -1,to := -1 } : Nd) = (b.L ++ [textNd x],(b.L.length : Int)) := addN_no (n := { zN with kind := 4,text := x,frm := -1,to := -1 }) rfl (fun hh => by cases hh)
  refine Gives.of_W Tryz.call187 Tryz.func187 rfl Tryz.ntmps187 (by simp) ?_; intro Z hZ
  (repeat revert hK K);refine W0 ?_;repeat with_reducible intro K hK
  refine (dhere_c h (by omega)).mono ?_
  rintro v w1 ⟨rfl,hx1⟩
  have h1 := h.ext hx1
  rw [hq]
  (repeat revert hK K);refine W0 ?_;repeat with_reducible intro K hK
  refine (dplace_c h1 (by omega) hsh.fo hqn).mono ?_
  intro v w' ⟨hv,hw⟩
  subst hv; subst w'
  by_cases q0 : (q : Int) = 0
  · rw [if_pos (.inl q0)] at hr
    (repeat revert hK K);refine W3 @ext0 @ext1 (eq_true q0) ?_;repeat with_reducible intro K hK
    rw [hr]; exact h1
  by_cases x0 : x = ⟨#[]⟩
  · rw [if_pos (.inr x0)] at hr
    (repeat revert hK K);refine W4 @ext0 @ext1 (eq_false q0) (eq_true x0) ?_;repeat with_reducible intro K hK
    rw [hr]; exact h1
  rw [if_neg (fun h => h.elim q0 x0)] at hr
  have x0' := eq_false x0
  have q0' := eq_false q0
  (repeat revert hK K);refine W4 @ext0 @ext1 @q0' @x0' ?_;repeat with_reducible intro K hK
  obtain ⟨hu,y,hM,hS⟩ := id h1
  obtain ⟨oa,oc,la,lc,ma,mc,eo,ho,_,_,_,_,_,hh⟩ := hM.hd
  obtain ⟨n,hn⟩ : ∃ n,b.L[q]? = some n := ⟨_,List.getElem?_eq_getElem hql⟩
  obtain ⟨m,xa,xn,xc,ya,yn,yc,hm,em,hok,eav,ekv,c0,c1,c2,c3,c4,c5,c6,c7,c8,c9,c10⟩ := hM.node hn
  obtain ⟨g3,g4⟩ := gd_kids hsh.gd (q : Int)
  rw [gN_nat hn] at g3 g4 hr
  have hkk := hok.kids
  rw [em] at hkk
  obtain ⟨ya',yc',ek,hyc⟩ := hkk.ints_len
  rw [ekv] at ek
  cases ek
  have p0 : (0 : Int) ≤ (q : Int) := by omega
  have p1 : (q : Int) < (b.L.length : Int) := by omega
  refine W_loop (S := Nat) (fun k => [(0, .pointer (some ⟨pd, 0, none⟩)), (1, .string x), (4, .int .i64 (q : Int)), (5, .int .i64 (-1)), (6, .int .i64 (ahK n.kids k)), (7, .int .i64 (k : Int))])
    (fun k w2 => k ≤ n.kids.length ∧ w2 = w1) (fun k => n.kids.length - k) 0 ?_ ?_ ?_
  · (repeat simp only [push_cast,seval,-Nat.reduceSubDiff,ahK])
  · exact ⟨by omega,rfl⟩
  rintro k w2 ⟨hk,hw2⟩
  subst w2
  by_cases hkl : k < n.kids.length
  · obtain ⟨z, hz⟩ : ∃ z, n.kids[k]? = some z := ⟨_, List.getElem?_eq_getElem hkl⟩
    obtain ⟨kb,ko,_,_,e,_⟩ := hkk.some_of (by
      intro e3
      have := intCells_length n.kids
      rw [e3] at this; simp at this; omega)
    rw [ekv] at e
    cases e
    have cz : cellO (w1.heap[kb]?) (ko + k) = some (.int .i64 z) := by
      rw [← cell_h]
      have h2 := hkk
      rw [ekv] at h2
      exact h2.ints_cell hz
    have z0 := g3 z (List.mem_of_getElem? hz)
    have z1 : ¬ z = -1 := by omega
    have b0 : (k : Int) < (n.kids.length : Int) := by omega
    have b1 : (0 : Int) ≤ (k : Int) := by omega
    have b2 : inI64 ((k : Int) + 1) := by unfold inI64; omega
    have ea : ahK n.kids (k + 1) = z := by simp [ahK,List.getD,hz]
    (repeat first|(with_reducible first|(refine hK _ _ ?_;clear hK K)|refine ‹∀σ w,_→K σ w› _ _ ?_|(refine W_st ?_;constructor;try intro K hK))|((with_reducible first|refine hZ _ _ ?_|refine W_rg ?_|skip);repeat1' simp only[push_cast,seval,-Nat.reduceSubDiff,cell_h,cellO_cells,hh,p0,p1,c8,b0,b1,cz,eq_false z1,b2])|((repeat((fail_if_success with_reducible refine hK _ _ ?_);clear hK K));with_reducible refine hK _ _ ?_;clear hK K))
    refine ⟨k + 1,by omega,?_⟩
    (repeat simp only [push_cast,seval,-Nat.reduceSubDiff,ea])
    omega
  have hke : k = n.kids.length := by omega
  subst hke
  have b0 : ¬ (n.kids.length : Int) < (n.kids.length : Int) := by omega
  rw [ahK_end]
  cases hl : n.kids.getLast? with
  | none =>
    rw [hl] at hr
    dsimp only at hr ⊢
    have n1 : ¬ (0 : Int) ≤ -1 := by decide
    (repeat revert hK K);refine Wc6 @hh @p0 @p1 @c8 @b0 @n1 ?_;repeat with_reducible intro K hK
    refine build_struct Tryz.zeroValue46 un30 pl30 (cs := #[.int .i64 4,.string ⟨#[]⟩,.string x,.int .i64 0,.slice none 0 0,.bool false,.int .i64 0,.int .i64 0,.slice none 0 0,.int .i64 (-1),.int .i64 (-1)]) (by rfl) ?_
    (repeat revert hK K);refine W0 ?_;repeat with_reducible intro K hK
    refine (dadd_c h1 (by omega) (m := ⟨{ zN with kind := 4,text := x,frm := -1,to := -1 },.slice none 0 0,.slice none 0 0,none,none⟩) (SlAt.nil _ _).rd (show (0 : Nat) < 1000000 by decide) rfl rfl).mono ?_
    rintro v w2 ⟨rfl,h2⟩
    rw [congrArg Prod.snd hadd]
    (repeat revert hK K);refine W0 ?_;repeat with_reducible intro K hK
    refine (dnew_lay hsh.gd (n := { zN with kind := 4,text := x,frm := -1,to := -1 }) h2 (by omega) rfl hql).mono ?_
    intro v w3 h3
    (repeat revert hK K);refine W0 ?_;repeat with_reducible intro K hK
    rw [hadd] at h3
    rw [hr]; unfold txtB; rw [hq]; exact h3
  | some z =>
    rw [hl] at hr
    dsimp only at hr ⊢
    have z0 := g3 z (List.mem_of_getLast? hl)
    obtain ⟨zn,rfl⟩ : ∃ zn : Nat,z = zn := ⟨z.toNat,by omega⟩
    have hzl : zn < b.L.length := by
      have h2 := (hsh.gd.kid (q : Int) (zn : Int)).1 (by rw [gN_nat hn]; exact List.mem_of_getLast? hl)
      have := (hsh.gd.range (j := (zn : Int)) (by omega)).1.2
      omega
    obtain ⟨nz,hnz⟩ : ∃ n,b.L[zn]? = some n := ⟨_,List.getElem?_eq_getElem hzl⟩
    obtain ⟨mz,xa',xn',xc',ya',yn',yc',hmz,emz,hokz,eavz,ekvz,d0,d1,d2,d3,d4,d5,d6,d7,d8,d9,d10⟩ := hM.node hnz
    have p2 : (zn : Int) < (b.L.length : Int) := by omega
    rw [gN_nat hnz] at hr
    by_cases k4 : nz.kind = 4
    · rw [if_pos k4, Int.toNat_natCast, modify_set hnz] at hr
      have hxd := Ext.drew w1
      have hMd := hM.ext hxd
      have hhd := hxd.blk hh
      have d2d := dO_ext hxd d2
      (repeat first|(with_reducible first|(refine hK _ _ ?_;clear hK K)|refine ‹∀σ w,_→K σ w› _ _ ?_|(refine W_st ?_;constructor;try intro K hK))|((with_reducible first|refine hZ _ _ ?_|refine W_rg ?_|skip);repeat1' simp only[push_cast,seval,-Nat.reduceSubDiff,cell_h,cellO_cells,hh,p0,p1,p2,z0,c8,d0,b0,eq_true k4])|((repeat((fail_if_success with_reducible refine hK _ _ ?_);clear hK K));with_reducible refine hK _ _ ?_;clear hK K))
      refine W_draw (.pas 0 (.pas 1 (.pas 2 (.pas 3 (.pas 4 (.pas 5 (.pas 6 (.pas 7 (.pas 8 (.pas 9 (.pas 10 (.pas 11 (.pas 12 (.pas 13 (.pas 14 (.pas 15 (.pas 16 (.last 17)))))))))))))))))) (fun q => True) (by decide) mixed (by kernel_rfl) ?_
      generalize w1.drew = wd at *
      refine Dc4 @hhd @d2d @z0 @p2 ?_
      have hts := htx nz (List.mem_of_getElem? hnz)
      refine ⟨by omega,?_⟩
      obtain ⟨y1,y2⟩ := Dc.fldD (Upd.trans hu hxd fun _ _ h => h.elim) hMd hS (Ext.refl _) hmz { mz with nd := addText x mz.nd } 2 (.string (mz.nd.text ++ x)) rfl (by decide) ⟨hokz.attrs.ext hxd,hokz.kids.ext hxd⟩ (fun q hq => .inl hq) (by have := hM.nod hmz; exact this)
      rw [emz] at y2
      refine Dc4 @hhd @d2d @z0 @p2 ?_
      refine ⟨y1,?_⟩
      generalize wd.setCell ⟨y.bn,zn * 11 + 2,none⟩ (.string (nz.text ++ x)) = wz at *
      (repeat revert hK K);refine W0 ?_;repeat with_reducible intro K hK
      rw [hr]; exact y2
    · rw [if_neg k4] at hr
      (repeat first|(with_reducible first|(refine hK _ _ ?_;clear hK K)|refine ‹∀σ w,_→K σ w› _ _ ?_|(refine W_st ?_;constructor;try intro K hK))|((with_reducible first|refine hZ _ _ ?_|refine W_rg ?_|skip);repeat1' simp only[push_cast,seval,-Nat.reduceSubDiff,cell_h,cellO_cells,hh,p0,p1,p2,z0,c8,d0,b0,eq_false k4])|((repeat((fail_if_success with_reducible refine hK _ _ ?_);clear hK K));with_reducible refine hK _ _ ?_;clear hK K))
      refine build_struct Tryz.zeroValue46 un30 pl30 (cs := #[.int .i64 4,.string ⟨#[]⟩,.string x,.int .i64 0,.slice none 0 0,.bool false,.int .i64 0,.int .i64 0,.slice none 0 0,.int .i64 (-1),.int .i64 (-1)]) (by rfl) ?_
      (repeat revert hK K);refine W0 ?_;repeat with_reducible intro K hK
      refine (dadd_c h1 (by omega) (m := ⟨{ zN with kind := 4,text := x,frm := -1,to := -1 },.slice none 0 0,.slice none 0 0,none,none⟩) (SlAt.nil _ _).rd (show (0 : Nat) < 1000000 by decide) rfl rfl).mono ?_
      rintro v w2 ⟨rfl,h2⟩
      rw [congrArg Prod.snd hadd]
      (repeat revert hK K);refine W0 ?_;repeat with_reducible intro K hK
      refine (dnew_lay hsh.gd (n := { zN with kind := 4,text := x,frm := -1,to := -1 }) h2 (by omega) rfl hql).mono ?_
      intro v w3 h3
      (repeat revert hK K);refine W0 ?_;repeat with_reducible intro K hK
      rw [hadd] at h3
      rw [hr]; unfold txtB; rw [hq]; exact h3
end
end Go.Proofs.YtgnnlaeikcnhcaaGreatDoor
end
section
namespace Go.Vk
open Go Go.Proofs.YtgnnlaeikcnhcaaGreatDoor
def moB (b : BSt) (i : Nat) (l : List (ByteArray × ByteArray)) : BSt := { b with L := b.L.modify i fun n => setAttrs (moreA n.attrs l) n }
theorem more1_le (cs : List (ByteArray × ByteArray)) (x : ByteArray × ByteArray) : (more1 cs x).length ≤ cs.length + 1 := by
  unfold more1; split <;> simp
theorem moreA_le : ∀ (l cs : List (ByteArray × ByteArray)), (moreA cs l).length ≤ cs.length + l.length
  | [],cs => by simp [moreA]
  | x :: l,cs => by
    have := moreA_le l (more1 cs x)
    have := more1_le cs x
    show (moreA (more1 cs x) l).length ≤ _
    rw [List.length_cons]; omega
theorem moreA_snoc {l : List (ByteArray × ByteArray)} {k : Nat} {x : ByteArray × ByteArray} (h : l[k]? = some x) (cs : List (ByteArray × ByteArray)) : moreA cs (l.take (k + 1)) = more1 (moreA cs (l.take k)) x := by
  unfold moreA
  rw [List.take_add_one,h,Option.toList_some,List.foldl_append]; rfl
theorem any_snoc {cs : List (ByteArray × ByteArray)} {k : Nat} {y : ByteArray × ByteArray} (h : cs[k]? = some y) (p : ByteArray × ByteArray → Bool) : (cs.take (k + 1)).any p = ((cs.take k).any p || p y) := by
  rw [List.take_add_one,h,Option.toList_some,List.any_append]; simp
theorem moB_get {b : BSt} {i : Nat} {n : Nd} (hn : b.L[i]? = some n) (l : List (ByteArray × ByteArray)) : (moB b i l).L[i]? = some (setAttrs (moreA n.attrs l) n) ∧ moB b i l = { b with L := b.L.set i (setAttrs (moreA n.attrs l) n) } := by
  unfold moB
  dsimp only
  rw [modify_set hn]
  refine ⟨?_,rfl⟩
  rw [List.getElem?_set,if_pos rfl,if_pos (List.getElem?_eq_some_iff.1 hn).1]
end Go.Vk
namespace Go.Proofs.YtgnnlaeikcnhcaaGreatDoor
open Go Go.Vk
set_option maxHeartbeats 40000000
section
variable {w0 w : World} {S : Nat → Prop} {pd : Nat} {b : BSt}
set_option maxHeartbeats 4000000 in
theorem dmore_c (h : Dc w0 S w pd b) {i : Nat} {n : Nd} (hn : b.L[i]? = some n) (hL : b.L.length < 100000) {av : Value} {l : List (ByteArray × ByteArray)} (ha : ∀ w',Upd S w0 w' → RdAt w' 2 av (attrCells l)) (hal : l.length < 1000000) (hnl : n.attrs.length < 1000000) :
    Gives Tryz.prog 221 #[.pointer (some ⟨pd,0,none⟩),.int .i64 (i : Int),av] w fun _ w' => Dc w0 S w' pd (moB b i l) := by
  obtain ⟨xa,xc,eav,_,_⟩ := attrs_len (ha w h.1)
  subst eav
  have hil : i < b.L.length := (List.getElem?_eq_some_iff.1 hn).1
  have p0 : (0 : Int) ≤ (i : Int) := by omega
  have p1 : (i : Int) < (b.L.length : Int) := by omega
  refine Gives.of_W Tryz.call221 Tryz.func221 rfl Tryz.ntmps221 (by simp) ?_; intro Z hZ
  (repeat revert hK K);refine W0 ?_;repeat with_reducible intro K hK
  refine W_loop (S := Nat) (fun k => [(0, .pointer (some ⟨pd, 0, none⟩)), (1, .int .i64 (i : Int)), (2, .slice xa l.length xc), (6, .int .i64 (k : Int))])
    (fun k w2 => k ≤ l.length ∧ Dc w0 S w2 pd (moB b i (l.take k))) (fun k => l.length - k) 0 ?_ ?_ ?_
  · (repeat simp only [push_cast,seval,-Nat.reduceSubDiff])
  · refine ⟨by omega, ?_⟩
    have e : moB b i (l.take 0) = b := by
      obtain ⟨_,e⟩ := moB_get hn (l.take 0)
      rw [e]
      have e2 : b.L.set i (setAttrs (moreA n.attrs (l.take 0)) n) = b.L := by
        apply List.ext_getElem?
        intro j
        rw [List.getElem?_set]
        by_cases hj : i = j
        · subst hj
          rw [if_pos rfl,if_pos hil,hn]; rfl
        · rw [if_neg hj]
      rw [e2]
    rw [e]; exact h
  rintro k w2 ⟨hk,h2⟩
  by_cases hkl : k < l.length
  · obtain ⟨x, hx⟩ : ∃ x, l[k]? = some x := ⟨_, List.getElem?_eq_getElem hkl⟩
    obtain ⟨hget,hmo⟩ := moB_get hn (l.take k)
    obtain ⟨_,hmo2⟩ := moB_get hn (l.take (k + 1))
    rw [moreA_snoc hx] at hmo2
    have hcl : (moreA n.attrs (l.take k)).length < 2000001 := by have := moreA_le (l.take k) n.attrs; rw [List.length_take] at this; omega
    obtain ⟨cs,hcs⟩ : ∃ cs,cs = moreA n.attrs (l.take k) := ⟨_,rfl⟩
    rw [← hcs] at hget hmo2 hcl
    have hlen : (moB b i (l.take k)).L.length = b.L.length := by rw [hmo]; exact List.length_set
    have hst0 : ∀ r,(moB b i (l.take k)).L.set i r = b.L.set i r := fun r => by rw [hmo]; exact List.set_set ..
    have hmB : ∀ L',({ moB b i (l.take k) with L := L' } : BSt) = { b with L := L' } := fun L' => by rw [hmo]
    generalize moB b i (l.take k) = c at *
    obtain ⟨hu,y,hM,hS⟩ := id h2
    obtain ⟨oa,oc,la,lc,ma,mc,eo,ho,_,_,_,_,_,hh⟩ := hM.hd
    obtain ⟨m,ya,yn,yc,za,zn,zc,hm,em,hok,eav,ekv,c0,c1,c2,c3,c4,_⟩ := hM.node hget
    rw [hlen] at hh
    have hat := hok.attrs
    rw [em] at hat
    have hat : SlAt w2 2 m.av (attrCells cs) m.ab := hat
    obtain ⟨ya',yc',ey,_,hcell⟩ := attrs_len hat.rd
    rw [eav] at ey
    cases ey
    have b0 : (k : Int) < (l.length : Int) := by omega
    have b1 : (0 : Int) ≤ (k : Int) := by omega
    have b2 : inI64 ((k : Int) + 1) := by unfold inI64; omega
    obtain ⟨_,_,exa,_,hxcell⟩ := attrs_len (ha w2 h2.1)
    cases exa
    obtain ⟨bx,ox,rfl,x1,x2⟩ := hxcell k x hx
    rw [cell_h] at x1 x2
    (repeat revert hK K);refine W1 @b0 ?_;repeat with_reducible intro K hK
    refine W_loop (S := Nat) (fun j => [(0, .pointer (some ⟨pd, 0, none⟩)), (1, .int .i64 (i : Int)), (2, .slice (some ⟨bx, ox, none⟩) l.length xc), (6, .int .i64 (k : Int)), (7, .bool ((cs.take j).any fun z => decide (z.1 = x.1))), (8, .int .i64 (j : Int))])
      (fun j w3 => j ≤ cs.length ∧ Ext w2 w3) (fun j => cs.length - j) 0 ?_ ?_ ?_
    · (repeat simp only [push_cast,seval,-Nat.reduceSubDiff,List.take_zero,List.any_nil])
    · exact ⟨by omega,Ext.refl _⟩
    rintro j w3 ⟨hj,hx3⟩
    have hh3 := hx3.blk hh
    have c43 := dO_ext hx3 c4
    by_cases hjl : j < cs.length
    · obtain ⟨z, hz⟩ : ∃ z, cs[j]? = some z := ⟨_, List.getElem?_eq_getElem hjl⟩
      obtain ⟨bz,oz,rfl,z1,_⟩ := hcell j z hz
      rw [cell_h] at z1
      have hxd := hx3.trans (Ext.drew w3)
      have hhd := hxd.blk hh
      have c4d := dO_ext hxd c4
      have z1d := dO_ext hxd z1
      have x1d := dO_ext hxd x1
      have i0 : (j : Int) < (cs.length : Int) := by omega
      have i1 : (0 : Int) ≤ (j : Int) := by omega
      have i2 : inI64 ((j : Int) + 1) := by unfold inI64; omega
      have hsn := any_snoc hz fun z => decide (z.1 = x.1)
      generalize ((cs.take j).any fun z => decide (z.1 = x.1)) = has at *
      (repeat revert hK K);refine Wc5 @hh3 @p0 @p1 @c43 @i0 ?_;repeat with_reducible intro K hK
      refine W_draw (.pas 0 (.pas 1 (.pas 2 (.pas 3 (.pas 4 (.pas 5 (.pas 6 (.pas 7 (.pas 8 (.pas 9 (.pas 10 (.pas 11 (.pas 12 (.pas 13 (.pas 14 (.pas 15 (.pas 16 (.pas 17 (.pas 18 (.pas 19 (.pas 20 (.pas 21 .fin)))))))))))))))))))))) (fun _ => True) (by decide) mixed (by kernel_rfl) ?_
      generalize w3.drew = wd at *
      cases has with
      | true =>
        (repeat (first | ((first | refine pas_plain rfl ?_ | refine pas_g rfl rfl ?_ | refine act_plain rfl ?_ | refine act_g rfl rfl ?_ | refine last_plain rfl ?_ | refine tail_plain rfl ?_ | refine tail_g rfl rfl ?_); (repeat simp only [push_cast,seval,-Nat.reduceSubDiff,cell_h,cellO_cells,hhd,p0,p1,c4d,i0,i1,b0,b1,z1d,x1d])) | (refine tail_fin ?_) | (refine sch_fin ?_)))
        (repeat revert hK K);refine W1 @i2 ?_;repeat with_reducible intro K hK
        refine ⟨j + 1,by omega,?_⟩
        (repeat simp only [push_cast,seval,-Nat.reduceSubDiff,hsn])
        exact ⟨by omega,hxd⟩
      | false =>
        (repeat (first | ((first | refine pas_plain rfl ?_ | refine pas_g rfl rfl ?_ | refine act_plain rfl ?_ | refine act_g rfl rfl ?_ | refine last_plain rfl ?_ | refine tail_plain rfl ?_ | refine tail_g rfl rfl ?_); (repeat simp only [push_cast,seval,-Nat.reduceSubDiff,cell_h,cellO_cells,hhd,p0,p1,c4d,i0,i1,b0,b1,z1d,x1d])) | (refine tail_fin ?_) | (refine sch_fin ?_)))
        (repeat revert hK K);refine W1 @i2 ?_;repeat with_reducible intro K hK
        refine ⟨j + 1,by omega,?_⟩
        (repeat simp only [push_cast,seval,-Nat.reduceSubDiff,hsn,Bool.false_or])
        exact ⟨by omega,hxd⟩
    have hje : j = cs.length := by omega
    subst hje
    rw [List.take_length]
    have i0 : ¬ (cs.length : Int) < (cs.length : Int) := by omega
    unfold more1 at hmo2
    cases hany : cs.any fun z => decide (z.1 = x.1) with
    | true =>
      rw [if_pos hany] at hmo2
      (repeat revert hK K);refine Wc6 @hh3 @p0 @p1 @c43 @i0 @b2 ?_;repeat with_reducible intro K hK
      refine ⟨k + 1,by omega,?_⟩
      (repeat simp only [push_cast,seval,-Nat.reduceSubDiff])
      refine ⟨by omega,?_⟩
      have hc : c = { b with L := b.L.set i (setAttrs cs n) } := hcs ▸ hmo
      rw [hmo2,← hc]
      exact h2.ext hx3
    | false =>
      rw [if_neg (by rw [hany]; decide)] at hmo2
      have hst : moB b i (l.take (k + 1)) = { c with L := c.L.set i (setAttrs (cs ++ [x]) (setAttrs cs n)) } := by
        rw [hmo2,hmB,hst0]; rfl
      (repeat revert hK K);refine Wc5 @hh3 @p0 @p1 @c43 @i0 ?_;repeat with_reducible intro K hK
      have hxd := hx3.trans (Ext.drew w3)
      have hhd := hxd.blk hh
      have c4d := dO_ext hxd c4
      have x1d := dO_ext hxd x1
      have x2d := dO_ext hxd x2
      have hatd := hat.ext hxd
      rw [eav] at hatd
      have lb1 := blk_lt hh
      have lb2 := dO_lt c4
      have lb3 := dO_lt x1
      refine W_draw (.pas 0 (.pas 1 (.pas 2 (.pas 3 (.pas 4 (.pas 5 (.pas 6 (.pas 7 (.pas 8 (.pas 9 (.pas 10 (.pas 11 (.pas 12 (.pas 14 (.pas 15 (.pas 16 (.pas 17 (.two 13 (.act 18 (.act 19 (.pas 20 (.pas 21 (.last 22))))) 18 (.act 13 (.act 19 (.pas 20 (.pas 21 (.last 22))))))))))))))))))))))) (fun q => q < w2.heap.size) (by decide) mixed (by kernel_rfl) ?_
      generalize w3.drew = wd at *
      have szd := hxd.alike.size
      have kp : ∀ {wz : World},Ext wd wz → ∀ q,q < w2.heap.size → q < wz.heap.size ∧ ¬ none_ q := fun hz q hq => ⟨by have := hz.alike.size; omega,id⟩
      (repeat (first | ((first | refine pas_plain rfl ?_ | refine pas_g rfl rfl ?_ | refine act_plain rfl ?_ | refine act_g rfl rfl ?_ | refine last_plain rfl ?_ | refine tail_plain rfl ?_ | refine tail_g rfl rfl ?_); (repeat simp only [push_cast,seval,-Nat.reduceSubDiff,cell_h,cellO_cells,hhd,p0,p1,c4d,b0,b1,x1d,x2d,lb1,lb2,lb3])) | (refine tail_fin ?_) | (refine sch_fin ?_)))
      refine two_mk ?_ ?_
      · refine De2 @true_or @or_true ?_
        refine app_to_rd sty27 sty27.und (by decide) (SlAt.nil _ _) (hatd.rd) (attrCells_one _) (by rw [attrCells_length]; simp; omega) ?_
        intro v1 wa bo1 g1 g2 g3
        rw [List.nil_append] at g1
        have hxp : Ext wd wa := g2.mono fun q _ e => by cases e
        obtain ⟨va1,vn1,vc1,rfl,_,_⟩ := g1.len
        refine ⟨kept_upd hxp (kp (Ext.refl wd)),?_⟩
        refine De2 @true_or @or_true ?_
        refine bs_one sty27 (by decide) (by decide) (v := .agg #[.string x.1,.string x.2]) rfl ?_
        have hxq := Ext.alloc wa (.cells (Value.agg #[.string x.1,.string x.2]).cells 34)
        have hna := SlAt.new wa 2 (Value.agg #[.string x.1,.string x.2]).cells 34 1 rfl
        refine ⟨kept_upd hxq (kp hxp),?_⟩
        generalize wa.alloc (.cells (Value.agg #[.string x.1,.string x.2]).cells 34) = wb at *
        have hxz : Ext wd wb := hxp.trans hxq
        have hbo1 : ∀ q,bo1 = some q → wd.heap.size ≤ q := fun q hq => by
          rcases g3 q hq with h | h
          · cases h
          · exact h
        have e2 : (Value.agg #[.string x.1,.string x.2]).cells.toList = attrCells [x] := rfl
        rw [e2] at hna
        have szd := hxd.alike.size
        have sz1 := hxz.alike.size
        refine De2 @true_or @or_true ?_
        refine app_to_rd sty27 sty27.und (by decide) (g1.ext hxq) hna.rd (attrCells_one _) (by rw [attrCells_length,attrCells_length]; simp; omega) ?_
        intro v2 w9 bo2 k1 k2 k3
        rw [← attrCells_append] at k1
        obtain ⟨va2,vn2,vc2,rfl,_,_⟩ := k1.len
        have hx9 : Ext wd w9 := Upd.trans hxz k2 fun q hq e => by have := hbo1 q e; omega
        refine ⟨kept_upd k2 fun q hq => ⟨by have := (kp hxz q hq).1; omega,fun e => by have := hbo1 q e; have := (kp (Ext.refl wd) q hq).1; omega⟩,?_⟩
        have hbo2 : ∀ q,bo2 = some q → wd.heap.size ≤ q := fun q hq => by
          rcases k3 q hq with h | h
          · exact hbo1 q h
          · omega
        have hhz := (hxd.trans hx9).blk hh
        obtain ⟨y1,y2⟩ := Dc.fldD hu hM hS (hxd.trans hx9) hm { m with nd := setAttrs (cs ++ [x]) m.nd,av := .slice va2 vn2 vc2,ab := bo2 } 4 (.slice va2 vn2 vc2) rfl (by decide) ⟨k1,hok.kids.ext (hxd.trans hx9)⟩ (fun q hq => by
          simp only [Laid.blks,List.mem_append,Option.mem_toList] at hq ⊢
          rcases hq with hq | hq
          · exact .inr (by have := hbo2 q hq; omega)
          · exact .inl (.inr hq)) (by
          have ha : ∀ q,m.kb = some q → q < w2.heap.size := fun q hq => by have := hok.kids; rw [hq] at this; exact this.lt
          simp only [Laid.blks]
          cases hab2 : m.kb with
          | none => cases bo2 <;> simp
          | some q =>
            cases hb3 : bo2 with
            | none => simp
            | some q' =>
              have := ha q hab2
              have := hbo2 q' hb3
              simp; omega)
        refine Dd5 @true_or @or_true @hhz @p0 @p1 ?_
        refine ⟨y1,?_⟩
        generalize w9.setCell ⟨y.bn,i * 11 + 4,none⟩ (.slice va2 vn2 vc2) = wz9 at *
        (repeat revert hK K);refine W1 @b2 ?_;repeat with_reducible intro K hK
        refine ⟨k + 1,by omega,?_⟩
        (repeat simp only [push_cast,seval,-Nat.reduceSubDiff])
        refine ⟨by omega,?_⟩
        rw [em] at y2
        rw [hst]
        exact y2
      · refine De2 @true_or @or_true ?_
        refine bs_one sty27 (by decide) (by decide) (v := .agg #[.string x.1,.string x.2]) rfl ?_
        have hxq := Ext.alloc wd (.cells (Value.agg #[.string x.1,.string x.2]).cells 34)
        have hna := SlAt.new wd 2 (Value.agg #[.string x.1,.string x.2]).cells 34 1 rfl
        refine ⟨kept_upd hxq (kp (Ext.refl wd)),?_⟩
        generalize wd.alloc (.cells (Value.agg #[.string x.1,.string x.2]).cells 34) = wa at *
        refine De2 @true_or @or_true ?_
        refine app_to_rd sty27 sty27.und (by decide) (SlAt.nil _ _) ((hatd.ext hxq).rd) (attrCells_one _) (by rw [attrCells_length]; simp; omega) ?_
        intro v1 wb bo1 g1 g2 g3
        rw [List.nil_append] at g1
        have hxp : Ext wa wb := g2.mono fun q _ e => by cases e
        obtain ⟨va1,vn1,vc1,rfl,_,_⟩ := g1.len
        refine ⟨kept_upd hxp (kp hxq),?_⟩
        have hxz : Ext wd wb := hxq.trans hxp
        have sza := hxq.alike.size
        have hbo1 : ∀ q,bo1 = some q → wd.heap.size ≤ q := fun q hq => by
          rcases g3 q hq with h | h
          · cases h
          · omega
        have e2 : (Value.agg #[.string x.1,.string x.2]).cells.toList = attrCells [x] := rfl
        rw [e2] at hna
        have szd := hxd.alike.size
        have sz1 := hxz.alike.size
        refine De2 @true_or @or_true ?_
        refine app_to_rd sty27 sty27.und (by decide) g1 (hna.ext hxp).rd (attrCells_one _) (by rw [attrCells_length,attrCells_length]; simp; omega) ?_
        intro v2 w9 bo2 k1 k2 k3
        rw [← attrCells_append] at k1
        obtain ⟨va2,vn2,vc2,rfl,_,_⟩ := k1.len
        have hx9 : Ext wd w9 := Upd.trans hxz k2 fun q hq e => by have := hbo1 q e; omega
        refine ⟨kept_upd k2 fun q hq => ⟨by have := (kp hxz q hq).1; omega,fun e => by have := hbo1 q e; have := (kp (Ext.refl wd) q hq).1; omega⟩,?_⟩
        have hbo2 : ∀ q,bo2 = some q → wd.heap.size ≤ q := fun q hq => by
          rcases k3 q hq with h | h
          · exact hbo1 q h
          · omega
        have hhz := (hxd.trans hx9).blk hh
        obtain ⟨y1,y2⟩ := Dc.fldD hu hM hS (hxd.trans hx9) hm { m with nd := setAttrs (cs ++ [x]) m.nd,av := .slice va2 vn2 vc2,ab := bo2 } 4 (.slice va2 vn2 vc2) rfl (by decide) ⟨k1,hok.kids.ext (hxd.trans hx9)⟩ (fun q hq => by
          simp only [Laid.blks,List.mem_append,Option.mem_toList] at hq ⊢
          rcases hq with hq | hq
          · exact .inr (by have := hbo2 q hq; omega)
          · exact .inl (.inr hq)) (by
          have ha : ∀ q,m.kb = some q → q < w2.heap.size := fun q hq => by have := hok.kids; rw [hq] at this; exact this.lt
          simp only [Laid.blks]
          cases hab2 : m.kb with
          | none => cases bo2 <;> simp
          | some q =>
            cases hb3 : bo2 with
            | none => simp
            | some q' =>
              have := ha q hab2
              have := hbo2 q' hb3
              simp; omega)
        refine Dd5 @true_or @or_true @hhz @p0 @p1 ?_
        refine ⟨y1,?_⟩
        generalize w9.setCell ⟨y.bn,i * 11 + 4,none⟩ (.slice va2 vn2 vc2) = wz9 at *
        (repeat revert hK K);refine W1 @b2 ?_;repeat with_reducible intro K hK
        refine ⟨k + 1,by omega,?_⟩
        (repeat simp only [push_cast,seval,-Nat.reduceSubDiff])
        refine ⟨by omega,?_⟩
        rw [em] at y2
        rw [hst]
        exact y2
  have hke : k = l.length := by omega
  subst hke
  rw [List.take_length] at h2
  have b0 : ¬ (l.length : Int) < (l.length : Int) := by omega
  (repeat revert hK K);refine W1 @b0 ?_;repeat with_reducible intro K hK
  exact h2
end
end Go.Proofs.YtgnnlaeikcnhcaaGreatDoor
end
section
namespace Go.Vk
open Go Go.Proofs.YtgnnlaeikcnhcaaGreatDoor
theorem Shp.moreL {b : BSt} (h : Shp b) (t : HTok) : (b.s = [] ∧ moreB b t = b) ∨ ∃ (i : Nat) (n : Nd),(nds b.s)[0]? = some (i : Int) ∧ b.L[i]? = some n ∧ moreB b t = moB b i t.attrs := by
  unfold moreB
  rw [h.noT,if_neg (by decide)]
  cases hs : b.s with
  | nil =>
    left
    refine ⟨rfl,?_⟩
    have e : atS [] 0 = -1 := rfl
    rw [e]
    unfold moreN
    rw [if_neg (by omega),← hs]
  | cons o r =>
    right
    obtain ⟨h1,h2,h3,h4⟩ := h.st o (by rw [hs]; simp)
    obtain ⟨i,hi⟩ : ∃ i : Nat,o.node = i := ⟨o.node.toNat,by omega⟩
    refine ⟨i,_,by simp [nds,hi],List.getElem?_eq_getElem (show i < b.L.length by omega),?_⟩
    have e : atS (o :: r) 0 = i := by unfold atS; simp [hi]
    rw [e,← hs]
    unfold moreN moB
    rw [if_pos ⟨by omega,by rw [← hi]; exact h3⟩,Int.toNat_natCast]
end Go.Vk
namespace Go.Proofs.YtgnnlaeikcnhcaaGreatDoor
open Go Go.Vk
theorem plS17 (w : World) : ((fsOf Tryz.prog 103).mapM plOf).run Tryz.prog w = .ok #[(0,1),(1,1),(2,1),(3,1),(4,1),(5,1),(6,1),(7,1),(8,1),(9,1),(10,1),(11,1),(12,1),(13,1),(14,1),(15,1)] w := by
  simp [fsOf,plOf,Tryz.underlying103,Sem.run,Tryz.sizeOf3,Tryz.sizeOf83,Tryz.sizeOf44,Tryz.sizeOf101,Tryz.sizeOf4,Tryz.sizeOf9,Tryz.sizeOf28]
theorem unS17 : Tryz.prog.underlying 103 = some (.struct (fsOf Tryz.prog 103)) := by rw [fsOf,Tryz.underlying103]
set_option maxHeartbeats 40000000
section
variable {w0 w : World} {S : Nat → Prop} {pd : Nat} {b : BSt}
set_option maxHeartbeats 4000000 in
theorem dlacks_c (h : Dc w0 S w pd b) (hsh : Shp b) (hs : b.s.length < 500) (hL : b.L.length < 80000) {t : HTok} {av : Value} (ha : ∀ w',Upd S w0 w' → RdAt w' 2 av (attrCells t.attrs)) (hal : t.attrs.length < 1000000) (hnl : ∀ n ∈ b.L,n.attrs.length < 1000000) :
    Gives Tryz.prog 185 #[.pointer (some ⟨pd,0,none⟩),.agg (t.row av)] w fun v w' => Dc w0 S w' pd (moreB b t) := by
  obtain ⟨xa,xn,xc,eav,_⟩ := id (ha w h.1)
  subst eav
  have hrow : t.row (.slice xa xn xc) = #[.int .i64 t.kind,.string t.name,.string t.text,.slice xa xn xc,.bool t.dup,.bool t.self,.bool t.quirks,.int .i64 t.frm,.int .i64 t.to] := rfl
  have hx := Ext.alloc w (.cells (t.row (.slice xa xn xc)) 37)
  have hp : (w.alloc (.cells (t.row (.slice xa xn xc)) 37)).heap[w.heap.size]? = some (.cells (t.row (.slice xa xn xc)) 37 (0,0)) := by rw [heap_alloc_h,if_pos rfl]
  obtain ⟨S1,lo,loS,hbase⟩ := h.base
  refine Gives.of_W Tryz.call185 Tryz.func185 rfl Tryz.ntmps185 (by simp) ?_; intro Z hZ
  (repeat revert hK K);refine W1 @vcells_agg ?_;repeat with_reducible intro K hK
  generalize w.alloc (.cells (t.row (.slice xa xn xc)) 37) = w1 at *
  obtain ⟨p,hpe⟩ : ∃ p,p = w.heap.size := ⟨_,rfl⟩
  rw [← hpe] at hp ⊢
  rw [hrow] at hp
  obtain ⟨h1,hup,hback⟩ := hbase w1 hx
  have np : ¬ S1 p := fun hq => by have := lo p hq; omega
  have ha1 : ∀ w',Upd S1 w1 w' → RdAt w' 2 (.slice xa xn xc) (attrCells t.attrs) := fun w' hu => ha w' (hup w' hu)
  obtain ⟨_,x,hM,hS⟩ := id h1
  obtain ⟨oa,oc,la,lc,ma,mc,eo,ho,_,_,_,_,_,hh⟩ := hM.hd
  rcases hsh.moreL t with ⟨e1,e2⟩ | ⟨i,n,g1,g2,g3⟩
  · have hl0 : b.s.length = 0 := by rw [e1]; rfl
    have d0 : ¬ (0 : Int) < (b.s.length : Int) := by omega
    (repeat revert hK K);refine Wc2 @hh @d0 ?_;repeat with_reducible intro K hK
    rw [e2]
    exact hback _ _ h1
  have hpos : 0 < b.s.length := by
    have := (List.getElem?_eq_some_iff.1 g1).1
    rw [nds_lenD] at this; omega
  have d0 : (0 : Int) < (b.s.length : Int) := by omega
  obtain ⟨qo,oo,rfl,_,c1⟩ := hM.open_ g1 eo
  rw [Nat.add_zero] at c1
  (repeat revert hK K);refine Wc2 @hh @d0 ?_;repeat with_reducible intro K hK
  refine (dlast_c h1 (by omega) (by omega) (nm := ⟨#[116,101,109,112,108,97,116,101]⟩) fun j hj => ?_).mono ?_
  · unfold nds at hj
    obtain ⟨o,ho,rfl⟩ := List.mem_map.1 hj
    obtain ⟨k1,k2,k3,_⟩ := hsh.st o ho
    unfold hN
    have hne : ¬ (gN b.L o.node).name = ⟨#[116,101,109,112,108,97,116,101]⟩ := (hsh.nt _ k1 k2).2 k3
    rw [decide_eq_false hne,Bool.and_false,Bool.and_false]
  intro v w' ⟨hv,hw⟩
  subst hv; subst w'
  have hxd := Ext.drew w1
  have hpd := hxd.blk hp
  have hhd := hxd.blk hh
  have c1d := dO_ext hxd c1
  have hd := h1.ext hxd
  have n1 : (-1 : Int) < 0 := by decide
  have lb1 := blk_lt hh
  have lb2 := dO_lt c1
  have lb3 := blk_lt hp
  (repeat revert hK K);refine W1 @n1 ?_;repeat with_reducible intro K hK
  refine W_draw (.pas 0 (.pas 1 (.pas 2 (.pas 3 (.pas 4 (.pas 5 (.pas 6 (.pas 7 (.pas 8 (.tail [9])))))))))) (fun q => q < w1.heap.size) (by decide) mixed (by kernel_rfl) ?_
  generalize w1.drew = wd at *
  refine Dc7 @hhd @hpd @c1d @d0 @lb1 @lb2 @lb3 ?_
  refine (dmore_c hd g2 (by omega) ha1 hal (hnl n (List.mem_of_getElem? g2))).mono ?_
  intro v w5 h5
  refine D0 ?_
  (repeat revert hK K);refine W0 ?_;repeat with_reducible intro K hK
  rw [g3]
  exact hback _ _ h5
theorem dnew_c {w : World} : Gives Tryz.prog 86 #[] w fun v w' => ∃ pd,v = .pointer (some ⟨pd,0,none⟩) ∧ Dc w none_ w' pd newB := by
  refine Gives.of_W Tryz.call86 Tryz.func86 rfl Tryz.ntmps86 (by simp) ?_; intro Z hZ
  (repeat revert hK K);refine W0 ?_;repeat with_reducible intro K hK
  refine build_struct Tryz.zeroValue46 un30 pl30 (cs := #[.int .i64 1,.string ⟨#[]⟩,.string ⟨#[]⟩,.int .i64 0,.slice none 0 0,.bool false,.int .i64 (-1),.int .i64 0,.slice none 0 0,.int .i64 (-1),.int .i64 (-1)]) (by rfl) ?_
  (repeat revert hK K);refine W0 ?_;repeat with_reducible intro K hK
  refine bs_one sty39 (by decide) (by decide) (v := .agg #[.int .i64 1,.string ⟨#[]⟩,.string ⟨#[]⟩,.int .i64 0,.slice none 0 0,.bool false,.int .i64 (-1),.int .i64 0,.slice none 0 0,.int .i64 (-1),.int .i64 (-1)]) rfl ?_
  have hxa := Ext.alloc w (.cells (Value.agg #[.int .i64 1,.string ⟨#[]⟩,.string ⟨#[]⟩,.int .i64 0,.slice none 0 0,.bool false,.int .i64 (-1),.int .i64 0,.slice none 0 0,.int .i64 (-1),.int .i64 (-1)]).cells 46)
  have hna := SlAt.new w 11 (Value.agg #[.int .i64 1,.string ⟨#[]⟩,.string ⟨#[]⟩,.int .i64 0,.slice none 0 0,.bool false,.int .i64 (-1),.int .i64 0,.slice none 0 0,.int .i64 (-1),.int .i64 (-1)]).cells 46 1 rfl
  have hcc : (Value.agg #[.int .i64 1,.string ⟨#[]⟩,.string ⟨#[]⟩,.int .i64 0,.slice none 0 0,.bool false,.int .i64 (-1),.int .i64 0,.slice none 0 0,.int .i64 (-1),.int .i64 (-1)]).cells.toList = flat [(⟨docN,.slice none 0 0,.slice none 0 0,none,none⟩ : Laid)] := rfl
  rw [hcc] at hna
  generalize w.alloc (.cells (Value.agg #[.int .i64 1,.string ⟨#[]⟩,.string ⟨#[]⟩,.int .i64 0,.slice none 0 0,.bool false,.int .i64 (-1),.int .i64 0,.slice none 0 0,.int .i64 (-1),.int .i64 (-1)]).cells 46) = w1 at *
  obtain ⟨bn,hbn⟩ : ∃ bn,bn = w.heap.size := ⟨_,rfl⟩
  rw [← hbn] at hna ⊢
  (repeat revert hK K);refine W0 ?_;repeat with_reducible intro K hK
  refine build_struct Tryz.zeroValue103 unS17 plS17 (cs := #[.slice (some ⟨bn,0,none⟩) 1 1,.slice none 0 0,.slice none 0 0,.int .i64 0,.int .i64 0,.slice none 0 0,.int .i64 (-1),.int .i64 (-1),.bool false,.bool false,.bool false,.string ⟨#[]⟩,.bool false,.int .i64 0,.string ⟨#[]⟩,.int .i64 0]) (by rfl) ?_
  (repeat revert hK K);refine W1 @vcells_agg ?_;repeat with_reducible intro K hK
  have hxb := Ext.alloc w1 (.cells #[.slice (some ⟨bn,0,none⟩) 1 1,.slice none 0 0,.slice none 0 0,.int .i64 0,.int .i64 0,.slice none 0 0,.int .i64 (-1),.int .i64 (-1),.bool false,.bool false,.bool false,.string ⟨#[]⟩,.bool false,.int .i64 0,.string ⟨#[]⟩,.int .i64 0] 103)
  have hs1 := hxa.alike.size
  have hs2 := hna.lt
  refine ⟨_,rfl,hxa.trans hxb,⟨bn,1,[(⟨docN,.slice none 0 0,.slice none 0 0,none,none⟩ : Laid)],.slice none 0 0,none,.slice none 0 0,none,.slice none 0 0,none,0,⟨#[]⟩⟩,⟨?_,hna.ext hxb,?_,rfl,SlAt.nil _ _,SlAt.nil _ _,SlAt.nil _ _,fun y hy => (by cases hy),?_⟩,?_⟩
  · rw [heap_alloc_h,if_pos rfl]; rfl
  · intro m hm
    rw [List.mem_singleton] at hm
    subst hm
    exact ⟨SlAt.nil _ _,SlAt.nil _ _⟩
  · simp [DX.own, DX.pre, Laid.blks]
    omega
  · intro q hq
    simp [DX.own,DX.pre,Laid.blks] at hq
    right
    rcases hq with hq | hq <;> omega
end
end Go.Proofs.YtgnnlaeikcnhcaaGreatDoor
end
section
namespace Go.Proofs.YtgnnlaeikcnhcaaGreatDoor
open Go Go.Vk
set_option maxHeartbeats 40000000
section
variable {w : World} {t : HTok} {xa : Option Addr} {xn xc : Nat}
theorem dstart_c {nv : Value} {l : List ByteArray} (hn : RdAt w 1 nv (strCells l)) (hl : l.length < 1000000000) : Gives Tryz.prog 143 #[.agg (t.row (.slice xa xn xc)),nv] w fun v w' => v = .bool (startT t l) ∧ Ext w w' := by
  obtain ⟨na,nc,rfl,hnc,hcell⟩ := str_len hn
  have hrow : t.row (.slice xa xn xc) = #[.int .i64 t.kind,.string t.name,.string t.text,.slice xa xn xc,.bool t.dup,.bool t.self,.bool t.quirks,.int .i64 t.frm,.int .i64 t.to] := rfl
  have hx := Ext.alloc w (.cells (t.row (.slice xa xn xc)) 37)
  have hp : (w.alloc (.cells (t.row (.slice xa xn xc)) 37)).heap[w.heap.size]? = some (.cells (t.row (.slice xa xn xc)) 37 (0,0)) := by rw [heap_alloc_h,if_pos rfl]
  obtain ⟨r,hr⟩ : ∃ r,r = startT t l := ⟨_,rfl⟩
  rw [← hr]
  refine Gives.of_W Tryz.call143 Tryz.func143 rfl Tryz.ntmps143 (by simp) ?_; intro Z hZ
  (repeat revert hK K);refine W1 @vcells_agg ?_;repeat with_reducible intro K hK
  generalize w.alloc (.cells (t.row (.slice xa xn xc)) 37) = w1 at *
  obtain ⟨p,hpe⟩ : ∃ p,p = w.heap.size := ⟨_,rfl⟩
  rw [← hpe] at hp ⊢
  rw [hrow] at hp
  unfold startT at hr
  by_cases hk : t.kind = 2
  · rw [decide_eq_true hk, Bool.true_and] at hr
    refine W_loop (S := Nat) (fun k => [(1, .slice na l.length nc), (2, .pointer (some ⟨p, 0, none⟩)), (5, .int .i64 (k : Int))])
      (fun k w2 => k ≤ l.length ∧ Ext w1 w2 ∧ (l.take k).any (fun y => decide (t.name = y)) = false) (fun k => l.length - k) 0 ?_ ?_ ?_
    · (repeat simp only [push_cast,seval,-Nat.reduceSubDiff])
    · exact ⟨by omega,Ext.refl _,rfl⟩
    rintro k w2 ⟨hkl,hx2,hany⟩
    by_cases hlt : k < l.length
    · obtain ⟨y, hy⟩ : ∃ y, l[k]? = some y := ⟨_, List.getElem?_eq_getElem hlt⟩
      obtain ⟨by_,oy,rfl,hc⟩ := hcell k y hy
      have hxd := hx2.trans (Ext.drew w2)
      have hpd := hxd.blk hp
      have hcd := cell_ext (hx.trans hxd) hc
      rw [cell_h] at hcd
      have b0 : (k : Int) < (l.length : Int) := by omega
      have b1 : (0 : Int) ≤ (k : Int) := by omega
      have b2 : inI64 ((k : Int) + 1) := by unfold inI64; omega
      (repeat revert hK K);refine W1 @b0 ?_;repeat with_reducible intro K hK
      refine W_draw (.pas 0 (.pas 1 (.pas 2 (.pas 3 (.pas 4 (.pas 5 (.pas 6 (.pas 7 (.pas 8 (.pas 9 (.pas 10 (.pas 11 .fin)))))))))))) (fun _ => True) (by decide) mixed (by kernel_rfl) ?_
      generalize w2.drew = wd at *
      by_cases hty : t.name = y
      · have e : (l.any fun y => decide (t.name = y)) = true := List.any_eq_true.2 ⟨y, List.mem_of_getElem? hy, decide_eq_true hty⟩
        rw [e] at hr
        refine Dc6 @hpd (eq_true hk) @b0 @b1 @hcd (eq_true hty) ?_
        (repeat revert hK K);refine W0 ?_;repeat with_reducible intro K hK
        exact ⟨by rw [hr],hx.trans hxd⟩
      · refine Dc6 @hpd (eq_true hk) @b0 @b1 @hcd (eq_false hty) ?_
        (repeat revert hK K);refine W1 @b2 ?_;repeat with_reducible intro K hK
        refine ⟨k + 1,by omega,?_⟩
        (repeat simp only [push_cast,seval,-Nat.reduceSubDiff])
        refine ⟨by omega,hxd,?_⟩
        rw [List.take_add_one,hy,Option.toList_some,List.any_append,hany]
        simp [hty]
    have hke : k = l.length := by omega
    subst hke
    rw [List.take_length] at hany
    have b0 : ¬ (l.length : Int) < (l.length : Int) := by omega
    rw [hany] at hr
    (repeat revert hK K);refine W1 @b0 ?_;repeat with_reducible intro K hK
    exact ⟨by rw [hr],hx.trans hx2⟩
  · rw [decide_eq_false hk, Bool.false_and] at hr
    refine W_loop (S := Nat) (fun k => [(1, .slice na l.length nc), (2, .pointer (some ⟨p, 0, none⟩)), (5, .int .i64 (k : Int))])
      (fun k w2 => k ≤ l.length ∧ Ext w1 w2) (fun k => l.length - k) 0 ?_ ?_ ?_
    · (repeat simp only [push_cast,seval,-Nat.reduceSubDiff])
    · exact ⟨by omega,Ext.refl _⟩
    rintro k w2 ⟨hkl,hx2⟩
    by_cases hlt : k < l.length
    · have hxd := hx2.trans (Ext.drew w2)
      have hpd := hxd.blk hp
      have b0 : (k : Int) < (l.length : Int) := by omega
      have b1 : (0 : Int) ≤ (k : Int) := by omega
      have b2 : inI64 ((k : Int) + 1) := by unfold inI64; omega
      (repeat revert hK K);refine W1 @b0 ?_;repeat with_reducible intro K hK
      refine W_draw (.pas 0 (.pas 1 (.pas 2 (.pas 3 (.pas 4 (.pas 5 (.pas 6 (.pas 7 (.pas 8 (.pas 9 (.pas 10 (.pas 11 .fin)))))))))))) (fun _ => True) (by decide) mixed (by kernel_rfl) ?_
      generalize w2.drew = wd at *
      refine Dc4 @hpd (eq_false hk) @b0 @b1 ?_
      (repeat revert hK K);refine W1 @b2 ?_;repeat with_reducible intro K hK
      refine ⟨k + 1,by omega,?_⟩
      (repeat simp only [push_cast,seval,-Nat.reduceSubDiff])
      exact ⟨by omega,hxd⟩
    have hke : k = l.length := by omega
    subst hke
    have b0 : ¬ (l.length : Int) < (l.length : Int) := by omega
    (repeat revert hK K);refine W1 @b0 ?_;repeat with_reducible intro K hK
    exact ⟨by rw [hr],hx.trans hx2⟩
theorem dend_c {nv : Value} {l : List ByteArray} (hn : RdAt w 1 nv (strCells l)) (hl : l.length < 1000000000) : Gives Tryz.prog 144 #[.agg (t.row (.slice xa xn xc)),nv] w fun v w' => v = .bool (endT t l) ∧ Ext w w' := by
  obtain ⟨na,nc,rfl,hnc,hcell⟩ := str_len hn
  have hrow : t.row (.slice xa xn xc) = #[.int .i64 t.kind,.string t.name,.string t.text,.slice xa xn xc,.bool t.dup,.bool t.self,.bool t.quirks,.int .i64 t.frm,.int .i64 t.to] := rfl
  have hx := Ext.alloc w (.cells (t.row (.slice xa xn xc)) 37)
  have hp : (w.alloc (.cells (t.row (.slice xa xn xc)) 37)).heap[w.heap.size]? = some (.cells (t.row (.slice xa xn xc)) 37 (0,0)) := by rw [heap_alloc_h,if_pos rfl]
  obtain ⟨r,hr⟩ : ∃ r,r = endT t l := ⟨_,rfl⟩
  rw [← hr]
  refine Gives.of_W Tryz.call144 Tryz.func144 rfl Tryz.ntmps144 (by simp) ?_; intro Z hZ
  (repeat revert hK K);refine W1 @vcells_agg ?_;repeat with_reducible intro K hK
  generalize w.alloc (.cells (t.row (.slice xa xn xc)) 37) = w1 at *
  obtain ⟨p,hpe⟩ : ∃ p,p = w.heap.size := ⟨_,rfl⟩
  rw [← hpe] at hp ⊢
  rw [hrow] at hp
  unfold endT at hr
  by_cases hk : t.kind = 3
  · rw [decide_eq_true hk, Bool.true_and] at hr
    refine W_loop (S := Nat) (fun k => [(1, .slice na l.length nc), (2, .pointer (some ⟨p, 0, none⟩)), (5, .int .i64 (k : Int))])
      (fun k w2 => k ≤ l.length ∧ Ext w1 w2 ∧ (l.take k).any (fun y => decide (t.name = y)) = false) (fun k => l.length - k) 0 ?_ ?_ ?_
    · (repeat simp only [push_cast,seval,-Nat.reduceSubDiff])
    · exact ⟨by omega,Ext.refl _,rfl⟩
    rintro k w2 ⟨hkl,hx2,hany⟩
    by_cases hlt : k < l.length
    · obtain ⟨y, hy⟩ : ∃ y, l[k]? = some y := ⟨_, List.getElem?_eq_getElem hlt⟩
      obtain ⟨by_,oy,rfl,hc⟩ := hcell k y hy
      have hxd := hx2.trans (Ext.drew w2)
      have hpd := hxd.blk hp
      have hcd := cell_ext (hx.trans hxd) hc
      rw [cell_h] at hcd
      have b0 : (k : Int) < (l.length : Int) := by omega
      have b1 : (0 : Int) ≤ (k : Int) := by omega
      have b2 : inI64 ((k : Int) + 1) := by unfold inI64; omega
      (repeat revert hK K);refine W1 @b0 ?_;repeat with_reducible intro K hK
      refine W_draw (.pas 0 (.pas 1 (.pas 2 (.pas 3 (.pas 4 (.pas 5 (.pas 6 (.pas 7 (.pas 8 (.pas 9 (.pas 10 (.pas 11 .fin)))))))))))) (fun _ => True) (by decide) mixed (by kernel_rfl) ?_
      generalize w2.drew = wd at *
      by_cases hty : t.name = y
      · have e : (l.any fun y => decide (t.name = y)) = true := List.any_eq_true.2 ⟨y, List.mem_of_getElem? hy, decide_eq_true hty⟩
        rw [e] at hr
        refine Dc6 @hpd (eq_true hk) @b0 @b1 @hcd (eq_true hty) ?_
        (repeat revert hK K);refine W0 ?_;repeat with_reducible intro K hK
        exact ⟨by rw [hr],hx.trans hxd⟩
      · refine Dc6 @hpd (eq_true hk) @b0 @b1 @hcd (eq_false hty) ?_
        (repeat revert hK K);refine W1 @b2 ?_;repeat with_reducible intro K hK
        refine ⟨k + 1,by omega,?_⟩
        (repeat simp only [push_cast,seval,-Nat.reduceSubDiff])
        refine ⟨by omega,hxd,?_⟩
        rw [List.take_add_one,hy,Option.toList_some,List.any_append,hany]
        simp [hty]
    have hke : k = l.length := by omega
    subst hke
    rw [List.take_length] at hany
    have b0 : ¬ (l.length : Int) < (l.length : Int) := by omega
    rw [hany] at hr
    (repeat revert hK K);refine W1 @b0 ?_;repeat with_reducible intro K hK
    exact ⟨by rw [hr],hx.trans hx2⟩
  · rw [decide_eq_false hk, Bool.false_and] at hr
    refine W_loop (S := Nat) (fun k => [(1, .slice na l.length nc), (2, .pointer (some ⟨p, 0, none⟩)), (5, .int .i64 (k : Int))])
      (fun k w2 => k ≤ l.length ∧ Ext w1 w2) (fun k => l.length - k) 0 ?_ ?_ ?_
    · (repeat simp only [push_cast,seval,-Nat.reduceSubDiff])
    · exact ⟨by omega,Ext.refl _⟩
    rintro k w2 ⟨hkl,hx2⟩
    by_cases hlt : k < l.length
    · have hxd := hx2.trans (Ext.drew w2)
      have hpd := hxd.blk hp
      have b0 : (k : Int) < (l.length : Int) := by omega
      have b1 : (0 : Int) ≤ (k : Int) := by omega
      have b2 : inI64 ((k : Int) + 1) := by unfold inI64; omega
      (repeat revert hK K);refine W1 @b0 ?_;repeat with_reducible intro K hK
      refine W_draw (.pas 0 (.pas 1 (.pas 2 (.pas 3 (.pas 4 (.pas 5 (.pas 6 (.pas 7 (.pas 8 (.pas 9 (.pas 10 (.pas 11 .fin)))))))))))) (fun _ => True) (by decide) mixed (by kernel_rfl) ?_
      generalize w2.drew = wd at *
      refine Dc4 @hpd (eq_false hk) @b0 @b1 ?_
      (repeat revert hK K);refine W1 @b2 ?_;repeat with_reducible intro K hK
      refine ⟨k + 1,by omega,?_⟩
      (repeat simp only [push_cast,seval,-Nat.reduceSubDiff])
      exact ⟨by omega,hxd⟩
    have hke : k = l.length := by omega
    subst hke
    have b0 : ¬ (l.length : Int) < (l.length : Int) := by omega
    (repeat revert hK K);refine W1 @b0 ?_;repeat with_reducible intro K hK
    exact ⟨by rw [hr],hx.trans hx2⟩
theorem dstrange_c : Gives Tryz.prog 186 #[.agg (t.row (.slice xa xn xc))] w fun v w' => v = .bool (strT t) ∧ Ext w w' := by
  have hrow : t.row (.slice xa xn xc) = #[.int .i64 t.kind,.string t.name,.string t.text,.slice xa xn xc,.bool t.dup,.bool t.self,.bool t.quirks,.int .i64 t.frm,.int .i64 t.to] := rfl
  have hx := Ext.alloc w (.cells (t.row (.slice xa xn xc)) 37)
  have hp : (w.alloc (.cells (t.row (.slice xa xn xc)) 37)).heap[w.heap.size]? = some (.cells (t.row (.slice xa xn xc)) 37 (0,0)) := by rw [heap_alloc_h,if_pos rfl]
  obtain ⟨r,hr⟩ : ∃ r,r = strT t := ⟨_,rfl⟩
  rw [← hr]
  refine Gives.of_W Tryz.call186 Tryz.func186 rfl Tryz.ntmps186 (by simp) ?_; intro Z hZ
  (repeat revert hK K);refine W1 @vcells_agg ?_;repeat with_reducible intro K hK
  generalize w.alloc (.cells (t.row (.slice xa xn xc)) 37) = w1 at *
  obtain ⟨p,hpe⟩ : ∃ p,p = w.heap.size := ⟨_,rfl⟩
  rw [← hpe] at hp ⊢
  rw [hrow] at hp
  unfold strT at hr
  by_cases hk : t.kind = 3
  · rw [decide_eq_true hk, Bool.true_and] at hr
    (repeat revert hK K);refine Wc2 @hp (eq_true hk) ?_;repeat with_reducible intro K hK
    refine bsl (l := lStr) rfl (by decide) (by decide) (by kernel_rfl) ?_
    rintro v w2 hx2 hn2 ⟨bn,rfl⟩
    have hp2 := hx2.blk hp
    (repeat revert hK K);refine W0 ?_;repeat with_reducible intro K hK
    rw [← hrow]
    refine (dend_c hn2 (by decide)).mono ?_
    rintro v w3 ⟨rfl,hx3⟩
    rw [endT_e hk]
    (repeat revert hK K);refine W0 ?_;repeat with_reducible intro K hK
    exact ⟨by rw [hr],(hx.trans hx2).trans hx3⟩
  · rw [decide_eq_false hk, Bool.false_and] at hr
    (repeat revert hK K);refine Wc2 @hp @hk ?_;repeat with_reducible intro K hK
    exact ⟨by rw [hr],hx⟩
theorem dbelongs_c : Gives Tryz.prog 90 #[.agg (t.row (.slice xa xn xc))] w fun v w' => v = .bool (belT t) ∧ Ext w w' := by
  have hrow : t.row (.slice xa xn xc) = #[.int .i64 t.kind,.string t.name,.string t.text,.slice xa xn xc,.bool t.dup,.bool t.self,.bool t.quirks,.int .i64 t.frm,.int .i64 t.to] := rfl
  have hx := Ext.alloc w (.cells (t.row (.slice xa xn xc)) 37)
  have hp : (w.alloc (.cells (t.row (.slice xa xn xc)) 37)).heap[w.heap.size]? = some (.cells (t.row (.slice xa xn xc)) 37 (0,0)) := by rw [heap_alloc_h,if_pos rfl]
  obtain ⟨r,hr⟩ : ∃ r,r = belT t := ⟨_,rfl⟩
  rw [← hr]
  refine Gives.of_W Tryz.call90 Tryz.func90 rfl Tryz.ntmps90 (by simp) ?_; intro Z hZ
  (repeat revert hK K);refine W1 @vcells_agg ?_;repeat with_reducible intro K hK
  generalize w.alloc (.cells (t.row (.slice xa xn xc)) 37) = w1 at *
  obtain ⟨p,hpe⟩ : ∃ p,p = w.heap.size := ⟨_,rfl⟩
  rw [← hpe] at hp ⊢
  rw [hrow] at hp
  unfold belT at hr
  (repeat revert hK K);refine Wc1 @hp ?_;repeat with_reducible intro K hK
  refine bsl (l := lBel) rfl (by decide) (by decide) (by kernel_rfl) ?_
  rintro v w2 hx2 hn2 ⟨bn,rfl⟩
  have hp2 := hx2.blk hp
  (repeat revert hK K);refine W0 ?_;repeat with_reducible intro K hK
  rw [← hrow]
  refine (dstart_c hn2 (by decide)).mono ?_
  rintro v w3 ⟨rfl,hx3⟩
  have hp3 := hx3.blk hp2
  cases hst : startT t lBel with
  | true =>
    rw [hst,Bool.true_or] at hr
    (repeat revert hK K);refine W0 ?_;repeat with_reducible intro K hK
    exact ⟨by rw [hr],(hx.trans hx2).trans hx3⟩
  | false =>
    (repeat revert hK K);refine Wc1 @hp3 ?_;repeat with_reducible intro K hK
    refine bsl (l := lTem) rfl (by decide) (by decide) (by kernel_rfl) ?_
    rintro v w4 hx4 hn4 ⟨bn4,rfl⟩
    (repeat revert hK K);refine W0 ?_;repeat with_reducible intro K hK
    rw [← hrow]
    refine (dend_c hn4 (by decide)).mono ?_
    rintro v w5 ⟨rfl,hx5⟩
    rw [hst,Bool.false_or] at hr
    (repeat revert hK K);refine W0 ?_;repeat with_reducible intro K hK
    exact ⟨by rw [hr],(((hx.trans hx2).trans hx3).trans hx4).trans hx5⟩
theorem dchart_c : Gives Tryz.prog 193 #[.agg (t.row (.slice xa xn xc))] w fun v w' => v = .bool (decide (t.kind = 5 ∨ t.kind = 7 ∨ t.kind = 6)) ∧ Ext w w' := by
  have hrow : t.row (.slice xa xn xc) = #[.int .i64 t.kind,.string t.name,.string t.text,.slice xa xn xc,.bool t.dup,.bool t.self,.bool t.quirks,.int .i64 t.frm,.int .i64 t.to] := rfl
  have hx := Ext.alloc w (.cells (t.row (.slice xa xn xc)) 37)
  have hp : (w.alloc (.cells (t.row (.slice xa xn xc)) 37)).heap[w.heap.size]? = some (.cells (t.row (.slice xa xn xc)) 37 (0,0)) := by rw [heap_alloc_h,if_pos rfl]
  obtain ⟨r,hr⟩ : ∃ r,r = decide (t.kind = 5 ∨ t.kind = 7 ∨ t.kind = 6) := ⟨_,rfl⟩
  rw [← hr]
  refine Gives.of_W Tryz.call193 Tryz.func193 rfl Tryz.ntmps193 (by simp) ?_; intro Z hZ
  (repeat revert hK K);refine W1 @vcells_agg ?_;repeat with_reducible intro K hK
  generalize w.alloc (.cells (t.row (.slice xa xn xc)) 37) = w1 at *
  obtain ⟨p,hpe⟩ : ∃ p,p = w.heap.size := ⟨_,rfl⟩
  rw [← hpe] at hp ⊢
  rw [hrow] at hp
  by_cases k5 : t.kind = 5
  · rw [decide_eq_true (.inl k5)] at hr
    (repeat revert hK K);refine Wc2 @hp (eq_true k5) ?_;repeat with_reducible intro K hK
    exact ⟨by rw [hr],hx⟩
  by_cases k6 : t.kind = 6
  · rw [decide_eq_true (.inr (.inr k6))] at hr
    (repeat revert hK K);refine Wc3 @hp (eq_false k5) (eq_true k6) ?_;repeat with_reducible intro K hK
    exact ⟨by rw [hr],hx⟩
  by_cases k7 : t.kind = 7
  · rw [decide_eq_true (.inr (.inl k7))] at hr
    (repeat revert hK K);refine Wc4 @hp (eq_false k5) (eq_false k6) (eq_true k7) ?_;repeat with_reducible intro K hK
    exact ⟨by rw [hr],hx⟩
  · rw [decide_eq_false (by rintro (h | h | h) <;> contradiction)] at hr
    (repeat revert hK K);refine Wc4 @hp (eq_false k5) (eq_false k6) (eq_false k7) ?_;repeat with_reducible intro K hK
    exact ⟨by rw [hr],hx⟩
end
theorem dstate_c {w : World} {x : ByteArray} (hx : x = sTitle ∨ x = sNof ∨ x = sStyle ∨ x = sScript) : Gives Tryz.prog 227 #[.string x] w fun v w' => v = .int .i64 (stateN x) ∧ w' = w := by
  rcases hx with h | h | h | h
  · have e : stateN x = 1 := by rw [h]; kernel_rfl
    rw [e]
    have a0 : (x = ⟨#[116,101,120,116,97,114,101,97]⟩) = False := eq_false (by rw [h]; unfold sTitle; decide)
    have a1 : (x = ⟨#[116,105,116,108,101]⟩) = True := eq_true h
    have a2 : (x = ⟨#[115,99,114,105,112,116]⟩) = False := eq_false (by rw [h]; unfold sTitle; decide)
    have a3 : (x = ⟨#[112,108,97,105,110,116,101,120,116]⟩) = False := eq_false (by rw [h]; unfold sTitle; decide)
    have a4 : (x = ⟨#[105,102,114,97,109,101]⟩) = False := eq_false (by rw [h]; unfold sTitle; decide)
    have a5 : (x = ⟨#[110,111,101,109,98,101,100]⟩) = False := eq_false (by rw [h]; unfold sTitle; decide)
    have a6 : (x = ⟨#[110,111,102,114,97,109,101,115]⟩) = False := eq_false (by rw [h]; unfold sTitle; decide)
    have a7 : (x = ⟨#[115,116,121,108,101]⟩) = False := eq_false (by rw [h]; unfold sTitle; decide)
    have a8 : (x = ⟨#[120,109,112]⟩) = False := eq_false (by rw [h]; unfold sTitle; decide)
    clear h
    refine Gives.of_W Tryz.call227 Tryz.func227 rfl Tryz.ntmps227 (by simp) ?_; intro Z hZ
    (repeat first|(with_reducible first|(refine hK _ _ ?_;clear hK K)|refine ‹∀σ w,_→K σ w› _ _ ?_|(refine W_st ?_;constructor;try intro K hK))|((with_reducible first|refine hZ _ _ ?_|refine W_rg ?_|skip);repeat1' simp only[push_cast,seval,-Nat.reduceSubDiff,a0,a1,a2,a3,a4,a5,a6,a7,a8])|((repeat((fail_if_success with_reducible refine hK _ _ ?_);clear hK K));with_reducible refine hK _ _ ?_;clear hK K))
  · have e : stateN x = 2 := by rw [h]; kernel_rfl
    rw [e]
    have a0 : (x = ⟨#[116,101,120,116,97,114,101,97]⟩) = False := eq_false (by rw [h]; unfold sNof; decide)
    have a1 : (x = ⟨#[116,105,116,108,101]⟩) = False := eq_false (by rw [h]; unfold sNof; decide)
    have a2 : (x = ⟨#[115,99,114,105,112,116]⟩) = False := eq_false (by rw [h]; unfold sNof; decide)
    have a3 : (x = ⟨#[112,108,97,105,110,116,101,120,116]⟩) = False := eq_false (by rw [h]; unfold sNof; decide)
    have a4 : (x = ⟨#[105,102,114,97,109,101]⟩) = False := eq_false (by rw [h]; unfold sNof; decide)
    have a5 : (x = ⟨#[110,111,101,109,98,101,100]⟩) = False := eq_false (by rw [h]; unfold sNof; decide)
    have a6 : (x = ⟨#[110,111,102,114,97,109,101,115]⟩) = True := eq_true h
    have a7 : (x = ⟨#[115,116,121,108,101]⟩) = False := eq_false (by rw [h]; unfold sNof; decide)
    have a8 : (x = ⟨#[120,109,112]⟩) = False := eq_false (by rw [h]; unfold sNof; decide)
    clear h
    refine Gives.of_W Tryz.call227 Tryz.func227 rfl Tryz.ntmps227 (by simp) ?_; intro Z hZ
    (repeat first|(with_reducible first|(refine hK _ _ ?_;clear hK K)|refine ‹∀σ w,_→K σ w› _ _ ?_|(refine W_st ?_;constructor;try intro K hK))|((with_reducible first|refine hZ _ _ ?_|refine W_rg ?_|skip);repeat1' simp only[push_cast,seval,-Nat.reduceSubDiff,a0,a1,a2,a3,a4,a5,a6,a7,a8])|((repeat((fail_if_success with_reducible refine hK _ _ ?_);clear hK K));with_reducible refine hK _ _ ?_;clear hK K))
  · have e : stateN x = 2 := by rw [h]; kernel_rfl
    rw [e]
    have a0 : (x = ⟨#[116,101,120,116,97,114,101,97]⟩) = False := eq_false (by rw [h]; unfold sStyle; decide)
    have a1 : (x = ⟨#[116,105,116,108,101]⟩) = False := eq_false (by rw [h]; unfold sStyle; decide)
    have a2 : (x = ⟨#[115,99,114,105,112,116]⟩) = False := eq_false (by rw [h]; unfold sStyle; decide)
    have a3 : (x = ⟨#[112,108,97,105,110,116,101,120,116]⟩) = False := eq_false (by rw [h]; unfold sStyle; decide)
    have a4 : (x = ⟨#[105,102,114,97,109,101]⟩) = False := eq_false (by rw [h]; unfold sStyle; decide)
    have a5 : (x = ⟨#[110,111,101,109,98,101,100]⟩) = False := eq_false (by rw [h]; unfold sStyle; decide)
    have a6 : (x = ⟨#[110,111,102,114,97,109,101,115]⟩) = False := eq_false (by rw [h]; unfold sStyle; decide)
    have a7 : (x = ⟨#[115,116,121,108,101]⟩) = True := eq_true h
    have a8 : (x = ⟨#[120,109,112]⟩) = False := eq_false (by rw [h]; unfold sStyle; decide)
    clear h
    refine Gives.of_W Tryz.call227 Tryz.func227 rfl Tryz.ntmps227 (by simp) ?_; intro Z hZ
    (repeat first|(with_reducible first|(refine hK _ _ ?_;clear hK K)|refine ‹∀σ w,_→K σ w› _ _ ?_|(refine W_st ?_;constructor;try intro K hK))|((with_reducible first|refine hZ _ _ ?_|refine W_rg ?_|skip);repeat1' simp only[push_cast,seval,-Nat.reduceSubDiff,a0,a1,a2,a3,a4,a5,a6,a7,a8])|((repeat((fail_if_success with_reducible refine hK _ _ ?_);clear hK K));with_reducible refine hK _ _ ?_;clear hK K))
  · have e : stateN x = 3 := by rw [h]; kernel_rfl
    rw [e]
    have a0 : (x = ⟨#[116,101,120,116,97,114,101,97]⟩) = False := eq_false (by rw [h]; unfold sScript; decide)
    have a1 : (x = ⟨#[116,105,116,108,101]⟩) = False := eq_false (by rw [h]; unfold sScript; decide)
    have a2 : (x = ⟨#[115,99,114,105,112,116]⟩) = True := eq_true h
    have a3 : (x = ⟨#[112,108,97,105,110,116,101,120,116]⟩) = False := eq_false (by rw [h]; unfold sScript; decide)
    have a4 : (x = ⟨#[105,102,114,97,109,101]⟩) = False := eq_false (by rw [h]; unfold sScript; decide)
    have a5 : (x = ⟨#[110,111,101,109,98,101,100]⟩) = False := eq_false (by rw [h]; unfold sScript; decide)
    have a6 : (x = ⟨#[110,111,102,114,97,109,101,115]⟩) = False := eq_false (by rw [h]; unfold sScript; decide)
    have a7 : (x = ⟨#[115,116,121,108,101]⟩) = False := eq_false (by rw [h]; unfold sScript; decide)
    have a8 : (x = ⟨#[120,109,112]⟩) = False := eq_false (by rw [h]; unfold sScript; decide)
    clear h
    refine Gives.of_W Tryz.call227 Tryz.func227 rfl Tryz.ntmps227 (by simp) ?_; intro Z hZ
    (repeat first|(with_reducible first|(refine hK _ _ ?_;clear hK K)|refine ‹∀σ w,_→K σ w› _ _ ?_|(refine W_st ?_;constructor;try intro K hK))|((with_reducible first|refine hZ _ _ ?_|refine W_rg ?_|skip);repeat1' simp only[push_cast,seval,-Nat.reduceSubDiff,a0,a1,a2,a3,a4,a5,a6,a7,a8])|((repeat((fail_if_success with_reducible refine hK _ _ ?_);clear hK K));with_reducible refine hK _ _ ?_;clear hK K))
end Go.Proofs.YtgnnlaeikcnhcaaGreatDoor
end
section
namespace Go.Vk
open Go Go.Proofs.YtgnnlaeikcnhcaaGreatDoor
structure DH (b : BSt) (t : HTok) : Prop where
  sh : Shp b
  s : b.s.length < 490
  L : b.L.length < 70000
  l : b.l.length < 60
  md : b.modes.length < 1000
  tx : ∀ n ∈ b.L,n.text.size < 1000000000
  at_ : ∀ n ∈ b.L,n.attrs.length < 1000000
  tt : t.text.size < 1000000000
  ta : t.attrs.length < 1000000
def temB (b : BSt) (t : HTok) : BSt := { insL b (elTok t 0) with l := b.l ++ [-1],mode := 15,modes := b.modes ++ [15] }
def rawL (b : BSt) (t : HTok) (st : Int) : BSt := { insL b (elTok t 0) with ask := some (st,t.name),back := b.mode,mode := 7 }
section
variable {b : BSt} {t : HTok}
theorem DH.ins (h : DH b t) : insertB b (elTok t 0) = (insL b (elTok t 0),(b.L.length : Int)) := h.sh.insL (by have := h.s; omega) rfl
theorem DH.imp (h : DH b t) (x : ByteArray) : implyB b x = (insL b (elTok (tokI x) 0),(b.L.length : Int)) := h.sh.insL (by have := h.s; omega) rfl
theorem DH.own (h : DH b t) : ownR b t = if endT t lTem = true then b else if t.name = tmpl then temB b t else if startT t lRaw = true then rawL b t (stateN t.name) else popS (insL b (elTok t 0)) := by
  unfold ownR
  split
  · rw [h.sh.noT,if_neg (by decide)]
  · split
    · rw [h.ins]
      have e1 : markB (insL b (elTok t 0)) = ({ insL b (elTok t 0) with l := b.l ++ [-1] },0) := by
        unfold markB layN
        have := h.l
        rw [show (insL b (elTok t 0)).l = b.l from rfl,if_neg (by omega),List.take_length,List.drop_length]
      dsimp only
      rw [e1]
      unfold failB temB
      rw [if_neg (fun h => h.2 rfl)]
      rfl
    · split
      · unfold rawB rawL
        rw [h.ins]; rfl
      · unfold onlyB
        rw [h.ins,if_pos (by show (0 : Int) ≤ (b.L.length : Int); omega)]; rfl
theorem Dc.cellF {w0 w : World} {S : Nat → Prop} {pd : Nat} {b : BSt} (h : Dc w0 S w pd b) : cellO (w.heap[pd]?) 3 = some (.int .i64 b.mode) ∧ cellO (w.heap[pd]?) 4 = some (.int .i64 b.back) ∧ cellO (w.heap[pd]?) 6 = some (.int .i64 b.head) := by
  obtain ⟨_,x,hM,_⟩ := h
  obtain ⟨_,_,_,_,_,_,_,_,_,_,_,_,_,hh⟩ := hM.hd
  rw [hh]
  exact ⟨rfl,rfl,rfl⟩
end
end Go.Vk
namespace Go.Proofs.YtgnnlaeikcnhcaaGreatDoor
open Go Go.Vk
set_option maxHeartbeats 40000000
section
variable {w0 w : World} {S : Nat → Prop} {pd : Nat} {b : BSt}
theorem dlastT_c (h : Dc w0 S w pd b) {t : HTok} (hd : DH b t) : Gives Tryz.prog 220 #[.pointer (some ⟨pd,0,none⟩),.string ⟨#[116,101,109,112,108,97,116,101]⟩] w fun v w' => v = .int .i64 (-1) ∧ w' = w := by
  have := hd.s
  have := hd.L
  refine dlast_c h (by omega) (by omega) fun j hj => ?_
  unfold nds at hj
  obtain ⟨o,ho,rfl⟩ := List.mem_map.1 hj
  obtain ⟨k1,k2,k3,_⟩ := hd.sh.st o ho
  have hne : ¬ (gN b.L o.node).name = ⟨#[116,101,109,112,108,97,116,101]⟩ := (hd.sh.nt _ k1 k2).2 k3
  unfold hN
  rw [decide_eq_false hne,Bool.and_false,Bool.and_false]
set_option maxHeartbeats 4000000 in
theorem down_c (h : Dc w0 S w pd b) {t : HTok} (hd : DH b t) {av : Value} (ha : ∀ w',Upd S w0 w' → RdAt w' 2 av (attrCells t.attrs)) :
    Gives Tryz.prog 189 #[.pointer (some ⟨pd,0,none⟩),.agg (t.row av)] w fun v w' => Dc w0 S w' pd (ownR b t) := by
  obtain ⟨r,hr⟩ : ∃ r,r = ownR b t := ⟨_,rfl⟩
  rw [← hr]
  rw [hd.own] at hr
  have hs := hd.s
  have hL := hd.L
  obtain ⟨xa,xn,xc,eav,_⟩ := id (ha w h.1)
  subst eav
  have hrow : t.row (.slice xa xn xc) = #[.int .i64 t.kind,.string t.name,.string t.text,.slice xa xn xc,.bool t.dup,.bool t.self,.bool t.quirks,.int .i64 t.frm,.int .i64 t.to] := rfl
  have hx := Ext.alloc w (.cells (t.row (.slice xa xn xc)) 37)
  have hp : (w.alloc (.cells (t.row (.slice xa xn xc)) 37)).heap[w.heap.size]? = some (.cells (t.row (.slice xa xn xc)) 37 (0,0)) := by rw [heap_alloc_h,if_pos rfl]
  obtain ⟨S1,lo,loS,hbase⟩ := h.base
  refine Gives.of_W Tryz.call189 Tryz.func189 rfl Tryz.ntmps189 (by simp) ?_; intro Z hZ
  (repeat revert hK K);refine W1 @vcells_agg ?_;repeat with_reducible intro K hK
  generalize w.alloc (.cells (t.row (.slice xa xn xc)) 37) = w1 at *
  obtain ⟨p,hpe⟩ : ∃ p,p = w.heap.size := ⟨_,rfl⟩
  rw [← hpe] at hp ⊢
  rw [hrow] at hp
  obtain ⟨h1,hup,hback⟩ := hbase w1 hx
  have np : ¬ S1 p := fun hq => by have := lo p hq; omega
  have ha1 : ∀ w',Upd S1 w1 w' → RdAt w' 2 (.slice xa xn xc) (attrCells t.attrs) := fun w' hu => ha w' (hup w' hu)
  (repeat revert hK K);refine Wc1 @hp ?_;repeat with_reducible intro K hK
  refine bsl (l := lTem) rfl (by decide) (by decide) (by kernel_rfl) ?_
  rintro v w2 hy2 hn2 ⟨bn2,rfl⟩
  (repeat revert hK K);refine W0 ?_;repeat with_reducible intro K hK
  rw [← hrow]
  refine (dend_c hn2 (by decide)).mono ?_
  rintro v w3 ⟨rfl,hy3⟩
  have h3 := (h1.ext hy2).ext hy3
  have hp3 := h3.keep hp np
  cases hT : endT t lTem with
  | true =>
    rw [if_pos hT] at hr
    (repeat revert hK K);refine W0 ?_;repeat with_reducible intro K hK
    refine (dlastT_c h3 hd).mono ?_
    intro v w' ⟨hv,hw⟩
    subst hv; subst w'
    have n1 : ¬ (0 : Int) ≤ -1 := by decide
    (repeat revert hK K);refine W1 @n1 ?_;repeat with_reducible intro K hK
    rw [hr]
    exact hback _ _ h3
  | false =>
  rw [if_neg (by rw [hT]; decide)] at hr
  by_cases hn : t.name = tmpl
  · rw [if_pos hn] at hr
    have hn' : t.name = ⟨#[116,101,109,112,108,97,116,101]⟩ := hn
    (repeat revert hK K);refine Wc2 @hp3 (eq_true hn') ?_;repeat with_reducible intro K hK
    rw [← hrow]
    refine (dins_c h3 hd.sh (by omega) (by omega) ha1 hd.ta 0).mono ?_
    rintro v w4 ⟨rfl,h4⟩
    (repeat revert hK K);refine W0 ?_;repeat with_reducible intro K hK
    refine (dmark_c h4 (by show b.l.length < 64; have := hd.l; omega)).mono ?_
    intro v w5 h5
    (repeat revert hK K);refine W0 ?_;repeat with_reducible intro K hK
    obtain ⟨z,h6⟩ := h5.put { insL b (elTok t 0) with l := b.l ++ [-1],mode := 15 } 3 (.int .i64 15) (by decide) (fun x => rfl) ⟨rfl,rfl,rfl,rfl,rfl⟩
    (repeat revert hK K);refine W1 @z ?_;repeat with_reducible intro K hK
    generalize w5.setCell ⟨pd,3,none⟩ (.int .i64 15) = w6 at *
    obtain ⟨hu6,x6,hM6,hS6⟩ := h6
    obtain ⟨oa6,oc6,la6,lc6,ma6,mc6,_,_,_,_,em6,_,_,hh6⟩ := hM6.hd
    (repeat revert hK K);refine Wc1 @hh6 ?_;repeat with_reducible intro K hK
    have hmd := hd.md
    have hmd6 := hM6.md
    rw [em6] at hmd6
    refine app_to_rd sty28 sty28.und (by decide) (SlAt.nil _ _) hmd6.rd (intCells_one _) (by rw [intCells_length]; simp; show b.modes.length ≤ _; omega) ?_
    intro v1 w7 bo1 g1 g2 g3
    rw [List.nil_append] at g1
    have hx7 : Ext w6 w7 := g2.mono fun q _ e => by cases e
    obtain ⟨va1,vn1,vc1,rfl,_,_⟩ := g1.len
    (repeat revert hK K);refine W0 ?_;repeat with_reducible intro K hK
    refine bs_one sty28 (by decide) (by decide) (v := .int .i64 15) rfl ?_
    have hxa := Ext.alloc w7 (.cells (Value.int .i64 15).cells 3)
    have hna := SlAt.new w7 1 (Value.int .i64 15).cells 3 1 rfl
    generalize w7.alloc (.cells (Value.int .i64 15).cells 3) = w8 at *
    (repeat revert hK K);refine W0 ?_;repeat with_reducible intro K hK
    refine app_to_rd sty28 sty28.und (by decide) (g1.ext hxa) hna.rd (by rfl) (by rw [intCells_length]; simp [Value.cells]; show b.modes.length ≤ _; omega) ?_
    intro v2 w9 bo2 k1 k2 k3
    have s7 := hx7.alike.size
    have s8 := hxa.alike.size
    have hbo1 : ∀ q,bo1 = some q → w6.heap.size ≤ q := fun q hq => by
      rcases g3 q hq with h | h
      · cases h
      · exact h
    have e1 : intCells b.modes ++ (Value.int .i64 15).cells.toList = intCells (b.modes ++ [15]) := by rw [intCells_append]; rfl
    replace k1 : SlAt w9 1 v2 (intCells (b.modes ++ [15])) bo2 := e1 ▸ k1
    obtain ⟨va2,vn2,vc2,rfl,_,_⟩ := k1.len
    obtain ⟨z1,z2,z3,z4⟩ := hM6.mds (w2 := w9) (s' := b.modes ++ [15]) k1 (Upd.trans (hx7.trans hxa).upd k2 fun q hq e => by have := hbo1 q e; omega) fun q hq => by
      rcases k3 q hq with h | h
      · exact .inr (hbo1 q h)
      · exact .inr (by omega)
    have hfin := Dc.step hu6 hM6 hS6 z3 z2 z4
    (repeat revert hK K);refine W1 @z1 ?_;repeat with_reducible intro K hK
    rw [hr]
    exact hback _ _ hfin
  rw [if_neg hn] at hr
  have hn' : ¬ t.name = ⟨#[116,101,109,112,108,97,116,101]⟩ := hn
  (repeat revert hK K);refine Wc2 @hp3 (eq_false hn') ?_;repeat with_reducible intro K hK
  refine bsl (l := lRaw) rfl (by decide) (by decide) (by kernel_rfl) ?_
  rintro v w4 hy4 hn4 ⟨bn4,rfl⟩
  (repeat revert hK K);refine W0 ?_;repeat with_reducible intro K hK
  rw [← hrow]
  refine (dstart_c hn4 (by decide)).mono ?_
  rintro v w5 ⟨rfl,hy5⟩
  have h5 := (h3.ext hy4).ext hy5
  have hp5 := h5.keep hp np
  cases hR : startT t lRaw with
  | true =>
    rw [if_pos hR] at hr
    obtain ⟨_,hmem⟩ := startT_nm hR
    have hor : t.name = sTitle ∨ t.name = sNof ∨ t.name = sStyle ∨ t.name = sScript := by
      simpa [lRaw,sTitle,sNof,sStyle,sScript] using hmem
    have hxd := Ext.drew w5
    have hpd := hxd.blk hp5
    have h6 := h5.ext hxd
    (repeat revert hK K);refine W0 ?_;repeat with_reducible intro K hK
    refine W_draw (.pas 0 (.pas 1 (.pas 2 (.pas 3 (.act 4 (.tail [5])))))) (fun q => q = p) (by decide) mixed (by kernel_rfl) ?_
    generalize w5.drew = wd at *
    refine Dd1 @hpd ?_
    refine (dstate_c hor).mono ?_
    intro v w' ⟨hv,hw⟩
    subst hv; subst w'
    refine ⟨kept.refl _ _,?_⟩
    refine Dd1 @hpd ?_
    rw [← hrow]
    refine (draw_c h6 hd.sh (by omega) (by omega) ha1 hd.ta _).mono ?_
    intro v w7 h7
    refine D0 ?_
    (repeat revert hK K);refine W0 ?_;repeat with_reducible intro K hK
    rw [hr]
    exact hback _ _ h7
  | false =>
    rw [if_neg (by rw [hR]; decide)] at hr
    (repeat revert hK K);refine Wc1 @hp5 ?_;repeat with_reducible intro K hK
    rw [← hrow]
    refine (donly_c h5 hd.sh (by omega) (by omega) ha1 hd.ta).mono ?_
    intro v w6 h6
    (repeat revert hK K);refine W0 ?_;repeat with_reducible intro K hK
    rw [hr]
    exact hback _ _ h6
end
end Go.Proofs.YtgnnlaeikcnhcaaGreatDoor
end
