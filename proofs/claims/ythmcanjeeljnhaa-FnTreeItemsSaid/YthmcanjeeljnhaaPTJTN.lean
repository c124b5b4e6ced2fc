-- a tree of nodes whose rows lie apart, all the way down: what is stored into one part says nothing of the others. By hand.
import Derived.Test.YthmcanjeeljnhaaPTJx0
namespace Go.Proofs.Ythmcanjeeljnhaa.PTJ
open Go.RowKit Go.Proofs.YthmcanjeeljnhaaW.PrintWords Go.Proofs.YthmcanjeeljnhaaW.PrintLast Go.Proofs.YthmcanjeeljnhaaW.PrintMore
set_option linter.unusedVariables false
set_option linter.unusedSimpArgs false
/-- The cells of a row's nodes, whose rows are vA i and vB i. -/
def cellsOf (xs:List S53) (vA vB:Nat→Value):List (List Value):=(List.range xs.length).map fun i=> [.int .i64 (xs.getD i z53).f0,.int .i64 (xs.getD i z53).f1,vA i,vB i]
/-- A row of nodes of the call's own with all that they lead to; bs: all its blocks. -/
inductive T (w:World) (base:Nat):Value→List S53→List Nat→Prop where
  |mk (v:Value) (xs:List S53) (vA vB:Nat→Value) (bA bB:Nat→List Nat)
    (hr:(Kd.raw 4).R 53 w base (fun k=>v.ownBlock=some k) v (cellsOf xs vA vB))
    (hA: ∀i,i<xs.length→T w base (vA i) (xs.getD i z53).f2 (bA i))
    (hB: ∀i,i<xs.length→T w base (vB i) (xs.getD i z53).f3 (bB i)):
    T w base v xs (v.ownBlock.toList++(List.range xs.length).flatMap fun i=>bA i++bB i)
section
variable {w w1 W:World} {base:Nat} {v:Value} {xs:List S53} {bs:List Nat}
theorem cellsOf_len (xs:List S53) (vA vB:Nat→Value):(cellsOf xs vA vB).length=xs.length:=by simp [cellsOf]
theorem cellsOf_at (xs:List S53) (vA vB:Nat→Value) (i:Nat) (h:i<xs.length):(cellsOf xs vA vB)[i]?=some [.int .i64 (xs.getD i z53).f0,.int .i64 (xs.getD i z53).f1,vA i,vB i]:=by
  unfold cellsOf
  rw [List.getElem?_map,List.getElem?_range h]
  rfl
theorem raw_own {ok ok':Nat→Prop} {css:List (List Value)} (h:(Kd.raw 4).R 53 w base ok v css) (h': ∀k,v.ownBlock=some k→ok' k):(Kd.raw 4).R 53 w base ok' v css:=⟨h',h.2⟩
theorem T.move (h:T w base v xs bs) (hm: ∀k,k∈bs→w1.heap[k]?=w.heap[k]?):T w1 base v xs bs:=by
  induction h with
  |mk v xs vA vB bA bB hr hA hB ihA ihB=>
    refine T.mk v xs vA vB bA bB (Kd.R_move hr fun k hk=>hm k ?_) (fun i hi=>ihA i hi fun k hk=>hm k ?_) (fun i hi=>ihB i hi fun k hk=>hm k ?_)
    · exact List.mem_append_left _ (by rw [hk];simp)
    · exact List.mem_append_right _ (List.mem_flatMap.2 ⟨i,List.mem_range.2 hi,List.mem_append_left _ hk⟩)
    · exact List.mem_append_right _ (List.mem_flatMap.2 ⟨i,List.mem_range.2 hi,List.mem_append_right _ hk⟩)
theorem T.lower {base':Nat} (h:T w base v xs bs) (hb:base'≤base):T w base' v xs bs:=by
  induction h with
  |mk v xs vA vB bA bB hr hA hB ihA ihB=>exact T.mk v xs vA vB bA bB (Kd.R_lower hr hb) ihA ihB
theorem T.bound (h:T w base v xs bs): ∀k,k∈bs→base≤k∧k<w.heap.size∧ ∃cells,w.heap[k]?=some (.cells cells 53 (0,0)):=by
  induction h with
  |mk v xs vA vB bA bB hr hA hB ihA ihB=>
    intro k hk
    rcases List.mem_append.1 hk with hk|hk
    · have hk':v.ownBlock=some k:=by
        cases hv:v.ownBlock with
        |none=>rw [hv]at hk;simp at hk
        |some b=>rw [hv]at hk;simp at hk;rw [hk]
      exact⟨Kd.R_base hr k hk',Kd.R_lt hr k hk',Kd.R_typed hr k hk'⟩
    · obtain⟨i,hi,hk⟩:=List.mem_flatMap.1 hk
      rcases List.mem_append.1 hk with hk|hk
      · exact ihA i (List.mem_range.1 hi) k hk
      · exact ihB i (List.mem_range.1 hi) k hk
theorem T.own (h:T w base v xs bs): ∀k,v.ownBlock=some k→k∈bs:=by
  cases h with
  |mk v xs vA vB bA bB hr hA hB=>
    intro k hk
    exact List.mem_append_left _ (by rw [hk];simp)
theorem T.raw (h:T w base v xs bs): ∃vA vB,(Kd.raw 4).R 53 w base (fun k=>v.ownBlock=some k) v (cellsOf xs vA vB):=by
  cases h with
  |mk v xs vA vB bA bB hr hA hB=>exact⟨vA,vB,hr⟩
theorem nodup_flat {α:Type} (f:α→List Nat): ∀(l:List α),(l.flatMap f).Nodup→ ∀x∈l,(f x).Nodup:=by
  intro l hl x hx
  exact(List.pairwise_flatMap.1 hl).1 x hx
/-- As a row that is the call's own, the apartness forgotten. -/
theorem T.row (h:T w base v xs bs) (hn:bs.Nodup):k53.R 53 w base (fun k=>k∈bs) v xs:=by
  induction h with
  |mk v xs vA vB bA bB hr hA hB ihA ihB=>
    obtain⟨_,inner,ho,hre⟩:=hr
    have hn':=List.nodup_append.1 hn
    rw [cellsOf_len]at ho
    refine⟨fun k hk=>List.mem_append_left _ (by rw [hk];simp),inner,ho,?_,fun j p hj=> ?_⟩
    · have h1:=hre.1
      rw [cellsOf_len]at h1
      exact h1
    · obtain⟨hjl,hp⟩:=List.getElem?_eq_some_iff.1 hj
      have h2:=hre.2 j _ (cellsOf_at xs vA vB j hjl)
      have h3:p=xs.getD j z53:=by rw [List.getD_eq_getElem?_getD,hj];rfl
      have hmem: ∀k,k∈bA j++bB j→k∈(List.range xs.length).flatMap fun i=>bA i++bB i:=fun k hk=>List.mem_flatMap.2 ⟨j,List.mem_range.2 hjl,hk⟩
      have hnj:=List.nodup_append.1 (nodup_flat _ _ hn'.2.1 j (List.mem_range.2 hjl))
      have hok: ∀k,k∈bA j++bB j→k∈v.ownBlock.toList++((List.range xs.length).flatMap fun i=>bA i++bB i)∧some k≠v.ownBlock:=by
        intro k hk
        refine⟨List.mem_append_right _ (hmem k hk),fun he=> ?_⟩
        exact hn'.2.2 k (by rw [←he];simp) k (hmem k hk) rfl
      have hm:=k53_mkM w base (fun k=>k∈v.ownBlock.toList++((List.range xs.length).flatMap fun i=>bA i++bB i)∧some k≠v.ownBlock) (xs.getD j z53) (Kd.R_mono (ihA j hjl hnj.1) (fun k hk=>hok k (List.mem_append_left _ hk))) (Kd.R_mono (ihB j hjl hnj.2.1) (fun k hk=>hok k (List.mem_append_right _ hk)))
      rw [h3]
      have h4:((inner.drop (j*4)).take 4)= [.int .i64 (xs.getD j z53).f0,.int .i64 (xs.getD j z53).f1,vA j,vB j]:=h2.1
      show k53.M w base _ _ ((inner.drop (j*4)).take 4)
      rw [h4]
      exact hm
end
/-- A row of nodes of the call's own, all of whose rows lie apart; its blocks are ok. -/
def TN (w:World) (base:Nat) (ok:Nat→Prop) (v:Value) (xs:List S53):Prop:= ∃bs,T w base v xs bs∧bs.Nodup∧ ∀k,k∈bs→ok k
namespace TN
section
variable {w w1 W:World} {base base' g N:Nat} {ok ok':Nat→Prop} {u v:Value} {xs:List S53}
theorem R_mono (h:TN w base ok v xs) (hok: ∀k,ok k→ok' k):TN w base ok' v xs:=by
  obtain⟨bs,h,hn,hk⟩:=h
  exact⟨bs,h,hn,fun k hb=>hok k (hk k hb)⟩
theorem R_bound (h:TN w base ok v xs):TN w base (fun k=>ok k∧base≤k∧k<w.heap.size∧ ∃cells,w.heap[k]?=some (.cells cells 53 (0,0))) v xs:=by
  obtain⟨bs,h,hn,hk⟩:=h
  exact⟨bs,h,hn,fun k hb=>⟨hk k hb,h.bound k hb⟩⟩
theorem R_step (h:TN w base ok v xs) (hm: ∀k,ok k→k<w.heap.size→w1.heap[k]?=w.heap[k]?):TN w1 base ok v xs:=by
  obtain⟨bs,h,hn,hk⟩:=h
  exact⟨bs,h.move fun k hb=>hm k (hk k hb) (h.bound k hb).2.1,hn,hk⟩
theorem R_lower (h:TN w base ok v xs) (hb:base'≤base):TN w base' ok v xs:=by
  obtain⟨bs,h,hn,hk⟩:=h
  exact⟨bs,h.lower hb,hn,hk⟩
theorem row (h:TN w base ok v xs):k53.R 53 w base ok v xs:=by
  obtain⟨bs,h,hn,hk⟩:=h
  exact Kd.R_mono (h.row hn) hk
theorem own (h:TN w base ok v xs): ∀k,v.ownBlock=some k→ok k:=by
  obtain⟨bs,h,hn,hk⟩:=h
  exact fun k hv=>hk k (h.own k hv)
theorem R_below (h:TN w base ok v xs) (hb:Below w.heap.size w w1):TN w1 base ok v xs:=R_step h (fun k _ hk=>hb.block k hk)
theorem R_alloc (h:TN w base ok v xs) (o:Obj):TN (w.alloc o) base ok v xs:=R_below h (below_alloc (Below.refl _ _) o)
theorem R_drew (h:TN w base ok v xs):TN w.drew base ok v xs:=R_below h (below_drew (Below.refl _ _))
theorem R_drewN (h:TN w base ok v xs) (m:Nat):TN (w.drewN m) base ok v xs:=R_below h (pw_below_drewN (Below.refl _ _) m)
theorem R_far (h:TN w base ok v xs) {p:Addr} (hok: ∀k,ok k→k≠p.block) (x:Value):TN (w.setCell p x) base ok v xs:=R_step h (fun k ho _=>Below.heap_setCell w p x k (hok k ho))
theorem R_keep (h:TN w base ok v xs) (hk:KeepBut w w1 g none) (hok: ∀k,ok k→k≠g):TN w1 base ok v xs:=R_step h (fun k ho hlt=>hk.2 k hlt (hok k ho) (by simp))
theorem R_types (h:TN w base ok v xs) {t:Nat} {cells:Array Value} (hb:w.heap[g]?=some (.cells cells t (0,0))) (ht:53≠t):TN w base (fun k=>ok k∧k≠g) v xs:=
  R_mono (R_bound h) (fun k hk=>⟨hk.1,by
    rintro rfl
    obtain⟨c,hc⟩:=hk.2.2.2
    rw [hb]at hc
    injection hc with hc
    injection hc with _ h2
    exact ht h2.symm⟩)
theorem R_newB {o:Obj} (h:TN w1 w.heap.size ok v xs) (hb:w.heap[g]?=some o):TN w1 w.heap.size (fun k=>ok k∧k≠g) v xs:=R_mono (R_bound h) (fun k hk=>⟨hk.1,by have:=blk_lt hb;have:=hk.2.1;omega⟩)
theorem R_elderB (h:TN w base ok v xs) (a:Nat) (ha:w.heap.size≤a):TN w base (fun k=>ok k∧k≠a) v xs:=R_mono (R_bound h) (fun k hk=>⟨hk.1,by have:=hk.2.2.1;omega⟩)
theorem R_new' (h:TN w1 W.heap.size ok v xs) (hlt: ∀k,u.ownBlock=some k→k<W.heap.size):TN w1 W.heap.size (fun k=>ok k∧(some k≠u.ownBlock∧W.heap.size≤k)) v xs:=
  R_mono (R_bound h) (fun k hk=>⟨hk.1,fun e=>by have:=hlt k e.symm;have:=hk.2.1;omega,hk.2.1⟩)
theorem R_old (hu:TN W base ok u xs) (hb:Below W.heap.size W w1):TN w1 base (fun k=>ok k∧k<W.heap.size) u xs:=R_mono (R_below (R_bound hu) hb) (fun _ h=>⟨h.1,h.2.2.1⟩)
theorem R_oldK (hu:TN W base (fun k=>ok k∧k≠g) u xs) (hk:KeepBut W w1 g none):TN w1 base (fun k=>ok k∧k<W.heap.size) u xs:=
  R_mono (R_keep (R_bound hu) hk (fun _ h=>h.1.2)) (fun _ h=>⟨h.1.1,h.2.2.1⟩)
theorem R_told (h:TN w1 base (fun k=>ok k∧k<N) u xs) (hbase: ∀k,v.ownBlock=some k→N≤k):TN w1 base (fun k=>(ok k∧some k≠v.ownBlock)∧k<N) u xs:=
  R_mono h (fun k hk=>⟨⟨hk.1,fun e=>Nat.lt_irrefl _ (Nat.lt_of_lt_of_le hk.2 (hbase k e.symm))⟩,hk.2⟩)
theorem R_keepN {ok2:Nat→Prop} (h:TN w base (fun k=>(ok k∧ok2 k)∧k<N) v xs):TN w base (fun k=>ok k∧(ok2 k∧k<N)) v xs:=R_mono h (fun k hk=>⟨hk.1.1,hk.1.2,hk.2⟩)
theorem R_lt (h:TN w base ok v xs): ∀k,v.ownBlock=some k→k<w.heap.size:=Kd.R_lt h.row
theorem R_base (h:TN w base ok v xs): ∀k,v.ownBlock=some k→base≤k:=Kd.R_base h.row
theorem R_base2 (h:TN w base ok v xs):v.ownBlock=none∨ ∃k,v.ownBlock=some k∧base≤k:=Kd.R_base2 h.row
theorem R_ne (h:TN w base ok v xs) {t:Nat} {cells:Array Value} (hb:w.heap[g]?=some (.cells cells t (0,0))) (ht:53≠t):some g≠v.ownBlock:=Kd.R_ne h.row hb ht
theorem R_slice (h:TN w base ok v xs): ∃A c,v= .slice A xs.length c:=Kd.R_slice h.row
theorem R_reads' {A:Option Addr} {n c:Nat} (h:TN w base ok (.slice A n c) xs):n=xs.length∧n≤c∧k53.C w A xs.length xs:=Kd.R_reads' h.row
theorem T_nil (w:World) (base:Nat):T w base (.slice none 0 0) [] []:=by
  have h:=T.mk (w:=w) (base:=base) (.slice none 0 0) [] (fun _=> .bool false) (fun _=> .bool false) (fun _=> []) (fun _=> []) (Kd.R_nil _ _ _ _ _) (fun i hi=>absurd hi (Nat.not_lt_zero _)) (fun i hi=>absurd hi (Nat.not_lt_zero _))
  exact h
theorem R_nil (w:World) (base:Nat) (ok:Nat→Prop):TN w base ok (.slice none 0 0) []:=⟨[],T_nil w base,List.nodup_nil,fun _ h=>absurd h List.not_mem_nil⟩
/-- A row without nodes. -/
theorem of_empty (h:(Kd.raw 4).R 53 w base ok v []):TN w base ok v []:=by
  refine⟨v.ownBlock.toList,?_,?_,fun k hk=> ?_⟩
  · have:=T.mk (w:=w) (base:=base) v [] (fun _=> .bool false) (fun _=> .bool false) (fun _=> []) (fun _=> []) (raw_own h (fun _ hk=>hk)) (fun i hi=>absurd hi (Nat.not_lt_zero _)) (fun i hi=>absurd hi (Nat.not_lt_zero _))
    simpa using this
  · cases v.ownBlock<;>simp
  · exact h.1 k (by cases hv:v.ownBlock with
      |none=>rw [hv]at hk;simp at hk
      |some b=>rw [hv]at hk;simp at hk;rw [hk])
end
end TN
theorem cellsOf_snoc (xs:List S53) (p:S53) (vA vB:Nat→Value) (a b:Value):cellsOf xs vA vB++ [[.int .i64 p.f0,.int .i64 p.f1,a,b]]=cellsOf (xs++ [p]) (fun i=>if i<xs.length then vA i else a) (fun i=>if i<xs.length then vB i else b):=by
  unfold cellsOf
  rw [List.length_append,List.length_singleton,List.range_succ,List.map_append,List.map_cons,List.map_nil]
  congr 1
  · refine List.map_congr_left fun i hi=> ?_
    have hi':=List.mem_range.1 hi
    have e:(xs++ [p]).getD i z53=xs.getD i z53:=by rw [List.getD_eq_getElem?_getD,List.getD_eq_getElem?_getD,List.getElem?_append_left hi']
    rw [e]
    simp only [if_pos hi']
  · have e:(xs++ [p]).getD xs.length z53=p:=by rw [List.getD_eq_getElem?_getD];simp
    rw [e]
    simp only [if_neg (Nat.lt_irrefl _)]
/-- What an append makes of the rows that lie apart. -/
theorem T.appended {W:World} {base:Nat} {v a b:Value} {xs:List S53} {p:S53} {bs ba bb:List Nat} (h:T W base v xs bs) (hn:bs.Nodup) (hA:T W base a p.f2 ba) (hnA:ba.Nodup) (hB:T W base b p.f3 bb) (hnB:bb.Nodup)
    (d1: ∀k,k∈bs→k ∉ ba) (d2: ∀k,k∈bs→k ∉ bb) (d3: ∀k,k∈ba→k ∉ bb):
    ∃css:List (List Value),css.length=xs.length∧(Kd.raw 4).R 53 W base (fun _=>True) v css∧ ∀v1 w1,(Kd.raw 4).R 53 w1 base (fun _=>True) v1 (css++ [[.int .i64 p.f0,.int .i64 p.f1,a,b]])→W.grownBy w1 v.ownBlock→(v1.ownBlock=v.ownBlock∨ ∃q,v1.ownBlock=some q∧W.heap.size≤q)→
      TN w1 base (fun _=>True) v1 (xs++ [p]):=by
  have hbd:=h.bound
  have hbA:=hA.bound
  have hbB:=hB.bound
  have hown:=h.own
  cases h with
  |mk v xs vA vB bA bB hr hcA hcB=>
    refine⟨cellsOf xs vA vB,cellsOf_len xs vA vB,raw_own hr (fun _ _=>trivial),fun v1 w1 h1 hg hat=> ?_⟩
    have hn':=List.nodup_append.1 hn
    rw [cellsOf_snoc]at h1
    have hmv: ∀k,k<W.heap.size→some k≠v.ownBlock→w1.heap[k]?=W.heap[k]?:=fun k hk hne=>hg.block k hk hne
    have hne: ∀k,(k∈(List.range xs.length).flatMap fun i=>bA i++bB i)→some k≠v.ownBlock:=fun k hk he=>hn'.2.2 k (by rw [←he];simp) k hk rfl
    have hmem: ∀i,i<xs.length→ ∀k,k∈bA i++bB i→k∈(List.range xs.length).flatMap fun i=>bA i++bB i:=fun i hi k hk=>List.mem_flatMap.2 ⟨i,List.mem_range.2 hi,hk⟩
    have hin: ∀i,i<xs.length→ ∀k,k∈bA i++bB i→w1.heap[k]?=W.heap[k]?:=fun i hi k hk=>
      hmv k (hbd k (List.mem_append_right _ (hmem i hi k hk))).2.1 (hne k (hmem i hi k hk))
    have getD_l: ∀i,i<xs.length→(xs++ [p]).getD i z53=xs.getD i z53:=fun i hi=>by rw [List.getD_eq_getElem?_getD,List.getD_eq_getElem?_getD,List.getElem?_append_left hi]
    have getD_r:(xs++ [p]).getD xs.length z53=p:=by rw [List.getD_eq_getElem?_getD];simp
    have hT:=T.mk (w:=w1) (base:=base) v1 (xs++ [p]) (fun i=>if i<xs.length then vA i else a) (fun i=>if i<xs.length then vB i else b) (fun i=>if i<xs.length then bA i else ba) (fun i=>if i<xs.length then bB i else bb) (raw_own h1 (fun _ hk=>hk))
      (fun i hi=>by
        rw [List.length_append,List.length_singleton]at hi
        by_cases hlt:i<xs.length
        · simp only [if_pos hlt]
          rw [getD_l i hlt]
          exact(hcA i hlt).move (fun k hk=>hin i hlt k (List.mem_append_left _ hk))
        · obtain rfl:i=xs.length:=by omega
          simp only [if_neg (Nat.lt_irrefl _)]
          rw [getD_r]
          exact hA.move (fun k hk=>hmv k (hbA k hk).2.1 (fun he=>d1 k (hown k he.symm) hk)))
      (fun i hi=>by
        rw [List.length_append,List.length_singleton]at hi
        by_cases hlt:i<xs.length
        · simp only [if_pos hlt]
          rw [getD_l i hlt]
          exact(hcB i hlt).move (fun k hk=>hin i hlt k (List.mem_append_right _ hk))
        · obtain rfl:i=xs.length:=by omega
          simp only [if_neg (Nat.lt_irrefl _)]
          rw [getD_r]
          exact hB.move (fun k hk=>hmv k (hbB k hk).2.1 (fun he=>d2 k (hown k he.symm) hk)))
    have hflat:((List.range (xs++ [p]).length).flatMap fun i=>(if i<xs.length then bA i else ba)++(if i<xs.length then bB i else bb))=((List.range xs.length).flatMap fun i=>bA i++bB i)++(ba++bb):=by
      rw [List.length_append,List.length_singleton,List.range_succ,List.flatMap_append]
      congr 1
      · simp only [List.flatMap_def]
        congr 1
        refine List.map_congr_left fun i hi=> ?_
        have hi':=List.mem_range.1 hi
        rw [if_pos hi',if_pos hi']
      · simp
    rw [hflat]at hT
    refine⟨_,hT,?_,fun _ _=>trivial⟩
    have hold: ∀k,k∈((List.range xs.length).flatMap fun i=>bA i++bB i)++(ba++bb)→k<W.heap.size∧some k≠v.ownBlock:=by
      intro k hk
      rcases List.mem_append.1 hk with hk|hk
      · exact⟨(hbd k (List.mem_append_right _ hk)).2.1,hne k hk⟩
      · rcases List.mem_append.1 hk with hk|hk
        · exact⟨(hbA k hk).2.1,fun he=>d1 k (hown k he.symm) hk⟩
        · exact⟨(hbB k hk).2.1,fun he=>d2 k (hown k he.symm) hk⟩
    refine List.nodup_append.2 ⟨by cases v1.ownBlock<;>simp,List.nodup_append.2 ⟨hn'.2.1,List.nodup_append.2 ⟨hnA,hnB,fun x hx y hy e=>d3 x hx (e▸hy)⟩,fun x hx y hy e=> ?_⟩,fun x hx y hy e=> ?_⟩
    · subst e
      rcases List.mem_append.1 hy with hy|hy
      · exact d1 x (List.mem_append_right _ hx) hy
      · exact d2 x (List.mem_append_right _ hx) hy
    · subst e
      have hx':v1.ownBlock=some x:=by
        cases hv:v1.ownBlock with
        |none=>rw [hv]at hx;simp at hx
        |some q=>rw [hv]at hx;simp at hx;rw [hx]
      rcases hat with hat|⟨q,hq,hle⟩
      · exact(hold x hy).2 (by rw [←hat,hx'])
      · rw [hx']at hq
        injection hq with hq
        have:=(hold x hy).1
        omega
theorem TN.one {w:World} {base:Nat} {ok:Nat→Prop} {v:Value} {xs:List S53} (h:TN w base ok v xs):v.oneCell'=true:=by
  obtain⟨A,c,rfl⟩:=TN.R_slice h
  rfl
section
variable {P:Program} {ops:Array Oper} {rest:List Oper} {o:Oper} {a:Act} {Q:Exit→Act→World→Prop}
/-- append(v, x), x a node whose rows lie apart from each other and from v's. -/
theorem TN.R_append {w0 W:World} (base:Nat) (hgd:o.guard=none) (s x:Operand) (t e:TypeId) (z:Value) (bytes:Nat)
    (ho:o.op= .call {callee:= .builtin .append,args:= #[s,x],argTypes:= #[t,t]})
    (ht:P.underlying t=some (.slice e)) (he:e=53) (hinfo:(P.info? e).map (fun i=>(i.zero,i.size,i.bytes))=some (some z,4,bytes)) (hz:z.cells.size=4) (hb0:0<bytes)
    (v:Value) (xs:List S53) (p:S53) (va vb:Value) {okO okA okB:Nat→Prop} (hs:a.eval s=v) (hx:a.eval x= .slice (some ⟨W.heap.size,0,none⟩) 1 1)
    (HA:TN W base okA va p.f2) (HBB:TN W base okB vb p.f3) (HO:TN W base okO v xs) (d1: ∀k,okO k→okA k→False) (d2: ∀k,okO k→okB k→False) (d3: ∀k,okA k→okB k→False)
    (HB:Below base w0 W) (hbase:base≤W.heap.size) (hl:(xs.length+1)*bytes≤140737488355328)
    (h: ∀v1 w1,TN w1 base (fun _=>True) v1 (xs++ [p])→Below base w0 w1→W.grownBy w1 v.ownBlock→(v1.ownBlock=v.ownBlock∨ ∃b,v1.ownBlock=some b∧W.heap.size≤b)→wpList P ops Q rest (a.put o.dst v1) w1):
    wpList P ops Q (o::rest) a (W.alloc (.cells #[.int .i64 p.f0,.int .i64 p.f1,va,vb] e)):=by
  subst he
  have oA:=HA.one
  have oB:=HBB.one
  obtain⟨bs,h1,hn,hk⟩:=HO
  obtain⟨ba,h2,hnA,hkA⟩:=HA
  obtain⟨bb,h3,hnB,hkB⟩:=HBB
  obtain⟨css,hlen,hraw,hnext⟩:=T.appended h1 hn h2 hnA h3 hnB (fun k hx hy=>d1 k (hk k hx) (hkA k hy)) (fun k hx hy=>d2 k (hk k hx) (hkB k hy)) (fun k hx hy=>d3 k (hkA k hx) (hkB k hy))
  refine Kd.R_append (Kd.raw 4) base hgd s x t 53 z bytes ho ht hinfo hz (by decide) hb0 v css [.int .i64 p.f0,.int .i64 p.f1,va,vb] [.int .i64 p.f0,.int .i64 p.f1,va,vb] (fun _=>True) (fun k=>False) hs hx ⟨rfl,rfl,?_⟩ (fun _ hf=>hf.elim) (fun _ _=>trivial) hraw HB hbase (by rw [hlen];exact hl) ?_
  · intro u hu
    rcases List.mem_cons.1 hu with rfl|hu
    · rfl
    · rcases List.mem_cons.1 hu with rfl|hu
      · rfl
      · rcases List.mem_cons.1 hu with rfl|hu
        · exact oA
        · obtain rfl:=List.mem_singleton.1 hu
          exact oB
  · intro v1 w1 h4 h5 h6 h7
    exact h v1 w1 (hnext v1 w1 h4 h6 h7) h5 h6 h7
end
end Go.Proofs.Ythmcanjeeljnhaa.PTJ
