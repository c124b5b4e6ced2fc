/- The law FnTreeItems answers true: a definition's tree is read back into its items. No condition. -/
import Derived.Test.YthmcanjeeljnhaaPTJx16
namespace Go.Proofs.Ythmcanjeeljnhaa.Pure
open Go.RowKit Go.Proofs.Ythmcanjeeljnhaa.PTJ Go.Proofs.YthmcanjeeljnhaaW.PrintWords Go.Proofs.YthmcanjeeljnhaaW.PrintLast
set_option linter.unusedSimpArgs false
set_option linter.unusedVariables false

theorem bd64 {n:Int} (h:(Lit.int .i64 n).wf=true): -9223372036854775808≤n∧n≤9223372036854775807:=by
  simp [Lit.wf,IntKind.min,IntKind.max,IntKind.signed,IntKind.bits]at h
  omega
/-- n lies from lo to hi. -/
def inR (n lo hi:Int):Bool:=decide (lo≤n∧n≤hi)
/-- A cell: 32 bits with a sign. -/
def isCell (n:Int):Bool:=decide (-2147483648≤n∧n≤2147483647)
theorem isCell_iff {n:Int}:isCell n=true↔(-2147483648≤n∧n≤2147483647):=by simp [isCell]
theorem inR_iff {n lo hi:Int}:inR n lo hi=true↔(lo≤n∧n≤hi):=by simp [inR]
theorem w64 {n:Int} (h: -9223372036854775808≤n∧n≤9223372036854775807):wrap64 n=n:=by unfold wrap64;omega
theorem w64_cell (n:Int):wrap64 (wrap32 n)=wrap32 n:=by unfold wrap64 wrap32;omega
theorem w32_cell {n:Int} (h:isCell n=true):wrap32 n=n:=by rw [isCell_iff]at h;unfold wrap32;omega
theorem cell_w32 (n:Int):isCell (wrap32 n)=true:=by rw [isCell_iff];unfold wrap32;omega
theorem w32_eq (n:Int):(wrap32 n==n)=isCell n:=by
  rw [Bool.eq_iff_iff,isCell_iff]
  simp only [beq_iff_eq]
  unfold wrap32
  omega
/-- All of d numbers from i on. -/
def allF (P:Nat→Bool):Nat→Nat→Bool
  |0,_=>true
  |d+1,i=>P i&&allF P d (i+1)
theorem allF_congr {P Q:Nat→Bool}: ∀d i,(∀j,i≤j→j<i+d→P j=Q j)→allF P d i=allF Q d i
  |0,_,_=>rfl
  |d+1,i,h=>by
    simp only [allF]
    rw [h i (Nat.le_refl _) (by omega),allF_congr d (i+1) (fun j h1 h2=>h j (by omega) (by omega))]
theorem allF_true {P:Nat→Bool}: ∀d i,(∀j,i≤j→j<i+d→P j=true)→allF P d i=true
  |0,_,_=>rfl
  |d+1,i,h=>by
    simp only [allF]
    rw [h i (Nat.le_refl _) (by omega),allF_true d (i+1) (fun j h1 h2=>h j (by omega) (by omega))]
    rfl
theorem allF_all {α:Type} (p:α→Bool) (z:α) (l:List α): ∀d i,i+d=l.length→allF (fun j=>p (l.getD j z)) d i=(l.drop i).all p
  |0,i,h=>by simp [allF,List.drop_of_length_le (show l.length≤i by omega)]
  |d+1,i,h=>by
    simp only [allF]
    rw [allF_all p z l d (i+1) (by omega),List.drop_eq_getElem_cons (by omega:i<l.length),List.all_cons]
    simp [List.getD_eq_getElem?_getD,List.getElem?_eq_getElem (by omega:i<l.length)]
/-- A loop that leaves with false at the first number of which P does not hold. -/
theorem loop_all (F:Nat→Int→Option Bool) (n:Nat) (P:Nat→Bool) (fin:Bool)
    (hs: ∀k (i:Nat),i<n→F (k+1) i=if P i=true then F k ((i:Int)+1)else some false) (he: ∀k,F (k+1) (n:Int)=some fin):
    ∀d k (i:Nat),i+d=n→d<k→F k i=some (allF P d i&&fin)
  |0,k,i,h,hk=>by
    obtain⟨k,rfl⟩: ∃m,k=m+1:=⟨k - 1,by omega⟩
    obtain rfl:i=n:=by omega
    rw [he]
    simp [allF]
  |d+1,k,i,h,hk=>by
    obtain⟨k,rfl⟩: ∃m,k=m+1:=⟨k - 1,by omega⟩
    rw [hs k i (by omega)]
    have ih:=loop_all F n P fin hs he d k (i+1) (by omega) (by omega)
    rw [show ((i+1:Nat):Int)=(i:Int)+1 by omega]at ih
    rw [ih]
    cases hp:P i<;>simp [allF,hp]
theorem loop_all0 (F:Nat→Int→Option Bool) (n:Nat) (P:Nat→Bool) (fin:Bool)
    (hs: ∀k (i:Nat),i<n→F (k+1) i=if P i=true then F k ((i:Int)+1)else some false) (he: ∀k,F (k+1) (n:Int)=some fin) (k:Nat) (hk:n<k):F k 0=some (allF P n 0&&fin):=
  loop_all F n P fin hs he n k 0 (by omega) hk
theorem spec_l01In_eq (a b c:Int):spec_l01In.f a b c=some (inR a b c):=by
  unfold spec_l01In.f
  by_cases h1:a≥b
  · have h2:b≤a:=h1
    by_cases h3:a≤c<;>simp [h1,inR,h2,h3]
  · have h2: ¬b≤a:=h1
    simp [inR,h2]
theorem impl_in_eq (a b c:Int):impl_in.f a b c=some (inR a b c):=by
  unfold impl_in.f
  by_cases h1:b≤a
  · by_cases h3:a≤c<;>simp [inR,h1,h3]
  · simp [inR,h1]
theorem spec_l01Cell_eq (a:Int):spec_l01Cell.f a=some (isCell a):=by
  unfold spec_l01Cell.f
  rw [spec_l01In_eq]
  rfl
theorem impl_WrapCell_eq (a:Int):impl_WrapCell.f a=some (wrap32 a):=by
  unfold impl_WrapCell.f
  rw [w64_cell]
theorem impl_CellOK_eq (a:Int):impl_CellOK.f a=some (isCell a):=by
  unfold impl_CellOK.f
  rw [impl_WrapCell_eq,Option.bind_some,w32_eq]
theorem rd44_nat (l:List S44) (i:Nat):rd_T44 l (i:Int)=l.getD i z44:=by simp [rd_T44]
/-- A valid item. -/
def itemOK (x:S44):Bool:=if x.f0=1 then inR x.f1 1 103 else if x.f0=2 then isCell x.f1 else inR x.f0 3 13&&(x.f1==0)
theorem spec_ItemOK_eq (a b:Int):spec_ItemOK.f a b=some (itemOK ⟨a,b⟩):=by
  unfold spec_ItemOK.f itemOK
  rw [spec_l01In_eq,spec_l01Cell_eq,spec_l01In_eq]
  by_cases h1:a=1
  · simp [h1]
  · by_cases h2:a=2
    · simp [h2]
    · cases h3:inR a 3 13<;>simp [h1,h2,h3]
theorem impl_ItemOK_eq (a b:Int):impl_ItemOK.f a b=some (itemOK ⟨a,b⟩):=by
  unfold impl_ItemOK.f itemOK
  rw [impl_in_eq,impl_CellOK_eq,impl_in_eq]
  by_cases h1:a=1
  · simp [h1]
  · by_cases h2:a=2
    · simp [h2]
    · cases h3:inR a 3 13<;>simp [h1,h2,h3]
theorem idx_items (l:List S44) (hl:l.length≤1048576): ∀d k (i:Nat),i+d=l.length→d<k→
    ∃r,slices_IndexFunc_Item_at_impl_itemsCode_1.l0 k l (l.length:Int) (i:Int)=some r∧(!decide (r≥0))=allF (fun j=>itemOK (l.getD j z44)) d i
  |0,k,i,h,hk=>by
    obtain⟨k,rfl⟩: ∃m,k=m+1:=⟨k - 1,by omega⟩
    refine⟨-1,?_,by simp [allF]⟩
    simp only [slices_IndexFunc_Item_at_impl_itemsCode_1.l0]
    rw [if_neg (by omega)]
  |d+1,k,i,h,hk=>by
    obtain⟨k,rfl⟩: ∃m,k=m+1:=⟨k - 1,by omega⟩
    obtain⟨r,hr,hq⟩:=idx_items l hl d k (i+1) (by omega) (by omega)
    simp only [slices_IndexFunc_Item_at_impl_itemsCode_1.l0]
    rw [if_pos (by omega),if_pos (by omega),if_pos (by omega),rd44_nat,w64 (by omega),show (i:Int)+1=((i+1:Nat):Int) by omega,hr]
    unfold impl_itemsCode_1.f
    rw [impl_ItemOK_eq]
    simp only [Option.bind_some,allF]
    cases hp:itemOK (l.getD i z44)
    · refine⟨(i:Int),by simp,?_⟩
      simp
    · refine⟨r,by simp,?_⟩
      rw [hq]
      simp
theorem contains_items (l:List S44) (hl:l.length≤1048576) (k:Nat) (hk:l.length<k):slices_ContainsFunc_Item_at_impl_itemsCode_1.f k l=some (!l.all itemOK):=by
  obtain⟨r,hr,hq⟩:=idx_items l hl l.length k 0 (by omega) hk
  unfold slices_ContainsFunc_Item_at_impl_itemsCode_1.f slices_IndexFunc_Item_at_impl_itemsCode_1.f
  rw [show (0:Int)=((0:Nat):Int)from rfl,hr]
  simp only [Option.bind_some]
  rw [allF_all itemOK z44 l l.length 0 (by omega)]at hq
  simp only [List.drop_zero]at hq
  rw [←hq]
  simp
theorem isLong_item (l:List S44) (k:Nat) (hk:2<k):impl_isLong_Item.f k [l]=some (decide ((l.length:Int)>4096)):=by
  obtain⟨k,rfl⟩: ∃m,k=m+2:=⟨k - 2,by omega⟩
  simp only [impl_isLong_Item.f,slices_ContainsFunc_Item_at_impl_isLong_Item_1.f,slices_IndexFunc_Item_at_impl_isLong_Item_1.f,slices_IndexFunc_Item_at_impl_isLong_Item_1.l0,impl_isLong_Item_1.f,rd_L3]
  by_cases h:(l.length:Int)>4096<;>simp [h,wrap64]
def ask01:Bool→Int
  |true=>0
  |false=>1
/-- The code of a row of items. -/
def itemsCode (l:List S44):Int:=if l.length>4096 then 2 else if l.length>60 then 6 else ask01 (l.all itemOK)
theorem spec_l07Ask_eq (l:List S44) (hl:l.length≤1048576) (k:Nat) (hk:4096<k):spec_l07Ask.f k l=some (itemsCode l):=by
  unfold spec_l07Ask.f itemsCode
  by_cases h1:l.length>4096
  · rw [if_pos (by omega),if_pos h1]
  · rw [if_neg (by omega),if_neg h1]
    by_cases h2:l.length>60
    · rw [if_pos (by omega),if_pos h2]
    · rw [if_neg (by omega),if_neg h2,←List.drop_zero (l:=l),←allF_all itemOK z44 l l.length 0 (by omega),List.drop_zero]
      have key: ∀d k (i:Nat),i+d=l.length→d<k→spec_l07Ask.l0 k l (i:Int)=some (ask01 (allF (fun j=>itemOK (l.getD j z44)) d i)):=by
        intro d
        induction d with
        |zero=>
          intro k i h hk
          obtain⟨k,rfl⟩: ∃m,k=m+1:=⟨k - 1,by omega⟩
          simp only [spec_l07Ask.l0]
          rw [if_neg (by omega)]
          rfl
        |succ d ih=>
          intro k i h hk
          obtain⟨k,rfl⟩: ∃m,k=m+1:=⟨k - 1,by omega⟩
          simp only [spec_l07Ask.l0]
          rw [if_pos (by omega),if_pos (by omega),rd44_nat,spec_ItemOK_eq,Option.bind_some,w64 (by omega),show (i:Int)+1=((i+1:Nat):Int) by omega,ih k (i+1) (by omega) (by omega)]
          simp only [allF]
          have e:(⟨(l.getD i z44).f0,(l.getD i z44).f1⟩:S44)=l.getD i z44:=rfl
          rw [e]
          cases itemOK (l.getD i z44)
          · simp [ask01]
          · simp
      exact key l.length k 0 (by omega) (by omega)
theorem impl_itemsCode_eq (l:List S44) (hl:l.length≤1048576) (k:Nat) (hk:1048576<k):impl_itemsCode.f k l=some (itemsCode l):=by
  unfold impl_itemsCode.f itemsCode
  rw [isLong_item l k (by omega),contains_items l hl k (by omega)]
  simp only [Option.bind_some,decide_eq_true_eq]
  by_cases h1:l.length>4096
  · rw [if_pos (by omega),if_pos h1]
  · rw [if_neg (by omega),if_neg h1]
    by_cases h2:l.length>60
    · rw [if_pos (by omega),if_pos h2]
    · rw [if_neg (by omega),if_neg h2]
      cases l.all itemOK<;>rfl
/-- The open structures behind an item; none if it does not fit. -/
def stepW (l:List Int) (a:Int):Option (List Int):=
  if a=3∨a=6∨a=10 then(if l.length<8 then some (l++ [a])else none)
  else if a=4 then(if impl_fit.top l=3 then some (l.take (l.length - 1)++ [a])else none)
  else if a=8 then(if impl_fit.top l=6 then some (l.take (l.length - 1)++ [a])else none)
  else if a=5 then(if impl_fit.top l=3∨impl_fit.top l=4 then some (l.take (l.length - 1))else none)
  else if a=7 then(if impl_fit.top l=6 then some (l.take (l.length - 1))else none)
  else if a=9 then(if impl_fit.top l=8 then some (l.take (l.length - 1))else none)
  else if a=11∨a=12 then(if impl_fit.top l=10 then some (l.take (l.length - 1))else none)
  else some l
/-- What a step answers. -/
def Ans (r:Option (List Int × Bool)) (s:Option (List Int)):Prop:= ∃l',r=some (l',s.isSome)∧ ∀q,s=some q→l'=q
theorem Ans.ok {q:List Int}:Ans (some (q,true)) (some q):=⟨q,rfl,fun _ h=>Option.some.inj h⟩
theorem Ans.no {q:List Int}:Ans (some (q,false)) none:=⟨q,rfl,fun _ h=>by cases h⟩
theorem Ans.ite {q:List Int} {c:Prop} [Decidable c] {b:Bool} (h:b=decide c):Ans (some (q,b)) (if c then some q else none):=by
  subst h
  by_cases hc:c
  · rw [if_pos hc,decide_eq_true hc];exact Ans.ok
  · rw [if_neg hc,decide_eq_false hc];exact Ans.no
theorem top_ne {l:List Int} (h:impl_fit.top l≠0):1≤l.length:=by
  unfold impl_fit.top at h
  by_cases c:0<l.length
  · exact c
  · rw [if_neg c]at h
    exact absurd rfl h
def InvO (l:List Int):Prop:=l.length≤8∧ ∀x∈l,x=3∨x=4∨x=6∨x=8∨x=10
theorem top_inv {l:List Int} (h:InvO l):impl_fit.top l=0∨impl_fit.top l=3∨impl_fit.top l=4∨impl_fit.top l=6∨impl_fit.top l=8∨impl_fit.top l=10:=by
  unfold impl_fit.top
  by_cases c:0<l.length
  · rw [if_pos c]
    right
    have e:rd l ((l.length:Int) - 1)=l.getD (l.length - 1) 0:=by
      rw [show (l.length:Int) - 1=((l.length - 1:Nat):Int) by omega]
      simp [rd]
    rw [e,List.getD_eq_getElem?_getD,List.getElem?_eq_getElem (by omega)]
    exact h.2 _ (List.getElem_mem _)
  · rw [if_neg c]
    exact .inl rfl
theorem inv_step {l q:List Int} {a:Int} (h:InvO l) (hs:stepW l a=some q):InvO q:=by
  have htake:InvO (l.take (l.length - 1)):=⟨by rw [List.length_take];have:=h.1;omega,fun x hx=>h.2 x (List.mem_of_mem_take hx)⟩
  have hadd: ∀m:List Int,InvO m→m.length+1≤8→(a=3∨a=4∨a=6∨a=8∨a=10)→InvO (m++ [a]):=fun m hm hl ha=>⟨by simp;omega,fun x hx=>by
    rcases List.mem_append.1 hx with hx|hx
    · exact hm.2 x hx
    · rw [List.mem_singleton]at hx
      rw [hx]
      exact ha⟩
  have hl8:=h.1
  unfold stepW at hs
  by_cases c1:a=3∨a=6∨a=10
  · rw [if_pos c1]at hs
    by_cases c2:l.length<8
    · rw [if_pos c2]at hs
      obtain rfl:=Option.some.inj hs
      exact hadd l h (by omega) (by omega)
    · rw [if_neg c2]at hs
      cases hs
  · rw [if_neg c1]at hs
    by_cases c4:a=4
    · rw [if_pos c4]at hs
      by_cases t:impl_fit.top l=3
      · rw [if_pos t]at hs
        obtain rfl:=Option.some.inj hs
        have:=top_ne (l:=l) (by omega)
        exact hadd _ htake (by rw [List.length_take];omega) (by omega)
      · rw [if_neg t]at hs
        cases hs
    · rw [if_neg c4]at hs
      by_cases c8:a=8
      · rw [if_pos c8]at hs
        by_cases t:impl_fit.top l=6
        · rw [if_pos t]at hs
          obtain rfl:=Option.some.inj hs
          have:=top_ne (l:=l) (by omega)
          exact hadd _ htake (by rw [List.length_take];omega) (by omega)
        · rw [if_neg t]at hs
          cases hs
      · rw [if_neg c8]at hs
        repeat' split at hs
        all_goals first|(cases hs;done)|(obtain rfl:=Option.some.inj hs;first|exact htake|exact h)
theorem fit_step (l:List Int) (a:Int) (h:InvO l):Ans (impl_fit.f l a) (stepW l a):=by
  have ht:=top_inv h
  have hl:=h.1
  unfold impl_fit.f stepW impl_fit.cut
  rw [if_pos (by omega)]
  by_cases c1:a=3∨a=6∨a=10
  · rw [if_pos c1,if_pos c1]
    exact Ans.ite (by rw [decide_eq_decide];omega)
  · rw [if_neg c1,if_neg c1]
    by_cases c4:a=4
    · rw [if_pos (by omega),if_pos c4]
      by_cases t:impl_fit.top l=3
      · have:=top_ne (l:=l) (by omega)
        rw [if_neg (by omega),if_pos (by omega),if_pos t]
        exact Ans.ok
      · rw [if_pos (by omega),if_neg t]
        exact Ans.no
    · rw [if_neg c4]
      by_cases c8:a=8
      · rw [if_pos (by omega),if_pos c8]
        by_cases t:impl_fit.top l=6
        · have:=top_ne (l:=l) (by omega)
          rw [if_neg (by omega),if_pos (by omega),if_pos t]
          exact Ans.ok
        · rw [if_pos (by omega),if_neg t]
          exact Ans.no
      · rw [if_neg (by omega),if_neg c8]
        by_cases c5:a=5
        · rw [if_pos c5,if_pos c5]
          by_cases t:impl_fit.top l=3∨impl_fit.top l=4
          · have:=top_ne (l:=l) (by omega)
            rw [if_neg (by omega),if_pos (by omega),if_pos t]
            exact Ans.ok
          · rw [if_pos (by omega),if_neg t]
            exact Ans.no
        · rw [if_neg c5,if_neg c5]
          by_cases c7:a=7
          · rw [if_pos c7,if_pos c7]
            by_cases t:impl_fit.top l=6
            · have:=top_ne (l:=l) (by omega)
              rw [if_neg (by omega),if_pos (by omega),if_pos t]
              exact Ans.ok
            · rw [if_pos (by omega),if_neg t]
              exact Ans.no
          · rw [if_neg c7,if_neg c7]
            by_cases c9:a=9
            · rw [if_pos c9,if_pos c9]
              by_cases t:impl_fit.top l=8
              · have:=top_ne (l:=l) (by omega)
                rw [if_neg (by omega),if_pos (by omega),if_pos t]
                exact Ans.ok
              · rw [if_pos (by omega),if_neg t]
                exact Ans.no
            · rw [if_neg c9,if_neg c9]
              by_cases c11:a=11∨a=12
              · rw [if_pos c11,if_pos c11]
                by_cases t:impl_fit.top l=10
                · have:=top_ne (l:=l) (by omega)
                  rw [if_neg (by omega),if_pos (by omega),if_pos t]
                  exact Ans.ok
                · rw [if_pos (by omega),if_neg t]
                  exact Ans.no
              · rw [if_neg c11,if_neg c11]
                exact Ans.ok
theorem mx_len (l:List Int) (hl:l.length≤1048576):mx (wrap64 ((l.length:Int) - 1)) 0=((l.length - 1:Nat):Int):=by
  rw [w64 (by omega)]
  unfold mx
  split<;>omega
theorem spec_step (l:List Int) (a:Int) (hl:l.length≤1048576) (k:Nat) (hk:3≤k):Ans (spec_l07Step.f k l a) (stepW l a):=by
  obtain⟨k,rfl⟩: ∃m,k=m+1+1:=⟨k - 2,by omega⟩
  have e0:spec_l07Step.f (k+1+1) l a=spec_l07Step.j0 (k+1+1) l a (l.length:Int) (impl_fit.top l):=by
    unfold spec_l07Step.f impl_fit.top
    by_cases c:0<l.length
    · rw [if_pos (by omega),if_pos c,w64 (by omega),if_pos (by omega),if_pos (by omega)]
    · rw [if_neg (by omega),if_neg c]
  have e1:spec_l07Step.j0 (k+1+1) l a (l.length:Int) (impl_fit.top l)=spec_l07Step.j1 (k+1) l a (l.length:Int) (impl_fit.top l) a (decide (a=3∨a=6∨a=10)):=by
    simp only [spec_l07Step.j0]
    by_cases c3:a=3
    · rw [if_pos c3,c3];rfl
    · rw [if_neg c3]
      by_cases c6:a=6
      · rw [if_pos c6,c6];rfl
      · rw [if_neg c6]
        congr 1
        by_cases c10:a=10
        · rw [c10];rfl
        · rw [beq_eq_false_iff_ne.mpr c10,decide_eq_false (by omega)]
  have hx:=mx_len l hl
  have hn:((l.length - 1:Nat):Int).toNat=l.length - 1:=by omega
  have htl:(l.take (l.length - 1)).length=l.length - 1:=by rw [List.length_take];omega
  rw [e0,e1]
  simp only [spec_l07Step.j1,hx,hn,Option.bind_some,List.nil_append,List.length_nil,Nat.zero_add]
  unfold stepW
  by_cases c1:a=3∨a=6∨a=10
  · rw [if_pos (decide_eq_true c1),if_pos c1,if_pos (by omega),if_pos (by omega)]
    exact Ans.ite (by rw [decide_eq_decide];omega)
  · rw [if_neg (by simp [c1]),if_neg c1]
    by_cases c4:a=4
    · rw [if_pos c4,if_pos c4,if_pos (by omega),if_pos (by omega),htl,if_pos (by omega),if_pos (by omega)]
      exact Ans.ite (by rw [Bool.eq_iff_iff];simp)
    · rw [if_neg c4,if_neg c4]
      by_cases c8:a=8
      · rw [if_pos c8,if_pos c8,if_pos (by omega),if_pos (by omega),htl,if_pos (by omega),if_pos (by omega)]
        exact Ans.ite (by rw [Bool.eq_iff_iff];simp)
      · rw [if_neg c8,if_neg c8]
        by_cases c5:a=5
        · rw [if_pos c5,if_pos c5,if_pos (by omega),if_pos (by omega)]
          by_cases t:impl_fit.top l=3
          · rw [if_pos t,if_pos (.inl t)]
            exact Ans.ok
          · rw [if_neg t]
            exact Ans.ite (by rw [Bool.eq_iff_iff];simp [t])
        · rw [if_neg c5,if_neg c5]
          by_cases c7:a=7
          · rw [if_pos c7,if_pos c7,if_pos (by omega),if_pos (by omega)]
            exact Ans.ite (by rw [Bool.eq_iff_iff];simp)
          · rw [if_neg c7,if_neg c7]
            by_cases c9:a=9
            · rw [if_pos c9,if_pos c9,if_pos (by omega),if_pos (by omega)]
              exact Ans.ite (by rw [Bool.eq_iff_iff];simp)
            · rw [if_neg c9,if_neg c9]
              by_cases c11:a=11
              · rw [if_pos c11,if_pos (show a=11∨a=12 from .inl c11),if_pos (by omega),if_pos (by omega)]
                exact Ans.ite (by rw [Bool.eq_iff_iff];simp)
              · rw [if_neg c11]
                by_cases c12:a=12
                · rw [if_pos c12,if_pos (show a=11∨a=12 from .inr c12),if_pos (by omega),if_pos (by omega)]
                  exact Ans.ite (by rw [Bool.eq_iff_iff];simp)
                · rw [if_neg c12,if_neg (by omega)]
                  exact Ans.ok
/-- d items from i on: the structures open behind them; or the first one that does not fit. -/
def walkW (l:List S44):Nat→Nat→List Int→List Int × Int
  |0,_,o=>(o, -1)
  |d+1,i,o=>match stepW o (l.getD i z44).f0 with
    |some q=>walkW l d (i+1) q
    |none=>([],(i:Int))
theorem walkW_bd (l:List S44): ∀d i o,(walkW l d i o).2= -1∨(0≤(walkW l d i o).2∧(walkW l d i o).2<(i:Int)+d)
  |0,_,_=> .inl rfl
  |d+1,i,o=>by
    unfold walkW
    cases h:stepW o (l.getD i z44).f0 with
    |none=>right;simp only;omega
    |some q=>
      simp only
      rcases walkW_bd l d (i+1) q with h1|h1
      · exact .inl h1
      · right;omega
theorem walkW_inv (l:List S44): ∀d i o,InvO o→InvO (walkW l d i o).1
  |0,_,_,h=>h
  |d+1,i,o,h=>by
    unfold walkW
    cases hs:stepW o (l.getD i z44).f0 with
    |none=>exact⟨by simp,by simp⟩
    |some q=>exact walkW_inv l d (i+1) q (inv_step h hs)
theorem openAt_l0 (l:List S44) (hl:l.length≤1048576): ∀d k (i:Nat) (o:List Int),i+d=l.length→d<k→InvO o→impl_openAt.l0 k o l (l.length:Int) (i:Int)=some (walkW l d i o)
  |0,k,i,o,h,hk,_=>by
    obtain⟨k,rfl⟩: ∃m,k=m+1:=⟨k - 1,by omega⟩
    simp only [impl_openAt.l0]
    rw [if_neg (by omega)]
    rfl
  |d+1,k,i,o,h,hk,ho=>by
    obtain⟨k,rfl⟩: ∃m,k=m+1:=⟨k - 1,by omega⟩
    simp only [impl_openAt.l0]
    obtain⟨l',e,hq⟩:=fit_step o (l.getD i z44).f0 ho
    rw [if_pos (by omega),if_pos (by omega),if_pos (by omega),rd44_nat,e,Option.bind_some]
    unfold walkW
    cases hs:stepW o (l.getD i z44).f0 with
    |none=>rfl
    |some q=>
      simp only [Option.isSome_some,if_true]
      rw [hq q hs,w64 (by omega),show (i:Int)+1=((i+1:Nat):Int) by omega]
      exact openAt_l0 l hl d k (i+1) q (by omega) (by omega) (inv_step ho hs)
theorem inv_nil:InvO []:=⟨by simp,by simp⟩
theorem openAt_eq (l:List S44) (hl:l.length≤1048576) (k:Nat) (hk:l.length<k):impl_openAt.f k l=some (walkW l l.length 0 []):=by
  unfold impl_openAt.f
  exact openAt_l0 l hl l.length k 0 [] (by omega) hk inv_nil
theorem itemsCode_len {l:List S44} (h:itemsCode l=0):l.length≤60:=by
  unfold itemsCode at h
  by_cases c:l.length>60
  · rw [if_pos c]at h
    split at h<;>omega
  · omega
theorem u64_wrap (a:Int):IntKind.u64.wrap a=a % 18446744073709551616:=by
  simp [IntKind.wrap,IntKind.bits,IntKind.signed]
theorem spec_Wrap_eq (a:Int):spec_l01Wrap.f a=some (wrap32 a):=by
  unfold spec_l01Wrap.f
  rw [u64_wrap]
  congr 1
  unfold wrap64 wrap32
  omega
theorem tm_eq (a b:Int) (h:0≤a):Int.tmod a b=a % b:=Int.tmod_eq_emod_of_nonneg h
theorem td_eq (a b:Int) (h:0≤a):Int.tdiv a b=a / b:=Int.tdiv_eq_ediv_of_nonneg h
def Bytes (l:List Int):Prop:=l.length≤1048576∧ ∀i:Nat,i<l.length→0≤l.getD i 0∧l.getD i 0≤255
theorem bytes_of {l:List Int} (hl:l.length≤1048576) (h: ∀x∈l,(Lit.int .u8 x).wf=true):Bytes l:=by
  refine⟨hl,fun i hi=> ?_⟩
  have h1:=h (l.getD i 0) (by simp [List.getD_eq_getElem?_getD,List.getElem?_eq_getElem hi])
  simp [Lit.wf,IntKind.min,IntKind.max,IntKind.signed,IntKind.bits]at h1
  rw [List.getD_eq_getElem?_getD]
  omega
def Src (p s:Int) (n:Nat):Prop:=0≤p∧p≤(n:Int)∧0≤s∧s<2147483648
theorem byte_some (l:List Int) (hl:Bytes l) (p s:Int) (n:Nat) (hn:n≤1000000000) (h:Src p s n):
    ∃r p' s',spec_l00Src_byte.f l p s=some (r,p',s')∧0≤r∧r≤255∧Src p' s' (n+1):=by
  obtain⟨h1,h2,h3,h4⟩:=h
  have h5:=hl.1
  unfold spec_l00Src_byte.f
  rw [w64 (n:=p+1) (by omega)]
  by_cases c1:p+1≤(l.length:Int)
  · rw [if_pos c1,w64 (n:=p+1 - 1) (by omega),if_pos (by omega),if_pos (by omega)]
    have hb:=hl.2 p.toNat (by omega)
    have e:rd l (p+1 - 1)=l.getD p.toNat 0:=by
      simp only [rd]
      rw [show p+1 - 1=p by omega]
    rw [e]
    generalize l.getD p.toNat 0=x at hb
    rw [w64 (n:=x) (by omega),w64 (n:=s*31) (by omega),w64 (n:=s*31+x) (by omega),w64 (n:=s*31+x+7) (by omega),tm_eq _ _ (by omega)]
    exact⟨_,_,_,rfl,by omega,by omega,by omega,by omega,by omega,by omega⟩
  · rw [if_neg c1]
    by_cases c2:p+1>3000
    · rw [if_pos c2]
      exact⟨_,_,_,rfl,by omega,by omega,by omega,by omega,by omega,by omega⟩
    · rw [if_neg c2,w64 (n:=s*1103515245) (by omega),w64 (n:=s*1103515245+12345) (by omega),tm_eq (s*1103515245+12345) 2147483648 (by omega),td_eq ((s*1103515245+12345) % 2147483648) 65536 (by omega),w64 (n:=(s*1103515245+12345) % 2147483648 / 65536) (by omega),tm_eq ((s*1103515245+12345) % 2147483648 / 65536) 256 (by omega)]
      exact⟨_,_,_,rfl,by omega,by omega,by omega,by omega,by omega,by omega⟩
theorem next_some (l:List Int) (hl:Bytes l) (p s:Int) (n:Nat) (hn:n≤1000000000) (h:Src p s n) (m:Int) (h1:1<m) (h2:m≤256):
    ∃r p' s',spec_l00Src_next.f l p s m=some (r,p',s')∧0≤r∧r<m∧Src p' s' (n+1):=by
  obtain⟨r,p',s',e,r0,r1,hs⟩:=byte_some l hl p s n hn h
  unfold spec_l00Src_next.f
  rw [if_neg (by omega),if_pos h2,e,Option.bind_some,if_neg (by omega),tm_eq _ _ r0]
  exact⟨_,_,_,rfl,Int.emod_nonneg _ (by omega),Int.emod_lt_of_pos _ (by omega),hs⟩
theorem cell_some (l:List Int) (hl:Bytes l) (p s:Int) (n:Nat) (hn:n≤100000000) (h:Src p s n):
    ∃r p' s',spec_l00Src_cell.f l p s=some (r,p',s')∧isCell r=true∧Src p' s' (n+5):=by
  have up: ∀ {p s:Int} {n m:Nat},n≤m→Src p s n→Src p s m:=fun hnm hs=>⟨hs.1,by have:=hs.2.1;omega,hs.2.2⟩
  obtain⟨r,p',s',e,r0,r1,hs⟩:=next_some l hl p s n (by omega) h 8 (by omega) (by omega)
  unfold spec_l00Src_cell.f
  rw [e,Option.bind_some]
  simp only []
  by_cases c0:r=0
  · obtain⟨x,p2,s2,e2,x0,x1,hs2⟩:=next_some l hl p' s' (n+1) (by omega) hs 3 (by omega) (by omega)
    rw [if_pos c0,e2,Option.bind_some]
    exact⟨_,_,_,rfl,by rw [isCell_iff];simp only [];rw [w64 (by omega)];omega,up (by omega) hs2⟩
  · rw [if_neg c0]
    by_cases c1:r=1
    · obtain⟨x,p2,s2,e2,x0,x1,hs2⟩:=next_some l hl p' s' (n+1) (by omega) hs 3 (by omega) (by omega)
      rw [if_pos c1,e2,Option.bind_some]
      exact⟨_,_,_,rfl,by rw [isCell_iff];simp only [];rw [w64 (by omega)];omega,up (by omega) hs2⟩
    · rw [if_neg c1]
      by_cases c2:r=2
      · obtain⟨x,p2,s2,e2,x0,x1,hs2⟩:=byte_some l hl p' s' (n+1) (by omega) hs
        obtain⟨y,p3,s3,e3,y0,y1,hs3⟩:=byte_some l hl p2 s2 (n+1+1) (by omega) hs2
        obtain⟨z,p4,s4,e4,z0,z1,hs4⟩:=byte_some l hl p3 s3 (n+1+1+1) (by omega) hs3
        obtain⟨v,p5,s5,e5,v0,v1,hs5⟩:=byte_some l hl p4 s4 (n+1+1+1+1) (by omega) hs4
        rw [if_pos c2,e2,Option.bind_some]
        simp only []
        rw [e3,Option.bind_some]
        simp only []
        rw [e4,Option.bind_some]
        simp only []
        rw [e5,Option.bind_some]
        simp only []
        rw [spec_Wrap_eq,Option.bind_some]
        exact⟨_,_,_,rfl,cell_w32 _,up (by omega) hs5⟩
      · rw [if_neg c2]
        by_cases c3:r=3
        · obtain⟨x,p2,s2,e2,x0,x1,hs2⟩:=next_some l hl p' s' (n+1) (by omega) hs 40 (by omega) (by omega)
          rw [if_pos c3,e2,Option.bind_some]
          exact⟨_,_,_,rfl,by rw [isCell_iff];simp only [];rw [w64 (by omega)];omega,up (by omega) hs2⟩
        · obtain⟨x,p2,s2,e2,x0,x1,hs2⟩:=next_some l hl p' s' (n+1) (by omega) hs 40 (by omega) (by omega)
          rw [if_neg c3,e2,Option.bind_some]
          exact⟨_,_,_,rfl,by rw [isCell_iff];simp only [];omega,up (by omega) hs2⟩
theorem source_some (l:List Int) (hl:Bytes l): ∃s,spec_l00Source.f l=some (l,0,s)∧Src 0 s 0:=by
  have:=hl.1
  exact⟨_,rfl,by omega,by omega,by omega,by omega⟩
/-- The items from i on fit the open structures o, and close them all. -/
def Good (l:List S44) (i:Nat) (o:List Int):Prop:=walkW l (l.length - i) i o=([], -1)
theorem good_step {l:List S44} {i:Nat} {o:List Int} (hi:i<l.length) (h:Good l i o): ∃q,stepW o (l.getD i z44).f0=some q∧Good l (i+1) q:=by
  unfold Good at h
  rw [show l.length - i=(l.length - (i+1))+1 by omega]at h
  unfold walkW at h
  cases hs:stepW o (l.getD i z44).f0 with
  |none=>
    rw [hs]at h
    have:=congrArg Prod.snd h
    simp only at this
    omega
  |some q=>
    rw [hs]at h
    exact⟨q,rfl,h⟩
theorem good_end {l:List S44} {o:List Int} (h:Good l l.length o):o= []:=by
  unfold Good at h
  rw [Nat.sub_self]at h
  unfold walkW at h
  exact congrArg Prod.fst h
theorem good_lt {l:List S44} {j:Nat} {o:List Int} {a:Int} (hj:j≤l.length) (h:Good l j (o++ [a])):j<l.length:=by
  rcases Nat.lt_or_ge j l.length with h1|h1
  · exact h1
  · obtain rfl:j=l.length:=by omega
    have:=good_end h
    simp at this
def kinds (a:Int):Prop:=a=1∨a=2∨(3≤a∧a≤13)
def closer (a:Int):Prop:=a=4∨a=5∨a=7∨a=8∨a=9∨a=11∨a=12
theorem top_snoc (o:List Int) (a:Int):impl_fit.top (o++ [a])=a:=by
  unfold impl_fit.top
  rw [if_pos (by simp),show ((o++ [a]).length:Int) - 1=((o.length:Nat):Int) by simp]
  simp [rd]
theorem take_snoc (o:List Int) (a:Int):(o++ [a]).take ((o++ [a]).length - 1)=o:=by simp
theorem step3 {o q:List Int} {a:Int} (hc:closer a) (h:stepW (o++ [3]) a=some q):(a=4∧q=o++ [4])∨(a=5∧q=o):=by
  unfold stepW at h
  rw [top_snoc,take_snoc]at h
  rcases hc with rfl|rfl|rfl|rfl|rfl|rfl|rfl<;>simp at h<;>simp [h]
theorem step4 {o q:List Int} {a:Int} (hc:closer a) (h:stepW (o++ [4]) a=some q):a=5∧q=o:=by
  unfold stepW at h
  rw [top_snoc,take_snoc]at h
  rcases hc with rfl|rfl|rfl|rfl|rfl|rfl|rfl<;>simp at h<;>simp [h]
theorem step6 {o q:List Int} {a:Int} (hc:closer a) (h:stepW (o++ [6]) a=some q):(a=8∧q=o++ [8])∨(a=7∧q=o):=by
  unfold stepW at h
  rw [top_snoc,take_snoc]at h
  rcases hc with rfl|rfl|rfl|rfl|rfl|rfl|rfl<;>simp at h<;>simp [h]
theorem step8 {o q:List Int} {a:Int} (hc:closer a) (h:stepW (o++ [8]) a=some q):a=9∧q=o:=by
  unfold stepW at h
  rw [top_snoc,take_snoc]at h
  rcases hc with rfl|rfl|rfl|rfl|rfl|rfl|rfl<;>simp at h<;>simp [h]
theorem step10 {o q:List Int} {a:Int} (hc:closer a) (h:stepW (o++ [10]) a=some q):(a=11∨a=12)∧q=o:=by
  unfold stepW at h
  rw [top_snoc,take_snoc]at h
  rcases hc with rfl|rfl|rfl|rfl|rfl|rfl|rfl<;>simp at h<;>simp [h]
theorem step_open {o q:List Int} {a:Int} (ha:a=3∨a=6∨a=10) (h:stepW o a=some q):q=o++ [a]∧o.length<8:=by
  unfold stepW at h
  rw [if_pos ha]at h
  split at h
  · exact⟨(Option.some.inj h).symm,‹_›⟩
  · cases h
theorem step_plain {o q:List Int} {a:Int} (ha:a=1∨a=2∨a=13) (h:stepW o a=some q):q=o:=by
  unfold stepW at h
  rcases ha with rfl|rfl|rfl<;>simp at h<;>simp [h]
/-- A tree's rows and how many nodes it has. -/
inductive Cnt:List S53→Nat→Prop where
  |nil:Cnt [] 0
  |cons (x y:Int) {A B N:List S53} {a b c:Nat} (hA:Cnt A a) (hB:Cnt B b) (hN:Cnt N c):Cnt (⟨x,y,A,B⟩::N) (1+a+b+c)
/-- The node of an opening item a whose row ends at an item b. -/
def nodeOf (a b:Int):Int × Int:=if a=3 then(3,if b=4 then 1 else 0)else if b=8 then(8,0)else(b,0)
/-- From i to j the items spell the rows N, dd structures deep. -/
inductive Parsed (l:List S44):Nat→Nat→List S53→Nat→Prop where
  |nil (i dd:Nat):Parsed l i i [] dd
  |plain {i j dd:Nat} {N:List S53} (hi:i<l.length) (hk:(l.getD i z44).f0=1∨(l.getD i z44).f0=2∨(l.getD i z44).f0=13) (hN:Parsed l (i+1) j N dd):Parsed l i j (⟨(l.getD i z44).f0,(l.getD i z44).f1,[],[]⟩::N) dd
  |one {i j j3 dd:Nat} {A N:List S53} {a b:Int} (hd:dd<8) (hij:i<j) (hj:j<l.length) (ha:(l.getD i z44).f0=a) (hb:(l.getD j z44).f0=b) (hab:(a=3∧b=5)∨(a=6∧b=7)∨(a=10∧b=11)∨(a=10∧b=12))
      (hA:Parsed l (i+1) j A (dd+1)) (hN:Parsed l (j+1) j3 N dd):Parsed l i j3 (⟨(nodeOf a b).1,(nodeOf a b).2,A,[]⟩::N) dd
  |two {i j j2 j3 dd:Nat} {A B N:List S53} {a b:Int} (hd:dd<8) (hij:i<j) (hjj:j<j2) (hj2:j2<l.length) (ha:(l.getD i z44).f0=a) (hb:(l.getD j z44).f0=b) (hc:(a=3∧(l.getD j2 z44).f0=5)∨(a=6∧(l.getD j2 z44).f0=9)) (hab:(a=3∧b=4)∨(a=6∧b=8))
      (hA:Parsed l (i+1) j A (dd+1)) (hB:Parsed l (j+1) j2 B (dd+1)) (hN:Parsed l (j2+1) j3 N dd):Parsed l i j3 (⟨(nodeOf a b).1,(nodeOf a b).2,A,B⟩::N) dd
theorem spec_f (k:Nat) (l:List S44) (i:Int):spec_l09Parse.f (k+1) l i=spec_l09Parse.l0 k l [] i:=rfl
theorem impl_f (k:Nat) (l:List S44) (i:Int):impl_grower_row.f (k+1) l i=impl_grower_row.l0 k [] l i:=rfl
section
variable {l:List S44} {i j j2 t:Nat} {acc A B:List S53} (h60:l.length≤60) (hi:i<l.length) (hacc:acc.length≤100)
include h60 hi hacc
theorem spec_plain (ha:(l.getD i z44).f0=1∨(l.getD i z44).f0=2∨(l.getD i z44).f0=13):
    spec_l09Parse.l0 (t+2) l acc (i:Int)=spec_l09Parse.l0 t l (acc++ [⟨(l.getD i z44).f0,(l.getD i z44).f1,[],[]⟩]) ((i+1:Nat):Int):=by
  rw [spec_l09Parse.l0,if_pos (by omega),if_pos (by omega),rd44_nat]
  have e:wrap64 ((i:Int)+1)=((i+1:Nat):Int):=by rw [w64 (by omega)];omega
  rcases ha with ha|ha|ha<;>rw [ha]<;>(repeat first|rw [if_neg (by decide)]|rw [if_pos rfl])<;>rw [spec_l09Parse.j1,if_pos (by decide),if_pos (by omega),e]
theorem impl_plain (ha:(l.getD i z44).f0=1∨(l.getD i z44).f0=2∨(l.getD i z44).f0=13):
    impl_grower_row.l0 (t+2) acc l (i:Int)=impl_grower_row.l0 t (acc++ [⟨(l.getD i z44).f0,(l.getD i z44).f1,[],[]⟩]) l ((i+1:Nat):Int):=by
  rw [impl_grower_row.l0,if_pos (by omega),if_pos (by omega),rd44_nat]
  have e:wrap64 ((i:Int)+1)=((i+1:Nat):Int):=by rw [w64 (by omega)];omega
  rcases ha with ha|ha|ha<;>rw [ha]<;>(repeat first|rw [if_neg (by decide)]|rw [if_pos rfl])<;>rw [impl_grower_row.j1,if_pos (by decide),if_pos (by omega),e]
omit h60 hacc in
theorem spec_close (ha:closer (l.getD i z44).f0):spec_l09Parse.l0 (t+2) l acc (i:Int)=some (acc,(i:Int)):=by
  rw [spec_l09Parse.l0,if_pos (by omega),if_pos (by omega),rd44_nat]
  generalize (l.getD i z44).f0=a at ha
  rcases ha with rfl|rfl|rfl|rfl|rfl|rfl|rfl<;>(repeat rw [if_neg (by decide)])<;>rw [spec_l09Parse.j1]<;>(repeat rw [if_neg (by decide)])
omit h60 hacc in
theorem impl_close (ha:closer (l.getD i z44).f0):impl_grower_row.l0 (t+2) acc l (i:Int)=some (acc,(i:Int)):=by
  rw [impl_grower_row.l0,if_pos (by omega),if_pos (by omega),rd44_nat]
  generalize (l.getD i z44).f0=a at ha
  rcases ha with rfl|rfl|rfl|rfl|rfl|rfl|rfl<;>(repeat rw [if_neg (by decide)])<;>rw [impl_grower_row.j1]<;>(repeat rw [if_neg (by decide)])
theorem spec_one {a b:Int} (hj:j<l.length) (ha:(l.getD i z44).f0=a) (hb:(l.getD j z44).f0=b) (hab:(a=3∧b=5)∨(a=6∧b=7)∨(a=10∧b=11)∨(a=10∧b=12))
    (hA:spec_l09Parse.l0 t l [] ((i+1:Nat):Int)=some (A,(j:Int))):
    spec_l09Parse.l0 (t+3) l acc (i:Int)=spec_l09Parse.l0 (t+1) l (acc++ [⟨(nodeOf a b).1,(nodeOf a b).2,A,[]⟩]) ((j+1:Nat):Int):=by
  rw [spec_l09Parse.l0,if_pos (by omega),if_pos (by omega),rd44_nat,ha]
  have e:wrap64 ((i:Int)+1)=((i+1:Nat):Int):=by rw [w64 (by omega)];omega
  have e2:wrap64 ((j:Int)+1)=((j+1:Nat):Int):=by rw [w64 (by omega)];omega
  have hf:spec_l09Parse.f (t+1) l ((i+1:Nat):Int)=some (A,(j:Int)):=hA
  rcases hab with ⟨rfl,rfl⟩|⟨rfl,rfl⟩|⟨rfl,rfl⟩|⟨rfl,rfl⟩<;>(repeat rw [if_neg (by decide)])<;>rw [spec_l09Parse.j1]<;>(repeat first|rw [if_neg (by decide)]|rw [if_pos rfl])<;>
    rw [e,hf,Option.bind_some]<;>dsimp only<;>rw [if_pos (by omega),if_pos (by omega),rd44_nat,hb]<;>(repeat rw [if_neg (by decide)])<;>rw [if_pos (by omega),e2]<;>rfl
theorem spec_two {a b:Int} (hj:j<l.length) (hj2:j2<l.length) (ha:(l.getD i z44).f0=a) (hb:(l.getD j z44).f0=b) (hab:(a=3∧b=4)∨(a=6∧b=8))
    (hA:spec_l09Parse.l0 t l [] ((i+1:Nat):Int)=some (A,(j:Int))) (hB:spec_l09Parse.l0 t l [] ((j+1:Nat):Int)=some (B,(j2:Int))):
    spec_l09Parse.l0 (t+3) l acc (i:Int)=spec_l09Parse.l0 (t+1) l (acc++ [⟨(nodeOf a b).1,(nodeOf a b).2,A,B⟩]) ((j2+1:Nat):Int):=by
  rw [spec_l09Parse.l0,if_pos (by omega),if_pos (by omega),rd44_nat,ha]
  have e:wrap64 ((i:Int)+1)=((i+1:Nat):Int):=by rw [w64 (by omega)];omega
  have e2:wrap64 ((j:Int)+1)=((j+1:Nat):Int):=by rw [w64 (by omega)];omega
  have e3:wrap64 ((j2:Int)+1)=((j2+1:Nat):Int):=by rw [w64 (by omega)];omega
  have hf:spec_l09Parse.f (t+1) l ((i+1:Nat):Int)=some (A,(j:Int)):=hA
  have hg:spec_l09Parse.f (t+1) l ((j+1:Nat):Int)=some (B,(j2:Int)):=hB
  rcases hab with ⟨rfl,rfl⟩|⟨rfl,rfl⟩<;>(repeat rw [if_neg (by decide)])<;>rw [spec_l09Parse.j1]<;>(repeat first|rw [if_neg (by decide)]|rw [if_pos rfl])<;>
    rw [e,hf,Option.bind_some]<;>dsimp only<;>rw [if_pos (by omega),if_pos (by omega),rd44_nat,hb,if_pos rfl,e2,hg,Option.bind_some]<;>dsimp only<;>rw [if_pos (by omega),e3]<;>rfl
theorem impl_one {a b:Int} (hj:j<l.length) (ha:(l.getD i z44).f0=a) (hb:(l.getD j z44).f0=b) (hab:(a=3∧b=5)∨(a=6∧b=7)∨(a=10∧b=11)∨(a=10∧b=12))
    (hA:impl_grower_row.l0 (t+1) [] l ((i+1:Nat):Int)=some (A,(j:Int))):
    impl_grower_row.l0 (t+5) acc l (i:Int)=impl_grower_row.l0 (t+3) (acc++ [⟨(nodeOf a b).1,(nodeOf a b).2,A,[]⟩]) l ((j+1:Nat):Int):=by
  rw [impl_grower_row.l0,if_pos (by omega),if_pos (by omega),rd44_nat,ha]
  have e:wrap64 ((i:Int)+1)=((i+1:Nat):Int):=by rw [w64 (by omega)];omega
  have e2:wrap64 ((j:Int)+1)=((j+1:Nat):Int):=by rw [w64 (by omega)];omega
  have hf:impl_grower_row.f (t+2) l ((i+1:Nat):Int)=some (A,(j:Int)):=hA
  have hs:impl_grower_structure.f (t+3) l ((i+1:Nat):Int) a=some ((nodeOf a b).1,(nodeOf a b).2,A,[],((j+1:Nat):Int)):=by
    rw [impl_grower_structure.f,hf,Option.bind_some]
    dsimp only
    rw [if_pos (by omega),if_pos (by omega),rd44_nat,hb,e2]
    rcases hab with ⟨rfl,rfl⟩|⟨rfl,rfl⟩|⟨rfl,rfl⟩|⟨rfl,rfl⟩<;>rfl
  rcases hab with ⟨rfl,rfl⟩|⟨rfl,rfl⟩|⟨rfl,rfl⟩|⟨rfl,rfl⟩<;>(repeat rw [if_neg (by decide)])<;>rw [impl_grower_row.j1]<;>(repeat first|rw [if_neg (by decide)]|rw [if_pos rfl])<;>
    rw [e,hs,Option.bind_some]<;>dsimp only<;>rw [if_pos (by omega)]
theorem impl_two {a b:Int} (hj:j<l.length) (hj2:j2<l.length) (ha:(l.getD i z44).f0=a) (hb:(l.getD j z44).f0=b) (hab:(a=3∧b=4)∨(a=6∧b=8))
    (hA:impl_grower_row.l0 (t+1) [] l ((i+1:Nat):Int)=some (A,(j:Int))) (hB:impl_grower_row.l0 t [] l ((j+1:Nat):Int)=some (B,(j2:Int))):
    impl_grower_row.l0 (t+5) acc l (i:Int)=impl_grower_row.l0 (t+3) (acc++ [⟨(nodeOf a b).1,(nodeOf a b).2,A,B⟩]) l ((j2+1:Nat):Int):=by
  have q1:(0:Int)≤(j:Int):=by omega
  have q2:(j:Int)<(l.length:Int):=by omega
  rw [impl_grower_row.l0,if_pos (by omega),if_pos (by omega),rd44_nat,ha]
  have e:wrap64 ((i:Int)+1)=((i+1:Nat):Int):=by rw [w64 (by omega)];omega
  have e2:wrap64 ((j:Int)+1)=((j+1:Nat):Int):=by rw [w64 (by omega)];omega
  have e3:wrap64 ((j2:Int)+1)=((j2+1:Nat):Int):=by rw [w64 (by omega)];omega
  have hf:impl_grower_row.f (t+2) l ((i+1:Nat):Int)=some (A,(j:Int)):=hA
  have hg:impl_grower_row.f (t+1) l ((j+1:Nat):Int)=some (B,(j2:Int)):=hB
  have hs:impl_grower_structure.f (t+3) l ((i+1:Nat):Int) a=some ((nodeOf a b).1,(nodeOf a b).2,A,B,((j2+1:Nat):Int)):=by
    rw [impl_grower_structure.f,hf,Option.bind_some]
    dsimp only
    rw [if_pos q1,if_pos q2,rd44_nat,hb,e2]
    rcases hab with ⟨rfl,rfl⟩|⟨rfl,rfl⟩<;>(repeat first|rw [if_neg (by decide)]|rw [if_pos rfl])<;>rw [impl_grower_structure.j0]<;>(repeat first|rw [if_neg (by decide)]|rw [if_pos rfl])<;>rw [hg,Option.bind_some]<;>dsimp only<;>rw [e3]<;>rfl
  rcases hab with ⟨rfl,rfl⟩|⟨rfl,rfl⟩<;>(repeat rw [if_neg (by decide)])<;>rw [impl_grower_row.j1]<;>(repeat first|rw [if_neg (by decide)]|rw [if_pos rfl])<;>
    rw [e,hs,Option.bind_some]<;>dsimp only<;>rw [if_pos (by omega)]
end
/-- From i on both read the row N and stop at j. -/
def Row (l:List S44) (i j:Nat) (N:List S53):Prop:= ∀(acc:List S53) (k:Nat),6*(l.length - i)+6≤k→acc.length+(l.length - i)≤100→
  spec_l09Parse.l0 k l acc (i:Int)=some (acc++N,(j:Int))∧impl_grower_row.l0 k acc l (i:Int)=some (acc++N,(j:Int))
theorem row_one {l:List S44} (h60:l.length≤60) {i j j3:Nat} {A N:List S53} (hi:i<l.length) (hij:i<j) (hj:j<l.length) {a b:Int} (ha:(l.getD i z44).f0=a) (hb:(l.getD j z44).f0=b)
    (hab:(a=3∧b=5)∨(a=6∧b=7)∨(a=10∧b=11)∨(a=10∧b=12)) (hA:Row l (i+1) j A) (hN:Row l (j+1) j3 N):Row l i j3 (⟨(nodeOf a b).1,(nodeOf a b).2,A,[]⟩::N):=by
  intro acc k hk hacc
  obtain⟨t,rfl⟩: ∃t,k=t+5:=⟨k - 5,by omega⟩
  constructor
  · have h1:=(hA [] (t+2) (by omega) (by simp;omega)).1
    rw [spec_one h60 hi (by omega) hj ha hb hab h1,(hN _ (t+3) (by omega) (by simp;omega)).1]
    simp
  · have h1:=(hA [] (t+1) (by omega) (by simp;omega)).2
    rw [impl_one h60 hi (by omega) hj ha hb hab h1,(hN _ (t+3) (by omega) (by simp;omega)).2]
    simp
theorem row_two {l:List S44} (h60:l.length≤60) {i j j2 j3:Nat} {A B N:List S53} (hi:i<l.length) (hij:i<j) (hj:j<l.length) (hjj:j<j2) (hj2:j2<l.length) {a b:Int} (ha:(l.getD i z44).f0=a) (hb:(l.getD j z44).f0=b)
    (hab:(a=3∧b=4)∨(a=6∧b=8)) (hA:Row l (i+1) j A) (hB:Row l (j+1) j2 B) (hN:Row l (j2+1) j3 N):Row l i j3 (⟨(nodeOf a b).1,(nodeOf a b).2,A,B⟩::N):=by
  intro acc k hk hacc
  obtain⟨t,rfl⟩: ∃t,k=t+5:=⟨k - 5,by omega⟩
  constructor
  · have h1:=(hA [] (t+2) (by omega) (by simp;omega)).1
    have h2:=(hB [] (t+2) (by omega) (by simp;omega)).1
    rw [spec_two h60 hi (by omega) hj hj2 ha hb hab h1 h2,(hN _ (t+3) (by omega) (by simp;omega)).1]
    simp
  · have h1:=(hA [] (t+1) (by omega) (by simp;omega)).2
    have h2:=(hB [] t (by omega) (by simp;omega)).2
    rw [impl_two h60 hi (by omega) hj hj2 ha hb hab h1 h2,(hN _ (t+3) (by omega) (by simp;omega)).2]
    simp
theorem rows (l:List S44) (h60:l.length≤60) (hv: ∀i,i<l.length→kinds (l.getD i z44).f0): ∀m i o,i+m=l.length→Good l i o→
    ∃N j c,Row l i j N∧Cnt N c∧i+c≤j∧j≤l.length∧Good l j o∧(j<l.length→closer (l.getD j z44).f0)∧Parsed l i j N o.length:=by
  intro m
  induction m using Nat.strongRecOn with
  |_ m ih=>
    intro i o him hg
    rcases Nat.eq_zero_or_pos m with h0|h0
    · refine⟨[],i,0,fun acc k hk _=> ?_,.nil,by omega,by omega,hg,fun h=>by omega,.nil _ _⟩
      obtain⟨t,rfl⟩: ∃t,k=t+1:=⟨k - 1,by omega⟩
      rw [spec_l09Parse.l0,if_neg (by omega),impl_grower_row.l0,if_neg (by omega),List.append_nil,show l.length=i by omega]
      exact⟨rfl,rfl⟩
    have hi:i<l.length:=by omega
    obtain⟨q,hs,hq⟩:=good_step hi hg
    have hk:=hv i hi
    by_cases cc:closer (l.getD i z44).f0
    · refine⟨[],i,0,fun acc k hk _=> ?_,.nil,by omega,by omega,hg,fun _=>cc,.nil _ _⟩
      obtain⟨t,rfl⟩: ∃t,k=t+2:=⟨k - 2,by omega⟩
      rw [spec_close hi cc,impl_close hi cc,List.append_nil]
      exact⟨rfl,rfl⟩
    by_cases cp:(l.getD i z44).f0=1∨(l.getD i z44).f0=2∨(l.getD i z44).f0=13
    · rw [step_plain cp hs]at hq
      obtain⟨N,j,c,hr,hc,h1,h2,h3,h4,h5⟩:=ih (m - 1) (by omega) (i+1) o (by omega) hq
      refine⟨⟨(l.getD i z44).f0,(l.getD i z44).f1,[],[]⟩::N,j,1+0+0+c,fun acc k hk ha=> ?_,.cons _ _ .nil .nil hc,by omega,h2,h3,h4,.plain hi cp h5⟩
      obtain⟨t,rfl⟩: ∃t,k=t+2:=⟨k - 2,by omega⟩
      rw [spec_plain h60 hi (by omega) cp,impl_plain h60 hi (by omega) cp]
      have:=hr (acc++ [⟨(l.getD i z44).f0,(l.getD i z44).f1,[],[]⟩]) t (by omega) (by simp;omega)
      rw [this.1,this.2]
      simp
    have co:(l.getD i z44).f0=3∨(l.getD i z44).f0=6∨(l.getD i z44).f0=10:=by
      unfold kinds at hk
      unfold closer at cc
      omega
    obtain⟨hqo,hd8⟩:=step_open co hs
    rw [hqo]at hq
    obtain⟨A,j,ca,hA,hcA,a1,a2,a3,a4,a5⟩:=ih (m - 1) (by omega) (i+1) _ (by omega) hq
    have hj:=good_lt a2 a3
    rw [List.length_append,List.length_singleton]at a5
    obtain⟨q2,hs2,hq2⟩:=good_step hj a3
    have hcj:=a4 hj
    have one: ∀a b,(l.getD i z44).f0=a→(l.getD j z44).f0=b→((a=3∧b=5)∨(a=6∧b=7)∨(a=10∧b=11)∨(a=10∧b=12))→q2=o→
        ∃N j c,Row l i j N∧Cnt N c∧i+c≤j∧j≤l.length∧Good l j o∧(j<l.length→closer (l.getD j z44).f0)∧Parsed l i j N o.length:=fun a b ha hb hab e=>by
      rw [e]at hq2
      obtain⟨N,j3,c,hr,hc,h1,h2,h3,h4,h5⟩:=ih (l.length - (j+1)) (by omega) (j+1) o (by omega) hq2
      exact⟨_,j3,1+ca+0+c,row_one h60 hi (by omega) hj ha hb hab hA hr,.cons _ _ hcA .nil hc,by omega,h2,h3,h4,.one hd8 (by omega) hj ha hb hab a5 h5⟩
    have two: ∀a b,(l.getD i z44).f0=a→(l.getD j z44).f0=b→((a=3∧b=4)∨(a=6∧b=8))→q2=o++ [b]→(∀x q,closer x→stepW (o++ [b]) x=some q→q=o∧((a=3∧x=5)∨(a=6∧x=9)))→
        ∃N j c,Row l i j N∧Cnt N c∧i+c≤j∧j≤l.length∧Good l j o∧(j<l.length→closer (l.getD j z44).f0)∧Parsed l i j N o.length:=fun a b ha hb hab e hcl=>by
      rw [e]at hq2
      obtain⟨B,j2,cb,hB,hcB,b1,b2,b3,b4,b5⟩:=ih (l.length - (j+1)) (by omega) (j+1) _ (by omega) hq2
      have hj2:=good_lt b2 b3
      rw [List.length_append,List.length_singleton]at b5
      obtain⟨q3,hs3,hq3⟩:=good_step hj2 b3
      obtain⟨hqq,hend⟩:=hcl _ _ (b4 hj2) hs3
      rw [hqq]at hq3
      obtain⟨N,j3,c,hr,hc,h1,h2,h3,h4,h5⟩:=ih (l.length - (j2+1)) (by omega) (j2+1) o (by omega) hq3
      exact⟨_,j3,1+ca+cb+c,row_two h60 hi (by omega) hj (by omega) hj2 ha hb hab hA hB hr,.cons _ _ hcA hcB hc,by omega,h2,h3,h4,.two hd8 (by omega) (by omega) hj2 ha hb hend hab a5 b5 h5⟩
    rcases co with e|e|e
    · rw [e]at hs2
      rcases step3 hcj hs2 with ⟨h1,h2⟩|⟨h1,h2⟩
      · exact two 3 4 e h1 (.inl ⟨rfl,rfl⟩) h2 (fun _ _ h h'=>⟨(step4 h h').2,.inl ⟨rfl,(step4 h h').1⟩⟩)
      · exact one 3 5 e h1 (.inl ⟨rfl,rfl⟩) h2
    · rw [e]at hs2
      rcases step6 hcj hs2 with ⟨h1,h2⟩|⟨h1,h2⟩
      · exact two 6 8 e h1 (.inr ⟨rfl,rfl⟩) h2 (fun _ _ h h'=>⟨(step8 h h').2,.inr ⟨rfl,(step8 h h').1⟩⟩)
      · exact one 6 7 e h1 (.inr (.inl ⟨rfl,rfl⟩)) h2
    · rw [e]at hs2
      obtain⟨h1|h1,h2⟩:=step10 hcj hs2
      · exact one 10 11 e h1 (.inr (.inr (.inl ⟨rfl,rfl⟩))) h2
      · exact one 10 12 e h1 (.inr (.inr (.inr ⟨rfl,rfl⟩))) h2
theorem cnt_len {N:List S53} {c:Nat} (h:Cnt N c):N.length≤c:=by
  induction h with
  |nil=>simp
  |cons x y _ _ _ _ _ ih=>simp;omega
theorem rd53_nat (l:List S53) (i:Nat):rd_T53 l (i:Int)=l.getD i z53:=by simp [rd_T53]
theorem getD_mid (pre:List S53) (x:S53) (M:List S53):(pre++x::M).getD pre.length z53=x:=by simp
def checkR (l:List S44):Int × Int:=
  if(walkW l l.length 0 []).2= -1 then(if 0<(walkW l l.length 0 []).1.length then((l.length:Int),12)else(0,0))else((walkW l l.length 0 []).2,12)
theorem spec_check_l0 (l:List S44) (hl:l.length≤60): ∀d k (i:Nat) (o:List Int),i+d=l.length→d+3<k→InvO o→
    spec_l07Check.l0 k l o (i:Int)=some (if(walkW l d i o).2= -1 then(if 0<(walkW l d i o).1.length then((l.length:Int),12)else(0,0))else((walkW l d i o).2,12))
  |0,k,i,o,h,hk,_=>by
    obtain⟨k,rfl⟩: ∃m,k=m+1:=⟨k - 1,by omega⟩
    simp only [spec_l07Check.l0]
    rw [if_neg (by omega)]
    unfold walkW
    simp only [if_true]
    by_cases c:0<o.length
    · rw [if_pos (by omega),if_pos c]
    · rw [if_neg (by omega),if_neg c]
  |d+1,k,i,o,h,hk,ho=>by
    obtain⟨k,rfl⟩: ∃m,k=m+1:=⟨k - 1,by omega⟩
    simp only [spec_l07Check.l0]
    have hol:=ho.1
    obtain⟨l',e,hq⟩:=spec_step o (l.getD i z44).f0 (by omega) k (by omega)
    rw [if_pos (by omega),if_pos (by omega),rd44_nat,e,Option.bind_some]
    unfold walkW
    cases hs:stepW o (l.getD i z44).f0 with
    |none=>
      simp only [Option.isSome_none]
      rw [if_neg (by decide),if_neg (by omega)]
    |some q=>
      simp only [Option.isSome_some,if_true]
      rw [hq q hs,w64 (by omega),show (i:Int)+1=((i+1:Nat):Int) by omega]
      exact spec_check_l0 l hl d k (i+1) q (by omega) (by omega) (inv_step ho hs)
theorem checkR_ok {l:List S44} (h:(checkR l).2=0):Good l 0 []:=by
  unfold checkR at h
  unfold Good
  generalize he:walkW l l.length 0 []=q at h
  obtain⟨q1,q2⟩:=q
  simp only at h
  by_cases c:q2= -1
  · rw [if_pos c]at h
    by_cases c1:0<q1.length
    · rw [if_pos c1]at h;exact absurd h (show¬((12:Int)=0) by decide)
    · obtain rfl:=List.length_eq_zero_iff.1 (show q1.length=0 by omega)
      rw [c]
  · rw [if_neg c]at h;exact absurd h (show¬((12:Int)=0) by decide)
theorem checkR_code (l:List S44):(checkR l).2=0∨(checkR l).2=12:=by
  unfold checkR
  repeat' split
  all_goals simp
theorem itemsCode_kinds {l:List S44} (h:itemsCode l=0): ∀i,i<l.length→kinds (l.getD i z44).f0:=by
  unfold itemsCode at h
  by_cases c1:l.length>4096
  · rw [if_pos c1]at h;exact absurd h (by decide)
  · rw [if_neg c1]at h
    by_cases c2:l.length>60
    · rw [if_pos c2]at h;exact absurd h (by decide)
    · rw [if_neg c2]at h
      cases ha:l.all itemOK
      · rw [ha]at h;exact absurd h (by decide)
      · intro i hi
        have hx:=List.all_eq_true.1 ha (l.getD i z44) (by rw [List.getD_eq_getElem?_getD,List.getElem?_eq_getElem hi];exact List.getElem_mem hi)
        unfold itemOK at hx
        unfold kinds
        by_cases k1:(l.getD i z44).f0=1
        · exact .inl k1
        · rw [if_neg k1]at hx
          by_cases k2:(l.getD i z44).f0=2
          · exact .inr (.inl k2)
          · rw [if_neg k2,Bool.and_eq_true,inR_iff]at hx
            exact .inr (.inr hx.1)
/-- The tree and the error of a row of items: one pair for both. -/
theorem both (l:List S44) (hl:l.length≤1048576): ∃N c e,Cnt N c∧c≤60∧ ∀k,1048600<k→spec_TreeOf.f k l=some (N,e)∧impl_TreeOf.f k l=some (N,e):=by
  by_cases c0:itemsCode l=0
  · have h60:=itemsCode_len c0
    have hs: ∀k,1048600<k→spec_l07Check.f k l=some (checkR l):=fun k hk=>by
      rw [spec_l07Check.f,show (0:Int)=((0:Nat):Int)from rfl,spec_check_l0 l h60 l.length k 0 [] (by omega) (by omega) inv_nil]
      rfl
    have hi: ∀k,1048600<k→impl_CheckItems.f k l=some (checkR l):=fun k hk=>by
      unfold impl_CheckItems.f
      rw [impl_itemsCode_eq l hl k (by omega),Option.bind_some,if_pos c0,impl_checkItems.f,openAt_eq l hl k (by omega),Option.bind_some]
      unfold checkR
      have hb:=walkW_bd l l.length 0 []
      generalize walkW l l.length 0 []=q at hb
      obtain⟨q1,q2⟩:=q
      simp only at hb⊢
      by_cases c1:q2= -1
      · rw [if_pos (by omega),if_pos c1]
        by_cases c2:0<q1.length
        · rw [if_pos (by omega),if_pos c2,Option.bind_some,if_pos (by omega)]
        · rw [if_neg (by omega),if_neg c2,Option.bind_some,if_neg (by omega)]
      · rw [if_neg (by omega),if_neg c1,Option.bind_some,if_pos (by omega)]
    by_cases c1:(checkR l).2=0
    · obtain⟨N,j,c,hr,hc,hij,hjn,hg, -, -⟩:=rows l h60 (itemsCode_kinds c0) l.length 0 [] (by omega) (checkR_ok c1)
      refine⟨N,c,0,hc,by omega,fun k hk=>⟨?_,?_⟩⟩
      · obtain⟨k,rfl⟩: ∃m,k=m+1:=⟨k - 1,by omega⟩
        unfold spec_TreeOf.f
        rw [if_neg (by omega),spec_l07Ask_eq l hl _ (by omega),Option.bind_some,if_pos c0,hs _ hk,Option.bind_some,if_pos c1]
        unfold spec_l09Tree.f
        simp only [spec_l09Parse.f]
        rw [show (0:Int)=((0:Nat):Int)from rfl,(hr [] k (by omega) (by simp;omega)).1]
        rfl
      · obtain⟨k,rfl⟩: ∃m,k=m+1:=⟨k - 1,by omega⟩
        unfold impl_TreeOf.f
        rw [hi _ hk,Option.bind_some,if_pos c1]
        simp only [impl_grower_row.f]
        rw [show (0:Int)=((0:Nat):Int)from rfl,(hr [] k (by omega) (by simp;omega)).2]
        rfl
    · refine⟨[],0,(checkR l).2,.nil,by omega,fun k hk=>⟨?_,?_⟩⟩
      · unfold spec_TreeOf.f
        rw [if_neg (by omega),spec_l07Ask_eq l hl _ (by omega),Option.bind_some,if_pos c0,hs _ hk,Option.bind_some,if_neg c1]
      · unfold impl_TreeOf.f
        rw [hi _ hk,Option.bind_some,if_neg c1]
  · refine⟨[],0,itemsCode l,.nil,by omega,fun k hk=>⟨?_,?_⟩⟩
    · unfold spec_TreeOf.f
      by_cases c1:(l.length:Int)>4096
      · have e:itemsCode l=2:=by unfold itemsCode;rw [if_pos (by omega)]
        rw [if_pos c1,e]
      · rw [if_neg c1,spec_l07Ask_eq l hl _ (by omega),Option.bind_some,if_neg c0]
    · unfold impl_TreeOf.f impl_CheckItems.f
      rw [impl_itemsCode_eq l hl k (by omega),Option.bind_some,if_neg c0,Option.bind_some,if_neg c0]
theorem take_snoc44 {l:List S44} {i:Nat} (hi:i<l.length) {x:S44} (hx:l.getD i z44=x):l.take i++ [x]=l.take (i+1):=by
  rw [List.take_succ_eq_append_getElem hi,←hx,List.getD_eq_getElem?_getD,List.getElem?_eq_getElem hi]
  rfl
theorem item_zero {l:List S44} (hv:l.all itemOK=true) {i:Nat} (hi:i<l.length) {a:Int} (ha:(l.getD i z44).f0=a) (h3:3≤a):l.getD i z44=⟨a,0⟩:=by
  have hx:=List.all_eq_true.1 hv (l.getD i z44) (by rw [List.getD_eq_getElem?_getD,List.getElem?_eq_getElem hi];exact List.getElem_mem hi)
  unfold itemOK at hx
  generalize l.getD i z44=x at ha hx
  obtain⟨x0,x1⟩:=x
  simp only at ha hx
  subst ha
  rw [if_neg (by omega),if_neg (by omega),Bool.and_eq_true,beq_iff_eq]at hx
  rw [hx.2]
theorem item_ok {l:List S44} (hv:l.all itemOK=true) {i:Nat} (hi:i<l.length):itemOK (l.getD i z44)=true:=
  List.all_eq_true.1 hv (l.getD i z44) (by rw [List.getD_eq_getElem?_getD,List.getElem?_eq_getElem hi];exact List.getElem_mem hi)
theorem take_len {l:List S44} {i:Nat} (hi:i≤l.length):(l.take i).length=i:=by rw [List.length_take];omega
/-- A node without rows. -/
theorem node_plain {l:List S44} (h60:l.length≤60) (hv:l.all itemOK=true) {i:Nat} (hi:i<l.length) (ha:(l.getD i z44).f0=1∨(l.getD i z44).f0=2∨(l.getD i z44).f0=13) (d:Int) (k:Nat) (hk:2≤k):
    impl_Node_flatten.f k (l.getD i z44).f0 (l.getD i z44).f1 [] [] (l.take i) d=some (l.take (i+1),true):=by
  obtain⟨k,rfl⟩: ∃m,k=m+2:=⟨k - 2,by omega⟩
  have hl:=take_len (l:=l) (i:=i) (by omega)
  have e:impl_Node_flatten.f (k+2) (l.getD i z44).f0 (l.getD i z44).f1 [] [] (l.take i) d=impl_Node_flatten.j0 (k+1) (l.take i) d 0 (l.getD i z44).f0 true (l.getD i z44).f0 (l.getD i z44).f1 [] []:=by
    rw [impl_Node_flatten.f]
    rcases ha with ha|ha|ha<;>rw [ha]<;>(repeat first|rw [if_neg (by decide)]|rw [if_pos rfl])<;>rfl
  rw [e,impl_Node_flatten.j0,if_pos rfl,if_pos (by omega),Option.bind_some,impl_ItemOK_eq,Option.bind_some]
  have h:=item_ok hv hi
  rw [show (⟨(l.getD i z44).f0,(l.getD i z44).f1⟩:S44)=l.getD i z44 from rfl,if_pos h,take_snoc44 hi rfl]
  rfl
theorem node_one {l:List S44} (h60:l.length≤60) (hv:l.all itemOK=true) {i j:Nat} (hi:i<l.length) (hj:j<l.length) (hij:i<j) {A:List S53} {a b:Int} (ha:(l.getD i z44).f0=a) (hb:(l.getD j z44).f0=b)
    (hab:(a=3∧b=5)∨(a=6∧b=7)∨(a=10∧b=11)∨(a=10∧b=12)) (d:Int) (hd:0≤d∧d≤100) (k:Nat)
    (hA:impl_flatten.f k (l.take (i+1)) A (d+1)=some (l.take j,true)):impl_Node_flatten.f (k+4) (nodeOf a b).1 (nodeOf a b).2 A [] (l.take i) d=some (l.take (j+1),true):=by
  have hl:=take_len (l:=l) (i:=i) (by omega)
  have hl2:=take_len (l:=l) (i:=j) (by omega)
  have hx:=item_zero hv hi ha (by omega)
  have hy:=item_zero hv hj hb (by omega)
  have w1:wrap64 (d+1)=d+1:=w64 (by omega)
  have e1:l.take i++ [(⟨a,0⟩:S44)]=l.take (i+1):=take_snoc44 hi hx
  have e2:l.take j++ [(⟨b,0⟩:S44)]=l.take (j+1):=take_snoc44 hj hy
  have tail: ∀(x y:Int) (B:List S53),impl_Node_flatten.j2 (k+1) (l.take i) d a 0 b false x y A B=some (l.take (j+1),true):=fun x y B=>by
    rw [impl_Node_flatten.j2,if_neg (by decide),if_pos (by omega),e1,w1,hA,Option.bind_some]
    dsimp only
    rw [if_pos rfl,if_neg (by decide),if_pos (by omega),e2]
  have mid: ∀(x:Int),impl_Node_flatten.j1 (k+2) (l.take i) d a 0 b x 0 A []=some (l.take (j+1),true):=fun x=>by
    rw [impl_Node_flatten.j1,if_pos rfl,if_pos rfl]
    exact tail x 0 []
  rcases hab with ⟨rfl,rfl⟩|⟨rfl,rfl⟩|⟨rfl,rfl⟩|⟨rfl,rfl⟩
  · show impl_Node_flatten.f (k+4) 3 0 A [] (l.take i) d=_
    rw [impl_Node_flatten.f]
    repeat first|rw [if_neg (by decide)]|rw [if_pos rfl]
    rw [impl_Node_flatten.j0]
    repeat first|rw [if_neg (by decide)]|rw [if_pos rfl]
    exact mid 3
  · show impl_Node_flatten.f (k+4) 7 0 A [] (l.take i) d=_
    rw [impl_Node_flatten.f]
    repeat first|rw [if_neg (by decide)]|rw [if_pos rfl]
    rw [impl_Node_flatten.j0]
    repeat first|rw [if_neg (by decide)]|rw [if_pos rfl]
    exact mid 7
  · show impl_Node_flatten.f (k+4) 11 0 A [] (l.take i) d=_
    rw [impl_Node_flatten.f]
    repeat first|rw [if_neg (by decide)]|rw [if_pos rfl]
    rw [impl_Node_flatten.j0]
    repeat first|rw [if_neg (by decide)]|rw [if_pos rfl]
    exact mid 11
  · show impl_Node_flatten.f (k+4) 12 0 A [] (l.take i) d=_
    rw [impl_Node_flatten.f]
    repeat first|rw [if_neg (by decide)]|rw [if_pos rfl]
    rw [impl_Node_flatten.j0]
    repeat first|rw [if_neg (by decide)]|rw [if_pos rfl]
    exact mid 12
theorem node_two {l:List S44} (h60:l.length≤60) (hv:l.all itemOK=true) {i j j2:Nat} (hi:i<l.length) (hj2:j2<l.length) (hij:i<j) (hjj:j<j2) {A B:List S53} {a b c:Int} (ha:(l.getD i z44).f0=a) (hb:(l.getD j z44).f0=b) (hc:(l.getD j2 z44).f0=c)
    (hab:(a=3∧b=4∧c=5)∨(a=6∧b=8∧c=9)) (d:Int) (hd:0≤d∧d≤100) (k:Nat)
    (hA:impl_flatten.f k (l.take (i+1)) A (d+1)=some (l.take j,true)) (hB:impl_flatten.f k (l.take (j+1)) B (d+1)=some (l.take j2,true)):
    impl_Node_flatten.f (k+4) (nodeOf a b).1 (nodeOf a b).2 A B (l.take i) d=some (l.take (j2+1),true):=by
  have hl:=take_len (l:=l) (i:=i) (by omega)
  have hl2:=take_len (l:=l) (i:=j) (by omega)
  have hl3:=take_len (l:=l) (i:=j2) (by omega)
  have hx:=item_zero hv hi ha (by omega)
  have hy:=item_zero hv (show j<l.length by omega) hb (by omega)
  have hz:=item_zero hv hj2 hc (by omega)
  have w1:wrap64 (d+1)=d+1:=w64 (by omega)
  have e1:l.take i++ [(⟨a,0⟩:S44)]=l.take (i+1):=take_snoc44 hi hx
  have e2:l.take j++ [(⟨b,0⟩:S44)]=l.take (j+1):=take_snoc44 (by omega) hy
  have e3:l.take j2++ [(⟨c,0⟩:S44)]=l.take (j2+1):=take_snoc44 hj2 hz
  have tail: ∀(x y:Int),0<b→impl_Node_flatten.j2 (k+1) (l.take i) d a b c false x y A B=some (l.take (j2+1),true):=fun x y hb0=>by
    rw [impl_Node_flatten.j2,if_neg (by decide),if_pos (by omega),e1,w1,hA,Option.bind_some]
    dsimp only
    rw [if_pos rfl,if_pos (by omega),if_pos (by omega),e2,hB,Option.bind_some]
    dsimp only
    rw [if_pos (by omega),e3]
  rcases hab with ⟨rfl,rfl,rfl⟩|⟨rfl,rfl,rfl⟩
  · show impl_Node_flatten.f (k+4) 3 1 A B (l.take i) d=_
    rw [impl_Node_flatten.f]
    repeat first|rw [if_neg (by decide)]|rw [if_pos rfl]
    rw [impl_Node_flatten.j0]
    repeat first|rw [if_neg (by decide)]|rw [if_pos rfl]
    rw [impl_Node_flatten.j1]
    repeat first|rw [if_neg (by decide)]|rw [if_pos rfl]
    exact tail 3 1 (by decide)
  · show impl_Node_flatten.f (k+4) 8 0 A B (l.take i) d=_
    rw [impl_Node_flatten.f]
    repeat first|rw [if_neg (by decide)]|rw [if_pos rfl]
    rw [impl_Node_flatten.j0]
    repeat first|rw [if_neg (by decide)]|rw [if_pos rfl]
    rw [impl_Node_flatten.j1]
    repeat first|rw [if_neg (by decide)]|rw [if_pos rfl]
    exact tail 8 0 (by decide)
theorem parsed_le {l:List S44} {i j dd:Nat} {N:List S53} (h:Parsed l i j N dd):i+N.length≤j:=by
  induction h with
  |nil=>simp
  |plain _ _ _ ih=>simp;omega
  |one _ _ _ _ _ _ _ _ ih1 ih2=>simp;omega
  |two _ _ _ _ _ _ _ _ _ _ _ ih1 ih2 ih3=>simp;omega
theorem parsed_top {l:List S44} {i j dd:Nat} {N:List S53} (h:Parsed l i j N dd) (hi:i≤l.length):j≤l.length:=by
  induction h with
  |nil=>exact hi
  |plain hi _ _ ih=>exact ih (by omega)
  |one _ _ hj _ _ _ _ _ ih1 ih2=>exact ih2 (by omega)
  |two _ _ _ hj2 _ _ _ _ _ _ _ ih1 ih2 ih3=>exact ih3 (by omega)
theorem flat_l0 {l:List S44} (h60:l.length≤60) (hv:l.all itemOK=true) {i j dd:Nat} {N:List S53} (h:Parsed l i j N dd): ∀(pre:List S53) (k:Nat),i≤l.length→pre.length≤i→8*(j - i)+8≤k→dd≤8→
    impl_flatten.l0 k (l.take i) ((dd:Int)+1) (pre++N) ((pre++N).length:Int) (pre.length:Int)=some (l.take j,true):=by
  induction h with
  |nil i dd=>
    intro pre k hi hp hk hd
    obtain⟨k,rfl⟩: ∃m,k=m+1:=⟨k - 1,by omega⟩
    rw [impl_flatten.l0,if_neg (by simp)]
  | @plain i j dd N hi ha hN ih=>
    intro pre k _ hp hk hd
    have hle:=parsed_le hN
    have htop:=parsed_top hN (by omega)
    obtain⟨k,rfl⟩: ∃m,k=m+1:=⟨k - 1,by omega⟩
    have hl:(pre++(⟨(l.getD i z44).f0,(l.getD i z44).f1,[],[]⟩:S53)::N).length=pre.length+1+N.length:=by simp;omega
    have hl2:=take_len (l:=l) (i:=i+1) (by omega)
    rw [impl_flatten.l0,if_pos (by omega),if_pos (by omega),if_pos (by omega),rd53_nat,getD_mid]
    dsimp only
    rw [node_plain h60 hv hi ha _ k (by omega),Option.bind_some]
    dsimp only
    rw [if_pos rfl,if_neg (by omega),w64 (by omega)]
    have:=ih (pre++ [⟨(l.getD i z44).f0,(l.getD i z44).f1,[],[]⟩]) k (by omega) (by simp;omega) (by omega) hd
    rw [List.append_assoc]at this
    rw [show (pre.length:Int)+1=((pre++ [(⟨(l.getD i z44).f0,(l.getD i z44).f1,[],[]⟩:S53)]).length:Int) by simp]
    exact this
  | @one i j j3 dd A N a b hd8 hij hj ha hb hab hA hN ihA ihN=>
    intro pre k _ hp hk hd
    have hleA:=parsed_le hA
    have hle:=parsed_le hN
    have htop:=parsed_top hN (by omega)
    obtain⟨k,rfl⟩: ∃m,k=m+6:=⟨k - 6,by omega⟩
    have hl:(pre++(⟨(nodeOf a b).1,(nodeOf a b).2,A,[]⟩:S53)::N).length=pre.length+1+N.length:=by simp;omega
    have hl2:=take_len (l:=l) (i:=j+1) (by omega)
    have fA:impl_flatten.f (k+1) (l.take (i+1)) A ((dd:Int)+1+1)=some (l.take j,true):=by
      rw [impl_flatten.f,if_neg (by omega)]
      exact ihA [] k (by omega) (by simp) (by omega) (by omega)
    rw [impl_flatten.l0,if_pos (by omega),if_pos (by omega),if_pos (by omega),rd53_nat,getD_mid]
    dsimp only
    rw [node_one h60 hv (by omega) hj hij ha hb hab _ (by omega) (k+1) fA,Option.bind_some]
    dsimp only
    rw [if_pos rfl,if_neg (by omega),w64 (by omega)]
    have:=ihN (pre++ [⟨(nodeOf a b).1,(nodeOf a b).2,A,[]⟩]) (k+5) (by omega) (by simp;omega) (by omega) hd
    rw [List.append_assoc]at this
    rw [show (pre.length:Int)+1=((pre++ [(⟨(nodeOf a b).1,(nodeOf a b).2,A,[]⟩:S53)]).length:Int) by simp]
    exact this
  | @two i j j2 j3 dd A B N a b hd8 hij hjj hj2 ha hb hc hab hA hB hN ihA ihB ihN=>
    intro pre k _ hp hk hd
    have hleA:=parsed_le hA
    have hleB:=parsed_le hB
    have hle:=parsed_le hN
    have htop:=parsed_top hN (by omega)
    obtain⟨k,rfl⟩: ∃m,k=m+6:=⟨k - 6,by omega⟩
    have hl:(pre++(⟨(nodeOf a b).1,(nodeOf a b).2,A,B⟩:S53)::N).length=pre.length+1+N.length:=by simp;omega
    have hl2:=take_len (l:=l) (i:=j2+1) (by omega)
    have fA:impl_flatten.f (k+1) (l.take (i+1)) A ((dd:Int)+1+1)=some (l.take j,true):=by
      rw [impl_flatten.f,if_neg (by omega)]
      exact ihA [] k (by omega) (by simp) (by omega) (by omega)
    have fB:impl_flatten.f (k+1) (l.take (j+1)) B ((dd:Int)+1+1)=some (l.take j2,true):=by
      rw [impl_flatten.f,if_neg (by omega)]
      exact ihB [] k (by omega) (by simp) (by omega) (by omega)
    rw [impl_flatten.l0,if_pos (by omega),if_pos (by omega),if_pos (by omega),rd53_nat,getD_mid]
    dsimp only
    rw [node_two h60 hv (by omega) hj2 hij hjj ha hb rfl (by omega) _ (by omega) (k+1) fA fB,Option.bind_some]
    dsimp only
    rw [if_pos rfl,if_neg (by omega),w64 (by omega)]
    have:=ihN (pre++ [⟨(nodeOf a b).1,(nodeOf a b).2,A,B⟩]) (k+5) (by omega) (by simp;omega) (by omega) hd
    rw [List.append_assoc]at this
    rw [show (pre.length:Int)+1=((pre++ [(⟨(nodeOf a b).1,(nodeOf a b).2,A,B⟩:S53)]).length:Int) by simp]
    exact this
theorem closer_out {a:Int} (h:closer a):stepW [] a=none:=by
  rcases h with rfl|rfl|rfl|rfl|rfl|rfl|rfl<;>rfl
/-- Items that fit have a tree, which spells them. -/
theorem tree_ok (l:List S44) (c0:itemsCode l=0) (hg:Good l 0 []): ∃N,Parsed l 0 l.length N 0∧ ∀k,1048600<k→spec_TreeOf.f k l=some (N,0)∧impl_TreeOf.f k l=some (N,0):=by
  have h60:=itemsCode_len c0
  have hl:l.length≤1048576:=by omega
  have hck:checkR l=(0,0):=by
    unfold checkR
    unfold Good at hg
    rw [Nat.sub_zero]at hg
    rw [hg,if_pos rfl,if_neg (by simp)]
  obtain⟨N,j,c,hr,hc,hij,hjn,hgj,hcl,hp⟩:=rows l h60 (itemsCode_kinds c0) l.length 0 [] (by omega) hg
  have hj:j=l.length:=by
    rcases Nat.lt_or_ge j l.length with h1|h1
    · obtain⟨q,hq, -⟩:=good_step h1 hgj
      rw [closer_out (hcl h1)]at hq
      cases hq
    · omega
  subst hj
  refine⟨N,hp,fun k hk=>⟨?_,?_⟩⟩
  · have hs:spec_l07Check.f k l=some (checkR l):=by
      rw [spec_l07Check.f,show (0:Int)=((0:Nat):Int)from rfl,spec_check_l0 l h60 l.length k 0 [] (by omega) (by omega) inv_nil]
      rfl
    obtain⟨k,rfl⟩: ∃m,k=m+1:=⟨k - 1,by omega⟩
    unfold spec_TreeOf.f
    rw [if_neg (by omega),spec_l07Ask_eq l hl _ (by omega),Option.bind_some,if_pos c0,hs,hck,Option.bind_some,if_pos rfl]
    unfold spec_l09Tree.f
    simp only [spec_l09Parse.f]
    rw [show (0:Int)=((0:Nat):Int)from rfl,(hr [] k (by omega) (by simp;omega)).1]
    rfl
  · have hi:impl_CheckItems.f k l=some (0,0):=by
      unfold Good at hg
      rw [Nat.sub_zero]at hg
      unfold impl_CheckItems.f
      rw [impl_itemsCode_eq l hl k (by omega),Option.bind_some,if_pos c0,impl_checkItems.f,openAt_eq l hl k (by omega),Option.bind_some,hg]
      rfl
    obtain⟨k,rfl⟩: ∃m,k=m+1:=⟨k - 1,by omega⟩
    unfold impl_TreeOf.f
    rw [hi,Option.bind_some,if_pos rfl]
    simp only [impl_grower_row.f]
    rw [show (0:Int)=((0:Nat):Int)from rfl,(hr [] k (by omega) (by simp;omega)).2]
    rfl
theorem isLong_node (l:List S53) (k:Nat) (hk:2<k):impl_isLong_Node.f k [l]=some (decide ((l.length:Int)>4096)):=by
  obtain⟨k,rfl⟩: ∃m,k=m+2:=⟨k - 2,by omega⟩
  simp only [impl_isLong_Node.f,slices_ContainsFunc_Node_at_impl_isLong_Node_1.f,slices_IndexFunc_Node_at_impl_isLong_Node_1.f,slices_IndexFunc_Node_at_impl_isLong_Node_1.l0,impl_isLong_Node_1.f,rd_L5]
  by_cases h:(l.length:Int)>4096<;>simp [h,wrap64]
theorem itemsCode_all {l:List S44} (h:itemsCode l=0):l.all itemOK=true:=by
  unfold itemsCode at h
  by_cases c1:l.length>4096
  · rw [if_pos c1]at h;exact absurd h (by decide)
  · rw [if_neg c1]at h
    by_cases c2:l.length>60
    · rw [if_pos c2]at h;exact absurd h (by decide)
    · rw [if_neg c2]at h
      cases ha:l.all itemOK
      · rw [ha]at h;exact absurd h (by decide)
      · rfl
theorem itemsOf_ok (l:List S44) (c0:itemsCode l=0) {N:List S53} (hp:Parsed l 0 l.length N 0) (k:Nat) (hk:1000<k):impl_ItemsOf.f k N=some (l,0):=by
  have h60:=itemsCode_len c0
  have hle:=parsed_le hp
  obtain⟨k,rfl⟩: ∃m,k=m+1:=⟨k - 1,by omega⟩
  unfold impl_ItemsOf.f
  rw [isLong_node N _ (by omega),Option.bind_some,if_neg (by simp;omega),if_neg (by omega),impl_flatten.f,if_neg (by decide)]
  have h:=flat_l0 h60 (itemsCode_all c0) hp [] k (by omega) (by simp) (by omega) (by omega)
  rw [List.take_length,List.take_zero,List.nil_append,List.length_nil]at h
  have h':impl_flatten.l0 k [] 1 N (N.length:Int) 0=some (l,true):=h
  rw [h',Option.bind_some]
  rfl
theorem equal_refl (a:List S44) (ha:a.length≤1048576) (k:Nat) (hk:a.length<k):slices_Equal_Item.f k a a=some true:=by
  unfold slices_Equal_Item.f
  rw [if_pos rfl]
  have hl:=loop_all0 (fun k i=>slices_Equal_Item.l0 k a a (a.length:Int) i) a.length (fun _=>true) true (fun k i hi=>by
    simp only [slices_Equal_Item.l0]
    rw [if_pos (by omega),if_pos (by omega),if_pos (by omega),if_pos (by omega),w64 (by omega)]
    simp) (fun k=>by
    simp only [slices_Equal_Item.l0]
    rw [if_neg (by omega)]) k hk
  rw [hl,allF_true _ _ (fun _ _ _=>rfl)]
  rfl
theorem sameItems_refl (a:List S44) (ha:a.length≤1048576) (k:Nat) (hk:a.length<k):laws_sameItems.f k a a=some true:=by
  unfold laws_sameItems.f
  rw [if_pos rfl]
  have hl:=loop_all0 (fun k i=>laws_sameItems.l0 k a a i) a.length (fun _=>true) true (fun k i hi=>by
    simp only [laws_sameItems.l0]
    rw [if_pos (by omega),if_pos (by omega),if_pos (by omega),w64 (by omega)]
    simp) (fun k=>by
    simp only [laws_sameItems.l0]
    rw [if_neg (by omega)]) k hk
  rw [hl,allF_true _ _ (fun _ _ _=>rfl)]
  rfl
theorem src_up {p s:Int} {n m:Nat} (hnm:n≤m) (hs:Src p s n):Src p s m:=⟨hs.1,by have:=hs.2.1;omega,hs.2.2⟩
theorem rd_mem (P:Int→Prop) (l:List Int) (h: ∀x∈l,P x) (i:Int) (h0:0≤i) (h1:i<(l.length:Int)):P (rd l i):=by
  apply h
  obtain⟨j,rfl⟩: ∃j:Nat,i=(j:Int):=⟨i.toNat,by omega⟩
  rw [show rd l (j:Int)=l.getD j 0 by simp [rd],List.getD_eq_getElem?_getD,List.getElem?_eq_getElem (by omega:j<l.length)]
  exact List.getElem_mem _
theorem address_some (l:List Int) (hl:Bytes l) (p s:Int) (n:Nat) (hn:n≤10000000) (h:Src p s n):
    ∃r p' s',spec_l00Src_address.f l p s=some (r,p',s')∧isCell r=true∧Src p' s' (n+8):=by
  obtain⟨a,p1,s1,e1,a0,a1,h1⟩:=next_some l hl p s n (by omega) h 8 (by omega) (by omega)
  obtain⟨b,p2,s2,e2,b0,b1,h2⟩:=next_some l hl p1 s1 (n+1) (by omega) h1 130 (by omega) (by omega)
  obtain⟨c,p3,s3,e3,c0,h3⟩:=cell_some l hl p2 s2 (n+1+1) (by omega) h2
  obtain⟨d,p4,s4,e4,d0,d1,h4⟩:=next_some l hl p3 s3 (n+1+1+5) (by omega) h3 4 (by omega) (by omega)
  unfold spec_l00Src_address.f
  rw [e1,Option.bind_some]
  dsimp only
  rw [e2,Option.bind_some]
  dsimp only
  rw [e3,Option.bind_some]
  dsimp only
  rw [Option.bind_some,e4,Option.bind_some]
  dsimp only
  rw [if_pos d0,if_pos (by simpa using d1)]
  refine⟨_,_,_,rfl,?_,src_up (by omega) h4⟩
  apply rd_mem (fun x=>isCell x=true) _ _ _ d0 (by simpa using d1)
  intro x hx
  simp only [List.mem_cons,List.not_mem_nil,or_false]at hx
  rcases hx with rfl|rfl|rfl|rfl
  · rw [w64 (n:=4*a) (by omega),w64 (by omega),isCell_iff];omega
  · rw [w64 (by omega),isCell_iff];omega
  · rfl
  · exact c0
/-- An item that opens and closes nothing. -/
def plainI (x:S44):Prop:=itemOK x=true∧(x.f0=1∨x.f0=2∨x.f0=13)
theorem word_ok (b:Int) (h:1≤b∧b≤103):itemOK ⟨1,b⟩=true:=by
  unfold itemOK
  rw [if_pos rfl,inR_iff]
  exact h
theorem lit_ok (b:Int) (h:isCell b=true):itemOK ⟨2,b⟩=true:=by
  unfold itemOK
  rw [if_neg (show¬((2:Int)=1) by decide),if_pos rfl]
  exact h
theorem flat_some (l:List Int) (hl:Bytes l) (k:Nat) (hk:1≤k) (p s:Int) (n:Nat) (hn:n≤9000000) (h:Src p s n):
    ∃a b p' s',spec_l00Src_flat.f k l p s 86=some (a,b,p',s')∧itemOK ⟨a,b⟩=true∧(a=1∨a=2)∧Src p' s' (n+20):=by
  obtain⟨k,rfl⟩: ∃m,k=m+1:=⟨k - 1,by omega⟩
  obtain⟨a,p1,s1,e1,a0,a1,h1⟩:=next_some l hl p s n (by omega) h 5 (by omega) (by omega)
  have lits: ∃a' b p' s',spec_l00Src_flat.j0 (k+1) 86 a true l p1 s1=some (a',b,p',s')∧itemOK ⟨a',b⟩=true∧(a'=1∨a'=2)∧Src p' s' (n+20):=by
    obtain⟨b,p2,s2,e2,b0,b1,h2⟩:=next_some l hl p1 s1 (n+1) (by omega) h1 6 (by omega) (by omega)
    obtain⟨c,p3,s3,e3,c0,h3⟩:=cell_some l hl p2 s2 (n+1+1) (by omega) h2
    obtain⟨d,p4,s4,e4,d0,h4⟩:=address_some l hl p3 s3 (n+1+1+5) (by omega) h3
    obtain⟨f,p5,s5,e5,f0,f1,h5⟩:=next_some l hl p4 s4 (n+1+1+5+8) (by omega) h4 3 (by omega) (by omega)
    rw [spec_l00Src_flat.j0,if_pos rfl,e2,Option.bind_some]
    dsimp only
    rw [e3,Option.bind_some]
    dsimp only
    rw [e4,Option.bind_some]
    dsimp only
    rw [Option.bind_some,e5,Option.bind_some]
    dsimp only
    rw [if_pos f0,if_pos (by simpa using f1)]
    refine⟨_,_,_,_,rfl,lit_ok _ ?_,.inr rfl,src_up (by omega) h5⟩
    apply rd_mem (fun x=>isCell x=true) _ _ _ f0 (by simpa using f1)
    intro x hx
    simp only [List.mem_cons,List.not_mem_nil,or_false]at hx
    rcases hx with rfl|rfl|rfl
    · rw [isCell_iff];omega
    · exact c0
    · exact d0
  unfold spec_l00Src_flat.f
  rw [e1,Option.bind_some]
  dsimp only
  by_cases c0:a=0
  · rw [if_pos c0,c0]
    rw [c0]at lits
    exact lits
  · rw [if_neg c0]
    by_cases c1:a=1
    · rw [c1]
      rw [c1]at lits
      exact lits
    · rw [beq_eq_false_iff_ne.mpr c1,spec_l00Src_flat.j0,if_neg (by decide)]
      by_cases c2:a=2
      · rw [if_pos c2,if_pos (by decide),show wrap64 (86 - 83)=3 from by rw [w64 (by omega)];rfl]
        obtain⟨b,p2,s2,e2,b0,b1,h2⟩:=next_some l hl p1 s1 (n+1) (by omega) h1 3 (by omega) (by omega)
        rw [e2,Option.bind_some]
        exact⟨_,_,_,_,rfl,word_ok _ (by dsimp only;rw [w64 (by omega)];omega),.inl rfl,src_up (by omega) h2⟩
      · rw [if_neg c2]
        by_cases c3:a=3
        · obtain⟨b,p2,s2,e2,b0,b1,h2⟩:=next_some l hl p1 s1 (n+1) (by omega) h1 10 (by omega) (by omega)
          rw [if_pos c3,Option.bind_some,e2,Option.bind_some]
          dsimp only
          rw [if_pos b0,if_pos (by simpa using b1)]
          refine⟨_,_,_,_,rfl,word_ok _ ?_,.inl rfl,src_up (by omega) h2⟩
          apply rd_mem (fun x=>1≤x∧x≤103) _ _ _ b0 (by simpa using b1)
          intro x hx
          simp only [List.mem_cons,List.not_mem_nil,or_false]at hx
          omega
        · obtain⟨b,p2,s2,e2,b0,b1,h2⟩:=next_some l hl p1 s1 (n+1) (by omega) h1 66 (by omega) (by omega)
          rw [if_neg c3,e2,Option.bind_some]
          exact⟨_,_,_,_,rfl,word_ok _ (by dsimp only;rw [w64 (by omega)];omega),.inl rfl,src_up (by omega) h2⟩
/-- What a stretch of items leaves open, told by its kinds alone. -/
def run:List S44→List Int→Option (List Int)
  | [],o=>some o
  |x::xs,o=>(stepW o x.f0).bind (run xs)
theorem run_append: ∀(a b:List S44) (o:List Int),run (a++b) o=(run a o).bind (run b)
  | [],b,o=>rfl
  |x::a,b,o=>by
    show (stepW o x.f0).bind (run (a++b))=((stepW o x.f0).bind (run a)).bind (run b)
    cases stepW o x.f0 with
    |none=>rfl
    |some q=>exact run_append a b q
/-- A stretch that fits wherever at most h structures may be opened still, and leaves all as it was. -/
def Fits (h:Nat) (a:List S44):Prop:=a.all itemOK=true∧ ∀o:List Int,o.length+h≤8→run a o=some o
theorem fits_nil (h:Nat):Fits h []:=⟨rfl,fun _ _=>rfl⟩
theorem fits_append {h:Nat} {a b:List S44} (ha:Fits h a) (hb:Fits h b):Fits h (a++b):=
  ⟨by rw [List.all_append,ha.1,hb.1];rfl,fun o ho=>by rw [run_append,ha.2 o ho];exact hb.2 o ho⟩
theorem fits_up {h h':Nat} {a:List S44} (ha:Fits h a) (hh:h≤h'):Fits h' a:=⟨ha.1,fun o ho=>ha.2 o (by omega)⟩
theorem fits_plain (h:Nat) {x:S44} (hx:itemOK x=true) (hk:x.f0=1∨x.f0=2∨x.f0=13):Fits h [x]:=
  ⟨by simp [hx],fun o _=>by
    show (stepW o x.f0).bind (run [])=some o
    rcases hk with e|e|e<;>rw [e]<;>rfl⟩
theorem run_walk (l:List S44): ∀(d i:Nat) (o:List Int) (q:List Int),i+d=l.length→run (l.drop i) o=some q→walkW l d i o=(q, -1)
  |0,i,o,q,h,hr=>by
    rw [List.drop_of_length_le (by omega)]at hr
    obtain rfl:=Option.some.inj hr
    rfl
  |d+1,i,o,q,h,hr=>by
    rw [List.drop_eq_getElem_cons (by omega:i<l.length)]at hr
    have e:l.getD i z44=l[i]:=by simp [List.getD_eq_getElem?_getD,List.getElem?_eq_getElem (by omega:i<l.length)]
    unfold walkW
    rw [e]
    change (stepW o (l[i]).f0).bind (run (l.drop (i+1)))=some q at hr
    cases hs:stepW o (l[i]).f0 with
    |none=>rw [hs]at hr;cases hr
    |some o'=>
      rw [hs]at hr
      exact run_walk l d (i+1) o' q (by omega) hr
theorem fits_good {l:List S44} {h:Nat} (hh:h≤8) (hf:Fits h l):Good l 0 []:=by
  unfold Good
  rw [Nat.sub_zero]
  exact run_walk l l.length 0 [] [] (by omega) (by rw [List.drop_zero];exact hf.2 [] (by simpa using hh))
theorem fits_code {l:List S44} {h:Nat} (hf:Fits h l) (h60:l.length≤60):itemsCode l=0:=by
  unfold itemsCode
  rw [if_neg (by omega),if_neg (by omega),hf.1]
  rfl
theorem cat_l0 (ls:List (List S44)) (hl:ls.length≤1000) (hs:(ls.map List.length).sum≤1000000): ∀(d k i:Nat),i+d=ls.length→d<k→spec_l07Cat.l0 k ls (ls.take i).flatten (i:Int)=some ls.flatten
  |0,k,i,h,hk=>by
    obtain⟨k,rfl⟩: ∃m,k=m+1:=⟨k - 1,by omega⟩
    rw [spec_l07Cat.l0,if_neg (by omega),show i=ls.length by omega,List.take_length]
  |d+1,k,i,h,hk=>by
    obtain⟨k,rfl⟩: ∃m,k=m+1:=⟨k - 1,by omega⟩
    have e:rd_L3 ls (i:Int)=ls[i]:=by simp [rd_L3,List.getD_eq_getElem?_getD,List.getElem?_eq_getElem (by omega:i<ls.length)]
    have ht:(ls.take i).flatten++ls[i]=(ls.take (i+1)).flatten:=by rw [List.take_succ_eq_append_getElem (by omega),List.flatten_append];simp
    have hsum:((ls.take i).flatten++ls[i]).length≤1000000:=by
      rw [ht,List.length_flatten]
      refine Nat.le_trans ?_ hs
      conv=>rhs;rw [←List.take_append_drop (i+1) ls,List.map_append,List.sum_append]
      exact Nat.le_add_right _ _
    rw [List.length_append]at hsum
    rw [spec_l07Cat.l0,if_pos (by omega),if_pos (by omega),e,if_pos (by omega),w64 (by omega),ht]
    exact cat_l0 ls hl hs d k (i+1) (by omega) (by omega)
theorem cat_some (ls:List (List S44)) (hl:ls.length≤1000) (hs:(ls.map List.length).sum≤1000000) (k:Nat) (hk:1000<k):spec_l07Cat.f k ls=some ls.flatten:=by
  unfold spec_l07Cat.f
  exact cat_l0 ls hl hs ls.length k 0 (by omega) (by omega)
theorem chance_some (l:List Int) (hl:Bytes l) (p s:Int) (n:Nat) (hn:n≤1000000000) (h:Src p s n) (m:Int) (h1:1<m) (h2:m≤256):
    ∃b p' s',spec_l00Src_chance.f l p s m=some (b,p',s')∧Src p' s' (n+1):=by
  obtain⟨r,p',s',e,_,_,hs⟩:=next_some l hl p s n hn h m h1 h2
  unfold spec_l00Src_chance.f
  rw [e,Option.bind_some]
  exact⟨_,_,_,rfl,hs⟩
theorem ctl_ok {a:Int} (h:3≤a∧a≤13):itemOK ⟨a,0⟩=true:=by
  unfold itemOK
  dsimp only
  rw [if_neg (by omega),if_neg (by omega),Bool.and_eq_true,inR_iff]
  exact⟨h,rfl⟩
theorem step_in {o:List Int} {a:Int} (ho:o.length<8) (ha:a=3∨a=6∨a=10):stepW o a=some (o++ [a]):=by
  unfold stepW
  rw [if_pos ha,if_pos ho]
theorem step_out {o:List Int} {a b:Int} (hab:(a=3∧b=5)∨(a=4∧b=5)∨(a=6∧b=7)∨(a=8∧b=9)∨(a=10∧b=11)∨(a=10∧b=12)):stepW (o++ [a]) b=some o:=by
  unfold stepW
  rw [top_snoc,take_snoc]
  rcases hab with ⟨rfl,rfl⟩|⟨rfl,rfl⟩|⟨rfl,rfl⟩|⟨rfl,rfl⟩|⟨rfl,rfl⟩|⟨rfl,rfl⟩<;>simp
theorem step_mid {o:List Int} {a b:Int} (hab:(a=3∧b=4)∨(a=6∧b=8)):stepW (o++ [a]) b=some (o++ [b]):=by
  unfold stepW
  rw [top_snoc,take_snoc]
  rcases hab with ⟨rfl,rfl⟩|⟨rfl,rfl⟩<;>simp
theorem run_one (x:S44) (o:List Int):run [x] o=stepW o x.f0:=by
  show (stepW o x.f0).bind (run [])=_
  cases stepW o x.f0<;>rfl
/-- A structure with one row. -/
theorem fits_one {h:Nat} {A:List S44} {a b:Int} (hA:Fits h A) (hab:(a=3∧b=5)∨(a=6∧b=7)∨(a=10∧b=11)∨(a=10∧b=12)):Fits (h+1) ([⟨a,0⟩]++A++ [⟨b,0⟩]):=by
  refine⟨?_,fun o ho=> ?_⟩
  · rw [List.all_append,List.all_append,hA.1]
    simp [ctl_ok (a:=a) (by omega),ctl_ok (a:=b) (by omega)]
  · rw [run_append,run_append,run_one,step_in (by omega) (by dsimp only;omega),Option.bind_some,hA.2 _ (by simp;omega),Option.bind_some,run_one,step_out (by dsimp only;omega)]
/-- A structure with two rows. -/
theorem fits_two {h:Nat} {A B:List S44} {a m b:Int} (hA:Fits h A) (hB:Fits h B) (hab:(a=3∧m=4∧b=5)∨(a=6∧m=8∧b=9)):Fits (h+1) ([⟨a,0⟩]++A++ [⟨m,0⟩]++B++ [⟨b,0⟩]):=by
  refine⟨?_,fun o ho=> ?_⟩
  · rw [List.all_append,List.all_append,List.all_append,List.all_append,hA.1,hB.1]
    simp [ctl_ok (a:=a) (by omega),ctl_ok (a:=m) (by omega),ctl_ok (a:=b) (by omega)]
  · rw [run_append,run_append,run_append,run_append,run_one,step_in (by omega) (by dsimp only;omega),Option.bind_some,hA.2 _ (by simp;omega),Option.bind_some,run_one,step_mid (by dsimp only;omega),Option.bind_some,hB.2 _ (by simp;omega),Option.bind_some,run_one,step_out (by dsimp only;omega)]
theorem flat_round (l:List Int) (hl:Bytes l) (k:Nat) (hk:1≤k) (p s:Int) (n:Nat) (hn:n≤9000000) (h:Src p s n) (dd i:Int) (x:List S44) (hx:x.length≤1000000):
    ∃y p' s',spec_l00Src_block.j1 (k+1) 86 dd x i true l p s=spec_l00Src_block.l0 k 86 dd (x++y) (wrap64 (i - 1)) l p' s'∧Fits 0 y∧y.length≤1∧Src p' s' (n+20):=by
  obtain⟨a,b,p',s',e,ok,ha,h'⟩:=flat_some l hl k hk p s n hn h
  rw [spec_l00Src_block.j1,if_pos rfl,e,Option.bind_some]
  dsimp only
  rcases ha with rfl|rfl
  · rw [if_pos rfl,spec_l01In_eq,Option.bind_some]
    by_cases c:inR b 57 62=true
    · rw [if_pos c,if_pos (by omega)];exact⟨_,_,_,rfl,fits_plain 0 (word_ok 1 (by omega)) (.inl rfl),Nat.le_refl _,h'⟩
    · rw [if_neg c,if_pos (by omega)];exact⟨_,_,_,rfl,fits_plain 0 ok (.inl rfl),Nat.le_refl _,h'⟩
  · rw [if_neg (by decide),if_pos (by omega)];exact⟨_,_,_,rfl,fits_plain 0 ok (.inr (.inl rfl)),Nat.le_refl _,h'⟩
/-- A stretch drawn at depth d: it fits, is short, and takes few draws. -/
def BlockOK (l:List Int) (d L D K:Nat):Prop:= ∀k p s n,K≤k→n+D≤9000000→Src p s n→ ∃o p' s',spec_l00Src_block.f k l p s 86 (d:Int)=some (o,p',s')∧Fits d o∧o.length≤L∧Src p' s' (n+D)
theorem lit_small (r:Int) (h0:0≤r) (h1:r≤10) (h:Nat):Fits h [(⟨2,r⟩:S44)]:=fits_plain h (lit_ok r (by rw [isCell_iff];omega)) (.inr (.inl rfl))
theorem rec_round (l:List Int) (hl:Bytes l) (d L D K L0 D0 K0:Nat) (hA:BlockOK l d L D K) (hB:BlockOK l 0 L0 D0 K0) (hL0:L0≤L) (hD0:D0≤D) (hL:L≤1000) (hd8:d<8)
    (k:Nat) (hk:1000<k) (hK:K≤k) (hK0:K0≤k) (p s:Int) (n:Nat) (hn:n+2*D+10≤9000000) (h:Src p s n) (i:Int) (x:List S44) (hx:x.length≤100000):
    ∃y p' s',spec_l00Src_block.j1 (k+1) 86 ((d+1:Nat):Int) x i false l p s=spec_l00Src_block.l0 k 86 ((d+1:Nat):Int) (x++y) (wrap64 (i - 1)) l p' s'∧Fits (d+1) y∧y.length≤2*L+6∧Src p' s' (n+2*D+10):=by
  obtain⟨q,p1,s1,e1,q0,q1,h1⟩:=next_some l hl p s n (by omega) h 5 (by omega) (by omega)
  have ed:wrap64 (((d+1:Nat):Int) - 1)=(d:Int):=by rw [w64 (by omega)];omega
  rw [spec_l00Src_block.j1,if_neg (by decide),e1,Option.bind_some]
  simp only [spec_l07Item.f,spec_l07Lit.f,spec_l07Item2.f,Option.bind_some,ed]
  have hsum: ∀ls:List (List S44),ls.length≤10→(ls.map List.length).sum≤1000000→spec_l07Cat.f k ls=some ls.flatten:=fun ls h1 h2=>cat_some ls (by omega) h2 k hk
  by_cases c0:q=0
  · obtain⟨A,p2,s2,e2,fA,lA,h2⟩:=hA k p1 s1 (n+1) hK (by omega) h1
    rw [if_pos c0,e2,Option.bind_some]
    dsimp only
    rw [hsum _ (by simp) (by simp;omega),Option.bind_some]
    refine⟨[⟨3,0⟩]++A++ [⟨5,0⟩],p2,s2,by simp,fits_one fA (.inl ⟨rfl,rfl⟩),by simp;omega,src_up (by omega) h2⟩
  rw [if_neg c0]
  by_cases c1:q=1
  · obtain⟨A,p2,s2,e2,fA,lA,h2⟩:=hA k p1 s1 (n+1) hK (by omega) h1
    obtain⟨B,p3,s3,e3,fB,lB,h3⟩:=hA k p2 s2 (n+1+D) hK (by omega) h2
    rw [if_pos c1,e2,Option.bind_some]
    dsimp only
    rw [e3,Option.bind_some]
    dsimp only
    rw [hsum _ (by simp) (by simp;omega),Option.bind_some]
    refine⟨[⟨3,0⟩]++A++ [⟨4,0⟩]++B++ [⟨5,0⟩],p3,s3,by simp,fits_two fA fB (.inl ⟨rfl,rfl,rfl⟩),by simp;omega,src_up (by omega) h3⟩
  rw [if_neg c1]
  by_cases c2:q=2
  · obtain⟨r,p2,s2,e2,r0,r1,h2⟩:=next_some l hl p1 s1 (n+1) (by omega) h1 3 (by omega) (by omega)
    obtain⟨B,p3,s3,e3,fB,lB,h3⟩:=hB k p2 s2 (n+1+1) hK0 (by omega) h2
    have e3':spec_l00Src_block.f k l p2 s2 86 0=some (B,p3,s3):=e3
    rw [if_pos c2,e2,Option.bind_some]
    dsimp only
    rw [e3',Option.bind_some]
    dsimp only
    rw [hsum _ (by simp) (by simp;omega),Option.bind_some]
    refine⟨[⟨2,wrap64 (1+r)⟩]++([⟨6,0⟩]++([⟨1,29⟩]++B++ [⟨1,1⟩]++ [⟨1,37⟩])++ [⟨7,0⟩]),p3,s3,by simp,?_,by simp;omega,src_up (by omega) h3⟩
    refine fits_append (lit_small _ (by rw [w64 (by omega)];omega) (by rw [w64 (by omega)];omega) _) (fits_one ?_ (.inr (.inl ⟨rfl,rfl⟩)))
    exact fits_append (fits_append (fits_append (fits_plain _ (word_ok 29 (by omega)) (.inl rfl)) (fits_up fB (by omega))) (fits_plain _ (word_ok 1 (by omega)) (.inl rfl))) (fits_plain _ (word_ok 37 (by omega)) (.inl rfl))
  rw [if_neg c2]
  by_cases c3:q=3
  · obtain⟨r,p2,s2,e2,r0,r1,h2⟩:=next_some l hl p1 s1 (n+1) (by omega) h1 4 (by omega) (by omega)
    obtain⟨A,p3,s3,e3,fA,lA,h3⟩:=hA k p2 s2 (n+1+1) hK (by omega) h2
    obtain⟨t,p4,s4,e4,t0,t1,h4⟩:=next_some l hl p3 s3 (n+1+1+D) (by omega) h3 3 (by omega) (by omega)
    rw [if_pos c3,e2,Option.bind_some]
    dsimp only
    rw [e3,Option.bind_some]
    dsimp only
    rw [e4,Option.bind_some]
    dsimp only
    rw [if_pos t0,if_pos (by simpa using t1),hsum _ (by simp) (by simp;omega),Option.bind_some]
    have ht:rd [11,11,12] t=11∨rd [11,11,12] t=12:=by
      apply rd_mem (fun z=>z=11∨z=12) _ _ _ t0 (by simpa using t1)
      intro z hz
      simp only [List.mem_cons,List.not_mem_nil,or_false]at hz
      omega
    refine⟨[⟨2,r⟩]++ [⟨2,0⟩]++([⟨10,0⟩]++A++ [⟨rd [11,11,12] t,0⟩]),p4,s4,by simp,?_,by simp;omega,src_up (by omega) h4⟩
    refine fits_append (fits_append (lit_small _ r0 (by omega) _) (lit_small 0 (by omega) (by omega) _)) (fits_one fA ?_)
    rcases ht with e|e<;>rw [e]
    · exact .inr (.inr (.inl ⟨rfl,rfl⟩))
    · exact .inr (.inr (.inr ⟨rfl,rfl⟩))
  · rw [if_neg c3,if_pos (by omega)]
    obtain⟨B,p2,s2,e2,fB,lB,h2⟩:=hB k p1 s1 (n+1) hK0 (by omega) h1
    have e2':spec_l00Src_block.f k l p1 s1 86 0=some (B,p2,s2):=e2
    obtain⟨A,p3,s3,e3,fA,lA,h3⟩:=hA k p2 s2 (n+1+D0) hK (by omega) h2
    rw [e2',Option.bind_some]
    dsimp only
    rw [e3,Option.bind_some]
    dsimp only
    rw [hsum _ (by simp) (by simp;omega),Option.bind_some]
    refine⟨[⟨6,0⟩]++B++ [⟨8,0⟩]++A++ [⟨9,0⟩],p3,s3,by simp,fits_two (fits_up fB (by omega)) fA (.inr ⟨rfl,rfl,rfl⟩),by simp;omega,src_up (by omega) h3⟩
/-- The rounds of a stretch, when each round is told. -/
theorem block_rounds (l:List Int) (dd:Nat) (R Q K:Nat) (hR:R≤10000) (hQ:Q≤100000) (hr: ∀k p s n (i:Nat) x,K≤k→n+Q≤9000000→Src p s n→x.length≤100000→0<i→ ∃y p' s',spec_l00Src_block.l0 (k+2) 86 (dd:Int) x (i:Int) l p s=spec_l00Src_block.l0 k 86 (dd:Int) (x++y) (wrap64 ((i:Int) - 1)) l p' s'∧Fits dd y∧y.length≤R∧Src p' s' (n+Q)):
    ∀(i k:Nat) (p s:Int) (n:Nat) (x:List S44),i≤4→K+2*i+1≤k→n+i*Q≤9000000→Src p s n→x.length+i*R≤100000→ ∃y p' s',spec_l00Src_block.l0 k 86 (dd:Int) x (i:Int) l p s=some (x++y,p',s')∧Fits dd y∧y.length≤i*R∧Src p' s' (n+i*Q)
  |0,k,p,s,n,x,hi,hk,hn,h,hx=>by
    obtain⟨k,rfl⟩: ∃m,k=m+1:=⟨k - 1,by omega⟩
    rw [spec_l00Src_block.l0,if_neg (by omega)]
    exact⟨[],_,_,by rw [List.append_nil],fits_nil _,by simp,src_up (by omega) h⟩
  |i+1,k,p,s,n,x,hi,hk,hn,h,hx=>by
    obtain⟨k,rfl⟩: ∃m,k=m+2:=⟨k - 2,by omega⟩
    rw [Nat.succ_mul]at hn hx
    obtain⟨y,p1,s1,e,fy,ly,h1⟩:=hr k p s n (i+1) x (by omega) (by omega) h (by omega) (by omega)
    obtain⟨z,p2,s2,e2,fz,lz,h2⟩:=block_rounds l dd R Q K hR hQ hr i k p1 s1 (n+Q) (x++y) (by omega) (by omega) (by omega) h1 (by rw [List.length_append];omega)
    rw [e,show wrap64 (((i+1:Nat):Int) - 1)=(i:Int) by rw [w64 (by omega)];omega,e2,List.append_assoc]
    refine⟨y++z,p2,s2,rfl,fits_append fy fz,by rw [List.length_append,Nat.succ_mul];omega,src_up (by rw [Nat.succ_mul];omega) h2⟩
theorem block_of (l:List Int) (hl:Bytes l) (dd:Nat) (R Q K:Nat) (hR:R≤10000) (hQ:Q≤100000) (hr: ∀k p s n (i:Nat) x,K≤k→n+Q≤9000000→Src p s n→x.length≤100000→0<i→ ∃y p' s',spec_l00Src_block.l0 (k+2) 86 (dd:Int) x (i:Int) l p s=spec_l00Src_block.l0 k 86 (dd:Int) (x++y) (wrap64 ((i:Int) - 1)) l p' s'∧Fits dd y∧y.length≤R∧Src p' s' (n+Q)):
    BlockOK l dd (4*R) (4*Q+1) (K+20):=by
  intro k p s n hk hn h
  obtain⟨k,rfl⟩: ∃m,k=m+1:=⟨k - 1,by omega⟩
  obtain⟨q,p1,s1,e1,q0,q1,h1⟩:=next_some l hl p s n (by omega) h 4 (by omega) (by omega)
  have hq:wrap64 (1+q)=((q.toNat+1:Nat):Int):=by rw [w64 (by omega)];omega
  have m1:(q.toNat+1)*R≤4*R:=Nat.mul_le_mul_right _ (by omega)
  have m2:(q.toNat+1)*Q≤4*Q:=Nat.mul_le_mul_right _ (by omega)
  rw [spec_l00Src_block.f,e1,Option.bind_some]
  dsimp only
  obtain⟨y,p2,s2,e2,fy,ly,h2⟩:=block_rounds l dd R Q K hR hQ hr (q.toNat+1) k p1 s1 (n+1) [] (by omega) (by omega) (by omega) h1 (by rw [List.length_nil];omega)
  rw [hq,e2,List.nil_append]
  exact⟨y,p2,s2,rfl,fy,by omega,src_up (by omega) h2⟩
theorem block0 (l:List Int) (hl:Bytes l):BlockOK l 0 4 81 21:=by
  refine block_of l hl 0 1 20 1 (by omega) (by omega) fun k p s n i x hk hn h hx hi=> ?_
  rw [spec_l00Src_block.l0,if_pos (by omega),if_pos (by simp)]
  exact flat_round l hl k hk p s n (by omega) h 0 i x (by omega)
theorem block_up (l:List Int) (hl:Bytes l) (d L D K:Nat) (hA:BlockOK l d L D K) (hL:4≤L) (hL1:L≤1000) (hD:81≤D) (hD1:D≤10000) (hd:d<8) (hK:21≤K):BlockOK l (d+1) (4*(2*L+6)) (4*(2*D+21)+1) (K+1001+20):=by
  refine block_of l hl (d+1) (2*L+6) (2*D+21) (K+1001) (by omega) (by omega) fun k p s n i x hk hn h hx hi=> ?_
  rw [spec_l00Src_block.l0,if_pos (by omega),if_neg (by omega)]
  obtain⟨b,p1,s1,e1,h1⟩:=chance_some l hl p s n (by omega) h 4 (by omega) (by omega)
  rw [e1,Option.bind_some]
  dsimp only
  cases b
  · obtain⟨y,p2,s2,e2,fy,ly,h2⟩:=flat_round l hl k (by omega) p1 s1 (n+1) (by omega) h1 ((d+1:Nat):Int) i x (by omega)
    exact⟨y,p2,s2,e2,fits_up fy (by omega),by omega,src_up (by omega) h2⟩
  · obtain⟨y,p2,s2,e2,fy,ly,h2⟩:=rec_round l hl d L D K 4 81 21 hA (block0 l hl) hL hD hL1 hd k (by omega) (by omega) (by omega) p1 s1 (n+1) (by omega) h1 i x (by omega)
    exact⟨y,p2,s2,e2,fy,ly,src_up (by omega) h2⟩
theorem block2 (l:List Int) (hl:Bytes l):BlockOK l 2 472 5949 2063:=block_up l hl 1 56 733 1042 (block_up l hl 0 4 81 21 (block0 l hl) (by omega) (by omega) (by omega) (by omega) (by omega) (by omega)) (by omega) (by omega) (by omega) (by omega) (by omega) (by omega)
theorem items_some (l:List Int) (hl:Bytes l) (k:Nat) (hk:2063≤k) (p s:Int) (n:Nat) (hn:n≤8000000) (h:Src p s n):
    ∃o p' s',spec_l00Src_items.f k l p s 86=some (o,p',s')∧Fits 2 o∧o.length≤60∧Src p' s' (n+7000):=by
  obtain⟨a,p1,s1,e1,fa,la,h1⟩:=block2 l hl k p s n hk (by omega) h
  obtain⟨b,p2,s2,e2,h2⟩:=chance_some l hl p1 s1 (n+5949) (by omega) h1 10 (by omega) (by omega)
  obtain⟨c,p3,s3,e3,fc,lc,h3⟩:=block0 l hl k p2 s2 (n+5949+1) (by omega) (by omega) h2
  have e1':spec_l00Src_block.f k l p s 86 2=some (a,p1,s1):=e1
  have e3':spec_l00Src_block.f k l p2 s2 86 0=some (c,p3,s3):=e3
  unfold spec_l00Src_items.f
  rw [e1',Option.bind_some]
  dsimp only
  rw [e2,Option.bind_some]
  dsimp only
  cases b
  · rw [if_neg (by decide)]
    by_cases g:(a.length:Int)>60
    · rw [if_pos g,e3',Option.bind_some]
      exact⟨_,_,_,rfl,fits_up fc (by omega),Nat.le_trans lc (by omega),src_up (by omega) h3⟩
    · rw [if_neg g]
      exact⟨_,_,_,rfl,fa,by omega,src_up (by omega) h2⟩
  · rw [if_pos rfl,if_pos (by omega),Option.bind_some]
    by_cases g:((a++ [(⟨13,0⟩:S44)]).length:Int)>60
    · rw [if_pos g,e3',Option.bind_some]
      exact⟨_,_,_,rfl,fits_up fc (by omega),Nat.le_trans lc (by omega),src_up (by omega) h3⟩
    · rw [if_neg g]
      exact⟨_,_,_,rfl,fits_append fa (fits_plain 2 (ctl_ok (by omega)) (.inr (.inr rfl))),by omega,src_up (by omega) h2⟩
theorem any_tail (l:List Int) (hl:Bytes l) (y:List S44) (p s:Int) (n:Nat) (hn:n≤9000000) (h:Src p s n):
    ∃r,(if(y.length:Int)>60 then((spec_l00Src_chance.f l p s 4).bind fun bt=>(if bt.1=true then(some (y,bt.2.1,bt.2.2))else(if 60≤(y.length:Int)then(some ((y.take (60:Int).toNat),bt.2.1,bt.2.2))else(none))))else(some (y,p,s)))=some r:=by
  by_cases g:(y.length:Int)>60
  · obtain⟨b,p2,s2,e2,h2⟩:=chance_some l hl p s n (by omega) h 4 (by omega) (by omega)
    rw [if_pos g,e2,Option.bind_some]
    cases b
    · rw [if_neg (by simp),if_pos (by omega)];exact⟨_,rfl⟩
    · rw [if_pos rfl];exact⟨_,rfl⟩
  · rw [if_neg g];exact⟨_,rfl⟩
theorem any_loop (l:List Int) (hl:Bytes l): ∀(d k i:Nat) (x:List S44) (p s:Int) (n:Nat),i+d=9→d<k→x.length+2*d≤1000→n+5*d+2≤9000000→Src p s n→ ∃r,spec_l00Src_anyItems.l0 k x (i:Int) l p s=some r
  |d,k,i,x,p,s,n,hid,hk,hx,hn,h=>by
    obtain⟨k,rfl⟩: ∃m,k=m+1:=⟨k - 1,by omega⟩
    obtain⟨q,p1,s1,e1,q0,q1,h1⟩:=next_some l hl p s n (by omega) h 3 (by omega) (by omega)
    rw [spec_l00Src_anyItems.l0,e1,Option.bind_some]
    dsimp only
    by_cases c:(i:Int)<wrap64 (7+q)
    · rw [w64 (by omega)]at c
      have e0: ∀z:Int,wrap64 ((i:Int)+1)=((i+1:Nat):Int):=fun _=>by rw [w64 (by omega)];omega
      obtain⟨b,p2,s2,e2,h2⟩:=chance_some l hl p1 s1 (n+1) (by omega) h1 2 (by omega) (by omega)
      rw [if_pos (by rw [w64 (by omega)];exact c),spec_l07Item.f,Option.bind_some,if_pos (by simp;omega),Option.bind_some,e2,Option.bind_some]
      dsimp only
      rw [e0 0]
      cases b
      · rw [if_neg (by decide)]
        exact any_loop l hl (d - 1) k (i+1) _ p2 s2 (n+1+1) (by omega) (by omega) (by simp;omega) (by omega) h2
      · rw [if_pos rfl,if_pos (by simp;omega)]
        exact any_loop l hl (d - 1) k (i+1) _ p2 s2 (n+1+1) (by omega) (by omega) (by simp;omega) (by omega) h2
    · rw [if_neg c]
      exact any_tail l hl x p1 s1 (n+1) (by omega) h1
termination_by d=>d
decreasing_by all_goals (rw [w64 (by omega)]at c;omega)
theorem any_some (l:List Int) (hl:Bytes l) (k:Nat) (hk:2063≤k) (p s:Int) (n:Nat) (hn:n≤7000000) (h:Src p s n): ∃r,spec_l00Src_anyItems.f k l p s=some r:=by
  obtain⟨o,p1,s1,e1,fo,lo,h1⟩:=items_some l hl k hk p s n (by omega) h
  have hnx: ∃q p2 s2,spec_l00Src_next.f l p1 s1 (wrap64 ((o.length:Int)+1))=some (q,p2,s2)∧0≤q∧q≤(o.length:Int)∧Src p2 s2 (n+7000+1):=by
    rw [w64 (by omega)]
    by_cases c:(o.length:Int)=0
    · rw [c]
      exact⟨0,p1,s1,rfl,by omega,by omega,src_up (by omega) h1⟩
    · obtain⟨q,p2,s2,e,q0,q1,h2⟩:=next_some l hl p1 s1 (n+7000) (by omega) h1 ((o.length:Int)+1) (by omega) (by omega)
      exact⟨q,p2,s2,e,q0,by omega,h2⟩
  obtain⟨q,p2,s2,e2,q0,q1,h2⟩:=hnx
  obtain⟨t,p3,s3,e3,t0,t1,h3⟩:=next_some l hl p2 s2 (n+7000+1) (by omega) h2 8 (by omega) (by omega)
  unfold spec_l00Src_anyItems.f
  rw [e1,Option.bind_some]
  dsimp only
  rw [e2,Option.bind_some]
  dsimp only
  rw [e3,Option.bind_some]
  dsimp only
  simp only [Option.bind_some]
  have ht:(o.take q.toNat).length≤60:=by rw [List.length_take];omega
  have hd:(o.drop q.toNat).length≤60:=by rw [List.length_drop];omega
  by_cases c0:t=0
  · obtain⟨u,p4,s4,e4,u0,u1,h4⟩:=next_some l hl p3 s3 (n+7000+1+1) (by omega) h3 11 (by omega) (by omega)
    rw [if_pos c0,if_pos q0,if_pos q1,if_pos (by simp;omega),e4,Option.bind_some]
    dsimp only
    rw [if_pos (by simp;omega),if_pos (by simp;omega)]
    exact any_tail l hl _ p4 s4 _ (by omega) h4
  rw [if_neg c0]
  by_cases c1:t=1
  · rw [if_pos c1]
    by_cases g:q<(o.length:Int)
    · rw [if_pos g,if_pos q0,if_pos q1,if_pos (by simp;omega),w64 (by omega),if_pos (by omega),if_pos (by omega),if_pos (by simp;omega)]
      exact any_tail l hl _ p3 s3 _ (by omega) h3
    · rw [if_neg g]
      exact any_tail l hl _ p3 s3 _ (by omega) h3
  rw [if_neg c1]
  by_cases c2:t=2
  · rw [if_pos c2]
    by_cases g:q<(o.length:Int)
    · obtain⟨u,p4,s4,e4,u0,u1,h4⟩:=next_some l hl p3 s3 (n+7000+1+1) (by omega) h3 15 (by omega) (by omega)
      obtain⟨v,p5,s5,e5,v0,v1,h5⟩:=next_some l hl p4 s4 (n+7000+1+1+1) (by omega) h4 3 (by omega) (by omega)
      rw [if_pos g,e4,Option.bind_some]
      dsimp only
      rw [e5,Option.bind_some]
      dsimp only
      rw [if_pos q0,if_neg (by omega)]
      exact⟨_,rfl⟩
    · rw [if_neg g]
      exact any_tail l hl _ p3 s3 _ (by omega) h3
  rw [if_neg c2]
  by_cases c3:t=3
  · rw [if_pos c3]
    exact any_loop l hl 9 k 0 o p3 s3 _ (by omega) (by omega) (by omega) (by omega) h3
  · rw [if_neg c3]
    exact any_tail l hl _ p3 s3 _ (by omega) h3
theorem itemsDrawn_some (l:List Int) (hl:Bytes l) (k:Nat) (hk:2063≤k): ∃o,spec_ItemsDrawn.f k l=some o∧Fits 2 o∧o.length≤60:=by
  obtain⟨s,e,hs⟩:=source_some l hl
  obtain⟨o,p1,s1,e1,fo,lo,h1⟩:=items_some l hl k hk 0 s 0 (by omega) hs
  unfold spec_ItemsDrawn.f
  rw [e,Option.bind_some]
  dsimp only
  rw [e1,Option.bind_some]
  exact⟨_,rfl,fo,lo⟩
theorem doubtItems_some (l:List Int) (hl:Bytes l) (k:Nat) (hk:2063≤k): ∃o,spec_DoubtItems.f k l=some o∧o.length≤60:=by
  obtain⟨s,e,hs⟩:=source_some l hl
  obtain⟨⟨o,p1,s1⟩,e1⟩:=any_some l hl k hk 0 s 0 (by omega) hs
  unfold spec_DoubtItems.f
  rw [e,Option.bind_some]
  dsimp only
  rw [e1,Option.bind_some]
  dsimp only
  have hm:0≤mn (o.length:Int) 60∧mn (o.length:Int) 60≤(o.length:Int)∧mn (o.length:Int) 60≤60:=by unfold mn;split<;>omega
  rw [if_pos hm.1,if_pos hm.2.1]
  exact⟨_,rfl,by rw [List.length_take];omega⟩
theorem FnTreeItems:laws_FnTreeItems.Pure:=by
  intro a b _ _ ha _ _ hb
  refine⟨1048700,?_⟩
  unfold laws_FnTreeItems.f
  by_cases c1:(a.length:Int)>1048576
  · rw [if_pos c1]
  by_cases c2:(b.length:Int)>1048576
  · rw [if_neg c1,if_pos c2]
  obtain⟨l,e1,fl,ll⟩:=itemsDrawn_some a (bytes_of (by omega) ha) 1048700 (by omega)
  obtain⟨m,e2,lm⟩:=doubtItems_some b (bytes_of (by omega) hb) 1048700 (by omega)
  have hc:=fits_code fl ll
  obtain⟨N,hp,ht⟩:=tree_ok l hc (fits_good (by omega) fl)
  obtain⟨t1,t2⟩:=ht 1048700 (by omega)
  have hi:=itemsOf_ok l hc hp 1048700 (by omega)
  obtain⟨M,c,e, -, -,hb'⟩:=both m (by omega)
  obtain⟨u1,u2⟩:=hb' 1048700 (by omega)
  have hq:impl_SameTree.f 1048700 N N=some true:=by
    unfold impl_SameTree.f
    rw [hi,Option.bind_some,Option.bind_some]
    dsimp only
    rw [if_pos rfl,equal_refl l (by omega) _ (by omega)]
    rfl
  rw [if_neg c1,if_neg c2,e1,Option.bind_some,t2,Option.bind_some,t1,Option.bind_some]
  dsimp only
  rw [hi,Option.bind_some,e2,Option.bind_some,u2,Option.bind_some,Option.bind_some,u1,Option.bind_some]
  dsimp only
  rw [if_pos rfl,hq,Option.bind_some,if_pos rfl,if_pos rfl,sameItems_refl l (by omega) _ (by omega),Option.bind_some,if_pos rfl,beq_self_eq_true]
end Go.Proofs.Ythmcanjeeljnhaa.Pure
