/- The law FnExactSameMachine answers true for all pairs of machines: both compare the same fields, and the machines are as they were. No condition. -/
import Derived.Test.YtmjkehfbgaafjaaGreatDoorPSMx24
namespace Go.Proofs.YtmjkehfbgaafjaaGreatDoor.Pure
open Go.RowKit Go.Proofs.YtmjkehfbgaafjaaGreatDoor.PSM Go.Proofs.YtmjkehfbgaafjaaGreatDoorW.PrintWords Go.Proofs.YtmjkehfbgaafjaaGreatDoorW.PrintLast
set_option linter.unusedSimpArgs false
set_option linter.unusedVariables false

theorem bd64 {n:Int} (h:(Lit.int .i64 n).wf=true): -9223372036854775808≤n∧n≤9223372036854775807:=by
  simp [Lit.wf,IntKind.min,IntKind.max,IntKind.signed,IntKind.bits]at h
  omega
/-- n lies from lo to hi. -/
def inR (n lo hi:Int):Bool:=decide (lo≤n∧n≤hi)
/-- A cell: 32 bits with a sign. -/
def isCell (n:Int):Bool:=decide (-2147483648≤n∧n≤2147483647)
theorem isCell_iff {n:Int}:isCell n=true↔(-2147483648≤n∧n≤2147483647):=by simp [isCell]
theorem inR_iff {n lo hi:Int}:inR n lo hi=true↔(lo≤n∧n≤hi):=by simp [inR]
theorem w64 {n:Int} (h: -9223372036854775808≤n∧n≤9223372036854775807):wrap64 n=n:=by unfold wrap64;omega
theorem w64_cell (n:Int):wrap64 (wrap32 n)=wrap32 n:=by unfold wrap64 wrap32;omega
theorem w32_cell {n:Int} (h:isCell n=true):wrap32 n=n:=by rw [isCell_iff]at h;unfold wrap32;omega
theorem cell_w32 (n:Int):isCell (wrap32 n)=true:=by rw [isCell_iff];unfold wrap32;omega
theorem w32_eq (n:Int):(wrap32 n==n)=isCell n:=by
  rw [Bool.eq_iff_iff,isCell_iff]
  simp only [beq_iff_eq]
  unfold wrap32
  omega
/-- All of d numbers from i on. -/
def allF (P:Nat→Bool):Nat→Nat→Bool
  |0,_=>true
  |d+1,i=>P i&&allF P d (i+1)
theorem allF_congr {P Q:Nat→Bool}: ∀d i,(∀j,i≤j→j<i+d→P j=Q j)→allF P d i=allF Q d i
  |0,_,_=>rfl
  |d+1,i,h=>by
    simp only [allF]
    rw [h i (Nat.le_refl _) (by omega),allF_congr d (i+1) (fun j h1 h2=>h j (by omega) (by omega))]
theorem allF_true {P:Nat→Bool}: ∀d i,(∀j,i≤j→j<i+d→P j=true)→allF P d i=true
  |0,_,_=>rfl
  |d+1,i,h=>by
    simp only [allF]
    rw [h i (Nat.le_refl _) (by omega),allF_true d (i+1) (fun j h1 h2=>h j (by omega) (by omega))]
    rfl
theorem allF_all {α:Type} (p:α→Bool) (z:α) (l:List α): ∀d i,i+d=l.length→allF (fun j=>p (l.getD j z)) d i=(l.drop i).all p
  |0,i,h=>by simp [allF,List.drop_of_length_le (show l.length≤i by omega)]
  |d+1,i,h=>by
    simp only [allF]
    rw [allF_all p z l d (i+1) (by omega),List.drop_eq_getElem_cons (by omega:i<l.length),List.all_cons]
    simp [List.getD_eq_getElem?_getD,List.getElem?_eq_getElem (by omega:i<l.length)]
/-- A loop that leaves with false at the first number of which P does not hold. -/
theorem loop_all (F:Nat→Int→Option Bool) (n:Nat) (P:Nat→Bool) (fin:Bool)
    (hs: ∀k (i:Nat),i<n→F (k+1) i=if P i=true then F k ((i:Int)+1)else some false) (he: ∀k,F (k+1) (n:Int)=some fin):
    ∀d k (i:Nat),i+d=n→d<k→F k i=some (allF P d i&&fin)
  |0,k,i,h,hk=>by
    obtain⟨k,rfl⟩: ∃m,k=m+1:=⟨k - 1,by omega⟩
    obtain rfl:i=n:=by omega
    rw [he]
    simp [allF]
  |d+1,k,i,h,hk=>by
    obtain⟨k,rfl⟩: ∃m,k=m+1:=⟨k - 1,by omega⟩
    rw [hs k i (by omega)]
    have ih:=loop_all F n P fin hs he d k (i+1) (by omega) (by omega)
    rw [show ((i+1:Nat):Int)=(i:Int)+1 by omega]at ih
    rw [ih]
    cases hp:P i<;>simp [allF,hp]
theorem loop_all0 (F:Nat→Int→Option Bool) (n:Nat) (P:Nat→Bool) (fin:Bool)
    (hs: ∀k (i:Nat),i<n→F (k+1) i=if P i=true then F k ((i:Int)+1)else some false) (he: ∀k,F (k+1) (n:Int)=some fin) (k:Nat) (hk:n<k):F k 0=some (allF P n 0&&fin):=
  loop_all F n P fin hs he n k 0 (by omega) hk
theorem spec_l01In_eq (a b c:Int):spec_l01In.f a b c=some (inR a b c):=by
  unfold spec_l01In.f
  by_cases h1:a≥b
  · have h2:b≤a:=h1
    by_cases h3:a≤c<;>simp [h1,inR,h2,h3]
  · have h2: ¬b≤a:=h1
    simp [inR,h2]
theorem impl_in_eq (a b c:Int):impl_in.f a b c=some (inR a b c):=by
  unfold impl_in.f
  by_cases h1:b≤a
  · by_cases h3:a≤c<;>simp [inR,h1,h3]
  · simp [inR,h1]
theorem spec_l01Cell_eq (a:Int):spec_l01Cell.f a=some (isCell a):=by
  unfold spec_l01Cell.f
  rw [spec_l01In_eq]
  rfl
theorem impl_WrapCell_eq (a:Int):impl_WrapCell.f a=some (wrap32 a):=by
  unfold impl_WrapCell.f
  rw [w64_cell]
theorem impl_CellOK_eq (a:Int):impl_CellOK.f a=some (isCell a):=by
  unfold impl_CellOK.f
  rw [impl_WrapCell_eq,Option.bind_some,w32_eq]
theorem rd_nat (l:List Int) (i:Nat):rd l (i:Int)=l.getD i 0:=by simp [rd]
/-- Lists that agree at each place. -/
theorem list_eq_iff (a b:List Int) (h:a.length=b.length):decide (a=b)=allF (fun j=>decide (a.getD j 0=b.getD j 0)) a.length 0:=by
  rw [Bool.eq_iff_iff,decide_eq_true_eq]
  constructor
  · rintro rfl
    exact allF_true _ _ (fun j _ _=>by simp)
  · intro ha
    have key: ∀d i,i+d=a.length→allF (fun j=>decide (a.getD j 0=b.getD j 0)) d i=true→ ∀j,i≤j→j<a.length→a.getD j 0=b.getD j 0:=by
      intro d
      induction d with
      |zero=>intro i hi _ j h1 h2;omega
      |succ d ih=>
        intro i hi hh j h1 h2
        simp only [allF,Bool.and_eq_true,decide_eq_true_eq]at hh
        rcases Nat.eq_or_lt_of_le h1 with rfl|h3
        · exact hh.1
        · exact ih (i+1) (by omega) hh.2 j (by omega) h2
    apply List.ext_getElem h
    intro i h1 h2
    have:=key a.length 0 (by omega) ha i (by omega) h1
    simpa [List.getD_eq_getElem?_getD,List.getElem?_eq_getElem h1,List.getElem?_eq_getElem h2] using this
theorem set_take_map {α β:Type} (g:α→β) (z:β) (za:α) (l:List α) (i:Nat) (hi:i<l.length):((l.take i).map g++List.replicate (l.length - i) z).set i (g (l.getD i za))=(l.take (i+1)).map g++List.replicate (l.length - (i+1)) z:=by
  have hr:List.replicate (l.length - i) z=z::List.replicate (l.length - (i+1)) z:=by
    rw [show l.length - i=(l.length - (i+1))+1 by omega,List.replicate_succ]
  have hg:l.getD i za=l[i]:=by simp [List.getD_eq_getElem?_getD,List.getElem?_eq_getElem hi]
  rw [hr,List.set_append,if_neg (by rw [List.length_map,List.length_take];omega),hg,List.length_map,List.length_take,Nat.min_eq_left (Nat.le_of_lt hi),Nat.sub_self,List.set_cons_zero,List.take_succ_eq_append_getElem hi,List.map_append,List.append_assoc]
  rfl
/-- A loop that copies a list, number by number. -/
theorem loop_copy {α β:Type} (F:Nat→List β→Int→Option (List β)) (l:List α) (g:α→β) (z:β) (za:α)
    (hs: ∀k (x:List β) (i:Nat),i<l.length→x.length=l.length→F (k+1) x i=F k (x.set i (g (l.getD i za))) ((i:Int)+1))
    (he: ∀k x,F (k+1) x (l.length:Int)=some x) (k:Nat) (hk:l.length<k):F k (List.replicate l.length z) 0=some (l.map g):=by
  have key: ∀d k (i:Nat),i+d=l.length→d<k→F k ((l.take i).map g++List.replicate (l.length - i) z) (i:Int)=some (l.map g):=by
    intro d
    induction d with
    |zero=>
      intro k i h hk
      obtain⟨k,rfl⟩: ∃m,k=m+1:=⟨k - 1,by omega⟩
      obtain rfl:i=l.length:=by omega
      rw [he,List.take_length,Nat.sub_self]
      simp
    |succ d ih=>
      intro k i h hk
      obtain⟨k,rfl⟩: ∃m,k=m+1:=⟨k - 1,by omega⟩
      rw [hs k _ i (by omega) (by simp;omega),set_take_map g z za l i (by omega),show (i:Int)+1=((i+1:Nat):Int) by omega]
      exact ih k (i+1) (by omega) (by omega)
  have h:=key l.length k 0 (by omega) hk
  simpa using h
theorem rdV_nat (l:List S71) (i:Nat):rd_T71 l (i:Int)=l.getD i z71:=by simp [rd_T71]
/-- The word of a word as the law holds it. -/
def toW (x:S71):S75:=⟨x.f0,x.f1,x.f2⟩
theorem laws_szWord_eq (x:S71) (a:Int) (h0:0≤a) (h1:a≤1048576) (hx:x.f0.size≤9223372036854775807):laws_szWord.f x.f0 x.f1 x.f2 a=some (if a - (x.f0.size:Int)<0 then -1 else a - (x.f0.size:Int)):=by
  unfold laws_szWord.f
  rw [w64 (by omega)]
  split<;>rfl
theorem szWord_loop (l:List S71) (hx: ∀x∈l,x.f0.size≤9223372036854775807) (hl:l.length≤1048576): ∀d k (i:Nat) (a:Int),i+d=l.length→d<k→0≤a→a≤1048576→
    ∃t,laws_szWordS.l0 k l a (i:Int)=some t∧t≤a∧(¬t<0→ ∀j,i≤j→j<l.length→(l.getD j z71).f0.size≤1048576)
  |0,k,i,a,h,hk,h0,h1=>by
    obtain⟨k,rfl⟩: ∃m,k=m+1:=⟨k - 1,by omega⟩
    simp only [laws_szWordS.l0]
    rw [if_neg (by omega)]
    exact⟨a,rfl,Int.le_refl _,fun _ j h1 h2=>by omega⟩
  |d+1,k,i,a,h,hk,h0,h1=>by
    obtain⟨k,rfl⟩: ∃m,k=m+1:=⟨k - 1,by omega⟩
    simp only [laws_szWordS.l0]
    have hm:l.getD i z71∈l:=by
      rw [List.getD_eq_getElem?_getD,List.getElem?_eq_getElem (by omega:i<l.length)]
      exact List.getElem_mem _
    rw [if_pos (by omega),if_pos (by omega),rdV_nat,laws_szWord_eq _ a h0 h1 (hx _ hm),Option.bind_some]
    by_cases h3:a - ((l.getD i z71).f0.size:Int)<0
    · rw [if_pos h3,if_pos (by omega)]
      exact⟨-1,rfl,by omega,fun e=>absurd (by omega) e⟩
    · rw [if_neg h3,if_neg h3,w64 (n:=(i:Int)+1) (by omega),show (i:Int)+1=((i+1:Nat):Int) by omega]
      obtain⟨t,e1,e2,e3⟩:=szWord_loop l hx hl d k (i+1) (a - ((l.getD i z71).f0.size:Int)) (by omega) (by omega) (by omega) (by omega)
      refine⟨t,e1,by omega,fun hn j hj1 hj2=> ?_⟩
      rcases Nat.eq_or_lt_of_le hj1 with rfl|h4
      · omega
      · exact e3 hn j h4 hj2
theorem laws_szWordS_eq (l:List S71) (hl:l.length≤9223372036854775807) (hx: ∀x∈l,x.f0.size≤9223372036854775807) (a:Int) (h0:0≤a) (h1:a≤1048576) (k:Nat) (hk:1048576<k):
    ∃t,laws_szWordS.f k l a=some t∧t≤a∧(¬t<0→l.length≤1048576∧ ∀j,j<l.length→(l.getD j z71).f0.size≤1048576):=by
  unfold laws_szWordS.f
  rw [w64 (by omega)]
  by_cases h3:a - (l.length:Int)<0
  · rw [if_pos h3]
    exact⟨-1,rfl,by omega,fun e=>absurd (by omega) e⟩
  · rw [if_neg h3]
    obtain⟨t,e1,e2,e3⟩:=szWord_loop l hx (by omega) l.length k 0 (a - (l.length:Int)) (by omega) (by omega) (by omega) (by omega)
    exact⟨t,e1,by omega,fun hn=>⟨by omega,fun j hj=>e3 hn j (Nat.zero_le _) hj⟩⟩
theorem laws_toWordS_eq (l:List S71) (hl:l.length≤1048576) (k:Nat) (hk:l.length<k):laws_toWordS.f k l=some (l.map toW):=by
  unfold laws_toWordS.f
  rw [if_pos (by omega),if_pos (by simp;omega)]
  have h:=loop_copy (fun k x i=>laws_toWordS.l0 k l x i) l toW z75 z71 (fun k x i hi hx=>by
    simp only [laws_toWordS.l0,laws_toWord.f,Option.bind_some]
    rw [if_pos (by omega),if_pos (by omega),if_pos (by omega),rdV_nat,Int.toNat_natCast,w64 (by omega)]
    rfl) (fun k x=>by
    simp only [laws_toWordS.l0]
    rw [if_neg (by omega)]) k hk
  simpa using h
theorem toW_sizes (l:List S71) (h: ∀j,j<l.length→(l.getD j z71).f0.size≤1048576): ∀x∈l.map toW,x.f0.size≤1048576:=by
  intro x hx
  obtain⟨y,hy,rfl⟩:=List.mem_map.mp hx
  obtain⟨j,hj,rfl⟩:=List.mem_iff_getElem.mp hy
  have:=h j hj
  rw [List.getD_eq_getElem?_getD,List.getElem?_eq_getElem hj]at this
  exact this
theorem rdW_nat (l:List S75) (i:Nat):rd_T75 l (i:Int)=l.getD i z75:=by simp [rd_T75]
theorem eq_toList {a b:ByteArray}:a.toList=b.toList↔a=b:=⟨fun h=>by
  rw [ByteArray.toList_eq,ByteArray.toList_eq]at h
  exact ByteArray.ext (Array.toList_inj.mp h),fun h=>by rw [h]⟩
/-- The words of the kernel. -/
def kernel:List S75:=(spec_l04Kernel.f 300).getD []
theorem kernel_len:kernel.length=83:=by kernel_rfl
theorem spec_l04Kernel_eq (k:Nat) (hk:300≤k):spec_l04Kernel.f k=some kernel:=by
  have h:spec_l04Kernel.f 300=some kernel:=by kernel_rfl
  exact at_rounds (fun k=>spec_l04Kernel.mono k) hk h
theorem impl_KernelWords_eq (k:Nat) (hk:300≤k):impl_KernelWords.f k=some kernel:=by
  have h:impl_KernelWords.f 300=some kernel:=by kernel_rfl
  exact at_rounds (fun k=>impl_KernelWords.mono k) hk h
/-- The name of a word. -/
def wordOK (s:ByteArray):Bool:=inR (s.size:Int) 1 12&&allF (fun j=>inR (bt s (j:Int)) 33 126) s.size 0
theorem spec_l02Word_eq (s:ByteArray) (hs:s.size≤140737488351232) (k:Nat) (hk:s.size<k):spec_l02Word.f k s=some (wordOK s):=by
  unfold spec_l02Word.f
  rw [spec_l01In_eq,Option.bind_some]
  by_cases h1:inR (s.size:Int) 1 12=true
  · rw [if_pos h1]
    have h:=loop_all0 (fun k i=>spec_l02Word.l0 k s i) s.size (fun j=>inR (bt s (j:Int)) 33 126) true (fun k i hi=>by
      have hb:=bt_range s (i:Int)
      simp only [spec_l02Word.l0]
      rw [if_pos (by omega),if_pos (by omega),w64 (by omega),w64 (by omega),spec_l01In_eq,Option.bind_some]) (fun k=>by
      simp only [spec_l02Word.l0]
      rw [if_neg (by omega)]) k hk
    rw [h,wordOK,h1]
    simp
  · rw [if_neg h1]
    simp only [Bool.not_eq_true]at h1
    simp [wordOK,h1]
theorem impl_WordOK_eq (s:ByteArray) (hs:s.size≤140737488351232) (k:Nat) (hk:s.size<k):impl_WordOK.f k s=some (wordOK s):=by
  unfold impl_WordOK.f
  have h:=loop_all0 (fun k i=>impl_WordOK.l0 k s (s.size:Int) i) s.size (fun j=>inR (bt s (j:Int)) 33 126) (inR (s.size:Int) 1 12) (fun k i hi=>by
    simp only [impl_WordOK.l0]
    rw [if_pos (by omega),if_pos (by omega),if_pos (by omega),w64 (by omega)]
    by_cases h1:bt s (i:Int)<33
    · have h3:inR (bt s (i:Int)) 33 126=false:=by simp [inR];omega
      rw [if_pos h1,h3]
      simp
    · by_cases h2:bt s (i:Int)>126
      · have h3:inR (bt s (i:Int)) 33 126=false:=by simp [inR];omega
        rw [if_neg h1,if_pos h2,h3]
        simp
      · have h3:inR (bt s (i:Int)) 33 126=true:=by simp [inR];omega
        rw [if_neg h1,if_neg h2,h3]
        simp) (fun k=>by
    simp only [impl_WordOK.l0]
    rw [if_neg (by omega),impl_in_eq]
    rfl) k hk
  rw [h,wordOK,Bool.and_comm]

/-- A word of a script. -/
def userOK (x:S75):Bool:=wordOK x.f0&&(if x.f1=6 then inR x.f2 0 399 else if x.f1=7 then(inR x.f2 4096 4220&&(Int.tmod x.f2 4==0))else if x.f1=8 then isCell x.f2 else false)
theorem spec_l04User_eq (x:S75) (hs:x.f0.size≤1048576) (k:Nat) (hk:1048576<k):spec_l04User.f k x.f0 x.f1 x.f2=some (userOK x):=by
  unfold spec_l04User.f userOK
  rw [spec_l02Word_eq x.f0 (by omega) k (by omega),Option.bind_some]
  cases wordOK x.f0
  · rfl
  · rw [if_pos rfl,spec_l01In_eq,spec_l01In_eq,spec_l01Cell_eq]
    simp only [Option.bind_some,Bool.true_and]
    by_cases h6:x.f1=6
    · rw [if_pos h6,if_pos h6]
    · rw [if_neg h6,if_neg h6]
      by_cases h7:x.f1=7
      · rw [if_pos h7,if_pos h7]
        cases inR x.f2 4096 4220<;>rfl
      · rw [if_neg h7,if_neg h7]
        by_cases h8:x.f1=8
        · rw [if_pos h8,if_pos h8]
        · rw [if_neg h8,if_neg h8]
theorem inR_cells (n:Int):(inR n 4096 4223&&(Int.tmod n 4==0))=(inR n 4096 4220&&(Int.tmod n 4==0)):=by
  rw [Bool.eq_iff_iff,Bool.and_eq_true,Bool.and_eq_true,inR_iff,inR_iff,beq_iff_eq]
  constructor
  · rintro⟨h1,h2⟩
    rw [Int.tmod_eq_emod_of_nonneg (by omega)]at h2
    refine⟨by omega,?_⟩
    rw [Int.tmod_eq_emod_of_nonneg (by omega)]
    exact h2
  · rintro⟨h1,h2⟩
    exact⟨by omega,h2⟩
theorem impl_isScript_eq (x:S75) (hs:x.f0.size≤1048576) (k:Nat) (hk:1048576<k):impl_Word_isScript.f k x.f0 x.f1 x.f2=some (userOK x):=by
  unfold impl_Word_isScript.f userOK
  rw [impl_WordOK_eq x.f0 (by omega) k (by omega),impl_in_eq,impl_in_eq,impl_CellOK_eq]
  simp only [Option.bind_some]
  by_cases h6:x.f1=6
  · rw [if_pos h6,if_pos h6]
    cases wordOK x.f0<;>rfl
  · rw [if_neg h6,if_neg h6]
    by_cases h7:x.f1=7
    · rw [if_pos h7,if_pos h7,←inR_cells]
      cases wordOK x.f0
      · rfl
      · cases inR x.f2 4096 4223<;>rfl
    · rw [if_neg h7,if_neg h7]
      by_cases h8:x.f1=8
      · rw [if_pos h8,if_pos h8]
        cases wordOK x.f0<;>rfl
      · rw [if_neg h8,if_neg h8]
        simp


/-- Words that are equal. -/
def sameW (a b:S75):Bool:=(a.f0.toList==b.f0.toList)&&((a.f1==b.f1)&&(a.f2==b.f2))
theorem sameW_neg (a b:S75):((!((a.f0.toList)==(b.f0.toList)))||((!((a.f1)==(b.f1)))||(!((a.f2)==(b.f2)))))= !sameW a b:=by
  unfold sameW
  cases (a.f0.toList==b.f0.toList)<;>cases (a.f1==b.f1)<;>cases (a.f2==b.f2)<;>rfl
/-- The kernel stands at the head. -/
def headK (l:List S75):Bool:=decide (83≤l.length)&&allF (fun j=>sameW (l.getD j z75) (kernel.getD j z75)) 83 0
theorem spec_l04Same_eq (l:List S75) (hl:l.length≤1048576) (k:Nat) (hk:400<k):spec_l04Same.f k l=some (headK l):=by
  have hk0:=spec_l04Kernel_eq k (by omega)
  unfold spec_l04Same.f headK
  rw [hk0,Option.bind_some,kernel_len]
  by_cases h1:83≤l.length
  · rw [if_neg (by omega)]
    have h:=loop_all0 (fun k i=>spec_l04Same.l0 k l kernel i) 83 (fun j=>sameW (l.getD j z75) (kernel.getD j z75)) true (fun k i hi=>by
      simp only [spec_l04Same.l0]
      rw [if_pos (by rw [kernel_len];omega),if_pos (by omega),if_pos (by omega),rdW_nat,rdW_nat,sameW_neg,w64 (by omega)]
      cases sameW (l.getD i z75) (kernel.getD i z75)<;>rfl) (fun k=>by
      simp only [spec_l04Same.l0]
      rw [if_neg (by rw [kernel_len];omega)]) k (by omega)
    rw [h,Bool.and_true]
    simp [h1]
  · rw [if_pos (by omega)]
    simp [h1]
theorem isLong_word (l:List S75) (k:Nat) (hk:2<k):impl_isLong_Word.f k [l]=some (decide ((l.length:Int)>4096)):=by
  obtain⟨k,rfl⟩: ∃m,k=m+2:=⟨k - 2,by omega⟩
  simp only [impl_isLong_Word.f,slices_ContainsFunc_Word_at_impl_isLong_Word_1.f,slices_IndexFunc_Word_at_impl_isLong_Word_1.f,slices_IndexFunc_Word_at_impl_isLong_Word_1.l0,impl_isLong_Word_1.f]
  first|simp only [rd_L5]|simp only [rd_L6]|simp only [rd_L7]|simp only [rd_L4]|simp only [rd_L10]
  by_cases h:(l.length:Int)>4096<;>simp [h,wrap64]
theorem impl_KernelSame_eq (l:List S75) (hl:l.length≤1048576) (k:Nat) (hk:400<k):impl_KernelSame.f k l=some (decide (l.length≤4096)&&headK l):=by
  unfold impl_KernelSame.f headK
  by_cases h1:83≤l.length
  · rw [if_pos (by omega),isLong_word l k (by omega),Option.bind_some]
    by_cases h2:l.length≤4096
    · have h3: ¬(l.length:Int)>4096:=by omega
      rw [if_neg (by simp;omega),if_pos (by omega),impl_KernelWords_eq k (by omega),Option.bind_some]
      unfold slices_Equal_Word.f
      have ht:(l.take 83).length=83:=by rw [List.length_take];omega
      rw [if_pos (by rw [ht,kernel_len])]
      have h:=loop_all0 (fun k i=>slices_Equal_Word.l0 k (l.take 83) kernel ((l.take 83).length:Int) i) 83 (fun j=>sameW (l.getD j z75) (kernel.getD j z75)) true (fun k i hi=>by
        have e:(l.take 83).getD i z75=l.getD i z75:=by simp [List.getD_eq_getElem?_getD,List.getElem?_take,hi]
        simp only [slices_Equal_Word.l0]
        rw [if_pos (by omega),if_pos (by omega),if_pos (by omega),if_pos (by rw [kernel_len];omega),rdW_nat,rdW_nat,sameW_neg,w64 (by omega),e]
        cases sameW (l.getD i z75) (kernel.getD i z75)<;>rfl) (fun k=>by
        simp only [slices_Equal_Word.l0]
        rw [if_neg (by omega)]) k (by omega)
      rw [h,Bool.and_true]
      simp [h1,h2]
    · rw [if_pos (by simp;omega)]
      simp [h2]
  · rw [if_neg (by omega)]
    simp [h1]


/-- A valid dictionary. -/
def dictOK (l:List S75):Bool:=decide (l.length≤103)&&headK l&&allF (fun j=>userOK (l.getD j z75)) (l.length - 83) 83
theorem sz_getD (l:List S75) (hx: ∀x∈l,x.f0.size≤1048576) (i:Nat) (hi:i<l.length):(l.getD i z75).f0.size≤1048576:=by
  rw [List.getD_eq_getElem?_getD,List.getElem?_eq_getElem hi]
  exact hx _ (List.getElem_mem _)
theorem headK_len {l:List S75} (h:headK l=true):83≤l.length:=by
  unfold headK at h
  simp only [Bool.and_eq_true,decide_eq_true_eq]at h
  exact h.1
theorem spec_l04OK_eq (l:List S75) (hl:l.length≤1048576) (hx: ∀x∈l,x.f0.size≤1048576) (k:Nat) (hk:1048800≤k):spec_l04OK.f k l=some (dictOK l):=by
  unfold spec_l04OK.f dictOK
  obtain⟨q,c,rfl,hc,hq⟩: ∃q c,k=q+c+1∧1048576<c∧110<q:=⟨k - 1048578,1048577,by omega,by omega,by omega⟩
  by_cases h1:l.length≤103
  · rw [if_neg (by omega),spec_l04Same_eq l hl _ (by omega),Option.bind_some]
    simp only [spec_l04OK.j0]
    cases h2:headK l
    · simp
    · have h3:=headK_len h2
      rw [if_neg (show¬(!true)=true by decide)]
      have h:=loop_all (fun k i=>spec_l04OK.l0 (k+c) l i) l.length (fun j=>userOK (l.getD j z75)) true (fun k i hi=>by
        simp only [show k+1+c=(k+c)+1 by omega,spec_l04OK.l0]
        rw [if_pos (by omega),if_pos (by omega),rdW_nat,spec_l04User_eq _ (sz_getD l hx i hi) (k+c) (by omega),Option.bind_some,w64 (by omega)]) (fun k=>by
        simp only [show k+1+c=(k+c)+1 by omega,spec_l04OK.l0]
        rw [if_neg (by omega)]) (l.length - 83) q 83 (by omega) (by omega)
      rw [show (83:Int)=((83:Nat):Int)from rfl,h]
      simp [h1]
  · rw [if_pos (by omega)]
    simp only [spec_l04OK.j0]
    simp [h1]
theorem idx_user (l:List S75) (hl:l.length≤1048576) (hx: ∀x∈l,x.f0.size≤1048576) (c:Nat) (hc:1048576<c): ∀d k (i:Nat),i+d=l.length→d<k→
    ∃r,slices_IndexFunc_Word_at_impl_DictOK_1.l0 (k+c) l (l.length:Int) (i:Int)=some r∧(!decide (r≥0))=allF (fun j=>userOK (l.getD j z75)) d i
  |0,k,i,h,hk=>by
    obtain⟨k,rfl⟩: ∃m,k=m+1:=⟨k - 1,by omega⟩
    refine⟨-1,?_,by simp [allF]⟩
    simp only [show k+1+c=(k+c)+1 by omega,slices_IndexFunc_Word_at_impl_DictOK_1.l0]
    rw [if_neg (by omega)]
  |d+1,k,i,h,hk=>by
    obtain⟨k,rfl⟩: ∃m,k=m+1:=⟨k - 1,by omega⟩
    obtain⟨r,hr,hq⟩:=idx_user l hl hx c hc d k (i+1) (by omega) (by omega)
    simp only [show k+1+c=(k+c)+1 by omega,slices_IndexFunc_Word_at_impl_DictOK_1.l0]
    rw [if_pos (by omega),if_pos (by omega),if_pos (by omega),rdW_nat,w64 (by omega),show (i:Int)+1=((i+1:Nat):Int) by omega,hr]
    unfold impl_DictOK_1.f
    rw [impl_isScript_eq _ (sz_getD l hx i (by omega)) (k+c) (by omega)]
    simp only [Option.bind_some,allF]
    cases hp:userOK (l.getD i z75)
    · refine⟨(i:Int),by simp,?_⟩
      simp
    · refine⟨r,by simp,?_⟩
      rw [hq]
      simp
theorem allF_drop (l:List S75) (n:Nat): ∀d i,allF (fun j=>userOK ((l.drop n).getD j z75)) d i=allF (fun j=>userOK (l.getD j z75)) d (i+n)
  |0,_=>rfl
  |d+1,i=>by
    simp only [allF]
    rw [allF_drop l n d (i+1),show i+1+n=i+n+1 by omega]
    simp [List.getD_eq_getElem?_getD,List.getElem?_drop,Nat.add_comm]
theorem impl_DictOK_eq (l:List S75) (hl:l.length≤1048576) (hx: ∀x∈l,x.f0.size≤1048576) (k:Nat) (hk:1048800≤k):impl_DictOK.f k l=some (dictOK l):=by
  unfold impl_DictOK.f dictOK
  obtain⟨q,c,rfl,hc,hq⟩: ∃q c,k=q+c∧1048576<c∧110<q:=⟨k - 1048577,1048577,by omega,by omega,by omega⟩
  by_cases h1:l.length≤103
  · rw [if_pos (by omega),impl_KernelSame_eq l hl _ (by omega),Option.bind_some]
    have h5:decide (l.length≤4096)=true:=decide_eq_true (by omega)
    rw [h5]
    cases h2:headK l
    · simp
    · have h3:=headK_len h2
      have hd:(l.drop 83).length=l.length - 83:=by simp
      obtain⟨r,hr,hqq⟩:=idx_user (l.drop 83) (by omega) (fun x hxx=>hx x (List.mem_of_mem_drop hxx)) c hc (l.length - 83) q 0 (by omega) (by omega)
      rw [if_pos (by rfl),if_pos (by omega)]
      unfold slices_ContainsFunc_Word_at_impl_DictOK_1.f slices_IndexFunc_Word_at_impl_DictOK_1.f
      rw [show (0:Int)=((0:Nat):Int)from rfl,hr]
      simp only [Option.bind_some]
      rw [allF_drop,Nat.zero_add]at hqq
      have hqq':(!decide (r≥((0:Nat):Int)))=allF (fun j=>userOK (l.getD j z75)) (l.length - 83) 83:=hqq
      rw [hqq']
      simp [h1]
  · rw [if_neg (by omega)]
    simp [h1]
theorem laws_eqIntS_eq (a b:List Int) (ha:a.length≤1048576) (k:Nat) (hk:a.length<k):laws_eqIntS.f k a b=some (decide (a=b)):=by
  unfold laws_eqIntS.f
  by_cases h:(a.length:Int)=(b.length:Int)
  · have h':a.length=b.length:=by omega
    rw [if_pos h,list_eq_iff a b h']
    have hl:=loop_all0 (fun k i=>laws_eqIntS.l0 k a b i) a.length (fun j=>decide (a.getD j 0=b.getD j 0)) true (fun k i hi=>by
      simp only [laws_eqIntS.l0]
      rw [if_pos (by omega),if_pos (by omega),if_pos (by omega),rd_nat,rd_nat,w64 (by omega)]
      by_cases h3:a.getD i 0=b.getD i 0<;>simp [h3]) (fun k=>by
      simp only [laws_eqIntS.l0]
      rw [if_neg (by omega)]) k hk
    rw [hl,Bool.and_true]
  · rw [if_neg h]
    have h2: ¬a=b:=by rintro rfl;exact h rfl
    simp [h2]
theorem set_take (l:List Int) (i:Nat) (hi:i<l.length):(l.take i++List.replicate (l.length - i) 0).set i (l.getD i 0)=l.take (i+1)++List.replicate (l.length - (i+1)) 0:=by
  have hr:List.replicate (l.length - i) (0:Int)=0::List.replicate (l.length - (i+1)) 0:=by
    rw [show l.length - i=(l.length - (i+1))+1 by omega,List.replicate_succ]
  have hg:l.getD i 0=l[i]:=by simp [List.getD_eq_getElem?_getD,List.getElem?_eq_getElem hi]
  rw [hr,List.set_append,if_neg (by rw [List.length_take];omega),hg,List.length_take,Nat.min_eq_left (Nat.le_of_lt hi),Nat.sub_self,List.set_cons_zero,List.take_succ_eq_append_getElem hi,List.append_assoc]
  rfl
theorem laws_toIntS_eq (l:List Int) (hl:l.length≤1048576) (k:Nat) (hk:l.length<k):laws_toIntS.f k l=some l:=by
  unfold laws_toIntS.f
  rw [if_pos (by omega),if_pos (by simp;omega)]
  have key: ∀d k (i:Nat),i+d=l.length→d<k→laws_toIntS.l0 k l (l.take i++List.replicate (l.length - i) 0) (i:Int)=some l:=by
    intro d
    induction d with
    |zero=>
      intro k i h hk
      obtain⟨k,rfl⟩: ∃m,k=m+1:=⟨k - 1,by omega⟩
      simp only [laws_toIntS.l0]
      rw [if_neg (by omega),List.take_of_length_le (by omega),show l.length - i=0 by omega]
      simp
    |succ d ih=>
      intro k i h hk
      obtain⟨k,rfl⟩: ∃m,k=m+1:=⟨k - 1,by omega⟩
      simp only [laws_toIntS.l0]
      rw [if_pos (by omega),if_pos (by omega),if_pos (by simp;omega),rd_nat,Int.toNat_natCast,set_take l i (by omega),w64 (by omega),show (i:Int)+1=((i+1:Nat):Int) by omega]
      exact ih k (i+1) (by omega) (by omega)
  have h:=key l.length k 0 (by omega) hk
  simpa using h
theorem laws_szIntS_eq (l:List Int) (a:Int) (h0:0≤a) (h1:a≤1048576) (hl:l.length≤9223372036854775807):laws_szIntS.f l a=some (if a - (l.length:Int)<0 then -1 else a - (l.length:Int)):=by
  unfold laws_szIntS.f
  rw [w64 (by omega)]
  split<;>rfl

theorem rdOf_nat {α:Type} (z:α) (l:List α) (i:Nat):rdOf z l (i:Int)=l.getD i z:=by simp [rdOf]
theorem rd88_nat (l:List S88) (i:Nat):rd_T88 l (i:Int)=l.getD i z88:=by simp [rd_T88]
theorem rd95_nat (l:List S95) (i:Nat):rd_T95 l (i:Int)=l.getD i z95:=by simp [rd_T95]
theorem laws_eqBoolS_refl (a:List Bool) (ha:a.length≤1048576) (k:Nat) (hk:a.length<k):laws_eqBoolS.f k a a=some true:=by
  unfold laws_eqBoolS.f
  rw [if_pos rfl]
  have hl:=loop_all0 (fun k i=>laws_eqBoolS.l0 k a a i) a.length (fun _=>true) true (fun k i hi=>by
    simp only [laws_eqBoolS.l0]
    rw [if_pos (by omega),if_pos (by omega),if_pos (by omega),w64 (by omega)]
    simp) (fun k=>by
    simp only [laws_eqBoolS.l0]
    rw [if_neg (by omega)]) k hk
  rw [hl,allF_true _ _ (fun _ _ _=>rfl)]
  rfl
theorem laws_eqDeedS_refl (a:List S88) (ha:a.length≤1048576) (k:Nat) (hk:a.length<k):laws_eqDeedS.f k a a=some true:=by
  unfold laws_eqDeedS.f
  rw [if_pos rfl]
  have hl:=loop_all0 (fun k i=>laws_eqDeedS.l0 k a a i) a.length (fun _=>true) true (fun k i hi=>by
    simp only [laws_eqDeedS.l0]
    rw [if_pos (by omega),if_pos (by omega),if_pos (by omega),w64 (by omega)]
    unfold laws_eqDeed.f
    simp) (fun k=>by
    simp only [laws_eqDeedS.l0]
    rw [if_neg (by omega)]) k hk
  rw [hl,allF_true _ _ (fun _ _ _=>rfl)]
  rfl
theorem laws_eqHost_refl (g:List Bool) (c s:List Int) (n:Int) (d:List S88) (hg:g.length≤1048576) (hc:c.length≤1048576) (hs:s.length≤1048576) (hd:d.length≤1048576) (k:Nat) (hk:1048576<k):laws_eqHost.f k g c s n d g c s n d=some true:=by
  unfold laws_eqHost.f
  rw [laws_eqBoolS_refl g hg k (by omega),laws_eqIntS_eq c c hc k (by omega),laws_eqIntS_eq s s hs k (by omega),laws_eqDeedS_refl d hd k (by omega)]
  simp
/-- The deed of a deed as the law holds it. -/
def toD (x:S95):S88:=⟨x.f0,x.f1,x.f2,x.f3⟩
theorem laws_toBoolS_eq (l:List Bool) (hl:l.length≤1048576) (k:Nat) (hk:l.length<k):laws_toBoolS.f k l=some l:=by
  unfold laws_toBoolS.f
  rw [if_pos (by omega),if_pos (by simp;omega)]
  have h:=loop_copy (fun k x i=>laws_toBoolS.l0 k l x i) l id false false (fun k x i hi hx=>by
    simp only [laws_toBoolS.l0]
    rw [if_pos (by omega),if_pos (by omega),if_pos (by omega),rdOf_nat,Int.toNat_natCast,w64 (by omega)]
    rfl) (fun k x=>by
    simp only [laws_toBoolS.l0]
    rw [if_neg (by omega)]) k hk
  simpa using h
theorem laws_toDeedS_eq (l:List S95) (hl:l.length≤1048576) (k:Nat) (hk:l.length<k):laws_toDeedS.f k l=some (l.map toD):=by
  unfold laws_toDeedS.f
  rw [if_pos (by omega),if_pos (by simp;omega)]
  have h:=loop_copy (fun k x i=>laws_toDeedS.l0 k l x i) l toD z88 z95 (fun k x i hi hx=>by
    simp only [laws_toDeedS.l0,laws_toDeed.f,Option.bind_some]
    rw [if_pos (by omega),if_pos (by omega),if_pos (by omega),rd95_nat,Int.toNat_natCast,w64 (by omega)]
    rfl) (fun k x=>by
    simp only [laws_toDeedS.l0]
    rw [if_neg (by omega)]) k hk
  simpa using h
theorem laws_toHost_eq (g:List Bool) (c s:List Int) (n:Int) (d:List S95) (hg:g.length≤1048576) (hc:c.length≤1048576) (hs:s.length≤1048576) (hd:d.length≤1048576) (k:Nat) (hk:1048576<k):laws_toHost.f k g c s n d=some (g,c,s,n,d.map toD):=by
  unfold laws_toHost.f
  rw [laws_toBoolS_eq g hg k (by omega),laws_toIntS_eq c hc k (by omega),laws_toIntS_eq s hs k (by omega),laws_toDeedS_eq d hd k (by omega)]
  simp
theorem laws_szHost_eq (g:List Bool) (c s:List Int) (n:Int) (d:List S95) (a:Int) (h0:0≤a) (h1:a≤1048576) (hg:g.length≤9223372036854775807) (hc:c.length≤9223372036854775807) (hs:s.length≤9223372036854775807) (hd:d.length≤9223372036854775807):
    ∃t,laws_szHost.f g c s n d a=some t∧t≤a∧(¬t<0→g.length≤1048576∧c.length≤1048576∧s.length≤1048576∧d.length≤1048576):=by
  unfold laws_szHost.f
  unfold laws_szBoolS.f
  rw [w64 (by omega)]
  by_cases c0:a - (g.length:Int)<0
  · rw [if_pos c0,Option.bind_some,if_pos (by omega)]
    exact⟨-1,rfl,by omega,fun h=>absurd (by omega) h⟩
  · rw [if_neg c0,Option.bind_some,if_neg c0,laws_szIntS_eq c _ (by omega) (by omega) hc,Option.bind_some]
    by_cases c1:a - (g.length:Int) - (c.length:Int)<0
    · rw [if_pos c1,if_pos (by omega)]
      exact⟨-1,rfl,by omega,fun h=>absurd (by omega) h⟩
    · rw [if_neg c1,if_neg c1,laws_szIntS_eq s _ (by omega) (by omega) hs,Option.bind_some]
      by_cases c2:a - (g.length:Int) - (c.length:Int) - (s.length:Int)<0
      · rw [if_pos c2,if_pos (by omega)]
        exact⟨-1,rfl,by omega,fun h=>absurd (by omega) h⟩
      · rw [if_neg c2,if_neg c2]
        unfold laws_szDeedS.f
        rw [w64 (by omega)]
        by_cases c3:a - (g.length:Int) - (c.length:Int) - (s.length:Int) - (d.length:Int)<0
        · rw [if_pos c3,Option.bind_some,if_pos (by omega)]
          exact⟨-1,rfl,by omega,fun h=>absurd (by omega) h⟩
        · rw [if_neg c3,Option.bind_some,if_neg c3]
          exact⟨_,rfl,by omega,fun _=>by omega⟩
theorem spec_l03Cells_eq (l:List Int) (hl:l.length≤1048576) (k:Nat) (hk:l.length<k):spec_l03Cells.f k l=some (l.all isCell):=by
  unfold spec_l03Cells.f
  have h:=loop_all0 (fun k i=>spec_l03Cells.l0 k l i) l.length (fun j=>isCell (l.getD j 0)) true (fun k i hi=>by
    simp only [spec_l03Cells.l0]
    rw [if_pos (by omega),if_pos (by omega),rd_nat,spec_l01Cell_eq,Option.bind_some,w64 (by omega)]) (fun k=>by
    simp only [spec_l03Cells.l0]
    rw [if_neg (by omega)]) k hk
  rw [h,allF_all isCell 0 l l.length 0 (by omega)]
  simp
theorem idx_cells (l:List Int) (hl:l.length≤1048576): ∀d k (i:Nat),i+d=l.length→d<k→
    ∃r,slices_IndexFunc_int_at_impl_areCells_1.l0 k l (l.length:Int) (i:Int)=some r∧(!decide (r≥0))=allF (fun j=>isCell (l.getD j 0)) d i
  |0,k,i,h,hk=>by
    obtain⟨k,rfl⟩: ∃m,k=m+1:=⟨k - 1,by omega⟩
    refine⟨-1,?_,by simp [allF]⟩
    simp only [slices_IndexFunc_int_at_impl_areCells_1.l0]
    rw [if_neg (by omega)]
  |d+1,k,i,h,hk=>by
    obtain⟨k,rfl⟩: ∃m,k=m+1:=⟨k - 1,by omega⟩
    obtain⟨r,hr,hq⟩:=idx_cells l hl d k (i+1) (by omega) (by omega)
    simp only [slices_IndexFunc_int_at_impl_areCells_1.l0]
    rw [if_pos (by omega),if_pos (by omega),if_pos (by omega),rd_nat,w64 (by omega),show (i:Int)+1=((i+1:Nat):Int) by omega,hr]
    unfold impl_areCells_1.f
    rw [impl_CellOK_eq]
    simp only [Option.bind_some,allF]
    cases hp:isCell (l.getD i 0)
    · refine⟨(i:Int),by simp,?_⟩
      simp
    · refine⟨r,by simp,?_⟩
      rw [hq]
      simp
theorem impl_areCells_eq (l:List Int) (m:Int) (hl:l.length≤1048576) (k:Nat) (hk:l.length<k):impl_areCells.f k l m=some (decide ((l.length:Int)≤m)&&l.all isCell):=by
  unfold impl_areCells.f
  by_cases h:(l.length:Int)≤m
  · obtain⟨r,hr,hq⟩:=idx_cells l hl l.length k 0 (by omega) hk
    rw [if_pos h]
    unfold slices_ContainsFunc_int_at_impl_areCells_1.f slices_IndexFunc_int_at_impl_areCells_1.f
    rw [show (0:Int)=((0:Nat):Int)from rfl,hr]
    simp only [Option.bind_some]
    rw [show ((0:Nat):Int)=0 from rfl,hq,allF_all isCell 0 l l.length 0 (by omega)]
    simp [h]
  · rw [if_neg h]
    simp [h]
/-- Valid data. -/
def dataOK (s b c:List Int) (h n:Int) (o:ByteArray):Bool:=
  decide (s.length≤32)&&decide (b.length≤32)&&decide (c.length=32)&&s.all isCell&&b.all isCell&&c.all isCell&&inR h 0 32&&inR n 2 16&&decide (o.size≤300)
theorem spec_l03OK_eq (s b c:List Int) (h n:Int) (o:ByteArray) (hs:s.length≤1048576) (hb:b.length≤1048576) (hc:c.length≤1048576) (k:Nat) (hk:1048576<k):spec_l03OK.f k s b c h n o=some (dataOK s b c h n o):=by
  unfold spec_l03OK.f spec_l01Base.f dataOK
  rw [spec_l03Cells_eq s hs k (by omega),spec_l03Cells_eq b hb k (by omega),spec_l03Cells_eq c hc k (by omega),spec_l01In_eq,spec_l01In_eq]
  simp only [Option.bind_some]
  by_cases h1:s.length≤32
  · by_cases h2:b.length≤32
    · by_cases h3:c.length=32
      · rw [if_pos (by omega),if_pos (by omega),if_pos (by omega)]
        cases s.all isCell<;>cases b.all isCell<;>cases c.all isCell<;>cases inR h 0 32<;>cases inR n 2 16<;>simp [h1,h2,h3]<;>omega
      · rw [if_pos (by omega),if_pos (by omega),if_neg (by omega)]
        simp [h3]
    · rw [if_pos (by omega),if_neg (by omega)]
      simp [h2]
  · rw [if_neg (by omega)]
    simp [h1]
theorem impl_DataOK_eq (s b c:List Int) (h n:Int) (o:ByteArray) (hs:s.length≤1048576) (hb:b.length≤1048576) (hc:c.length≤1048576) (k:Nat) (hk:1048576<k):impl_DataOK.f k s b c h n o=some (dataOK s b c h n o):=by
  unfold impl_DataOK.f impl_isBase.f dataOK
  rw [impl_areCells_eq s 32 hs k (by omega),impl_areCells_eq b 32 hb k (by omega),impl_areCells_eq c 32 hc k (by omega),impl_in_eq,impl_in_eq]
  simp only [Option.bind_some]
  by_cases h1:s.length≤32
  · by_cases h2:b.length≤32
    · by_cases h3:c.length=32
      · have e1:decide ((s.length:Int)≤32)=true:=by simp;omega
        have e2:decide ((b.length:Int)≤32)=true:=by simp;omega
        have e3:decide ((c.length:Int)≤32)=true:=by simp;omega
        rw [e1,e2,e3]
        cases s.all isCell<;>cases b.all isCell<;>cases c.all isCell<;>cases inR h 0 32<;>cases inR n 2 16<;>simp [h1,h2,h3]<;>omega
      · have e4: ¬(c.length:Int)=32:=by omega
        simp only [e4,if_false,h3,decide_false,Bool.and_false,Bool.false_and]
        cases (decide ((s.length:Int)≤32)&&s.all isCell)<;>cases (decide ((b.length:Int)≤32)&&b.all isCell)<;>cases (decide ((c.length:Int)≤32)&&c.all isCell)<;>simp
    · have e2:decide ((b.length:Int)≤32)=false:=by simp;omega
      rw [e2]
      cases (decide ((s.length:Int)≤32)&&s.all isCell)<;>simp [h2]
  · have e1:decide ((s.length:Int)≤32)=false:=by simp;omega
    rw [e1]
    simp [h1]


/-- A valid deed. -/
def deedOK (x:S88):Bool:=inR x.f0 0 3&&isCell x.f1&&isCell x.f2&&isCell x.f3
/-- A valid host. -/
def hostOK (g:List Bool) (c s:List Int) (n:Int) (d:List S88):Bool:=
  decide (g.length=4)&&decide (c.length=8)&&decide (s.length≤20)&&decide (d.length≤40)&&c.all isCell&&s.all isCell&&inR n 0 2147483647&&d.all deedOK
theorem spec_l06Deed_eq (a b c d:Int):spec_l06Deed.f a b c d=some (deedOK ⟨a,b,c,d⟩):=by
  unfold spec_l06Deed.f
  rw [spec_l01In_eq,spec_l01Cell_eq,spec_l01Cell_eq,spec_l01Cell_eq]
  simp only [Option.bind_some,deedOK]
  cases inR a 0 3<;>cases isCell b<;>cases isCell c<;>simp
theorem impl_isRight_eq (a b c d:Int):impl_Deed_isRight.f a b c d=some (deedOK ⟨a,b,c,d⟩):=by
  unfold impl_Deed_isRight.f impl_isCap.f
  rw [impl_in_eq,impl_CellOK_eq,impl_CellOK_eq,impl_CellOK_eq]
  simp only [Option.bind_some,deedOK]
  cases inR a 0 3<;>cases isCell b<;>cases isCell c<;>simp
theorem spec_l06OK_l0 (g:List Bool) (c s:List Int) (n:Int) (d:List S88) (hd:d.length≤1048576) (k:Nat) (hk:d.length<k):spec_l06OK.l0 k 0 g c s n d=some (d.all deedOK):=by
  have h:=loop_all0 (fun k i=>spec_l06OK.l0 k i g c s n d) d.length (fun j=>deedOK (d.getD j z88)) true (fun k i hi=>by
    simp only [spec_l06OK.l0]
    rw [if_pos (by omega),if_pos (by omega),rd88_nat,spec_l06Deed_eq,Option.bind_some,w64 (by omega)]) (fun k=>by
    simp only [spec_l06OK.l0]
    rw [if_neg (by omega)]) k hk
  rw [h,allF_all deedOK z88 d d.length 0 (by omega)]
  simp
theorem spec_l06OK_eq (g:List Bool) (c s:List Int) (n:Int) (d:List S88) (hg:g.length≤1048576) (hc:c.length≤1048576) (hs:s.length≤1048576) (hd:d.length≤1048576) (k:Nat) (hk:1048577<k):spec_l06OK.f k g c s n d=some (hostOK g c s n d):=by
  obtain⟨k,rfl⟩: ∃m,k=m+1:=⟨k - 1,by omega⟩
  unfold spec_l06OK.f hostOK
  rw [spec_l03Cells_eq c hc _ (by omega),spec_l03Cells_eq s hs _ (by omega),spec_l01In_eq]
  simp only [Option.bind_some,spec_l06OK.j0,if_true]
  rw [spec_l06OK_l0 g c s n d hd k (by omega)]
  by_cases h1:g.length=4
  · by_cases h2:c.length=8
    · by_cases h3:s.length≤20
      · by_cases h4:d.length≤40
        · rw [if_pos (by omega),if_pos (by omega),if_neg (by omega),if_neg (by omega)]
          cases c.all isCell<;>cases s.all isCell<;>cases inR n 0 2147483647<;>simp [h1,h2,h3,h4]
        · rw [if_pos (by omega),if_pos (by omega),if_neg (by omega),if_pos (by omega)]
          simp [h4]
      · rw [if_pos (by omega),if_pos (by omega),if_pos (by omega)]
        simp [h3]
    · rw [if_pos (by omega),if_neg (by omega)]
      simp [h2]
  · rw [if_neg (by omega)]
    simp [h1]
theorem idx_deeds (l:List S88) (hl:l.length≤1048576): ∀d k (i:Nat),i+d=l.length→d<k→
    ∃r,slices_IndexFunc_Deed_at_impl_HostOK_1.l0 k l (l.length:Int) (i:Int)=some r∧(!decide (r≥0))=allF (fun j=>deedOK (l.getD j z88)) d i
  |0,k,i,h,hk=>by
    obtain⟨k,rfl⟩: ∃m,k=m+1:=⟨k - 1,by omega⟩
    refine⟨-1,?_,by simp [allF]⟩
    simp only [slices_IndexFunc_Deed_at_impl_HostOK_1.l0]
    rw [if_neg (by omega)]
  |d+1,k,i,h,hk=>by
    obtain⟨k,rfl⟩: ∃m,k=m+1:=⟨k - 1,by omega⟩
    obtain⟨r,hr,hq⟩:=idx_deeds l hl d k (i+1) (by omega) (by omega)
    simp only [slices_IndexFunc_Deed_at_impl_HostOK_1.l0]
    rw [if_pos (by omega),if_pos (by omega),if_pos (by omega),rd88_nat,w64 (by omega),show (i:Int)+1=((i+1:Nat):Int) by omega,hr]
    unfold impl_HostOK_1.f
    rw [impl_isRight_eq]
    simp only [Option.bind_some,allF]
    cases hp:deedOK (l.getD i z88)
    · refine⟨(i:Int),by simp,?_⟩
      simp
    · refine⟨r,by simp,?_⟩
      rw [hq]
      simp
theorem contains_deeds (l:List S88) (hl:l.length≤1048576) (k:Nat) (hk:l.length<k):slices_ContainsFunc_Deed_at_impl_HostOK_1.f k l=some (!l.all deedOK):=by
  obtain⟨r,hr,hq⟩:=idx_deeds l hl l.length k 0 (by omega) hk
  unfold slices_ContainsFunc_Deed_at_impl_HostOK_1.f slices_IndexFunc_Deed_at_impl_HostOK_1.f
  rw [show (0:Int)=((0:Nat):Int)from rfl,hr]
  simp only [Option.bind_some]
  rw [allF_all deedOK z88 l l.length 0 (by omega)]at hq
  simp only [List.drop_zero]at hq
  rw [←hq]
  simp
theorem impl_HostOK_eq (g:List Bool) (c s:List Int) (n:Int) (d:List S88) (hg:g.length≤1048576) (hc:c.length≤1048576) (hs:s.length≤1048576) (hd:d.length≤1048576) (k:Nat) (hk:1048576<k):impl_HostOK.f k g c s n d=some (hostOK g c s n d):=by
  unfold impl_HostOK.f impl_isStore.f hostOK
  rw [impl_areCells_eq c 8 hc k (by omega),impl_areCells_eq s 20 hs k (by omega),impl_in_eq,contains_deeds d hd k (by omega)]
  simp only [Option.bind_some]
  by_cases h1:g.length=4
  · rw [if_pos (by omega)]
    by_cases h2:c.length=8
    · rw [if_pos (by omega)]
      have e1:decide ((c.length:Int)≤8)=true:=by simp;omega
      rw [e1]
      by_cases h3:s.length≤20
      · have e2:decide ((s.length:Int)≤20)=true:=by simp;omega
        rw [e2]
        by_cases h4:d.length≤40
        · have h5:(d.length:Int)≤40:=by omega
          rw [show (if(d.length:Int)≤40 then some (!!d.all deedOK)else some false)=some (d.all deedOK) by rw [if_pos h5];simp]
          generalize d.all deedOK=q
          cases c.all isCell<;>cases s.all isCell<;>cases inR n 0 2147483647<;>cases q<;>simp [h1,h2,h3,h4]
        · have h5: ¬(d.length:Int)≤40:=by omega
          rw [show (if(d.length:Int)≤40 then some (!!d.all deedOK)else some false)=some false by rw [if_neg h5]]
          cases c.all isCell<;>cases s.all isCell<;>cases inR n 0 2147483647<;>simp [h1,h2,h3,h4]
      · have e2:decide ((s.length:Int)≤20)=false:=by simp;omega
        rw [e2]
        cases c.all isCell<;>simp [h3]
    · rw [if_neg (by omega)]
      simp [h2]
  · rw [if_neg (by omega)]
    simp [h1]



theorem laws_eqData_refl (s b c:List Int) (h n:Int) (o:ByteArray) (hs:s.length≤1048576) (hb:b.length≤1048576) (hc:c.length≤1048576) (k:Nat) (hk:1048576<k):laws_eqData.f k s b c h n o s b c h n o=some true:=by
  unfold laws_eqData.f
  rw [laws_eqIntS_eq s s hs k (by omega),laws_eqIntS_eq b b hb k (by omega),laws_eqIntS_eq c c hc k (by omega)]
  simp
theorem laws_toData_eq (s b c:List Int) (h n:Int) (o:ByteArray) (hs:s.length≤1048576) (hb:b.length≤1048576) (hc:c.length≤1048576) (k:Nat) (hk:1048576<k):laws_toData.f k s b c h n o=some (s,b,c,h,n,o):=by
  unfold laws_toData.f
  rw [laws_toIntS_eq s hs k (by omega),laws_toIntS_eq b hb k (by omega),laws_toIntS_eq c hc k (by omega)]
  simp
theorem laws_szData_eq (s b c:List Int) (h n:Int) (o:ByteArray) (a:Int) (h0:0≤a) (h1:a≤1048576) (hs:s.length≤9223372036854775807) (hb:b.length≤9223372036854775807) (hc:c.length≤9223372036854775807) (ho:o.size≤9223372036854775807):
    ∃t,laws_szData.f s b c h n o a=some t∧t≤a∧(¬t<0→s.length≤1048576∧b.length≤1048576∧c.length≤1048576∧o.size≤1048576):=by
  unfold laws_szData.f
  rw [laws_szIntS_eq s a h0 h1 hs,Option.bind_some]
  by_cases c1:a - (s.length:Int)<0
  · rw [if_pos c1,if_pos (by omega)]
    exact⟨-1,rfl,by omega,fun h=>absurd (by omega) h⟩
  · rw [if_neg c1,if_neg c1,laws_szIntS_eq b _ (by omega) (by omega) hb,Option.bind_some]
    by_cases c2:a - (s.length:Int) - (b.length:Int)<0
    · rw [if_pos c2,if_pos (by omega)]
      exact⟨-1,rfl,by omega,fun h=>absurd (by omega) h⟩
    · rw [if_neg c2,if_neg c2,laws_szIntS_eq c _ (by omega) (by omega) hc,Option.bind_some]
      by_cases c3:a - (s.length:Int) - (b.length:Int) - (c.length:Int)<0
      · rw [if_pos c3,if_pos (by omega)]
        exact⟨-1,rfl,by omega,fun h=>absurd (by omega) h⟩
      · rw [if_neg c3,if_neg c3,w64 (by omega)]
        by_cases c4:a - (s.length:Int) - (b.length:Int) - (c.length:Int) - (o.size:Int)<0
        · rw [if_pos c4]
          exact⟨-1,rfl,by omega,fun h=>absurd (by omega) h⟩
        · rw [if_neg c4]
          exact⟨_,rfl,by omega,fun _=>by omega⟩

theorem laws_eqWord_refl (a:S75):laws_eqWord.f a.f0 a.f1 a.f2 a.f0 a.f1 a.f2=some true:=by
  unfold laws_eqWord.f
  simp
theorem laws_eqWordS_refl (a:List S75) (ha:a.length≤1048576) (k:Nat) (hk:a.length<k):laws_eqWordS.f k a a=some true:=by
  unfold laws_eqWordS.f
  rw [if_pos rfl]
  have hl:=loop_all0 (fun k i=>laws_eqWordS.l0 k a a i) a.length (fun _=>true) true (fun k i hi=>by
    simp only [laws_eqWordS.l0]
    rw [if_pos (by omega),if_pos (by omega),if_pos (by omega),w64 (by omega),laws_eqWord_refl]
    simp) (fun k=>by
    simp only [laws_eqWordS.l0]
    rw [if_neg (by omega)]) k hk
  rw [hl,allF_true _ _ (fun _ _ _=>rfl)]
  rfl
theorem rd63_nat (l:List S63) (i:Nat):rd_T63 l (i:Int)=l.getD i z63:=by simp [rd_T63]
theorem rd80_nat (l:List S80) (i:Nat):rd_T80 l (i:Int)=l.getD i z80:=by simp [rd_T80]
theorem laws_eqCallS_refl (a:List S63) (ha:a.length≤1048576) (k:Nat) (hk:a.length<k):laws_eqCallS.f k a a=some true:=by
  unfold laws_eqCallS.f
  rw [if_pos rfl]
  have hl:=loop_all0 (fun k i=>laws_eqCallS.l0 k a a i) a.length (fun _=>true) true (fun k i hi=>by
    simp only [laws_eqCallS.l0]
    rw [if_pos (by omega),if_pos (by omega),if_pos (by omega),w64 (by omega)]
    unfold laws_eqCall.f
    simp) (fun k=>by
    simp only [laws_eqCallS.l0]
    rw [if_neg (by omega)]) k hk
  rw [hl,allF_true _ _ (fun _ _ _=>rfl)]
  rfl
/-- The call of a call as the law holds it. -/
def toC (x:S80):S63:=⟨x.f0,x.f1,x.f2,x.f3⟩
theorem laws_toCallS_eq (l:List S80) (hl:l.length≤1048576) (k:Nat) (hk:l.length<k):laws_toCallS.f k l=some (l.map toC):=by
  unfold laws_toCallS.f
  rw [if_pos (by omega),if_pos (by simp;omega)]
  have h:=loop_copy (fun k x i=>laws_toCallS.l0 k l x i) l toC z63 z80 (fun k x i hi hx=>by
    simp only [laws_toCallS.l0,laws_toCall.f,Option.bind_some]
    rw [if_pos (by omega),if_pos (by omega),if_pos (by omega),rd80_nat,Int.toNat_natCast,w64 (by omega)]
    rfl) (fun k x=>by
    simp only [laws_toCallS.l0]
    rw [if_neg (by omega)]) k hk
  simpa using h
theorem laws_toMachine_eq (w:List S71) (c s b d:List Int) (h n:Int) (o:ByteArray) (g:List Bool) (e st:List Int) (m:Int) (dd:List S95) (cl:List S80) (t f:Int)
    (hw:w.length≤1048576) (hc:c.length≤1048576) (hs:s.length≤1048576) (hb:b.length≤1048576) (hd:d.length≤1048576) (hg:g.length≤1048576) (he:e.length≤1048576) (hst:st.length≤1048576) (hdd:dd.length≤1048576) (hcl:cl.length≤1048576) (k:Nat) (hk:1048576<k):
    laws_toMachine.f k w c s b d h n o g e st m dd cl t f=some (w.map toW,c,s,b,d,h,n,o,g,e,st,m,dd.map toD,cl.map toC,t,f):=by
  unfold laws_toMachine.f
  rw [laws_toWordS_eq w hw k (by omega),laws_toIntS_eq c hc k (by omega),laws_toData_eq s b d h n o hs hb hd k hk,laws_toHost_eq g e st m dd hg he hst hdd k hk,laws_toCallS_eq cl hcl k (by omega)]
  simp
theorem laws_eqMachine_refl (w:List S75) (c s b d:List Int) (h n:Int) (o:ByteArray) (g:List Bool) (e st:List Int) (m:Int) (dd:List S88) (cl:List S63) (t f:Int)
    (hw:w.length≤1048576) (hc:c.length≤1048576) (hs:s.length≤1048576) (hb:b.length≤1048576) (hd:d.length≤1048576) (hg:g.length≤1048576) (he:e.length≤1048576) (hst:st.length≤1048576) (hdd:dd.length≤1048576) (hcl:cl.length≤1048576) (k:Nat) (hk:1048576<k):
    laws_eqMachine.f k w c s b d h n o g e st m dd cl t f w c s b d h n o g e st m dd cl t f=some true:=by
  unfold laws_eqMachine.f
  rw [laws_eqWordS_refl w hw k (by omega),laws_eqIntS_eq c c hc k (by omega),laws_eqData_refl s b d h n o hs hb hd k hk,laws_eqHost_refl g e st m dd hg he hst hdd k hk,laws_eqCallS_refl cl hcl k (by omega)]
  simp
theorem laws_szMachine_eq (w:List S71) (c s b d:List Int) (h n:Int) (o:ByteArray) (g:List Bool) (e st:List Int) (m:Int) (dd:List S95) (cl:List S80) (t f:Int) (a:Int) (h0:0≤a) (h1:a≤1048576)
    (hw:w.length≤9223372036854775807) (hx: ∀x∈w,x.f0.size≤9223372036854775807) (hc:c.length≤9223372036854775807) (hs:s.length≤9223372036854775807) (hb:b.length≤9223372036854775807) (hd:d.length≤9223372036854775807) (ho:o.size≤9223372036854775807) (hg:g.length≤9223372036854775807) (he:e.length≤9223372036854775807) (hst:st.length≤9223372036854775807) (hdd:dd.length≤9223372036854775807) (hcl:cl.length≤9223372036854775807) (k:Nat) (hk:1048576<k):
    ∃r,laws_szMachine.f k w c s b d h n o g e st m dd cl t f a=some r∧r≤a∧(¬r<0→(w.length≤1048576∧ ∀j,j<w.length→(w.getD j z71).f0.size≤1048576)∧c.length≤1048576∧(s.length≤1048576∧b.length≤1048576∧d.length≤1048576∧o.size≤1048576)∧(g.length≤1048576∧e.length≤1048576∧st.length≤1048576∧dd.length≤1048576)∧cl.length≤1048576):=by
  unfold laws_szMachine.f
  obtain⟨r1,e1,q1,b1⟩:=laws_szWordS_eq w hw hx a h0 h1 k hk
  rw [e1,Option.bind_some]
  by_cases c1:r1<0
  · rw [if_pos c1]
    exact⟨-1,rfl,by omega,fun h=>absurd (by omega) h⟩
  · rw [if_neg c1,laws_szIntS_eq c r1 (by omega) (by omega) hc,Option.bind_some]
    by_cases c2:r1 - (c.length:Int)<0
    · rw [if_pos c2,if_pos (by omega)]
      exact⟨-1,rfl,by omega,fun h=>absurd (by omega) h⟩
    · rw [if_neg c2,if_neg c2]
      obtain⟨r3,e3,q3,b3⟩:=laws_szData_eq s b d h n o (r1 - (c.length:Int)) (by omega) (by omega) hs hb hd ho
      rw [e3,Option.bind_some]
      by_cases c3:r3<0
      · rw [if_pos c3]
        exact⟨-1,rfl,by omega,fun h=>absurd (by omega) h⟩
      · rw [if_neg c3]
        obtain⟨r4,e4,q4,b4⟩:=laws_szHost_eq g e st m dd r3 (by omega) (by omega) hg he hst hdd
        rw [e4,Option.bind_some]
        by_cases c4:r4<0
        · rw [if_pos c4]
          exact⟨-1,rfl,by omega,fun h=>absurd (by omega) h⟩
        · rw [if_neg c4]
          unfold laws_szCallS.f
          rw [w64 (by omega)]
          by_cases c5:r4 - (cl.length:Int)<0
          · rw [if_pos c5,Option.bind_some,if_pos (by omega)]
            exact⟨-1,rfl,by omega,fun h=>absurd (by omega) h⟩
          · rw [if_neg c5,Option.bind_some,if_neg c5]
            exact⟨_,rfl,by omega,fun _=>⟨b1 c1,by omega,b3 c3,b4 c4,by omega⟩⟩
/-- The rest of a stack of calls is valid, from number i on. -/
def callsF (n:Int) (l:List S63):Nat→Nat→Int→Bool
  |0,_,_=>decide (l.length=0)|| !(l.getD (l.length - 1) z63).f3
  |d+1,i,lo=>inR (l.getD i z63).f0 0 2147483647&&inR (l.getD i z63).f1 lo n&&inR (l.getD i z63).f2 0 31&&((l.getD i z63).f3||decide ((l.getD i z63).f2=0))&&callsF n l d (i+1) (l.getD i z63).f1
/-- A valid machine. -/
def machOK (w:List S75) (c s b d:List Int) (h n:Int) (o:ByteArray) (g:List Bool) (e st:List Int) (m:Int) (dd:List S88) (cl:List S63) (t f:Int):Bool:=
  dictOK w&&decide (c.length≤400)&&c.all isCell&&dataOK s b d h n o&&hostOK g e st m dd&&decide (cl.length≤16)&&inR t 0 2147483647&&inR f 0 4000&&callsF b.length cl cl.length 0 0
theorem spec_calls_l0 (w:List S75) (c s b d:List Int) (h n:Int) (o:ByteArray) (g:List Bool) (e st:List Int) (m:Int) (dd:List S88) (cl:List S63) (t f:Int) (hl:cl.length≤1048576): ∀q k (i:Nat) (lo:Int),i+q=cl.length→q<k→
    spec_l08Calls.l0 k lo (i:Int) w c s b d h n o g e st m dd cl t f=some (callsF b.length cl q i lo)
  |0,k,i,lo,hi,hk=>by
    obtain⟨k,rfl⟩: ∃m,k=m+1:=⟨k - 1,by omega⟩
    simp only [spec_l08Calls.l0,callsF]
    rw [if_neg (by omega)]
    by_cases h0:cl.length=0
    · rw [if_pos (by omega)]
      simp [h0]
    · rw [if_neg (by omega),w64 (by omega),if_pos (by omega),if_pos (by omega),show (cl.length:Int) - 1=((cl.length - 1:Nat):Int) by omega,rd63_nat]
      simp [h0]
  |q+1,k,i,lo,hi,hk=>by
    obtain⟨k,rfl⟩: ∃m,k=m+1:=⟨k - 1,by omega⟩
    have ih:=spec_calls_l0 w c s b d h n o g e st m dd cl t f hl q k (i+1) (cl.getD i z63).f1 (by omega) (by omega)
    simp only [spec_l08Calls.l0,callsF]
    rw [if_pos (by omega),if_pos (by omega),rd63_nat,w64 (n:=(i:Int)+1) (by omega),show (i:Int)+1=((i+1:Nat):Int) by omega,ih,spec_l01In_eq,spec_l01In_eq,spec_l01In_eq]
    simp only [Option.bind_some]
    clear ih
    generalize cl.getD i z63=x
    cases inR x.f0 0 2147483647<;>cases inR x.f1 lo b.length<;>cases x.f3<;>by_cases h2:x.f2=0<;>cases h3:inR x.f2 0 31<;>simp [h2,h3]<;>(rw [h2]at h3;simp [inR]at h3)
theorem impl_calls_l0 (w:List S75) (c s b d:List Int) (h n:Int) (o:ByteArray) (g:List Bool) (e st:List Int) (m:Int) (dd:List S88) (cl:List S63) (t f:Int) (hl:cl.length≤1048576): ∀q k (i:Nat) (lo:Int),i+q=cl.length→q<k→
    impl_MachineOK.l0 k lo cl (cl.length:Int) (i:Int) w c s b d h n o g e st m dd cl t f=some (callsF b.length cl q i lo)
  |0,k,i,lo,hi,hk=>by
    obtain⟨k,rfl⟩: ∃m,k=m+1:=⟨k - 1,by omega⟩
    simp only [impl_MachineOK.l0,callsF]
    rw [if_neg (by omega)]
    by_cases h0:cl.length=0
    · rw [if_pos (by omega)]
      simp [h0]
    · rw [if_neg (by omega),w64 (by omega),if_pos (by omega),if_pos (by omega),show (cl.length:Int) - 1=((cl.length - 1:Nat):Int) by omega,rd63_nat]
      simp [h0]
  |q+1,k,i,lo,hi,hk=>by
    obtain⟨k,rfl⟩: ∃m,k=m+1:=⟨k - 1,by omega⟩
    have ih:=impl_calls_l0 w c s b d h n o g e st m dd cl t f hl q k (i+1) (cl.getD i z63).f1 (by omega) (by omega)
    simp only [impl_MachineOK.l0,callsF]
    rw [if_pos (by omega),if_pos (by omega),if_pos (by omega),rd63_nat,w64 (n:=(i:Int)+1) (by omega),show (i:Int)+1=((i+1:Nat):Int) by omega,ih,impl_in_eq,impl_in_eq,impl_in_eq]
    simp only [Option.bind_some]
    clear ih
    generalize cl.getD i z63=x
    cases inR x.f0 0 2147483647<;>cases inR x.f1 lo b.length<;>cases x.f3<;>by_cases h2:x.f2=0<;>cases h3:inR x.f2 0 31<;>simp [h2,h3]
theorem spec_l08OK_eq (w:List S75) (c s b d:List Int) (h n:Int) (o:ByteArray) (g:List Bool) (e st:List Int) (m:Int) (dd:List S88) (cl:List S63) (t f:Int)
    (hw:w.length≤1048576) (hx: ∀x∈w,x.f0.size≤1048576) (hc:c.length≤1048576) (hs:s.length≤1048576) (hb:b.length≤1048576) (hd:d.length≤1048576) (hg:g.length≤1048576) (he:e.length≤1048576) (hst:st.length≤1048576) (hdd:dd.length≤1048576) (hcl:cl.length≤1048576) (k:Nat) (hk:1048800≤k):
    spec_l08OK.f k w c s b d h n o g e st m dd cl t f=some (machOK w c s b d h n o g e st m dd cl t f):=by
  unfold spec_l08OK.f spec_l08Calls.f machOK
  have hq:=spec_calls_l0 w c s b d h n o g e st m dd cl t f hcl cl.length k 0 0 (by omega) (by omega)
  rw [show ((0:Nat):Int)=0 by rfl]at hq
  rw [spec_l04OK_eq w hw hx k hk,spec_l03Cells_eq c hc k (by omega),spec_l03OK_eq s b d h n o hs hb hd k (by omega),spec_l06OK_eq g e st m dd hg he hst hdd k (by omega),hq,spec_l01In_eq,spec_l01In_eq]
  simp only [Option.bind_some]
  by_cases h1:c.length≤400
  · rw [if_pos (show (c.length:Int)≤400 by omega)]
    by_cases h2:cl.length≤16
    · rw [if_neg (show¬(cl.length:Int)>16 by omega)]
      cases dictOK w<;>cases c.all isCell<;>cases dataOK s b d h n o<;>cases hostOK g e st m dd<;>cases callsF b.length cl cl.length 0 0<;>cases inR t 0 2147483647<;>cases inR f 0 4000<;>simp [h1,h2]
    · rw [if_pos (show (cl.length:Int)>16 by omega)]
      cases dictOK w<;>cases c.all isCell<;>cases dataOK s b d h n o<;>cases hostOK g e st m dd<;>simp [h1,h2]
  · rw [if_neg (show¬(c.length:Int)≤400 by omega)]
    cases dictOK w<;>simp [h1]
theorem impl_MachineOK_eq (w:List S75) (c s b d:List Int) (h n:Int) (o:ByteArray) (g:List Bool) (e st:List Int) (m:Int) (dd:List S88) (cl:List S63) (t f:Int)
    (hw:w.length≤1048576) (hx: ∀x∈w,x.f0.size≤1048576) (hc:c.length≤1048576) (hs:s.length≤1048576) (hb:b.length≤1048576) (hd:d.length≤1048576) (hg:g.length≤1048576) (he:e.length≤1048576) (hst:st.length≤1048576) (hdd:dd.length≤1048576) (hcl:cl.length≤1048576) (k:Nat) (hk:1048801≤k):
    impl_MachineOK.f k w c s b d h n o g e st m dd cl t f=some (machOK w c s b d h n o g e st m dd cl t f):=by
  obtain⟨k,rfl⟩: ∃m,k=m+1:=⟨k - 1,by omega⟩
  unfold impl_MachineOK.f machOK
  have hq:=impl_calls_l0 w c s b d h n o g e st m dd cl t f hcl cl.length k 0 0 (by omega) (by omega)
  rw [show ((0:Nat):Int)=0 by rfl]at hq
  rw [impl_DictOK_eq w hw hx _ (by omega),impl_areCells_eq c 400 hc _ (by omega),impl_DataOK_eq s b d h n o hs hb hd _ (by omega),impl_HostOK_eq g e st m dd hg he hst hdd _ (by omega),impl_in_eq,impl_in_eq]
  simp only [Option.bind_some,impl_MachineOK.j0,if_true]
  rw [hq]
  by_cases h1:c.length≤400
  · have h1':decide ((c.length:Int)≤400)=true:=decide_eq_true (by omega)
    by_cases h2:cl.length≤16
    · rw [if_neg (show¬(cl.length:Int)>16 by omega)]
      cases dictOK w<;>cases c.all isCell<;>cases dataOK s b d h n o<;>cases hostOK g e st m dd<;>cases callsF b.length cl cl.length 0 0<;>cases inR t 0 2147483647<;>cases inR f 0 4000<;>simp [h1,h1',h2]
    · rw [if_pos (show (cl.length:Int)>16 by omega)]
      cases dictOK w<;>cases c.all isCell<;>cases dataOK s b d h n o<;>cases hostOK g e st m dd<;>simp [h1,h1',h2]
  · have h1':decide ((c.length:Int)≤400)=false:=decide_eq_false (by omega)
    cases dictOK w<;>simp [h1,h1']
theorem spec_l00Same_eq (a b:List Int) (ha:a.length≤1048576) (k:Nat) (hk:a.length<k):spec_l00Same.f k a b=some (decide (a=b)):=by
  unfold spec_l00Same.f
  by_cases h:(a.length:Int)=(b.length:Int)
  · have h':a.length=b.length:=by omega
    rw [if_pos h,list_eq_iff a b h']
    have hl:=loop_all0 (fun k i=>spec_l00Same.l0 k a b i) a.length (fun j=>decide (a.getD j 0=b.getD j 0)) true (fun k i hi=>by
      simp only [spec_l00Same.l0]
      rw [if_pos (by omega),if_pos (by omega),if_pos (by omega),rd_nat,rd_nat,w64 (by omega)]
      by_cases h3:a.getD i 0=b.getD i 0<;>simp [h3]) (fun k=>by
      simp only [spec_l00Same.l0]
      rw [if_neg (by omega)]) k hk
    rw [hl,Bool.and_true]
  · rw [if_neg h]
    have h2: ¬a=b:=by rintro rfl;exact h rfl
    simp [h2]
theorem slices_Equal_eq (a b:List Int) (ha:a.length≤1048576) (k:Nat) (hk:a.length<k):slices_Equal_int.f k a b=some (decide (a=b)):=by
  unfold slices_Equal_int.f
  by_cases h:(a.length:Int)=(b.length:Int)
  · have h':a.length=b.length:=by omega
    rw [if_pos h,list_eq_iff a b h']
    have hl:=loop_all0 (fun k i=>slices_Equal_int.l0 k a b (a.length:Int) i) a.length (fun j=>decide (a.getD j 0=b.getD j 0)) true (fun k i hi=>by
      simp only [slices_Equal_int.l0]
      rw [if_pos (by omega),if_pos (by omega),if_pos (by omega),if_pos (by omega),rd_nat,rd_nat,w64 (by omega)]
      by_cases h3:a.getD i 0=b.getD i 0<;>simp [h3]) (fun k=>by
      simp only [slices_Equal_int.l0]
      rw [if_neg (by omega)]) k hk
    rw [hl,Bool.and_true]
  · rw [if_neg h]
    have h2: ¬a=b:=by rintro rfl;exact h rfl
    simp [h2]
/-- A loop that leaves with false at the first number of which P does not hold, and then goes on. -/
theorem loop_then (F:Nat→Int→Option Bool) (n:Nat) (P:Nat→Bool) (G:Nat→Option Bool)
    (hs: ∀k (i:Nat),i<n→F (k+1) i=if P i=true then F k ((i:Int)+1)else some false) (he: ∀k,F (k+1) (n:Int)=G k):
    ∀d k (i:Nat),i+d=n→F (k+d+1) i=if allF P d i=true then G k else some false
  |0,k,i,h=>by
    obtain rfl:i=n:=by omega
    rw [Nat.add_zero,he]
    simp [allF]
  |d+1,k,i,h=>by
    rw [show k+(d+1)+1=(k+d+1)+1 by omega,hs _ i (by omega)]
    have ih:=loop_then F n P G hs he d k (i+1) (by omega)
    rw [show ((i+1:Nat):Int)=(i:Int)+1 by omega]at ih
    rw [ih]
    cases hp:P i<;>simp [allF,hp]
theorem loop_then0 (F:Nat→Int→Option Bool) (n:Nat) (P:Nat→Bool) (G:Nat→Option Bool)
    (hs: ∀k (i:Nat),i<n→F (k+1) i=if P i=true then F k ((i:Int)+1)else some false) (he: ∀k,F (k+1) (n:Int)=G k) (k:Nat) (hk:n<k):F k 0=if allF P n 0=true then G (k - n - 1)else some false:=by
  have h:=loop_then F n P G hs he n (k - n - 1) 0 (by omega)
  rw [show k - n - 1+n+1=k by omega]at h
  exact h
/-- Two deeds are the same. -/
def deedEq (x y:S88):Bool:= !(!(x.f0==y.f0)||(!(x.f1==y.f1)||(!(x.f2==y.f2)||(!(x.f3==y.f3)))))
def eqB (a b:List Bool):Bool:=allF (fun j=>a.getD j false==b.getD j false) a.length 0
def eqD (a b:List S88):Bool:=allF (fun j=>deedEq (a.getD j z88) (b.getD j z88)) a.length 0
theorem equalB (a b:List Bool) (ha:a.length≤1048576) (k:Nat) (hk:a.length<k):slices_Equal_bool.f k a b=some (decide (a.length=b.length)&&eqB a b):=by
  unfold slices_Equal_bool.f
  by_cases h:(a.length:Int)=(b.length:Int)
  · have h':a.length=b.length:=by omega
    rw [if_pos h]
    have hl:=loop_all0 (fun k i=>slices_Equal_bool.l0 k a b (a.length:Int) i) a.length (fun j=>a.getD j false==b.getD j false) true (fun k i hi=>by
      simp only [slices_Equal_bool.l0]
      rw [if_pos (by omega),if_pos (by omega),if_pos (by omega),if_pos (by omega),rdOf_nat,rdOf_nat,w64 (by omega)]
      cases a.getD i false<;>cases b.getD i false<;>simp) (fun k=>by
      simp only [slices_Equal_bool.l0]
      rw [if_neg (by omega)]) k hk
    rw [hl,Bool.and_true]
    simp [h',eqB]
  · rw [if_neg h]
    have h2: ¬a.length=b.length:=by omega
    simp [h2]
theorem equalD (a b:List S88) (ha:a.length≤1048576) (k:Nat) (hk:a.length<k):slices_Equal_Deed.f k a b=some (decide (a.length=b.length)&&eqD a b):=by
  unfold slices_Equal_Deed.f
  by_cases h:(a.length:Int)=(b.length:Int)
  · have h':a.length=b.length:=by omega
    rw [if_pos h]
    have hl:=loop_all0 (fun k i=>slices_Equal_Deed.l0 k a b (a.length:Int) i) a.length (fun j=>deedEq (a.getD j z88) (b.getD j z88)) true (fun k i hi=>by
      simp only [slices_Equal_Deed.l0]
      rw [if_pos (by omega),if_pos (by omega),if_pos (by omega),if_pos (by omega),rd88_nat,rd88_nat,w64 (by omega)]
      unfold deedEq
      generalize (!((a.getD i z88).f0==(b.getD i z88).f0)||(!((a.getD i z88).f1==(b.getD i z88).f1)||(!((a.getD i z88).f2==(b.getD i z88).f2)||(!((a.getD i z88).f3==(b.getD i z88).f3)))))=q
      cases q<;>simp) (fun k=>by
      simp only [slices_Equal_Deed.l0]
      rw [if_neg (by omega)]) k hk
    rw [hl,Bool.and_true]
    simp [h',eqD]
  · rw [if_neg h]
    have h2: ¬a.length=b.length:=by omega
    simp [h2]
/-- Two hosts are the same. -/
def hostSame (g:List Bool) (c s:List Int) (n:Int) (d:List S88) (g2:List Bool) (c2 s2:List Int) (n2:Int) (d2:List S88):Bool:=
  decide (c=c2)&&decide (s=s2)&&decide (n=n2)&&decide (g.length=g2.length)&&decide (d.length=d2.length)&&eqB g g2&&eqD d d2
theorem hostImplSame_eq (g:List Bool) (c s:List Int) (n:Int) (d:List S88) (g2:List Bool) (c2 s2:List Int) (n2:Int) (d2:List S88) (hg:g.length≤1048576) (hc:c.length≤1048576) (hs:s.length≤1048576) (hd:d.length≤1048576) (k:Nat) (hk:1048576<k):
    impl_Host_same.f k g c s n d g2 c2 s2 n2 d2=some (hostSame g c s n d g2 c2 s2 n2 d2):=by
  unfold impl_Host_same.f hostSame
  rw [equalB g g2 hg k (by omega),equalD d d2 hd k (by omega),slices_Equal_eq c c2 hc k (by omega),slices_Equal_eq s s2 hs k (by omega)]
  simp only [Option.bind_some]
  generalize decide (c=c2)=q1
  generalize decide (s=s2)=q2
  generalize eqB g g2=q3
  generalize eqD d d2=q4
  by_cases h1:g.length=g2.length
  · by_cases h2:d.length=d2.length
    · by_cases h3:n=n2
      · cases q1<;>cases q2<;>cases q3<;>cases q4<;>simp [h1,h2,h3]
      · cases q1<;>cases q2<;>cases q3<;>cases q4<;>simp [h1,h2,h3]
    · by_cases h3:n=n2
      · cases q1<;>cases q2<;>cases q3<;>cases q4<;>simp [h1,h2,h3]
      · cases q1<;>cases q2<;>cases q3<;>cases q4<;>simp [h1,h2,h3]
  · cases q1<;>cases q2<;>cases q3<;>cases q4<;>simp [h1]
theorem specSame_l1 (g:List Bool) (c s:List Int) (n:Int) (d:List S88) (g2:List Bool) (c2 s2:List Int) (n2:Int) (d2:List S88) (hd:d.length≤1048576) (h:d.length=d2.length) (k:Nat) (hk:d.length<k):
    spec_l06Same.l1 k 0 g c s n d g2 c2 s2 n2 d2=some (eqD d d2):=by
  have hl:=loop_all0 (fun k i=>spec_l06Same.l1 k i g c s n d g2 c2 s2 n2 d2) d.length (fun j=>deedEq (d.getD j z88) (d2.getD j z88)) true (fun k i hi=>by
    simp only [spec_l06Same.l1]
    rw [if_pos (by omega),if_pos (by omega),if_pos (by omega),rd88_nat,rd88_nat,w64 (by omega)]
    unfold deedEq
    generalize (!((d.getD i z88).f0==(d2.getD i z88).f0)||(!((d.getD i z88).f1==(d2.getD i z88).f1)||(!((d.getD i z88).f2==(d2.getD i z88).f2)||(!((d.getD i z88).f3==(d2.getD i z88).f3)))))=q
    cases q<;>simp) (fun k=>by
    simp only [spec_l06Same.l1]
    rw [if_neg (by omega)]) k hk
  rw [hl,Bool.and_true]
  rfl
theorem specSame_l0 (g:List Bool) (c s:List Int) (n:Int) (d:List S88) (g2:List Bool) (c2 s2:List Int) (n2:Int) (d2:List S88) (hg:g.length≤1048576) (h1:g.length=g2.length) (hd:d.length≤1048576) (h:d.length=d2.length) (k:Nat) (hk:2097160<k):
    spec_l06Same.l0 k 0 g c s n d g2 c2 s2 n2 d2=some (eqB g g2&&eqD d d2):=by
  have hl:=loop_then0 (fun k i=>spec_l06Same.l0 k i g c s n d g2 c2 s2 n2 d2) g.length (fun j=>g.getD j false==g2.getD j false) (fun k=>spec_l06Same.l1 k 0 g c s n d g2 c2 s2 n2 d2) (fun k i hi=>by
    simp only [spec_l06Same.l0]
    rw [if_pos (by omega),if_pos (by omega),if_pos (by omega),rdOf_nat,rdOf_nat,w64 (by omega)]
    cases g.getD i false<;>cases g2.getD i false<;>simp) (fun k=>by
    simp only [spec_l06Same.l0]
    rw [if_neg (by omega)]) k (by omega)
  rw [hl,specSame_l1 g c s n d g2 c2 s2 n2 d2 hd h _ (by omega)]
  unfold eqB
  cases allF (fun j=>g.getD j false==g2.getD j false) g.length 0<;>simp
theorem hostSpecSame_eq (g:List Bool) (c s:List Int) (n:Int) (d:List S88) (g2:List Bool) (c2 s2:List Int) (n2:Int) (d2:List S88) (hg:g.length≤1048576) (hc:c.length≤1048576) (hs:s.length≤1048576) (hd:d.length≤1048576) (k:Nat) (hk:2097170<k):
    spec_l06Same.f k g c s n d g2 c2 s2 n2 d2=some (hostSame g c s n d g2 c2 s2 n2 d2):=by
  obtain⟨k,rfl⟩: ∃m,k=m+1:=⟨k - 1,by omega⟩
  unfold spec_l06Same.f hostSame
  rw [spec_l00Same_eq c c2 hc _ (by omega),spec_l00Same_eq s s2 hs _ (by omega)]
  simp only [Option.bind_some,spec_l06Same.j0,if_true]
  generalize decide (c=c2)=q1
  generalize decide (s=s2)=q2
  by_cases h1:g.length=g2.length
  · by_cases h2:d.length=d2.length
    · rw [specSame_l0 g c s n d g2 c2 s2 n2 d2 hg h1 hd h2 k (by omega)]
      by_cases h3:n=n2
      · cases q1<;>cases q2<;>simp [h1,h2,h3]
      · cases q1<;>cases q2<;>simp [h1,h2,h3]
    · have h4:((d.length:Int) !=(d2.length:Int))=true:=by simp;omega
      rw [h4]
      by_cases h3:n=n2
      · cases q1<;>cases q2<;>simp [h1,h2,h3]
      · cases q1<;>cases q2<;>simp [h1,h2,h3]
  · have h4: ¬(g.length:Int)=(g2.length:Int):=by omega
    rw [if_neg h4]
    cases q1<;>cases q2<;>simp [h1]
theorem dataSpecSame_eq (s b c:List Int) (h n:Int) (o:ByteArray) (s2 b2 c2:List Int) (h2 n2:Int) (o2:ByteArray) (hs:s.length≤1048576) (hb:b.length≤1048576) (hc:c.length≤1048576) (k:Nat) (hk:1048576<k):
    spec_l03Same.f k s b c h n o s2 b2 c2 h2 n2 o2=impl_Data_same.f k s b c h n o s2 b2 c2 h2 n2 o2:=by
  unfold spec_l03Same.f impl_Data_same.f
  rw [spec_l00Same_eq s s2 hs k (by omega),spec_l00Same_eq b b2 hb k (by omega),spec_l00Same_eq c c2 hc k (by omega),slices_Equal_eq s s2 hs k (by omega),slices_Equal_eq b b2 hb k (by omega),slices_Equal_eq c c2 hc k (by omega)]
theorem dataImplSame_some (s b c:List Int) (h n:Int) (o:ByteArray) (s2 b2 c2:List Int) (h2 n2:Int) (o2:ByteArray) (hs:s.length≤1048576) (hb:b.length≤1048576) (hc:c.length≤1048576) (k:Nat) (hk:1048576<k):
    ∃r,impl_Data_same.f k s b c h n o s2 b2 c2 h2 n2 o2=some r:=by
  unfold impl_Data_same.f
  rw [slices_Equal_eq s s2 hs k (by omega),slices_Equal_eq b b2 hb k (by omega),slices_Equal_eq c c2 hc k (by omega)]
  simp only [Option.bind_some]
  repeat' split
  all_goals exact⟨_,rfl⟩
def eqW (a b:List S75):Bool:=allF (fun j=>sameW (a.getD j z75) (b.getD j z75)) a.length 0
theorem equalW (a b:List S75) (ha:a.length≤1048576) (k:Nat) (hk:a.length<k):slices_Equal_Word.f k a b=some (decide (a.length=b.length)&&eqW a b):=by
  unfold slices_Equal_Word.f
  by_cases h:(a.length:Int)=(b.length:Int)
  · have h':a.length=b.length:=by omega
    rw [if_pos h]
    have hl:=loop_all0 (fun k i=>slices_Equal_Word.l0 k a b (a.length:Int) i) a.length (fun j=>sameW (a.getD j z75) (b.getD j z75)) true (fun k i hi=>by
      simp only [slices_Equal_Word.l0]
      rw [if_pos (by omega),if_pos (by omega),if_pos (by omega),if_pos (by omega),rdW_nat,rdW_nat,sameW_neg,w64 (by omega)]
      cases sameW (a.getD i z75) (b.getD i z75)<;>rfl) (fun k=>by
      simp only [slices_Equal_Word.l0]
      rw [if_neg (by omega)]) k hk
    rw [hl,Bool.and_true]
    simp [h',eqW]
  · rw [if_neg h]
    have h2: ¬a.length=b.length:=by omega
    simp [h2]
theorem specW (a b:List S75) (ha:a.length≤1048576) (k:Nat) (hk:a.length<k):spec_l08SameWords.f k a b=some (decide (a.length=b.length)&&eqW a b):=by
  unfold spec_l08SameWords.f
  by_cases h:(a.length:Int)=(b.length:Int)
  · have h':a.length=b.length:=by omega
    rw [if_pos h]
    have hl:=loop_all0 (fun k i=>spec_l08SameWords.l0 k a b i) a.length (fun j=>sameW (a.getD j z75) (b.getD j z75)) true (fun k i hi=>by
      simp only [spec_l08SameWords.l0]
      rw [if_pos (by omega),if_pos (by omega),if_pos (by omega),rdW_nat,rdW_nat,sameW_neg,w64 (by omega)]
      cases sameW (a.getD i z75) (b.getD i z75)<;>rfl) (fun k=>by
      simp only [spec_l08SameWords.l0]
      rw [if_neg (by omega)]) k hk
    rw [hl,Bool.and_true]
    simp [h',eqW]
  · rw [if_neg h]
    have h2: ¬a.length=b.length:=by omega
    simp [h2]
def callEq (x y:S63):Bool:= !(!(x.f0==y.f0)||(!(x.f1==y.f1)||(!(x.f2==y.f2)||(!(x.f3==y.f3)))))
def eqC (a b:List S63):Bool:=allF (fun j=>callEq (a.getD j z63) (b.getD j z63)) a.length 0
theorem equalC (a b:List S63) (ha:a.length≤1048576) (k:Nat) (hk:a.length<k):slices_Equal_Call.f k a b=some (decide (a.length=b.length)&&eqC a b):=by
  unfold slices_Equal_Call.f
  by_cases h:(a.length:Int)=(b.length:Int)
  · have h':a.length=b.length:=by omega
    rw [if_pos h]
    have hl:=loop_all0 (fun k i=>slices_Equal_Call.l0 k a b (a.length:Int) i) a.length (fun j=>callEq (a.getD j z63) (b.getD j z63)) true (fun k i hi=>by
      simp only [slices_Equal_Call.l0]
      rw [if_pos (by omega),if_pos (by omega),if_pos (by omega),if_pos (by omega),rd63_nat,rd63_nat,w64 (by omega)]
      unfold callEq
      generalize (!((a.getD i z63).f0==(b.getD i z63).f0)||(!((a.getD i z63).f1==(b.getD i z63).f1)||(!((a.getD i z63).f2==(b.getD i z63).f2)||(!((a.getD i z63).f3==(b.getD i z63).f3)))))=q
      cases q<;>simp) (fun k=>by
      simp only [slices_Equal_Call.l0]
      rw [if_neg (by omega)]) k hk
    rw [hl,Bool.and_true]
    simp [h',eqC]
  · rw [if_neg h]
    have h2: ¬a.length=b.length:=by omega
    simp [h2]
section
variable (w:List S75) (c s b d:List Int) (h n:Int) (o:ByteArray) (g:List Bool) (e st:List Int) (m:Int) (dd:List S88) (cl:List S63) (t f:Int)
variable (w':List S75) (c' s' b' d':List Int) (h' n':Int) (o':ByteArray) (g':List Bool) (e' st':List Int) (m':Int) (dd':List S88) (cl':List S63) (t' f':Int)
theorem specSame_calls (hl:cl.length≤1048576) (hc:cl.length=cl'.length) (k:Nat) (hk:cl.length<k):
    spec_l08Same.l0 k 0 w c s b d h n o g e st m dd cl t f w' c' s' b' d' h' n' o' g' e' st' m' dd' cl' t' f'=some (eqC cl cl'):=by
  have hl:=loop_all0 (fun k i=>spec_l08Same.l0 k i w c s b d h n o g e st m dd cl t f w' c' s' b' d' h' n' o' g' e' st' m' dd' cl' t' f') cl.length (fun j=>callEq (cl.getD j z63) (cl'.getD j z63)) true (fun k i hi=>by
    simp only [spec_l08Same.l0]
    rw [if_pos (by omega),if_pos (by omega),if_pos (by omega),rd63_nat,rd63_nat,w64 (by omega)]
    unfold callEq
    generalize (!((cl.getD i z63).f0==(cl'.getD i z63).f0)||(!((cl.getD i z63).f1==(cl'.getD i z63).f1)||(!((cl.getD i z63).f2==(cl'.getD i z63).f2)||(!((cl.getD i z63).f3==(cl'.getD i z63).f3)))))=q
    cases q<;>simp) (fun k=>by
    simp only [spec_l08Same.l0]
    rw [if_neg (by omega)]) k hk
  rw [hl,Bool.and_true]
  rfl
theorem machSame_eq (hw:w.length≤1048576) (hc:c.length≤1048576) (hs:s.length≤1048576) (hb:b.length≤1048576) (hd:d.length≤1048576) (hg:g.length≤1048576) (he:e.length≤1048576) (hst:st.length≤1048576) (hdd:dd.length≤1048576) (hcl:cl.length≤1048576) (k:Nat) (hk:2097180<k):
    ∃r,spec_l08Same.f k w c s b d h n o g e st m dd cl t f w' c' s' b' d' h' n' o' g' e' st' m' dd' cl' t' f'=some r∧impl_Machine_same.f k w c s b d h n o g e st m dd cl t f w' c' s' b' d' h' n' o' g' e' st' m' dd' cl' t' f'=some r:=by
  obtain⟨k,rfl⟩: ∃j,k=j+1:=⟨k - 1,by omega⟩
  obtain⟨q3,hq3⟩:=dataImplSame_some s b d h n o s' b' d' h' n' o' hs hb hd (k+1) (by omega)
  unfold spec_l08Same.f impl_Machine_same.f
  rw [specW w w' hw _ (by omega),equalW w w' hw _ (by omega),spec_l00Same_eq c c' hc _ (by omega),slices_Equal_eq c c' hc _ (by omega),dataSpecSame_eq s b d h n o s' b' d' h' n' o' hs hb hd _ (by omega),hq3,
    hostSpecSame_eq g e st m dd g' e' st' m' dd' hg he hst hdd _ (by omega),hostImplSame_eq g e st m dd g' e' st' m' dd' hg he hst hdd _ (by omega),equalC cl cl' hcl _ (by omega)]
  simp only [Option.bind_some,spec_l08Same.j0,if_true]
  generalize (decide (w.length=w'.length)&&eqW w w')=q1
  generalize decide (c=c')=q2
  generalize hostSame g e st m dd g' e' st' m' dd'=q4
  cases q1
  · exact⟨false,by simp,by simp⟩
  cases q2
  · exact⟨false,by simp,by simp⟩
  cases q3
  · exact⟨false,by simp,by simp⟩
  cases q4
  · exact⟨false,by simp,by simp⟩
  simp only [if_true]
  by_cases h1:cl.length=cl'.length
  · have e1:((cl.length:Int) !=(cl'.length:Int))=false:=by simp [h1]
    rw [specSame_calls w c s b d h n o g e st m dd cl t f w' c' s' b' d' h' n' o' g' e' st' m' dd' cl' t' f' hcl h1 k (by omega),e1]
    have e2:decide (cl.length=cl'.length)=true:=by simp [h1]
    rw [e2,Bool.true_and]
    by_cases h2:t=t'
    · by_cases h3:f=f'
      · cases eqC cl cl'
        · exact⟨false,by simp [h2,h3],by simp [h2,h3]⟩
        · exact⟨true,by simp [h2,h3],by simp [h2,h3]⟩
      · exact⟨false,by simp [h2,h3],by cases eqC cl cl'<;>simp [h2,h3]⟩
    · exact⟨false,by simp [h2],by cases eqC cl cl'<;>simp [h2]⟩
  · have e1:((cl.length:Int) !=(cl'.length:Int))=true:=by simp;omega
    have e2:decide (cl.length=cl'.length)=false:=by simp [h1]
    rw [e1,e2,Bool.false_and]
    refine⟨false,?_,by simp⟩
    by_cases h2:t=t'
    · by_cases h3:f=f'<;>simp [h2,h3]
    · simp [h2]
end
theorem FnExactSameMachine:laws_FnExactSameMachine.Pure:=by
  intro w c s b d h n o g e st m dd cl t f w' c' s' b' d' h' n' o' g' e' st' m' dd' cl' t' f' hw hc hs hb hd _ _ ho hg he hst _ hdd hcl _ _ hw' hc' hs' hb' hd' _ _ ho' hg' he' hst' _ hdd' hcl' _ _
  refine⟨2097200,?_⟩
  obtain⟨r,hr,hrl,hrb⟩:=laws_szMachine_eq w c s b d h n o g e st m dd cl t f 1048576 (by omega) (by omega) hw.1 (fun x hx=>(hw.2 x hx).1) hc.1 hs.1 hb.1 hd.1 ho hg.1 he.1 hst.1 hdd.1 hcl.1 2097200 (by omega)
  unfold laws_FnExactSameMachine.f
  rw [hr,Option.bind_some]
  by_cases h1:r<0
  · rw [if_pos h1]
  obtain⟨r',hr',_,hrb'⟩:=laws_szMachine_eq w' c' s' b' d' h' n' o' g' e' st' m' dd' cl' t' f' r (by omega) hrl hw'.1 (fun x hx=>(hw'.2 x hx).1) hc'.1 hs'.1 hb'.1 hd'.1 ho' hg'.1 he'.1 hst'.1 hdd'.1 hcl'.1 2097200 (by omega)
  rw [if_neg h1,hr',Option.bind_some]
  by_cases h2:r'<0
  · rw [if_pos h2]
  obtain⟨⟨b1,b2⟩,b3,⟨b4,b5,b6,_⟩,⟨b7,b8,b9,b10⟩,b11⟩:=hrb h1
  have c1:(w.map toW).length≤1048576:=by simpa using b1
  have c2:=toW_sizes w b2
  have c3:(dd.map toD).length≤1048576:=by simpa using b10
  have c4:(cl.map toC).length≤1048576:=by simpa using b11
  obtain⟨⟨d1,d2⟩,d3,⟨d4,d5,d6,_⟩,⟨d7,d8,d9,d10⟩,d11⟩:=hrb' h2
  have e1:(w'.map toW).length≤1048576:=by simpa using d1
  have e2:=toW_sizes w' d2
  have e3:(dd'.map toD).length≤1048576:=by simpa using d10
  have e4:(cl'.map toC).length≤1048576:=by simpa using d11
  rw [if_neg h2,laws_toMachine_eq w c s b d h n o g e st m dd cl t f b1 b3 b4 b5 b6 b7 b8 b9 b10 b11 _ (by omega),laws_toMachine_eq w' c' s' b' d' h' n' o' g' e' st' m' dd' cl' t' f' d1 d3 d4 d5 d6 d7 d8 d9 d10 d11 _ (by omega)]
  simp only [Option.bind_some]
  obtain⟨q,hq1,hq2⟩:=machSame_eq (w.map toW) c s b d h n o g e st m (dd.map toD) (cl.map toC) t f (w'.map toW) c' s' b' d' h' n' o' g' e' st' m' (dd'.map toD) (cl'.map toC) t' f' c1 b3 b4 b5 b6 b7 b8 b9 c3 c4 2097200 (by omega)
  have p1:=spec_l08OK_eq _ c s b d h n o g e st m _ _ t f c1 c2 b3 b4 b5 b6 b7 b8 b9 c3 c4 2097200 (by omega)
  have p2:=spec_l08OK_eq _ c' s' b' d' h' n' o' g' e' st' m' _ _ t' f' e1 e2 d3 d4 d5 d6 d7 d8 d9 e3 e4 2097200 (by omega)
  have i1:=impl_MachineOK_eq _ c s b d h n o g e st m _ _ t f c1 c2 b3 b4 b5 b6 b7 b8 b9 c3 c4 2097200 (by omega)
  have i2:=impl_MachineOK_eq _ c' s' b' d' h' n' o' g' e' st' m' _ _ t' f' e1 e2 d3 d4 d5 d6 d7 d8 d9 e3 e4 2097200 (by omega)
  have y1:=laws_eqMachine_refl _ c s b d h n o g e st m _ _ t f c1 b3 b4 b5 b6 b7 b8 b9 c3 c4 2097200 (by omega)
  have y2:=laws_eqMachine_refl _ c' s' b' d' h' n' o' g' e' st' m' _ _ t' f' e1 d3 d4 d5 d6 d7 d8 d9 e3 e4 2097200 (by omega)
  have v1:spec_SameMachine.f 2097200 (w.map toW) c s b d h n o g e st m (dd.map toD) (cl.map toC) t f (w'.map toW) c' s' b' d' h' n' o' g' e' st' m' (dd'.map toD) (cl'.map toC) t' f'=impl_SameMachine.f 2097200 (w.map toW) c s b d h n o g e st m (dd.map toD) (cl.map toC) t f (w'.map toW) c' s' b' d' h' n' o' g' e' st' m' (dd'.map toD) (cl'.map toC) t' f':=by
    unfold spec_SameMachine.f impl_SameMachine.f
    rw [hq1,hq2,i1,i2,p1,p2]
  have v2: ∃z,impl_SameMachine.f 2097200 (w.map toW) c s b d h n o g e st m (dd.map toD) (cl.map toC) t f (w'.map toW) c' s' b' d' h' n' o' g' e' st' m' (dd'.map toD) (cl'.map toC) t' f'=some z:=by
    unfold impl_SameMachine.f
    rw [hq2,i1,i2]
    simp only [Option.bind_some]
    repeat' split
    all_goals exact⟨_,rfl⟩
  obtain⟨z,hz⟩:=v2
  rw [v1,hz,y1,y2]
  simp
end Go.Proofs.YtmjkehfbgaafjaaGreatDoor.Pure
