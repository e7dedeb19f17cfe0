import Derived.Test.YtjnkhcgmgkhnaaaGreatDoorLibC
import Derived.Lib.SplitLaws
import Derived.RangeFuncWrites
import Derived.ChangeKeysEq
set_option linter.all false
open Array renaming length_toList→Ψ,getD_eq_getD_getElem?→ώ,getElem?_eq_some_iff→Ϣ,getElem?_toList→ϥ,getElem?_setIfInBounds→ϫ,replicate→aaa,getElem?_eq_getElem→aak,ext'→aaU,toList_map→aaX
open Bool renaming and_eq_true→κ,not_eq_true'→aaf
open Classical renaming choose_spec→abr
open Go renaming Value→ο,World→Ε,TypeId→Ι,Program→Ξ,Oper→Ϥ,Operand→aah,IntKind→aaC,FuncId→aaE,Exit→abm,Calls→abq,MapEntry→acg,TypeInfo→adh
open Go.Act renaming put→abp,eval→ad5
open Go.Addr renaming add→abF
open Go.Builtin renaming append_→Ϛ,zeroCells→Ϧ,clear_→abv,len_→aco
open Go.Calls renaming mono→adR
open Go.Deferred renaming ofValue→aaN
open Go.Fence renaming wide→acH
open Go.Ide.CR renaming stays→ad7
open Go.Ide.CallOK renaming rU→aeK
open Go.Ide.Chunk renaming oW→adg
open Go.Ide.Glob renaming ok→agU
open Go.Ide.HT renaming seq→υ
open Go.Ide.Ty renaming size→aan
open Go.Ide.bJ renaming alloc→ab6,refl→acL
open Go.Ide.dm renaming new→adV
open Go.Instr renaming sureAddr→aat,findNow→aa4,checkKey→aa9,lookup→ab0,findKey→ab9,findAsking→acn,alloc→acV,sameNow→ad4,mapUpdate→afS,build→agX
open Go.Lib renaming countB→ab3,split→aeh
open Go.Op renaming eqItems→afR
open Go.Oper renaming wp→ab2,semAt_eq→agE
open Go.Region renaming wanted→ϭ,schedule→afu
open Go.Result renaming andThen_ok→ϋ,andThen→aaK
open Go.RowKit renaming Below→adb
open Go.RowKit.Below renaming heap_alloc→aao,refl→agq
open Go.Sem renaming run_bind→Ϙ,run_pure→ϳ
open Go.Value renaming cells→abz
open Go.World renaming putObj_heap_other→aaD,alloc_heap_new→abP,cell?_of_block→abS,grownBy_alloc→abW,cell?→adx,putObj_heap_same→aeq,size_alloc→afv
open Int renaming le_refl→Ϭ,instDecidableEq→ac9
open List renaming length→ζ,replicate→π,getElem?_eq_some_iff→ψ,length_append→ω,length_cons→Ζ,append_assoc→ό,mem_cons→ϒ,length_map→ϔ,length_replicate→ϕ,length_take→ϙ,mem_cons_of_mem→ϛ,mem_map→ϟ,all_eq_true→ϡ,map_cons→ϱ,not_mem_nil→ϲ,mem_cons_self→Ϻ,length_drop→aab,take_of_length_le→aaw,nodup_cons→aaV,range→abh,take_append_of_le_length→ab1,take_append_drop→acY,toArray→adJ,drop_eq_getElem_cons→ad3,map_map→aeb,drop_eq_nil_of_le→aeA,range'→ahj
open List.cons renaming injEq→aeL
open Nat renaming le_refl→φ,beq→Α,mul_le_mul_right→Ρ,zero_add→Υ,add_mul→ϑ,le_of_ble_eq_true→ϓ,lt_of_lt_of_le→ϖ,le_trans→ϣ,add_zero→ϧ,ble→ϩ,blt→aae,min_eq_left→aav,zero_mul→aaY,mul_one→adn,lt_succ_self→adG,sub_zero→ahk
open Option renaming isSome_some→aeV,mem_toList→ae4
open Prod renaming fst→aas
open Std.Legacy.Range renaming forIn_eq_forIn_range'→agr,size→ags
namespace Go.Ide
def VF (s:su)(m0:Mem)(c R:bs):Option bs:=
 match R with
 | .bp t _=>(match dF m0 t c with
  |some x=>some (.bp t x)
  |none=>none)
 | .ptr o j=>(match c with
  | .ptr k off=>bif qO k o s.ch&&Α off j then some (.ptr o j) else none
  |_=>none)
 | .cZ o _ I j=>(match c with
  | .cZ k i T off=>bif qO k o s.ch&&(Α T I&&Α off j) then some (.cZ o i I j) else none
  |_=>none)
 | .ip r _ j=>(match c with
  | .ip t x off=>bif Α off j then (if h:r=t then some (.ip r (cE h.symm x) j) else none) else none
  | .ptr k off=>(match lk k m0 with
   |some (.box cs)=>bif Α off j then (match impl m0 r cs with
    |some (x,[])=>some (.ip r x j)
    |_=>none) else none
   |_=>none)
  |_=>none)
 | .all o=>(match c with
  | .all k=>bif qO k o s.ch&& !(c8 k s.tr) then some (.all o) else none
  | .br=>bif c8 o s.vs then some (.all o) else none
  |_=>none)
 | .ref o _ _=>(match c with
  | .ref k off len=>bif qO k o s.ch&& !(c8 k s.tr) then some (.ref o off len) else none
  |_=>none)
 | .br=>(match c with
  | .br=>some .br
  |_=>none)
 | .fn p=>(match c with
  | .fn f=>if p=f then some (.fn p) else none
  |_=>none)
 | .jb p r _=>(match c with
  | .jb f t x=>if p=f then (if h:r=t then some (.jb p r (cE h.symm x)) else none) else none
  |_=>none)
 | .cls p J=>(match c with
  | .cls f U=>if p=f then (bif CN s.ch U J then some (.cls p J) else none) else none
  |_=>none)
 | .zq p r _=>(match c with
  | .zq f t x=>if p=f then (if h:r=t then some (.zq p r (cE h.symm x)) else none) else none
  |_=>none)
 | .fK o=>(match c with
  | .fK k=>bif qO k o s.ch then some (.fK o) else none
  |_=>none)
 | .dE=>bif c.ok then some .dE else none
 |_=>none
theorem oD {t j:Ty}(h:j=t)(x:t.D):cE h (cE h.symm x)=x:=by subst h;rfl
theorem IX {s:su}{m0 m':Mem}{c c':bs}(h:VF s m0 c c'=some c'): ∃ps,AL s m0 m' c c'=some ps/\bU ps:=by
 cases c' with
 |bp t R=>
  have h:(match dF m0 t c with
   |some x=>some (bs.bp t x)
   |none=>none)=some (.bp t R):=h
  show∃ps,(match dF m0 t c with
   |some x=>some [R=x]
   |none=>none)=some ps/\bU ps
  cases hx:dF m0 t c with
  |none=>rw [hx] at h;cases h
  |some x=>
   rw [hx] at h;injection h with h;injection h with h1 T;exact ⟨_,rfl,T.symm,trivial⟩
 |ptr o j=>
  cases c with
  |ptr k off=>
   have h:(bif qO k o s.ch&&Α off j then some (bs.ptr o j) else none)=some (.ptr o j):=h;show∃ps,(bif qO k o s.ch&&Α off j then some [] else none)=some ps/\bU ps;cases r:(qO k o s.ch&&Α off j) with
   |true=>exact ⟨_,rfl,trivial⟩
   |false=>rw [r] at h;cases h
  |_=>cases h
 |cZ o i' U j=>
  cases c with
  |cZ k i sz off=>
   have h:(bif qO k o s.ch&&(Α sz U&&Α off j) then some (bs.cZ o i U j) else none)=some (.cZ o i' U j):=h;show∃ps,(bif qO k o s.ch&&(Α sz U&&Α off j) then some [i'=i] else none)=some ps/\bU ps;cases r:(qO k o s.ch&&(Α sz U&&Α off j)) with
   |true=>
    rw [r] at h;injection h with h;injection h with _ T;exact ⟨_,rfl,T.symm,trivial⟩
   |false=>rw [r] at h;cases h
  |_=>cases h
 |ip I R j=>
  cases c with
  |ip t x off=>
   have h:(bif Α off j then (if h:I=t then some (bs.ip I (cE h.symm x) j) else none) else none)=some (.ip I R j):=h;show∃ps,(bif Α off j then (if h:I=t then some [cE h R=x] else none) else none)=some ps/\bU ps;cases r:Α off j with
   |true=>
    rw [r] at h;simp only [cond_true] at h⊢;split at h;rename_i e;rw [dif_pos e];injection h with h;injection h with _ T;exact ⟨_,rfl,by rw [<-T];exact oD e _,trivial⟩;cases h
   |false=>rw [r] at h;cases h
  |ptr k off=>
   have h:(match lk k m0 with
    |some (.box cs)=>bif Α off j then (match impl m0 I cs with
     |some (x,[])=>some (bs.ip I x j)
     |_=>none) else none
    |_=>none)=some (.ip I R j):=h
   show∃ps,(match lk k m0 with
    |some (.box cs)=>bif Α off j then (match impl m0 I cs with
     |some (x,[])=>some [R=x]
     |_=>none) else none
    |_=>none)=some ps/\bU ps
   cases hk:lk k m0 with
   |none=>rw [hk] at h;cases h
   |some ch=>
    rw [hk] at h;cases ch with
    |box cs=>
     simp only at h⊢;cases r:Α off j with
     |true=>
      rw [r] at h;simp only [cond_true] at h⊢;cases hi:impl m0 I cs with
      |none=>rw [hi] at h;cases h
      |some p=>
       obtain ⟨x,l⟩:=p;rw [hi] at h;cases l with
       |nil=>
        simp only at h⊢;injection h with h;injection h with _ T;exact ⟨_,rfl,T.symm,trivial⟩
       |cons _ _=>cases h
     |false=>rw [r] at h;cases h
    |_=>cases h
  |_=>cases h
 |all o=>
  cases c with
  |all k=>
   have h:(bif qO k o s.ch&& !(c8 k s.tr) then some (bs.all o) else none)=some (.all o):=h;show∃ps,(bif qO k o s.ch&& !(c8 k s.tr) then some [] else none)=some ps/\bU ps;cases r:(qO k o s.ch&& !(c8 k s.tr)) with
   |true=>exact ⟨_,rfl,trivial⟩
   |false=>rw [r] at h;cases h
  |br=>
   have h:(bif c8 o s.vs then some (bs.all o) else none)=some (.all o):=h;show∃ps,(bif c8 o s.vs then some [] else none)=some ps/\bU ps;cases r:c8 o s.vs with
   |true=>exact ⟨_,rfl,trivial⟩
   |false=>rw [r] at h;cases h
  |_=>cases h
 |ref o j ab=>
  cases c with
  |ref k off len=>
   have h:(bif qO k o s.ch&& !(c8 k s.tr) then some (bs.ref o off len) else none)=some (.ref o j ab):=h;show∃ps,(bif qO k o s.ch&& !(c8 k s.tr) then some [j=off,ab=len] else none)=some ps/\bU ps;cases r:(qO k o s.ch&& !(c8 k s.tr)) with
   |true=>
    rw [r] at h;injection h with h;injection h with _ T h3;exact ⟨_,rfl,T.symm,h3.symm,trivial⟩
   |false=>rw [r] at h;cases h
  |_=>cases h
 |br=>
  cases c with
  |br=>exact ⟨_,rfl,trivial⟩
  |_=>cases h
 |fn J=>
  cases c with
  |fn f=>
   have h:(if J=f then some (bs.fn J) else none)=some (.fn J):=h;show∃ps,(if J=f then some [] else none)=some ps/\bU ps;split at h;rename_i e;rw [if_pos e];exact ⟨_,rfl,trivial⟩;cases h
  |_=>cases h
 |jb J I R=>
  cases c with
  |jb f t x=>
   have h:(if J=f then (if h:I=t then some (bs.jb J I (cE h.symm x)) else none) else none)=some (.jb J I R):=h;show∃ps,(if J=f then (if h:I=t then some [cE h R=x] else none) else none)=some ps/\bU ps;split at h;rename_i e;rw [if_pos e];split at h;rename_i e2;rw [dif_pos e2];injection h with h;injection h with _ _ T;exact ⟨_,rfl,by rw [<-T];exact oD e2 _,trivial⟩;cases h;cases h
  |_=>cases h
 |cls J aa=>
  cases c with
  |cls f ks=>
   have h:(if J=f then (bif CN s.ch ks aa then some (bs.cls J aa) else none) else none)=some (.cls J aa):=h;show∃ps,(if J=f then (bif CN s.ch ks aa then some [] else none) else none)=some ps/\bU ps;split at h;rename_i e;rw [if_pos e];cases r:CN s.ch ks aa with
   |true=>exact ⟨_,rfl,trivial⟩
   |false=>rw [r] at h;cases h
   cases h
  |_=>cases h
 |zq J I R=>
  cases c with
  |zq f t x=>
   have h:(if J=f then (if h:I=t then some (bs.zq J I (cE h.symm x)) else none) else none)=some (.zq J I R):=h;show∃ps,(if J=f then (if h:I=t then some [cE h R=x] else none) else none)=some ps/\bU ps;split at h;rename_i e;rw [if_pos e];split at h;rename_i e2;rw [dif_pos e2];injection h with h;injection h with _ _ T;exact ⟨_,rfl,by rw [<-T];exact oD e2 _,trivial⟩;cases h;cases h
  |_=>cases h
 |fK o=>
  cases c with
  |fK k=>
   have h:(bif qO k o s.ch then some (bs.fK o) else none)=some (.fK o):=h;show∃ps,(bif qO k o s.ch then some [] else none)=some ps/\bU ps;cases r:qO k o s.ch with
   |true=>exact ⟨_,rfl,trivial⟩
   |false=>rw [r] at h;cases h
  |_=>cases h
 |dE=>
  have h:(bif c.ok then some bs.dE else none)=some .dE:=h;show∃ps,(bif c.ok then some [] else none)=some ps/\bU ps;cases r:c.ok with
  |true=>exact ⟨_,rfl,trivial⟩
  |false=>rw [r] at h;cases h
 |row=>cases h
 |yK=>cases h
 |bad=>cases h
def Et (s:su)(m0:Mem):List bs->List bs->Option (List bs)
 |[],[]=>some []
 |c::r,j::o=>(match VF s m0 c j,Et s m0 r o with
  |some p,some q=>some (p::q)
  |_,_=>none)
 |_,_=>none
theorem bU.app: ∀{a b:List Prop},bU a->bU b->bU (a++b)
 |[],_,_,j=>j
 |_::_,_,o,j=>⟨o.1,bU.app o.2 j⟩
theorem wg {s:su}{m0 m':Mem}: ∀{cs j:List bs},Et s m0 cs j=some j-> ∃ps,AM s m0 m' cs j=some ps/\bU ps
 |[],[],_=>⟨_,rfl,trivial⟩
 |c::r,c'::r',h=>by
  unfold Et at h;split at h;rename_i p q hp o;injection h with h;injection h with t I;subst t I;obtain ⟨ps,J,R⟩:=IX (m':=m') hp;obtain ⟨T,U,a2⟩:=wg (m':=m') o;exact ⟨ps++T,by unfold AM;rw [J,U],R.app a2⟩;cases h
 |[],_::_,h=>by cases h
 |_::_,[],h=>by cases h
def QV (s:su)(m0:Mem)(v o:bu):Option bu:=
 match o with
 | .one p=>(match v with
  | .one c=>(match VF s m0 c p with
   |some x=>some (.one x)
   |none=>none)
  |_=>none)
 | .agg j=>(match v with
  | .agg cs=>(match Et s m0 cs j with
   |some x=>some (.agg x)
   |none=>none)
  |_=>none)
 | .Ab _=>none
 | .BO=>none
 | .dE=>some .dE
theorem OQ {s:su}{m0 m':Mem}{v o:bu}(h:QV s m0 v o=some o): ∃ps,OJ s m0 m' v o=some ps/\bU ps:=by
 cases o with
 |one r=>
  unfold QV at h;unfold OJ;simp only at h⊢;split at h;split at h;rename_i x j;injection h with h;injection h with h;rw [h] at j;exact IX j;cases h;cases h
 |agg p=>
  unfold QV at h;unfold OJ;simp only at h⊢;split at h;split at h;rename_i x j;injection h with h;injection h with h;rw [h] at j;exact wg j;cases h;cases h
 |Ab=>cases h
 |BO=>cases h
 |dE=>exact ⟨_,rfl,trivial⟩
def IY (s:su)(m0:Mem)(fr:Fr):Fr->Option Fr
 |[]=>some []
 |(t,j)::r=>(match lk t fr with
  |some v=>(match QV s m0 v j,IY s m0 fr r with
   |some p,some q=>some ((t,p)::q)
   |_,_=>none)
  |none=>none)
theorem FQ {s:su}{m0 m':Mem}{fr:Fr}: ∀{j:Fr},IY s m0 fr j=some j-> ∃ps,G6 s m0 m' fr j=some ps/\bU ps
 |[],_=>⟨_,rfl,trivial⟩
 |(t,o)::r,h=>by
  have h:(match lk t fr with
   |some v=>(match QV s m0 v o,IY s m0 fr r with
    |some p,some q=>some ((t,p)::q)
    |_,_=>none)
   |none=>none)=some ((t,o)::r):=h
  show∃ps,(match lk t fr with
   |some v=>(match OJ s m0 m' v o,G6 s m0 m' fr r with
    |some p,some q=>some (p++q)
    |_,_=>none)
   |none=>none)=some ps/\bU ps
  cases R:lk t fr with
  |none=>rw [R] at h;cases h
  |some v=>
   rw [R] at h;simp only at h⊢;cases hp:QV s m0 v o with
   |none=>rw [hp] at h;cases h
   |some p=>
    cases I:IY s m0 fr r with
    |none=>rw [hp,I] at h;cases h
    |some q=>
     rw [hp,I] at h;injection h with h;injection h with J T;injection J with _ J;rw [J] at hp;rw [T] at I;obtain ⟨ps,U,a1⟩:=OQ (m':=m') hp;obtain ⟨qs,e2,a2⟩:=FQ (m':=m') I;rw [U,e2];exact ⟨_,rfl,a1.app a2⟩
def Lt (s:su)(m0:Mem)(k:Nat)(c R:Chunk):Option Chunk:=
 match R with
 | .box j=>(match c with
  | .box cs=>(match Et s m0 cs j with
   |some x=>some (.box x)
   |none=>none)
  |_=>none)
 | .seq o _=>(match c with
  | .seq t p=>if h:o=t then (bif c8 k s.tr then none else some (.seq o (cE (congrArg Ty.sl h.symm) p))) else none
  |_=>none)
 | .mp o r _=>(match c with
  | .mp t u p=>if h:Ty.pair o r=Ty.pair t u then some (.mp o r (cE (a:= .sl (.pair t u)) (b:= .sl (.pair o r)) (congrArg Ty.sl h.symm) p)) else none
  |_=>none)
 | .pA I J _=>(match c with
  | .pA T e p=>bif Α I T&&Α J e then some (.pA I J p) else none
  |_=>none)
 | .gh j _=>(match c with
  | .gh cs U=>(match Et s m0 cs j with
   |some x=>some (.gh x U)
   |none=>none)
  |_=>none)
 | .oS _ _ _ _ _=>none
 | .gone=>none
theorem Lu {s:su}{m0 m':Mem}{k:Nat}{c c':Chunk}(h:Lt s m0 k c c'=some c'): ∃ps,tY s m0 m' k c c'=some ps/\bU ps:=by
 cases c' with
 |box r=>
  unfold Lt at h;unfold tY;simp only at h⊢;split at h;split at h;rename_i x U;injection h with h;injection h with h;rw [h] at U;exact wg U;cases h;cases h
 |seq o j=>
  cases c with
  |seq t I=>
   have h:(if h:o=t then (bif c8 k s.tr then none else some (Chunk.seq o (cE (a:= .sl t) (b:= .sl o) (congrArg Ty.sl h.symm) I))) else none)=some (.seq o j):=h;show∃ps,(if h:o=t then (bif c8 k s.tr then some [cE (a:= .sl o) (b:= .sl t) (congrArg Ty.sl h) j=List.take (ζ j) I] else some [cE (a:= .sl o) (b:= .sl t) (congrArg Ty.sl h) j=I]) else none)=some ps/\bU ps;split at h;rename_i e;rw [dif_pos e];cases hb:c8 k s.tr with
   |true=>rw [hb] at h;cases h
   |false=>
    rw [hb] at h;simp only [cond_false] at h⊢;injection h with h;injection h with _ J;exact ⟨_,rfl,by rw [<-J];exact oD (congrArg Ty.sl e) _,trivial⟩
   cases h
  |_=>cases h
 |mp o R j=>
  cases c with
  |mp t u I=>
   have h:(if h:Ty.pair o R=Ty.pair t u then some (Chunk.mp o R (cE (a:= .sl (.pair t u)) (b:= .sl (.pair o R)) (congrArg Ty.sl h.symm) I)) else none)=some (.mp o R j):=h;show∃ps,(if h:Ty.pair o R=Ty.pair t u then some [cE (a:= .sl (.pair o R)) (b:= .sl (.pair t u)) (congrArg Ty.sl h) j=I] else none)=some ps/\bU ps;split at h;rename_i e;rw [dif_pos e];injection h with h;injection h with _ _ J;exact ⟨_,rfl,by rw [<-J];exact oD (congrArg Ty.sl e) _,trivial⟩;cases h
  |_=>cases h
 |pA T' e' j=>
  cases c with
  |pA T e I=>
   have h:(bif Α T' T&&Α e' e then some (Chunk.pA T' e' I) else none)=some (.pA T' e' j):=h;show∃ps,(bif Α T' T&&Α e' e then some [j=I] else none)=some ps/\bU ps;cases hb:(Α T' T&&Α e' e) with
   |false=>rw [hb] at h;cases h
   |true=>
    rw [hb] at h;simp only [cond_true] at h⊢;injection h with h;injection h with _ _ J;exact ⟨_,rfl,J.symm,trivial⟩
  |_=>cases h
 |gh r GD=>
  cases c with
  |gh cs vs=>
   have h:(match Et s m0 cs r with
    |some x=>some (Chunk.gh x vs)
    |none=>none)=some (.gh r GD):=h
   show∃ps,(match AM s m0 m' cs r with
    |some p=>some ((GD=vs)::p)
    |none=>none)=some ps/\bU ps
   split at h;rename_i x U;injection h with h;injection h with h1 J;rw [h1] at U;obtain ⟨ps,e1,a1⟩:=wg (m':=m') U;rw [e1];exact ⟨_,rfl,J.symm,a1⟩;cases h
  |_=>cases h
 |oS=>cases h
 |gone=>cases h
def OS (s:su)(m m0:Mem):Mem->Option Mem
 |[]=>some []
 |(j,o)::r=>(match lk j (inv s.ch) with
  |some k=>(match lk k m with
   |some c=>(match Lt s m0 k c o,OS s m m0 r with
    |some p,some q=>some ((j,p)::q)
    |_,_=>none)
   |none=>none)
  |none=>bif c8 j s.vs then (match o with
   | .seq t _=>(match OS s m m0 r with
    |some q=>some ((j,.seq t [])::q)
    |none=>none)
   |_=>none) else none)
theorem Eu {s:su}{m m0 m':Mem}: ∀{r:Mem},OS s m m0 r=some r-> ∃ps,OL s m m0 m' r=some ps/\bU ps
 |[],_=>⟨_,rfl,trivial⟩
 |(R,T)::r,h=>by
  unfold OS at h;unfold OL;cases U:lk R (inv s.ch) with
  |some k=>
   rw [U] at h;simp only at h⊢;cases hc:lk k m with
   |none=>rw [hc] at h;cases h
   |some c=>
    rw [hc] at h;simp only at h⊢;cases hp:Lt s m0 k c T with
    |none=>rw [hp] at h;cases h
    |some p=>
     cases j:OS s m m0 r with
     |none=>rw [hp,j] at h;cases h
     |some q=>
      rw [hp,j] at h;injection h with h;injection h with o t;injection o with _ o;rw [o] at hp;rw [t] at j;obtain ⟨ps,e1,a1⟩:=Lu (m':=m') hp;obtain ⟨qs,I,J⟩:=Eu (m':=m') j;rw [e1,I];exact ⟨_,rfl,a1.app J⟩
  |none=>
   rw [U] at h;simp only at h⊢;cases hb:c8 R s.vs with
   |false=>rw [hb] at h;cases h
   |true=>
    rw [hb] at h;cases T with
    |seq t' ig=>
     simp only [cond_true] at h⊢;cases j:OS s m m0 r with
     |none=>rw [j] at h;cases h
     |some q=>
      rw [j] at h;injection h with h;injection h with o t;injection o with _ o;injection o with _ o;rw [t] at j;obtain ⟨qs,I,J⟩:=Eu (m':=m') j;rw [I];exact ⟨_,rfl,o.symm,J⟩
    |_=>cases h
def St.re (s:su)(own:List Nat)(st st':St):Option St:=
 bif s.okB st'.mem own then (match IY s (s.m0 st.mem) st.fr st'.fr,OS s st.mem (s.m0 st.mem) st'.mem with
  |some p,some q=>some ⟨p,q,st'.nx⟩
  |_,_=>none) else none
theorem St.Nu {s:su}{own:List Nat}{st st':St}(h:st.re s own st'=some st'): ∃ps,st.cv s own st'=some ps/\bU ps:=by
 unfold St.re at h;unfold St.cv;cases j:s.okB st'.mem own with
 |false=>rw [j] at h;cases h
 |true=>
  rw [j] at h;simp only [cond_true] at h⊢;split at h;rename_i p q hp o;injection h with h;have r:p=st'.fr:=congrArg St.fr h;have t:q=st'.mem:=congrArg St.mem h;rw [r] at hp;rw [t] at o;obtain ⟨ps,I,J⟩:=FQ (m':=st'.mem) hp;obtain ⟨R,T,U⟩:=Eu (m':=st'.mem) o;exact ⟨ps++R,by rw [I,T],J.app U⟩;cases h
variable {cx:Cx} {P:Ξ} {N:Nat} {st st':St} {c x y:Code} {Q:abm->St->Prop}
theorem Le.re {own:List Nat}(ch:List (Nat×Nat))(vs:List Nat){st':St}(j:gG cx P N own)(o:st.re ⟨ch,vs,[],false⟩ own st'=some st'):Le cx st st':=by
 obtain ⟨t,p,r⟩:=St.Nu o;exact Le.cv j.own (λh=>by cases h) p r
theorem Le.rz {own:List Nat}(ch:List (Nat×Nat))(vs:List Nat){st':St}(j:gG cx P N own)(o:cx.HP)(p:st.re ⟨ch,vs,[],true⟩ own st'=some st'):Le cx st st':=by
 obtain ⟨I,r,t⟩:=St.Nu p;exact Le.cv j.own (λ_=>o) r t
theorem HT.FR {σ ρ:Type}{f:σ->Option (σ⊕ρ)}{s:σ}{r:ρ}(S:σ->St)(E:ρ->abm×St)(p:Le cx st (S s))(h:rounds f s=some r)(t:Q (E r).1 (E r).2)(round: ∀s x,f s=some x->(∀j,x= .inr j->Q (E j).1 (E j).2)->HT cx (S s) c (vm (λst'=> ∃o,x= .inl o/\Le cx st' (S o)) Q)):HT cx st (.loop c) Q:=p.ht (HT.R0 S E h t round)
end Go.Ide
namespace Go.Ide
section
variable {α β:Type}
def vx (F:(α->Option β)->α->Option β):Nat->α->Option β
 |0=>λ_=>none
 |n+1=>F (vx F n)
open Classical in
noncomputable def Lv (F:(α->Option β)->α->Option β)(a:α):Option β:=
 if h: ∃r,∃N,∀n,N<=n->vx F n a=some r then some (Classical.choose h) else none
theorem CU {F:(α->Option β)->α->Option β}{a:α}{r:β}:Lv F a=some r↔ ∃N,∀n,N<=n->vx F n a=some r:=by
 unfold Lv;constructor;intro h;split at h;rename_i j;injection h with h;rw [<-h];exact abr j;cases h;rintro ⟨N,p⟩;have j: ∃r,∃N,∀n,N<=n->vx F n a=some r:=⟨r,N,p⟩;rw [dif_pos j];obtain ⟨t,o⟩:=abr j;have J:=p (max N t) (Nat.le_max_left _ _);have I:=o (max N t) (Nat.le_max_right _ _);rw [J] at I;exact I.symm
theorem Lw {F:(α->Option β)->α->Option β}{C:α->β->Prop}(step: ∀j,(∀x r,j x=some r->C x r)-> ∀x r,F j x=some r->C x r){a:α}{r:β}(o:Lv F a=some r):C a r:=by
 obtain ⟨N,p⟩:=CU.1 o;have: ∀n x r,vx F n x=some r->C x r:=by
  intro n;induction n with
  |zero=>intro x r h;cases h
  |succ n ih=>intro x r h;exact step _ ih x r h
 exact this N a r (p N (φ _))
end
end Go.Ide
namespace Go.Ide
theorem IZ {P:Ξ}{f:aaE}{s sep:List UInt8}{xs:List (List UInt8)}{T:Ι}(aa:kh P f)(h0:0<xs.length)(h1:xs.length<=maxLen)(h: ∀(w:Ε) (S:Nat->Prop),agU w S->abq P f #[.string ⟨s.toArray⟩,.string ⟨sep.toArray⟩] w λe w'=>e= .returned (.slice (some ⟨w.heap.size,0,none⟩) xs.length xs.length)/\w'=w.alloc (.cells (xs.map λx=>Value.string ⟨x.toArray⟩).toArray T)):
 CallOK P f [.bP .str s,.bP .str sep] [⟨true,.sl .str,xs⟩] []:=by
 refine ⟨aa,λw S vals I F hB hI hS RO r hgl=> ?_⟩;obtain ⟨v1,J,A1,A2,rfl,rfl,⟨e1,R3,k1,r1⟩,⟨e2,Nn,k2,r2⟩⟩: ∃v1 J A1 A2,vals=[v1,J]/\I=[A1,A2]/\yP S w (.bP .str s) v1 A1/\yP S w (.bP .str sep) J A2:=by
  cases vals with
  |nil=>exact r.elim
  |cons v1 vals=>
   cases I with
   |nil=>exact r.elim
   |cons A1 I=>
    obtain ⟨h1,r⟩:=r;cases vals with
    |nil=>exact r.elim
    |cons J vals=>
     cases I with
     |nil=>exact r.elim
     |cons A2 I=>
      obtain ⟨h2,r⟩:=r;cases vals with
      |cons v3 vals=>exact r.elim
      |nil=>
       cases I with
       |cons A3 I=>exact r.elim
       |nil=>exact ⟨v1,J,A1,A2,rfl,rfl,h1,h2⟩
 have q1:v1= .string ⟨s.toArray⟩:=by
  have k1:R3=[v1]:=k1;have r1:R3=[.string ⟨s.toArray⟩]:=r1;rw [k1] at r1;injection r1
 have q2:J= .string ⟨sep.toArray⟩:=by
  have k2:Nn=[J]:=k2;have r2:Nn=[.string ⟨sep.toArray⟩]:=r2;rw [k2] at r2;injection r2
 subst e1 e2 q1 q2;have hF: ∀b,b ∉ F:=λb R=>by
  obtain ⟨γ,o,_⟩:=(hB b).1 R;simp at o
 refine (h w S hgl).mono λe w' ⟨he,hw⟩=> ?_;subst hw;let γ:List Nat->Option Nat:=λp=>if p=[] then some w.heap.size else none
 have o: ∀p b,γ p=some b->p=[]/\b=w.heap.size:=λp b hp=>by
  simp only [γ] at hp;split at hp;rename_i e;injection hp with hp;exact ⟨e,hp.symm⟩
  cases hp
 have t:=adV w (xs.map λx=>Value.string ⟨x.toArray⟩).toArray T;have U:=ab6 F w (.cells (xs.map λx=>Value.string ⟨x.toArray⟩).toArray T);refine ⟨_,[γ],[w.heap.size],he,λb=> ?_,⟨by simp,λγ' hg p q b hp hq=> ?_⟩,⟨[_],⟨[γ],[],rfl,?_,rfl⟩,rfl⟩,λb R=> ?_,U,trivial⟩;constructor;intro R;simp at R;subst R;exact ⟨γ,by simp,[],rfl⟩;rintro ⟨γ',hg,p,hp⟩;simp at hg;subst hg;simp [(o p b hp).2];simp at hg;subst hg;rw [(o p b hp).1,(o q b hq).1];refine ⟨_,rfl,.inr ⟨_,γ,rfl,rfl,w.heap.size,xs.length,_,rfl,rfl,φ _,h0,t,by simp [aan],h1,λi hi=>⟨[.string ⟨xs[i].toArray⟩],λj v hv=> ?_,rfl⟩⟩⟩;cases j with
 |zero=>simp at hv;subst hv;simp [aan,hi]
 |succ j=>simp at hv
 simp at R;subst R;exact ⟨.inl (φ _),t.lt⟩
end Go.Ide
namespace Go.Ide
theorem I0 {P:Ξ}{f:aaE}{s sep:List UInt8}{T:Ι}(j:kh P f)(U:s.length<4294967281)(o:1<=sep.length)(h: ∀(w:Ε) (S:Nat->Prop),agU w S->abq P f #[.string ⟨s.toArray⟩,.string ⟨sep.toArray⟩] w λe w'=>e= .returned (.slice (some ⟨w.heap.size,0,none⟩) (ab3 ⟨s.toArray⟩ ⟨sep.toArray⟩+1) (ab3 ⟨s.toArray⟩ ⟨sep.toArray⟩+1))/\w'=w.alloc (.cells ((Lib.splitB ⟨sep.toArray⟩ 0 (ab3 ⟨s.toArray⟩ ⟨sep.toArray⟩) ⟨s.toArray⟩).map Value.string).toArray T)):
 CallOK P f [.bP .str s,.bP .str sep] [⟨true,.sl .str,aeh s sep⟩] []:=by
 have r:=Lib.splitB_data ⟨sep.toArray⟩ 0 (ab3 ⟨s.toArray⟩ ⟨sep.toArray⟩) ⟨s.toArray⟩;have t:=Lib.splitB_all ⟨sep.toArray⟩ o 0 _ ⟨s.toArray⟩ rfl;have hc:=Lib.countB_le ⟨sep.toArray⟩ o _ ⟨s.toArray⟩ (φ _);have I:(ByteArray.mk s.toArray).size=s.length:=rfl;have e:aeh s sep=(Lib.splitB ⟨sep.toArray⟩ 0 (ab3 ⟨s.toArray⟩ ⟨sep.toArray⟩) ⟨s.toArray⟩).map (·.data.toList):=r.symm;have p:(aeh s sep).length=ab3 ⟨s.toArray⟩ ⟨sep.toArray⟩+1:=by rw [e,ϔ,t]
 refine IZ (T:=T) j (by omega) (by rw [p];unfold maxLen;omega) λw S J=>(h w S J).mono λen w' ⟨q1,R⟩=>⟨by rw [p];exact q1,?_⟩;rw [R,e,aeb];rfl
end Go.Ide
namespace Go.Ide
def Ty.simple:Ty->Bool
 | .int _=>true
 | .bool=>true
 | .str=>true
 |_=>false
def I1:(t:Ty)->t.D->ο
 | .int k,n=> .int k n
 | .bool,b=> .bool b
 | .str,s=> .string ⟨s.toArray⟩
 |_,_=> .nilIface
theorem sZ {S:Nat->Prop}{w:Ε}{t:Ty}{x:t.D}{v:ο}(h:t.simple=true):(∃cs,dC t cs v/\bT S w t cs x)↔v=I1 t x:=by
 cases t with
 |int k=>
  constructor;rintro ⟨cs,o,j⟩;have o:cs=[v]:=o;have j:cs=[.int k x]:=j;rw [o] at j;injection j;rintro rfl;exact ⟨[.int k x],rfl,rfl⟩
 |bool=>
  constructor;rintro ⟨cs,o,j⟩;have o:cs=[v]:=o;have j:cs=[.bool x]:=j;rw [o] at j;injection j;rintro rfl;exact ⟨[.bool x],rfl,rfl⟩
 |str=>
  constructor;rintro ⟨cs,o,j⟩;have o:cs=[v]:=o;have j:cs=[.string ⟨x.toArray⟩]:=j;rw [o] at j;injection j;rintro rfl;exact ⟨[.string ⟨x.toArray⟩],rfl,rfl⟩
 |_=>cases h
theorem vy {S:Nat->Prop}{w:Ε}: ∀{asx:List TD} {vals:List ο} {As:List (List (List Nat->Option Nat))},(∀a∈asx,a.t.simple=true)->o7 S w (immArgs asx) vals As->vals=asx.map (λa=>I1 a.t a.x)/\As.flatten=[]
 |[],vals,As,_,h=>by
  cases vals<;>cases As<;>first|exact ⟨rfl,rfl⟩|exact h.elim
 |a::asx,vals,As,j,h=>by
  cases vals with
  |nil=>exact h.elim
  |cons v vals=>
   cases As with
   |nil=>exact h.elim
   |cons A As=>
    obtain ⟨⟨o,p⟩,r⟩:=h;obtain ⟨I,J⟩:=vy (asx:=asx) (λb R=>j b (ϛ _ R)) r;refine ⟨by rw [ϱ,I,(sZ (j a Ϻ)).1 p],by rw [List.flatten_cons,o,J];rfl⟩
theorem vz {S:Nat->Prop}{w:Ε}: ∀{asx:List TD} {vals:List ο} {As:List (List (List Nat->Option Nat))},asx.length=vals.length->asx.length=As.length->il S w (immArgs asx) vals As []
 |[],[],[],_,_=>trivial
 |a::asx,v::vals,A::As,j,o=>vz (asx:=asx) (by simpa using j) (by simpa using o)
 |[],_::_,_,h,_=>by simp at h
 |[],[],_::_,_,h=>by simp at h
 |_::_,[],_,h,_=>by simp at h
 |_::_,_::_,[],_,h=>by simp at h
theorem CW {S:Nat->Prop}{w:Ε}: ∀{asx:List Arg} {vals:List ο} {As:List (List (List Nat->Option Nat))},o7 S w asx vals As->asx.length=vals.length/\asx.length=As.length
 |[],[],[],_=>⟨rfl,rfl⟩
 |a::asx,v::vals,A::As,h=>by
  obtain ⟨j,o⟩:=CW (asx:=asx) h.2;exact ⟨by simp [j],by simp [o]⟩
 |[],_::_,_,h=>h.elim
 |[],[],_::_,h=>h.elim
 |_::_,[],_,h=>h.elim
 |_::_,_::_,[],h=>h.elim
theorem s7 {S:Nat->Prop}{w:Ε}: ∀{rs:List TD},(∀a∈rs,a.t.simple=true)->nv S w (rs.map λr=>⟨false,r.t,r.x⟩) (rs.map λa=>I1 a.t a.x) []
 |[],_=>rfl
 |r::rs,j=>⟨[],[],rfl,(show if false=true then _ else _ from by
  rw [if_neg (by simp)];exact ⟨rfl,(sZ (j r Ϻ)).2 rfl⟩),s7 (rs:=rs) λa o=>j a (ϛ _ o)⟩
theorem bJ.below {F:List Nat}{w w':Ε}(h:adb w.heap.size w w'):bJ F w w':=
 ⟨h.os,h.tape,h.output,h.size,λb j _=>h.block b j,λb arr j=>⟨arr,j.bt (h.block b j.lt),rfl⟩⟩
theorem uR {P:Ξ}{f:aaE}{ps rs:List TD}(p:kh P f)(U: ∀a∈ps,a.t.simple=true)(h2: ∀a∈rs,a.t.simple=true)(h: ∀(w:Ε) (S:Nat->Prop),agU w S->abq P f (ps.map λa=>I1 a.t a.x).toArray w λe w'=>(∃v,e= .returned v/\BZ (rs.map λa=>I1 a.t a.x) v)/\adb w.heap.size w w'):
 CallOK P f (immArgs ps) (rs.map λr=>⟨false,r.t,r.x⟩) []:=by
 refine ⟨p,λw S vals As F hB hI hS RO R I=> ?_⟩;obtain ⟨e1,e2⟩:=vy U R;have o:=CW R;have T:(immArgs ps).length=ps.length:=by unfold immArgs;simp
 subst e1;have hF: ∀b,b ∉ F:=λb J=>by
  obtain ⟨γ,j,_⟩:=(hB b).1 J;rw [e2] at j;simp at j
 refine (h w S I).mono λe w' ⟨⟨v,he,hv⟩,hw⟩=> ?_;exact ⟨v,[],[],he,λb=>by simp,⟨List.Pairwise.nil,λγ j=>by simp at j⟩,⟨_,s7 h2,hv⟩,λb J=>by simp at J,bJ.below hw,vz (by rw [<-T,o.1]) (by rw [<-T,o.2])⟩
end Go.Ide
namespace Go.Ide
theorem G7 {w:Ε}{j:Addr}{v:ο}(h:w.cell? j=some v):j=⟨j.block,j.off,none⟩:=by
 obtain ⟨b,o,s⟩:=j;cases s with
 |none=>rfl
 |some s=>
  unfold adx at h;simp only [aeV,if_true] at h;split at h<;>cases h
theorem Lx {P:Ξ}{f:aaE}{xs:List (List UInt8)}{sep r:List UInt8}(OT:kh P f)(h0:xs=[]-> ∀(a:Option Addr) (c:Nat) (w:Ε),abq P f #[.slice a 0 c,.string ⟨sep.toArray⟩] w λe w'=>e= .returned (.string ⟨r.toArray⟩)/\w'=w)(h1: ∀(bk o c:Nat) (w:Ε),(∀(j:Nat) x,(xs.map λx=>ByteArray.mk x.toArray)[j]? =some x->w.cell? ⟨bk,o+j,none⟩=some (.string x))->bk<w.heap.size->xs.length<=c->abq P f #[.slice (some ⟨bk,o,none⟩) xs.length c,.string ⟨sep.toArray⟩] w λe w'=>e= .returned (.string ⟨r.toArray⟩)/\adb w.heap.size w w'):
 CallOK P f [.bP (.sl .str) xs,.bP .str sep] [⟨false,.str,r⟩] []:=by
 refine ⟨OT,λw S vals T F hB hI hS RO p hgl=> ?_⟩;obtain ⟨v1,v2,A1,A2,rfl,rfl,⟨e1,R3,k1,r1⟩,⟨e2,Nn,k2,r2⟩⟩: ∃v1 v2 A1 A2,vals=[v1,v2]/\T=[A1,A2]/\yP S w (.bP (.sl .str) xs) v1 A1/\yP S w (.bP .str sep) v2 A2:=by
  cases vals with
  |nil=>exact p.elim
  |cons v1 vals=>
   cases T with
   |nil=>exact p.elim
   |cons A1 T=>
    obtain ⟨h1,p⟩:=p;cases vals with
    |nil=>exact p.elim
    |cons v2 vals=>
     cases T with
     |nil=>exact p.elim
     |cons A2 T=>
      obtain ⟨h2,p⟩:=p;cases vals with
      |cons v3 vals=>exact p.elim
      |nil=>
       cases T with
       |cons A3 T=>exact p.elim
       |nil=>exact ⟨v1,v2,A1,A2,rfl,rfl,h1,h2⟩
 have q2:v2= .string ⟨sep.toArray⟩:=(sZ (t:= .str) rfl).1 ⟨Nn,k2,r2⟩;obtain ⟨a,cap,hcs,hcap,R⟩:=r1;have q1:v1= .slice a xs.length cap:=by
  have k1:R3=[v1]:=k1;rw [k1] at hcs;injection hcs
 subst e1 e2 q1 q2;have hF: ∀b,b ∉ F:=λb hb=>by
  obtain ⟨γ,U,_⟩:=(hB b).1 hb;simp at U
 have aa: ∀e w',(e=Ending.returned (.string ⟨r.toArray⟩)/\adb w.heap.size w w')-> ∃v A' F',e= .returned v/\uE A' F'/\pr A'/\D1 (iW S w w' F') w' [⟨false,.str,r⟩] v A'/\(∀b,b∈F'->(w.heap.size<=b\/tO b [.bP (.sl .str) xs,.bP .str sep] [[],[]])/\b<w'.heap.size)/\
  bJ F w w'/\il (iW S w w' F') w' [.bP (.sl .str) xs,.bP .str sep] [.slice a xs.length cap,.string ⟨sep.toArray⟩] [[],[]] []:=λe w' ⟨he,hw⟩=>
  ⟨_,[],[],he,λb=>by simp,⟨List.Pairwise.nil,λγ U=>by simp at U⟩,⟨_,s7 (rs:=[⟨.str,r⟩]) (by simp [Ty.simple]),rfl⟩,λb hb=>by simp at hb,bJ.below hw,trivial⟩
 by_cases hx:xs=[];have h0:=h0 hx a cap w;have e:xs.length=0:=by rw [hx];rfl
 show abq P f #[.slice a xs.length cap,.string ⟨sep.toArray⟩] w _;rw [e];rw [e] at aa;exact h0.mono λe w' ⟨he,hw⟩=>aa e w' ⟨he,hw▸agq _ _⟩;have Ii:=List.length_pos_iff.2 hx;obtain ⟨ad,es,ea,hs,ab,lh⟩:=R 0 Ii;have DY:es=[.string ⟨xs[0].toArray⟩]:=lh;have BX:=ab 0 (.string ⟨xs[0].toArray⟩) (by rw [DY];rfl);have ae:=G7 (show w.cell? ad=some _ by simpa [abF,aan] using BX);refine (show abq P f #[.slice a xs.length cap,.string ⟨sep.toArray⟩] w _ from ?_);rw [ea,ae];refine (h1 ad.block ad.off cap w (λj x hj=> ?_) (hS _ hs).1 hcap).mono λe w' h=>by have:=aa e w' h;rw [ea,ae] at this;exact this
 rw [List.getElem?_map] at hj;cases Gw:xs[j]? with
 |none=>rw [Gw] at hj;cases hj
 |some y=>
  rw [Gw] at hj;injection hj with hj;subst hj;obtain ⟨hlt,hy⟩:=ψ.1 Gw;obtain ⟨KM,es',I,_,J,R4⟩:=R j hlt;have:KM=ad:=by rw [ea] at I;injection I with I;exact I.symm
  subst this;have VG:es'=[.string ⟨xs[j].toArray⟩]:=R4;have:=J 0 (.string ⟨xs[j].toArray⟩) (by rw [VG];rfl);rw [hy] at this;rw [<-this]
  congr 1
  unfold abF;simp only [aan,adn,ϧ];split;rename_i e;subst e;rw [ϧ];exact ae.symm;rfl
end Go.Ide
namespace Go.Ide
def Nv (i o:Nat):List (Nat×Nat×Nat)->Option Nat
 |[]=>none
 |(j,p,k)::r=>bif Α i j&&Α o p then some k else Nv i o r
def wh (k:Nat):List (Nat×Nat×Nat)->Option (Nat×Nat)
 |[]=>none
 |(i,o,j)::r=>bif Α k j then some (i,o) else wh k r
def Ly (c:Nat)(T:List (Nat×Nat×Nat)):bs->bs
 | .row j i o=>bif Α j c then (match Nv i o T with
  |some k=> .all k
  |none=> .row j i o) else .row j i o
 |x=>x
def X7 (c:Nat)(T:List (Nat×Nat×Nat)):bu->bu
 | .one x=> .one (Ly c T x)
 | .agg j=> .agg (j.map (Ly c T))
 | .Ab o=> .Ab (o.map λp=>(p.1,p.2.map (Ly c T)))
 |v=>v
def Lz (c:Nat)(T:List (Nat×Nat×Nat)):Chunk->Chunk
 | .box cs=> .box (cs.map (Ly c T))
 |j=>j
def CX (t:Ty)(xs:List t.D):List (Nat×Nat×Nat)->Option Mem
 |[]=>some []
 |(i,o,k)::r=>(match dU t (xs.getD i t.eY) o,CX t xs r with
  |some ⟨e,j⟩,some m=>some ((k,.seq e j)::m)
  |_,_=>none)
def AQ (n:Nat):List (Nat×Nat×Nat)->List Prop
 |[]=>[]
 |(i,_,_)::r=>(i<n)::AQ n r
def Nw (own:List Nat)(c:Nat)(T:List (Nat×Nat×Nat))(st:St):Option (St×List Prop):=
 match lk c st.mem with
 |some (.seq t j)=>bif !(c8 c own)&&((T.map λp=>p.2.2).all (λk=> !(Em k st.mem))&&(jX (T.map λp=>p.2.2)&&T.all λp=>match Nv p.1 p.2.1 T with
  |some k=>Α k p.2.2
  |none=>false)) then (match CX t j T with
  |some m=>some (⟨st.fr.map (λp=>(p.1,X7 c T p.2)),(c,.gone)::(m++st.mem.map λp=>(p.1,Lz c T p.2)),st.nx+T.length⟩,AQ j.length T)
  |none=>none) else none
 |_=>none
theorem FT {i o k:Nat}: ∀{T:List (Nat×Nat×Nat)},Nv i o T=some k->(i,o,k)∈T
 |(p,t,I)::r,h=>by
  unfold Nv at h;cases j:(Α i p&&Α o t) with
  |true=>
   rw [j] at h;simp only [κ] at j;injection h with h;rw [bR j.1,bR j.2,h];simp
  |false=>
   rw [j] at h;exact ϛ _ (FT h)
theorem rY {i o k:Nat}: ∀{T:List (Nat×Nat×Nat)},wh k T=some (i,o)->(i,o,k)∈T
 |(J,R,p)::r,h=>by
  unfold wh at h;cases j:Α k p with
  |true=>
   rw [j] at h;injection h with h;injection h with t I;rw [bR j,t,I];simp
  |false=>
   rw [j] at h;exact ϛ _ (rY h)
theorem I2 {i o k:Nat}: ∀{T:List (Nat×Nat×Nat)},(T.map λp=>p.2.2).Nodup->(i,o,k)∈T->wh k T=some (i,o)
 |(i',o',U)::r,t,h=>by
  unfold wh;rw [ϱ,aaV] at t;cases I:Α k U with
  |true=>
   have hk:=bR I;rcases ϒ.1 h with h|h
   injection h with J j;injection j with j R;rw [J,j];rfl
   exact absurd (ϟ.2 ⟨_,h,by simp [hk]⟩) t.1
  |false=>
   rcases ϒ.1 h with h|h
   injection h with J j;injection j with j R
   subst R;rw [show Α k k=true from by simp] at I;cases I;exact I2 t.2 h
theorem xC {t:Ty}{xs:List t.D}: ∀{T:List (Nat×Nat×Nat)} {m:Mem} {k:Nat},CX t xs T=some m->
 (wh k T=none->lk k m=none)/\ ∀i o,wh k T=some (i,o)-> ∃e ys,dU t (xs.getD i t.eY) o=some ⟨e,ys⟩/\lk k m=some (.seq e ys)
 |[],m,k,h=>by
  simp only [CX] at h;injection h with h;subst h;exact ⟨λ_=>rfl,λi o h=>by cases h⟩
 |(i',o',J)::r,m,k,h=>by
  simp only [CX] at h;split at h;rename_i e ys m' R U;injection h with h;subst h;obtain ⟨j,p⟩:=xC (k:=k) U;unfold wh;rw [bB];by_cases I:k=J;subst I;rw [show Α k k=true from by simp,if_pos rfl];exact ⟨λh=>(by cases h),λi o h=>(by injection h with h;injection h with h3 h4;subst h3 h4;exact ⟨e,ys,R,rfl⟩)⟩;rw [show Α k J=false from by rw [Bool.eq_false_iff];intro q;exact I (bR q),if_neg I];exact ⟨j,p⟩;cases h
theorem Ev {α β:Type}(f:α->β)(k:Nat): ∀l:List (Nat×α),lk k (l.map λp=>(p.1,f p.2))=(lk k l).map f
 |[]=>rfl
 |(j,v)::l=>by
  rw [ϱ,bB,bB,Ev f k l];split<;>rfl
theorem xD {n:Nat}: ∀{T:List (Nat×Nat×Nat)},bU (AQ n T)-> ∀p∈T,p.1<n
 |[],_,p,hp=>by simp at hp
 |(i,o,k)::r,h,p,hp=>by
  obtain ⟨j,t⟩:i<n/\bU (AQ n r):=h;rcases ϒ.1 hp with rfl|hp
  exact j;exact xD t p hp
theorem G8 {c:Nat}{T:List (Nat×Nat×Nat)}{ch:Chunk}{p:List Nat}:(Lz c T ch).owns p↔ch.owns p:=by
 cases ch<;>exact Iff.rfl
theorem Le.take {cx:Cx}{st st':St}{own:List Nat}{cs:List Prop}(c:Nat)(T:List (Nat×Nat×Nat))(ho:cx.own.map aas=own)(he:Nw own c T st=some (st',cs))(hc:bU cs):Le cx st st':=by
 intro g a w hs;unfold Nw at he;split at he;rename_i t xs hl;cases hb:(!(c8 c own)&&((T.map λp=>p.2.2).all (λk=> !(Em k st.mem))&&(jX (T.map λp=>p.2.2)&&T.all λp=>match Nv p.1 p.2.1 T with|some k=>Α k p.2.2|none=>false))) with
 |false=>rw [hb] at he;cases he
 |true=>
  rw [hb,cond_true] at he;simp only [κ,aaf] at hb;obtain ⟨xy,OU,tQ,hT⟩:=hb;split at he;rename_i m hm;injection he with he;injection he with ZI VH;subst ZI VH;have tQ:=iq tQ;have ZJ:=xD hc;have hf: ∀p∈T,lk p.2.2 st.mem=none:=λp hp=>by
   have:=ϡ.1 OU p.2.2 (ϟ.2 ⟨p,hp,rfl⟩);simp only [aaf] at this;unfold Em at this;split at this;cases this
   assumption
  have VI: ∀p∈T,p.2.2≠c:=λp hp e=>by
   have:=hf p hp;rw [e,hl] at this;cases this
  have X8: ∀i o k,(i,o,k)∈T->Nv i o T=some k:=λi o k hp=>by
   have:=ϡ.1 hT _ hp;simp only at this;split at this;rename_i k' oo;rw [oo,bR this];cases this
  let g':GM:=⟨λk p=>match wh k T with
   |some (i,o)=>g.f c (i::o::p)
   |none=>g.f k p⟩
  have gK: ∀{k i o} p,wh k T=some (i,o)->g'.f k p=g.f c (i::o::p):=λ {k i o} p h=>by
   show (match wh k T with|some (i,o)=>g.f c (i::o::p)|none=>g.f k p)=_;rw [h]
  have gN: ∀{k},wh k T=none->g'.f k=g.f k:=λ {k} h=>by
   funext p
   show (match wh k T with|some (i,o)=>g.f c (i::o::p)|none=>g.f k p)=_;rw [h]
  have kN: ∀{k},lk k st.mem≠none->wh k T=none:=λ {k} h=>by
   cases R:wh k T with
   |none=>rfl
   |some p=>exact absurd (hf _ (rY (i:=p.1) (o:=p.2) R)) h
  let m':Mem:=(c,.gone)::(m++st.mem.map λp=>(p.1,Lz c T p.2));have mC:lk c m'=some .gone:=by show lk c ((c,Chunk.gone)::_)=_;rw [bB,if_pos rfl]
  have mK: ∀{k i o},wh k T=some (i,o)-> ∃e J,dU t (xs.getD i t.eY) o=some ⟨e,J⟩/\lk k m'=some (.seq e J):=λ {k i o} h=>by
   obtain ⟨e,J,r,U⟩:=(xC (k:=k) hm).2 i o h;refine ⟨e,J,r,?_⟩;show lk k ((c,Chunk.gone)::_)=_;rw [bB,if_neg (VI _ (rY h)),cp,U];rfl
  have mN: ∀{k},wh k T=none->k≠c->lk k m'=(lk k st.mem).map (Lz c T):=λ {k} h iH=>by
   show lk k ((c,Chunk.gone)::_)=_;rw [bB,if_neg iH,cp,(xC (k:=k) hm).1 h,Ev];rfl
  have live: ∀{k p ch b},lk k m'=some ch->ch.owns p->g'.f k p=some b-> ∃k0 p0 I,lk k0 st.mem=some I/\I.owns p0/\g.f k0 p0=some b/\(wh k T=none->k0=k/\p0=p)/\ ∀i o,wh k T=some (i,o)->k0=c/\p0=i::o::p:=λ {k p ch b} r U h3=>by
   cases R:wh k T with
   |some q=>
    obtain ⟨i,o⟩:=q;rw [gK p R] at h3;exact ⟨c,i::o::p,_,hl,trivial,h3,λh=>(by cases h),λi' o' h=>(by injection h with h;injection h with h4 h5;rw [h4,h5];exact ⟨rfl,rfl⟩)⟩
   |none=>
    by_cases e:k=c;subst e;rw [mC] at r;injection r with r;subst r;exact U.elim
    rw [mN R e] at r;cases h4:lk k st.mem with
    |none=>rw [h4] at r;cases r
    |some I=>
     rw [h4] at r;injection r with r;subst r;rw [gN R] at h3;exact ⟨k,p,I,h4,G8.1 U,h3,λ_=>⟨rfl,rfl⟩,λi o h=>(by cases h)⟩
  have safe: ∀b,cx.safe g st.mem w b->cx.safe g' m' w b:=λb ⟨r,U,h3⟩=>⟨r,U,λ⟨k,p,ch,q1,q2,q3⟩=>by
   obtain ⟨k0,p0,I,r1,r2,r3,_⟩:=live q1 q2 q3;exact h3 ⟨k0,p0,I,r1,r2,r3⟩⟩
  have nN: ∀k,lk k st.mem≠none->lk k m'≠none/\g'.f k=g.f k:=λk h=>by
   refine ⟨?_,gN (kN h)⟩;by_cases e:k=c;subst e;rw [mC];simp;rw [mN (kN h) e];cases h4:lk k st.mem with
   |none=>exact absurd h4 h
   |some I=>simp
  have I3: ∀k ty J,lk k st.mem≠none->lk k m'=some (.seq ty J)->lk k st.mem=some (.seq ty J):=λk ty J h r=>by
   by_cases e:k=c;subst e;rw [mC] at r;cases r;rw [mN (kN h) e] at r;cases h4:lk k st.mem with
   |none=>exact absurd h4 h
   |some I=>
    rw [h4] at r;injection r with r;cases I<;>first|exact congrArg some r|cases r
  have OV: ∀k ty J i cs ks,lk k st.mem≠none->lk k m'=some (.oS ty J i cs ks)->lk k st.mem=some (.oS ty J i cs ks):=λk ty J i cs ks h r=>by
   by_cases e:k=c;subst e;rw [mC] at r;cases r;rw [mN (kN h) e] at r;cases h4:lk k st.mem with
   |none=>exact absurd h4 h
   |some I=>
    rw [h4] at r;injection r with r;cases I<;>first|exact congrArg some r|cases r
  have stays:iG g g' st.mem m' (cx.safe g st.mem w) (cx.safe g' m' w) w w:={
   safe:=λb h=>⟨safe b h,rfl⟩
   nN:=λk h=>⟨(nN k h).1,by show g'.f k []=g.f k [];rw [(nN k h).2]⟩
   old:=λk ty J h r=>⟨J,by
    rcases r with r|⟨i,cs,ks,r⟩
    exact .inl (I3 k ty J h r);exact .inr ⟨i,cs,ks,OV k ty J i cs ks h r⟩,rfl⟩
   dm:=λk ty J b arr _ _ _ hb=>⟨arr,hb,rfl⟩
   BQ:=λk h=>(nN k h).2
   rows:=λk ty J h r=>⟨J,I3 k ty J h r,cy.refl _ _,λi o b arr _ hb=>⟨arr,hb,rfl⟩⟩}
  have cell: ∀x v,CR g st.mem (cx.safe g st.mem w) w x v->CR g' m' (cx.safe g' m' w) w (Ly c T x) v:=λx v h=>by
   cases x with
   |row c' i o=>
    simp only [Ly];cases hb:Α c' c with
    |false=>exact ad7 stays h
    |true=>
     have RH:=bR hb;subst RH;rw [cond_true];cases R:Nv i o T with
     |none=>exact ad7 stays h
     |some k=>
      have yZ:=FT R;have DA:=I2 tQ yZ;obtain ⟨e,J,r,U⟩:=mK DA;obtain ⟨_,h4,h5⟩:=h;obtain ⟨hi,h6⟩:=h5 t xs hl;refine ⟨by rw [U];simp,h4,λt' QH qg=> ?_⟩;have qg:=du.toSeq U qg;rw [U] at qg;injection qg with qg;injection qg with q1 q2;subst q1;have q2:=eq_of_heq q2;subst q2;have:=h6 e J r;show iS (g'.f k []) w e.size J.length v;rw [gK [] DA];exact this
   |_=>exact ad7 stays h
  have cells: ∀xs vs,bN (CR g st.mem (cx.safe g st.mem w) w) xs vs->bN (CR g' m' (cx.safe g' m' w) w) (xs.map (Ly c T)) vs:=λxs=>by
   induction xs with
   |nil=>intro vs h;cases vs with
    |nil=>trivial
    |cons=>exact h.elim
   |cons x xs ih=>intro vs h;cases vs with
    |nil=>exact h.elim
    |cons v vs=>exact ⟨cell x v h.1,ih vs h.2⟩
  have VJ: ∀(vs:List (Bool×List bs)) (us:List ο),bN (λt v=>CV g st.mem (cx.safe g st.mem w) w t.1 t.2 v) vs us->bN (λt v=>CV g' m' (cx.safe g' m' w) w t.1 t.2 v) (vs.map λp=>(p.1,p.2.map (Ly c T))) us:=λvs=>by
   induction vs with
   |nil=>intro us U;cases us with
    |nil=>trivial
    |cons=>exact U.elim
   |cons p vs ih=>
    intro us U;cases us with
    |nil=>exact U.elim
    |cons u us=>
     refine ⟨?_,ih us U.2⟩;have h3:=U.1;obtain ⟨ag,J⟩:=p;show CV g' m' _ w ag (J.map (Ly c T)) u;unfold CV at h3⊢;cases ag with
     |true=>
      obtain ⟨GD,e,h4⟩:=h3;exact ⟨GD,e,cells J GD h4⟩
     |false=>
      cases J with
      |nil=>exact h3.elim
      |cons y J=>
       cases J with
       |nil=>exact cell y u h3
       |cons=>exact h3.elim
  refine ⟨g',hs.defers.bt stays.safe,hs.size,λq v hv=> ?_,λk ch R=> ?_,λk k' p p' ch pq b r U h3 h4 h5 h6=> ?_,λk p ch b r U h3=> ?_,λk p ch b r U h3=> ?_,hs.bt,λp hp=> ?_,hs.gl⟩;have hv:lk q (st.fr.map λp=>(p.1,X7 c T p.2))=some v:=hv;rw [Ev] at hv;cases hq:lk q st.fr with
  |none=>rw [hq] at hv;cases hv
  |some v0=>
   rw [hq] at hv;injection hv with hv;subst hv;have h:=hs.fr q v0 hq;cases v0 with
   |one x=>exact cell x _ h
   |agg J=>
    obtain ⟨vs,e,U⟩:=h;exact ⟨vs,e,cells J vs U⟩
   |Ab vs=>
    obtain ⟨us,e,U⟩:=h;exact ⟨us,e,VJ vs us U⟩
   |BO=>exact h
   |dE=>trivial
  have R:lk k m'=some ch:=R;cases DA:wh k T with
  |some q=>
   obtain ⟨i,o⟩:=q;obtain ⟨e,J,r,U⟩:=mK DA;rw [U] at R;injection R with R;subst R;have LA:=pD (g:=g) (m:=st.mem) (S:=cx.safe g st.mem w) (w:=w) (λk ch h=>hs.mem k ch h) hl (ZJ _ (rY DA)) r;have e0:=gK [] DA;show match g'.f k [] with|none=>J=[]|some b=> ∃arr,dm w b arr/\eI _ w (g'.f k) e J arr
   rw [e0];cases hg:g.f c [i,o] with
   |none=>
    rw [hg] at LA;exact List.length_eq_zero_iff.1 LA
   |some b=>
    rw [hg] at LA;obtain ⟨arr,h3,h4⟩:=LA;refine ⟨arr,h3,λj hj=> ?_⟩;obtain ⟨es,h5,h6⟩:=h4 j hj;refine ⟨es,h5,?_⟩;have e1:(λp=>g'.f k (j::p))=λp=>g.f c (i::o::j::p):=by funext p;exact gK _ DA
    rw [e1];exact de.bt (λb hb=>⟨safe b hb,rfl⟩) e (λ_ _ _=>rfl) h6
  |none=>
   by_cases e:k=c;subst e;rw [mC] at R;injection R with R;subst R;trivial
   rw [mN DA e] at R;cases h4:lk k st.mem with
   |none=>rw [h4] at R;cases R
   |some I=>
    rw [h4] at R;injection R with R;subst R;rw [gN DA];have h5:=hs.mem k I h4;cases I with
    |box J=>
     obtain ⟨b,arr,q1,q2,q3⟩:=h5;exact ⟨b,arr,q1,q2,cells _ _ q3⟩
    |_=>exact jc.stays stays (λ_ _ _ _=>rfl) h5
  obtain ⟨k0,p0,I,r1,r2,r3,r4,r5⟩:=live r U h5;obtain ⟨k1,p1,TO,s1,s2,s3,s4,s5⟩:=live h3 h4 h6;obtain ⟨e1,e2⟩:=hs.fV k0 k1 p0 p1 I TO b r1 r2 s1 s2 r3 s3;cases R:wh k T with
  |none=>
   obtain ⟨q1,q2⟩:=r4 R;cases oo:wh k' T with
   |none=>
    obtain ⟨q3,q4⟩:=s4 oo;rw [<-q1,<-q2,<-q3,<-q4];exact ⟨e1,e2⟩
   |some q=>
    obtain ⟨i,o⟩:=q;obtain ⟨q3,q4⟩:=s5 i o oo;have:k=c:=by rw [<-q1,e1,q3]
    subst this;rw [mC] at r;injection r with r;subst r;exact U.elim
  |some q=>
   obtain ⟨i,o⟩:=q;obtain ⟨q1,q2⟩:=r5 i o R;cases oo:wh k' T with
   |none=>
    obtain ⟨q3,q4⟩:=s4 oo;have:k'=c:=by rw [<-q3,<-e1,q1]
    subst this;rw [mC] at h3;injection h3 with h3;subst h3;exact h4.elim
   |some q'=>
    obtain ⟨i',o'⟩:=q';obtain ⟨q3,q4⟩:=s5 i' o' oo;rw [q2,q4] at e2;injection e2 with e3 e4;injection e4 with e4 e5;subst e3 e4;have u1:=X8 _ _ _ (rY R);have u2:=X8 _ _ _ (rY oo);rw [u1] at u2;injection u2 with u2;exact ⟨u2,e5⟩
  obtain ⟨k0,p0,I,r1,r2,r3,_⟩:=live r U h3;exact hs.iF k0 p0 I b r1 r2 r3;obtain ⟨k0,p0,I,r1,r2,r3,_⟩:=live r U h3;exact hs.lt k0 p0 I b r1 r2 r3;obtain ⟨q1,q2⟩:=hs.own p hp;obtain ⟨q3,q4⟩:=nN p.1 q2;exact ⟨q4.trans q1,q3⟩;cases he
 cases he
end Go.Ide
namespace Go.Ide
end Go.Ide
namespace Go.Ide
def xE {α:Type}(f:List Int->α->Option α):Nat->List Int->α->Option α
 |0,_,s=>some s
 |m+1,j,s=>(f (j.take 4) s).bind λo=>xE f m (j.drop 4) o
def rZ {α:Type}(f:List Int->α->Option α)(xs:List Int)(s:α):Option α:=
 aY (xs.length%4=0/\xs.length<=4194304) (xE f (xs.length/4) xs s)
structure ChunkFn (P:Ξ)(fc fi:aaE):Prop where
 can:kh P fc
 VK:kh P fi
 call: ∃T1 T2:Ι,∀al len cap (w:Ε),abq P fc #[.slice al len cap,.int .i64 4] w λe w'=>
  e= .returned (.func (.func fi) #[] #[.pointer (some ⟨w.heap.size,0,none⟩),.pointer (some ⟨w.heap.size+1,0,none⟩)])/\w'=(w.alloc (.cells #[.slice al len cap] T1)).alloc (.cells #[.int .i64 4] T2)
 iter: ∀(l Bs Bn:Nat) (al:Option Addr) (b off m cap:Nat),m<=1048576->4*m<=cap->(0<m->al=some ⟨b,off,none⟩)-> ∀(J:Nat->Ε->Prop),
  (∀k W,J k W->J k W.drew)->
  (∀k W,J k W->k<m->YieldAt acH 0 P l #[.slice (some ⟨b,off+4*k,none⟩) 4 4] W λe W'=>
   e= .returned (.bool true)/\J (k+1) W'/\W'.heap[Bs]? =W.heap[Bs]? /\W'.heap[Bn]? =W.heap[Bn]?)->
  ∀W:Ε,W.cell? ⟨Bs,0,none⟩=some (.slice al (4*m) cap)->W.cell? ⟨Bn,0,none⟩=some (.int .i64 4)->J 0 W->
  CallsIn acH 1 P fi #[.func (.yield l) #[] #[],.pointer (some ⟨Bs,0,none⟩),.pointer (some ⟨Bn,0,none⟩)] W λe W'=>(∃v,e= .returned v)/\J m W'
def sG:List Ϥ->List Nat
 |[]=>[]
 |o::r=>(match o.dst with
  |some t=>t::sG r
  |none=>sG r)
def uc:List Ϥ->Bool
 |[]=>true
 |o::r=>(match o.op with
  | .defer _=>false
  |_=>true)&&uc r
section
variable {P:Ξ} {Q:abm->Act->Ε->Prop}
def ud (o:List Nat)(j:Array ο)(a:Act):Prop:=a.tmps.size=j.size/\ ∀t,t ∉ o->a.tmps.getD t undef=j.getD t undef
theorem ud.put {j:List Nat}{p:Array ο}{a:Act}(h:ud j p a)(d:Option Tmp)(I: ∀t,d=some t->t∈j)(v:ο):ud j p (a.put d v):=by
 cases d with
 |none=>exact h
 |some t=>
  refine ⟨by simp [abp,h.1],λq r=> ?_⟩;have o:t≠q:=λe=>r (e▸I t rfl);rw [<-h.2 q r];simp [abp,ώ,ϫ,o]
theorem Ew {l n:Nat}{J:List Nat}{U:Array ο}{Q':abm->Act->Ε->Prop}{next j:Act->Ε->Prop}{o:Ϥ}{a:Act}{w:Ε}(hQ: ∀a w,¬Q .outgrown a w)(hp: ∀c a w,Q (.panic c) a w->Q' (.panic c) a w)(hd: ∀c,o.op≠ .defer c)(p: ∀t,o.dst=some t->t∈J)(ht:ud J U a)(r: ∀a' w',ud J U a'->next a' w'->j a' w')(h:o.wp P a w next Q\/(o.asks P a w/\LetsOut Q)):
 o.wpIn (Fence.wide.inRound l) n P a w j Q':=by
 rcases h with h|⟨_,a',w',h⟩
 refine ⟨λ_ _=>trivial,?_⟩;rw [show (o.semAt (Fence.wide.inRound l).round a.eval)=execOp a.eval o from agE _ _ _ hd];unfold ab2 at h;revert h;cases hr:(execOp a.eval o).run P w with
 |ok x w'=>
  cases x with
  |value v=>exact λh=>r _ _ (ht.put _ p v) h
  |skip=>exact λh=>r _ _ (ht.put _ p undef) h
  |defer d=>exact λh=>r _ _ (ud.put (a:={a with defers:=d::a.defers}) ht _ p undef) h
  |enter f args=>
   intro h;refine ⟨λR=>(by cases R),CallsIn.mono (F:=Fence.wide.inRound l) (show CallsIn (Fence.wide.inRound l) (n - 1) P f args w' _ from (callsIn_wide (n:=n - 1)).2 h) λe I T=> ?_⟩;cases e with
   |returned v=>exact r _ _ (ht.put _ p v) T
   |panicked=>exact hp _ _ _ T
   |outgrown=>obtain ⟨a0,w0,h0⟩:=T;exact absurd h0 (hQ _ _)
  |row f args=>
   intro h;refine ⟨λR=>(by cases R),λc cs _=> ?_⟩;obtain ⟨v,I,h1,h2⟩:=h c cs;exact ⟨v,I,r _ _ (ht.put _ p v) h1,stepsIn_wide.2 h2⟩
  |_=>exact λh=>h.elim
 |halt x w'=>
  cases x<;>first|exact λh=>h.elim|exact λh=>hp _ _ _ h
 exact absurd h (hQ a' w')
theorem xF: ∀{os:List Ϥ},uc os=true-> ∀o∈os,∀c,o.op≠ .defer c
 |[],_,o,j,_=>by simp at j
 |p::os,r,o,j,c=>by
  unfold uc at r;simp only [κ] at r;rcases ϒ.1 j with rfl|j
  intro e;rw [e] at r;cases r.1;exact xF r.2 o j c
theorem CY {o:Ϥ}(t:Nat)(e:o.dst=some t): ∀{os:List Ϥ},o∈os->t∈sG os:=by
 intro os;induction os with
 |nil=>intro h;simp at h
 |cons p os ih=>
  intro h;simp only [sG];rcases ϒ.1 h with h|h
  rw [<-h,e];exact Ϻ;cases hp:p.dst with
  |none=>exact ih h
  |some q=>exact ϛ _ (ih h)
theorem nh {l n:Nat}{ops:List Ϥ}{T:Array ο}(j: ∀a w,¬Q .outgrown a w)(p:uc ops=true): ∀{is:List Nat} {a:Act} {w:Ε},ud (sG ops) T a->wpOps P ops.toArray Q is a w->
 wpOpsIn (Fence.wide.inRound l) n P ops.toArray (λe a' w'=>Q e a' w'/\(e= .normal->ud (sG ops) T a')) is a w
 |[],a,w,ht,h=>⟨h,λ_=>ht⟩
 |i::is,a,w,ht,h=>by
  simp only [wpOps] at h;simp only [wpOpsIn];cases r:ops.toArray[i]? with
  |none=>rw [r] at h;exact nh j p ht h
  |some o=>
   rw [r] at h;simp only at h⊢;have I:o∈ops:=by
    rw [List.getElem?_toArray] at r;exact List.mem_of_getElem? r
   split;rename_i J;rw [if_pos J] at h;exact Ew j (λ_ _ _ U=>⟨U,λe=>by cases e⟩) (xF p o I) (λt e=>CY t e I) ht (λ_ _ R h'=>nh j p R h') h;rename_i J;rw [if_neg J] at h;exact ⟨λ_ _=>trivial,nh j p (ht.put _ (λt e=>CY t e I) undef) h⟩
end
section
variable {cx:Cx} {g:GM} {st:St} {w:Ε}
theorem cG.agree {a a':Act}(h:cG cx g st a w)(o:a'.tmps.size=a.tmps.size)(ht: ∀t,lk t st.fr≠none->a'.tmps.getD t undef=a.tmps.getD t undef)(p:yL cx g st.mem w a'.defers):cG cx g st a' w:=
 ⟨p,o.trans h.size,λt v j=>by rw [ht t (by rw [j];simp)];exact h.fr t v j,h.mem,h.fV,h.iF,h.lt,h.bt,h.own,h.gl⟩
theorem FU {α:Type}: ∀{l:List (Nat×α)} {t:Nat},lk t l≠none->t∈l.map aas
 |[],t,h=>absurd (fO t) h
 |(k,v)::l,t,h=>by
  rw [bB] at h;by_cases e:t=k;subst e;simp;rw [if_neg e] at h;exact ϛ _ (FU h)
theorem cG.apart {g':GM}{st':St}{a':Act}{w':Ε}{r:List Nat}(t: ∀b,b∈r↔Live g st.mem b)(I:cG {cx with w0:=w,S:=cx.safe g st.mem w,F:=r} g' st' a' w'){D:Nat}(j:D<w.heap.size)(J: ¬Live g st.mem D):
 w'.heap[D]? =w.heap[D]? /\ ¬Live g' st'.mem D:=by
 refine ⟨I.bt.block D j λR=>J ((t D).1 R),λ⟨k,p,T,U,h2,h3⟩=> ?_⟩;rcases I.iF k p T D U h2 h3 with o|o
 exact absurd j (Nat.not_lt.2 o);exact J ((t D).1 o)
end
section
variable {S:Nat->Prop} {w:Ε}
theorem ints_at {J:Option Addr}{len cap:Nat}{xs:List Int}(h:bT S w cg [.slice J len cap] xs):len=xs.length/\len<=cap/\(0<len-> ∃b off,J=some ⟨b,off,none⟩):=by
 obtain ⟨a,c,e,R,t⟩:=h;injection e with e;injection e with T U e3;subst T U e3;refine ⟨rfl,R,λh0=> ?_⟩;obtain ⟨ad,es,ea,hs,j,r⟩:=t 0 h0;have I:es=[.int .i64 (xs[0]:Int)]:=r;have p:=j 0 (.int .i64 (xs[0]:Int)) (by rw [I];rfl);obtain ⟨b,o,s⟩:=ad;cases s with
 |none=>exact ⟨b,o,ea⟩
 |some s=>
  exfalso;simp only [aan,aaY,ϧ] at p;unfold abF at p;simp only [if_true] at p;unfold adx at p;simp only [aeV,if_true] at p;split at p<;>cases p
theorem Ex {b off len cap k:Nat}{xs:List Int}(h:bT S w cg [.slice (some ⟨b,off,none⟩) len cap] xs)(hk:4*k+4<=xs.length):
 bT S w cg [.slice (some ⟨b,off+4*k,none⟩) 4 4] ((xs.drop (4*k)).take 4):=by
 obtain ⟨a,c,e,hc,r⟩:=h;injection e with e;injection e with J R T;subst J R T;have t:(show List Int from (xs.drop (4*k)).take 4).length=4:=by simp;omega
 refine ⟨some ⟨b,off+4*k,none⟩,4,?_,?_,λi U=> ?_⟩;show [Value.slice _ 4 4]=[Value.slice _ (ζ ((xs.drop (4*k)).take 4)) 4];rw [show ζ ((xs.drop (4*k)).take 4)=4 from t];exact Nat.le_of_eq t;have aa:i<4:=by rw [<-t];exact U
 obtain ⟨ad,es,I,hs,o,p⟩:=r (4*k+i) (by omega);injection I with I;subst I;refine ⟨⟨b,off+4*k,none⟩,es,rfl,hs,λj v hv=> ?_,?_⟩;have:=o j v hv;rw [ca] at this⊢;rw [<-this];simp only [aan]
 congr 2
 omega;have e:(show List Int from (xs.drop (4*k)).take 4)[i]=xs[4*k+i]'(by omega):=by simp
 show bT S w (.int .i64) es ((show List Int from (xs.drop (4*k)).take 4)[i]);rw [e];exact p
end
section
variable {cx:Cx} {st st1:St} {P:Ξ} {N:Nat} {own:List Nat} {Q:abm->St->Prop}
theorem I4 {P:Ξ}{j:aaE}(h:kh P j){o:Ϥ}{p:Array Ι}{asx:Array aah}(t:o.op= .call {callee:= .value (.func j),args:=asx,argTypes:=p})(a:Act)(w:Ε):
 (execOp a.eval o).run P w= .ok (.enter j (asx.map a.eval)) w:=by
 obtain ⟨fn,I,J,R⟩:=h;have r:a.eval (.func j)= .func (.func j) #[] #[]:=rfl;simp only [execOp,t,resolve,r,aaN,Ϙ,ϳ,ϋ,invoke,callFunc,run_program,I];simp only [J,R];simp
def ue (cx:Cx)(st st':St)(ops:List Ϥ)(j:Bool):Prop:=
 ∀g a w,cG cx g st a w-> ∀t,wpOps cx.P ops.toArray (λe o w'=>e= .normal/\ ∃g',cG cx g' st' o w') (match j with
  |true=>afu (cx.P.follows .mixedOrders) ops.toArray t
  |false=>abh ops.toArray.size) a (match j with
  |true=>{w with drawn:=w.drawn+1}
  |false=>w)
theorem ue.draw {st st':St}(h:Nat){ops:List Ϥ}{hrs:List HR}{tds:List (List Nat)}{rs:List OH}{cs:List Prop}(J:gG cx P N own)(R:P.follows .mixedOrders=true)(j:CQ P N ops h hrs tds rs st=some (st',cs))(T:bU cs):ue cx st st' ops true:=by
 obtain ⟨U,hN,_⟩:=J;subst U hN;intro g a w hs t;unfold CQ at j;cases o:((Α hrs.length h&&ϩ h ops.length)&&nz ops (hrs.map HR.D++tds) h 0 ops) with
 |false=>rw [o] at j;cases j
 |true=>
  rw [o] at j;simp only [cond_true] at j;simp only [κ] at o;split at j;rename_i dP R3 nx h1;split at j;rename_i st1 Nn h2;injection j with j;injection j with e1 e2;subst e1;subst e2;obtain ⟨p,r⟩:=T.append;simp only [afu,R,Bool.true_or,if_true];exact wpAny_sound ops.toArray.size t _ a _ (hs.FN (by simp only [κ,beq_iff_eq];exact ⟨bR o.1.1,o.1.2⟩) o.2 h1 h2 p r λg' a' w' I=>⟨rfl,g',I⟩);cases j;cases j
def I5 (g:GM)(m:Mem)(l:List Nat):Prop:= ∀b∈l,¬Live g m b
theorem HT.chunk {α:Type}(S:α->St){f:List Int->α->Option α}{s0 r:α}{xs:List Int}{ops AR:List Ϥ}{n:Nat}{rs:List OH}{cs:List Prop}{id ia ZK bb ib ts td tp ta:Nat}{fc fi:aaE}{oc oa:Ϥ}{ZL:Array Ι}{ks:List Nat}{dr:Bool}(hX:gG cx P N own)(VL:cx.nd=false)(hfn:ChunkFn P fc fi)(R5:ops.drop n=[oc])(ZM:oc.op= .call {callee:= .value (.func fc),args:= #[.tmp ts,.const (.int .i64 4)],argTypes:=ZL})(VM:oc.dst=some td)(VN:oc.guard=none)(X9:oa.op= .assign (.tmp tp))(VO:oa.dst=some ta)(VP:oa.guard=none)(he:pt P N ops (ops.take n) rs st=some (st1,cs))(hc:bU cs)(hle:Le cx st1 (S s0))(hk: ∀s,(S s).fr.map aas=ks)(R6: ∀s,lk ts (S s).fr=some (nV xs))(VE:(ks.all λt=> !(c8 t (td::tp::ta::sG AR)))=true)(tQ:uc AR=true)(DB:(aae td N&&(aae tp N&&aae ta N))=true)(hr:rZ f xs s0=some r)(CB: ∀ys s s',f ys s=some s'-> ∀VQ:Cx,gG VQ P N own-> ∃st2,ue VQ ⟨(ta,nV ys)::(S s).fr,(S s).mem,(S s).nx⟩ st2 AR dr/\Le VQ st2 (S s'))(hq:Q .normal (S r)):
 HT cx st (.seq (.region id ops.toArray false) (.block ZK (.rangeFunc (.tmp td) #[tp] (.region ia #[oa] false) (.block bb (.region ib AR.toArray dr))))) Q:=by
 obtain ⟨hP,hN,hO⟩:=hX;subst hP hN;obtain ⟨⟨hx4,ZN⟩,hr⟩:=iK hr;simp only [κ] at DB;have DB:td<cx.N/\tp<cx.N/\ta<cx.N:=⟨ϖ (adG _) (ϓ DB.1),ϖ (adG _) (ϓ DB.2.1),ϖ (adG _) (ϓ DB.2.2)⟩;have B4: ∀s t,lk t (S s).fr≠none->t ∉ (td::tp::ta::sG AR):=λs t h hm=>by
  have h1:=FU h;rw [hk] at h1;have h2:=ϡ.1 VE t h1;rw [eE.2 hm] at h2;cases h2
 obtain ⟨m,hm⟩: ∃m,m=xs.length/4:=⟨_,rfl⟩;have Ya:xs.length=4*m:=by omega
 rw [<-hm] at hr;obtain ⟨T1,T2,R7⟩:=hfn.call;intro g a w hs;refine wp_seq (wp_region_lit ?_);rw [<-acY n ops,R5];refine xB (all:=ops.take n++[oc]) hs (by rw [<-R5,acY];exact he) hc λg1 a1 w1 Iv=> ?_;obtain ⟨g2,DC⟩:=hle g1 a1 w1 Iv;refine wpList_step λK hK=> ?_;simp only [ϭ,VN,if_true];unfold ab2;rw [I4 hfn.can ZM];have hv:=DC.fr ts _ (R6 s0);obtain ⟨al,cap,hval⟩: ∃al cap,a1.tmps.getD ts undef= .slice al xs.length cap:=by
  obtain ⟨al,cap,e,_⟩:=(hv:bT _ _ cg _ xs);exact ⟨al,cap,by injection e⟩
 have hv:bT (cx.safe g2 (S s0).mem w1) w1 cg [.slice al xs.length cap] xs:=by rw [<-hval];exact hv
 obtain ⟨_,hcap,rN⟩:=ints_at hv;have vA:(#[Operand.tmp ts,Operand.const (Value.int IntKind.i64 4)].map a1.eval)= #[.slice al xs.length cap,.int .i64 4]:=by
  rw [<-hval];apply aaU;rw [aaX];rfl
 rw [vA];refine adR (R7 al xs.length cap w1) ?_;rintro e w2 ⟨rfl,rfl⟩;refine hK _ _ (?_:Code.wp cx.P _ _ _ _);rw [VM];obtain ⟨Bs,hBs⟩: ∃Bs,Bs=w1.heap.size:=⟨_,rfl⟩;obtain ⟨w2,OW⟩: ∃w2,w2=(w1.alloc (.cells #[.slice al xs.length cap] T1)).alloc (.cells #[.int .i64 4] T2):=⟨_,rfl⟩;rw [<-OW,<-hBs];have ZO:w2.heap.size=w1.heap.size+2:=by rw [OW];simp
 obtain ⟨fv,yI⟩: ∃fv:ο,fv= .func (.func fi) #[] #[.pointer (some ⟨Bs,0,none⟩),.pointer (some ⟨Bs+1,0,none⟩)]:=⟨_,rfl⟩;rw [<-yI];have VS:w2.cell? ⟨Bs,0,none⟩=some (.slice al (4*m) cap):=by
  have h1:w2.heap[Bs]? =some (.cells #[.slice al xs.length cap] T1):=by
   rw [OW,hBs,aao _ _ _ (by simp)];exact abP w1 _
  unfold adx;rw [h1,Ya];rfl
 have VT:w2.cell? ⟨Bs+1,0,none⟩=some (.int .i64 4):=by
  have h1:w2.heap[Bs+1]? =some (.cells #[.int .i64 4] T2):=by
   have:=abP (w1.alloc (.cells #[.slice al xs.length cap] T1)) (.cells #[.int .i64 4] T2);rw [afv] at this;rw [OW,hBs];exact this
  unfold adx;rw [h1];rfl
 have LB:cG cx g2 (S s0) (a1.put (some td) fv) w2:=by
  have h1:cG cx g2 (S s0) (a1.put (some td) fv) w1:=DC.agree (by simp [abp]) (λt ht=>by
   have:=B4 s0 t ht;have iH:td≠t:=λe=>this (by rw [e];simp);simp [abp,ώ,ϫ,iH]) DC.defers
  have h2:=h1.grown (abW w1 (.cells #[.slice al xs.length cap] T1) none) (λr e=>by cases e);have h3:=h2.grown (abW _ (.cells #[.int .i64 4] T2) none) (λr e=>by cases e);rw [OW];exact h3
 have OX: ∀b,Live g2 (S s0).mem b->b<Bs:=λb ⟨k,p,ch,h1,h2,h3⟩=>by rw [hBs];exact DC.lt k p ch b h1 h2 h3
 obtain ⟨a2,QW⟩: ∃a2,a2=a1.put (some td) fv:=⟨_,rfl⟩;rw [<-QW] at LB⊢;have nu:a2.tmps.size=cx.N:=LB.size;have VU:a2.tmps.getD ts undef= .slice al (4*m) cap:=by
  have iH:td≠ts:=λe=>B4 s0 ts (by rw [R6];simp) (by rw [<-e];simp);rw [QW,<-Ya,<-hval];simp [abp,ώ,ϫ,iH]
 have hg:a2.eval (.tmp td)=fv:=by
  have:td<a1.tmps.size:=by rw [DC.size];exact DB.1
  show a2.tmps.getD td undef=fv;rw [QW];simp [abp,ώ,ϫ,this]
 have hw0:cx.w0.heap.size<=w2.heap.size:=LB.bt.size;have ZP: ∀x,({target:= .collected x,args:= #[]}:Deferred)∈a2.defers->x<w2.heap.size:=λx hx=>by
  obtain ⟨_,Ds,e,_,OI⟩:=LB.defers;rw [e] at hx;obtain ⟨y,hy,e2⟩:=ϟ.1 hx;injection e2 with e2;injection e2 with e2;subst e2;exact (Ϣ.1 (OI y hy).1).1
 clear QW DC Iv hs vA hval;refine wp_block ((wpIn_wide (n:=2)).1 (wpIn_rangeFunc ?_));intro fn _;obtain ⟨D,hD⟩: ∃D,D=w2.heap.size:=⟨_,rfl⟩;obtain ⟨rec,Ey⟩: ∃rec:LoopState->Option Code->Loop,rec=λst pe=>{state:=st,pending:=pe,fn,tmps:=a2.tmps,params:= #[tp],assign:= .region ia #[oa] false,body:= .block bb (.region ib AR.toArray dr),defers:=D}:=⟨_,rfl⟩;obtain ⟨W1,R8⟩: ∃W1,(w2.alloc (.deferred (some []))).alloc (.loop (rec .ready none))=W1:=⟨_,rfl⟩;have ZQ:W1.heap[D+1]? =some (.loop (rec .ready none)):=by
  rw [<-R8,hD];have:=abP (w2.alloc (.deferred (some []))) (.loop (rec .ready none));rwa [afv] at this
 have ZR:W1.heap[D]? =some (.deferred (some [])):=by
  rw [<-R8,hD];exact (aao _ _ _ (by simp)).trans (abP w2 _)
 have ZS:cG cx g2 (S s0) a2 W1:=by
  rw [<-R8];exact (LB.grown (abW w2 _ none) (λr e=>by cases e)).grown (abW _ _ none) (λr e=>by cases e)
 have DZ: ∀b,b<D->W1.heap[b]? =w2.heap[b]? :=λb hb=>by
  rw [<-R8,aao _ _ _ (by simp;omega),aao _ _ _ (by omega)]
 let ap:List Nat:=[Bs,Bs+1,D,D+1];let J:Nat->Ε->Prop:=λk W=>(∃s g,xE f (m - k) (xs.drop (4*k)) s=some r/\cG cx g (S s) a2 W/\I5 g (S s).mem ap)/\W.heap[D+1]? =some (.loop (rec .ready none))/\W.heap[D]? =some (.deferred (some []));refine ⟨D+1,[{target:= .collected D,args:= #[]}],W1,{target:= .fn (.func fi) #[.pointer (some ⟨Bs,0,none⟩),.pointer (some ⟨Bs+1,0,none⟩)],args:= #[.func (.yield (D+1)) #[] #[]]},W1,fi,
  #[.func (.yield (D+1)) #[] #[]]++ #[.pointer (some ⟨Bs,0,none⟩),.pointer (some ⟨Bs+1,0,none⟩)],W1,?_,?_,?_,?_,λ_=>(by decide),?_⟩
 rw [<-R8,Ey,hD];exact run_enterLoop_outer _ _ _ _ _
 ·simp only [resolve,hg,yI];simp [go_sem]
 intro f' hf';trivial;obtain ⟨fi',c1,c2,c3⟩:=hfn.VK;simp only [invoke,callFunc,Ϙ,run_program,ϋ,c1];simp [c2,c3];obtain ⟨b,off,R9⟩: ∃b off,0<m->al=some ⟨b,off,none⟩:=by
  by_cases h0:0<m;obtain ⟨b,off,e⟩:=rN (by omega);exact ⟨b,off,λ_=>e⟩;exact ⟨0,0,λh=>absurd h h0⟩
 have Rz:I5 g2 (S s0).mem ap:=λx hx hl=>by
  have h1:=OX x hl;simp only [ap,ϒ,ϲ,or_false] at hx;omega
 refine (hfn.iter (D+1) Bs (Bs+1) al b off m cap (by omega) (by omega) R9 J ?_ ?_ W1 ?_ ?_ ?_).mono ?_;rintro k W ⟨⟨s,g,h1,h2,h3⟩,h4,h5⟩;exact ⟨⟨s,g,h1,h2.drew,h3⟩,h4,h5⟩;rintro k W ⟨⟨s,g,je,hS,hA⟩,hl,hd⟩ Uf;have hlt:D+1<W.heap.size:=(Ϣ.1 hl).1;have VV:=R9 (by omega);obtain ⟨n',N2⟩: ∃n',m - k=n'+1:=⟨m - k - 1,by omega⟩;rw [N2] at je;obtain ⟨s',hf,je⟩:=rX je;obtain ⟨v,Yb⟩: ∃v:ο,v= .slice (some ⟨b,off+4*k,none⟩) 4 4:=⟨_,rfl⟩;rw [<-Yb];have hy:=run_yield (P:=cx.P) (args:= #[v]) hl (by rw [Ey];rfl);rw [Ey] at hy;refine ⟨fn,_,_,_,hy,roundIn_of_wpIn trivial ?_⟩;refine wpIn_region_lit (l:=[oa]) (wpListIn_plain VP λK hK=>⟨λ_ _=>trivial,?_⟩);rw [agE _ _ _ (by simp [X9])];simp only [execOp,X9];refine hK _ _ (wpListIn_nil ?_);refine ⟨_,run_beginRound hl (by rw [Ey]),?_⟩;obtain ⟨Wb,Sa⟩: ∃Wb,Wb=W.putObj (D+1) (.loop {rec .ready none with state:= .busy}):=⟨_,rfl⟩;rw [<-Sa];have ZT:Wb.heap[D+1]? =some (.loop {rec .ready none with state:= .busy}):=by rw [Sa];exact aeq hlt
 have QP: ∀x,x≠D+1->Wb.heap[x]? =W.heap[x]? :=λx hx=>by rw [Sa];exact aaD hx
 have Sb:Wb.heap.size=W.heap.size:=by rw [Sa];simp
 have VW:cG cx g (S s) a2 Wb:=by
  rw [Sa];exact hS.grown (grownBy_putObj' W (D+1) _) (λx e=>by cases e;exact ⟨by omega,_,hl,rfl,by simp,by simp⟩)
 have Yc:=VW.fr ts _ (R6 s);rw [VU,VV] at Yc;have Yd:=Ex (k:=k) (Yc:bT _ _ cg _ xs) (by omega);rw [<-Yb] at Yd;obtain ⟨T,hT⟩: ∃T,T=a2.tmps.setIfInBounds tp v:=⟨_,rfl⟩;have zE:(Array.foldl (λtmps x=>tmps.setIfInBounds x.fst x.snd) a2.tmps (#[tp].zip #[v]))=T:=by
  rw [hT,show (#[tp].zip #[v])= #[(tp,v)] from by apply aaU;simp];simp
 have G9:({tmps:=T,defers:=[]}:Act).eval (.tmp tp)=v:=by
  have:tp<a2.tmps.size:=by rw [nu];exact DB.2.1
  show T.getD tp undef=v;rw [hT];simp [ώ,ϫ,this]
 rw [zE,G9,VO];have ZU:cG cx g (S s) {tmps:=T,defers:=[]} Wb:=VW.agree (by simp [hT]) (λt ht=>by
  have iH:tp≠t:=λe=>B4 s t ht (by rw [e];simp);simp [hT,ώ,ϫ,iH]) .nil
 have RP:=ZU.put (v:=nV ((xs.drop (4*k)).take 4)) (val:=v) Yd (some ta) (λt e=>by cases e;exact DB.2.2);obtain ⟨a3,Uh⟩: ∃a3,a3=({tmps:=T,defers:=[]}:Act).put (some ta) v:=⟨_,rfl⟩;rw [<-Uh] at RP⊢;have VX:({a3 with defers:=[]}:Act)=a3:=by rw [Uh];rfl
 obtain ⟨F',hF,hb⟩:=RP.OB;rw [VX] at hb;obtain ⟨st2,Nf,Az⟩:=CB _ _ _ hf {cx with w0:=Wb,S:=cx.safe g ((S s).put (some ta) (nV ((xs.drop (4*k)).take 4))).mem Wb,F:=F'} ⟨rfl,rfl,hO⟩;have uC:(Code.region ib AR.toArray dr).wpIn (Fence.wide.inRound (D+1)) 0 cx.P (λe a' w'=>(e= .normal/\ ∃g',cG {cx with w0:=Wb,S:=cx.safe g ((S s).put (some ta) (nV ((xs.drop (4*k)).take 4))).mem Wb,F:=F'} g' st2 a' w')/\(e= .normal->ud (sG AR) a3.tmps a')) a3 Wb:=by
  have h1:=Nf g a3 Wb hb;cases dr with
  |true=>exact wpIn_region_draw λt=>nh (λ_ _ h=>by cases h.1) tQ ⟨rfl,λ_ _=>rfl⟩ (h1 t)
  |false=>exact wpIn_region (nh (λ_ _ h=>by cases h.1) tQ ⟨rfl,λ_ _=>rfl⟩ (h1 0))
 refine wpIn_block (wpIn_mono uC ?_);rintro e a5 w5 ⟨⟨rfl,g5,h5⟩,qZ⟩;have qZ:=qZ rfl;obtain ⟨g6,h7⟩:=Az g5 {tmps:=a5.tmps,defers:=[]} w5 ⟨.nil,h5.size,h5.fr,h5.mem,h5.fV,h5.iF,h5.lt,h5.bt,h5.own,h5.gl⟩;have Ha: ∀x,x<W.heap.size-> ¬Live g (S s).mem x->w5.heap[x]? =Wb.heap[x]? /\ ¬Live g6 (S s').mem x:=λx h1 h2=>cG.apart hF h7 (by rw [Sb];exact h1) h2;have h8:cG cx g6 (S s') {tmps:=a5.tmps,defers:=[]} w5:=RP.OC hF h7 .nil;have h9:cG cx g6 (S s') a2 w5:=h8.agree (by rw [qZ.1,Uh];simp [abp,hT]) (λt ht=>by
  have OF:=B4 s' t ht;have h1:tp≠t:=λe=>OF (by rw [e];simp);have h2:ta≠t:=λe=>OF (by rw [e];simp);have h3:t ∉ sG AR:=λe=>OF (by simp [e]);rw [qZ.2 t h3,Uh];simp [abp,hT,ώ,ϫ,h1,h2]) (by
   obtain ⟨K6,Ds,e,hn,OI⟩:=VW.defers;refine ⟨K6,Ds,e,hn,λx hx=> ?_⟩;obtain ⟨k1,k2,k3⟩:=OI x hx;obtain ⟨q1,q2⟩:=Ha x (by rw [<-Sb];exact (Ϣ.1 k1).1) k3;exact ⟨q1.trans k1,k2,q2⟩)
 have VY:w5.heap[D+1]? =some (.loop {rec .ready none with state:= .busy}):=(Ha (D+1) hlt (hA _ (by simp [ap]))).1.trans ZT;have ZV:w5.heap[D]? =some (.deferred (some [])):=(Ha D (by omega) (hA _ (by simp [ap]))).1.trans ((QP D (by omega)).trans hd);have VZ:=(Ϣ.1 VY).1;refine ⟨_,_,run_endRound none VY,rfl,⟨⟨s',g6,?_,?_,λx hx=> ?_⟩,?_,?_⟩,?_,?_⟩;rw [show m - (k+1)=n' by omega,show 4*(k+1)=4*k+4 by omega,<-List.drop_drop];exact je;exact h9.grown (grownBy_putObj' w5 (D+1) _) (λx e=>by cases e;exact ⟨by omega,_,VY,rfl,by simp,by simp⟩);exact (Ha x (by simp only [ap,ϒ,ϲ,or_false] at hx;omega) (hA x hx)).2;rw [aeq VZ];simp [Ey];exact (aaD (by omega)).trans ZV;exact (aaD (by omega)).trans ((Ha Bs (by omega) (hA _ (by simp [ap]))).1.trans (QP Bs (by omega)));exact (aaD (by omega)).trans ((Ha (Bs+1) (by omega) (hA _ (by simp [ap]))).1.trans (QP (Bs+1) (by omega)));have:=DZ Bs (by omega);exact (abS (a:=⟨Bs,0,none⟩) this).trans VS;have:=DZ (Bs+1) (by omega);exact (abS (a:=⟨Bs+1,0,none⟩) this).trans VT;exact ⟨⟨s0,g2,by simpa using hr,ZS,Rz⟩,ZQ,ZR⟩;rintro e W3 ⟨⟨v,rfl⟩,⟨⟨s,g,je,hS,hA⟩,hl,hd⟩⟩;rw [Nat.sub_self] at je;have je:=aZ je;subst je;refine ⟨none,W3.putObj (D+1) (.loop {rec .ready none with state:= .exhausted}),by have:=run_endLoop (P:=cx.P) hl (by rw [Ey];simp);rw [Ey] at this⊢;exact this,?_⟩;refine ⟨S s,g,hq,?_⟩;have h5:=hS.grown (grownBy_putObj' W3 (D+1) (.loop {rec .ready none with state:= .exhausted})) (λx e=>by cases e;exact ⟨by omega,_,hl,rfl,by simp,by simp⟩);refine ⟨?_,h5.size,h5.fr,h5.mem,h5.fV,h5.iF,h5.lt,h5.bt,h5.own,h5.gl⟩;obtain ⟨_,Ds,e,hn,OI⟩:=h5.defers;refine ⟨(λhz=>by rw [VL] at hz;cases hz),D::Ds,by rw [e];rfl,aaV.2 ⟨λhm=> ?_,hn⟩,λx hx=> ?_⟩;exact Nat.lt_irrefl D (hD▸ZP D (by rw [e];exact ϟ.2 ⟨D,hm,rfl⟩));rcases ϒ.1 hx with rfl|hx
 exact ⟨(aaD (by omega)).trans hd,by omega,hA _ (by simp [ap])⟩;exact OI x hx
end
end Go.Ide
namespace Go.Ide
section
variable {cx:Cx} {g:GM} {st:St} {a:Act} {w:Ε}
end
def Ye (P:Ξ)(N:Nat)(ops:List Ϥ)(h:Nat)(hrs:List HR)(tds:List (List Nat))(st:St):Option (St×List Prop):=
 bif (Α hrs.length h&&ϩ h ops.length)&&nz ops (hrs.map HR.D++tds) h 0 ops then (match xp P N ops st (ops.take h) hrs [] st.nx with
  |some (dP,cs,nx)=>some (oC st dP (λ_=>true) nx,cs)
  |none=>none) else none
theorem HT.Yf {cx:Cx}{st:St}{P:Ξ}{N id:Nat}{Q:abm->St->Prop}{own:List Nat}(h:Nat){ops:List Ϥ}(hrs:List HR)(tds:List (List Nat))(st1:St){cs:List Prop}(r:gG cx P N own)(t:P.follows .mixedOrders=true)(j:Ye P N ops h hrs tds st=some (st1,cs))(I:bU cs)(J:RG cx ops (ops.drop h) st1 Q):HT cx st (.region id ops.toArray true) Q:=by
 obtain ⟨R,T,_⟩:=r;subst R T;unfold Ye at j;cases o:((Α hrs.length h&&ϩ h ops.length)&&nz ops (hrs.map HR.D++tds) h 0 ops) with
 |false=>rw [o] at j;cases j
 |true=>
  rw [o] at j;simp only [cond_true] at j;simp only [κ] at o;split at j;rename_i dP U nx h1;injection j with j;injection j with e1 e2;subst e1;subst e2;exact λg a w hs=>wp_region_any t (hs.CM (by simp only [κ,beq_iff_eq];exact ⟨bR o.1.1,o.1.2⟩) o.2 h1 I λg' a' w' p=>J g' a' w' p);cases j
section
variable {cx:Cx} {st st' st1:St} {P:Ξ} {N:Nat} {own:List Nat} {ops:List Ϥ} {listed:Array Bool} {n:Nat}
end
end Go.Ide
namespace Go.Ide
section
variable {cx:Cx} {g:GM} {st:St} {a:Act} {w:Ε} {P:Ξ} {N:Nat} {own:List Nat} {Q:abm->St->Prop}
theorem RG.gr {all os:List Ϥ}{o:Ϥ}{e:cB}(r:gG cx P N own)(t:o.guard=none)(I:KT N o.dst=true)(h: ∀g a w,cG cx g st a w->q8 cx st a w o e)(J:RG cx all os (st.app o.dst e) Q):RG cx all (o::os) st Q:=by
 obtain ⟨R,T,_⟩:=r;subst R T;intro g a w U;refine wpList_step λK hK=> ?_;simp only [ϭ,t,if_true];refine (h g a w U).wp λval w' j=> ?_;obtain ⟨g',p⟩:=j.T6 (Cr I);exact hK _ _ (J g' _ _ p)
def xG:(t:Ty)->t.D->t.D->Bool
 | .int _,x,y=> @decide (@Eq Int x y) (ac9 x y)
 | .pair a b,x,y=>xG a x.1 y.1&&xG b x.2 y.2
 | .st t,x,y=>xG t x y
 | .str,x,y=> @decide (@Eq (List UInt8) x y) (instDecidableEqList x y)
 |_,_,_=>false
def bX {t u:Ty}:List (t.D×u.D)->t.D->Option u.D
 |[],_=>none
 |p::r,k=>if xG t p.1 k then some p.2 else bX r k
def I6 (w:Ε)(t u:Ty)(p:t.D×u.D)(e:acg):Prop:=qP w t e.key p.1/\qP w u e.val p.2
structure jW (P:Ξ)(T:Ι)(t:Ty):Prop where
 Nx: ∀(b:Bool) (w w0:Ε) (v:ο) (x:t.D),qP w0 t v x->(aa9 b 10000 T v).run P w= .ok () w
 find: ∀(u:Ty) (w w0:Ε) (v:ο) (x:t.D) (es:List acg) (xs:List (t.D×u.D)),qP w0 t v x->bN (I6 w0 t u) xs es->
  ∃r,(ab9 T v es).run P w= .ok r w/\(match r with
   |none=>bX xs x=none
   |some (_,val)=> ∃y,bX xs x=some y/\qP w0 u val y)
theorem xH {k:aaC}{v:ο}{x:Int}(h:qP w (.int k) v x):v= .int k x:=by
 rcases h with ⟨j,_⟩|⟨_,h⟩
 cases j;have:[v]=[Value.int k x]:=h;simpa using this
theorem jW.int {T:Ι}{k:aaC}(h:P.underlying T=some (.int k)):jW P T (.int k) where
 Nx b w w0 v x hv:=by
  rw [xH hv];unfold aa9;simp [Ϙ,run_underlying h,aaK]
 find u w w0 v x es xs hv DY:=by
  rw [xH hv];have key: ∀(es:List acg) (xs:List ((Ty.int k).D×u.D)) (i:Nat),bN (I6 w0 (.int k) u) xs es-> ∃r,aa4 (.int k) (.int k x) es i=some r/\(match r with
   |none=>bX xs x=none
   |some (_,val)=> ∃y,bX xs x=some y/\qP w0 u val y):=by
   intro es;induction es with
   |nil=>
    intro xs i h;cases xs with
    |nil=>exact ⟨none,rfl,rfl⟩
    |cons=>exact h.elim
   |cons e es ih=>
    intro xs i h;cases xs with
    |nil=>exact h.elim
    |cons p xs=>
     have hk:=xH h.1.1;simp only [aa4,ad4,hk];by_cases hx:x=p.1;refine ⟨some (i,e.val),by simp [hx],p.2,?_,h.1.2⟩;simp [bX,xG,hx];obtain ⟨r,h1,h2⟩:=ih xs (i+1) h.2;have hb:(x==(p.1:Int))=false:=by simpa using hx
     have iH:xG (.int k) p.1 x=false:=by simp only [xG];exact decide_eq_false λe=>hx e.symm
     refine ⟨r,by simp [hb,h1],?_⟩;cases r with
     |none=>simp only [bX,iH];exact h2
     |some q=>simp only [bX,iH];exact h2
  obtain ⟨r,h1,h2⟩:=key es xs 0 DY;exact ⟨r,by simp [ab9,run_underlying h,aaK,h1],h2⟩
theorem I7 (a b:List UInt8):((⟨a.toArray⟩:ByteArray)==⟨b.toArray⟩)=decide (a=b):=by
 show (a.toArray==b.toArray)=decide (a=b);by_cases h:a=b<;>simp [h]
theorem jW.str {T:Ι}(h:P.underlying T=some .string):jW P T .str where
 Nx b w w0 v x hv:=by
  have hv:v= .string ⟨x.toArray⟩:=by
   rcases hv with ⟨h0,_⟩|⟨_,h1⟩
   cases h0;have:[v]=[Value.string ⟨x.toArray⟩]:=h1;simpa using this
  rw [hv];unfold aa9;simp [Ϙ,run_underlying h,aaK]
 find u w w0 v x es xs hv DY:=by
  have one: ∀{v:ο} {x:List UInt8},qP w0 .str v x->v= .string ⟨x.toArray⟩:=λ {v x} hv=>by
   rcases hv with ⟨h0,_⟩|⟨_,h1⟩
   cases h0;have:[v]=[Value.string ⟨x.toArray⟩]:=h1;simpa using this
  rw [one hv];have key: ∀(es:List acg) (xs:List (Ty.str.D×u.D)) (i:Nat),bN (I6 w0 .str u) xs es-> ∃r,aa4 .string (.string ⟨adJ (show List UInt8 from x)⟩) es i=some r/\(match r with
   |none=>bX xs x=none
   |some (_,val)=> ∃y,bX xs x=some y/\qP w0 u val y):=by
   intro es;induction es with
   |nil=>
    intro xs i h;cases xs with
    |nil=>exact ⟨none,rfl,rfl⟩
    |cons=>exact h.elim
   |cons e es ih=>
    intro xs i h;cases xs with
    |nil=>exact h.elim
    |cons p xs=>
     have hk:=one h.1.1;simp only [aa4,ad4,hk];by_cases hx: @Eq (List UInt8) x p.1;refine ⟨some (i,e.val),?_,p.2,?_,h.1.2⟩;rw [I7];simp [hx];simp [bX,xG,hx];obtain ⟨r,h1,h2⟩:=ih xs (i+1) h.2;have hb:decide (@Eq (List UInt8) x p.1)=false:=decide_eq_false hx;have iH:xG .str p.1 x=false:=by simp only [xG];exact decide_eq_false λe=>hx e.symm
     refine ⟨r,by rw [I7,hb];exact h1,?_⟩;cases r with
     |none=>simp only [bX,iH];exact h2
     |some q=>simp only [bX,iH];exact h2
  obtain ⟨r,h1,h2⟩:=key es xs 0 DY;have h1:aa4 .string (.string ⟨adJ x⟩) es 0=some r:=h1;exact ⟨r,by simp [ab9,run_underlying h,aaK,h1],h2⟩
def cq (k:aaC):Nat->Ty
 |0=> .int k
 |n+1=> .pair (.int k) (cq k n)
def oE {k:aaC}:(n:Nat)->(cq k n).D->List Int
 |0,x=>[x]
 |n+1,x=>(show Int from x.1)::oE n x.2
theorem rf {k:aaC}: ∀(n:Nat) (x:(cq k n).D),(oE n x).length=n+1
 |0,_=>rfl
 |n+1,x=>by simp only [oE,Ζ,rf n]
theorem FV {S:Nat->Prop}{k:aaC}: ∀(n:Nat) (cs:List ο) (x:(cq k n).D),bT S w (cq k n) cs x->cs=(oE n x).map (Value.int k)
 |0,cs,x,h=>by have:cs=[.int k x]:=h;exact this
 |n+1,cs,x,⟨o,p,e,j,r⟩=>by
  have j:o=[.int k x.1]:=j;rw [e,j,FV n p x.2 r];rfl
theorem AS {k:aaC}: ∀(n:Nat) (x y:(cq k n).D),xG (cq k n) x y=true↔oE n x=oE n y
 |0,x,y=>by
  have j:xG (cq k 0) x y=true↔ @Eq Int x y:= @decide_eq_true_iff _ (ac9 x y);rw [j];exact ⟨λe=>congrArg (λz=>[z]) e,λe=>by injection e⟩
 |n+1,x,y=>by
  simp only [cq,xG,oE,κ,AS n,aeL,decide_eq_true_eq]
theorem xI {k:aaC}{n:Nat}{v:ο}{x:(cq k n).D}(h:qP w (.st (cq k n)) v x):v= .agg ((oE n x).map (Value.int k)).toArray:=by
 rcases h with ⟨_,cs,e,h⟩|⟨j,_⟩
 rw [e,FV n cs x h];cases j
theorem qu {E:Ι}{k:aaC}(j:P.underlying E=some (.int k)){xs:Array ο}{off:Nat}{v:ο}(o:xs[off]? =some v):(part E xs off).run P w= .ok v w:=by
 simp [part,isAgg,run_underlying j,o]
theorem vB {E:Ι}{k:aaC}(j:P.underlying E=some (.int k))(d:Nat)(xs ys:List Int)(J:xs.length=ys.length): ∀(n i:Nat),i+n=xs.length->
 (afR (d+1) E 1 (xs.map (Value.int k)).toArray (ys.map (Value.int k)).toArray (ahj i n)).run P w= .ok (decide (xs.drop i=ys.drop i)) w
 |0,i,h=>by
  have o:xs.drop i=[]:=aeA (by omega);have p:ys.drop i=[]:=aeA (by omega);simp [afR,o,p]
 |n+1,i,h=>by
  have r:i<xs.length:=by omega
  have t:i<ys.length:=by omega
  have o:=qu (w:=w) j (xs:=(xs.map (Value.int k)).toArray) (off:=i) (v:= .int k xs[i]) (by simp [r]);have p:=qu (w:=w) j (xs:=(ys.map (Value.int k)).toArray) (off:=i) (v:= .int k ys[i]) (by simp [t]);have R:=run_equalIn_int w d E k k xs[i] ys[i] j;have ih:=vB j d xs ys J n (i+1) (by omega);rw [List.range'_succ];simp only [afR,adn,Ϙ,o,p,R,ϋ];have T:=ad3 r;have U:=ad3 t;have I:(xs.drop i=ys.drop i)↔(xs[i]=ys[i]/\xs.drop (i+1)=ys.drop (i+1)):=by rw [T,U,aeL]
  by_cases e:xs[i]=ys[i];simp only [e,beq_self_eq_true,Bool.not_true,Bool.false_eq_true,if_false];rw [ih]
  congr 1
  rw [decide_eq_decide,I];simp [e];have hb:(xs[i]==ys[i])=false:=by simpa using e
  have hd:decide (xs.drop i=ys.drop i)=false:=decide_eq_false λq=>e (I.1 q).1;simp [hb,hd]
def jY (k:aaC):(n:Nat)->Nat->List Int->(cq k n).D
 |0,o,j=>(show Int from j.getD o 0)
 |n+1,o,j=>((show Int from j.getD o 0),jY k n (o+1) j)
theorem jW.pZ {T E:Ι}{k:aaC}{n:Nat}{i:adh}(h:P.underlying T=some (.array (n+1) E))(hE:P.underlying E=some (.int k))(hi:P.info? E=some i)(hz:P.cellsOf E=1):jW P T (.st (cq k n)) where
 Nx b w w0 v x hv:=by
  rw [xI hv];unfold aa9;simp only [Ϙ,run_underlying h,ϋ];have key: ∀(is:List Nat),(∀j∈is,j<n+1)->(forIn is PUnit.unit (λj (r:PUnit)=>(do
   aa9 b 9999 E (<-part E ((oE n x).map (Value.int k)).toArray (j*(<-sizeOf E)))
   pure (ForInStep.yield PUnit.unit):Sem (ForInStep PUnit)))).run P w= .ok PUnit.unit w:=by
   intro is;induction is with
   |nil=>intro _;simp
   |cons j is ih=>
    intro hj;have hlt:j<(oE n x).length:=by rw [rf];exact hj j Ϻ
    have h1:=qu (w:=w) hE (xs:=((oE n x).map (Value.int k)).toArray) (off:=j) (v:= .int k (oE n x)[j]) (by simp [hlt]);have h2:(aa9 b 9999 E (.int k (oE n x)[j])).run P w= .ok () w:=by
     unfold aa9;simp [Ϙ,run_underlying hE,aaK]
    have nu:=run_sizeOf w hi;rw [hz] at nu;rw [List.forIn_cons];simp only [Ϙ,nu,ϋ,adn,h1,h2,ϳ];exact ih λq hq=>hj q (ϛ _ hq)
  simp only [agr,ags,ahk,Nat.add_one_sub_one,Nat.div_one];rw [key (ahj 0 (n+1)) λj hj=>by have:=List.mem_range'_1.1 hj;omega];rfl
 find u w w0 v x es xs hv DY:=by
  rw [xI hv];have key: ∀(es:List acg) (xs:List ((Ty.st (cq k n)).D×u.D)) (i:Nat),bN (I6 w0 (.st (cq k n)) u) xs es-> ∃r,(acn T (.agg ((oE n x).map (Value.int k)).toArray) es i).run P w= .ok r w/\(match r with
   |none=>bX xs x=none
   |some (_,val)=> ∃y,bX xs x=some y/\qP w0 u val y):=by
   intro es;induction es with
   |nil=>
    intro xs i h;cases xs with
    |nil=>exact ⟨none,by simp [acn],rfl⟩
    |cons=>exact h.elim
   |cons e es ih=>
    intro xs i hh;cases xs with
    |nil=>exact hh.elim
    |cons p xs=>
     have hk:=xI hh.1.1;have heq:(Op.equal T (.agg ((oE n x).map (Value.int k)).toArray) e.key).run P w= .ok (decide (oE n x=oE n p.1)) w:=by
      rw [hk];unfold Op.equal Op.maxDepth;rw [show (10000:Nat)=9999+1 from rfl,run_equalIn_array w 9999 _ _ h hi,hz,List.range_eq_range'];have:=vB (w:=w) hE 9998 (oE n x) (oE n p.1) (by rw [rf,rf]) (n+1) 0 (by rw [rf];omega);simpa using this
     simp only [acn,Ϙ,heq,ϋ];by_cases hx:oE n x=oE n p.1;refine ⟨some (i,e.val),by simp [hx],p.2,?_,hh.1.2⟩;have:xG (.st (cq k n)) p.1 x=true:=(AS n p.1 x).2 hx.symm;simp [bX,this];obtain ⟨r,h1,h2⟩:=ih xs (i+1) hh.2;have iH:xG (.st (cq k n)) p.1 x=false:=by
      cases hb:xG (.st (cq k n)) p.1 x with
      |false=>rfl
      |true=>exact absurd ((AS n p.1 x).1 hb).symm hx
     refine ⟨r,by simp [hx,h1],?_⟩;cases r with
     |none=>simp only [bX,iH];exact h2
     |some q=>simp only [bX,iH];exact h2
  obtain ⟨r,h1,h2⟩:=key es xs 0 DY;refine ⟨r,?_,h2⟩;have V0: ∀es:List acg,aa4 (.array (n+1) E) (.agg ((oE n x).map (Value.int k)).toArray) es 0=some none/\es=[]\/aa4 (.array (n+1) E) (.agg ((oE n x).map (Value.int k)).toArray) es 0=none:=by
   intro es;cases es with
   |nil=>exact .inl ⟨rfl,rfl⟩
   |cons e es=>exact .inr (by simp [aa4,ad4])
  rcases V0 es with ⟨h3,h4⟩|h3
  subst h4;simp only [acn,ϳ] at h1;simp [ab9,run_underlying h,aaK,h3,<-h1];simp [ab9,run_underlying h,aaK,h3,h1]
theorem jW.arr {T E:Ι}{k:aaC}{n:Nat}(h:P.underlying T=some (.array (n+1) E))(o:P.underlying E=some (.int k))(j:(P.info? E).isSome=true)(p:P.cellsOf E=1):jW P T (.st (cq k n)):=by
 obtain ⟨i,j⟩:=Option.isSome_iff_exists.1 j;exact jW.pZ h o j p
theorem HT.V1 {R:Prop}{id:Nat}{ops:List Ϥ}(h:R->RG cx ops ops st Q)(j:R):HT cx st (.region id ops.toArray false) Q:=HT.rg (h j)
end
section
variable {cx:Cx} {g:GM} {st:St} {a:Act} {w w':Ε} {P:Ξ} {N:Nat} {own:List Nat} {Q:abm->St->Prop} {all os:List Ϥ}
theorem mq {r:Nat}{es:Array acg}{j:Nat}(o:w.heap[r]? =some (.map es j)):(getObj r).run P w= .ok (.map es j) w:=by
 simp [getObj,Sem.run,o]
theorem Ez {r:Nat}{es:Array acg}{j:Nat}(o:Obj)(p:w.heap[r]? =some (.map es j)):(setObj r o).run P w= .ok () {w with heap:=w.heap.setIfInBounds r o}:=by
 simp [setObj,Sem.run,p]
theorem LD {b:Nat}{arr es:Array _}{j:Nat}(h:dm w b arr)(o:w.heap[b]? =some (.map es j)):False:=by
 obtain ⟨T,p,r,h,_⟩:=h;rw [o] at h;cases h
theorem cG.OY {c b:Nat}{t u:Ty}{xs J:List (t.D×u.D)}{es es':Array acg}{ck ck':Nat}(h:cG cx g st a w)(hl:lk c st.mem=some (.mp t u xs))(hg:g.f c []=some b)(hb:w.heap[b]? =some (.map es ck))(he:bN (I6 w t u) J es'.toList):cG cx g (st.iT ((c,.mp t u J)::st.mem) st.nx) a {w with heap:=w.heap.setIfInBounds b (.map es' ck')}:=by
 have hlt:b<w.heap.size:=(Ϣ.1 hb).1;have aa: ∀j,j≠b->(w.heap.setIfInBounds b (.map es' ck'))[j]? =w.heap[j]? :=λj T=>by simp [Ne.symm T]
 have r: ∀j arr,dm w j arr->dm {w with heap:=w.heap.setIfInBounds b (.map es' ck')} j arr:=λj arr T=>T.bt (aa j λe=>by subst e;exact LD T hb);have t:vL cx g g st.mem ((c,.mp t u J)::st.mem) w {w with heap:=w.heap.setIfInBounds b (.map es' ck')} [b]:=by
  refine ⟨⟨rfl,rfl,rfl,by simp,λj _ hn=>aa j (by simpa using hn),λj arr T=>⟨arr,r j arr T,rfl⟩⟩,λb' ab=>by simp at ab;subst ab;exact ⟨c,[],_,hl,trivial,hg⟩,λ_ _=>rfl,λk c0 o=> ?_,λk c0 o R=> ?_⟩;by_cases e:k=c;subst e;rw [hl] at o;injection o with o;subst o;refine .inr (.inr ⟨(λe=>by cases e),_,(by rw [bB,if_pos rfl]),(λe=>by cases e),λp _=>trivial,λt xs U=> ?_,(λt xs U=>by cases U),λp b2 I _ _ wP=>⟨I,r b2 I wP,rfl⟩,?_⟩);rcases U with U|⟨_,_,_,U⟩<;>cases U
  exact ⟨b,es',ck',hg,by simp [hlt],he.mono λ_ _ h=>⟨h.1.bt,h.2.bt⟩⟩;refine .inl ⟨by rw [bB,if_neg e];exact o,λp b2 B5 Au hm=> ?_⟩;simp at hm;subst hm;exact e (h.fV k c p [] c0 _ b2 o B5 hl trivial Au hg).1;rw [bB] at R;by_cases e:k=c;subst e;rw [hl] at o;cases o;rw [if_neg e,o] at R;cases R
 exact h.tC t
theorem RG.makeMap {T:Ι}{o:Ϥ}{d:Tmp}(t u:Ty)(R:gG cx P N own)(U:o.op= .makeMap T none)(hg:o.guard=none)(J:o.dst=some d)(p:aae d N=true)(j:mi st.mem [(st.nx,.mp t u [])]=true)(hr:RG cx all os ⟨(d,.one (.fK st.nx))::st.fr,(st.nx,.mp t u [])::st.mem,st.nx+1⟩ Q):RG cx all (o::os) st Q:=by
 refine RG.gr (e:=⟨.one (.fK st.nx),[(st.nx,.mp t u [])],[],[]⟩) R hg (by rw [J];exact p) (λg a w hs=> ?_) (by rw [J];exact hr);have j:=fY j (st.nx,.mp t u []) Ϻ;refine .inl ⟨.map (some w.heap.size),w.alloc (.map #[] 0),by simp [execOp,U,Instr.makeMap],?_⟩;obtain ⟨g',r,I,_⟩:=hs.N1 (ch:= .mp t u []) j (ab6 [] w (.map #[] 0)) (by simp) (λg' _ _ S' _=>⟨w.heap.size,#[],0,rfl,heap_alloc_new w _,trivial⟩);exact ⟨g',I,by simp [bB],w.heap.size,by show g'.f st.nx []=_;rw [r];rfl,rfl⟩
theorem wj {t:Ty}{p:bu}{x:t.D}{v:ο}(I:t.flat=true)(J:j5 [] t p=some x)(R:VR g st.mem (cx.safe g st.mem w) w p v):qP w t v x:=by
 obtain ⟨cs,o,T⟩:=mY (S2:=cx.safe g st.mem w) (λ_ h=>h) ij.nil J R;have r:bT (λ_=>False) w t cs x:=bT.flat t I T;unfold dC at o;cases j:t.sk with
 |true=>rw [j] at o;exact .inl ⟨j,cs,o,r⟩
 |false=>rw [j] at o;simp at o;subst o;exact .inr ⟨j,r⟩
theorem RG.qw {T K E:Ι}{o:Ϥ}{m k v:aah}{c:Nat}{t u:Ty}{xs:List (t.D×u.D)}{kv vv:bu}{x:t.D}{y:u.D}(hX:gG cx P N own)(ho:o.op= .mapUpdate T m k v\/o.op= .insert T m k v)(hg:o.guard=none)(hd:o.dst=none)(hT:P.underlying T=some (.map K E))(hK:jW P K t)(hf:(t.flat&&u.flat)=true)(hm:ev st.fr m=some (.one (.fK c)))(hl:lk c st.mem=some (.mp t u xs))(hk:ev st.fr k=some kv)(Sc:j5 [] t kv=some x)(hv:ev st.fr v=some vv)(ZW:j5 [] u vv=some y)(hn:bX xs x=none)(hr:RG cx all os ⟨st.fr,(c,.mp t u (xs++[(x,y)]))::st.mem,st.nx⟩ Q):RG cx all (o::os) st Q:=by
 obtain ⟨hP,hN,hO⟩:=hX;subst hP hN;simp only [κ] at hf;refine RG.gr (e:=⟨.dE,[],[(c,.mp t u (xs++[(x,y)]))],[]⟩) ⟨rfl,rfl,hO⟩ hg (by rw [hd];rfl) (λg a w I=> ?_) (by rw [hd];exact hr);obtain ⟨hp,b,J,e1⟩:=cc I hm;obtain ⟨b',es,ck,j,hb,R⟩:=I.mem c _ hl;have:b'=b:=by rw [show g.f c []=some b from J] at j;injection j with h;exact h.symm
 subst this;have p:=wj (cx:=cx) hf.1 Sc (cc I hk);have ZX:=wj (cx:=cx) hf.2 ZW (cc I hv);obtain ⟨r,h1,h2⟩:=hK.find u w w (a.eval k) x es.toList xs p R;have KP:r=none:=by
  cases r with
  |none=>rfl
  |some q=>obtain ⟨y',h3,_⟩:=h2;rw [hn] at h3;cases h3
 subst KP;have U:(afS T (a.eval m) (a.eval k) (a.eval v)).run cx.P w= .ok () {w with heap:=w.heap.setIfInBounds b' (.map (es.push {key:=a.eval k,val:=a.eval v,born:=ck}) (ck+1))}:=by
  rw [e1];simp [afS,run_underlying hT,mq hb,hK.Nx false w w _ x p,h1,Ez _ hb]
 refine .inr (.inl ⟨_,?_,g,I.OY (es':=es.push {key:=a.eval k,val:=a.eval v,born:=ck}) (ck':=ck+1) hl J hb ?_,trivial⟩);rcases ho with ho|ho<;>simp only [execOp,ho,Ϙ,U,ϋ,ϳ]
 rw [Array.toList_push];exact R.append ⟨⟨p,ZX⟩,trivial⟩
theorem RG.AT {T K E:Ι}{o:Ϥ}{m k:aah}{c:Nat}{d:Tmp}{t u:Ty}{xs:List (t.D×u.D)}{kv:bu}{x:t.D}{z:ο}{y0:u.D}(hX:gG cx P N own)(ho:o.op= .lookup T m k true)(hg:o.guard=none)(hd:o.dst=some d)(DB:aae d N=true)(hT:P.underlying T=some (.map K E))(hK:jW P K t)(hf:(t.flat&& !u.sk)=true)(R:(P.info? E).bind (·.zero)=some z)(Sd:nP z= .one (.bp u y0))(hm:ev st.fr m=some (.one (.fK c)))(hl:lk c st.mem=some (.mp t u xs))(hk:ev st.fr k=some kv)(Sc:j5 [] t kv=some x)(hr:RG cx all os ⟨(d,.Ab [(false,[.bp u ((bX xs x).getD y0)]),(false,[.bp .bool (bX xs x).isSome])])::st.fr,st.mem,st.nx⟩ Q):RG cx all (o::os) st Q:=by
 obtain ⟨hP,hN,hO⟩:=hX;subst hP hN;simp only [κ,aaf] at hf;refine RG.gr (e:=⟨.Ab [(false,[.bp u ((bX xs x).getD y0)]),(false,[.bp .bool (bX xs x).isSome])],[],[],[]⟩) ⟨rfl,rfl,hO⟩ hg (by rw [hd];exact DB) (λg a w U=> ?_) (by rw [hd];exact hr);obtain ⟨hp,b,B7,e1⟩:=cc U hm;obtain ⟨b',es,ck,p,hb,DY⟩:=U.mem c _ hl;have:b'=b:=by rw [show g.f c []=some b from B7] at p;injection p with h;exact h.symm
 subst this;have I:=wj (cx:=cx) hf.1 Sc (cc U hk);obtain ⟨r,h1,J⟩:=hK.find u w w (a.eval k) x es.toList xs I DY;obtain ⟨i,hi,Se⟩: ∃i,cx.P.info? E=some i/\i.zero=some z:=by
  cases hx:cx.P.info? E with
  |none=>rw [hx] at R;cases R
  |some i=>rw [hx] at R;exact ⟨i,rfl,R⟩
 have key: ∃v,(ab0 T (a.eval m) (a.eval k) true).run cx.P w= .ok (.tuple #[v,.bool (bX xs x).isSome]) w/\bT (cx.safe g st.mem w) w u [v] ((bX xs x).getD y0):=by
  rw [e1];cases r with
  |none=>
   refine ⟨z,?_,?_⟩;have J:bX xs x=none:=J;simp [ab0,run_underlying hT,mq hb,hK.Nx _ w w _ x I,h1,zeroValue,typeInfo,hi,Se,J];have J:bX xs x=none:=J;rw [J];have:=qd (g:=g) (m:=st.mem) (S:=cx.safe g st.mem w) (w:=w) z;rw [Sd] at this;exact this
  |some q=>
   obtain ⟨j,v⟩:=q;obtain ⟨y,h3,h4⟩:=J;refine ⟨v,?_,?_⟩;simp [ab0,run_underlying hT,mq hb,hK.Nx _ w w _ x I,h1,h3];rw [h3];rcases h4 with ⟨h5,_⟩|⟨_,h5⟩
   rw [hf.2] at h5;cases h5;exact bT.bt (λb hb=>hb.elim) u [v] y h5
 obtain ⟨v,h3,h4⟩:=key;exact .inl ⟨_,w,by simp only [execOp,ho,Ϙ,h3,ϋ,ϳ],g,U,[v,.bool (bX xs x).isSome],rfl,h4,rfl,trivial⟩
theorem RG.Sf {T K E:Ι}{o:Ϥ}{m k:aah}{c:Nat}{d:Tmp}{t u:Ty}{xs:List (t.D×u.D)}{kv:bu}{x:t.D}{z:ο}{y0:u.D}(hX:gG cx P N own)(ho:o.op= .lookup T m k false)(hg:o.guard=none)(hd:o.dst=some d)(DB:aae d N=true)(hT:P.underlying T=some (.map K E))(hK:jW P K t)(hf:(t.flat&& !u.sk)=true)(J:(P.info? E).bind (·.zero)=some z)(Sd:nP z= .one (.bp u y0))(hm:ev st.fr m=some (.one (.fK c)))(hl:lk c st.mem=some (.mp t u xs))(hk:ev st.fr k=some kv)(Sc:j5 [] t kv=some x)(hr:RG cx all os ⟨(d,.one (.bp u ((bX xs x).getD y0)))::st.fr,st.mem,st.nx⟩ Q):RG cx all (o::os) st Q:=by
 obtain ⟨hP,hN,hO⟩:=hX;subst hP hN;simp only [κ,aaf] at hf;refine RG.gr (e:=⟨.one (.bp u ((bX xs x).getD y0)),[],[],[]⟩) ⟨rfl,rfl,hO⟩ hg (by rw [hd];exact DB) (λg a w R=> ?_) (by rw [hd];exact hr);obtain ⟨hp,b,B7,e1⟩:=cc R hm;obtain ⟨b',es,ck,p,U,DY⟩:=R.mem c _ hl;have:b'=b:=by rw [show g.f c []=some b from B7] at p;injection p with h;exact h.symm
 subst this;have I:=wj (cx:=cx) hf.1 Sc (cc R hk);obtain ⟨r,h1,h2⟩:=hK.find u w w (a.eval k) x es.toList xs I DY;obtain ⟨i,hi,Se⟩: ∃i,cx.P.info? E=some i/\i.zero=some z:=by
  cases hx:cx.P.info? E with
  |none=>rw [hx] at J;cases J
  |some i=>rw [hx] at J;exact ⟨i,rfl,J⟩
 have key: ∃v,(ab0 T (a.eval m) (a.eval k) false).run cx.P w= .ok v w/\bT (cx.safe g st.mem w) w u [v] ((bX xs x).getD y0):=by
  rw [e1];cases r with
  |none=>
   have h2:bX xs x=none:=h2;refine ⟨z,?_,?_⟩;simp [ab0,run_underlying hT,mq U,hK.Nx _ w w _ x I,h1,zeroValue,typeInfo,hi,Se];rw [h2];have:=qd (g:=g) (m:=st.mem) (S:=cx.safe g st.mem w) (w:=w) z;rw [Sd] at this;exact this
  |some q=>
   obtain ⟨j,v⟩:=q;obtain ⟨y,h3,h4⟩:=h2;refine ⟨v,?_,?_⟩;simp [ab0,run_underlying hT,mq U,hK.Nx _ w w _ x I,h1];rw [h3];rcases h4 with ⟨h5,_⟩|⟨_,h5⟩
   rw [hf.2] at h5;cases h5;exact bT.bt (λb U=>U.elim) u [v] y h5
 obtain ⟨v,h3,h4⟩:=key;exact .inl ⟨_,w,by simp only [execOp,ho,Ϙ,h3,ϋ,ϳ],g,R,h4⟩
theorem RG.OZ {T K E:Ι}{o:Ϥ}{cl:Call}{m:aah}{c:Nat}{d:Tmp}{t u:Ty}{xs:List (t.D×u.D)}(hX:gG cx P N own)(ho:o.op= .call cl)(mZ:cl.callee= .builtin .len/\cl.args= #[m]/\cl.argTypes= #[T])(hg:o.guard=none)(hd:o.dst=some d)(R:aae d N=true)(hT:P.underlying T=some (.map K E))(hm:ev st.fr m=some (.one (.fK c)))(hl:lk c st.mem=some (.mp t u xs))(hr:RG cx all os ⟨(d,.one (.bp (.int .i64) (aW xs)))::st.fr,st.mem,st.nx⟩ Q):RG cx all (o::os) st Q:=by
 obtain ⟨hP,hN,hO⟩:=hX;subst hP hN;refine RG.gr (e:=⟨.one (.bp (.int .i64) (aW xs)),[],[],[]⟩) ⟨rfl,rfl,hO⟩ hg (by rw [hd];exact R) (λg a w U=> ?_) (by rw [hd];exact hr);obtain ⟨hp,b,aa,e1⟩:=cc U hm;obtain ⟨b',es,ck,j,hb,ab⟩:=U.mem c _ hl;have:b'=b:=by rw [show g.f c []=some b from aa] at j;injection j with h;exact h.symm
 subst this;obtain ⟨h1,h2,h3⟩:=mZ;have r:=ab.length;have I:resolve a.eval cl o.type=pure {target:= .builtin .len cl.argTypes o.type (cl.args.map fun| .const _=>true|_=>false),args:=cl.args.map a.eval}:=by
  unfold resolve;rw [h1];rfl
 have J:(aco #[T] o.type #[a.eval m]).run cx.P w= .ok (.int .i64 (aW xs)) w:=by
  rw [e1];simp [aco,run_underlying hT,mq hb,goInt,aW,r]
 refine .inl ⟨.int .i64 (aW xs),w,?_,g,U,rfl⟩;have he:execOp a.eval o=(do pure (.value (<-aco #[T] o.type #[a.eval m]))):=by
  have p:cl.args.map a.eval= #[a.eval m]:=by rw [h2];simp
  simp only [execOp,ho,I,p,h3];rfl
 rw [he];simp [J]
end
section
variable {cx:Cx} {g:GM} {st:St} {a:Act} {w w':Ε} {P:Ξ} {N:Nat} {own:List Nat} {Q:abm->St->Prop} {all os:List Ϥ}
theorem RG.I8 {T E:Ι}{o:Ϥ}{parts:Array (Nat×aah)}{d:Tmp}{len n:Nat}{vs:List (Nat×bu)}(cs:List bs)(hX:gG cx P N own)(ho:o.op= .build T parts)(hg:o.guard=none)(R:o.dst=some d)(t:aae d N=true)(hT:P.underlying T=some (.array len E))(U:cX P E=some n){z:ο}(r:(P.info? T).bind (·.zero)=some z)(I:(nP z).ok=true)(J:yH st.fr parts.toList=some vs)(hf:wA (λi=>some (i*n,n)) (nP z).cells vs=some cs)(hr:RG cx all os ⟨(d,.agg cs)::st.fr,st.mem,st.nx⟩ Q):RG cx all (o::os) st Q:=by
 obtain ⟨hP,hN,hO⟩:=hX;subst hP hN;refine RG.gr (e:=⟨.agg cs,[],[],[]⟩) ⟨rfl,rfl,hO⟩ hg (by rw [R];exact t) (λg a w hs=> ?_) (by rw [R];exact hr);obtain ⟨i,hi,p⟩: ∃i,cx.P.info? T=some i/\i.zero=some z:=by
  cases hx:cx.P.info? T with
  |none=>rw [hx] at r;cases r
  |some i=>rw [hx] at r;exact ⟨i,rfl,r⟩
 obtain ⟨j,h1,h2⟩:=tG (g:=g) (m:=st.mem) (S:=cx.safe g st.mem w) (w:=w) (λi=>some (i*n,n)) hf (ky z I) (uJ hs J);refine .inl ⟨.agg j,w,?_,g,hs,j.toList,by simp,h2⟩;simp only [execOp,ho,agX,Ϙ,zeroValue,typeInfo,hi,p,run_underlying hT,cA U,ϋ,ϳ,aaX,h1];simp [hi,p,run_underlying hT,cA U,h1]
theorem RG.O0 {T:Ι}{o:Ϥ}{d:Tmp}(k:aaC)(n:Nat)(hX:gG cx P N own)(ho:o.op= .alloc T)(hg:o.guard=none)(hd:o.dst=some d)(J:aae d N=true)(I:(P.info? T).bind (·.zero)=some (.agg (π n (Value.int k 0)).toArray))(r:mi st.mem [(st.nx,.gone)]=true)(hr:RG cx all os ⟨(d,.one (.cZ st.nx 0 1 0))::st.fr,(st.nx,.seq (.int k) (π n (0:Int)))::st.mem,st.nx+1⟩ Q):RG cx all (o::os) st Q:=by
 obtain ⟨hP,hN,hO⟩:=hX;subst hP hN;refine RG.gr (e:=⟨.one (.cZ st.nx 0 1 0),[(st.nx,.seq (.int k) (π n (0:Int)))],[],[]⟩) ⟨rfl,rfl,hO⟩ hg (by rw [hd];exact J) (λg a w hs=> ?_) (by rw [hd];exact hr);obtain ⟨i,R,U⟩: ∃i,cx.P.info? T=some i/\i.zero=some (.agg (π n (Value.int k 0)).toArray):=by
  cases hx:cx.P.info? T with
  |none=>rw [hx] at I;cases I
  |some i=>rw [hx] at I;exact ⟨i,rfl,I⟩
 have r:=fY r (st.nx,.gone) Ϻ;refine .inl ⟨.pointer (some ⟨w.heap.size,0,none⟩),w.alloc (.cells (π n (Value.int k 0)).toArray T),?_,?_⟩;simp [execOp,ho,acV,zeroValue,typeInfo,R,U,newVar,newRow,abz];refine oT.new hs (λp hp=>by simp at hp;subst hp;exact r) ⟨rfl,rfl⟩ (ab6 _ _ _) (adV w _ T) (λg' hg t S' hS=> ?_) (λg' t S'=>⟨by simp [bB],w.heap.size,t,by simp⟩);refine ⟨(π n (Value.int k 0)).toArray,adV w _ T,eI.k9 rfl λi R=>⟨[.int k 0],λj v hv=> ?_,?_⟩⟩;have hn:i<n:=by simpa using R
 cases j with
 |zero=>
  simp at hv;subst hv;simp [aan,hn]
 |succ j=>simp at hv
 show [Value.int k 0]=[Value.int k ((π n (0:Int))[i])];simp
theorem RG.O1 {T:Ι}{o:Ϥ}{x y:aah}{k:aaC}{c n:Nat}{xs:List Int}(ys:List Int)(hX:gG cx P N own)(ho:o.op= .store T x y)(hg:o.guard=none)(hd:o.dst=none)(hT:cX P T=some n)(hx:ev st.fr x=some (.one (.cZ c 0 1 0)))(hl:lk c st.mem=some (.seq (.int k) xs))(hn:xs.length=n)(Nb:ys.length=n)(hy:ev st.fr y=some (.agg (ys.map λz=> .bp (.int k) z)))(B5:aae 0 n=true)(hr:RG cx all os ⟨st.fr,(c,.seq (.int k) ys)::st.mem,st.nx⟩ Q):RG cx all (o::os) st Q:=by
 obtain ⟨hP,hN,hO⟩:=hX;subst hP hN;refine RG.gr (e:=⟨.dE,[],[(c,.seq (.int k) ys)],[]⟩) ⟨rfl,rfl,hO⟩ hg (by rw [hd];rfl) (λg a w hs=> ?_) (by rw [hd];exact hr);obtain ⟨hp,b,p,e1⟩:=cc hs hx;obtain ⟨vs,e2,so⟩:=cc hs hy;have I:=hs.mem c _ hl;unfold jc at I;have p:g.f c []=some b:=p;rw [p] at I;obtain ⟨arr,hb,qU⟩:=I;have nu:n<=arr.size:=by
  have h0:0<n:=ϓ B5;obtain ⟨es,J,h2⟩:=qU (n - 1) (by rw [hn];omega);have h3:es.length=1:=de.len (.int k) h2;obtain ⟨u,hu⟩: ∃u,es[0]? =some u:=⟨es[0],List.getElem?_eq_getElem (by omega)⟩;have:=J 0 u hu;have:=(Ϣ.1 this).1;simp [aan] at this;omega
 have U:vs=ys.map (Value.int k):=by
  have: ∀(zs:List Int) (r:List ο),bN (CR g st.mem (cx.safe g st.mem w) w) (zs.map λz=> .bp (.int k) z) r->r=zs.map (Value.int k):=by
   intro zs;induction zs with
   |nil=>intro r h;cases r with|nil=>rfl|cons=>exact h.elim
   |cons z zs ih=>
    intro r h;cases r with
    |nil=>exact h.elim
    |cons u r=>
     have J:[u]=[Value.int k z]:=h.1;rw [ih r h.2];injection J with J;rw [J];rfl
  exact this ys vs so
 subst U;have mZ:(a.eval y).cells.toList=ys.map (Value.int k):=by rw [e2];simp [abz]
 obtain ⟨w',t,J,h2,h3,h4,h5⟩:=ll (P:=cx.P) (T:=T) (n:=n) (b:=b) (o:=0) (v:=a.eval y) hT hb (by rw [mZ];simp [Nb]) (by omega) (by rw [mZ];intro v hv;obtain ⟨z,_,rfl⟩:=ϟ.1 hv;rfl);refine .inr (.inl ⟨w',?_,g,?_,trivial⟩);simp only [execOp,ho,Ϙ];rw [e1];simp only [aaY,Υ,J,ϋ,ϳ];refine hs.M5 (c:=c) (b:=b) (p0:=[]) ⟨hl,trivial,p,h4,⟨arr,t,hb,h2,h5⟩,λ_ h=>h,(λe=>by cases e),λt' ig h=> ?_,λt' ig h=> ?_⟩ ?_;rcases h with h|⟨_,_,_,h⟩
 injection h with h6 R;subst h6;have R:=eq_of_heq R;subst R;exact ⟨xs,.inl rfl,by show ζ xs=ζ ys;omega⟩;cases h;injection h with h6 R;subst h6;have R:=eq_of_heq R;subst R;exact ⟨xs,rfl,by show ζ xs=ζ ys;omega,λi o e QH h=>by cases h⟩;unfold jc;rw [p];refine ⟨t,h2,eI.k9 rfl λi hi=>⟨[.int k ys[i]],λj v hv=> ?_,rfl⟩⟩;cases j with
 |zero=>
  simp at hv;subst hv;rw [<-ϥ,h3,mZ];have BK:i<ys.length:=hi;simp [aan,List.getElem?_append,BK]
 |succ j=>simp at hv
def I9 (k:aaC)(n:Nat)(xs:List Int):List bs:=(abh n).map λj=> .bp (.int k) (xs.getD j 0)
theorem RG.Ny {T:Ι}{o:Ϥ}{x:aah}{k:aaC}{c n:Nat}{d:Tmp}{xs:List Int}(hX:gG cx P N own)(ho:o.op= .load T x)(hg:o.guard=none)(hd:o.dst=some d)(R:aae d N=true)(hT:cX P T=some n)(U:wz P T=some true)(hx:ev st.fr x=some (.one (.cZ c 0 1 0)))(hl:lk c st.mem=some (.seq (.int k) xs))(hn:xs.length=n)(hr:RG cx all os ⟨(d,.agg (I9 k n xs))::st.fr,st.mem,st.nx⟩ Q):RG cx all (o::os) st Q:=by
 obtain ⟨hP,hN,hO⟩:=hX;subst hP hN;refine RG.gr (e:=⟨.agg (I9 k n xs),[],[],[]⟩) ⟨rfl,rfl,hO⟩ hg (by rw [hd];exact R) (λg a w hs=> ?_) (by rw [hd];exact hr);obtain ⟨hp,b,p,e1⟩:=cc hs hx;have r:=hs.mem c _ hl;unfold jc at r;have p:g.f c []=some b:=p;rw [p] at r;obtain ⟨arr,hb,t⟩:=r;have hc: ∀j v,(xs.map (Value.int k))[j]? =some v->w.cell? ((⟨b,0,none⟩:Addr).add j)=some v:=λj v hv=>by
  obtain ⟨hj,hv⟩:=ψ.1 hv;have M4:j<xs.length:=by simpa using hj
  obtain ⟨es,h1,I⟩:=t j M4;have I:es=[.int k xs[j]]:=I;subst I;have:=h1 0 _ rfl;rw [ca,hb.cell,Υ];simp [aan] at this;rw [this,<-hv];simp
 have J: ∀(m:Nat),bN (CR g st.mem (cx.safe g st.mem w) w) (I9 k xs.length xs) (xs.map (Value.int k)):=λ_=>by
  have:I9 k xs.length xs=xs.map λz=> .bp (.int k) z:=by
   unfold I9;apply List.ext_getElem;simp;intro i h1 I;have:i<xs.length:=by simpa using I
   simp [this]
  rw [this];clear this hc t hl hr hn;induction xs with
  |nil=>trivial
  |cons z zs ih=>exact ⟨rfl,ih⟩
 refine .inl ⟨.agg (xs.map (Value.int k)).toArray,w,?_,g,hs,xs.map (Value.int k),rfl,by rw [<-hn];exact J 0⟩;have:=run_loadCells_list (P:=cx.P) w ⟨b,0,none⟩ (xs.map (Value.int k)) hc;rw [ϔ,hn] at this;simp only [execOp,ho];rw [e1];simp [Instr.loadAt,aat,loadVar,sL U,cA hT,this]
def zV (q:Bool):ο:=bif q then .bool false else .int .i64 0
def Ui:Bool->ο->Bool
 |true,.bool b=> !b
 |false,.int .i64 n=> @decide (@Eq Int n 0) (ac9 n 0)
 |_,_=>false
theorem O2 {q:Bool}{v:ο}(h:Ui q v=true):v=zV q:=by
 unfold Ui at h;split at h;rename_i b;cases b<;>first|rfl|cases h
 rename_i n;rw [decide_eq_true_eq] at h;rw [h];rfl;cases h
def LF (q:Bool):List ο->Nat->Bool
 |[],n=>(match n with|0=>true|_+1=>false)
 |v::r,n=>(match n with|0=>false|n+1=>bif Ui q v then LF q r n else false)
theorem FW {q:Bool}: ∀{l:List ο} {n:Nat},LF q l n=true->l=π n (zV q)
 |[],0,_=>rfl
 |[],_+1,h=>by cases h
 |_::_,0,h=>by cases h
 |v::r,n+1,h=>by
  simp only [LF] at h;cases j:Ui q v with
  |false=>rw [j] at h;cases h
  |true=>
   rw [j] at h;rw [O2 j,FW (l:=r) (n:=n) h];rfl
def Nz (P:Ξ)(T:Ι)(q:Bool)(n:Nat):Bool:=
 match P.info? T with
 |some i=>(match i.zero with
  |some (.agg cs)=>LF q cs.toList n
  |_=>false)
 |none=>false
def zD (q:Bool):(t:Ty)->Option t.D
 | .int .i64=>bif q then none else some (0:Int)
 | .bool=>bif q then some false else none
 | .pair a b=>(match zD q a,zD q b with
  |some x,some y=>some (x,y)
  |_,_=>none)
 | .st t=>zD q t
 |_=>none
theorem AU {S:Nat->Prop}{q:Bool}: ∀(t:Ty) {x:t.D},zD q t=some x->bT S w t (π t.size (zV q)) x
 | .int k,x,h=>by
  cases k<;>first|(cases q<;>simp [zD] at h;subst h;rfl)|cases h
 | .bool,x,h=>by cases q<;>simp [zD] at h;subst h;rfl
 | .pair a b,x,h=>by
  simp only [zD] at h;split at h;rename_i y z j o;injection h with h;subst h;exact ⟨_,_,by simp only [aan];rw [List.replicate_append_replicate],AU a j,AU b o⟩;cases h
 | .st t,x,h=>AU t (x:=x) h
 | .dB _,_,h=>by cases h
 | .str,_,h=>by cases h
 | .sl _,_,h=>by cases h
 | .own _,_,h=>by cases h
 | .bx _,_,h=>by cases h
 | .cl _ _,_,h=>by cases h
theorem RG.Sg {T:Ι}{U o2:Ϥ}{o d2:Tmp}(q:Bool)(t:Ty)(n:Nat)(z:t.D)(hX:gG cx P N own)(h1:U.op= .build T #[])(g1:U.guard=none)(e1:U.dst=some o)(h2:o2.op= .box T (.tmp o))(g2:o2.guard=none)(e2:o2.dst=some d2)(I:(aae o N&&aae d2 N)=true){len:Nat}{E:Ι}(hT:P.underlying T=some (.array len E)){sz:Nat}(hE:cX P E=some sz)(r:Nz P T q (n*t.size)=true)(ZY:zD q t=some z)(qV:t.top=true)(J:mi st.mem [(st.nx,.gone)]=true)(hr:RG cx all os ⟨(d2,.one (.cZ st.nx 0 t.size 0))::(o,.dE)::st.fr,(st.nx,.seq t (π n z))::st.mem,st.nx+1⟩ Q):RG cx all (U::o2::os) st Q:=by
 obtain ⟨hP,hN,hO⟩:=hX;subst hP hN;simp only [κ] at I;have Sh:=ϓ I.1;have LG:=ϓ I.2;unfold Nz at r;cases hi:cx.P.info? T with
 |none=>rw [hi] at r;cases r
 |some i=>
  rw [hi] at r;simp only at r;cases R:i.zero with
  |none=>rw [R] at r;cases r
  |some zv=>
   rw [R] at r;cases zv<;>simp only at r<;>try (cases r;done)
   rename_i cs;have hcs:=FW r;have V2:cs=(π (n*t.size) (zV q)).toArray:=by rw [<-hcs]
   intro g a w hs;refine wpList_step λK hK=> ?_;simp only [ϭ,g1,if_true];unfold ab2;have hb:(execOp a.eval U).run cx.P w= .ok (.value (.agg cs)) w:=by
    simp [execOp,h1,agX,zeroValue,typeInfo,hi,R,run_underlying hT,cA hE,Instr.fill,abz]
   rw [hb];refine hK _ _ ?_;rw [e1];have Iv:cG cx g (st.put (some o) .dE) (a.put (some o) (.agg cs)) w:=hs.put (v:= .dE) trivial (some o) λt e=>by cases e;exact Sh
   refine wpList_step λK hK=> ?_;simp only [ϭ,g2,if_true];unfold ab2;have G9:(a.put (some o) (.agg cs)).eval (.tmp o)= .agg cs:=by
    have:o<a.tmps.size:=by rw [hs.size];exact Sh
    simp [ad5,abp,ώ,this]
   have hx:(execOp (a.put (some o) (.agg cs)).eval o2).run cx.P w= .ok (.value (.pointer (some ⟨w.heap.size,0,none⟩))) (w.alloc (.cells cs T)):=by
    simp [execOp,h2,G9,Instr.box,newVar,newRow,abz]
   rw [hx];have J:=fY J (st.nx,.gone) Ϻ;have V3:oT cx (st.put (some o) .dE) (a.put (some o) (.agg cs)) ⟨.one (.cZ st.nx 0 t.size 0),[(st.nx,.seq t (π n z))],[],[]⟩ (.pointer (some ⟨w.heap.size,0,none⟩)) (w.alloc (.cells cs T)):=by
    refine oT.new Iv (λp hp=>by simp at hp;subst hp;exact J) ⟨rfl,rfl⟩ (ab6 _ _ _) (adV w _ T) (λg' hg DS S' hS=> ?_) (λg' DS S'=>⟨by simp [bB,St.put],w.heap.size,DS,by simp⟩);refine ⟨cs,adV w _ T,eI.k9 qV λi hi=>⟨π t.size (zV q),λj v hv=> ?_,?_⟩⟩;have hn:i<n:=by simpa using hi
    obtain ⟨hj,hv⟩:=ψ.1 hv;have hj:j<t.size:=by simpa using hj
    have hlt:i*t.size+j<n*t.size:=by
     have:(i+1)*t.size<=n*t.size:=Ρ _ hn;rw [ϑ,Nat.one_mul] at this;omega
    rw [V2];simp at hv;simp [hlt,<-hv];have:=AU (S:=S') (w:=w.alloc (.cells cs T)) t ZY;simpa using this
   obtain ⟨g',qg⟩:=V3.T6 (d:=some d2) λt e=>by cases e;exact LG
   refine hK _ _ ?_;rw [e2];exact hr g' _ _ qg
end
end Go.Ide
namespace Go.Ide
section
variable {cx:Cx} {g:GM} {st:St} {a:Act} {w w':Ε} {P:Ξ} {N:Nat} {own:List Nat} {Q:abm->St->Prop} {all os:List Ϥ}
def V4 (R:St->Prop)(e:abm)(s:St):Prop:=(e= .ret\/e= .normal)/\R s
def xJ:List Nat->Fr->Option (List bs)
 |[],_=>some []
 |t::j,fr=>(match lk t fr,xJ j fr with
  |some (.one c),some l=>some (c::l)
  |_,_=>none)
def xK:Nat->List bu->Fr
 |_,[]=>[]
 |n,v::r=>(n,v)::xK (n+1) r
def LH:List Nat->List bs->Fr
 |t::j,c::cs=>(t,.one c)::LH j cs
 |_,_=>[]
theorem zQ {v:bu}{t:Nat}: ∀{vs:List bu} {n:Nat},lk t (xK n vs)=some v->n<=t/\vs[t - n]? =some v
 |[],n,h=>by cases h
 |u::r,n,h=>by
  simp only [xK] at h;rw [bB] at h;split at h;rename_i e;subst e;injection h with h;subst h;exact ⟨φ _,by simp⟩;obtain ⟨o,j⟩:=zQ h;refine ⟨by omega,?_⟩;rw [show t - n=(t - (n+1))+1 from by omega];simpa using j
theorem FX {S:Nat->Prop}{m:Mem}{v:bu}{t:Nat}(f:Nat->ο): ∀{ts:List Nat} {cs:List bs},bN (CR g m S w) cs (ts.map f)->lk t (LH ts cs)=some v->VR g m S w v (f t)
 |[],_,_,h=>by cases h
 |_::_,[],h,_=>h.elim
 |u::ts,c::cs,h,j=>by
  simp only [LH] at j;rw [bB] at j;split at j;rename_i e;subst e;injection j with j;subst j;exact h.1;exact FX f h.2 j
theorem xL {S:Nat->Prop}(h:cG cx g st a w): ∀{ts:List Nat} {cs:List bs},xJ ts st.fr=some cs->bN (CR g st.mem (cx.safe g st.mem w) w) cs (ts.map λt=>a.tmps.getD t undef)
 |[],cs,j=>by simp only [xJ] at j;injection j with j;subst j;trivial
 |t::ts,cs,j=>by
  simp only [xJ] at j;split at j;rename_i c l o p;injection j with j;subst j;exact ⟨h.fr t _ o,xL (S:=S) h p⟩;cases j
theorem cG.ghost {cs:List bs}{gv:List ο}(h:cG cx g st a w)(tD:lk st.nx st.mem=none)(J:bN (CR g st.mem (cx.safe g st.mem w) w) cs gv):
 ∃g':GM,cG cx g' (st.iT ((st.nx,.gh cs gv)::st.mem) (st.nx+1)) a w/\iG g g' st.mem ((st.nx,.gh cs gv)::st.mem) (cx.safe g st.mem w) (cx.safe g' ((st.nx,.gh cs gv)::st.mem) w) w w:=by
 have r: ∀k,lk k st.mem≠none->(g.set st.nx λ_=>none).f k=g.f k:=λk iH=>GM.DI _ _ (λe=>iH (by rw [e];exact tD));have I:=GM.wE g st.nx λ_=>none;revert r I;generalize g.set st.nx (λ_=>none)=g';intro r I;have R: ∀k,lk k st.mem≠none->lk k ((st.nx,.gh cs gv)::st.mem)=lk k st.mem:=λk hk=>by
  rw [bB,if_neg (λe=>hk (by rw [e];exact tD))]
 have U: ∀b,cx.safe g st.mem w b->cx.safe g' ((st.nx,.gh cs gv)::st.mem) w b:=by
  intro b ⟨h2,h3,h4⟩;refine ⟨h2,h3,?_⟩;rintro ⟨k,p,c,T,hn,hg⟩;rw [bB] at T;by_cases e:k=st.nx;subst e;rw [I] at hg;cases hg;rw [if_neg e] at T;exact h4 ⟨k,p,c,T,hn,by rw [<-r k (by rw [T];simp)];exact hg⟩
 have tK:iG g g' st.mem ((st.nx,.gh cs gv)::st.mem) (cx.safe g st.mem w) (cx.safe g' ((st.nx,.gh cs gv)::st.mem) w) w w:=
  ⟨⟨λb hb=>⟨U b hb,rfl⟩,λc J=>⟨by rw [R c J];exact J,congrFun (r c J) []⟩,λc t xs J hl=>⟨xs,by unfold du at hl⊢;rw [<-R c J];exact hl,rfl⟩,λc t xs b arr J hl B7 hb=>⟨arr,hb,rfl⟩⟩,
   r,λc t xs J hl=>⟨xs,by rw [<-R c J];exact hl,cy.refl _ _,λi o b arr B7 hb=>⟨arr,hb,rfl⟩⟩⟩
 have t:vL cx g g' st.mem ((st.nx,.gh cs gv)::st.mem) w w []:=by
  refine ⟨acL _ _,(λb hb=>by simp at hb),r,λk c0 ho=> ?_,λk c0 ho j=> ?_⟩;left;rw [R k (by rw [ho];simp)];exact ⟨ho,λ_ _ _ _=>by simp⟩;rw [bB] at j;by_cases e:k=st.nx;subst e;rw [if_pos rfl] at j;injection j with j;subst j;exact ⟨⟨λp=>by rw [I],J.mono λ_ _=>ad7 tK⟩,λp b hn hg=>by rw [I] at hg;cases hg⟩;rw [if_neg e,ho] at j;cases j
 exact ⟨g',h.tC t,tK⟩
theorem RG.AV {os:List Ϥ}{o:Ϥ}{f:aaE}{sj:Array aah}{d:Tmp}(ks:List Nat)(hX:gG cx P N own)(R:o.op= .makeFunc (.func f) #[] sj)(hg:o.guard=none)(I:o.dst=some d)(J:aae d N=true)(T:Iq st.fr sj.toList=some (ks.map λk=> .one (.ptr k 0)))(U:RG cx all os ⟨(d,.one (.cls f ks))::st.fr,st.mem,st.nx⟩ Q):RG cx all (o::os) st Q:=by
 obtain ⟨hP,hN,hO⟩:=hX;subst hP hN;refine RG.gr (e:=⟨.one (.cls f ks),[],[],[]⟩) ⟨rfl,rfl,hO⟩ hg (by rw [I];exact J) (λg a w hs=> ?_) (by rw [I];exact U);have j:=qk hs T;have r:sj.map a.eval=(sj.toList.map a.eval).toArray:=by apply aaU;rw [aaX]
 refine .inl ⟨.func (.func f) #[] (sj.map a.eval),w,by simp [execOp,R,Instr.makeFunc],g,hs,_,by rw [r],?_⟩;clear r T U R I;generalize sj.toList.map a.eval=t at j;induction ks generalizing t with
 |nil=>cases t with|nil=>trivial|cons=>exact j.elim
 |cons k ks ih=>
  cases t with
  |nil=>exact j.elim
  |cons p t=>exact ⟨j.1,ih t j.2⟩
theorem RG.inl {β:Type}{o:Ϥ}{cl:Call}{fo:aah}{fn:Func}{c:Code}{f:aaE}{d:Tmp}{ks ts:List Nat}{vs:List bu}{cs:List bs}(JJ:List ο->β->St)(cj:β->List bs)(J:β->St)(C:β->Prop)(gk:Nat)(hX:gG cx P N own)(hF:cx.HP)(tQ:cx.nd=true)(ho:o.op= .call cl)(hg:o.guard=none)(hd:o.dst=some d)(DB:aae d N=true)(mZ:cl.callee= .value fo)(hf:ev st.fr fo=some (.one (.cls f ks))\/(ev st.fr fo=some (.one (.fn f))/\ks=[]))(so:Iq st.fr cl.args.toList=some vs)(hfn:P.funcs[f]? =some fn)(hb:fn.body=some c)(IA:(fn.name=="runtime.NumGoroutine")=false)(sS:fn.results= #[])(hn:ϩ (vs.length+ks.length) fn.ntmps=true)(R6:xJ ts st.fr=some cs)(tD:mi st.mem [(st.nx,.gone)]=true)(ab: ∀(gv:List ο) (r:Cx),gG r P fn.ntmps own->r.HP->r.nd=true->HT r ⟨xK 0 (vs++ks.map λk=> .one (.ptr k 0)),(st.nx,.gh cs gv)::st.mem,st.nx+1⟩ c (V4 λs=> ∃v,C v/\Le r s (JJ gv v)))(ZZ: ∀gv v,lk gk (JJ gv v).mem=some (.gh (cj v) gv))(hle: ∀gv v,Le cx ⟨(d,.dE)::LH ts (cj v),(JJ gv v).mem,(JJ gv v).nx⟩ (J v))(hk: ∀v,C v->Q .normal (J v)):RG cx all [o] st Q:=by
 obtain ⟨hP,hN,hO⟩:=hX;subst hP hN;intro g a w hs;refine wpList_step λK hK=> ?_;simp only [ϭ,hg,if_true];have tD:=fY tD (st.nx,.gone) Ϻ;obtain ⟨g1,I,V5⟩:=hs.ghost (cs:=cs) (gv:=ts.map λt=>a.tmps.getD t undef) tD (xL (S:=λ_=>True) hs R6);have yI: ∃T:List ο,a.eval fo= .func (.func f) #[] T.toArray/\bN (VR g st.mem (cx.safe g st.mem w) w) (ks.map λk=> .one (.ptr k 0)) T:=by
  rcases hf with hf|⟨hf,e⟩
  obtain ⟨T,e1,h1⟩:=cc hs hf;refine ⟨T,e1,?_⟩;clear ab hn hf e1;induction ks generalizing T with
  |nil=>cases T with|nil=>trivial|cons=>exact h1.elim
  |cons k ks ih=>
   cases T with
   |nil=>exact h1.elim
   |cons p T=>exact ⟨h1.1,ih T h1.2⟩
  subst e;exact ⟨[],cc hs hf,trivial⟩
 obtain ⟨T,yI,Si⟩:=yI;have vA:=qk hs so;have U:bN (VR g st.mem (cx.safe g st.mem w) w) (vs++ks.map λk=> .one (.ptr k 0)) (cl.args.toList.map a.eval++T):=bN.append vA Si;obtain ⟨vals,aa⟩: ∃vals,vals=cl.args.toList.map a.eval++T:=⟨_,rfl⟩;rw [<-aa] at U;have hlen:vals.length=vs.length+ks.length:=by rw [<-U.length];simp
 have CZ:(execOp a.eval o).run cx.P w= .ok (.enter f vals.toArray) w:=by
  have V6:cl.args.map a.eval++T.toArray=(cl.args.toList.map a.eval++T).toArray:=by apply aaU;simp
  have RE:fn.body.isNone=false:=by rw [hb];rfl
  simp only [execOp,ho,resolve,mZ,yI,aaN,Ϙ,ϳ,ϋ,invoke,callFunc,run_program,hfn];simp only [IA,RE,Array.empty_append];simp [aa]
 unfold ab2;rw [CZ];have hnt:=ϓ hn;show abq cx.P f vals.toArray w _;refine adR (R:=λen w'=> ∃v,en= .returned v/\K (a.put o.dst v) w') ?_ λen w' ⟨v,e1,h⟩=>by subst e1;exact h
 refine callsIn_wide.1 (callsIn_of_wp_marks (F:=acH) (n:=0) hfn hb trivial (wpIn_wide.2 ?_));let r:Cx:={cx with N:=fn.ntmps};have Ip:cG r g1 ⟨xK 0 (vs++ks.map λk=> .one (.ptr k 0)),(st.nx,.gh cs (ts.map λt=>a.tmps.getD t undef))::st.mem,st.nx+1⟩ {tmps:=vals.toArray++aaa (fn.ntmps - vals.toArray.size) undef,defers:=[]} w:=by
  refine ⟨.nil,?_,λt v hl=> ?_,I.mem,I.fV,I.iF,I.lt,I.bt,I.own,I.gl⟩;show (vals.toArray++aaa (fn.ntmps - vals.toArray.size) undef).size=fn.ntmps;simp;omega;obtain ⟨_,hv⟩:=zQ hl;rw [ahk] at hv;obtain ⟨u,hu,hv⟩:=U.get t v hv;have Gx:=(ψ.1 hu);have:(vals.toArray++aaa (fn.ntmps - vals.toArray.size) undef).getD t undef=u:=by
   rw [ώ,Array.getElem?_append_left (by simpa using Gx.1)];simp [hu]
  show VR _ _ _ _ _ ((vals.toArray++aaa (fn.ntmps - vals.toArray.size) undef).getD t undef);rw [this];exact VR.stays V5 hv
 have CB:=ab (ts.map λt=>a.tmps.getD t undef) r ⟨rfl,rfl,hO⟩ hF tQ g1 _ w Ip;refine wp_mono CB λe a' w' ⟨st',g0,hq,Vz⟩=> ?_;obtain ⟨he,v,hC,V7⟩:=hq;obtain ⟨g',j⟩:=V7 g0 a' w' Vz;have Ua: ∀(u:ο),∃g2,cG cx g2 (J v) (a.put o.dst u) w':=by
  intro u;have Vy:=hs.size;refine hle _ v g' _ w' ⟨?_,?_,λt x hl=> ?_,j.mem,j.fV,j.iF,j.lt,j.bt,j.own,j.gl⟩;have h0:a.defers=[]:=hs.defers.1 tQ;rw [hd];show yL cx g' _ w' a.defers;rw [h0];exact .nil;rw [hd];simp [abp,Vy];have hlt:d<cx.N:=ϓ DB;rw [hd];rw [bB] at hl;split at hl;injection hl with hl;subst hl;trivial;rename_i iH;have V8:=j.mem gk _ (ZZ _ v);have:=FX (g:=g') (w:=w') (m:=(JJ (ts.map λt=>a.tmps.getD t undef) v).mem) (S:=cx.safe g' (JJ (ts.map λt=>a.tmps.getD t undef) v).mem w') (λt=>a.tmps.getD t undef) V8.2 hl;have e2:(a.put (some d) u).tmps.getD t undef=a.tmps.getD t undef:=by
   have O3: ¬d=t:=λe=>iH e.symm;simp [abp,ώ,ϫ,O3]
  rw [e2];exact this
 have KP:(results fn a'.tmps).run cx.P w'= .ok (.tuple #[]) w':=by
  simp [results,sS]
 have Z0:a'.defers=[]:=j.defers.1 tQ;have fin:LeavesInM acH 0 cx.P fn a'.tmps (λen w'=> ∃v,en= .returned v/\K (a.put o.dst v) w') a'.defers .returning w':=by
  rw [Z0];obtain ⟨g2,DC⟩:=Ua (.tuple #[]);exact ⟨.tuple #[],KP,_,rfl,hK _ _ ⟨J v,g2,hk v hC,DC⟩⟩
 rcases he with rfl|rfl
 exact fin;exact fin
end
end Go.Ide
namespace Go.Ide
def Sj (P:Ξ)(f:aaE)(T e:Ι):Prop:=
 kh P f/\ ∀(b:Nat) (p v:ο) (own:Option Nat) (o s:List UInt8) (w:Ε),(p= .pointer none\/p= .pointer (some ⟨b,0,none⟩))->w.heap[b]? =some (.cells #[p,v] T (0,0))->own≠some b->tu own w e v (kX o)->
  o.length+s.length<=bl->abq P f #[.pointer (some ⟨b,0,none⟩),.string ⟨s.toArray⟩] w λt w'=>(∃u,t= .returned u)/\ ∃r j,w'.heap[b]? =some (.cells #[.pointer (some ⟨b,0,none⟩),r] T (0,0))/\j≠some b/\tu j w' e r (kX (o++s))/\
   (j=own\/ ∀g,j=some g->w.heap.size<=g)/\bJ (b::own.toList) w w'
def Sk (P:Ξ)(f:aaE)(T e:Ι):Prop:=
 kh P f/\ ∀(b:Nat) (p v:ο) (own:Option Nat) (j:List UInt8) (w:Ε),(p= .pointer none\/p= .pointer (some ⟨b,0,none⟩))->w.heap[b]? =some (.cells #[p,v] T (0,0))->own≠some b->tu own w e v (kX j)->
  j≠[]->abq P f #[.pointer (some ⟨b,0,none⟩)] w λo w'=>o= .returned (.string ⟨j.toArray⟩)/\w'.os=w.os/\w'.tape=w.tape/\w'.output=w.output/\w.heap.size<=w'.heap.size/\ ∀i,i<w.heap.size->own≠some i->w'.heap[i]? =w.heap[i]?
section
variable {cx:Cx} {g:GM} {st:St} {a:Act} {w w':Ε} {P:Ξ} {N:Nat} {own:List Nat} {Q:abm->St->Prop} {all os:List Ϥ}
theorem cG.V9 (h:cG cx g st a w){t:Nat}{v:bu}(o:VR g st.mem (cx.safe g st.mem w) w v (a.tmps.getD t undef)):cG cx g ⟨(t,v)::st.fr,st.mem,st.nx⟩ a w:=by
 refine ⟨h.defers,h.size,λq x j=> ?_,h.mem,h.fV,h.iF,h.lt,h.bt,h.own,h.gl⟩;rw [bB] at j;split at j;rename_i e;subst e;injection j with j;subst j;exact o;exact h.fr q x j
theorem RG.Wa {T:Ι}{R U o3:Ϥ}{j o:Tmp}(e:Ι)(hX:gG cx P N own)(h1:R.op= .build T #[])(g1:R.guard=none)(e1:R.dst=some j)(h2:U.op= .alloc T)(g2:U.guard=none)(e2:U.dst=some o)(h3:o3.op= .store T (.tmp o) (.tmp j))(g3:o3.guard=none)(e3:o3.dst=none)(I:((aae j N&&aae o N)&& !(Α j o))=true)(hb:P.built T []=some #[.pointer none,.slice none 0 0])(hz:(P.info? T).bind (·.zero)=some (.agg #[.pointer none,.slice none 0 0]))(nu:(P.info? T).map (·.size)=some 2)(J:mi st.mem [(st.nx,.gone)]=true)(hr:RG cx all os ⟨(o,.one (.ptr st.nx 0))::(j,.dE)::st.fr,(st.nx,.pA T e [])::st.mem,st.nx+1⟩ Q):RG cx all (R::U::o3::os) st Q:=by
 obtain ⟨hP,hN,hO⟩:=hX;subst hP hN;simp only [κ,aaf] at I;have Sh:=ϓ I.1.1;have LG:=ϓ I.1.2;have iH:j≠o:=λe=>by have:=I.2;rw [e] at this;simp at this
 obtain ⟨i,hi,Se⟩: ∃i,cx.P.info? T=some i/\i.zero=some (.agg #[.pointer none,.slice none 0 0]):=by
  cases hx:cx.P.info? T with
  |none=>rw [hx] at hz;cases hz
  |some i=>rw [hx] at hz;exact ⟨i,rfl,hz⟩
 intro g a w hs;have Z1:j<a.tmps.size:=by rw [hs.size];exact Sh
 have QW:o<a.tmps.size:=by rw [hs.size];exact LG
 refine wpList_step λK hK=> ?_;simp only [ϭ,g1,if_true];unfold ab2;rw [show (execOp a.eval R).run cx.P w= .ok (.value (.agg #[.pointer none,.slice none 0 0])) w from by
  have:=run_build (P:=cx.P) w T #[] _ hb;simp [execOp,h1,this]]
 refine hK _ _ ?_;rw [e1];refine wpList_step λK hK=> ?_;simp only [ϭ,g2,if_true];unfold ab2;rw [show (execOp (a.put (some j) (.agg #[.pointer none,.slice none 0 0])).eval U).run cx.P w= .ok (.value (.pointer (some ⟨w.heap.size,0,none⟩))) (w.alloc (.cells #[.pointer none,.slice none 0 0] T)) from by
  simp [execOp,h2,acV,zeroValue,typeInfo,hi,Se,newVar,newRow,abz]]
 refine hK _ _ ?_;rw [e2];refine wpList_step λK hK=> ?_;simp only [ϭ,g3,if_true];unfold ab2;have r:=heap_alloc_new w (.cells #[.pointer none,.slice none 0 0] T);have KR:((a.put (some j) (.agg #[.pointer none,.slice none 0 0])).put (some o) (.pointer (some ⟨w.heap.size,0,none⟩))).eval (.tmp o)= .pointer (some ⟨w.heap.size,0,none⟩):=by
  simp [ad5,abp,ώ,QW]
 have QK:((a.put (some j) (.agg #[.pointer none,.slice none 0 0])).put (some o) (.pointer (some ⟨w.heap.size,0,none⟩))).eval (.tmp j)= .agg #[.pointer none,.slice none 0 0]:=by
  have O3: ¬o=j:=λe=>iH e.symm;simp only [ad5,abp,ώ,ϫ,if_neg O3,if_pos,Array.size_setIfInBounds,Z1,Option.getD_some]
 have tK:=run_storeVar_row (P:=cx.P) (w.alloc (.cells #[.pointer none,.slice none 0 0] T)) w.heap.size T T #[.pointer none,.slice none 0 0] #[.pointer none,.slice none 0 0] r nu rfl (by simp [Value.oneCell']);rw [setRow_self _ _ _ _ _ r] at tK;rw [show (execOp ((a.put (some j) (.agg #[.pointer none,.slice none 0 0])).put (some o) (.pointer (some ⟨w.heap.size,0,none⟩))).eval o3).run cx.P (w.alloc (.cells #[.pointer none,.slice none 0 0] T))= .ok .skip (w.alloc (.cells #[.pointer none,.slice none 0 0] T)) from by
  simp only [execOp,h3,KR,QK,Instr.storeAt,aat,Ϙ,ϳ,ϋ,tK]]
 refine hK _ _ ?_;rw [e3];have J:=fY J (st.nx,.gone) Ϻ;obtain ⟨g',DS,qg,_⟩:=hs.N1 (ch:= .pA T e []) J (ab6 [] w (.cells #[.pointer none,.slice none 0 0] T)) (by simp) (λg' _ _ S' _=>⟨λp h1 h2=>by simp [pC,h1],w.heap.size,.pointer none,.slice none 0 0,rfl,.inl rfl,r,rfl,rfl⟩);have DC:=(qg.put (v:= .dE) (val:= .agg #[.pointer none,.slice none 0 0]) trivial (some j) λt e=>by cases e;exact Sh);have LB:=(DC.put (v:= .one (.ptr st.nx 0)) (val:= .pointer (some ⟨w.heap.size,0,none⟩)) ⟨by simp [St.put,St.iT,bB],w.heap.size,by show g'.f st.nx []=_;rw [DS];rfl,rfl⟩ (some o) λt e=>by cases e;exact LG);exact hr g' _ _ LB
theorem RG.Sl {T e:Ι}{o:Ϥ}{cl:Call}{fo y:aah}{f:aaE}{d t k:Nat}{xs s:List UInt8}(hX:gG cx P N own)(ho:o.op= .call cl)(hg:o.guard=none)(hd:o.dst=some d)(ab:(aae d N&& !(Α d t))=true)(mZ:cl.callee= .value fo/\cl.args= #[.tmp t,y])(hf:ev st.fr fo=some (.one (.fn f)))(hW:Sj P f T e)(hx:lk t st.fr=some (.one (.ptr k 0)))(hl:lk k st.mem=some (.pA T e xs))(hy:ev st.fr y=some (.one (.bp .str s)))(xy:c8 k own=false)(ad:mi st.mem [(st.nx,.gone)]=true)(hlen:ζ xs+ζ s<=bl)(hr:RG cx all os ⟨(t,.one (.ptr st.nx 0))::(d,.dE)::st.fr,(k,.gone)::(st.nx,.pA T e (xs++s))::st.mem,st.nx+1⟩ Q):RG cx all (o::os) st Q:=by
 obtain ⟨hP,hN,hO⟩:=hX;subst hP hN;simp only [κ,aaf] at ab;have LG:=ϓ ab.1;have OD:d≠t:=λe=>by have:=ab.2;rw [e] at this;simp at this
 obtain ⟨⟨fn,c1,c2,c3⟩,hW⟩:=hW;intro g a w hs;obtain ⟨Z2,b,R,ex⟩:CR g st.mem (cx.safe g st.mem w) w (.ptr k 0) (a.tmps.getD t undef):=hs.fr t _ hx;obtain ⟨Ou,I,p,v,U,hp,hb,AW⟩:=hs.mem k _ hl;have:I=b:=by rw [show g.f k []=some b from R] at U;injection U with h;exact h.symm
 subst this;have Z3:a.eval y= .string ⟨s.toArray⟩:=lj (g:=g) (m:=st.mem) (S:=cx.safe g st.mem w) (w:=w) (cc hs hy);have yI:a.eval fo= .func (.func f) #[] #[]:=cc hs hf;have O4:g.f k [0]≠some I:=λe=>by have:=(hs.fV k k [] [0] _ _ I hl trivial hl trivial R e).2;cases this
 refine wpList_step λK hK=> ?_;simp only [ϭ,hg,if_true];unfold ab2;have vA:cl.args.map a.eval= #[.pointer (some ⟨I,0,none⟩),.string ⟨s.toArray⟩]:=by
  rw [mZ.2,<-Z3,<-ex];simp [ad5]
 have CZ:(execOp a.eval o).run cx.P w= .ok (.enter f #[.pointer (some ⟨I,0,none⟩),.string ⟨s.toArray⟩]) w:=by
  simp only [execOp,ho,resolve,mZ.1,yI,aaN,Ϙ,ϳ,ϋ,invoke,callFunc,run_program,c1,vA];simp only [c2,c3];simp
 rw [CZ];show abq cx.P f _ w _;refine adR (hW I p v (g.f k [0]) xs s w hp hb O4 AW hlen) ?_;rintro en w' ⟨⟨u,rfl⟩,v',r,qK,aa,J,Sm,oo⟩;refine hK _ _ ?_;rw [hd];have ad:=fY ad (st.nx,.gone) Ϻ;have Nd: ∀q,q∈I::(g.f k [0]).toList-> ∃p,g.f k p=some q:=λq j=>by
  rcases ϒ.1 j with rfl|j
  exact ⟨[],R⟩;exact ⟨[0],by rw [ae4] at j;exact j⟩
 have oY:I<w.heap.size:=hs.lt k [] _ I hl trivial R;have FB: ∀q,r=some q->q<w'.heap.size:=λq j=>by
  rw [j] at J;obtain ⟨_,_,_,h,_⟩:=J;exact (Ϣ.1 h).1
 have Z4: ∀q,r=some q->w.heap.size<=q\/q∈I::(g.f k [0]).toList:=λq j=>by
  rcases Sm with h|h
  exact .inr (ϛ _ (by rw [ae4,<-h];exact j));exact .inl (h q j)
 obtain ⟨g',DS,qg⟩:=hs.newAt (w':=w') ad (up:=[(k,.gone)]) (G:=I::(g.f k [0]).toList) (γ:=λp=>if p=[] then some I else if p=[0] then r else none) (ch:= .pA T e (xs++s))
  (by intro p hp;simp at hp;subst hp;exact ⟨rfl,by rw [hl];simp⟩) oo
  (λq j=>let ⟨p,hp⟩:=Nd q j;⟨k,p,_,by simp [bB],hl,trivial,hp⟩)
  (λp q j=>by
   have j:(if p=[] then some I else if p=[0] then r else none)=some q:=j;split at j;injection j with j;subst j;exact ⟨ϖ oY oo.size,.inr Ϻ⟩;split at j;exact ⟨FB q j,Z4 q j⟩;cases j)
  (λp q b hp j=>by
   have hp:(if p=[] then some I else if p=[0] then r else none)=some b:=hp;have j:(if q=[] then some I else if q=[0] then r else none)=some b:=j;by_cases e1:p=[];by_cases e2:q=[];rw [e1,e2];rw [if_pos e1] at hp;rw [if_neg e2] at j;split at j;exact absurd (j.trans hp.symm) aa;cases j;rw [if_neg e1] at hp;by_cases e2:q=[];rw [if_pos e2] at j;split at hp;exact absurd (hp.trans j.symm) aa;cases hp;rw [if_neg e2] at j;split at hp;split at j;rename_i h1 h2;rw [h1,h2];cases j;cases hp)
  (λg' m' S' _=>⟨λp h1 h2=>by simp [h1,h2],I,.pointer (some ⟨I,0,none⟩),v',rfl,.inr rfl,qK,J⟩)
 have DC:=qg.put (v:= .dE) (val:=u) trivial (some d) λq e=>by cases e;exact LG
 have e2:(a.put (some d) u).tmps.getD t undef= .pointer (some ⟨I,0,none⟩):=by
  rw [<-ex];simp [abp,ώ,ϫ,OD]
 have LB:=DC.V9 (t:=t) (v:= .one (.ptr st.nx 0)) (by
  rw [e2];refine ⟨?_,I,by show g'.f st.nx []=_;rw [DS];rfl,rfl⟩;show lk st.nx ((k,.gone)::(st.nx,.pA T e (xs++s))::st.mem)≠none;rw [bB];split;simp;rw [bB,if_pos rfl];simp)
 exact hr g' _ _ LB
theorem RG.O5 {T e:Ι}{o:Ϥ}{cl:Call}{fo:aah}{f:aaE}{d t k:Nat}{xs:List UInt8}(hX:gG cx P N [])(hF:cx.HP)(ho:o.op= .call cl)(hg:o.guard=none)(hd:o.dst=some d)(DB:aae d N=true)(mZ:cl.callee= .value fo/\cl.args= #[.tmp t])(hf:ev st.fr fo=some (.one (.fn f)))(hB:Sk P f T e)(hx:lk t st.fr=some (.one (.ptr k 0)))(hl:lk k st.mem=some (.pA T e xs))(iH:xs≠[])(hr:RG cx all os ⟨(d,.one (.bp .str xs))::st.fr,(k,.gone)::st.mem,st.nx⟩ Q):RG cx all (o::os) st Q:=by
 obtain ⟨hP,hN,hO⟩:=hX;subst hP hN;have xy:cx.own=[]:=by simpa using hO
 have QM: ∀b,b ∉ cx.F:=λb U=>by
  obtain ⟨p,hp,_⟩:=hF b U;rw [xy] at hp;simp at hp
 have LG:=ϓ DB;obtain ⟨⟨fn,c1,c2,c3⟩,hB⟩:=hB;intro g a w I;obtain ⟨Z2,b,B6,ex⟩:CR g st.mem (cx.safe g st.mem w) w (.ptr k 0) (a.tmps.getD t undef):=I.fr t _ hx;obtain ⟨Ou,b',p,v,Sn,hp,U,AW⟩:=I.mem k _ hl;have:b'=b:=by rw [show g.f k []=some b from B6] at Sn;injection Sn with h;exact h.symm
 subst this;have yI:a.eval fo= .func (.func f) #[] #[]:=cc I hf;have O4:g.f k [0]≠some b':=λe=>by have:=(I.fV k k [] [0] _ _ b' hl trivial hl trivial B6 e).2;cases this
 refine wpList_step λK hK=> ?_;simp only [ϭ,hg,if_true];unfold ab2;have vA:cl.args.map a.eval= #[.pointer (some ⟨b',0,none⟩)]:=by
  rw [mZ.2,<-ex];simp [ad5]
 have CZ:(execOp a.eval o).run cx.P w= .ok (.enter f #[.pointer (some ⟨b',0,none⟩)]) w:=by
  simp only [execOp,ho,resolve,mZ.1,yI,aaN,Ϙ,ϳ,ϋ,invoke,callFunc,run_program,c1,vA];simp only [c2,c3];simp
 rw [CZ];show abq cx.P f _ w _;refine adR (hB b' p v (g.f k [0]) xs w hp U O4 AW iH) ?_;rintro en w' ⟨rfl,k1,k2,k3,k4,k5⟩;refine hK _ _ ?_;rw [hd];have J: ∀c j,lk c ((k,.gone)::st.mem)=some j->j≠ .gone->c≠k/\lk c st.mem=some j:=λc j h h'=>by
  rw [bB] at h;split at h;injection h with h;exact absurd h.symm h';exact ⟨by assumption,h⟩
 have Nj: ∀c j q b,lk c ((k,.gone)::st.mem)=some j->j.owns q->g.f c q=some b->w'.heap[b]? =w.heap[b]? :=λc j q b h R h2=>by
  obtain ⟨e1,e2⟩:=J c j h (adg R);exact k5 b (I.lt c q j b e2 R h2) λe3=>e1 (I.fV c k q [0] j _ b e2 R hl trivial h2 e3).1
 have nK: ∀b,cx.safe g st.mem w b->cx.safe g ((k,.gone)::st.mem) w' b/\w'.heap[b]? =w.heap[b]? :=λb ⟨R,h2,h3⟩=>
  ⟨⟨ϖ R k4,h2,λ⟨c,q,j,q1,q2,q3⟩=>h3 ⟨c,q,j,(J c j q1 (adg q2)).2,q2,q3⟩⟩,k5 b R λe=>h3 ⟨k,[0],_,hl,trivial,e⟩⟩
 have QS: ∀c t xs,du ((k,.gone)::st.mem) c t xs-> ∃j,lk c ((k,.gone)::st.mem)=some j/\j.owns []/\du st.mem c t xs:=λc t xs h=>by
  rcases h with h|⟨i,cs,ks,h⟩
  exact ⟨_,h,trivial,.inl (J c _ h (λe=>by cases e)).2⟩;exact ⟨_,h,(λo r e=>by cases e),.inr ⟨i,cs,ks,(J c _ h (λe=>by cases e)).2⟩⟩
 have tK:iG g g st.mem ((k,.gone)::st.mem) (cx.safe g st.mem w) (cx.safe g ((k,.gone)::st.mem) w') w w':=by
  refine ⟨⟨nK,λc hc=>⟨by rw [bB];split<;>simp_all,rfl⟩,λc t xs hc h=>⟨xs,(QS c t xs h).choose_spec.2.2,rfl⟩,λc t xs b arr hc h hg U=> ?_⟩,λ_ _=>rfl,λc t xs hc h=>⟨xs,(J c _ h (λe=>by cases e)).2,cy.refl _ _,λi o b arr hg U=>⟨arr,U.bt (Nj c _ [i,o] b h trivial hg),rfl⟩⟩⟩;obtain ⟨j,R,h2,_⟩:=QS c t xs h;exact ⟨arr,U.bt (Nj c j [] b R h2 hg),rfl⟩
 have QL: ∀b,g.f k [0]=some b->cx.w0.heap.size<=b:=λb U=>(I.iF k [0] _ b hl trivial U).elim id λh=>absurd h (QM b);have qg:cG cx g ⟨st.fr,(k,.gone)::st.mem,st.nx⟩ a w':=by
  refine ⟨I.defers.bt nK,I.size,λt v hl=>VR.stays tK (I.fr t v hl),λc j h=> ?_,λc c' q q' j pq b R h2 h3 h4 h5 h6=>I.fV c c' q q' j pq b (J c j R (adg h2)).2 h2 (J c' pq h3 (adg h4)).2 h4 h5 h6,
   λc q j b R h2 h3=>I.iF c q j b (J c j R (adg h2)).2 h2 h3,λc q j b R h2 h3=>ϖ (I.lt c q j b (J c j R (adg h2)).2 h2 h3) k4,?_,λp hp=>by rw [xy] at hp;simp at hp,I.gl⟩
  by_cases e:j= .gone;subst e;trivial;exact jc.stays tK (λq b hq hg=>Nj c j q b h hq hg) (I.mem c j (J c j h e).2);refine ⟨k1.trans I.bt.os,k2.trans I.bt.tape,k3.trans I.bt.output,ϣ I.bt.size k4,λb U hf=> ?_,λb arr U=> ?_⟩;rw [k5 b (ϖ U I.bt.size) (λe=>by have:=QL b e;omega)];exact I.bt.block b U hf;obtain ⟨arr1,R,e1⟩:=I.bt.sz b arr U;exact ⟨arr1,R.bt (k5 b R.lt (λe=>by have:=QL b e;have:=U.lt;omega)),e1⟩
 exact hr g _ _ (qg.put (v:= .one (.bp .str xs)) (val:= .string ⟨xs.toArray⟩) rfl (some d) λq e=>by cases e;exact LG)
end
section
variable {P:Ξ} {w:Ε}
theorem pa {b:Nat}{T:Ι}: ∀(vs:List ο) (o i:Nat) (w:Ε) (arr:Array ο),w.heap[b]? =some (.cells arr T (0,0))->o+i+vs.length<=arr.size->(∀v∈vs,v.oneCell'=true)->
 ∃w' j,(storeCells ⟨b,o,none⟩ vs i).run P w= .ok () w'/\w'.heap[b]? =some (.cells j T (0,0))/\j.toList=arr.toList.take (o+i)++vs++arr.toList.drop (o+i+vs.length)/\bJ [b] w w'/\w'.heap.size=w.heap.size
 |[],o,i,w,arr,I,_,_=>⟨w,arr,rfl,I,by simp,acL _ _,rfl⟩
 |v::vs,o,i,w,arr,I,J,h1=>by
  simp only [Ζ] at J;have r:dm w b arr:=⟨T,0,0,I,.inl rfl⟩;have p:o+i<arr.size:=by omega
  have R:(store ((⟨b,o,none⟩:Addr).add i) v).run P w= .ok () (w.setCell ⟨b,o+i,none⟩ v):=by
   rw [ca,run_store P w _ v _ (h1 v (by simp)),r.cell,aak p];have hf:=r.NU p;simp [hf]
  have U:(w.setCell ⟨b,o+i,none⟩ v).heap[b]? =some (.cells (arr.setIfInBounds (o+i) v) T (0,0)):=by simp [World.setCell,Array.getElem?_modify,I]
  obtain ⟨w',j,e,k1,k2,k3,k4⟩:=pa vs o (i+1) (w.setCell ⟨b,o+i,none⟩ v) _ U (by simp;omega) (λx hx=>h1 x (by simp [hx]));refine ⟨w',j,?_,k1,?_,bJ.trans (bJ.setCell w ⟨b,o+i,none⟩ v) k3,by rw [k4];simp⟩;simp only [storeCells,Ϙ,R,ϋ,e];have t:o+i<arr.toList.length:=by simpa using p
  rw [k2];simp only [Array.toList_setIfInBounds,Ζ];rw [List.drop_set_of_lt (by omega),show o+(i+1)=o+i+1 from by omega,List.take_set,List.take_succ_eq_append_getElem t,List.set_append_right _ _ (by simp;omega)];simp [show o+i+1+vs.length=o+i+(vs.length+1) from by omega,aav (Nat.le_of_lt p)]
theorem iL (xs:List UInt8):(kX xs).length=xs.length:=by simp [kX]
theorem qx (xs:List UInt8):(cM xs).map (Value.int .u8)=kX xs:=by simp [cM,kX,aeb,Function.comp_def]
theorem vC (xs ys:List UInt8):kX (xs++ys)=kX xs++kX ys:=by simp [kX]
theorem EA {t u ty e:Ι}{i:adh}(ht:P.underlying t=some (.slice e))(hu:P.underlying u=some .string)(hi:P.info? e=some i)(hz:i.zero=some (.int .u8 0))(J:i.size=1)(BU:i.bytes=1){own:Option Nat}{v:ο}{xs s:List UInt8}(h:tu own w e v (kX xs))(hl:xs.length+s.length<=bl):
 ∃r o w',(Ϛ #[t,u] ty #[v,.string ⟨s.toArray⟩]).run P w= .ok r w'/\tu o w' e r (kX (xs++s))/\(o=own\/o=some w.heap.size)/\bJ own.toList w w':=by
 unfold bl at hl;have grow: ∀(base:Option Addr) (cap:Nat),(xs.length=0\/ ∃ad,base=some ad/\ ∀j v,(kX xs)[j]? =some v->w.cell? (ad.add j)=some v)->cap<xs.length+s.length->
  ∃r o w',(Ϛ #[t,u] ty #[.slice base xs.length cap,.string ⟨s.toArray⟩]).run P w= .ok r w'/\tu o w' e r (kX (xs++s))/\o=some w.heap.size/\bJ [] w w':=by
  intro base cap ho hlt;have vZ:=grownCap_ge w (xs.length+s.length) cap e;have H0:=grownCap_le_maxLen w (xs.length+s.length) cap e (by unfold maxLen;omega);have hr:=sB (P:=P) (w:=w) (ty:=ty) ht hu hi hz (base:=base) (n:=xs.length) (cap:=cap) (olds:=kX xs) (by rw [iL,J,adn]) ho hlt (by rw [BU];omega) (by omega);rw [qx] at hr;refine ⟨_,some w.heap.size,_,hr,⟨grownCap w (xs.length+s.length) cap e,(kX xs).toArray++(kX s).toArray++Ϧ (Value.int .u8 0).cells (grownCap w (xs.length+s.length) cap e - (xs.length+s.length)),?_,heap_alloc_new w.drew _,?_,H0,?_,?_⟩,rfl,(bJ.drew [] w).trans (ab6 _ _ _)⟩;rw [iL,ω];rw [iL,ω];exact vZ;simp only [Array.size_append,List.size_toArray,size_zeroCells,iL,abz];simp;omega;simp only [Array.toList_append];rw [vC,ab1 (by simp [iL])];exact aaw (by simp [iL])
 cases own with
 |none=>
  obtain ⟨T,hx⟩:=h;have Rj:xs=[]:=by cases xs with|nil=>rfl|cons=>simp [kX] at hx
  subst Rj T;cases s with
  |nil=>exact ⟨_,none,w,sC (P:=P) ht hu hi,⟨rfl,rfl⟩,.inl rfl,acL _ _⟩
  |cons c s=>
   obtain ⟨r,o,w',h1,h2,h3,I⟩:=grow none 0 (.inl rfl) (by simp);exact ⟨r,o,w',h1,h2,.inr h3,I⟩
 |some g=>
  obtain ⟨cap,U,T,hg,hn,hm,hcs,R⟩:=h;subst T;rw [iL] at hn R⊢;have QX:dm w g U:=⟨e,0,0,hg,.inl rfl⟩;by_cases p:xs.length+s.length<=cap;have hf:=nU (P:=P) (w:=w) (y:=s) (n:=s.length) rfl i.size;rw [J] at hf;have Z5:(⟨s.toArray⟩:ByteArray).size=s.length:=by simp [ByteArray.size]
  obtain ⟨w',aa,e1,k1,k2,k3,k4⟩:=pa (P:=P) ((cM s).map (Value.int .u8)) xs.length 0 w U hg (by rw [qx,iL];omega) (λv T=>by
   obtain ⟨x,_,rfl⟩:=ϟ.1 T;rfl)
  refine ⟨.slice (some ⟨g,0,none⟩) (xs.length+s.length) cap,some g,w',?_,⟨cap,aa,by rw [iL,ω],k1,by rw [iL,ω];exact p,hm,?_,?_⟩,.inl rfl,k3⟩;have ab: ¬cap<xs.length+s.length:=by omega
  simp [Ϛ,run_underlying ht,run_underlying hu,sizeOf,typeInfo,hi,Builtin.lenOf,Z5,hf,p,J,ca,e1];rw [<-Ψ,k2,qx];simp only [ω,ϙ,aab,iL,Ψ];omega;rw [k2,qx,ϧ,vC,R];rw [show (kX xs++kX s).length=(kX xs++kX s).length+0 from rfl,ό,<-ό,ab1 (by simp)];exact aaw (by simp);obtain ⟨r,o,w',h1,h2,h3,I⟩:=grow (some ⟨g,0,none⟩) cap (.inr ⟨_,rfl,λj v hj=>by
   rw [ca,QX.cell,Υ,<-ϥ];rw [<-R,List.getElem?_take] at hj;split at hj;exact hj;cases hj⟩) (by omega)
  exact ⟨r,o,w',h1,h2,.inr h3,⟨I.os,I.tape,I.output,I.size,λb hb _=>I.block b hb (by simp),I.sz⟩⟩
theorem uf {ops:Array Ϥ}{rest:List Ϥ}{o:Ϥ}{a:Act}{w':Ε}{v p:ο}{s:ByteArray}{Q:abm->Act->Ε->Prop}(j:o.guard=none)(sl x:aah)(t u:Ι)(r:o.op= .call {callee:= .builtin .append,args:= #[sl,x],argTypes:= #[t,u]})(I:a.eval sl=v)(J:a.eval x= .string s)(R:(Ϛ #[t,u] o.type #[v,.string s]).run P w= .ok p w')(h:wpList P ops Q rest (a.put o.dst p) w'):wpList P ops Q (o::rest) a w:=by
 refine wpList_plain j λK T=> ?_;unfold ab2 execOp;simp only [r,resolve,invoke,builtin,Ϙ,ϳ,ϋ,List.map_toArray,ϱ,List.map_nil,I,J,R];exact T _ _ h
theorem tb {ops:Array Ϥ}{rest:List Ϥ}{o:Ϥ}{a:Act}{Q:abm->Act->Ε->Prop}(r:o.guard=none)(sl x:aah)(t u:Ι)(R:o.op= .call {callee:= .builtin .append,args:= #[sl,x],argTypes:= #[t,u]}){e:Ι}{i:adh}(ht:P.underlying t=some (.slice e))(T:P.underlying u=some .string)(U:P.info? e=some i)(hz:i.zero=some (.int .u8 0))(I:i.size=1)(J:i.bytes=1){own:Option Nat}{v:ο}{xs s:List UInt8}(h:tu own w e v (kX xs))(hl:xs.length+s.length<=bl)(hs:a.eval sl=v)(hx:a.eval x= .string ⟨s.toArray⟩)(hk: ∀p j w',tu j w' e p (kX (xs++s))->(j=own\/j=some w.heap.size)->bJ own.toList w w'->wpList P ops Q rest (a.put o.dst p) w'):wpList P ops Q (o::rest) a w:=by
 obtain ⟨p,j,w',h1,h2,h3,h4⟩:=EA (ty:=o.type) ht T U hz I J h hl;exact uf r sl x t u R hs hx h1 (hk p j w' h2 h3 h4)
end
end Go.Ide
namespace Go.Ide
def Sp:Option (St×List Prop)->St
 |some p=>p.1
 |none=>⟨[],[],0⟩
def Sq:Option (St×List Prop)->Option (List Prop)
 |some p=>some p.2
 |none=>none
theorem wk {o:Option (St×List Prop)}{cs:List Prop}(h:Sq o=some cs):o=some (Sp o,cs):=by
 cases o with
 |none=>cases h
 |some p=>injection h with h;subst h;rfl
def C0:List Ϥ->List OH->List OH
 |[],_=>[]
 |_::os,[]=>⟨none,.no⟩::C0 os []
 |_::os,r::rs=>r::C0 os rs
def nO (n:Nat)(rs:List OH):List OH:=π n ⟨none,.no⟩++rs
abbrev kT:OH:=⟨some true,.no⟩
abbrev kF:OH:=⟨some false,.no⟩
abbrev hT (t:Ty):OH:=⟨none,.ty t⟩
def Arg.md:Arg->Mode
 | .bP t _=> .bP t
 | .fW t _=> .fW t
 | .own t _=> .own t
 | .mv t _=> .mv t
 | .fn _=> .fn
 | .jb _ t _=> .jb t
 | .nl=> .nl
def cl {P:Ξ}{f:aaE}{args:List Arg}{rs:List RV}{outs:List TD}(_:CallOK P f args rs outs):OH:=⟨none,.call (args.map Arg.md) rs outs⟩
def up (ks:List Nat)(f:Fr)(ms:List Nat)(m:Mem)(n:Nat)(st:St):St:=⟨f++(st.bt ks).fr,m++zN st.mem ms,st.nx+n⟩
def Yg:bs->bs->List (Nat×Nat)×List Nat
 | .ptr k _,.ptr j _=>([(k,j)],[])
 | .cZ k _ _ _,.cZ j _ _ _=>([(k,j)],[])
 | .all k,.all j=>([(k,j)],[])
 | .ref k _ _,.ref j _ _=>([(k,j)],[])
 | .ref k _ _,.all j=>([(k,j)],[])
 | .fK k,.fK j=>([(k,j)],[])
 | .cls _ p,.cls _ o=>(p.zip o,[])
 | .br,.all j=>([],[j])
 |_,_=>([],[])
def Hb:List bs->List bs->List (Nat×Nat)×List Nat
 |c::r,j::o=>((Yg c j).1++(Hb r o).1,(Yg c j).2++(Hb r o).2)
 |_,_=>([],[])
def LI:bu->List bs
 | .one c=>[c]
 | .agg cs=>cs
 |_=>[]
def LJ:Chunk->List bs
 | .box cs=>cs
 | .gh cs _=>cs
 |_=>[]
def Uj (fr:Fr):Fr->List (Nat×Nat)×List Nat
 |[]=>([],[])
 |(t,j)::r=>(match lk t fr with
  |some v=>((Hb (LI v) (LI j)).1++(Uj fr r).1,(Hb (LI v) (LI j)).2++(Uj fr r).2)
  |none=>Uj fr r)
def Yh (p:Nat×Nat):List (Nat×Nat)->Bool
 |[]=>false
 |q::r=>(Α p.1 q.1&&Α p.2 q.2)||Yh p r
def LK (m m':Mem):Nat->List (Nat×Nat)->List (Nat×Nat)->List Nat->List (Nat×Nat)×List Nat
 |0,_,done,j=>(done,j)
 |_+1,[],done,j=>(done,j)
 |n+1,p::todo,done,j=>bif Yh p done then LK m m' n todo done j else (match lk p.1 m,lk p.2 m' with
  |some c,some o=>LK m m' n ((Hb (LJ c) (LJ o)).1++todo) (p::done) ((Hb (LJ c) (LJ o)).2++j)
  |_,_=>LK m m' n todo (p::done) j)
def Uk (m:Mem):Mem->List (Nat×Nat)
 |[]=>[]
 |(k,.gh _ _)::r=>(match lk k m with
  |some (.gh _ _)=>(k,k)::Uk m r
  |_=>Uk m r)
 |_::r=>Uk m r
def Sr (own:List Nat)(st st':St):su:=
 let p:=Uj st.fr st'.fr;let q:=LK st.mem st'.mem 1000 (own.map (λk=>(k,k))++(Uk st.mem st'.mem++p.1)) [] p.2
 ⟨q.1,q.2,[],false⟩
def St.NA (own:List Nat)(st st':St):Option St:=st.re (Sr own st st') own st'
def LL (own:List Nat)(st':St):Option (St×List Prop)->Option (St×List Prop)
 |some (st1,cs)=>(match st1.NA own st' with
  |some j=>some (j,cs)
  |none=>none)
 |none=>none
theorem zR {own:List Nat}{st':St}{o:Option (St×List Prop)}{cs:List Prop}(h:LL own st' o=some (st',cs)): ∃st1,o=some (st1,cs)/\st1.NA own st'=some st':=by
 unfold LL at h;split at h;rename_i st1 j;split at h;rename_i p r;injection h with h;injection h with t I;subst t I;exact ⟨_,rfl,r⟩;cases h;cases h
def Ss (ops:List Ϥ):List Nat:=ops.foldl (λD o=>D++[(fJ o).foldl (λa d=>a|||(2^d|||D.getD d 0)) 0]) []
def Su (n m:Nat):List Nat:=(abh n).filter λi=>Α ((m>>>i)%2) 1
def Ja:List Nat->Nat->Nat
 |[],n=>n
 |_::_,0=>0
 |m::r,n+1=>bif Α m (2^n - 1) then Ja r n else n+1
def Wc (ops:List Ϥ):List (List Nat):=(Ss ops).map (Su ops.length)
def NB:List OH->List (List Nat)->List HR
 |r::rs,d::j=>⟨r,d⟩::NB rs j
 |_,_=>[]
def Sv (P:Ξ)(N:Nat)(ops:List Ϥ)(h:Nat)(D:List (List Nat))(rs:List OH)(st:St):Option (St×List Prop):=CQ P N ops h (NB (rs.take h) D) (D.drop h) (rs.drop h) st
def Jb (P:Ξ)(N:Nat)(ops:List Ϥ)(rs:List OH)(st:St):Option (St×List Prop):=Sv P N ops (Ja (Ss ops).reverse ops.length) (Wc ops) (C0 ops rs) st
def Sw (P:Ξ)(fn:Func)(args:List Arg)(ts:List (Bool×Ty))(st:St):Option (List RV×List TD×List Prop):=
 match Cv P st.mem st.fr fn.results.toList with
 |some p=>(match Ea st.mem ts p with
  |some (rs,o)=>bif jX o&&o.all (λk=> !(D9 k (fZ args 0))) then (match jf st.mem args 0 with
   |some (j,cs)=>some (rs,j,cs)
   |none=>none) else none
  |none=>none)
 |none=>none
theorem bY {P:Ξ}{fn:Func}{args:List Arg}{ts:List (Bool×Ty)}{st:St}{rs:List RV}{outs:List TD}{cs:List Prop}(I:bU cs)(j:Sw P fn args ts st=some (rs,outs,cs):=by kernel_rfl):Cw P fn args ts rs outs st:=by
 unfold Sw at j;split at j;rename_i J R;split at j;rename_i T p U;cases o:(jX p&&p.all (λk=> !(D9 k (fZ args 0)))) with
 |false=>rw [o] at j;cases j
 |true=>
  rw [o] at j;simp only [cond_true] at j;simp only [κ] at o;split at j;rename_i r aa ho;injection j with j;injection j with e1 t;injection t with t e3;subst e1 t e3;exact ⟨J,p,_,R,U,o.1,o.2,ho,I⟩;cases j
 cases j;cases j
def O6 (rs:List RV):List (Bool×Ty):=rs.map λr=>(r.fresh,r.t)
theorem dn {P:Ξ}{f:aaE}{fn:Func}{c:Code}{args:List Arg}{rs:List RV}{outs:List TD}(o:P.funcs[f]? =some fn)(p:fn.body=some c)(h: ∀cx:Cx,gG cx P fn.ntmps (fZ args 0)->cx.HP->HT cx (tn args) c (Iw P fn args (O6 rs) rs outs))(j:(fn.name=="runtime.NumGoroutine")=false:=by kernel_rfl)(r:ϩ args.length fn.ntmps=true:=by kernel_rfl)(t:Cd args=true:=by kernel_rfl):CallOK P f args rs outs:=
 aeK o p j (ϓ r) λcx I J R T=>h cx ⟨I,J,R⟩ (T t)
theorem Sx {P:Ξ}{f:aaE}{fn:Func}{c:Code}{args:List Arg}{rs:List RV}{outs:List TD}(o:P.funcs[f]? =some fn)(p:fn.body=some c)(h: ∀cx:Cx,gG cx P fn.ntmps (fZ args 0)->HT cx (tn args) c (Iw P fn args (O6 rs) rs outs))(j:(fn.name=="runtime.NumGoroutine")=false:=by kernel_rfl)(r:ϩ args.length fn.ntmps=true:=by kernel_rfl):CallOK P f args rs outs:=
 aeK o p j (ϓ r) λcx t I J _=>h cx ⟨t,I,J⟩
theorem Ul {P:Ξ}{f:aaE}{fn:Func}{c:Code}{args:List Arg}{rs:List RV}{outs:List TD}(p:Bool)(r:P.funcs[f]? =some fn)(t:fn.body=some c)(h: ∀cx:Cx,gG cx P fn.ntmps (fZ args 0)->cx.HP->cx.nd=p->HT cx (tn args) c (Iw P fn args (O6 rs) rs outs))(j:(fn.name=="runtime.NumGoroutine")=false:=by kernel_rfl)(I:ϩ args.length fn.ntmps=true:=by kernel_rfl)(J:Cd args=true:=by kernel_rfl):CallOK P f args rs outs:=
 CallOK.CA r t j (ϓ I) p λcx R T U hF o=>h cx ⟨R,T,U⟩ (hF J) o
theorem LM {n:Int}(h:(0:Int)<=n/\n<=4294967296):(0:Int)<=n/\n<=n/\n<=4294967296:=⟨h.1,Ϭ _,h.2⟩
theorem Sy {h l:Int}(x:(0:Int)<=h/\h<=l):(0:Int)<=0/\(0:Int)<=h/\h<=l:=⟨Ϭ _,x.1,x.2⟩
theorem Sz {l n:Int}(x:(0:Int)<=l/\l<=n):(0:Int)<=l/\l<=n/\n<=n:=⟨x.1,x.2,Ϭ _⟩
section
variable {G:Prop} {α β:Type}
theorem bo {o:Option α}{k:α->Option β}{r:β}(h:o.bind k=some r)(f: ∀y,o=some y->k y=some r->G):G:=by
 obtain ⟨y,j,p⟩:=rX h;exact f y j p
theorem bc {o:Option α}{k:α->Option β}{r:β}{C:α->Prop}(h:o.bind k=some r)(c: ∀{y},o=some y->C y)(f: ∀y,C y->k y=some r->G):G:=by
 obtain ⟨y,j,p⟩:=rX h;exact f y (c j) p
theorem bg {p:Prop}[Decidable p]{k:Option β}{r:β}(h:aY p k=some r)(f:p->k=some r->G):G:=by
 obtain ⟨j,o⟩:=iK h;exact f j o
theorem bq {e:α}{k:α->Option β}{r:β}(h:(some e).bind k=some r)(f:k e=some r->G):G:=f h
theorem bb {b:Bool}{x y:Option β}{r:β}(h:(bif b then x else y)=some r)(f:b=true->x=some r->G)(g:b=false->y=some r->G):G:=by
 rcases IL h with ⟨j,o⟩|⟨j,o⟩
 exact f j o;exact g j o
theorem nn {r:β}(h:(none:Option β)=some r):G:=by cases h
theorem jO {e:Option β}{w:α⊕β}{K:α⊕β->Option β}{r:β}(j:K w=some r)(o: ∀z,K (.inr z)=some z)(h:sw e=some w):e=some r:=by
 obtain ⟨z,p,t⟩:=ON h;subst t;rw [p,<-o,j]
end
theorem bD {p:Prop}(h:p):bU [p]:=⟨h,trivial⟩
theorem dd {p q:Prop}(j:p)(o:q):bU [p,q]:=⟨j,o,trivial⟩
theorem kQ {p q r:Prop}(j:p)(o:q)(t:r):bU [p,q,r]:=⟨j,o,t,trivial⟩
theorem nB {p q r s:Prop}(j:p)(o:q)(t:r)(I:s):bU [p,q,r,s]:=⟨j,o,t,I,trivial⟩
theorem iE {p q r s:Prop}{l:List Prop}(j:p)(o:q)(t:r)(I:s)(h:bU l):bU (p::q::r::s::l):=⟨j,o,t,I,h⟩
section
variable {cx:Cx} {st st':St} {P:Ξ} {N:Nat} {own:List Nat} {Q:abm->St->Prop} {x y z c:Code} {id:Nat} {ops:List Ϥ} {cs:List Prop}
theorem HT.g (j:gG cx P N own)(rs:List OH)(o:bU cs)(p:HT cx (Sp (pt P N ops ops (C0 ops rs) st)) y Q)(r:Sq (pt P N ops ops (C0 ops rs) st)=some cs:=by kernel_rfl):HT cx st (.seq (.region id ops.toArray false) y) Q:=υ (HT.Ud j.P j.N (wk r) o p)
theorem HT.l (j:gG cx P N own)(rs:List OH)(o:bU cs)(p:Q .normal (Sp (pt P N ops ops (C0 ops rs) st)))(r:Sq (pt P N ops ops (C0 ops rs) st)=some cs:=by kernel_rfl):HT cx st (.region id ops.toArray false) Q:=HT.Ud j.P j.N (wk r) o p
theorem HT.k (j:gG cx P N own)(rs:List OH)(o:bU cs)(p: ∀st1,Le cx st1 st'->Q .normal st1)(r:LL own st' (pt P N ops ops (C0 ops rs) st)=some (st',cs):=by kernel_rfl):HT cx st (.region id ops.toArray false) Q:=by
 obtain ⟨st1,t,I⟩:=zR r;exact HT.Ud j.P j.N t o (p _ (Le.re _ _ j I))
theorem HT.dg (j:gG cx P N own)(rs:List OH)(o:bU cs)(p:HT cx (Sp (Jb P N ops rs st)) y Q)(r:Sq (Jb P N ops rs st)=some cs:=by kernel_rfl)(t:P.follows .mixedOrders=true:=by kernel_rfl):HT cx st (.seq (.region id ops.toArray true) y) Q:=υ (IN j.P j.N t (wk r) o p)
theorem HT.dl (j:gG cx P N own)(rs:List OH)(o:bU cs)(p:Q .normal (Sp (Jb P N ops rs st)))(r:Sq (Jb P N ops rs st)=some cs:=by kernel_rfl)(t:P.follows .mixedOrders=true:=by kernel_rfl):HT cx st (.region id ops.toArray true) Q:=IN j.P j.N t (wk r) o p
theorem HT.dk (j:gG cx P N own)(rs:List OH)(o:bU cs)(p: ∀st1,Le cx st1 st'->Q .normal st1)(r:LL own st' (Jb P N ops rs st)=some (st',cs):=by kernel_rfl)(t:P.follows .mixedOrders=true:=by kernel_rfl):HT cx st (.region id ops.toArray true) Q:=by
 obtain ⟨st1,I,J⟩:=zR r;exact IN j.P j.N t I o (p _ (Le.re _ _ j J))
theorem HT.re (j:gG cx P N own)(h:HT cx st' c Q)(o:st.NA own st'=some st':=by kernel_rfl):HT cx st c Q:=(Le.re _ _ j o).ht h
theorem HT.ex (st':St)(j:gG cx P N own)(h:HT cx st' c Q)(o:st.NA own st'=some st':=by kernel_rfl):HT cx st c Q:=(Le.re _ _ j o).ht h
theorem HT.eg (st':St)(j:gG cx P N own)(h:HT cx st' c Q)(o:Ue own (st'.fr.map aas) (st'.mem.map aas) (some (st,[]))=some (st',[]):=by kernel_rfl):HT cx st c Q:=(Le.gc j rfl o).2.ht h
theorem HT.xr (j:gG cx P N own)(o:Q .ret st')(p:st.NA own st'=some st':=by kernel_rfl):HT cx st .ret Q:=(Le.re _ _ j p).ht (HT.ret o)
theorem HT.xe {n:Nat}(j:gG cx P N own)(o:Q (.exit n) st')(p:st.NA own st'=some st':=by kernel_rfl):HT cx st (.exit n) Q:=(Le.re _ _ j p).ht (HT.exit o)
theorem Le.a (j:gG cx P N own)(o:st.NA own st'=some st':=by kernel_rfl):Le cx st st':=Le.re _ _ j o
theorem HT.jn {α β:Type}{o:Option α}{k:α->Option β}{r:β}(j:o.bind k=some r)(J:α->St->St)(p: ∀v,k v=some r->HT cx (J v st) y Q)(t: ∀w,o=some w->(∀v,v=w->HT cx (J v st) y Q)->HT cx st x (vl cx y Q)):HT cx st (.seq x y) Q:=by
 obtain ⟨w,I,R⟩:=rX j;exact υ (t w I λv T=>by subst T;exact p _ R)
theorem HT.jo {α β:Type}{o:Option (α⊕β)}{K:α⊕β->Option β}{r:β}(p:o.bind K=some r)(t: ∀z,K (.inr z)=some z)(J:α->St->St)(I: ∀v,K (.inl v)=some r->HT cx (J v st) y Q)(R: ∀w,o=some w->(∀{e:Option β},sw e=some w->e=some r)->(∀v,w= .inl v->HT cx (J v st) y Q)->HT cx st x (vl cx y Q)):HT cx st (.seq x y) Q:=by
 obtain ⟨w,T,j⟩:=rX p;exact υ (R w T (λh=>jO j t h) λv U=>by subst U;exact I _ j)
theorem HT.cb {β:Type}{o:aah}{b:Bool}{u v:Option β}{r:β}(h:(bif b then u else v)=some r)(f:b=true->u=some r->HT cx st x Q)(g:b=false->v=some r->HT cx st y Q)(t:ev st.fr o=some (.one (.bp .bool b)):=by kernel_rfl):HT cx st (.cond o x y) Q:=by
 rcases IL h with ⟨j,p⟩|⟨j,p⟩
 exact HT.CT t j (f j p);exact HT.zO t j (g j p)
theorem HT.cj {β:Type}{o:aah}{b:Bool}{u v:Option β}{r:β}(h:(bif b then u else v)=some r)(f:b=true->u=some r->HT cx st z Q)(g:b=false->v=some r->HT cx st y (vl cx z Q))(j:ev st.fr o=some (.one (.bp .bool b)):=by kernel_rfl):HT cx st (.seq (.cond o .skip y) z) Q:=υ (HT.cb h (λp t=>HT.skip (f p t)) g j)
theorem HT.c0 {o:aah}{b:Bool}(j:b=false)(p:HT cx st y Q)(r:ev st.fr o=some (.one (.bp .bool b)):=by kernel_rfl):HT cx st (.cond o x y) Q:=HT.zO r j p
theorem HT.lp {σ ρ β:Type}{f:σ->Option (σ⊕ρ)}{s:σ}{k:ρ->Option β}{r:β}(p:gG cx P N own)(t:(rounds f s).bind k=some r)(S:σ->St->St)(E:ρ->abm×(St->St))(after: ∀j,k j=some r->Q (E j).1 ((E j).2 st))(round: ∀s x,f s=some x->(∀j,x= .inr j->Q (E j).1 ((E j).2 st))->HT cx (S s st) c (vm (λst'=> ∃o,x= .inl o/\Le cx st' (S o st)) Q))(I:st.NA own (S s st)=some (S s st):=by kernel_rfl):HT cx st (.loop c) Q:=by
 obtain ⟨j,J,R⟩:=rX t;exact HT.FR (λs=>S s st) (λr=>((E r).1,(E r).2 st)) (Le.re _ _ p I) J (after j R) round
theorem lN {σ ρ:Type}{e:σ}{x:σ⊕ρ}{S:σ->St}{st1:St}(o:some (Sum.inl e)=some x)(h:Le cx st1 (S e)): ∃j,x= .inl j/\Le cx st1 (S j):=⟨e,bd o,h⟩
end
theorem HT.Z6 {R A:Prop}(h:R->A)(j:R):A:=h j
end Go.Ide
namespace Go.Ide
theorem Jc {P:Ξ}{el:Ι}{t:Ty}{i:adh}{p:ο}{z0:t.D}{S:Nat->Prop}{w:Ε}(ht:t.top=true)(hi:P.info? el=some i)(T:i.zero=some p)(R:tA P el t=some z0)(n:Nat):
 p.cells.size=t.size/\dV S w t (π n z0) (Ϧ p.cells n).toList:=by
 unfold tA at R;rw [hi] at R;simp only [T,ht,if_true] at R;obtain ⟨cs,r,o⟩:=mY (g:=⟨λ_ _=>none⟩) (m:=[]) (S:=S) (S2:=S) (λ_ h=>h) ij.nil R (qd (w:=w) p);have o:bT S w t p.cells.toList z0:=by rw [oZ r o];exact o
 have U:p.cells.size=t.size:=by rw [<-Ψ];exact bT.len t _ _ o
 refine ⟨U,λi' BK=>⟨p.cells.toList,λj hj=> ?_,by rw [List.getElem_replicate];exact o⟩⟩;rw [ϕ] at BK;have hlt:i'*t.size+j<n*t.size:=by
  have:(i'+1)*t.size<=n*t.size:=Ρ _ (by omega);rw [ϑ] at this;omega
 have I:(i'*t.size+j)%t.size=j:=by rw [Nat.add_comm,Nat.mul_comm,Nat.add_mul_mod_self_left];exact Nat.mod_eq_of_lt hj
 have J:j<p.cells.size:=by rw [U];exact hj
 rw [ϥ,ϥ];simp only [Ϧ,U,Array.getElem?_map,Array.getElem?_range,hlt,if_true,Option.map_some,I];rw [getElem!_pos p.cells j J,<-aak J]
section
variable {cx:Cx} {g:GM} {st:St} {a:Act} {w w':Ε} {P:Ξ} {N:Nat} {own:List Nat} {Q:abm->St->Prop} {all os:List Ϥ}
theorem C1 {T el ty:Ι}{c off n:Nat}{t:Ty}{xs:List t.D}{z0:t.D}{xa:ο}(h:cG cx g st a w)(hu:cx.P.underlying T=some (.slice el))(o:tA cx.P el t=some z0)(r:t.top=true)(hl:lk c st.mem=some (.seq t xs))(hx:VR g st.mem (cx.safe g st.mem w) w (.one (.ref c off n)) xa):
 fP cx st a w (abv #[T] ty #[xa]) ⟨.dE,[],[(c,.seq t (xs.take off++π n z0++xs.drop (off+n)))],[]⟩:=by
 obtain ⟨hle,da,Il,rfl,w9⟩:=zH h.mem (x:= .one (.ref c off n)) rfl hl hx;obtain ⟨i,hi,zv,J⟩: ∃i,cx.P.info? el=some i/\ ∃zv,i.zero=some zv:=by
  unfold tA at o;cases hi:cx.P.info? el with
  |none=>rw [hi] at o;cases o
  |some i=>
   rw [hi] at o;cases J:i.zero with
   |none=>simp only [J] at o;cases o
   |some zv=>exact ⟨i,rfl,zv,J⟩
 by_cases B5:n=0;subst B5;have R:(abv #[T] ty #[.slice da 0 Il]).run cx.P w= .ok (.tuple #[]) w:=by
  cases da<;>simp [abv,run_underlying hu]
 refine ⟨_,w,R,g,?_,trivial⟩;have qZ:(xs.take off++π 0 z0++xs.drop (off+0))=xs:=by simp
 show cG cx g (st.iT ([(c,Chunk.seq t (xs.take off++π 0 z0++xs.drop (off+0)))]++[]++st.mem) (st.nx+0)) a w;rw [qZ];have zu: ∀k,lk k ([(c,Chunk.seq t xs)]++[]++st.mem)=lk k st.mem:=λk=>by
  show lk k ((c,_)::st.mem)=_;rw [bB];by_cases e:k=c;subst e;rw [if_pos rfl,hl];rw [if_neg e]
 exact h.tC (G:=[]) ⟨acL _ _,λb hb=>(by simp at hb),λ_ _=>rfl,λk ch hk=> .inl ⟨(zu k).trans hk,λ_ b _ _ hb=>by simp at hb⟩,λk ch hk oo=>by
  rw [zu,hk] at oo;cases oo⟩
 rcases w9 with h0|⟨b,arr,hg,rfl,U,kY⟩
 exact absurd h0 B5;obtain ⟨Z7,Wd⟩:=Jc (S:=cx.safe g st.mem w) (w:=w) r hi J o n;generalize aa:(Ϧ zv.cells n).toList=I at Wd;have p:I.length=n*t.size:=by rw [<-aa,Ψ,size_zeroCells,Z7]
 have ab:off*t.size+0+I.length<=arr.size:=by rw [p,ϧ,<-ϑ];exact kY
 have Im:=dV.nt Wd (by rw [ϕ];exact p);obtain ⟨w',ad,tK,k1,k2,k3,k4⟩:=ed (P:=cx.P) I (off*t.size) 0 w arr U ab Im;rw [ϧ,p] at k2;have R:(abv #[T] ty #[.slice (some ⟨b,off*t.size,none⟩) n Il]).run cx.P w= .ok (.tuple #[]) w':=by
  obtain ⟨n',rfl⟩: ∃n',n=n'+1:=⟨n - 1,by omega⟩;rw [<-aa] at tK;simp [abv,run_underlying hu,zeroValue,typeInfo,hi,J,tK]
 have ae:(xs.take off++π n z0++xs.drop (off+n)).length=xs.length:=by
  simp only [ω,ϙ,aab,ϕ];omega
 have H2:ad.size=arr.size:=by
  rw [<-Ψ,k2];simp only [ω,p,ϙ,aab,Ψ];rw [p] at ab;omega
 have q:HN g st w w' c b [] (.seq t xs) (.seq t (xs.take off++π n z0++xs.drop (off+n))):=
  ⟨hl,trivial,hg,k3,⟨arr,ad,U,k1,H2⟩,λ_ _=>trivial,by simp,λt' ig e=>by
   obtain ⟨e,e2⟩:=pG e;subst e;subst e2;exact ⟨xs,.inl rfl,ae.symm⟩,λt' ig e=>by
   injection e with e1 e2;subst e1;have e2:=eq_of_heq e2;subst e2;exact ⟨xs,rfl,cy.top r ae.symm⟩⟩
 refine ⟨_,w',R,g,?_,trivial⟩;refine h.M5 q ?_;have je:=h.mem c _ hl;unfold jc at je⊢;rw [hg] at je⊢;obtain ⟨pZ,RE,ma⟩:=je;have:=RE.eq U;subst this;have nK:=(q.stays (cx:=cx)).safe;have hL:dV (cx.safe g st.mem w) w t xs pZ.toList:=(ma.Fq r).toL;refine ⟨ad,k1,.k9 r (dV.toR ?_)⟩;rw [k2];have bt: ∀{zs:List t.D} {l:List ο},dV (cx.safe g st.mem w) w t zs l->dV (cx.safe g ((c,Chunk.seq t (xs.take off++π n z0++xs.drop (off+n)))::st.mem) w') w' t zs l:=λhz i hi=>by
  obtain ⟨es,e1,e2⟩:=hz i hi;exact ⟨es,e1,bT.bt nK t es _ e2⟩
 have KR:(pZ.toList.take (off*t.size)).length=(xs.take off).length*t.size:=by
  rw [ϙ,ϙ,Ψ,aav (show off<=xs.length by omega),aav];exact ϣ (Ρ _ (by omega)) kY
 have hA:=dV.app (rest:=[]) (bt (hL.take (n:=off) (by omega))) KR (bt Wd) (by rw [p,ϕ]);rw [List.append_nil] at hA;have Ot:(pZ.toList.take (off*t.size)++I).length=(xs.take off++π n z0).length*t.size:=by
  rw [ω,ω,KR,p,ϑ,ϕ]
 have Vc:dV (cx.safe g st.mem w) w t (xs.drop (off+n)) (pZ.toList.drop (off*t.size+n*t.size)):=by
  rw [<-ϑ];exact hL.drop
 intro i hi;by_cases hlt:i<(xs.take off++π n z0).length;obtain ⟨es,e1,e2⟩:=hA i hlt;refine ⟨es,λj hj=> ?_,by rw [List.getElem_append_left hlt];exact e2⟩;have hm:(i+1)*t.size<=(xs.take off++π n z0).length*t.size:=Ρ _ (by omega);rw [ϑ] at hm;rw [List.getElem?_append_left (by rw [Ot];omega)];exact e1 j hj;have TW:i - (xs.take off++π n z0).length<(xs.drop (off+n)).length:=by
  rw [ω] at hi;omega
 obtain ⟨es,e1,e2⟩:=bt Vc _ TW;refine ⟨es,λj hj=> ?_,by rw [List.getElem_append_right (by omega)];exact e2⟩;obtain ⟨d,hd⟩: ∃d,i=(xs.take off++π n z0).length+d:=⟨_,(Nat.add_sub_cancel' (by omega)).symm⟩;rw [hd,Nat.add_sub_cancel_left] at e1;rw [hd,ϑ,List.getElem?_append_right (by rw [Ot];omega),Ot];rw [show∀A B:Nat,A+B+j - A=B+j from λA B=>by omega];exact e1 j hj
theorem RG.clear {T el:Ι}{o:Ϥ}{cl:Call}{m:aah}{c off n:Nat}{t:Ty}{xs:List t.D}{z0:t.D}(hX:gG cx P N own)(ho:o.op= .call cl)(mZ:cl.callee= .builtin .clear/\cl.args= #[m]/\cl.argTypes= #[T])(hg:o.guard=none)(U:o.dst=none)(hu:P.underlying T=some (.slice el))(R:tA P el t=some z0)(p:t.top=true)(hm:ev st.fr m=some (.one (.ref c off n)))(hl:lk c st.mem=some (.seq t xs))(hr:RG cx all os ⟨st.fr,(c,.seq t (xs.take off++π n z0++xs.drop (off+n)))::st.mem,st.nx⟩ Q):RG cx all (o::os) st Q:=by
 obtain ⟨hP,hN,hO⟩:=hX;subst hP hN;refine RG.gr (e:=⟨.dE,[],[(c,.seq t (xs.take off++π n z0++xs.drop (off+n)))],[]⟩) ⟨rfl,rfl,hO⟩ hg (by rw [U];rfl) (λg a w hs=> ?_) (by rw [U];exact hr);obtain ⟨h1,h2,h3⟩:=mZ;have r:resolve a.eval cl o.type=pure {target:= .builtin .clear cl.argTypes o.type (cl.args.map fun| .const _=>true|_=>false),args:=cl.args.map a.eval}:=by
  unfold resolve;rw [h1];rfl
 obtain ⟨val,w',I,J⟩:=C1 (ty:=o.type) hs hu R p hl (cc hs hm);refine .inl ⟨val,w',?_,J⟩;have he:execOp a.eval o=(do pure (.value (<-abv #[T] o.type #[a.eval m]))):=by
  have j:cl.args.map a.eval= #[a.eval m]:=by rw [h2];simp
  simp only [execOp,ho,r,j,h3];rfl
 rw [he];simp [I]
end
end Go.Ide
