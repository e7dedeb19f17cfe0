import Derived.Test.YtjnkhcgmgkhnaaaGreatDoorLibC
import Derived.Lib.SplitLaws
import Derived.RangeFuncWrites
import Derived.ChangeKeysEq
set_option linter.all false
open Array renaming length_toList→Ω,getD_eq_getD_getElem?→ϐ,getElem?_eq_some_iff→ϝ,getElem?_toList→ϥ,getElem?_setIfInBounds→ϭ,replicate→ϻ,getElem?_eq_getElem→aal,ext'→aa9,toList_map→abb
open Bool renaming and_eq_true→κ,not_eq_true'→aag
open Classical renaming choose_spec→abO
open Go renaming Value→π,World→Ε,TypeId→Ι,Program→Ο,Oper→Ϥ,Operand→aah,FuncId→aaF,IntKind→aaK,Calls→aaW,Exit→abI,MapEntry→acP,TypeInfo→adK
open Go.Act renaming put→abL,eval→aeC
open Go.Addr renaming add→ab3
open Go.Builtin renaming append_→Ϟ,zeroCells→Ϧ,clear_→abR,len_→acW
open Go.Calls renaming mono→aeo
open Go.Deferred renaming ofValue→aa3
open Go.Fence renaming wide→adi
open Go.Ide.CR renaming stays→aeE
open Go.Ide.CallOK renaming sF→ad7
open Go.Ide.Chunk renaming pq→adJ
open Go.Ide.Glob renaming ok→adm
open Go.Ide.HT renaming seq→φ
open Go.Ide.Ty renaming size→aao
open Go.Ide.bU renaming alloc→acA,refl→adn
open Go.Ide.dA renaming new→aer
open Go.Instr renaming sureAddr→aax,findNow→abn,checkKey→abt,lookup→aco,findKey→acE,findAsking→acV,alloc→adw,sameNow→aeB,mapUpdate→agk,build→ahj
open Go.Lib renaming countB→acr,split→aeL
open Go.Op renaming eqItems→agj
open Go.Oper renaming wp→acq,semAt_eq→ag2
open Go.Region renaming wanted→ϯ,schedule→afY
open Go.Result renaming andThen_ok→ϋ,andThen→aaU
open Go.RowKit renaming Below→acZ
open Go.RowKit.Below renaming heap_alloc→aar,refl→afL
open Go.Sem renaming run_bind→Ϛ,run_pure→ϵ
open Go.Value renaming cells→abU
open Go.World renaming putObj_heap_other→aaL,alloc_heap_new→acf,cell?_of_block→ach,grownBy_alloc→acm,cell?→ad2,putObj_heap_same→aeV,size_alloc→afZ
open Int renaming le_refl→Ϫ,instDecidableEq→adF
open List renaming length→ζ,length_append→ξ,replicate→υ,getElem?_eq_some_iff→ω,length_cons→Η,append_assoc→ό,mem_cons_of_mem→ύ,length_take→ώ,mem_cons→ϖ,length_replicate→ϗ,length_map→Ϝ,mem_map→Ϣ,all_eq_true→ϣ,take_of_length_le→ϳ,mem_cons_self→ϴ,length_drop→϶,map_cons→aaa,not_mem_nil→aak,take_append_drop→aaC,flatten_cons→aaR,nodup_cons→aba,range→abD,drop_eq_getElem_cons→abJ,take_append_of_le_length→acp,drop_eq_nil_of_le→adq,toArray→aef,map_map→ahm,range'→ahN
open List.cons renaming injEq→afh
open Nat renaming le_refl→ς,beq→Β,mul_le_mul_right→Τ,zero_add→Ψ,le_of_ble_eq_true→ϑ,add_mul→ϓ,lt_of_lt_of_le→ϕ,ble→ϩ,le_trans→ϫ,add_zero→Ϭ,blt→aaf,min_eq_left→aas,zero_mul→abf,mul_one→adT,lt_succ_self→aed,sub_zero→ahO
open Option renaming isSome_some→afq,mem_toList→afA
open Prod renaming fst→aav
open Std.Legacy.Range renaming forIn_eq_forIn_range'→agP,size→agQ
namespace Go.Ide
def Wz (s:sW)(m0:Mem)(c R:bI):Option bI:=
 match R with
 | .bG t _=>(match dT m0 t c with
  |some x=>some (.bG t x)
  |none=>none)
 | .ptr o j=>(match c with
  | .ptr k off=>bif ru k o s.ch&&Β off j then some (.ptr o j) else none
  |_=>none)
 | .dn o _ I j=>(match c with
  | .dn k i T off=>bif ru k o s.ch&&(Β T I&&Β off j) then some (.dn o i I j) else none
  |_=>none)
 | .ip r _ j=>(match c with
  | .ip t x off=>bif Β off j then (if h:r=t then some (.ip r (cR h.symm x) j) else none) else none
  | .ptr k off=>(match lk k m0 with
   |some (.box cs)=>bif Β off j then (match impl m0 r cs with
    |some (x,[])=>some (.ip r x j)
    |_=>none) else none
   |_=>none)
  |_=>none)
 | .all o=>(match c with
  | .all k=>bif ru k o s.ch&& !(dt k s.tr) then some (.all o) else none
  | .bH=>bif dt o s.vs then some (.all o) else none
  |_=>none)
 | .ref o _ _=>(match c with
  | .ref k off len=>bif ru k o s.ch&& !(dt k s.tr) then some (.ref o off len) else none
  |_=>none)
 | .bH=>(match c with
  | .bH=>some .bH
  |_=>none)
 | .fn p=>(match c with
  | .fn f=>if p=f then some (.fn p) else none
  |_=>none)
 | .ji p r _=>(match c with
  | .ji f t x=>if p=f then (if h:r=t then some (.ji p r (cR h.symm x)) else none) else none
  |_=>none)
 | .cls p J=>(match c with
  | .cls f U=>if p=f then (bif Dd s.ch U J then some (.cls p J) else none) else none
  |_=>none)
 | .zP p r _=>(match c with
  | .zP f t x=>if p=f then (if h:r=t then some (.zP p r (cR h.symm x)) else none) else none
  |_=>none)
 | .fP o=>(match c with
  | .fP k=>bif ru k o s.ch then some (.fP o) else none
  |_=>none)
 | .dS=>bif c.ok then some .dS else none
 |_=>none
theorem oU {t j:Ty}(h:j=t)(x:t.D):cR h (cR h.symm x)=x:=by subst h;rfl
theorem Ju {s:sW}{m0 m':Mem}{c c':bI}(h:Wz s m0 c c'=some c'): ∃ps,A9 s m0 m' c c'=some ps/\cp ps:=by
 cases c' with
 |bG t R=>
  have h:(match dT m0 t c with
   |some x=>some (bI.bG t x)
   |none=>none)=some (.bG t R):=h
  show∃ps,(match dT m0 t c with
   |some x=>some [R=x]
   |none=>none)=some ps/\cp ps
  cases hx:dT m0 t c with
  |none=>rw [hx] at h;cases h
  |some x=>
   rw [hx] at h;injection h with h;injection h with h1 T;exact ⟨_,rfl,T.symm,trivial⟩
 |ptr o j=>
  cases c with
  |ptr k off=>
   have h:(bif ru k o s.ch&&Β off j then some (bI.ptr o j) else none)=some (.ptr o j):=h;show∃ps,(bif ru k o s.ch&&Β off j then some [] else none)=some ps/\cp ps;cases r:(ru k o s.ch&&Β off j) with
   |true=>exact ⟨_,rfl,trivial⟩
   |false=>rw [r] at h;cases h
  |_=>cases h
 |dn o i' U j=>
  cases c with
  |dn k i sz off=>
   have h:(bif ru k o s.ch&&(Β sz U&&Β off j) then some (bI.dn o i U j) else none)=some (.dn o i' U j):=h;show∃ps,(bif ru k o s.ch&&(Β sz U&&Β off j) then some [i'=i] else none)=some ps/\cp ps;cases r:(ru k o s.ch&&(Β sz U&&Β off j)) with
   |true=>
    rw [r] at h;injection h with h;injection h with _ T;exact ⟨_,rfl,T.symm,trivial⟩
   |false=>rw [r] at h;cases h
  |_=>cases h
 |ip I R j=>
  cases c with
  |ip t x off=>
   have h:(bif Β off j then (if h:I=t then some (bI.ip I (cR h.symm x) j) else none) else none)=some (.ip I R j):=h;show∃ps,(bif Β off j then (if h:I=t then some [cR h R=x] else none) else none)=some ps/\cp ps;cases r:Β off j with
   |true=>
    rw [r] at h;simp only [cond_true] at h⊢;split at h;rename_i e;rw [dif_pos e];injection h with h;injection h with _ T;exact ⟨_,rfl,by rw [<-T];exact oU e _,trivial⟩;cases h
   |false=>rw [r] at h;cases h
  |ptr k off=>
   have h:(match lk k m0 with
    |some (.box cs)=>bif Β off j then (match impl m0 I cs with
     |some (x,[])=>some (bI.ip I x j)
     |_=>none) else none
    |_=>none)=some (.ip I R j):=h
   show∃ps,(match lk k m0 with
    |some (.box cs)=>bif Β off j then (match impl m0 I cs with
     |some (x,[])=>some [R=x]
     |_=>none) else none
    |_=>none)=some ps/\cp ps
   cases hk:lk k m0 with
   |none=>rw [hk] at h;cases h
   |some ch=>
    rw [hk] at h;cases ch with
    |box cs=>
     simp only at h⊢;cases r:Β off j with
     |true=>
      rw [r] at h;simp only [cond_true] at h⊢;cases hi:impl m0 I cs with
      |none=>rw [hi] at h;cases h
      |some p=>
       obtain ⟨x,l⟩:=p;rw [hi] at h;cases l with
       |nil=>
        simp only at h⊢;injection h with h;injection h with _ T;exact ⟨_,rfl,T.symm,trivial⟩
       |cons _ _=>cases h
     |false=>rw [r] at h;cases h
    |_=>cases h
  |_=>cases h
 |all o=>
  cases c with
  |all k=>
   have h:(bif ru k o s.ch&& !(dt k s.tr) then some (bI.all o) else none)=some (.all o):=h;show∃ps,(bif ru k o s.ch&& !(dt k s.tr) then some [] else none)=some ps/\cp ps;cases r:(ru k o s.ch&& !(dt k s.tr)) with
   |true=>exact ⟨_,rfl,trivial⟩
   |false=>rw [r] at h;cases h
  |bH=>
   have h:(bif dt o s.vs then some (bI.all o) else none)=some (.all o):=h;show∃ps,(bif dt o s.vs then some [] else none)=some ps/\cp ps;cases r:dt o s.vs with
   |true=>exact ⟨_,rfl,trivial⟩
   |false=>rw [r] at h;cases h
  |_=>cases h
 |ref o j ab=>
  cases c with
  |ref k off len=>
   have h:(bif ru k o s.ch&& !(dt k s.tr) then some (bI.ref o off len) else none)=some (.ref o j ab):=h;show∃ps,(bif ru k o s.ch&& !(dt k s.tr) then some [j=off,ab=len] else none)=some ps/\cp ps;cases r:(ru k o s.ch&& !(dt k s.tr)) with
   |true=>
    rw [r] at h;injection h with h;injection h with _ T h3;exact ⟨_,rfl,T.symm,h3.symm,trivial⟩
   |false=>rw [r] at h;cases h
  |_=>cases h
 |bH=>
  cases c with
  |bH=>exact ⟨_,rfl,trivial⟩
  |_=>cases h
 |fn J=>
  cases c with
  |fn f=>
   have h:(if J=f then some (bI.fn J) else none)=some (.fn J):=h;show∃ps,(if J=f then some [] else none)=some ps/\cp ps;split at h;rename_i e;rw [if_pos e];exact ⟨_,rfl,trivial⟩;cases h
  |_=>cases h
 |ji J I R=>
  cases c with
  |ji f t x=>
   have h:(if J=f then (if h:I=t then some (bI.ji J I (cR h.symm x)) else none) else none)=some (.ji J I R):=h;show∃ps,(if J=f then (if h:I=t then some [cR h R=x] else none) else none)=some ps/\cp ps;split at h;rename_i e;rw [if_pos e];split at h;rename_i e2;rw [dif_pos e2];injection h with h;injection h with _ _ T;exact ⟨_,rfl,by rw [<-T];exact oU e2 _,trivial⟩;cases h;cases h
  |_=>cases h
 |cls J aa=>
  cases c with
  |cls f ks=>
   have h:(if J=f then (bif Dd s.ch ks aa then some (bI.cls J aa) else none) else none)=some (.cls J aa):=h;show∃ps,(if J=f then (bif Dd s.ch ks aa then some [] else none) else none)=some ps/\cp ps;split at h;rename_i e;rw [if_pos e];cases r:Dd s.ch ks aa with
   |true=>exact ⟨_,rfl,trivial⟩
   |false=>rw [r] at h;cases h
   cases h
  |_=>cases h
 |zP J I R=>
  cases c with
  |zP f t x=>
   have h:(if J=f then (if h:I=t then some (bI.zP J I (cR h.symm x)) else none) else none)=some (.zP J I R):=h;show∃ps,(if J=f then (if h:I=t then some [cR h R=x] else none) else none)=some ps/\cp ps;split at h;rename_i e;rw [if_pos e];split at h;rename_i e2;rw [dif_pos e2];injection h with h;injection h with _ _ T;exact ⟨_,rfl,by rw [<-T];exact oU e2 _,trivial⟩;cases h;cases h
  |_=>cases h
 |fP o=>
  cases c with
  |fP k=>
   have h:(bif ru k o s.ch then some (bI.fP o) else none)=some (.fP o):=h;show∃ps,(bif ru k o s.ch then some [] else none)=some ps/\cp ps;cases r:ru k o s.ch with
   |true=>exact ⟨_,rfl,trivial⟩
   |false=>rw [r] at h;cases h
  |_=>cases h
 |dS=>
  have h:(bif c.ok then some bI.dS else none)=some .dS:=h;show∃ps,(bif c.ok then some [] else none)=some ps/\cp ps;cases r:c.ok with
  |true=>exact ⟨_,rfl,trivial⟩
  |false=>rw [r] at h;cases h
 |row=>cases h
 |zf=>cases h
 |bad=>cases h
def EW (s:sW)(m0:Mem):List bI->List bI->Option (List bI)
 |[],[]=>some []
 |c::r,j::o=>(match Wz s m0 c j,EW s m0 r o with
  |some p,some q=>some (p::q)
  |_,_=>none)
 |_,_=>none
theorem cp.app: ∀{a b:List Prop},cp a->cp b->cp (a++b)
 |[],_,_,j=>j
 |_::_,_,o,j=>⟨o.1,cp.app o.2 j⟩
theorem wV {s:sW}{m0 m':Mem}: ∀{cs j:List bI},EW s m0 cs j=some j-> ∃ps,Ba s m0 m' cs j=some ps/\cp ps
 |[],[],_=>⟨_,rfl,trivial⟩
 |c::r,c'::r',h=>by
  unfold EW at h;split at h;rename_i p q hp o;injection h with h;injection h with t I;subst t I;obtain ⟨ps,J,R⟩:=Ju (m':=m') hp;obtain ⟨T,U,a2⟩:=wV (m':=m') o;exact ⟨ps++T,by unfold Ba;rw [J,U],R.app a2⟩;cases h
 |[],_::_,h=>by cases h
 |_::_,[],h=>by cases h
def RT (s:sW)(m0:Mem)(v o:bK):Option bK:=
 match o with
 | .one p=>(match v with
  | .one c=>(match Wz s m0 c p with
   |some x=>some (.one x)
   |none=>none)
  |_=>none)
 | .agg j=>(match v with
  | .agg cs=>(match EW s m0 cs j with
   |some x=>some (.agg x)
   |none=>none)
  |_=>none)
 | .AA _=>none
 | .Ce=>none
 | .dS=>some .dS
theorem Pw {s:sW}{m0 m':Mem}{v o:bK}(h:RT s m0 v o=some o): ∃ps,Pq s m0 m' v o=some ps/\cp ps:=by
 cases o with
 |one r=>
  unfold RT at h;unfold Pq;simp only at h⊢;split at h;split at h;rename_i x j;injection h with h;injection h with h;rw [h] at j;exact Ju j;cases h;cases h
 |agg p=>
  unfold RT at h;unfold Pq;simp only at h⊢;split at h;split at h;rename_i x j;injection h with h;injection h with h;rw [h] at j;exact wV j;cases h;cases h
 |AA=>cases h
 |Ce=>cases h
 |dS=>exact ⟨_,rfl,trivial⟩
def Jv (s:sW)(m0:Mem)(fr:Fr):Fr->Option Fr
 |[]=>some []
 |(t,j)::r=>(match lk t fr with
  |some v=>(match RT s m0 v j,Jv s m0 fr r with
   |some p,some q=>some ((t,p)::q)
   |_,_=>none)
  |none=>none)
theorem Gq {s:sW}{m0 m':Mem}{fr:Fr}: ∀{j:Fr},Jv s m0 fr j=some j-> ∃ps,HD s m0 m' fr j=some ps/\cp ps
 |[],_=>⟨_,rfl,trivial⟩
 |(t,o)::r,h=>by
  have h:(match lk t fr with
   |some v=>(match RT s m0 v o,Jv s m0 fr r with
    |some p,some q=>some ((t,p)::q)
    |_,_=>none)
   |none=>none)=some ((t,o)::r):=h
  show∃ps,(match lk t fr with
   |some v=>(match Pq s m0 m' v o,HD s m0 m' fr r with
    |some p,some q=>some (p++q)
    |_,_=>none)
   |none=>none)=some ps/\cp ps
  cases R:lk t fr with
  |none=>rw [R] at h;cases h
  |some v=>
   rw [R] at h;simp only at h⊢;cases hp:RT s m0 v o with
   |none=>rw [hp] at h;cases h
   |some p=>
    cases I:Jv s m0 fr r with
    |none=>rw [hp,I] at h;cases h
    |some q=>
     rw [hp,I] at h;injection h with h;injection h with J T;injection J with _ J;rw [J] at hp;rw [T] at I;obtain ⟨ps,U,a1⟩:=Pw (m':=m') hp;obtain ⟨qs,e2,a2⟩:=Gq (m':=m') I;rw [U,e2];exact ⟨_,rfl,a1.app a2⟩
def L1 (s:sW)(m0:Mem)(k:Nat)(c R:Chunk):Option Chunk:=
 match R with
 | .box j=>(match c with
  | .box cs=>(match EW s m0 cs j with
   |some x=>some (.box x)
   |none=>none)
  |_=>none)
 | .seq o _=>(match c with
  | .seq t p=>if h:o=t then (bif dt k s.tr then none else some (.seq o (cR (congrArg Ty.sl h.symm) p))) else none
  |_=>none)
 | .mp o r _=>(match c with
  | .mp t u p=>if h:Ty.pair o r=Ty.pair t u then some (.mp o r (cR (a:= .sl (.pair t u)) (b:= .sl (.pair o r)) (congrArg Ty.sl h.symm) p)) else none
  |_=>none)
 | .pT I J _=>(match c with
  | .pT T e p=>bif Β I T&&Β J e then some (.pT I J p) else none
  |_=>none)
 | .gh j _=>(match c with
  | .gh cs U=>(match EW s m0 cs j with
   |some x=>some (.gh x U)
   |none=>none)
  |_=>none)
 | .pg _ _ _ _ _=>none
 | .gone=>none
theorem L2 {s:sW}{m0 m':Mem}{k:Nat}{c c':Chunk}(h:L1 s m0 k c c'=some c'): ∃ps,uA s m0 m' k c c'=some ps/\cp ps:=by
 cases c' with
 |box r=>
  unfold L1 at h;unfold uA;simp only at h⊢;split at h;split at h;rename_i x U;injection h with h;injection h with h;rw [h] at U;exact wV U;cases h;cases h
 |seq o j=>
  cases c with
  |seq t I=>
   have h:(if h:o=t then (bif dt k s.tr then none else some (Chunk.seq o (cR (a:= .sl t) (b:= .sl o) (congrArg Ty.sl h.symm) I))) else none)=some (.seq o j):=h;show∃ps,(if h:o=t then (bif dt k s.tr then some [cR (a:= .sl o) (b:= .sl t) (congrArg Ty.sl h) j=List.take (ζ j) I] else some [cR (a:= .sl o) (b:= .sl t) (congrArg Ty.sl h) j=I]) else none)=some ps/\cp ps;split at h;rename_i e;rw [dif_pos e];cases hb:dt k s.tr with
   |true=>rw [hb] at h;cases h
   |false=>
    rw [hb] at h;simp only [cond_false] at h⊢;injection h with h;injection h with _ J;exact ⟨_,rfl,by rw [<-J];exact oU (congrArg Ty.sl e) _,trivial⟩
   cases h
  |_=>cases h
 |mp o R j=>
  cases c with
  |mp t u I=>
   have h:(if h:Ty.pair o R=Ty.pair t u then some (Chunk.mp o R (cR (a:= .sl (.pair t u)) (b:= .sl (.pair o R)) (congrArg Ty.sl h.symm) I)) else none)=some (.mp o R j):=h;show∃ps,(if h:Ty.pair o R=Ty.pair t u then some [cR (a:= .sl (.pair o R)) (b:= .sl (.pair t u)) (congrArg Ty.sl h) j=I] else none)=some ps/\cp ps;split at h;rename_i e;rw [dif_pos e];injection h with h;injection h with _ _ J;exact ⟨_,rfl,by rw [<-J];exact oU (congrArg Ty.sl e) _,trivial⟩;cases h
  |_=>cases h
 |pT T' e' j=>
  cases c with
  |pT T e I=>
   have h:(bif Β T' T&&Β e' e then some (Chunk.pT T' e' I) else none)=some (.pT T' e' j):=h;show∃ps,(bif Β T' T&&Β e' e then some [j=I] else none)=some ps/\cp ps;cases hb:(Β T' T&&Β e' e) with
   |false=>rw [hb] at h;cases h
   |true=>
    rw [hb] at h;simp only [cond_true] at h⊢;injection h with h;injection h with _ _ J;exact ⟨_,rfl,J.symm,trivial⟩
  |_=>cases h
 |gh r Hl=>
  cases c with
  |gh cs vs=>
   have h:(match EW s m0 cs r with
    |some x=>some (Chunk.gh x vs)
    |none=>none)=some (.gh r Hl):=h
   show∃ps,(match Ba s m0 m' cs r with
    |some p=>some ((Hl=vs)::p)
    |none=>none)=some ps/\cp ps
   split at h;rename_i x U;injection h with h;injection h with h1 J;rw [h1] at U;obtain ⟨ps,e1,a1⟩:=wV (m':=m') U;rw [e1];exact ⟨_,rfl,J.symm,a1⟩;cases h
  |_=>cases h
 |pg=>cases h
 |gone=>cases h
def Px (s:sW)(m m0:Mem):Mem->Option Mem
 |[]=>some []
 |(j,o)::r=>(match lk j (inv s.ch) with
  |some k=>(match lk k m with
   |some c=>(match L1 s m0 k c o,Px s m m0 r with
    |some p,some q=>some ((j,p)::q)
    |_,_=>none)
   |none=>none)
  |none=>bif dt j s.vs then (match o with
   | .seq t _=>(match Px s m m0 r with
    |some q=>some ((j,.seq t [])::q)
    |none=>none)
   |_=>none) else none)
theorem EX {s:sW}{m m0 m':Mem}: ∀{r:Mem},Px s m m0 r=some r-> ∃ps,Pr s m m0 m' r=some ps/\cp ps
 |[],_=>⟨_,rfl,trivial⟩
 |(R,T)::r,h=>by
  unfold Px at h;unfold Pr;cases U:lk R (inv s.ch) with
  |some k=>
   rw [U] at h;simp only at h⊢;cases hc:lk k m with
   |none=>rw [hc] at h;cases h
   |some c=>
    rw [hc] at h;simp only at h⊢;cases hp:L1 s m0 k c T with
    |none=>rw [hp] at h;cases h
    |some p=>
     cases j:Px s m m0 r with
     |none=>rw [hp,j] at h;cases h
     |some q=>
      rw [hp,j] at h;injection h with h;injection h with o t;injection o with _ o;rw [o] at hp;rw [t] at j;obtain ⟨ps,e1,a1⟩:=L2 (m':=m') hp;obtain ⟨qs,I,J⟩:=EX (m':=m') j;rw [e1,I];exact ⟨_,rfl,a1.app J⟩
  |none=>
   rw [U] at h;simp only at h⊢;cases hb:dt R s.vs with
   |false=>rw [hb] at h;cases h
   |true=>
    rw [hb] at h;cases T with
    |seq t' iy=>
     simp only [cond_true] at h⊢;cases j:Px s m m0 r with
     |none=>rw [j] at h;cases h
     |some q=>
      rw [j] at h;injection h with h;injection h with o t;injection o with _ o;injection o with _ o;rw [t] at j;obtain ⟨qs,I,J⟩:=EX (m':=m') j;rw [I];exact ⟨_,rfl,o.symm,J⟩
    |_=>cases h
def St.re (s:sW)(own:List Nat)(st st':St):Option St:=
 bif s.okB st'.mem own then (match Jv s (s.m0 st.mem) st.fr st'.fr,Px s st.mem (s.m0 st.mem) st'.mem with
  |some p,some q=>some ⟨p,q,st'.nx⟩
  |_,_=>none) else none
theorem St.Od {s:sW}{own:List Nat}{st st':St}(h:st.re s own st'=some st'): ∃ps,st.cv s own st'=some ps/\cp ps:=by
 unfold St.re at h;unfold St.cv;cases j:s.okB st'.mem own with
 |false=>rw [j] at h;cases h
 |true=>
  rw [j] at h;simp only [cond_true] at h⊢;split at h;rename_i p q hp o;injection h with h;have r:p=st'.fr:=congrArg St.fr h;have t:q=st'.mem:=congrArg St.mem h;rw [r] at hp;rw [t] at o;obtain ⟨ps,I,J⟩:=Gq (m':=st'.mem) hp;obtain ⟨R,T,U⟩:=EX (m':=st'.mem) o;exact ⟨ps++R,by rw [I,T],J.app U⟩;cases h
variable {cx:Cx} {P:Ο} {N:Nat} {st st':St} {c x y:Code} {Q:abI->St->Prop}
theorem Le.re {own:List Nat}(ch:List (Nat×Nat))(vs:List Nat){st':St}(j:gU cx P N own)(o:st.re ⟨ch,vs,[],false⟩ own st'=some st'):Le cx st st':=by
 obtain ⟨t,p,r⟩:=St.Od o;exact Le.cv j.own (λh=>by cases h) p r
theorem Le.rz {own:List Nat}(ch:List (Nat×Nat))(vs:List Nat){st':St}(j:gU cx P N own)(o:cx.Ir)(p:st.re ⟨ch,vs,[],true⟩ own st'=some st'):Le cx st st':=by
 obtain ⟨I,r,t⟩:=St.Od p;exact Le.cv j.own (λ_=>o) r t
theorem HT.Gr {σ ρ:Type}{f:σ->Option (σ⊕ρ)}{s:σ}{r:ρ}(S:σ->St)(E:ρ->abI×St)(p:Le cx st (S s))(h:rounds f s=some r)(t:Q (E r).1 (E r).2)(round: ∀s x,f s=some x->(∀j,x= .inr j->Q (E j).1 (E j).2)->HT cx (S s) c (vV (λst'=> ∃o,x= .inl o/\Le cx st' (S o)) Q)):HT cx st (.loop c) Q:=p.ht (HT.S6 S E h t round)
end Go.Ide
namespace Go.Ide
section
variable {α β:Type}
def wc (F:(α->Option β)->α->Option β):Nat->α->Option β
 |0=>λ_=>none
 |n+1=>F (wc F n)
open Classical in
noncomputable def L3 (F:(α->Option β)->α->Option β)(a:α):Option β:=
 if h: ∃r,∃N,∀n,N<=n->wc F n a=some r then some (Classical.choose h) else none
theorem Di {F:(α->Option β)->α->Option β}{a:α}{r:β}:L3 F a=some r↔ ∃N,∀n,N<=n->wc F n a=some r:=by
 unfold L3;constructor;intro h;split at h;rename_i j;injection h with h;rw [<-h];exact abO j;cases h;rintro ⟨N,p⟩;have j: ∃r,∃N,∀n,N<=n->wc F n a=some r:=⟨r,N,p⟩;rw [dif_pos j];obtain ⟨t,o⟩:=abO j;have J:=p (max N t) (Nat.le_max_left _ _);have I:=o (max N t) (Nat.le_max_right _ _);rw [J] at I;exact I.symm
theorem L4 {F:(α->Option β)->α->Option β}{C:α->β->Prop}(step: ∀j,(∀x r,j x=some r->C x r)-> ∀x r,F j x=some r->C x r){a:α}{r:β}(o:L3 F a=some r):C a r:=by
 obtain ⟨N,p⟩:=Di.1 o;have: ∀n x r,wc F n x=some r->C x r:=by
  intro n;induction n with
  |zero=>intro x r h;cases h
  |succ n ih=>intro x r h;exact step _ ih x r h
 exact this N a r (p N (ς _))
end
end Go.Ide
namespace Go.Ide
theorem Jw {P:Ο}{f:aaF}{s sep:List UInt8}{xs:List (List UInt8)}{T:Ι}(aa:kx P f)(h0:0<xs.length)(h1:xs.length<=maxLen)(h: ∀(w:Ε) (S:Nat->Prop),adm w S->aaW P f #[.string ⟨s.toArray⟩,.string ⟨sep.toArray⟩] w λe w'=>e= .returned (.slice (some ⟨w.heap.size,0,none⟩) xs.length xs.length)/\w'=w.alloc (.cells (xs.map λx=>Value.string ⟨x.toArray⟩).toArray T)):
 CallOK P f [.bZ .str s,.bZ .str sep] [⟨true,.sl .str,xs⟩] []:=by
 refine ⟨aa,λw S vals I F hB hI hS RM r hgl=> ?_⟩;obtain ⟨v1,J,A1,A2,rfl,rfl,⟨e1,Py,k1,r1⟩,⟨e2,N6,k2,r2⟩⟩: ∃v1 J A1 A2,vals=[v1,J]/\I=[A1,A2]/\xB S w (.bZ .str s) v1 A1/\xB S w (.bZ .str sep) J A2:=by
  cases vals with
  |nil=>exact r.elim
  |cons v1 vals=>
   cases I with
   |nil=>exact r.elim
   |cons A1 I=>
    obtain ⟨h1,r⟩:=r;cases vals with
    |nil=>exact r.elim
    |cons J vals=>
     cases I with
     |nil=>exact r.elim
     |cons A2 I=>
      obtain ⟨h2,r⟩:=r;cases vals with
      |cons v3 vals=>exact r.elim
      |nil=>
       cases I with
       |cons A3 I=>exact r.elim
       |nil=>exact ⟨v1,J,A1,A2,rfl,rfl,h1,h2⟩
 have q1:v1= .string ⟨s.toArray⟩:=by
  have k1:Py=[v1]:=k1;have r1:Py=[.string ⟨s.toArray⟩]:=r1;rw [k1] at r1;injection r1
 have q2:J= .string ⟨sep.toArray⟩:=by
  have k2:N6=[J]:=k2;have r2:N6=[.string ⟨sep.toArray⟩]:=r2;rw [k2] at r2;injection r2
 subst e1 e2 q1 q2;have hF: ∀b,b ∉ F:=λb R=>by
  obtain ⟨γ,o,_⟩:=(hB b).1 R;simp at o
 refine (h w S hgl).mono λe w' ⟨he,hw⟩=> ?_;subst hw;let γ:List Nat->Option Nat:=λp=>if p=[] then some w.heap.size else none
 have o: ∀p b,γ p=some b->p=[]/\b=w.heap.size:=λp b hp=>by
  simp only [γ] at hp;split at hp;rename_i e;injection hp with hp;exact ⟨e,hp.symm⟩
  cases hp
 have t:=aer w (xs.map λx=>Value.string ⟨x.toArray⟩).toArray T;have U:=acA F w (.cells (xs.map λx=>Value.string ⟨x.toArray⟩).toArray T);refine ⟨_,[γ],[w.heap.size],he,λb=> ?_,⟨by simp,λγ' hg p q b hp hq=> ?_⟩,⟨[_],⟨[γ],[],rfl,?_,rfl⟩,rfl⟩,λb R=> ?_,U,trivial⟩;constructor;intro R;simp at R;subst R;exact ⟨γ,by simp,[],rfl⟩;rintro ⟨γ',hg,p,hp⟩;simp at hg;subst hg;simp [(o p b hp).2];simp at hg;subst hg;rw [(o p b hp).1,(o q b hq).1];refine ⟨_,rfl,.inr ⟨_,γ,rfl,rfl,w.heap.size,xs.length,_,rfl,rfl,ς _,h0,t,by simp [aao],h1,λi hi=>⟨[.string ⟨xs[i].toArray⟩],λj v hv=> ?_,rfl⟩⟩⟩;cases j with
 |zero=>simp at hv;subst hv;simp [aao,hi]
 |succ j=>simp at hv
 simp at R;subst R;exact ⟨.inl (ς _),t.lt⟩
end Go.Ide
namespace Go.Ide
theorem Jx {P:Ο}{f:aaF}{s sep:List UInt8}{T:Ι}(j:kx P f)(U:s.length<4294967281)(o:1<=sep.length)(h: ∀(w:Ε) (S:Nat->Prop),adm w S->aaW P f #[.string ⟨s.toArray⟩,.string ⟨sep.toArray⟩] w λe w'=>e= .returned (.slice (some ⟨w.heap.size,0,none⟩) (acr ⟨s.toArray⟩ ⟨sep.toArray⟩+1) (acr ⟨s.toArray⟩ ⟨sep.toArray⟩+1))/\w'=w.alloc (.cells ((Lib.splitB ⟨sep.toArray⟩ 0 (acr ⟨s.toArray⟩ ⟨sep.toArray⟩) ⟨s.toArray⟩).map Value.string).toArray T)):
 CallOK P f [.bZ .str s,.bZ .str sep] [⟨true,.sl .str,aeL s sep⟩] []:=by
 have r:=Lib.splitB_data ⟨sep.toArray⟩ 0 (acr ⟨s.toArray⟩ ⟨sep.toArray⟩) ⟨s.toArray⟩;have t:=Lib.splitB_all ⟨sep.toArray⟩ o 0 _ ⟨s.toArray⟩ rfl;have hc:=Lib.countB_le ⟨sep.toArray⟩ o _ ⟨s.toArray⟩ (ς _);have I:(ByteArray.mk s.toArray).size=s.length:=rfl;have e:aeL s sep=(Lib.splitB ⟨sep.toArray⟩ 0 (acr ⟨s.toArray⟩ ⟨sep.toArray⟩) ⟨s.toArray⟩).map (·.data.toList):=r.symm;have p:(aeL s sep).length=acr ⟨s.toArray⟩ ⟨sep.toArray⟩+1:=by rw [e,Ϝ,t]
 refine Jw (T:=T) j (by omega) (by rw [p];unfold maxLen;omega) λw S J=>(h w S J).mono λen w' ⟨q1,R⟩=>⟨by rw [p];exact q1,?_⟩;rw [R,e,ahm];rfl
end Go.Ide
namespace Go.Ide
def Ty.simple:Ty->Bool
 | .int _=>true
 | .bool=>true
 | .str=>true
 |_=>false
def Be:(t:Ty)->t.D->π
 | .int k,n=> .int k n
 | .bool,b=> .bool b
 | .str,s=> .string ⟨s.toArray⟩
 |_,_=> .nilIface
theorem oV {S:Nat->Prop}{w:Ε}{t:Ty}{x:t.D}{v:π}(h:t.simple=true):(∃cs,dQ t cs v/\cn S w t cs x)↔v=Be t x:=by
 cases t with
 |int k=>
  constructor;rintro ⟨cs,o,j⟩;have o:cs=[v]:=o;have j:cs=[.int k x]:=j;rw [o] at j;injection j;rintro rfl;exact ⟨[.int k x],rfl,rfl⟩
 |bool=>
  constructor;rintro ⟨cs,o,j⟩;have o:cs=[v]:=o;have j:cs=[.bool x]:=j;rw [o] at j;injection j;rintro rfl;exact ⟨[.bool x],rfl,rfl⟩
 |str=>
  constructor;rintro ⟨cs,o,j⟩;have o:cs=[v]:=o;have j:cs=[.string ⟨x.toArray⟩]:=j;rw [o] at j;injection j;rintro rfl;exact ⟨[.string ⟨x.toArray⟩],rfl,rfl⟩
 |_=>cases h
theorem we {S:Nat->Prop}{w:Ε}: ∀{asx:List TD} {vals:List π} {As:List (List (List Nat->Option Nat))},(∀a∈asx,a.t.simple=true)->oN S w (immArgs asx) vals As->vals=asx.map (λa=>Be a.t a.x)/\As.flatten=[]
 |[],vals,As,_,h=>by
  cases vals<;>cases As<;>first|exact ⟨rfl,rfl⟩|exact h.elim
 |a::asx,vals,As,j,h=>by
  cases vals with
  |nil=>exact h.elim
  |cons v vals=>
   cases As with
   |nil=>exact h.elim
   |cons A As=>
    obtain ⟨⟨o,p⟩,r⟩:=h;obtain ⟨I,J⟩:=we (asx:=asx) (λb R=>j b (ύ _ R)) r;refine ⟨by rw [aaa,I,(oV (j a ϴ)).1 p],by rw [aaR,o,J];rfl⟩
theorem wg {S:Nat->Prop}{w:Ε}: ∀{asx:List TD} {vals:List π} {As:List (List (List Nat->Option Nat))},asx.length=vals.length->asx.length=As.length->iA S w (immArgs asx) vals As []
 |[],[],[],_,_=>trivial
 |a::asx,v::vals,A::As,j,o=>wg (asx:=asx) (by simpa using j) (by simpa using o)
 |[],_::_,_,h,_=>by simp at h
 |[],[],_::_,_,h=>by simp at h
 |_::_,[],_,h,_=>by simp at h
 |_::_,_::_,[],_,h=>by simp at h
theorem Dj {S:Nat->Prop}{w:Ε}: ∀{asx:List Arg} {vals:List π} {As:List (List (List Nat->Option Nat))},oN S w asx vals As->asx.length=vals.length/\asx.length=As.length
 |[],[],[],_=>⟨rfl,rfl⟩
 |a::asx,v::vals,A::As,h=>by
  obtain ⟨j,o⟩:=Dj (asx:=asx) h.2;exact ⟨by simp [j],by simp [o]⟩
 |[],_::_,_,h=>h.elim
 |[],[],_::_,h=>h.elim
 |_::_,[],_,h=>h.elim
 |_::_,_::_,[],h=>h.elim
theorem qQ {S:Nat->Prop}{w:Ε}: ∀{rs:List TD},(∀a∈rs,a.t.simple=true)->nw S w (rs.map λr=>⟨false,r.t,r.x⟩) (rs.map λa=>Be a.t a.x) []
 |[],_=>rfl
 |r::rs,j=>⟨[],[],rfl,(show if false=true then _ else _ from by
  rw [if_neg (by simp)];exact ⟨rfl,(oV (j r ϴ)).2 rfl⟩),qQ (rs:=rs) λa o=>j a (ύ _ o)⟩
theorem bU.below {F:List Nat}{w w':Ε}(h:acZ w.heap.size w w'):bU F w w':=
 ⟨h.os,h.tape,h.output,h.size,λb j _=>h.block b j,λb arr j=>⟨arr,j.bJ (h.block b j.lt),rfl⟩⟩
theorem qk {P:Ο}{f:aaF}{ps rs:List TD}(p:kx P f)(U: ∀a∈ps,a.t.simple=true)(h2: ∀a∈rs,a.t.simple=true)(h: ∀(w:Ε) (S:Nat->Prop),adm w S->aaW P f (ps.map λa=>Be a.t a.x).toArray w λe w'=>(∃v,e= .returned v/\zW (rs.map λa=>Be a.t a.x) v)/\acZ w.heap.size w w'):
 CallOK P f (immArgs ps) (rs.map λr=>⟨false,r.t,r.x⟩) []:=by
 refine ⟨p,λw S vals As F hB hI hS RM R I=> ?_⟩;obtain ⟨e1,e2⟩:=we U R;have o:=Dj R;have T:(immArgs ps).length=ps.length:=by unfold immArgs;simp
 subst e1;have hF: ∀b,b ∉ F:=λb J=>by
  obtain ⟨γ,j,_⟩:=(hB b).1 J;rw [e2] at j;simp at j
 refine (h w S I).mono λe w' ⟨⟨v,he,hv⟩,hw⟩=> ?_;exact ⟨v,[],[],he,λb=>by simp,⟨List.Pairwise.nil,λγ j=>by simp at j⟩,⟨_,qQ h2,hv⟩,λb J=>by simp at J,bU.below hw,wg (by rw [<-T,o.1]) (by rw [<-T,o.2])⟩
end Go.Ide
namespace Go.Ide
theorem Am {w:Ε}{j:Addr}{v:π}(h:w.cell? j=some v):j=⟨j.block,j.off,none⟩:=by
 obtain ⟨b,o,s⟩:=j;cases s with
 |none=>rfl
 |some s=>
  unfold ad2 at h;simp only [afq,if_true] at h;split at h<;>cases h
theorem L5 {P:Ο}{f:aaF}{xs:List (List UInt8)}{sep r:List UInt8}(Pz:kx P f)(h0:xs=[]-> ∀(a:Option Addr) (c:Nat) (w:Ε),aaW P f #[.slice a 0 c,.string ⟨sep.toArray⟩] w λe w'=>e= .returned (.string ⟨r.toArray⟩)/\w'=w)(h1: ∀(bk o c:Nat) (w:Ε),(∀(j:Nat) x,(xs.map λx=>ByteArray.mk x.toArray)[j]? =some x->w.cell? ⟨bk,o+j,none⟩=some (.string x))->bk<w.heap.size->xs.length<=c->aaW P f #[.slice (some ⟨bk,o,none⟩) xs.length c,.string ⟨sep.toArray⟩] w λe w'=>e= .returned (.string ⟨r.toArray⟩)/\acZ w.heap.size w w'):
 CallOK P f [.bZ (.sl .str) xs,.bZ .str sep] [⟨false,.str,r⟩] []:=by
 refine ⟨Pz,λw S vals T F hB hI hS RM p hgl=> ?_⟩;obtain ⟨v1,v2,A1,A2,rfl,rfl,⟨e1,Py,k1,r1⟩,⟨e2,N6,k2,r2⟩⟩: ∃v1 v2 A1 A2,vals=[v1,v2]/\T=[A1,A2]/\xB S w (.bZ (.sl .str) xs) v1 A1/\xB S w (.bZ .str sep) v2 A2:=by
  cases vals with
  |nil=>exact p.elim
  |cons v1 vals=>
   cases T with
   |nil=>exact p.elim
   |cons A1 T=>
    obtain ⟨h1,p⟩:=p;cases vals with
    |nil=>exact p.elim
    |cons v2 vals=>
     cases T with
     |nil=>exact p.elim
     |cons A2 T=>
      obtain ⟨h2,p⟩:=p;cases vals with
      |cons v3 vals=>exact p.elim
      |nil=>
       cases T with
       |cons A3 T=>exact p.elim
       |nil=>exact ⟨v1,v2,A1,A2,rfl,rfl,h1,h2⟩
 have q2:v2= .string ⟨sep.toArray⟩:=(oV (t:= .str) rfl).1 ⟨N6,k2,r2⟩;obtain ⟨a,cap,hcs,hcap,R⟩:=r1;have q1:v1= .slice a xs.length cap:=by
  have k1:Py=[v1]:=k1;rw [k1] at hcs;injection hcs
 subst e1 e2 q1 q2;have hF: ∀b,b ∉ F:=λb hb=>by
  obtain ⟨γ,U,_⟩:=(hB b).1 hb;simp at U
 have aa: ∀e w',(e=Ending.returned (.string ⟨r.toArray⟩)/\acZ w.heap.size w w')-> ∃v A' F',e= .returned v/\vi A' F'/\pM A'/\Es (je S w w' F') w' [⟨false,.str,r⟩] v A'/\(∀b,b∈F'->(w.heap.size<=b\/um b [.bZ (.sl .str) xs,.bZ .str sep] [[],[]])/\b<w'.heap.size)/\
  bU F w w'/\iA (je S w w' F') w' [.bZ (.sl .str) xs,.bZ .str sep] [.slice a xs.length cap,.string ⟨sep.toArray⟩] [[],[]] []:=λe w' ⟨he,hw⟩=>
  ⟨_,[],[],he,λb=>by simp,⟨List.Pairwise.nil,λγ U=>by simp at U⟩,⟨_,qQ (rs:=[⟨.str,r⟩]) (by simp [Ty.simple]),rfl⟩,λb hb=>by simp at hb,bU.below hw,trivial⟩
 by_cases hx:xs=[];have h0:=h0 hx a cap w;have e:xs.length=0:=by rw [hx];rfl
 show aaW P f #[.slice a xs.length cap,.string ⟨sep.toArray⟩] w _;rw [e];rw [e] at aa;exact h0.mono λe w' ⟨he,hw⟩=>aa e w' ⟨he,hw▸afL _ _⟩;have IS:=List.length_pos_iff.2 hx;obtain ⟨ad,es,ea,hs,ab,kK⟩:=R 0 IS;have Co:es=[.string ⟨xs[0].toArray⟩]:=kK;have zT:=ab 0 (.string ⟨xs[0].toArray⟩) (by rw [Co];rfl);have ae:=Am (show w.cell? ad=some _ by simpa [ab3,aao] using zT);refine (show aaW P f #[.slice a xs.length cap,.string ⟨sep.toArray⟩] w _ from ?_);rw [ea,ae];refine (h1 ad.block ad.off cap w (λj x hj=> ?_) (hS _ hs).1 hcap).mono λe w' h=>by have:=aa e w' h;rw [ea,ae] at this;exact this
 rw [List.getElem?_map] at hj;cases Hf:xs[j]? with
 |none=>rw [Hf] at hj;cases hj
 |some y=>
  rw [Hf] at hj;injection hj with hj;subst hj;obtain ⟨hlt,hy⟩:=ω.1 Hf;obtain ⟨Lh,es',I,_,J,S9⟩:=R j hlt;have:Lh=ad:=by rw [ea] at I;injection I with I;exact I.symm
  subst this;have WA:es'=[.string ⟨xs[j].toArray⟩]:=S9;have:=J 0 (.string ⟨xs[j].toArray⟩) (by rw [WA];rfl);rw [hy] at this;rw [<-this]
  congr 1
  unfold ab3;simp only [aao,adT,Ϭ];split;rename_i e;subst e;rw [Ϭ];exact ae.symm;rfl
end Go.Ide
namespace Go.Ide
def Oe (i o:Nat):List (Nat×Nat×Nat)->Option Nat
 |[]=>none
 |(j,p,k)::r=>bif Β i j&&Β o p then some k else Oe i o r
def wW (k:Nat):List (Nat×Nat×Nat)->Option (Nat×Nat)
 |[]=>none
 |(i,o,j)::r=>bif Β k j then some (i,o) else wW k r
def L6 (c:Nat)(T:List (Nat×Nat×Nat)):bI->bI
 | .row j i o=>bif Β j c then (match Oe i o T with
  |some k=> .all k
  |none=> .row j i o) else .row j i o
 |x=>x
def Zb (c:Nat)(T:List (Nat×Nat×Nat)):bK->bK
 | .one x=> .one (L6 c T x)
 | .agg j=> .agg (j.map (L6 c T))
 | .AA o=> .AA (o.map λp=>(p.1,p.2.map (L6 c T)))
 |v=>v
def L7 (c:Nat)(T:List (Nat×Nat×Nat)):Chunk->Chunk
 | .box cs=> .box (cs.map (L6 c T))
 |j=>j
def Dk (t:Ty)(xs:List t.D):List (Nat×Nat×Nat)->Option Mem
 |[]=>some []
 |(i,o,k)::r=>(match ep t (xs.getD i t.fm) o,Dk t xs r with
  |some ⟨e,j⟩,some m=>some ((k,.seq e j)::m)
  |_,_=>none)
def Bf (n:Nat):List (Nat×Nat×Nat)->List Prop
 |[]=>[]
 |(i,_,_)::r=>(i<n)::Bf n r
def Of (own:List Nat)(c:Nat)(T:List (Nat×Nat×Nat))(st:St):Option (St×List Prop):=
 match lk c st.mem with
 |some (.seq t j)=>bif !(dt c own)&&((T.map λp=>p.2.2).all (λk=> !(EN k st.mem))&&(j7 (T.map λp=>p.2.2)&&T.all λp=>match Oe p.1 p.2.1 T with
  |some k=>Β k p.2.2
  |none=>false)) then (match Dk t j T with
  |some m=>some (⟨st.fr.map (λp=>(p.1,Zb c T p.2)),(c,.gone)::(m++st.mem.map λp=>(p.1,L7 c T p.2)),st.nx+T.length⟩,Bf j.length T)
  |none=>none) else none
 |_=>none
theorem Gs {i o k:Nat}: ∀{T:List (Nat×Nat×Nat)},Oe i o T=some k->(i,o,k)∈T
 |(p,t,I)::r,h=>by
  unfold Oe at h;cases j:(Β i p&&Β o t) with
  |true=>
   rw [j] at h;simp only [κ] at j;injection h with h;rw [cg j.1,cg j.2,h];simp
  |false=>
   rw [j] at h;exact ύ _ (Gs h)
theorem sI {i o k:Nat}: ∀{T:List (Nat×Nat×Nat)},wW k T=some (i,o)->(i,o,k)∈T
 |(J,R,p)::r,h=>by
  unfold wW at h;cases j:Β k p with
  |true=>
   rw [j] at h;injection h with h;injection h with t I;rw [cg j,t,I];simp
  |false=>
   rw [j] at h;exact ύ _ (sI h)
theorem Jy {i o k:Nat}: ∀{T:List (Nat×Nat×Nat)},(T.map λp=>p.2.2).Nodup->(i,o,k)∈T->wW k T=some (i,o)
 |(i',o',U)::r,t,h=>by
  unfold wW;rw [aaa,aba] at t;cases I:Β k U with
  |true=>
   have hk:=cg I;rcases ϖ.1 h with h|h
   injection h with J j;injection j with j R;rw [J,j];rfl
   exact absurd (Ϣ.2 ⟨_,h,by simp [hk]⟩) t.1
  |false=>
   rcases ϖ.1 h with h|h
   injection h with J j;injection j with j R
   subst R;rw [show Β k k=true from by simp] at I;cases I;exact Jy t.2 h
theorem yg {t:Ty}{xs:List t.D}: ∀{T:List (Nat×Nat×Nat)} {m:Mem} {k:Nat},Dk t xs T=some m->
 (wW k T=none->lk k m=none)/\ ∀i o,wW k T=some (i,o)-> ∃e ys,ep t (xs.getD i t.fm) o=some ⟨e,ys⟩/\lk k m=some (.seq e ys)
 |[],m,k,h=>by
  simp only [Dk] at h;injection h with h;subst h;exact ⟨λ_=>rfl,λi o h=>by cases h⟩
 |(i',o',J)::r,m,k,h=>by
  simp only [Dk] at h;split at h;rename_i e ys m' R U;injection h with h;subst h;obtain ⟨j,p⟩:=yg (k:=k) U;unfold wW;rw [bO];by_cases I:k=J;subst I;rw [show Β k k=true from by simp,if_pos rfl];exact ⟨λh=>(by cases h),λi o h=>(by injection h with h;injection h with h3 h4;subst h3 h4;exact ⟨e,ys,R,rfl⟩)⟩;rw [show Β k J=false from by rw [Bool.eq_false_iff];intro q;exact I (cg q),if_neg I];exact ⟨j,p⟩;cases h
theorem EY {α β:Type}(f:α->β)(k:Nat): ∀l:List (Nat×α),lk k (l.map λp=>(p.1,f p.2))=(lk k l).map f
 |[]=>rfl
 |(j,v)::l=>by
  rw [aaa,bO,bO,EY f k l];split<;>rfl
theorem yh {n:Nat}: ∀{T:List (Nat×Nat×Nat)},cp (Bf n T)-> ∀p∈T,p.1<n
 |[],_,p,hp=>by simp at hp
 |(i,o,k)::r,h,p,hp=>by
  obtain ⟨j,t⟩:i<n/\cp (Bf n r):=h;rcases ϖ.1 hp with rfl|hp
  exact j;exact yh t p hp
theorem HE {c:Nat}{T:List (Nat×Nat×Nat)}{ch:Chunk}{p:List Nat}:(L7 c T ch).owns p↔ch.owns p:=by
 cases ch<;>exact Iff.rfl
theorem Le.take {cx:Cx}{st st':St}{own:List Nat}{cs:List Prop}(c:Nat)(T:List (Nat×Nat×Nat))(ho:cx.own.map aav=own)(he:Of own c T st=some (st',cs))(hc:cp cs):Le cx st st':=by
 intro g a w hs;unfold Of at he;split at he;rename_i t xs hl;cases hb:(!(dt c own)&&((T.map λp=>p.2.2).all (λk=> !(EN k st.mem))&&(j7 (T.map λp=>p.2.2)&&T.all λp=>match Oe p.1 p.2.1 T with|some k=>Β k p.2.2|none=>false))) with
 |false=>rw [hb] at he;cases he
 |true=>
  rw [hb,cond_true] at he;simp only [κ,aag] at hb;obtain ⟨uB,PA,uq,hT⟩:=hb;split at he;rename_i m hm;injection he with he;injection he with he1 WB;subst he1 WB;have uq:=iB uq;have hbd:=yh hc;have hf: ∀p∈T,lk p.2.2 st.mem=none:=λp hp=>by
   have:=ϣ.1 PA p.2.2 (Ϣ.2 ⟨p,hp,rfl⟩);simp only [aag] at this;unfold EN at this;split at this;cases this
   assumption
  have WC: ∀p∈T,p.2.2≠c:=λp hp e=>by
   have:=hf p hp;rw [e,hl] at this;cases this
  have Zc: ∀i o k,(i,o,k)∈T->Oe i o T=some k:=λi o k hp=>by
   have:=ϣ.1 hT _ hp;simp only at this;split at this;rename_i k' oF;rw [oF,cg this];cases this
  let g':GM:=⟨λk p=>match wW k T with
   |some (i,o)=>g.f c (i::o::p)
   |none=>g.f k p⟩
  have gK: ∀{k i o} p,wW k T=some (i,o)->g'.f k p=g.f c (i::o::p):=λ {k i o} p h=>by
   show (match wW k T with|some (i,o)=>g.f c (i::o::p)|none=>g.f k p)=_;rw [h]
  have gN: ∀{k},wW k T=none->g'.f k=g.f k:=λ {k} h=>by
   funext p
   show (match wW k T with|some (i,o)=>g.f c (i::o::p)|none=>g.f k p)=_;rw [h]
  have kN: ∀{k},lk k st.mem≠none->wW k T=none:=λ {k} h=>by
   cases R:wW k T with
   |none=>rfl
   |some p=>exact absurd (hf _ (sI (i:=p.1) (o:=p.2) R)) h
  let m':Mem:=(c,.gone)::(m++st.mem.map λp=>(p.1,L7 c T p.2));have mC:lk c m'=some .gone:=by show lk c ((c,Chunk.gone)::_)=_;rw [bO,if_pos rfl]
  have mK: ∀{k i o},wW k T=some (i,o)-> ∃e J,ep t (xs.getD i t.fm) o=some ⟨e,J⟩/\lk k m'=some (.seq e J):=λ {k i o} h=>by
   obtain ⟨e,J,r,U⟩:=(yg (k:=k) hm).2 i o h;refine ⟨e,J,r,?_⟩;show lk k ((c,Chunk.gone)::_)=_;rw [bO,if_neg (WC _ (sI h)),cF,U];rfl
  have mN: ∀{k},wW k T=none->k≠c->lk k m'=(lk k st.mem).map (L7 c T):=λ {k} h iH=>by
   show lk k ((c,Chunk.gone)::_)=_;rw [bO,if_neg iH,cF,(yg (k:=k) hm).1 h,EY];rfl
  have live: ∀{k p ch b},lk k m'=some ch->ch.owns p->g'.f k p=some b-> ∃k0 p0 I,lk k0 st.mem=some I/\I.owns p0/\g.f k0 p0=some b/\(wW k T=none->k0=k/\p0=p)/\ ∀i o,wW k T=some (i,o)->k0=c/\p0=i::o::p:=λ {k p ch b} r U h3=>by
   cases R:wW k T with
   |some q=>
    obtain ⟨i,o⟩:=q;rw [gK p R] at h3;exact ⟨c,i::o::p,_,hl,trivial,h3,λh=>(by cases h),λi' o' h=>(by injection h with h;injection h with h4 h5;rw [h4,h5];exact ⟨rfl,rfl⟩)⟩
   |none=>
    by_cases e:k=c;subst e;rw [mC] at r;injection r with r;subst r;exact U.elim
    rw [mN R e] at r;cases h4:lk k st.mem with
    |none=>rw [h4] at r;cases r
    |some I=>
     rw [h4] at r;injection r with r;subst r;rw [gN R] at h3;exact ⟨k,p,I,h4,HE.1 U,h3,λ_=>⟨rfl,rfl⟩,λi o h=>(by cases h)⟩
  have safe: ∀b,cx.safe g st.mem w b->cx.safe g' m' w b:=λb ⟨r,U,h3⟩=>⟨r,U,λ⟨k,p,ch,q1,q2,q3⟩=>by
   obtain ⟨k0,p0,I,r1,r2,r3,_⟩:=live q1 q2 q3;exact h3 ⟨k0,p0,I,r1,r2,r3⟩⟩
  have od: ∀k,lk k st.mem≠none->lk k m'≠none/\g'.f k=g.f k:=λk h=>by
   refine ⟨?_,gN (kN h)⟩;by_cases e:k=c;subst e;rw [mC];simp;rw [mN (kN h) e];cases h4:lk k st.mem with
   |none=>exact absurd h4 h
   |some I=>simp
  have Jz: ∀k ty J,lk k st.mem≠none->lk k m'=some (.seq ty J)->lk k st.mem=some (.seq ty J):=λk ty J h r=>by
   by_cases e:k=c;subst e;rw [mC] at r;cases r;rw [mN (kN h) e] at r;cases h4:lk k st.mem with
   |none=>exact absurd h4 h
   |some I=>
    rw [h4] at r;injection r with r;cases I<;>first|exact congrArg some r|cases r
  have PB: ∀k ty J i cs ks,lk k st.mem≠none->lk k m'=some (.pg ty J i cs ks)->lk k st.mem=some (.pg ty J i cs ks):=λk ty J i cs ks h r=>by
   by_cases e:k=c;subst e;rw [mC] at r;cases r;rw [mN (kN h) e] at r;cases h4:lk k st.mem with
   |none=>exact absurd h4 h
   |some I=>
    rw [h4] at r;injection r with r;cases I<;>first|exact congrArg some r|cases r
  have stays:iO g g' st.mem m' (cx.safe g st.mem w) (cx.safe g' m' w) w w:={
   safe:=λb h=>⟨safe b h,rfl⟩
   od:=λk h=>⟨(od k h).1,by show g'.f k []=g.f k [];rw [(od k h).2]⟩
   old:=λk ty J h r=>⟨J,by
    rcases r with r|⟨i,cs,ks,r⟩
    exact .inl (Jz k ty J h r);exact .inr ⟨i,cs,ks,PB k ty J i cs ks h r⟩,rfl⟩
   dA:=λk ty J b arr _ _ _ hb=>⟨arr,hb,rfl⟩
   Cg:=λk h=>(od k h).2
   rows:=λk ty J h r=>⟨J,Jz k ty J h r,cL.refl _ _,λi o b arr _ hb=>⟨arr,hb,rfl⟩⟩}
  have cell: ∀x v,CR g st.mem (cx.safe g st.mem w) w x v->CR g' m' (cx.safe g' m' w) w (L6 c T x) v:=λx v h=>by
   cases x with
   |row c' i o=>
    simp only [L6];cases hb:Β c' c with
    |false=>exact aeE stays h
    |true=>
     have SK:=cg hb;subst SK;rw [cond_true];cases R:Oe i o T with
     |none=>exact aeE stays h
     |some k=>
      have zx:=Gs R;have D0:=Jy uq zx;obtain ⟨e,J,r,U⟩:=mK D0;obtain ⟨_,h4,h5⟩:=h;obtain ⟨hi,h6⟩:=h5 t xs hl;refine ⟨by rw [U];simp,h4,λt' RC qD=> ?_⟩;have qD:=dH.toSeq U qD;rw [U] at qD;injection qD with qD;injection qD with q1 q2;subst q1;have q2:=eq_of_heq q2;subst q2;have:=h6 e J r;show jb (g'.f k []) w e.size J.length v;rw [gK [] D0];exact this
   |_=>exact aeE stays h
  have cells: ∀xs vs,cc (CR g st.mem (cx.safe g st.mem w) w) xs vs->cc (CR g' m' (cx.safe g' m' w) w) (xs.map (L6 c T)) vs:=λxs=>by
   induction xs with
   |nil=>intro vs h;cases vs with
    |nil=>trivial
    |cons=>exact h.elim
   |cons x xs ih=>intro vs h;cases vs with
    |nil=>exact h.elim
    |cons v vs=>exact ⟨cell x v h.1,ih vs h.2⟩
  have WD: ∀(vs:List (Bool×List bI)) (us:List π),cc (λt v=>CV g st.mem (cx.safe g st.mem w) w t.1 t.2 v) vs us->cc (λt v=>CV g' m' (cx.safe g' m' w) w t.1 t.2 v) (vs.map λp=>(p.1,p.2.map (L6 c T))) us:=λvs=>by
   induction vs with
   |nil=>intro us U;cases us with
    |nil=>trivial
    |cons=>exact U.elim
   |cons p vs ih=>
    intro us U;cases us with
    |nil=>exact U.elim
    |cons u us=>
     refine ⟨?_,ih us U.2⟩;have h3:=U.1;obtain ⟨ag,J⟩:=p;show CV g' m' _ w ag (J.map (L6 c T)) u;unfold CV at h3⊢;cases ag with
     |true=>
      obtain ⟨Hl,e,h4⟩:=h3;exact ⟨Hl,e,cells J Hl h4⟩
     |false=>
      cases J with
      |nil=>exact h3.elim
      |cons y J=>
       cases J with
       |nil=>exact cell y u h3
       |cons=>exact h3.elim
  refine ⟨g',hs.defers.bJ stays.safe,hs.size,λq v hv=> ?_,λk ch R=> ?_,λk k' p p' ch pL b r U h3 h4 h5 h6=> ?_,λk p ch b r U h3=> ?_,λk p ch b r U h3=> ?_,hs.bJ,λp hp=> ?_,hs.gl⟩;have hv:lk q (st.fr.map λp=>(p.1,Zb c T p.2))=some v:=hv;rw [EY] at hv;cases hq:lk q st.fr with
  |none=>rw [hq] at hv;cases hv
  |some v0=>
   rw [hq] at hv;injection hv with hv;subst hv;have h:=hs.fr q v0 hq;cases v0 with
   |one x=>exact cell x _ h
   |agg J=>
    obtain ⟨vs,e,U⟩:=h;exact ⟨vs,e,cells J vs U⟩
   |AA vs=>
    obtain ⟨us,e,U⟩:=h;exact ⟨us,e,WD vs us U⟩
   |Ce=>exact h
   |dS=>trivial
  have R:lk k m'=some ch:=R;cases D0:wW k T with
  |some q=>
   obtain ⟨i,o⟩:=q;obtain ⟨e,J,r,U⟩:=mK D0;rw [U] at R;injection R with R;subst R;have L8:=pX (g:=g) (m:=st.mem) (S:=cx.safe g st.mem w) (w:=w) (λk ch h=>hs.mem k ch h) hl (hbd _ (sI D0)) r;have e0:=gK [] D0;show match g'.f k [] with|none=>J=[]|some b=> ∃arr,dA w b arr/\eU _ w (g'.f k) e J arr
   rw [e0];cases hg:g.f c [i,o] with
   |none=>
    rw [hg] at L8;exact List.length_eq_zero_iff.1 L8
   |some b=>
    rw [hg] at L8;obtain ⟨arr,h3,h4⟩:=L8;refine ⟨arr,h3,λj hj=> ?_⟩;obtain ⟨es,h5,h6⟩:=h4 j hj;refine ⟨es,h5,?_⟩;have e1:(λp=>g'.f k (j::p))=λp=>g.f c (i::o::j::p):=by funext p;exact gK _ D0
    rw [e1];exact dw.bJ (λb hb=>⟨safe b hb,rfl⟩) e (λ_ _ _=>rfl) h6
  |none=>
   by_cases e:k=c;subst e;rw [mC] at R;injection R with R;subst R;trivial
   rw [mN D0 e] at R;cases h4:lk k st.mem with
   |none=>rw [h4] at R;cases R
   |some I=>
    rw [h4] at R;injection R with R;subst R;rw [gN D0];have h5:=hs.mem k I h4;cases I with
    |box J=>
     obtain ⟨b,arr,q1,q2,q3⟩:=h5;exact ⟨b,arr,q1,q2,cells _ _ q3⟩
    |_=>exact jk.stays stays (λ_ _ _ _=>rfl) h5
  obtain ⟨k0,p0,I,r1,r2,r3,r4,r5⟩:=live r U h5;obtain ⟨k1,p1,UI,s1,s2,s3,s4,s5⟩:=live h3 h4 h6;obtain ⟨e1,e2⟩:=hs.fY k0 k1 p0 p1 I UI b r1 r2 s1 s2 r3 s3;cases R:wW k T with
  |none=>
   obtain ⟨q1,q2⟩:=r4 R;cases oF:wW k' T with
   |none=>
    obtain ⟨q3,q4⟩:=s4 oF;rw [<-q1,<-q2,<-q3,<-q4];exact ⟨e1,e2⟩
   |some q=>
    obtain ⟨i,o⟩:=q;obtain ⟨q3,q4⟩:=s5 i o oF;have:k=c:=by rw [<-q1,e1,q3]
    subst this;rw [mC] at r;injection r with r;subst r;exact U.elim
  |some q=>
   obtain ⟨i,o⟩:=q;obtain ⟨q1,q2⟩:=r5 i o R;cases oF:wW k' T with
   |none=>
    obtain ⟨q3,q4⟩:=s4 oF;have:k'=c:=by rw [<-q3,<-e1,q1]
    subst this;rw [mC] at h3;injection h3 with h3;subst h3;exact h4.elim
   |some q'=>
    obtain ⟨i',o'⟩:=q';obtain ⟨q3,q4⟩:=s5 i' o' oF;rw [q2,q4] at e2;injection e2 with e3 e4;injection e4 with e4 e5;subst e3 e4;have u1:=Zc _ _ _ (sI R);have u2:=Zc _ _ _ (sI oF);rw [u1] at u2;injection u2 with u2;exact ⟨u2,e5⟩
  obtain ⟨k0,p0,I,r1,r2,r3,_⟩:=live r U h3;exact hs.iN k0 p0 I b r1 r2 r3;obtain ⟨k0,p0,I,r1,r2,r3,_⟩:=live r U h3;exact hs.lt k0 p0 I b r1 r2 r3;obtain ⟨q1,q2⟩:=hs.own p hp;obtain ⟨q3,q4⟩:=od p.1 q2;exact ⟨q4.trans q1,q3⟩;cases he
 cases he
end Go.Ide
namespace Go.Ide
theorem uG {S:Nat->Prop}{w:Ε}: ∀{asx:List TD},(∀a∈asx,a.t.simple=true)->oN S w (immArgs asx) (asx.map λa=>Be a.t a.x) (asx.map λ_=>[])
 |[],_=>trivial
 |a::asx,j=>⟨⟨rfl,(oV (j a ϴ)).2 rfl⟩,uG (asx:=asx) λb o=>j b (ύ _ o)⟩
theorem Gt {S:Nat->Prop}{w:Ε}: ∀{rs:List TD} {vs:List π} {A:List (List Nat->Option Nat)},(∀a∈rs,a.t.simple=true)->nw S w (rs.map λr=>⟨false,r.t,r.x⟩) vs A->vs=rs.map λa=>Be a.t a.x
 |[],[],_,_,_=>rfl
 |[],_::_,_,_,h=>h.elim
 |r::rs,[],_,_,h=>h.elim
 |r::rs,v::vs,A,o,⟨p,R,_,j,I⟩=>by
  have j:wB S w ⟨false,r.t,r.x⟩ v p:=j;unfold wB at j;rw [if_neg (by simp)] at j;rw [aaa,Gt (rs:=rs) (λa J=>o a (ύ _ J)) I,(oV (o r ϴ)).1 j.2]
theorem yi {α β:Type}: ∀(asx:List α),(asx.map λ_=>([]:List β)).flatten=[]
 |[]=>rfl
 |_::asx=>by rw [aaa,aaR,yi asx];rfl
theorem CallOK.simple {P:Ο}{f:aaF}{ps rs:List TD}(h:CallOK P f (immArgs ps) (rs.map λr=>⟨false,r.t,r.x⟩) [])(J: ∀a∈ps,a.t.simple=true)(R: ∀a∈rs,a.t.simple=true)(w:Ε)(T:adm w (There w)):
 aaW P f (ps.map λa=>Be a.t a.x).toArray w λe w'=>(∃v,e= .returned v/\zW (rs.map λa=>Be a.t a.x) v)/\acZ w.heap.size w w':=by
 refine (h.2 w (There w) _ (ps.map λ_=>[]) [] (λb=>by rw [yi];simp) (by rw [yi];exact ⟨List.Pairwise.nil,λγ I=>by simp at I⟩) (λb o=>⟨o,by simp⟩) (λb o=>by simp at o) (uG J) T).mono λe w' U=> ?_;obtain ⟨v,A',F',he,_,_,⟨vs,hv,j⟩,_,p,_⟩:=U;rw [Gt R hv] at j;exact ⟨⟨v,he,j⟩,p.os,p.tape,p.output,p.size,λk o=>p.block k o (by simp)⟩
end Go.Ide
namespace Go.Ide
def yj {α:Type}(f:List Int->α->Option α):Nat->List Int->α->Option α
 |0,_,s=>some s
 |m+1,j,s=>(f (j.take 4) s).bind λo=>yj f m (j.drop 4) o
def sJ {α:Type}(f:List Int->α->Option α)(xs:List Int)(s:α):Option α:=
 br (xs.length%4=0/\xs.length<=4194304) (yj f (xs.length/4) xs s)
structure ChunkFn (P:Ο)(fc fi:aaF):Prop where
 can:kx P fc
 WE:kx P fi
 call: ∃T1 T2:Ι,∀al len cap (w:Ε),aaW P fc #[.slice al len cap,.int .i64 4] w λe w'=>
  e= .returned (.func (.func fi) #[] #[.pointer (some ⟨w.heap.size,0,none⟩),.pointer (some ⟨w.heap.size+1,0,none⟩)])/\w'=(w.alloc (.cells #[.slice al len cap] T1)).alloc (.cells #[.int .i64 4] T2)
 iter: ∀(l Bs Bn:Nat) (al:Option Addr) (b off m cap:Nat),m<=1048576->4*m<=cap->(0<m->al=some ⟨b,off,none⟩)-> ∀(J:Nat->Ε->Prop),
  (∀k W,J k W->J k W.drew)->
  (∀k W,J k W->k<m->YieldAt adi 0 P l #[.slice (some ⟨b,off+4*k,none⟩) 4 4] W λe W'=>
   e= .returned (.bool true)/\J (k+1) W'/\W'.heap[Bs]? =W.heap[Bs]? /\W'.heap[Bn]? =W.heap[Bn]?)->
  ∀W:Ε,W.cell? ⟨Bs,0,none⟩=some (.slice al (4*m) cap)->W.cell? ⟨Bn,0,none⟩=some (.int .i64 4)->J 0 W->
  CallsIn adi 1 P fi #[.func (.yield l) #[] #[],.pointer (some ⟨Bs,0,none⟩),.pointer (some ⟨Bn,0,none⟩)] W λe W'=>(∃v,e= .returned v)/\J m W'
def ti:List Ϥ->List Nat
 |[]=>[]
 |o::r=>(match o.dst with
  |some t=>t::ti r
  |none=>ti r)
def uH:List Ϥ->Bool
 |[]=>true
 |o::r=>(match o.op with
  | .defer _=>false
  |_=>true)&&uH r
section
variable {P:Ο} {Q:abI->Act->Ε->Prop}
def uI (o:List Nat)(j:Array π)(a:Act):Prop:=a.tmps.size=j.size/\ ∀t,t ∉ o->a.tmps.getD t undef=j.getD t undef
theorem uI.put {j:List Nat}{p:Array π}{a:Act}(h:uI j p a)(d:Option Tmp)(I: ∀t,d=some t->t∈j)(v:π):uI j p (a.put d v):=by
 cases d with
 |none=>exact h
 |some t=>
  refine ⟨by simp [abL,h.1],λq r=> ?_⟩;have o:t≠q:=λe=>r (e▸I t rfl);rw [<-h.2 q r];simp [abL,ϐ,ϭ,o]
theorem EZ {l n:Nat}{J:List Nat}{U:Array π}{Q':abI->Act->Ε->Prop}{next j:Act->Ε->Prop}{o:Ϥ}{a:Act}{w:Ε}(hQ: ∀a w,¬Q .outgrown a w)(hp: ∀c a w,Q (.panic c) a w->Q' (.panic c) a w)(hd: ∀c,o.op≠ .defer c)(p: ∀t,o.dst=some t->t∈J)(ht:uI J U a)(r: ∀a' w',uI J U a'->next a' w'->j a' w')(h:o.wp P a w next Q\/(o.asks P a w/\LetsOut Q)):
 o.wpIn (Fence.wide.inRound l) n P a w j Q':=by
 rcases h with h|⟨_,a',w',h⟩
 refine ⟨λ_ _=>trivial,?_⟩;rw [show (o.semAt (Fence.wide.inRound l).round a.eval)=execOp a.eval o from ag2 _ _ _ hd];unfold acq at h;revert h;cases hr:(execOp a.eval o).run P w with
 |ok x w'=>
  cases x with
  |value v=>exact λh=>r _ _ (ht.put _ p v) h
  |skip=>exact λh=>r _ _ (ht.put _ p undef) h
  |defer d=>exact λh=>r _ _ (uI.put (a:={a with defers:=d::a.defers}) ht _ p undef) h
  |enter f args=>
   intro h;refine ⟨λR=>(by cases R),CallsIn.mono (F:=Fence.wide.inRound l) (show CallsIn (Fence.wide.inRound l) (n - 1) P f args w' _ from (callsIn_wide (n:=n - 1)).2 h) λe I T=> ?_⟩;cases e with
   |returned v=>exact r _ _ (ht.put _ p v) T
   |panicked=>exact hp _ _ _ T
   |outgrown=>obtain ⟨a0,w0,h0⟩:=T;exact absurd h0 (hQ _ _)
  |row f args=>
   intro h;refine ⟨λR=>(by cases R),λc cs _=> ?_⟩;obtain ⟨v,I,h1,h2⟩:=h c cs;exact ⟨v,I,r _ _ (ht.put _ p v) h1,stepsIn_wide.2 h2⟩
  |_=>exact λh=>h.elim
 |halt x w'=>
  cases x<;>first|exact λh=>h.elim|exact λh=>hp _ _ _ h
 exact absurd h (hQ a' w')
theorem yk: ∀{os:List Ϥ},uH os=true-> ∀o∈os,∀c,o.op≠ .defer c
 |[],_,o,j,_=>by simp at j
 |p::os,r,o,j,c=>by
  unfold uH at r;simp only [κ] at r;rcases ϖ.1 j with rfl|j
  intro e;rw [e] at r;cases r.1;exact yk r.2 o j c
theorem Dl {o:Ϥ}(t:Nat)(e:o.dst=some t): ∀{os:List Ϥ},o∈os->t∈ti os:=by
 intro os;induction os with
 |nil=>intro h;simp at h
 |cons p os ih=>
  intro h;simp only [ti];rcases ϖ.1 h with h|h
  rw [<-h,e];exact ϴ;cases hp:p.dst with
  |none=>exact ih h
  |some q=>exact ύ _ (ih h)
theorem nD {l n:Nat}{ops:List Ϥ}{T:Array π}(j: ∀a w,¬Q .outgrown a w)(p:uH ops=true): ∀{is:List Nat} {a:Act} {w:Ε},uI (ti ops) T a->wpOps P ops.toArray Q is a w->
 wpOpsIn (Fence.wide.inRound l) n P ops.toArray (λe a' w'=>Q e a' w'/\(e= .normal->uI (ti ops) T a')) is a w
 |[],a,w,ht,h=>⟨h,λ_=>ht⟩
 |i::is,a,w,ht,h=>by
  simp only [wpOps] at h;simp only [wpOpsIn];cases r:ops.toArray[i]? with
  |none=>rw [r] at h;exact nD j p ht h
  |some o=>
   rw [r] at h;simp only at h⊢;have I:o∈ops:=by
    rw [List.getElem?_toArray] at r;exact List.mem_of_getElem? r
   split;rename_i J;rw [if_pos J] at h;exact EZ j (λ_ _ _ U=>⟨U,λe=>by cases e⟩) (yk p o I) (λt e=>Dl t e I) ht (λ_ _ R h'=>nD j p R h') h;rename_i J;rw [if_neg J] at h;exact ⟨λ_ _=>trivial,nD j p (ht.put _ (λt e=>Dl t e I) undef) h⟩
end
section
variable {cx:Cx} {g:GM} {st:St} {w:Ε}
theorem cT.agree {a a':Act}(h:cT cx g st a w)(o:a'.tmps.size=a.tmps.size)(ht: ∀t,lk t st.fr≠none->a'.tmps.getD t undef=a.tmps.getD t undef)(p:zg cx g st.mem w a'.defers):cT cx g st a' w:=
 ⟨p,o.trans h.size,λt v j=>by rw [ht t (by rw [j];simp)];exact h.fr t v j,h.mem,h.fY,h.iN,h.lt,h.bJ,h.own,h.gl⟩
theorem Gu {α:Type}: ∀{l:List (Nat×α)} {t:Nat},lk t l≠none->t∈l.map aav
 |[],t,h=>absurd (fR t) h
 |(k,v)::l,t,h=>by
  rw [bO] at h;by_cases e:t=k;subst e;simp;rw [if_neg e] at h;exact ύ _ (Gu h)
theorem cT.apart {g':GM}{st':St}{a':Act}{w':Ε}{r:List Nat}(t: ∀b,b∈r↔Live g st.mem b)(I:cT {cx with w0:=w,S:=cx.safe g st.mem w,F:=r} g' st' a' w'){D:Nat}(j:D<w.heap.size)(J: ¬Live g st.mem D):
 w'.heap[D]? =w.heap[D]? /\ ¬Live g' st'.mem D:=by
 refine ⟨I.bJ.block D j λR=>J ((t D).1 R),λ⟨k,p,T,U,h2,h3⟩=> ?_⟩;rcases I.iN k p T D U h2 h3 with o|o
 exact absurd j (Nat.not_lt.2 o);exact J ((t D).1 o)
end
section
variable {S:Nat->Prop} {w:Ε}
theorem ints_at {J:Option Addr}{len cap:Nat}{xs:List Int}(h:cn S w cC [.slice J len cap] xs):len=xs.length/\len<=cap/\(0<len-> ∃b off,J=some ⟨b,off,none⟩):=by
 obtain ⟨a,c,e,R,t⟩:=h;injection e with e;injection e with T U e3;subst T U e3;refine ⟨rfl,R,λh0=> ?_⟩;obtain ⟨ad,es,ea,hs,j,r⟩:=t 0 h0;have I:es=[.int .i64 (xs[0]:Int)]:=r;have p:=j 0 (.int .i64 (xs[0]:Int)) (by rw [I];rfl);obtain ⟨b,o,s⟩:=ad;cases s with
 |none=>exact ⟨b,o,ea⟩
 |some s=>
  exfalso;simp only [aao,abf,Ϭ] at p;unfold ab3 at p;simp only [if_true] at p;unfold ad2 at p;simp only [afq,if_true] at p;split at p<;>cases p
theorem E0 {b off len cap k:Nat}{xs:List Int}(h:cn S w cC [.slice (some ⟨b,off,none⟩) len cap] xs)(hk:4*k+4<=xs.length):
 cn S w cC [.slice (some ⟨b,off+4*k,none⟩) 4 4] ((xs.drop (4*k)).take 4):=by
 obtain ⟨a,c,e,hc,r⟩:=h;injection e with e;injection e with J R T;subst J R T;have t:(show List Int from (xs.drop (4*k)).take 4).length=4:=by simp;omega
 refine ⟨some ⟨b,off+4*k,none⟩,4,?_,?_,λi U=> ?_⟩;show [Value.slice _ 4 4]=[Value.slice _ (ζ ((xs.drop (4*k)).take 4)) 4];rw [show ζ ((xs.drop (4*k)).take 4)=4 from t];exact Nat.le_of_eq t;have aa:i<4:=by rw [<-t];exact U
 obtain ⟨ad,es,I,hs,o,p⟩:=r (4*k+i) (by omega);injection I with I;subst I;refine ⟨⟨b,off+4*k,none⟩,es,rfl,hs,λj v hv=> ?_,?_⟩;have:=o j v hv;rw [cw] at this⊢;rw [<-this];simp only [aao]
 congr 2
 omega;have e:(show List Int from (xs.drop (4*k)).take 4)[i]=xs[4*k+i]'(by omega):=by simp
 show cn S w (.int .i64) es ((show List Int from (xs.drop (4*k)).take 4)[i]);rw [e];exact p
end
section
variable {cx:Cx} {st st1:St} {P:Ο} {N:Nat} {own:List Nat} {Q:abI->St->Prop}
theorem JA {P:Ο}{j:aaF}(h:kx P j){o:Ϥ}{p:Array Ι}{asx:Array aah}(t:o.op= .call {callee:= .value (.func j),args:=asx,argTypes:=p})(a:Act)(w:Ε):
 (execOp a.eval o).run P w= .ok (.enter j (asx.map a.eval)) w:=by
 obtain ⟨fn,I,J,R⟩:=h;have r:a.eval (.func j)= .func (.func j) #[] #[]:=rfl;simp only [execOp,t,resolve,r,aa3,Ϛ,ϵ,ϋ,invoke,callFunc,run_program,I];simp only [J,R];simp
def uJ (cx:Cx)(st st':St)(ops:List Ϥ)(j:Bool):Prop:=
 ∀g a w,cT cx g st a w-> ∀t,wpOps cx.P ops.toArray (λe o w'=>e= .normal/\ ∃g',cT cx g' st' o w') (match j with
  |true=>afY (cx.P.follows .mixedOrders) ops.toArray t
  |false=>abD ops.toArray.size) a (match j with
  |true=>{w with drawn:=w.drawn+1}
  |false=>w)
theorem uJ.draw {st st':St}(h:Nat){ops:List Ϥ}{hrs:List HR}{tds:List (List Nat)}{rs:List OH}{cs:List Prop}(J:gU cx P N own)(R:P.follows .mixedOrders=true)(j:Dg P N ops h hrs tds rs st=some (st',cs))(T:cp cs):uJ cx st st' ops true:=by
 obtain ⟨U,hN,_⟩:=J;subst U hN;intro g a w hs t;unfold Dg at j;cases o:((Β hrs.length h&&ϩ h ops.length)&&nM ops (hrs.map HR.D++tds) h 0 ops) with
 |false=>rw [o] at j;cases j
 |true=>
  rw [o] at j;simp only [cond_true] at j;simp only [κ] at o;split at j;rename_i ef Py nx h1;split at j;rename_i st1 N6 h2;injection j with j;injection j with e1 e2;subst e1;subst e2;obtain ⟨p,r⟩:=T.append;simp only [afY,R,Bool.true_or,if_true];exact wpAny_sound ops.toArray.size t _ a _ (hs.Gm (by simp only [κ,beq_iff_eq];exact ⟨cg o.1.1,o.1.2⟩) o.2 h1 h2 p r λg' a' w' I=>⟨rfl,g',I⟩);cases j;cases j
def JB (g:GM)(m:Mem)(l:List Nat):Prop:= ∀b∈l,¬Live g m b
theorem HT.chunk {α:Type}(S:α->St){f:List Int->α->Option α}{s0 r:α}{xs:List Int}{ops Bg:List Ϥ}{n:Nat}{rs:List OH}{cs:List Prop}{id ia bid bb ib ts td tp ta:Nat}{fc fi:aaF}{oc oa:Ϥ}{tys:Array Ι}{ks:List Nat}{dr:Bool}(hX:gU cx P N own)(WG:cx.nd=false)(hfn:ChunkFn P fc fi)(Ta:ops.drop n=[oc])(hoc:oc.op= .call {callee:= .value (.func fc),args:= #[.tmp ts,.const (.int .i64 4)],argTypes:=tys})(WH:oc.dst=some td)(WJ:oc.guard=none)(Zd:oa.op= .assign (.tmp tp))(WK:oa.dst=some ta)(WL:oa.guard=none)(he:pN P N ops (ops.take n) rs st=some (st1,cs))(hc:cp cs)(hle:Le cx st1 (S s0))(hk: ∀s,(S s).fr.map aav=ks)(Tb: ∀s,lk ts (S s).fr=some (nV xs))(Wy:(ks.all λt=> !(dt t (td::tp::ta::ti Bg)))=true)(uq:uH Bg=true)(D2:(aaf td N&&(aaf tp N&&aaf ta N))=true)(hr:sJ f xs s0=some r)(C2: ∀ys s s',f ys s=some s'-> ∀WM:Cx,gU WM P N own-> ∃st2,uJ WM ⟨(ta,nV ys)::(S s).fr,(S s).mem,(S s).nx⟩ st2 Bg dr/\Le WM st2 (S s'))(hq:Q .normal (S r)):
 HT cx st (.seq (.region id ops.toArray false) (.block bid (.rangeFunc (.tmp td) #[tp] (.region ia #[oa] false) (.block bb (.region ib Bg.toArray dr))))) Q:=by
 obtain ⟨hP,hN,hO⟩:=hX;subst hP hN;obtain ⟨⟨hx4,Ze⟩,hr⟩:=fF hr;simp only [κ] at D2;have D2:td<cx.N/\tp<cx.N/\ta<cx.N:=⟨ϕ (aed _) (ϑ D2.1),ϕ (aed _) (ϑ D2.2.1),ϕ (aed _) (ϑ D2.2.2)⟩;have Cr: ∀s t,lk t (S s).fr≠none->t ∉ (td::tp::ta::ti Bg):=λs t h hm=>by
  have h1:=Gu h;rw [hk] at h1;have h2:=ϣ.1 Wy t h1;rw [eN.2 hm] at h2;cases h2
 obtain ⟨m,hm⟩: ∃m,m=xs.length/4:=⟨_,rfl⟩;have Zf:xs.length=4*m:=by omega
 rw [<-hm] at hr;obtain ⟨T1,T2,Tc⟩:=hfn.call;intro g a w hs;refine wp_seq (wp_region_lit ?_);rw [<-aaC n ops,Ta];refine yf (all:=ops.take n++[oc]) hs (by rw [<-Ta,aaC];exact he) hc λg1 a1 w1 I4=> ?_;obtain ⟨g2,D3⟩:=hle g1 a1 w1 I4;refine wpList_step λK hK=> ?_;simp only [ϯ,WJ,if_true];unfold acq;rw [JA hfn.can hoc];have hv:=D3.fr ts _ (Tb s0);obtain ⟨al,cap,hval⟩: ∃al cap,a1.tmps.getD ts undef= .slice al xs.length cap:=by
  obtain ⟨al,cap,e,_⟩:=(hv:cn _ _ cC _ xs);exact ⟨al,cap,by injection e⟩
 have hv:cn (cx.safe g2 (S s0).mem w1) w1 cC [.slice al xs.length cap] xs:=by rw [<-hval];exact hv
 obtain ⟨_,hcap,qF⟩:=ints_at hv;have wh:(#[Operand.tmp ts,Operand.const (Value.int IntKind.i64 4)].map a1.eval)= #[.slice al xs.length cap,.int .i64 4]:=by
  rw [<-hval];apply aa9;rw [abb];rfl
 rw [wh];refine aeo (Tc al xs.length cap w1) ?_;rintro e w2 ⟨rfl,rfl⟩;refine hK _ _ (?_:Code.wp cx.P _ _ _ _);rw [WH];obtain ⟨Bs,hBs⟩: ∃Bs,Bs=w1.heap.size:=⟨_,rfl⟩;obtain ⟨w2,L9⟩: ∃w2,w2=(w1.alloc (.cells #[.slice al xs.length cap] T1)).alloc (.cells #[.int .i64 4] T2):=⟨_,rfl⟩;rw [<-L9,<-hBs];have aaQ:w2.heap.size=w1.heap.size+2:=by rw [L9];simp
 obtain ⟨fv,ze⟩: ∃fv:π,fv= .func (.func fi) #[] #[.pointer (some ⟨Bs,0,none⟩),.pointer (some ⟨Bs+1,0,none⟩)]:=⟨_,rfl⟩;rw [<-ze];have WN:w2.cell? ⟨Bs,0,none⟩=some (.slice al (4*m) cap):=by
  have h1:w2.heap[Bs]? =some (.cells #[.slice al xs.length cap] T1):=by
   rw [L9,hBs,aar _ _ _ (by simp)];exact acf w1 _
  unfold ad2;rw [h1,Zf];rfl
 have WO:w2.cell? ⟨Bs+1,0,none⟩=some (.int .i64 4):=by
  have h1:w2.heap[Bs+1]? =some (.cells #[.int .i64 4] T2):=by
   have:=acf (w1.alloc (.cells #[.slice al xs.length cap] T1)) (.cells #[.int .i64 4] T2);rw [afZ] at this;rw [L9,hBs];exact this
  unfold ad2;rw [h1];rfl
 have Ma:cT cx g2 (S s0) (a1.put (some td) fv) w2:=by
  have h1:cT cx g2 (S s0) (a1.put (some td) fv) w1:=D3.agree (by simp [abL]) (λt ht=>by
   have:=Cr s0 t ht;have iH:td≠t:=λe=>this (by rw [e];simp);simp [abL,ϐ,ϭ,iH]) D3.defers
  have h2:=h1.grown (acm w1 (.cells #[.slice al xs.length cap] T1) none) (λr e=>by cases e);have h3:=h2.grown (acm _ (.cells #[.int .i64 4] T2) none) (λr e=>by cases e);rw [L9];exact h3
 have PC: ∀b,Live g2 (S s0).mem b->b<Bs:=λb ⟨k,p,ch,h1,h2,h3⟩=>by rw [hBs];exact D3.lt k p ch b h1 h2 h3
 obtain ⟨a2,RU⟩: ∃a2,a2=a1.put (some td) fv:=⟨_,rfl⟩;rw [<-RU] at Ma⊢;have nK:a2.tmps.size=cx.N:=Ma.size;have WQ:a2.tmps.getD ts undef= .slice al (4*m) cap:=by
  have iH:td≠ts:=λe=>Cr s0 ts (by rw [Tb];simp) (by rw [<-e];simp);rw [RU,<-Zf,<-hval];simp [abL,ϐ,ϭ,iH]
 have hg:a2.eval (.tmp td)=fv:=by
  have:td<a1.tmps.size:=by rw [D3.size];exact D2.1
  show a2.tmps.getD td undef=fv;rw [RU];simp [abL,ϐ,ϭ,this]
 have hw0:cx.w0.heap.size<=w2.heap.size:=Ma.bJ.size;have hmk: ∀x,({target:= .collected x,args:= #[]}:Deferred)∈a2.defers->x<w2.heap.size:=λx hx=>by
  obtain ⟨_,Ds,e,_,Pp⟩:=Ma.defers;rw [e] at hx;obtain ⟨y,hy,e2⟩:=Ϣ.1 hx;injection e2 with e2;injection e2 with e2;subst e2;exact (ϝ.1 (Pp y hy).1).1
 clear RU D3 I4 hs wh hval;refine wp_block ((wpIn_wide (n:=2)).1 (wpIn_rangeFunc ?_));intro fn _;obtain ⟨D,hD⟩: ∃D,D=w2.heap.size:=⟨_,rfl⟩;obtain ⟨rec,E1⟩: ∃rec:LoopState->Option Code->Loop,rec=λst pe=>{state:=st,pending:=pe,fn,tmps:=a2.tmps,params:= #[tp],assign:= .region ia #[oa] false,body:= .block bb (.region ib Bg.toArray dr),defers:=D}:=⟨_,rfl⟩;obtain ⟨W1,Td⟩: ∃W1,(w2.alloc (.deferred (some []))).alloc (.loop (rec .ready none))=W1:=⟨_,rfl⟩;have hL1:W1.heap[D+1]? =some (.loop (rec .ready none)):=by
  rw [<-Td,hD];have:=acf (w2.alloc (.deferred (some []))) (.loop (rec .ready none));rwa [afZ] at this
 have hK1:W1.heap[D]? =some (.deferred (some [])):=by
  rw [<-Td,hD];exact (aar _ _ _ (by simp)).trans (acf w2 _)
 have hs4:cT cx g2 (S s0) a2 W1:=by
  rw [<-Td];exact (Ma.grown (acm w2 _ none) (λr e=>by cases e)).grown (acm _ _ none) (λr e=>by cases e)
 have Ep: ∀b,b<D->W1.heap[b]? =w2.heap[b]? :=λb hb=>by
  rw [<-Td,aar _ _ _ (by simp;omega),aar _ _ _ (by omega)]
 let ap:List Nat:=[Bs,Bs+1,D,D+1];let J:Nat->Ε->Prop:=λk W=>(∃s g,yj f (m - k) (xs.drop (4*k)) s=some r/\cT cx g (S s) a2 W/\JB g (S s).mem ap)/\W.heap[D+1]? =some (.loop (rec .ready none))/\W.heap[D]? =some (.deferred (some []));refine ⟨D+1,[{target:= .collected D,args:= #[]}],W1,{target:= .fn (.func fi) #[.pointer (some ⟨Bs,0,none⟩),.pointer (some ⟨Bs+1,0,none⟩)],args:= #[.func (.yield (D+1)) #[] #[]]},W1,fi,
  #[.func (.yield (D+1)) #[] #[]]++ #[.pointer (some ⟨Bs,0,none⟩),.pointer (some ⟨Bs+1,0,none⟩)],W1,?_,?_,?_,?_,λ_=>(by decide),?_⟩
 rw [<-Td,E1,hD];exact run_enterLoop_outer _ _ _ _ _
 ·simp only [resolve,hg,ze];simp [go_sem]
 intro f' hf';trivial;obtain ⟨fi',c1,c2,c3⟩:=hfn.WE;simp only [invoke,callFunc,Ϛ,run_program,ϋ,c1];simp [c2,c3];obtain ⟨b,off,Te⟩: ∃b off,0<m->al=some ⟨b,off,none⟩:=by
  by_cases h0:0<m;obtain ⟨b,off,e⟩:=qF (by omega);exact ⟨b,off,λ_=>e⟩;exact ⟨0,0,λh=>absurd h h0⟩
 have SC:JB g2 (S s0).mem ap:=λx hx hl=>by
  have h1:=PC x hl;simp only [ap,ϖ,aak,or_false] at hx;omega
 refine (hfn.iter (D+1) Bs (Bs+1) al b off m cap (by omega) (by omega) Te J ?_ ?_ W1 ?_ ?_ ?_).mono ?_;rintro k W ⟨⟨s,g,h1,h2,h3⟩,h4,h5⟩;exact ⟨⟨s,g,h1,h2.drew,h3⟩,h4,h5⟩;rintro k W ⟨⟨s,g,jm,hS,hA⟩,hl,hd⟩ U7;have hlt:D+1<W.heap.size:=(ϝ.1 hl).1;have WR:=Te (by omega);obtain ⟨n',Iu⟩: ∃n',m - k=n'+1:=⟨m - k - 1,by omega⟩;rw [Iu] at jm;obtain ⟨s',hf,jm⟩:=qP jm;obtain ⟨v,Zg⟩: ∃v:π,v= .slice (some ⟨b,off+4*k,none⟩) 4 4:=⟨_,rfl⟩;rw [<-Zg];have hy:=run_yield (P:=cx.P) (args:= #[v]) hl (by rw [E1];rfl);rw [E1] at hy;refine ⟨fn,_,_,_,hy,roundIn_of_wpIn trivial ?_⟩;refine wpIn_region_lit (l:=[oa]) (wpListIn_plain WL λK hK=>⟨λ_ _=>trivial,?_⟩);rw [ag2 _ _ _ (by simp [Zd])];simp only [execOp,Zd];refine hK _ _ (wpListIn_nil ?_);refine ⟨_,run_beginRound hl (by rw [E1]),?_⟩;obtain ⟨Wb,Tf⟩: ∃Wb,Wb=W.putObj (D+1) (.loop {rec .ready none with state:= .busy}):=⟨_,rfl⟩;rw [<-Tf];have hlb:Wb.heap[D+1]? =some (.loop {rec .ready none with state:= .busy}):=by rw [Tf];exact aeV hlt
 have RL: ∀x,x≠D+1->Wb.heap[x]? =W.heap[x]? :=λx hx=>by rw [Tf];exact aaL hx
 have Tg:Wb.heap.size=W.heap.size:=by rw [Tf];simp
 have WS:cT cx g (S s) a2 Wb:=by
  rw [Tf];exact hS.grown (grownBy_putObj' W (D+1) _) (λx e=>by cases e;exact ⟨by omega,_,hl,rfl,by simp,by simp⟩)
 have Zh:=WS.fr ts _ (Tb s);rw [WQ,WR] at Zh;have Zi:=E0 (k:=k) (Zh:cn _ _ cC _ xs) (by omega);rw [<-Zg] at Zi;obtain ⟨T,hT⟩: ∃T,T=a2.tmps.setIfInBounds tp v:=⟨_,rfl⟩;have z8:(Array.foldl (λtmps x=>tmps.setIfInBounds x.fst x.snd) a2.tmps (#[tp].zip #[v]))=T:=by
  rw [hT,show (#[tp].zip #[v])= #[(tp,v)] from by apply aa9;simp];simp
 have HF:({tmps:=T,defers:=[]}:Act).eval (.tmp tp)=v:=by
  have:tp<a2.tmps.size:=by rw [nK];exact D2.2.1
  show T.getD tp undef=v;rw [hT];simp [ϐ,ϭ,this]
 rw [z8,HF,WK];have hS1:cT cx g (S s) {tmps:=T,defers:=[]} Wb:=WS.agree (by simp [hT]) (λt ht=>by
  have iH:tp≠t:=λe=>Cr s t ht (by rw [e];simp);simp [hT,ϐ,ϭ,iH]) .nil
 have SR:=hS1.put (v:=nV ((xs.drop (4*k)).take 4)) (val:=v) Zi (some ta) (λt e=>by cases e;exact D2.2.2);obtain ⟨a3,U9⟩: ∃a3,a3=({tmps:=T,defers:=[]}:Act).put (some ta) v:=⟨_,rfl⟩;rw [<-U9] at SR⊢;have WT:({a3 with defers:=[]}:Act)=a3:=by rw [U9];rfl
 obtain ⟨F',hF,hb⟩:=SR.Ph;rw [WT] at hb;obtain ⟨st2,Gg,Ae⟩:=C2 _ _ _ hf {cx with w0:=Wb,S:=cx.safe g ((S s).put (some ta) (nV ((xs.drop (4*k)).take 4))).mem Wb,F:=F'} ⟨rfl,rfl,hO⟩;have vg:(Code.region ib Bg.toArray dr).wpIn (Fence.wide.inRound (D+1)) 0 cx.P (λe a' w'=>(e= .normal/\ ∃g',cT {cx with w0:=Wb,S:=cx.safe g ((S s).put (some ta) (nV ((xs.drop (4*k)).take 4))).mem Wb,F:=F'} g' st2 a' w')/\(e= .normal->uI (ti Bg) a3.tmps a')) a3 Wb:=by
  have h1:=Gg g a3 Wb hb;cases dr with
  |true=>exact wpIn_region_draw λt=>nD (λ_ _ h=>by cases h.1) uq ⟨rfl,λ_ _=>rfl⟩ (h1 t)
  |false=>exact wpIn_region (nD (λ_ _ h=>by cases h.1) uq ⟨rfl,λ_ _=>rfl⟩ (h1 0))
 refine wpIn_block (wpIn_mono vg ?_);rintro e a5 w5 ⟨⟨rfl,g5,h5⟩,rI⟩;have rI:=rI rfl;obtain ⟨g6,h7⟩:=Ae g5 {tmps:=a5.tmps,defers:=[]} w5 ⟨.nil,h5.size,h5.fr,h5.mem,h5.fY,h5.iN,h5.lt,h5.bJ,h5.own,h5.gl⟩;have HG: ∀x,x<W.heap.size-> ¬Live g (S s).mem x->w5.heap[x]? =Wb.heap[x]? /\ ¬Live g6 (S s').mem x:=λx h1 h2=>cT.apart hF h7 (by rw [Tg];exact h1) h2;have h8:cT cx g6 (S s') {tmps:=a5.tmps,defers:=[]} w5:=SR.Pj hF h7 .nil;have h9:cT cx g6 (S s') a2 w5:=h8.agree (by rw [rI.1,U9];simp [abL,hT]) (λt ht=>by
  have Pn:=Cr s' t ht;have h1:tp≠t:=λe=>Pn (by rw [e];simp);have h2:ta≠t:=λe=>Pn (by rw [e];simp);have h3:t ∉ ti Bg:=λe=>Pn (by simp [e]);rw [rI.2 t h3,U9];simp [abL,hT,ϐ,ϭ,h1,h2]) (by
   obtain ⟨Ix,Ds,e,hn,Pp⟩:=WS.defers;refine ⟨Ix,Ds,e,hn,λx hx=> ?_⟩;obtain ⟨k1,k2,k3⟩:=Pp x hx;obtain ⟨q1,q2⟩:=HG x (by rw [<-Tg];exact (ϝ.1 k1).1) k3;exact ⟨q1.trans k1,k2,q2⟩)
 have WU:w5.heap[D+1]? =some (.loop {rec .ready none with state:= .busy}):=(HG (D+1) hlt (hA _ (by simp [ap]))).1.trans hlb;have hd5:w5.heap[D]? =some (.deferred (some [])):=(HG D (by omega) (hA _ (by simp [ap]))).1.trans ((RL D (by omega)).trans hd);have WV:=(ϝ.1 WU).1;refine ⟨_,_,run_endRound none WU,rfl,⟨⟨s',g6,?_,?_,λx hx=> ?_⟩,?_,?_⟩,?_,?_⟩;rw [show m - (k+1)=n' by omega,show 4*(k+1)=4*k+4 by omega,<-List.drop_drop];exact jm;exact h9.grown (grownBy_putObj' w5 (D+1) _) (λx e=>by cases e;exact ⟨by omega,_,WU,rfl,by simp,by simp⟩);exact (HG x (by simp only [ap,ϖ,aak,or_false] at hx;omega) (hA x hx)).2;rw [aeV WV];simp [E1];exact (aaL (by omega)).trans hd5;exact (aaL (by omega)).trans ((HG Bs (by omega) (hA _ (by simp [ap]))).1.trans (RL Bs (by omega)));exact (aaL (by omega)).trans ((HG (Bs+1) (by omega) (hA _ (by simp [ap]))).1.trans (RL (Bs+1) (by omega)));have:=Ep Bs (by omega);exact (ach (a:=⟨Bs,0,none⟩) this).trans WN;have:=Ep (Bs+1) (by omega);exact (ach (a:=⟨Bs+1,0,none⟩) this).trans WO;exact ⟨⟨s0,g2,by simpa using hr,hs4,SC⟩,hL1,hK1⟩;rintro e W3 ⟨⟨v,rfl⟩,⟨⟨s,g,jm,hS,hA⟩,hl,hd⟩⟩;rw [Nat.sub_self] at jm;have jm:=bt jm;subst jm;refine ⟨none,W3.putObj (D+1) (.loop {rec .ready none with state:= .exhausted}),by have:=run_endLoop (P:=cx.P) hl (by rw [E1];simp);rw [E1] at this⊢;exact this,?_⟩;refine ⟨S s,g,hq,?_⟩;have h5:=hS.grown (grownBy_putObj' W3 (D+1) (.loop {rec .ready none with state:= .exhausted})) (λx e=>by cases e;exact ⟨by omega,_,hl,rfl,by simp,by simp⟩);refine ⟨?_,h5.size,h5.fr,h5.mem,h5.fY,h5.iN,h5.lt,h5.bJ,h5.own,h5.gl⟩;obtain ⟨_,Ds,e,hn,Pp⟩:=h5.defers;refine ⟨(λhz=>by rw [WG] at hz;cases hz),D::Ds,by rw [e];rfl,aba.2 ⟨λhm=> ?_,hn⟩,λx hx=> ?_⟩;exact Nat.lt_irrefl D (hD▸hmk D (by rw [e];exact Ϣ.2 ⟨D,hm,rfl⟩));rcases ϖ.1 hx with rfl|hx
 exact ⟨(aaL (by omega)).trans hd,by omega,hA _ (by simp [ap])⟩;exact Pp x hx
end
end Go.Ide
namespace Go.Ide
section
variable {cx:Cx} {g:GM} {st:St} {a:Act} {w:Ε}
end
def Zj (P:Ο)(N:Nat)(ops:List Ϥ)(h:Nat)(hrs:List HR)(tds:List (List Nat))(st:St):Option (St×List Prop):=
 bif (Β hrs.length h&&ϩ h ops.length)&&nM ops (hrs.map HR.D++tds) h 0 ops then (match xY P N ops st (ops.take h) hrs [] st.nx with
  |some (ef,cs,nx)=>some (oT st ef (λ_=>true) nx,cs)
  |none=>none) else none
theorem HT.Zk {cx:Cx}{st:St}{P:Ο}{N id:Nat}{Q:abI->St->Prop}{own:List Nat}(h:Nat){ops:List Ϥ}(hrs:List HR)(tds:List (List Nat))(st1:St){cs:List Prop}(r:gU cx P N own)(t:P.follows .mixedOrders=true)(j:Zj P N ops h hrs tds st=some (st1,cs))(I:cp cs)(J:RG cx ops (ops.drop h) st1 Q):HT cx st (.region id ops.toArray true) Q:=by
 obtain ⟨R,T,_⟩:=r;subst R T;unfold Zj at j;cases o:((Β hrs.length h&&ϩ h ops.length)&&nM ops (hrs.map HR.D++tds) h 0 ops) with
 |false=>rw [o] at j;cases j
 |true=>
  rw [o] at j;simp only [cond_true] at j;simp only [κ] at o;split at j;rename_i ef U nx h1;injection j with j;injection j with e1 e2;subst e1;subst e2;exact λg a w hs=>wp_region_any t (hs.Dc (by simp only [κ,beq_iff_eq];exact ⟨cg o.1.1,o.1.2⟩) o.2 h1 I λg' a' w' p=>J g' a' w' p);cases j
section
variable {cx:Cx} {st st' st1:St} {P:Ο} {N:Nat} {own:List Nat} {ops:List Ϥ} {listed:Array Bool} {n:Nat}
end
end Go.Ide
namespace Go.Ide
section
variable {cx:Cx} {g:GM} {st:St} {a:Act} {w:Ε} {P:Ο} {N:Nat} {own:List Nat} {Q:abI->St->Prop}
theorem RG.gz {all os:List Ϥ}{o:Ϥ}{e:cO}(r:gU cx P N own)(t:o.guard=none)(I:Ln N o.dst=true)(h: ∀g a w,cT cx g st a w->rJ cx st a w o e)(J:RG cx all os (st.app o.dst e) Q):RG cx all (o::os) st Q:=by
 obtain ⟨R,T,_⟩:=r;subst R T;intro g a w U;refine wpList_step λK hK=> ?_;simp only [ϯ,t,if_true];refine (h g a w U).wp λval w' j=> ?_;obtain ⟨g',p⟩:=j.UW (CQ I);exact hK _ _ (J g' _ _ p)
def yl:(t:Ty)->t.D->t.D->Bool
 | .int _,x,y=> @decide (@Eq Int x y) (adF x y)
 | .pair a b,x,y=>yl a x.1 y.1&&yl b x.2 y.2
 | .st t,x,y=>yl t x y
 | .str,x,y=> @decide (@Eq (List UInt8) x y) (instDecidableEqList x y)
 |_,_,_=>false
def cr {t u:Ty}:List (t.D×u.D)->t.D->Option u.D
 |[],_=>none
 |p::r,k=>if yl t p.1 k then some p.2 else cr r k
def JC (w:Ε)(t u:Ty)(p:t.D×u.D)(e:acP):Prop:=ry w t e.key p.1/\ry w u e.val p.2
structure j5 (P:Ο)(T:Ι)(t:Ty):Prop where
 Og: ∀(b:Bool) (w w0:Ε) (v:π) (x:t.D),ry w0 t v x->(abt b 10000 T v).run P w= .ok () w
 find: ∀(u:Ty) (w w0:Ε) (v:π) (x:t.D) (es:List acP) (xs:List (t.D×u.D)),ry w0 t v x->cc (JC w0 t u) xs es->
  ∃r,(acE T v es).run P w= .ok r w/\(match r with
   |none=>cr xs x=none
   |some (_,val)=> ∃y,cr xs x=some y/\ry w0 u val y)
theorem ym {k:aaK}{v:π}{x:Int}(h:ry w (.int k) v x):v= .int k x:=by
 rcases h with ⟨j,_⟩|⟨_,h⟩
 cases j;have:[v]=[Value.int k x]:=h;simpa using this
theorem j5.int {T:Ι}{k:aaK}(h:P.underlying T=some (.int k)):j5 P T (.int k) where
 Og b w w0 v x hv:=by
  rw [ym hv];unfold abt;simp [Ϛ,run_underlying h,aaU]
 find u w w0 v x es xs hv Co:=by
  rw [ym hv];have key: ∀(es:List acP) (xs:List ((Ty.int k).D×u.D)) (i:Nat),cc (JC w0 (.int k) u) xs es-> ∃r,abn (.int k) (.int k x) es i=some r/\(match r with
   |none=>cr xs x=none
   |some (_,val)=> ∃y,cr xs x=some y/\ry w0 u val y):=by
   intro es;induction es with
   |nil=>
    intro xs i h;cases xs with
    |nil=>exact ⟨none,rfl,rfl⟩
    |cons=>exact h.elim
   |cons e es ih=>
    intro xs i h;cases xs with
    |nil=>exact h.elim
    |cons p xs=>
     have hk:=ym h.1.1;simp only [abn,aeB,hk];by_cases hx:x=p.1;refine ⟨some (i,e.val),by simp [hx],p.2,?_,h.1.2⟩;simp [cr,yl,hx];obtain ⟨r,h1,h2⟩:=ih xs (i+1) h.2;have hb:(x==(p.1:Int))=false:=by simpa using hx
     have iH:yl (.int k) p.1 x=false:=by simp only [yl];exact decide_eq_false λe=>hx e.symm
     refine ⟨r,by simp [hb,h1],?_⟩;cases r with
     |none=>simp only [cr,iH];exact h2
     |some q=>simp only [cr,iH];exact h2
  obtain ⟨r,h1,h2⟩:=key es xs 0 Co;exact ⟨r,by simp [acE,run_underlying h,aaU,h1],h2⟩
theorem JD (a b:List UInt8):((⟨a.toArray⟩:ByteArray)==⟨b.toArray⟩)=decide (a=b):=by
 show (a.toArray==b.toArray)=decide (a=b);by_cases h:a=b<;>simp [h]
theorem j5.str {T:Ι}(h:P.underlying T=some .string):j5 P T .str where
 Og b w w0 v x hv:=by
  have hv:v= .string ⟨x.toArray⟩:=by
   rcases hv with ⟨h0,_⟩|⟨_,h1⟩
   cases h0;have:[v]=[Value.string ⟨x.toArray⟩]:=h1;simpa using this
  rw [hv];unfold abt;simp [Ϛ,run_underlying h,aaU]
 find u w w0 v x es xs hv Co:=by
  have one: ∀{v:π} {x:List UInt8},ry w0 .str v x->v= .string ⟨x.toArray⟩:=λ {v x} hv=>by
   rcases hv with ⟨h0,_⟩|⟨_,h1⟩
   cases h0;have:[v]=[Value.string ⟨x.toArray⟩]:=h1;simpa using this
  rw [one hv];have key: ∀(es:List acP) (xs:List (Ty.str.D×u.D)) (i:Nat),cc (JC w0 .str u) xs es-> ∃r,abn .string (.string ⟨aef (show List UInt8 from x)⟩) es i=some r/\(match r with
   |none=>cr xs x=none
   |some (_,val)=> ∃y,cr xs x=some y/\ry w0 u val y):=by
   intro es;induction es with
   |nil=>
    intro xs i h;cases xs with
    |nil=>exact ⟨none,rfl,rfl⟩
    |cons=>exact h.elim
   |cons e es ih=>
    intro xs i h;cases xs with
    |nil=>exact h.elim
    |cons p xs=>
     have hk:=one h.1.1;simp only [abn,aeB,hk];by_cases hx: @Eq (List UInt8) x p.1;refine ⟨some (i,e.val),?_,p.2,?_,h.1.2⟩;rw [JD];simp [hx];simp [cr,yl,hx];obtain ⟨r,h1,h2⟩:=ih xs (i+1) h.2;have hb:decide (@Eq (List UInt8) x p.1)=false:=decide_eq_false hx;have iH:yl .str p.1 x=false:=by simp only [yl];exact decide_eq_false λe=>hx e.symm
     refine ⟨r,by rw [JD,hb];exact h1,?_⟩;cases r with
     |none=>simp only [cr,iH];exact h2
     |some q=>simp only [cr,iH];exact h2
  obtain ⟨r,h1,h2⟩:=key es xs 0 Co;have h1:abn .string (.string ⟨aef x⟩) es 0=some r:=h1;exact ⟨r,by simp [acE,run_underlying h,aaU,h1],h2⟩
def cH (k:aaK):Nat->Ty
 |0=> .int k
 |n+1=> .pair (.int k) (cH k n)
def oW {k:aaK}:(n:Nat)->(cH k n).D->List Int
 |0,x=>[x]
 |n+1,x=>(show Int from x.1)::oW n x.2
theorem rN {k:aaK}: ∀(n:Nat) (x:(cH k n).D),(oW n x).length=n+1
 |0,_=>rfl
 |n+1,x=>by simp only [oW,Η,rN n]
theorem Gv {S:Nat->Prop}{k:aaK}: ∀(n:Nat) (cs:List π) (x:(cH k n).D),cn S w (cH k n) cs x->cs=(oW n x).map (Value.int k)
 |0,cs,x,h=>by have:cs=[.int k x]:=h;exact this
 |n+1,cs,x,⟨o,p,e,j,r⟩=>by
  have j:o=[.int k x.1]:=j;rw [e,j,Gv n p x.2 r];rfl
theorem Bh {k:aaK}: ∀(n:Nat) (x y:(cH k n).D),yl (cH k n) x y=true↔oW n x=oW n y
 |0,x,y=>by
  have j:yl (cH k 0) x y=true↔ @Eq Int x y:= @decide_eq_true_iff _ (adF x y);rw [j];exact ⟨λe=>congrArg (λz=>[z]) e,λe=>by injection e⟩
 |n+1,x,y=>by
  simp only [cH,yl,oW,κ,Bh n,afh,decide_eq_true_eq]
theorem yn {k:aaK}{n:Nat}{v:π}{x:(cH k n).D}(h:ry w (.st (cH k n)) v x):v= .agg ((oW n x).map (Value.int k)).toArray:=by
 rcases h with ⟨_,cs,e,h⟩|⟨j,_⟩
 rw [e,Gv n cs x h];cases j
theorem qR {E:Ι}{k:aaK}(j:P.underlying E=some (.int k)){xs:Array π}{off:Nat}{v:π}(o:xs[off]? =some v):(part E xs off).run P w= .ok v w:=by
 simp [part,isAgg,run_underlying j,o]
theorem wj {E:Ι}{k:aaK}(j:P.underlying E=some (.int k))(d:Nat)(xs ys:List Int)(J:xs.length=ys.length): ∀(n i:Nat),i+n=xs.length->
 (agj (d+1) E 1 (xs.map (Value.int k)).toArray (ys.map (Value.int k)).toArray (ahN i n)).run P w= .ok (decide (xs.drop i=ys.drop i)) w
 |0,i,h=>by
  have o:xs.drop i=[]:=adq (by omega);have p:ys.drop i=[]:=adq (by omega);simp [agj,o,p]
 |n+1,i,h=>by
  have r:i<xs.length:=by omega
  have t:i<ys.length:=by omega
  have o:=qR (w:=w) j (xs:=(xs.map (Value.int k)).toArray) (off:=i) (v:= .int k xs[i]) (by simp [r]);have p:=qR (w:=w) j (xs:=(ys.map (Value.int k)).toArray) (off:=i) (v:= .int k ys[i]) (by simp [t]);have R:=run_equalIn_int w d E k k xs[i] ys[i] j;have ih:=wj j d xs ys J n (i+1) (by omega);rw [List.range'_succ];simp only [agj,adT,Ϛ,o,p,R,ϋ];have T:=abJ r;have U:=abJ t;have I:(xs.drop i=ys.drop i)↔(xs[i]=ys[i]/\xs.drop (i+1)=ys.drop (i+1)):=by rw [T,U,afh]
  by_cases e:xs[i]=ys[i];simp only [e,beq_self_eq_true,Bool.not_true,Bool.false_eq_true,if_false];rw [ih]
  congr 1
  rw [decide_eq_decide,I];simp [e];have hb:(xs[i]==ys[i])=false:=by simpa using e
  have hd:decide (xs.drop i=ys.drop i)=false:=decide_eq_false λq=>e (I.1 q).1;simp [hb,hd]
def j8 (k:aaK):(n:Nat)->Nat->List Int->(cH k n).D
 |0,o,j=>(show Int from j.getD o 0)
 |n+1,o,j=>((show Int from j.getD o 0),j8 k n (o+1) j)
theorem j5.qw {T E:Ι}{k:aaK}{n:Nat}{i:adK}(h:P.underlying T=some (.array (n+1) E))(hE:P.underlying E=some (.int k))(hi:P.info? E=some i)(hz:P.cellsOf E=1):j5 P T (.st (cH k n)) where
 Og b w w0 v x hv:=by
  rw [yn hv];unfold abt;simp only [Ϛ,run_underlying h,ϋ];have key: ∀(is:List Nat),(∀j∈is,j<n+1)->(forIn is PUnit.unit (λj (r:PUnit)=>(do
   abt b 9999 E (<-part E ((oW n x).map (Value.int k)).toArray (j*(<-sizeOf E)))
   pure (ForInStep.yield PUnit.unit):Sem (ForInStep PUnit)))).run P w= .ok PUnit.unit w:=by
   intro is;induction is with
   |nil=>intro _;simp
   |cons j is ih=>
    intro hj;have hlt:j<(oW n x).length:=by rw [rN];exact hj j ϴ
    have h1:=qR (w:=w) hE (xs:=((oW n x).map (Value.int k)).toArray) (off:=j) (v:= .int k (oW n x)[j]) (by simp [hlt]);have h2:(abt b 9999 E (.int k (oW n x)[j])).run P w= .ok () w:=by
     unfold abt;simp [Ϛ,run_underlying hE,aaU]
    have nK:=run_sizeOf w hi;rw [hz] at nK;rw [List.forIn_cons];simp only [Ϛ,nK,ϋ,adT,h1,h2,ϵ];exact ih λq hq=>hj q (ύ _ hq)
  simp only [agP,agQ,ahO,Nat.add_one_sub_one,Nat.div_one];rw [key (ahN 0 (n+1)) λj hj=>by have:=List.mem_range'_1.1 hj;omega];rfl
 find u w w0 v x es xs hv Co:=by
  rw [yn hv];have key: ∀(es:List acP) (xs:List ((Ty.st (cH k n)).D×u.D)) (i:Nat),cc (JC w0 (.st (cH k n)) u) xs es-> ∃r,(acV T (.agg ((oW n x).map (Value.int k)).toArray) es i).run P w= .ok r w/\(match r with
   |none=>cr xs x=none
   |some (_,val)=> ∃y,cr xs x=some y/\ry w0 u val y):=by
   intro es;induction es with
   |nil=>
    intro xs i h;cases xs with
    |nil=>exact ⟨none,by simp [acV],rfl⟩
    |cons=>exact h.elim
   |cons e es ih=>
    intro xs i hh;cases xs with
    |nil=>exact hh.elim
    |cons p xs=>
     have hk:=yn hh.1.1;have heq:(Op.equal T (.agg ((oW n x).map (Value.int k)).toArray) e.key).run P w= .ok (decide (oW n x=oW n p.1)) w:=by
      rw [hk];unfold Op.equal Op.maxDepth;rw [show (10000:Nat)=9999+1 from rfl,run_equalIn_array w 9999 _ _ h hi,hz,List.range_eq_range'];have:=wj (w:=w) hE 9998 (oW n x) (oW n p.1) (by rw [rN,rN]) (n+1) 0 (by rw [rN];omega);simpa using this
     simp only [acV,Ϛ,heq,ϋ];by_cases hx:oW n x=oW n p.1;refine ⟨some (i,e.val),by simp [hx],p.2,?_,hh.1.2⟩;have:yl (.st (cH k n)) p.1 x=true:=(Bh n p.1 x).2 hx.symm;simp [cr,this];obtain ⟨r,h1,h2⟩:=ih xs (i+1) hh.2;have iH:yl (.st (cH k n)) p.1 x=false:=by
      cases hb:yl (.st (cH k n)) p.1 x with
      |false=>rfl
      |true=>exact absurd ((Bh n p.1 x).1 hb).symm hx
     refine ⟨r,by simp [hx,h1],?_⟩;cases r with
     |none=>simp only [cr,iH];exact h2
     |some q=>simp only [cr,iH];exact h2
  obtain ⟨r,h1,h2⟩:=key es xs 0 Co;refine ⟨r,?_,h2⟩;have WW: ∀es:List acP,abn (.array (n+1) E) (.agg ((oW n x).map (Value.int k)).toArray) es 0=some none/\es=[]\/abn (.array (n+1) E) (.agg ((oW n x).map (Value.int k)).toArray) es 0=none:=by
   intro es;cases es with
   |nil=>exact .inl ⟨rfl,rfl⟩
   |cons e es=>exact .inr (by simp [abn,aeB])
  rcases WW es with ⟨h3,h4⟩|h3
  subst h4;simp only [acV,ϵ] at h1;simp [acE,run_underlying h,aaU,h3,<-h1];simp [acE,run_underlying h,aaU,h3,h1]
theorem j5.arr {T E:Ι}{k:aaK}{n:Nat}(h:P.underlying T=some (.array (n+1) E))(o:P.underlying E=some (.int k))(j:(P.info? E).isSome=true)(p:P.cellsOf E=1):j5 P T (.st (cH k n)):=by
 obtain ⟨i,j⟩:=Option.isSome_iff_exists.1 j;exact j5.qw h o j p
theorem HT.WX {R:Prop}{id:Nat}{ops:List Ϥ}(h:R->RG cx ops ops st Q)(j:R):HT cx st (.region id ops.toArray false) Q:=HT.rg (h j)
end
section
variable {cx:Cx} {g:GM} {st:St} {a:Act} {w w':Ε} {P:Ο} {N:Nat} {own:List Nat} {Q:abI->St->Prop} {all os:List Ϥ}
theorem mJ {r:Nat}{es:Array acP}{j:Nat}(o:w.heap[r]? =some (.map es j)):(getObj r).run P w= .ok (.map es j) w:=by
 simp [getObj,Sem.run,o]
theorem E2 {r:Nat}{es:Array acP}{j:Nat}(o:Obj)(p:w.heap[r]? =some (.map es j)):(setObj r o).run P w= .ok () {w with heap:=w.heap.setIfInBounds r o}:=by
 simp [setObj,Sem.run,p]
theorem Mb {b:Nat}{arr es:Array _}{j:Nat}(h:dA w b arr)(o:w.heap[b]? =some (.map es j)):False:=by
 obtain ⟨T,p,r,h,_⟩:=h;rw [o] at h;cases h
theorem cT.PD {c b:Nat}{t u:Ty}{xs J:List (t.D×u.D)}{es es':Array acP}{ck ck':Nat}(h:cT cx g st a w)(hl:lk c st.mem=some (.mp t u xs))(hg:g.f c []=some b)(hb:w.heap[b]? =some (.map es ck))(he:cc (JC w t u) J es'.toList):cT cx g (st.jc ((c,.mp t u J)::st.mem) st.nx) a {w with heap:=w.heap.setIfInBounds b (.map es' ck')}:=by
 have hlt:b<w.heap.size:=(ϝ.1 hb).1;have aa: ∀j,j≠b->(w.heap.setIfInBounds b (.map es' ck'))[j]? =w.heap[j]? :=λj T=>by simp [Ne.symm T]
 have r: ∀j arr,dA w j arr->dA {w with heap:=w.heap.setIfInBounds b (.map es' ck')} j arr:=λj arr T=>T.bJ (aa j λe=>by subst e;exact Mb T hb);have t:wA cx g g st.mem ((c,.mp t u J)::st.mem) w {w with heap:=w.heap.setIfInBounds b (.map es' ck')} [b]:=by
  refine ⟨⟨rfl,rfl,rfl,by simp,λj _ hn=>aa j (by simpa using hn),λj arr T=>⟨arr,r j arr T,rfl⟩⟩,λb' ab=>by simp at ab;subst ab;exact ⟨c,[],_,hl,trivial,hg⟩,λ_ _=>rfl,λk c0 o=> ?_,λk c0 o R=> ?_⟩;by_cases e:k=c;subst e;rw [hl] at o;injection o with o;subst o;refine .inr (.inr ⟨(λe=>by cases e),_,(by rw [bO,if_pos rfl]),(λe=>by cases e),λp _=>trivial,λt xs U=> ?_,(λt xs U=>by cases U),λp b2 I _ _ s7=>⟨I,r b2 I s7,rfl⟩,?_⟩);rcases U with U|⟨_,_,_,U⟩<;>cases U
  exact ⟨b,es',ck',hg,by simp [hlt],he.mono λ_ _ h=>⟨h.1.bJ,h.2.bJ⟩⟩;refine .inl ⟨by rw [bO,if_neg e];exact o,λp b2 Cs AR hm=> ?_⟩;simp at hm;subst hm;exact e (h.fY k c p [] c0 _ b2 o Cs hl trivial AR hg).1;rw [bO] at R;by_cases e:k=c;subst e;rw [hl] at o;cases o;rw [if_neg e,o] at R;cases R
 exact h.ua t
theorem RG.makeMap {T:Ι}{o:Ϥ}{d:Tmp}(t u:Ty)(R:gU cx P N own)(U:o.op= .makeMap T none)(hg:o.guard=none)(J:o.dst=some d)(p:aaf d N=true)(j:mE st.mem [(st.nx,.mp t u [])]=true)(hr:RG cx all os ⟨(d,.one (.fP st.nx))::st.fr,(st.nx,.mp t u [])::st.mem,st.nx+1⟩ Q):RG cx all (o::os) st Q:=by
 refine RG.gz (e:=⟨.one (.fP st.nx),[(st.nx,.mp t u [])],[],[]⟩) R hg (by rw [J];exact p) (λg a w hs=> ?_) (by rw [J];exact hr);have j:=gb j (st.nx,.mp t u []) ϴ;refine .inl ⟨.map (some w.heap.size),w.alloc (.map #[] 0),by simp [execOp,U,Instr.makeMap],?_⟩;obtain ⟨g',r,I,_⟩:=hs.OM (ch:= .mp t u []) j (acA [] w (.map #[] 0)) (by simp) (λg' _ _ S' _=>⟨w.heap.size,#[],0,rfl,heap_alloc_new w _,trivial⟩);exact ⟨g',I,by simp [bO],w.heap.size,by show g'.f st.nx []=_;rw [r];rfl,rfl⟩
theorem wX {t:Ty}{p:bK}{x:t.D}{v:π}(I:t.flat=true)(J:kf [] t p=some x)(R:VR g st.mem (cx.safe g st.mem w) w p v):ry w t v x:=by
 obtain ⟨cs,o,T⟩:=nu (S2:=cx.safe g st.mem w) (λ_ h=>h) iz.nil J R;have r:cn (λ_=>False) w t cs x:=cn.flat t I T;unfold dQ at o;cases j:t.sS with
 |true=>rw [j] at o;exact .inl ⟨j,cs,o,r⟩
 |false=>rw [j] at o;simp at o;subst o;exact .inr ⟨j,r⟩
theorem RG.qS {T K E:Ι}{o:Ϥ}{m k v:aah}{c:Nat}{t u:Ty}{xs:List (t.D×u.D)}{kv vv:bK}{x:t.D}{y:u.D}(hX:gU cx P N own)(ho:o.op= .mapUpdate T m k v\/o.op= .insert T m k v)(hg:o.guard=none)(hd:o.dst=none)(hT:P.underlying T=some (.map K E))(hK:j5 P K t)(hf:(t.flat&&u.flat)=true)(hm:ev st.fr m=some (.one (.fP c)))(hl:lk c st.mem=some (.mp t u xs))(hk:ev st.fr k=some kv)(PE:kf [] t kv=some x)(hv:ev st.fr v=some vv)(hvy:kf [] u vv=some y)(hn:cr xs x=none)(hr:RG cx all os ⟨st.fr,(c,.mp t u (xs++[(x,y)]))::st.mem,st.nx⟩ Q):RG cx all (o::os) st Q:=by
 obtain ⟨hP,hN,hO⟩:=hX;subst hP hN;simp only [κ] at hf;refine RG.gz (e:=⟨.dS,[],[(c,.mp t u (xs++[(x,y)]))],[]⟩) ⟨rfl,rfl,hO⟩ hg (by rw [hd];rfl) (λg a w I=> ?_) (by rw [hd];exact hr);obtain ⟨hp,b,J,e1⟩:=cA I hm;obtain ⟨b',es,ck,j,hb,R⟩:=I.mem c _ hl;have:b'=b:=by rw [show g.f c []=some b from J] at j;injection j with h;exact h.symm
 subst this;have p:=wX (cx:=cx) hf.1 PE (cA I hk);have hvv:=wX (cx:=cx) hf.2 hvy (cA I hv);obtain ⟨r,h1,h2⟩:=hK.find u w w (a.eval k) x es.toList xs p R;have Lj:r=none:=by
  cases r with
  |none=>rfl
  |some q=>obtain ⟨y',h3,_⟩:=h2;rw [hn] at h3;cases h3
 subst Lj;have U:(agk T (a.eval m) (a.eval k) (a.eval v)).run cx.P w= .ok () {w with heap:=w.heap.setIfInBounds b' (.map (es.push {key:=a.eval k,val:=a.eval v,born:=ck}) (ck+1))}:=by
  rw [e1];simp [agk,run_underlying hT,mJ hb,hK.Og false w w _ x p,h1,E2 _ hb]
 refine .inr (.inl ⟨_,?_,g,I.PD (es':=es.push {key:=a.eval k,val:=a.eval v,born:=ck}) (ck':=ck+1) hl J hb ?_,trivial⟩);rcases ho with ho|ho<;>simp only [execOp,ho,Ϛ,U,ϋ,ϵ]
 rw [Array.toList_push];exact R.append ⟨⟨p,hvv⟩,trivial⟩
theorem RG.Bi {T K E:Ι}{o:Ϥ}{m k:aah}{c:Nat}{d:Tmp}{t u:Ty}{xs:List (t.D×u.D)}{kv:bK}{x:t.D}{z:π}{y0:u.D}(hX:gU cx P N own)(ho:o.op= .lookup T m k true)(hg:o.guard=none)(hd:o.dst=some d)(D2:aaf d N=true)(hT:P.underlying T=some (.map K E))(hK:j5 P K t)(hf:(t.flat&& !u.sS)=true)(R:(P.info? E).bind (·.zero)=some z)(PF:oe z= .one (.bG u y0))(hm:ev st.fr m=some (.one (.fP c)))(hl:lk c st.mem=some (.mp t u xs))(hk:ev st.fr k=some kv)(PE:kf [] t kv=some x)(hr:RG cx all os ⟨(d,.AA [(false,[.bG u ((cr xs x).getD y0)]),(false,[.bG .bool (cr xs x).isSome])])::st.fr,st.mem,st.nx⟩ Q):RG cx all (o::os) st Q:=by
 obtain ⟨hP,hN,hO⟩:=hX;subst hP hN;simp only [κ,aag] at hf;refine RG.gz (e:=⟨.AA [(false,[.bG u ((cr xs x).getD y0)]),(false,[.bG .bool (cr xs x).isSome])],[],[],[]⟩) ⟨rfl,rfl,hO⟩ hg (by rw [hd];exact D2) (λg a w U=> ?_) (by rw [hd];exact hr);obtain ⟨hp,b,Cu,e1⟩:=cA U hm;obtain ⟨b',es,ck,p,hb,Co⟩:=U.mem c _ hl;have:b'=b:=by rw [show g.f c []=some b from Cu] at p;injection p with h;exact h.symm
 subst this;have I:=wX (cx:=cx) hf.1 PE (cA U hk);obtain ⟨r,h1,J⟩:=hK.find u w w (a.eval k) x es.toList xs I Co;obtain ⟨i,hi,Th⟩: ∃i,cx.P.info? E=some i/\i.zero=some z:=by
  cases hx:cx.P.info? E with
  |none=>rw [hx] at R;cases R
  |some i=>rw [hx] at R;exact ⟨i,rfl,R⟩
 have key: ∃v,(aco T (a.eval m) (a.eval k) true).run cx.P w= .ok (.tuple #[v,.bool (cr xs x).isSome]) w/\cn (cx.safe g st.mem w) w u [v] ((cr xs x).getD y0):=by
  rw [e1];cases r with
  |none=>
   refine ⟨z,?_,?_⟩;have J:cr xs x=none:=J;simp [aco,run_underlying hT,mJ hb,hK.Og _ w w _ x I,h1,zeroValue,typeInfo,hi,Th,J];have J:cr xs x=none:=J;rw [J];have:=qA (g:=g) (m:=st.mem) (S:=cx.safe g st.mem w) (w:=w) z;rw [PF] at this;exact this
  |some q=>
   obtain ⟨j,v⟩:=q;obtain ⟨y,h3,h4⟩:=J;refine ⟨v,?_,?_⟩;simp [aco,run_underlying hT,mJ hb,hK.Og _ w w _ x I,h1,h3];rw [h3];rcases h4 with ⟨h5,_⟩|⟨_,h5⟩
   rw [hf.2] at h5;cases h5;exact cn.bJ (λb hb=>hb.elim) u [v] y h5
 obtain ⟨v,h3,h4⟩:=key;exact .inl ⟨_,w,by simp only [execOp,ho,Ϛ,h3,ϋ,ϵ],g,U,[v,.bool (cr xs x).isSome],rfl,h4,rfl,trivial⟩
theorem RG.Ti {T K E:Ι}{o:Ϥ}{m k:aah}{c:Nat}{d:Tmp}{t u:Ty}{xs:List (t.D×u.D)}{kv:bK}{x:t.D}{z:π}{y0:u.D}(hX:gU cx P N own)(ho:o.op= .lookup T m k false)(hg:o.guard=none)(hd:o.dst=some d)(D2:aaf d N=true)(hT:P.underlying T=some (.map K E))(hK:j5 P K t)(hf:(t.flat&& !u.sS)=true)(J:(P.info? E).bind (·.zero)=some z)(PF:oe z= .one (.bG u y0))(hm:ev st.fr m=some (.one (.fP c)))(hl:lk c st.mem=some (.mp t u xs))(hk:ev st.fr k=some kv)(PE:kf [] t kv=some x)(hr:RG cx all os ⟨(d,.one (.bG u ((cr xs x).getD y0)))::st.fr,st.mem,st.nx⟩ Q):RG cx all (o::os) st Q:=by
 obtain ⟨hP,hN,hO⟩:=hX;subst hP hN;simp only [κ,aag] at hf;refine RG.gz (e:=⟨.one (.bG u ((cr xs x).getD y0)),[],[],[]⟩) ⟨rfl,rfl,hO⟩ hg (by rw [hd];exact D2) (λg a w R=> ?_) (by rw [hd];exact hr);obtain ⟨hp,b,Cu,e1⟩:=cA R hm;obtain ⟨b',es,ck,p,U,Co⟩:=R.mem c _ hl;have:b'=b:=by rw [show g.f c []=some b from Cu] at p;injection p with h;exact h.symm
 subst this;have I:=wX (cx:=cx) hf.1 PE (cA R hk);obtain ⟨r,h1,h2⟩:=hK.find u w w (a.eval k) x es.toList xs I Co;obtain ⟨i,hi,Th⟩: ∃i,cx.P.info? E=some i/\i.zero=some z:=by
  cases hx:cx.P.info? E with
  |none=>rw [hx] at J;cases J
  |some i=>rw [hx] at J;exact ⟨i,rfl,J⟩
 have key: ∃v,(aco T (a.eval m) (a.eval k) false).run cx.P w= .ok v w/\cn (cx.safe g st.mem w) w u [v] ((cr xs x).getD y0):=by
  rw [e1];cases r with
  |none=>
   have h2:cr xs x=none:=h2;refine ⟨z,?_,?_⟩;simp [aco,run_underlying hT,mJ U,hK.Og _ w w _ x I,h1,zeroValue,typeInfo,hi,Th];rw [h2];have:=qA (g:=g) (m:=st.mem) (S:=cx.safe g st.mem w) (w:=w) z;rw [PF] at this;exact this
  |some q=>
   obtain ⟨j,v⟩:=q;obtain ⟨y,h3,h4⟩:=h2;refine ⟨v,?_,?_⟩;simp [aco,run_underlying hT,mJ U,hK.Og _ w w _ x I,h1];rw [h3];rcases h4 with ⟨h5,_⟩|⟨_,h5⟩
   rw [hf.2] at h5;cases h5;exact cn.bJ (λb U=>U.elim) u [v] y h5
 obtain ⟨v,h3,h4⟩:=key;exact .inl ⟨_,w,by simp only [execOp,ho,Ϛ,h3,ϋ,ϵ],g,R,h4⟩
theorem RG.PG {T K E:Ι}{o:Ϥ}{cl:Call}{m:aah}{c:Nat}{d:Tmp}{t u:Ty}{xs:List (t.D×u.D)}(hX:gU cx P N own)(ho:o.op= .call cl)(nv:cl.callee= .builtin .len/\cl.args= #[m]/\cl.argTypes= #[T])(hg:o.guard=none)(hd:o.dst=some d)(R:aaf d N=true)(hT:P.underlying T=some (.map K E))(hm:ev st.fr m=some (.one (.fP c)))(hl:lk c st.mem=some (.mp t u xs))(hr:RG cx all os ⟨(d,.one (.bG (.int .i64) (bn xs)))::st.fr,st.mem,st.nx⟩ Q):RG cx all (o::os) st Q:=by
 obtain ⟨hP,hN,hO⟩:=hX;subst hP hN;refine RG.gz (e:=⟨.one (.bG (.int .i64) (bn xs)),[],[],[]⟩) ⟨rfl,rfl,hO⟩ hg (by rw [hd];exact R) (λg a w U=> ?_) (by rw [hd];exact hr);obtain ⟨hp,b,aa,e1⟩:=cA U hm;obtain ⟨b',es,ck,j,hb,ab⟩:=U.mem c _ hl;have:b'=b:=by rw [show g.f c []=some b from aa] at j;injection j with h;exact h.symm
 subst this;obtain ⟨h1,h2,h3⟩:=nv;have r:=ab.length;have I:resolve a.eval cl o.type=pure {target:= .builtin .len cl.argTypes o.type (cl.args.map fun| .const _=>true|_=>false),args:=cl.args.map a.eval}:=by
  unfold resolve;rw [h1];rfl
 have J:(acW #[T] o.type #[a.eval m]).run cx.P w= .ok (.int .i64 (bn xs)) w:=by
  rw [e1];simp [acW,run_underlying hT,mJ hb,goInt,bn,r]
 refine .inl ⟨.int .i64 (bn xs),w,?_,g,U,rfl⟩;have he:execOp a.eval o=(do pure (.value (<-acW #[T] o.type #[a.eval m]))):=by
  have p:cl.args.map a.eval= #[a.eval m]:=by rw [h2];simp
  simp only [execOp,ho,I,p,h3];rfl
 rw [he];simp [J]
end
section
variable {cx:Cx} {g:GM} {st:St} {a:Act} {w w':Ε} {P:Ο} {N:Nat} {own:List Nat} {Q:abI->St->Prop} {all os:List Ϥ}
theorem RG.JE {T E:Ι}{o:Ϥ}{parts:Array (Nat×aah)}{d:Tmp}{len n:Nat}{vs:List (Nat×bK)}(cs:List bI)(hX:gU cx P N own)(ho:o.op= .build T parts)(hg:o.guard=none)(R:o.dst=some d)(t:aaf d N=true)(hT:P.underlying T=some (.array len E))(U:dm P E=some n){z:π}(r:(P.info? T).bind (·.zero)=some z)(I:(oe z).ok=true)(J:zc st.fr parts.toList=some vs)(hf:xg (λi=>some (i*n,n)) (oe z).cells vs=some cs)(hr:RG cx all os ⟨(d,.agg cs)::st.fr,st.mem,st.nx⟩ Q):RG cx all (o::os) st Q:=by
 obtain ⟨hP,hN,hO⟩:=hX;subst hP hN;refine RG.gz (e:=⟨.agg cs,[],[],[]⟩) ⟨rfl,rfl,hO⟩ hg (by rw [R];exact t) (λg a w hs=> ?_) (by rw [R];exact hr);obtain ⟨i,hi,p⟩: ∃i,cx.P.info? T=some i/\i.zero=some z:=by
  cases hx:cx.P.info? T with
  |none=>rw [hx] at r;cases r
  |some i=>rw [hx] at r;exact ⟨i,rfl,r⟩
 obtain ⟨j,h1,h2⟩:=ue (g:=g) (m:=st.mem) (S:=cx.safe g st.mem w) (w:=w) (λi=>some (i*n,n)) hf (kL z I) (vn hs J);refine .inl ⟨.agg j,w,?_,g,hs,j.toList,by simp,h2⟩;simp only [execOp,ho,ahj,Ϛ,zeroValue,typeInfo,hi,p,run_underlying hT,cN U,ϋ,ϵ,abb,h1];simp [hi,p,run_underlying hT,cN U,h1]
theorem RG.PH {T:Ι}{o:Ϥ}{d:Tmp}(k:aaK)(n:Nat)(hX:gU cx P N own)(ho:o.op= .alloc T)(hg:o.guard=none)(hd:o.dst=some d)(J:aaf d N=true)(I:(P.info? T).bind (·.zero)=some (.agg (υ n (Value.int k 0)).toArray))(r:mE st.mem [(st.nx,.gone)]=true)(hr:RG cx all os ⟨(d,.one (.dn st.nx 0 1 0))::st.fr,(st.nx,.seq (.int k) (υ n (0:Int)))::st.mem,st.nx+1⟩ Q):RG cx all (o::os) st Q:=by
 obtain ⟨hP,hN,hO⟩:=hX;subst hP hN;refine RG.gz (e:=⟨.one (.dn st.nx 0 1 0),[(st.nx,.seq (.int k) (υ n (0:Int)))],[],[]⟩) ⟨rfl,rfl,hO⟩ hg (by rw [hd];exact J) (λg a w hs=> ?_) (by rw [hd];exact hr);obtain ⟨i,R,U⟩: ∃i,cx.P.info? T=some i/\i.zero=some (.agg (υ n (Value.int k 0)).toArray):=by
  cases hx:cx.P.info? T with
  |none=>rw [hx] at I;cases I
  |some i=>rw [hx] at I;exact ⟨i,rfl,I⟩
 have r:=gb r (st.nx,.gone) ϴ;refine .inl ⟨.pointer (some ⟨w.heap.size,0,none⟩),w.alloc (.cells (υ n (Value.int k 0)).toArray T),?_,?_⟩;simp [execOp,ho,adw,zeroValue,typeInfo,R,U,newVar,newRow,abU];refine ph.new hs (λp hp=>by simp at hp;subst hp;exact r) ⟨rfl,rfl⟩ (acA _ _ _) (aer w _ T) (λg' hg t S' hS=> ?_) (λg' t S'=>⟨by simp [bO],w.heap.size,t,by simp⟩);refine ⟨(υ n (Value.int k 0)).toArray,aer w _ T,eU.lr rfl λi R=>⟨[.int k 0],λj v hv=> ?_,?_⟩⟩;have hn:i<n:=by simpa using R
 cases j with
 |zero=>
  simp at hv;subst hv;simp [aao,hn]
 |succ j=>simp at hv
 show [Value.int k 0]=[Value.int k ((υ n (0:Int))[i])];simp
theorem RG.PI {T:Ι}{o:Ϥ}{x y:aah}{k:aaK}{c n:Nat}{xs:List Int}(ys:List Int)(hX:gU cx P N own)(ho:o.op= .store T x y)(hg:o.guard=none)(hd:o.dst=none)(hT:dm P T=some n)(hx:ev st.fr x=some (.one (.dn c 0 1 0)))(hl:lk c st.mem=some (.seq (.int k) xs))(hn:xs.length=n)(NV:ys.length=n)(hy:ev st.fr y=some (.agg (ys.map λz=> .bG (.int k) z)))(Cs:aaf 0 n=true)(hr:RG cx all os ⟨st.fr,(c,.seq (.int k) ys)::st.mem,st.nx⟩ Q):RG cx all (o::os) st Q:=by
 obtain ⟨hP,hN,hO⟩:=hX;subst hP hN;refine RG.gz (e:=⟨.dS,[],[(c,.seq (.int k) ys)],[]⟩) ⟨rfl,rfl,hO⟩ hg (by rw [hd];rfl) (λg a w hs=> ?_) (by rw [hd];exact hr);obtain ⟨hp,b,p,e1⟩:=cA hs hx;obtain ⟨vs,e2,sT⟩:=cA hs hy;have I:=hs.mem c _ hl;unfold jk at I;have p:g.f c []=some b:=p;rw [p] at I;obtain ⟨arr,hb,sh⟩:=I;have nK:n<=arr.size:=by
  have h0:0<n:=ϑ Cs;obtain ⟨es,J,h2⟩:=sh (n - 1) (by rw [hn];omega);have h3:es.length=1:=dw.len (.int k) h2;obtain ⟨u,hu⟩: ∃u,es[0]? =some u:=⟨es[0],List.getElem?_eq_getElem (by omega)⟩;have:=J 0 u hu;have:=(ϝ.1 this).1;simp [aao] at this;omega
 have U:vs=ys.map (Value.int k):=by
  have: ∀(zs:List Int) (r:List π),cc (CR g st.mem (cx.safe g st.mem w) w) (zs.map λz=> .bG (.int k) z) r->r=zs.map (Value.int k):=by
   intro zs;induction zs with
   |nil=>intro r h;cases r with|nil=>rfl|cons=>exact h.elim
   |cons z zs ih=>
    intro r h;cases r with
    |nil=>exact h.elim
    |cons u r=>
     have J:[u]=[Value.int k z]:=h.1;rw [ih r h.2];injection J with J;rw [J];rfl
  exact this ys vs sT
 subst U;have nv:(a.eval y).cells.toList=ys.map (Value.int k):=by rw [e2];simp [abU]
 obtain ⟨w',t,J,h2,h3,h4,h5⟩:=lA (P:=cx.P) (T:=T) (n:=n) (b:=b) (o:=0) (v:=a.eval y) hT hb (by rw [nv];simp [NV]) (by omega) (by rw [nv];intro v hv;obtain ⟨z,_,rfl⟩:=Ϣ.1 hv;rfl);refine .inr (.inl ⟨w',?_,g,?_,trivial⟩);simp only [execOp,ho,Ϛ];rw [e1];simp only [abf,Ψ,J,ϋ,ϵ];refine hs.NP (c:=c) (b:=b) (p0:=[]) ⟨hl,trivial,p,h4,⟨arr,t,hb,h2,h5⟩,λ_ h=>h,(λe=>by cases e),λt' iy h=> ?_,λt' iy h=> ?_⟩ ?_;rcases h with h|⟨_,_,_,h⟩
 injection h with h6 R;subst h6;have R:=eq_of_heq R;subst R;exact ⟨xs,.inl rfl,by show ζ xs=ζ ys;omega⟩;cases h;injection h with h6 R;subst h6;have R:=eq_of_heq R;subst R;exact ⟨xs,rfl,by show ζ xs=ζ ys;omega,λi o e RC h=>by cases h⟩;unfold jk;rw [p];refine ⟨t,h2,eU.lr rfl λi hi=>⟨[.int k ys[i]],λj v hv=> ?_,rfl⟩⟩;cases j with
 |zero=>
  simp at hv;subst hv;rw [<-ϥ,h3,nv];have Ca:i<ys.length:=hi;simp [aao,List.getElem?_append,Ca]
 |succ j=>simp at hv
def JF (k:aaK)(n:Nat)(xs:List Int):List bI:=(abD n).map λj=> .bG (.int k) (xs.getD j 0)
theorem RG.Oh {T:Ι}{o:Ϥ}{x:aah}{k:aaK}{c n:Nat}{d:Tmp}{xs:List Int}(hX:gU cx P N own)(ho:o.op= .load T x)(hg:o.guard=none)(hd:o.dst=some d)(R:aaf d N=true)(hT:dm P T=some n)(U:xf P T=some true)(hx:ev st.fr x=some (.one (.dn c 0 1 0)))(hl:lk c st.mem=some (.seq (.int k) xs))(hn:xs.length=n)(hr:RG cx all os ⟨(d,.agg (JF k n xs))::st.fr,st.mem,st.nx⟩ Q):RG cx all (o::os) st Q:=by
 obtain ⟨hP,hN,hO⟩:=hX;subst hP hN;refine RG.gz (e:=⟨.agg (JF k n xs),[],[],[]⟩) ⟨rfl,rfl,hO⟩ hg (by rw [hd];exact R) (λg a w hs=> ?_) (by rw [hd];exact hr);obtain ⟨hp,b,p,e1⟩:=cA hs hx;have r:=hs.mem c _ hl;unfold jk at r;have p:g.f c []=some b:=p;rw [p] at r;obtain ⟨arr,hb,t⟩:=r;have hc: ∀j v,(xs.map (Value.int k))[j]? =some v->w.cell? ((⟨b,0,none⟩:Addr).add j)=some v:=λj v hv=>by
  obtain ⟨hj,hv⟩:=ω.1 hv;have NO:j<xs.length:=by simpa using hj
  obtain ⟨es,h1,I⟩:=t j NO;have I:es=[.int k xs[j]]:=I;subst I;have:=h1 0 _ rfl;rw [cw,hb.cell,Ψ];simp [aao] at this;rw [this,<-hv];simp
 have J: ∀(m:Nat),cc (CR g st.mem (cx.safe g st.mem w) w) (JF k xs.length xs) (xs.map (Value.int k)):=λ_=>by
  have:JF k xs.length xs=xs.map λz=> .bG (.int k) z:=by
   unfold JF;apply List.ext_getElem;simp;intro i h1 I;have:i<xs.length:=by simpa using I
   simp [this]
  rw [this];clear this hc t hl hr hn;induction xs with
  |nil=>trivial
  |cons z zs ih=>exact ⟨rfl,ih⟩
 refine .inl ⟨.agg (xs.map (Value.int k)).toArray,w,?_,g,hs,xs.map (Value.int k),rfl,by rw [<-hn];exact J 0⟩;have:=run_loadCells_list (P:=cx.P) w ⟨b,0,none⟩ (xs.map (Value.int k)) hc;rw [Ϝ,hn] at this;simp only [execOp,ho];rw [e1];simp [Instr.loadAt,aax,loadVar,tq U,cN hT,this]
def zV (q:Bool):π:=bif q then .bool false else .int .i64 0
def Va:Bool->π->Bool
 |true,.bool b=> !b
 |false,.int .i64 n=> @decide (@Eq Int n 0) (adF n 0)
 |_,_=>false
theorem PJ {q:Bool}{v:π}(h:Va q v=true):v=zV q:=by
 unfold Va at h;split at h;rename_i b;cases b<;>first|rfl|cases h
 rename_i n;rw [decide_eq_true_eq] at h;rw [h];rfl;cases h
def Mc (q:Bool):List π->Nat->Bool
 |[],n=>(match n with|0=>true|_+1=>false)
 |v::r,n=>(match n with|0=>false|n+1=>bif Va q v then Mc q r n else false)
theorem Gw {q:Bool}: ∀{l:List π} {n:Nat},Mc q l n=true->l=υ n (zV q)
 |[],0,_=>rfl
 |[],_+1,h=>by cases h
 |_::_,0,h=>by cases h
 |v::r,n+1,h=>by
  simp only [Mc] at h;cases j:Va q v with
  |false=>rw [j] at h;cases h
  |true=>
   rw [j] at h;rw [PJ j,Gw (l:=r) (n:=n) h];rfl
def Oi (P:Ο)(T:Ι)(q:Bool)(n:Nat):Bool:=
 match P.info? T with
 |some i=>(match i.zero with
  |some (.agg cs)=>Mc q cs.toList n
  |_=>false)
 |none=>false
def zD (q:Bool):(t:Ty)->Option t.D
 | .int .i64=>bif q then none else some (0:Int)
 | .bool=>bif q then some false else none
 | .pair a b=>(match zD q a,zD q b with
  |some x,some y=>some (x,y)
  |_,_=>none)
 | .st t=>zD q t
 |_=>none
theorem Bj {S:Nat->Prop}{q:Bool}: ∀(t:Ty) {x:t.D},zD q t=some x->cn S w t (υ t.size (zV q)) x
 | .int k,x,h=>by
  cases k<;>first|(cases q<;>simp [zD] at h;subst h;rfl)|cases h
 | .bool,x,h=>by cases q<;>simp [zD] at h;subst h;rfl
 | .pair a b,x,h=>by
  simp only [zD] at h;split at h;rename_i y z j o;injection h with h;subst h;exact ⟨_,_,by simp only [aao];rw [List.replicate_append_replicate],Bj a j,Bj b o⟩;cases h
 | .st t,x,h=>Bj t (x:=x) h
 | .dP _,_,h=>by cases h
 | .str,_,h=>by cases h
 | .sl _,_,h=>by cases h
 | .own _,_,h=>by cases h
 | .bx _,_,h=>by cases h
 | .cl _ _,_,h=>by cases h
theorem RG.Tj {T:Ι}{U o2:Ϥ}{o d2:Tmp}(q:Bool)(t:Ty)(n:Nat)(z:t.D)(hX:gU cx P N own)(h1:U.op= .build T #[])(g1:U.guard=none)(e1:U.dst=some o)(h2:o2.op= .box T (.tmp o))(g2:o2.guard=none)(e2:o2.dst=some d2)(I:(aaf o N&&aaf d2 N)=true){len:Nat}{E:Ι}(hT:P.underlying T=some (.array len E)){sz:Nat}(hE:dm P E=some sz)(r:Oi P T q (n*t.size)=true)(hzd:zD q t=some z)(rE:t.top=true)(J:mE st.mem [(st.nx,.gone)]=true)(hr:RG cx all os ⟨(d2,.one (.dn st.nx 0 t.size 0))::(o,.dS)::st.fr,(st.nx,.seq t (υ n z))::st.mem,st.nx+1⟩ Q):RG cx all (U::o2::os) st Q:=by
 obtain ⟨hP,hN,hO⟩:=hX;subst hP hN;simp only [κ] at I;have Tk:=ϑ I.1;have Md:=ϑ I.2;unfold Oi at r;cases hi:cx.P.info? T with
 |none=>rw [hi] at r;cases r
 |some i=>
  rw [hi] at r;simp only at r;cases R:i.zero with
  |none=>rw [R] at r;cases r
  |some zv=>
   rw [R] at r;cases zv<;>simp only at r<;>try (cases r;done)
   rename_i cs;have hcs:=Gw r;have WY:cs=(υ (n*t.size) (zV q)).toArray:=by rw [<-hcs]
   intro g a w hs;refine wpList_step λK hK=> ?_;simp only [ϯ,g1,if_true];unfold acq;have hb:(execOp a.eval U).run cx.P w= .ok (.value (.agg cs)) w:=by
    simp [execOp,h1,ahj,zeroValue,typeInfo,hi,R,run_underlying hT,cN hE,Instr.fill,abU]
   rw [hb];refine hK _ _ ?_;rw [e1];have I4:cT cx g (st.put (some o) .dS) (a.put (some o) (.agg cs)) w:=hs.put (v:= .dS) trivial (some o) λt e=>by cases e;exact Tk
   refine wpList_step λK hK=> ?_;simp only [ϯ,g2,if_true];unfold acq;have HF:(a.put (some o) (.agg cs)).eval (.tmp o)= .agg cs:=by
    have:o<a.tmps.size:=by rw [hs.size];exact Tk
    simp [aeC,abL,ϐ,this]
   have hx:(execOp (a.put (some o) (.agg cs)).eval o2).run cx.P w= .ok (.value (.pointer (some ⟨w.heap.size,0,none⟩))) (w.alloc (.cells cs T)):=by
    simp [execOp,h2,HF,Instr.box,newVar,newRow,abU]
   rw [hx];have J:=gb J (st.nx,.gone) ϴ;have WZ:ph cx (st.put (some o) .dS) (a.put (some o) (.agg cs)) ⟨.one (.dn st.nx 0 t.size 0),[(st.nx,.seq t (υ n z))],[],[]⟩ (.pointer (some ⟨w.heap.size,0,none⟩)) (w.alloc (.cells cs T)):=by
    refine ph.new I4 (λp hp=>by simp at hp;subst hp;exact J) ⟨rfl,rfl⟩ (acA _ _ _) (aer w _ T) (λg' hg Ej S' hS=> ?_) (λg' Ej S'=>⟨by simp [bO,St.put],w.heap.size,Ej,by simp⟩);refine ⟨cs,aer w _ T,eU.lr rE λi hi=>⟨υ t.size (zV q),λj v hv=> ?_,?_⟩⟩;have hn:i<n:=by simpa using hi
    obtain ⟨hj,hv⟩:=ω.1 hv;have hj:j<t.size:=by simpa using hj
    have hlt:i*t.size+j<n*t.size:=by
     have:(i+1)*t.size<=n*t.size:=Τ _ hn;rw [ϓ,Nat.one_mul] at this;omega
    rw [WY];simp at hv;simp [hlt,<-hv];have:=Bj (S:=S') (w:=w.alloc (.cells cs T)) t hzd;simpa using this
   obtain ⟨g',qD⟩:=WZ.UW (d:=some d2) λt e=>by cases e;exact Md
   refine hK _ _ ?_;rw [e2];exact hr g' _ _ qD
end
end Go.Ide
namespace Go.Ide
section
variable {cx:Cx} {g:GM} {st:St} {a:Act} {w w':Ε} {P:Ο} {N:Nat} {own:List Nat} {Q:abI->St->Prop} {all os:List Ϥ}
def W0 (R:St->Prop)(e:abI)(s:St):Prop:=(e= .ret\/e= .normal)/\R s
def yp:List Nat->Fr->Option (List bI)
 |[],_=>some []
 |t::j,fr=>(match lk t fr,yp j fr with
  |some (.one c),some l=>some (c::l)
  |_,_=>none)
def yq:Nat->List bK->Fr
 |_,[]=>[]
 |n,v::r=>(n,v)::yq (n+1) r
def Me:List Nat->List bI->Fr
 |t::j,c::cs=>(t,.one c)::Me j cs
 |_,_=>[]
theorem An {v:bK}{t:Nat}: ∀{vs:List bK} {n:Nat},lk t (yq n vs)=some v->n<=t/\vs[t - n]? =some v
 |[],n,h=>by cases h
 |u::r,n,h=>by
  simp only [yq] at h;rw [bO] at h;split at h;rename_i e;subst e;injection h with h;subst h;exact ⟨ς _,by simp⟩;obtain ⟨o,j⟩:=An h;refine ⟨by omega,?_⟩;rw [show t - n=(t - (n+1))+1 from by omega];simpa using j
theorem Gx {S:Nat->Prop}{m:Mem}{v:bK}{t:Nat}(f:Nat->π): ∀{ts:List Nat} {cs:List bI},cc (CR g m S w) cs (ts.map f)->lk t (Me ts cs)=some v->VR g m S w v (f t)
 |[],_,_,h=>by cases h
 |_::_,[],h,_=>h.elim
 |u::ts,c::cs,h,j=>by
  simp only [Me] at j;rw [bO] at j;split at j;rename_i e;subst e;injection j with j;subst j;exact h.1;exact Gx f h.2 j
theorem yr {S:Nat->Prop}(h:cT cx g st a w): ∀{ts:List Nat} {cs:List bI},yp ts st.fr=some cs->cc (CR g st.mem (cx.safe g st.mem w) w) cs (ts.map λt=>a.tmps.getD t undef)
 |[],cs,j=>by simp only [yp] at j;injection j with j;subst j;trivial
 |t::ts,cs,j=>by
  simp only [yp] at j;split at j;rename_i c l o p;injection j with j;subst j;exact ⟨h.fr t _ o,yr (S:=S) h p⟩;cases j
theorem cT.ghost {cs:List bI}{gv:List π}(h:cT cx g st a w)(ub:lk st.nx st.mem=none)(J:cc (CR g st.mem (cx.safe g st.mem w) w) cs gv):
 ∃g':GM,cT cx g' (st.jc ((st.nx,.gh cs gv)::st.mem) (st.nx+1)) a w/\iO g g' st.mem ((st.nx,.gh cs gv)::st.mem) (cx.safe g st.mem w) (cx.safe g' ((st.nx,.gh cs gv)::st.mem) w) w w:=by
 have r: ∀k,lk k st.mem≠none->(g.set st.nx λ_=>none).f k=g.f k:=λk iH=>GM.Ea _ _ (λe=>iH (by rw [e];exact ub));have I:=GM.xk g st.nx λ_=>none;revert r I;generalize g.set st.nx (λ_=>none)=g';intro r I;have R: ∀k,lk k st.mem≠none->lk k ((st.nx,.gh cs gv)::st.mem)=lk k st.mem:=λk hk=>by
  rw [bO,if_neg (λe=>hk (by rw [e];exact ub))]
 have U: ∀b,cx.safe g st.mem w b->cx.safe g' ((st.nx,.gh cs gv)::st.mem) w b:=by
  intro b ⟨h2,h3,h4⟩;refine ⟨h2,h3,?_⟩;rintro ⟨k,p,c,T,hn,hg⟩;rw [bO] at T;by_cases e:k=st.nx;subst e;rw [I] at hg;cases hg;rw [if_neg e] at T;exact h4 ⟨k,p,c,T,hn,by rw [<-r k (by rw [T];simp)];exact hg⟩
 have uh:iO g g' st.mem ((st.nx,.gh cs gv)::st.mem) (cx.safe g st.mem w) (cx.safe g' ((st.nx,.gh cs gv)::st.mem) w) w w:=
  ⟨⟨λb hb=>⟨U b hb,rfl⟩,λc J=>⟨by rw [R c J];exact J,congrFun (r c J) []⟩,λc t xs J hl=>⟨xs,by unfold dH at hl⊢;rw [<-R c J];exact hl,rfl⟩,λc t xs b arr J hl Cu hb=>⟨arr,hb,rfl⟩⟩,
   r,λc t xs J hl=>⟨xs,by rw [<-R c J];exact hl,cL.refl _ _,λi o b arr Cu hb=>⟨arr,hb,rfl⟩⟩⟩
 have t:wA cx g g' st.mem ((st.nx,.gh cs gv)::st.mem) w w []:=by
  refine ⟨adn _ _,(λb hb=>by simp at hb),r,λk c0 ho=> ?_,λk c0 ho j=> ?_⟩;left;rw [R k (by rw [ho];simp)];exact ⟨ho,λ_ _ _ _=>by simp⟩;rw [bO] at j;by_cases e:k=st.nx;subst e;rw [if_pos rfl] at j;injection j with j;subst j;exact ⟨⟨λp=>by rw [I],J.mono λ_ _=>aeE uh⟩,λp b hn hg=>by rw [I] at hg;cases hg⟩;rw [if_neg e,ho] at j;cases j
 exact ⟨g',h.ua t,uh⟩
theorem RG.Bk {os:List Ϥ}{o:Ϥ}{f:aaF}{sR:Array aah}{d:Tmp}(ks:List Nat)(hX:gU cx P N own)(R:o.op= .makeFunc (.func f) #[] sR)(hg:o.guard=none)(I:o.dst=some d)(J:aaf d N=true)(T:IZ st.fr sR.toList=some (ks.map λk=> .one (.ptr k 0)))(U:RG cx all os ⟨(d,.one (.cls f ks))::st.fr,st.mem,st.nx⟩ Q):RG cx all (o::os) st Q:=by
 obtain ⟨hP,hN,hO⟩:=hX;subst hP hN;refine RG.gz (e:=⟨.one (.cls f ks),[],[],[]⟩) ⟨rfl,rfl,hO⟩ hg (by rw [I];exact J) (λg a w hs=> ?_) (by rw [I];exact U);have j:=qI hs T;have r:sR.map a.eval=(sR.toList.map a.eval).toArray:=by apply aa9;rw [abb]
 refine .inl ⟨.func (.func f) #[] (sR.map a.eval),w,by simp [execOp,R,Instr.makeFunc],g,hs,_,by rw [r],?_⟩;clear r T U R I;generalize sR.toList.map a.eval=t at j;induction ks generalizing t with
 |nil=>cases t with|nil=>trivial|cons=>exact j.elim
 |cons k ks ih=>
  cases t with
  |nil=>exact j.elim
  |cons p t=>exact ⟨j.1,ih t j.2⟩
theorem RG.inl {β:Type}{o:Ϥ}{cl:Call}{fo:aah}{fn:Func}{c:Code}{f:aaF}{d:Tmp}{ks ts:List Nat}{vs:List bK}{cs:List bI}(JJ:List π->β->St)(cj:β->List bI)(J:β->St)(C:β->Prop)(gk:Nat)(hX:gU cx P N own)(hF:cx.Ir)(uq:cx.nd=true)(ho:o.op= .call cl)(hg:o.guard=none)(hd:o.dst=some d)(D2:aaf d N=true)(nv:cl.callee= .value fo)(hf:ev st.fr fo=some (.one (.cls f ks))\/(ev st.fr fo=some (.one (.fn f))/\ks=[]))(sT:IZ st.fr cl.args.toList=some vs)(hfn:P.funcs[f]? =some fn)(hb:fn.body=some c)(I9:(fn.name=="runtime.NumGoroutine")=false)(tE:fn.results= #[])(hn:ϩ (vs.length+ks.length) fn.ntmps=true)(Tb:yp ts st.fr=some cs)(ub:mE st.mem [(st.nx,.gone)]=true)(ab: ∀(gv:List π) (r:Cx),gU r P fn.ntmps own->r.Ir->r.nd=true->HT r ⟨yq 0 (vs++ks.map λk=> .one (.ptr k 0)),(st.nx,.gh cs gv)::st.mem,st.nx+1⟩ c (W0 λs=> ∃v,C v/\Le r s (JJ gv v)))(hgh: ∀gv v,lk gk (JJ gv v).mem=some (.gh (cj v) gv))(hle: ∀gv v,Le cx ⟨(d,.dS)::Me ts (cj v),(JJ gv v).mem,(JJ gv v).nx⟩ (J v))(hk: ∀v,C v->Q .normal (J v)):RG cx all [o] st Q:=by
 obtain ⟨hP,hN,hO⟩:=hX;subst hP hN;intro g a w hs;refine wpList_step λK hK=> ?_;simp only [ϯ,hg,if_true];have ub:=gb ub (st.nx,.gone) ϴ;obtain ⟨g1,I,W2⟩:=hs.ghost (cs:=cs) (gv:=ts.map λt=>a.tmps.getD t undef) ub (yr (S:=λ_=>True) hs Tb);have ze: ∃T:List π,a.eval fo= .func (.func f) #[] T.toArray/\cc (VR g st.mem (cx.safe g st.mem w) w) (ks.map λk=> .one (.ptr k 0)) T:=by
  rcases hf with hf|⟨hf,e⟩
  obtain ⟨T,e1,h1⟩:=cA hs hf;refine ⟨T,e1,?_⟩;clear ab hn hf e1;induction ks generalizing T with
  |nil=>cases T with|nil=>trivial|cons=>exact h1.elim
  |cons k ks ih=>
   cases T with
   |nil=>exact h1.elim
   |cons p T=>exact ⟨h1.1,ih T h1.2⟩
  subst e;exact ⟨[],cA hs hf,trivial⟩
 obtain ⟨T,ze,Tl⟩:=ze;have wh:=qI hs sT;have U:cc (VR g st.mem (cx.safe g st.mem w) w) (vs++ks.map λk=> .one (.ptr k 0)) (cl.args.toList.map a.eval++T):=cc.append wh Tl;obtain ⟨vals,aa⟩: ∃vals,vals=cl.args.toList.map a.eval++T:=⟨_,rfl⟩;rw [<-aa] at U;have hlen:vals.length=vs.length+ks.length:=by rw [<-U.length];simp
 have Dm:(execOp a.eval o).run cx.P w= .ok (.enter f vals.toArray) w:=by
  have W4:cl.args.map a.eval++T.toArray=(cl.args.toList.map a.eval++T).toArray:=by apply aa9;simp
  have SI:fn.body.isNone=false:=by rw [hb];rfl
  simp only [execOp,ho,resolve,nv,ze,aa3,Ϛ,ϵ,ϋ,invoke,callFunc,run_program,hfn];simp only [I9,SI,Array.empty_append];simp [aa]
 unfold acq;rw [Dm];have Zl:=ϑ hn;show aaW cx.P f vals.toArray w _;refine aeo (R:=λen w'=> ∃v,en= .returned v/\K (a.put o.dst v) w') ?_ λen w' ⟨v,e1,h⟩=>by subst e1;exact h
 refine callsIn_wide.1 (callsIn_of_wp_marks (F:=adi) (n:=0) hfn hb trivial (wpIn_wide.2 ?_));let r:Cx:={cx with N:=fn.ntmps};have IY:cT r g1 ⟨yq 0 (vs++ks.map λk=> .one (.ptr k 0)),(st.nx,.gh cs (ts.map λt=>a.tmps.getD t undef))::st.mem,st.nx+1⟩ {tmps:=vals.toArray++ϻ (fn.ntmps - vals.toArray.size) undef,defers:=[]} w:=by
  refine ⟨.nil,?_,λt v hl=> ?_,I.mem,I.fY,I.iN,I.lt,I.bJ,I.own,I.gl⟩;show (vals.toArray++ϻ (fn.ntmps - vals.toArray.size) undef).size=fn.ntmps;simp;omega;obtain ⟨_,hv⟩:=An hl;rw [ahO] at hv;obtain ⟨u,hu,hv⟩:=U.get t v hv;have Hg:=(ω.1 hu);have:(vals.toArray++ϻ (fn.ntmps - vals.toArray.size) undef).getD t undef=u:=by
   rw [ϐ,Array.getElem?_append_left (by simpa using Hg.1)];simp [hu]
  show VR _ _ _ _ _ ((vals.toArray++ϻ (fn.ntmps - vals.toArray.size) undef).getD t undef);rw [this];exact VR.stays W2 hv
 have C2:=ab (ts.map λt=>a.tmps.getD t undef) r ⟨rfl,rfl,hO⟩ hF uq g1 _ w IY;refine wp_mono C2 λe a' w' ⟨st',g0,hq,Wt⟩=> ?_;obtain ⟨he,v,hC,W5⟩:=hq;obtain ⟨g',j⟩:=W5 g0 a' w' Wt;have U1: ∀(u:π),∃g2,cT cx g2 (J v) (a.put o.dst u) w':=by
  intro u;have Ws:=hs.size;refine hle _ v g' _ w' ⟨?_,?_,λt x hl=> ?_,j.mem,j.fY,j.iN,j.lt,j.bJ,j.own,j.gl⟩;have h0:a.defers=[]:=hs.defers.1 uq;rw [hd];show zg cx g' _ w' a.defers;rw [h0];exact .nil;rw [hd];simp [abL,Ws];have hlt:d<cx.N:=ϑ D2;rw [hd];rw [bO] at hl;split at hl;injection hl with hl;subst hl;trivial;rename_i iH;have W6:=j.mem gk _ (hgh _ v);have:=Gx (g:=g') (w:=w') (m:=(JJ (ts.map λt=>a.tmps.getD t undef) v).mem) (S:=cx.safe g' (JJ (ts.map λt=>a.tmps.getD t undef) v).mem w') (λt=>a.tmps.getD t undef) W6.2 hl;have e2:(a.put (some d) u).tmps.getD t undef=a.tmps.getD t undef:=by
   have PK: ¬d=t:=λe=>iH e.symm;simp [abL,ϐ,ϭ,PK]
  rw [e2];exact this
 have Lj:(results fn a'.tmps).run cx.P w'= .ok (.tuple #[]) w':=by
  simp [results,tE]
 have hd0:a'.defers=[]:=j.defers.1 uq;have fin:LeavesInM adi 0 cx.P fn a'.tmps (λen w'=> ∃v,en= .returned v/\K (a.put o.dst v) w') a'.defers .returning w':=by
  rw [hd0];obtain ⟨g2,D3⟩:=U1 (.tuple #[]);exact ⟨.tuple #[],Lj,_,rfl,hK _ _ ⟨J v,g2,hk v hC,D3⟩⟩
 rcases he with rfl|rfl
 exact fin;exact fin
end
end Go.Ide
namespace Go.Ide
def Tm (P:Ο)(f:aaF)(T e:Ι):Prop:=
 kx P f/\ ∀(b:Nat) (p v:π) (own:Option Nat) (o s:List UInt8) (w:Ε),(p= .pointer none\/p= .pointer (some ⟨b,0,none⟩))->w.heap[b]? =some (.cells #[p,v] T (0,0))->own≠some b->tV own w e v (lh o)->
  o.length+s.length<=bD->aaW P f #[.pointer (some ⟨b,0,none⟩),.string ⟨s.toArray⟩] w λt w'=>(∃u,t= .returned u)/\ ∃r j,w'.heap[b]? =some (.cells #[.pointer (some ⟨b,0,none⟩),r] T (0,0))/\j≠some b/\tV j w' e r (lh (o++s))/\
   (j=own\/ ∀g,j=some g->w.heap.size<=g)/\bU (b::own.toList) w w'
def Tn (P:Ο)(f:aaF)(T e:Ι):Prop:=
 kx P f/\ ∀(b:Nat) (p v:π) (own:Option Nat) (j:List UInt8) (w:Ε),(p= .pointer none\/p= .pointer (some ⟨b,0,none⟩))->w.heap[b]? =some (.cells #[p,v] T (0,0))->own≠some b->tV own w e v (lh j)->
  j≠[]->aaW P f #[.pointer (some ⟨b,0,none⟩)] w λo w'=>o= .returned (.string ⟨j.toArray⟩)/\w'.os=w.os/\w'.tape=w.tape/\w'.output=w.output/\w.heap.size<=w'.heap.size/\ ∀i,i<w.heap.size->own≠some i->w'.heap[i]? =w.heap[i]?
section
variable {cx:Cx} {g:GM} {st:St} {a:Act} {w w':Ε} {P:Ο} {N:Nat} {own:List Nat} {Q:abI->St->Prop} {all os:List Ϥ}
theorem cT.W7 (h:cT cx g st a w){t:Nat}{v:bK}(o:VR g st.mem (cx.safe g st.mem w) w v (a.tmps.getD t undef)):cT cx g ⟨(t,v)::st.fr,st.mem,st.nx⟩ a w:=by
 refine ⟨h.defers,h.size,λq x j=> ?_,h.mem,h.fY,h.iN,h.lt,h.bJ,h.own,h.gl⟩;rw [bO] at j;split at j;rename_i e;subst e;injection j with j;subst j;exact o;exact h.fr q x j
theorem RG.W8 {T:Ι}{R U o3:Ϥ}{j o:Tmp}(e:Ι)(hX:gU cx P N own)(h1:R.op= .build T #[])(g1:R.guard=none)(e1:R.dst=some j)(h2:U.op= .alloc T)(g2:U.guard=none)(e2:U.dst=some o)(h3:o3.op= .store T (.tmp o) (.tmp j))(g3:o3.guard=none)(e3:o3.dst=none)(I:((aaf j N&&aaf o N)&& !(Β j o))=true)(hb:P.built T []=some #[.pointer none,.slice none 0 0])(hz:(P.info? T).bind (·.zero)=some (.agg #[.pointer none,.slice none 0 0]))(nK:(P.info? T).map (·.size)=some 2)(J:mE st.mem [(st.nx,.gone)]=true)(hr:RG cx all os ⟨(o,.one (.ptr st.nx 0))::(j,.dS)::st.fr,(st.nx,.pT T e [])::st.mem,st.nx+1⟩ Q):RG cx all (R::U::o3::os) st Q:=by
 obtain ⟨hP,hN,hO⟩:=hX;subst hP hN;simp only [κ,aag] at I;have Tk:=ϑ I.1.1;have Md:=ϑ I.1.2;have iH:j≠o:=λe=>by have:=I.2;rw [e] at this;simp at this
 obtain ⟨i,hi,Th⟩: ∃i,cx.P.info? T=some i/\i.zero=some (.agg #[.pointer none,.slice none 0 0]):=by
  cases hx:cx.P.info? T with
  |none=>rw [hx] at hz;cases hz
  |some i=>rw [hx] at hz;exact ⟨i,rfl,hz⟩
 intro g a w hs;have ha1:j<a.tmps.size:=by rw [hs.size];exact Tk
 have RU:o<a.tmps.size:=by rw [hs.size];exact Md
 refine wpList_step λK hK=> ?_;simp only [ϯ,g1,if_true];unfold acq;rw [show (execOp a.eval R).run cx.P w= .ok (.value (.agg #[.pointer none,.slice none 0 0])) w from by
  have:=run_build (P:=cx.P) w T #[] _ hb;simp [execOp,h1,this]]
 refine hK _ _ ?_;rw [e1];refine wpList_step λK hK=> ?_;simp only [ϯ,g2,if_true];unfold acq;rw [show (execOp (a.put (some j) (.agg #[.pointer none,.slice none 0 0])).eval U).run cx.P w= .ok (.value (.pointer (some ⟨w.heap.size,0,none⟩))) (w.alloc (.cells #[.pointer none,.slice none 0 0] T)) from by
  simp [execOp,h2,adw,zeroValue,typeInfo,hi,Th,newVar,newRow,abU]]
 refine hK _ _ ?_;rw [e2];refine wpList_step λK hK=> ?_;simp only [ϯ,g3,if_true];unfold acq;have r:=heap_alloc_new w (.cells #[.pointer none,.slice none 0 0] T);have Ll:((a.put (some j) (.agg #[.pointer none,.slice none 0 0])).put (some o) (.pointer (some ⟨w.heap.size,0,none⟩))).eval (.tmp o)= .pointer (some ⟨w.heap.size,0,none⟩):=by
  simp [aeC,abL,ϐ,RU]
 have RE:((a.put (some j) (.agg #[.pointer none,.slice none 0 0])).put (some o) (.pointer (some ⟨w.heap.size,0,none⟩))).eval (.tmp j)= .agg #[.pointer none,.slice none 0 0]:=by
  have PK: ¬o=j:=λe=>iH e.symm;simp only [aeC,abL,ϐ,ϭ,if_neg PK,if_pos,Array.size_setIfInBounds,ha1,Option.getD_some]
 have uh:=run_storeVar_row (P:=cx.P) (w.alloc (.cells #[.pointer none,.slice none 0 0] T)) w.heap.size T T #[.pointer none,.slice none 0 0] #[.pointer none,.slice none 0 0] r nK rfl (by simp [Value.oneCell']);rw [setRow_self _ _ _ _ _ r] at uh;rw [show (execOp ((a.put (some j) (.agg #[.pointer none,.slice none 0 0])).put (some o) (.pointer (some ⟨w.heap.size,0,none⟩))).eval o3).run cx.P (w.alloc (.cells #[.pointer none,.slice none 0 0] T))= .ok .skip (w.alloc (.cells #[.pointer none,.slice none 0 0] T)) from by
  simp only [execOp,h3,Ll,RE,Instr.storeAt,aax,Ϛ,ϵ,ϋ,uh]]
 refine hK _ _ ?_;rw [e3];have J:=gb J (st.nx,.gone) ϴ;obtain ⟨g',Ej,qD,_⟩:=hs.OM (ch:= .pT T e []) J (acA [] w (.cells #[.pointer none,.slice none 0 0] T)) (by simp) (λg' _ _ S' _=>⟨λp h1 h2=>by simp [pW,h1],w.heap.size,.pointer none,.slice none 0 0,rfl,.inl rfl,r,rfl,rfl⟩);have D3:=(qD.put (v:= .dS) (val:= .agg #[.pointer none,.slice none 0 0]) trivial (some j) λt e=>by cases e;exact Tk);have Ma:=(D3.put (v:= .one (.ptr st.nx 0)) (val:= .pointer (some ⟨w.heap.size,0,none⟩)) ⟨by simp [St.put,St.jc,bO],w.heap.size,by show g'.f st.nx []=_;rw [Ej];rfl,rfl⟩ (some o) λt e=>by cases e;exact Md);exact hr g' _ _ Ma
theorem RG.To {T e:Ι}{o:Ϥ}{cl:Call}{fo y:aah}{f:aaF}{d t k:Nat}{xs s:List UInt8}(hX:gU cx P N own)(ho:o.op= .call cl)(hg:o.guard=none)(hd:o.dst=some d)(ab:(aaf d N&& !(Β d t))=true)(nv:cl.callee= .value fo/\cl.args= #[.tmp t,y])(hf:ev st.fr fo=some (.one (.fn f)))(hW:Tm P f T e)(hx:lk t st.fr=some (.one (.ptr k 0)))(hl:lk k st.mem=some (.pT T e xs))(hy:ev st.fr y=some (.one (.bG .str s)))(uB:dt k own=false)(ad:mE st.mem [(st.nx,.gone)]=true)(hlen:ζ xs+ζ s<=bD)(hr:RG cx all os ⟨(t,.one (.ptr st.nx 0))::(d,.dS)::st.fr,(k,.gone)::(st.nx,.pT T e (xs++s))::st.mem,st.nx+1⟩ Q):RG cx all (o::os) st Q:=by
 obtain ⟨hP,hN,hO⟩:=hX;subst hP hN;simp only [κ,aag] at ab;have Md:=ϑ ab.1;have Pk:d≠t:=λe=>by have:=ab.2;rw [e] at this;simp at this
 obtain ⟨⟨fn,c1,c2,c3⟩,hW⟩:=hW;intro g a w hs;obtain ⟨hp0,b,R,ex⟩:CR g st.mem (cx.safe g st.mem w) w (.ptr k 0) (a.tmps.getD t undef):=hs.fr t _ hx;obtain ⟨Pa,I,p,v,U,hp,hb,Bl⟩:=hs.mem k _ hl;have:I=b:=by rw [show g.f k []=some b from R] at U;injection U with h;exact h.symm
 subst this;have eys:a.eval y= .string ⟨s.toArray⟩:=lz (g:=g) (m:=st.mem) (S:=cx.safe g st.mem w) (w:=w) (cA hs hy);have ze:a.eval fo= .func (.func f) #[] #[]:=cA hs hf;have PL:g.f k [0]≠some I:=λe=>by have:=(hs.fY k k [] [0] _ _ I hl trivial hl trivial R e).2;cases this
 refine wpList_step λK hK=> ?_;simp only [ϯ,hg,if_true];unfold acq;have wh:cl.args.map a.eval= #[.pointer (some ⟨I,0,none⟩),.string ⟨s.toArray⟩]:=by
  rw [nv.2,<-eys,<-ex];simp [aeC]
 have Dm:(execOp a.eval o).run cx.P w= .ok (.enter f #[.pointer (some ⟨I,0,none⟩),.string ⟨s.toArray⟩]) w:=by
  simp only [execOp,ho,resolve,nv.1,ze,aa3,Ϛ,ϵ,ϋ,invoke,callFunc,run_program,c1,wh];simp only [c2,c3];simp
 rw [Dm];show aaW cx.P f _ w _;refine aeo (hW I p v (g.f k [0]) xs s w hp hb PL Bl hlen) ?_;rintro en w' ⟨⟨u,rfl⟩,v',r,rj,aa,J,Gy,oF⟩;refine hK _ _ ?_;rw [hd];have ad:=gb ad (st.nx,.gone) ϴ;have NZ: ∀q,q∈I::(g.f k [0]).toList-> ∃p,g.f k p=some q:=λq j=>by
  rcases ϖ.1 j with rfl|j
  exact ⟨[],R⟩;exact ⟨[0],by rw [afA] at j;exact j⟩
 have pt:I<w.heap.size:=hs.lt k [] _ I hl trivial R;have F8: ∀q,r=some q->q<w'.heap.size:=λq j=>by
  rw [j] at J;obtain ⟨_,_,_,h,_⟩:=J;exact (ϝ.1 h).1
 have hoG: ∀q,r=some q->w.heap.size<=q\/q∈I::(g.f k [0]).toList:=λq j=>by
  rcases Gy with h|h
  exact .inr (ύ _ (by rw [afA,<-h];exact j));exact .inl (h q j)
 obtain ⟨g',Ej,qD⟩:=hs.newAt (w':=w') ad (up:=[(k,.gone)]) (G:=I::(g.f k [0]).toList) (γ:=λp=>if p=[] then some I else if p=[0] then r else none) (ch:= .pT T e (xs++s))
  (by intro p hp;simp at hp;subst hp;exact ⟨rfl,by rw [hl];simp⟩) oF
  (λq j=>let ⟨p,hp⟩:=NZ q j;⟨k,p,_,by simp [bO],hl,trivial,hp⟩)
  (λp q j=>by
   have j:(if p=[] then some I else if p=[0] then r else none)=some q:=j;split at j;injection j with j;subst j;exact ⟨ϕ pt oF.size,.inr ϴ⟩;split at j;exact ⟨F8 q j,hoG q j⟩;cases j)
  (λp q b hp j=>by
   have hp:(if p=[] then some I else if p=[0] then r else none)=some b:=hp;have j:(if q=[] then some I else if q=[0] then r else none)=some b:=j;by_cases e1:p=[];by_cases e2:q=[];rw [e1,e2];rw [if_pos e1] at hp;rw [if_neg e2] at j;split at j;exact absurd (j.trans hp.symm) aa;cases j;rw [if_neg e1] at hp;by_cases e2:q=[];rw [if_pos e2] at j;split at hp;exact absurd (hp.trans j.symm) aa;cases hp;rw [if_neg e2] at j;split at hp;split at j;rename_i h1 h2;rw [h1,h2];cases j;cases hp)
  (λg' m' S' _=>⟨λp h1 h2=>by simp [h1,h2],I,.pointer (some ⟨I,0,none⟩),v',rfl,.inr rfl,rj,J⟩)
 have D3:=qD.put (v:= .dS) (val:=u) trivial (some d) λq e=>by cases e;exact Md
 have e2:(a.put (some d) u).tmps.getD t undef= .pointer (some ⟨I,0,none⟩):=by
  rw [<-ex];simp [abL,ϐ,ϭ,Pk]
 have Ma:=D3.W7 (t:=t) (v:= .one (.ptr st.nx 0)) (by
  rw [e2];refine ⟨?_,I,by show g'.f st.nx []=_;rw [Ej];rfl,rfl⟩;show lk st.nx ((k,.gone)::(st.nx,.pT T e (xs++s))::st.mem)≠none;rw [bO];split;simp;rw [bO,if_pos rfl];simp)
 exact hr g' _ _ Ma
theorem RG.PM {T e:Ι}{o:Ϥ}{cl:Call}{fo:aah}{f:aaF}{d t k:Nat}{xs:List UInt8}(hX:gU cx P N [])(hF:cx.Ir)(ho:o.op= .call cl)(hg:o.guard=none)(hd:o.dst=some d)(D2:aaf d N=true)(nv:cl.callee= .value fo/\cl.args= #[.tmp t])(hf:ev st.fr fo=some (.one (.fn f)))(hB:Tn P f T e)(hx:lk t st.fr=some (.one (.ptr k 0)))(hl:lk k st.mem=some (.pT T e xs))(iH:xs≠[])(hr:RG cx all os ⟨(d,.one (.bG .str xs))::st.fr,(k,.gone)::st.mem,st.nx⟩ Q):RG cx all (o::os) st Q:=by
 obtain ⟨hP,hN,hO⟩:=hX;subst hP hN;have uB:cx.own=[]:=by simpa using hO
 have RH: ∀b,b ∉ cx.F:=λb U=>by
  obtain ⟨p,hp,_⟩:=hF b U;rw [uB] at hp;simp at hp
 have Md:=ϑ D2;obtain ⟨⟨fn,c1,c2,c3⟩,hB⟩:=hB;intro g a w I;obtain ⟨hp0,b,Ct,ex⟩:CR g st.mem (cx.safe g st.mem w) w (.ptr k 0) (a.tmps.getD t undef):=I.fr t _ hx;obtain ⟨Pa,b',p,v,Tp,hp,U,Bl⟩:=I.mem k _ hl;have:b'=b:=by rw [show g.f k []=some b from Ct] at Tp;injection Tp with h;exact h.symm
 subst this;have ze:a.eval fo= .func (.func f) #[] #[]:=cA I hf;have PL:g.f k [0]≠some b':=λe=>by have:=(I.fY k k [] [0] _ _ b' hl trivial hl trivial Ct e).2;cases this
 refine wpList_step λK hK=> ?_;simp only [ϯ,hg,if_true];unfold acq;have wh:cl.args.map a.eval= #[.pointer (some ⟨b',0,none⟩)]:=by
  rw [nv.2,<-ex];simp [aeC]
 have Dm:(execOp a.eval o).run cx.P w= .ok (.enter f #[.pointer (some ⟨b',0,none⟩)]) w:=by
  simp only [execOp,ho,resolve,nv.1,ze,aa3,Ϛ,ϵ,ϋ,invoke,callFunc,run_program,c1,wh];simp only [c2,c3];simp
 rw [Dm];show aaW cx.P f _ w _;refine aeo (hB b' p v (g.f k [0]) xs w hp U PL Bl iH) ?_;rintro en w' ⟨rfl,k1,k2,k3,k4,k5⟩;refine hK _ _ ?_;rw [hd];have J: ∀c j,lk c ((k,.gone)::st.mem)=some j->j≠ .gone->c≠k/\lk c st.mem=some j:=λc j h h'=>by
  rw [bO] at h;split at h;injection h with h;exact absurd h.symm h';exact ⟨by assumption,h⟩
 have N3: ∀c j q b,lk c ((k,.gone)::st.mem)=some j->j.owns q->g.f c q=some b->w'.heap[b]? =w.heap[b]? :=λc j q b h R h2=>by
  obtain ⟨e1,e2⟩:=J c j h (adJ R);exact k5 b (I.lt c q j b e2 R h2) λe3=>e1 (I.fY c k q [0] j _ b e2 R hl trivial h2 e3).1
 have nY: ∀b,cx.safe g st.mem w b->cx.safe g ((k,.gone)::st.mem) w' b/\w'.heap[b]? =w.heap[b]? :=λb ⟨R,h2,h3⟩=>
  ⟨⟨ϕ R k4,h2,λ⟨c,q,j,q1,q2,q3⟩=>h3 ⟨c,q,j,(J c j q1 (adJ q2)).2,q2,q3⟩⟩,k5 b R λe=>h3 ⟨k,[0],_,hl,trivial,e⟩⟩
 have RP: ∀c t xs,dH ((k,.gone)::st.mem) c t xs-> ∃j,lk c ((k,.gone)::st.mem)=some j/\j.owns []/\dH st.mem c t xs:=λc t xs h=>by
  rcases h with h|⟨i,cs,ks,h⟩
  exact ⟨_,h,trivial,.inl (J c _ h (λe=>by cases e)).2⟩;exact ⟨_,h,(λo r e=>by cases e),.inr ⟨i,cs,ks,(J c _ h (λe=>by cases e)).2⟩⟩
 have uh:iO g g st.mem ((k,.gone)::st.mem) (cx.safe g st.mem w) (cx.safe g ((k,.gone)::st.mem) w') w w':=by
  refine ⟨⟨nY,λc hc=>⟨by rw [bO];split<;>simp_all,rfl⟩,λc t xs hc h=>⟨xs,(RP c t xs h).choose_spec.2.2,rfl⟩,λc t xs b arr hc h hg U=> ?_⟩,λ_ _=>rfl,λc t xs hc h=>⟨xs,(J c _ h (λe=>by cases e)).2,cL.refl _ _,λi o b arr hg U=>⟨arr,U.bJ (N3 c _ [i,o] b h trivial hg),rfl⟩⟩⟩;obtain ⟨j,R,h2,_⟩:=RP c t xs h;exact ⟨arr,U.bJ (N3 c j [] b R h2 hg),rfl⟩
 have RF: ∀b,g.f k [0]=some b->cx.w0.heap.size<=b:=λb U=>(I.iN k [0] _ b hl trivial U).elim id λh=>absurd h (RH b);have qD:cT cx g ⟨st.fr,(k,.gone)::st.mem,st.nx⟩ a w':=by
  refine ⟨I.defers.bJ nY,I.size,λt v hl=>VR.stays uh (I.fr t v hl),λc j h=> ?_,λc c' q q' j pL b R h2 h3 h4 h5 h6=>I.fY c c' q q' j pL b (J c j R (adJ h2)).2 h2 (J c' pL h3 (adJ h4)).2 h4 h5 h6,
   λc q j b R h2 h3=>I.iN c q j b (J c j R (adJ h2)).2 h2 h3,λc q j b R h2 h3=>ϕ (I.lt c q j b (J c j R (adJ h2)).2 h2 h3) k4,?_,λp hp=>by rw [uB] at hp;simp at hp,I.gl⟩
  by_cases e:j= .gone;subst e;trivial;exact jk.stays uh (λq b hq hg=>N3 c j q b h hq hg) (I.mem c j (J c j h e).2);refine ⟨k1.trans I.bJ.os,k2.trans I.bJ.tape,k3.trans I.bJ.output,ϫ I.bJ.size k4,λb U hf=> ?_,λb arr U=> ?_⟩;rw [k5 b (ϕ U I.bJ.size) (λe=>by have:=RF b e;omega)];exact I.bJ.block b U hf;obtain ⟨arr1,R,e1⟩:=I.bJ.sz b arr U;exact ⟨arr1,R.bJ (k5 b R.lt (λe=>by have:=RF b e;have:=U.lt;omega)),e1⟩
 exact hr g _ _ (qD.put (v:= .one (.bG .str xs)) (val:= .string ⟨xs.toArray⟩) rfl (some d) λq e=>by cases e;exact Md)
end
section
variable {P:Ο} {w:Ε}
theorem pz {b:Nat}{T:Ι}: ∀(vs:List π) (o i:Nat) (w:Ε) (arr:Array π),w.heap[b]? =some (.cells arr T (0,0))->o+i+vs.length<=arr.size->(∀v∈vs,v.oneCell'=true)->
 ∃w' j,(storeCells ⟨b,o,none⟩ vs i).run P w= .ok () w'/\w'.heap[b]? =some (.cells j T (0,0))/\j.toList=arr.toList.take (o+i)++vs++arr.toList.drop (o+i+vs.length)/\bU [b] w w'/\w'.heap.size=w.heap.size
 |[],o,i,w,arr,I,_,_=>⟨w,arr,rfl,I,by simp,adn _ _,rfl⟩
 |v::vs,o,i,w,arr,I,J,h1=>by
  simp only [Η] at J;have r:dA w b arr:=⟨T,0,0,I,.inl rfl⟩;have p:o+i<arr.size:=by omega
  have R:(store ((⟨b,o,none⟩:Addr).add i) v).run P w= .ok () (w.setCell ⟨b,o+i,none⟩ v):=by
   rw [cw,run_store P w _ v _ (h1 v (by simp)),r.cell,aal p];have hf:=r.OE p;simp [hf]
  have U:(w.setCell ⟨b,o+i,none⟩ v).heap[b]? =some (.cells (arr.setIfInBounds (o+i) v) T (0,0)):=by simp [World.setCell,Array.getElem?_modify,I]
  obtain ⟨w',j,e,k1,k2,k3,k4⟩:=pz vs o (i+1) (w.setCell ⟨b,o+i,none⟩ v) _ U (by simp;omega) (λx hx=>h1 x (by simp [hx]));refine ⟨w',j,?_,k1,?_,bU.trans (bU.setCell w ⟨b,o+i,none⟩ v) k3,by rw [k4];simp⟩;simp only [storeCells,Ϛ,R,ϋ,e];have t:o+i<arr.toList.length:=by simpa using p
  rw [k2];simp only [Array.toList_setIfInBounds,Η];rw [List.drop_set_of_lt (by omega),show o+(i+1)=o+i+1 from by omega,List.take_set,List.take_succ_eq_append_getElem t,List.set_append_right _ _ (by simp;omega)];simp [show o+i+1+vs.length=o+i+(vs.length+1) from by omega,aas (Nat.le_of_lt p)]
theorem iR (xs:List UInt8):(lh xs).length=xs.length:=by simp [lh]
theorem qT (xs:List UInt8):(cY xs).map (Value.int .u8)=lh xs:=by simp [cY,lh,ahm,Function.comp_def]
theorem wk (xs ys:List UInt8):lh (xs++ys)=lh xs++lh ys:=by simp [lh]
theorem E3 {t u ty e:Ι}{i:adK}(ht:P.underlying t=some (.slice e))(hu:P.underlying u=some .string)(hi:P.info? e=some i)(hz:i.zero=some (.int .u8 0))(J:i.size=1)(Ck:i.bytes=1){own:Option Nat}{v:π}{xs s:List UInt8}(h:tV own w e v (lh xs))(hl:xs.length+s.length<=bD):
 ∃r o w',(Ϟ #[t,u] ty #[v,.string ⟨s.toArray⟩]).run P w= .ok r w'/\tV o w' e r (lh (xs++s))/\(o=own\/o=some w.heap.size)/\bU own.toList w w':=by
 unfold bD at hl;have grow: ∀(base:Option Addr) (cap:Nat),(xs.length=0\/ ∃ad,base=some ad/\ ∀j v,(lh xs)[j]? =some v->w.cell? (ad.add j)=some v)->cap<xs.length+s.length->
  ∃r o w',(Ϟ #[t,u] ty #[.slice base xs.length cap,.string ⟨s.toArray⟩]).run P w= .ok r w'/\tV o w' e r (lh (xs++s))/\o=some w.heap.size/\bU [] w w':=by
  intro base cap ho hlt;have wQ:=grownCap_ge w (xs.length+s.length) cap e;have IC:=grownCap_le_maxLen w (xs.length+s.length) cap e (by unfold maxLen;omega);have hr:=tb (P:=P) (w:=w) (ty:=ty) ht hu hi hz (base:=base) (n:=xs.length) (cap:=cap) (olds:=lh xs) (by rw [iR,J,adT]) ho hlt (by rw [Ck];omega) (by omega);rw [qT] at hr;refine ⟨_,some w.heap.size,_,hr,⟨grownCap w (xs.length+s.length) cap e,(lh xs).toArray++(lh s).toArray++Ϧ (Value.int .u8 0).cells (grownCap w (xs.length+s.length) cap e - (xs.length+s.length)),?_,heap_alloc_new w.drew _,?_,IC,?_,?_⟩,rfl,(bU.drew [] w).trans (acA _ _ _)⟩;rw [iR,ξ];rw [iR,ξ];exact wQ;simp only [Array.size_append,List.size_toArray,size_zeroCells,iR,abU];simp;omega;simp only [Array.toList_append];rw [wk,acp (by simp [iR])];exact ϳ (by simp [iR])
 cases own with
 |none=>
  obtain ⟨T,hx⟩:=h;have Sk:xs=[]:=by cases xs with|nil=>rfl|cons=>simp [lh] at hx
  subst Sk T;cases s with
  |nil=>exact ⟨_,none,w,tc (P:=P) ht hu hi,⟨rfl,rfl⟩,.inl rfl,adn _ _⟩
  |cons c s=>
   obtain ⟨r,o,w',h1,h2,h3,I⟩:=grow none 0 (.inl rfl) (by simp);exact ⟨r,o,w',h1,h2,.inr h3,I⟩
 |some g=>
  obtain ⟨cap,U,T,hg,hn,hm,hcs,R⟩:=h;subst T;rw [iR] at hn R⊢;have HH:dA w g U:=⟨e,0,0,hg,.inl rfl⟩;by_cases p:xs.length+s.length<=cap;have hf:=oo (P:=P) (w:=w) (y:=s) (n:=s.length) rfl i.size;rw [J] at hf;have hss:(⟨s.toArray⟩:ByteArray).size=s.length:=by simp [ByteArray.size]
  obtain ⟨w',aa,e1,k1,k2,k3,k4⟩:=pz (P:=P) ((cY s).map (Value.int .u8)) xs.length 0 w U hg (by rw [qT,iR];omega) (λv T=>by
   obtain ⟨x,_,rfl⟩:=Ϣ.1 T;rfl)
  refine ⟨.slice (some ⟨g,0,none⟩) (xs.length+s.length) cap,some g,w',?_,⟨cap,aa,by rw [iR,ξ],k1,by rw [iR,ξ];exact p,hm,?_,?_⟩,.inl rfl,k3⟩;have ab: ¬cap<xs.length+s.length:=by omega
  simp [Ϟ,run_underlying ht,run_underlying hu,sizeOf,typeInfo,hi,Builtin.lenOf,hss,hf,p,J,cw,e1];rw [<-Ω,k2,qT];simp only [ξ,ώ,϶,iR,Ω];omega;rw [k2,qT,Ϭ,wk,R];rw [show (lh xs++lh s).length=(lh xs++lh s).length+0 from rfl,ό,<-ό,acp (by simp)];exact ϳ (by simp);obtain ⟨r,o,w',h1,h2,h3,I⟩:=grow (some ⟨g,0,none⟩) cap (.inr ⟨_,rfl,λj v hj=>by
   rw [cw,HH.cell,Ψ,<-ϥ];rw [<-R,List.getElem?_take] at hj;split at hj;exact hj;cases hj⟩) (by omega)
  exact ⟨r,o,w',h1,h2,.inr h3,⟨I.os,I.tape,I.output,I.size,λb hb _=>I.block b hb (by simp),I.sz⟩⟩
theorem uK {ops:Array Ϥ}{rest:List Ϥ}{o:Ϥ}{a:Act}{w':Ε}{v p:π}{s:ByteArray}{Q:abI->Act->Ε->Prop}(j:o.guard=none)(sl x:aah)(t u:Ι)(r:o.op= .call {callee:= .builtin .append,args:= #[sl,x],argTypes:= #[t,u]})(I:a.eval sl=v)(J:a.eval x= .string s)(R:(Ϟ #[t,u] o.type #[v,.string s]).run P w= .ok p w')(h:wpList P ops Q rest (a.put o.dst p) w'):wpList P ops Q (o::rest) a w:=by
 refine wpList_plain j λK T=> ?_;unfold acq execOp;simp only [r,resolve,invoke,builtin,Ϛ,ϵ,ϋ,List.map_toArray,aaa,List.map_nil,I,J,R];exact T _ _ h
theorem tM {ops:Array Ϥ}{rest:List Ϥ}{o:Ϥ}{a:Act}{Q:abI->Act->Ε->Prop}(r:o.guard=none)(sl x:aah)(t u:Ι)(R:o.op= .call {callee:= .builtin .append,args:= #[sl,x],argTypes:= #[t,u]}){e:Ι}{i:adK}(ht:P.underlying t=some (.slice e))(T:P.underlying u=some .string)(U:P.info? e=some i)(hz:i.zero=some (.int .u8 0))(I:i.size=1)(J:i.bytes=1){own:Option Nat}{v:π}{xs s:List UInt8}(h:tV own w e v (lh xs))(hl:xs.length+s.length<=bD)(hs:a.eval sl=v)(hx:a.eval x= .string ⟨s.toArray⟩)(hk: ∀p j w',tV j w' e p (lh (xs++s))->(j=own\/j=some w.heap.size)->bU own.toList w w'->wpList P ops Q rest (a.put o.dst p) w'):wpList P ops Q (o::rest) a w:=by
 obtain ⟨p,j,w',h1,h2,h3,h4⟩:=E3 (ty:=o.type) ht T U hz I J h hl;exact uK r sl x t u R hs hx h1 (hk p j w' h2 h3 h4)
end
end Go.Ide
namespace Go.Ide
def Tq:Option (St×List Prop)->St
 |some p=>p.1
 |none=>⟨[],[],0⟩
def Tr:Option (St×List Prop)->Option (List Prop)
 |some p=>some p.2
 |none=>none
theorem wY {o:Option (St×List Prop)}{cs:List Prop}(h:Tr o=some cs):o=some (Tq o,cs):=by
 cases o with
 |none=>cases h
 |some p=>injection h with h;subst h;rfl
def Dn:List Ϥ->List OH->List OH
 |[],_=>[]
 |_::os,[]=>⟨none,.no⟩::Dn os []
 |_::os,r::rs=>r::Dn os rs
def nO (n:Nat)(rs:List OH):List OH:=υ n ⟨none,.no⟩++rs
abbrev kT:OH:=⟨some true,.no⟩
abbrev kF:OH:=⟨some false,.no⟩
abbrev hT (t:Ty):OH:=⟨none,.ty t⟩
def Arg.md:Arg->Mode
 | .bZ t _=> .bZ t
 | .fZ t _=> .fZ t
 | .own t _=> .own t
 | .mv t _=> .mv t
 | .fn _=> .fn
 | .ji _ t _=> .ji t
 | .nl=> .nl
def cl {P:Ο}{f:aaF}{args:List Arg}{rs:List RV}{outs:List TD}(_:CallOK P f args rs outs):OH:=⟨none,.call (args.map Arg.md) rs outs⟩
def up (ks:List Nat)(f:Fr)(ms:List Nat)(m:Mem)(n:Nat)(st:St):St:=⟨f++(st.bJ ks).fr,m++Aj st.mem ms,st.nx+n⟩
def Zm:bI->bI->List (Nat×Nat)×List Nat
 | .ptr k _,.ptr j _=>([(k,j)],[])
 | .dn k _ _ _,.dn j _ _ _=>([(k,j)],[])
 | .all k,.all j=>([(k,j)],[])
 | .ref k _ _,.ref j _ _=>([(k,j)],[])
 | .ref k _ _,.all j=>([(k,j)],[])
 | .fP k,.fP j=>([(k,j)],[])
 | .cls _ p,.cls _ o=>(p.zip o,[])
 | .bH,.all j=>([],[j])
 |_,_=>([],[])
def HI:List bI->List bI->List (Nat×Nat)×List Nat
 |c::r,j::o=>((Zm c j).1++(HI r o).1,(Zm c j).2++(HI r o).2)
 |_,_=>([],[])
def Mf:bK->List bI
 | .one c=>[c]
 | .agg cs=>cs
 |_=>[]
def Mg:Chunk->List bI
 | .box cs=>cs
 | .gh cs _=>cs
 |_=>[]
def Vb (fr:Fr):Fr->List (Nat×Nat)×List Nat
 |[]=>([],[])
 |(t,j)::r=>(match lk t fr with
  |some v=>((HI (Mf v) (Mf j)).1++(Vb fr r).1,(HI (Mf v) (Mf j)).2++(Vb fr r).2)
  |none=>Vb fr r)
def Zn (p:Nat×Nat):List (Nat×Nat)->Bool
 |[]=>false
 |q::r=>(Β p.1 q.1&&Β p.2 q.2)||Zn p r
def Mh (m m':Mem):Nat->List (Nat×Nat)->List (Nat×Nat)->List Nat->List (Nat×Nat)×List Nat
 |0,_,done,j=>(done,j)
 |_+1,[],done,j=>(done,j)
 |n+1,p::todo,done,j=>bif Zn p done then Mh m m' n todo done j else (match lk p.1 m,lk p.2 m' with
  |some c,some o=>Mh m m' n ((HI (Mg c) (Mg o)).1++todo) (p::done) ((HI (Mg c) (Mg o)).2++j)
  |_,_=>Mh m m' n todo (p::done) j)
def Vc (m:Mem):Mem->List (Nat×Nat)
 |[]=>[]
 |(k,.gh _ _)::r=>(match lk k m with
  |some (.gh _ _)=>(k,k)::Vc m r
  |_=>Vc m r)
 |_::r=>Vc m r
def Tt (own:List Nat)(st st':St):sW:=
 let p:=Vb st.fr st'.fr;let q:=Mh st.mem st'.mem 1000 (own.map (λk=>(k,k))++(Vc st.mem st'.mem++p.1)) [] p.2
 ⟨q.1,q.2,[],false⟩
def St.Oj (own:List Nat)(st st':St):Option St:=st.re (Tt own st st') own st'
def Mi (own:List Nat)(st':St):Option (St×List Prop)->Option (St×List Prop)
 |some (st1,cs)=>(match st1.Oj own st' with
  |some j=>some (j,cs)
  |none=>none)
 |none=>none
theorem Ao {own:List Nat}{st':St}{o:Option (St×List Prop)}{cs:List Prop}(h:Mi own st' o=some (st',cs)): ∃st1,o=some (st1,cs)/\st1.Oj own st'=some st':=by
 unfold Mi at h;split at h;rename_i st1 j;split at h;rename_i p r;injection h with h;injection h with t I;subst t I;exact ⟨_,rfl,r⟩;cases h;cases h
def Tu (ops:List Ϥ):List Nat:=ops.foldl (λD o=>D++[(fO o).foldl (λa d=>a|||(2^d|||D.getD d 0)) 0]) []
def Tv (n m:Nat):List Nat:=(abD n).filter λi=>Β ((m>>>i)%2) 1
def JG:List Nat->Nat->Nat
 |[],n=>n
 |_::_,0=>0
 |m::r,n+1=>bif Β m (2^n - 1) then JG r n else n+1
def W9 (ops:List Ϥ):List (List Nat):=(Tu ops).map (Tv ops.length)
def Ol:List OH->List (List Nat)->List HR
 |r::rs,d::j=>⟨r,d⟩::Ol rs j
 |_,_=>[]
def Tw (P:Ο)(N:Nat)(ops:List Ϥ)(h:Nat)(D:List (List Nat))(rs:List OH)(st:St):Option (St×List Prop):=Dg P N ops h (Ol (rs.take h) D) (D.drop h) (rs.drop h) st
def JH (P:Ο)(N:Nat)(ops:List Ϥ)(rs:List OH)(st:St):Option (St×List Prop):=Tw P N ops (JG (Tu ops).reverse ops.length) (W9 ops) (Dn ops rs) st
def Tx (P:Ο)(fn:Func)(args:List Arg)(ts:List (Bool×Ty))(st:St):Option (List RV×List TD×List Prop):=
 match CX P st.mem st.fr fn.results.toList with
 |some p=>(match EB st.mem ts p with
  |some (rs,o)=>bif j7 o&&o.all (λk=> !(EA k (gd args 0))) then (match jq st.mem args 0 with
   |some (j,cs)=>some (rs,j,cs)
   |none=>none) else none
  |none=>none)
 |none=>none
theorem ct {P:Ο}{fn:Func}{args:List Arg}{ts:List (Bool×Ty)}{st:St}{rs:List RV}{outs:List TD}{cs:List Prop}(I:cp cs)(j:Tx P fn args ts st=some (rs,outs,cs):=by kernel_rfl):CY P fn args ts rs outs st:=by
 unfold Tx at j;split at j;rename_i J R;split at j;rename_i T p U;cases o:(j7 p&&p.all (λk=> !(EA k (gd args 0)))) with
 |false=>rw [o] at j;cases j
 |true=>
  rw [o] at j;simp only [cond_true] at j;simp only [κ] at o;split at j;rename_i r aa ho;injection j with j;injection j with e1 t;injection t with t e3;subst e1 t e3;exact ⟨J,p,_,R,U,o.1,o.2,ho,I⟩;cases j
 cases j;cases j
def PN (rs:List RV):List (Bool×Ty):=rs.map λr=>(r.fresh,r.t)
theorem dB {P:Ο}{f:aaF}{fn:Func}{c:Code}{args:List Arg}{rs:List RV}{outs:List TD}(o:P.funcs[f]? =some fn)(p:fn.body=some c)(h: ∀cx:Cx,gU cx P fn.ntmps (gd args 0)->cx.Ir->HT cx (tT args) c (I5 P fn args (PN rs) rs outs))(j:(fn.name=="runtime.NumGoroutine")=false:=by kernel_rfl)(r:ϩ args.length fn.ntmps=true:=by kernel_rfl)(t:CB args=true:=by kernel_rfl):CallOK P f args rs outs:=
 ad7 o p j (ϑ r) λcx I J R T=>h cx ⟨I,J,R⟩ (T t)
theorem Tz {P:Ο}{f:aaF}{fn:Func}{c:Code}{args:List Arg}{rs:List RV}{outs:List TD}(o:P.funcs[f]? =some fn)(p:fn.body=some c)(h: ∀cx:Cx,gU cx P fn.ntmps (gd args 0)->HT cx (tT args) c (I5 P fn args (PN rs) rs outs))(j:(fn.name=="runtime.NumGoroutine")=false:=by kernel_rfl)(r:ϩ args.length fn.ntmps=true:=by kernel_rfl):CallOK P f args rs outs:=
 ad7 o p j (ϑ r) λcx t I J _=>h cx ⟨t,I,J⟩
theorem Vd {P:Ο}{f:aaF}{fn:Func}{c:Code}{args:List Arg}{rs:List RV}{outs:List TD}(p:Bool)(r:P.funcs[f]? =some fn)(t:fn.body=some c)(h: ∀cx:Cx,gU cx P fn.ntmps (gd args 0)->cx.Ir->cx.nd=p->HT cx (tT args) c (I5 P fn args (PN rs) rs outs))(j:(fn.name=="runtime.NumGoroutine")=false:=by kernel_rfl)(I:ϩ args.length fn.ntmps=true:=by kernel_rfl)(J:CB args=true:=by kernel_rfl):CallOK P f args rs outs:=
 CallOK.C1 r t j (ϑ I) p λcx R T U hF o=>h cx ⟨R,T,U⟩ (hF J) o
theorem Mj {n:Int}(h:(0:Int)<=n/\n<=4294967296):(0:Int)<=n/\n<=n/\n<=4294967296:=⟨h.1,Ϫ _,h.2⟩
theorem JI {h l:Int}(x:(0:Int)<=h/\h<=l):(0:Int)<=0/\(0:Int)<=h/\h<=l:=⟨Ϫ _,x.1,x.2⟩
theorem PO {l n:Int}(x:(0:Int)<=l/\l<=n):(0:Int)<=l/\l<=n/\n<=n:=⟨x.1,x.2,Ϫ _⟩
section
variable {G:Prop} {α β:Type}
theorem bo {o:Option α}{k:α->Option β}{r:β}(h:o.bind k=some r)(f: ∀y,o=some y->k y=some r->G):G:=by
 obtain ⟨y,j,p⟩:=qP h;exact f y j p
theorem bc {o:Option α}{k:α->Option β}{r:β}{C:α->Prop}(h:o.bind k=some r)(c: ∀{y},o=some y->C y)(f: ∀y,C y->k y=some r->G):G:=by
 obtain ⟨y,j,p⟩:=qP h;exact f y (c j) p
theorem bg {p:Prop}[Decidable p]{k:Option β}{r:β}(h:br p k=some r)(f:p->k=some r->G):G:=by
 obtain ⟨j,o⟩:=fF h;exact f j o
theorem bq {e:α}{k:α->Option β}{r:β}(h:(some e).bind k=some r)(f:k e=some r->G):G:=f h
theorem bb {b:Bool}{x y:Option β}{r:β}(h:(bif b then x else y)=some r)(f:b=true->x=some r->G)(g:b=false->y=some r->G):G:=by
 rcases Jk h with ⟨j,o⟩|⟨j,o⟩
 exact f j o;exact g j o
theorem nn {r:β}(h:(none:Option β)=some r):G:=by cases h
theorem jO {e:Option β}{w:α⊕β}{K:α⊕β->Option β}{r:β}(j:K w=some r)(o: ∀z,K (.inr z)=some z)(h:sX e=some w):e=some r:=by
 obtain ⟨z,p,t⟩:=Pt h;subst t;rw [p,<-o,j]
end
theorem bQ {p:Prop}(h:p):cp [p]:=⟨h,trivial⟩
theorem dp {p q:Prop}(j:p)(o:q):cp [p,q]:=⟨j,o,trivial⟩
theorem ll {p q r:Prop}(j:p)(o:q)(t:r):cp [p,q,r]:=⟨j,o,t,trivial⟩
theorem nZ {p q r s:Prop}(j:p)(o:q)(t:r)(I:s):cp [p,q,r,s]:=⟨j,o,t,I,trivial⟩
theorem lF {p q r s:Prop}{l:List Prop}(j:p)(o:q)(t:r)(I:s)(h:cp l):cp (p::q::r::s::l):=⟨j,o,t,I,h⟩
section
variable {cx:Cx} {st st':St} {P:Ο} {N:Nat} {own:List Nat} {Q:abI->St->Prop} {x y z c:Code} {id:Nat} {ops:List Ϥ} {cs:List Prop}
theorem HT.g (j:gU cx P N own)(rs:List OH)(o:cp cs)(p:HT cx (Tq (pN P N ops ops (Dn ops rs) st)) y Q)(r:Tr (pN P N ops ops (Dn ops rs) st)=some cs:=by kernel_rfl):HT cx st (.seq (.region id ops.toArray false) y) Q:=φ (HT.U5 j.P j.N (wY r) o p)
theorem HT.l (j:gU cx P N own)(rs:List OH)(o:cp cs)(p:Q .normal (Tq (pN P N ops ops (Dn ops rs) st)))(r:Tr (pN P N ops ops (Dn ops rs) st)=some cs:=by kernel_rfl):HT cx st (.region id ops.toArray false) Q:=HT.U5 j.P j.N (wY r) o p
theorem HT.k (j:gU cx P N own)(rs:List OH)(o:cp cs)(p: ∀st1,Le cx st1 st'->Q .normal st1)(r:Mi own st' (pN P N ops ops (Dn ops rs) st)=some (st',cs):=by kernel_rfl):HT cx st (.region id ops.toArray false) Q:=by
 obtain ⟨st1,t,I⟩:=Ao r;exact HT.U5 j.P j.N t o (p _ (Le.re _ _ j I))
theorem HT.dg (j:gU cx P N own)(rs:List OH)(o:cp cs)(p:HT cx (Tq (JH P N ops rs st)) y Q)(r:Tr (JH P N ops rs st)=some cs:=by kernel_rfl)(t:P.follows .mixedOrders=true:=by kernel_rfl):HT cx st (.seq (.region id ops.toArray true) y) Q:=φ (Jm j.P j.N t (wY r) o p)
theorem HT.dl (j:gU cx P N own)(rs:List OH)(o:cp cs)(p:Q .normal (Tq (JH P N ops rs st)))(r:Tr (JH P N ops rs st)=some cs:=by kernel_rfl)(t:P.follows .mixedOrders=true:=by kernel_rfl):HT cx st (.region id ops.toArray true) Q:=Jm j.P j.N t (wY r) o p
theorem HT.dk (j:gU cx P N own)(rs:List OH)(o:cp cs)(p: ∀st1,Le cx st1 st'->Q .normal st1)(r:Mi own st' (JH P N ops rs st)=some (st',cs):=by kernel_rfl)(t:P.follows .mixedOrders=true:=by kernel_rfl):HT cx st (.region id ops.toArray true) Q:=by
 obtain ⟨st1,I,J⟩:=Ao r;exact Jm j.P j.N t I o (p _ (Le.re _ _ j J))
theorem HT.re (j:gU cx P N own)(h:HT cx st' c Q)(o:st.Oj own st'=some st':=by kernel_rfl):HT cx st c Q:=(Le.re _ _ j o).ht h
theorem HT.ex (st':St)(j:gU cx P N own)(h:HT cx st' c Q)(o:st.Oj own st'=some st':=by kernel_rfl):HT cx st c Q:=(Le.re _ _ j o).ht h
theorem HT.eg (st':St)(j:gU cx P N own)(h:HT cx st' c Q)(o:U6 own (st'.fr.map aav) (st'.mem.map aav) (some (st,[]))=some (st',[]):=by kernel_rfl):HT cx st c Q:=(Le.gc j rfl o).2.ht h
theorem HT.xr (j:gU cx P N own)(o:Q .ret st')(p:st.Oj own st'=some st':=by kernel_rfl):HT cx st .ret Q:=(Le.re _ _ j p).ht (HT.ret o)
theorem HT.xe {n:Nat}(j:gU cx P N own)(o:Q (.exit n) st')(p:st.Oj own st'=some st':=by kernel_rfl):HT cx st (.exit n) Q:=(Le.re _ _ j p).ht (HT.exit o)
theorem Le.a (j:gU cx P N own)(o:st.Oj own st'=some st':=by kernel_rfl):Le cx st st':=Le.re _ _ j o
theorem HT.jn {α β:Type}{o:Option α}{k:α->Option β}{r:β}(j:o.bind k=some r)(J:α->St->St)(p: ∀v,k v=some r->HT cx (J v st) y Q)(t: ∀w,o=some w->(∀v,v=w->HT cx (J v st) y Q)->HT cx st x (vU cx y Q)):HT cx st (.seq x y) Q:=by
 obtain ⟨w,I,R⟩:=qP j;exact φ (t w I λv T=>by subst T;exact p _ R)
theorem HT.jo {α β:Type}{o:Option (α⊕β)}{K:α⊕β->Option β}{r:β}(p:o.bind K=some r)(t: ∀z,K (.inr z)=some z)(J:α->St->St)(I: ∀v,K (.inl v)=some r->HT cx (J v st) y Q)(R: ∀w,o=some w->(∀{e:Option β},sX e=some w->e=some r)->(∀v,w= .inl v->HT cx (J v st) y Q)->HT cx st x (vU cx y Q)):HT cx st (.seq x y) Q:=by
 obtain ⟨w,T,j⟩:=qP p;exact φ (R w T (λh=>jO j t h) λv U=>by subst U;exact I _ j)
theorem HT.cb {β:Type}{o:aah}{b:Bool}{u v:Option β}{r:β}(h:(bif b then u else v)=some r)(f:b=true->u=some r->HT cx st x Q)(g:b=false->v=some r->HT cx st y Q)(t:ev st.fr o=some (.one (.bG .bool b)):=by kernel_rfl):HT cx st (.cond o x y) Q:=by
 rcases Jk h with ⟨j,p⟩|⟨j,p⟩
 exact HT.Dh t j (f j p);exact HT.Ak t j (g j p)
theorem HT.cj {β:Type}{o:aah}{b:Bool}{u v:Option β}{r:β}(h:(bif b then u else v)=some r)(f:b=true->u=some r->HT cx st z Q)(g:b=false->v=some r->HT cx st y (vU cx z Q))(j:ev st.fr o=some (.one (.bG .bool b)):=by kernel_rfl):HT cx st (.seq (.cond o .skip y) z) Q:=φ (HT.cb h (λp t=>HT.skip (f p t)) g j)
theorem HT.c0 {o:aah}{b:Bool}(j:b=false)(p:HT cx st y Q)(r:ev st.fr o=some (.one (.bG .bool b)):=by kernel_rfl):HT cx st (.cond o x y) Q:=HT.Ak r j p
theorem HT.lp {σ ρ β:Type}{f:σ->Option (σ⊕ρ)}{s:σ}{k:ρ->Option β}{r:β}(p:gU cx P N own)(t:(rounds f s).bind k=some r)(S:σ->St->St)(E:ρ->abI×(St->St))(after: ∀j,k j=some r->Q (E j).1 ((E j).2 st))(round: ∀s x,f s=some x->(∀j,x= .inr j->Q (E j).1 ((E j).2 st))->HT cx (S s st) c (vV (λst'=> ∃o,x= .inl o/\Le cx st' (S o st)) Q))(I:st.Oj own (S s st)=some (S s st):=by kernel_rfl):HT cx st (.loop c) Q:=by
 obtain ⟨j,J,R⟩:=qP t;exact HT.Gr (λs=>S s st) (λr=>((E r).1,(E r).2 st)) (Le.re _ _ p I) J (after j R) round
theorem lN {σ ρ:Type}{e:σ}{x:σ⊕ρ}{S:σ->St}{st1:St}(o:some (Sum.inl e)=some x)(h:Le cx st1 (S e)): ∃j,x= .inl j/\Le cx st1 (S j):=⟨e,bw o,h⟩
end
theorem HT.apQ {R A:Prop}(h:R->A)(j:R):A:=h j
end Go.Ide
namespace Go.Ide
theorem JK {P:Ο}{el:Ι}{t:Ty}{i:adK}{p:π}{z0:t.D}{S:Nat->Prop}{w:Ε}(ht:t.top=true)(hi:P.info? el=some i)(T:i.zero=some p)(R:tY P el t=some z0)(n:Nat):
 p.cells.size=t.size/\eu S w t (υ n z0) (Ϧ p.cells n).toList:=by
 unfold tY at R;rw [hi] at R;simp only [T,ht,if_true] at R;obtain ⟨cs,r,o⟩:=nu (g:=⟨λ_ _=>none⟩) (m:=[]) (S:=S) (S2:=S) (λ_ h=>h) iz.nil R (qA (w:=w) p);have o:cn S w t p.cells.toList z0:=by rw [pv r o];exact o
 have U:p.cells.size=t.size:=by rw [<-Ω];exact cn.len t _ _ o
 refine ⟨U,λi' Ca=>⟨p.cells.toList,λj hj=> ?_,by rw [List.getElem_replicate];exact o⟩⟩;rw [ϗ] at Ca;have hlt:i'*t.size+j<n*t.size:=by
  have:(i'+1)*t.size<=n*t.size:=Τ _ (by omega);rw [ϓ] at this;omega
 have I:(i'*t.size+j)%t.size=j:=by rw [Nat.add_comm,Nat.mul_comm,Nat.add_mul_mod_self_left];exact Nat.mod_eq_of_lt hj
 have J:j<p.cells.size:=by rw [U];exact hj
 rw [ϥ,ϥ];simp only [Ϧ,U,Array.getElem?_map,Array.getElem?_range,hlt,if_true,Option.map_some,I];rw [getElem!_pos p.cells j J,<-aal J]
section
variable {cx:Cx} {g:GM} {st:St} {a:Act} {w w':Ε} {P:Ο} {N:Nat} {own:List Nat} {Q:abI->St->Prop} {all os:List Ϥ}
theorem Dp {T el ty:Ι}{c off n:Nat}{t:Ty}{xs:List t.D}{z0:t.D}{xa:π}(h:cT cx g st a w)(hu:cx.P.underlying T=some (.slice el))(o:tY cx.P el t=some z0)(r:t.top=true)(hl:lk c st.mem=some (.seq t xs))(hx:VR g st.mem (cx.safe g st.mem w) w (.one (.ref c off n)) xa):
 gG cx st a w (abR #[T] ty #[xa]) ⟨.dS,[],[(c,.seq t (xs.take off++υ n z0++xs.drop (off+n)))],[]⟩:=by
 obtain ⟨hle,da,IV,rfl,xM⟩:=Ac h.mem (x:= .one (.ref c off n)) rfl hl hx;obtain ⟨i,hi,zv,J⟩: ∃i,cx.P.info? el=some i/\ ∃zv,i.zero=some zv:=by
  unfold tY at o;cases hi:cx.P.info? el with
  |none=>rw [hi] at o;cases o
  |some i=>
   rw [hi] at o;cases J:i.zero with
   |none=>simp only [J] at o;cases o
   |some zv=>exact ⟨i,rfl,zv,J⟩
 by_cases Cs:n=0;subst Cs;have R:(abR #[T] ty #[.slice da 0 IV]).run cx.P w= .ok (.tuple #[]) w:=by
  cases da<;>simp [abR,run_underlying hu]
 refine ⟨_,w,R,g,?_,trivial⟩;have rI:(xs.take off++υ 0 z0++xs.drop (off+0))=xs:=by simp
 show cT cx g (st.jc ([(c,Chunk.seq t (xs.take off++υ 0 z0++xs.drop (off+0)))]++[]++st.mem) (st.nx+0)) a w;rw [rI];have zd: ∀k,lk k ([(c,Chunk.seq t xs)]++[]++st.mem)=lk k st.mem:=λk=>by
  show lk k ((c,_)::st.mem)=_;rw [bO];by_cases e:k=c;subst e;rw [if_pos rfl,hl];rw [if_neg e]
 exact h.ua (G:=[]) ⟨adn _ _,λb hb=>(by simp at hb),λ_ _=>rfl,λk ch hk=> .inl ⟨(zd k).trans hk,λ_ b _ _ hb=>by simp at hb⟩,λk ch hk oF=>by
  rw [zd,hk] at oF;cases oF⟩
 rcases xM with h0|⟨b,arr,hg,rfl,U,lj⟩
 exact absurd h0 Cs;obtain ⟨hzl,Xa⟩:=JK (S:=cx.safe g st.mem w) (w:=w) r hi J o n;generalize aa:(Ϧ zv.cells n).toList=I at Xa;have p:I.length=n*t.size:=by rw [<-aa,Ω,size_zeroCells,hzl]
 have ab:off*t.size+0+I.length<=arr.size:=by rw [p,Ϭ,<-ϓ];exact lj
 have IW:=eu.nJ Xa (by rw [ϗ];exact p);obtain ⟨w',ad,uh,k1,k2,k3,k4⟩:=eC (P:=cx.P) I (off*t.size) 0 w arr U ab IW;rw [Ϭ,p] at k2;have R:(abR #[T] ty #[.slice (some ⟨b,off*t.size,none⟩) n IV]).run cx.P w= .ok (.tuple #[]) w':=by
  obtain ⟨n',rfl⟩: ∃n',n=n'+1:=⟨n - 1,by omega⟩;rw [<-aa] at uh;simp [abR,run_underlying hu,zeroValue,typeInfo,hi,J,uh]
 have ae:(xs.take off++υ n z0++xs.drop (off+n)).length=xs.length:=by
  simp only [ξ,ώ,϶,ϗ];omega
 have ID:ad.size=arr.size:=by
  rw [<-Ω,k2];simp only [ξ,p,ώ,϶,Ω];rw [p] at ab;omega
 have q:Ip g st w w' c b [] (.seq t xs) (.seq t (xs.take off++υ n z0++xs.drop (off+n))):=
  ⟨hl,trivial,hg,k3,⟨arr,ad,U,k1,ID⟩,λ_ _=>trivial,by simp,λt' iy e=>by
   obtain ⟨e,e2⟩:=qa e;subst e;subst e2;exact ⟨xs,.inl rfl,ae.symm⟩,λt' iy e=>by
   injection e with e1 e2;subst e1;have e2:=eq_of_heq e2;subst e2;exact ⟨xs,rfl,cL.top r ae.symm⟩⟩
 refine ⟨_,w',R,g,?_,trivial⟩;refine h.NP q ?_;have jm:=h.mem c _ hl;unfold jk at jm⊢;rw [hg] at jm⊢;obtain ⟨qw,SI,mq⟩:=jm;have:=SI.eq U;subst this;have nY:=(q.stays (cx:=cx)).safe;have hL:eu (cx.safe g st.mem w) w t xs qw.toList:=(mq.FX r).toL;refine ⟨ad,k1,.lr r (eu.toR ?_)⟩;rw [k2];have bJ: ∀{zs:List t.D} {l:List π},eu (cx.safe g st.mem w) w t zs l->eu (cx.safe g ((c,Chunk.seq t (xs.take off++υ n z0++xs.drop (off+n)))::st.mem) w') w' t zs l:=λhz i hi=>by
  obtain ⟨es,e1,e2⟩:=hz i hi;exact ⟨es,e1,cn.bJ nY t es _ e2⟩
 have Ll:(qw.toList.take (off*t.size)).length=(xs.take off).length*t.size:=by
  rw [ώ,ώ,Ω,aas (show off<=xs.length by omega),aas];exact ϫ (Τ _ (by omega)) lj
 have hA:=eu.app (rest:=[]) (bJ (hL.take (n:=off) (by omega))) Ll (bJ Xa) (by rw [p,ϗ]);rw [List.append_nil] at hA;have O9:(qw.toList.take (off*t.size)++I).length=(xs.take off++υ n z0).length*t.size:=by
  rw [ξ,ξ,Ll,p,ϓ,ϗ]
 have V6:eu (cx.safe g st.mem w) w t (xs.drop (off+n)) (qw.toList.drop (off*t.size+n*t.size)):=by
  rw [<-ϓ];exact hL.drop
 intro i hi;by_cases hlt:i<(xs.take off++υ n z0).length;obtain ⟨es,e1,e2⟩:=hA i hlt;refine ⟨es,λj hj=> ?_,by rw [List.getElem_append_left hlt];exact e2⟩;have hm:(i+1)*t.size<=(xs.take off++υ n z0).length*t.size:=Τ _ (by omega);rw [ϓ] at hm;rw [List.getElem?_append_left (by rw [O9];omega)];exact e1 j hj;have UQ:i - (xs.take off++υ n z0).length<(xs.drop (off+n)).length:=by
  rw [ξ] at hi;omega
 obtain ⟨es,e1,e2⟩:=bJ V6 _ UQ;refine ⟨es,λj hj=> ?_,by rw [List.getElem_append_right (by omega)];exact e2⟩;obtain ⟨d,hd⟩: ∃d,i=(xs.take off++υ n z0).length+d:=⟨_,(Nat.add_sub_cancel' (by omega)).symm⟩;rw [hd,Nat.add_sub_cancel_left] at e1;rw [hd,ϓ,List.getElem?_append_right (by rw [O9];omega),O9];rw [show∀A B:Nat,A+B+j - A=B+j from λA B=>by omega];exact e1 j hj
theorem RG.clear {T el:Ι}{o:Ϥ}{cl:Call}{m:aah}{c off n:Nat}{t:Ty}{xs:List t.D}{z0:t.D}(hX:gU cx P N own)(ho:o.op= .call cl)(nv:cl.callee= .builtin .clear/\cl.args= #[m]/\cl.argTypes= #[T])(hg:o.guard=none)(U:o.dst=none)(hu:P.underlying T=some (.slice el))(R:tY P el t=some z0)(p:t.top=true)(hm:ev st.fr m=some (.one (.ref c off n)))(hl:lk c st.mem=some (.seq t xs))(hr:RG cx all os ⟨st.fr,(c,.seq t (xs.take off++υ n z0++xs.drop (off+n)))::st.mem,st.nx⟩ Q):RG cx all (o::os) st Q:=by
 obtain ⟨hP,hN,hO⟩:=hX;subst hP hN;refine RG.gz (e:=⟨.dS,[],[(c,.seq t (xs.take off++υ n z0++xs.drop (off+n)))],[]⟩) ⟨rfl,rfl,hO⟩ hg (by rw [U];rfl) (λg a w hs=> ?_) (by rw [U];exact hr);obtain ⟨h1,h2,h3⟩:=nv;have r:resolve a.eval cl o.type=pure {target:= .builtin .clear cl.argTypes o.type (cl.args.map fun| .const _=>true|_=>false),args:=cl.args.map a.eval}:=by
  unfold resolve;rw [h1];rfl
 obtain ⟨val,w',I,J⟩:=Dp (ty:=o.type) hs hu R p hl (cA hs hm);refine .inl ⟨val,w',?_,J⟩;have he:execOp a.eval o=(do pure (.value (<-abR #[T] o.type #[a.eval m]))):=by
  have j:cl.args.map a.eval= #[a.eval m]:=by rw [h2];simp
  simp only [execOp,ho,r,j,h3];rfl
 rw [he];simp [I]
end
end Go.Ide
