import Derived.Test.YtjnkhcgmgkhnaaaGreatDoorLibB
import Derived.RangeFuncWrites
import Derived.ProofKit
import Derived.Deep.Slices
import Derived.IntWalk
set_option linter.all false
open Array renaming getD_eq_getD_getElem?→ϐ,getElem?_eq_some_iff→ϝ,getElem?_toList→ϥ,replicate→ϻ,getElem?_eq_getElem→aal,getElem?_eq_none→ac0,getD→ahR
open Bool renaming and_eq_true→κ,not_eq_true'→aag,or_eq_true→abm,or_false→ace,or_eq_false_iff→afp
open Classical renaming propDecidable→aaA,choose_spec→abO,choose→ady
open Go renaming Value→π,World→Ε,TypeId→Ι,Program→Ο,Oper→Ϥ,Operand→aah,IntKind→aaK,Exit→abI,MemPlace→aem,ResultVar→afI
open Go.Call renaming operands→aeJ
open Go.DataW renaming TrodAll→adz,trod→adE,Whole→ahq
open Go.Fence renaming wide→adi
open Go.Ide.CR renaming stays→aeE
open Go.Ide.VR renaming stays→ad4
open Go.Ide.cn renaming bJ→abE,len→abV
open Go.Ide.iO renaming mono→ad6
open Go.Ide.jk renaming stays→afC
open Go.Region renaming wanted→ϯ,ready→adG
open Go.Result renaming andThen_ok→ϋ
open Go.Sem renaming run_bind→Ϛ,run_pure→ϵ
open Go.Value renaming cells→abU,okWide→ac6
open Go.World renaming putObj_heap_other→aaL
open Int renaming toNat→δ,natCast_mul→abu
open List renaming length→ζ,length_append→ξ,getD_eq_getElem?_getD→ψ,getElem?_eq_some_iff→ω,getElem?_eq_getElem→Γ,length_cons→Η,getElem?_append_right→Κ,mem_append→Λ,getElem?_append_left→Ν,mem_singleton→ϊ,append_assoc→ό,mem_cons_of_mem→ύ,length_take→ώ,getElem?_take→ϒ,mem_cons→ϖ,take→ϛ,mem_map→Ϣ,all_eq_true→ϣ,append_nil→ϲ,take_of_length_le→ϳ,mem_cons_self→ϴ,length_drop→϶,map_cons→aaa,take_length→aan,take_append_drop→aaC,mem_of_getElem?→aaN,flatten_cons→aaR,nodup_cons→aba,range→abD,filter_cons_of_neg→abP,filter_cons_of_pos→abQ,mem_range→ab7,mem_filter→acj,mem_range'_1→acD,getElem?_of_mem→adp,length_pos_of_mem→ae6,getElem?_toArray→afg,mem_flatMap→agi,mapM_cons→agJ
open Nat renaming le_refl→ς,beq→Β,zero_add→Ψ,lt_of_lt_of_le→ϕ,add_assoc→Ϡ,ble→ϩ,le_trans→ϫ,add_zero→Ϭ,blt→aaf,lt_or_ge→aam,one_pos→aau,strongRecOn→aa7,lt_of_succ_le→ab2,beq_refl→ad1,le_of_not_lt→agC,lt_trans→ahQ
open Option renaming bind_some→η,ne_none_iff_exists'→aaP,or_eq_none_iff→abl,none_or→abS,or_assoc→ad8,or_none→aeh,getD_some→afH
open Option.some renaming injEq→ahn
open Prod renaming fst→aav,snd→afo
namespace Go.Ide
structure OH where
 tv:Option Bool
 h:Hint
def Ln (N:Nat):Option Tmp->Bool
 |some t=>aaf t N
 |none=>true
def St.app (st:St)(d:Option Tmp)(e:cO):St:=(st.jc (e.lq++e.new++st.mem) (st.nx+e.new.length)).put d e.val
def uy (all:List Ϥ)(j:Nat):Option Tmp:=(all[j]?).bind (·.dst)
def mE (m:Mem):Mem->Bool
 |[]=>true
 |p::l=>(match lk p.1 m with
  |some _=>false
  |none=>true)&&mE m l
theorem gb {m:Mem}: ∀{l:Mem},mE m l=true->fw m l
 |[],_,p,hp=>by simp at hp
 |q::l,h,p,hp=>by
  simp only [mE,κ] at h;rcases ϖ.1 hp with e|hp
  subst e;cases j:lk p.1 m with
  |none=>rfl
  |some c=>rw [j] at h;cases h.1
  exact gb h.2 p hp
def tf (P:Ο)(all:List Ϥ)(o:Ϥ)(h:Hint)(fr:Fr)(m:Mem)(nx:Nat):Option (cO×List Prop):=
 match o.guard with
 |none=>(match wT P fr m nx h o with
  |some e=>some (e,e.cond)
  |none=>none)
 |some (j,p)=>(match (uy all j).bind (λt=>lk t fr) with
  |some (.one (.bG .bool b))=>bif b==p then
   (match wT P fr m nx h o with
   |some e=>some (e,e.cond)
   |none=>none) else some (⟨.Ce,[],[],[]⟩,[])
  |some .Ce=>some (⟨.Ce,[],[],[]⟩,[])
  |_=>none)
def Wj (tv:Option Bool):Option (cO×List Prop)->Option (cO×List Prop)
 |some (e,cs)=>(match tv with
  |none=>some (e,cs)
  |some c=>(match e.val with
   | .one (.bG .bool b)=>some (⟨.one (.bG .bool c),e.new,e.lq,e.cond⟩,(b=c)::cs)
   |_=>none))
 |none=>none
theorem xQ {tv:Option Bool}{x:Option (cO×List Prop)}{e:cO}{cs:List Prop}(h:Wj tv x=some (e,cs)):
 ∃o j,x=some (o,j)/\(cp cs->cp j/\e.val=o.val)/\e.new=o.new/\e.lq=o.lq/\e.cond=o.cond:=by
 cases x with
 |none=>cases h
 |some p=>
  obtain ⟨o,j⟩:=p;unfold Wj at h;cases tv with
  |none=>
   injection h with h;injection h with t I;subst t I;exact ⟨_,_,rfl,λr=>⟨r,rfl⟩,rfl,rfl,rfl⟩
  |some c=>
   simp only at h;split at h;rename_i b J;injection h with h;injection h with t I;subst t I;exact ⟨_,_,rfl,λr=>⟨r.2,by rw [J,r.1]⟩,rfl,rfl,rfl⟩;cases h
def qJ (P:Ο)(all:List Ϥ)(o:Ϥ)(r:OH)(fr:Fr)(m:Mem)(nx:Nat):Option (cO×List Prop):=Wj r.tv (tf P all o r.h fr m nx)
def Gj (P:Ο)(N:Nat)(all:List Ϥ)(o:Ϥ)(r:OH)(st:St):Option (St×List Prop):=
 match qJ P all o r st.fr st.mem st.nx with
 |some (e,cs)=>bif Ln N o.dst&&mE st.mem e.new then some (st.app o.dst e,cs) else none
 |none=>none
def pN (P:Ο)(N:Nat)(all:List Ϥ):List Ϥ->List OH->St->Option (St×List Prop)
 |[],_,st=>some (st,[])
 |o::os,r::rs,st=>(match Gj P N all o r st with
  |some (st1,p)=>(match pN P N all os rs st1 with
   |some (j,t)=>some (j,p++t)
   |none=>none)
  |none=>none)
 |_::_,[],_=>none
section
variable {cx:Cx} {g:GM} {st:St} {a:Act} {w:Ε}
theorem CQ {N:Nat}{d:Option Tmp}(h:Ln N d=true): ∀t,d=some t->t<N:=by
 intro t e;subst e;exact ab2 (by simpa [Ln,aaf] using h)
theorem ph.UW {e:cO}{val:π}{w':Ε}(h:ph cx st a e val w'){d:Option Tmp}(j: ∀t,d=some t->t<cx.N): ∃g',cT cx g' (st.app d e) (a.put d val) w':=by
 obtain ⟨g',o,p⟩:=h;exact ⟨g',o.put p d j⟩
theorem Hw {all:List Ϥ}{j:Nat}{b:Bool}(h:cT cx g st a w)(r:(uy all j).bind (λt=>lk t st.fr)=some (.one (.bG .bool b))):yielded all.toArray a.tmps j=some b:=by
 unfold uy at r;unfold yielded;cases J:all[j]? with
 |none=>simp [J] at r
 |some o=>
  rw [J] at r;simp only [η] at r;cases R:o.dst with
  |none=>simp [R] at r
  |some t=>
   rw [R] at r;simp only [η] at r;have U:=h.fr t _ r;have I:a.tmps.getD t undef= .bool b:=oM (g:=g) (m:=st.mem) (S:=cx.safe g st.mem w) (w:=w) U;have p:t<a.tmps.size:=by
    rcases aam t a.tmps.size with p|T
    exact p;rw [ϐ,ac0 T] at I;cases I
   simp only [afg,J,η,R];rw [ϐ,aal p] at I;rw [aal p];simp only [afH] at I;rw [I]
theorem Hx {all:List Ϥ}{j:Nat}(h:cT cx g st a w)(p:(uy all j).bind (λt=>lk t st.fr)=some .Ce):yielded all.toArray a.tmps j=none:=by
 unfold uy at p;unfold yielded;cases I:all[j]? with
 |none=>simp [I] at p
 |some o=>
  rw [I] at p;simp only [η] at p;cases J:o.dst with
  |none=>simp [J] at p
  |some t=>
   rw [J] at p;simp only [η] at p;have R:a.tmps.getD t undef=undef:=h.fr t _ p;simp only [afg,I,η,J];rcases aam t a.tmps.size with r|T
   rw [ϐ,aal r] at R;rw [aal r];simp only [afH] at R;rw [R];rfl;rw [ac0 T]
theorem xR {all:List Ϥ}{o:Ϥ}{r:OH}{e:cO}{cs:List Prop}{Q:abI->Act->Ε->Prop}{K:Act->Ε->Prop}(h:cT cx g st a w)(he:qJ cx.P all o r st.fr st.mem st.nx=some (e,cs))(hw:fw st.mem e.new)(U:Ln cx.N o.dst=true)(hc:cp cs)(hk: ∀g' a' w',cT cx g' (st.app o.dst e) a' w'->K a' w'):if ϯ o (yielded all.toArray a.tmps) then o.wp cx.P a w K Q else K (a.put o.dst undef) w:=by
 have U:=CQ U;obtain ⟨e0,ON,p,hv,hn,hu,Hc⟩:=xQ he;obtain ⟨zT,hv⟩:=hv hc;obtain ⟨v0,n0,u0,c0⟩:=e;obtain rfl:v0=e0.val:=hv;obtain rfl:n0=e0.new:=hn;obtain rfl:u0=e0.lq:=hu;have hk: ∀g' a' w',cT cx g' (st.app o.dst e0) a' w'->K a' w':=hk;have hw:fw st.mem e0.new:=hw;clear he hc Hc;unfold tf at p;split at p;rename_i hg;split at p;rename_i e' hi;injection p with p;injection p with R T;subst R;subst T;simp only [ϯ,hg,if_true];refine (Af h hw hi zT).wp λval w' I=> ?_;obtain ⟨g',hs⟩:=I.UW U;exact hk g' _ _ hs;cases p;rename_i j want hg;split at p;rename_i b hb;have hy:=Hw h hb;cases t:(b==want) with
 |true=>
  rw [t] at p;simp only [cond_true] at p;split at p;rename_i e' hi;injection p with p;injection p with R T;subst R;subst T;have J:ϯ o (yielded all.toArray a.tmps)=true:=by
   simp only [ϯ,hg,hy];simpa using t
  rw [if_pos J];refine (Af h hw hi zT).wp λval w' I=> ?_;obtain ⟨g',hs⟩:=I.UW U;exact hk g' _ _ hs;cases p
 |false=>
  rw [t] at p;simp only [cond_false] at p;injection p with p;injection p with R T;subst R;subst T;have J: ¬ϯ o (yielded all.toArray a.tmps)=true:=by
   simp only [ϯ,hg,hy];simpa using t
  rw [if_neg J];exact hk g _ _ (h.put (v:= .Ce) rfl o.dst U)
 rename_i hb;injection p with p;injection p with R T;subst R;subst T;have J: ¬ϯ o (yielded all.toArray a.tmps)=true:=by
  simp [ϯ,hg,Hx h hb]
 rw [if_neg J];exact hk g _ _ (h.put (v:= .Ce) rfl o.dst U);cases p
theorem rK {all:List Ϥ}{o:Ϥ}{r:OH}{st':St}{cs:List Prop}{Q:abI->Act->Ε->Prop}{K:Act->Ε->Prop}(h:cT cx g st a w)(j:Gj cx.P cx.N all o r st=some (st',cs))(t:cp cs)(I: ∀g' a' w',cT cx g' st' a' w'->K a' w'):if ϯ o (yielded all.toArray a.tmps) then o.wp cx.P a w K Q else K (a.put o.dst undef) w:=by
 unfold Gj at j;split at j;rename_i e J R;cases p:(Ln cx.N o.dst&&mE st.mem e.new) with
 |false=>rw [p] at j;cases j
 |true=>
  rw [p] at j;simp only [cond_true] at j;simp only [κ] at p;injection j with j;injection j with T U;subst T;subst U;exact xR h R (gb p.2) p.1 t I
 cases j
theorem qK {all:List Ϥ}{Q:abI->Act->Ε->Prop}: ∀{os:List Ϥ} {rs:List OH} {st st':St} {cs:List Prop} {g:GM} {a:Act} {w:Ε},
 cT cx g st a w->pN cx.P cx.N all os rs st=some (st',cs)->cp cs->(∀g' a' w',cT cx g' st' a' w'->Q .normal a' w')->wpList cx.P all.toArray Q os a w
 |[],rs,st,st',cs,g,a,w,h,j,t,p=>by
  have j:some (st,[])=some (st',cs):=by cases rs<;>exact j
  injection j with j;injection j with I T;subst I;exact p g a w h
 |o::os,[],st,st',cs,g,a,w,h,j,t,p=>by cases j
 |o::os,r::rs,st,st',cs,g,a,w,h,j,t,p=>by
  simp only [pN] at j;split at j;rename_i st1 c1 U;split at j;rename_i aa c2 h2;injection j with j;injection j with I T;subst I;subst T;obtain ⟨J,R⟩:=t.append;refine wpList_step λK hK=> ?_;exact rK h U J λg' a' w' hs=>hK a' w' (qK hs h2 R p);cases j;cases j
def HT (cx:Cx)(st:St)(c:Code)(Q:abI->St->Prop):Prop:=
 ∀g a w,cT cx g st a w->c.wp cx.P (λe j w'=> ∃st' g',Q e st'/\cT cx g' st' j w') a w
variable {Q Q':abI->St->Prop} {c x y:Code}
theorem HT.mono (h:HT cx st c Q)(j: ∀e s,Q e s->Q' e s):HT cx st c Q':=
 λg a w o=>wp_mono (h g a w o) λe _ _ ⟨s,g',p,r⟩=>⟨s,g',j e s p,r⟩
theorem HT.region {id:Nat}{ops:List Ϥ}{rs:List OH}{st':St}{cs:List Prop}(o:pN cx.P cx.N ops ops rs st=some (st',cs))(p:cp cs)(r:Q .normal st'):HT cx st (.region id ops.toArray false) Q:=
 λg a w t=>wp_region_lit (qK t o p λg' _ _ j=>⟨st',g',r,j⟩)
theorem HT.skip (j:Q .normal st):HT cx st .skip Q:=λg _ _ o=>wp_skip ⟨st,g,j,o⟩
theorem HT.exit {id:Nat}(j:Q (.exit id) st):HT cx st (.exit id) Q:=λg _ _ o=>wp_exit ⟨st,g,j,o⟩
theorem HT.ret (j:Q .ret st):HT cx st .ret Q:=λg _ _ o=>wp_ret ⟨st,g,j,o⟩
def vU (cx:Cx)(y:Code)(Q:abI->St->Prop):abI->St->Prop
 | .normal,s=>HT cx s y Q
 |e,s=>Q e s
theorem HT.seq (h:HT cx st x (vU cx y Q)):HT cx st (.seq x y) Q:=λg a w p=>by
 refine wp_seq (wp_mono (h g a w p) λe r w' ⟨s,g',j,o⟩=> ?_);cases e with
 |normal=>exact j g' r w' o
 |_=>exact ⟨s,g',j,o⟩
theorem HT.cond {o:aah}{b:Bool}(p:ev st.fr o=some (.one (.bG .bool b)))(r:b=true->HT cx st x Q)(t:b=false->HT cx st y Q):HT cx st (.cond o x y) Q:=λg a w j=>
 wp_cond_split (oM (g:=g) (m:=st.mem) (S:=cx.safe g st.mem w) (w:=w) (cA j p)) (λe=>r e g a w j) (λe=>t e g a w j)
def vo (id:Nat)(Q:abI->St->Prop):abI->St->Prop
 | .exit j,s=>if j=id then Q .normal s else Q (.exit j) s
 |e,s=>Q e s
theorem HT.block {id:Nat}(h:HT cx st c (vo id Q)):HT cx st (.block id c) Q:=λg a w p=>by
 refine wp_block (wp_mono (h g a w p) λe t w' ⟨s,g',j,o⟩=> ?_);cases e with
 |exit r=>
  simp only [Exit.inBlock,vo] at j⊢;split;rename_i e;rw [if_pos e] at j;exact ⟨s,g',j,o⟩;rename_i e;rw [if_neg e] at j;exact ⟨s,g',j,o⟩
 |_=>exact ⟨s,g',j,o⟩
def vV (J:St->Prop)(Q:abI->St->Prop):abI->St->Prop
 | .normal,s=>J s
 |e,s=>Q e s
theorem HT.loop {α:Type}{I:Nat->α->Prop}{S:α->St}{n:Nat}{s:α}(h0:I n s)(hz: ∀s,¬I 0 s)(round: ∀n s,I (n+1) s->HT cx (S s) c (vV (λst'=> ∃p,st'=S p/\I n p) Q)):HT cx (S s) (.loop c) Q:=λg a w T=>by
 let J:Nat->Act->Ε->Prop:=λn a w=> ∃s g,I n s/\cT cx g (S s) a w;have j: ∀a w,(∃n,J n a w)-> ∃n,J n a w/\ ∀k,J k a w->n<=k:=by
  intro a w ⟨n,o⟩;induction n using aa7 with
  |_ n ih=>
   by_cases h: ∃k,k<n/\J k a w;obtain ⟨k,U,hj⟩:=h;exact ih k U hj;exact ⟨n,o,λk U=>agC λaa=>h ⟨k,aa,U⟩⟩
 let μ:Act->Ε->Nat:=λa w=> @dite Nat (∃n,J n a w) (aaA _) (λh=>ady (j a w h)) (λ_=>0);have r: ∀a w n,J n a w->J (μ a w) a w/\μ a w<=n:=by
  intro a w n o;have hx: ∃n,J n a w:=⟨n,o⟩;have e:μ a w=ady (j a w hx):=dif_pos hx;have:=abO (j a w hx);rw [e];exact ⟨this.1,this.2 n o⟩
 refine wp_loop (λa w=> ∃n,J n a w) μ ⟨n,s,g,h0,T⟩ λa w ⟨n,o⟩=> ?_;obtain ⟨⟨s,g,R,T⟩,_⟩:=r a w n o;cases hm:μ a w with
 |zero=>rw [hm] at R;exact absurd R (hz s)
 |succ k=>
  rw [hm] at R;refine wp_mono (round k s R g a w T) λe a' w' ⟨st',g',h1,h2⟩=> ?_;cases e with
  |normal=>
   obtain ⟨p,e,t⟩:=h1;subst e;have:=r a' w' k ⟨p,g',t,h2⟩;exact ⟨⟨k,p,g',t,h2⟩,by omega⟩
  |_=>exact ⟨st',g',h1,h2⟩
end
end Go.Ide
namespace Go.Ide
theorem xS {ch:List (Nat×Nat)}: ∀{k k':Nat},lk k ch=some k'->k'∈ch.map afo:=λh=>Ϣ.2 ⟨_,mD h,rfl⟩
def inv (ch:List (Nat×Nat)):List (Nat×Nat):=ch.map λp=>(p.2,p.1)
theorem oR: ∀{ch:List (Nat×Nat)} {k k':Nat},(ch.map aav).Nodup->(ch.map afo).Nodup->(lk k ch=some k'↔lk k' (inv ch)=some k)
 |[],k,k',_,_=>by simp [inv,fR]
 |(a,b)::ch,k,k',o,p=>by
  simp only [aaa,aba] at o p;simp only [inv,aaa];rw [bO,bO];have ih:=oR (ch:=ch) (k:=k) (k':=k') o.2 p.2;by_cases r:k=a;subst r;rw [if_pos rfl];by_cases j:k'=b;subst j;simp;rw [if_neg j];constructor;intro e;injection e with e;exact absurd e.symm j
  intro e;have:=ih.2 e;exact absurd (Ϣ.2 ⟨_,mD this,rfl⟩) o.1;rw [if_neg r];by_cases j:k'=b;subst j;rw [if_pos rfl];constructor;intro e;exact absurd (xS e) p.1;intro e;injection e with e;exact absurd e.symm r
  rw [if_neg j];exact ih
end Go.Ide
namespace Go.Ide
section
variable {w w':Ε} {D:Nat} {S:Nat->Prop}
theorem Gk {o:Obj}(r:w.heap[D]? =some o)(t:o.isCells=false){a:Addr}{v:π}(h:w.cell? a=some v):a.block≠D:=λe=>by
 obtain ⟨I,j,p⟩:=cells_of_cell h;rw [e,r] at j;injection j with j;subst j;rw [t] at p;cases p
theorem mF {o:Obj}(r:w.heap[D]? =some o)(t:o.isCells=false){p:Addr}{es:List π}{n k:Nat}(R:es.length=n)(T:0<n)(I: ∀j v,es[j]? =some v->w.cell? (p.add (k+j))=some v):p.block≠D:=by
 obtain ⟨v,J⟩: ∃v,es[0]? =some v:=⟨es[0],Γ (by omega)⟩;have:=Gk r t (I 0 v J);rwa [fy] at this
theorem po.dR {o:Obj}(p:w.heap[D]? =some o)(r:o.isCells=false): ∀{ns:List Nat} {vs ps:List π},(∀n∈ns,0<n)->vs.length=ns.sum->po S w ns vs ps->po (λb=>S b/\b≠D) w ns vs ps
 |[],_,[],_,_,_=>trivial
 |n::ns,vs,_::_,t,J,⟨⟨R,e,T,I⟩,U⟩=>by
  have h1:=t n ϴ;simp only [List.sum_cons] at J;refine ⟨⟨R,e,⟨T,mF (k:=0) (n:=n) (es:=vs.take n) p r (by rw [ώ];omega) h1 λj v hv=>by rw [Ψ];exact I j v hv⟩,I⟩,po.dR p r (λk hk=>t k (ύ _ hk)) (by rw [϶];omega) U⟩
 |[],_,_::_,_,_,h=>h.elim
 |_::_,_,[],_,_,h=>h.elim
theorem Ty.CT: ∀(t:Ty),t.sR.sum=t.size
 | .pair a b=>by simp [Ty.sR,Ty.size,Ty.CT b]
 | .st _=>by simp [Ty.sR]
 | .int _=>rfl
 | .dP _=>rfl
 | .bool=>rfl
 | .str=>rfl
 | .sl _=>rfl
 | .own _=>rfl
 | .bx _=>rfl
 | .cl _ _=>rfl
theorem Ty.CU: ∀(t:Ty),∀n∈t.sR,0<n
 | .pair a b,n,h=>by
  rcases ϖ.1 h with rfl|h
  exact a.size_pos;exact Ty.CU b n h
 | .st t,n,h=>by rw [ϊ.1 h];exact (Ty.st t).size_pos
 | .int _,n,h=>by rw [ϊ.1 h];exact aau
 | .dP _,n,h=>by rw [ϊ.1 h];exact aau
 | .bool,n,h=>by rw [ϊ.1 h];exact aau
 | .str,n,h=>by rw [ϊ.1 h];exact aau
 | .sl _,n,h=>by rw [ϊ.1 h];exact aau
 | .own _,n,h=>by rw [ϊ.1 h];exact aau
 | .bx _,n,h=>by rw [ϊ.1 h];exact aau
 | .cl _ _,n,h=>by rw [ϊ.1 h];exact aau
theorem cn.dR {o:Obj}(I:w.heap[D]? =some o)(J:o.isCells=false): ∀(t:Ty) (cs:List π) (x:t.D),cn S w t cs x->cn (λb=>S b/\b≠D) w t cs x
 | .int _,_,_,r=>r
 | .dP _,_,_,r=>r
 | .bool,_,_,r=>r
 | .str,_,_,r=>r
 | .pair a b,_,x,⟨c1,c2,e,h1,h2⟩=>⟨c1,c2,e,cn.dR I J a c1 x.1 h1,cn.dR I J b c2 x.2 h2⟩
 | .st t,cs,x,r=>cn.dR I J t cs x r
 | .sl t,_,xs,⟨a,cap,e,hc,r⟩=>⟨a,cap,e,hc,λi R=>by
  obtain ⟨T,es,ea,U,j,p⟩:=r i R;exact ⟨T,es,ea,⟨U,mF I J (abV t es _ p) t.size_pos j⟩,j,cn.dR I J t es _ p⟩⟩
 | .own t,_,xs,⟨a,cap,e,hc,r⟩=>⟨a,cap,e,hc,λi R=>by
  obtain ⟨T,es,ea,U,j,p⟩:=r i R;exact ⟨T,es,ea,⟨U,mF I J (abV t es _ p) t.size_pos j⟩,j,cn.dR I J t es _ p⟩⟩
 | .cl f t,_,x,⟨vs,ps,e,r,hp⟩=>⟨vs,ps,e,cn.dR I J t vs x r,po.dR I J t.CU (by rw [Ty.CT];exact abV t vs x r) hp⟩
 | .bx t,_,xs,⟨T,e,r⟩=>⟨T,e,λi R=>by
  obtain ⟨es,U,j,p⟩:=r i R;exact ⟨es,⟨U,mF I J (abV t es _ p) t.size_pos j⟩,j,cn.dR I J t es _ p⟩⟩
variable {g:GM} {m:Mem}
theorem CR.dR {o:Obj}(J:w.heap[D]? =some o)(R:o.isCells=false){c:bI}{v:π}(I:CR g m S w c v):CR g m (λb=>S b/\b≠D) w c v:=by
 cases c with
 |bG t x=>exact cn.dR J R t [v] x I
 |ip t x off=>
  obtain ⟨T,es,e,U,p,r⟩:=I;exact ⟨T,es,e,⟨U,mF (k:=0) J R (abV t es _ r) t.size_pos (λj u hu=>by rw [Ψ];exact p j u hu)⟩,p,cn.dR J R t es x r⟩
 |ji f t x=>
  obtain ⟨T,es,e,U,p,r⟩:=I;exact ⟨T,es,e,⟨U,mF (k:=0) J R (abV t es _ r) t.size_pos (λj u hu=>by rw [Ψ];exact p j u hu)⟩,p,cn.dR J R t es x r⟩
 |cls=>exact I
 |fP=>exact I
 |zP f t x=>
  obtain ⟨T,Lh,es,e,qD,Is,U,p,r⟩:=I;exact ⟨T,Lh,es,e,⟨qD,Gk J R Is⟩,Is,⟨U,mF (k:=0) J R (abV t es _ r) t.size_pos (λj u hu=>by rw [Ψ];exact p j u hu)⟩,p,cn.dR J R t es x r⟩
 |ptr=>exact I
 |dn=>exact I
 |all=>exact I
 |ref=>exact I
 |row=>exact I
 |zf=>exact I
 |bH=>exact I
 |fn=>exact I
 |dS=>exact I
 |bad=>trivial
theorem VR.dR {o:Obj}(r:w.heap[D]? =some o)(I:o.isCells=false): ∀{c:bK} {v:π},VR g m S w c v->VR g m (λb=>S b/\b≠D) w c v
 | .one _,_,j=>CR.dR r I j
 | .agg _,_,⟨J,e,j⟩=>⟨J,e,j.mono λ_ _=>CR.dR r I⟩
 | .AA _,_,⟨J,e,j⟩=>⟨J,e,j.mono λt v p=>by
  unfold CV at p⊢;split at p;obtain ⟨R,T,U⟩:=p;exact ⟨R,T,U.mono λ_ _=>CR.dR r I⟩;exact CR.dR r I p;exact p.elim⟩
 | .Ce,_,h=>h
 | .dS,_,_=>trivial
theorem dw.dR {R:Obj}(p:w.heap[D]? =some R)(r:R.isCells=false): ∀(t:Ty) {γ:List Nat->Option Nat} {o:Nat} {cs:List π} {x:t.D},dw S w t γ o cs x->dw (λb=>S b/\b≠D) w t γ o cs x
 | .own t,γ,o,cs,xs,⟨v,e,U,j⟩=>by
  refine ⟨v,e,U,?_⟩;cases T:γ [o] with
  |none=>rw [T] at j;exact j
  |some b=>
   rw [T] at j;obtain ⟨arr,hb,hi⟩:=j;exact ⟨arr,hb,λi hl=>let ⟨es,I,J⟩:=hi i hl;⟨es,I,dw.dR p r t J⟩⟩
 | .pair a b,γ,o,cs,x,⟨c1,c2,e,I,J⟩=>⟨c1,c2,e,dw.dR p r a I,dw.dR p r b J⟩
 | .st t,γ,o,cs,x,j=>dw.dR p r t (o:=o) (cs:=cs) (x:=x) j
 | .int k,_,_,cs,x,j=>cn.dR p r (.int k) cs x j
 | .dP k,_,_,cs,x,j=>cn.dR p r (.dP k) cs x j
 | .bool,_,_,cs,x,j=>cn.dR p r .bool cs x j
 | .str,_,_,cs,x,j=>cn.dR p r .str cs x j
 | .sl t,_,_,cs,x,j=>cn.dR p r (.sl t) cs x j
 | .bx t,_,_,cs,x,j=>cn.dR p r (.bx t) cs x j
 | .cl f t,_,_,cs,x,j=>cn.dR p r (.cl f t) cs x j
theorem jk.dR {o:Obj}(I:w.heap[D]? =some o)(J:o.isCells=false){γ:List Nat->Option Nat}{ch:Chunk}(r:jk g m S w γ ch):jk g m (λb=>S b/\b≠D) w γ ch:=by
 cases ch with
 |gone=>trivial
 |box cs=>
  obtain ⟨b,arr,e,p,hc⟩:=r;exact ⟨b,arr,e,p,hc.mono λ_ _=>CR.dR I J⟩
 |mp t u U=>exact r
 |pT T e U=>exact r
 |gh cs vs=>exact ⟨r.1,r.2.mono λ_ _=>CR.dR I J⟩
 |seq t U=>
  cases R:γ [] with
  |none=>simp only [jk,R] at r⊢;exact r
  |some b=>
   simp only [jk,R] at r⊢;obtain ⟨arr,p,he⟩:=r;exact ⟨arr,p,λi hi=>let ⟨es,h1,h2⟩:=he i hi;⟨es,h1,dw.dR I J t h2⟩⟩
 |pg t U i cs ks=>
  obtain ⟨FY,b,arr,e,p,hi,hj,es,h1,h2,h3⟩:=r;refine ⟨FY,b,arr,e,p,hi,λj hl iH=> ?_,es,h1,h2,h3.mono λ_ _=>CR.dR I J⟩;obtain ⟨es,k1,k2⟩:=hj j hl iH;exact ⟨es,k1,dw.dR I J t k2⟩
end
section
variable {cx:Cx} {g:GM} {st:St} {a:Act} {w w':Ε}
theorem cT.N0 {D:Nat}{o:Obj}(h:cT cx g st a w)(hD:w.heap[D]? =some o)(hn:o.isCells=false)(Gd: ∀es ck,o≠ .map es ck)(hw:cx.w0.heap.size<=D)(hos:w'.os=w.os)(Y3:w'.tape=w.tape)(hou:w'.output=w.output)(nK:w.heap.size<=w'.heap.size)(hb: ∀b,b<w.heap.size->b≠D->w'.heap[b]? =w.heap[b]?){a':Act}(ht:a'.tmps=a.tmps)(hd:zg cx g st.mem w' a'.defers):cT cx g st a' w':=by
 have hDl:D<w.heap.size:=(ϝ.1 hD).1;have I: ∀b arr,dA w b arr->dA w' b arr:=λb arr SN=>SN.bJ (hb b SN.lt (λe=>by
  obtain ⟨T,lo,hi,R,_⟩:=SN;rw [e,hD] at R;injection R with R;subst R;cases hn))
 have r: ∀b,(cx.safe g st.mem w b/\b≠D)->cx.safe g st.mem w' b/\w'.heap[b]? =w.heap[b]? :=λb ⟨⟨R,h2,h3⟩,h4⟩=>⟨⟨ϕ R nK,h2,h3⟩,hb b R h4⟩;have uh:iO g g st.mem st.mem (λb=>cx.safe g st.mem w b/\b≠D) (cx.safe g st.mem w') w w':={
  safe:=r
  od:=λc hc=>⟨hc,rfl⟩
  old:=λc t xs _ hs=>⟨xs,hs,rfl⟩
  dA:=λc t xs b arr _ _ _ rj=>⟨arr,I b arr rj,rfl⟩
  Cg:=λc _=>rfl
  rows:=λc t iy _ hc=>⟨iy,hc,cL.refl _ _,λi o b arr _ rj=>⟨arr,I b arr rj,rfl⟩⟩}
 refine ⟨hd,by rw [ht];exact h.size,λt v zd=>by rw [ht];exact ad4 uh (VR.dR hD hn (h.fr t v zd)),λk ch hk=> ?_,h.fY,h.iN,λk p ch b R h2 h3=>ϕ (h.lt k p ch b R h2 h3) nK,?_,h.own,h.gl⟩;have J:=jk.dR hD hn (h.mem k ch hk);revert J;generalize hγ:g.f k=γ;intro J;have sh: ∀(t:Ty) {γ:List Nat->Option Nat} {o:Nat} {cs:List π} {x:t.D},dw (λb=>cx.safe g st.mem w b/\b≠D) w t γ o cs x->dw (cx.safe g st.mem w') w' t γ o cs x:=by
  intro t;induction t with
  |own t ih=>
   intro γ o cs xs ⟨v,e,ha,U⟩;refine ⟨v,e,ha.stays λb arr _ rj=>⟨arr,I b arr rj,rfl⟩,?_⟩;cases hg:γ [o] with
   |none=>rw [hg] at U;exact U
   |some b=>
    rw [hg] at U;obtain ⟨arr,rj,hi⟩:=U;exact ⟨arr,I b arr rj,λi hl=>let ⟨es,R,h2⟩:=hi i hl;⟨es,R,ih h2⟩⟩
  |pair a b OY OZ=>exact λ⟨c1,c2,e,R,h2⟩=>⟨c1,c2,e,OY R,OZ h2⟩
  |st t ih=>exact λ {γ o cs x} U=>ih (γ:=γ) (o:=o) (cs:=cs) (x:=x) U
  |int k=>exact λ {γ o cs x} U=>abE r (.int k) cs x U
  |dP k=>exact λ {γ o cs x} U=>abE r (.dP k) cs x U
  |bool=>exact λ {γ o cs x} U=>abE r .bool cs x U
  |str=>exact λ {γ o cs x} U=>abE r .str cs x U
  |sl t _=>exact λ {γ o cs x} U=>abE r (.sl t) cs x U
  |bx t _=>exact λ {γ o cs x} U=>abE r (.bx t) cs x U
  |cl f t _=>exact λ {γ o cs x} U=>abE r (.cl f t) cs x U
 cases ch with
 |gone=>trivial
 |box cs=>
  obtain ⟨b,arr,e,pt,hc⟩:=J;exact ⟨b,arr,e,I b arr pt,hc.mono λ_ _=>aeE uh⟩
 |mp t u xs=>
  obtain ⟨b,es,ck,e,N1,hc⟩:=J;exact ⟨b,es,ck,e,(hb b (ϝ.1 N1).1 (λe=>by rw [e,hD] at N1;injection N1 with N1;exact Gd es ck N1)).trans N1,hc.mono λ_ _ ⟨k1,k2⟩=>⟨k1.bJ,k2.bJ⟩⟩
 |gh cs vs=>exact ⟨J.1,J.2.mono λ_ _=>aeE uh⟩
 |pT T e xs=>
  obtain ⟨h0,b,p,v,R,h2,h3,h4⟩:=J;have key: ∀(k:Nat) (o':Obj),w.heap[k]? =some o'->o'.isCells=true->w'.heap[k]? =w.heap[k]? :=λk o' hk hc=>hb k (ϝ.1 hk).1 (λe=>by rw [e,hD] at hk;injection hk with hk;rw [hk,hc] at hn;cases hn);refine ⟨h0,b,p,v,R,h2,(key b _ h3 rfl).trans h3,h4.bJ λg hg=> ?_⟩;unfold tV at h4;rw [hg] at h4;obtain ⟨cap,cur,_,q,_⟩:=h4;exact key g _ q rfl
 |seq t xs=>
  cases SP:γ [] with
  |none=>simp only [jk,SP] at J⊢;exact J
  |some b=>
   simp only [jk,SP] at J⊢;obtain ⟨arr,pt,he⟩:=J;exact ⟨arr,I b arr pt,λi hi=>let ⟨es,R,h2⟩:=he i hi;⟨es,R,sh t h2⟩⟩
 |pg t xs i cs ks=>
  obtain ⟨FY,b,arr,e,pt,hi,hj,es,R,h2,h3⟩:=J;refine ⟨FY,b,arr,e,I b arr pt,hi,λj hl iH=> ?_,es,R,h2,h3.mono λ_ _=>aeE uh⟩;obtain ⟨es,k1,k2⟩:=hj j hl iH;exact ⟨es,k1,sh t k2⟩
 refine ⟨hos.trans h.bJ.os,Y3.trans h.bJ.tape,hou.trans h.bJ.output,ϫ h.bJ.size nK,λb R h2=> ?_,λb arr SN=> ?_⟩;rw [hb b (ϕ R h.bJ.size) (by omega)];exact h.bJ.block b R h2;obtain ⟨eB,R,h2⟩:=h.bJ.sz b arr SN;exact ⟨eB,I b eB R,h2⟩
theorem cT.grown {row:Option Nat}(h:cT cx g st a w)(j:w.grownBy w' row)(hr: ∀r,row=some r->cx.w0.heap.size<=r/\ ∃o:Obj,w.heap[r]? =some o/\o.isCells=false/\(∀es ck,o≠ .map es ck)/\o≠ .deferred (some [])):cT cx g st a w':=by
 cases row with
 |some r=>
  obtain ⟨h1,o,U,h3,J,h4⟩:=hr r rfl;refine h.N0 U h3 J h1 j.os j.tape j.output j.size (λb p R=>j.block b p (λe=>R (by injection e))) rfl ?_;obtain ⟨h0,Ds,e,hn,hD⟩:=h.defers;refine ⟨h0,Ds,e,hn,λD hm=> ?_⟩;obtain ⟨t,k2,k3⟩:=hD D hm;refine ⟨(j.block D (ϝ.1 t).1 (λe=> ?_)).trans t,k2,k3⟩;injection e with e;subst e;rw [U] at t;injection t with t;exact h4 t
 |none=>
  have k:bU [] w w':=⟨j.os,j.tape,j.output,j.size,λb p _=>j.block b p (λe=>by cases e),λb arr p=>⟨arr,p.bJ (j.block b p.lt (λe=>by cases e)),rfl⟩⟩;exact h.ua (nx':=st.nx) ⟨k,λb p=>by simp at p,λ_ _=>rfl,λk ch T=> .inl ⟨T,λ_ _ _ _ p=>by simp at p⟩,λk ch T I=>by rw [T] at I;cases I⟩
theorem cT.Ph (h:cT cx g st a w): ∃o:List Nat,(∀b,b∈o↔Live g st.mem b)/\cT {cx with w0:=w,S:=cx.safe g st.mem w,F:=o} g st {a with defers:=[]} w:=by
 obtain ⟨o,J⟩: ∃o:List Nat,∀b,b∈o↔Live g st.mem b:=by
  refine ⟨(abD w.heap.size).filter λb=> @decide (Live g st.mem b) (aaA _),λb=> ?_⟩;rw [acj];constructor;exact λh=> @of_decide_eq_true _ (aaA _) h.2;rintro I;obtain ⟨k,p,r,R,T,U⟩:=id I;exact ⟨ab7.2 (h.lt k p r b R T U),@decide_eq_true _ (aaA _) I⟩
 refine ⟨o,J,.nil,h.size,λt v I=> ?_,λk r hk=> ?_,h.fY,λk p r b R T U=> .inr ((J b).2 ⟨k,p,r,R,T,U⟩),h.lt,bU.refl _ _,h.own,h.Ls,λb j=>⟨j.1,λhm=>j.2.2 ((J b).1 hm)⟩⟩;exact ad4 (ad6 λb j=>⟨j.1,λ_=>j,j.2.2⟩) (h.fr t v I);exact afC (ad6 λb j=>⟨j.1,λ_=>j,j.2.2⟩) (λ_ _ _ _=>rfl) (h.mem k r hk)
theorem cT.Pj {g':GM}{st':St}{a':Act}{F':List Nat}(h:cT cx g st a w)(hF: ∀b,b∈F'↔Live g st.mem b)(j:cT {cx with w0:=w,S:=cx.safe g st.mem w,F:=F'} g' st' a' w')(hd:zg cx g' st'.mem w' a'.defers):cT cx g' st' a' w':=by
 have o: ∀b,Cx.safe {cx with w0:=w,S:=cx.safe g st.mem w,F:=F'} g' st'.mem w' b->cx.safe g' st'.mem w' b:=λb ⟨I,J,h3⟩=>⟨I,λR=>(J (ϕ R h.bJ.size)).2.1 R,h3⟩;refine ⟨hd,j.size,λt v hl=>ad4 (ad6 o) (j.fr t v hl),λk ch hk=>afC (ad6 o) (λ_ _ _ _=>rfl) (j.mem k ch hk),j.fY,λk p ch b I J h3=> ?_,j.lt,?_,j.own,h.gl⟩;rcases j.iN k p ch b I J h3 with r|r
 exact .inl (ϫ h.bJ.size r);obtain ⟨k0,p0,c0,q1,q2,q3⟩:=(hF b).1 r;exact h.iN k0 p0 c0 b q1 q2 q3;refine ⟨j.bJ.os.trans h.bJ.os,j.bJ.tape.trans h.bJ.tape,j.bJ.output.trans h.bJ.output,ϫ h.bJ.size j.bJ.size,λb hb hf=> ?_,
  λb arr hb=>let ⟨T,I,e1⟩:=h.bJ.sz b arr hb;let ⟨U,J,e2⟩:=j.bJ.sz b T I;⟨U,J,e2.trans e1⟩⟩
 rw [j.bJ.block b (ϕ hb h.bJ.size) ?_];exact h.bJ.block b hb hf;intro hm;obtain ⟨k0,p0,c0,q1,q2,q3⟩:=(hF b).1 hm;rcases h.iN k0 p0 c0 b q1 q2 q3 with r|r
 omega;exact hf r
end
end Go.Ide
namespace Go.Ide
def toIV (t:Ty)(cs:List bI):bK:=if t.sS then .agg cs else (match cs with|[c]=> .one c|_=> .dS)
def dL:List Arg->Nat->Nat->Fr×List Chunk
 |[],_,_=>([],[])
 | .bZ t x::r,i,n=>((i,toIV t (gT t x))::(dL r (i+1) n).1,(dL r (i+1) n).2)
 | .fZ t x::r,i,n=>((i,.one (.ip t x 0))::(dL r (i+1) n).1,(dL r (i+1) n).2)
 | .fn f::r,i,n=>((i,.one (.fn f))::(dL r (i+1) n).1,(dL r (i+1) n).2)
 | .ji f t x::r,i,n=>((i,.one (.ji f t x))::(dL r (i+1) n).1,(dL r (i+1) n).2)
 | .nl::r,i,n=>((i,.one .bH)::(dL r (i+1) n).1,(dL r (i+1) n).2)
 | .mv t x::r,i,n=>
  ((i,toIV t (cZ t x n).1)::(dL r (i+1) (n+(cZ t x n).2.length)).1,(cZ t x n).2++(dL r (i+1) (n+(cZ t x n).2.length)).2)
 | .own t x::r,i,n=>
  ((i,toIV t (cZ t x n).1)::(dL r (i+1) (n+(cZ t x n).2.length)).1,(cZ t x n).2++(dL r (i+1) (n+(cZ t x n).2.length)).2)
def EA (j:Nat):List Nat->Bool
 |[]=>false
 |a::l=>Β j a||EA j l
theorem CW {j:Nat}: ∀{l:List Nat},EA j l=true↔j∈l
 |[]=>by simp [EA]
 |a::l=>by simp [EA,CW (l:=l)]
def gd:List Arg->Nat->List Nat
 |[],_=>[]
 | .own t x::r,n=>List.range' n (cZ t x n).2.length++gd r (n+(cZ t x n).2.length)
 | .mv t x::r,n=>gd r (n+(cZ t x n).2.length)
 | .bZ _ _::r,n=>gd r n
 | .fZ _ _::r,n=>gd r n
 | .fn _::r,n=>gd r n
 | .ji _ _ _::r,n=>gd r n
 | .nl::r,n=>gd r n
def tT (args:List Arg):St:=⟨(dL args 0 0).1,cD 0 (dL args 0 0).2,(dL args 0 0).2.length⟩
def CX (P:Ο)(m:Mem)(fr:Fr):List afI->Option (List bK)
 |[]=>some []
 | .tmp t::r=>match lk t fr,CX P m fr r with
  |some v,some l=>some (v::l)
  |_,_=>none
 | .cell t T::r=>match lk t fr,CX P m fr r with
  |some (.one (.ptr c off)),some l=>(match pU P m T (.one (.ptr c off)) with
   |some e=>some (e.val::l)
   |none=>none)
  |_,_=>none
def EB (m:Mem):List (Bool×Ty)->List bK->Option (List RV×List Nat)
 |[],[]=>some ([],[])
 |(fresh,t)::o,v::p=>match EB m o p with
  |some (rs,j)=>if fresh then (match kf m t v,dU m t v.cells with
   |some x,some (k,[])=>some (⟨true,t,x⟩::rs,k++j)
   |_,_=>none) else (match kf [] t v with
   |some x=>some (⟨false,t,x⟩::rs,j)
   |none=>none)
  |none=>none
 |_,_=>none
def fS (m:Mem):(t:Ty)->t.D->Nat->Option (t.D×Nat×List Prop)
 | .pair a b,x,n=>match fS m a x.1 n with
  |some (y,r,I)=>(match fS m b x.2 r with
   |some (z,J,R)=>some ((y,z),J,I++R)
   |none=>none)
  |none=>none
 | .st t,x,n=>fS m t x n
 | .sl t,p,n=>match lk n m with
  |some (.seq o j)=>if h:o=t then some (cR (congrArg Ty.sl h) j,n+1,bif t.top then [ζ j=ζ p] else [cL t p (cR (a:= .sl o) (b:= .sl t) (congrArg Ty.sl h) j)]) else none
  |_=>none
 | .own t,p,n=>match lk n m with
  |some (.seq o j)=>if h:o=t then some ((cR (a:= .sl o) (b:= .sl t) (congrArg Ty.sl h) j:List t.D),n+1,bif t.top then [ζ j=ζ p] else [cL t p (cR (a:= .sl o) (b:= .sl t) (congrArg Ty.sl h) j)]) else none
  |_=>none
 | .bx t,p,n=>match lk n m with
  |some (.seq o j)=>if h:o=t then some ((cR (a:= .sl o) (b:= .sl t) (congrArg Ty.sl h) j:List t.D),n+1,bif t.top then [ζ j=ζ p] else [cL t p (cR (a:= .sl o) (b:= .sl t) (congrArg Ty.sl h) j)]) else none
  |_=>none
 | .int _,x,n=>some (x,n,[])
 | .dP _,x,n=>some (x,n,[])
 | .bool,x,n=>some (x,n,[])
 | .str,x,n=>some (x,n,[])
 | .cl _ _,_,_=>none
def jq (m:Mem):List Arg->Nat->Option (List TD×List Prop)
 |[],_=>some ([],[])
 | .own t x::r,n=>match fS m t x n with
  |some (y,j,o)=>(match jq m r j with
   |some (l,p)=>some (⟨t,y⟩::l,o++p)
   |none=>none)
  |none=>none
 | .mv t x::r,n=>jq m r (n+(cZ t x n).2.length)
 | .bZ _ _::r,n=>jq m r n
 | .fZ _ _::r,n=>jq m r n
 | .fn _::r,n=>jq m r n
 | .ji _ _ _::r,n=>jq m r n
 | .nl::r,n=>jq m r n
def CY (P:Ο)(fn:Func)(args:List Arg)(ts:List (Bool×Ty))(rs:List RV)(outs:List TD)(st:St):Prop:=
 ∃o j cs,CX P st.mem st.fr fn.results.toList=some o/\EB st.mem ts o=some (rs,j)/\j7 j=true/\j.all (λk=> !(EA k (gd args 0)))=true/\jq st.mem args 0=some (outs,cs)/\cp cs
def I5 (P:Ο)(fn:Func)(args:List Arg)(ts:List (Bool×Ty))(rs:List RV)(outs:List TD):abI->St->Prop
 | .normal,st=>CY P fn args ts rs outs st
 | .ret,st=>CY P fn args ts rs outs st
 |_,_=>False
section
variable {S:Nat->Prop} {w:Ε}
theorem toIV_VR {g:GM}{m:Mem}{t:Ty}{cs:List π}{j:List bI}{v:π}(h:dQ t cs v)(p:cc (CR g m S w) j cs):VR g m S w (toIV t j) v:=by
 unfold dQ at h;unfold toIV;split;rename_i o;rw [if_pos o] at h;exact ⟨cs,h,p⟩;rename_i o;rw [if_neg o] at h;subst h;cases j with
 |nil=>exact p.elim
 |cons c r=>
  cases r with
  |nil=>exact p.1
  |cons=>exact p.2.elim
theorem vr {S2:Nat->Prop}(U: ∀b,S b->S2 b): ∀{args:List Arg} {vals:List π} {As:List (List (List Nat->Option Nat))} (i n:Nat),oN S w args vals As->As.flatten.length=(dL args i n).2.length/\oN S2 w args vals As/\
 ∀(g':GM) (m':Mem),(∀j ch,(dL args i n).2[j]? =some ch->lk (n+j) m'=some ch)->(∀j o,As.flatten[j]? =some o->g'.f (n+j)=o)->
  (∀t v,lk t (dL args i n).1=some v->i<=t/\ ∃u,vals[t - i]? =some u/\VR g' m' S2 w v u)/\Laid g' m' S2 w n (dL args i n).2 As.flatten
 |[],[],[],i,n,_=>⟨rfl,trivial,λg' m' _ _=>⟨λt v h=>by simp [dL,fR] at h,rfl,λj ch R=>by simp [dL] at R⟩⟩
 |arg::args,v::vals,F::Fs,i,n,⟨h1,h2⟩=>by
  have plain: ∀(iv:bK),F=[]->dL (arg::args) i n=((i,iv)::(dL args (i+1) n).1,(dL args (i+1) n).2)->(∀(g':GM) (m':Mem),VR g' m' S2 w iv v)->xB S2 w arg v F->
   (F::Fs).flatten.length=(dL (arg::args) i n).2.length/\oN S2 w (arg::args) (v::vals) (F::Fs)/\
   ∀(g':GM) (m':Mem),(∀j ch,(dL (arg::args) i n).2[j]? =some ch->lk (n+j) m'=some ch)->(∀j o,(F::Fs).flatten[j]? =some o->g'.f (n+j)=o)->
    (∀t u,lk t (dL (arg::args) i n).1=some u->i<=t/\ ∃x,(v::vals)[t - i]? =some x/\VR g' m' S2 w u x)/\Laid g' m' S2 w n (dL (arg::args) i n).2 (F::Fs).flatten:=by
   intro iv I he hv hA;obtain ⟨k1,k2,k3⟩:=vr U (i+1) n h2;have SQ:(F::Fs).flatten=Fs.flatten:=by rw [I];rfl
   rw [SQ];refine ⟨by rw [he];exact k1,⟨hA,k2⟩,λg' m' hm hg=> ?_⟩;rw [he] at hm⊢;obtain ⟨q1,q2⟩:=k3 g' m' hm hg;refine ⟨λt u J=> ?_,q2⟩;simp only at J;rw [bO] at J;split at J;rename_i e;subst e;injection J with J;subst J;exact ⟨ς _,v,by simp,hv g' m'⟩;obtain ⟨a1,x,a2,a3⟩:=q1 t u J;refine ⟨by omega,x,?_,a3⟩;rw [show t - i=(t - (i+1))+1 from by omega];simpa using a2
  have T: ∀(t:Ty) (x:t.D),dL (arg::args) i n=((i,toIV t (cZ t x n).1)::(dL args (i+1) (n+(cZ t x n).2.length)).1,(cZ t x n).2++(dL args (i+1) (n+(cZ t x n).2.length)).2)->
   (∃cs,dQ t cs v/\dG S w t cs x F)->((∃cs,dQ t cs v/\dG S2 w t cs x F)->xB S2 w arg v F)->
   (F::Fs).flatten.length=(dL (arg::args) i n).2.length/\oN S2 w (arg::args) (v::vals) (F::Fs)/\
   ∀(g':GM) (m':Mem),(∀j ch,(dL (arg::args) i n).2[j]? =some ch->lk (n+j) m'=some ch)->(∀j o,(F::Fs).flatten[j]? =some o->g'.f (n+j)=o)->
    (∀t u,lk t (dL (arg::args) i n).1=some u->i<=t/\ ∃x,(v::vals)[t - i]? =some x/\VR g' m' S2 w u x)/\Laid g' m' S2 w n (dL (arg::args) i n).2 (F::Fs).flatten:=by
   intro t x he ⟨cs,hv,ho⟩ hA;have ho:=dG.mono U t ho;obtain ⟨l2,b2,k2⟩:=vr U (i+1) (n+(cZ t x n).2.length) h2;have l1:F.length=(cZ t x n).2.length:=by rw [fx,dG.tA t ho]
   rw [aaR];refine ⟨by rw [he];simp only [ξ,l1,l2],⟨hA ⟨cs,hv,ho⟩,b2⟩,λg' m' hm hg=> ?_⟩;rw [he] at hm⊢;obtain ⟨p1,q1⟩:=qb t n ho g' m' (λj ch R=>hm j ch (by
    simp only;rw [Ν (ω.1 R).1];exact R)) (λj o R=>hg j o (by
    rw [Ν (ω.1 R).1];exact R))
   obtain ⟨p2,q2⟩:=k2 g' m' (λj ch R=>by
    rw [Ϡ];refine hm _ ch ?_;simp only;rw [Κ (by omega)];simpa using R) (λj o R=>by
    rw [Ϡ];refine hg _ o ?_;rw [Κ (by omega),l1];simpa using R)
   refine ⟨λt' u J=> ?_,q1.app q2⟩;simp only at J;rw [bO] at J;split at J;rename_i e;subst e;injection J with J;subst J;exact ⟨ς _,v,by simp,toIV_VR hv p1⟩;obtain ⟨a1,x,a2,a3⟩:=p2 t' u J;refine ⟨by omega,x,?_,a3⟩;rw [show t' - i=(t' - (i+1))+1 from by omega];simpa using a2
  cases arg with
  |bZ t x=>
   obtain ⟨I,cs,hv,hr⟩:=h1;have r:=abE (λb hb=>⟨U b hb,rfl⟩) t cs x hr;exact plain _ I rfl (λg' m'=>toIV_VR hv (ly t r)) ⟨I,cs,hv,r⟩
  |fZ t x=>
   obtain ⟨I,ad,es,e,hs,p,hr⟩:=h1;have r:=abE (λb hb=>⟨U b hb,rfl⟩) t es x hr;exact plain _ I rfl (λg' m'=>⟨ad,es,by rw [e];simp [Addr.add],U _ hs,p,r⟩) ⟨I,ad,es,e,U _ hs,p,r⟩
  |fn f=>
   obtain ⟨I,e⟩:=h1;exact plain _ I rfl (λg' m'=>e) ⟨I,e⟩
  |ji f t x=>
   obtain ⟨I,ad,es,e,hs,p,hr⟩:=h1;have r:=abE (λb hb=>⟨U b hb,rfl⟩) t es x hr;exact plain _ I rfl (λg' m'=>⟨ad,es,e,U _ hs,p,r⟩) ⟨I,ad,es,e,U _ hs,p,r⟩
  |nl=>
   obtain ⟨I,e⟩:=h1;exact plain _ I rfl (λg' m'=>e) ⟨I,e⟩
  |own t x=>exact T t x rfl h1 λh=>h
  |mv t x=>exact T t x rfl h1 λh=>h
 |[],[],_::_,_,_,h=>h.elim
 |[],_::_,_,_,_,h=>h.elim
 |_::_,[],_,_,_,h=>h.elim
 |_::_,_::_,[],_,_,h=>h.elim
end
section
variable {cx:Cx} {g:GM} {st:St} {a:Act} {w:Ε}
def Hy (tmps:Array π):afI->Sem π
 | .tmp t=>pure (tmps.getD t undef)
 | .cell x t=>do loadVar t (<-asAddr (tmps.getD x undef))
theorem xT (h:cT cx g st a w): ∀{R:List afI} {vs:List bK},CX cx.P st.mem st.fr R=some vs->
 ∃vals:List π,(R.mapM (Hy a.tmps)).run cx.P w= .ok vals w/\cc (VR g st.mem (cx.safe g st.mem w) w) vs vals
 |[],vs,o=>by simp only [CX] at o;injection o with o;subst o;exact ⟨[],rfl,trivial⟩
 | .tmp t::R,vs,o=>by
  simp only [CX] at o;split at o;rename_i v l U hl;injection o with o;subst o;obtain ⟨vals,h1,h2⟩:=xT h hl;exact ⟨a.tmps.getD t undef::vals,by simp [agJ,Hy,h1],h.fr t v U,h2⟩;cases o
 | .cell t T::R,vs,o=>by
  simp only [CX] at o;split at o;rename_i c off l U hl;split at o;rename_i e j;injection o with o;subst o;obtain ⟨vals,h1,h2⟩:=xT h hl;have J:=h.fr t _ U;have p:e.cond=[]:=by
   unfold pU at j;split at j;rename_i I _ _;cases I;rename_i I _ _;cases I;split at j;split at j;unfold cM at j;injection j with j;rw [<-j]
   cases j;cases j;cases j
  obtain ⟨_,_,r,h3,h4⟩:=rD h.mem j (by rw [p];trivial) J;obtain ⟨_,b,_,I⟩:=J;rw [I] at h3;simp only [Instr.loadAt,Instr.sureAddr,Ϛ,ϵ,ϋ] at h3;exact ⟨r::vals,by simp [agJ,Hy,I,asAddr,h3,h1],h4,h2⟩;cases o;cases o
theorem I6 (hm:kh g st.mem (cx.safe g st.mem w) w){t:Ty}{v:bK}{x:t.D}{ks:List Nat}{u:π}(j:kf st.mem t v=some x)(hk:dU st.mem t v.cells=some (ks,[]))(hv:VR g st.mem (cx.safe g st.mem w) w v u):
 ∃cs A,dQ t cs u/\dG (cx.safe g st.mem w) w t cs x A/\ki g st.mem ks A:=by
 have o: ∃p,dQ t p u/\cc (CR g st.mem (cx.safe g st.mem w) w) v.cells p/\impl st.mem t v.cells=some (x,[]):=by
  unfold kf at j;split at j;rename_i c r;split at j;rename_i y T;injection j with j;subst j;exact ⟨[u],by simp [dQ,r],⟨hv,trivial⟩,T⟩;cases j;rename_i cs r;split at j;rename_i y T;injection j with j;subst j;obtain ⟨U,e,aa⟩:=hv;exact ⟨U,by simp [dQ,r,e],aa,T⟩;cases j;cases j
 obtain ⟨p,I,J,R⟩:=o;obtain ⟨v1,v2,A,e1,o1,a1,q1,s1,_⟩:=AP hm (λ_ h=>h) t R hk J;have:v2=[]:=by cases v2 with|nil=>rfl|cons=>exact a1.elim
 subst this;rw [ϲ] at e1;subst e1;exact ⟨p,A,I,o1,s1⟩
theorem CZ (h:cT cx g st a w): ∀{ts:List (Bool×Ty)} {vs:List bK} {vals:List π} {rs:List RV} {ks:List Nat},EB st.mem ts vs=some (rs,ks)->cc (VR g st.mem (cx.safe g st.mem w) w) vs vals->
 ∃A,nw (cx.safe g st.mem w) w rs vals A/\ki g st.mem ks A
 |[],[],vals,rs,ks,j,o=>by
  simp only [EB] at j;injection j with j;injection j with p r;subst p;subst r;cases vals with
  |nil=>exact ⟨[],rfl,ki.nil⟩
  |cons=>exact o.elim
 |(fresh,t)::ts,v::vs,[],rs,ks,j,o=>o.elim
 |(fresh,t)::ts,v::vs,u::vals,rs,ks,j,o=>by
  simp only [EB] at j;split at j;rename_i aa ab h1;obtain ⟨A,R,T⟩:=CZ h h1 o.2;split at j;rename_i hf;split at j;rename_i x k I hk;injection j with j;injection j with p r;subst p;subst r;obtain ⟨cs,U,q1,J,q3⟩:=I6 h.mem I hk o.1;refine ⟨U++A,⟨U,A,rfl,?_,R⟩,q3.app T⟩;unfold wB;rw [if_pos rfl];exact ⟨cs,q1,J⟩;cases j;rename_i hf;split at j;rename_i x I;injection j with j;injection j with p r;subst p;subst r;obtain ⟨cs,q1,J⟩:=nu (S2:=cx.safe g st.mem w) (λ_ h=>h) iz.nil I o.1;refine ⟨A,⟨[],A,rfl,?_,R⟩,T⟩;unfold wB;rw [if_neg (by simp)];exact ⟨rfl,cs,q1,J⟩;cases j;cases j
 |[],_::_,_,_,_,j,_=>by simp [EB] at j
 |_::_,[],_,_,_,j,_=>by cases j
end
theorem C0 {S S':Nat->Prop}{w0 w:Ε}{g:GM}{m:Mem}(hm:kh g m S' w)(hk: ∀b arr,dA w0 b arr-> ∃r,dA w b r/\r.size=arr.size){t:Ty}{cs:List π}{xs ys:List t.D}{A:List (List Nat->Option Nat)}{n:Nat}(ho:ga S w0 t cs xs A)(hl:lk n m=some (.seq t ys))(T:cp (bif t.top then [ζ ys=ζ xs] else [cL t xs ys]))(h3: ∀j o,A[j]? =some o->g.f (n+j)=o):A.length=1/\ga S' w t cs ys A/\cL t xs ys:=by
 have I:cL t xs ys:=by
  cases ht:t.top with
  |true=>rw [ht] at T;exact cL.top ht T.1.symm
  |false=>rw [ht] at T;exact T.1
 have p:ys.length=xs.length:=I.1.symm;have J:=hm n _ hl;rcases ho with ⟨U,hx,a,e⟩|⟨v,γ,U,e,b,cap,arr,h0,ev,q1,q2,q3,q4,q5,q6⟩
 subst U;refine ⟨rfl,.inl ⟨rfl,?_,a,e⟩,I⟩;rw [hx] at p;exact List.eq_nil_of_length_eq_zero p;subst U;have hg:=h3 0 γ rfl;rw [Ϭ] at hg;unfold jk at J;rw [hg,h0] at J;obtain ⟨r,r1,r2⟩:=J;obtain ⟨R,s1,s2⟩:=hk b arr q3;have:=s1.eq r1;subst this;exact ⟨rfl,.inr ⟨v,γ,rfl,e,b,cap,R,h0,by rw [p];exact ev,by rw [p];exact q1,q2,r1,by rw [s2];exact q4,q5,r2⟩,I⟩
theorem I7 {S S':Nat->Prop}{w0 w:Ε}{g:GM}{m:Mem}(U:kh g m S' w)(hk: ∀b arr,dA w0 b arr-> ∃p,dA w b p/\p.size=arr.size){t:Ty}{cs:List π}{xs ys:List t.D}{A:List (List Nat->Option Nat)}{n:Nat}(ho:zU S w0 t cs xs A)(hl:lk n m=some (.seq t ys))(I:cp (bif t.top then [ζ ys=ζ xs] else [cL t xs ys]))(h3: ∀j o,A[j]? =some o->g.f (n+j)=o):A.length=1/\zU S' w t cs ys A/\cL t xs ys:=by
 have J:cL t xs ys:=by
  cases ht:t.top with
  |true=>rw [ht] at I;exact cL.top ht I.1.symm
  |false=>rw [ht] at I;exact I.1
 have r:=U n _ hl;obtain ⟨γ,b,arr,hF,e,R,q3,q6⟩:=ho;subst hF;have T:=h3 0 γ rfl;rw [Ϭ] at T;unfold jk at r;rw [T,R] at r;obtain ⟨p,r1,r2⟩:=r;exact ⟨rfl,⟨γ,b,p,rfl,e,R,r1,r2⟩,J⟩
theorem qL {S S':Nat->Prop}{w0 w:Ε}{g:GM}{m:Mem}(hm:kh g m S' w)(hk: ∀b arr,dA w0 b arr-> ∃T,dA w b T/\T.size=arr.size): ∀(t:Ty) {cs:List π} {x y:t.D} {A:List (List Nat->Option Nat)} {n I:Nat} {cd:List Prop},
 dG S w0 t cs x A->fS m t x n=some (y,I,cd)->cp cd->(∀j o,A[j]? =some o->g.f (n+j)=o)->I=n+A.length/\dG S' w t cs y A/\tz t x y
 | .int k,cs,x,y,A,n,I,cd,⟨U,hr⟩,h,r,p=>by simp only [fS] at h;injection h with h;injection h with J h;injection h with R e3;subst J;subst R;subst U;exact ⟨rfl,⟨rfl,hr⟩,trivial⟩
 | .dP k,cs,x,y,A,n,I,cd,⟨U,hr⟩,h,r,p=>by simp only [fS] at h;injection h with h;injection h with J h;injection h with R e3;subst J;subst R;subst U;exact ⟨rfl,⟨rfl,hr⟩,trivial⟩
 | .bool,cs,x,y,A,n,I,cd,⟨U,hr⟩,h,r,p=>by simp only [fS] at h;injection h with h;injection h with J h;injection h with R e3;subst J;subst R;subst U;exact ⟨rfl,⟨rfl,hr⟩,trivial⟩
 | .str,cs,x,y,A,n,I,cd,⟨U,hr⟩,h,r,p=>by simp only [fS] at h;injection h with h;injection h with J h;injection h with R e3;subst J;subst R;subst U;exact ⟨rfl,⟨rfl,hr⟩,trivial⟩
 | .st t,cs,x,y,A,n,I,cd,ho,h,r,p=>qL hm hk t (cs:=cs) (x:=x) (y:=y) ho h r p
 | .pair a b,cs,x,y,A,n,I,cd,⟨c1,c2,A1,A2,J,R,o1,o2⟩,h,r,p=>by
  subst R;simp only [fS] at h;split at h;rename_i y1 n1 cd1 UX;split at h;rename_i y2 n2 cd2 hy2;injection h with h;injection h with k1 h;injection h with k2 k3;subst k1;subst k2;subst k3;obtain ⟨Pd,vt⟩:=r.append;obtain ⟨r1,r2,r5⟩:=qL hm hk a o1 UX Pd (λj o hj=>p j o (by rw [Ν (ω.1 hj).1];exact hj));subst r1;obtain ⟨r3,r4,r6⟩:=qL hm hk b o2 hy2 vt (λj o hj=>by
   rw [Ϡ];refine p _ o ?_;rw [Κ (by omega)];simpa using hj)
  exact ⟨by rw [r3,ξ];omega,⟨c1,c2,A1,A2,J,rfl,r2,r4⟩,r5,r6⟩;cases h;cases h
 | .sl t,cs,xs,y,A,n,I,cd,ho,h,r,p=>by
  simp only [fS] at h;split at h;rename_i t' ys hl;split at h;rename_i he;subst he;injection h with h;injection h with k1 h;injection h with k2 k3;subst k1;subst k2;subst k3;obtain ⟨r1,r2,r3⟩:=C0 hm hk ho hl r p;exact ⟨by rw [r1],r2,r3⟩;cases h;cases h
 | .own t,cs,xs,y,A,n,I,cd,ho,h,r,p=>by
  simp only [fS] at h;split at h;rename_i t' ys hl;split at h;rename_i he;subst he;injection h with h;injection h with k1 h;injection h with k2 k3;subst k1;subst k2;subst k3;obtain ⟨r1,r2,r3⟩:=C0 hm hk ho hl r p;exact ⟨by rw [r1],r2,r3⟩;cases h;cases h
 | .cl _ _,_,_,_,_,_,_,_,_,h,_,_=>by cases h
 | .bx t,cs,xs,y,A,n,I,cd,ho,h,r,p=>by
  simp only [fS] at h;split at h;rename_i t' ys hl;split at h;rename_i he;subst he;injection h with h;injection h with k1 h;injection h with k2 k3;subst k1;subst k2;subst k3;obtain ⟨r1,r2,r3⟩:=I7 hm hk ho hl r p;exact ⟨by rw [r1],r2,r3⟩;cases h;cases h
theorem iD {S S':Nat->Prop}{w0 w:Ε}{g:GM}{m:Mem}(hm:kh g m S' w)(hk: ∀b arr,dA w0 b arr-> ∃eB,dA w b eB/\eB.size=arr.size): ∀{args:List Arg} {vals:List π} {As:List (List (List Nat->Option Nat))} {n:Nat} {outs:List TD} {cd:List Prop},
 oN S w0 args vals As->jq m args n=some (outs,cd)->cp cd->(∀j o,As.flatten[j]? =some o->n+j∈gd args n->g.f (n+j)=o)->iA S' w args vals As outs
 |[],[],[],n,outs,cd,_,h,_,_=>by
  simp only [jq] at h;injection h with h;injection h with e1 e2;subst e1;trivial
 | .bZ t x::p,v::T,F::U,n,outs,cd,I,h,R,r=>iD hm hk (args:=p) (vals:=T) (As:=U) I.2 h R (by have e:F=[]:=I.1.1;rw [e] at r;exact r)
 | .fZ t x::p,v::T,F::U,n,outs,cd,I,h,R,r=>iD hm hk (args:=p) (vals:=T) (As:=U) I.2 h R (by have e:F=[]:=I.1.1;rw [e] at r;exact r)
 | .fn f::p,v::T,F::U,n,outs,cd,I,h,R,r=>iD hm hk (args:=p) (vals:=T) (As:=U) I.2 h R (by have e:F=[]:=I.1.1;rw [e] at r;exact r)
 | .ji f t x::p,v::T,F::U,n,outs,cd,I,h,R,r=>iD hm hk (args:=p) (vals:=T) (As:=U) I.2 h R (by have e:F=[]:=I.1.1;rw [e] at r;exact r)
 | .nl::p,v::T,F::U,n,outs,cd,I,h,R,r=>iD hm hk (args:=p) (vals:=T) (As:=U) I.2 h R (by have e:F=[]:=I.1.1;rw [e] at r;exact r)
 | .mv t x::p,v::T,F::U,n,outs,cd,⟨⟨cs,hv,ho⟩,I⟩,h,R,r=>by
  have hl:F.length=(cZ t x n).2.length:=by rw [fx,dG.tA t ho]
  refine iD hm hk (args:=p) (vals:=T) (As:=U) (n:=n+(cZ t x n).2.length) I h R λj o hj J=> ?_;rw [Ϡ] at J⊢;refine r _ o ?_ J;rw [aaR,Κ (by omega),hl];simpa using hj
 | .own t x::p,v::T,F::U,n,outs,cd,⟨⟨cs,hv,ho⟩,I⟩,h,R,r=>by
  simp only [jq] at h;split at h;rename_i y n1 c1 hy;split at h;rename_i l c2 hl;injection h with h;injection h with k1 k2;subst k1;subst k2;obtain ⟨Pd,vt⟩:=R.append;have hlen:F.length=(cZ t x n).2.length:=by rw [fx,dG.tA t ho]
  obtain ⟨r1,r2,r3⟩:=qL hm hk t ho hy Pd (λj o hj=>r j o (by rw [aaR,Ν (ω.1 hj).1];exact hj) (by
   have:=(ω.1 hj).1;simp only [gd,Λ,acD];left;omega))
  subst r1;have:=iD hm hk I hl vt (λj o hj J=>by
   rw [Ϡ] at J⊢;refine r _ o ?_ ?_;rw [aaR,Κ (by omega)];simpa using hj;simp only [gd,Λ];right;rw [<-hlen];exact J)
  exact ⟨⟨rfl,cs,hv,r2,r3⟩,this⟩;cases h;cases h
theorem jQ {S:Nat->Prop}{w:Ε}: ∀{args:List Arg} {vals:List π} {As:List (List (List Nat->Option Nat))} (n:Nat),oN S w args vals As-> ∀j γ p b,As.flatten[j]? =some γ->γ p=some b->n+j∈gd args n\/um b args As
 |[],[],[],n,h,j,γ,p,b,r,_=>by simp at r
 | .bZ _ _::o,_::I,F::J,n,h,j,γ,p,b,r,hp=>by have e:F=[]:=h.1.1;subst e;exact jQ (args:=o) (vals:=I) (As:=J) n h.2 j γ p b r hp
 | .fZ _ _::o,_::I,F::J,n,h,j,γ,p,b,r,hp=>by have e:F=[]:=h.1.1;subst e;exact jQ (args:=o) (vals:=I) (As:=J) n h.2 j γ p b r hp
 | .fn _::o,_::I,F::J,n,h,j,γ,p,b,r,hp=>by have e:F=[]:=h.1.1;subst e;exact jQ (args:=o) (vals:=I) (As:=J) n h.2 j γ p b r hp
 | .ji _ _ _::o,_::I,F::J,n,h,j,γ,p,b,r,hp=>by have e:F=[]:=h.1.1;subst e;exact jQ (args:=o) (vals:=I) (As:=J) n h.2 j γ p b r hp
 | .nl::o,_::I,F::J,n,h,j,γ,p,b,r,hp=>by have e:F=[]:=h.1.1;subst e;exact jQ (args:=o) (vals:=I) (As:=J) n h.2 j γ p b r hp
 | .mv t x::o,v::I,F::J,n,⟨⟨cs,hv,T⟩,U⟩,j,γ,p,b,r,hp=>by
  have hl:F.length=(cZ t x n).2.length:=by rw [fx,dG.tA t T]
  rw [aaR] at r;by_cases R:j<F.length;rw [Ν R] at r;exact .inr (.inl ⟨γ,aaN r,p,hp⟩);rw [Κ (by omega)] at r;rcases jQ (args:=o) (vals:=I) (As:=J) (n+(cZ t x n).2.length) U _ γ p b r hp with h|h
  left;simp only [gd];rwa [show n+(cZ t x n).2.length+(j - F.length)=n+j by omega] at h;exact .inr (.inr h)
 | .own t x::o,v::I,F::J,n,⟨⟨cs,hv,T⟩,U⟩,j,γ,p,b,r,hp=>by
  have hl:F.length=(cZ t x n).2.length:=by rw [fx,dG.tA t T]
  rw [aaR] at r;by_cases R:j<F.length;left;simp only [gd,Λ,acD];left;omega;rw [Κ (by omega)] at r;rcases jQ (args:=o) (vals:=I) (As:=J) (n+(cZ t x n).2.length) U _ γ p b r hp with h|h
  left;simp only [gd,Λ];right;rwa [show n+(cZ t x n).2.length+(j - F.length)=n+j by omega] at h;exact .inr h
theorem qM {m:Mem}: ∀(t:Ty) {x y:t.D} {n p:Nat} {cd:List Prop},fS m t x n=some (y,p,cd)->p=n+(cZ t x n).2.length/\ ∀k,n<=k->k<p-> ∃t ys,lk k m=some (.seq t ys)
 | .int _,_,_,_,_,_,h=>by simp only [fS] at h;injection h with h;injection h with _ h;injection h with h _;subst h;exact ⟨rfl,λk j o=>by omega⟩
 | .dP _,_,_,_,_,_,h=>by simp only [fS] at h;injection h with h;injection h with _ h;injection h with h _;subst h;exact ⟨rfl,λk j o=>by omega⟩
 | .bool,_,_,_,_,_,h=>by simp only [fS] at h;injection h with h;injection h with _ h;injection h with h _;subst h;exact ⟨rfl,λk j o=>by omega⟩
 | .str,_,_,_,_,_,h=>by simp only [fS] at h;injection h with h;injection h with _ h;injection h with h _;subst h;exact ⟨rfl,λk j o=>by omega⟩
 | .cl _ _,_,_,_,_,_,h=>by cases h
 | .st t,x,y,_,_,_,h=>qM t (x:=x) (y:=y) h
 | .pair a b,x,_,n,p,cd,h=>by
  simp only [fS] at h;split at h;rename_i y1 n1 c1 j;split at h;rename_i z1 n2 c2 o;injection h with h;injection h with _ h;injection h with h _
  subst h;obtain ⟨T,U⟩:=qM a j;obtain ⟨e2,k2⟩:=qM b o;subst T;refine ⟨by rw [e2];simp [cZ,Ϡ],λk j o=> ?_⟩;by_cases I:k<n+(cZ a x.1 n).2.length;exact U k j I;exact k2 k (by omega) o;cases h;cases h
 | .sl t,J,_,n,p,cd,h=>by
  simp only [fS] at h;split at h;rename_i R ys r;split at h;injection h with h;injection h with _ h;injection h with h _
  subst h;refine ⟨rfl,λk j o=> ?_⟩;have:k=n:=by omega
  subst this;exact ⟨_,_,r⟩;cases h;cases h
 | .own t,J,_,n,p,cd,h=>by
  simp only [fS] at h;split at h;rename_i R ys r;split at h;injection h with h;injection h with _ h;injection h with h _
  subst h;refine ⟨rfl,λk j o=> ?_⟩;have:k=n:=by omega
  subst this;exact ⟨_,_,r⟩;cases h;cases h
 | .bx t,J,_,n,p,cd,h=>by
  simp only [fS] at h;split at h;rename_i R ys r;split at h;injection h with h;injection h with _ h;injection h with h _
  subst h;refine ⟨rfl,λk j o=> ?_⟩;have:k=n:=by omega
  subst this;exact ⟨_,_,r⟩;cases h;cases h
theorem iE {m:Mem}: ∀{args:List Arg} {n:Nat} {outs:List TD} {cd:List Prop},jq m args n=some (outs,cd)-> ∀k,k∈gd args n-> ∃t ys,lk k m=some (.seq t ys)
 |[],_,_,_,_,k,o=>by simp [gd] at o
 | .bZ _ _::j,n,outs,cd,h,k,o=>iE (args:=j) (n:=n) (outs:=outs) (cd:=cd) h k o
 | .fZ _ _::j,n,outs,cd,h,k,o=>iE (args:=j) (n:=n) (outs:=outs) (cd:=cd) h k o
 | .fn _::j,n,outs,cd,h,k,o=>iE (args:=j) (n:=n) (outs:=outs) (cd:=cd) h k o
 | .ji _ _ _::j,n,outs,cd,h,k,o=>iE (args:=j) (n:=n) (outs:=outs) (cd:=cd) h k o
 | .nl::j,n,outs,cd,h,k,o=>iE (args:=j) (n:=n) (outs:=outs) (cd:=cd) h k o
 | .mv t x::j,n,outs,cd,h,k,o=>iE (args:=j) (n:=n+(cZ t x n).2.length) (outs:=outs) (cd:=cd) h k o
 | .own t x::j,n,outs,cd,h,k,o=>by
  simp only [jq] at h;split at h;rename_i y R T p;split at h;rename_i l U r;obtain ⟨I,J⟩:=qM t p;simp only [gd,Λ,acD] at o;rcases o with o|o
  exact J k o.1 (by omega);exact iE r k (by rw [I];exact o);cases h;cases h
theorem I8: ∀(l:List π),zW l (if h:l.toArray.size=1 then l.toArray[0] else .tuple l.toArray)
 |[]=>rfl
 |[_]=>rfl
 |_::_::_=>rfl
theorem nA: ∀{args:List Arg} {i n k:Nat},k∈gd args n->k<n+(dL args i n).2.length
 |[],_,_,_,h=>by simp [gd] at h
 | .bZ _ _::j,i,n,k,h=>nA (args:=j) (i:=i+1) h
 | .fZ _ _::j,i,n,k,h=>nA (args:=j) (i:=i+1) h
 | .fn _::j,i,n,k,h=>nA (args:=j) (i:=i+1) h
 | .ji _ _ _::j,i,n,k,h=>nA (args:=j) (i:=i+1) h
 | .nl::j,i,n,k,h=>nA (args:=j) (i:=i+1) h
 | .mv t x::j,i,n,k,h=>by
  have:=nA (args:=j) (i:=i+1) (n:=n+(cZ t x n).2.length) h;simp only [dL,ξ];omega
 | .own t x::j,i,n,k,h=>by
  simp only [gd,Λ,acD] at h;simp only [dL,ξ];rcases h with h|h
  omega;have:=nA (args:=j) (i:=i+1) h;omega
theorem CallOK.C1 {P:Ο}{f:FuncId}{fn:Func}{c:Code}{args:List Arg}{ts:List (Bool×Ty)}{rs:List RV}{outs:List TD}(hf:P.funcs[f]? =some fn)(hb:fn.body=some c)(I9:(fn.name=="runtime.NumGoroutine")=false)(hn:args.length<=fn.ntmps)(nd:Bool)(h: ∀cx:Cx,cx.P=P->cx.N=fn.ntmps->cx.own.map aav=gd args 0->(CB args=true->cx.Ir)->cx.nd=nd->HT cx (tT args) c (I5 P fn args ts rs outs)):CallOK P f args rs outs:=by
 refine ⟨⟨fn,hf,I9,by rw [hb];rfl⟩,λw S vals As F hB hI hS RM ha Wk=>callsIn_wide.1 (callsIn_of_wp_marks (F:=adi) (n:=0) hf hb trivial (wpIn_wide.2 ?_))⟩;have SR: ∀b,S b->(b<w.heap.size/\S b/\b ∉ F):=λb hb=>⟨(hS b hb).1,hb,(hS b hb).2⟩;obtain ⟨l1,hA,k1⟩:=vr (S2:=λb=>b<w.heap.size/\S b/\b ∉ F) SR 0 0 ha;let U:=(dL args 0 0).2;let Cb:=As.flatten;let g:GM:=⟨λk=>(Cb[k]?).getD λ_=>none⟩;have SS: ∀j o,Cb[j]? =some o->g.f (0+j)=o:=λj o hj=>by
  show (Cb[0+j]?).getD _=o;rw [Ψ,hj];rfl
 have zx: ∀j ch,U[j]? =some ch->lk (0+j) (cD 0 U)=some ch:=λj ch hj=>by
  rw [eh,if_pos (by omega)];simpa using hj
 obtain ⟨ub,UL⟩:=k1 g (cD 0 U) zx SS;let cx:Cx:=⟨P,fn.ntmps,w,S,F,(gd args 0).map λk=>(k,g.f k),nd⟩;have SV: ∀(j:Nat) (γ:List Nat->Option Nat) (p:List Nat) (b:Nat),Cb[j]? =some γ->γ p=some b->b∈F:=λj γ p b hj hp=>(hB b).2 ⟨γ,aaN hj,p,hp⟩;have Wl: ∀k ch,lk k (cD 0 U)=some ch->U[k]? =some ch:=λk ch T=>by
  rw [eh,if_pos (by omega)] at T;simpa using T
 have R: ∀k p b,g.f k p=some b->b∈F/\ ∃γ,Cb[k]? =some γ/\γ p=some b:=λk p b hg=>by
  have hg:(Cb[k]?).getD (λ_=>none) p=some b:=hg;cases hx:Cb[k]? with
  |none=>rw [hx] at hg;simp at hg
  |some γ=>
   rw [hx] at hg;exact ⟨SV k γ p b hx hg,γ,rfl,hg⟩
 have nY: ∀b,(b<w.heap.size/\S b/\b ∉ F)->cx.safe g (cD 0 U) w b:=λb ⟨h1,h2,h3⟩=>⟨h1,λ_=>h2,λ⟨k,p,ch,q1,q2,q3⟩=>h3 (R k p b q3).1⟩;have hlen:args.length=vals.length:=by
  have: ∀{asx:List Arg} {vs:List π} {Fs:List (List (List Nat->Option Nat))},oN S w asx vs Fs->asx.length=vs.length:=by
   intro asx;induction asx with
   |nil=>intro vs Fs h;cases vs<;>cases Fs<;>first|rfl|exact h.elim
   |cons a asx ih=>
    intro vs Fs h;cases vs with
    |nil=>exact h.elim
    |cons v vs=>
     cases Fs with
     |nil=>exact h.elim
     |cons F Fs=>simp [ih h.2]
  exact this ha
 have IY:cT cx g (tT args) {tmps:=vals.toArray++ϻ (fn.ntmps - vals.toArray.size) undef,defers:=[]} w:=by
  refine ⟨.nil,?_,λt v hl=> ?_,λk ch T=> ?_,?_,λk p ch b T Iu hg=> ?_,λk p ch b T Iu hg=> ?_,bU.refl _ _,λp hp=> ?_,⟨Wk,hS⟩⟩;show (vals.toArray++ϻ (fn.ntmps - vals.toArray.size) undef).size=fn.ntmps;simp;omega;obtain ⟨_,u,hu,hv⟩:=ub t v hl;rw [Nat.sub_zero] at hu;have Hg:=(ω.1 hu);have:(vals.toArray++ϻ (fn.ntmps - vals.toArray.size) undef).getD t undef=u:=by
   rw [ϐ,Array.getElem?_append_left (by simpa using Hg.1)];simp [hu]
  show VR _ _ _ _ _ ((vals.toArray++ϻ (fn.ntmps - vals.toArray.size) undef).getD t undef);rw [this];exact ad4 (ad6 nY) hv;obtain ⟨_,o,ho,jm⟩:=UL.chunk k ch (Wl k ch T);have:=SS k o ho;rw [Ψ] at this;rw [this];exact afC (ad6 nY) (λ_ _ _ _=>rfl) jm;intro k k' p p' ch pL b T _ oF _ hg oE;obtain ⟨_,γ,h1,h2⟩:=R k p b hg;obtain ⟨_,γ',h3,h4⟩:=R k' p' b oE;exact hI.at h1 h3 h2 h4;exact .inr (R k p b hg).1;exact RM b (R k p b hg).1;obtain ⟨k,T,e⟩:=Ϣ.1 hp;subst e;refine ⟨rfl,?_⟩;have T:k<U.length:=by have:=nA (i:=0) T;simpa [U] using this
  show lk k (cD 0 U)≠none;rw [eh,if_pos (by omega)];simp [T]
 have RH:CB args=true->cx.Ir:=λhm b hb=>by
  obtain ⟨γ,hγ,p,hp⟩:=(hB b).1 hb;obtain ⟨j,hj⟩:=adp hγ;rcases jQ 0 hA j γ p b hj hp with T|T
  rw [Ψ] at T;refine ⟨(j,g.f j),Ϣ.2 ⟨j,T,rfl⟩,p,?_⟩;have:=SS j _ hj;rw [Ψ] at this;show g.f j p=some b;rw [this];exact hp;exact absurd T (um.none hm)
 have C2:=h cx rfl rfl (by simp [cx,List.map_map,Function.comp_def]) RH rfl g _ w IY;refine wp_mono C2 λe a' w' ⟨st',g',hq,I⟩=> ?_;have ret: ∀(a':Act) (w':Ε),cT cx g' st' a' w'->CY P fn args ts rs outs st'-> ∃v,(results fn a'.tmps).run P w'= .ok v w'/\ ∃v' A' F',Ending.returned v= .returned v'/\vi A' F'/\pM A'/\Es (je S w w' F') w' rs v' A'/\(∀b,b∈F'->(w.heap.size<=b\/um b args As)/\b<w'.heap.size)/\
  bU F w w'/\iA (je S w w' F') w' args vals As outs:=by
  clear I hq;intro a' w' I;rintro ⟨vs,ks,cs,r1,r2,r3,r4,r5,r6⟩;obtain ⟨J,q1,q2⟩:=xT I r1;obtain ⟨A',p1,p2⟩:=CZ I r2 q2;have tE:(results fn a'.tmps).run P w'= .ok (if h:J.toArray.size=1 then J.toArray[0] else .tuple J.toArray) w':=by
   have e:results fn a'.tmps=(do
    let vs<-fn.results.mapM (Hy a'.tmps)
    pure (if h:vs.size=1 then vs[0] else .tuple vs)):=by
    have hm:(λr:afI=>(match r with| .tmp t=>(pure (a'.tmps.getD t undef):Sem π)| .cell x t=>do loadVar t (<-asAddr (a'.tmps.getD x undef))))=Hy a'.tmps:=by
     funext r;cases r<;>rfl
    rw [<-hm];rfl
   have q1:(fn.results.toList.mapM (Hy a'.tmps)).run P w'= .ok J w':=q1;rw [e,Array.mapM_eq_mapM_toList];simp only [Ϛ,Sem.run_map,q1,ϋ,ϵ]
  obtain ⟨F',pt⟩:=nz (n:=w'.heap.size) (A:=A') (λγ hγ p b hp=>by
   obtain ⟨k,_,p',t,xs,a1,a2⟩:=p2.dA hγ hp;exact I.lt k p' _ b a2 trivial a1)
  have Lk: ∀b,b∈F'-> ∃k,k∈ks/\ ∃p t xs,g'.f k p=some b/\lk k st'.mem=some (.seq t xs):=λb hb=>by
   obtain ⟨γ,hγ,p,hp⟩:=(pt b).1 hb;exact p2.dA hγ hp
  have Hm: ∀b,b∈F'->(w.heap.size<=b\/um b args As)/\b<w'.heap.size:=λb hb=>by
   obtain ⟨k,T,p,t,xs,a1,a2⟩:=Lk b hb;refine ⟨?_,I.lt k p _ b a2 trivial a1⟩;rcases I.iN k p _ b a2 trivial a1 with hx|hx
   exact .inl hx;right;obtain ⟨γ,hγ,q,hq⟩:=(hB b).1 hx;obtain ⟨j,hj⟩:=adp hγ;rcases jQ 0 hA j γ q b hj hq with RN|RN
   exfalso;rw [Ψ] at RN;obtain ⟨t',ys,tu⟩:=iE r5 j RN;have RO:g'.f j q=some b:=by
    have:=(I.own (j,g.f j) (Ϣ.2 ⟨j,RN,rfl⟩)).1;simp only at this;rw [this];have:=SS j _ hj;rw [Ψ] at this;rw [this];exact hq
   have:=(I.fY k j p q _ _ b a2 trivial tu trivial a1 RO).1;have Gd:=ϣ.1 r4 _ T;rw [this,CW.2 RN] at Gd;cases Gd;exact RN
  have SY: ∀b,cx.safe g' st'.mem w' b->je S w w' F' b:=λb ⟨h1,h2,h3⟩=>⟨h1,h2,λhb=>by
   obtain ⟨k,_,p,t,xs,a1,a2⟩:=Lk b hb;exact h3 ⟨k,p,_,a2,trivial,a1⟩⟩
  refine ⟨_,tE,_,A',F',rfl,pt,p2.inj I.LF (iB r3),⟨J,nw.mono SY p1,?_⟩,Hm,I.bJ,?_⟩;exact I8 J;refine iD (S:=λb=>b<w.heap.size/\S b/\b ∉ F) (g:=g') (m:=st'.mem) (w:=w') (n:=0) (λk ch T=>afC (ad6 SY) (λ_ _ _ _=>rfl) (I.mem k ch T)) I.bJ.sz hA r5 r6 λj o hj zx=> ?_;rw [Ψ] at zx⊢;have:=(I.own (j,g.f j) (Ϣ.2 ⟨j,zx,rfl⟩)).1;simp only at this;rw [this];have:=SS j o hj;rw [Ψ] at this;exact this
 have fin:CY P fn args ts rs outs st'->LeavesInM adi 0 P fn a'.tmps (λe w'=> ∃v A' F',e= .returned v/\vi A' F'/\pM A'/\Es (je S w w' F') w' rs v A'/\(∀b,b∈F'->(w.heap.size<=b\/um b args As)/\b<w'.heap.size)/\
  bU F w w'/\iA (je S w w' F') w' args vals As outs) a'.defers .returning w':=λhq=>by
  obtain ⟨_,Ds,e,hn,hD⟩:=I.defers;rw [e];clear e;have key: ∀(Ds:List Nat) (w':Ε),cT cx g' st' {a' with defers:=[]} w'->Ds.Nodup->(∀D∈Ds,w'.heap[D]? =some (.deferred (some []))/\cx.w0.heap.size<=D)->
   LeavesInM adi 0 P fn a'.tmps (λe w'=> ∃v A' F',e= .returned v/\vi A' F'/\pM A'/\Es (je S w w' F') w' rs v A'/\(∀b,b∈F'->(w.heap.size<=b\/um b args As)/\b<w'.heap.size)/\
    bU F w w'/\iA (je S w w' F') w' args vals As outs) (Ds.map (λD=>{target:= .collected D,args:= #[]})) .returning w':=by
   intro Ds;induction Ds with
   |nil=>exact λw' hs _ _=>by have hr:=ret _ w' hs hq;exact hr
   |cons D Ds ih=>
    intro w' hs hn hD;have hn:=aba.1 hn;obtain ⟨h1,h2⟩:=hD D ϴ;refine ⟨by simp,.inl ⟨D,_,rfl,run_takeDeferred h1,ih _ ?_ hn.2 λE hE=> ?_⟩⟩;exact hs.N0 (w':=w'.putObj D (.deferred none)) (a':={a' with defers:=[]}) h1 rfl (λ_ _ e=>by cases e) h2 rfl rfl rfl (by simp) (λb _ iH=>aaL iH) rfl .nil;obtain ⟨k1,k2⟩:=hD E (ύ _ hE);exact ⟨(aaL (λe:E=D=>hn.1 (e▸hE))).trans k1,k2⟩
  exact key Ds w' ⟨.nil,I.size,I.fr,I.mem,I.fY,I.iN,I.lt,I.bJ,I.own,I.gl⟩ hn λD hm=>⟨(hD D hm).1,(hD D hm).2.1⟩
 cases e with
 |normal=>exact fin hq
 |ret=>exact fin hq
 |_=>exact hq.elim
theorem CallOK.sF {P:Ο}{f:FuncId}{fn:Func}{c:Code}{args:List Arg}{ts:List (Bool×Ty)}{rs:List RV}{outs:List TD}(o:P.funcs[f]? =some fn)(p:fn.body=some c)(j:(fn.name=="runtime.NumGoroutine")=false)(r:args.length<=fn.ntmps)(h: ∀cx:Cx,cx.P=P->cx.N=fn.ntmps->cx.own.map aav=gd args 0->(CB args=true->cx.Ir)->HT cx (tT args) c (I5 P fn args ts rs outs)):CallOK P f args rs outs:=
 CallOK.C1 o p j r false λcx a b c d _=>h cx a b c d
end Go.Ide
namespace Go.Ide
def MM (m m':Mem):Prop:= ∀k j,lk k m=some j->lk k m'=some j
section
variable {P:Ο} {m m':Mem}
theorem Hz (h:MM m m'){t:Ty}{c:bI}{x:t.D}(j:dT m t c=some x):dT m' t c=some x:=by
 cases c with
 |all c=>
  simp only [dT] at j⊢;split at j;cases p:lk c m with
  |none=>simp [p] at j
  |some r=>rw [p] at j;rw [h _ _ p];exact j
  cases j
 |dn c i I off=>
  simp only [dT] at j⊢;split at j;cases p:lk c m with
  |none=>simp [p] at j
  |some r=>rw [p] at j;rw [h _ _ p];exact j
  cases j
 |ref c off len=>
  simp only [dT] at j⊢;split at j;cases p:lk c m with
  |none=>simp [p] at j
  |some r=>rw [p] at j;rw [h _ _ p];exact j
  cases j
 |row c i o=>
  simp only [dT] at j⊢;split at j;cases p:lk c m with
  |none=>simp [p] at j
  |some r=>rw [p] at j;rw [h _ _ p];exact j
  cases j
 |_=>exact j
theorem jD (h:MM m m'){t:Ty}{cs:List bI}{x:t.D×List bI}(j:du m t cs=some x):du m' t cs=some x:=by
 cases cs with
 |nil=>exact j
 |cons c r=>
  simp only [du] at j⊢;cases o:dT m t c with
  |none=>simp [o] at j
  |some y=>rw [o] at j;rw [Hz h o];exact j
theorem mG (h:MM m m'): ∀(t:Ty) {cs:List bI} {x:t.D×List bI},impl m t cs=some x->impl m' t cs=some x
 | .int _,_,_,j=>jD h j
 | .dP _,_,_,j=>jD h j
 | .bool,_,_,j=>jD h j
 | .str,_,_,j=>jD h j
 | .sl _,_,_,j=>jD h j
 | .bx _,_,_,j=>jD h j
 | .cl _ _,_,_,j=>jD h j
 | .own _,_,_,j=>jD h j
 | .st t,_,_,j=>mG h t j
 | .pair a b,cs,x,j=>by
  simp only [impl] at j⊢;cases o:impl m a cs with
  |none=>simp [o] at j
  |some p=>
   obtain ⟨y,r⟩:=p;rw [o] at j;rw [mG h a o];simp only at j⊢;cases I:impl m b r with
   |none=>simp [I] at j
   |some q=>
    rw [I] at j;rw [mG h b I];exact j
theorem oJ (h:MM m m'){t:Ty}{v:bK}{x:t.D}(j:kf m t v=some x):kf m' t v=some x:=by
 unfold kf at j⊢;split at j;rename_i c o;cases r:impl m t [c] with
 |none=>simp [r] at j
 |some p=>rw [r] at j;(try simp only [o]);rw [mG h t r];exact j
 rename_i cs o;cases r:impl m t cs with
 |none=>simp [r] at j
 |some p=>rw [r] at j;(try simp only [o]);rw [mG h t r];exact j
 cases j
theorem xU (h:MM m m'){T:Ι}{v:bK}{e:cO}(p:pU P m T v=some e):pU P m' T v=some e:=by
 unfold pU at p⊢;split at p;rename_i c i R off n ag U ha
 try simp only [U,ha]
 cases t:lk c m with
 |none=>simp [t] at p
 |some ch=>rw [t] at p;rw [h _ _ t];exact p
 rename_i c i o j R off n ag U ha
 try simp only [U,ha]
 cases t:lk c m with
 |none=>simp [t] at p
 |some ch=>rw [t] at p;rw [h _ _ t];exact p
 rename_i c n ag I J U ha
 try simp only [U,ha]
 have key: ∀r,og m n c=some r->og m' n c=some r:=by
  intro r hr;cases c with
  |ptr k off=>
   simp only [og] at hr⊢;cases t:lk k m with
   |none=>simp [t] at hr
   |some ch=>rw [t] at hr;rw [h _ _ t];exact hr
  |_=>exact hr
 cases hc:og m n c with
 |none=>simp [hc] at p
 |some r=>
  rw [hc] at p;cases c with
  |dn k i R off=>first|exact absurd rfl (I k i R off)|exact absurd rfl (J k i R off)
  |zf k i o j R off=>first|exact absurd rfl (I k i o j R off)|exact absurd rfl (J k i o j R off)
  |_=>simp only [key _ hc];exact p
 cases p
theorem vW (h:MM m m'){T:Ι}{a v:bK}{e:cO}(p:qx P m T a v=some e):qx P m' T a v=some e:=by
 unfold qx at p⊢;split at p;rename_i c off n t
 try simp only [t]
 cases r:lk c m with
 |none=>simp [r] at p
 |some I=>rw [r] at p;rw [h _ _ r];exact p
 rename_i c i J off n t
 try simp only [t]
 cases r:lk c m with
 |none=>simp [r] at p
 |some I=>rw [r] at p;rw [h _ _ r];exact p
 rename_i c i o j J off n t
 try simp only [t]
 cases r:lk c m with
 |none=>simp [r] at p
 |some I=>rw [r] at p;rw [h _ _ r];exact p
 cases p
theorem wG (h:MM m m'){T:Ι}{x i:bK}{e:cO}(j:kJ P m T x i=some e):kJ P m' T x i=some e:=by
 unfold kJ at j⊢;split at j;rename_i U k n R
 try simp only [R]
 split at j;rename_i t xs I r
 try simp only [r]
 exact j;rename_i c I r
 try simp only [r]
 cases p:lk c m with
 |none=>simp [p] at j
 |some J=>rw [p] at j;rw [h _ _ p];exact j
 rename_i c i o I r
 try simp only [r]
 cases p:lk c m with
 |none=>simp [p] at j
 |some J=>rw [p] at j;rw [h _ _ p];exact j
 rename_i c off len I r
 try simp only [r]
 cases p:lk c m with
 |none=>simp [p] at j
 |some J=>rw [p] at j;rw [h _ _ p];exact j
 cases j;cases j
theorem vu (h:MM m m'){T:Ι}{x i:bK}{e:cO}(j:jA P m T x i=some e):jA P m' T x i=some e:=by
 unfold jA at j⊢;split at j;exact j;exact wG h j
theorem HA (h:MM m m'){x:bK}{e:cO}(j:tk m x=some e):tk m' x=some e:=by
 unfold tk at j⊢;split at j;exact j;exact j;rename_i c
 try simp only
 cases p:lk c m with
 |none=>simp [p] at j
 |some r=>rw [p] at j;rw [h _ _ p];exact j
 rename_i c i o
 try simp only
 cases p:lk c m with
 |none=>simp [p] at j
 |some r=>rw [p] at j;rw [h _ _ p];exact j
 rename_i c off len
 try simp only
 cases p:lk c m with
 |none=>simp [p] at j
 |some r=>rw [p] at j;rw [h _ _ p];exact j
 exact j;cases j
theorem tF (h:MM m m'){x:bK}(j:nX m x=true):nX m' x=true:=by
 unfold nX at j⊢;split at j;rename_i c;split at j;rename_i t p o;rw [h _ _ o];exact j;cases j;cases j;exact j
theorem EC (h:MM m m'){T:Ι}{x:bK}{e:cO}(j:CI P m T x=some e):CI P m' T x=some e:=by
 unfold CI at j⊢;split at j
 all_goals first
  |(rename_i o;(try simp only [o]);exact HA h j)
  |cases j
theorem uz (h:MM m m'){t:Ty}{x:bK}{r:List t.D×List (Nat×Chunk)}(j:oh m t x=some r):oh m' t x=some r:=by
 unfold oh at j⊢;split at j;exact j;rename_i c
 try simp only
 cases o:lk c m with
 |none=>simp [o] at j
 |some p=>rw [o] at j;rw [h _ _ o];exact j
 rename_i c len
 try simp only
 cases o:lk c m with
 |none=>simp [o] at j
 |some p=>rw [o] at j;rw [h _ _ o];exact j
 cases j
theorem AZ (h:MM m m'){nx:Nat}{T T':Ι}{t:Ty}{s x:bK}{e:cO}(j:sb P m nx T T' t s x=some e):sb P m' nx T T' t s x=some e:=by
 unfold sb at j⊢;split at j;rename_i el hu;split at j;rename_i i U
 try simp only [U]
 cases p:(((Β T T'&&Β i.size t.size)&&(ϩ i.bytes 32768&&i.zero.isSome)&&(i.zero.map λz=>Β z.cells.size t.size).getD false)&&(t.top&&nX m x)) with
 |false=>rw [p] at j;cases j
 |true=>
  rw [p] at j;have o:=p;simp only [κ] at o;have J:(((Β T T'&&Β i.size t.size)&&(ϩ i.bytes 32768&&i.zero.isSome)&&(i.zero.map λz=>Β z.cells.size t.size).getD false)&&(t.top&&nX m' x))=true:=by
   rw [o.2.2] at p;rw [tF h o.2.2];exact p
  rw [J];simp only [cond_true] at j⊢;cases I:oh m t s with
  |none=>simp [I] at j
  |some r=>
   cases R:kf m (.sl t) x with
   |none=>simp [I,R] at j
   |some ys=>
    rw [I,R] at j;rw [uz h I,oJ h R];exact j
 cases j;cases j
theorem qN (h:MM m m'): ∀(t:Ty) {cs:List bI} {p:(t.D×List Nat)×List bI},mr m t cs=some p->mr m' t cs=some p
 | .pair a b,cs,p,j=>by
  simp only [mr] at j⊢;split at j;rename_i y R T o;rw [qN h a o];simp only;split at j;rename_i z U r2 I;rw [qN h b I];exact j;cases j;cases j
 | .st t,cs,p,j=>qN h t (cs:=cs) (p:=p) j
 | .own t,cs,p,j=>by
  simp only [mr] at j⊢;split at j;exact j;rename_i c r;split at j;rename_i e xs J;rw [h _ _ J];exact j;cases j;cases j
 | .int _,_,_,j=>j
 | .dP _,_,_,j=>j
 | .bool,_,_,j=>j
 | .str,_,_,j=>j
 | .cl _ _,_,_,j=>j
 | .sl _,_,_,j=>j
 | .bx _,_,_,j=>j
theorem A0 (h:MM m m'){nx:Nat}{T:Ι}{t:Ty}{len:Nat}{parts:List (Nat×bK)}{e:cO}(j:sD P m nx T t len parts=some e):sD P m' nx T t len parts=some e:=by
 unfold sD at j⊢;split at j;rename_i p v I
 try simp only [I]
 cases r:((dm P p==some t.size&&(((P.info? p).bind (·.zero)).map λz=>Β z.cells.size t.size)==some true)&&(Β len 1&&ϩ t.size 65536)&&v.ok) with
 |false=>rw [r] at j;cases j
 |true=>
  rw [r] at j;simp only [cond_true] at j⊢;split at j;rename_i x J o;rw [qN h t o];exact j;cases j
 cases j
theorem A4 (h:MM m m'){nx:Nat}{T:Ι}{t:Ty}{len:Nat}{parts:List (Nat×bK)}{e:cO}(j:sE P m nx T t len parts=some e):sE P m' nx T t len parts=some e:=by
 unfold sE at j⊢;cases ht:t.top with
 |true=>rw [ht] at j;exact j
 |false=>rw [ht] at j;exact A0 h j
theorem ED (h:MM m m'){nx:Nat}{T T':Ι}{t:Ty}{s x:bK}{e:cO}(j:Ad P m nx T T' t s x=some e):Ad P m' nx T T' t s x=some e:=by
 unfold Ad at j⊢;split at j;rename_i R s U I
 try simp only [I]
 split at j;rename_i i t2 ys J o;rw [h _ _ o]
 try simp only [J]
 cases r:(((Β T T'&&Β i.size t.size)&&(ϩ i.bytes 32768&&i.zero.isSome))&&(i.zero.map λz=>Β z.cells.size t.size).getD false) with
 |false=>rw [r] at j;cases j
 |true=>
  rw [r] at j;simp only [cond_true] at j⊢;split at j;rename_i ht;rw [dif_pos ht];split at j;exact j;rename_i c
  try simp only
  split at j;rename_i t1 xs p;rw [h _ _ p];exact j;cases j;cases j;cases j
 cases j;cases j
theorem zy (h:MM m m'){nx:Nat}{T T':Ι}{t:Ty}{s x:bK}{e:cO}(j:qf P m nx T T' t s x=some e):qf P m' nx T T' t s x=some e:=by
 unfold qf at j⊢;cases ht:t.top with
 |true=>rw [ht] at j;exact AZ h j
 |false=>rw [ht] at j;exact ED h j
theorem C3 (h:MM m m'){T:Ι}{x:bK}{I J:Option bK}{e:cO}(j:tn P m T x I J=some e):tn P m' T x I J=some e:=by
 unfold tn at j⊢;split at j;rename_i R o;(try simp only [o]);exact j;rename_i r o;(try simp only [o]);exact j;rename_i r t R o;(try simp only [o]);exact j;rename_i r c o
 try simp only [o]
 cases p:lk c m with
 |none=>simp [p] at j
 |some U=>rw [p] at j;rw [h _ _ p];exact j
 rename_i r c off len o
 try simp only [o]
 cases p:lk c m with
 |none=>simp [p] at j
 |some U=>rw [p] at j;rw [h _ _ p];exact j
 cases j
theorem lD (h:MM m m'): ∀(t:Ty) (cs:List bI) {p:List Nat×List bI},dU m t cs=some p->dU m' t cs=some p
 | .cl _ _,_,_,j=>j
 | .int _,_,_,j=>j
 | .dP _,_,_,j=>j
 | .bool,_,_,j=>j
 | .str,_,_,j=>j
 | .sl t,cs,p,j=>by
  simp only [dU] at j⊢;split at j;split at j;rename_i o;rw [h _ _ o];exact j;cases j;exact j;cases j
 | .own t,cs,p,j=>by
  simp only [dU] at j⊢;split at j;split at j;rename_i o;rw [h _ _ o];exact j;cases j;exact j;cases j
 | .bx t,cs,p,j=>by
  simp only [dU] at j⊢;split at j;split at j;rename_i o;rw [h _ _ o];exact j;cases j;cases j
 | .st t,cs,p,j=>lD h t cs j
 | .pair a b,cs,p,j=>by
  simp only [dU] at j⊢;split at j;rename_i x r I;rw [lD h a cs I];simp only;split at j;rename_i y R J;rw [lD h b r J];exact j;cases j;cases j
theorem ei (h:MM m m'): ∀(ms:List Mode) (vs:List bK) {ks:List Nat},dW m ms vs=some ks->dW m' ms vs=some ks
 |[],[],_,j=>j
 |[],_::_,_,j=>j
 | .own t::ms,v::vs,ks,j=>by
  simp only [dW] at j⊢;split at j;rename_i r I o p;rw [lD h t _ o,ei h ms vs p];exact j;cases j
 | .mv t::ms,v::vs,ks,j=>by
  simp only [dW] at j⊢;split at j;rename_i r I o p;rw [lD h t _ o,ei h ms vs p];exact j;cases j
 | .bZ _::ms,_::vs,ks,j=>ei h ms vs (ks:=ks) j
 | .fZ _::ms,_::vs,ks,j=>ei h ms vs (ks:=ks) j
 | .fn::ms,_::vs,ks,j=>ei h ms vs (ks:=ks) j
 | .ji _::ms,_::vs,ks,j=>ei h ms vs (ks:=ks) j
 | .nl::ms,_::vs,ks,j=>ei h ms vs (ks:=ks) j
 | .own _::_,[],_,j=>j
 | .mv _::_,[],_,j=>j
 | .nl::_,[],_,j=>j
 | .bZ _::_,[],_,j=>j
 | .fZ _::_,[],_,j=>j
 | .fn::_,[],_,j=>j
 | .ji _::_,[],_,j=>j
theorem tG (h:MM m m'){md:Mode}{v:bK}{a:Arg}(j:iP m md v=some a):iP m' md v=some a:=by
 unfold iP at j⊢;split at j;rename_i v1 t
 try simp only
 cases o:kf m t v with
 |none=>simp [o] at j
 |some x=>rw [o] at j;rw [oJ h o];exact j
 rename_i v1 t
 try simp only
 cases o:kf m t v with
 |none=>simp [o] at j
 |some x=>rw [o] at j;rw [oJ h o];exact j
 rename_i v1 t
 try simp only
 cases o:kf m t v with
 |none=>simp [o] at j
 |some x=>rw [o] at j;rw [oJ h o];exact j
 rename_i t r x off
 try simp only
 cases o:impl m t (((gT r x).drop off).take t.size) with
 |none=>simp [o] at j
 |some p=>rw [o] at j;rw [mG h t o];exact j
 exact j;exact j;exact j;cases j
theorem qh {m2 o:Mem}(h:MM m m')(J:MM m2 o){md:Mode}{v:bK}{a:Arg}(j:pj m m2 md v=some a):pj m' o md v=some a:=by
 unfold pj at j⊢;split at j;rename_i t c off
 try simp only
 cases r:lk c m with
 |none=>simp [r] at j
 |some R=>
  rw [r] at j;rw [h _ _ r];cases R with
  |box cs=>
   simp only at j⊢;cases I:impl m2 t ((cs.drop off).take t.size) with
   |none=>simp [I] at j
   |some p=>rw [I] at j;rw [mG J t I];exact j
  |seq T U=>cases j
  |pg T U i cs ks=>cases j
  |mp=>cases j
  |gh=>cases j
  |pT=>cases j
  |gone=>cases j
 exact tG J j
theorem vX {mp r m2 I:Mem}(h:MM m m')(hp:MM mp r)(J:MM m2 I): ∀{ms:List Mode} {vs:List bK} {asx:List Arg},dD m mp m2 ms vs=some asx->dD m' r I ms vs=some asx:=by
 intro ms;induction ms with
 |nil=>intro vs asx j;cases vs<;>exact j
 |cons md ms ih=>
  intro vs asx j;cases vs with
  |nil=>cases md<;>exact j
  |cons v vs=>
   cases md with
   |own t=>
    simp only [dD] at j⊢;cases o:iP m (.own t) v with
    |none=>simp [o] at j
    |some a=>
     cases p:dD m mp m2 ms vs with
     |none=>simp [o,p] at j
     |some l=>rw [o,p] at j;rw [tG h o,ih p];exact j
   |mv t=>
    simp only [dD] at j⊢;cases o:iP m (.mv t) v with
    |none=>simp [o] at j
    |some a=>
     cases p:dD m mp m2 ms vs with
     |none=>simp [o,p] at j
     |some l=>rw [o,p] at j;rw [tG h o,ih p];exact j
   |nl=>
    simp only [dD] at j⊢;cases o:pj mp m2 .nl v with
    |none=>simp [o] at j
    |some a=>
     cases p:dD m mp m2 ms vs with
     |none=>simp [o,p] at j
     |some l=>rw [o,p] at j;rw [qh hp J o,ih p];exact j
   |bZ t=>
    simp only [dD] at j⊢;cases o:pj mp m2 (.bZ t) v with
    |none=>simp [o] at j
    |some a=>
     cases p:dD m mp m2 ms vs with
     |none=>simp [o,p] at j
     |some l=>rw [o,p] at j;rw [qh hp J o,ih p];exact j
   |fZ t=>
    simp only [dD] at j⊢;cases o:pj mp m2 (.fZ t) v with
    |none=>simp [o] at j
    |some a=>
     cases p:dD m mp m2 ms vs with
     |none=>simp [o,p] at j
     |some l=>rw [o,p] at j;rw [qh hp J o,ih p];exact j
   |fn=>
    simp only [dD] at j⊢;cases o:pj mp m2 .fn v with
    |none=>simp [o] at j
    |some a=>
     cases p:dD m mp m2 ms vs with
     |none=>simp [o,p] at j
     |some l=>rw [o,p] at j;rw [qh hp J o,ih p];exact j
   |ji t=>
    simp only [dD] at j⊢;cases o:pj mp m2 (.ji t) v with
    |none=>simp [o] at j
    |some a=>
     cases p:dD m mp m2 ms vs with
     |none=>simp [o,p] at j
     |some l=>rw [o,p] at j;rw [qh hp J o,ih p];exact j
theorem MM.app {l:Mem}(h:MM m m'):MM (l++m) (l++m'):=λk p j=>by
 rw [cF] at j⊢;cases o:lk k l with
 |none=>rw [o] at j;exact h k p (by simpa using j)
 |some c=>rw [o] at j;simpa using j
theorem tH (h:MM m m'){nx:Nat}{ms:List Mode}{rs:List RV}{outs:List TD}{f:FuncId}{vs:List bK}{e:cO}(j:vP P m nx ms rs outs f vs=some e):vP P m' nx ms rs outs f vs=some e:=by
 unfold vP at j⊢;split at j;rename_i I up R T;rw [ei h ms vs R,T]
 try simp only
 split at j;rename_i r o
 try simp only [o]
 exact j;rename_i o
 try simp only [o]
 cases J:j7 I with
 |false=>rw [J] at j;cases j
 |true=>
  rw [J] at j;simp only [cond_true] at j⊢;cases t:(rs.all RV.tW&&fA ms) with
  |true=>
   rw [t] at j;simp only [cond_true] at j⊢;cases p:dD m m ((I.map λk=>(k,Chunk.gone))++m) ms vs with
   |none=>simp [p] at j
   |some r=>rw [p] at j;rw [vX h h (MM.app h) p];exact j
  |false=>
   rw [t] at j;simp only [cond_false] at j⊢;cases p:dD m [] [] ms vs with
   |none=>simp [p] at j
   |some r=>rw [p] at j;rw [vX h (λ_ _ h=>h) (λ_ _ h=>h) p];exact j
 cases j
theorem zz (h:MM m m'){nx:Nat}{T T':Ι}{s x:bK}{e:cO}(j:qd P m nx T T' s x=some e):qd P m' nx T T' s x=some e:=by
 unfold qd at j⊢;split at j;rename_i J y R t
 try simp only
 split at j;rename_i i I
 try simp only [I]
 cases p:((dK P T&&Β i.size 1)&&(ϩ i.bytes 32768&&i.zero.isSome)&&(i.zero.map λz=>Β z.cells.size 1).getD false) with
 |false=>rw [p] at j;cases j
 |true=>
  rw [p] at j;simp only [cond_true] at j⊢;cases o:oh m (.int .u8) s with
  |none=>simp [o] at j
  |some r=>
   rw [o] at j;rw [uz h o];exact j
 cases j;cases j
theorem xV (h:MM m m'){nx:Nat}{T U:Ι}{x:bK}{e:cO}(j:oI P m nx T U x=some e):oI P m' nx T U x=some e:=by
 unfold oI at j⊢;split at j;exact j;exact j;exact j;rename_i c _ _
 try simp only
 cases o:(Β T U&&dK P T) with
 |false=>rw [o] at j;cases j
 |true=>
  rw [o] at j;simp only [cond_true] at j⊢;cases p:lk c m with
  |none=>simp [p] at j
  |some t=>rw [p] at j;rw [h _ _ p];exact j
 rename_i x _ _ _ _ _ _
 try simp only
 cases o:(dK P T&&nX m x) with
 |false=>rw [o] at j;cases j
 |true=>
  rw [o] at j;simp only [κ] at o;rw [o.1,tF h o.2];simp only [cond_true,Bool.and_self] at j⊢;split at j;rename_i l r;rw [oJ h r];exact j;cases j
 exact j
theorem xW (h:MM m m'){nx:Nat}{v:bK}{r:Mem×Mem×Prop}(j:xK m nx v=some r):xK m' nx v=some r:=by
 unfold xK at j⊢;split at j;rename_i c i p off
 try simp only
 cases o:lk c m with
 |none=>simp [o] at j
 |some t=>rw [o] at j;rw [h _ _ o];exact j
 cases j
theorem C4 (h:MM m m'){nx:Nat}{o:Hint}{T:Ι}{v:bK}{e:cO}(j:rH P m nx o T v=some e):rH P m' nx o T v=some e:=by
 unfold rH at j⊢;cases r:o.vT with
 |false=>rw [r] at j;exact xU h j
 |true=>
  rw [r] at j;simp only [cond_true,AT] at j⊢;split at j;rename_i u n p hp;rw [xW h hp];simp only;split at j;rename_i I t;rw [xU (MM.app h) t];exact j;cases j;cases j
theorem A5 (h:MM m m'){nx:Nat}{o:Hint}{T:Ι}{v x:bK}{e:cO}(j:sC P m nx o T v x=some e):sC P m' nx o T v x=some e:=by
 unfold sC at j⊢;cases r:o.vT with
 |false=>rw [r] at j;exact vW h j
 |true=>
  rw [r] at j;simp only [cond_true,wS] at j⊢;split at j;rename_i u n p hp;rw [xW h hp];simp only;split at j;rename_i I t;rw [vW (MM.app h) t];exact j;cases j;cases j
theorem EE (h:MM m m'){T:Ι}{x y:bK}{e:cO}(j:Ab P m T x y=some e):Ab P m' T x y=some e:=by
 unfold Ab at j⊢;have U: ∀r,Aa m x=some r->Aa m' x=some r:=λr o=>by
  unfold Aa at o⊢;split at o;rename_i c
  try simp only
  cases I:lk c m with
  |none=>simp [I] at o
  |some ch=>rw [I] at o;rw [h _ _ I];exact o
  exact o;cases o
 split at j;rename_i R c off len hu hc;rw [U _ hc,hu]
 try simp only
 split at j;rename_i t xs hl;rw [h _ _ hl];simp only;cases p:((dm P R==some t.size&&t.top)&&nX m y) with
 |false=>rw [p] at j;cases j
 |true=>
  rw [p] at j;simp only [κ] at p;rw [show ((dm P R==some t.size&&t.top)&&nX m' y)=true from by simp only [κ];exact ⟨p.1,tF h p.2⟩];simp only [cond_true] at j⊢;split at j;rename_i ys J;rw [oJ h J];exact j;cases j
 cases j;cases j
theorem zA (h:MM m m'){fr:Fr}{nx:Nat}{I:Hint}{b:Builtin}{args:List aah}{ts:List Ι}{e:cO}(j:qg P fr m nx I b args ts=some e):qg P fr m' nx I b args ts=some e:=by
 unfold qg at j⊢;split at j;rename_i x T
 try simp only
 split at j;rename_i v R;(try simp only [R]);exact EC h j;cases j;rename_i s x T U
 try simp only
 split at j;rename_i t J r p o;(try simp only [p,o]);exact zy h j;rename_i J r p o;(try simp only [p,o]);exact zz h j;rename_i t J r p o;(try simp only [p,o]);exact j;cases j;exact j;exact j;exact j;rename_i x y T U
 try simp only
 split at j;rename_i r yv o hy;(try simp only [o,hy]);exact EE h j;cases j;exact j;cases j
theorem Ja (h:MM m m'){fr:Fr}{nx:Nat}{hh:Hint}{o:Ϥ}{e:cO}(p:wT P fr m nx hh o=some e):wT P fr m' nx hh o=some e:=by
 unfold wT at p⊢;split at p
 case h_8 T x ho=>
  try simp only
  split at p;rename_i v I;(try simp only [I]);exact C4 h p;cases p
 case h_9 T x y ho=>
  try simp only
  split at p;rename_i xv yv hx hy;(try simp only [hx,hy]);exact A5 h p;cases p
 case h_13 T U x ho=>
  try simp only
  split at p;rename_i v I;(try simp only [I]);exact xV h p;cases p
 case h_7 T len parts ho=>
  try simp only
  split at p;rename_i t vs I;(try simp only [I]);exact A4 h p;rename_i t vs I;(try simp only [I]);exact p;rename_i vs I;(try simp only [I]);exact p;cases p
 case h_15 T x lo hi ho=>
  try simp only
  split at p;rename_i v l h' I hl hh;(try simp only [I,hl,hh]);exact C3 h p;cases p
 case h_18 T x i ho=>
  try simp only
  split at p;rename_i v j I hj;(try simp only [I,hj]);exact vu h p;cases p
 case h_22 c ho=>
  try simp only
  split at p;rename_i b hb;(try simp only [hb]);exact zA h p;rename_i f hf
  try simp only [hf]
  split at p;rename_i ms rs J k vs R r;(try simp only [R,r]);exact tH h p;rename_i ms rs J k t x vs R r;(try simp only [R,r]);exact tH h p;rename_i ms rs J k t x vs R r;(try simp only [R,r]);exact tH h p;rename_i k fk n R r;(try simp only [R,r]);exact p;cases p;cases p
 all_goals first
  |exact p
  |cases p
end
end Go.Ide
namespace Go.Ide
abbrev ER:=Option Tmp×cO
def mH (e:cO):Mem:=e.lq++e.new
def kM (o:Ϥ):Bool:=
 match o.op with
 | .move _=>true
 | .assign _=>true
 | .pick _ _ _=>true
 | .binOp _ _ _ _ _=>true
 | .unOp _ _ _=>true
 | .fieldAddr _ _ _=>true
 | .index _ _ _=>true
 | .extract _ _=>true
 | .nilCheck _=>true
 |_=>false
def iF (sel:Nat->Bool):Nat->List ER->Fr->Fr
 |_,[],fr=>fr
 |i,(d,e)::r,fr=>iF sel (i+1) r (bif sel i then (match d with|some t=>(t,e.val)::fr|none=>fr) else fr)
def dE (sel:Nat->Bool):Nat->List ER->Mem->Mem
 |_,[],m=>m
 |i,(_,e)::r,m=>dE sel (i+1) r (bif sel i then mH e++m else m)
def iQ (sel:Nat->Bool)(t:Tmp):Nat->List ER->Option bK
 |_,[]=>none
 |i,(d,e)::r=>(iQ sel t (i+1) r).or (if sel i=true/\d=some t then some e.val else none)
def fD (sel:Nat->Bool)(k:Nat):Nat->List ER->Option Chunk
 |_,[]=>none
 |i,(_,e)::r=>(fD sel k (i+1) r).or (if sel i=true then lk k (mH e) else none)
theorem lE {sel:Nat->Bool}{t:Tmp}: ∀{l:List ER} {n:Nat} {fr:Fr},lk t (iF sel n l fr)=(iQ sel t n l).or (lk t fr)
 |[],_,_=>by simp [iF,iQ]
 |(d,e)::r,n,fr=>by
  simp only [iF,iQ];rw [lE,ad8]
  congr 1
  cases o:sel n with
  |false=>simp
  |true=>
   simp only [cond_true,true_and];cases d with
   |none=>simp
   |some j=>
    rw [bO];by_cases h:t=j;subst h;simp;rw [if_neg h,if_neg (λe=>h (by injection e with e;exact e.symm))];rfl
theorem eW {sel:Nat->Bool}{k:Nat}: ∀{l:List ER} {n:Nat} {m:Mem},lk k (dE sel n l m)=(fD sel k n l).or (lk k m)
 |[],_,_=>by simp [dE,fD]
 |(d,e)::r,n,m=>by
  simp only [dE,fD];rw [eW,ad8]
  congr 1
  cases j:sel n with
  |false=>simp
  |true=>simp only [cond_true,if_true];rw [cF]
theorem kZ {sel sel':Nat->Bool}{t:Tmp}: ∀{l:List ER} {n:Nat},(∀(j:Nat) (d:Option Tmp) (e:cO),l[j]? =some (d,e)->d=some t->sel (n+j)=sel' (n+j))->iQ sel t n l=iQ sel' t n l
 |[],_,_=>rfl
 |(d,e)::r,n,h=>by
  simp only [iQ];have ih:iQ sel t (n+1) r=iQ sel' t (n+1) r:=kZ λj d e p o=>by
   have:=h (j+1) d e (by simpa using p) o;have I:n+(j+1)=n+1+j:=by omega
   rw [I] at this;exact this
  have J:(if sel n=true/\d=some t then some e.val else none)=if sel' n=true/\d=some t then some e.val else none:=by
   by_cases o:d=some t;have R:sel n=sel' n:=by simpa using h 0 d e rfl o
   rw [R];rw [if_neg (λx=>o x.2),if_neg (λx=>o x.2)]
  rw [ih,J]
theorem C5 {sel:Nat->Bool}{t:Tmp}{v:cO}: ∀{l:List ER} {n i:Nat},l[i]? =some (some t,v)->sel (n+i)=true->(∀(j:Nat) (d:Option Tmp) (e:cO),i<j->l[j]? =some (d,e)->d=some t->sel (n+j)=false)->iQ sel t n l=some v.val
 |[],n,i,h,_,_=>by simp at h
 |(d,e)::r,n,0,h,o,I=>by
  simp at h;obtain ⟨rfl,rfl⟩:=h;have T:iQ sel t (n+1) r=iQ (λ_=>false) t (n+1) r:=kZ λj d e J R=>by
   have:=I (j+1) d e (by omega) (by simpa using J) R;rwa [show n+(j+1)=n+1+j from by omega] at this
  have U: ∀(l:List ER) (n:Nat),iQ (λ_=>false) t n l=none:=by
   intro l;induction l with
   |nil=>intro _;rfl
   |cons p l ih=>intro n;obtain ⟨d,e⟩:=p;simp [iQ,ih]
  simp only [iQ];rw [T,U];have o:sel n=true:=by simpa using o
  simp [o]
 |(d,e)::r,n,i+1,h,o,I=>by
  simp only [iQ];have:=C5 (l:=r) (n:=n+1) (i:=i) (by simpa using h) (by rwa [show n+(i+1)=n+1+i from by omega] at o) (λj d e aa J R=>by
   have:=I (j+1) d e (by omega) (by simpa using J) R;rwa [show n+(j+1)=n+1+j from by omega] at this)
  rw [this];rfl
theorem jE {sel:Nat->Bool}{k:Nat}{ch:Chunk}: ∀{l:List ER} {n:Nat},fD sel k n l=some ch-> ∃(j:Nat) (d:Option Tmp) (e:cO),l[j]? =some (d,e)/\sel (n+j)=true/\lk k (mH e)=some ch
 |[],_,h=>by simp [fD] at h
 |(d,e)::r,n,h=>by
  simp only [fD] at h;cases o:fD sel k (n+1) r with
  |some c=>
   rw [o] at h;have h:c=ch:=by simpa using h
   subst h;obtain ⟨j,p,t,I,T,J⟩:=jE o;exact ⟨j+1,p,t,by simpa using I,by rwa [show n+(j+1)=n+1+j from by omega],J⟩
  |none=>
   rw [o] at h;simp only [abS] at h;split at h;rename_i R;exact ⟨0,d,e,rfl,by simpa using R,h⟩;cases h
theorem oS {sel:Nat->Bool}{k:Nat}: ∀{l:List ER} {n:Nat},fD sel k n l=none-> ∀(j:Nat) (d:Option Tmp) (e:cO),l[j]? =some (d,e)->sel (n+j)=true->lk k (mH e)=none
 |[],_,_,j,d,e,o,_=>by simp at o
 |(t,I)::r,n,h,j,d,e,o,p=>by
  simp only [fD,abl] at h;cases j with
  |zero=>
   simp at o;obtain ⟨rfl,rfl⟩:=o;have p:sel n=true:=by simpa using p
   have:=h.2;rwa [if_pos p] at this
  |succ j=>exact oS h.1 j d e (by simpa using o) (by rwa [show n+(j+1)=n+1+j from by omega] at p)
def dt (j:Nat):List Nat->Bool
 |[]=>false
 |a::l=>Β j a||dt j l
theorem eN {j:Nat}: ∀{l:List Nat},dt j l=true↔j∈l
 |[]=>by simp [dt]
 |a::l=>by
  simp only [dt,abm,eN,ϖ];constructor;rintro (h|h);exact .inl (cg h);exact .inr h;rintro (h|h);subst h;exact .inl (ad1 _);exact .inr h
def nL (all:List Ϥ)(o:Ϥ):List Tmp:=
 (o.op.operands.toList.filterMap fun| .tmp t=>some t|_=>none)++(match o.guard with
  |some (j,_)=>(uy all j).toList
  |none=>[])
def fO (o:Ϥ):List Nat:=(o.after.toList.filter λe=>Region.binds .any e).map (·.on)
def qi (all:List Ϥ)(x y:Ϥ):Bool:=
 (match x.dst with
 |some t=>dt t (nL all y)||(match y.dst with|some u=>Β t u|none=>false)
 |none=>false)||
 (match y.dst with
 |some t=>dt t (nL all x)
 |none=>false)
def nM (all:List Ϥ)(Ds:List (List Nat))(h:Nat):Nat->List Ϥ->Bool
 |_,[]=>true
 |i,o::os=>
  ((fO o).all λd=>aaf d i)&&
  (((Ds.getD i []).all λj=>dt j (fO o)||(fO o).any λd=>dt j (Ds.getD d [])))&&
  ((abD i).all λj=>dt j (Ds.getD i [])||(aaf i h&& !(qi all (all.getD j default) o)))&&
  nM all Ds h (i+1) os
theorem vY {all:List Ϥ}{Ds:List (List Nat)}{h:Nat}: ∀{os:List Ϥ} {n:Nat},nM all Ds h n os=true-> ∀(i:Nat) (o:Ϥ),os[i]? =some o->
 (∀d∈fO o,d<n+i)/\(∀j∈Ds.getD (n+i) [],j∈fO o\/ ∃d∈fO o,j∈Ds.getD d [])/\(∀j,j<n+i->j∈Ds.getD (n+i) []\/(n+i<h/\qi all (all.getD j default) o=false))
 |[],_,_,i,o,p=>by simp at p
 |o0::os,n,I,i,o,p=>by
  simp only [nM,κ] at I;obtain ⟨⟨⟨J,R⟩,T⟩,U⟩:=I;cases i with
  |succ i=>
   have:=vY U i o (by simpa using p);rwa [show n+1+i=n+(i+1) from by omega] at this
  |zero=>
   simp at p;subst p;refine ⟨λd r=> ?_,λj t=> ?_,λj t=> ?_⟩;have:=ϣ.1 J d r;exact ab2 (by simpa [aaf] using this);have:=ϣ.1 R j t;simp only [abm] at this;rcases this with h|h
   exact .inl (eN.1 h);obtain ⟨d,r,hm⟩:=List.any_eq_true.1 h;exact .inr ⟨d,r,eN.1 hm⟩;have:=ϣ.1 T j (by simpa using t);simp only [abm,κ,aag] at this;rcases this with h|⟨h,h'⟩
   exact .inl (eN.1 h);exact .inr ⟨ab2 (by simpa [aaf] using h),h'⟩
theorem tg {all:List Ϥ}{x y:Ϥ}(h:qi all x y=false):(∀t,x.dst=some t->t ∉ nL all y)/\(∀t,x.dst=some t->y.dst≠some t)/\(∀t,y.dst=some t->t ∉ nL all x):=by
 unfold qi at h;simp only [afp] at h;obtain ⟨j,o⟩:=h;refine ⟨λt ht p=> ?_,λt ht r=> ?_,λt ht p=> ?_⟩;simp only [ht,afp] at j;rw [eN.2 p] at j;cases j.1;simp [ht,r] at j;simp only [ht] at o;rw [eN.2 p] at o;cases o
structure HR where
 r:OH
 D:List Nat
def Jb (m:Mem)(l:Mem):Bool:=l.all λp=>(lk p.1 m).isSome
def N2 (m l:Mem):Bool:=l.all λp=>(lk p.1 m).isNone
theorem EF {m l:Mem}(h:N2 m l=true)(k:Nat)(j:lk k l≠none):lk k m=none:=by
 obtain ⟨c,o⟩:=aaP.1 j;have:=ϣ.1 h _ (mD o);simpa using this
def C6 (o:Ϥ)(h:Hint)(fr:Fr):Option Nat:=
 match o.op,h with
 | .load _ x,.no=>(match ev fr x with
  |some (.one (.ptr c _))=>some c
  |some (.one (.dn c _ _ _))=>some c
  |_=>none)
 | .indexAddr _ x _,.no=>(match ev fr x with
  |some (.one (.all c))=>some c
  |_=>none)
 | .slice _ x _ _ none,.no=>(match ev fr x with
  |some (.one (.bG (.sl _) _))=>some 1000000
  |_=>none)
 |_,_=>none
def LV (k:Option Nat)(u:Mem):Bool:=
 match k with
 |some c=>(lk c u).isNone
 |none=>false
def vw (all:List Ϥ)(o:Ϥ)(D:List Nat)(e:cO)(m:Mem)(done:List ER)(ks:List (Option Nat))(t:Option Nat):Nat->List ER->Bool
 |_,[]=>true
 |j,p::r=>(dt j D||((e.lq.isEmpty||(kM (all.getD j default)||N2 (dE (λ_=>true) 0 (done.take j) m) e.lq||LV (ks.getD j none) e.lq))&&(p.2.lq.isEmpty||(kM o||LV t p.2.lq))))&&vw all o D e m done ks t (j+1) r
def xX (P:Ο)(N:Nat)(all:List Ϥ)(st:St):List Ϥ->List HR->List ER->List (Option Nat)->Nat->Option (List ER×List Prop×Nat)
 |[],_,done,_,nx=>some (done,[],nx)
 |o::os,r::rs,done,t,nx=>
  (match qJ P all o r.r (iF (λj=>dt j r.D) 0 done st.fr) (dE (λj=>dt j r.D) 0 done st.mem) nx with
  |some (e,cs)=>bif ((Ln N o.dst&&vw all o r.D e st.mem done t (C6 o r.r.h (iF (λj=>dt j r.D) 0 done st.fr)) 0 done)&&Jb (dE (λj=>dt j r.D) 0 done st.mem) e.lq)&&mE (dE (λ_=>true) 0 done st.mem) e.new then
   (match xX P N all st os rs (done++[(o.dst,e)]) (t++[C6 o r.r.h (iF (λj=>dt j r.D) 0 done st.fr)]) (nx+e.new.length) with
   |some (l,p,n)=>some (l,cs++p,n)
   |none=>none) else none
  |none=>none)
 |_::_,[],_,_,_=>none
def xY (P:Ο)(N:Nat)(all:List Ϥ)(st:St)(os:List Ϥ)(rs:List HR)(done:List ER)(nx:Nat):Option (List ER×List Prop×Nat):=xX P N all st os rs done [] nx
structure EG (P:Ο)(N:Nat)(all:List Ϥ)(st:St)(ef:List ER)(K:Nat->Option Nat)(i:Nat)(o:Ϥ)(D:List Nat):Prop where
 got: ∃(r:OH) (nx:Nat) (e:cO) (cs:List Prop),ef[i]? =some (o.dst,e)/\qJ P all o r (iF (λj=>dt j D) 0 (ef.take i) st.fr) (dE (λj=>dt j D) 0 (ef.take i) st.mem) nx=some (e,cs)/\cp cs/\
  Ln N o.dst=true/\(∀k,lk k e.lq≠none->lk k (dE (λj=>dt j D) 0 (ef.take i) st.mem)≠none)/\fw (dE (λ_=>true) 0 (ef.take i) st.mem) e.new/\
  K i=C6 o r.h (iF (λj=>dt j D) 0 (ef.take i) st.fr)/\
  (∀j d e',j<i->ef[j]? =some (d,e')->j∈D\/((e.lq=[]\/kM (all.getD j default)=true\/(∀k,lk k e.lq≠none->lk k (dE (λ_=>true) 0 (ef.take j) st.mem)=none)\/ ∃c,K j=some c/\lk c e.lq=none)/\(e'.lq=[]\/kM o=true\/ ∃c,K i=some c/\lk c e'.lq=none)))
theorem Ag {k:Option Nat}{u:Mem}(h:LV k u=true): ∃c,k=some c/\lk c u=none:=by
 unfold LV at h;cases k with
 |none=>cases h
 |some c=>exact ⟨c,rfl,by simpa using h⟩
theorem vZ {all:List Ϥ}{o:Ϥ}{D:List Nat}{e:cO}{m:Mem}{done:List ER}{ks:List (Option Nat)}{J:Option Nat}: ∀{l:List ER} {n:Nat},vw all o D e m done ks J n l=true-> ∀j d t,l[j]? =some (d,t)->(n+j)∈D\/((e.lq=[]\/kM (all.getD (n+j) default)=true\/(∀k,lk k e.lq≠none->lk k (dE (λ_=>true) 0 (done.take (n+j)) m)=none)\/ ∃c,ks.getD (n+j) none=some c/\lk c e.lq=none)/\(t.lq=[]\/kM o=true\/ ∃c,J=some c/\lk c t.lq=none))
 |[],_,_,j,d,t,I=>by simp at I
 |p::r,n,h,0,d,t,I=>by
  simp only [List.getElem?_cons_zero,ahn] at I;subst I;simp only [vw,κ,abm,List.isEmpty_iff] at h;rcases h.1 with h|⟨h,R⟩
  exact .inl (eN.1 h);refine .inr ⟨?_,R.imp id λh=>h.imp id Ag⟩;rcases h with h|(h|h)|h
  exact .inl h;exact .inr (.inl h);exact .inr (.inr (.inl (EF h)));exact .inr (.inr (.inr (Ag h)))
 |p::r,n,h,j+1,d,t,I=>by
  simp only [vw,κ] at h;have:=vZ h.2 j d t (by simpa using I);rwa [show n+1+j=n+(j+1) from by omega] at this
theorem EH {m l:Mem}(h:Jb m l=true)(k:Nat)(j:lk k l≠none):lk k m≠none:=by
 obtain ⟨c,o⟩:=aaP.1 j;have:=ϣ.1 h _ (mD o);intro e;rw [e] at this;cases this
theorem wa {P:Ο}{N:Nat}{all:List Ϥ}{st:St}: ∀{os:List Ϥ} {rs:List HR} {done ef:List ER} {ks:List (Option Nat)} {cs:List Prop} {nx nx':Nat},ks.length=done.length->xX P N all st os rs done ks nx=some (ef,cs,nx')->cp cs->
 (∃l,ef=done++l/\l.length=os.length)/\ ∃K:Nat->Option Nat,(∀j,j<done.length->K j=ks.getD j none)/\ ∀(i:Nat) (o:Ϥ),os[i]? =some o->EG P N all st ef K (done.length+i) o ((rs.map HR.D).getD i [])
 |[],rs,done,ef,ks,cs,nx,nx',_,h,_=>by
  simp only [xX] at h;injection h with h;injection h with h1 h;subst h1;exact ⟨⟨[],by simp,rfl⟩,λj=>ks.getD j none,λ_ _=>rfl,λi o ho=>by simp at ho⟩
 |o::os,[],done,ef,ks,cs,nx,nx',_,h,_=>by cases h
 |o::os,r::rs,done,ef,ks,cs,nx,nx',I,h,hc=>by
  simp only [xX] at h;split at h
  ·rename_i e ON hi;cases hb:(((Ln N o.dst&&vw all o r.D e st.mem done ks (C6 o r.r.h (iF (λj=>dt j r.D) 0 done st.fr)) 0 done)&&Jb (dE (λj=>dt j r.D) 0 done st.mem) e.lq)&&mE (dE (λ_=>true) 0 done st.mem) e.new) with
   |false=>rw [hb] at h;cases h
   |true=>
    rw [hb] at h;simp only [cond_true] at h;simp only [κ] at hb;obtain ⟨⟨⟨hd,hp⟩,hu⟩,hf⟩:=hb;split at h
    ·rename_i l Cc n hr;injection h with h;injection h with h1 h;injection h with h2 h3;subst h1;subst h2;obtain ⟨Pd,vt⟩:=hc.append;obtain ⟨⟨l',J,e2⟩,K,hK,p⟩:=wa (by simp [I]) hr vt;have R: ∀j,j<done.length->K j=ks.getD j none:=λj hj=>by
      rw [hK j (by simp;omega),ψ,Ν (by omega),<-ψ]
     have T:K done.length=C6 o r.r.h (iF (λj=>dt j r.D) 0 done st.fr):=by
      rw [hK done.length (by simp),ψ,Κ (by omega),I,Nat.sub_self];rfl
     refine ⟨⟨(o.dst,e)::l',by rw [J];simp,by simp [e2]⟩,K,R,λi o' t=> ?_⟩;cases i with
     |zero=>
      simp at t;subst t;have ht:l.take done.length=done:=by rw [J];simp
      refine ⟨⟨r.r,nx,e,ON,?_,?_,Pd,hd,?_,?_,?_,?_⟩⟩;rw [J];simp;simp only [Ϭ,ht,aaa];exact hi;simp only [Ϭ,ht,aaa];exact EH hu;simp only [Ϭ,ht];exact gb hf;simp only [Ϭ,ht,aaa];exact T
      ·intro j d e' hj U;have aa:j<done.length:=by simpa using hj
       have ab:done[j]? =some (d,e'):=by
        rw [J,ό,Ν aa] at U;exact U
       have:=vZ hp j d e' ab;rw [Ψ] at this;have e5:l.take j=done.take j:=by rw [J,ό,List.take_append_of_le_length (by omega)]
       rw [e5,R j aa,Ϭ,T];exact this
     |succ i=>
      have:=p i o' (by simpa using t);have ad:(done++[(o.dst,e)]).length+i=done.length+(i+1):=by simp;omega
      rw [ad] at this;simpa using this
    cases h
  cases h
theorem EI {P:Ο}{N:Nat}{all:List Ϥ}{st:St}{os:List Ϥ}{rs:List HR}{ef:List ER}{cs:List Prop}{nx nx':Nat}(h:xY P N all st os rs [] nx=some (ef,cs,nx'))(j:cp cs):
 (∃l,ef=[]++l/\l.length=os.length)/\ ∃K:Nat->Option Nat,∀(i:Nat) (o:Ϥ),os[i]? =some o->EG P N all st ef K (([]:List ER).length+i) o ((rs.map HR.D).getD i []):=by
 obtain ⟨p,K,_,r⟩:=wa (done:=[]) (ks:=[]) rfl h j;exact ⟨p,K,r⟩
theorem tJ {sel:Nat->Bool}{t:Tmp}: ∀{l:List ER} {n i:Nat},(∀j,i<=j->sel (n+j)=false)->iQ sel t n (l.take i)=iQ sel t n l
 |[],_,_,_=>by simp
 |(d,e)::r,n,0,h=>by
  have:iQ sel t n ((d,e)::r)=iQ (λ_=>false) t n ((d,e)::r):=kZ λj _ _ _ _=>h j (Nat.zero_le _);rw [this];have o: ∀(l:List ER) (n:Nat),iQ (λ_=>false) t n l=none:=by
   intro l;induction l with
   |nil=>intro _;rfl
   |cons p l ih=>intro n;obtain ⟨d,e⟩:=p;simp [iQ,ih]
  rw [o];rfl
 |(d,e)::r,n,i+1,h=>by
  simp only [List.take_succ_cons,iQ];rw [tJ (λj I=>by have:=h (j+1) (by omega);rwa [show n+(j+1)=n+1+j from by omega] at this)]
theorem nN {l:List ER}{i j:Nat}{p:ER}(h:(l.take i)[j]? =some p):j<i/\l[j]? =some p:=by
 rw [ϒ] at h;split at h;rename_i o;exact ⟨o,h⟩;cases h
theorem Jc {fr j:Fr}{x:aah}(h: ∀t,x= .tmp t->lk t j=lk t fr):ev j x=ev fr x:=by
 cases x with
 |tmp t=>exact h t rfl
 |_=>rfl
theorem vx {fr j:Fr}: ∀{xs:List aah},(∀x∈xs,ev j x=ev fr x)->IZ j xs=IZ fr xs
 |[],_=>rfl
 |x::xs,h=>by simp only [IZ];rw [h x (by simp),vx λy o=>h y (by simp [o])]
theorem vy {fr j:Fr}: ∀{xs:List (Nat×aah)},(∀x∈xs.map (·.2),ev j x=ev fr x)->zc j xs=zc fr xs
 |[],_=>rfl
 |(i,x)::xs,h=>by simp only [zc];rw [h x (by simp),vy λy o=>h y (by simp only [aaa,ϖ];exact .inr o)]
theorem sG {fr j:Fr}{x:Option aah}(h: ∀y,x=some y->ev j y=ev fr y):Lm j x=Lm fr x:=by
 cases x with
 |none=>rfl
 |some y=>simp only [Lm];rw [h y rfl]
theorem HB {P:Ο}{fr J:Fr}{m:Mem}{nx:Nat}{h:Hint}{o:Ϥ}(p: ∀x∈o.op.operands.toList,ev J x=ev fr x):wT P J m nx h o=wT P fr m nx h o:=by
 unfold wT;cases ho:o.op<;>rw [ho] at p<;>simp only [Op.operands] at p<;>try simp only
 case move x=>rw [p x (by simp)]
 case assign x=>rw [p x (by simp)]
 case pick c x y=>
  have e1:=p c (by simp);have e2:=p x (by simp);have e3:=p y (by simp);have e4: ∀b:Bool,ev J (bif b then x else y)=ev fr (bif b then x else y):=λb=>by cases b<;>assumption
  simp only [e1,e4]
 case box T x=>rw [p x (by simp)]
 case build T ps=>rw [vy λx R=>p x (by simpa using R)]
 case buildSlice T n ps=>rw [vy λx R=>p x (by simpa using R)]
 case load T x=>rw [p x (by simp)]
 case store T x y=>rw [p x (by simp),p y (by simp)]
 case nilCheck x=>rw [p x (by simp)]
 case binOp op T x y T'=>rw [p x (by simp),p y (by simp)]
 case unOp op T x=>rw [p x (by simp)]
 case convert T U x=>rw [p x (by simp)]
 case makeSlice T l c=>rw [p l (by simp),p c (by simp)]
 case slice T x lo hi mx=>
  cases mx with
  |some q=>
   try simp only
   rw [p x (by simp),p q (by simp),sG λy hy=>p y (by subst hy;simp),sG (x:=hi) λy hy=>p y (by subst hy;simp)]
  |none=>
   try simp only
   rw [p x (by simp),sG λy hy=>p y (by subst hy;simp),sG (x:=hi) λy hy=>p y (by subst hy;simp)]
 case fieldAddr T x f=>rw [p x (by simp)]
 case indexAddr T x i=>rw [p x (by simp),p i (by simp)]
 case index T x i=>rw [p x (by simp),p i (by simp)]
 case extract x i=>rw [p x (by simp)]
 case makeFunc fn first t=>
  have sY: ∀x∈t.toList,ev J x=ev fr x:=λx R=>p x (by simp only [Array.toList_append,Λ];exact .inr R);cases fn with
  |func f=>
   try simp only
   rw [vx sY]
  |_=>rfl
 case call c=>
  cases hc:c.callee with
  |builtin b=>
   simp only;have I: ∀x∈c.args.toList,ev J x=ev fr x:=λx R=>p x (by simp [aeJ,hc];simpa using R);unfold qg;split;rename_i x T j _;rw [I x (by rw [j];simp)];rename_i s x T T' j _;rw [I s (by rw [j];simp),I x (by rw [j];simp)];rename_i _ x y j;rw [I x (by rw [j];simp),I y (by rw [j];simp)];rename_i _ x y z j;rw [I x (by rw [j];simp),I y (by rw [j];simp),I z (by rw [j];simp)];rename_i _ x y j;rw [I x (by rw [j];simp),I y (by rw [j];simp)];rename_i x y T T' j _;rw [I x (by rw [j];simp),I y (by rw [j];simp)];rename_i x T j _;rw [I x (by rw [j];simp)];rfl
  |value f=>
   simp only;rw [p f (by simp [aeJ,hc]),vx λx R=>p x (by simp [aeJ,hc];exact .inr (by simpa using R))]
  |invoke r n=>rfl
theorem Gl {P:Ο}{fr:Fr}{m m':Mem}{nx c:Nat}{h:Hint}{o:Ϥ}{e:cO}(r:C6 o h fr=some c)(hm: ∀ch,lk c m=some ch->lk c m'=some ch)(p:wT P fr m nx h o=some e):wT P fr m' nx h o=some e/\e.new=[]/\e.lq=[]:=by
 have pur: ∀{v:bK} {e:cO},cM v=some e->e.new=[]/\e.lq=[]:=by
  intro v e h;injection h with h;subst h;exact ⟨rfl,rfl⟩
 have J: ∀{v:bK} {c:List Prop} {e:cO},fQ v c=some e->e.new=[]/\e.lq=[]:=by
  intro v c e h;injection h with h;subst h;exact ⟨rfl,rfl⟩
 unfold C6 at r;unfold wT at p⊢;cases ho:o.op<;>rw [ho] at r p<;>(try simp only at p⊢)<;>try (simp only at r;cases r;done)
 case load T x=>
  cases h<;>simp only at r<;>try (cases r;done)
  split at r;rename_i c' off U;injection r with r;subst r;rw [U] at p⊢;simp only [rH,Hint.vT,cond_false] at p⊢;unfold pU at p⊢;split at p;rename_i heq _ _;cases heq;rename_i heq _ _;cases heq;rename_i c0 n ag R Wm heq hs ha;injection heq with heq;subst heq
  (try simp only [hs,ha])
  simp only [og] at p⊢;cases I:lk c' m with
  |none=>rw [I] at p;simp at p
  |some ch=>
   rw [I] at p;rw [hm ch I];refine ⟨p,?_⟩;split at p;split at p;exact pur p;cases p;cases p
  cases p;rename_i c' i sz off U;injection r with r;subst r;rw [U] at p⊢;simp only [rH,Hint.vT,cond_false] at p⊢;unfold pU at p⊢;split at p;rename_i c0 i0 sz0 aap n ag heq hs ha;injection heq with heq;injection heq with q1 q2 q3 q4;subst q1;subst q2;subst q3;subst q4
  (try simp only [hs,ha])
  cases I:lk c' m with
  |none=>rw [I] at p;simp at p
  |some ch=>
   rw [I] at p;rw [hm ch I];refine ⟨p,?_⟩;cases ch with
   |seq t xs=>
    simp only at p;revert p;generalize (_&&_:Bool)=q;intro p;cases q;cases p;simp only [cond_true] at p;split at p;exact J p;cases p
   |pg t xs j cs ks=>
    simp only at p;revert p;generalize (_&&_:Bool)=q;intro p;cases q;cases p;simp only [cond_true] at p;split at p;exact J p;cases p
   |box cs=>cases p
   |mp=>cases p
   |gh=>cases p
   |pT=>cases p
   |gone=>cases p
  rename_i heq _ _;cases heq;rename_i c0 n ag R Wm heq hs ha;injection heq with heq;exact absurd heq.symm (R _ _ _ _);cases p;cases r
 case slice T x lo hi q=>
  cases h<;>cases q<;>simp only at r<;>try (cases r;done)
  split at r
  ·rename_i t xs U;simp only at p⊢;rw [U] at p⊢;split at p
   ·rename_i v l h' heq hl hh;injection heq with heq;subst heq
    (try simp only [hl,hh])
    unfold tn at p⊢;cases hu:P.underlying T with
    |none=>rw [hu] at p;cases p
    |some u=>
     rw [hu] at p;cases u<;>simp only at p⊢ <;>try (cases p;done)
     refine ⟨p,?_⟩;split at p;revert p;generalize (_==some t.size:Bool)=b;intro p;cases b;cases p;exact J p;cases p
   cases p
  cases r
 case indexAddr T x i=>
  cases h<;>simp only at r<;>try (cases r;done)
  split at r;rename_i c' U;injection r with r;subst r;rw [U] at p⊢;cases hi:ev fr i with
  |none=>rw [hi] at p;cases p
  |some j=>
   rw [hi] at p;simp only at p⊢;have hA:tX P T (.one (.all c')) j=none:=by
    unfold tX;split<;>first|rfl|(rename_i I;cases I)
   unfold jA at p⊢;rw [hA] at p⊢;simp only at p⊢;unfold kJ at p⊢;split at p;rename_i el k n hu
   (try simp only [hu])
   split at p;rename_i heq _;cases heq;rename_i c0 kz heq hs;injection heq with heq;injection heq with heq;subst heq
   (try simp only [hs])
   cases I:lk c' m with
   |none=>rw [I] at p;simp at p
   |some ch=>
    rw [I] at p;rw [hm ch I];refine ⟨p,?_⟩;cases ch with
    |seq t xs=>
     simp only at p;revert p;generalize (Β _ _:Bool)=q;intro p;cases q;cases p;exact J p
    |pg t xs j cs ks=>
     simp only at p;revert p;generalize (Β _ _:Bool)=q;intro p;cases q;cases p;exact J p
    |box cs=>cases p
    |mp=>cases p
    |gh=>cases p
    |pT=>cases p
    |gone=>cases p
   rename_i heq _;cases heq;rename_i heq _;cases heq;cases p;cases p
  cases r
theorem C7 {P:Ο}{all:List Ϥ}{fr r:Fr}{m m':Mem}{nx:Nat}{o:Ϥ}{R:Hint}{x:cO×List Prop}(hf: ∀t∈nL all o,lk t r=lk t fr)(hm:MM m m')(h:tf P all o R fr m nx=some x):tf P all o R r m' nx=some x:=by
 have hk: ∀x∈o.op.operands.toList,ev r x=ev fr x:=λx J=>Jc λt ht=>hf t (by
  unfold nL;refine Λ.2 (.inl (List.mem_filterMap.2 ⟨x,J,?_⟩));rw [ht])
 have hi: ∀e,wT P fr m nx R o=some e->wT P r m' nx R o=some e:=λe he=>by
  rw [HB hk];exact Ja hm he
 unfold tf at h⊢;cases U:o.guard with
 |none=>
  rw [U] at h;simp only at h⊢;cases J:wT P fr m nx R o with
  |none=>simp [J] at h
  |some e=>rw [J] at h;rw [hi e J];exact h
 |some p=>
  obtain ⟨j,T⟩:=p;rw [U] at h;simp only at h⊢;have aa:(uy all j).bind (λt=>lk t r)=(uy all j).bind (λt=>lk t fr):=by
   cases hs:uy all j with
   |none=>rfl
   |some t=>
    simp only [η];exact hf t (by unfold nL;simp [U,hs])
  rw [aa];split at h;rename_i b hb;cases I:(b==T) with
  |false=>rw [I] at h;exact h
  |true=>
   rw [I] at h;simp only [cond_true] at h⊢;cases J:wT P fr m nx R o with
   |none=>simp [J] at h
   |some e=>rw [J] at h;rw [hi e J];exact h
  exact h;cases h
theorem tK {P:Ο}{all:List Ϥ}{fr j:Fr}{m m':Mem}{nx:Nat}{o:Ϥ}{r:OH}{x:cO×List Prop}(I: ∀t∈nL all o,lk t j=lk t fr)(J:MM m m')(h:qJ P all o r fr m nx=some x):qJ P all o r j m' nx=some x:=by
 unfold qJ at h⊢;cases p:tf P all o r.h fr m nx with
 |none=>rw [p] at h;cases h
 |some y=>rw [p] at h;rw [C7 I J p];exact h
theorem C8 {P:Ο}{all:List Ϥ}{fr aa:Fr}{m m':Mem}{nx c:Nat}{o:Ϥ}{r:OH}{e:cO}{cs:List Prop}(hk:C6 o r.h fr=some c)(hf: ∀t∈nL all o,lk t aa=lk t fr)(hm: ∀ch,lk c m=some ch->lk c m'=some ch)(h:qJ P all o r fr m nx=some (e,cs)):
 qJ P all o r aa m' nx=some (e,cs)/\e.new=[]/\e.lq=[]:=by
 have R:qJ P all o r fr m' nx=some (e,cs)/\e.new=[]/\e.lq=[]:=by
  obtain ⟨e0,ON,I,_,hn,hu,_⟩:=xQ h;have key:tf P all o r.h fr m' nx=some (e0,ON)/\e0.new=[]/\e0.lq=[]:=by
   clear h hn hu;unfold tf at I⊢;cases hg:o.guard with
   |none=>
    rw [hg] at I;simp only at I⊢;cases T:wT P fr m nx r.h o with
    |none=>simp [T] at I
    |some e'=>
     rw [T] at I;obtain ⟨k1,k2,k3⟩:=Gl hk hm T;rw [k1];injection I with I;injection I with R U;subst R;exact ⟨by simp only [U],k2,k3⟩
   |some p=>
    obtain ⟨j,ab⟩:=p;rw [hg] at I;simp only at I⊢;split at I;rename_i b hb;cases J:(b==ab) with
    |false=>
     rw [J] at I;simp only [cond_false] at I⊢;injection I with I;injection I with R U;subst R;exact ⟨by rw [U],rfl,rfl⟩
    |true=>
     rw [J] at I;simp only [cond_true] at I⊢;cases T:wT P fr m nx r.h o with
     |none=>simp [T] at I
     |some e'=>
      rw [T] at I;obtain ⟨k1,k2,k3⟩:=Gl hk hm T;rw [k1];injection I with I;injection I with R U;subst R;exact ⟨by simp only [U],k2,k3⟩
    injection I with I;injection I with R U;subst R;exact ⟨by rw [U],rfl,rfl⟩;cases I
  refine ⟨?_,by rw [hn];exact key.2.1,by rw [hu];exact key.2.2⟩;unfold qJ at h⊢;rw [I] at h;rw [key.1];exact h
 exact ⟨tK hf (λ_ _ h=>h) R.1,R.2⟩
end Go.Ide
namespace Go.Ide
section
variable {cx:Cx} {g:GM} {st:St} {a:Act} {w:Ε}
theorem cT.congr {o:Fr}{m':Mem}{nx':Nat}(h:cT cx g st a w)(R: ∀t v,lk t o=some v->lk t st.fr=some v)(J: ∀k,lk k m'=lk k st.mem):cT cx g ⟨o,m',nx'⟩ a w:=by
 have j:cT cx g (st.jc m' nx') a w:=h.ua (G:=[]) ⟨bU.refl _ _,λb r=>(by simp at r),λ_ _=>rfl,λk T I=> .inl ⟨(J k).trans I,λ_ b _ _ r=>by simp at r⟩,λk T I p=>by
  rw [J,I] at p;cases p⟩
 exact ⟨j.defers,j.size,λt v U=>j.fr t v (R t v U),j.mem,j.fY,j.iN,j.lt,j.bJ,j.own,j.gl⟩
theorem cT.drew (h:cT cx g st a w):cT cx g st a w.drew:=by
 have r:cT cx g (st.jc st.mem st.nx) a w.drew:=h.ua (G:=[]) ⟨bU.drew _ _,λb o=>(by simp at o),λ_ _=>rfl,λk t p=> .inl ⟨p,λ_ b _ _ o=>by simp at o⟩,λk t p j=>by
  rw [p] at j;cases j⟩
 exact r
theorem xZ {α:Type}: ∀{l:List (Nat×α)} {p:Nat×α},p∈l->lk p.1 l≠none
 |q::l,p,h=>by
  obtain ⟨k,x⟩:=q;rw [bO];split;simp;rename_i j;rcases ϖ.1 h with e|h
  subst e;exact absurd rfl j;exact xZ h
theorem rL {sel sel':Nat->Bool}{k:Nat}: ∀{l:List ER} {n:Nat},(∀(j:Nat) (d:Option Tmp) (e:cO),l[j]? =some (d,e)->lk k (mH e)≠none->sel (n+j)=sel' (n+j))->fD sel k n l=fD sel' k n l
 |[],_,_=>rfl
 |(d,e)::r,n,h=>by
  simp only [fD];have ih:fD sel k (n+1) r=fD sel' k (n+1) r:=rL λj d e o p=>by
   have:=h (j+1) d e (by simpa using o) p;have t:n+(j+1)=n+1+j:=by omega
   rw [t] at this;exact this
  have I:(if sel n=true then lk k (mH e) else none)=if sel' n=true then lk k (mH e) else none:=by
   cases J:lk k (mH e) with
   |none=>simp
   |some c=>
    have R:sel n=sel' n:=by simpa using h 0 d e rfl (by rw [J];simp)
    rw [R]
  rw [ih,I]
structure mu (P:Ο)(N:Nat)(all:List Ϥ)(st:St)(h:Nat)(Ds:List (List Nat))(ef:List ER)(K:Nat->Option Nat):Prop where
 len:ef.length=h
 ok: ∀i,i<h-> ∃o,all[i]? =some o/\EG P N all st ef K i o (Ds.getD i [])
 A6: ∀i o,all[i]? =some o->(∀d∈fO o,d<i)/\(∀j∈Ds.getD i [],j∈fO o\/ ∃d∈fO o,j∈Ds.getD d [])/\(∀j,j<i->j∈Ds.getD i []\/(i<h/\qi all (all.getD j default) o=false))
variable {P:Ο} {N:Nat} {all:List Ϥ} {h:Nat} {Ds:List (List Nat)} {ef:List ER} {K:Nat->Option Nat}
theorem mu.lt (H:mu P N all st h Ds ef K): ∀(i j:Nat) (o:Ϥ),all[i]? =some o->j∈Ds.getD i []->j<i:=by
 intro i;induction i using aa7 with
 |_ i ih=>
  intro j o J r;obtain ⟨R,T,_⟩:=H.A6 i o J;rcases T j r with t|⟨d,t,r⟩
  exact R j t;have p:=R d t;have I:i<all.length:=(ω.1 J).1;exact ahQ (ih d p j all[d] (Γ (ahQ p I)) r) p
theorem mu.er (H:mu P N all st h Ds ef K){i:Nat}{d:Option Tmp}{e:cO}(t:ef[i]? =some (d,e)):i<h/\ ∃o,all[i]? =some o/\d=o.dst/\all.getD i default=o:=by
 have p:i<h:=by rw [<-H.len];exact (ω.1 t).1
 obtain ⟨o,I,⟨⟨r,nx,J,cs,j,_⟩⟩⟩:=H.ok i p;rw [t] at j;injection j with j;injection j with j R;refine ⟨p,o,I,j,?_⟩;rw [ψ,I];rfl
theorem Jd {k:Nat}{e:cO}(h:lk k (mH e)=none):lk k e.new=none:=by
 unfold mH at h;rw [cF,abl] at h;exact h.2
theorem mu.uniq (H:mu P N all st h Ds ef K){i j:Nat}{d T:Option Tmp}{e t:cO}{k:Nat}(U:ef[i]? =some (d,e))(I:ef[j]? =some (T,t))(hk:lk k e.new≠none)(p:lk k t.new≠none):i=j:=by
 have R: ∀{i j:Nat} {d T:Option Tmp} {e t:cO},ef[i]? =some (d,e)->ef[j]? =some (T,t)->lk k e.new≠none->lk k t.new≠none-> ¬i<j:=by
  intro i j d T e t U I hk p hlt;obtain ⟨_,o,ho,_⟩:=H.er I;obtain ⟨o',_,⟨⟨r,nx,e1,cs,J,_,_,_,_,hf,_⟩⟩⟩:=H.ok j (H.er I).1;rw [I] at J;injection J with J;injection J with _ J;subst J;obtain ⟨c,hc⟩:=aaP.1 p;have hz:=hf _ (mD hc);rw [eW,abl] at hz;exact hk (Jd (oS hz.1 i d e (by rw [ϒ,if_pos hlt];exact U) rfl))
 rcases Nat.lt_trichotomy i j with h|h|h
 exact absurd h (R U I hk p);exact h;exact absurd h (R I U p hk)
theorem mu.A7 (H:mu P N all st h Ds ef K){i:Nat}{d:Option Tmp}{e:cO}{k:Nat}(o:ef[i]? =some (d,e))(t:lk k e.new≠none):lk k st.mem=none:=by
 obtain ⟨R,_,⟨⟨r,nx,T,cs,j,_,_,_,_,I,_⟩⟩⟩:=H.ok i (H.er o).1;rw [o] at j;injection j with j;injection j with _ j;subst j;obtain ⟨c,J⟩:=aaP.1 t;have p:=I _ (mD J);rw [eW,abl] at p;exact p.2
theorem Ah {m:Mem}{nx:Nat}{I:Hint}{fr:Fr}{o:Ϥ}{e:cO}(t:kM o=true)(j:wT P fr m nx I o=some e):e.new=[]/\e.lq=[]:=by
 unfold wT at j;unfold kM at t;have p: ∀{v:bK} {e:cO},cM v=some e->e.new=[]/\e.lq=[]:=by
  intro v e h;injection h with h;subst h;exact ⟨rfl,rfl⟩
 have r: ∀{v:bK} {c:List Prop} {e:cO},fQ v c=some e->e.new=[]/\e.lq=[]:=by
  intro v c e h;injection h with h;subst h;exact ⟨rfl,rfl⟩
 cases J:o.op<;>rw [J] at t j<;>try (cases t;done)
 all_goals simp only at j
 case move=>split at j;exact p j;cases j
 case assign=>split at j;exact p j;cases j
 case pick=>
  split at j;split at j;exact p j;cases j;cases j
 case binOp=>
  split at j;unfold z6 at j;split at j;split at j;split at j;exact p j;unfold IP at j;split at j<;>first|exact p j|cases j
  cases j;unfold oG at j;split at j;rename_i T _ _ _ _ _ _ _ _ _;revert j;generalize (_||_:Bool)=q;intro j;cases q;simp only [cond_false] at j;split at j<;>first|exact p j|cases j
  cases j;cases j;unfold Hb at j;split at j;split at j;unfold D8 at j;split at j<;>first|exact r j|cases j
  split at j;unfold Lv at j;split at j<;>first|exact p j|exact r j|(split at j<;>first|exact p j|cases j)
  cases j;unfold OI at j;split at j<;>first|exact p j|exact r j|cases j
  split at j<;>first|exact p j|cases j
  cases j;cases j
 case unOp=>
  split at j;unfold LM at j;split at j;exact p j;unfold UG at j;split at j<;>first|exact p j|cases j
  cases j
 case fieldAddr=>
  split at j;unfold qy at j;split at j;split at j;split at j<;>first|exact p j|cases j
  cases j;cases j;cases j
 case index=>
  split at j;unfold AW at j;split at j<;>first|exact r j|cases j
  cases j
 case extract=>
  split at j;unfold tZ at j;split at j;split at j;split at j<;>first|exact p j|cases j
  cases j;cases j;cases j
 case nilCheck=>
  split at j;unfold Pe at j;split at j<;>first|exact p j|cases j
  cases j
theorem EJ {m:Mem}{nx:Nat}{r:OH}{fr:Fr}{o:Ϥ}{e:cO}{cs:List Prop}(I:kM o=true)(R:qJ P all o r fr m nx=some (e,cs)):e.new=[]/\e.lq=[]:=by
 obtain ⟨e0,T,j,_,U,hu,_⟩:=xQ R;rw [U,hu];unfold tf at j;split at j;split at j;rename_i e' t;injection j with j;injection j with p _;subst p
 exact Ah I t;cases j;split at j;rename_i b _;cases J:(b==_) with
 |true=>
  rw [J] at j;simp only [cond_true] at j;split at j;rename_i e' t;injection j with j;injection j with p _;subst p
  exact Ah I t;cases j
 |false=>
  rw [J] at j;injection j with j;injection j with p _;subst p
  exact ⟨rfl,rfl⟩
 injection j with j;injection j with p _;subst p
 exact ⟨rfl,rfl⟩;cases j
theorem HC {m m':Mem}{nx:Nat}{p:Hint}{fr:Fr}{o:Ϥ}(j:kM o=true):wT P fr m nx p o=wT P fr m' nx p o:=by
 unfold wT;unfold kM at j;cases r:o.op<;>rw [r] at j<;>first|rfl|(cases j;done)
theorem EK {fr j:Fr}{m m':Mem}{nx:Nat}{o:Ϥ}{r:OH}{x:cO×List Prop}(p:kM o=true)(I: ∀t∈nL all o,lk t j=lk t fr)(h:qJ P all o r fr m nx=some x):qJ P all o r j m' nx=some x:=by
 have e:qJ P all o r fr m nx=qJ P all o r fr m' nx:=by
  unfold qJ tf;rw [HC (P:=P) (m:=m) (m':=m') p]
 rw [e] at h;exact tK I (λ_ _ J=>J) h
theorem mu.blind (H:mu P N all st h Ds ef K){i:Nat}{d:Option Tmp}{e:cO}(I:ef[i]? =some (d,e))(J:kM (all.getD i default)=true):mH e=[]:=by
 obtain ⟨t,o,R,_,T⟩:=H.er I;obtain ⟨o',j,⟨⟨r,nx,e1,cs,p,U,_⟩⟩⟩:=H.ok i t;rw [I] at p;injection p with p;injection p with _ p;subst p;rw [R] at j;injection j with j;subst j;rw [T] at J;obtain ⟨h3,h4⟩:=EJ J U;unfold mH;rw [h3,h4];rfl
theorem kO {k:Nat}{e:cO}(j:lk k (mH e)≠none):lk k e.lq≠none\/lk k e.new≠none:=by
 unfold mH at j;rw [cF] at j;by_cases o:lk k e.lq=none;right;intro p;rw [o,p] at j;exact j rfl;exact .inl o
theorem mu.SZ (H:mu P N all st h Ds ef K){k:Nat}: ∀(j:Nat) (d:Option Tmp) (e:cO),ef[j]? =some (d,e)->lk k (mH e)≠none->lk k st.mem≠none\/ ∃p I t,p<=j/\ef[p]? =some (I,t)/\lk k t.new≠none:=by
 intro j;induction j using aa7 with
 |_ j ih=>
  intro d e J U;rcases kO U with hu|hn
  obtain ⟨o',_,⟨⟨r,nx,e1,cs,o,_,_,_,hp,_⟩⟩⟩:=H.ok j (H.er J).1;rw [J] at o;injection o with o;injection o with _ o;subst o;have:=hp k hu;rw [eW] at this;cases T:fD (λq=>dt q (Ds.getD j [])) k 0 (ef.take j) with
  |none=>rw [T,abS] at this;exact .inl this
  |some c=>
   obtain ⟨q,I,t,R,_,g3⟩:=jE T;obtain ⟨hq,R⟩:=nN R;rcases ih q hq I t R (by rw [g3];simp) with h0|⟨p,d3,e3,o,h2,h3⟩
   exact .inl h0;exact .inr ⟨p,d3,e3,by omega,h2,h3⟩
  exact .inr ⟨j,d,e,ς _,J,hn⟩
theorem mu.pair (H:mu P N all st h Ds ef K){i j:Nat}{d U:Option Tmp}{e t:cO}(I:ef[i]? =some (d,e))(hj:ef[j]? =some (U,t))(J:j<i)(hn:j ∉ Ds.getD i []):t.lq=[]\/mH e=[]:=by
 obtain ⟨o',R,⟨⟨r,nx,e1,cs,o,T,_,_,_,_,hK,hp⟩⟩⟩:=H.ok i (H.er I).1;rw [I] at o;injection o with o;injection o with _ o;subst o;have hg:all.getD i default=o':=by rw [ψ,R];rfl
 rcases hp j U t J hj with h|⟨o,p⟩
 exact absurd h hn;rcases p with p|p|⟨c,p,_⟩
 exact .inl p;exact .inr (H.blind I (by rw [hg];exact p));obtain ⟨_,k1,k2⟩:=C8 (hK.symm.trans p) (λ_ _=>rfl) (λ_ h=>h) T;right;unfold mH;rw [k1,k2];rfl
theorem Je {k:Nat}{e:cO}(h:mH e=[]):lk k (mH e)=none:=by rw [h];rfl
theorem yb {sel:Nat->Bool}{k:Nat}{ch:Chunk}{v:cO}: ∀{l:List ER} {n i:Nat} {d:Option Tmp},l[i]? =some (d,v)->sel (n+i)=true->lk k (mH v)=some ch->(∀(j:Nat) (d:Option Tmp) (e:cO),i<j->l[j]? =some (d,e)->lk k (mH e)≠none->sel (n+j)=false)->fD sel k n l=some ch
 |[],n,i,_,h,_,_,_=>by simp at h
 |(d,e)::r,n,0,I,h,o,p,t=>by
  simp at h;obtain ⟨rfl,rfl⟩:=h;have J:fD sel k (n+1) r=none:=by
   cases R:fD sel k (n+1) r with
   |none=>rfl
   |some c=>
    obtain ⟨j,T,U,g1,g2,g3⟩:=jE R;have:=t (j+1) T U (by omega) (by simpa using g1) (by rw [g3];simp);rw [show n+(j+1)=n+1+j from by omega,g2] at this;cases this
  simp only [fD];have o:sel n=true:=by simpa using o
  rw [J,if_pos o,p];rfl
 |(d,e)::r,n,i+1,I,h,o,p,t=>by
  simp only [fD];have:=yb (l:=r) (n:=n+1) (i:=i) (d:=I) (by simpa using h) (by rwa [show n+(i+1)=n+1+i from by omega] at o) p (λj d e hlt hj hd=>by
   have:=t (j+1) d e (by omega) (by simpa using hj) hd;rwa [show n+(j+1)=n+1+j from by omega] at this)
  rw [this];rfl
theorem yc {sel:Nat->Bool}{k:Nat}{ch:Chunk}: ∀{l:List ER} {n:Nat},fD sel k n l=some ch-> ∃(j:Nat) (d:Option Tmp) (e:cO),l[j]? =some (d,e)/\sel (n+j)=true/\lk k (mH e)=some ch/\ ∀(q:Nat) (d:Option Tmp) (e:cO),j<q->l[q]? =some (d,e)->lk k (mH e)≠none->sel (n+q)=false
 |[],_,h=>by simp [fD] at h
 |(d,e)::r,n,h=>by
  simp only [fD] at h;cases p:fD sel k (n+1) r with
  |some c=>
   rw [p] at h;have h:c=ch:=by simpa using h
   subst h;obtain ⟨j,R,T,U,h2,h3,h4⟩:=yc p;refine ⟨j+1,R,T,by simpa using U,by rwa [show n+(j+1)=n+1+j from by omega],h3,λq t I hq o J=> ?_⟩;cases q with
   |zero=>omega
   |succ q=>
    have:=h4 q t I (by omega) (by simpa using o) J;rwa [show n+(q+1)=n+1+q from by omega]
  |none=>
   rw [p] at h;simp only [abS] at h;split at h;rename_i hs;refine ⟨0,d,e,rfl,by simpa using hs,h,λq t I hq o J=> ?_⟩;cases q with
   |zero=>omega
   |succ q=>
    cases RP:sel (n+(q+1)) with
    |false=>rfl
    |true=>exact absurd (oS p q t I (by simpa using o) (by rwa [show n+1+q=n+(q+1) from by omega])) J
   cases h
def oT (st:St)(ef:List ER)(sel:Nat->Bool)(nx:Nat):St:=⟨iF sel 0 ef st.fr,dE sel 0 ef st.mem,nx⟩
theorem mu.step (H:mu P N all st h Ds ef K){sel:Nat->Bool}{i:Nat}{o:Ϥ}(hi:i<h)(ho:all[i]? =some o)(hn:sel i=false)(hd: ∀j∈Ds.getD i [],sel j=true)(hc: ∀j,j<h->sel j=true-> ∀k∈Ds.getD j [],sel k=true):
 ∃(r:OH) (nx:Nat) (e:cO) (cs:List Prop),qJ P all o r (iF sel 0 ef st.fr) (dE sel 0 ef st.mem) nx=some (e,cs)/\cp cs/\Ln N o.dst=true/\fw (dE sel 0 ef st.mem) e.new/\
  (∀t,lk t (iF (λj=>sel j||Β j i) 0 ef st.fr)=lk t (match o.dst with|some t'=>(t',e.val)::iF sel 0 ef st.fr|none=>iF sel 0 ef st.fr))/\
  (∀k,lk k (dE (λj=>sel j||Β j i) 0 ef st.mem)=lk k (e.lq++e.new++dE sel 0 ef st.mem)):=by
 obtain ⟨o',NT,⟨⟨r,nx,e,cs,h1,h2,h3,h4,h5,h6,hKi,h7⟩⟩⟩:=H.ok i hi;rw [ho] at NT;injection NT with NT;subst NT;have N3: ∀j,j≠i->Β j i=false:=λj R=>by
  cases hb:Β j i with
  |false=>rfl
  |true=>exact absurd (cg hb) R
 have wQ: ∀j,i<=j->dt (0+j) (Ds.getD i [])=false:=λj R=>by
  cases hb:dt (0+j) (Ds.getD i []) with
  |false=>rfl
  |true=>
   have:=H.lt i _ o ho (eN.1 hb);omega
 have N4: ∀j d J,ef[j]? =some (d,J)->j≠i->(sel j=dt j (Ds.getD i []))\/((∀t,d=some t->t ∉ nL all o)/\(∀t,d=some t->o.dst≠some t)):=by
  intro j d J R iH;obtain ⟨LX,oj,O1,LR,RO⟩:=H.er R;rcases aam j i with hlt|Y6
  rcases (H.A6 i o ho).2.2 j hlt with hm|⟨_,S0⟩
  left;rw [hd j hm,eN.2 hm];right;rw [RO] at S0;have:=tg S0;subst LR;exact ⟨this.1,this.2.1⟩;rcases (H.A6 j oj O1).2.2 i (by omega) with hm|⟨_,S0⟩
  left;have e1:=wQ j Y6;rw [Ψ] at e1;rw [e1];cases hs:sel j with
  |false=>rfl
  |true=>rw [hc j LX hs i hm] at hn;cases hn
  right;rw [show all.getD i default=o from by rw [ψ,ho];rfl] at S0;have:=tg S0;subst LR;exact ⟨this.2.2,λt ht he=>this.2.1 t he ht⟩
 have Jf: ∀t∈nL all o,lk t (iF sel 0 ef st.fr)=lk t (iF (λj=>dt j (Ds.getD i [])) 0 (ef.take i) st.fr):=by
  intro t ht;rw [lE,lE,tJ wQ]
  congr 1
  refine kZ λj d J R Pk=> ?_;rw [Ψ];by_cases U:j=i;subst U;have e1:=wQ j (ς _);rw [Ψ] at e1;rw [hn,e1];rcases N4 j d J R U with hp|⟨hp,_⟩
  exact hp;exact absurd ht (hp t Pk)
 have hgi:all.getD i default=o:=by rw [ψ,ho];rfl
 have Pm: ∀j d J,ef[j]? =some (d,J)->i<j->sel j=true->e.lq=[]\/mH J=[]:=by
  intro j d J R RD hs;have LX:=(H.er R).1;have Pn:i ∉ Ds.getD j []:=λI=>by rw [hc j LX hs i I] at hn;cases hn
  exact H.pair R h1 RD Pn
 have N5: ∀j,sel j=true-> ∀d J k,ef[j]? =some (d,J)->lk k J.lq≠none->lk k e.new≠none->False:=by
  intro j;induction j using aa7 with
  |_ j ihj=>
   intro hs d J k R hu T;obtain ⟨LX,_⟩:=H.er R;obtain ⟨oj',_,⟨⟨r2,nx2,e2,N6,p1,_,_,_,p5,_,_⟩⟩⟩:=H.ok j LX;rw [R] at p1;injection p1 with p1;injection p1 with _ p1;subst p1;have:=p5 k hu;rw [eW,H.A7 h1 T,aeh] at this;cases I:fD (λq=>dt q (Ds.getD j [])) k 0 (ef.take j) with
   |none=>exact this I
   |some c=>
    obtain ⟨q,d3,e3,g1,g2,g3⟩:=jE I;obtain ⟨hq,g1⟩:=nN g1;rw [Ψ] at g2;have RP:=hc j LX hs q (eN.1 g2);rcases kO (k:=k) (e:=e3) (by rw [g3];simp) with hy|hy
    exact ihj q hq RP d3 e3 k g1 hy T;have:=H.uniq g1 h1 hy T;subst this;rw [RP] at hn;cases hn
 have Po: ∀k,lk k (dE (λj=>dt j (Ds.getD i [])) 0 (ef.take i) st.mem)≠none->lk k (dE (λ_=>true) 0 (ef.take i) st.mem)≠none:=by
  intro k hk I;rw [eW,abl] at I;rw [eW,I.2,aeh] at hk;cases hy:fD (λj=>dt j (Ds.getD i [])) k 0 (ef.take i) with
  |none=>exact hk hy
  |some c=>
   obtain ⟨q,d3,e3,g1,_,g3⟩:=jE hy;have:=oS I.1 q d3 e3 g1 rfl;rw [g3] at this;cases this
 have core: ∀k ch,lk k (dE (λj=>dt j (Ds.getD i [])) 0 (ef.take i) st.mem)=some ch->(∀j d J,ef[j]? =some (d,J)->j≠i->sel j=true->dt j (Ds.getD i [])=false->lk k J.lq=none)->lk k (dE sel 0 ef st.mem)=some ch:=by
  intro k ch hk Jg;rw [eW] at hk⊢;cases I:fD (λj=>dt j (Ds.getD i [])) k 0 (ef.take i) with
  |some c=>
   rw [I] at hk;have hk:c=ch:=by simpa using hk
   subst hk;obtain ⟨j,d,J,g1,g2,g3,g4⟩:=yc I;obtain ⟨U,g1⟩:=nN g1;rw [Ψ] at g2;rw [yb (i:=j) (d:=d) (v:=J) g1 (by rw [Ψ];exact hd j (eN.1 g2)) g3 (λq d2 e2 hq NY sY=>by
    rw [Ψ];cases hs:sel q with
    |false=>rfl
    |true=>
     exfalso;have Eo:q≠i:=by rintro rfl;rw [hs] at hn;cases hn
     cases hm:dt q (Ds.getD i []) with
     |true=>
      have hlt:=H.lt i q o ho (eN.1 hm);have:=g4 q d2 e2 hq (by rw [ϒ,if_pos hlt];exact NY) sY;rw [Ψ,hm] at this;cases this
     |false=>
      have hu:=Jg q d2 e2 NY Eo hs hm;have T:lk k e2.new≠none:=by
       rcases kO sY with I|I
       exact absurd hu I;exact I
      rcases H.SZ j d J g1 (by rw [g3];simp) with h0|⟨j2,d3,e3,p1,p2,p3⟩
      exact h0 (H.A7 NY T);have:=H.uniq p2 NY p3 T;omega)]
   rfl
  |none=>
   rw [I,abS] at hk;cases hy:fD sel k 0 ef with
   |none=>rw [abS];exact hk
   |some c=>
    exfalso;obtain ⟨j,d,J,g1,g2,g3⟩:=jE hy;rw [Ψ] at g2;have U:j≠i:=by rintro rfl;rw [g2] at hn;cases hn
    cases hm:dt j (Ds.getD i []) with
    |true=>
     have hlt:=H.lt i j o ho (eN.1 hm);have:=oS I j d J (by rw [ϒ,if_pos hlt];exact g1) (by rw [Ψ];exact hm);rw [g3] at this;cases this
    |false=>
     have hu:=Jg j d J g1 U g2 hm;have T:lk k J.new≠none:=by
      rcases kO (k:=k) (e:=J) (by rw [g3];simp) with I|I
      exact absurd hu I;exact I
     rw [H.A7 g1 T] at hk;cases hk
 have Jh: ∀k,lk k (dE (λj=>dt j (Ds.getD i [])) 0 (ef.take i) st.mem)≠none->kM o=false->(K i=none\/K i=some k)-> ∀j d J,ef[j]? =some (d,J)->j≠i->sel j=true->dt j (Ds.getD i [])=false->lk k J.lq=none:=by
  intro k NN pt hKk j d J R iH hs hm;obtain ⟨LX,oj,O1,_,_⟩:=H.er R;have S1: ∀{u:Mem},(∃c,K i=some c/\lk c u=none)->lk k u=none:=λ {u} ⟨c,q1,q2⟩=>by
   rcases hKk with q|q
   rw [q] at q1;cases q1;rw [q] at q1;injection q1 with q1;rw [q1];exact q2
  rcases aam j i with hlt|aaw
  rcases h7 j d J hlt R with I|I
  rw [eN.2 I] at hm;cases hm;rcases I.2 with I|I|I
  rw [I];rfl;rw [pt] at I;cases I;exact S1 I;have Pn:i ∉ Ds.getD j []:=λI=>by rw [hc j LX hs i I] at hn;cases hn
  obtain ⟨oj',_,⟨⟨r2,nx2,e2,N6,p1,_,_,_,_,_,_,p7⟩⟩⟩:=H.ok j LX;rw [R] at p1;injection p1 with p1;injection p1 with _ p1;subst p1;rcases p7 i o.dst e (by omega) h1 with I|I
  exact absurd I Pn;rcases I.1 with I|I|I|I
  rw [I];rfl;rw [hgi,pt] at I;cases I;cases hy:lk k J.lq with
  |none=>rfl
  |some c=>exact absurd (I k (by rw [hy];simp)) (Po k NN)
  exact S1 I
 have VB:qJ P all o r (iF sel 0 ef st.fr) (dE sel 0 ef st.mem) nx=some (e,cs):=by
  cases pt:kM o with
  |false=>
   cases Wn:K i with
   |none=>exact tK Jf (λk ch hk=>core k ch hk (Jh k (by rw [hk];simp) pt (.inl Wn))) h2
   |some c=>exact (C8 (hKi.symm.trans Wn) Jf (λch hk=>core c ch hk (Jh c (by rw [hk];simp) pt (.inr Wn))) h2).1
  |true=>exact EK pt Jf h2
 refine ⟨r,nx,e,cs,VB,h3,h4,λp hp=> ?_,λt=> ?_,λk=> ?_⟩;have Wo:lk p.1 e.new≠none:=xZ hp;rw [eW,H.A7 h1 Wo,aeh];cases I:fD sel p.1 0 ef with
 |none=>rfl
 |some c=>
  exfalso;obtain ⟨j,d,J,g1,g2,g3⟩:=jE I;rw [Ψ] at g2;have U:j≠i:=by rintro rfl;rw [g2] at hn;cases hn
  rcases kO (k:=p.1) (e:=J) (by rw [g3];simp) with hu|T
  exact N5 j g2 d J p.1 g1 hu Wo;exact U (H.uniq g1 h1 T Wo)
 have rI:(∀t',o.dst=some t'->t≠t')->lk t (iF (λj=>sel j||Β j i) 0 ef st.fr)=lk t (iF sel 0 ef st.fr):=by
  intro iH;rw [lE,lE]
  congr 1
  refine kZ λj d J R Pk=> ?_;rw [Ψ];have U:j≠i:=by
   rintro rfl;rw [h1] at R;injection R with R;injection R with R _;exact iH t (R.trans Pk) rfl
  rw [N3 j U,ace]
 cases xM:o.dst with
 |none=>exact rI λt' VM=>by rw [xM] at VM;cases VM
 |some t'=>
  simp only;rw [bO];by_cases Wp:t=t';subst Wp;rw [if_pos rfl,lE];rw [C5 (i:=i) (v:=e) (by rw [h1,xM]) (by rw [Ψ];simp) (λj d J RD R Pk=>by
   rw [Ψ,N3 j (by omega),ace];rcases N4 j d J R (by omega) with hp|⟨_,hp⟩
   rw [hp];have:=wQ j (by omega);rwa [Ψ] at this;exact absurd xM (hp t Pk))]
  rfl;rw [if_neg Wp];exact rI λt'' LY=>by rw [xM] at LY;injection LY with LY;subst LY;exact Wp
 show _=lk k (mH e++dE sel 0 ef st.mem);rw [cF,eW,eW,<-ad8]
 congr 1
 cases hk:lk k (mH e) with
 |some c=>
  rw [yb (i:=i) (d:=o.dst) (v:=e) h1 (by simp) hk (λj d J RD R UY=>by
   rw [Ψ,N3 j (by omega),ace];cases hs:sel j with
   |false=>rfl
   |true=>
    exfalso;have U:j≠i:=by omega
    have Wq:mH J≠[]:=λI=>UY (Je I);have u2:=(Pm j d J R RD hs).resolve_right Wq;have n1:lk k e.new≠none:=by
     rcases kO (k:=k) (e:=e) (by rw [hk];simp) with I|I
     rw [u2] at I;exact absurd rfl I;exact I
    rcases kO UY with I|I
    exact N5 j hs d J k R I n1;exact U (H.uniq R h1 I n1))]
  rfl
 |none=>
  rw [abS];refine rL λj d J R UY=> ?_;rw [Ψ];have U:j≠i:=by
   rintro rfl;rw [h1] at R;injection R with R;injection R with _ R;subst R;exact UY hk
  rw [N3 j U,ace]
theorem S3 {ops:Array Ϥ}{Q:abI->Act->Ε->Prop}{K:Act->Ε->Prop}{i:Nat}{o:Ϥ}(p:ops[i]? =some o)(h:if ϯ o (yielded ops a.tmps) then o.wp P a w K Q else K (a.put o.dst undef) w):wpOp P ops Q i K a w:=by
 unfold wpOp;rw [p];simp only;by_cases j:ϯ o (yielded ops a.tmps)=true;rw [if_pos j] at h⊢;exact .inl h;rw [if_neg j] at h⊢;exact h
def fE (listed:Array Bool)(j:Nat):Bool:=listed.getD j false
theorem tL {ops:List Ϥ}{listed:Array Bool}(R:listed.size=ops.length){i:Nat}(T:i∈adG .any ops.toArray listed):
 ∃o,ops[i]? =some o/\fE listed i=false/\ ∀d∈fO o,fE listed d=true:=by
 obtain ⟨I,o,p,j⟩:=mem_ready.1 T;have p:ops[i]? =some o:=by simpa using p
 have r:i<listed.size:=by rw [R];exact (ω.1 p).1
 refine ⟨o,p,?_,λd J=> ?_⟩;unfold fE;simp [ahR,r] at I⊢;exact I;unfold fO at J;obtain ⟨e,t,rfl⟩:=Ϣ.1 J;obtain ⟨t,U⟩:=acj.1 t;exact j e (by simpa using t) U
theorem Ai {ops:List Ϥ}{listed:Array Bool}(U:listed.size=ops.length)(I: ∀i o,ops[i]? =some o-> ∀d∈fO o,d<i)(J:adG .any ops.toArray listed=[]): ∀i,i<ops.length->fE listed i=true:=by
 intro i;induction i using aa7 with
 |_ i ih=>
  intro t;cases p:fE listed i with
  |true=>rfl
  |false=>
   have:i∈adG .any ops.toArray listed:=by
    refine mem_ready.2 ⟨?_,ops[i],by simp [t],λe R T=> ?_⟩;unfold fE at p;have j:i<listed.size:=by omega
    simp [ahR,j] at p⊢;exact p;have r:e.on∈fO ops[i]:=Ϣ.2 ⟨e,acj.2 ⟨by simpa using R,T⟩,rfl⟩;have j:=I i ops[i] (Γ t) e.on r;exact ih e.on j (by omega)
   rw [J] at this;simp at this
theorem rM {listed:Array Bool}{i j:Nat}(p:i<listed.size):fE (listed.setIfInBounds i true) j=(fE listed j||Β j i):=by
 unfold fE;by_cases o:j=i;subst o;have:Β j j=true:=ad1 j;rw [this];simp [p];have:Β j i=false:=by
  cases r:Β j i with
  |false=>rfl
  |true=>exact absurd (cg r) o
 rw [this,getD_set_ne false (λe=>o e.symm)];simp
def todo (listed:Array Bool)(n:Nat):Nat:=((abD n).filter λj=> !fE listed j).length
theorem C9 {listed:Array Bool}{i n:Nat}(t:i<listed.size)(U:i<n)(T:fE listed i=false):todo (listed.setIfInBounds i true) n+1<=todo listed n:=by
 unfold todo;have I: ∀l:List Nat,l.Nodup->i∈l->(l.filter λj=> !fE (listed.setIfInBounds i true) j).length+1<=(l.filter λj=> !fE listed j).length:=by
  intro l;induction l with
  |nil=>intro _ h;simp at h
  |cons x l ih=>
   intro o p;simp only [aba] at o;by_cases J:x=i;subst J;have e1:(!fE (listed.setIfInBounds x true) x)=false:=by rw [rM t];simp
   have e2:(!fE listed x)=true:=by rw [T];rfl
   rw [abP (by simp [e1]),abQ (by simp [T])];simp only [Η,Nat.add_le_add_iff_right];refine Nat.le_of_eq ?_
   congr 1
   refine List.filter_congr λy hy=> ?_;rw [rM t];have:Β y x=false:=by
    cases R:Β y x with
    |false=>rfl
    |true=>have:=cg R;subst this;exact absurd hy o.1
   rw [this,ace];have p:i∈l:=by
    rcases ϖ.1 p with e|p
    exact absurd e.symm J;exact p
   have:=ih o.2 p;have e:fE (listed.setIfInBounds i true) x=fE listed x:=by
    rw [rM t];have:Β x i=false:=by
     cases R:Β x i with
     |false=>rfl
     |true=>exact absurd (cg R) J
    rw [this,ace]
   cases r:fE listed x with
   |true=>
    rw [r] at e;rw [abP (by simp [e]),abP (by simp [r])];exact this
   |false=>
    rw [r] at e;rw [abQ (by simp [e]),abQ (by simp [r])];simp only [Η];omega
 exact I _ List.nodup_range (ab7.2 U)
theorem EL {Q:abI->Act->Ε->Prop}(hd: ∀i o,all[i]? =some o->(∀d∈fO o,d<i)/\(∀j∈Ds.getD i [],j∈fO o\/ ∃d∈fO o,j∈Ds.getD d [])/\(∀j,h<=j->j<i->j∈Ds.getD i [])):
 ∀(p:Nat) {listed:Array Bool} {i:Nat} {a:Act} {w:Ε},listed.size=all.length->h<=i->(∀j,j<all.length->(fE listed j=true↔j<i))->i<=all.length->todo listed all.length<=p->
  wpList cx.P all.toArray Q (all.drop i) a w->wpAny cx.P .any all.toArray Q p listed a w:=by
 intro p;have Ji: ∀{listed:Array Bool} {i:Nat} {a:Act} {w:Ε},(∀j,j<all.length->(fE listed j=true↔j<i))->i<=all.length->(∀j,j<all.length->fE listed j=true)->wpList cx.P all.toArray Q (all.drop i) a w->Q .normal a w:=by
  intro listed i a w hl hi qF J;have t:all.drop i=[]:=by
   rcases aam i all.length with r|R
   have:=(hl i r).1 (qF i r);omega;exact List.drop_eq_nil_of_le R
  rw [t] at J;exact J
 induction p with
 |zero=>
  intro listed i a w T NL hl hi UZ J;have qF: ∀j,j<all.length->fE listed j=true:=λj hj=>by
   cases hx:fE listed j with
   |true=>rfl
   |false=>
    have:j∈(abD all.length).filter λj=> !fE listed j:=acj.2 ⟨ab7.2 hj,by rw [hx];rfl⟩;have:=ae6 this;unfold todo at UZ;omega
  refine ⟨?_,Ji hl hi qF J⟩;cases hr:adG .any all.toArray listed with
  |nil=>rfl
  |cons x xs=>
   obtain ⟨o,I,h1,_⟩:=tL T (i:=x) (by rw [hr];simp);rw [qF x (ω.1 I).1] at h1;cases h1
 |succ p ih=>
  intro listed i a w T NL hl hi UZ J;refine ⟨λhr=>Ji hl hi (Ai T (λi o I=>(hd i o I).1) hr) J,λj hj=> ?_⟩;obtain ⟨o,I,h1,h2⟩:=tL T hj;have NW:j<all.length:=(ω.1 I).1;have hji:j=i:=by
   have R:i<=j:=by
    rcases aam j i with r|R
    rw [(hl j NW).2 r] at h1;cases h1;exact R
   rcases aam i j with r|hle
   have hm:=(hd j o I).2.2 i NL r;have nv: ∀(n:Nat) (o:Ϥ),all[n]? =some o->(∀d∈fO o,fE listed d=true)-> ∀k∈Ds.getD n [],fE listed k=true:=by
    intro n;induction n using aa7 with
    |_ n ihn=>
     intro o I Wr k hk;have r:n<all.length:=(ω.1 I).1;rcases (hd n o I).2.1 k hk with U0|⟨d,U0,D0⟩
     exact Wr k U0;have U1:=(hd n o I).1 d U0;have U:d<all.length:=by omega
     refine ihn d U1 all[d] (Γ U) (λd' Ws=> ?_) k D0;have U2:=(hl d U).1 (Wr d U0);have:=(hd d all[d] (Γ U)).1 d' Ws;exact (hl d' (by omega)).2 (by omega)
   have:=(hl i (by omega)).1 (nv j o I h2 i hm);omega;omega
  subst hji;have t:all.drop j=o::all.drop (j+1):=by
   rw [List.drop_eq_getElem_cons NW]
   congr 1
   exact (ω.1 I).2
  rw [t] at J;simp only [wpList] at J;unfold wpOp;rw [show all.toArray[j]? =some o by simpa using I];simp only;have Y7: ∀a' w',wpList cx.P all.toArray Q (all.drop (j+1)) a' w'->wpAny cx.P .any all.toArray Q p (listed.setIfInBounds j true) a' w':=λa' w' h'=>by
   refine ih (i:=j+1) (by simp [T]) (by omega) (λk hk=> ?_) (by omega) ?_ h';rw [rM (by omega)];simp only [abm];rw [hl k hk];constructor;rintro (oF|oF);omega;have:=cg oF;omega;intro oF;rcases aam k j with r|R
   exact .inl r;right;have:k=j:=by omega
   subst this;exact ad1 _;have:=C9 (listed:=listed) (i:=j) (n:=all.length) (by omega) NW h1;omega
  split;rename_i hw;rw [if_pos hw] at J;exact J.imp (Oper.wp_mono Y7) id;rename_i hw;rw [if_neg hw] at J;exact Y7 _ _ J
theorem Da {sel sel':Nat->Bool}(H: ∀j,j<ef.length->sel j=sel' j)(fr:Fr)(t:Tmp):lk t (iF sel 0 ef fr)=lk t (iF sel' 0 ef fr):=by
 rw [lE,lE]
 congr 1
 exact kZ λj d e o _=>by
  rw [Ψ];exact H j (ω.1 o).1
theorem A8 {sel sel':Nat->Bool}(H: ∀j,j<ef.length->sel j=sel' j)(m:Mem)(k:Nat):lk k (dE sel 0 ef m)=lk k (dE sel' 0 ef m):=by
 rw [eW,eW]
 congr 1
 exact rL λj d e o _=>by
  rw [Ψ];exact H j (ω.1 o).1
theorem Db {Q:abI->Act->Ε->Prop}{st:St}{nx0:Nat}(H:mu cx.P cx.N all st h Ds ef K)(hh:h<=all.length)(hT: ∀g' a' w',cT cx g' (oT st ef (λ_=>true) nx0) a' w'->wpList cx.P all.toArray Q (all.drop h) a' w'):
 ∀(p:Nat) {listed:Array Bool} {nx:Nat} {g:GM} {a:Act} {w:Ε},listed.size=all.length->(∀j,fE listed j=true->j<h)->(∀j,j<h->fE listed j=true-> ∀k∈Ds.getD j [],fE listed k=true)->todo listed all.length<=p->
  cT cx g (oT st ef (fE listed) nx) a w->wpAny cx.P .any all.toArray Q p listed a w:=by
 intro p;have Ji: ∀(p:Nat) {listed:Array Bool} {nx:Nat} {g:GM} {a:Act} {w:Ε},listed.size=all.length->(∀j,fE listed j=true->j<h)->todo listed all.length<=p->(∀j,j<h->fE listed j=true)->cT cx g (oT st ef (fE listed) nx) a w->wpAny cx.P .any all.toArray Q p listed a w:=by
  intro p listed nx g a w J hl aa R hs;have qD:cT cx g (oT st ef (λ_=>true) nx0) a w:=hs.congr (λt v hv=>by
   rw [<-hv];exact Da (sel':=λ_=>true) (λj I=>R j (by rw [<-H.len];exact I)) _ _) (λk=>(A8 (sel':=λ_=>true) (λj I=>R j (by rw [<-H.len];exact I)) _ _).symm)
  exact EL (h:=h) (Ds:=Ds) (λi o ho=>⟨(H.A6 i o ho).1,(H.A6 i o ho).2.1,λj I hi=>((H.A6 i o ho).2.2 j hi).resolve_right λx=>by omega⟩) p J (ς h) (λj I=>⟨hl j,R j⟩) hh aa (hT _ _ _ qD)
 induction p with
 |zero=>
  intro listed nx g a w J hl nv aa hs;refine Ji 0 J hl aa (λj I=> ?_) hs;cases hx:fE listed j with
  |true=>rfl
  |false=>
   have:j∈(abD all.length).filter λj=> !fE listed j:=acj.2 ⟨ab7.2 (by omega),by rw [hx];rfl⟩;have:=ae6 this;unfold todo at aa;omega
 |succ p ih=>
  intro listed nx g a w J hl nv aa hs;by_cases R: ∀j,j<h->fE listed j=true;exact Ji (p+1) J hl aa R hs;refine ⟨λhr=>absurd (λj I=>Ai J (λi o ho=>(H.A6 i o ho).1) hr j (by omega)) R,λi hi=> ?_⟩;obtain ⟨o,ho,h1,h2⟩:=tL J hi;have RQ:i<all.length:=(ω.1 ho).1;have U2: ∀j∈Ds.getD i [],fE listed j=true:=λj I=>by
   rcases (H.A6 i o ho).2.1 j I with hd|⟨d,hd,I⟩
   exact h2 j hd;exact nv d (hl d (h2 d hd)) (h2 d hd) j I
  have Y8:i<h:=by
   rcases aam i h with hlt|wQ
   exact hlt;exact absurd (λj I=>U2 j (((H.A6 i o ho).2.2 j (by omega)).resolve_right λx=>by omega)) R
  obtain ⟨r,nx',e,Cc,g1,g2,g3,g5,g6,g7⟩:=H.step Y8 ho h1 U2 nv;have U:fE (listed.setIfInBounds i true)=λj=>fE listed j||Β j i:=funext λj=>rM (by omega)
  have I4:cT cx g ⟨iF (fE listed) 0 ef st.fr,dE (fE listed) 0 ef st.mem,nx'⟩ a w:=hs.congr (λ_ _ hv=>hv) (λ_=>rfl);refine S3 (by simpa using ho) (xR I4 g1 g5 g3 g2 λg' a' w' qD=> ?_);refine ih (nx:=0) (by simp [J]) (λj I=> ?_) (λj I T k hk=> ?_) ?_ (qD.congr (λt v hv=> ?_) λk=> ?_);rw [U] at I;simp only [abm] at I;rcases I with I|I
  exact hl j I;rw [cg I];exact Y8;rw [U] at T⊢;simp only [abm] at T⊢;rcases T with T|T
  exact .inl (nv j I T k hk);have:=cg T;subst this;exact .inl (U2 k hk);have:=C9 (listed:=listed) (i:=i) (n:=all.length) (by omega) RQ h1;omega;change lk t (iF (fE (listed.setIfInBounds i true)) 0 ef st.fr)=some v at hv;rw [U,g6] at hv;cases xM:o.dst with
  |none=>rw [xM] at hv;exact hv
  |some t'=>rw [xM] at hv;exact hv
  change lk k (dE (fE (listed.setIfInBounds i true)) 0 ef st.mem)=_;rw [U,g7];unfold St.app;cases o.dst<;>rfl
theorem cT.Dc {QQ:abI->Act->Ε->Prop}{h:Nat}{ops:List Ϥ}{hrs:List HR}{tds:List (List Nat)}{ef:List ER}{st:St}{cs:List Prop}{nx:Nat}(hs:cT cx g st a w)(R:(hrs.length==h&&ϩ h ops.length)=true)(zk:nM ops (hrs.map HR.D++tds) h 0 ops=true)(hh:xY cx.P cx.N ops st (ops.take h) hrs [] st.nx=some (ef,cs,nx))(hc:cp cs)(hT: ∀g' a' w',cT cx g' (oT st ef (λ_=>true) nx) a' w'->wpList cx.P ops.toArray QQ (ops.drop h) a' w'):wpAny cx.P .any ops.toArray QQ ops.toArray.size (ϻ ops.toArray.size false) a {w with drawn:=w.drawn+1}:=by
 simp only [κ,beq_iff_eq] at R;obtain ⟨R,T⟩:=R;have T:h<=ops.length:=Nat.le_of_ble_eq_true T;obtain ⟨⟨l,e1,e2⟩,K,U3⟩:=EI hh hc;have r:ef.length=h:=by rw [e1];simp [e2,T]
 have Pp: ∀i,i<h->(hrs.map HR.D++tds).getD i []=(hrs.map HR.D).getD i []:=λi U=>by
  rw [ψ,ψ,Ν (by simp [R,U])]
 have H:mu cx.P cx.N ops st h (hrs.map HR.D++tds) ef K:=by
  refine ⟨r,λi U=> ?_,λi o ho=> ?_⟩;have ho:ops[i]? =some ops[i]:=Γ (by omega);refine ⟨ops[i],ho,?_⟩;have:=U3 i ops[i] (by rw [ϒ,if_pos U];exact ho);rw [Pp i U];simpa using this;have:=vY zk i o ho;simpa using this
 have hz: ∀j,fE (ϻ ops.length false) j=false:=λj=>by
  unfold fE;rw [ϐ];by_cases p:j<ops.length;simp [p];rw [ac0 (by simpa using agC p)];rfl
 have UZ:todo (ϻ ops.length false) ops.length<=ops.length:=by
  unfold todo;exact ϫ (List.length_filter_le _ _) (by simp)
 have Wt:cT cx g (oT st ef (fE (ϻ ops.length false)) 0) a w.drew:=by
  have I:fE (ϻ ops.length false)=λ_=>false:=funext hz;refine hs.drew.congr (λt v J=> ?_) λk=> ?_;rw [I] at J;change lk t (iF (λ_=>false) 0 ef st.fr)=some v at J;rw [lE] at J;have:iQ (λ_=>false) t 0 ef=none:=by
   have:=tJ (sel:=λ_=>false) (t:=t) (l:=ef) (n:=0) (i:=0) (λ_ _=>rfl);simpa [iQ] using this.symm
  rw [this] at J;exact J;rw [I];change lk k (dE (λ_=>false) 0 ef st.mem)=_;rw [eW];cases hx:fD (λ_=>false) k 0 ef with
  |none=>rfl
  |some c=>obtain ⟨_,_,_,_,h2,_⟩:=jE hx;cases h2
 have:=Db (Q:=QQ) (nx0:=nx) H T hT ops.length (listed:=ϻ ops.length false) (by simp) (λj p=>by rw [hz j] at p;cases p) (λj _ p=>by rw [hz j] at p;cases p) UZ Wt;simpa using this
theorem cT.Gm {t:abI->Act->Ε->Prop}{h:Nat}{ops:List Ϥ}{hrs:List HR}{tds:List (List Nat)}{rs:List OH}{ef:List ER}{st st':St}{cs j:List Prop}{nx:Nat}(I:cT cx g st a w)(J:(hrs.length==h&&ϩ h ops.length)=true)(o:nM ops (hrs.map HR.D++tds) h 0 ops=true)(R:xY cx.P cx.N ops st (ops.take h) hrs [] st.nx=some (ef,cs,nx))(T:pN cx.P cx.N ops (ops.drop h) rs (oT st ef (λ_=>true) nx)=some (st',j))(U:cp cs)(p:cp j)(hq: ∀g' a' w',cT cx g' st' a' w'->t .normal a' w'):wpAny cx.P .any ops.toArray t ops.toArray.size (ϻ ops.toArray.size false) a {w with drawn:=w.drawn+1}:=
 I.Dc J o R U λ_ _ _ r=>qK r T p hq
theorem HT.draw {Q:abI->St->Prop}{id h:Nat}{ops:List Ϥ}{hrs:List HR}{tds:List (List Nat)}{rs:List OH}{ef:List ER}{st st':St}{cs j:List Prop}{nx:Nat}(t:cx.P.follows .mixedOrders=true)(I:(hrs.length==h&&ϩ h ops.length)=true)(o:nM ops (hrs.map HR.D++tds) h 0 ops=true)(J:xY cx.P cx.N ops st (ops.take h) hrs [] st.nx=some (ef,cs,nx))(R:pN cx.P cx.N ops (ops.drop h) rs (oT st ef (λ_=>true) nx)=some (st',j))(T:cp cs)(p:cp j)(U:Q .normal st'):HT cx st (.region id ops.toArray true) Q:=
 λ_ _ _ hs=>wp_region_any t (hs.Gm I o J R T p λg' _ _ r=>⟨st',g',U,r⟩)
end
end Go.Ide
namespace Go.Ide
structure sW where
 ch:List (Nat×Nat)
 vs:List Nat
 tr:List Nat
 fz:Bool
def ru (k k':Nat)(ch:List (Nat×Nat)):Bool:=
 match lk k ch with
 |some q=>Β q k'
 |none=>false
theorem ot {k k':Nat}{ch:List (Nat×Nat)}(h:ru k k' ch=true):lk k ch=some k':=by
 unfold ru at h;split at h;rename_i q j;rw [j,cg h];cases h
def EM (k:Nat)(ch:List (Nat×Nat)):Bool:=match lk k ch with|some _=>true|none=>false
def sW.m0 (s:sW)(m:Mem):Mem:=bif s.fz then m.filter (λp=> !(EM p.1 s.ch)) else []
def Dd (ch:List (Nat×Nat)):List Nat->List Nat->Bool
 |[],[]=>true
 |k::r,j::o=>ru k j ch&&Dd ch r o
 |_,_=>false
def A9 (s:sW)(m0 m':Mem)(c c':bI):Option (List Prop):=
 match c' with
 | .bG t p=>(match dT m0 t c with
  |some x=>some [p=x]
  |none=>none)
 | .ptr o j=>(match c with
  | .ptr k off=>bif ru k o s.ch&&Β off j then some [] else none
  |_=>none)
 | .dn o i' R j=>(match c with
  | .dn k i sz off=>bif ru k o s.ch&&(Β sz R&&Β off j) then some [i'=i] else none
  |_=>none)
 | .ip I p j=>(match c with
  | .ip t x off=>bif Β off j then (if h:I=t then some [cR h p=x] else none) else none
  | .ptr k off=>(match lk k m0 with
   |some (.box cs)=>bif Β off j then (match impl m0 I cs with
    |some (x,[])=>some [p=x]
    |_=>none) else none
   |_=>none)
  |_=>none)
 | .all o=>(match c with
  | .all k=>bif ru k o s.ch&& !(dt k s.tr) then some [] else none
  | .bH=>bif dt o s.vs then some [] else none
  | .ref k off len=>bif ru k o s.ch&&dt k s.tr then (match lk o m' with
   |some (.seq _ T)=>some [off=0,ζ T=len]
   |_=>none) else none
  |_=>none)
 | .ref o j J=>(match c with
  | .ref k off len=>bif ru k o s.ch&& !(dt k s.tr) then some [j=off,J=len] else none
  |_=>none)
 | .row _ _ _=>none
 | .zf _ _ _ _ _ _=>none
 | .bH=>(match c with
  | .bH=>some []
  |_=>none)
 | .fn r=>(match c with
  | .fn f=>if r=f then some [] else none
  |_=>none)
 | .ji r I p=>(match c with
  | .ji f t x=>if r=f then (if h:I=t then some [cR h p=x] else none) else none
  |_=>none)
 | .cls r U=>(match c with
  | .cls f ks=>if r=f then (bif Dd s.ch ks U then some [] else none) else none
  |_=>none)
 | .zP r I p=>(match c with
  | .zP f t x=>if r=f then (if h:I=t then some [cR h p=x] else none) else none
  |_=>none)
 | .fP o=>(match c with
  | .fP k=>bif ru k o s.ch then some [] else none
  |_=>none)
 | .dS=>bif c.ok then some [] else none
 | .bad=>none
def Ba (s:sW)(m0 m':Mem):List bI->List bI->Option (List Prop)
 |[],[]=>some []
 |c::r,j::o=>(match A9 s m0 m' c j,Ba s m0 m' r o with
  |some p,some q=>some (p++q)
  |_,_=>none)
 |_,_=>none
def Pq (s:sW)(m0 m':Mem)(v o:bK):Option (List Prop):=
 match o with
 | .one p=>(match v with
  | .one c=>A9 s m0 m' c p
  |_=>none)
 | .agg j=>(match v with
  | .agg cs=>Ba s m0 m' cs j
  |_=>none)
 | .AA _=>none
 | .Ce=>none
 | .dS=>some []
def HD (s:sW)(m0 m':Mem)(fr:Fr):Fr->Option (List Prop)
 |[]=>some []
 |(t,j)::r=>(match lk t fr with
  |some v=>(match Pq s m0 m' v j,HD s m0 m' fr r with
   |some p,some q=>some (p++q)
   |_,_=>none)
  |none=>none)
def uA (s:sW)(m0 m':Mem)(k:Nat)(c U:Chunk):Option (List Prop):=
 match U with
 | .box o=>(match c with
  | .box cs=>Ba s m0 m' cs o
  |_=>none)
 | .seq I j=>(match c with
  | .seq t r=>if h:I=t then (bif dt k s.tr then some [cR (congrArg Ty.sl h) j=ϛ (ζ j) r] else some [cR (congrArg Ty.sl h) j=r]) else none
  |_=>none)
 | .mp I R j=>(match c with
  | .mp t u r=>if h:Ty.pair I R=Ty.pair t u then some [cR (a:= .sl (.pair I R)) (b:= .sl (.pair t u)) (congrArg Ty.sl h) j=r] else none
  |_=>none)
 | .pT T' e' j=>(match c with
  | .pT T e r=>bif Β T' T&&Β e' e then some [j=r] else none
  |_=>none)
 | .gh o J=>(match c with
  | .gh cs vs=>(match Ba s m0 m' cs o with
   |some p=>some ((J=vs)::p)
   |none=>none)
  |_=>none)
 | .pg _ _ _ _ _=>none
 | .gone=>none
def Pr (s:sW)(m m0 m':Mem):Mem->Option (List Prop)
 |[]=>some []
 |(o,t)::r=>(match lk o (inv s.ch) with
  |some k=>(match lk k m with
   |some c=>(match uA s m0 m' k c t,Pr s m m0 m' r with
    |some p,some q=>some (p++q)
    |_,_=>none)
   |none=>none)
  |none=>bif dt o s.vs then (match t with
   | .seq _ j=>(match Pr s m m0 m' r with
    |some q=>some ((j=[])::q)
    |none=>none)
   |_=>none) else none)
def EN (k:Nat)(m:Mem):Bool:=match lk k m with|some _=>true|none=>false
def sW.okB (s:sW)(m':Mem)(own:List Nat):Bool:=
 (j7 (s.ch.map aav)&&j7 (s.ch.map afo))&&((s.ch.all λp=>EN p.2 m')&&((s.vs.all λk=>EN k m'&& !(dt k (s.ch.map afo)))&&(own.all λk=>ru k k s.ch)))
def St.cv (s:sW)(own:List Nat)(st st':St):Option (List Prop):=
 bif s.okB st'.mem own then (match HD s (s.m0 st.mem) st'.mem st.fr st'.fr,Pr s st.mem (s.m0 st.mem) st'.mem st'.mem with
  |some p,some q=>some (p++q)
  |_,_=>none) else none
theorem De {k:Nat}{m:Mem}(h:EN k m=true):lk k m≠none:=by
 unfold EN at h;split at h;rename_i c j;rw [j];simp;cases h
theorem Df {k:Nat}{ch:List (Nat×Nat)}:EM k ch=true↔ ∃k',lk k ch=some k':=by
 unfold EM;cases lk k ch with
 |some q=>exact ⟨λ_=>⟨q,rfl⟩,λ_=>rfl⟩
 |none=>exact ⟨λh=>(by cases h),λh=>(by obtain ⟨k',h⟩:=h;cases h)⟩
theorem sH {p:Nat->Bool}: ∀{m:Mem} {k:Nat} {c:Chunk},lk k (m.filter λq=>p q.1)=some c->lk k m=some c/\p k=true
 |[],k,c,h=>by simp [fR] at h
 |(q,d)::m,k,c,h=>by
  cases hp:p q with
  |false=>
   rw [abP (by simp [hp])] at h;obtain ⟨r,j⟩:=sH h;rw [bO];have o:k≠q:=by rintro rfl;rw [hp] at j;cases j
   rw [if_neg o];exact ⟨r,j⟩
  |true=>
   rw [abQ (by simp [hp])] at h;rw [bO] at h⊢;split at h;rename_i e;subst e;rw [if_pos rfl];exact ⟨h,hp⟩;rename_i e;rw [if_neg e];exact sH h
theorem Gn {s:sW}{m0 m':Mem}{fr:Fr}: ∀{o:Fr} {ps:List Prop} {t:Nat} {I:bK},HD s m0 m' fr o=some ps->cp ps->lk t o=some I-> ∃v p,lk t fr=some v/\Pq s m0 m' v I=some p/\cp p
 |[],ps,t,I,h,_,j=>by simp [fR] at j
 |(q,u')::r,ps,t,I,h,hp,j=>by
  simp only [HD] at h;split at h;rename_i v T;split at h;rename_i p q' U h2;injection h with h;subst h;obtain ⟨J,R⟩:=hp.append;rw [bO] at j;split at j;rename_i e;subst e;injection j with j;subst j;exact ⟨v,p,T,U,J⟩
  exact Gn h2 R j;cases h;cases h
theorem yd {s:sW}{m m0 m':Mem}: ∀{l:Mem} {ps:List Prop} {k':Nat} {o:Chunk},Pr s m m0 m' l=some ps->cp ps->lk k' l=some o->
 (∃k c p,lk k' (inv s.ch)=some k/\lk k m=some c/\uA s m0 m' k c o=some p/\cp p)\/(lk k' (inv s.ch)=none/\ ∃t,o= .seq t [])
 |[],ps,k',o,h,_,j=>by simp [fR] at j
 |(q,d)::r,ps,k',o,h,hp,j=>by
  simp only [Pr] at h;split at h;rename_i k I;split at h;rename_i c hc;split at h;rename_i p q' h1 J;injection h with h;subst h;obtain ⟨R,T⟩:=hp.append;rw [bO] at j;split at j;rename_i e;subst e;injection j with j;subst j;exact .inl ⟨k,c,p,I,hc,h1,R⟩
  exact yd J T j;cases h;cases h;rename_i I;cases U:dt q s.vs with
  |false=>rw [U] at h;cases h
  |true=>
   rw [U] at h;simp only [cond_true] at h;split at h;rename_i t iy;split at h;rename_i q' J;injection h with h;subst h;rw [bO] at j;split at j;rename_i e;subst e;injection j with j;subst j;exact .inr ⟨I,t,by rw [hp.1]⟩
   exact yd J hp.2 j;cases h;cases h
section
variable {cx:Cx} {g:GM} {st st':St} {a:Act} {w:Ε}
theorem cT.cv {s:sW}{own:List Nat}{ps:List Prop}(h:cT cx g st a w)(he:st.cv s own st'=some ps)(hp:cp ps)(ho:cx.own.map aav=own)(hF:s.fz=true->cx.Ir): ∃g',cT cx g' st' a w:=by
 unfold St.cv at he;cases r:s.okB st'.mem own with
 |false=>rw [r] at he;cases he
 |true=>
  rw [r] at he;simp only [cond_true] at he;unfold sW.okB at r;simp only [κ] at r;obtain ⟨⟨hn1,sU⟩,jm,sT,uB⟩:=r;have hn1:=iB hn1;have sU:=iB sU;split at he;rename_i p q ub zx;injection he with he;subst he;obtain ⟨Wu,S4⟩:=hp.append;let g':GM:=⟨λI=>match lk I (inv s.ch) with|some k=>g.f k|none=>λ_=>none⟩;have U4: ∀k I,lk k s.ch=some I->g'.f I=g.f k:=λk I hk=>by
   show (match lk I (inv s.ch) with|some k=>g.f k|none=>λ_=>none)=g.f k;rw [(oR hn1 sU).1 hk]
  have oE: ∀k I,lk k s.ch=some I->g' I=g k:=λk I hk=>congrFun (U4 k I hk) [];have Ej: ∀I,lk I (inv s.ch)=none->g'.f I=λ_=>none:=λI hk=>by
   show (match lk I (inv s.ch) with|some k=>g.f k|none=>λ_=>none)=_;rw [hk]
  have uC: ∀k I,lk k s.ch=some I->lk I st'.mem≠none:=λk I hk=>De (ϣ.1 jm _ (mD hk));have uD: ∀I c',lk I st'.mem=some c'->(∃k c p,lk k s.ch=some I/\lk k st.mem=some c/\uA s (s.m0 st.mem) st'.mem k c c'=some p/\cp p/\(∀p,c.owns p)/\g'.f I=g.f k)\/(g'.f I=(λ_=>none)/\ ∃t,c'= .seq t []):=λI c' hk=>by
   rcases yd zx S4 hk with ⟨k,c,p,h1,h2,h3,h4⟩|⟨h1,h2⟩
   have h5:=(oR hn1 sU).2 h1;refine .inl ⟨k,c,p,h5,h2,h3,h4,λq=> ?_,U4 k I h5⟩;cases c with
   |box cs=>trivial
   |seq t xs=>trivial
   |mp=>trivial
   |gh=>trivial
   |pT=>trivial
   |gone=>unfold uA at h3;split at h3<;>cases h3
   |pg t xs i cs ks=>unfold uA at h3;split at h3<;>cases h3
   exact .inr ⟨Ej I h1,h2⟩
  have Y9: ∀b,Live g' st'.mem b-> ∃k I q c,lk k s.ch=some I/\lk k st.mem=some c/\c.owns q/\g.f k q=some b:=by
   rintro b ⟨I,q,c',hk,_,R⟩;rcases uD I c' hk with ⟨k,c,p,q1,q2,_,_,q5,q6⟩|⟨q1,_⟩
   exact ⟨k,I,q,c,q1,q2,q5 q,by rw [<-q6];exact R⟩;rw [q1] at R;cases R
  have U: ∀b,cx.safe g st.mem w b->cx.safe g' st'.mem w b:=λb ⟨h1,h2,h3⟩=>by
   refine ⟨h1,h2,λhl=> ?_⟩;obtain ⟨k,I,q,c,q1,q2,J,q4⟩:=Y9 b hl;exact h3 ⟨k,q,c,q2,J,q4⟩
  have zS: ∀k q ch b,lk k st.mem=some ch->ch.owns q->g.f k q=some b->s.fz=true->(!(EM k s.ch))=true-> ¬b<cx.w0.heap.size:=λk q ch b h1 hn R hz h2 hlt=>by
   rcases h.iN k q ch b h1 hn R with wQ|hf
   omega;obtain ⟨p,Wv,q',Ww⟩:=hF hz b hf;have Jj:p.1∈own:=by rw [<-ho];exact Ϣ.2 ⟨p,Wv,rfl⟩
   have zd:=ot (ϣ.1 uB _ Jj);obtain ⟨I,oF⟩: ∃c',lk p.1 st'.mem=some c':=aaP.1 (uC _ _ zd);rcases uD p.1 I oF with ⟨k2,c2,q2,a1,a2,_,_,a5,_⟩|⟨a1,_⟩
   have:k2=p.1:=by
    have b1:=(oR hn1 sU).1 a1;have b2:=(oR hn1 sU).1 zd;rw [b1] at b2;injection b2
   subst this;have:=(h.fY k p.1 q q' ch c2 b h1 hn a2 (a5 q') R (by rw [(h.own p Wv).1,Ww])).1;subst this;rw [Df.2 ⟨_,zd⟩] at h2;cases h2;rw [U4 _ _ zd,(h.own p Wv).1] at a1;rw [a1] at Ww;cases Ww
  have N7: ∀k q ch b,lk k st.mem=some ch->ch.owns q->g.f k q=some b->(!(EM k s.ch))=true-> ¬Live g' st'.mem b:=λk q ch b h1 hn R h2 hl=>by
   obtain ⟨k1,k1',q',c1,q1,q2,J,q4⟩:=Y9 b hl;have:=(h.fY k k1 q q' _ c1 b h1 hn q2 J R q4).1;subst this;rw [Df.2 ⟨_,q1⟩] at h2;cases h2
  have Hi: ∀k cs,lk k (s.m0 st.mem)=some (.box cs)-> ∃b arr,g k=some b/\cx.safe g' st'.mem w b/\dA w b arr/\cc (CR g st.mem (cx.safe g st.mem w) w) cs arr.toList:=by
   intro k cs hl;unfold sW.m0 at hl;cases hz:s.fz with
   |false=>rw [hz] at hl;simp [fR] at hl
   |true=>
    rw [hz] at hl;simp only [cond_true] at hl;obtain ⟨h1,h2⟩:=sH (p:=λk=> !(EM k s.ch)) hl;obtain ⟨b,arr,R,r,gF⟩:=h.mem k _ h1;exact ⟨b,arr,R,⟨r.lt,λhlt=>absurd hlt (zS k [] _ b h1 trivial R hz h2),N7 k [] _ b h1 trivial R h2⟩,r,gF⟩
  have N8:iz g st.mem (s.m0 st.mem) (cx.safe g' st'.mem w) w:=by
   intro k t xs hl;unfold sW.m0 at hl;cases hz:s.fz with
   |false=>rw [hz] at hl;simp [fR] at hl
   |true=>
    rw [hz] at hl;simp only [cond_true] at hl;obtain ⟨h1,h2⟩:=sH (p:=λk=> !(EM k s.ch)) hl;have SC: ∀p b,g.f k p=some b->cx.safe g' st'.mem w b:=λp b R=>
     ⟨h.lt k p _ b h1 trivial R,λhlt=>absurd hlt (zS k p _ b h1 trivial R hz h2),N7 k p _ b h1 trivial R h2⟩
    refine ⟨h1,SC,?_⟩;have o:=h.mem k _ h1;unfold jk at o;cases R:g.f k [] with
    |none=>rw [show g k=none from R];rw [R] at o;exact o
    |some b=>
     rw [show g k=some b from R];rw [R] at o;obtain ⟨arr,r,sh⟩:=o;exact ⟨arr,r,sh.bJ (λb r=>⟨U b r,rfl⟩) λ_ _ _=>rfl⟩
  have LJ: ∀k I t iy,lk k s.ch=some I->dH st'.mem I t iy->dt k s.tr=false->dH st.mem k t iy:=λk I t iy hk hl S5=>by
   refine .inl ?_;have hl:lk I st'.mem=some (.seq t iy):=by
    rcases hl with hl|⟨i,cs,ks,hl⟩
    exact hl;rcases uD I _ hl with ⟨_,_,_,_,_,J,_⟩|⟨_,_,q2⟩
    cases J;cases q2
   rcases uD I _ hl with ⟨k1,c,p,q1,q2,J,q4,_⟩|⟨q1,_⟩
   have:k1=k:=by
    have a1:=(oR hn1 sU).1 q1;have a2:=(oR hn1 sU).1 hk;rw [a1] at a2;injection a2
   subst this;cases c with
   |seq t1 UU=>
    simp only [uA] at J;split at J;rename_i ht;subst ht;rw [S5] at J;simp only [cond_false] at J;injection J with J;subst J;have:=q4.1;simp only [cR] at this;rw [q2,this];cases J
   |box cs=>cases J
   |pg=>cases J
   |mp=>cases J
   |gh=>cases J
   |pT=>cases J
   |gone=>cases J
   have:lk I (inv s.ch)=some k:=(oR hn1 sU).1 hk;rcases yd zx S4 hl with ⟨k1,c,p,h1,h2,h3,h4⟩|⟨h1,_⟩
   have:k1=k:=by rw [this] at h1;injection h1 with h1;exact h1.symm
   subst this;cases c with
   |seq t1 UU=>
    simp only [uA] at h3;split at h3;rename_i ht;subst ht;rw [S5] at h3;simp only [cond_false] at h3;injection h3 with h3;subst h3;have:=h4.1;simp only [cR] at this;rw [h2,this];cases h3
   |box cs=>cases h3
   |pg=>cases h3
   |mp=>cases h3
   |gh=>cases h3
   |pT=>cases h3
   |gone=>cases h3
   rw [this] at h1;cases h1
  have RR: ∀c c' p v,A9 s (s.m0 st.mem) st'.mem c c'=some p->cp p->CR g st.mem (cx.safe g st.mem w) w c v->CR g' st'.mem (cx.safe g' st'.mem w) w c' v:=by
   intro c c' p v o hp hr;cases c' with
   |bG t x'=>
    simp only [A9] at o;split at o;rename_i x hx;injection o with o;subst o;rw [hp.1];exact rC U N8 hx hr;cases o
   |ptr I CF=>
    cases c with
    |ptr k off=>
     simp only [A9] at o;cases r:(ru k I s.ch&&Β off CF) with
     |false=>rw [r] at o;cases o
     |true=>
      simp only [κ] at r;have hk:=ot r.1;obtain ⟨_,b,h1,h2⟩:=hr;exact ⟨uC k I hk,b,by rw [oE k I hk];exact h1,by rw [<-cg r.2];exact h2⟩
    |_=>cases o
   |dn I i' sz' CF=>
    cases c with
    |dn k i sz off=>
     simp only [A9] at o;cases r:(ru k I s.ch&&(Β sz sz'&&Β off CF)) with
     |false=>rw [r] at o;cases o
     |true=>
      rw [r] at o;simp only [cond_true] at o;injection o with o;subst o;simp only [κ] at r;have hk:=ot r.1;obtain ⟨_,b,h1,h2⟩:=hr;exact ⟨uC k I hk,b,by rw [oE k I hk];exact h1,by rw [<-cg r.2.1,<-cg r.2.2,hp.1];exact h2⟩
    |_=>cases o
   |ip t' x' CF=>
    cases c with
    |ip t x off=>
     simp only [A9] at o;cases r:Β off CF with
     |false=>rw [r] at o;cases o
     |true=>
      rw [r] at o;simp only [cond_true] at o;split at o;rename_i ht;subst ht;injection o with o;subst o;have:=cg r;subst this;have hx:x'=x:=hp.1;subst hx;obtain ⟨ad,es,e,hs,fC,kK⟩:=hr;exact ⟨ad,es,e,U _ hs,fC,abE (λb r=>⟨U b r,rfl⟩) t' es x' kK⟩;cases o
    |ptr k off=>
     simp only [A9] at o;split at o;rename_i cs hl;cases r:Β off CF with
     |false=>rw [r] at o;cases o
     |true=>
      rw [r] at o;simp only [cond_true] at o;split at o;rename_i x hx;injection o with o;subst o;have:=cg r;subst this;have hxx:x'=x:=hp.1;subst hxx;obtain ⟨b,arr,R,hsb,pt,gF⟩:=Hi k cs hl;obtain ⟨_,b',Er,e⟩:=hr;rw [R] at Er;injection Er with Er;subst Er;obtain ⟨v1,v2,e2,r1,r2⟩:=jB U N8 t' hx gF;have:v2=[]:=by cases v2 with|nil=>rfl|cons=>exact r2.elim
      subst this;rw [ϲ] at e2;refine ⟨⟨b,0,none⟩,arr.toList,by rw [cw,Ψ];exact e,hsb,λj u hu=> ?_,by rw [e2];exact r1⟩;rw [cw,Ψ,pt.cell,<-ϥ];exact hu;cases o
     cases o
    |_=>cases o
   |all I=>
    cases c with
    |all k=>
     simp only [A9] at o;cases r:(ru k I s.ch&& !(dt k s.tr)) with
     |false=>rw [r] at o;cases o
     |true=>
      simp only [κ,aag] at r;have hk:=ot r.1;obtain ⟨_,h1,h2⟩:=hr;exact ⟨uC k I hk,h1,λt xs hl=>by rw [oE k I hk];exact h2 t xs (LJ k I t xs hk hl r.2)⟩
    |bH=>
     simp only [A9] at o;cases r:dt I s.vs with
     |false=>rw [r] at o;cases o
     |true=>
      have hv:=ϣ.1 sT _ (eN.1 r);simp only [κ,aag] at hv;obtain ⟨b,hr⟩:=hr;refine ⟨De hv.1,by subst hr;rfl,λt xs hl=> ?_⟩;have:g' I=none:=by
       cases hi:lk I (inv s.ch) with
       |none=>exact congrFun (Ej I hi) []
       |some k=>
        have:=xS ((oR hn1 sU).2 hi);rw [eN.2 this] at hv;cases hv.2
      rw [this];exact ⟨b,hr⟩
    |ref k off len=>
     simp only [A9] at o;cases r:(ru k I s.ch&&dt k s.tr) with
     |false=>rw [r] at o;cases o
     |true=>
      rw [r] at o;simp only [cond_true] at o;simp only [κ] at r;have hk:=ot r.1;split at o;rename_i t0 UM En;injection o with o;subst o;obtain ⟨Vx,hlen,_⟩:=hp;subst Vx;subst hlen;obtain ⟨_,h1,h2⟩:=hr;refine ⟨uC k I hk,h1,λt xs hl=> ?_⟩;have hl:=dH.toSeq En hl;rw [En] at hl;injection hl with hl;injection hl with e1 e2;subst e1;have e2:=eq_of_heq e2;subst e2;rw [oE k I hk];rcases yd zx S4 En with ⟨k1,c,p,q1,q2,J,q4⟩|⟨q1,_⟩
      have:k1=k:=by
       have a2:=(oR hn1 sU).1 hk;rw [q1] at a2;injection a2
      subst this;cases c with
      |seq t1 UU=>
       simp only [uA] at J;split at J;rename_i ht;subst ht;obtain ⟨_,hx⟩:=h2 _ UU (.inl q2);rcases hx with ⟨hz,hn,a,ha⟩|⟨b,cap,arr,hg,e,k1,k2,k3,k4⟩
       rw [hn rfl,hz.symm.symm];exact ⟨a,by rw [ha]⟩;rw [hg];exact ⟨cap,arr,by rw [e,Nat.zero_mul],k1,k2,by rw [Ψ] at k3;exact k3,k4⟩;cases J
      |box cs=>cases J
      |pg=>cases J
      |mp=>cases J
      |gh=>cases J
      |pT=>cases J
      |gone=>cases J
      rw [(oR hn1 sU).1 hk] at q1;cases q1;cases o
    |_=>cases o
   |ref I CF V4=>
    cases c with
    |ref k off len=>
     simp only [A9] at o;cases r:(ru k I s.ch&& !(dt k s.tr)) with
     |false=>rw [r] at o;cases o
     |true=>
      rw [r] at o;simp only [cond_true] at o;injection o with o;subst o;obtain ⟨e1,e2,_⟩:=hp;subst e1;subst e2;simp only [κ,aag] at r;have hk:=ot r.1;obtain ⟨_,h1,h2⟩:=hr;exact ⟨uC k I hk,h1,λt xs hl=>by rw [oE k I hk];exact h2 t xs (LJ k I t xs hk hl r.2)⟩
    |_=>cases o
   |row=>cases o
   |zf=>cases o
   |bH=>
    cases c with
    |bH=>exact hr
    |_=>cases o
   |fn f'=>
    cases c with
    |fn f=>
     simp only [A9] at o;split at o;rename_i hf;subst hf;exact hr;cases o
    |_=>cases o
   |ji f' t' x'=>
    cases c with
    |ji f t x=>
     simp only [A9] at o;split at o;rename_i hf;subst hf;split at o;rename_i ht;subst ht;injection o with o;subst o;have hx:x'=x:=hp.1;subst hx;obtain ⟨ad,es,e,hs,fC,kK⟩:=hr;exact ⟨ad,es,e,U _ hs,fC,abE (λb r=>⟨U b r,rfl⟩) t' es x' kK⟩;cases o;cases o
    |_=>cases o
   |cls f' RS=>
    cases c with
    |cls f ks=>
     simp only [A9] at o;split at o;rename_i hf;subst hf;cases r:Dd s.ch ks RS with
     |false=>rw [r] at o;cases o
     |true=>
      obtain ⟨ps,e,gF⟩:=hr;refine ⟨ps,e,?_⟩;clear e o;induction ks generalizing RS ps with
      |nil=>
       cases RS with
       |nil=>cases ps with
        |nil=>trivial
        |cons=>exact gF.elim
       |cons=>cases r
      |cons k ks ih=>
       cases RS with
       |nil=>cases r
       |cons I RS=>
        cases ps with
        |nil=>exact gF.elim
        |cons p ps=>
         simp only [Dd,κ] at r;have hk:=ot r.1;obtain ⟨⟨_,b,h1,h2⟩,h3⟩:=gF;exact ⟨⟨uC k I hk,b,by rw [oE k I hk];exact h1,h2⟩,ih RS r.2 ps h3⟩
     cases o
    |_=>cases o
   |zP f' t' x'=>
    cases c with
    |zP f t x=>
     simp only [A9] at o;split at o;rename_i hf;subst hf;split at o;rename_i ht;subst ht;injection o with o;subst o;have hx:x'=x:=hp.1;subst hx;obtain ⟨ad,Lh,es,e,qD,Is,hs,fC,kK⟩:=hr;exact ⟨ad,Lh,es,e,U _ qD,Is,U _ hs,fC,abE (λb r=>⟨U b r,rfl⟩) t' es x' kK⟩;cases o;cases o
    |_=>cases o
   |fP I=>
    cases c with
    |fP k=>
     simp only [A9] at o;cases r:ru k I s.ch with
     |false=>rw [r] at o;cases o
     |true=>
      have hk:=ot r;obtain ⟨_,b,h1,h2⟩:=hr;exact ⟨uC k I hk,b,by rw [oE k I hk];exact h1,h2⟩
    |_=>cases o
   |dS=>
    simp only [A9] at o;cases r:c.ok with
    |false=>rw [r] at o;cases o
    |true=>exact xp r hr
   |bad=>cases o
  have Ps: ∀cs Cc p vs,Ba s (s.m0 st.mem) st'.mem cs Cc=some p->cp p->cc (CR g st.mem (cx.safe g st.mem w) w) cs vs->cc (CR g' st'.mem (cx.safe g' st'.mem w) w) Cc vs:=by
   intro cs;induction cs with
   |nil=>
    intro Cc p vs o hp hr;cases Cc with
    |cons=>cases o
    |nil=>cases vs with
     |nil=>trivial
     |cons=>exact hr.elim
   |cons c cs ih=>
    intro Cc p vs o hp hr;cases Cc with
    |nil=>cases o
    |cons c' Cc=>
     simp only [Ba] at o;split at o;rename_i p1 p2 h1 h2;injection o with o;subst o;obtain ⟨Wu,S4⟩:=hp.append;cases vs with
     |nil=>exact hr.elim
     |cons v vs=>exact ⟨RR c c' p1 v h1 Wu hr.1,ih Cc p2 vs h2 S4 hr.2⟩
     cases o
  refine ⟨g',h.defers.bJ (λb r=>⟨U b r,rfl⟩),h.size,λt v' hl=> ?_,λI c' hk=> ?_,?_,λI r' c' b hk hn hg=> ?_,λI r' c' b hk hn hg=> ?_,h.bJ,λp hp=> ?_,h.gl⟩;obtain ⟨v,p,h1,h2,h3⟩:=Gn ub Wu hl;have hv:=h.fr t v h1;unfold Pq at h2;split at h2;split at h2;exact RR _ _ p _ h2 h3 hv;cases h2;split at h2;obtain ⟨vs,e,sT⟩:=hv;exact ⟨vs,e,Ps _ _ p vs h2 h3 sT⟩;cases h2;cases h2;cases h2;trivial;rcases uD I c' hk with ⟨k,c,p,q1,q2,J,q4,q5,q6⟩|⟨q1,t,q2⟩
  have jm:=h.mem k c q2;rw [q6];cases c' with
  |box Cc=>
   cases c with
   |box cs=>
    obtain ⟨b,arr,e,r,gF⟩:=jm;exact ⟨b,arr,e,r,Ps cs Cc _ _ J q4 gF⟩
   |seq t xs=>cases J
   |pg=>cases J
   |mp=>cases J
   |gh=>cases J
   |pT=>cases J
   |gone=>cases J
  |pg=>cases J
  |gone=>cases J
  |mp t' u' iy=>
   cases c with
   |mp t u xs=>
    simp only [uA] at J;split at J;rename_i ht;injection ht with Pc VY;subst Pc;subst VY;injection J with J;subst J;have hx:iy=xs:=q4.1;subst hx;exact jm;cases J
   |_=>cases J
  |pT T' e' iy=>
   cases c with
   |pT T e xs=>
    simp only [uA] at J;cases r:(Β T' T&&Β e' e) with
    |false=>rw [r] at J;cases J
    |true=>
     rw [r] at J;simp only [cond_true] at J;simp only [κ] at r;have e1:=cg r.1;have e2:=cg r.2;subst e1 e2;injection J with J;subst J;have hx:iy=xs:=q4.1;subst hx;exact jm
   |_=>cases J
  |gh Cc Hl=>
   cases c with
   |gh cs vs=>
    simp only [uA] at J;split at J;rename_i p1 h1;injection J with J;subst J;have hx:Hl=vs:=q4.1;subst hx;exact ⟨jm.1,Ps cs Cc p1 Hl h1 q4.2 jm.2⟩;cases J
   |_=>cases J
  |seq t' iy=>
   cases c with
   |box cs=>cases J
   |pg=>cases J
   |mp=>cases J
   |gh=>cases J
   |pT=>cases J
   |gone=>cases J
   |seq t xs=>
    simp only [uA] at J;split at J;rename_i ht;subst ht;have Po: ∃n,iy=xs.take n:=by
     cases S5:dt k s.tr with
     |true=>
      rw [S5] at J;simp only [cond_true] at J;injection J with J;subst J;exact ⟨_,q4.1⟩
     |false=>
      rw [S5] at J;simp only [cond_false] at J;injection J with J;subst J;have:iy=xs:=q4.1;exact ⟨xs.length,by rw [this,aan]⟩
    obtain ⟨n,hn⟩:=Po;unfold jk at jm⊢;cases R:g.f k [] with
    |none=>
     rw [R] at jm;have:xs=[]:=jm;subst this;show iy=[];rw [hn];simp
    |some b=>
     rw [R] at jm;obtain ⟨arr,r,sh⟩:=jm;refine ⟨arr,r,λi hi=> ?_⟩;subst hn;have Ca:i<xs.length:=by
      have:=List.length_take_le' n xs;omega
     obtain ⟨es,k1,k2⟩:=(sh.bJ (λb r=>⟨U b r,rfl⟩) (λ_ _ _=>rfl):eU (cx.safe g' st'.mem w) w (g.f k) t' xs arr) i Ca;refine ⟨es,k1,?_⟩;rw [List.getElem_take];exact k2
    cases J
  subst q2;rw [q1];rfl;intro k1 k2 r1 r2 c1 c2 b Hj aaD sY aaE Er AR;rcases uD k1 c1 Hj with ⟨q,d,p,a1,a2,a3,a4,a5,a6⟩|⟨a1,_⟩
  rcases uD k2 c2 sY with ⟨q',d',p',b1,b2,b3,b4,b5,b6⟩|⟨b1,_⟩
  obtain ⟨e1,e2⟩:=h.fY q q' r1 r2 d d' b a2 (a5 r1) b2 (b5 r2) (by rw [<-a6];exact Er) (by rw [<-b6];exact AR);subst e1;rw [a1] at b1;injection b1 with b1;exact ⟨b1,e2⟩;rw [b1] at AR;cases AR;rw [a1] at Er;cases Er;rcases uD I c' hk with ⟨q,d,p,a1,a2,a3,a4,a5,a6⟩|⟨a1,_⟩
  exact h.iN q r' d b a2 (a5 r') (by rw [<-a6];exact hg);rw [a1] at hg;cases hg;rcases uD I c' hk with ⟨q,d,p,a1,a2,a3,a4,a5,a6⟩|⟨a1,_⟩
  exact h.lt q r' d b a2 (a5 r') (by rw [<-a6];exact hg);rw [a1] at hg;cases hg;have Jj:p.1∈own:=by rw [<-ho];exact Ϣ.2 ⟨p,hp,rfl⟩
  have zd:=ot (ϣ.1 uB _ Jj);exact ⟨by rw [U4 _ _ zd];exact (h.own p hp).1,uC _ _ zd⟩;cases he
end
end Go.Ide
namespace Go.Ide
def runN {σ ρ:Type}(f:σ->Option (σ⊕ρ)):Nat->σ->Option ρ
 |0,_=>none
 |n+1,s=>match f s with
  |some (.inl j)=>runN f n j
  |some (.inr r)=>some r
  |none=>none
theorem vz {σ ρ:Type}{f:σ->Option (σ⊕ρ)}: ∀{n m:Nat} {s:σ} {r:ρ},n<=m->runN f n s=some r->runN f m s=some r
 |0,_,_,_,_,h=>by cases h
 |n+1,0,_,_,j,_=>by omega
 |n+1,m+1,s,r,j,h=>by
  simp only [runN] at h⊢;cases o:f s with
  |none=>simp [o] at h
  |some x=>
   cases x with
   |inr p=>rw [o] at h;exact h
   |inl t=>rw [o] at h;exact vz (Nat.le_of_succ_le_succ j) h
noncomputable def rounds {σ ρ:Type}(f:σ->Option (σ⊕ρ))(s:σ):Option ρ:=
 @dite (Option ρ) (∃r,∃n,runN f n s=some r) (aaA _) (λh=>some (ady h)) (λ_=>none)
theorem qO {σ ρ:Type}{f:σ->Option (σ⊕ρ)}{s:σ}{r:ρ}:rounds f s=some r↔ ∃n,runN f n s=some r:=by
 unfold rounds;constructor;intro h;split at h;rename_i j;injection h with h;subst h;exact abO j;cases h;rintro ⟨n,p⟩;have j: ∃r,∃n,runN f n s=some r:=⟨r,n,p⟩;rw [dif_pos j];obtain ⟨m,t⟩:=abO j;have I:=vz (Nat.le_max_left n m) p;have o:=vz (Nat.le_max_right n m) t;rw [I] at o;injection o with o;rw [o]
theorem dM {σ ρ:Type}(f:σ->Option (σ⊕ρ))(s:σ):rounds f s=match f s with
 |some (.inl o)=>rounds f o
 |some (.inr r)=>some r
 |none=>none:=by
 have key: ∀r,rounds f s=some r↔(match f s with
  |some (.inl o)=>rounds f o
  |some (.inr r)=>some r
  |none=>none)=some r:=by
  intro r;rw [qO];constructor;rintro ⟨n,j⟩;cases n with
  |zero=>cases j
  |succ n=>
   simp only [runN] at j;cases p:f s with
   |none=>rw [p] at j;cases j
   |some x=>
    rw [p] at j;cases x with
    |inl o=>exact qO.2 ⟨n,j⟩
    |inr I=>exact j
  intro h;split at h;rename_i o p;obtain ⟨n,j⟩:=qO.1 h;exact ⟨n+1,by simp only [runN];rw [p];exact j⟩;rename_i I p;exact ⟨1,by simp only [runN];rw [p];exact h⟩;cases h
 cases t:rounds f s with
 |some r=>exact ((key r).1 t).symm
 |none=>
  cases J:(match f s with
  |some (.inl o)=>rounds f o
  |some (.inr r)=>some r
  |none=>none) with
  |none=>rfl
  |some r=>
   have:=(key r).2 J;rw [t] at this;cases this
theorem qP {α β:Type}{o:Option α}{k:α->Option β}{r:β}(h:o.bind k=some r): ∃y,o=some y/\k y=some r:=by
 cases o with
 |none=>cases h
 |some y=>exact ⟨y,rfl,h⟩
def br {β:Type}(p:Prop)[Decidable p](k:Option β):Option β:=if p then k else none
theorem fF {β:Type}{p:Prop}[Decidable p]{k:Option β}{r:β}(h:br p k=some r):p/\k=some r:=by
 unfold br at h;split at h;rename_i hp;exact ⟨hp,h⟩;cases h
theorem guard_pos {β:Type}{p:Prop}[Decidable p]{k:Option β}(h:p):br p k=k:=if_pos h
theorem Jk {β:Type}{b:Bool}{x y:Option β}{r:β}(h:(bif b then x else y)=some r):(b=true/\x=some r)\/(b=false/\y=some r):=by
 cases b with
 |true=>exact .inl ⟨rfl,h⟩
 |false=>exact .inr ⟨rfl,h⟩
abbrev bz (k:aaK)(a b:Int):Int:=k.wrap (a+b)
abbrev bW (k:aaK)(a b:Int):Int:=k.wrap (a - b)
abbrev dX (k:aaK)(a b:Int):Int:=k.wrap (a*b)
abbrev bn {α:Type}(xs:List α):Int:=((ζ xs:Nat):Int)
section
variable {cx:Cx} {st:St} {P:Ο} {N:Nat} {Q:abI->St->Prop} {x y c:Code}
theorem HT.U5 {id:Nat}{ops:List Ϥ}{rs:List OH}{st':St}{cs:List Prop}(j:cx.P=P)(o:cx.N=N)(p:pN P N ops ops rs st=some (st',cs))(r:cp cs)(t:Q .normal st'):HT cx st (.region id ops.toArray false) Q:=by
 subst j;subst o;exact HT.region p r t
theorem HT.drw {id h:Nat}{ops:List Ϥ}{hrs:List HR}{tds:List (List Nat)}{rs:List OH}{ef:List ER}{st':St}{cs j:List Prop}{nx:Nat}(r:cx.P=P)(t:cx.N=N)(I:P.follows .mixedOrders=true)(J:(hrs.length==h&&ϩ h ops.length)=true)(o:nM ops (hrs.map HR.D++tds) h 0 ops=true)(R:xY P N ops st (ops.take h) hrs [] st.nx=some (ef,cs,nx))(T:pN P N ops (ops.drop h) rs (oT st ef (λ_=>true) nx)=some (st',j))(U:cp cs)(p:cp j)(hq:Q .normal st'):HT cx st (.region id ops.toArray true) Q:=by
 subst r;subst t;exact HT.draw I J o R T U p hq
def Le (cx:Cx)(st st':St):Prop:= ∀g a w,cT cx g st a w-> ∃g',cT cx g' st' a w
theorem Le.cv {s:sW}{own:List Nat}{ps:List Prop}{st':St}(j:cx.own.map aav=own)(o:s.fz=true->cx.Ir)(p:st.cv s own st'=some ps)(hp:cp ps):Le cx st st':=
 λ_ _ _ r=>r.cv p hp j o
theorem Le.ht {st':St}(h:Le cx st st')(o:HT cx st' c Q):HT cx st c Q:=λg a w p=>let ⟨g',j⟩:=h g a w p;o g' a w j
theorem Le.trans {st1 j o:St}(p:Le cx st1 j)(r:Le cx j o):Le cx st1 o:=λg a w t=>let ⟨I,h⟩:=p g a w t;r I a w h
theorem Le.refl:Le cx st st:=λg _ _ j=>⟨g,j⟩
theorem HT.S6 {σ ρ:Type}{f:σ->Option (σ⊕ρ)}{s:σ}{r:ρ}(S:σ->St)(E:ρ->abI×St)(h:rounds f s=some r)(hc:Q (E r).1 (E r).2)(round: ∀s x,f s=some x->(∀j,x= .inr j->Q (E j).1 (E j).2)->HT cx (S s) c (vV (λst'=> ∃o,x= .inl o/\Le cx st' (S o)) Q)):HT cx (S s) (.loop c) Q:=by
 obtain ⟨n,hn⟩:=qO.1 h;let I:Nat->St->Prop:=λn st'=> ∃s,Le cx st' (S s)/\runN f n s=some r;have:=HT.loop (cx:=cx) (c:=c) (Q:=Q) (α:=St) (I:=I) (S:=id) (n:=n) (s:=S s) ⟨s,Le.refl,hn⟩ (λst' ⟨s,_,h0⟩=>by cases h0) (λn st' ⟨s,R,p⟩=>by
  simp only [runN] at p;have hx: ∃x,f s=some x/\(∀j,x= .inr j->j=r)/\ ∀o,x= .inl o->runN f n o=some r:=by
   split at p;rename_i o t;exact ⟨.inl o,t,λj e=>(by cases e),λT e=>(by injection e with e;subst e;exact p)⟩;rename_i j t;injection p with p;exact ⟨.inr j,t,λr'' e=>(by injection e with e;rw [<-e];exact p),λT e=>(by cases e)⟩
   cases p
  obtain ⟨x,t,h1,h2⟩:=hx;refine R.ht ((round s x t λj e=>by rw [h1 j e];exact hc).mono λe st1 U=> ?_);cases e with
  |normal=>
   obtain ⟨o,e1,J⟩:=U;exact ⟨st1,rfl,o,J,h2 o e1⟩
  |_=>exact U)
 exact this
theorem Jl (g:GM)(m:Mem)(S:Nat->Prop)(w:Ε){v:bK}{val:π}{t:Ty}{xs:List t.D}(r:kf m (.sl t) v=some xs)(I:iz g m m (λ_=>True) w)(h:VR g m S w v val): ∃a n cap,val= .slice a n cap/\(a=none->xs=[]):=by
 obtain ⟨cs,j,J⟩:=nu (S2:=λ_=>True) (λ_ _=>trivial) I r h;obtain ⟨a,cap,e,_,o⟩:=J;have:val= .slice a (ζ xs) cap:=by
  unfold dQ at j;rw [e] at j;simpa [Ty.sS] using j.symm
 refine ⟨a,_,cap,this,λR=> ?_⟩;cases xs with
 |nil=>rfl
 |cons x xs=>
  obtain ⟨T,es,p,_⟩:=o 0 (by simp);rw [R] at p;cases p
end
end Go.Ide
namespace Go.Ide
theorem zB {P:Ο}{w:Ε}{T e:Ι}{a:Option Addr}{n cap:Nat}(hT:P.underlying T=some (.slice e)):
 (Op.equal T (.slice a n cap) (.slice none 0 0)).run P w= .ok a.isNone w:=by
 have h: ∀d:Nat,(Op.equalIn (d+1) T (.slice a n cap) (.slice none 0 0)).run P w= .ok a.isNone w:=λd=>by
  rw [Op.equalIn];cases a<;>simp [run_underlying hT]
 exact h 9999
theorem Bb {P:Ο}{w:Ε}{T:Ι}{x y:aah}{a:Option Addr}{n cap:Nat}:(Go.eqGuard .eql T x y (.slice a n cap) (.slice none 0 0)).run P w= .ok () w:=rfl
theorem EO {P:Ο}{w:Ε}{T e:Ι}{a:Option Addr}{n cap:Nat}(hT:P.underlying T=some (.slice e)):(Go.binOp .eql T (.slice a n cap) (.slice none 0 0)).run P w= .ok (.bool a.isNone) w:=by
 have j:Go.binOp .eql T (.slice a n cap) (.slice none 0 0)=(do pure (.bool (<-Op.equal T (.slice a n cap) (.slice none 0 0)))):=rfl;rw [j];simp only [Ϛ,ϋ,zB hT,ϵ]
section
variable {cx:Cx} {st:St} {P:Ο} {N:Nat} {Q:abI->St->Prop} {y:Code}
theorem HT.isNil {id:Nat}{U o:Ϥ}{T T' e:Ι}{t3 t4:Tmp}{v:bK}{t:Ty}{xs:List t.D}{st1:St}(hP:cx.P=P)(hN:cx.N=N)(h1:Gj P N [U,o] U ⟨none,.no⟩ st=some (st1,[]))(hg:o.guard=none)(aa:o.op= .binOp .eql T (.tmp t3) (.const (.slice none 0 0)) T')(hd:o.dst=some t4)(ab:aaf t4 N=true)(hT:P.underlying T=some (.slice e))(hv:lk t3 st1.fr=some v)(hx:kf st1.mem (.sl t) v=some xs)(k: ∀b,(b=true->xs=[])->HT cx (st1.put (some t4) (.one (.bG .bool b))) y Q):HT cx st (.seq (.region id [U,o].toArray false) y) Q:=by
 subst hP;subst hN;refine HT.seq λg a w hs=>wp_region_lit ?_;refine wpList_step λK hK=>rK hs h1 trivial λg' I w' p=>hK I w' ?_;refine wpList_step λK' ae=> ?_;have hw:ϯ o (yielded [U,o].toArray I.tmps)=true:=by simp only [ϯ,hg]
 rw [if_pos hw];have hr:iz g' st1.mem st1.mem (λ_=>True) w':=λk t xs hl=>by
  refine ⟨hl,λ_ _ _=>trivial,?_⟩;have J:=p.mem k _ hl;unfold jk at J;cases j:g'.f k [] with
  |none=>rw [show g' k=none from j];rw [j] at J;exact J
  |some b=>
   rw [show g' k=some b from j];rw [j] at J;obtain ⟨arr,hb,sh⟩:=J;exact ⟨arr,hb,sh.bJ (λb _=>⟨trivial,rfl⟩) λ_ _ _=>rfl⟩
 obtain ⟨r,n,cap,e1,e2⟩:=Jl _ _ _ _ hx hr (p.fr t3 v hv);unfold Oper.wp;have he:(execOp I.eval o).run cx.P w'= .ok (.value (.bool r.isNone)) w':=by
  have e3:I.eval (.tmp t3)= .slice r n cap:=e1;have e4:I.eval (.const (.slice none 0 0))= .slice none 0 0:=rfl;simp only [execOp,aa,e3,e4,Ϛ,Bb,ϋ,EO hT,ϵ]
 rw [he];refine ae _ _ ?_;have R:=p.put (v:= .one (.bG .bool r.isNone)) (val:= .bool r.isNone) (show CR g' st1.mem (cx.safe g' st1.mem w') w' (.bG .bool r.isNone) (.bool r.isNone) from rfl) (some t4) (λt e=>by injection e with e;subst e;exact ab2 (by simpa [aaf] using ab));rw [hd];exact ⟨_,g',k r.isNone (λhb=>e2 (by simpa using hb)),R⟩
end
end Go.Ide
namespace Go.Ide
def St.bJ (ks:List Nat)(st:St):St:=⟨(ks.filterMap λt=>match lk t st.fr with
 |some v=>some (t,v)
 |none=>none),st.mem,st.nx⟩
theorem Bc {fr:Fr}{t:Nat}{v:bK}: ∀{ks:List Nat},lk t (ks.filterMap λt=>match lk t fr with|some v=>some (t,v)|none=>none)=some v->lk t fr=some v
 |[],h=>by simp [fR] at h
 |k::ks,h=>by
  rw [List.filterMap_cons] at h;split at h;exact Bc h;rename_i b j;split at j;rename_i p o;injection j with j;subst j;rw [bO] at h;split at h;rename_i e;subst e;rw [o];exact h;exact Bc h;cases j
theorem cT.N9 {cx:Cx}{g:GM}{st:St}{a:Act}{w:Ε}(ks:List Nat)(h:cT cx g st a w):cT cx g (st.bJ ks) a w:=
 h.congr (λ_ _ j=>Bc j) λ_=>rfl
def Gp (ks:List Nat):Option (St×List Prop)->Option (St×List Prop)
 |some (st,cs)=>some (st.bJ ks,cs)
 |none=>none
theorem ye {ks:List Nat}{o:Option (St×List Prop)}{st':St}{cs:List Prop}(h:Gp ks o=some (st',cs)): ∃st1,o=some (st1,cs)/\st'=st1.bJ ks:=by
 unfold Gp at h;split at h;rename_i st1 j;injection h with h;injection h with p r;subst r;exact ⟨st1,rfl,p.symm⟩;cases h
def Dg (P:Ο)(N:Nat)(ops:List Ϥ)(h:Nat)(hrs:List HR)(tds:List (List Nat))(rs:List OH)(st:St):Option (St×List Prop):=
 bif (Β hrs.length h&&ϩ h ops.length)&&nM ops (hrs.map HR.D++tds) h 0 ops then (match xY P N ops st (ops.take h) hrs [] st.nx with
  |some (ef,cs,nx)=>(match pN P N ops (ops.drop h) rs (oT st ef (λ_=>true) nx) with
   |some (st',j)=>some (st',cs++j)
   |none=>none)
  |none=>none) else none
def sX {α β:Type}:Option β->Option (α⊕β)
 |some b=>some (.inr b)
 |none=>none
theorem Pt {α β:Type}{e:Option β}{w:α⊕β}(h:sX e=some w): ∃z,e=some z/\w= .inr z:=by
 cases e with
 |none=>cases h
 |some z=>injection h with h;exact ⟨z,rfl,h.symm⟩
theorem bt {α:Type}{a b:α}(h:some a=some b):a=b:=by injection h
theorem bw {α:Type}{a b:α}(h:some a=some b):b=a:=by injection h with h;exact h.symm
theorem bm:cp []:=trivial
theorem gH {p:Prop}{r:List Prop}(h:p)(j:cp r):cp (p::r):=⟨h,j⟩
noncomputable instance {t:Ty}{xs ys:List t.D}:Decidable (cL t xs ys):=aaA _
theorem bS {α:Type}{xs:List α}{n:Int}(h:(0:Int)<=n/\n<bn xs):δ n<ζ xs:=by
 obtain ⟨o,j⟩:=h;simp only [bn] at j;omega
theorem EP {α:Type}{xs:List α}{n:Int}(h:(0:Int)<=n/\n<=bn xs):ζ (ϛ (δ n) xs)=δ n:=by
 obtain ⟨o,j⟩:=h;simp only [bn] at j;rw [ώ];omega
theorem ES {α:Type}(n:Nat)(xs:List α):ϛ n xs=ϛ (ζ (ϛ n xs)) xs:=by
 rw [ώ];rcases Nat.le_total n xs.length with h|h
 rw [Nat.min_eq_left h];rw [Nat.min_eq_right h,aan,ϳ h]
abbrev tI:Ty:= .int .i64
abbrev cC:Ty:= .sl (.int .i64)
abbrev iV (x:Int):bK:= .one (.bG (.int .i64) x)
abbrev iC (x:Int):bI:= .bG (.int .i64) x
abbrev bV (x:Bool):bK:= .one (.bG .bool x)
abbrev bC (x:Bool):bI:= .bG .bool x
abbrev nV (x:List Int):bK:= .one (.bG (.sl (.int .i64)) x)
abbrev nC (x:List Int):bI:= .bG (.sl (.int .i64)) x
abbrev oH:OH:=⟨none,.no⟩
abbrev aV (c:Nat):bK:= .one (.all c)
abbrev pV (c o:Nat):bK:= .one (.ptr c o)
def slices_Clone {α:Type}(xs:List α):Option (List α):=br (0+ζ xs<=bD) (some xs)
section
variable {cx:Cx} {st st':St} {P:Ο} {N:Nat} {Q:abI->St->Prop} {x y c:Code}
theorem HT.bJ (ks:List Nat)(h:HT cx (st.bJ ks) c Q):HT cx st c Q:=λg a w j=>h g a w (j.N9 ks)
theorem Jm {id h:Nat}{ops:List Ϥ}{hrs:List HR}{tds:List (List Nat)}{rs:List OH}{cs:List Prop}(t:cx.P=P)(I:cx.N=N)(J:P.follows .mixedOrders=true)(j:Dg P N ops h hrs tds rs st=some (st',cs))(R:cp cs)(T:Q .normal st'):HT cx st (.region id ops.toArray true) Q:=by
 unfold Dg at j;cases o:((Β hrs.length h&&ϩ h ops.length)&&nM ops (hrs.map HR.D++tds) h 0 ops) with
 |false=>rw [o] at j;cases j
 |true=>
  rw [o] at j;simp only [cond_true] at j;simp only [κ] at o;split at j;rename_i ef U nx h1;split at j;rename_i st1 N6 h2;injection j with j;injection j with e1 e2;subst e1;subst e2;obtain ⟨p,r⟩:=R.append;exact HT.drw t I J (by simp only [κ,beq_iff_eq];exact ⟨cg o.1.1,o.1.2⟩) o.2 h1 h2 p r T;cases j;cases j
theorem HT.wH {id:Nat}{ops:List Ϥ}(ks:List Nat)(rs:List OH)(st':St){cs:List Prop}(j:cx.P=P)(o:cx.N=N)(p:Gp ks (pN P N ops ops rs st)=some (st',cs))(r:cp cs)(t:HT cx st' y Q):HT cx st (.seq (.region id ops.toArray false) y) Q:=by
 obtain ⟨st1,I,J⟩:=ye p;subst J;exact HT.seq (HT.U5 j o I r (HT.bJ ks t))
def nB:bI->List Nat
 | .ptr c _=>[c]
 | .dn c _ _ _=>[c]
 | .all c=>[c]
 | .ref c _ _=>[c]
 | .row c _ _=>[c]
 | .zf c _ _ _ _ _=>[c]
 | .cls _ j=>j
 | .fP c=>[c]
 |_=>[]
def Oa:bK->List Nat
 | .one c=>nB c
 | .agg cs=>cs.flatMap nB
 | .AA j=>j.flatMap λt=>t.2.flatMap nB
 |_=>[]
def Ob:Chunk->List Nat
 | .box cs=>cs.flatMap nB
 | .pg _ _ _ cs j=>cs.flatMap nB++j
 | .gh cs _=>cs.flatMap nB
 |_=>[]
def Aj (m:Mem):List Nat->Mem
 |[]=>[]
 |k::j=>(match lk k m with
  |some c=>(k,c)::Aj m j
  |none=>Aj m j)
def S7 (own ks ms:List Nat)(st:St):Bool:=
 ((j7 ms&&(st.bJ ks).fr.all λp=>(Oa p.2).all λk=>O8 k ms)&&ms.all λk=>match lk k st.mem with
  |some c=>(Ob c).all λq=>O8 q ms
  |none=>false)&&own.all λk=>O8 k ms
def U6 (own ks ms:List Nat):Option (St×List Prop)->Option (St×List Prop)
 |some (st,cs)=>bif S7 own ks ms st then some (⟨(st.bJ ks).fr,Aj st.mem ms,st.nx⟩,cs) else none
 |none=>none
theorem Jn {own ks ms:List Nat}{st st':St}{cs j:List Prop}(h:U6 own ks ms (some (st,cs))=some (st',j)):S7 own ks ms st=true/\st'=⟨(st.bJ ks).fr,Aj st.mem ms,st.nx⟩/\j=cs:=by
 simp only [U6] at h;cases o:S7 own ks ms st with
 |false=>rw [o] at h;cases h
 |true=>
  rw [o] at h;simp only [cond_true] at h;injection h with h;injection h with p r;exact ⟨rfl,p.symm,r.symm⟩
theorem ET {m:Mem}{k:Nat}: ∀{ms:List Nat},ms.Nodup->lk k (Aj m ms)=if k∈ms then lk k m else none
 |[],_=>by simp [Aj,fR]
 |q::ms,j=>by
  simp only [aba] at j;have ih:=ET (m:=m) (k:=k) j.2;simp only [Aj];cases o:lk q m with
  |none=>
   simp only;rw [ih];by_cases e:k=q;subst e;rw [if_neg j.1,if_pos (by simp),o];simp [e]
  |some c=>
   simp only;rw [bO,ih];by_cases e:k=q;subst e;rw [if_pos rfl,if_pos (by simp),o];rw [if_neg e];simp [e]
theorem CR.sub {g:GM}{m m':Mem}{S S':Nat->Prop}{w:Ε}(T: ∀b,S b->S' b){c:bI}(U: ∀k,k∈nB c->lk k m'=lk k m){v:π}(r:CR g m S w c v):CR g m' S' w c v:=by
 have sq: ∀k,lk k m'=lk k m-> ∀t R,dH m' k t R->dH m k t R:=λk e t R h=>by unfold dH at h⊢;rw [e] at h;exact h
 cases c with
 |ptr k off=>have e:=U k (by simp [nB]);exact ⟨by rw [e];exact r.1,r.2⟩
 |dn k i sz off=>have e:=U k (by simp [nB]);exact ⟨by rw [e];exact r.1,r.2⟩
 |all k=>have e:=U k (by simp [nB]);exact ⟨by rw [e];exact r.1,r.2.1,λt R h=>r.2.2 t R (sq k e t R h)⟩
 |ref k off len=>have e:=U k (by simp [nB]);exact ⟨by rw [e];exact r.1,r.2.1,λt R h=>r.2.2 t R (sq k e t R h)⟩
 |row k i o=>have e:=U k (by simp [nB]);exact ⟨by rw [e];exact r.1,r.2.1,λt R h=>r.2.2 t R (by rw [<-e];exact h)⟩
 |zf k i o j sz off=>
  have e:=U k (by simp [nB]);obtain ⟨h1,b,h2,h3⟩:=r;exact ⟨by rw [e];exact h1,b,h2,λt R h=>h3 t R (by rw [<-e];exact h)⟩
 |bG t x=>exact abE (λb hb=>⟨T b hb,rfl⟩) t [v] x r
 |ip t x off=>
  obtain ⟨ad,es,e,hs,I,J⟩:=r;exact ⟨ad,es,e,T _ hs,I,abE (λb hb=>⟨T b hb,rfl⟩) t es x J⟩
 |bH=>exact r
 |fn f=>exact r
 |ji f t x=>
  obtain ⟨ad,es,e,hs,I,J⟩:=r;exact ⟨ad,es,e,T _ hs,I,abE (λb hb=>⟨T b hb,rfl⟩) t es x J⟩
 |cls f ks=>
  obtain ⟨ps,e,gF⟩:=r;exact ⟨ps,e,gF.imp_mem λk U7 p hp=>⟨by rw [U k U7];exact hp.1,hp.2⟩⟩
 |zP f t x=>
  obtain ⟨ad,Lh,es,e,qD,Is,hs,I,J⟩:=r;exact ⟨ad,Lh,es,e,T _ qD,Is,T _ hs,I,abE (λb hb=>⟨T b hb,rfl⟩) t es x J⟩
 |fP k=>have e:=U k (by simp [nB]);exact ⟨by rw [e];exact r.1,r.2⟩
 |dS=>exact r
 |bad=>trivial
theorem cT.gc {cx:Cx}{g:GM}{tT:St}{a:Act}{w:Ε}{own ks ms:List Nat}(h:cT cx g tT a w)(ho:cx.own.map aav=own)(hb:S7 own ks ms tT=true):cT cx g ⟨(tT.bJ ks).fr,Aj tT.mem ms,tT.nx⟩ a w:=by
 have h:=h.N9 ks;unfold S7 at hb;simp only [κ] at hb;obtain ⟨⟨⟨hn,ub⟩,hms⟩,uB⟩:=hb;have hn:=iB hn;have Cr: ∀k,k∈ms->lk k (Aj tT.mem ms)=lk k tT.mem:=λk J=>by rw [ET hn,if_pos J]
 have ae: ∀k r,lk k (Aj tT.mem ms)=some r->k∈ms/\lk k tT.mem=some r:=λk r J=>by
  rw [ET hn] at J;split at J;rename_i hm;exact ⟨hm,J⟩;cases J
 have I: ∀b,cx.safe g tT.mem w b->cx.safe g (Aj tT.mem ms) w b:=λb ⟨h1,h2,h3⟩=>⟨h1,h2,λ⟨k,p,r,q1,q2,q3⟩=>h3 ⟨k,p,r,(ae k r q1).2,q2,q3⟩⟩;have RR: ∀c v,(∀k,k∈nB c->k∈ms)->CR g tT.mem (cx.safe g tT.mem w) w c v->CR g (Aj tT.mem ms) (cx.safe g (Aj tT.mem ms) w) w c v:=λc v J U=>CR.sub I (λk aa=>Cr k (J k aa)) U;have R: ∀cs vs,(∀k,k∈cs.flatMap nB->k∈ms)->cc (CR g tT.mem (cx.safe g tT.mem w) w) cs vs->cc (CR g (Aj tT.mem ms) (cx.safe g (Aj tT.mem ms) w) w) cs vs:=λcs vs J U=>
  U.imp_mem λc hc v hv=>RR c v (λk aa=>J k (agi.2 ⟨c,hc,aa⟩)) hv
 refine ⟨h.defers.bJ (λb hb=>⟨I b hb,rfl⟩),h.size,λt v hl=> ?_,λk r J=> ?_,λk k' p p' r pL b h1 h2 h3 h4=>h.fY k k' p p' r pL b (ae k r h1).2 h2 (ae k' pL h3).2 h4,λk p r b h1=>h.iN k p r b (ae k r h1).2,λk p r b h1=>h.lt k p r b (ae k r h1).2,h.bJ,λp hp=> ?_,h.gl⟩;have hv:=h.fr t v hl;have J: ∀k,k∈Oa v->k∈ms:=λk J=>wR.1 (ϣ.1 (ϣ.1 ub _ (mD hl)) k J);cases v with
 |one c=>exact RR c _ J hv
 |agg cs=>obtain ⟨vs,e,sT⟩:=hv;exact ⟨vs,e,R cs vs J sT⟩
 |AA ts=>
  obtain ⟨vs,e,sT⟩:=hv;refine ⟨vs,e,sT.imp_mem λt ht u hc=> ?_⟩;have sY: ∀k,k∈t.2.flatMap nB->k∈ms:=λk aa=>J k (agi.2 ⟨t,ht,aa⟩);unfold CV at hc⊢;split at hc;obtain ⟨us,e',hu⟩:=hc;exact ⟨us,e',R _ us sY hu⟩;rename_i c e1 e2;rw [e2] at sY;exact RR _ _ (λk aa=>sY k (by simpa using aa)) hc;exact hc.elim
 |Ce=>exact hv
 |dS=>trivial
 obtain ⟨U7,NN⟩:=ae k r J;have U:=h.mem k r NN;have ab:=ϣ.1 hms k U7;rw [NN] at ab;have ab: ∀q,q∈Ob r->q∈ms:=λq hq=>wR.1 (ϣ.1 ab q hq);cases r with
 |gone=>trivial
 |box cs=>obtain ⟨b,arr,e,hb,gF⟩:=U;exact ⟨b,arr,e,hb,R cs _ ab gF⟩
 |mp t u xs=>exact U
 |pT T e xs=>exact U
 |gh cs vs=>exact ⟨U.1,R cs _ ab U.2⟩
 |seq t xs=>
  show jk g (Aj tT.mem ms) (cx.safe g (Aj tT.mem ms) w) w (g.f k) _;unfold jk at U⊢;cases hγ:g.f k [] with
  |none=>rw [hγ] at U;exact U
  |some b=>
   rw [hγ] at U;obtain ⟨arr,q1,q2⟩:=U;exact ⟨arr,q1,q2.bJ (λb hb=>⟨I b hb,rfl⟩) λ_ _ _=>rfl⟩
 |pg t xs i cs ks=>
  obtain ⟨FY,b,arr,q1,q2,q3,q4,es,q5,q6,q7⟩:=U;refine ⟨?_,b,arr,q1,q2,q3,λj hj iH=> ?_,es,q5,q6,R cs es (λq hq=>ab q (Λ.2 (.inl hq))) q7⟩;refine cc.Ey FY.length λj o k1 hj Hj=> ?_;obtain ⟨k1',ad,r1,r2⟩:=cc.get j FY o hj;rw [Hj] at ad;injection ad with ad;subst ad;exact ⟨by show lk k1 (Aj tT.mem ms)≠none;rw [Cr k1 (ab k1 (Λ.2 (.inr (aaN Hj))))];exact r1,r2⟩;obtain ⟨es2,r1,r2⟩:=q4 j hj iH;exact ⟨es2,r1,dw.bJ (λb hb=>⟨I b hb,rfl⟩) t (λ_ _ _=>rfl) r2⟩
 refine ⟨(h.own p hp).1,?_⟩;show lk p.1 (Aj tT.mem ms)≠none;rw [Cr p.1 (wR.1 (ϣ.1 uB p.1 (by rw [<-ho];exact Ϣ.2 ⟨p,hp,rfl⟩)))];exact (h.own p hp).2
structure gU (cx:Cx)(P:Ο)(N:Nat)(own:List Nat):Prop where
 P:cx.P=P
 N:cx.N=N
 own:cx.own.map aav=own
theorem Le.gc {own ks ms:List Nat}{o:Option (St×List Prop)}{st1:St}{cs j:List Prop}(p:gU cx P N own)(r:o=some (st1,j))(t:U6 own ks ms o=some (st',cs)):cs=j/\Le cx st1 st':=by
 subst r;obtain ⟨I,J,R⟩:=Jn t;refine ⟨R,λg a w T=>⟨g,?_⟩⟩;rw [J];exact T.gc p.own I
theorem bp (h:HT cx st y Q):vU cx y Q .normal st:=h
theorem bL {k:Nat}(h:Q (.exit k) st):vU cx y Q (.exit k) st:=h
theorem bF (h:Q .ret st):vU cx y Q .ret st:=h
theorem bB {id:Nat}(h:Q .normal st):vo id Q .normal st:=h
theorem bE {id:Nat}(h:Q .normal st):vo id Q (.exit id) st:=by
 show if id=id then Q .normal st else Q (.exit id) st
 rw [if_pos rfl];exact h
theorem LZ {id k:Nat}(j:Β k id=false)(h:Q (.exit k) st):vo id Q (.exit k) st:=by
 show if k=id then Q .normal st else Q (.exit k) st
 rw [if_neg (by rintro rfl;rw [ad1] at j;cases j)];exact h
theorem bT {id:Nat}(h:Q .ret st):vo id Q .ret st:=h
theorem bN {J:St->Prop}{k:Nat}(h:Q (.exit k) st):vV J Q (.exit k) st:=h
theorem fp {J:St->Prop}(h:Q .ret st):vV J Q .ret st:=h
theorem bM {J:St->Prop}(h:J st):vV J Q .normal st:=h
theorem HT.Dh {o:aah}{b:Bool}(j:ev st.fr o=some (.one (.bG .bool b)))(p:b=true)(r:HT cx st x Q):HT cx st (.cond o x y) Q:=HT.cond j (λ_=>r) (λh=>by rw [p] at h;cases h)
theorem HT.Ak {o:aah}{b:Bool}(j:ev st.fr o=some (.one (.bG .bool b)))(p:b=false)(r:HT cx st y Q):HT cx st (.cond o x y) Q:=HT.cond j (λh=>by rw [p] at h;cases h) (λ_=>r)
end
end Go.Ide
namespace Go.Ide
mutual
def Bd (P:Ο):Nat->Ty->Ι->Bool
 |0,_,_=>false
 |n+1,t,T=>match t with
  | .int k=>(match P.underlying T with
   |some (.int j)=>k==j
   |_=>false)
  | .dP k=>(match P.underlying T with
   |some (.float j)=>k==j
   |_=>false)
  | .bool=>(match P.underlying T with
   |some .bool=>true
   |_=>false)
  | .str=>(match P.underlying T with
   |some .string=>true
   |_=>false)
  | .sl t=>(match P.underlying T with
   |some (.slice e)=>Bd P n t e&&Β (P.cellsOf e) t.size
   |_=>false)
  | .st t=>(match P.underlying T with
   |some (.struct o)=>Oc P n t 0 o.toList&&Β (P.cellsOf T) t.size
   |_=>false)
  | .pair _ _=>false
  | .own _=>false
  | .bx _=>false
  | .cl _ _=>false
def Oc (P:Ο):Nat->Ty->Nat->List Field->Bool
 |0,_,_,_=>false
 |n+1,t,off,j=>match j with
  |[]=>false
  |[f]=>(Bd P n t f.type&&Β f.offset off)&&Β (P.cellsOf f.type) t.size
  |f::j=>match t with
   | .pair a b=>((Bd P n a f.type&&Β f.offset off)&&Β (P.cellsOf f.type) a.size)&&Oc P n b (off+a.size) j
   |_=>false
end
section
variable {H:Type} {enc:Ι×π->H} {P:Ο} {w:Ε} {base:Nat} {spare:Nat->Bool} {held:Bool}
def There (w:Ε)(b:Nat):Prop:=b<w.heap.size
def WfD:(t:Ty)->t.D->Prop
 | .int k,n=>(Lit.int k n).wf=true
 | .dP k,b=> ∃o,di k o=b/\(Lit.float k o).wf=true
 | .bool,_=>True
 | .str,s=>ζ s<=maxLen
 | .pair a b,x=>WfD a x.1/\WfD b x.2
 | .st t,x=>WfD t x
 | .sl t,j=>ζ j<=maxLen/\ ∀i (h:i<ζ j),WfD t j[i]
 | .bx t,j=>ζ j<=maxLen/\ ∀i (h:i<ζ j),WfD t j[i]
 | .cl _ _,_=>False
 | .own t,j=>ζ j<=maxLen/\ ∀i (h:i<ζ j),WfD t j[i]
theorem Al {α:Type}{R:Nat->α->Prop}: ∀(n:Nat),(∀i,i<n-> ∃x,R i x)-> ∃l:List α,l.length=n/\ ∀i (h:i<l.length),R i l[i]
 |0,_=>⟨[],rfl,λi h=>by simp at h⟩
 |n+1,h=>by
  obtain ⟨l,j,p⟩:=Al n λi o=>h i (by omega);obtain ⟨x,r⟩:=h n (by omega);refine ⟨l++[x],by simp [j],λi o=> ?_⟩;simp at o;rcases aam i n with t|I
  rw [List.getElem_append_left (by omega)];exact p i (by omega);have:i=n:=by omega
  subst this;rw [List.getElem_append_right (by omega)];simpa [j] using r
theorem L0 {k k':aaK}(h:(k==k')=true):k=k':=by cases k<;>cases k'<;>first|rfl|cases h
theorem Jo {k k':FloatKind}(h:(k==k')=true):k=k':=by cases k<;>cases k'<;>first|rfl|cases h
theorem wb: ∀(n:Nat),
 (∀(t:Ty) (T:Ι) (o:Nat) (cs:List π) (y:DataW H×List aem),Bd P n t T=true->adE enc P w base spare held o T cs=some y-> ∃x,cn (There w) w t cs x/\WfD t x)/\
 (∀(t:Ty) (off:Nat) (fs:List Field) (o:Nat) (cs:List π),Oc P n t off fs=true->(∀f∈fs,∃y,adE enc P w base spare held o f.type ((cs.drop f.offset).take (P.cellsOf f.type))=some y)->cs.length=off+t.size-> ∃x,cn (There w) w t (cs.drop off) x/\WfD t x)
 |0=>⟨λ_ _ _ _ _ h _=>by simp [Bd] at h,λ_ _ _ _ _ h _ _=>by simp [Oc] at h⟩
 |n+1=>by
  obtain ⟨Wx,Za⟩:=wb n;refine ⟨λt T o cs y h r=> ?_,λt off fs o cs h hf hl=> ?_⟩
  ·cases t with
   |int k=>
    simp only [Bd] at h;split at h;rename_i k' U;have hk:=L0 h;subst hk;obtain ⟨m,rfl,_,hwf⟩:=DataW.trod_int U r;exact ⟨m,rfl,hwf⟩;cases h
   |dP k=>
    simp only [Bd] at h;split at h
    ·rename_i k' U;have hk:=Jo h;subst hk;cases o with
     |zero=>simp [adE] at r
     |succ o=>
      unfold adE at r;rw [U] at r;split at r
      case h_3=>
       rename_i J k2 b1 p;injection p with p;injection p with p;subst p;split at r;rename_i hk;obtain ⟨Hj,sY⟩:=hk;subst Hj;exact ⟨_,⟨b1,rfl,rfl⟩,b1,rfl,sY⟩;cases r
      all_goals first|(rename_i p;cases p;done)|(rename_i p _;cases p;done)|(rename_i p _ _;cases p;done)|cases r
    cases h
   |bool=>
    simp only [Bd] at h;split at h;rename_i U;obtain ⟨m,rfl,_⟩:=DataW.trod_bool U r;exact ⟨m,rfl,trivial⟩;cases h
   |str=>
    simp only [Bd] at h;split at h;rename_i U;obtain ⟨m,rfl,_,hm⟩:=DataW.trod_string U r;exact ⟨m.data.toList,by simp [cn],by simpa [WfD] using hm⟩;cases h
   |sl t=>
    simp only [Bd] at h;split at h;rename_i e2 U;simp only [κ] at h;obtain ⟨p,I⟩:=h;have I:=cg I;rcases Go.Deep.open_slice U r with ⟨rfl,_⟩|⟨a,len,cap,m,f2,D,Pl,rfl,hb,hlc,U8,hm,_,sh⟩
    exact ⟨[],⟨none,0,rfl,ς _,λi hi=>by simp at hi⟩,by simp [WfD]⟩;have YY:len<=m:=by rw [hm];split<;>omega
    obtain ⟨xs,Ll,RE⟩:=Al (R:=λi (x:t.D)=>There w a.block/\ ∃es,(∀j v,es[j]? =some v->w.cell? (a.add (i*t.size+j))=some v)/\cn (There w) w t es x/\WfD t x) len λi hi=>by
     obtain ⟨Cc,J,k2⟩:=sh i (by omega);obtain ⟨x,k3,k4⟩:=Wx t _ _ _ _ p k2;obtain ⟨_,k5,k6⟩:=World.cells?_some J;have IS:0<P.cellsOf e2:=by rw [I];exact t.size_pos
     refine ⟨x,World.cells?_block J IS |> λq=>by simpa [There,fy] using q,Cc,λj v hv=> ?_,k3,k4⟩;have hj:j<P.cellsOf e2:=by rw [<-k5];exact (ω.1 hv).1
     rw [<-add_add,<-I,k6 j hj];exact hv
    refine ⟨xs,⟨some a,cap,by rw [Ll],by omega,λi hi=> ?_⟩,by rw [Ll];omega,λi hi=> ?_⟩;obtain ⟨q1,es,q2,q3,_⟩:=RE i hi;exact ⟨a,es,rfl,q1,q2,q3⟩;obtain ⟨_,_,_,_,q4⟩:=RE i hi;exact q4;cases h
   |pair a b=>simp [Bd] at h
   |own t=>simp [Bd] at h
   |bx t=>simp [Bd] at h
   |cl f t=>simp [Bd] at h
   |st t=>
    simp only [Bd] at h;split at h;rename_i e2 U;simp only [κ] at h;obtain ⟨p,I⟩:=h;have I:=cg I;obtain ⟨xs,f2,_,_,hl,LQ,sh⟩:=DataW.trod_struct U r;have:=Za t 0 _ f2 cs p (λf hf=>by
     obtain ⟨i,hi⟩:=adp hf;have Ca:e2[i]? =some f:=by rw [<-ϥ];exact hi
     have hlt:i<xs.length:=by rw [LQ];exact (ϝ.1 Ca).1
     exact ⟨xs[i],by rw [sh i f Ca];exact Γ hlt⟩) (by rw [hl,I,Ψ])
    obtain ⟨x,J,k2⟩:=this;rw [List.drop_zero] at J;exact ⟨x,J,k2⟩;cases h
  cases fs with
  |nil=>simp [Oc] at h
  |cons f fs=>
   cases fs with
   |nil=>
    simp only [Oc,κ] at h;obtain ⟨⟨p,I⟩,h3⟩:=h;have I:=cg I;have h3:=cg h3;obtain ⟨y,r⟩:=hf f (by simp);obtain ⟨x,J,k2⟩:=Wx t _ _ _ _ p r;refine ⟨x,?_,k2⟩;rw [I,h3,ϳ (by rw [϶];omega)] at J;exact J
   |cons f2 fs=>
    cases t with
    |pair a b=>
     simp only [Oc,κ] at h;obtain ⟨⟨⟨p,I⟩,h3⟩,h4⟩:=h;have I:=cg I;have h3:=cg h3;obtain ⟨y,r⟩:=hf f (by simp);obtain ⟨x,J,k2⟩:=Wx a _ _ _ _ p r;obtain ⟨z,k3,k4⟩:=Za b (off+a.size) _ o cs h4 (λg hg=>hf g (by simp only [ϖ] at hg⊢;exact .inr hg)) (by rw [hl];simp [Ty.size];omega);rw [I,h3] at J;refine ⟨(x,z),⟨_,_,?_,J,k3⟩,k2,k4⟩;rw [<-List.drop_drop];exact (aaC _ _).symm
    |_=>simp [Oc] at h
end
end Go.Ide
namespace Go.Ide
open Go.ChangeShapes Go.WideShapes Go.RowKit
section
variable {H:Type} {enc:Ι×π->H} {P:Ο}
def Jp (P:Ο)(ts:List Ι):Bool:=ts.all λt=>P.readableRec t&&aaf t P.types.size
theorem th (I:laidOutB P=true){W J:Ε}(R:Below W.heap.size W J): ∀{ts:List Ι} {vs:List π} {o:List (DataW H)} {p:List aem},Jp P ts=true->adz enc P W 0 (λ_=>true) true ts vs o p->(∀x∈p,x.block<W.heap.size)->
 adz enc P J 0 (λb=>decide (b<W.heap.size)) true ts vs o p
 |[],[],[],p,_,h,_=>h
 |t::ts,v::vs,d::o,p,hp,h,j=>by
  obtain ⟨T,U,h1,h2,rfl⟩:=h;simp only [Jp,List.all_cons,κ] at hp;refine ⟨T,U,Below.trod I hp.1.1 (ab2 (by simpa [aaf] using hp.1.2)) h1 R (λx r=>j x (by simp [r])),th I R (by simpa [Jp] using hp.2) h2 (λx r=>j x (by simp [r])),rfl⟩
theorem Jq {f:Func}{s:ChangeSpec}{T:Ι}{W J:Ε}{args:Array π}{o gs:List (DataW H)}{before:List aem}(hl:laidOutB P=true)(r:Jp P f.params.toList=true)(R:s.vars=[])(hr:f.resultTypes= #[T])(hT:P.underlying T=some .bool)(I:s.fn H o={results:=[.lit (.bool true)],args:=o})(U:ahq enc P f.params.toList s.vars false W args.toList o gs before)(hb:Below W.heap.size W J):s.post enc P f false true false false W args (.bool true) J:=by
 have t:=U;obtain ⟨p,q,hA,hV,rfl,UP,uq⟩:=U;rw [R] at hV;obtain ⟨rfl,rfl⟩:=trodVars_none hV;have j:s.fn H (o++[])={results:=[.lit (.bool true)],args:=o}:=by rw [ϲ];exact I
 refine ⟨o,[],p++[],[],p,[],t,?_,?_,?_,hb.frame _,λh=>by cases h⟩;rw [j,hr];exact trodAll_mk1 ⟨1,by simp [adE,hT,abU]⟩;rw [j];exact th hl hb r hA λx hx=>t.lt x (by simp [hx]);rw [R,j];rfl
theorem Jr {n:Nat}{t:Ty}{T:Ι}{W:Ε}{r:Reach}{base:Nat}{v:π}(j:Bd P n t T=true)(h:ac6 P W r base T v):dQ t v.cells.toList v:=by
 cases n with
 |zero=>simp [Bd] at j
 |succ n=>
  cases t<;>simp only [Bd] at j
  case pair=>cases j
  case own=>cases j
  case bx=>cases j
  case cl=>cases j
  case st t=>
   split at j;rename_i o e;unfold ac6 at h;rw [e] at h;obtain ⟨cs,rfl,_⟩:=h;simp [dQ,Ty.sS,abU];cases j
  all_goals
   split at j
   ·rename_i e;simp only [ac6,e,Cell.okWide,Cell.ok] at h;cases v<;>first|(simp [dQ,Ty.sS,abU];done)|(simp at h;done)|exact h.elim
   cases j
def immArgs (l:List TD):List Arg:=l.map λd=> .bZ d.t d.x
def zC (P:Ο):List Ty->List Ι->Bool
 |[],[]=>true
 |t::j,T::o=>Bd P 40 t T&&zC P j o
 |_,_=>false
theorem uE {W:Ε}{base:Nat}{spare:Nat->Bool}{held:Bool}{r:Reach}{b0:Nat}: ∀{ts:List Ty} {Ts:List Ι} {vs:List π} {U:List (DataW H)} {p:List aem},zC P ts Ts=true->adz enc P W base spare held Ts vs U p->
 (∀(j:Nat) t v,Ts[j]? =some t->vs[j]? =some v->ac6 P W r b0 t v)-> ∃l:List TD,l.map TD.t=ts/\(∀d∈l,WfD d.t d.x)/\oN (There W) W (immArgs l) vs (l.map λ_=>[])
 |[],[],[],[],p,_,_,_=>⟨[],rfl,λd I=>by simp at I,trivial⟩
 |t::ts,T::Ts,v::vs,d::U,p,o,h,J=>by
  obtain ⟨p1,p2,⟨R,h1⟩,h2,rfl⟩:=h;simp only [zC,κ] at o;obtain ⟨x,k1,k2⟩:=(wb 40).1 t T R _ _ o.1 h1;obtain ⟨l,k3,k4,k5⟩:=uE o.2 h2 λj t v hj hv=>J (j+1) t v (by simpa using hj) (by simpa using hv);refine ⟨⟨t,x⟩::l,by simp [k3],λd I=> ?_,⟨rfl,_,Jr o.1 (J 0 T v rfl rfl),k1⟩,k5⟩;rcases ϖ.1 I with e|I
  subst e;exact k2;exact k4 d I
 |[],_::_,_,_,_,o,_,_=>by simp [zC] at o
 |_::_,[],_,_,_,o,_,_=>by simp [zC] at o
theorem Js {α β:Type}: ∀(l:List α),(l.map λ_=>([]:List β)).flatten=[]
 |[]=>rfl
 |_::l=>by simp
theorem Jt {S:Nat->Prop}{w:Ε}{v:π}{F:List (List Nat->Option Nat)}(h:Es S w [⟨false,.bool,true⟩] v F):v= .bool true:=by
 obtain ⟨j,t,o⟩:=h;cases j with
 |nil=>exact t.elim
 |cons u j=>
  obtain ⟨R,T,_,I,J⟩:=t;cases j with
  |cons=>exact J.elim
  |nil=>
   have o:v=u:=o;subst o;simp only [wB] at I;obtain ⟨_,cs,p,r⟩:=I;have r:cs=[.bool true]:=r;subst r;have p:[Value.bool true]=[v]:=p;simpa using p.symm
theorem law_run {f:FuncId}{fn:Func}{s:ChangeSpec}{T:Ι}{ts:List Ty}{W:Ε}{base:Nat}{args:Array π}{J gs:List (DataW H)}{before:List aem}(hl:laidOutB P=true)(U:Jp P fn.params.toList=true)(hv:s.vars=[])(hr:fn.resultTypes= #[T])(hT:P.underlying T=some .bool)(aa:zC P ts fn.params.toList=true)(hfn:J.length=ts.length->s.fn H J={results:=[.lit (.bool true)],args:=J})(ab: ∀l:List TD,l.map TD.t=ts->(∀d∈l,WfD d.t d.x)->CallOK P f (immArgs l) [⟨false,.bool,true⟩] [])(ad: ∀(j:Nat) t v,fn.params[j]? =some t->args[j]? =some v->ac6 P W .any base t v)(hgl:Glob.ok W (There W))(hW:ahq enc P fn.params.toList s.vars false W args.toList J gs before):
 Calls P f args W λe W'=> ∃v,e= .returned v/\s.post enc P fn false true false false W args v W':=by
 have hW':=hW;obtain ⟨p,q,hA,hV,rfl,UP,uq⟩:=hW;obtain ⟨l,k1,k2,k3⟩:=uE (r:= .any) (b0:=base) aa hA λj t v hj hv=>ad j t v (by simpa using hj) (by simpa using hv);have Wy:J.length=ts.length:=by
  have aux: ∀{o:List Ι} {vs:List π} {J:List (DataW H)} {p:List aem},adz enc P W 0 (λ_=>true) true o vs J p->J.length=o.length:=by
   intro o;induction o with
   |nil=>intro vs J p h;obtain ⟨_,rfl,_⟩:=trodAll_nil h;rfl
   |cons T o ih=>
    intro vs J p h;obtain ⟨v,Hl,d,ds',p,q,rfl,rfl,rfl,_,h2⟩:=trodAll_cons h;simp [ih h2]
  have ae: ∀{ts:List Ty} {o:List Ι},zC P ts o=true->ts.length=o.length:=by
   intro ts;induction ts with
   |nil=>intro o h;cases o with
    |nil=>rfl
    |cons=>simp [zC] at h
   |cons t ts ih=>intro o h;cases o with
    |nil=>simp [zC] at h
    |cons T o=>simp only [zC,κ] at h;simp [ih h.2]
  rw [aux hA,ae aa]
 obtain ⟨_,R⟩:=ab l k1 k2;have I:=Js (β:=List Nat->Option Nat) l;have:=R W (There W) args.toList (l.map λ_=>[]) [] (by rw [I];exact vi.nil) (by rw [I];exact pM.nil) (λb hb=>⟨hb,by simp⟩) (λb hb=>by simp at hb) k3 hgl;rw [show args.toList.toArray=args from by simp] at this;refine this.mono λe W' ⟨v,A',F',e1,_,_,h1,_,h4,_⟩=> ?_;have hvt:=Jt h1;subst hvt;exact ⟨_,e1,Jq hl U hv hr hT (hfn Wy) hW' ⟨h4.os,h4.tape,h4.output,h4.size,λk hk=>h4.block k hk (by simp)⟩⟩
end
end Go.Ide
namespace Go.Ide
section
variable {σ ρ:Type} {f g:σ->Option (σ⊕ρ)}
end
end Go.Ide
namespace Go.Ide
open Go.IntWalk
def Pu {σ ρ:Type}(g:Nat->σ->σ⊕ρ)(e:σ->ρ):Nat->Nat->σ->ρ
 |0,_,s=>e s
 |k+1,i,s=>match g i s with
  | .inl j=>Pu g e k (i+1) j
  | .inr r=>r
def Pv {σ:Type}(g:Nat->σ->σ):Nat->Nat->σ->σ
 |0,_,s=>s
 |k+1,i,s=>Pv g k (i+1) (g i s)
section
variable {σ τ ρ:Type}
theorem EU {f:τ->Option (τ⊕ρ)}(mk:Nat->σ->τ)(g:Nat->σ->σ⊕ρ)(e:σ->ρ){n:Nat}(I:Nat->σ->Prop)(j: ∀i s,i<n->I i s->f (mk i s)=some (match g i s with| .inl p=> .inl (mk (i+1) p)| .inr r=> .inr r)/\(∀p,g i s= .inl p->I (i+1) p))(o: ∀s,I n s->f (mk n s)=some (.inr (e s))): ∀(k i:Nat) (s:σ),i+k=n->I i s->rounds f (mk i s)=some (Pu g e k i s)
 |0,i,s,t,h=>by
  have:i=n:=by omega
  subst this;rw [dM,o s h];rfl
 |k+1,i,s,t,h=>by
  obtain ⟨J,R⟩:=j i s (by omega) h;rw [dM,J];simp only [Pu];cases T:g i s with
  |inl p=>exact EU mk g e I j o k (i+1) p (by omega) (R p T)
  |inr r=>rfl
theorem py {f:τ->Option (τ⊕ρ)}(mk:Nat->σ->τ)(g:Nat->σ->σ)(e:σ->ρ){n:Nat}(I:Nat->σ->Prop)(j: ∀i s,i<n->I i s->f (mk i s)=some (.inl (mk (i+1) (g i s)))/\I (i+1) (g i s))(o: ∀s,I n s->f (mk n s)=some (.inr (e s))): ∀(k i:Nat) (s:σ),i+k=n->I i s->rounds f (mk i s)=some (e (Pv g k i s))/\I n (Pv g k i s)
 |0,i,s,p,h=>by
  have:i=n:=by omega
  subst this;rw [dM,o s h];exact ⟨rfl,h⟩
 |k+1,i,s,p,h=>by
  obtain ⟨r,t⟩:=j i s (by omega) h;rw [dM,r];exact py mk g e I j o k (i+1) (g i s) (by omega) t
def wI (p:Nat->Bool):Nat->Nat->Bool
 |0,_=>true
 |k+1,i=>p i&&wI p k (i+1)
theorem qj {p:Nat->Bool}: ∀{k i:Nat},wI p k i=true↔ ∀j,i<=j->j<i+k->p j=true
 |0,i=>by simp only [wI,true_iff];intro j r t;omega
 |k+1,i=>by
  simp only [wI,κ,qj (k:=k)];constructor;rintro ⟨r,t⟩ j I o;by_cases e:j=i;rw [e];exact r;exact t j (by omega) (by omega);intro h;exact ⟨h i (ς _) (by omega),λj I o=>h j (by omega) (by omega)⟩
theorem mI {f:τ->Option (τ⊕ρ)}(mk:Nat->τ)(p:Nat->Bool)(a b:ρ){n:Nat}(j: ∀i,i<n->f (mk i)=some (bif p i then .inl (mk (i+1)) else .inr b))(o:f (mk n)=some (.inr a)): ∀(k i:Nat),i+k=n->rounds f (mk i)=some (bif wI p k i then a else b)
 |0,i,r=>by
  have:i=n:=by omega
  subst this;rw [dM,o];rfl
 |k+1,i,r=>by
  rw [dM,j i (by omega)];simp only [wI];cases p i with
  |true=>simp only [cond_true,Bool.true_and];exact mI mk p a b j o k (i+1) (by omega)
  |false=>rfl
theorem fG {f:σ->Option (σ⊕ρ)}(R:Nat->σ->Prop)(Q:ρ->Prop)(step: ∀n s,R n s->(∃j o,j<n/\f s=some (.inl o)/\R j o)\/(∃r,f s=some (.inr r)/\Q r)):
 ∀(n:Nat) (s:σ),R n s-> ∃r,rounds f s=some r/\Q r:=by
 intro n;induction n using aa7 with
 |_ n ih=>
  intro s h;rw [dM f s];rcases step n s h with ⟨j,o,I,p,t⟩|⟨r,p,t⟩
  rw [p];exact ih j I o t;rw [p];exact ⟨r,rfl,t⟩
end
theorem eX {a b:Int}(h: -9223372036854775808<=a+b/\a+b<=9223372036854775807):bz .i64 a b=a+b:=i64_in _ h
theorem gE {a b:Int}(h: -9223372036854775808<=a - b/\a - b<=9223372036854775807):bW .i64 a b=a - b:=i64_in _ h
theorem uF {a b:Int}(h: -9223372036854775808<=a*b/\a*b<=9223372036854775807):dX .i64 a b=a*b:=i64_in _ h
theorem ca {i n:Nat}(h:i<n)(j:n<=4294967296):bz .i64 (i:Int) 1=((i+1:Nat):Int):=by
 rw [show ((i+1:Nat):Int)=(i:Int)+1 from by omega];exact i64_in _ (by omega)
theorem kn {i n:Nat}(h:i<n):decide ((i:Int)<(n:Int))=true:=by simp;omega
theorem ky {i n:Nat}(h:n<=i):decide ((i:Int)<(n:Int))=false:=by simp;omega
theorem eO {i n:Nat}(h:i<n):(0:Int)<=(i:Int)/\(i:Int)<(n:Int):=⟨by omega,by omega⟩
theorem S8 {c i k:Nat}(j:c<=1000)(o:i<1000)(p:k<1000):bz .i64 (dX .i64 (i:Int) (c:Int)) (k:Int)=((i*c+k:Nat):Int):=by
 have h:i*c<=1000*1000:=Nat.mul_le_mul (by omega) j;rw [uF (by rw [<-abu];omega),<-abu,eX (by omega)];omega
end Go.Ide
namespace Go.Ide
open Go.IntWalk
section
variable {α:Type}
theorem gV {xs:List α}{i:Nat}(h:i<xs.length)(d:α):xs.take (i+1)=xs.take i++[xs.getD i d]:=by
 rw [List.take_add_one,ψ,Γ h];rfl
theorem wU {ρ:Type}{f:Int->Option (Int⊕ρ)}(r:ρ)(n:Nat)(j: ∀i:Nat,i<n->f (i:Int)=some (.inl ((i+1:Nat):Int)))(o:f (n:Int)=some (.inr r)):rounds f (0:Int)=some r:=by
 have:=mI (f:=f) (λi=>((i:Nat):Int)) (λ_=>true) r r (n:=n) (λi p=>by rw [j i p];rfl) o n 0 (by omega);rw [show (0:Int)=((0:Nat):Int) from rfl,this];cases wI (λ_=>true) n 0<;>rfl
end
end Go.Ide
namespace Go.Ide
open Go.IntWalk
section
variable {α:Type}
theorem EV (l:List Int):(gy l).length=l.length:=by simp [gy]
end
end Go.Ide
namespace Go.Ide
end Go.Ide
namespace Go.Ide
section
variable {cx:Cx} {st st':St} {P:Ο} {N:Nat} {Q:abI->St->Prop} {y:Code}
theorem yf {all os2:List Ϥ}{Q:abI->Act->Ε->Prop}: ∀{os:List Ϥ} {rs:List OH} {st st':St} {cs:List Prop} {g:GM} {a:Act} {w:Ε},
 cT cx g st a w->pN cx.P cx.N all os rs st=some (st',cs)->cp cs->(∀g' a' w',cT cx g' st' a' w'->wpList cx.P all.toArray Q os2 a' w')->wpList cx.P all.toArray Q (os++os2) a w
 |[],rs,st,st',cs,g,a,w,h,j,t,p=>by
  have j:some (st,[])=some (st',cs):=by cases rs<;>exact j
  injection j with j;injection j with I T;subst I;exact p g a w h
 |o::os,[],st,st',cs,g,a,w,h,j,t,p=>by cases j
 |o::os,r::rs,st,st',cs,g,a,w,h,j,t,p=>by
  simp only [pN] at j;split at j;rename_i st1 c1 U;split at j;rename_i aa c2 h2;injection j with j;injection j with I T;subst I;subst T;obtain ⟨J,R⟩:=t.append;rw [List.cons_append];refine wpList_step λK hK=> ?_;exact rK h U J λg' a' w' hs=>hK a' w' (yf hs h2 R p);cases j;cases j
def RG (cx:Cx)(all os:List Ϥ)(st:St)(Q:abI->St->Prop):Prop:=
 ∀g a w,cT cx g st a w->wpList cx.P all.toArray (λe j w'=> ∃st' g',Q e st'/\cT cx g' st' j w') os a w
theorem HT.rg {id:Nat}{ops:List Ϥ}(h:RG cx ops ops st Q):HT cx st (.region id ops.toArray false) Q:=
 λg a w j=>wp_region_lit (h g a w j)
theorem RG.cut (n:Nat){all os:List Ϥ}(rs:List OH)(st':St){cs:List Prop}(p:cx.P=P)(r:cx.N=N)(t:pN P N all (os.take n) rs st=some (st',cs))(I:cp cs)(h:RG cx all (os.drop n) st' Q):RG cx all os st Q:=by
 subst p;subst r;intro g a w J;have:=yf (os2:=os.drop n) (Q:=λe j w'=> ∃st' g',Q e st'/\cT cx g' st' j w') J t I (λg' j w' o=>h g' j w' o);rwa [aaC] at this
theorem RG.last {all os:List Ϥ}(rs:List OH)(st':St){cs:List Prop}(o:cx.P=P)(p:cx.N=N)(r:pN P N all os rs st=some (st',cs))(t:cp cs)(I:Q .normal st'):RG cx all os st Q:=by
 subst o;subst p;exact λg a w J=>qK J r t λg' _ _ j=>⟨st',g',I,j⟩
theorem RG.j4 {all os:List Ϥ}(ks:List Nat)(rs:List OH)(st':St){cs:List Prop}(j:cx.P=P)(o:cx.N=N)(p:Gp ks (pN P N all os rs st)=some (st',cs))(r:cp cs)(t:HT cx st' y Q):RG cx all os st (vU cx y Q):=by
 obtain ⟨st1,I,J⟩:=ye p;subst J;exact RG.last rs st1 j o I r (HT.bJ ks t)
theorem Le.rg {all os:List Ϥ}(h:Le cx st st')(o:RG cx all os st' Q):RG cx all os st Q:=λg a w p=>let ⟨g',j⟩:=h g a w p;o g' a w j
end
end Go.Ide
namespace Go.Ide
open Go.IntWalk
end Go.Ide
namespace Go.Ide
open Go.IntWalk
section
variable {α:Type}
end
end Go.Ide
