import Derived.Test.YtjnkhcgmgkhnaaaGreatDoorLibB
import Derived.RangeFuncWrites
import Derived.ProofKit
import Derived.Deep.Slices
import Derived.IntWalk
set_option linter.all false
open Array renaming getD_eq_getD_getElem?→ώ,getElem?_eq_some_iff→Ϣ,getElem?_toList→ϥ,replicate→aaa,getElem?_eq_getElem→aak,getElem?_eq_none→acs,getD→ahn
open Bool renaming and_eq_true→κ,not_eq_true'→aaf,or_eq_true→aa3,or_false→abO,or_eq_false_iff→aeU
open Classical renaming propDecidable→aax,choose_spec→abr,choose→acX
open Go renaming Value→ο,World→Ε,TypeId→Ι,Program→Ξ,Oper→Ϥ,Operand→aah,IntKind→aaC,Exit→abm,MemPlace→adQ,ResultVar→afc
open Go.Call renaming operands→aed
open Go.DataW renaming TrodAll→acZ,trod→ac8,Whole→ag3
open Go.Fence renaming wide→acH
open Go.Ide.CR renaming stays→ad7
open Go.Ide.VR renaming stays→adz
open Go.Ide.bT renaming bt→abi,len→abA
open Go.Ide.iG renaming mono→adB
open Go.Ide.jc renaming stays→ae7
open Go.Region renaming wanted→ϭ,ready→ada
open Go.Result renaming andThen_ok→ϋ
open Go.Sem renaming run_bind→Ϙ,run_pure→ϳ
open Go.Value renaming cells→abz,okWide→acu
open Go.World renaming putObj_heap_other→aaD
open Int renaming toNat→δ,natCast_mul→abb
open List renaming length→ζ,getD_eq_getElem?_getD→ς,getElem?_eq_some_iff→ψ,length_append→ω,getElem?_eq_getElem→Γ,length_cons→Ζ,getElem?_append_right→Κ,mem_append→Λ,getElem?_append_left→Μ,mem_singleton→ϊ,append_assoc→ό,getElem?_take→ϐ,mem_cons→ϒ,length_take→ϙ,mem_cons_of_mem→ϛ,take→Ϝ,mem_map→ϟ,all_eq_true→ϡ,map_cons→ϱ,append_nil→ϴ,mem_cons_self→Ϻ,length_drop→aab,take_length→aam,take_of_length_le→aaw,mem_of_getElem?→aaG,flatten_cons→aaR,nodup_cons→aaV,range→abh,filter_cons_of_neg→abt,filter_cons_of_pos→abu,mem_range→abJ,mem_filter→abU,mem_range'_1→ab8,getElem?_of_mem→acM,take_append_drop→acY,length_pos_of_mem→aeB,getElem?_toArray→aeJ,mem_flatMap→afQ,mapM_cons→agk
open Nat renaming le_refl→φ,beq→Α,zero_add→Υ,lt_of_lt_of_le→ϖ,add_assoc→Ϡ,le_trans→ϣ,add_zero→ϧ,ble→ϩ,blt→aae,strongRecOn→aap,one_pos→aar,lt_or_ge→aaz,lt_of_succ_le→abD,beq_refl→adw,le_of_not_lt→aga,lt_trans→ahm
open Option renaming bind_some→η,ne_none_iff_exists'→aaI,or_eq_none_iff→aa2,none_or→abx,or_assoc→adC,or_none→adL,getD_some→afb
open Option.some renaming injEq→ag0
open Prod renaming fst→aas,snd→aeT
namespace Go.Ide
structure OH where
 tv:Option Bool
 h:Hint
def KT (N:Nat):Option Tmp->Bool
 |some t=>aae t N
 |none=>true
def St.app (st:St)(d:Option Tmp)(e:cB):St:=(st.iT (e.kZ++e.new++st.mem) (st.nx+e.new.length)).put d e.val
def tW (all:List Ϥ)(j:Nat):Option Tmp:=(all[j]?).bind (·.dst)
def mi (m:Mem):Mem->Bool
 |[]=>true
 |p::l=>(match lk p.1 m with
  |some _=>false
  |none=>true)&&mi m l
theorem fY {m:Mem}: ∀{l:Mem},mi m l=true->fe m l
 |[],_,p,hp=>by simp at hp
 |q::l,h,p,hp=>by
  simp only [mi,κ] at h;rcases ϒ.1 hp with e|hp
  subst e;cases j:lk p.1 m with
  |none=>rfl
  |some c=>rw [j] at h;cases h.1
  exact fY h.2 p hp
def sD (P:Ξ)(all:List Ϥ)(o:Ϥ)(h:Hint)(fr:Fr)(m:Mem)(nx:Nat):Option (cB×List Prop):=
 match o.guard with
 |none=>(match wc P fr m nx h o with
  |some e=>some (e,e.cond)
  |none=>none)
 |some (j,p)=>(match (tW all j).bind (λt=>lk t fr) with
  |some (.one (.bp .bool b))=>bif b==p then
   (match wc P fr m nx h o with
   |some e=>some (e,e.cond)
   |none=>none) else some (⟨.BO,[],[],[]⟩,[])
  |some .BO=>some (⟨.BO,[],[],[]⟩,[])
  |_=>none)
def Vo (tv:Option Bool):Option (cB×List Prop)->Option (cB×List Prop)
 |some (e,cs)=>(match tv with
  |none=>some (e,cs)
  |some c=>(match e.val with
   | .one (.bp .bool b)=>some (⟨.one (.bp .bool c),e.new,e.kZ,e.cond⟩,(b=c)::cs)
   |_=>none))
 |none=>none
theorem xf {tv:Option Bool}{x:Option (cB×List Prop)}{e:cB}{cs:List Prop}(h:Vo tv x=some (e,cs)):
 ∃o j,x=some (o,j)/\(bU cs->bU j/\e.val=o.val)/\e.new=o.new/\e.kZ=o.kZ/\e.cond=o.cond:=by
 cases x with
 |none=>cases h
 |some p=>
  obtain ⟨o,j⟩:=p;unfold Vo at h;cases tv with
  |none=>
   injection h with h;injection h with t I;subst t I;exact ⟨_,_,rfl,λr=>⟨r,rfl⟩,rfl,rfl,rfl⟩
  |some c=>
   simp only at h;split at h;rename_i b J;injection h with h;injection h with t I;subst t I;exact ⟨_,_,rfl,λr=>⟨r.2,by rw [J,r.1]⟩,rfl,rfl,rfl⟩;cases h
def ql (P:Ξ)(all:List Ϥ)(o:Ϥ)(r:OH)(fr:Fr)(m:Mem)(nx:Nat):Option (cB×List Prop):=Vo r.tv (sD P all o r.h fr m nx)
def FK (P:Ξ)(N:Nat)(all:List Ϥ)(o:Ϥ)(r:OH)(st:St):Option (St×List Prop):=
 match ql P all o r st.fr st.mem st.nx with
 |some (e,cs)=>bif KT N o.dst&&mi st.mem e.new then some (st.app o.dst e,cs) else none
 |none=>none
def pt (P:Ξ)(N:Nat)(all:List Ϥ):List Ϥ->List OH->St->Option (St×List Prop)
 |[],_,st=>some (st,[])
 |o::os,r::rs,st=>(match FK P N all o r st with
  |some (st1,p)=>(match pt P N all os rs st1 with
   |some (j,t)=>some (j,p++t)
   |none=>none)
  |none=>none)
 |_::_,[],_=>none
section
variable {cx:Cx} {g:GM} {st:St} {a:Act} {w:Ε}
theorem Cr {N:Nat}{d:Option Tmp}(h:KT N d=true): ∀t,d=some t->t<N:=by
 intro t e;subst e;exact abD (by simpa [KT,aae] using h)
theorem oT.T6 {e:cB}{val:ο}{w':Ε}(h:oT cx st a e val w'){d:Option Tmp}(j: ∀t,d=some t->t<cx.N): ∃g',cG cx g' (st.app d e) (a.put d val) w':=by
 obtain ⟨g',o,p⟩:=h;exact ⟨g',o.put p d j⟩
theorem GY {all:List Ϥ}{j:Nat}{b:Bool}(h:cG cx g st a w)(r:(tW all j).bind (λt=>lk t st.fr)=some (.one (.bp .bool b))):yielded all.toArray a.tmps j=some b:=by
 unfold tW at r;unfold yielded;cases J:all[j]? with
 |none=>simp [J] at r
 |some o=>
  rw [J] at r;simp only [η] at r;cases R:o.dst with
  |none=>simp [R] at r
  |some t=>
   rw [R] at r;simp only [η] at r;have U:=h.fr t _ r;have I:a.tmps.getD t undef= .bool b:=ow (g:=g) (m:=st.mem) (S:=cx.safe g st.mem w) (w:=w) U;have p:t<a.tmps.size:=by
    rcases aaz t a.tmps.size with p|T
    exact p;rw [ώ,acs T] at I;cases I
   simp only [aeJ,J,η,R];rw [ώ,aak p] at I;rw [aak p];simp only [afb] at I;rw [I]
theorem G0 {all:List Ϥ}{j:Nat}(h:cG cx g st a w)(p:(tW all j).bind (λt=>lk t st.fr)=some .BO):yielded all.toArray a.tmps j=none:=by
 unfold tW at p;unfold yielded;cases I:all[j]? with
 |none=>simp [I] at p
 |some o=>
  rw [I] at p;simp only [η] at p;cases J:o.dst with
  |none=>simp [J] at p
  |some t=>
   rw [J] at p;simp only [η] at p;have R:a.tmps.getD t undef=undef:=h.fr t _ p;simp only [aeJ,I,η,J];rcases aaz t a.tmps.size with r|T
   rw [ώ,aak r] at R;rw [aak r];simp only [afb] at R;rw [R];rfl;rw [acs T]
theorem xg {all:List Ϥ}{o:Ϥ}{r:OH}{e:cB}{cs:List Prop}{Q:abm->Act->Ε->Prop}{K:Act->Ε->Prop}(h:cG cx g st a w)(he:ql cx.P all o r st.fr st.mem st.nx=some (e,cs))(hw:fe st.mem e.new)(U:KT cx.N o.dst=true)(hc:bU cs)(hk: ∀g' a' w',cG cx g' (st.app o.dst e) a' w'->K a' w'):if ϭ o (yielded all.toArray a.tmps) then o.wp cx.P a w K Q else K (a.put o.dst undef) w:=by
 have U:=Cr U;obtain ⟨e0,N3,p,hv,hn,hu,Gt⟩:=xf he;obtain ⟨BX,hv⟩:=hv hc;obtain ⟨v0,n0,u0,c0⟩:=e;obtain rfl:v0=e0.val:=hv;obtain rfl:n0=e0.new:=hn;obtain rfl:u0=e0.kZ:=hu;have hk: ∀g' a' w',cG cx g' (st.app o.dst e0) a' w'->K a' w':=hk;have hw:fe st.mem e0.new:=hw;clear he hc Gt;unfold sD at p;split at p;rename_i hg;split at p;rename_i e' hi;injection p with p;injection p with R T;subst R;subst T;simp only [ϭ,hg,if_true];refine (zJ h hw hi BX).wp λval w' I=> ?_;obtain ⟨g',hs⟩:=I.T6 U;exact hk g' _ _ hs;cases p;rename_i j want hg;split at p;rename_i b hb;have hy:=GY h hb;cases t:(b==want) with
 |true=>
  rw [t] at p;simp only [cond_true] at p;split at p;rename_i e' hi;injection p with p;injection p with R T;subst R;subst T;have J:ϭ o (yielded all.toArray a.tmps)=true:=by
   simp only [ϭ,hg,hy];simpa using t
  rw [if_pos J];refine (zJ h hw hi BX).wp λval w' I=> ?_;obtain ⟨g',hs⟩:=I.T6 U;exact hk g' _ _ hs;cases p
 |false=>
  rw [t] at p;simp only [cond_false] at p;injection p with p;injection p with R T;subst R;subst T;have J: ¬ϭ o (yielded all.toArray a.tmps)=true:=by
   simp only [ϭ,hg,hy];simpa using t
  rw [if_neg J];exact hk g _ _ (h.put (v:= .BO) rfl o.dst U)
 rename_i hb;injection p with p;injection p with R T;subst R;subst T;have J: ¬ϭ o (yielded all.toArray a.tmps)=true:=by
  simp [ϭ,hg,G0 h hb]
 rw [if_neg J];exact hk g _ _ (h.put (v:= .BO) rfl o.dst U);cases p
theorem q9 {all:List Ϥ}{o:Ϥ}{r:OH}{st':St}{cs:List Prop}{Q:abm->Act->Ε->Prop}{K:Act->Ε->Prop}(h:cG cx g st a w)(j:FK cx.P cx.N all o r st=some (st',cs))(t:bU cs)(I: ∀g' a' w',cG cx g' st' a' w'->K a' w'):if ϭ o (yielded all.toArray a.tmps) then o.wp cx.P a w K Q else K (a.put o.dst undef) w:=by
 unfold FK at j;split at j;rename_i e J R;cases p:(KT cx.N o.dst&&mi st.mem e.new) with
 |false=>rw [p] at j;cases j
 |true=>
  rw [p] at j;simp only [cond_true] at j;simp only [κ] at p;injection j with j;injection j with T U;subst T;subst U;exact xg h R (fY p.2) p.1 t I
 cases j
theorem qm {all:List Ϥ}{Q:abm->Act->Ε->Prop}: ∀{os:List Ϥ} {rs:List OH} {st st':St} {cs:List Prop} {g:GM} {a:Act} {w:Ε},
 cG cx g st a w->pt cx.P cx.N all os rs st=some (st',cs)->bU cs->(∀g' a' w',cG cx g' st' a' w'->Q .normal a' w')->wpList cx.P all.toArray Q os a w
 |[],rs,st,st',cs,g,a,w,h,j,t,p=>by
  have j:some (st,[])=some (st',cs):=by cases rs<;>exact j
  injection j with j;injection j with I T;subst I;exact p g a w h
 |o::os,[],st,st',cs,g,a,w,h,j,t,p=>by cases j
 |o::os,r::rs,st,st',cs,g,a,w,h,j,t,p=>by
  simp only [pt] at j;split at j;rename_i st1 c1 U;split at j;rename_i aa c2 h2;injection j with j;injection j with I T;subst I;subst T;obtain ⟨J,R⟩:=t.append;refine wpList_step λK hK=> ?_;exact q9 h U J λg' a' w' hs=>hK a' w' (qm hs h2 R p);cases j;cases j
def HT (cx:Cx)(st:St)(c:Code)(Q:abm->St->Prop):Prop:=
 ∀g a w,cG cx g st a w->c.wp cx.P (λe j w'=> ∃st' g',Q e st'/\cG cx g' st' j w') a w
variable {Q Q':abm->St->Prop} {c x y:Code}
theorem HT.mono (h:HT cx st c Q)(j: ∀e s,Q e s->Q' e s):HT cx st c Q':=
 λg a w o=>wp_mono (h g a w o) λe _ _ ⟨s,g',p,r⟩=>⟨s,g',j e s p,r⟩
theorem HT.region {id:Nat}{ops:List Ϥ}{rs:List OH}{st':St}{cs:List Prop}(o:pt cx.P cx.N ops ops rs st=some (st',cs))(p:bU cs)(r:Q .normal st'):HT cx st (.region id ops.toArray false) Q:=
 λg a w t=>wp_region_lit (qm t o p λg' _ _ j=>⟨st',g',r,j⟩)
theorem HT.skip (j:Q .normal st):HT cx st .skip Q:=λg _ _ o=>wp_skip ⟨st,g,j,o⟩
theorem HT.exit {id:Nat}(j:Q (.exit id) st):HT cx st (.exit id) Q:=λg _ _ o=>wp_exit ⟨st,g,j,o⟩
theorem HT.ret (j:Q .ret st):HT cx st .ret Q:=λg _ _ o=>wp_ret ⟨st,g,j,o⟩
def vl (cx:Cx)(y:Code)(Q:abm->St->Prop):abm->St->Prop
 | .normal,s=>HT cx s y Q
 |e,s=>Q e s
theorem HT.seq (h:HT cx st x (vl cx y Q)):HT cx st (.seq x y) Q:=λg a w p=>by
 refine wp_seq (wp_mono (h g a w p) λe r w' ⟨s,g',j,o⟩=> ?_);cases e with
 |normal=>exact j g' r w' o
 |_=>exact ⟨s,g',j,o⟩
theorem HT.cond {o:aah}{b:Bool}(p:ev st.fr o=some (.one (.bp .bool b)))(r:b=true->HT cx st x Q)(t:b=false->HT cx st y Q):HT cx st (.cond o x y) Q:=λg a w j=>
 wp_cond_split (ow (g:=g) (m:=st.mem) (S:=cx.safe g st.mem w) (w:=w) (cc j p)) (λe=>r e g a w j) (λe=>t e g a w j)
def uK (id:Nat)(Q:abm->St->Prop):abm->St->Prop
 | .exit j,s=>if j=id then Q .normal s else Q (.exit j) s
 |e,s=>Q e s
theorem HT.block {id:Nat}(h:HT cx st c (uK id Q)):HT cx st (.block id c) Q:=λg a w p=>by
 refine wp_block (wp_mono (h g a w p) λe t w' ⟨s,g',j,o⟩=> ?_);cases e with
 |exit r=>
  simp only [Exit.inBlock,uK] at j⊢;split;rename_i e;rw [if_pos e] at j;exact ⟨s,g',j,o⟩;rename_i e;rw [if_neg e] at j;exact ⟨s,g',j,o⟩
 |_=>exact ⟨s,g',j,o⟩
def vm (J:St->Prop)(Q:abm->St->Prop):abm->St->Prop
 | .normal,s=>J s
 |e,s=>Q e s
theorem HT.loop {α:Type}{I:Nat->α->Prop}{S:α->St}{n:Nat}{s:α}(h0:I n s)(hz: ∀s,¬I 0 s)(round: ∀n s,I (n+1) s->HT cx (S s) c (vm (λst'=> ∃p,st'=S p/\I n p) Q)):HT cx (S s) (.loop c) Q:=λg a w T=>by
 let J:Nat->Act->Ε->Prop:=λn a w=> ∃s g,I n s/\cG cx g (S s) a w;have j: ∀a w,(∃n,J n a w)-> ∃n,J n a w/\ ∀k,J k a w->n<=k:=by
  intro a w ⟨n,o⟩;induction n using aap with
  |_ n ih=>
   by_cases h: ∃k,k<n/\J k a w;obtain ⟨k,U,hj⟩:=h;exact ih k U hj;exact ⟨n,o,λk U=>aga λaa=>h ⟨k,aa,U⟩⟩
 let μ:Act->Ε->Nat:=λa w=> @dite Nat (∃n,J n a w) (aax _) (λh=>acX (j a w h)) (λ_=>0);have r: ∀a w n,J n a w->J (μ a w) a w/\μ a w<=n:=by
  intro a w n o;have hx: ∃n,J n a w:=⟨n,o⟩;have e:μ a w=acX (j a w hx):=dif_pos hx;have:=abr (j a w hx);rw [e];exact ⟨this.1,this.2 n o⟩
 refine wp_loop (λa w=> ∃n,J n a w) μ ⟨n,s,g,h0,T⟩ λa w ⟨n,o⟩=> ?_;obtain ⟨⟨s,g,R,T⟩,_⟩:=r a w n o;cases hm:μ a w with
 |zero=>rw [hm] at R;exact absurd R (hz s)
 |succ k=>
  rw [hm] at R;refine wp_mono (round k s R g a w T) λe a' w' ⟨st',g',h1,h2⟩=> ?_;cases e with
  |normal=>
   obtain ⟨p,e,t⟩:=h1;subst e;have:=r a' w' k ⟨p,g',t,h2⟩;exact ⟨⟨k,p,g',t,h2⟩,by omega⟩
  |_=>exact ⟨st',g',h1,h2⟩
end
end Go.Ide
namespace Go.Ide
theorem xh {ch:List (Nat×Nat)}: ∀{k k':Nat},lk k ch=some k'->k'∈ch.map aeT:=λh=>ϟ.2 ⟨_,mh h,rfl⟩
def inv (ch:List (Nat×Nat)):List (Nat×Nat):=ch.map λp=>(p.2,p.1)
theorem oA: ∀{ch:List (Nat×Nat)} {k k':Nat},(ch.map aas).Nodup->(ch.map aeT).Nodup->(lk k ch=some k'↔lk k' (inv ch)=some k)
 |[],k,k',_,_=>by simp [inv,fO]
 |(a,b)::ch,k,k',o,p=>by
  simp only [ϱ,aaV] at o p;simp only [inv,ϱ];rw [bB,bB];have ih:=oA (ch:=ch) (k:=k) (k':=k') o.2 p.2;by_cases r:k=a;subst r;rw [if_pos rfl];by_cases j:k'=b;subst j;simp;rw [if_neg j];constructor;intro e;injection e with e;exact absurd e.symm j
  intro e;have:=ih.2 e;exact absurd (ϟ.2 ⟨_,mh this,rfl⟩) o.1;rw [if_neg r];by_cases j:k'=b;subst j;rw [if_pos rfl];constructor;intro e;exact absurd (xh e) p.1;intro e;injection e with e;exact absurd e.symm r
  rw [if_neg j];exact ih
end Go.Ide
namespace Go.Ide
section
variable {w w':Ε} {D:Nat} {S:Nat->Prop}
theorem FL {o:Obj}(r:w.heap[D]? =some o)(t:o.isCells=false){a:Addr}{v:ο}(h:w.cell? a=some v):a.block≠D:=λe=>by
 obtain ⟨I,j,p⟩:=cells_of_cell h;rw [e,r] at j;injection j with j;subst j;rw [t] at p;cases p
theorem mj {o:Obj}(r:w.heap[D]? =some o)(t:o.isCells=false){p:Addr}{es:List ο}{n k:Nat}(R:es.length=n)(T:0<n)(I: ∀j v,es[j]? =some v->w.cell? (p.add (k+j))=some v):p.block≠D:=by
 obtain ⟨v,J⟩: ∃v,es[0]? =some v:=⟨es[0],Γ (by omega)⟩;have:=FL r t (I 0 v J);rwa [fm] at this
theorem oV.dD {o:Obj}(p:w.heap[D]? =some o)(r:o.isCells=false): ∀{ns:List Nat} {vs ps:List ο},(∀n∈ns,0<n)->vs.length=ns.sum->oV S w ns vs ps->oV (λb=>S b/\b≠D) w ns vs ps
 |[],_,[],_,_,_=>trivial
 |n::ns,vs,_::_,t,J,⟨⟨R,e,T,I⟩,U⟩=>by
  have h1:=t n Ϻ;simp only [List.sum_cons] at J;refine ⟨⟨R,e,⟨T,mj (k:=0) (n:=n) (es:=vs.take n) p r (by rw [ϙ];omega) h1 λj v hv=>by rw [Υ];exact I j v hv⟩,I⟩,oV.dD p r (λk hk=>t k (ϛ _ hk)) (by rw [aab];omega) U⟩
 |[],_,_::_,_,_,h=>h.elim
 |_::_,_,[],_,_,h=>h.elim
theorem Ty.Cs: ∀(t:Ty),t.sj.sum=t.size
 | .pair a b=>by simp [Ty.sj,Ty.size,Ty.Cs b]
 | .st _=>by simp [Ty.sj]
 | .int _=>rfl
 | .dB _=>rfl
 | .bool=>rfl
 | .str=>rfl
 | .sl _=>rfl
 | .own _=>rfl
 | .bx _=>rfl
 | .cl _ _=>rfl
theorem Ty.Ct: ∀(t:Ty),∀n∈t.sj,0<n
 | .pair a b,n,h=>by
  rcases ϒ.1 h with rfl|h
  exact a.size_pos;exact Ty.Ct b n h
 | .st t,n,h=>by rw [ϊ.1 h];exact (Ty.st t).size_pos
 | .int _,n,h=>by rw [ϊ.1 h];exact aar
 | .dB _,n,h=>by rw [ϊ.1 h];exact aar
 | .bool,n,h=>by rw [ϊ.1 h];exact aar
 | .str,n,h=>by rw [ϊ.1 h];exact aar
 | .sl _,n,h=>by rw [ϊ.1 h];exact aar
 | .own _,n,h=>by rw [ϊ.1 h];exact aar
 | .bx _,n,h=>by rw [ϊ.1 h];exact aar
 | .cl _ _,n,h=>by rw [ϊ.1 h];exact aar
theorem bT.dD {o:Obj}(I:w.heap[D]? =some o)(J:o.isCells=false): ∀(t:Ty) (cs:List ο) (x:t.D),bT S w t cs x->bT (λb=>S b/\b≠D) w t cs x
 | .int _,_,_,r=>r
 | .dB _,_,_,r=>r
 | .bool,_,_,r=>r
 | .str,_,_,r=>r
 | .pair a b,_,x,⟨c1,c2,e,h1,h2⟩=>⟨c1,c2,e,bT.dD I J a c1 x.1 h1,bT.dD I J b c2 x.2 h2⟩
 | .st t,cs,x,r=>bT.dD I J t cs x r
 | .sl t,_,xs,⟨a,cap,e,hc,r⟩=>⟨a,cap,e,hc,λi R=>by
  obtain ⟨T,es,ea,U,j,p⟩:=r i R;exact ⟨T,es,ea,⟨U,mj I J (abA t es _ p) t.size_pos j⟩,j,bT.dD I J t es _ p⟩⟩
 | .own t,_,xs,⟨a,cap,e,hc,r⟩=>⟨a,cap,e,hc,λi R=>by
  obtain ⟨T,es,ea,U,j,p⟩:=r i R;exact ⟨T,es,ea,⟨U,mj I J (abA t es _ p) t.size_pos j⟩,j,bT.dD I J t es _ p⟩⟩
 | .cl f t,_,x,⟨vs,ps,e,r,hp⟩=>⟨vs,ps,e,bT.dD I J t vs x r,oV.dD I J t.Ct (by rw [Ty.Cs];exact abA t vs x r) hp⟩
 | .bx t,_,xs,⟨T,e,r⟩=>⟨T,e,λi R=>by
  obtain ⟨es,U,j,p⟩:=r i R;exact ⟨es,⟨U,mj I J (abA t es _ p) t.size_pos j⟩,j,bT.dD I J t es _ p⟩⟩
variable {g:GM} {m:Mem}
theorem CR.dD {o:Obj}(J:w.heap[D]? =some o)(R:o.isCells=false){c:bs}{v:ο}(I:CR g m S w c v):CR g m (λb=>S b/\b≠D) w c v:=by
 cases c with
 |bp t x=>exact bT.dD J R t [v] x I
 |ip t x off=>
  obtain ⟨T,es,e,U,p,r⟩:=I;exact ⟨T,es,e,⟨U,mj (k:=0) J R (abA t es _ r) t.size_pos (λj u hu=>by rw [Υ];exact p j u hu)⟩,p,bT.dD J R t es x r⟩
 |jb f t x=>
  obtain ⟨T,es,e,U,p,r⟩:=I;exact ⟨T,es,e,⟨U,mj (k:=0) J R (abA t es _ r) t.size_pos (λj u hu=>by rw [Υ];exact p j u hu)⟩,p,bT.dD J R t es x r⟩
 |cls=>exact I
 |fK=>exact I
 |zq f t x=>
  obtain ⟨T,KM,es,e,qg,HQ,U,p,r⟩:=I;exact ⟨T,KM,es,e,⟨qg,FL J R HQ⟩,HQ,⟨U,mj (k:=0) J R (abA t es _ r) t.size_pos (λj u hu=>by rw [Υ];exact p j u hu)⟩,p,bT.dD J R t es x r⟩
 |ptr=>exact I
 |cZ=>exact I
 |all=>exact I
 |ref=>exact I
 |row=>exact I
 |yK=>exact I
 |br=>exact I
 |fn=>exact I
 |dE=>exact I
 |bad=>trivial
theorem VR.dD {o:Obj}(r:w.heap[D]? =some o)(I:o.isCells=false): ∀{c:bu} {v:ο},VR g m S w c v->VR g m (λb=>S b/\b≠D) w c v
 | .one _,_,j=>CR.dD r I j
 | .agg _,_,⟨J,e,j⟩=>⟨J,e,j.mono λ_ _=>CR.dD r I⟩
 | .Ab _,_,⟨J,e,j⟩=>⟨J,e,j.mono λt v p=>by
  unfold CV at p⊢;split at p;obtain ⟨R,T,U⟩:=p;exact ⟨R,T,U.mono λ_ _=>CR.dD r I⟩;exact CR.dD r I p;exact p.elim⟩
 | .BO,_,h=>h
 | .dE,_,_=>trivial
theorem de.dD {R:Obj}(p:w.heap[D]? =some R)(r:R.isCells=false): ∀(t:Ty) {γ:List Nat->Option Nat} {o:Nat} {cs:List ο} {x:t.D},de S w t γ o cs x->de (λb=>S b/\b≠D) w t γ o cs x
 | .own t,γ,o,cs,xs,⟨v,e,U,j⟩=>by
  refine ⟨v,e,U,?_⟩;cases T:γ [o] with
  |none=>rw [T] at j;exact j
  |some b=>
   rw [T] at j;obtain ⟨arr,hb,hi⟩:=j;exact ⟨arr,hb,λi hl=>let ⟨es,I,J⟩:=hi i hl;⟨es,I,de.dD p r t J⟩⟩
 | .pair a b,γ,o,cs,x,⟨c1,c2,e,I,J⟩=>⟨c1,c2,e,de.dD p r a I,de.dD p r b J⟩
 | .st t,γ,o,cs,x,j=>de.dD p r t (o:=o) (cs:=cs) (x:=x) j
 | .int k,_,_,cs,x,j=>bT.dD p r (.int k) cs x j
 | .dB k,_,_,cs,x,j=>bT.dD p r (.dB k) cs x j
 | .bool,_,_,cs,x,j=>bT.dD p r .bool cs x j
 | .str,_,_,cs,x,j=>bT.dD p r .str cs x j
 | .sl t,_,_,cs,x,j=>bT.dD p r (.sl t) cs x j
 | .bx t,_,_,cs,x,j=>bT.dD p r (.bx t) cs x j
 | .cl f t,_,_,cs,x,j=>bT.dD p r (.cl f t) cs x j
theorem jc.dD {o:Obj}(I:w.heap[D]? =some o)(J:o.isCells=false){γ:List Nat->Option Nat}{ch:Chunk}(r:jc g m S w γ ch):jc g m (λb=>S b/\b≠D) w γ ch:=by
 cases ch with
 |gone=>trivial
 |box cs=>
  obtain ⟨b,arr,e,p,hc⟩:=r;exact ⟨b,arr,e,p,hc.mono λ_ _=>CR.dD I J⟩
 |mp t u U=>exact r
 |pA T e U=>exact r
 |gh cs vs=>exact ⟨r.1,r.2.mono λ_ _=>CR.dD I J⟩
 |seq t U=>
  cases R:γ [] with
  |none=>simp only [jc,R] at r⊢;exact r
  |some b=>
   simp only [jc,R] at r⊢;obtain ⟨arr,p,he⟩:=r;exact ⟨arr,p,λi hi=>let ⟨es,h1,h2⟩:=he i hi;⟨es,h1,de.dD I J t h2⟩⟩
 |oS t U i cs ks=>
  obtain ⟨Ft,b,arr,e,p,hi,hj,es,h1,h2,h3⟩:=r;refine ⟨Ft,b,arr,e,p,hi,λj hl iH=> ?_,es,h1,h2,h3.mono λ_ _=>CR.dD I J⟩;obtain ⟨es,k1,k2⟩:=hj j hl iH;exact ⟨es,k1,de.dD I J t k2⟩
end
section
variable {cx:Cx} {g:GM} {st:St} {a:Act} {w w':Ε}
theorem cG.Ng {D:Nat}{o:Obj}(h:cG cx g st a w)(hD:w.heap[D]? =some o)(hn:o.isCells=false)(H8: ∀es ck,o≠ .map es ck)(hw:cx.w0.heap.size<=D)(Ze:w'.os=w.os)(X0:w'.tape=w.tape)(Zf:w'.output=w.output)(nu:w.heap.size<=w'.heap.size)(hb: ∀b,b<w.heap.size->b≠D->w'.heap[b]? =w.heap[b]?){a':Act}(ht:a'.tmps=a.tmps)(hd:yL cx g st.mem w' a'.defers):cG cx g st a' w':=by
 have hDl:D<w.heap.size:=(Ϣ.1 hD).1;have I: ∀b arr,dm w b arr->dm w' b arr:=λb arr RL=>RL.bt (hb b RL.lt (λe=>by
  obtain ⟨T,lo,hi,R,_⟩:=RL;rw [e,hD] at R;injection R with R;subst R;cases hn))
 have r: ∀b,(cx.safe g st.mem w b/\b≠D)->cx.safe g st.mem w' b/\w'.heap[b]? =w.heap[b]? :=λb ⟨⟨R,h2,h3⟩,h4⟩=>⟨⟨ϖ R nu,h2,h3⟩,hb b R h4⟩;have tK:iG g g st.mem st.mem (λb=>cx.safe g st.mem w b/\b≠D) (cx.safe g st.mem w') w w':={
  safe:=r
  nN:=λc hc=>⟨hc,rfl⟩
  old:=λc t xs _ hs=>⟨xs,hs,rfl⟩
  dm:=λc t xs b arr _ _ _ qK=>⟨arr,I b arr qK,rfl⟩
  BQ:=λc _=>rfl
  rows:=λc t ig _ hc=>⟨ig,hc,cy.refl _ _,λi o b arr _ qK=>⟨arr,I b arr qK,rfl⟩⟩}
 refine ⟨hd,by rw [ht];exact h.size,λt v zu=>by rw [ht];exact adz tK (VR.dD hD hn (h.fr t v zu)),λk ch hk=> ?_,h.fV,h.iF,λk p ch b R h2 h3=>ϖ (h.lt k p ch b R h2 h3) nu,?_,h.own,h.gl⟩;have J:=jc.dD hD hn (h.mem k ch hk);revert J;generalize hγ:g.f k=γ;intro J;have qU: ∀(t:Ty) {γ:List Nat->Option Nat} {o:Nat} {cs:List ο} {x:t.D},de (λb=>cx.safe g st.mem w b/\b≠D) w t γ o cs x->de (cx.safe g st.mem w') w' t γ o cs x:=by
  intro t;induction t with
  |own t ih=>
   intro γ o cs xs ⟨v,e,ha,U⟩;refine ⟨v,e,ha.stays λb arr _ qK=>⟨arr,I b arr qK,rfl⟩,?_⟩;cases hg:γ [o] with
   |none=>rw [hg] at U;exact U
   |some b=>
    rw [hg] at U;obtain ⟨arr,qK,hi⟩:=U;exact ⟨arr,I b arr qK,λi hl=>let ⟨es,R,h2⟩:=hi i hl;⟨es,R,ih h2⟩⟩
  |pair a b Od Oe=>exact λ⟨c1,c2,e,R,h2⟩=>⟨c1,c2,e,Od R,Oe h2⟩
  |st t ih=>exact λ {γ o cs x} U=>ih (γ:=γ) (o:=o) (cs:=cs) (x:=x) U
  |int k=>exact λ {γ o cs x} U=>abi r (.int k) cs x U
  |dB k=>exact λ {γ o cs x} U=>abi r (.dB k) cs x U
  |bool=>exact λ {γ o cs x} U=>abi r .bool cs x U
  |str=>exact λ {γ o cs x} U=>abi r .str cs x U
  |sl t _=>exact λ {γ o cs x} U=>abi r (.sl t) cs x U
  |bx t _=>exact λ {γ o cs x} U=>abi r (.bx t) cs x U
  |cl f t _=>exact λ {γ o cs x} U=>abi r (.cl f t) cs x U
 cases ch with
 |gone=>trivial
 |box cs=>
  obtain ⟨b,arr,e,oY,hc⟩:=J;exact ⟨b,arr,e,I b arr oY,hc.mono λ_ _=>ad7 tK⟩
 |mp t u xs=>
  obtain ⟨b,es,ck,e,Nh,hc⟩:=J;exact ⟨b,es,ck,e,(hb b (Ϣ.1 Nh).1 (λe=>by rw [e,hD] at Nh;injection Nh with Nh;exact H8 es ck Nh)).trans Nh,hc.mono λ_ _ ⟨k1,k2⟩=>⟨k1.bt,k2.bt⟩⟩
 |gh cs vs=>exact ⟨J.1,J.2.mono λ_ _=>ad7 tK⟩
 |pA T e xs=>
  obtain ⟨h0,b,p,v,R,h2,h3,h4⟩:=J;have key: ∀(k:Nat) (o':Obj),w.heap[k]? =some o'->o'.isCells=true->w'.heap[k]? =w.heap[k]? :=λk o' hk hc=>hb k (Ϣ.1 hk).1 (λe=>by rw [e,hD] at hk;injection hk with hk;rw [hk,hc] at hn;cases hn);refine ⟨h0,b,p,v,R,h2,(key b _ h3 rfl).trans h3,h4.bt λg hg=> ?_⟩;unfold tu at h4;rw [hg] at h4;obtain ⟨cap,cur,_,q,_⟩:=h4;exact key g _ q rfl
 |seq t xs=>
  cases RM:γ [] with
  |none=>simp only [jc,RM] at J⊢;exact J
  |some b=>
   simp only [jc,RM] at J⊢;obtain ⟨arr,oY,he⟩:=J;exact ⟨arr,I b arr oY,λi hi=>let ⟨es,R,h2⟩:=he i hi;⟨es,R,qU t h2⟩⟩
 |oS t xs i cs ks=>
  obtain ⟨Ft,b,arr,e,oY,hi,hj,es,R,h2,h3⟩:=J;refine ⟨Ft,b,arr,e,I b arr oY,hi,λj hl iH=> ?_,es,R,h2,h3.mono λ_ _=>ad7 tK⟩;obtain ⟨es,k1,k2⟩:=hj j hl iH;exact ⟨es,k1,qU t k2⟩
 refine ⟨Ze.trans h.bt.os,X0.trans h.bt.tape,Zf.trans h.bt.output,ϣ h.bt.size nu,λb R h2=> ?_,λb arr RL=> ?_⟩;rw [hb b (ϖ R h.bt.size) (by omega)];exact h.bt.block b R h2;obtain ⟨dZ,R,h2⟩:=h.bt.sz b arr RL;exact ⟨dZ,I b dZ R,h2⟩
theorem cG.grown {row:Option Nat}(h:cG cx g st a w)(j:w.grownBy w' row)(hr: ∀r,row=some r->cx.w0.heap.size<=r/\ ∃o:Obj,w.heap[r]? =some o/\o.isCells=false/\(∀es ck,o≠ .map es ck)/\o≠ .deferred (some [])):cG cx g st a w':=by
 cases row with
 |some r=>
  obtain ⟨h1,o,U,h3,J,h4⟩:=hr r rfl;refine h.Ng U h3 J h1 j.os j.tape j.output j.size (λb p R=>j.block b p (λe=>R (by injection e))) rfl ?_;obtain ⟨h0,Ds,e,hn,hD⟩:=h.defers;refine ⟨h0,Ds,e,hn,λD hm=> ?_⟩;obtain ⟨t,k2,k3⟩:=hD D hm;refine ⟨(j.block D (Ϣ.1 t).1 (λe=> ?_)).trans t,k2,k3⟩;injection e with e;subst e;rw [U] at t;injection t with t;exact h4 t
 |none=>
  have k:bJ [] w w':=⟨j.os,j.tape,j.output,j.size,λb p _=>j.block b p (λe=>by cases e),λb arr p=>⟨arr,p.bt (j.block b p.lt (λe=>by cases e)),rfl⟩⟩;exact h.tC (nx':=st.nx) ⟨k,λb p=>by simp at p,λ_ _=>rfl,λk ch T=> .inl ⟨T,λ_ _ _ _ p=>by simp at p⟩,λk ch T I=>by rw [T] at I;cases I⟩
theorem cG.OB (h:cG cx g st a w): ∃o:List Nat,(∀b,b∈o↔Live g st.mem b)/\cG {cx with w0:=w,S:=cx.safe g st.mem w,F:=o} g st {a with defers:=[]} w:=by
 obtain ⟨o,J⟩: ∃o:List Nat,∀b,b∈o↔Live g st.mem b:=by
  refine ⟨(abh w.heap.size).filter λb=> @decide (Live g st.mem b) (aax _),λb=> ?_⟩;rw [abU];constructor;exact λh=> @of_decide_eq_true _ (aax _) h.2;rintro I;obtain ⟨k,p,r,R,T,U⟩:=id I;exact ⟨abJ.2 (h.lt k p r b R T U),@decide_eq_true _ (aax _) I⟩
 refine ⟨o,J,.nil,h.size,λt v I=> ?_,λk r hk=> ?_,h.fV,λk p r b R T U=> .inr ((J b).2 ⟨k,p,r,R,T,U⟩),h.lt,bJ.refl _ _,h.own,h.KX,λb j=>⟨j.1,λhm=>j.2.2 ((J b).1 hm)⟩⟩;exact adz (adB λb j=>⟨j.1,λ_=>j,j.2.2⟩) (h.fr t v I);exact ae7 (adB λb j=>⟨j.1,λ_=>j,j.2.2⟩) (λ_ _ _ _=>rfl) (h.mem k r hk)
theorem cG.OC {g':GM}{st':St}{a':Act}{F':List Nat}(h:cG cx g st a w)(hF: ∀b,b∈F'↔Live g st.mem b)(j:cG {cx with w0:=w,S:=cx.safe g st.mem w,F:=F'} g' st' a' w')(hd:yL cx g' st'.mem w' a'.defers):cG cx g' st' a' w':=by
 have o: ∀b,Cx.safe {cx with w0:=w,S:=cx.safe g st.mem w,F:=F'} g' st'.mem w' b->cx.safe g' st'.mem w' b:=λb ⟨I,J,h3⟩=>⟨I,λR=>(J (ϖ R h.bt.size)).2.1 R,h3⟩;refine ⟨hd,j.size,λt v hl=>adz (adB o) (j.fr t v hl),λk ch hk=>ae7 (adB o) (λ_ _ _ _=>rfl) (j.mem k ch hk),j.fV,λk p ch b I J h3=> ?_,j.lt,?_,j.own,h.gl⟩;rcases j.iF k p ch b I J h3 with r|r
 exact .inl (ϣ h.bt.size r);obtain ⟨k0,p0,c0,q1,q2,q3⟩:=(hF b).1 r;exact h.iF k0 p0 c0 b q1 q2 q3;refine ⟨j.bt.os.trans h.bt.os,j.bt.tape.trans h.bt.tape,j.bt.output.trans h.bt.output,ϣ h.bt.size j.bt.size,λb hb hf=> ?_,
  λb arr hb=>let ⟨T,I,e1⟩:=h.bt.sz b arr hb;let ⟨U,J,e2⟩:=j.bt.sz b T I;⟨U,J,e2.trans e1⟩⟩
 rw [j.bt.block b (ϖ hb h.bt.size) ?_];exact h.bt.block b hb hf;intro hm;obtain ⟨k0,p0,c0,q1,q2,q3⟩:=(hF b).1 hm;rcases h.iF k0 p0 c0 b q1 q2 q3 with r|r
 omega;exact hf r
end
end Go.Ide
namespace Go.Ide
def toIV (t:Ty)(cs:List bs):bu:=if t.sk then .agg cs else (match cs with|[c]=> .one c|_=> .dE)
def dx:List Arg->Nat->Nat->Fr×List Chunk
 |[],_,_=>([],[])
 | .bP t x::r,i,n=>((i,toIV t (gE t x))::(dx r (i+1) n).1,(dx r (i+1) n).2)
 | .fW t x::r,i,n=>((i,.one (.ip t x 0))::(dx r (i+1) n).1,(dx r (i+1) n).2)
 | .fn f::r,i,n=>((i,.one (.fn f))::(dx r (i+1) n).1,(dx r (i+1) n).2)
 | .jb f t x::r,i,n=>((i,.one (.jb f t x))::(dx r (i+1) n).1,(dx r (i+1) n).2)
 | .nl::r,i,n=>((i,.one .br)::(dx r (i+1) n).1,(dx r (i+1) n).2)
 | .mv t x::r,i,n=>
  ((i,toIV t (cN t x n).1)::(dx r (i+1) (n+(cN t x n).2.length)).1,(cN t x n).2++(dx r (i+1) (n+(cN t x n).2.length)).2)
 | .own t x::r,i,n=>
  ((i,toIV t (cN t x n).1)::(dx r (i+1) (n+(cN t x n).2.length)).1,(cN t x n).2++(dx r (i+1) (n+(cN t x n).2.length)).2)
def D9 (j:Nat):List Nat->Bool
 |[]=>false
 |a::l=>Α j a||D9 j l
theorem Cu {j:Nat}: ∀{l:List Nat},D9 j l=true↔j∈l
 |[]=>by simp [D9]
 |a::l=>by simp [D9,Cu (l:=l)]
def fZ:List Arg->Nat->List Nat
 |[],_=>[]
 | .own t x::r,n=>List.range' n (cN t x n).2.length++fZ r (n+(cN t x n).2.length)
 | .mv t x::r,n=>fZ r (n+(cN t x n).2.length)
 | .bP _ _::r,n=>fZ r n
 | .fW _ _::r,n=>fZ r n
 | .fn _::r,n=>fZ r n
 | .jb _ _ _::r,n=>fZ r n
 | .nl::r,n=>fZ r n
def tn (args:List Arg):St:=⟨(dx args 0 0).1,cm 0 (dx args 0 0).2,(dx args 0 0).2.length⟩
def Cv (P:Ξ)(m:Mem)(fr:Fr):List afc->Option (List bu)
 |[]=>some []
 | .tmp t::r=>match lk t fr,Cv P m fr r with
  |some v,some l=>some (v::l)
  |_,_=>none
 | .cell t T::r=>match lk t fr,Cv P m fr r with
  |some (.one (.ptr c off)),some l=>(match pB P m T (.one (.ptr c off)) with
   |some e=>some (e.val::l)
   |none=>none)
  |_,_=>none
def Ea (m:Mem):List (Bool×Ty)->List bu->Option (List RV×List Nat)
 |[],[]=>some ([],[])
 |(fresh,t)::o,v::p=>match Ea m o p with
  |some (rs,j)=>if fresh then (match j5 m t v,dG m t v.cells with
   |some x,some (k,[])=>some (⟨true,t,x⟩::rs,k++j)
   |_,_=>none) else (match j5 [] t v with
   |some x=>some (⟨false,t,x⟩::rs,j)
   |none=>none)
  |none=>none
 |_,_=>none
def fQ (m:Mem):(t:Ty)->t.D->Nat->Option (t.D×Nat×List Prop)
 | .pair a b,x,n=>match fQ m a x.1 n with
  |some (y,r,I)=>(match fQ m b x.2 r with
   |some (z,J,R)=>some ((y,z),J,I++R)
   |none=>none)
  |none=>none
 | .st t,x,n=>fQ m t x n
 | .sl t,p,n=>match lk n m with
  |some (.seq o j)=>if h:o=t then some (cE (congrArg Ty.sl h) j,n+1,bif t.top then [ζ j=ζ p] else [cy t p (cE (a:= .sl o) (b:= .sl t) (congrArg Ty.sl h) j)]) else none
  |_=>none
 | .own t,p,n=>match lk n m with
  |some (.seq o j)=>if h:o=t then some ((cE (a:= .sl o) (b:= .sl t) (congrArg Ty.sl h) j:List t.D),n+1,bif t.top then [ζ j=ζ p] else [cy t p (cE (a:= .sl o) (b:= .sl t) (congrArg Ty.sl h) j)]) else none
  |_=>none
 | .bx t,p,n=>match lk n m with
  |some (.seq o j)=>if h:o=t then some ((cE (a:= .sl o) (b:= .sl t) (congrArg Ty.sl h) j:List t.D),n+1,bif t.top then [ζ j=ζ p] else [cy t p (cE (a:= .sl o) (b:= .sl t) (congrArg Ty.sl h) j)]) else none
  |_=>none
 | .int _,x,n=>some (x,n,[])
 | .dB _,x,n=>some (x,n,[])
 | .bool,x,n=>some (x,n,[])
 | .str,x,n=>some (x,n,[])
 | .cl _ _,_,_=>none
def jf (m:Mem):List Arg->Nat->Option (List TD×List Prop)
 |[],_=>some ([],[])
 | .own t x::r,n=>match fQ m t x n with
  |some (y,j,o)=>(match jf m r j with
   |some (l,p)=>some (⟨t,y⟩::l,o++p)
   |none=>none)
  |none=>none
 | .mv t x::r,n=>jf m r (n+(cN t x n).2.length)
 | .bP _ _::r,n=>jf m r n
 | .fW _ _::r,n=>jf m r n
 | .fn _::r,n=>jf m r n
 | .jb _ _ _::r,n=>jf m r n
 | .nl::r,n=>jf m r n
def Cw (P:Ξ)(fn:Func)(args:List Arg)(ts:List (Bool×Ty))(rs:List RV)(outs:List TD)(st:St):Prop:=
 ∃o j cs,Cv P st.mem st.fr fn.results.toList=some o/\Ea st.mem ts o=some (rs,j)/\jX j=true/\j.all (λk=> !(D9 k (fZ args 0)))=true/\jf st.mem args 0=some (outs,cs)/\bU cs
def Iw (P:Ξ)(fn:Func)(args:List Arg)(ts:List (Bool×Ty))(rs:List RV)(outs:List TD):abm->St->Prop
 | .normal,st=>Cw P fn args ts rs outs st
 | .ret,st=>Cw P fn args ts rs outs st
 |_,_=>False
section
variable {S:Nat->Prop} {w:Ε}
theorem toIV_VR {g:GM}{m:Mem}{t:Ty}{cs:List ο}{j:List bs}{v:ο}(h:dC t cs v)(p:bN (CR g m S w) j cs):VR g m S w (toIV t j) v:=by
 unfold dC at h;unfold toIV;split;rename_i o;rw [if_pos o] at h;exact ⟨cs,h,p⟩;rename_i o;rw [if_neg o] at h;subst h;cases j with
 |nil=>exact p.elim
 |cons c r=>
  cases r with
  |nil=>exact p.1
  |cons=>exact p.2.elim
theorem uL {S2:Nat->Prop}(U: ∀b,S b->S2 b): ∀{args:List Arg} {vals:List ο} {As:List (List (List Nat->Option Nat))} (i n:Nat),o7 S w args vals As->As.flatten.length=(dx args i n).2.length/\o7 S2 w args vals As/\
 ∀(g':GM) (m':Mem),(∀j ch,(dx args i n).2[j]? =some ch->lk (n+j) m'=some ch)->(∀j o,As.flatten[j]? =some o->g'.f (n+j)=o)->
  (∀t v,lk t (dx args i n).1=some v->i<=t/\ ∃u,vals[t - i]? =some u/\VR g' m' S2 w v u)/\Laid g' m' S2 w n (dx args i n).2 As.flatten
 |[],[],[],i,n,_=>⟨rfl,trivial,λg' m' _ _=>⟨λt v h=>by simp [dx,fO] at h,rfl,λj ch R=>by simp [dx] at R⟩⟩
 |arg::args,v::vals,F::Fs,i,n,⟨h1,h2⟩=>by
  have plain: ∀(iv:bu),F=[]->dx (arg::args) i n=((i,iv)::(dx args (i+1) n).1,(dx args (i+1) n).2)->(∀(g':GM) (m':Mem),VR g' m' S2 w iv v)->yP S2 w arg v F->
   (F::Fs).flatten.length=(dx (arg::args) i n).2.length/\o7 S2 w (arg::args) (v::vals) (F::Fs)/\
   ∀(g':GM) (m':Mem),(∀j ch,(dx (arg::args) i n).2[j]? =some ch->lk (n+j) m'=some ch)->(∀j o,(F::Fs).flatten[j]? =some o->g'.f (n+j)=o)->
    (∀t u,lk t (dx (arg::args) i n).1=some u->i<=t/\ ∃x,(v::vals)[t - i]? =some x/\VR g' m' S2 w u x)/\Laid g' m' S2 w n (dx (arg::args) i n).2 (F::Fs).flatten:=by
   intro iv I he hv hA;obtain ⟨k1,k2,k3⟩:=uL U (i+1) n h2;have RN:(F::Fs).flatten=Fs.flatten:=by rw [I];rfl
   rw [RN];refine ⟨by rw [he];exact k1,⟨hA,k2⟩,λg' m' hm hg=> ?_⟩;rw [he] at hm⊢;obtain ⟨q1,q2⟩:=k3 g' m' hm hg;refine ⟨λt u J=> ?_,q2⟩;simp only at J;rw [bB] at J;split at J;rename_i e;subst e;injection J with J;subst J;exact ⟨φ _,v,by simp,hv g' m'⟩;obtain ⟨a1,x,a2,a3⟩:=q1 t u J;refine ⟨by omega,x,?_,a3⟩;rw [show t - i=(t - (i+1))+1 from by omega];simpa using a2
  have T: ∀(t:Ty) (x:t.D),dx (arg::args) i n=((i,toIV t (cN t x n).1)::(dx args (i+1) (n+(cN t x n).2.length)).1,(cN t x n).2++(dx args (i+1) (n+(cN t x n).2.length)).2)->
   (∃cs,dC t cs v/\dt S w t cs x F)->((∃cs,dC t cs v/\dt S2 w t cs x F)->yP S2 w arg v F)->
   (F::Fs).flatten.length=(dx (arg::args) i n).2.length/\o7 S2 w (arg::args) (v::vals) (F::Fs)/\
   ∀(g':GM) (m':Mem),(∀j ch,(dx (arg::args) i n).2[j]? =some ch->lk (n+j) m'=some ch)->(∀j o,(F::Fs).flatten[j]? =some o->g'.f (n+j)=o)->
    (∀t u,lk t (dx (arg::args) i n).1=some u->i<=t/\ ∃x,(v::vals)[t - i]? =some x/\VR g' m' S2 w u x)/\Laid g' m' S2 w n (dx (arg::args) i n).2 (F::Fs).flatten:=by
   intro t x he ⟨cs,hv,ho⟩ hA;have ho:=dt.mono U t ho;obtain ⟨l2,b2,k2⟩:=uL U (i+1) (n+(cN t x n).2.length) h2;have l1:F.length=(cN t x n).2.length:=by rw [ff,dt.sO t ho]
   rw [aaR];refine ⟨by rw [he];simp only [ω,l1,l2],⟨hA ⟨cs,hv,ho⟩,b2⟩,λg' m' hm hg=> ?_⟩;rw [he] at hm⊢;obtain ⟨p1,q1⟩:=pH t n ho g' m' (λj ch R=>hm j ch (by
    simp only;rw [Μ (ψ.1 R).1];exact R)) (λj o R=>hg j o (by
    rw [Μ (ψ.1 R).1];exact R))
   obtain ⟨p2,q2⟩:=k2 g' m' (λj ch R=>by
    rw [Ϡ];refine hm _ ch ?_;simp only;rw [Κ (by omega)];simpa using R) (λj o R=>by
    rw [Ϡ];refine hg _ o ?_;rw [Κ (by omega),l1];simpa using R)
   refine ⟨λt' u J=> ?_,q1.app q2⟩;simp only at J;rw [bB] at J;split at J;rename_i e;subst e;injection J with J;subst J;exact ⟨φ _,v,by simp,toIV_VR hv p1⟩;obtain ⟨a1,x,a2,a3⟩:=p2 t' u J;refine ⟨by omega,x,?_,a3⟩;rw [show t' - i=(t' - (i+1))+1 from by omega];simpa using a2
  cases arg with
  |bP t x=>
   obtain ⟨I,cs,hv,hr⟩:=h1;have r:=abi (λb hb=>⟨U b hb,rfl⟩) t cs x hr;exact plain _ I rfl (λg' m'=>toIV_VR hv (lg t r)) ⟨I,cs,hv,r⟩
  |fW t x=>
   obtain ⟨I,ad,es,e,hs,p,hr⟩:=h1;have r:=abi (λb hb=>⟨U b hb,rfl⟩) t es x hr;exact plain _ I rfl (λg' m'=>⟨ad,es,by rw [e];simp [Addr.add],U _ hs,p,r⟩) ⟨I,ad,es,e,U _ hs,p,r⟩
  |fn f=>
   obtain ⟨I,e⟩:=h1;exact plain _ I rfl (λg' m'=>e) ⟨I,e⟩
  |jb f t x=>
   obtain ⟨I,ad,es,e,hs,p,hr⟩:=h1;have r:=abi (λb hb=>⟨U b hb,rfl⟩) t es x hr;exact plain _ I rfl (λg' m'=>⟨ad,es,e,U _ hs,p,r⟩) ⟨I,ad,es,e,U _ hs,p,r⟩
  |nl=>
   obtain ⟨I,e⟩:=h1;exact plain _ I rfl (λg' m'=>e) ⟨I,e⟩
  |own t x=>exact T t x rfl h1 λh=>h
  |mv t x=>exact T t x rfl h1 λh=>h
 |[],[],_::_,_,_,h=>h.elim
 |[],_::_,_,_,_,h=>h.elim
 |_::_,[],_,_,_,h=>h.elim
 |_::_,_::_,[],_,_,h=>h.elim
end
section
variable {cx:Cx} {g:GM} {st:St} {a:Act} {w:Ε}
def G1 (tmps:Array ο):afc->Sem ο
 | .tmp t=>pure (tmps.getD t undef)
 | .cell x t=>do loadVar t (<-asAddr (tmps.getD x undef))
theorem xi (h:cG cx g st a w): ∀{R:List afc} {vs:List bu},Cv cx.P st.mem st.fr R=some vs->
 ∃vals:List ο,(R.mapM (G1 a.tmps)).run cx.P w= .ok vals w/\bN (VR g st.mem (cx.safe g st.mem w) w) vs vals
 |[],vs,o=>by simp only [Cv] at o;injection o with o;subst o;exact ⟨[],rfl,trivial⟩
 | .tmp t::R,vs,o=>by
  simp only [Cv] at o;split at o;rename_i v l U hl;injection o with o;subst o;obtain ⟨vals,h1,h2⟩:=xi h hl;exact ⟨a.tmps.getD t undef::vals,by simp [agk,G1,h1],h.fr t v U,h2⟩;cases o
 | .cell t T::R,vs,o=>by
  simp only [Cv] at o;split at o;rename_i c off l U hl;split at o;rename_i e j;injection o with o;subst o;obtain ⟨vals,h1,h2⟩:=xi h hl;have J:=h.fr t _ U;have p:e.cond=[]:=by
   unfold pB at j;split at j;rename_i I _ _;cases I;rename_i I _ _;cases I;split at j;split at j;unfold cz at j;injection j with j;rw [<-j]
   cases j;cases j;cases j
  obtain ⟨_,_,r,h3,h4⟩:=qT h.mem j (by rw [p];trivial) J;obtain ⟨_,b,_,I⟩:=J;rw [I] at h3;simp only [Instr.loadAt,Instr.sureAddr,Ϙ,ϳ,ϋ] at h3;exact ⟨r::vals,by simp [agk,G1,I,asAddr,h3,h1],h4,h2⟩;cases o;cases o
theorem Ix (hm:j6 g st.mem (cx.safe g st.mem w) w){t:Ty}{v:bu}{x:t.D}{ks:List Nat}{u:ο}(j:j5 st.mem t v=some x)(hk:dG st.mem t v.cells=some (ks,[]))(hv:VR g st.mem (cx.safe g st.mem w) w v u):
 ∃cs A,dC t cs u/\dt (cx.safe g st.mem w) w t cs x A/\j7 g st.mem ks A:=by
 have o: ∃p,dC t p u/\bN (CR g st.mem (cx.safe g st.mem w) w) v.cells p/\impl st.mem t v.cells=some (x,[]):=by
  unfold j5 at j;split at j;rename_i c r;split at j;rename_i y T;injection j with j;subst j;exact ⟨[u],by simp [dC,r],⟨hv,trivial⟩,T⟩;cases j;rename_i cs r;split at j;rename_i y T;injection j with j;subst j;obtain ⟨U,e,aa⟩:=hv;exact ⟨U,by simp [dC,r,e],aa,T⟩;cases j;cases j
 obtain ⟨p,I,J,R⟩:=o;obtain ⟨v1,v2,A,e1,o1,a1,q1,s1,_⟩:=Aq hm (λ_ h=>h) t R hk J;have:v2=[]:=by cases v2 with|nil=>rfl|cons=>exact a1.elim
 subst this;rw [ϴ] at e1;subst e1;exact ⟨p,A,I,o1,s1⟩
theorem Cy (h:cG cx g st a w): ∀{ts:List (Bool×Ty)} {vs:List bu} {vals:List ο} {rs:List RV} {ks:List Nat},Ea st.mem ts vs=some (rs,ks)->bN (VR g st.mem (cx.safe g st.mem w) w) vs vals->
 ∃A,nv (cx.safe g st.mem w) w rs vals A/\j7 g st.mem ks A
 |[],[],vals,rs,ks,j,o=>by
  simp only [Ea] at j;injection j with j;injection j with p r;subst p;subst r;cases vals with
  |nil=>exact ⟨[],rfl,j7.nil⟩
  |cons=>exact o.elim
 |(fresh,t)::ts,v::vs,[],rs,ks,j,o=>o.elim
 |(fresh,t)::ts,v::vs,u::vals,rs,ks,j,o=>by
  simp only [Ea] at j;split at j;rename_i aa ab h1;obtain ⟨A,R,T⟩:=Cy h h1 o.2;split at j;rename_i hf;split at j;rename_i x k I hk;injection j with j;injection j with p r;subst p;subst r;obtain ⟨cs,U,q1,J,q3⟩:=Ix h.mem I hk o.1;refine ⟨U++A,⟨U,A,rfl,?_,R⟩,q3.app T⟩;unfold wQ;rw [if_pos rfl];exact ⟨cs,q1,J⟩;cases j;rename_i hf;split at j;rename_i x I;injection j with j;injection j with p r;subst p;subst r;obtain ⟨cs,q1,J⟩:=mY (S2:=cx.safe g st.mem w) (λ_ h=>h) ij.nil I o.1;refine ⟨A,⟨[],A,rfl,?_,R⟩,T⟩;unfold wQ;rw [if_neg (by simp)];exact ⟨rfl,cs,q1,J⟩;cases j;cases j
 |[],_::_,_,_,_,j,_=>by simp [Ea] at j
 |_::_,[],_,_,_,j,_=>by cases j
end
theorem Cz {S S':Nat->Prop}{w0 w:Ε}{g:GM}{m:Mem}(hm:j6 g m S' w)(hk: ∀b arr,dm w0 b arr-> ∃r,dm w b r/\r.size=arr.size){t:Ty}{cs:List ο}{xs ys:List t.D}{A:List (List Nat->Option Nat)}{n:Nat}(ho:fX S w0 t cs xs A)(hl:lk n m=some (.seq t ys))(T:bU (bif t.top then [ζ ys=ζ xs] else [cy t xs ys]))(h3: ∀j o,A[j]? =some o->g.f (n+j)=o):A.length=1/\fX S' w t cs ys A/\cy t xs ys:=by
 have I:cy t xs ys:=by
  cases ht:t.top with
  |true=>rw [ht] at T;exact cy.top ht T.1.symm
  |false=>rw [ht] at T;exact T.1
 have p:ys.length=xs.length:=I.1.symm;have J:=hm n _ hl;rcases ho with ⟨U,hx,a,e⟩|⟨v,γ,U,e,b,cap,arr,h0,ev,q1,q2,q3,q4,q5,q6⟩
 subst U;refine ⟨rfl,.inl ⟨rfl,?_,a,e⟩,I⟩;rw [hx] at p;exact List.eq_nil_of_length_eq_zero p;subst U;have hg:=h3 0 γ rfl;rw [ϧ] at hg;unfold jc at J;rw [hg,h0] at J;obtain ⟨r,r1,r2⟩:=J;obtain ⟨R,s1,s2⟩:=hk b arr q3;have:=s1.eq r1;subst this;exact ⟨rfl,.inr ⟨v,γ,rfl,e,b,cap,R,h0,by rw [p];exact ev,by rw [p];exact q1,q2,r1,by rw [s2];exact q4,q5,r2⟩,I⟩
theorem Iy {S S':Nat->Prop}{w0 w:Ε}{g:GM}{m:Mem}(U:j6 g m S' w)(hk: ∀b arr,dm w0 b arr-> ∃p,dm w b p/\p.size=arr.size){t:Ty}{cs:List ο}{xs ys:List t.D}{A:List (List Nat->Option Nat)}{n:Nat}(ho:zx S w0 t cs xs A)(hl:lk n m=some (.seq t ys))(I:bU (bif t.top then [ζ ys=ζ xs] else [cy t xs ys]))(h3: ∀j o,A[j]? =some o->g.f (n+j)=o):A.length=1/\zx S' w t cs ys A/\cy t xs ys:=by
 have J:cy t xs ys:=by
  cases ht:t.top with
  |true=>rw [ht] at I;exact cy.top ht I.1.symm
  |false=>rw [ht] at I;exact I.1
 have r:=U n _ hl;obtain ⟨γ,b,arr,hF,e,R,q3,q6⟩:=ho;subst hF;have T:=h3 0 γ rfl;rw [ϧ] at T;unfold jc at r;rw [T,R] at r;obtain ⟨p,r1,r2⟩:=r;exact ⟨rfl,⟨γ,b,p,rfl,e,R,r1,r2⟩,J⟩
theorem qn {S S':Nat->Prop}{w0 w:Ε}{g:GM}{m:Mem}(hm:j6 g m S' w)(hk: ∀b arr,dm w0 b arr-> ∃T,dm w b T/\T.size=arr.size): ∀(t:Ty) {cs:List ο} {x y:t.D} {A:List (List Nat->Option Nat)} {n I:Nat} {cd:List Prop},
 dt S w0 t cs x A->fQ m t x n=some (y,I,cd)->bU cd->(∀j o,A[j]? =some o->g.f (n+j)=o)->I=n+A.length/\dt S' w t cs y A/\sN t x y
 | .int k,cs,x,y,A,n,I,cd,⟨U,hr⟩,h,r,p=>by simp only [fQ] at h;injection h with h;injection h with J h;injection h with R e3;subst J;subst R;subst U;exact ⟨rfl,⟨rfl,hr⟩,trivial⟩
 | .dB k,cs,x,y,A,n,I,cd,⟨U,hr⟩,h,r,p=>by simp only [fQ] at h;injection h with h;injection h with J h;injection h with R e3;subst J;subst R;subst U;exact ⟨rfl,⟨rfl,hr⟩,trivial⟩
 | .bool,cs,x,y,A,n,I,cd,⟨U,hr⟩,h,r,p=>by simp only [fQ] at h;injection h with h;injection h with J h;injection h with R e3;subst J;subst R;subst U;exact ⟨rfl,⟨rfl,hr⟩,trivial⟩
 | .str,cs,x,y,A,n,I,cd,⟨U,hr⟩,h,r,p=>by simp only [fQ] at h;injection h with h;injection h with J h;injection h with R e3;subst J;subst R;subst U;exact ⟨rfl,⟨rfl,hr⟩,trivial⟩
 | .st t,cs,x,y,A,n,I,cd,ho,h,r,p=>qn hm hk t (cs:=cs) (x:=x) (y:=y) ho h r p
 | .pair a b,cs,x,y,A,n,I,cd,⟨c1,c2,A1,A2,J,R,o1,o2⟩,h,r,p=>by
  subst R;simp only [fQ] at h;split at h;rename_i y1 n1 cd1 Zg;split at h;rename_i y2 n2 cd2 Zh;injection h with h;injection h with k1 h;injection h with k2 k3;subst k1;subst k2;subst k3;obtain ⟨Ox,tq⟩:=r.append;obtain ⟨r1,r2,r5⟩:=qn hm hk a o1 Zg Ox (λj o hj=>p j o (by rw [Μ (ψ.1 hj).1];exact hj));subst r1;obtain ⟨r3,r4,r6⟩:=qn hm hk b o2 Zh tq (λj o hj=>by
   rw [Ϡ];refine p _ o ?_;rw [Κ (by omega)];simpa using hj)
  exact ⟨by rw [r3,ω];omega,⟨c1,c2,A1,A2,J,rfl,r2,r4⟩,r5,r6⟩;cases h;cases h
 | .sl t,cs,xs,y,A,n,I,cd,ho,h,r,p=>by
  simp only [fQ] at h;split at h;rename_i t' ys hl;split at h;rename_i he;subst he;injection h with h;injection h with k1 h;injection h with k2 k3;subst k1;subst k2;subst k3;obtain ⟨r1,r2,r3⟩:=Cz hm hk ho hl r p;exact ⟨by rw [r1],r2,r3⟩;cases h;cases h
 | .own t,cs,xs,y,A,n,I,cd,ho,h,r,p=>by
  simp only [fQ] at h;split at h;rename_i t' ys hl;split at h;rename_i he;subst he;injection h with h;injection h with k1 h;injection h with k2 k3;subst k1;subst k2;subst k3;obtain ⟨r1,r2,r3⟩:=Cz hm hk ho hl r p;exact ⟨by rw [r1],r2,r3⟩;cases h;cases h
 | .cl _ _,_,_,_,_,_,_,_,_,h,_,_=>by cases h
 | .bx t,cs,xs,y,A,n,I,cd,ho,h,r,p=>by
  simp only [fQ] at h;split at h;rename_i t' ys hl;split at h;rename_i he;subst he;injection h with h;injection h with k1 h;injection h with k2 k3;subst k1;subst k2;subst k3;obtain ⟨r1,r2,r3⟩:=Iy hm hk ho hl r p;exact ⟨by rw [r1],r2,r3⟩;cases h;cases h
theorem ir {S S':Nat->Prop}{w0 w:Ε}{g:GM}{m:Mem}(hm:j6 g m S' w)(hk: ∀b arr,dm w0 b arr-> ∃dZ,dm w b dZ/\dZ.size=arr.size): ∀{args:List Arg} {vals:List ο} {As:List (List (List Nat->Option Nat))} {n:Nat} {outs:List TD} {cd:List Prop},
 o7 S w0 args vals As->jf m args n=some (outs,cd)->bU cd->(∀j o,As.flatten[j]? =some o->n+j∈fZ args n->g.f (n+j)=o)->il S' w args vals As outs
 |[],[],[],n,outs,cd,_,h,_,_=>by
  simp only [jf] at h;injection h with h;injection h with e1 e2;subst e1;trivial
 | .bP t x::p,v::T,F::U,n,outs,cd,I,h,R,r=>ir hm hk (args:=p) (vals:=T) (As:=U) I.2 h R (by have e:F=[]:=I.1.1;rw [e] at r;exact r)
 | .fW t x::p,v::T,F::U,n,outs,cd,I,h,R,r=>ir hm hk (args:=p) (vals:=T) (As:=U) I.2 h R (by have e:F=[]:=I.1.1;rw [e] at r;exact r)
 | .fn f::p,v::T,F::U,n,outs,cd,I,h,R,r=>ir hm hk (args:=p) (vals:=T) (As:=U) I.2 h R (by have e:F=[]:=I.1.1;rw [e] at r;exact r)
 | .jb f t x::p,v::T,F::U,n,outs,cd,I,h,R,r=>ir hm hk (args:=p) (vals:=T) (As:=U) I.2 h R (by have e:F=[]:=I.1.1;rw [e] at r;exact r)
 | .nl::p,v::T,F::U,n,outs,cd,I,h,R,r=>ir hm hk (args:=p) (vals:=T) (As:=U) I.2 h R (by have e:F=[]:=I.1.1;rw [e] at r;exact r)
 | .mv t x::p,v::T,F::U,n,outs,cd,⟨⟨cs,hv,ho⟩,I⟩,h,R,r=>by
  have hl:F.length=(cN t x n).2.length:=by rw [ff,dt.sO t ho]
  refine ir hm hk (args:=p) (vals:=T) (As:=U) (n:=n+(cN t x n).2.length) I h R λj o hj J=> ?_;rw [Ϡ] at J⊢;refine r _ o ?_ J;rw [aaR,Κ (by omega),hl];simpa using hj
 | .own t x::p,v::T,F::U,n,outs,cd,⟨⟨cs,hv,ho⟩,I⟩,h,R,r=>by
  simp only [jf] at h;split at h;rename_i y n1 c1 hy;split at h;rename_i l c2 hl;injection h with h;injection h with k1 k2;subst k1;subst k2;obtain ⟨Ox,tq⟩:=R.append;have hlen:F.length=(cN t x n).2.length:=by rw [ff,dt.sO t ho]
  obtain ⟨r1,r2,r3⟩:=qn hm hk t ho hy Ox (λj o hj=>r j o (by rw [aaR,Μ (ψ.1 hj).1];exact hj) (by
   have:=(ψ.1 hj).1;simp only [fZ,Λ,ab8];left;omega))
  subst r1;have:=ir hm hk I hl tq (λj o hj J=>by
   rw [Ϡ] at J⊢;refine r _ o ?_ ?_;rw [aaR,Κ (by omega)];simpa using hj;simp only [fZ,Λ];right;rw [<-hlen];exact J)
  exact ⟨⟨rfl,cs,hv,r2,r3⟩,this⟩;cases h;cases h
theorem jJ {S:Nat->Prop}{w:Ε}: ∀{args:List Arg} {vals:List ο} {As:List (List (List Nat->Option Nat))} (n:Nat),o7 S w args vals As-> ∀j γ p b,As.flatten[j]? =some γ->γ p=some b->n+j∈fZ args n\/tO b args As
 |[],[],[],n,h,j,γ,p,b,r,_=>by simp at r
 | .bP _ _::o,_::I,F::J,n,h,j,γ,p,b,r,hp=>by have e:F=[]:=h.1.1;subst e;exact jJ (args:=o) (vals:=I) (As:=J) n h.2 j γ p b r hp
 | .fW _ _::o,_::I,F::J,n,h,j,γ,p,b,r,hp=>by have e:F=[]:=h.1.1;subst e;exact jJ (args:=o) (vals:=I) (As:=J) n h.2 j γ p b r hp
 | .fn _::o,_::I,F::J,n,h,j,γ,p,b,r,hp=>by have e:F=[]:=h.1.1;subst e;exact jJ (args:=o) (vals:=I) (As:=J) n h.2 j γ p b r hp
 | .jb _ _ _::o,_::I,F::J,n,h,j,γ,p,b,r,hp=>by have e:F=[]:=h.1.1;subst e;exact jJ (args:=o) (vals:=I) (As:=J) n h.2 j γ p b r hp
 | .nl::o,_::I,F::J,n,h,j,γ,p,b,r,hp=>by have e:F=[]:=h.1.1;subst e;exact jJ (args:=o) (vals:=I) (As:=J) n h.2 j γ p b r hp
 | .mv t x::o,v::I,F::J,n,⟨⟨cs,hv,T⟩,U⟩,j,γ,p,b,r,hp=>by
  have hl:F.length=(cN t x n).2.length:=by rw [ff,dt.sO t T]
  rw [aaR] at r;by_cases R:j<F.length;rw [Μ R] at r;exact .inr (.inl ⟨γ,aaG r,p,hp⟩);rw [Κ (by omega)] at r;rcases jJ (args:=o) (vals:=I) (As:=J) (n+(cN t x n).2.length) U _ γ p b r hp with h|h
  left;simp only [fZ];rwa [show n+(cN t x n).2.length+(j - F.length)=n+j by omega] at h;exact .inr (.inr h)
 | .own t x::o,v::I,F::J,n,⟨⟨cs,hv,T⟩,U⟩,j,γ,p,b,r,hp=>by
  have hl:F.length=(cN t x n).2.length:=by rw [ff,dt.sO t T]
  rw [aaR] at r;by_cases R:j<F.length;left;simp only [fZ,Λ,ab8];left;omega;rw [Κ (by omega)] at r;rcases jJ (args:=o) (vals:=I) (As:=J) (n+(cN t x n).2.length) U _ γ p b r hp with h|h
  left;simp only [fZ,Λ];right;rwa [show n+(cN t x n).2.length+(j - F.length)=n+j by omega] at h;exact .inr h
theorem qo {m:Mem}: ∀(t:Ty) {x y:t.D} {n p:Nat} {cd:List Prop},fQ m t x n=some (y,p,cd)->p=n+(cN t x n).2.length/\ ∀k,n<=k->k<p-> ∃t ys,lk k m=some (.seq t ys)
 | .int _,_,_,_,_,_,h=>by simp only [fQ] at h;injection h with h;injection h with _ h;injection h with h _;subst h;exact ⟨rfl,λk j o=>by omega⟩
 | .dB _,_,_,_,_,_,h=>by simp only [fQ] at h;injection h with h;injection h with _ h;injection h with h _;subst h;exact ⟨rfl,λk j o=>by omega⟩
 | .bool,_,_,_,_,_,h=>by simp only [fQ] at h;injection h with h;injection h with _ h;injection h with h _;subst h;exact ⟨rfl,λk j o=>by omega⟩
 | .str,_,_,_,_,_,h=>by simp only [fQ] at h;injection h with h;injection h with _ h;injection h with h _;subst h;exact ⟨rfl,λk j o=>by omega⟩
 | .cl _ _,_,_,_,_,_,h=>by cases h
 | .st t,x,y,_,_,_,h=>qo t (x:=x) (y:=y) h
 | .pair a b,x,_,n,p,cd,h=>by
  simp only [fQ] at h;split at h;rename_i y1 n1 c1 j;split at h;rename_i z1 n2 c2 o;injection h with h;injection h with _ h;injection h with h _
  subst h;obtain ⟨T,U⟩:=qo a j;obtain ⟨e2,k2⟩:=qo b o;subst T;refine ⟨by rw [e2];simp [cN,Ϡ],λk j o=> ?_⟩;by_cases I:k<n+(cN a x.1 n).2.length;exact U k j I;exact k2 k (by omega) o;cases h;cases h
 | .sl t,J,_,n,p,cd,h=>by
  simp only [fQ] at h;split at h;rename_i R ys r;split at h;injection h with h;injection h with _ h;injection h with h _
  subst h;refine ⟨rfl,λk j o=> ?_⟩;have:k=n:=by omega
  subst this;exact ⟨_,_,r⟩;cases h;cases h
 | .own t,J,_,n,p,cd,h=>by
  simp only [fQ] at h;split at h;rename_i R ys r;split at h;injection h with h;injection h with _ h;injection h with h _
  subst h;refine ⟨rfl,λk j o=> ?_⟩;have:k=n:=by omega
  subst this;exact ⟨_,_,r⟩;cases h;cases h
 | .bx t,J,_,n,p,cd,h=>by
  simp only [fQ] at h;split at h;rename_i R ys r;split at h;injection h with h;injection h with _ h;injection h with h _
  subst h;refine ⟨rfl,λk j o=> ?_⟩;have:k=n:=by omega
  subst this;exact ⟨_,_,r⟩;cases h;cases h
theorem iu {m:Mem}: ∀{args:List Arg} {n:Nat} {outs:List TD} {cd:List Prop},jf m args n=some (outs,cd)-> ∀k,k∈fZ args n-> ∃t ys,lk k m=some (.seq t ys)
 |[],_,_,_,_,k,o=>by simp [fZ] at o
 | .bP _ _::j,n,outs,cd,h,k,o=>iu (args:=j) (n:=n) (outs:=outs) (cd:=cd) h k o
 | .fW _ _::j,n,outs,cd,h,k,o=>iu (args:=j) (n:=n) (outs:=outs) (cd:=cd) h k o
 | .fn _::j,n,outs,cd,h,k,o=>iu (args:=j) (n:=n) (outs:=outs) (cd:=cd) h k o
 | .jb _ _ _::j,n,outs,cd,h,k,o=>iu (args:=j) (n:=n) (outs:=outs) (cd:=cd) h k o
 | .nl::j,n,outs,cd,h,k,o=>iu (args:=j) (n:=n) (outs:=outs) (cd:=cd) h k o
 | .mv t x::j,n,outs,cd,h,k,o=>iu (args:=j) (n:=n+(cN t x n).2.length) (outs:=outs) (cd:=cd) h k o
 | .own t x::j,n,outs,cd,h,k,o=>by
  simp only [jf] at h;split at h;rename_i y R T p;split at h;rename_i l U r;obtain ⟨I,J⟩:=qo t p;simp only [fZ,Λ,ab8] at o;rcases o with o|o
  exact J k o.1 (by omega);exact iu r k (by rw [I];exact o);cases h;cases h
theorem Iz: ∀(l:List ο),BZ l (if h:l.toArray.size=1 then l.toArray[0] else .tuple l.toArray)
 |[]=>rfl
 |[_]=>rfl
 |_::_::_=>rfl
theorem nb: ∀{args:List Arg} {i n k:Nat},k∈fZ args n->k<n+(dx args i n).2.length
 |[],_,_,_,h=>by simp [fZ] at h
 | .bP _ _::j,i,n,k,h=>nb (args:=j) (i:=i+1) h
 | .fW _ _::j,i,n,k,h=>nb (args:=j) (i:=i+1) h
 | .fn _::j,i,n,k,h=>nb (args:=j) (i:=i+1) h
 | .jb _ _ _::j,i,n,k,h=>nb (args:=j) (i:=i+1) h
 | .nl::j,i,n,k,h=>nb (args:=j) (i:=i+1) h
 | .mv t x::j,i,n,k,h=>by
  have:=nb (args:=j) (i:=i+1) (n:=n+(cN t x n).2.length) h;simp only [dx,ω];omega
 | .own t x::j,i,n,k,h=>by
  simp only [fZ,Λ,ab8] at h;simp only [dx,ω];rcases h with h|h
  omega;have:=nb (args:=j) (i:=i+1) h;omega
theorem CallOK.CA {P:Ξ}{f:FuncId}{fn:Func}{c:Code}{args:List Arg}{ts:List (Bool×Ty)}{rs:List RV}{outs:List TD}(hf:P.funcs[f]? =some fn)(hb:fn.body=some c)(IA:(fn.name=="runtime.NumGoroutine")=false)(hn:args.length<=fn.ntmps)(nd:Bool)(h: ∀cx:Cx,cx.P=P->cx.N=fn.ntmps->cx.own.map aas=fZ args 0->(Cd args=true->cx.HP)->cx.nd=nd->HT cx (tn args) c (Iw P fn args ts rs outs)):CallOK P f args rs outs:=by
 refine ⟨⟨fn,hf,IA,by rw [hb];rfl⟩,λw S vals As F hB hI hS RO ha Vp=>callsIn_wide.1 (callsIn_of_wp_marks (F:=acH) (n:=0) hf hb trivial (wpIn_wide.2 ?_))⟩;have RP: ∀b,S b->(b<w.heap.size/\S b/\b ∉ F):=λb hb=>⟨(hS b hb).1,hb,(hS b hb).2⟩;obtain ⟨l1,hA,k1⟩:=uL (S2:=λb=>b<w.heap.size/\S b/\b ∉ F) RP 0 0 ha;let U:=(dx args 0 0).2;let BL:=As.flatten;let g:GM:=⟨λk=>(BL[k]?).getD λ_=>none⟩;have RQ: ∀j o,BL[j]? =some o->g.f (0+j)=o:=λj o hj=>by
  show (BL[0+j]?).getD _=o;rw [Υ,hj];rfl
 have yZ: ∀j ch,U[j]? =some ch->lk (0+j) (cm 0 U)=some ch:=λj ch hj=>by
  rw [dR,if_pos (by omega)];simpa using hj
 obtain ⟨tD,TR⟩:=k1 g (cm 0 U) yZ RQ;let cx:Cx:=⟨P,fn.ntmps,w,S,F,(fZ args 0).map λk=>(k,g.f k),nd⟩;have RR: ∀(j:Nat) (γ:List Nat->Option Nat) (p:List Nat) (b:Nat),BL[j]? =some γ->γ p=some b->b∈F:=λj γ p b hj hp=>(hB b).2 ⟨γ,aaG hj,p,hp⟩;have Vq: ∀k ch,lk k (cm 0 U)=some ch->U[k]? =some ch:=λk ch T=>by
  rw [dR,if_pos (by omega)] at T;simpa using T
 have R: ∀k p b,g.f k p=some b->b∈F/\ ∃γ,BL[k]? =some γ/\γ p=some b:=λk p b hg=>by
  have hg:(BL[k]?).getD (λ_=>none) p=some b:=hg;cases hx:BL[k]? with
  |none=>rw [hx] at hg;simp at hg
  |some γ=>
   rw [hx] at hg;exact ⟨RR k γ p b hx hg,γ,rfl,hg⟩
 have nK: ∀b,(b<w.heap.size/\S b/\b ∉ F)->cx.safe g (cm 0 U) w b:=λb ⟨h1,h2,h3⟩=>⟨h1,λ_=>h2,λ⟨k,p,ch,q1,q2,q3⟩=>h3 (R k p b q3).1⟩;have hlen:args.length=vals.length:=by
  have: ∀{asx:List Arg} {vs:List ο} {Fs:List (List (List Nat->Option Nat))},o7 S w asx vs Fs->asx.length=vs.length:=by
   intro asx;induction asx with
   |nil=>intro vs Fs h;cases vs<;>cases Fs<;>first|rfl|exact h.elim
   |cons a asx ih=>
    intro vs Fs h;cases vs with
    |nil=>exact h.elim
    |cons v vs=>
     cases Fs with
     |nil=>exact h.elim
     |cons F Fs=>simp [ih h.2]
  exact this ha
 have Ip:cG cx g (tn args) {tmps:=vals.toArray++aaa (fn.ntmps - vals.toArray.size) undef,defers:=[]} w:=by
  refine ⟨.nil,?_,λt v hl=> ?_,λk ch T=> ?_,?_,λk p ch b T N2 hg=> ?_,λk p ch b T N2 hg=> ?_,bJ.refl _ _,λp hp=> ?_,⟨Vp,hS⟩⟩;show (vals.toArray++aaa (fn.ntmps - vals.toArray.size) undef).size=fn.ntmps;simp;omega;obtain ⟨_,u,hu,hv⟩:=tD t v hl;rw [Nat.sub_zero] at hu;have Gx:=(ψ.1 hu);have:(vals.toArray++aaa (fn.ntmps - vals.toArray.size) undef).getD t undef=u:=by
   rw [ώ,Array.getElem?_append_left (by simpa using Gx.1)];simp [hu]
  show VR _ _ _ _ _ ((vals.toArray++aaa (fn.ntmps - vals.toArray.size) undef).getD t undef);rw [this];exact adz (adB nK) hv;obtain ⟨_,o,ho,je⟩:=TR.chunk k ch (Vq k ch T);have:=RQ k o ho;rw [Υ] at this;rw [this];exact ae7 (adB nK) (λ_ _ _ _=>rfl) je;intro k k' p p' ch pq b T _ oo _ hg om;obtain ⟨_,γ,h1,h2⟩:=R k p b hg;obtain ⟨_,γ',h3,h4⟩:=R k' p' b om;exact hI.at h1 h3 h2 h4;exact .inr (R k p b hg).1;exact RO b (R k p b hg).1;obtain ⟨k,T,e⟩:=ϟ.1 hp;subst e;refine ⟨rfl,?_⟩;have T:k<U.length:=by have:=nb (i:=0) T;simpa [U] using this
  show lk k (cm 0 U)≠none;rw [dR,if_pos (by omega)];simp [T]
 have QM:Cd args=true->cx.HP:=λhm b hb=>by
  obtain ⟨γ,hγ,p,hp⟩:=(hB b).1 hb;obtain ⟨j,hj⟩:=acM hγ;rcases jJ 0 hA j γ p b hj hp with T|T
  rw [Υ] at T;refine ⟨(j,g.f j),ϟ.2 ⟨j,T,rfl⟩,p,?_⟩;have:=RQ j _ hj;rw [Υ] at this;show g.f j p=some b;rw [this];exact hp;exact absurd T (tO.none hm)
 have CB:=h cx rfl rfl (by simp [cx,List.map_map,Function.comp_def]) QM rfl g _ w Ip;refine wp_mono CB λe a' w' ⟨st',g',hq,I⟩=> ?_;have ret: ∀(a':Act) (w':Ε),cG cx g' st' a' w'->Cw P fn args ts rs outs st'-> ∃v,(results fn a'.tmps).run P w'= .ok v w'/\ ∃v' A' F',Ending.returned v= .returned v'/\uE A' F'/\pr A'/\D1 (iW S w w' F') w' rs v' A'/\(∀b,b∈F'->(w.heap.size<=b\/tO b args As)/\b<w'.heap.size)/\
  bJ F w w'/\il (iW S w w' F') w' args vals As outs:=by
  clear I hq;intro a' w' I;rintro ⟨vs,ks,cs,r1,r2,r3,r4,r5,r6⟩;obtain ⟨J,q1,q2⟩:=xi I r1;obtain ⟨A',p1,p2⟩:=Cy I r2 q2;have sS:(results fn a'.tmps).run P w'= .ok (if h:J.toArray.size=1 then J.toArray[0] else .tuple J.toArray) w':=by
   have e:results fn a'.tmps=(do
    let vs<-fn.results.mapM (G1 a'.tmps)
    pure (if h:vs.size=1 then vs[0] else .tuple vs)):=by
    have hm:(λr:afc=>(match r with| .tmp t=>(pure (a'.tmps.getD t undef):Sem ο)| .cell x t=>do loadVar t (<-asAddr (a'.tmps.getD x undef))))=G1 a'.tmps:=by
     funext r;cases r<;>rfl
    rw [<-hm];rfl
   have q1:(fn.results.toList.mapM (G1 a'.tmps)).run P w'= .ok J w':=q1;rw [e,Array.mapM_eq_mapM_toList];simp only [Ϙ,Sem.run_map,q1,ϋ,ϳ]
  obtain ⟨F',oY⟩:=na (n:=w'.heap.size) (A:=A') (λγ hγ p b hp=>by
   obtain ⟨k,_,p',t,xs,a1,a2⟩:=p2.dm hγ hp;exact I.lt k p' _ b a2 trivial a1)
  have KQ: ∀b,b∈F'-> ∃k,k∈ks/\ ∃p t xs,g'.f k p=some b/\lk k st'.mem=some (.seq t xs):=λb hb=>by
   obtain ⟨γ,hγ,p,hp⟩:=(oY b).1 hb;exact p2.dm hγ hp
  have GF: ∀b,b∈F'->(w.heap.size<=b\/tO b args As)/\b<w'.heap.size:=λb hb=>by
   obtain ⟨k,T,p,t,xs,a1,a2⟩:=KQ b hb;refine ⟨?_,I.lt k p _ b a2 trivial a1⟩;rcases I.iF k p _ b a2 trivial a1 with hx|hx
   exact .inl hx;right;obtain ⟨γ,hγ,q,hq⟩:=(hB b).1 hx;obtain ⟨j,hj⟩:=acM hγ;rcases jJ 0 hA j γ q b hj hq with QR|QR
   exfalso;rw [Υ] at QR;obtain ⟨t',ys,uA⟩:=iu r5 j QR;have Vr:g'.f j q=some b:=by
    have:=(I.own (j,g.f j) (ϟ.2 ⟨j,QR,rfl⟩)).1;simp only at this;rw [this];have:=RQ j _ hj;rw [Υ] at this;rw [this];exact hq
   have:=(I.fV k j p q _ _ b a2 trivial uA trivial a1 Vr).1;have H8:=ϡ.1 r4 _ T;rw [this,Cu.2 QR] at H8;cases H8;exact QR
  have RS: ∀b,cx.safe g' st'.mem w' b->iW S w w' F' b:=λb ⟨h1,h2,h3⟩=>⟨h1,h2,λhb=>by
   obtain ⟨k,_,p,t,xs,a1,a2⟩:=KQ b hb;exact h3 ⟨k,p,_,a2,trivial,a1⟩⟩
  refine ⟨_,sS,_,A',F',rfl,oY,p2.inj I.K9 (iq r3),⟨J,nv.mono RS p1,?_⟩,GF,I.bt,?_⟩;exact Iz J;refine ir (S:=λb=>b<w.heap.size/\S b/\b ∉ F) (g:=g') (m:=st'.mem) (w:=w') (n:=0) (λk ch T=>ae7 (adB RS) (λ_ _ _ _=>rfl) (I.mem k ch T)) I.bt.sz hA r5 r6 λj o hj yZ=> ?_;rw [Υ] at yZ⊢;have:=(I.own (j,g.f j) (ϟ.2 ⟨j,yZ,rfl⟩)).1;simp only at this;rw [this];have:=RQ j o hj;rw [Υ] at this;exact this
 have fin:Cw P fn args ts rs outs st'->LeavesInM acH 0 P fn a'.tmps (λe w'=> ∃v A' F',e= .returned v/\uE A' F'/\pr A'/\D1 (iW S w w' F') w' rs v A'/\(∀b,b∈F'->(w.heap.size<=b\/tO b args As)/\b<w'.heap.size)/\
  bJ F w w'/\il (iW S w w' F') w' args vals As outs) a'.defers .returning w':=λhq=>by
  obtain ⟨_,Ds,e,hn,hD⟩:=I.defers;rw [e];clear e;have key: ∀(Ds:List Nat) (w':Ε),cG cx g' st' {a' with defers:=[]} w'->Ds.Nodup->(∀D∈Ds,w'.heap[D]? =some (.deferred (some []))/\cx.w0.heap.size<=D)->
   LeavesInM acH 0 P fn a'.tmps (λe w'=> ∃v A' F',e= .returned v/\uE A' F'/\pr A'/\D1 (iW S w w' F') w' rs v A'/\(∀b,b∈F'->(w.heap.size<=b\/tO b args As)/\b<w'.heap.size)/\
    bJ F w w'/\il (iW S w w' F') w' args vals As outs) (Ds.map (λD=>{target:= .collected D,args:= #[]})) .returning w':=by
   intro Ds;induction Ds with
   |nil=>exact λw' hs _ _=>by have hr:=ret _ w' hs hq;exact hr
   |cons D Ds ih=>
    intro w' hs hn hD;have hn:=aaV.1 hn;obtain ⟨h1,h2⟩:=hD D Ϻ;refine ⟨by simp,.inl ⟨D,_,rfl,run_takeDeferred h1,ih _ ?_ hn.2 λE hE=> ?_⟩⟩;exact hs.Ng (w':=w'.putObj D (.deferred none)) (a':={a' with defers:=[]}) h1 rfl (λ_ _ e=>by cases e) h2 rfl rfl rfl (by simp) (λb _ iH=>aaD iH) rfl .nil;obtain ⟨k1,k2⟩:=hD E (ϛ _ hE);exact ⟨(aaD (λe:E=D=>hn.1 (e▸hE))).trans k1,k2⟩
  exact key Ds w' ⟨.nil,I.size,I.fr,I.mem,I.fV,I.iF,I.lt,I.bt,I.own,I.gl⟩ hn λD hm=>⟨(hD D hm).1,(hD D hm).2.1⟩
 cases e with
 |normal=>exact fin hq
 |ret=>exact fin hq
 |_=>exact hq.elim
theorem CallOK.rU {P:Ξ}{f:FuncId}{fn:Func}{c:Code}{args:List Arg}{ts:List (Bool×Ty)}{rs:List RV}{outs:List TD}(o:P.funcs[f]? =some fn)(p:fn.body=some c)(j:(fn.name=="runtime.NumGoroutine")=false)(r:args.length<=fn.ntmps)(h: ∀cx:Cx,cx.P=P->cx.N=fn.ntmps->cx.own.map aas=fZ args 0->(Cd args=true->cx.HP)->HT cx (tn args) c (Iw P fn args ts rs outs)):CallOK P f args rs outs:=
 CallOK.CA o p j r false λcx a b c d _=>h cx a b c d
end Go.Ide
namespace Go.Ide
def MM (m m':Mem):Prop:= ∀k j,lk k m=some j->lk k m'=some j
section
variable {P:Ξ} {m m':Mem}
theorem G2 (h:MM m m'){t:Ty}{c:bs}{x:t.D}(j:dF m t c=some x):dF m' t c=some x:=by
 cases c with
 |all c=>
  simp only [dF] at j⊢;split at j;cases p:lk c m with
  |none=>simp [p] at j
  |some r=>rw [p] at j;rw [h _ _ p];exact j
  cases j
 |cZ c i I off=>
  simp only [dF] at j⊢;split at j;cases p:lk c m with
  |none=>simp [p] at j
  |some r=>rw [p] at j;rw [h _ _ p];exact j
  cases j
 |ref c off len=>
  simp only [dF] at j⊢;split at j;cases p:lk c m with
  |none=>simp [p] at j
  |some r=>rw [p] at j;rw [h _ _ p];exact j
  cases j
 |row c i o=>
  simp only [dF] at j⊢;split at j;cases p:lk c m with
  |none=>simp [p] at j
  |some r=>rw [p] at j;rw [h _ _ p];exact j
  cases j
 |_=>exact j
theorem jw (h:MM m m'){t:Ty}{cs:List bs}{x:t.D×List bs}(j:dc m t cs=some x):dc m' t cs=some x:=by
 cases cs with
 |nil=>exact j
 |cons c r=>
  simp only [dc] at j⊢;cases o:dF m t c with
  |none=>simp [o] at j
  |some y=>rw [o] at j;rw [G2 h o];exact j
theorem ml (h:MM m m'): ∀(t:Ty) {cs:List bs} {x:t.D×List bs},impl m t cs=some x->impl m' t cs=some x
 | .int _,_,_,j=>jw h j
 | .dB _,_,_,j=>jw h j
 | .bool,_,_,j=>jw h j
 | .str,_,_,j=>jw h j
 | .sl _,_,_,j=>jw h j
 | .bx _,_,_,j=>jw h j
 | .cl _ _,_,_,j=>jw h j
 | .own _,_,_,j=>jw h j
 | .st t,_,_,j=>ml h t j
 | .pair a b,cs,x,j=>by
  simp only [impl] at j⊢;cases o:impl m a cs with
  |none=>simp [o] at j
  |some p=>
   obtain ⟨y,r⟩:=p;rw [o] at j;rw [ml h a o];simp only at j⊢;cases I:impl m b r with
   |none=>simp [I] at j
   |some q=>
    rw [I] at j;rw [ml h b I];exact j
theorem ou (h:MM m m'){t:Ty}{v:bu}{x:t.D}(j:j5 m t v=some x):j5 m' t v=some x:=by
 unfold j5 at j⊢;split at j;rename_i c o;cases r:impl m t [c] with
 |none=>simp [r] at j
 |some p=>rw [r] at j;(try simp only [o]);rw [ml h t r];exact j
 rename_i cs o;cases r:impl m t cs with
 |none=>simp [r] at j
 |some p=>rw [r] at j;(try simp only [o]);rw [ml h t r];exact j
 cases j
theorem xj (h:MM m m'){T:Ι}{v:bu}{e:cB}(p:pB P m T v=some e):pB P m' T v=some e:=by
 unfold pB at p⊢;split at p;rename_i c i R off n ag U ha
 try simp only [U,ha]
 cases t:lk c m with
 |none=>simp [t] at p
 |some ch=>rw [t] at p;rw [h _ _ t];exact p
 rename_i c i o j R off n ag U ha
 try simp only [U,ha]
 cases t:lk c m with
 |none=>simp [t] at p
 |some ch=>rw [t] at p;rw [h _ _ t];exact p
 rename_i c n ag I J U ha
 try simp only [U,ha]
 have key: ∀r,nQ m n c=some r->nQ m' n c=some r:=by
  intro r hr;cases c with
  |ptr k off=>
   simp only [nQ] at hr⊢;cases t:lk k m with
   |none=>simp [t] at hr
   |some ch=>rw [t] at hr;rw [h _ _ t];exact hr
  |_=>exact hr
 cases hc:nQ m n c with
 |none=>simp [hc] at p
 |some r=>
  rw [hc] at p;cases c with
  |cZ k i R off=>first|exact absurd rfl (I k i R off)|exact absurd rfl (J k i R off)
  |yK k i o j R off=>first|exact absurd rfl (I k i o j R off)|exact absurd rfl (J k i o j R off)
  |_=>simp only [key _ hc];exact p
 cases p
theorem vn (h:MM m m'){T:Ι}{a v:bu}{e:cB}(p:qa P m T a v=some e):qa P m' T a v=some e:=by
 unfold qa at p⊢;split at p;rename_i c off n t
 try simp only [t]
 cases r:lk c m with
 |none=>simp [r] at p
 |some I=>rw [r] at p;rw [h _ _ r];exact p
 rename_i c i J off n t
 try simp only [t]
 cases r:lk c m with
 |none=>simp [r] at p
 |some I=>rw [r] at p;rw [h _ _ r];exact p
 rename_i c i o j J off n t
 try simp only [t]
 cases r:lk c m with
 |none=>simp [r] at p
 |some I=>rw [r] at p;rw [h _ _ r];exact p
 cases p
theorem vQ (h:MM m m'){T:Ι}{x i:bu}{e:cB}(j:kx P m T x i=some e):kx P m' T x i=some e:=by
 unfold kx at j⊢;split at j;rename_i U k n R
 try simp only [R]
 split at j;rename_i t xs I r
 try simp only [r]
 exact j;rename_i c I r
 try simp only [r]
 cases p:lk c m with
 |none=>simp [p] at j
 |some J=>rw [p] at j;rw [h _ _ p];exact j
 rename_i c i o I r
 try simp only [r]
 cases p:lk c m with
 |none=>simp [p] at j
 |some J=>rw [p] at j;rw [h _ _ p];exact j
 rename_i c off len I r
 try simp only [r]
 cases p:lk c m with
 |none=>simp [p] at j
 |some J=>rw [p] at j;rw [h _ _ p];exact j
 cases j;cases j
theorem uM (h:MM m m'){T:Ι}{x i:bu}{e:cB}(j:jt P m T x i=some e):jt P m' T x i=some e:=by
 unfold jt at j⊢;split at j;exact j;exact vQ h j
theorem G3 (h:MM m m'){x:bu}{e:cB}(j:sI m x=some e):sI m' x=some e:=by
 unfold sI at j⊢;split at j;exact j;exact j;rename_i c
 try simp only
 cases p:lk c m with
 |none=>simp [p] at j
 |some r=>rw [p] at j;rw [h _ _ p];exact j
 rename_i c i o
 try simp only
 cases p:lk c m with
 |none=>simp [p] at j
 |some r=>rw [p] at j;rw [h _ _ p];exact j
 rename_i c off len
 try simp only
 cases p:lk c m with
 |none=>simp [p] at j
 |some r=>rw [p] at j;rw [h _ _ p];exact j
 exact j;cases j
theorem sT (h:MM m m'){x:bu}(j:nJ m x=true):nJ m' x=true:=by
 unfold nJ at j⊢;split at j;rename_i c;split at j;rename_i t p o;rw [h _ _ o];exact j;cases j;cases j;exact j
theorem Eb (h:MM m m'){T:Ι}{x:bu}{e:cB}(j:Cj P m T x=some e):Cj P m' T x=some e:=by
 unfold Cj at j⊢;split at j
 all_goals first
  |(rename_i o;(try simp only [o]);exact G3 h j)
  |cases j
theorem tX (h:MM m m'){t:Ty}{x:bu}{r:List t.D×List (Nat×Chunk)}(j:nR m t x=some r):nR m' t x=some r:=by
 unfold nR at j⊢;split at j;exact j;rename_i c
 try simp only
 cases o:lk c m with
 |none=>simp [o] at j
 |some p=>rw [o] at j;rw [h _ _ o];exact j
 rename_i c len
 try simp only
 cases o:lk c m with
 |none=>simp [o] at j
 |some p=>rw [o] at j;rw [h _ _ o];exact j
 cases j
theorem AE (h:MM m m'){nx:Nat}{T T':Ι}{t:Ty}{s x:bu}{e:cB}(j:rB P m nx T T' t s x=some e):rB P m' nx T T' t s x=some e:=by
 unfold rB at j⊢;split at j;rename_i el hu;split at j;rename_i i U
 try simp only [U]
 cases p:(((Α T T'&&Α i.size t.size)&&(ϩ i.bytes 32768&&i.zero.isSome)&&(i.zero.map λz=>Α z.cells.size t.size).getD false)&&(t.top&&nJ m x)) with
 |false=>rw [p] at j;cases j
 |true=>
  rw [p] at j;have o:=p;simp only [κ] at o;have J:(((Α T T'&&Α i.size t.size)&&(ϩ i.bytes 32768&&i.zero.isSome)&&(i.zero.map λz=>Α z.cells.size t.size).getD false)&&(t.top&&nJ m' x))=true:=by
   rw [o.2.2] at p;rw [sT h o.2.2];exact p
  rw [J];simp only [cond_true] at j⊢;cases I:nR m t s with
  |none=>simp [I] at j
  |some r=>
   cases R:j5 m (.sl t) x with
   |none=>simp [I,R] at j
   |some ys=>
    rw [I,R] at j;rw [tX h I,ou h R];exact j
 cases j;cases j
theorem qp (h:MM m m'): ∀(t:Ty) {cs:List bs} {p:(t.D×List Nat)×List bs},mb m t cs=some p->mb m' t cs=some p
 | .pair a b,cs,p,j=>by
  simp only [mb] at j⊢;split at j;rename_i y R T o;rw [qp h a o];simp only;split at j;rename_i z U r2 I;rw [qp h b I];exact j;cases j;cases j
 | .st t,cs,p,j=>qp h t (cs:=cs) (p:=p) j
 | .own t,cs,p,j=>by
  simp only [mb] at j⊢;split at j;exact j;rename_i c r;split at j;rename_i e xs J;rw [h _ _ J];exact j;cases j;cases j
 | .int _,_,_,j=>j
 | .dB _,_,_,j=>j
 | .bool,_,_,j=>j
 | .str,_,_,j=>j
 | .cl _ _,_,_,j=>j
 | .sl _,_,_,j=>j
 | .bx _,_,_,j=>j
theorem AF (h:MM m m'){nx:Nat}{T:Ι}{t:Ty}{len:Nat}{parts:List (Nat×bu)}{e:cB}(j:rS P m nx T t len parts=some e):rS P m' nx T t len parts=some e:=by
 unfold rS at j⊢;split at j;rename_i p v I
 try simp only [I]
 cases r:((cX P p==some t.size&&(((P.info? p).bind (·.zero)).map λz=>Α z.cells.size t.size)==some true)&&(Α len 1&&ϩ t.size 65536)&&v.ok) with
 |false=>rw [r] at j;cases j
 |true=>
  rw [r] at j;simp only [cond_true] at j⊢;split at j;rename_i x J o;rw [qp h t o];exact j;cases j
 cases j
theorem AG (h:MM m m'){nx:Nat}{T:Ι}{t:Ty}{len:Nat}{parts:List (Nat×bu)}{e:cB}(j:rT P m nx T t len parts=some e):rT P m' nx T t len parts=some e:=by
 unfold rT at j⊢;cases ht:t.top with
 |true=>rw [ht] at j;exact j
 |false=>rw [ht] at j;exact AF h j
theorem Ec (h:MM m m'){nx:Nat}{T T':Ι}{t:Ty}{s x:bu}{e:cB}(j:zI P m nx T T' t s x=some e):zI P m' nx T T' t s x=some e:=by
 unfold zI at j⊢;split at j;rename_i R s U I
 try simp only [I]
 split at j;rename_i i t2 ys J o;rw [h _ _ o]
 try simp only [J]
 cases r:(((Α T T'&&Α i.size t.size)&&(ϩ i.bytes 32768&&i.zero.isSome))&&(i.zero.map λz=>Α z.cells.size t.size).getD false) with
 |false=>rw [r] at j;cases j
 |true=>
  rw [r] at j;simp only [cond_true] at j⊢;split at j;rename_i ht;rw [dif_pos ht];split at j;exact j;rename_i c
  try simp only
  split at j;rename_i t1 xs p;rw [h _ _ p];exact j;cases j;cases j;cases j
 cases j;cases j
theorem za (h:MM m m'){nx:Nat}{T T':Ι}{t:Ty}{s x:bu}{e:cB}(j:pL P m nx T T' t s x=some e):pL P m' nx T T' t s x=some e:=by
 unfold pL at j⊢;cases ht:t.top with
 |true=>rw [ht] at j;exact AE h j
 |false=>rw [ht] at j;exact Ec h j
theorem CC (h:MM m m'){T:Ι}{x:bu}{I J:Option bu}{e:cB}(j:sK P m T x I J=some e):sK P m' T x I J=some e:=by
 unfold sK at j⊢;split at j;rename_i R o;(try simp only [o]);exact j;rename_i r o;(try simp only [o]);exact j;rename_i r t R o;(try simp only [o]);exact j;rename_i r c o
 try simp only [o]
 cases p:lk c m with
 |none=>simp [p] at j
 |some U=>rw [p] at j;rw [h _ _ p];exact j
 rename_i r c off len o
 try simp only [o]
 cases p:lk c m with
 |none=>simp [p] at j
 |some U=>rw [p] at j;rw [h _ _ p];exact j
 cases j
theorem lu (h:MM m m'): ∀(t:Ty) (cs:List bs) {p:List Nat×List bs},dG m t cs=some p->dG m' t cs=some p
 | .cl _ _,_,_,j=>j
 | .int _,_,_,j=>j
 | .dB _,_,_,j=>j
 | .bool,_,_,j=>j
 | .str,_,_,j=>j
 | .sl t,cs,p,j=>by
  simp only [dG] at j⊢;split at j;split at j;rename_i o;rw [h _ _ o];exact j;cases j;exact j;cases j
 | .own t,cs,p,j=>by
  simp only [dG] at j⊢;split at j;split at j;rename_i o;rw [h _ _ o];exact j;cases j;exact j;cases j
 | .bx t,cs,p,j=>by
  simp only [dG] at j⊢;split at j;split at j;rename_i o;rw [h _ _ o];exact j;cases j;cases j
 | .st t,cs,p,j=>lu h t cs j
 | .pair a b,cs,p,j=>by
  simp only [dG] at j⊢;split at j;rename_i x r I;rw [lu h a cs I];simp only;split at j;rename_i y R J;rw [lu h b r J];exact j;cases j;cases j
theorem dS (h:MM m m'): ∀(ms:List Mode) (vs:List bu) {ks:List Nat},dI m ms vs=some ks->dI m' ms vs=some ks
 |[],[],_,j=>j
 |[],_::_,_,j=>j
 | .own t::ms,v::vs,ks,j=>by
  simp only [dI] at j⊢;split at j;rename_i r I o p;rw [lu h t _ o,dS h ms vs p];exact j;cases j
 | .mv t::ms,v::vs,ks,j=>by
  simp only [dI] at j⊢;split at j;rename_i r I o p;rw [lu h t _ o,dS h ms vs p];exact j;cases j
 | .bP _::ms,_::vs,ks,j=>dS h ms vs (ks:=ks) j
 | .fW _::ms,_::vs,ks,j=>dS h ms vs (ks:=ks) j
 | .fn::ms,_::vs,ks,j=>dS h ms vs (ks:=ks) j
 | .jb _::ms,_::vs,ks,j=>dS h ms vs (ks:=ks) j
 | .nl::ms,_::vs,ks,j=>dS h ms vs (ks:=ks) j
 | .own _::_,[],_,j=>j
 | .mv _::_,[],_,j=>j
 | .nl::_,[],_,j=>j
 | .bP _::_,[],_,j=>j
 | .fW _::_,[],_,j=>j
 | .fn::_,[],_,j=>j
 | .jb _::_,[],_,j=>j
theorem sU (h:MM m m'){md:Mode}{v:bu}{a:Arg}(j:iI m md v=some a):iI m' md v=some a:=by
 unfold iI at j⊢;split at j;rename_i v1 t
 try simp only
 cases o:j5 m t v with
 |none=>simp [o] at j
 |some x=>rw [o] at j;rw [ou h o];exact j
 rename_i v1 t
 try simp only
 cases o:j5 m t v with
 |none=>simp [o] at j
 |some x=>rw [o] at j;rw [ou h o];exact j
 rename_i v1 t
 try simp only
 cases o:j5 m t v with
 |none=>simp [o] at j
 |some x=>rw [o] at j;rw [ou h o];exact j
 rename_i t r x off
 try simp only
 cases o:impl m t (((gE r x).drop off).take t.size) with
 |none=>simp [o] at j
 |some p=>rw [o] at j;rw [ml h t o];exact j
 exact j;exact j;exact j;cases j
theorem pN {m2 o:Mem}(h:MM m m')(J:MM m2 o){md:Mode}{v:bu}{a:Arg}(j:oU m m2 md v=some a):oU m' o md v=some a:=by
 unfold oU at j⊢;split at j;rename_i t c off
 try simp only
 cases r:lk c m with
 |none=>simp [r] at j
 |some R=>
  rw [r] at j;rw [h _ _ r];cases R with
  |box cs=>
   simp only at j⊢;cases I:impl m2 t ((cs.drop off).take t.size) with
   |none=>simp [I] at j
   |some p=>rw [I] at j;rw [ml J t I];exact j
  |seq T U=>cases j
  |oS T U i cs ks=>cases j
  |mp=>cases j
  |gh=>cases j
  |pA=>cases j
  |gone=>cases j
 exact sU J j
theorem vo {mp r m2 I:Mem}(h:MM m m')(hp:MM mp r)(J:MM m2 I): ∀{ms:List Mode} {vs:List bu} {asx:List Arg},dp m mp m2 ms vs=some asx->dp m' r I ms vs=some asx:=by
 intro ms;induction ms with
 |nil=>intro vs asx j;cases vs<;>exact j
 |cons md ms ih=>
  intro vs asx j;cases vs with
  |nil=>cases md<;>exact j
  |cons v vs=>
   cases md with
   |own t=>
    simp only [dp] at j⊢;cases o:iI m (.own t) v with
    |none=>simp [o] at j
    |some a=>
     cases p:dp m mp m2 ms vs with
     |none=>simp [o,p] at j
     |some l=>rw [o,p] at j;rw [sU h o,ih p];exact j
   |mv t=>
    simp only [dp] at j⊢;cases o:iI m (.mv t) v with
    |none=>simp [o] at j
    |some a=>
     cases p:dp m mp m2 ms vs with
     |none=>simp [o,p] at j
     |some l=>rw [o,p] at j;rw [sU h o,ih p];exact j
   |nl=>
    simp only [dp] at j⊢;cases o:oU mp m2 .nl v with
    |none=>simp [o] at j
    |some a=>
     cases p:dp m mp m2 ms vs with
     |none=>simp [o,p] at j
     |some l=>rw [o,p] at j;rw [pN hp J o,ih p];exact j
   |bP t=>
    simp only [dp] at j⊢;cases o:oU mp m2 (.bP t) v with
    |none=>simp [o] at j
    |some a=>
     cases p:dp m mp m2 ms vs with
     |none=>simp [o,p] at j
     |some l=>rw [o,p] at j;rw [pN hp J o,ih p];exact j
   |fW t=>
    simp only [dp] at j⊢;cases o:oU mp m2 (.fW t) v with
    |none=>simp [o] at j
    |some a=>
     cases p:dp m mp m2 ms vs with
     |none=>simp [o,p] at j
     |some l=>rw [o,p] at j;rw [pN hp J o,ih p];exact j
   |fn=>
    simp only [dp] at j⊢;cases o:oU mp m2 .fn v with
    |none=>simp [o] at j
    |some a=>
     cases p:dp m mp m2 ms vs with
     |none=>simp [o,p] at j
     |some l=>rw [o,p] at j;rw [pN hp J o,ih p];exact j
   |jb t=>
    simp only [dp] at j⊢;cases o:oU mp m2 (.jb t) v with
    |none=>simp [o] at j
    |some a=>
     cases p:dp m mp m2 ms vs with
     |none=>simp [o,p] at j
     |some l=>rw [o,p] at j;rw [pN hp J o,ih p];exact j
theorem MM.app {l:Mem}(h:MM m m'):MM (l++m) (l++m'):=λk p j=>by
 rw [cp] at j⊢;cases o:lk k l with
 |none=>rw [o] at j;exact h k p (by simpa using j)
 |some c=>rw [o] at j;simpa using j
theorem sV (h:MM m m'){nx:Nat}{ms:List Mode}{rs:List RV}{outs:List TD}{f:FuncId}{vs:List bu}{e:cB}(j:vg P m nx ms rs outs f vs=some e):vg P m' nx ms rs outs f vs=some e:=by
 unfold vg at j⊢;split at j;rename_i I up R T;rw [dS h ms vs R,T]
 try simp only
 split at j;rename_i r o
 try simp only [o]
 exact j;rename_i o
 try simp only [o]
 cases J:jX I with
 |false=>rw [J] at j;cases j
 |true=>
  rw [J] at j;simp only [cond_true] at j⊢;cases t:(rs.all RV.tw&&fp ms) with
  |true=>
   rw [t] at j;simp only [cond_true] at j⊢;cases p:dp m m ((I.map λk=>(k,Chunk.gone))++m) ms vs with
   |none=>simp [p] at j
   |some r=>rw [p] at j;rw [vo h h (MM.app h) p];exact j
  |false=>
   rw [t] at j;simp only [cond_false] at j⊢;cases p:dp m [] [] ms vs with
   |none=>simp [p] at j
   |some r=>rw [p] at j;rw [vo h (λ_ _ h=>h) (λ_ _ h=>h) p];exact j
 cases j
theorem zb (h:MM m m'){nx:Nat}{T T':Ι}{s x:bu}{e:cB}(j:pJ P m nx T T' s x=some e):pJ P m' nx T T' s x=some e:=by
 unfold pJ at j⊢;split at j;rename_i J y R t
 try simp only
 split at j;rename_i i I
 try simp only [I]
 cases p:((dw P T&&Α i.size 1)&&(ϩ i.bytes 32768&&i.zero.isSome)&&(i.zero.map λz=>Α z.cells.size 1).getD false) with
 |false=>rw [p] at j;cases j
 |true=>
  rw [p] at j;simp only [cond_true] at j⊢;cases o:nR m (.int .u8) s with
  |none=>simp [o] at j
  |some r=>
   rw [o] at j;rw [tX h o];exact j
 cases j;cases j
theorem xk (h:MM m m'){nx:Nat}{T U:Ι}{x:bu}{e:cB}(j:ot P m nx T U x=some e):ot P m' nx T U x=some e:=by
 unfold ot at j⊢;split at j;exact j;exact j;exact j;rename_i c _ _
 try simp only
 cases o:(Α T U&&dw P T) with
 |false=>rw [o] at j;cases j
 |true=>
  rw [o] at j;simp only [cond_true] at j⊢;cases p:lk c m with
  |none=>simp [p] at j
  |some t=>rw [p] at j;rw [h _ _ p];exact j
 rename_i x _ _ _ _ _ _
 try simp only
 cases o:(dw P T&&nJ m x) with
 |false=>rw [o] at j;cases j
 |true=>
  rw [o] at j;simp only [κ] at o;rw [o.1,sT h o.2];simp only [cond_true,Bool.and_self] at j⊢;split at j;rename_i l r;rw [ou h r];exact j;cases j
 exact j
theorem xl (h:MM m m'){nx:Nat}{v:bu}{r:Mem×Mem×Prop}(j:wZ m nx v=some r):wZ m' nx v=some r:=by
 unfold wZ at j⊢;split at j;rename_i c i p off
 try simp only
 cases o:lk c m with
 |none=>simp [o] at j
 |some t=>rw [o] at j;rw [h _ _ o];exact j
 cases j
theorem CD (h:MM m m'){nx:Nat}{o:Hint}{T:Ι}{v:bu}{e:cB}(j:qY P m nx o T v=some e):qY P m' nx o T v=some e:=by
 unfold qY at j⊢;cases r:o.vk with
 |false=>rw [r] at j;exact xj h j
 |true=>
  rw [r] at j;simp only [cond_true,Aw] at j⊢;split at j;rename_i u n p hp;rw [xl h hp];simp only;split at j;rename_i I t;rw [xj (MM.app h) t];exact j;cases j;cases j
theorem AH (h:MM m m'){nx:Nat}{o:Hint}{T:Ι}{v x:bu}{e:cB}(j:rR P m nx o T v x=some e):rR P m' nx o T v x=some e:=by
 unfold rR at j⊢;cases r:o.vk with
 |false=>rw [r] at j;exact vn h j
 |true=>
  rw [r] at j;simp only [cond_true,wb] at j⊢;split at j;rename_i u n p hp;rw [xl h hp];simp only;split at j;rename_i I t;rw [vn (MM.app h) t];exact j;cases j;cases j
theorem Ed (h:MM m m'){T:Ι}{x y:bu}{e:cB}(j:zG P m T x y=some e):zG P m' T x y=some e:=by
 unfold zG at j⊢;have U: ∀r,zF m x=some r->zF m' x=some r:=λr o=>by
  unfold zF at o⊢;split at o;rename_i c
  try simp only
  cases I:lk c m with
  |none=>simp [I] at o
  |some ch=>rw [I] at o;rw [h _ _ I];exact o
  exact o;cases o
 split at j;rename_i R c off len hu hc;rw [U _ hc,hu]
 try simp only
 split at j;rename_i t xs hl;rw [h _ _ hl];simp only;cases p:((cX P R==some t.size&&t.top)&&nJ m y) with
 |false=>rw [p] at j;cases j
 |true=>
  rw [p] at j;simp only [κ] at p;rw [show ((cX P R==some t.size&&t.top)&&nJ m' y)=true from by simp only [κ];exact ⟨p.1,sT h p.2⟩];simp only [cond_true] at j⊢;split at j;rename_i ys J;rw [ou h J];exact j;cases j
 cases j;cases j
theorem zc (h:MM m m'){fr:Fr}{nx:Nat}{I:Hint}{b:Builtin}{args:List aah}{ts:List Ι}{e:cB}(j:pM P fr m nx I b args ts=some e):pM P fr m' nx I b args ts=some e:=by
 unfold pM at j⊢;split at j;rename_i x T
 try simp only
 split at j;rename_i v R;(try simp only [R]);exact Eb h j;cases j;rename_i s x T U
 try simp only
 split at j;rename_i t J r p o;(try simp only [p,o]);exact za h j;rename_i J r p o;(try simp only [p,o]);exact zb h j;rename_i t J r p o;(try simp only [p,o]);exact j;cases j;exact j;exact j;exact j;rename_i x y T U
 try simp only
 split at j;rename_i r yv o hy;(try simp only [o,hy]);exact Ed h j;cases j;exact j;cases j
theorem IB (h:MM m m'){fr:Fr}{nx:Nat}{hh:Hint}{o:Ϥ}{e:cB}(p:wc P fr m nx hh o=some e):wc P fr m' nx hh o=some e:=by
 unfold wc at p⊢;split at p
 case h_8 T x ho=>
  try simp only
  split at p;rename_i v I;(try simp only [I]);exact CD h p;cases p
 case h_9 T x y ho=>
  try simp only
  split at p;rename_i xv yv hx hy;(try simp only [hx,hy]);exact AH h p;cases p
 case h_13 T U x ho=>
  try simp only
  split at p;rename_i v I;(try simp only [I]);exact xk h p;cases p
 case h_7 T len parts ho=>
  try simp only
  split at p;rename_i t vs I;(try simp only [I]);exact AG h p;rename_i t vs I;(try simp only [I]);exact p;rename_i vs I;(try simp only [I]);exact p;cases p
 case h_15 T x lo hi ho=>
  try simp only
  split at p;rename_i v l h' I hl hh;(try simp only [I,hl,hh]);exact CC h p;cases p
 case h_18 T x i ho=>
  try simp only
  split at p;rename_i v j I hj;(try simp only [I,hj]);exact uM h p;cases p
 case h_22 c ho=>
  try simp only
  split at p;rename_i b hb;(try simp only [hb]);exact zc h p;rename_i f hf
  try simp only [hf]
  split at p;rename_i ms rs J k vs R r;(try simp only [R,r]);exact sV h p;rename_i ms rs J k t x vs R r;(try simp only [R,r]);exact sV h p;rename_i ms rs J k t x vs R r;(try simp only [R,r]);exact sV h p;rename_i k fk n R r;(try simp only [R,r]);exact p;cases p;cases p
 all_goals first
  |exact p
  |cases p
end
end Go.Ide
namespace Go.Ide
abbrev ER:=Option Tmp×cB
def mn (e:cB):Mem:=e.kZ++e.new
def kA (o:Ϥ):Bool:=
 match o.op with
 | .move _=>true
 | .assign _=>true
 | .pick _ _ _=>true
 | .binOp _ _ _ _ _=>true
 | .unOp _ _ _=>true
 | .fieldAddr _ _ _=>true
 | .index _ _ _=>true
 | .extract _ _=>true
 | .nilCheck _=>true
 |_=>false
def iw (sel:Nat->Bool):Nat->List ER->Fr->Fr
 |_,[],fr=>fr
 |i,(d,e)::r,fr=>iw sel (i+1) r (bif sel i then (match d with|some t=>(t,e.val)::fr|none=>fr) else fr)
def dq (sel:Nat->Bool):Nat->List ER->Mem->Mem
 |_,[],m=>m
 |i,(_,e)::r,m=>dq sel (i+1) r (bif sel i then mn e++m else m)
def iJ (sel:Nat->Bool)(t:Tmp):Nat->List ER->Option bu
 |_,[]=>none
 |i,(d,e)::r=>(iJ sel t (i+1) r).or (if sel i=true/\d=some t then some e.val else none)
def fw (sel:Nat->Bool)(k:Nat):Nat->List ER->Option Chunk
 |_,[]=>none
 |i,(_,e)::r=>(fw sel k (i+1) r).or (if sel i=true then lk k (mn e) else none)
theorem lx {sel:Nat->Bool}{t:Tmp}: ∀{l:List ER} {n:Nat} {fr:Fr},lk t (iw sel n l fr)=(iJ sel t n l).or (lk t fr)
 |[],_,_=>by simp [iw,iJ]
 |(d,e)::r,n,fr=>by
  simp only [iw,iJ];rw [lx,adC]
  congr 1
  cases o:sel n with
  |false=>simp
  |true=>
   simp only [cond_true,true_and];cases d with
   |none=>simp
   |some j=>
    rw [bB];by_cases h:t=j;subst h;simp;rw [if_neg h,if_neg (λe=>h (by injection e with e;exact e.symm))];rfl
theorem eM {sel:Nat->Bool}{k:Nat}: ∀{l:List ER} {n:Nat} {m:Mem},lk k (dq sel n l m)=(fw sel k n l).or (lk k m)
 |[],_,_=>by simp [dq,fw]
 |(d,e)::r,n,m=>by
  simp only [dq,fw];rw [eM,adC]
  congr 1
  cases j:sel n with
  |false=>simp
  |true=>simp only [cond_true,if_true];rw [cp]
theorem kP {sel sel':Nat->Bool}{t:Tmp}: ∀{l:List ER} {n:Nat},(∀(j:Nat) (d:Option Tmp) (e:cB),l[j]? =some (d,e)->d=some t->sel (n+j)=sel' (n+j))->iJ sel t n l=iJ sel' t n l
 |[],_,_=>rfl
 |(d,e)::r,n,h=>by
  simp only [iJ];have ih:iJ sel t (n+1) r=iJ sel' t (n+1) r:=kP λj d e p o=>by
   have:=h (j+1) d e (by simpa using p) o;have I:n+(j+1)=n+1+j:=by omega
   rw [I] at this;exact this
  have J:(if sel n=true/\d=some t then some e.val else none)=if sel' n=true/\d=some t then some e.val else none:=by
   by_cases o:d=some t;have R:sel n=sel' n:=by simpa using h 0 d e rfl o
   rw [R];rw [if_neg (λx=>o x.2),if_neg (λx=>o x.2)]
  rw [ih,J]
theorem CF {sel:Nat->Bool}{t:Tmp}{v:cB}: ∀{l:List ER} {n i:Nat},l[i]? =some (some t,v)->sel (n+i)=true->(∀(j:Nat) (d:Option Tmp) (e:cB),i<j->l[j]? =some (d,e)->d=some t->sel (n+j)=false)->iJ sel t n l=some v.val
 |[],n,i,h,_,_=>by simp at h
 |(d,e)::r,n,0,h,o,I=>by
  simp at h;obtain ⟨rfl,rfl⟩:=h;have T:iJ sel t (n+1) r=iJ (λ_=>false) t (n+1) r:=kP λj d e J R=>by
   have:=I (j+1) d e (by omega) (by simpa using J) R;rwa [show n+(j+1)=n+1+j from by omega] at this
  have U: ∀(l:List ER) (n:Nat),iJ (λ_=>false) t n l=none:=by
   intro l;induction l with
   |nil=>intro _;rfl
   |cons p l ih=>intro n;obtain ⟨d,e⟩:=p;simp [iJ,ih]
  simp only [iJ];rw [T,U];have o:sel n=true:=by simpa using o
  simp [o]
 |(d,e)::r,n,i+1,h,o,I=>by
  simp only [iJ];have:=CF (l:=r) (n:=n+1) (i:=i) (by simpa using h) (by rwa [show n+(i+1)=n+1+i from by omega] at o) (λj d e aa J R=>by
   have:=I (j+1) d e (by omega) (by simpa using J) R;rwa [show n+(j+1)=n+1+j from by omega] at this)
  rw [this];rfl
theorem jx {sel:Nat->Bool}{k:Nat}{ch:Chunk}: ∀{l:List ER} {n:Nat},fw sel k n l=some ch-> ∃(j:Nat) (d:Option Tmp) (e:cB),l[j]? =some (d,e)/\sel (n+j)=true/\lk k (mn e)=some ch
 |[],_,h=>by simp [fw] at h
 |(d,e)::r,n,h=>by
  simp only [fw] at h;cases o:fw sel k (n+1) r with
  |some c=>
   rw [o] at h;have h:c=ch:=by simpa using h
   subst h;obtain ⟨j,p,t,I,T,J⟩:=jx o;exact ⟨j+1,p,t,by simpa using I,by rwa [show n+(j+1)=n+1+j from by omega],J⟩
  |none=>
   rw [o] at h;simp only [abx] at h;split at h;rename_i R;exact ⟨0,d,e,rfl,by simpa using R,h⟩;cases h
theorem oB {sel:Nat->Bool}{k:Nat}: ∀{l:List ER} {n:Nat},fw sel k n l=none-> ∀(j:Nat) (d:Option Tmp) (e:cB),l[j]? =some (d,e)->sel (n+j)=true->lk k (mn e)=none
 |[],_,_,j,d,e,o,_=>by simp at o
 |(t,I)::r,n,h,j,d,e,o,p=>by
  simp only [fw,aa2] at h;cases j with
  |zero=>
   simp at o;obtain ⟨rfl,rfl⟩:=o;have p:sel n=true:=by simpa using p
   have:=h.2;rwa [if_pos p] at this
  |succ j=>exact oB h.1 j d e (by simpa using o) (by rwa [show n+(j+1)=n+1+j from by omega] at p)
def c8 (j:Nat):List Nat->Bool
 |[]=>false
 |a::l=>Α j a||c8 j l
theorem eE {j:Nat}: ∀{l:List Nat},c8 j l=true↔j∈l
 |[]=>by simp [c8]
 |a::l=>by
  simp only [c8,aa3,eE,ϒ];constructor;rintro (h|h);exact .inl (bR h);exact .inr h;rintro (h|h);subst h;exact .inl (adw _);exact .inr h
def nw (all:List Ϥ)(o:Ϥ):List Tmp:=
 (o.op.operands.toList.filterMap fun| .tmp t=>some t|_=>none)++(match o.guard with
  |some (j,_)=>(tW all j).toList
  |none=>[])
def fJ (o:Ϥ):List Nat:=(o.after.toList.filter λe=>Region.binds .any e).map (·.on)
def pO (all:List Ϥ)(x y:Ϥ):Bool:=
 (match x.dst with
 |some t=>c8 t (nw all y)||(match y.dst with|some u=>Α t u|none=>false)
 |none=>false)||
 (match y.dst with
 |some t=>c8 t (nw all x)
 |none=>false)
def nz (all:List Ϥ)(Ds:List (List Nat))(h:Nat):Nat->List Ϥ->Bool
 |_,[]=>true
 |i,o::os=>
  ((fJ o).all λd=>aae d i)&&
  (((Ds.getD i []).all λj=>c8 j (fJ o)||(fJ o).any λd=>c8 j (Ds.getD d [])))&&
  ((abh i).all λj=>c8 j (Ds.getD i [])||(aae i h&& !(pO all (all.getD j default) o)))&&
  nz all Ds h (i+1) os
theorem vr {all:List Ϥ}{Ds:List (List Nat)}{h:Nat}: ∀{os:List Ϥ} {n:Nat},nz all Ds h n os=true-> ∀(i:Nat) (o:Ϥ),os[i]? =some o->
 (∀d∈fJ o,d<n+i)/\(∀j∈Ds.getD (n+i) [],j∈fJ o\/ ∃d∈fJ o,j∈Ds.getD d [])/\(∀j,j<n+i->j∈Ds.getD (n+i) []\/(n+i<h/\pO all (all.getD j default) o=false))
 |[],_,_,i,o,p=>by simp at p
 |o0::os,n,I,i,o,p=>by
  simp only [nz,κ] at I;obtain ⟨⟨⟨J,R⟩,T⟩,U⟩:=I;cases i with
  |succ i=>
   have:=vr U i o (by simpa using p);rwa [show n+1+i=n+(i+1) from by omega] at this
  |zero=>
   simp at p;subst p;refine ⟨λd r=> ?_,λj t=> ?_,λj t=> ?_⟩;have:=ϡ.1 J d r;exact abD (by simpa [aae] using this);have:=ϡ.1 R j t;simp only [aa3] at this;rcases this with h|h
   exact .inl (eE.1 h);obtain ⟨d,r,hm⟩:=List.any_eq_true.1 h;exact .inr ⟨d,r,eE.1 hm⟩;have:=ϡ.1 T j (by simpa using t);simp only [aa3,κ,aaf] at this;rcases this with h|⟨h,h'⟩
   exact .inl (eE.1 h);exact .inr ⟨abD (by simpa [aae] using h),h'⟩
theorem sE {all:List Ϥ}{x y:Ϥ}(h:pO all x y=false):(∀t,x.dst=some t->t ∉ nw all y)/\(∀t,x.dst=some t->y.dst≠some t)/\(∀t,y.dst=some t->t ∉ nw all x):=by
 unfold pO at h;simp only [aeU] at h;obtain ⟨j,o⟩:=h;refine ⟨λt ht p=> ?_,λt ht r=> ?_,λt ht p=> ?_⟩;simp only [ht,aeU] at j;rw [eE.2 p] at j;cases j.1;simp [ht,r] at j;simp only [ht] at o;rw [eE.2 p] at o;cases o
structure HR where
 r:OH
 D:List Nat
def IC (m:Mem)(l:Mem):Bool:=l.all λp=>(lk p.1 m).isSome
def Ni (m l:Mem):Bool:=l.all λp=>(lk p.1 m).isNone
theorem Ee {m l:Mem}(h:Ni m l=true)(k:Nat)(j:lk k l≠none):lk k m=none:=by
 obtain ⟨c,o⟩:=aaI.1 j;have:=ϡ.1 h _ (mh o);simpa using this
def CG (o:Ϥ)(h:Hint)(fr:Fr):Option Nat:=
 match o.op,h with
 | .load _ x,.no=>(match ev fr x with
  |some (.one (.ptr c _))=>some c
  |some (.one (.cZ c _ _ _))=>some c
  |_=>none)
 | .indexAddr _ x _,.no=>(match ev fr x with
  |some (.one (.all c))=>some c
  |_=>none)
 | .slice _ x _ _ none,.no=>(match ev fr x with
  |some (.one (.bp (.sl _) _))=>some 1000000
  |_=>none)
 |_,_=>none
def Lo (k:Option Nat)(u:Mem):Bool:=
 match k with
 |some c=>(lk c u).isNone
 |none=>false
def uN (all:List Ϥ)(o:Ϥ)(D:List Nat)(e:cB)(m:Mem)(done:List ER)(ks:List (Option Nat))(t:Option Nat):Nat->List ER->Bool
 |_,[]=>true
 |j,p::r=>(c8 j D||((e.kZ.isEmpty||(kA (all.getD j default)||Ni (dq (λ_=>true) 0 (done.take j) m) e.kZ||Lo (ks.getD j none) e.kZ))&&(p.2.kZ.isEmpty||(kA o||Lo t p.2.kZ))))&&uN all o D e m done ks t (j+1) r
def xn (P:Ξ)(N:Nat)(all:List Ϥ)(st:St):List Ϥ->List HR->List ER->List (Option Nat)->Nat->Option (List ER×List Prop×Nat)
 |[],_,done,_,nx=>some (done,[],nx)
 |o::os,r::rs,done,t,nx=>
  (match ql P all o r.r (iw (λj=>c8 j r.D) 0 done st.fr) (dq (λj=>c8 j r.D) 0 done st.mem) nx with
  |some (e,cs)=>bif ((KT N o.dst&&uN all o r.D e st.mem done t (CG o r.r.h (iw (λj=>c8 j r.D) 0 done st.fr)) 0 done)&&IC (dq (λj=>c8 j r.D) 0 done st.mem) e.kZ)&&mi (dq (λ_=>true) 0 done st.mem) e.new then
   (match xn P N all st os rs (done++[(o.dst,e)]) (t++[CG o r.r.h (iw (λj=>c8 j r.D) 0 done st.fr)]) (nx+e.new.length) with
   |some (l,p,n)=>some (l,cs++p,n)
   |none=>none) else none
  |none=>none)
 |_::_,[],_,_,_=>none
def xp (P:Ξ)(N:Nat)(all:List Ϥ)(st:St)(os:List Ϥ)(rs:List HR)(done:List ER)(nx:Nat):Option (List ER×List Prop×Nat):=xn P N all st os rs done [] nx
structure Ef (P:Ξ)(N:Nat)(all:List Ϥ)(st:St)(dP:List ER)(K:Nat->Option Nat)(i:Nat)(o:Ϥ)(D:List Nat):Prop where
 got: ∃(r:OH) (nx:Nat) (e:cB) (cs:List Prop),dP[i]? =some (o.dst,e)/\ql P all o r (iw (λj=>c8 j D) 0 (dP.take i) st.fr) (dq (λj=>c8 j D) 0 (dP.take i) st.mem) nx=some (e,cs)/\bU cs/\
  KT N o.dst=true/\(∀k,lk k e.kZ≠none->lk k (dq (λj=>c8 j D) 0 (dP.take i) st.mem)≠none)/\fe (dq (λ_=>true) 0 (dP.take i) st.mem) e.new/\
  K i=CG o r.h (iw (λj=>c8 j D) 0 (dP.take i) st.fr)/\
  (∀j d e',j<i->dP[j]? =some (d,e')->j∈D\/((e.kZ=[]\/kA (all.getD j default)=true\/(∀k,lk k e.kZ≠none->lk k (dq (λ_=>true) 0 (dP.take j) st.mem)=none)\/ ∃c,K j=some c/\lk c e.kZ=none)/\(e'.kZ=[]\/kA o=true\/ ∃c,K i=some c/\lk c e'.kZ=none)))
theorem zK {k:Option Nat}{u:Mem}(h:Lo k u=true): ∃c,k=some c/\lk c u=none:=by
 unfold Lo at h;cases k with
 |none=>cases h
 |some c=>exact ⟨c,rfl,by simpa using h⟩
theorem vt {all:List Ϥ}{o:Ϥ}{D:List Nat}{e:cB}{m:Mem}{done:List ER}{ks:List (Option Nat)}{J:Option Nat}: ∀{l:List ER} {n:Nat},uN all o D e m done ks J n l=true-> ∀j d t,l[j]? =some (d,t)->(n+j)∈D\/((e.kZ=[]\/kA (all.getD (n+j) default)=true\/(∀k,lk k e.kZ≠none->lk k (dq (λ_=>true) 0 (done.take (n+j)) m)=none)\/ ∃c,ks.getD (n+j) none=some c/\lk c e.kZ=none)/\(t.kZ=[]\/kA o=true\/ ∃c,J=some c/\lk c t.kZ=none))
 |[],_,_,j,d,t,I=>by simp at I
 |p::r,n,h,0,d,t,I=>by
  simp only [List.getElem?_cons_zero,ag0] at I;subst I;simp only [uN,κ,aa3,List.isEmpty_iff] at h;rcases h.1 with h|⟨h,R⟩
  exact .inl (eE.1 h);refine .inr ⟨?_,R.imp id λh=>h.imp id zK⟩;rcases h with h|(h|h)|h
  exact .inl h;exact .inr (.inl h);exact .inr (.inr (.inl (Ee h)));exact .inr (.inr (.inr (zK h)))
 |p::r,n,h,j+1,d,t,I=>by
  simp only [uN,κ] at h;have:=vt h.2 j d t (by simpa using I);rwa [show n+1+j=n+(j+1) from by omega] at this
theorem Eg {m l:Mem}(h:IC m l=true)(k:Nat)(j:lk k l≠none):lk k m≠none:=by
 obtain ⟨c,o⟩:=aaI.1 j;have:=ϡ.1 h _ (mh o);intro e;rw [e] at this;cases this
theorem vu {P:Ξ}{N:Nat}{all:List Ϥ}{st:St}: ∀{os:List Ϥ} {rs:List HR} {done dP:List ER} {ks:List (Option Nat)} {cs:List Prop} {nx nx':Nat},ks.length=done.length->xn P N all st os rs done ks nx=some (dP,cs,nx')->bU cs->
 (∃l,dP=done++l/\l.length=os.length)/\ ∃K:Nat->Option Nat,(∀j,j<done.length->K j=ks.getD j none)/\ ∀(i:Nat) (o:Ϥ),os[i]? =some o->Ef P N all st dP K (done.length+i) o ((rs.map HR.D).getD i [])
 |[],rs,done,dP,ks,cs,nx,nx',_,h,_=>by
  simp only [xn] at h;injection h with h;injection h with h1 h;subst h1;exact ⟨⟨[],by simp,rfl⟩,λj=>ks.getD j none,λ_ _=>rfl,λi o ho=>by simp at ho⟩
 |o::os,[],done,dP,ks,cs,nx,nx',_,h,_=>by cases h
 |o::os,r::rs,done,dP,ks,cs,nx,nx',I,h,hc=>by
  simp only [xn] at h;split at h
  ·rename_i e N3 hi;cases hb:(((KT N o.dst&&uN all o r.D e st.mem done ks (CG o r.r.h (iw (λj=>c8 j r.D) 0 done st.fr)) 0 done)&&IC (dq (λj=>c8 j r.D) 0 done st.mem) e.kZ)&&mi (dq (λ_=>true) 0 done st.mem) e.new) with
   |false=>rw [hb] at h;cases h
   |true=>
    rw [hb] at h;simp only [cond_true] at h;simp only [κ] at hb;obtain ⟨⟨⟨hd,hp⟩,hu⟩,hf⟩:=hb;split at h
    ·rename_i l BM n hr;injection h with h;injection h with h1 h;injection h with h2 h3;subst h1;subst h2;obtain ⟨Ox,tq⟩:=hc.append;obtain ⟨⟨l',J,e2⟩,K,hK,p⟩:=vu (by simp [I]) hr tq;have R: ∀j,j<done.length->K j=ks.getD j none:=λj hj=>by
      rw [hK j (by simp;omega),ς,Μ (by omega),<-ς]
     have T:K done.length=CG o r.r.h (iw (λj=>c8 j r.D) 0 done st.fr):=by
      rw [hK done.length (by simp),ς,Κ (by omega),I,Nat.sub_self];rfl
     refine ⟨⟨(o.dst,e)::l',by rw [J];simp,by simp [e2]⟩,K,R,λi o' t=> ?_⟩;cases i with
     |zero=>
      simp at t;subst t;have ht:l.take done.length=done:=by rw [J];simp
      refine ⟨⟨r.r,nx,e,N3,?_,?_,Ox,hd,?_,?_,?_,?_⟩⟩;rw [J];simp;simp only [ϧ,ht,ϱ];exact hi;simp only [ϧ,ht,ϱ];exact Eg hu;simp only [ϧ,ht];exact fY hf;simp only [ϧ,ht,ϱ];exact T
      ·intro j d e' hj U;have aa:j<done.length:=by simpa using hj
       have ab:done[j]? =some (d,e'):=by
        rw [J,ό,Μ aa] at U;exact U
       have:=vt hp j d e' ab;rw [Υ] at this;have e5:l.take j=done.take j:=by rw [J,ό,List.take_append_of_le_length (by omega)]
       rw [e5,R j aa,ϧ,T];exact this
     |succ i=>
      have:=p i o' (by simpa using t);have ad:(done++[(o.dst,e)]).length+i=done.length+(i+1):=by simp;omega
      rw [ad] at this;simpa using this
    cases h
  cases h
theorem Eh {P:Ξ}{N:Nat}{all:List Ϥ}{st:St}{os:List Ϥ}{rs:List HR}{dP:List ER}{cs:List Prop}{nx nx':Nat}(h:xp P N all st os rs [] nx=some (dP,cs,nx'))(j:bU cs):
 (∃l,dP=[]++l/\l.length=os.length)/\ ∃K:Nat->Option Nat,∀(i:Nat) (o:Ϥ),os[i]? =some o->Ef P N all st dP K (([]:List ER).length+i) o ((rs.map HR.D).getD i []):=by
 obtain ⟨p,K,_,r⟩:=vu (done:=[]) (ks:=[]) rfl h j;exact ⟨p,K,r⟩
theorem sW {sel:Nat->Bool}{t:Tmp}: ∀{l:List ER} {n i:Nat},(∀j,i<=j->sel (n+j)=false)->iJ sel t n (l.take i)=iJ sel t n l
 |[],_,_,_=>by simp
 |(d,e)::r,n,0,h=>by
  have:iJ sel t n ((d,e)::r)=iJ (λ_=>false) t n ((d,e)::r):=kP λj _ _ _ _=>h j (Nat.zero_le _);rw [this];have o: ∀(l:List ER) (n:Nat),iJ (λ_=>false) t n l=none:=by
   intro l;induction l with
   |nil=>intro _;rfl
   |cons p l ih=>intro n;obtain ⟨d,e⟩:=p;simp [iJ,ih]
  rw [o];rfl
 |(d,e)::r,n,i+1,h=>by
  simp only [List.take_succ_cons,iJ];rw [sW (λj I=>by have:=h (j+1) (by omega);rwa [show n+(j+1)=n+1+j from by omega] at this)]
theorem nA {l:List ER}{i j:Nat}{p:ER}(h:(l.take i)[j]? =some p):j<i/\l[j]? =some p:=by
 rw [ϐ] at h;split at h;rename_i o;exact ⟨o,h⟩;cases h
theorem ID {fr j:Fr}{x:aah}(h: ∀t,x= .tmp t->lk t j=lk t fr):ev j x=ev fr x:=by
 cases x with
 |tmp t=>exact h t rfl
 |_=>rfl
theorem uO {fr j:Fr}: ∀{xs:List aah},(∀x∈xs,ev j x=ev fr x)->Iq j xs=Iq fr xs
 |[],_=>rfl
 |x::xs,h=>by simp only [Iq];rw [h x (by simp),uO λy o=>h y (by simp [o])]
theorem uP {fr j:Fr}: ∀{xs:List (Nat×aah)},(∀x∈xs.map (·.2),ev j x=ev fr x)->yH j xs=yH fr xs
 |[],_=>rfl
 |(i,x)::xs,h=>by simp only [yH];rw [h x (by simp),uP λy o=>h y (by simp only [ϱ,ϒ];exact .inr o)]
theorem rV {fr j:Fr}{x:Option aah}(h: ∀y,x=some y->ev j y=ev fr y):KS j x=KS fr x:=by
 cases x with
 |none=>rfl
 |some y=>simp only [KS];rw [h y rfl]
theorem G4 {P:Ξ}{fr J:Fr}{m:Mem}{nx:Nat}{h:Hint}{o:Ϥ}(p: ∀x∈o.op.operands.toList,ev J x=ev fr x):wc P J m nx h o=wc P fr m nx h o:=by
 unfold wc;cases ho:o.op<;>rw [ho] at p<;>simp only [Op.operands] at p<;>try simp only
 case move x=>rw [p x (by simp)]
 case assign x=>rw [p x (by simp)]
 case pick c x y=>
  have e1:=p c (by simp);have e2:=p x (by simp);have e3:=p y (by simp);have e4: ∀b:Bool,ev J (bif b then x else y)=ev fr (bif b then x else y):=λb=>by cases b<;>assumption
  simp only [e1,e4]
 case box T x=>rw [p x (by simp)]
 case build T ps=>rw [uP λx R=>p x (by simpa using R)]
 case buildSlice T n ps=>rw [uP λx R=>p x (by simpa using R)]
 case load T x=>rw [p x (by simp)]
 case store T x y=>rw [p x (by simp),p y (by simp)]
 case nilCheck x=>rw [p x (by simp)]
 case binOp op T x y T'=>rw [p x (by simp),p y (by simp)]
 case unOp op T x=>rw [p x (by simp)]
 case convert T U x=>rw [p x (by simp)]
 case makeSlice T l c=>rw [p l (by simp),p c (by simp)]
 case slice T x lo hi mx=>
  cases mx with
  |some q=>
   try simp only
   rw [p x (by simp),p q (by simp),rV λy hy=>p y (by subst hy;simp),rV (x:=hi) λy hy=>p y (by subst hy;simp)]
  |none=>
   try simp only
   rw [p x (by simp),rV λy hy=>p y (by subst hy;simp),rV (x:=hi) λy hy=>p y (by subst hy;simp)]
 case fieldAddr T x f=>rw [p x (by simp)]
 case indexAddr T x i=>rw [p x (by simp),p i (by simp)]
 case index T x i=>rw [p x (by simp),p i (by simp)]
 case extract x i=>rw [p x (by simp)]
 case makeFunc fn first t=>
  have sy: ∀x∈t.toList,ev J x=ev fr x:=λx R=>p x (by simp only [Array.toList_append,Λ];exact .inr R);cases fn with
  |func f=>
   try simp only
   rw [uO sy]
  |_=>rfl
 case call c=>
  cases hc:c.callee with
  |builtin b=>
   simp only;have I: ∀x∈c.args.toList,ev J x=ev fr x:=λx R=>p x (by simp [aed,hc];simpa using R);unfold pM;split;rename_i x T j _;rw [I x (by rw [j];simp)];rename_i s x T T' j _;rw [I s (by rw [j];simp),I x (by rw [j];simp)];rename_i _ x y j;rw [I x (by rw [j];simp),I y (by rw [j];simp)];rename_i _ x y z j;rw [I x (by rw [j];simp),I y (by rw [j];simp),I z (by rw [j];simp)];rename_i _ x y j;rw [I x (by rw [j];simp),I y (by rw [j];simp)];rename_i x y T T' j _;rw [I x (by rw [j];simp),I y (by rw [j];simp)];rename_i x T j _;rw [I x (by rw [j];simp)];rfl
  |value f=>
   simp only;rw [p f (by simp [aed,hc]),uO λx R=>p x (by simp [aed,hc];exact .inr (by simpa using R))]
  |invoke r n=>rfl
theorem FM {P:Ξ}{fr:Fr}{m m':Mem}{nx c:Nat}{h:Hint}{o:Ϥ}{e:cB}(r:CG o h fr=some c)(hm: ∀ch,lk c m=some ch->lk c m'=some ch)(p:wc P fr m nx h o=some e):wc P fr m' nx h o=some e/\e.new=[]/\e.kZ=[]:=by
 have Zi: ∀{v:bu} {e:cB},cz v=some e->e.new=[]/\e.kZ=[]:=by
  intro v e h;injection h with h;subst h;exact ⟨rfl,rfl⟩
 have J: ∀{v:bu} {c:List Prop} {e:cB},fL v c=some e->e.new=[]/\e.kZ=[]:=by
  intro v c e h;injection h with h;subst h;exact ⟨rfl,rfl⟩
 unfold CG at r;unfold wc at p⊢;cases ho:o.op<;>rw [ho] at r p<;>(try simp only at p⊢)<;>try (simp only at r;cases r;done)
 case load T x=>
  cases h<;>simp only at r<;>try (cases r;done)
  split at r;rename_i c' off U;injection r with r;subst r;rw [U] at p⊢;simp only [qY,Hint.vk,cond_false] at p⊢;unfold pB at p⊢;split at p;rename_i heq _ _;cases heq;rename_i heq _ _;cases heq;rename_i c0 n ag R Vs heq hs ha;injection heq with heq;subst heq
  (try simp only [hs,ha])
  simp only [nQ] at p⊢;cases I:lk c' m with
  |none=>rw [I] at p;simp at p
  |some ch=>
   rw [I] at p;rw [hm ch I];refine ⟨p,?_⟩;split at p;split at p;exact Zi p;cases p;cases p
  cases p;rename_i c' i sz off U;injection r with r;subst r;rw [U] at p⊢;simp only [qY,Hint.vk,cond_false] at p⊢;unfold pB at p⊢;split at p;rename_i c0 i0 sz0 Zj n ag heq hs ha;injection heq with heq;injection heq with q1 q2 q3 q4;subst q1;subst q2;subst q3;subst q4
  (try simp only [hs,ha])
  cases I:lk c' m with
  |none=>rw [I] at p;simp at p
  |some ch=>
   rw [I] at p;rw [hm ch I];refine ⟨p,?_⟩;cases ch with
   |seq t xs=>
    simp only at p;revert p;generalize (_&&_:Bool)=q;intro p;cases q;cases p;simp only [cond_true] at p;split at p;exact J p;cases p
   |oS t xs j cs ks=>
    simp only at p;revert p;generalize (_&&_:Bool)=q;intro p;cases q;cases p;simp only [cond_true] at p;split at p;exact J p;cases p
   |box cs=>cases p
   |mp=>cases p
   |gh=>cases p
   |pA=>cases p
   |gone=>cases p
  rename_i heq _ _;cases heq;rename_i c0 n ag R Vs heq hs ha;injection heq with heq;exact absurd heq.symm (R _ _ _ _);cases p;cases r
 case slice T x lo hi q=>
  cases h<;>cases q<;>simp only at r<;>try (cases r;done)
  split at r
  ·rename_i t xs U;simp only at p⊢;rw [U] at p⊢;split at p
   ·rename_i v l h' heq hl hh;injection heq with heq;subst heq
    (try simp only [hl,hh])
    unfold sK at p⊢;cases hu:P.underlying T with
    |none=>rw [hu] at p;cases p
    |some u=>
     rw [hu] at p;cases u<;>simp only at p⊢ <;>try (cases p;done)
     refine ⟨p,?_⟩;split at p;revert p;generalize (_==some t.size:Bool)=b;intro p;cases b;cases p;exact J p;cases p
   cases p
  cases r
 case indexAddr T x i=>
  cases h<;>simp only at r<;>try (cases r;done)
  split at r;rename_i c' U;injection r with r;subst r;rw [U] at p⊢;cases hi:ev fr i with
  |none=>rw [hi] at p;cases p
  |some j=>
   rw [hi] at p;simp only at p⊢;have hA:tz P T (.one (.all c')) j=none:=by
    unfold tz;split<;>first|rfl|(rename_i I;cases I)
   unfold jt at p⊢;rw [hA] at p⊢;simp only at p⊢;unfold kx at p⊢;split at p;rename_i el k n hu
   (try simp only [hu])
   split at p;rename_i heq _;cases heq;rename_i c0 kz heq hs;injection heq with heq;injection heq with heq;subst heq
   (try simp only [hs])
   cases I:lk c' m with
   |none=>rw [I] at p;simp at p
   |some ch=>
    rw [I] at p;rw [hm ch I];refine ⟨p,?_⟩;cases ch with
    |seq t xs=>
     simp only at p;revert p;generalize (Α _ _:Bool)=q;intro p;cases q;cases p;exact J p
    |oS t xs j cs ks=>
     simp only at p;revert p;generalize (Α _ _:Bool)=q;intro p;cases q;cases p;exact J p
    |box cs=>cases p
    |mp=>cases p
    |gh=>cases p
    |pA=>cases p
    |gone=>cases p
   rename_i heq _;cases heq;rename_i heq _;cases heq;cases p;cases p
  cases r
theorem CH {P:Ξ}{all:List Ϥ}{fr r:Fr}{m m':Mem}{nx:Nat}{o:Ϥ}{R:Hint}{x:cB×List Prop}(hf: ∀t∈nw all o,lk t r=lk t fr)(hm:MM m m')(h:sD P all o R fr m nx=some x):sD P all o R r m' nx=some x:=by
 have hk: ∀x∈o.op.operands.toList,ev r x=ev fr x:=λx J=>ID λt ht=>hf t (by
  unfold nw;refine Λ.2 (.inl (List.mem_filterMap.2 ⟨x,J,?_⟩));rw [ht])
 have hi: ∀e,wc P fr m nx R o=some e->wc P r m' nx R o=some e:=λe he=>by
  rw [G4 hk];exact IB hm he
 unfold sD at h⊢;cases U:o.guard with
 |none=>
  rw [U] at h;simp only at h⊢;cases J:wc P fr m nx R o with
  |none=>simp [J] at h
  |some e=>rw [J] at h;rw [hi e J];exact h
 |some p=>
  obtain ⟨j,T⟩:=p;rw [U] at h;simp only at h⊢;have aa:(tW all j).bind (λt=>lk t r)=(tW all j).bind (λt=>lk t fr):=by
   cases hs:tW all j with
   |none=>rfl
   |some t=>
    simp only [η];exact hf t (by unfold nw;simp [U,hs])
  rw [aa];split at h;rename_i b hb;cases I:(b==T) with
  |false=>rw [I] at h;exact h
  |true=>
   rw [I] at h;simp only [cond_true] at h⊢;cases J:wc P fr m nx R o with
   |none=>simp [J] at h
   |some e=>rw [J] at h;rw [hi e J];exact h
  exact h;cases h
theorem sX {P:Ξ}{all:List Ϥ}{fr j:Fr}{m m':Mem}{nx:Nat}{o:Ϥ}{r:OH}{x:cB×List Prop}(I: ∀t∈nw all o,lk t j=lk t fr)(J:MM m m')(h:ql P all o r fr m nx=some x):ql P all o r j m' nx=some x:=by
 unfold ql at h⊢;cases p:sD P all o r.h fr m nx with
 |none=>rw [p] at h;cases h
 |some y=>rw [p] at h;rw [CH I J p];exact h
theorem CI {P:Ξ}{all:List Ϥ}{fr aa:Fr}{m m':Mem}{nx c:Nat}{o:Ϥ}{r:OH}{e:cB}{cs:List Prop}(hk:CG o r.h fr=some c)(hf: ∀t∈nw all o,lk t aa=lk t fr)(hm: ∀ch,lk c m=some ch->lk c m'=some ch)(h:ql P all o r fr m nx=some (e,cs)):
 ql P all o r aa m' nx=some (e,cs)/\e.new=[]/\e.kZ=[]:=by
 have R:ql P all o r fr m' nx=some (e,cs)/\e.new=[]/\e.kZ=[]:=by
  obtain ⟨e0,N3,I,_,hn,hu,_⟩:=xf h;have key:sD P all o r.h fr m' nx=some (e0,N3)/\e0.new=[]/\e0.kZ=[]:=by
   clear h hn hu;unfold sD at I⊢;cases hg:o.guard with
   |none=>
    rw [hg] at I;simp only at I⊢;cases T:wc P fr m nx r.h o with
    |none=>simp [T] at I
    |some e'=>
     rw [T] at I;obtain ⟨k1,k2,k3⟩:=FM hk hm T;rw [k1];injection I with I;injection I with R U;subst R;exact ⟨by simp only [U],k2,k3⟩
   |some p=>
    obtain ⟨j,ab⟩:=p;rw [hg] at I;simp only at I⊢;split at I;rename_i b hb;cases J:(b==ab) with
    |false=>
     rw [J] at I;simp only [cond_false] at I⊢;injection I with I;injection I with R U;subst R;exact ⟨by rw [U],rfl,rfl⟩
    |true=>
     rw [J] at I;simp only [cond_true] at I⊢;cases T:wc P fr m nx r.h o with
     |none=>simp [T] at I
     |some e'=>
      rw [T] at I;obtain ⟨k1,k2,k3⟩:=FM hk hm T;rw [k1];injection I with I;injection I with R U;subst R;exact ⟨by simp only [U],k2,k3⟩
    injection I with I;injection I with R U;subst R;exact ⟨by rw [U],rfl,rfl⟩;cases I
  refine ⟨?_,by rw [hn];exact key.2.1,by rw [hu];exact key.2.2⟩;unfold ql at h⊢;rw [I] at h;rw [key.1];exact h
 exact ⟨sX hf (λ_ _ h=>h) R.1,R.2⟩
end Go.Ide
namespace Go.Ide
section
variable {cx:Cx} {g:GM} {st:St} {a:Act} {w:Ε}
theorem cG.congr {o:Fr}{m':Mem}{nx':Nat}(h:cG cx g st a w)(R: ∀t v,lk t o=some v->lk t st.fr=some v)(J: ∀k,lk k m'=lk k st.mem):cG cx g ⟨o,m',nx'⟩ a w:=by
 have j:cG cx g (st.iT m' nx') a w:=h.tC (G:=[]) ⟨bJ.refl _ _,λb r=>(by simp at r),λ_ _=>rfl,λk T I=> .inl ⟨(J k).trans I,λ_ b _ _ r=>by simp at r⟩,λk T I p=>by
  rw [J,I] at p;cases p⟩
 exact ⟨j.defers,j.size,λt v U=>j.fr t v (R t v U),j.mem,j.fV,j.iF,j.lt,j.bt,j.own,j.gl⟩
theorem cG.drew (h:cG cx g st a w):cG cx g st a w.drew:=by
 have r:cG cx g (st.iT st.mem st.nx) a w.drew:=h.tC (G:=[]) ⟨bJ.drew _ _,λb o=>(by simp at o),λ_ _=>rfl,λk t p=> .inl ⟨p,λ_ b _ _ o=>by simp at o⟩,λk t p j=>by
  rw [p] at j;cases j⟩
 exact r
theorem xq {α:Type}: ∀{l:List (Nat×α)} {p:Nat×α},p∈l->lk p.1 l≠none
 |q::l,p,h=>by
  obtain ⟨k,x⟩:=q;rw [bB];split;simp;rename_i j;rcases ϒ.1 h with e|h
  subst e;exact absurd rfl j;exact xq h
theorem ra {sel sel':Nat->Bool}{k:Nat}: ∀{l:List ER} {n:Nat},(∀(j:Nat) (d:Option Tmp) (e:cB),l[j]? =some (d,e)->lk k (mn e)≠none->sel (n+j)=sel' (n+j))->fw sel k n l=fw sel' k n l
 |[],_,_=>rfl
 |(d,e)::r,n,h=>by
  simp only [fw];have ih:fw sel k (n+1) r=fw sel' k (n+1) r:=ra λj d e o p=>by
   have:=h (j+1) d e (by simpa using o) p;have t:n+(j+1)=n+1+j:=by omega
   rw [t] at this;exact this
  have I:(if sel n=true then lk k (mn e) else none)=if sel' n=true then lk k (mn e) else none:=by
   cases J:lk k (mn e) with
   |none=>simp
   |some c=>
    have R:sel n=sel' n:=by simpa using h 0 d e rfl (by rw [J];simp)
    rw [R]
  rw [ih,I]
structure mc (P:Ξ)(N:Nat)(all:List Ϥ)(st:St)(h:Nat)(Ds:List (List Nat))(dP:List ER)(K:Nat->Option Nat):Prop where
 len:dP.length=h
 ok: ∀i,i<h-> ∃o,all[i]? =some o/\Ef P N all st dP K i o (Ds.getD i [])
 AI: ∀i o,all[i]? =some o->(∀d∈fJ o,d<i)/\(∀j∈Ds.getD i [],j∈fJ o\/ ∃d∈fJ o,j∈Ds.getD d [])/\(∀j,j<i->j∈Ds.getD i []\/(i<h/\pO all (all.getD j default) o=false))
variable {P:Ξ} {N:Nat} {all:List Ϥ} {h:Nat} {Ds:List (List Nat)} {dP:List ER} {K:Nat->Option Nat}
theorem mc.lt (H:mc P N all st h Ds dP K): ∀(i j:Nat) (o:Ϥ),all[i]? =some o->j∈Ds.getD i []->j<i:=by
 intro i;induction i using aap with
 |_ i ih=>
  intro j o J r;obtain ⟨R,T,_⟩:=H.AI i o J;rcases T j r with t|⟨d,t,r⟩
  exact R j t;have p:=R d t;have I:i<all.length:=(ψ.1 J).1;exact ahm (ih d p j all[d] (Γ (ahm p I)) r) p
theorem mc.er (H:mc P N all st h Ds dP K){i:Nat}{d:Option Tmp}{e:cB}(t:dP[i]? =some (d,e)):i<h/\ ∃o,all[i]? =some o/\d=o.dst/\all.getD i default=o:=by
 have p:i<h:=by rw [<-H.len];exact (ψ.1 t).1
 obtain ⟨o,I,⟨⟨r,nx,J,cs,j,_⟩⟩⟩:=H.ok i p;rw [t] at j;injection j with j;injection j with j R;refine ⟨p,o,I,j,?_⟩;rw [ς,I];rfl
theorem IE {k:Nat}{e:cB}(h:lk k (mn e)=none):lk k e.new=none:=by
 unfold mn at h;rw [cp,aa2] at h;exact h.2
theorem mc.uniq (H:mc P N all st h Ds dP K){i j:Nat}{d T:Option Tmp}{e t:cB}{k:Nat}(U:dP[i]? =some (d,e))(I:dP[j]? =some (T,t))(hk:lk k e.new≠none)(p:lk k t.new≠none):i=j:=by
 have R: ∀{i j:Nat} {d T:Option Tmp} {e t:cB},dP[i]? =some (d,e)->dP[j]? =some (T,t)->lk k e.new≠none->lk k t.new≠none-> ¬i<j:=by
  intro i j d T e t U I hk p hlt;obtain ⟨_,o,ho,_⟩:=H.er I;obtain ⟨o',_,⟨⟨r,nx,e1,cs,J,_,_,_,_,hf,_⟩⟩⟩:=H.ok j (H.er I).1;rw [I] at J;injection J with J;injection J with _ J;subst J;obtain ⟨c,hc⟩:=aaI.1 p;have hz:=hf _ (mh hc);rw [eM,aa2] at hz;exact hk (IE (oB hz.1 i d e (by rw [ϐ,if_pos hlt];exact U) rfl))
 rcases Nat.lt_trichotomy i j with h|h|h
 exact absurd h (R U I hk p);exact h;exact absurd h (R I U p hk)
theorem mc.AJ (H:mc P N all st h Ds dP K){i:Nat}{d:Option Tmp}{e:cB}{k:Nat}(o:dP[i]? =some (d,e))(t:lk k e.new≠none):lk k st.mem=none:=by
 obtain ⟨R,_,⟨⟨r,nx,T,cs,j,_,_,_,_,I,_⟩⟩⟩:=H.ok i (H.er o).1;rw [o] at j;injection j with j;injection j with _ j;subst j;obtain ⟨c,J⟩:=aaI.1 t;have p:=I _ (mh J);rw [eM,aa2] at p;exact p.2
theorem zL {m:Mem}{nx:Nat}{I:Hint}{fr:Fr}{o:Ϥ}{e:cB}(t:kA o=true)(j:wc P fr m nx I o=some e):e.new=[]/\e.kZ=[]:=by
 unfold wc at j;unfold kA at t;have p: ∀{v:bu} {e:cB},cz v=some e->e.new=[]/\e.kZ=[]:=by
  intro v e h;injection h with h;subst h;exact ⟨rfl,rfl⟩
 have r: ∀{v:bu} {c:List Prop} {e:cB},fL v c=some e->e.new=[]/\e.kZ=[]:=by
  intro v c e h;injection h with h;subst h;exact ⟨rfl,rfl⟩
 cases J:o.op<;>rw [J] at t j<;>try (cases t;done)
 all_goals simp only at j
 case move=>split at j;exact p j;cases j
 case assign=>split at j;exact p j;cases j
 case pick=>
  split at j;split at j;exact p j;cases j;cases j
 case binOp=>
  split at j;unfold zB at j;split at j;split at j;split at j;exact p j;unfold Ig at j;split at j<;>first|exact p j|cases j
  cases j;unfold oq at j;split at j;rename_i T _ _ _ _ _ _ _ _ _;revert j;generalize (_||_:Bool)=q;intro j;cases q;simp only [cond_false] at j;split at j<;>first|exact p j|cases j
  cases j;cases j;unfold Gs at j;split at j;split at j;unfold DG at j;split at j<;>first|exact r j|cases j
  split at j;unfold K0 at j;split at j<;>first|exact p j|exact r j|(split at j<;>first|exact p j|cases j)
  cases j;unfold NY at j;split at j<;>first|exact p j|exact r j|cases j
  split at j<;>first|exact p j|cases j
  cases j;cases j
 case unOp=>
  split at j;unfold Lh at j;split at j;exact p j;unfold TL at j;split at j<;>first|exact p j|cases j
  cases j
 case fieldAddr=>
  split at j;unfold qb at j;split at j;split at j;split at j<;>first|exact p j|cases j
  cases j;cases j;cases j
 case index=>
  split at j;unfold AA at j;split at j<;>first|exact r j|cases j
  cases j
 case extract=>
  split at j;unfold tB at j;split at j;split at j;split at j<;>first|exact p j|cases j
  cases j;cases j;cases j
 case nilCheck=>
  split at j;unfold Oy at j;split at j<;>first|exact p j|cases j
  cases j
theorem Ei {m:Mem}{nx:Nat}{r:OH}{fr:Fr}{o:Ϥ}{e:cB}{cs:List Prop}(I:kA o=true)(R:ql P all o r fr m nx=some (e,cs)):e.new=[]/\e.kZ=[]:=by
 obtain ⟨e0,T,j,_,U,hu,_⟩:=xf R;rw [U,hu];unfold sD at j;split at j;split at j;rename_i e' t;injection j with j;injection j with p _;subst p
 exact zL I t;cases j;split at j;rename_i b _;cases J:(b==_) with
 |true=>
  rw [J] at j;simp only [cond_true] at j;split at j;rename_i e' t;injection j with j;injection j with p _;subst p
  exact zL I t;cases j
 |false=>
  rw [J] at j;injection j with j;injection j with p _;subst p
  exact ⟨rfl,rfl⟩
 injection j with j;injection j with p _;subst p
 exact ⟨rfl,rfl⟩;cases j
theorem G5 {m m':Mem}{nx:Nat}{p:Hint}{fr:Fr}{o:Ϥ}(j:kA o=true):wc P fr m nx p o=wc P fr m' nx p o:=by
 unfold wc;unfold kA at j;cases r:o.op<;>rw [r] at j<;>first|rfl|(cases j;done)
theorem Ej {fr j:Fr}{m m':Mem}{nx:Nat}{o:Ϥ}{r:OH}{x:cB×List Prop}(p:kA o=true)(I: ∀t∈nw all o,lk t j=lk t fr)(h:ql P all o r fr m nx=some x):ql P all o r j m' nx=some x:=by
 have e:ql P all o r fr m nx=ql P all o r fr m' nx:=by
  unfold ql sD;rw [G5 (P:=P) (m:=m) (m':=m') p]
 rw [e] at h;exact sX I (λ_ _ J=>J) h
theorem mc.blind (H:mc P N all st h Ds dP K){i:Nat}{d:Option Tmp}{e:cB}(I:dP[i]? =some (d,e))(J:kA (all.getD i default)=true):mn e=[]:=by
 obtain ⟨t,o,R,_,T⟩:=H.er I;obtain ⟨o',j,⟨⟨r,nx,e1,cs,p,U,_⟩⟩⟩:=H.ok i t;rw [I] at p;injection p with p;injection p with _ p;subst p;rw [R] at j;injection j with j;subst j;rw [T] at J;obtain ⟨h3,h4⟩:=Ei J U;unfold mn;rw [h3,h4];rfl
theorem kB {k:Nat}{e:cB}(j:lk k (mn e)≠none):lk k e.kZ≠none\/lk k e.new≠none:=by
 unfold mn at j;rw [cp] at j;by_cases o:lk k e.kZ=none;right;intro p;rw [o,p] at j;exact j rfl;exact .inl o
theorem mc.RT (H:mc P N all st h Ds dP K){k:Nat}: ∀(j:Nat) (d:Option Tmp) (e:cB),dP[j]? =some (d,e)->lk k (mn e)≠none->lk k st.mem≠none\/ ∃p I t,p<=j/\dP[p]? =some (I,t)/\lk k t.new≠none:=by
 intro j;induction j using aap with
 |_ j ih=>
  intro d e J U;rcases kB U with hu|hn
  obtain ⟨o',_,⟨⟨r,nx,e1,cs,o,_,_,_,hp,_⟩⟩⟩:=H.ok j (H.er J).1;rw [J] at o;injection o with o;injection o with _ o;subst o;have:=hp k hu;rw [eM] at this;cases T:fw (λq=>c8 q (Ds.getD j [])) k 0 (dP.take j) with
  |none=>rw [T,abx] at this;exact .inl this
  |some c=>
   obtain ⟨q,I,t,R,_,g3⟩:=jx T;obtain ⟨hq,R⟩:=nA R;rcases ih q hq I t R (by rw [g3];simp) with h0|⟨p,d3,e3,o,h2,h3⟩
   exact .inl h0;exact .inr ⟨p,d3,e3,by omega,h2,h3⟩
  exact .inr ⟨j,d,e,φ _,J,hn⟩
theorem mc.pair (H:mc P N all st h Ds dP K){i j:Nat}{d U:Option Tmp}{e t:cB}(I:dP[i]? =some (d,e))(hj:dP[j]? =some (U,t))(J:j<i)(hn:j ∉ Ds.getD i []):t.kZ=[]\/mn e=[]:=by
 obtain ⟨o',R,⟨⟨r,nx,e1,cs,o,T,_,_,_,_,hK,hp⟩⟩⟩:=H.ok i (H.er I).1;rw [I] at o;injection o with o;injection o with _ o;subst o;have hg:all.getD i default=o':=by rw [ς,R];rfl
 rcases hp j U t J hj with h|⟨o,p⟩
 exact absurd h hn;rcases p with p|p|⟨c,p,_⟩
 exact .inl p;exact .inr (H.blind I (by rw [hg];exact p));obtain ⟨_,k1,k2⟩:=CI (hK.symm.trans p) (λ_ _=>rfl) (λ_ h=>h) T;right;unfold mn;rw [k1,k2];rfl
theorem IF {k:Nat}{e:cB}(h:mn e=[]):lk k (mn e)=none:=by rw [h];rfl
theorem xt {sel:Nat->Bool}{k:Nat}{ch:Chunk}{v:cB}: ∀{l:List ER} {n i:Nat} {d:Option Tmp},l[i]? =some (d,v)->sel (n+i)=true->lk k (mn v)=some ch->(∀(j:Nat) (d:Option Tmp) (e:cB),i<j->l[j]? =some (d,e)->lk k (mn e)≠none->sel (n+j)=false)->fw sel k n l=some ch
 |[],n,i,_,h,_,_,_=>by simp at h
 |(d,e)::r,n,0,I,h,o,p,t=>by
  simp at h;obtain ⟨rfl,rfl⟩:=h;have J:fw sel k (n+1) r=none:=by
   cases R:fw sel k (n+1) r with
   |none=>rfl
   |some c=>
    obtain ⟨j,T,U,g1,g2,g3⟩:=jx R;have:=t (j+1) T U (by omega) (by simpa using g1) (by rw [g3];simp);rw [show n+(j+1)=n+1+j from by omega,g2] at this;cases this
  simp only [fw];have o:sel n=true:=by simpa using o
  rw [J,if_pos o,p];rfl
 |(d,e)::r,n,i+1,I,h,o,p,t=>by
  simp only [fw];have:=xt (l:=r) (n:=n+1) (i:=i) (d:=I) (by simpa using h) (by rwa [show n+(i+1)=n+1+i from by omega] at o) p (λj d e hlt hj hd=>by
   have:=t (j+1) d e (by omega) (by simpa using hj) hd;rwa [show n+(j+1)=n+1+j from by omega] at this)
  rw [this];rfl
theorem xu {sel:Nat->Bool}{k:Nat}{ch:Chunk}: ∀{l:List ER} {n:Nat},fw sel k n l=some ch-> ∃(j:Nat) (d:Option Tmp) (e:cB),l[j]? =some (d,e)/\sel (n+j)=true/\lk k (mn e)=some ch/\ ∀(q:Nat) (d:Option Tmp) (e:cB),j<q->l[q]? =some (d,e)->lk k (mn e)≠none->sel (n+q)=false
 |[],_,h=>by simp [fw] at h
 |(d,e)::r,n,h=>by
  simp only [fw] at h;cases p:fw sel k (n+1) r with
  |some c=>
   rw [p] at h;have h:c=ch:=by simpa using h
   subst h;obtain ⟨j,R,T,U,h2,h3,h4⟩:=xu p;refine ⟨j+1,R,T,by simpa using U,by rwa [show n+(j+1)=n+1+j from by omega],h3,λq t I hq o J=> ?_⟩;cases q with
   |zero=>omega
   |succ q=>
    have:=h4 q t I (by omega) (by simpa using o) J;rwa [show n+(q+1)=n+1+q from by omega]
  |none=>
   rw [p] at h;simp only [abx] at h;split at h;rename_i hs;refine ⟨0,d,e,rfl,by simpa using hs,h,λq t I hq o J=> ?_⟩;cases q with
   |zero=>omega
   |succ q=>
    cases QS:sel (n+(q+1)) with
    |false=>rfl
    |true=>exact absurd (oB p q t I (by simpa using o) (by rwa [show n+1+q=n+(q+1) from by omega])) J
   cases h
def oC (st:St)(dP:List ER)(sel:Nat->Bool)(nx:Nat):St:=⟨iw sel 0 dP st.fr,dq sel 0 dP st.mem,nx⟩
theorem mc.step (H:mc P N all st h Ds dP K){sel:Nat->Bool}{i:Nat}{o:Ϥ}(hi:i<h)(ho:all[i]? =some o)(hn:sel i=false)(hd: ∀j∈Ds.getD i [],sel j=true)(hc: ∀j,j<h->sel j=true-> ∀k∈Ds.getD j [],sel k=true):
 ∃(r:OH) (nx:Nat) (e:cB) (cs:List Prop),ql P all o r (iw sel 0 dP st.fr) (dq sel 0 dP st.mem) nx=some (e,cs)/\bU cs/\KT N o.dst=true/\fe (dq sel 0 dP st.mem) e.new/\
  (∀t,lk t (iw (λj=>sel j||Α j i) 0 dP st.fr)=lk t (match o.dst with|some t'=>(t',e.val)::iw sel 0 dP st.fr|none=>iw sel 0 dP st.fr))/\
  (∀k,lk k (dq (λj=>sel j||Α j i) 0 dP st.mem)=lk k (e.kZ++e.new++dq sel 0 dP st.mem)):=by
 obtain ⟨o',M9,⟨⟨r,nx,e,cs,h1,h2,h3,h4,h5,h6,Zk,h7⟩⟩⟩:=H.ok i hi;rw [ho] at M9;injection M9 with M9;subst M9;have Nj: ∀j,j≠i->Α j i=false:=λj R=>by
  cases hb:Α j i with
  |false=>rfl
  |true=>exact absurd (bR hb) R
 have vZ: ∀j,i<=j->c8 (0+j) (Ds.getD i [])=false:=λj R=>by
  cases hb:c8 (0+j) (Ds.getD i []) with
  |false=>rfl
  |true=>
   have:=H.lt i _ o ho (eE.1 hb);omega
 have Nk: ∀j d J,dP[j]? =some (d,J)->j≠i->(sel j=c8 j (Ds.getD i []))\/((∀t,d=some t->t ∉ nw all o)/\(∀t,d=some t->o.dst≠some t)):=by
  intro j d J R iH;obtain ⟨Lp,oj,Og,Ll,Vr⟩:=H.er R;rcases aaz j i with hlt|Zl
  rcases (H.AI i o ho).2.2 j hlt with hm|⟨_,RU⟩
  left;rw [hd j hm,eE.2 hm];right;rw [Vr] at RU;have:=sE RU;subst Ll;exact ⟨this.1,this.2.1⟩;rcases (H.AI j oj Og).2.2 i (by omega) with hm|⟨_,RU⟩
  left;have e1:=vZ j Zl;rw [Υ] at e1;rw [e1];cases hs:sel j with
  |false=>rfl
  |true=>rw [hc j Lp hs i hm] at hn;cases hn
  right;rw [show all.getD i default=o from by rw [ς,ho];rfl] at RU;have:=sE RU;subst Ll;exact ⟨this.2.2,λt ht he=>this.2.1 t he ht⟩
 have IG: ∀t∈nw all o,lk t (iw sel 0 dP st.fr)=lk t (iw (λj=>c8 j (Ds.getD i [])) 0 (dP.take i) st.fr):=by
  intro t ht;rw [lx,lx,sW vZ]
  congr 1
  refine kP λj d J R OD=> ?_;rw [Υ];by_cases U:j=i;subst U;have e1:=vZ j (φ _);rw [Υ] at e1;rw [hn,e1];rcases Nk j d J R U with hp|⟨hp,_⟩
  exact hp;exact absurd ht (hp t OD)
 have Zm:all.getD i default=o:=by rw [ς,ho];rfl
 have OE: ∀j d J,dP[j]? =some (d,J)->i<j->sel j=true->e.kZ=[]\/mn J=[]:=by
  intro j d J R QJ hs;have Lp:=(H.er R).1;have OF:i ∉ Ds.getD j []:=λI=>by rw [hc j Lp hs i I] at hn;cases hn
  exact H.pair R h1 QJ OF
 have Nl: ∀j,sel j=true-> ∀d J k,dP[j]? =some (d,J)->lk k J.kZ≠none->lk k e.new≠none->False:=by
  intro j;induction j using aap with
  |_ j Zn=>
   intro hs d J k R hu T;obtain ⟨Lp,_⟩:=H.er R;obtain ⟨Zo,_,⟨⟨r2,Zp,e2,Nn,p1,_,_,_,p5,_,_⟩⟩⟩:=H.ok j Lp;rw [R] at p1;injection p1 with p1;injection p1 with _ p1;subst p1;have:=p5 k hu;rw [eM,H.AJ h1 T,adL] at this;cases I:fw (λq=>c8 q (Ds.getD j [])) k 0 (dP.take j) with
   |none=>exact this I
   |some c=>
    obtain ⟨q,d3,e3,g1,g2,g3⟩:=jx I;obtain ⟨hq,g1⟩:=nA g1;rw [Υ] at g2;have QS:=hc j Lp hs q (eE.1 g2);rcases kB (k:=k) (e:=e3) (by rw [g3];simp) with hy|hy
    exact Zn q hq QS d3 e3 k g1 hy T;have:=H.uniq g1 h1 hy T;subst this;rw [QS] at hn;cases hn
 have OG: ∀k,lk k (dq (λj=>c8 j (Ds.getD i [])) 0 (dP.take i) st.mem)≠none->lk k (dq (λ_=>true) 0 (dP.take i) st.mem)≠none:=by
  intro k hk I;rw [eM,aa2] at I;rw [eM,I.2,adL] at hk;cases hy:fw (λj=>c8 j (Ds.getD i [])) k 0 (dP.take i) with
  |none=>exact hk hy
  |some c=>
   obtain ⟨q,d3,e3,g1,_,g3⟩:=jx hy;have:=oB I.1 q d3 e3 g1 rfl;rw [g3] at this;cases this
 have core: ∀k ch,lk k (dq (λj=>c8 j (Ds.getD i [])) 0 (dP.take i) st.mem)=some ch->(∀j d J,dP[j]? =some (d,J)->j≠i->sel j=true->c8 j (Ds.getD i [])=false->lk k J.kZ=none)->lk k (dq sel 0 dP st.mem)=some ch:=by
  intro k ch hk IH;rw [eM] at hk⊢;cases I:fw (λj=>c8 j (Ds.getD i [])) k 0 (dP.take i) with
  |some c=>
   rw [I] at hk;have hk:c=ch:=by simpa using hk
   subst hk;obtain ⟨j,d,J,g1,g2,g3,g4⟩:=xu I;obtain ⟨U,g1⟩:=nA g1;rw [Υ] at g2;rw [xt (i:=j) (d:=d) (v:=J) g1 (by rw [Υ];exact hd j (eE.1 g2)) g3 (λq d2 e2 hq Nc sy=>by
    rw [Υ];cases hs:sel q with
    |false=>rfl
    |true=>
     exfalso;have DX:q≠i:=by rintro rfl;rw [hs] at hn;cases hn
     cases hm:c8 q (Ds.getD i []) with
     |true=>
      have hlt:=H.lt i q o ho (eE.1 hm);have:=g4 q d2 e2 hq (by rw [ϐ,if_pos hlt];exact Nc) sy;rw [Υ,hm] at this;cases this
     |false=>
      have hu:=IH q d2 e2 Nc DX hs hm;have T:lk k e2.new≠none:=by
       rcases kB sy with I|I
       exact absurd hu I;exact I
      rcases H.RT j d J g1 (by rw [g3];simp) with h0|⟨j2,d3,e3,p1,p2,p3⟩
      exact h0 (H.AJ Nc T);have:=H.uniq p2 Nc p3 T;omega)]
   rfl
  |none=>
   rw [I,abx] at hk;cases hy:fw sel k 0 dP with
   |none=>rw [abx];exact hk
   |some c=>
    exfalso;obtain ⟨j,d,J,g1,g2,g3⟩:=jx hy;rw [Υ] at g2;have U:j≠i:=by rintro rfl;rw [g2] at hn;cases hn
    cases hm:c8 j (Ds.getD i []) with
    |true=>
     have hlt:=H.lt i j o ho (eE.1 hm);have:=oB I j d J (by rw [ϐ,if_pos hlt];exact g1) (by rw [Υ];exact hm);rw [g3] at this;cases this
    |false=>
     have hu:=IH j d J g1 U g2 hm;have T:lk k J.new≠none:=by
      rcases kB (k:=k) (e:=J) (by rw [g3];simp) with I|I
      exact absurd hu I;exact I
     rw [H.AJ g1 T] at hk;cases hk
 have II: ∀k,lk k (dq (λj=>c8 j (Ds.getD i [])) 0 (dP.take i) st.mem)≠none->kA o=false->(K i=none\/K i=some k)-> ∀j d J,dP[j]? =some (d,J)->j≠i->sel j=true->c8 j (Ds.getD i [])=false->lk k J.kZ=none:=by
  intro k M3 oY Zq j d J R iH hs hm;obtain ⟨Lp,oj,Og,_,_⟩:=H.er R;have RW: ∀{u:Mem},(∃c,K i=some c/\lk c u=none)->lk k u=none:=λ {u} ⟨c,q1,q2⟩=>by
   rcases Zq with q|q
   rw [q] at q1;cases q1;rw [q] at q1;injection q1 with q1;rw [q1];exact q2
  rcases aaz j i with hlt|Zr
  rcases h7 j d J hlt R with I|I
  rw [eE.2 I] at hm;cases hm;rcases I.2 with I|I|I
  rw [I];rfl;rw [oY] at I;cases I;exact RW I;have OF:i ∉ Ds.getD j []:=λI=>by rw [hc j Lp hs i I] at hn;cases hn
  obtain ⟨Zo,_,⟨⟨r2,Zp,e2,Nn,p1,_,_,_,_,_,_,p7⟩⟩⟩:=H.ok j Lp;rw [R] at p1;injection p1 with p1;injection p1 with _ p1;subst p1;rcases p7 i o.dst e (by omega) h1 with I|I
  exact absurd I OF;rcases I.1 with I|I|I|I
  rw [I];rfl;rw [Zm,oY] at I;cases I;cases hy:lk k J.kZ with
  |none=>rfl
  |some c=>exact absurd (I k (by rw [hy];simp)) (OG k M3)
  exact RW I
 have UH:ql P all o r (iw sel 0 dP st.fr) (dq sel 0 dP st.mem) nx=some (e,cs):=by
  cases oY:kA o with
  |false=>
   cases Vt:K i with
   |none=>exact sX IG (λk ch hk=>core k ch hk (II k (by rw [hk];simp) oY (.inl Vt))) h2
   |some c=>exact (CI (Zk.symm.trans Vt) IG (λch hk=>core c ch hk (II c (by rw [hk];simp) oY (.inr Vt))) h2).1
  |true=>exact Ej oY IG h2
 refine ⟨r,nx,e,cs,UH,h3,h4,λp hp=> ?_,λt=> ?_,λk=> ?_⟩;have Vu:lk p.1 e.new≠none:=xq hp;rw [eM,H.AJ h1 Vu,adL];cases I:fw sel p.1 0 dP with
 |none=>rfl
 |some c=>
  exfalso;obtain ⟨j,d,J,g1,g2,g3⟩:=jx I;rw [Υ] at g2;have U:j≠i:=by rintro rfl;rw [g2] at hn;cases hn
  rcases kB (k:=p.1) (e:=J) (by rw [g3];simp) with hu|T
  exact Nl j g2 d J p.1 g1 hu Vu;exact U (H.uniq g1 h1 T Vu)
 have qZ:(∀t',o.dst=some t'->t≠t')->lk t (iw (λj=>sel j||Α j i) 0 dP st.fr)=lk t (iw sel 0 dP st.fr):=by
  intro iH;rw [lx,lx]
  congr 1
  refine kP λj d J R OD=> ?_;rw [Υ];have U:j≠i:=by
   rintro rfl;rw [h1] at R;injection R with R;injection R with R _;exact iH t (R.trans OD) rfl
  rw [Nj j U,abO]
 cases w9:o.dst with
 |none=>exact qZ λt' US=>by rw [w9] at US;cases US
 |some t'=>
  simp only;rw [bB];by_cases Vv:t=t';subst Vv;rw [if_pos rfl,lx];rw [CF (i:=i) (v:=e) (by rw [h1,w9]) (by rw [Υ];simp) (λj d J QJ R OD=>by
   rw [Υ,Nj j (by omega),abO];rcases Nk j d J R (by omega) with hp|⟨_,hp⟩
   rw [hp];have:=vZ j (by omega);rwa [Υ] at this;exact absurd w9 (hp t OD))]
  rfl;rw [if_neg Vv];exact qZ λt'' Lq=>by rw [w9] at Lq;injection Lq with Lq;subst Lq;exact Vv
 show _=lk k (mn e++dq sel 0 dP st.mem);rw [cp,eM,eM,<-adC]
 congr 1
 cases hk:lk k (mn e) with
 |some c=>
  rw [xt (i:=i) (d:=o.dst) (v:=e) h1 (by simp) hk (λj d J QJ R T7=>by
   rw [Υ,Nj j (by omega),abO];cases hs:sel j with
   |false=>rfl
   |true=>
    exfalso;have U:j≠i:=by omega
    have Vw:mn J≠[]:=λI=>T7 (IF I);have u2:=(OE j d J R QJ hs).resolve_right Vw;have n1:lk k e.new≠none:=by
     rcases kB (k:=k) (e:=e) (by rw [hk];simp) with I|I
     rw [u2] at I;exact absurd rfl I;exact I
    rcases kB T7 with I|I
    exact Nl j hs d J k R I n1;exact U (H.uniq R h1 I n1))]
  rfl
 |none=>
  rw [abx];refine ra λj d J R T7=> ?_;rw [Υ];have U:j≠i:=by
   rintro rfl;rw [h1] at R;injection R with R;injection R with _ R;subst R;exact T7 hk
  rw [Nj j U,abO]
theorem RX {ops:Array Ϥ}{Q:abm->Act->Ε->Prop}{K:Act->Ε->Prop}{i:Nat}{o:Ϥ}(p:ops[i]? =some o)(h:if ϭ o (yielded ops a.tmps) then o.wp P a w K Q else K (a.put o.dst undef) w):wpOp P ops Q i K a w:=by
 unfold wpOp;rw [p];simp only;by_cases j:ϭ o (yielded ops a.tmps)=true;rw [if_pos j] at h⊢;exact .inl h;rw [if_neg j] at h⊢;exact h
def fx (listed:Array Bool)(j:Nat):Bool:=listed.getD j false
theorem sY {ops:List Ϥ}{listed:Array Bool}(R:listed.size=ops.length){i:Nat}(T:i∈ada .any ops.toArray listed):
 ∃o,ops[i]? =some o/\fx listed i=false/\ ∀d∈fJ o,fx listed d=true:=by
 obtain ⟨I,o,p,j⟩:=mem_ready.1 T;have p:ops[i]? =some o:=by simpa using p
 have r:i<listed.size:=by rw [R];exact (ψ.1 p).1
 refine ⟨o,p,?_,λd J=> ?_⟩;unfold fx;simp [ahn,r] at I⊢;exact I;unfold fJ at J;obtain ⟨e,t,rfl⟩:=ϟ.1 J;obtain ⟨t,U⟩:=abU.1 t;exact j e (by simpa using t) U
theorem zM {ops:List Ϥ}{listed:Array Bool}(U:listed.size=ops.length)(I: ∀i o,ops[i]? =some o-> ∀d∈fJ o,d<i)(J:ada .any ops.toArray listed=[]): ∀i,i<ops.length->fx listed i=true:=by
 intro i;induction i using aap with
 |_ i ih=>
  intro t;cases p:fx listed i with
  |true=>rfl
  |false=>
   have:i∈ada .any ops.toArray listed:=by
    refine mem_ready.2 ⟨?_,ops[i],by simp [t],λe R T=> ?_⟩;unfold fx at p;have j:i<listed.size:=by omega
    simp [ahn,j] at p⊢;exact p;have r:e.on∈fJ ops[i]:=ϟ.2 ⟨e,abU.2 ⟨by simpa using R,T⟩,rfl⟩;have j:=I i ops[i] (Γ t) e.on r;exact ih e.on j (by omega)
   rw [J] at this;simp at this
theorem rb {listed:Array Bool}{i j:Nat}(p:i<listed.size):fx (listed.setIfInBounds i true) j=(fx listed j||Α j i):=by
 unfold fx;by_cases o:j=i;subst o;have:Α j j=true:=adw j;rw [this];simp [p];have:Α j i=false:=by
  cases r:Α j i with
  |false=>rfl
  |true=>exact absurd (bR r) o
 rw [this,getD_set_ne false (λe=>o e.symm)];simp
def todo (listed:Array Bool)(n:Nat):Nat:=((abh n).filter λj=> !fx listed j).length
theorem CJ {listed:Array Bool}{i n:Nat}(t:i<listed.size)(U:i<n)(T:fx listed i=false):todo (listed.setIfInBounds i true) n+1<=todo listed n:=by
 unfold todo;have I: ∀l:List Nat,l.Nodup->i∈l->(l.filter λj=> !fx (listed.setIfInBounds i true) j).length+1<=(l.filter λj=> !fx listed j).length:=by
  intro l;induction l with
  |nil=>intro _ h;simp at h
  |cons x l ih=>
   intro o p;simp only [aaV] at o;by_cases J:x=i;subst J;have e1:(!fx (listed.setIfInBounds x true) x)=false:=by rw [rb t];simp
   have e2:(!fx listed x)=true:=by rw [T];rfl
   rw [abt (by simp [e1]),abu (by simp [T])];simp only [Ζ,Nat.add_le_add_iff_right];refine Nat.le_of_eq ?_
   congr 1
   refine List.filter_congr λy hy=> ?_;rw [rb t];have:Α y x=false:=by
    cases R:Α y x with
    |false=>rfl
    |true=>have:=bR R;subst this;exact absurd hy o.1
   rw [this,abO];have p:i∈l:=by
    rcases ϒ.1 p with e|p
    exact absurd e.symm J;exact p
   have:=ih o.2 p;have e:fx (listed.setIfInBounds i true) x=fx listed x:=by
    rw [rb t];have:Α x i=false:=by
     cases R:Α x i with
     |false=>rfl
     |true=>exact absurd (bR R) J
    rw [this,abO]
   cases r:fx listed x with
   |true=>
    rw [r] at e;rw [abt (by simp [e]),abt (by simp [r])];exact this
   |false=>
    rw [r] at e;rw [abu (by simp [e]),abu (by simp [r])];simp only [Ζ];omega
 exact I _ List.nodup_range (abJ.2 U)
theorem Ek {Q:abm->Act->Ε->Prop}(hd: ∀i o,all[i]? =some o->(∀d∈fJ o,d<i)/\(∀j∈Ds.getD i [],j∈fJ o\/ ∃d∈fJ o,j∈Ds.getD d [])/\(∀j,h<=j->j<i->j∈Ds.getD i [])):
 ∀(p:Nat) {listed:Array Bool} {i:Nat} {a:Act} {w:Ε},listed.size=all.length->h<=i->(∀j,j<all.length->(fx listed j=true↔j<i))->i<=all.length->todo listed all.length<=p->
  wpList cx.P all.toArray Q (all.drop i) a w->wpAny cx.P .any all.toArray Q p listed a w:=by
 intro p;have IJ: ∀{listed:Array Bool} {i:Nat} {a:Act} {w:Ε},(∀j,j<all.length->(fx listed j=true↔j<i))->i<=all.length->(∀j,j<all.length->fx listed j=true)->wpList cx.P all.toArray Q (all.drop i) a w->Q .normal a w:=by
  intro listed i a w hl hi rN J;have t:all.drop i=[]:=by
   rcases aaz i all.length with r|R
   have:=(hl i r).1 (rN i r);omega;exact List.drop_eq_nil_of_le R
  rw [t] at J;exact J
 induction p with
 |zero=>
  intro listed i a w T M0 hl hi T8 J;have rN: ∀j,j<all.length->fx listed j=true:=λj hj=>by
   cases hx:fx listed j with
   |true=>rfl
   |false=>
    have:j∈(abh all.length).filter λj=> !fx listed j:=abU.2 ⟨abJ.2 hj,by rw [hx];rfl⟩;have:=aeB this;unfold todo at T8;omega
  refine ⟨?_,IJ hl hi rN J⟩;cases hr:ada .any all.toArray listed with
  |nil=>rfl
  |cons x xs=>
   obtain ⟨o,I,h1,_⟩:=sY T (i:=x) (by rw [hr];simp);rw [rN x (ψ.1 I).1] at h1;cases h1
 |succ p ih=>
  intro listed i a w T M0 hl hi T8 J;refine ⟨λhr=>IJ hl hi (zM T (λi o I=>(hd i o I).1) hr) J,λj hj=> ?_⟩;obtain ⟨o,I,h1,h2⟩:=sY T hj;have QO:j<all.length:=(ψ.1 I).1;have Zs:j=i:=by
   have R:i<=j:=by
    rcases aaz j i with r|R
    rw [(hl j QO).2 r] at h1;cases h1;exact R
   rcases aaz i j with r|hle
   have hm:=(hd j o I).2.2 i M0 r;have mZ: ∀(n:Nat) (o:Ϥ),all[n]? =some o->(∀d∈fJ o,fx listed d=true)-> ∀k∈Ds.getD n [],fx listed k=true:=by
    intro n;induction n using aap with
    |_ n Zt=>
     intro o I Vx k hk;have r:n<all.length:=(ψ.1 I).1;rcases (hd n o I).2.1 k hk with T9|⟨d,T9,DA⟩
     exact Vx k T9;have Ua:=(hd n o I).1 d T9;have U:d<all.length:=by omega
     refine Zt d Ua all[d] (Γ U) (λd' Vy=> ?_) k DA;have Ub:=(hl d U).1 (Vx d T9);have:=(hd d all[d] (Γ U)).1 d' Vy;exact (hl d' (by omega)).2 (by omega)
   have:=(hl i (by omega)).1 (mZ j o I h2 i hm);omega;omega
  subst Zs;have t:all.drop j=o::all.drop (j+1):=by
   rw [List.drop_eq_getElem_cons QO]
   congr 1
   exact (ψ.1 I).2
  rw [t] at J;simp only [wpList] at J;unfold wpOp;rw [show all.toArray[j]? =some o by simpa using I];simp only;have X3: ∀a' w',wpList cx.P all.toArray Q (all.drop (j+1)) a' w'->wpAny cx.P .any all.toArray Q p (listed.setIfInBounds j true) a' w':=λa' w' h'=>by
   refine ih (i:=j+1) (by simp [T]) (by omega) (λk hk=> ?_) (by omega) ?_ h';rw [rb (by omega)];simp only [aa3];rw [hl k hk];constructor;rintro (oo|oo);omega;have:=bR oo;omega;intro oo;rcases aaz k j with r|R
   exact .inl r;right;have:k=j:=by omega
   subst this;exact adw _;have:=CJ (listed:=listed) (i:=j) (n:=all.length) (by omega) QO h1;omega
  split;rename_i hw;rw [if_pos hw] at J;exact J.imp (Oper.wp_mono X3) id;rename_i hw;rw [if_neg hw] at J;exact X3 _ _ J
theorem CK {sel sel':Nat->Bool}(H: ∀j,j<dP.length->sel j=sel' j)(fr:Fr)(t:Tmp):lk t (iw sel 0 dP fr)=lk t (iw sel' 0 dP fr):=by
 rw [lx,lx]
 congr 1
 exact kP λj d e o _=>by
  rw [Υ];exact H j (ψ.1 o).1
theorem AK {sel sel':Nat->Bool}(H: ∀j,j<dP.length->sel j=sel' j)(m:Mem)(k:Nat):lk k (dq sel 0 dP m)=lk k (dq sel' 0 dP m):=by
 rw [eM,eM]
 congr 1
 exact ra λj d e o _=>by
  rw [Υ];exact H j (ψ.1 o).1
theorem CL {Q:abm->Act->Ε->Prop}{st:St}{nx0:Nat}(H:mc cx.P cx.N all st h Ds dP K)(hh:h<=all.length)(hT: ∀g' a' w',cG cx g' (oC st dP (λ_=>true) nx0) a' w'->wpList cx.P all.toArray Q (all.drop h) a' w'):
 ∀(p:Nat) {listed:Array Bool} {nx:Nat} {g:GM} {a:Act} {w:Ε},listed.size=all.length->(∀j,fx listed j=true->j<h)->(∀j,j<h->fx listed j=true-> ∀k∈Ds.getD j [],fx listed k=true)->todo listed all.length<=p->
  cG cx g (oC st dP (fx listed) nx) a w->wpAny cx.P .any all.toArray Q p listed a w:=by
 intro p;have IJ: ∀(p:Nat) {listed:Array Bool} {nx:Nat} {g:GM} {a:Act} {w:Ε},listed.size=all.length->(∀j,fx listed j=true->j<h)->todo listed all.length<=p->(∀j,j<h->fx listed j=true)->cG cx g (oC st dP (fx listed) nx) a w->wpAny cx.P .any all.toArray Q p listed a w:=by
  intro p listed nx g a w J hl aa R hs;have qg:cG cx g (oC st dP (λ_=>true) nx0) a w:=hs.congr (λt v hv=>by
   rw [<-hv];exact CK (sel':=λ_=>true) (λj I=>R j (by rw [<-H.len];exact I)) _ _) (λk=>(AK (sel':=λ_=>true) (λj I=>R j (by rw [<-H.len];exact I)) _ _).symm)
  exact Ek (h:=h) (Ds:=Ds) (λi o ho=>⟨(H.AI i o ho).1,(H.AI i o ho).2.1,λj I hi=>((H.AI i o ho).2.2 j hi).resolve_right λx=>by omega⟩) p J (φ h) (λj I=>⟨hl j,R j⟩) hh aa (hT _ _ _ qg)
 induction p with
 |zero=>
  intro listed nx g a w J hl mZ aa hs;refine IJ 0 J hl aa (λj I=> ?_) hs;cases hx:fx listed j with
  |true=>rfl
  |false=>
   have:j∈(abh all.length).filter λj=> !fx listed j:=abU.2 ⟨abJ.2 (by omega),by rw [hx];rfl⟩;have:=aeB this;unfold todo at aa;omega
 |succ p ih=>
  intro listed nx g a w J hl mZ aa hs;by_cases R: ∀j,j<h->fx listed j=true;exact IJ (p+1) J hl aa R hs;refine ⟨λhr=>absurd (λj I=>zM J (λi o ho=>(H.AI i o ho).1) hr j (by omega)) R,λi hi=> ?_⟩;obtain ⟨o,ho,h1,h2⟩:=sY J hi;have Zu:i<all.length:=(ψ.1 ho).1;have Ub: ∀j∈Ds.getD i [],fx listed j=true:=λj I=>by
   rcases (H.AI i o ho).2.1 j I with hd|⟨d,hd,I⟩
   exact h2 j hd;exact mZ d (hl d (h2 d hd)) (h2 d hd) j I
  have X4:i<h:=by
   rcases aaz i h with hlt|vZ
   exact hlt;exact absurd (λj I=>Ub j (((H.AI i o ho).2.2 j (by omega)).resolve_right λx=>by omega)) R
  obtain ⟨r,nx',e,BM,g1,g2,g3,g5,g6,g7⟩:=H.step X4 ho h1 Ub mZ;have U:fx (listed.setIfInBounds i true)=λj=>fx listed j||Α j i:=funext λj=>rb (by omega)
  have Iv:cG cx g ⟨iw (fx listed) 0 dP st.fr,dq (fx listed) 0 dP st.mem,nx'⟩ a w:=hs.congr (λ_ _ hv=>hv) (λ_=>rfl);refine RX (by simpa using ho) (xg Iv g1 g5 g3 g2 λg' a' w' qg=> ?_);refine ih (nx:=0) (by simp [J]) (λj I=> ?_) (λj I T k hk=> ?_) ?_ (qg.congr (λt v hv=> ?_) λk=> ?_);rw [U] at I;simp only [aa3] at I;rcases I with I|I
  exact hl j I;rw [bR I];exact X4;rw [U] at T⊢;simp only [aa3] at T⊢;rcases T with T|T
  exact .inl (mZ j I T k hk);have:=bR T;subst this;exact .inl (Ub k hk);have:=CJ (listed:=listed) (i:=i) (n:=all.length) (by omega) Zu h1;omega;change lk t (iw (fx (listed.setIfInBounds i true)) 0 dP st.fr)=some v at hv;rw [U,g6] at hv;cases w9:o.dst with
  |none=>rw [w9] at hv;exact hv
  |some t'=>rw [w9] at hv;exact hv
  change lk k (dq (fx (listed.setIfInBounds i true)) 0 dP st.mem)=_;rw [U,g7];unfold St.app;cases o.dst<;>rfl
theorem cG.CM {QQ:abm->Act->Ε->Prop}{h:Nat}{ops:List Ϥ}{hrs:List HR}{tds:List (List Nat)}{dP:List ER}{st:St}{cs:List Prop}{nx:Nat}(hs:cG cx g st a w)(R:(hrs.length==h&&ϩ h ops.length)=true)(Al:nz ops (hrs.map HR.D++tds) h 0 ops=true)(hh:xp cx.P cx.N ops st (ops.take h) hrs [] st.nx=some (dP,cs,nx))(hc:bU cs)(hT: ∀g' a' w',cG cx g' (oC st dP (λ_=>true) nx) a' w'->wpList cx.P ops.toArray QQ (ops.drop h) a' w'):wpAny cx.P .any ops.toArray QQ ops.toArray.size (aaa ops.toArray.size false) a {w with drawn:=w.drawn+1}:=by
 simp only [κ,beq_iff_eq] at R;obtain ⟨R,T⟩:=R;have T:h<=ops.length:=Nat.le_of_ble_eq_true T;obtain ⟨⟨l,e1,e2⟩,K,Zv⟩:=Eh hh hc;have r:dP.length=h:=by rw [e1];simp [e2,T]
 have OI: ∀i,i<h->(hrs.map HR.D++tds).getD i []=(hrs.map HR.D).getD i []:=λi U=>by
  rw [ς,ς,Μ (by simp [R,U])]
 have H:mc cx.P cx.N ops st h (hrs.map HR.D++tds) dP K:=by
  refine ⟨r,λi U=> ?_,λi o ho=> ?_⟩;have ho:ops[i]? =some ops[i]:=Γ (by omega);refine ⟨ops[i],ho,?_⟩;have:=Zv i ops[i] (by rw [ϐ,if_pos U];exact ho);rw [OI i U];simpa using this;have:=vr Al i o ho;simpa using this
 have hz: ∀j,fx (aaa ops.length false) j=false:=λj=>by
  unfold fx;rw [ώ];by_cases p:j<ops.length;simp [p];rw [acs (by simpa using aga p)];rfl
 have T8:todo (aaa ops.length false) ops.length<=ops.length:=by
  unfold todo;exact ϣ (List.length_filter_le _ _) (by simp)
 have Vz:cG cx g (oC st dP (fx (aaa ops.length false)) 0) a w.drew:=by
  have I:fx (aaa ops.length false)=λ_=>false:=funext hz;refine hs.drew.congr (λt v J=> ?_) λk=> ?_;rw [I] at J;change lk t (iw (λ_=>false) 0 dP st.fr)=some v at J;rw [lx] at J;have:iJ (λ_=>false) t 0 dP=none:=by
   have:=sW (sel:=λ_=>false) (t:=t) (l:=dP) (n:=0) (i:=0) (λ_ _=>rfl);simpa [iJ] using this.symm
  rw [this] at J;exact J;rw [I];change lk k (dq (λ_=>false) 0 dP st.mem)=_;rw [eM];cases hx:fw (λ_=>false) k 0 dP with
  |none=>rfl
  |some c=>obtain ⟨_,_,_,_,h2,_⟩:=jx hx;cases h2
 have:=CL (Q:=QQ) (nx0:=nx) H T hT ops.length (listed:=aaa ops.length false) (by simp) (λj p=>by rw [hz j] at p;cases p) (λj _ p=>by rw [hz j] at p;cases p) T8 Vz;simpa using this
theorem cG.FN {t:abm->Act->Ε->Prop}{h:Nat}{ops:List Ϥ}{hrs:List HR}{tds:List (List Nat)}{rs:List OH}{dP:List ER}{st st':St}{cs j:List Prop}{nx:Nat}(I:cG cx g st a w)(J:(hrs.length==h&&ϩ h ops.length)=true)(o:nz ops (hrs.map HR.D++tds) h 0 ops=true)(R:xp cx.P cx.N ops st (ops.take h) hrs [] st.nx=some (dP,cs,nx))(T:pt cx.P cx.N ops (ops.drop h) rs (oC st dP (λ_=>true) nx)=some (st',j))(U:bU cs)(p:bU j)(hq: ∀g' a' w',cG cx g' st' a' w'->t .normal a' w'):wpAny cx.P .any ops.toArray t ops.toArray.size (aaa ops.toArray.size false) a {w with drawn:=w.drawn+1}:=
 I.CM J o R U λ_ _ _ r=>qm r T p hq
theorem HT.draw {Q:abm->St->Prop}{id h:Nat}{ops:List Ϥ}{hrs:List HR}{tds:List (List Nat)}{rs:List OH}{dP:List ER}{st st':St}{cs j:List Prop}{nx:Nat}(t:cx.P.follows .mixedOrders=true)(I:(hrs.length==h&&ϩ h ops.length)=true)(o:nz ops (hrs.map HR.D++tds) h 0 ops=true)(J:xp cx.P cx.N ops st (ops.take h) hrs [] st.nx=some (dP,cs,nx))(R:pt cx.P cx.N ops (ops.drop h) rs (oC st dP (λ_=>true) nx)=some (st',j))(T:bU cs)(p:bU j)(U:Q .normal st'):HT cx st (.region id ops.toArray true) Q:=
 λ_ _ _ hs=>wp_region_any t (hs.FN I o J R T p λg' _ _ r=>⟨st',g',U,r⟩)
end
end Go.Ide
namespace Go.Ide
structure su where
 ch:List (Nat×Nat)
 vs:List Nat
 tr:List Nat
 fz:Bool
def qO (k k':Nat)(ch:List (Nat×Nat)):Bool:=
 match lk k ch with
 |some q=>Α q k'
 |none=>false
theorem nX {k k':Nat}{ch:List (Nat×Nat)}(h:qO k k' ch=true):lk k ch=some k':=by
 unfold qO at h;split at h;rename_i q j;rw [j,bR h];cases h
def El (k:Nat)(ch:List (Nat×Nat)):Bool:=match lk k ch with|some _=>true|none=>false
def su.m0 (s:su)(m:Mem):Mem:=bif s.fz then m.filter (λp=> !(El p.1 s.ch)) else []
def CN (ch:List (Nat×Nat)):List Nat->List Nat->Bool
 |[],[]=>true
 |k::r,j::o=>qO k j ch&&CN ch r o
 |_,_=>false
def AL (s:su)(m0 m':Mem)(c c':bs):Option (List Prop):=
 match c' with
 | .bp t p=>(match dF m0 t c with
  |some x=>some [p=x]
  |none=>none)
 | .ptr o j=>(match c with
  | .ptr k off=>bif qO k o s.ch&&Α off j then some [] else none
  |_=>none)
 | .cZ o i' R j=>(match c with
  | .cZ k i sz off=>bif qO k o s.ch&&(Α sz R&&Α off j) then some [i'=i] else none
  |_=>none)
 | .ip I p j=>(match c with
  | .ip t x off=>bif Α off j then (if h:I=t then some [cE h p=x] else none) else none
  | .ptr k off=>(match lk k m0 with
   |some (.box cs)=>bif Α off j then (match impl m0 I cs with
    |some (x,[])=>some [p=x]
    |_=>none) else none
   |_=>none)
  |_=>none)
 | .all o=>(match c with
  | .all k=>bif qO k o s.ch&& !(c8 k s.tr) then some [] else none
  | .br=>bif c8 o s.vs then some [] else none
  | .ref k off len=>bif qO k o s.ch&&c8 k s.tr then (match lk o m' with
   |some (.seq _ T)=>some [off=0,ζ T=len]
   |_=>none) else none
  |_=>none)
 | .ref o j J=>(match c with
  | .ref k off len=>bif qO k o s.ch&& !(c8 k s.tr) then some [j=off,J=len] else none
  |_=>none)
 | .row _ _ _=>none
 | .yK _ _ _ _ _ _=>none
 | .br=>(match c with
  | .br=>some []
  |_=>none)
 | .fn r=>(match c with
  | .fn f=>if r=f then some [] else none
  |_=>none)
 | .jb r I p=>(match c with
  | .jb f t x=>if r=f then (if h:I=t then some [cE h p=x] else none) else none
  |_=>none)
 | .cls r U=>(match c with
  | .cls f ks=>if r=f then (bif CN s.ch ks U then some [] else none) else none
  |_=>none)
 | .zq r I p=>(match c with
  | .zq f t x=>if r=f then (if h:I=t then some [cE h p=x] else none) else none
  |_=>none)
 | .fK o=>(match c with
  | .fK k=>bif qO k o s.ch then some [] else none
  |_=>none)
 | .dE=>bif c.ok then some [] else none
 | .bad=>none
def AM (s:su)(m0 m':Mem):List bs->List bs->Option (List Prop)
 |[],[]=>some []
 |c::r,j::o=>(match AL s m0 m' c j,AM s m0 m' r o with
  |some p,some q=>some (p++q)
  |_,_=>none)
 |_,_=>none
def OJ (s:su)(m0 m':Mem)(v o:bu):Option (List Prop):=
 match o with
 | .one p=>(match v with
  | .one c=>AL s m0 m' c p
  |_=>none)
 | .agg j=>(match v with
  | .agg cs=>AM s m0 m' cs j
  |_=>none)
 | .Ab _=>none
 | .BO=>none
 | .dE=>some []
def G6 (s:su)(m0 m':Mem)(fr:Fr):Fr->Option (List Prop)
 |[]=>some []
 |(t,j)::r=>(match lk t fr with
  |some v=>(match OJ s m0 m' v j,G6 s m0 m' fr r with
   |some p,some q=>some (p++q)
   |_,_=>none)
  |none=>none)
def tY (s:su)(m0 m':Mem)(k:Nat)(c U:Chunk):Option (List Prop):=
 match U with
 | .box o=>(match c with
  | .box cs=>AM s m0 m' cs o
  |_=>none)
 | .seq I j=>(match c with
  | .seq t r=>if h:I=t then (bif c8 k s.tr then some [cE (congrArg Ty.sl h) j=Ϝ (ζ j) r] else some [cE (congrArg Ty.sl h) j=r]) else none
  |_=>none)
 | .mp I R j=>(match c with
  | .mp t u r=>if h:Ty.pair I R=Ty.pair t u then some [cE (a:= .sl (.pair I R)) (b:= .sl (.pair t u)) (congrArg Ty.sl h) j=r] else none
  |_=>none)
 | .pA T' e' j=>(match c with
  | .pA T e r=>bif Α T' T&&Α e' e then some [j=r] else none
  |_=>none)
 | .gh o J=>(match c with
  | .gh cs vs=>(match AM s m0 m' cs o with
   |some p=>some ((J=vs)::p)
   |none=>none)
  |_=>none)
 | .oS _ _ _ _ _=>none
 | .gone=>none
def OL (s:su)(m m0 m':Mem):Mem->Option (List Prop)
 |[]=>some []
 |(o,t)::r=>(match lk o (inv s.ch) with
  |some k=>(match lk k m with
   |some c=>(match tY s m0 m' k c t,OL s m m0 m' r with
    |some p,some q=>some (p++q)
    |_,_=>none)
   |none=>none)
  |none=>bif c8 o s.vs then (match t with
   | .seq _ j=>(match OL s m m0 m' r with
    |some q=>some ((j=[])::q)
    |none=>none)
   |_=>none) else none)
def Em (k:Nat)(m:Mem):Bool:=match lk k m with|some _=>true|none=>false
def su.okB (s:su)(m':Mem)(own:List Nat):Bool:=
 (jX (s.ch.map aas)&&jX (s.ch.map aeT))&&((s.ch.all λp=>Em p.2 m')&&((s.vs.all λk=>Em k m'&& !(c8 k (s.ch.map aeT)))&&(own.all λk=>qO k k s.ch)))
def St.cv (s:su)(own:List Nat)(st st':St):Option (List Prop):=
 bif s.okB st'.mem own then (match G6 s (s.m0 st.mem) st'.mem st.fr st'.fr,OL s st.mem (s.m0 st.mem) st'.mem st'.mem with
  |some p,some q=>some (p++q)
  |_,_=>none) else none
theorem CO {k:Nat}{m:Mem}(h:Em k m=true):lk k m≠none:=by
 unfold Em at h;split at h;rename_i c j;rw [j];simp;cases h
theorem CP {k:Nat}{ch:List (Nat×Nat)}:El k ch=true↔ ∃k',lk k ch=some k':=by
 unfold El;cases lk k ch with
 |some q=>exact ⟨λ_=>⟨q,rfl⟩,λ_=>rfl⟩
 |none=>exact ⟨λh=>(by cases h),λh=>(by obtain ⟨k',h⟩:=h;cases h)⟩
theorem rW {p:Nat->Bool}: ∀{m:Mem} {k:Nat} {c:Chunk},lk k (m.filter λq=>p q.1)=some c->lk k m=some c/\p k=true
 |[],k,c,h=>by simp [fO] at h
 |(q,d)::m,k,c,h=>by
  cases hp:p q with
  |false=>
   rw [abt (by simp [hp])] at h;obtain ⟨r,j⟩:=rW h;rw [bB];have o:k≠q:=by rintro rfl;rw [hp] at j;cases j
   rw [if_neg o];exact ⟨r,j⟩
  |true=>
   rw [abu (by simp [hp])] at h;rw [bB] at h⊢;split at h;rename_i e;subst e;rw [if_pos rfl];exact ⟨h,hp⟩;rename_i e;rw [if_neg e];exact rW h
theorem FO {s:su}{m0 m':Mem}{fr:Fr}: ∀{o:Fr} {ps:List Prop} {t:Nat} {I:bu},G6 s m0 m' fr o=some ps->bU ps->lk t o=some I-> ∃v p,lk t fr=some v/\OJ s m0 m' v I=some p/\bU p
 |[],ps,t,I,h,_,j=>by simp [fO] at j
 |(q,u')::r,ps,t,I,h,hp,j=>by
  simp only [G6] at h;split at h;rename_i v T;split at h;rename_i p q' U h2;injection h with h;subst h;obtain ⟨J,R⟩:=hp.append;rw [bB] at j;split at j;rename_i e;subst e;injection j with j;subst j;exact ⟨v,p,T,U,J⟩
  exact FO h2 R j;cases h;cases h
theorem xw {s:su}{m m0 m':Mem}: ∀{l:Mem} {ps:List Prop} {k':Nat} {o:Chunk},OL s m m0 m' l=some ps->bU ps->lk k' l=some o->
 (∃k c p,lk k' (inv s.ch)=some k/\lk k m=some c/\tY s m0 m' k c o=some p/\bU p)\/(lk k' (inv s.ch)=none/\ ∃t,o= .seq t [])
 |[],ps,k',o,h,_,j=>by simp [fO] at j
 |(q,d)::r,ps,k',o,h,hp,j=>by
  simp only [OL] at h;split at h;rename_i k I;split at h;rename_i c hc;split at h;rename_i p q' h1 J;injection h with h;subst h;obtain ⟨R,T⟩:=hp.append;rw [bB] at j;split at j;rename_i e;subst e;injection j with j;subst j;exact .inl ⟨k,c,p,I,hc,h1,R⟩
  exact xw J T j;cases h;cases h;rename_i I;cases U:c8 q s.vs with
  |false=>rw [U] at h;cases h
  |true=>
   rw [U] at h;simp only [cond_true] at h;split at h;rename_i t ig;split at h;rename_i q' J;injection h with h;subst h;rw [bB] at j;split at j;rename_i e;subst e;injection j with j;subst j;exact .inr ⟨I,t,by rw [hp.1]⟩
   exact xw J hp.2 j;cases h;cases h
section
variable {cx:Cx} {g:GM} {st st':St} {a:Act} {w:Ε}
theorem cG.cv {s:su}{own:List Nat}{ps:List Prop}(h:cG cx g st a w)(he:st.cv s own st'=some ps)(hp:bU ps)(ho:cx.own.map aas=own)(hF:s.fz=true->cx.HP): ∃g',cG cx g' st' a w:=by
 unfold St.cv at he;cases r:s.okB st'.mem own with
 |false=>rw [r] at he;cases he
 |true=>
  rw [r] at he;simp only [cond_true] at he;unfold su.okB at r;simp only [κ] at r;obtain ⟨⟨hn1,tl⟩,je,so,xy⟩:=r;have hn1:=iq hn1;have tl:=iq tl;split at he;rename_i p q tD yZ;injection he with he;subst he;obtain ⟨VA,RY⟩:=hp.append;let g':GM:=⟨λI=>match lk I (inv s.ch) with|some k=>g.f k|none=>λ_=>none⟩;have Uc: ∀k I,lk k s.ch=some I->g'.f I=g.f k:=λk I hk=>by
   show (match lk I (inv s.ch) with|some k=>g.f k|none=>λ_=>none)=g.f k;rw [(oA hn1 tl).1 hk]
  have om: ∀k I,lk k s.ch=some I->g' I=g k:=λk I hk=>congrFun (Uc k I hk) [];have DS: ∀I,lk I (inv s.ch)=none->g'.f I=λ_=>none:=λI hk=>by
   show (match lk I (inv s.ch) with|some k=>g.f k|none=>λ_=>none)=_;rw [hk]
  have tZ: ∀k I,lk k s.ch=some I->lk I st'.mem≠none:=λk I hk=>CO (ϡ.1 je _ (mh hk));have ua: ∀I c',lk I st'.mem=some c'->(∃k c p,lk k s.ch=some I/\lk k st.mem=some c/\tY s (s.m0 st.mem) st'.mem k c c'=some p/\bU p/\(∀p,c.owns p)/\g'.f I=g.f k)\/(g'.f I=(λ_=>none)/\ ∃t,c'= .seq t []):=λI c' hk=>by
   rcases xw yZ RY hk with ⟨k,c,p,h1,h2,h3,h4⟩|⟨h1,h2⟩
   have h5:=(oA hn1 tl).2 h1;refine .inl ⟨k,c,p,h5,h2,h3,h4,λq=> ?_,Uc k I h5⟩;cases c with
   |box cs=>trivial
   |seq t xs=>trivial
   |mp=>trivial
   |gh=>trivial
   |pA=>trivial
   |gone=>unfold tY at h3;split at h3<;>cases h3
   |oS t xs i cs ks=>unfold tY at h3;split at h3<;>cases h3
   exact .inr ⟨DS I h1,h2⟩
  have X5: ∀b,Live g' st'.mem b-> ∃k I q c,lk k s.ch=some I/\lk k st.mem=some c/\c.owns q/\g.f k q=some b:=by
   rintro b ⟨I,q,c',hk,_,R⟩;rcases ua I c' hk with ⟨k,c,p,q1,q2,_,_,q5,q6⟩|⟨q1,_⟩
   exact ⟨k,I,q,c,q1,q2,q5 q,by rw [<-q6];exact R⟩;rw [q1] at R;cases R
  have U: ∀b,cx.safe g st.mem w b->cx.safe g' st'.mem w b:=λb ⟨h1,h2,h3⟩=>by
   refine ⟨h1,h2,λhl=> ?_⟩;obtain ⟨k,I,q,c,q1,q2,J,q4⟩:=X5 b hl;exact h3 ⟨k,q,c,q2,J,q4⟩
  have zw: ∀k q ch b,lk k st.mem=some ch->ch.owns q->g.f k q=some b->s.fz=true->(!(El k s.ch))=true-> ¬b<cx.w0.heap.size:=λk q ch b h1 hn R hz h2 hlt=>by
   rcases h.iF k q ch b h1 hn R with vZ|hf
   omega;obtain ⟨p,VB,q',VC⟩:=hF hz b hf;have IK:p.1∈own:=by rw [<-ho];exact ϟ.2 ⟨p,VB,rfl⟩
   have zu:=nX (ϡ.1 xy _ IK);obtain ⟨I,oo⟩: ∃c',lk p.1 st'.mem=some c':=aaI.1 (tZ _ _ zu);rcases ua p.1 I oo with ⟨k2,c2,q2,a1,a2,_,_,a5,_⟩|⟨a1,_⟩
   have:k2=p.1:=by
    have b1:=(oA hn1 tl).1 a1;have b2:=(oA hn1 tl).1 zu;rw [b1] at b2;injection b2
   subst this;have:=(h.fV k p.1 q q' ch c2 b h1 hn a2 (a5 q') R (by rw [(h.own p VB).1,VC])).1;subst this;rw [CP.2 ⟨_,zu⟩] at h2;cases h2;rw [Uc _ _ zu,(h.own p VB).1] at a1;rw [a1] at VC;cases VC
  have No: ∀k q ch b,lk k st.mem=some ch->ch.owns q->g.f k q=some b->(!(El k s.ch))=true-> ¬Live g' st'.mem b:=λk q ch b h1 hn R h2 hl=>by
   obtain ⟨k1,Zw,q',c1,q1,q2,J,q4⟩:=X5 b hl;have:=(h.fV k k1 q q' _ c1 b h1 hn q2 J R q4).1;subst this;rw [CP.2 ⟨_,q1⟩] at h2;cases h2
  have Gz: ∀k cs,lk k (s.m0 st.mem)=some (.box cs)-> ∃b arr,g k=some b/\cx.safe g' st'.mem w b/\dm w b arr/\bN (CR g st.mem (cx.safe g st.mem w) w) cs arr.toList:=by
   intro k cs hl;unfold su.m0 at hl;cases hz:s.fz with
   |false=>rw [hz] at hl;simp [fO] at hl
   |true=>
    rw [hz] at hl;simp only [cond_true] at hl;obtain ⟨h1,h2⟩:=rW (p:=λk=> !(El k s.ch)) hl;obtain ⟨b,arr,R,r,gx⟩:=h.mem k _ h1;exact ⟨b,arr,R,⟨r.lt,λhlt=>absurd hlt (zw k [] _ b h1 trivial R hz h2),No k [] _ b h1 trivial R h2⟩,r,gx⟩
  have Np:ij g st.mem (s.m0 st.mem) (cx.safe g' st'.mem w) w:=by
   intro k t xs hl;unfold su.m0 at hl;cases hz:s.fz with
   |false=>rw [hz] at hl;simp [fO] at hl
   |true=>
    rw [hz] at hl;simp only [cond_true] at hl;obtain ⟨h1,h2⟩:=rW (p:=λk=> !(El k s.ch)) hl;have Rz: ∀p b,g.f k p=some b->cx.safe g' st'.mem w b:=λp b R=>
     ⟨h.lt k p _ b h1 trivial R,λhlt=>absurd hlt (zw k p _ b h1 trivial R hz h2),No k p _ b h1 trivial R h2⟩
    refine ⟨h1,Rz,?_⟩;have o:=h.mem k _ h1;unfold jc at o;cases R:g.f k [] with
    |none=>rw [show g k=none from R];rw [R] at o;exact o
    |some b=>
     rw [show g k=some b from R];rw [R] at o;obtain ⟨arr,r,qU⟩:=o;exact ⟨arr,r,qU.bt (λb r=>⟨U b r,rfl⟩) λ_ _ _=>rfl⟩
  have Ld: ∀k I t ig,lk k s.ch=some I->du st'.mem I t ig->c8 k s.tr=false->du st.mem k t ig:=λk I t ig hk hl RZ=>by
   refine .inl ?_;have hl:lk I st'.mem=some (.seq t ig):=by
    rcases hl with hl|⟨i,cs,ks,hl⟩
    exact hl;rcases ua I _ hl with ⟨_,_,_,_,_,J,_⟩|⟨_,_,q2⟩
    cases J;cases q2
   rcases ua I _ hl with ⟨k1,c,p,q1,q2,J,q4,_⟩|⟨q1,_⟩
   have:k1=k:=by
    have a1:=(oA hn1 tl).1 q1;have a2:=(oA hn1 tl).1 hk;rw [a1] at a2;injection a2
   subst this;cases c with
   |seq t1 T5=>
    simp only [tY] at J;split at J;rename_i ht;subst ht;rw [RZ] at J;simp only [cond_false] at J;injection J with J;subst J;have:=q4.1;simp only [cE] at this;rw [q2,this];cases J
   |box cs=>cases J
   |oS=>cases J
   |mp=>cases J
   |gh=>cases J
   |pA=>cases J
   |gone=>cases J
   have:lk I (inv s.ch)=some k:=(oA hn1 tl).1 hk;rcases xw yZ RY hl with ⟨k1,c,p,h1,h2,h3,h4⟩|⟨h1,_⟩
   have:k1=k:=by rw [this] at h1;injection h1 with h1;exact h1.symm
   subst this;cases c with
   |seq t1 T5=>
    simp only [tY] at h3;split at h3;rename_i ht;subst ht;rw [RZ] at h3;simp only [cond_false] at h3;injection h3 with h3;subst h3;have:=h4.1;simp only [cE] at this;rw [h2,this];cases h3
   |box cs=>cases h3
   |oS=>cases h3
   |mp=>cases h3
   |gh=>cases h3
   |pA=>cases h3
   |gone=>cases h3
   rw [this] at h1;cases h1
  have QT: ∀c c' p v,AL s (s.m0 st.mem) st'.mem c c'=some p->bU p->CR g st.mem (cx.safe g st.mem w) w c v->CR g' st'.mem (cx.safe g' st'.mem w) w c' v:=by
   intro c c' p v o hp hr;cases c' with
   |bp t x'=>
    simp only [AL] at o;split at o;rename_i x hx;injection o with o;subst o;rw [hp.1];exact qS U Np hx hr;cases o
   |ptr I Cg=>
    cases c with
    |ptr k off=>
     simp only [AL] at o;cases r:(qO k I s.ch&&Α off Cg) with
     |false=>rw [r] at o;cases o
     |true=>
      simp only [κ] at r;have hk:=nX r.1;obtain ⟨_,b,h1,h2⟩:=hr;exact ⟨tZ k I hk,b,by rw [om k I hk];exact h1,by rw [<-bR r.2];exact h2⟩
    |_=>cases o
   |cZ I i' Zx Cg=>
    cases c with
    |cZ k i sz off=>
     simp only [AL] at o;cases r:(qO k I s.ch&&(Α sz Zx&&Α off Cg)) with
     |false=>rw [r] at o;cases o
     |true=>
      rw [r] at o;simp only [cond_true] at o;injection o with o;subst o;simp only [κ] at r;have hk:=nX r.1;obtain ⟨_,b,h1,h2⟩:=hr;exact ⟨tZ k I hk,b,by rw [om k I hk];exact h1,by rw [<-bR r.2.1,<-bR r.2.2,hp.1];exact h2⟩
    |_=>cases o
   |ip t' x' Cg=>
    cases c with
    |ip t x off=>
     simp only [AL] at o;cases r:Α off Cg with
     |false=>rw [r] at o;cases o
     |true=>
      rw [r] at o;simp only [cond_true] at o;split at o;rename_i ht;subst ht;injection o with o;subst o;have:=bR r;subst this;have hx:x'=x:=hp.1;subst hx;obtain ⟨ad,es,e,hs,gF,lh⟩:=hr;exact ⟨ad,es,e,U _ hs,gF,abi (λb r=>⟨U b r,rfl⟩) t' es x' lh⟩;cases o
    |ptr k off=>
     simp only [AL] at o;split at o;rename_i cs hl;cases r:Α off Cg with
     |false=>rw [r] at o;cases o
     |true=>
      rw [r] at o;simp only [cond_true] at o;split at o;rename_i x hx;injection o with o;subst o;have:=bR r;subst this;have Zy:x'=x:=hp.1;subst Zy;obtain ⟨b,arr,R,Zz,oY,gx⟩:=Gz k cs hl;obtain ⟨_,b',D0,e⟩:=hr;rw [R] at D0;injection D0 with D0;subst D0;obtain ⟨v1,v2,e2,r1,r2⟩:=ju U Np t' hx gx;have:v2=[]:=by cases v2 with|nil=>rfl|cons=>exact r2.elim
      subst this;rw [ϴ] at e2;refine ⟨⟨b,0,none⟩,arr.toList,by rw [ca,Υ];exact e,Zz,λj u hu=> ?_,by rw [e2];exact r1⟩;rw [ca,Υ,oY.cell,<-ϥ];exact hu;cases o
     cases o
    |_=>cases o
   |all I=>
    cases c with
    |all k=>
     simp only [AL] at o;cases r:(qO k I s.ch&& !(c8 k s.tr)) with
     |false=>rw [r] at o;cases o
     |true=>
      simp only [κ,aaf] at r;have hk:=nX r.1;obtain ⟨_,h1,h2⟩:=hr;exact ⟨tZ k I hk,h1,λt xs hl=>by rw [om k I hk];exact h2 t xs (Ld k I t xs hk hl r.2)⟩
    |br=>
     simp only [AL] at o;cases r:c8 I s.vs with
     |false=>rw [r] at o;cases o
     |true=>
      have hv:=ϡ.1 so _ (eE.1 r);simp only [κ,aaf] at hv;obtain ⟨b,hr⟩:=hr;refine ⟨CO hv.1,by subst hr;rfl,λt xs hl=> ?_⟩;have:g' I=none:=by
       cases hi:lk I (inv s.ch) with
       |none=>exact congrFun (DS I hi) []
       |some k=>
        have:=xh ((oA hn1 tl).2 hi);rw [eE.2 this] at hv;cases hv.2
      rw [this];exact ⟨b,hr⟩
    |ref k off len=>
     simp only [AL] at o;cases r:(qO k I s.ch&&c8 k s.tr) with
     |false=>rw [r] at o;cases o
     |true=>
      rw [r] at o;simp only [cond_true] at o;simp only [κ] at r;have hk:=nX r.1;split at o;rename_i t0 TS DW;injection o with o;subst o;obtain ⟨UD,hlen,_⟩:=hp;subst UD;subst hlen;obtain ⟨_,h1,h2⟩:=hr;refine ⟨tZ k I hk,h1,λt xs hl=> ?_⟩;have hl:=du.toSeq DW hl;rw [DW] at hl;injection hl with hl;injection hl with e1 e2;subst e1;have e2:=eq_of_heq e2;subst e2;rw [om k I hk];rcases xw yZ RY DW with ⟨k1,c,p,q1,q2,J,q4⟩|⟨q1,_⟩
      have:k1=k:=by
       have a2:=(oA hn1 tl).1 hk;rw [q1] at a2;injection a2
      subst this;cases c with
      |seq t1 T5=>
       simp only [tY] at J;split at J;rename_i ht;subst ht;obtain ⟨_,hx⟩:=h2 _ T5 (.inl q2);rcases hx with ⟨hz,hn,a,ha⟩|⟨b,cap,arr,hg,e,k1,k2,k3,k4⟩
       rw [hn rfl,hz.symm.symm];exact ⟨a,by rw [ha]⟩;rw [hg];exact ⟨cap,arr,by rw [e,Nat.zero_mul],k1,k2,by rw [Υ] at k3;exact k3,k4⟩;cases J
      |box cs=>cases J
      |oS=>cases J
      |mp=>cases J
      |gh=>cases J
      |pA=>cases J
      |gone=>cases J
      rw [(oA hn1 tl).1 hk] at q1;cases q1;cases o
    |_=>cases o
   |ref I Cg Va=>
    cases c with
    |ref k off len=>
     simp only [AL] at o;cases r:(qO k I s.ch&& !(c8 k s.tr)) with
     |false=>rw [r] at o;cases o
     |true=>
      rw [r] at o;simp only [cond_true] at o;injection o with o;subst o;obtain ⟨e1,e2,_⟩:=hp;subst e1;subst e2;simp only [κ,aaf] at r;have hk:=nX r.1;obtain ⟨_,h1,h2⟩:=hr;exact ⟨tZ k I hk,h1,λt xs hl=>by rw [om k I hk];exact h2 t xs (Ld k I t xs hk hl r.2)⟩
    |_=>cases o
   |row=>cases o
   |yK=>cases o
   |br=>
    cases c with
    |br=>exact hr
    |_=>cases o
   |fn f'=>
    cases c with
    |fn f=>
     simp only [AL] at o;split at o;rename_i hf;subst hf;exact hr;cases o
    |_=>cases o
   |jb f' t' x'=>
    cases c with
    |jb f t x=>
     simp only [AL] at o;split at o;rename_i hf;subst hf;split at o;rename_i ht;subst ht;injection o with o;subst o;have hx:x'=x:=hp.1;subst hx;obtain ⟨ad,es,e,hs,gF,lh⟩:=hr;exact ⟨ad,es,e,U _ hs,gF,abi (λb r=>⟨U b r,rfl⟩) t' es x' lh⟩;cases o;cases o
    |_=>cases o
   |cls f' QU=>
    cases c with
    |cls f ks=>
     simp only [AL] at o;split at o;rename_i hf;subst hf;cases r:CN s.ch ks QU with
     |false=>rw [r] at o;cases o
     |true=>
      obtain ⟨ps,e,gx⟩:=hr;refine ⟨ps,e,?_⟩;clear e o;induction ks generalizing QU ps with
      |nil=>
       cases QU with
       |nil=>cases ps with
        |nil=>trivial
        |cons=>exact gx.elim
       |cons=>cases r
      |cons k ks ih=>
       cases QU with
       |nil=>cases r
       |cons I QU=>
        cases ps with
        |nil=>exact gx.elim
        |cons p ps=>
         simp only [CN,κ] at r;have hk:=nX r.1;obtain ⟨⟨_,b,h1,h2⟩,h3⟩:=gx;exact ⟨⟨tZ k I hk,b,by rw [om k I hk];exact h1,h2⟩,ih QU r.2 ps h3⟩
     cases o
    |_=>cases o
   |zq f' t' x'=>
    cases c with
    |zq f t x=>
     simp only [AL] at o;split at o;rename_i hf;subst hf;split at o;rename_i ht;subst ht;injection o with o;subst o;have hx:x'=x:=hp.1;subst hx;obtain ⟨ad,KM,es,e,qg,HQ,hs,gF,lh⟩:=hr;exact ⟨ad,KM,es,e,U _ qg,HQ,U _ hs,gF,abi (λb r=>⟨U b r,rfl⟩) t' es x' lh⟩;cases o;cases o
    |_=>cases o
   |fK I=>
    cases c with
    |fK k=>
     simp only [AL] at o;cases r:qO k I s.ch with
     |false=>rw [r] at o;cases o
     |true=>
      have hk:=nX r;obtain ⟨_,b,h1,h2⟩:=hr;exact ⟨tZ k I hk,b,by rw [om k I hk];exact h1,h2⟩
    |_=>cases o
   |dE=>
    simp only [AL] at o;cases r:c.ok with
    |false=>rw [r] at o;cases o
    |true=>exact wH r hr
   |bad=>cases o
  have OM: ∀cs BM p vs,AM s (s.m0 st.mem) st'.mem cs BM=some p->bU p->bN (CR g st.mem (cx.safe g st.mem w) w) cs vs->bN (CR g' st'.mem (cx.safe g' st'.mem w) w) BM vs:=by
   intro cs;induction cs with
   |nil=>
    intro BM p vs o hp hr;cases BM with
    |cons=>cases o
    |nil=>cases vs with
     |nil=>trivial
     |cons=>exact hr.elim
   |cons c cs ih=>
    intro BM p vs o hp hr;cases BM with
    |nil=>cases o
    |cons c' BM=>
     simp only [AM] at o;split at o;rename_i p1 p2 h1 h2;injection o with o;subst o;obtain ⟨VA,RY⟩:=hp.append;cases vs with
     |nil=>exact hr.elim
     |cons v vs=>exact ⟨QT c c' p1 v h1 VA hr.1,ih BM p2 vs h2 RY hr.2⟩
     cases o
  refine ⟨g',h.defers.bt (λb r=>⟨U b r,rfl⟩),h.size,λt v' hl=> ?_,λI c' hk=> ?_,?_,λI r' c' b hk hn hg=> ?_,λI r' c' b hk hn hg=> ?_,h.bt,λp hp=> ?_,h.gl⟩;obtain ⟨v,p,h1,h2,h3⟩:=FO tD VA hl;have hv:=h.fr t v h1;unfold OJ at h2;split at h2;split at h2;exact QT _ _ p _ h2 h3 hv;cases h2;split at h2;obtain ⟨vs,e,so⟩:=hv;exact ⟨vs,e,OM _ _ p vs h2 h3 so⟩;cases h2;cases h2;cases h2;trivial;rcases ua I c' hk with ⟨k,c,p,q1,q2,J,q4,q5,q6⟩|⟨q1,t,q2⟩
  have je:=h.mem k c q2;rw [q6];cases c' with
  |box BM=>
   cases c with
   |box cs=>
    obtain ⟨b,arr,e,r,gx⟩:=je;exact ⟨b,arr,e,r,OM cs BM _ _ J q4 gx⟩
   |seq t xs=>cases J
   |oS=>cases J
   |mp=>cases J
   |gh=>cases J
   |pA=>cases J
   |gone=>cases J
  |oS=>cases J
  |gone=>cases J
  |mp t' u' ig=>
   cases c with
   |mp t u xs=>
    simp only [tY] at J;split at J;rename_i ht;injection ht with Ow U4;subst Ow;subst U4;injection J with J;subst J;have hx:ig=xs:=q4.1;subst hx;exact je;cases J
   |_=>cases J
  |pA T' e' ig=>
   cases c with
   |pA T e xs=>
    simp only [tY] at J;cases r:(Α T' T&&Α e' e) with
    |false=>rw [r] at J;cases J
    |true=>
     rw [r] at J;simp only [cond_true] at J;simp only [κ] at r;have e1:=bR r.1;have e2:=bR r.2;subst e1 e2;injection J with J;subst J;have hx:ig=xs:=q4.1;subst hx;exact je
   |_=>cases J
  |gh BM GD=>
   cases c with
   |gh cs vs=>
    simp only [tY] at J;split at J;rename_i p1 h1;injection J with J;subst J;have hx:GD=vs:=q4.1;subst hx;exact ⟨je.1,OM cs BM p1 GD h1 q4.2 je.2⟩;cases J
   |_=>cases J
  |seq t' ig=>
   cases c with
   |box cs=>cases J
   |oS=>cases J
   |mp=>cases J
   |gh=>cases J
   |pA=>cases J
   |gone=>cases J
   |seq t xs=>
    simp only [tY] at J;split at J;rename_i ht;subst ht;have OG: ∃n,ig=xs.take n:=by
     cases RZ:c8 k s.tr with
     |true=>
      rw [RZ] at J;simp only [cond_true] at J;injection J with J;subst J;exact ⟨_,q4.1⟩
     |false=>
      rw [RZ] at J;simp only [cond_false] at J;injection J with J;subst J;have:ig=xs:=q4.1;exact ⟨xs.length,by rw [this,aam]⟩
    obtain ⟨n,hn⟩:=OG;unfold jc at je⊢;cases R:g.f k [] with
    |none=>
     rw [R] at je;have:xs=[]:=je;subst this;show ig=[];rw [hn];simp
    |some b=>
     rw [R] at je;obtain ⟨arr,r,qU⟩:=je;refine ⟨arr,r,λi hi=> ?_⟩;subst hn;have BK:i<xs.length:=by
      have:=List.length_take_le' n xs;omega
     obtain ⟨es,k1,k2⟩:=(qU.bt (λb r=>⟨U b r,rfl⟩) (λ_ _ _=>rfl):eI (cx.safe g' st'.mem w) w (g.f k) t' xs arr) i BK;refine ⟨es,k1,?_⟩;rw [List.getElem_take];exact k2
    cases J
  subst q2;rw [q1];rfl;intro k1 k2 r1 r2 c1 c2 b GA ZA sy ZB D0 Au;rcases ua k1 c1 GA with ⟨q,d,p,a1,a2,a3,a4,a5,a6⟩|⟨a1,_⟩
  rcases ua k2 c2 sy with ⟨q',d',p',b1,b2,b3,b4,b5,b6⟩|⟨b1,_⟩
  obtain ⟨e1,e2⟩:=h.fV q q' r1 r2 d d' b a2 (a5 r1) b2 (b5 r2) (by rw [<-a6];exact D0) (by rw [<-b6];exact Au);subst e1;rw [a1] at b1;injection b1 with b1;exact ⟨b1,e2⟩;rw [b1] at Au;cases Au;rw [a1] at D0;cases D0;rcases ua I c' hk with ⟨q,d,p,a1,a2,a3,a4,a5,a6⟩|⟨a1,_⟩
  exact h.iF q r' d b a2 (a5 r') (by rw [<-a6];exact hg);rw [a1] at hg;cases hg;rcases ua I c' hk with ⟨q,d,p,a1,a2,a3,a4,a5,a6⟩|⟨a1,_⟩
  exact h.lt q r' d b a2 (a5 r') (by rw [<-a6];exact hg);rw [a1] at hg;cases hg;have IK:p.1∈own:=by rw [<-ho];exact ϟ.2 ⟨p,hp,rfl⟩
  have zu:=nX (ϡ.1 xy _ IK);exact ⟨by rw [Uc _ _ zu];exact (h.own p hp).1,tZ _ _ zu⟩;cases he
end
end Go.Ide
namespace Go.Ide
def runN {σ ρ:Type}(f:σ->Option (σ⊕ρ)):Nat->σ->Option ρ
 |0,_=>none
 |n+1,s=>match f s with
  |some (.inl j)=>runN f n j
  |some (.inr r)=>some r
  |none=>none
theorem uQ {σ ρ:Type}{f:σ->Option (σ⊕ρ)}: ∀{n m:Nat} {s:σ} {r:ρ},n<=m->runN f n s=some r->runN f m s=some r
 |0,_,_,_,_,h=>by cases h
 |n+1,0,_,_,j,_=>by omega
 |n+1,m+1,s,r,j,h=>by
  simp only [runN] at h⊢;cases o:f s with
  |none=>simp [o] at h
  |some x=>
   cases x with
   |inr p=>rw [o] at h;exact h
   |inl t=>rw [o] at h;exact uQ (Nat.le_of_succ_le_succ j) h
noncomputable def rounds {σ ρ:Type}(f:σ->Option (σ⊕ρ))(s:σ):Option ρ:=
 @dite (Option ρ) (∃r,∃n,runN f n s=some r) (aax _) (λh=>some (acX h)) (λ_=>none)
theorem qt {σ ρ:Type}{f:σ->Option (σ⊕ρ)}{s:σ}{r:ρ}:rounds f s=some r↔ ∃n,runN f n s=some r:=by
 unfold rounds;constructor;intro h;split at h;rename_i j;injection h with h;subst h;exact abr j;cases h;rintro ⟨n,p⟩;have j: ∃r,∃n,runN f n s=some r:=⟨r,n,p⟩;rw [dif_pos j];obtain ⟨m,t⟩:=abr j;have I:=uQ (Nat.le_max_left n m) p;have o:=uQ (Nat.le_max_right n m) t;rw [I] at o;injection o with o;rw [o]
theorem ef {σ ρ:Type}(f:σ->Option (σ⊕ρ))(s:σ):rounds f s=match f s with
 |some (.inl o)=>rounds f o
 |some (.inr r)=>some r
 |none=>none:=by
 have key: ∀r,rounds f s=some r↔(match f s with
  |some (.inl o)=>rounds f o
  |some (.inr r)=>some r
  |none=>none)=some r:=by
  intro r;rw [qt];constructor;rintro ⟨n,j⟩;cases n with
  |zero=>cases j
  |succ n=>
   simp only [runN] at j;cases p:f s with
   |none=>rw [p] at j;cases j
   |some x=>
    rw [p] at j;cases x with
    |inl o=>exact qt.2 ⟨n,j⟩
    |inr I=>exact j
  intro h;split at h;rename_i o p;obtain ⟨n,j⟩:=qt.1 h;exact ⟨n+1,by simp only [runN];rw [p];exact j⟩;rename_i I p;exact ⟨1,by simp only [runN];rw [p];exact h⟩;cases h
 cases t:rounds f s with
 |some r=>exact ((key r).1 t).symm
 |none=>
  cases J:(match f s with
  |some (.inl o)=>rounds f o
  |some (.inr r)=>some r
  |none=>none) with
  |none=>rfl
  |some r=>
   have:=(key r).2 J;rw [t] at this;cases this
theorem rX {α β:Type}{o:Option α}{k:α->Option β}{r:β}(h:o.bind k=some r): ∃y,o=some y/\k y=some r:=by
 cases o with
 |none=>cases h
 |some y=>exact ⟨y,rfl,h⟩
def aY {β:Type}(p:Prop)[Decidable p](k:Option β):Option β:=if p then k else none
theorem iK {β:Type}{p:Prop}[Decidable p]{k:Option β}{r:β}(h:aY p k=some r):p/\k=some r:=by
 unfold aY at h;split at h;rename_i hp;exact ⟨hp,h⟩;cases h
theorem guard_pos {β:Type}{p:Prop}[Decidable p]{k:Option β}(h:p):aY p k=k:=if_pos h
theorem IL {β:Type}{b:Bool}{x y:Option β}{r:β}(h:(bif b then x else y)=some r):(b=true/\x=some r)\/(b=false/\y=some r):=by
 cases b with
 |true=>exact .inl ⟨rfl,h⟩
 |false=>exact .inr ⟨rfl,h⟩
abbrev bf (k:aaC)(a b:Int):Int:=k.wrap (a+b)
abbrev bI (k:aaC)(a b:Int):Int:=k.wrap (a - b)
abbrev iX (k:aaC)(a b:Int):Int:=k.wrap (a*b)
abbrev aW {α:Type}(xs:List α):Int:=((ζ xs:Nat):Int)
section
variable {cx:Cx} {st:St} {P:Ξ} {N:Nat} {Q:abm->St->Prop} {x y c:Code}
theorem HT.Ud {id:Nat}{ops:List Ϥ}{rs:List OH}{st':St}{cs:List Prop}(j:cx.P=P)(o:cx.N=N)(p:pt P N ops ops rs st=some (st',cs))(r:bU cs)(t:Q .normal st'):HT cx st (.region id ops.toArray false) Q:=by
 subst j;subst o;exact HT.region p r t
theorem HT.ZC {id h:Nat}{ops:List Ϥ}{hrs:List HR}{tds:List (List Nat)}{rs:List OH}{dP:List ER}{st':St}{cs j:List Prop}{nx:Nat}(r:cx.P=P)(t:cx.N=N)(I:P.follows .mixedOrders=true)(J:(hrs.length==h&&ϩ h ops.length)=true)(o:nz ops (hrs.map HR.D++tds) h 0 ops=true)(R:xp P N ops st (ops.take h) hrs [] st.nx=some (dP,cs,nx))(T:pt P N ops (ops.drop h) rs (oC st dP (λ_=>true) nx)=some (st',j))(U:bU cs)(p:bU j)(hq:Q .normal st'):HT cx st (.region id ops.toArray true) Q:=by
 subst r;subst t;exact HT.draw I J o R T U p hq
def Le (cx:Cx)(st st':St):Prop:= ∀g a w,cG cx g st a w-> ∃g',cG cx g' st' a w
theorem Le.cv {s:su}{own:List Nat}{ps:List Prop}{st':St}(j:cx.own.map aas=own)(o:s.fz=true->cx.HP)(p:st.cv s own st'=some ps)(hp:bU ps):Le cx st st':=
 λ_ _ _ r=>r.cv p hp j o
theorem Le.ht {st':St}(h:Le cx st st')(o:HT cx st' c Q):HT cx st c Q:=λg a w p=>let ⟨g',j⟩:=h g a w p;o g' a w j
theorem Le.trans {st1 j o:St}(p:Le cx st1 j)(r:Le cx j o):Le cx st1 o:=λg a w t=>let ⟨I,h⟩:=p g a w t;r I a w h
theorem Le.refl:Le cx st st:=λg _ _ j=>⟨g,j⟩
theorem HT.R0 {σ ρ:Type}{f:σ->Option (σ⊕ρ)}{s:σ}{r:ρ}(S:σ->St)(E:ρ->abm×St)(h:rounds f s=some r)(hc:Q (E r).1 (E r).2)(round: ∀s x,f s=some x->(∀j,x= .inr j->Q (E j).1 (E j).2)->HT cx (S s) c (vm (λst'=> ∃o,x= .inl o/\Le cx st' (S o)) Q)):HT cx (S s) (.loop c) Q:=by
 obtain ⟨n,hn⟩:=qt.1 h;let I:Nat->St->Prop:=λn st'=> ∃s,Le cx st' (S s)/\runN f n s=some r;have:=HT.loop (cx:=cx) (c:=c) (Q:=Q) (α:=St) (I:=I) (S:=id) (n:=n) (s:=S s) ⟨s,Le.refl,hn⟩ (λst' ⟨s,_,h0⟩=>by cases h0) (λn st' ⟨s,R,p⟩=>by
  simp only [runN] at p;have hx: ∃x,f s=some x/\(∀j,x= .inr j->j=r)/\ ∀o,x= .inl o->runN f n o=some r:=by
   split at p;rename_i o t;exact ⟨.inl o,t,λj e=>(by cases e),λT e=>(by injection e with e;subst e;exact p)⟩;rename_i j t;injection p with p;exact ⟨.inr j,t,λr'' e=>(by injection e with e;rw [<-e];exact p),λT e=>(by cases e)⟩
   cases p
  obtain ⟨x,t,h1,h2⟩:=hx;refine R.ht ((round s x t λj e=>by rw [h1 j e];exact hc).mono λe st1 U=> ?_);cases e with
  |normal=>
   obtain ⟨o,e1,J⟩:=U;exact ⟨st1,rfl,o,J,h2 o e1⟩
  |_=>exact U)
 exact this
theorem IM (g:GM)(m:Mem)(S:Nat->Prop)(w:Ε){v:bu}{val:ο}{t:Ty}{xs:List t.D}(r:j5 m (.sl t) v=some xs)(I:ij g m m (λ_=>True) w)(h:VR g m S w v val): ∃a n cap,val= .slice a n cap/\(a=none->xs=[]):=by
 obtain ⟨cs,j,J⟩:=mY (S2:=λ_=>True) (λ_ _=>trivial) I r h;obtain ⟨a,cap,e,_,o⟩:=J;have:val= .slice a (ζ xs) cap:=by
  unfold dC at j;rw [e] at j;simpa [Ty.sk] using j.symm
 refine ⟨a,_,cap,this,λR=> ?_⟩;cases xs with
 |nil=>rfl
 |cons x xs=>
  obtain ⟨T,es,p,_⟩:=o 0 (by simp);rw [R] at p;cases p
end
end Go.Ide
namespace Go.Ide
theorem zd {P:Ξ}{w:Ε}{T e:Ι}{a:Option Addr}{n cap:Nat}(hT:P.underlying T=some (.slice e)):
 (Op.equal T (.slice a n cap) (.slice none 0 0)).run P w= .ok a.isNone w:=by
 have h: ∀d:Nat,(Op.equalIn (d+1) T (.slice a n cap) (.slice none 0 0)).run P w= .ok a.isNone w:=λd=>by
  rw [Op.equalIn];cases a<;>simp [run_underlying hT]
 exact h 9999
theorem AN {P:Ξ}{w:Ε}{T:Ι}{x y:aah}{a:Option Addr}{n cap:Nat}:(Go.eqGuard .eql T x y (.slice a n cap) (.slice none 0 0)).run P w= .ok () w:=rfl
theorem En {P:Ξ}{w:Ε}{T e:Ι}{a:Option Addr}{n cap:Nat}(hT:P.underlying T=some (.slice e)):(Go.binOp .eql T (.slice a n cap) (.slice none 0 0)).run P w= .ok (.bool a.isNone) w:=by
 have j:Go.binOp .eql T (.slice a n cap) (.slice none 0 0)=(do pure (.bool (<-Op.equal T (.slice a n cap) (.slice none 0 0)))):=rfl;rw [j];simp only [Ϙ,ϋ,zd hT,ϳ]
section
variable {cx:Cx} {st:St} {P:Ξ} {N:Nat} {Q:abm->St->Prop} {y:Code}
theorem HT.isNil {id:Nat}{U o:Ϥ}{T T' e:Ι}{t3 t4:Tmp}{v:bu}{t:Ty}{xs:List t.D}{st1:St}(hP:cx.P=P)(hN:cx.N=N)(h1:FK P N [U,o] U ⟨none,.no⟩ st=some (st1,[]))(hg:o.guard=none)(aa:o.op= .binOp .eql T (.tmp t3) (.const (.slice none 0 0)) T')(hd:o.dst=some t4)(ab:aae t4 N=true)(hT:P.underlying T=some (.slice e))(hv:lk t3 st1.fr=some v)(hx:j5 st1.mem (.sl t) v=some xs)(k: ∀b,(b=true->xs=[])->HT cx (st1.put (some t4) (.one (.bp .bool b))) y Q):HT cx st (.seq (.region id [U,o].toArray false) y) Q:=by
 subst hP;subst hN;refine HT.seq λg a w hs=>wp_region_lit ?_;refine wpList_step λK hK=>q9 hs h1 trivial λg' I w' p=>hK I w' ?_;refine wpList_step λK' ae=> ?_;have hw:ϭ o (yielded [U,o].toArray I.tmps)=true:=by simp only [ϭ,hg]
 rw [if_pos hw];have hr:ij g' st1.mem st1.mem (λ_=>True) w':=λk t xs hl=>by
  refine ⟨hl,λ_ _ _=>trivial,?_⟩;have J:=p.mem k _ hl;unfold jc at J;cases j:g'.f k [] with
  |none=>rw [show g' k=none from j];rw [j] at J;exact J
  |some b=>
   rw [show g' k=some b from j];rw [j] at J;obtain ⟨arr,hb,qU⟩:=J;exact ⟨arr,hb,qU.bt (λb _=>⟨trivial,rfl⟩) λ_ _ _=>rfl⟩
 obtain ⟨r,n,cap,e1,e2⟩:=IM _ _ _ _ hx hr (p.fr t3 v hv);unfold Oper.wp;have he:(execOp I.eval o).run cx.P w'= .ok (.value (.bool r.isNone)) w':=by
  have e3:I.eval (.tmp t3)= .slice r n cap:=e1;have e4:I.eval (.const (.slice none 0 0))= .slice none 0 0:=rfl;simp only [execOp,aa,e3,e4,Ϙ,AN,ϋ,En hT,ϳ]
 rw [he];refine ae _ _ ?_;have R:=p.put (v:= .one (.bp .bool r.isNone)) (val:= .bool r.isNone) (show CR g' st1.mem (cx.safe g' st1.mem w') w' (.bp .bool r.isNone) (.bool r.isNone) from rfl) (some t4) (λt e=>by injection e with e;subst e;exact abD (by simpa [aae] using ab));rw [hd];exact ⟨_,g',k r.isNone (λhb=>e2 (by simpa using hb)),R⟩
end
end Go.Ide
namespace Go.Ide
def St.bt (ks:List Nat)(st:St):St:=⟨(ks.filterMap λt=>match lk t st.fr with
 |some v=>some (t,v)
 |none=>none),st.mem,st.nx⟩
theorem AO {fr:Fr}{t:Nat}{v:bu}: ∀{ks:List Nat},lk t (ks.filterMap λt=>match lk t fr with|some v=>some (t,v)|none=>none)=some v->lk t fr=some v
 |[],h=>by simp [fO] at h
 |k::ks,h=>by
  rw [List.filterMap_cons] at h;split at h;exact AO h;rename_i b j;split at j;rename_i p o;injection j with j;subst j;rw [bB] at h;split at h;rename_i e;subst e;rw [o];exact h;exact AO h;cases j
theorem cG.Nq {cx:Cx}{g:GM}{st:St}{a:Act}{w:Ε}(ks:List Nat)(h:cG cx g st a w):cG cx g (st.bt ks) a w:=
 h.congr (λ_ _ j=>AO j) λ_=>rfl
def FP (ks:List Nat):Option (St×List Prop)->Option (St×List Prop)
 |some (st,cs)=>some (st.bt ks,cs)
 |none=>none
theorem xz {ks:List Nat}{o:Option (St×List Prop)}{st':St}{cs:List Prop}(h:FP ks o=some (st',cs)): ∃st1,o=some (st1,cs)/\st'=st1.bt ks:=by
 unfold FP at h;split at h;rename_i st1 j;injection h with h;injection h with p r;subst r;exact ⟨st1,rfl,p.symm⟩;cases h
def CQ (P:Ξ)(N:Nat)(ops:List Ϥ)(h:Nat)(hrs:List HR)(tds:List (List Nat))(rs:List OH)(st:St):Option (St×List Prop):=
 bif (Α hrs.length h&&ϩ h ops.length)&&nz ops (hrs.map HR.D++tds) h 0 ops then (match xp P N ops st (ops.take h) hrs [] st.nx with
  |some (dP,cs,nx)=>(match pt P N ops (ops.drop h) rs (oC st dP (λ_=>true) nx) with
   |some (st',j)=>some (st',cs++j)
   |none=>none)
  |none=>none) else none
def sw {α β:Type}:Option β->Option (α⊕β)
 |some b=>some (.inr b)
 |none=>none
theorem ON {α β:Type}{e:Option β}{w:α⊕β}(h:sw e=some w): ∃z,e=some z/\w= .inr z:=by
 cases e with
 |none=>cases h
 |some z=>injection h with h;exact ⟨z,rfl,h.symm⟩
theorem aZ {α:Type}{a b:α}(h:some a=some b):a=b:=by injection h
theorem bd {α:Type}{a b:α}(h:some a=some b):b=a:=by injection h with h;exact h.symm
theorem aU:bU []:=trivial
theorem gy {p:Prop}{r:List Prop}(h:p)(j:bU r):bU (p::r):=⟨h,j⟩
noncomputable instance {t:Ty}{xs ys:List t.D}:Decidable (cy t xs ys):=aax _
theorem bG {α:Type}{xs:List α}{n:Int}(h:(0:Int)<=n/\n<aW xs):δ n<ζ xs:=by
 obtain ⟨o,j⟩:=h;simp only [aW] at j;omega
theorem Eo {α:Type}{xs:List α}{n:Int}(h:(0:Int)<=n/\n<=aW xs):ζ (Ϝ (δ n) xs)=δ n:=by
 obtain ⟨o,j⟩:=h;simp only [aW] at j;rw [ϙ];omega
theorem Ep {α:Type}(n:Nat)(xs:List α):Ϝ n xs=Ϝ (ζ (Ϝ n xs)) xs:=by
 rw [ϙ];rcases Nat.le_total n xs.length with h|h
 rw [Nat.min_eq_left h];rw [Nat.min_eq_right h,aam,aaw h]
abbrev tI:Ty:= .int .i64
abbrev cg:Ty:= .sl (.int .i64)
abbrev iV (x:Int):bu:= .one (.bp (.int .i64) x)
abbrev iC (x:Int):bs:= .bp (.int .i64) x
abbrev bV (x:Bool):bu:= .one (.bp .bool x)
abbrev bC (x:Bool):bs:= .bp .bool x
abbrev nV (x:List Int):bu:= .one (.bp (.sl (.int .i64)) x)
abbrev nC (x:List Int):bs:= .bp (.sl (.int .i64)) x
abbrev oH:OH:=⟨none,.no⟩
abbrev aV (c:Nat):bu:= .one (.all c)
abbrev pV (c o:Nat):bu:= .one (.ptr c o)
def slices_Clone {α:Type}(xs:List α):Option (List α):=aY (0+ζ xs<=bl) (some xs)
section
variable {cx:Cx} {st st':St} {P:Ξ} {N:Nat} {Q:abm->St->Prop} {x y c:Code}
theorem HT.bt (ks:List Nat)(h:HT cx (st.bt ks) c Q):HT cx st c Q:=λg a w j=>h g a w (j.Nq ks)
theorem IN {id h:Nat}{ops:List Ϥ}{hrs:List HR}{tds:List (List Nat)}{rs:List OH}{cs:List Prop}(t:cx.P=P)(I:cx.N=N)(J:P.follows .mixedOrders=true)(j:CQ P N ops h hrs tds rs st=some (st',cs))(R:bU cs)(T:Q .normal st'):HT cx st (.region id ops.toArray true) Q:=by
 unfold CQ at j;cases o:((Α hrs.length h&&ϩ h ops.length)&&nz ops (hrs.map HR.D++tds) h 0 ops) with
 |false=>rw [o] at j;cases j
 |true=>
  rw [o] at j;simp only [cond_true] at j;simp only [κ] at o;split at j;rename_i dP U nx h1;split at j;rename_i st1 Nn h2;injection j with j;injection j with e1 e2;subst e1;subst e2;obtain ⟨p,r⟩:=R.append;exact HT.ZC t I J (by simp only [κ,beq_iff_eq];exact ⟨bR o.1.1,o.1.2⟩) o.2 h1 h2 p r T;cases j;cases j
theorem HT.vR {id:Nat}{ops:List Ϥ}(ks:List Nat)(rs:List OH)(st':St){cs:List Prop}(j:cx.P=P)(o:cx.N=N)(p:FP ks (pt P N ops ops rs st)=some (st',cs))(r:bU cs)(t:HT cx st' y Q):HT cx st (.seq (.region id ops.toArray false) y) Q:=by
 obtain ⟨st1,I,J⟩:=xz p;subst J;exact HT.seq (HT.Ud j o I r (HT.bt ks t))
def nc:bs->List Nat
 | .ptr c _=>[c]
 | .cZ c _ _ _=>[c]
 | .all c=>[c]
 | .ref c _ _=>[c]
 | .row c _ _=>[c]
 | .yK c _ _ _ _ _=>[c]
 | .cls _ j=>j
 | .fK c=>[c]
 |_=>[]
def Nr:bu->List Nat
 | .one c=>nc c
 | .agg cs=>cs.flatMap nc
 | .Ab j=>j.flatMap λt=>t.2.flatMap nc
 |_=>[]
def Ns:Chunk->List Nat
 | .box cs=>cs.flatMap nc
 | .oS _ _ _ cs j=>cs.flatMap nc++j
 | .gh cs _=>cs.flatMap nc
 |_=>[]
def zN (m:Mem):List Nat->Mem
 |[]=>[]
 |k::j=>(match lk k m with
  |some c=>(k,c)::zN m j
  |none=>zN m j)
def R1 (own ks ms:List Nat)(st:St):Bool:=
 ((jX ms&&(st.bt ks).fr.all λp=>(Nr p.2).all λk=>Oq k ms)&&ms.all λk=>match lk k st.mem with
  |some c=>(Ns c).all λq=>Oq q ms
  |none=>false)&&own.all λk=>Oq k ms
def Ue (own ks ms:List Nat):Option (St×List Prop)->Option (St×List Prop)
 |some (st,cs)=>bif R1 own ks ms st then some (⟨(st.bt ks).fr,zN st.mem ms,st.nx⟩,cs) else none
 |none=>none
theorem IP {own ks ms:List Nat}{st st':St}{cs j:List Prop}(h:Ue own ks ms (some (st,cs))=some (st',j)):R1 own ks ms st=true/\st'=⟨(st.bt ks).fr,zN st.mem ms,st.nx⟩/\j=cs:=by
 simp only [Ue] at h;cases o:R1 own ks ms st with
 |false=>rw [o] at h;cases h
 |true=>
  rw [o] at h;simp only [cond_true] at h;injection h with h;injection h with p r;exact ⟨rfl,p.symm,r.symm⟩
theorem Er {m:Mem}{k:Nat}: ∀{ms:List Nat},ms.Nodup->lk k (zN m ms)=if k∈ms then lk k m else none
 |[],_=>by simp [zN,fO]
 |q::ms,j=>by
  simp only [aaV] at j;have ih:=Er (m:=m) (k:=k) j.2;simp only [zN];cases o:lk q m with
  |none=>
   simp only;rw [ih];by_cases e:k=q;subst e;rw [if_neg j.1,if_pos (by simp),o];simp [e]
  |some c=>
   simp only;rw [bB,ih];by_cases e:k=q;subst e;rw [if_pos rfl,if_pos (by simp),o];rw [if_neg e];simp [e]
theorem CR.sub {g:GM}{m m':Mem}{S S':Nat->Prop}{w:Ε}(T: ∀b,S b->S' b){c:bs}(U: ∀k,k∈nc c->lk k m'=lk k m){v:ο}(r:CR g m S w c v):CR g m' S' w c v:=by
 have sq: ∀k,lk k m'=lk k m-> ∀t R,du m' k t R->du m k t R:=λk e t R h=>by unfold du at h⊢;rw [e] at h;exact h
 cases c with
 |ptr k off=>have e:=U k (by simp [nc]);exact ⟨by rw [e];exact r.1,r.2⟩
 |cZ k i sz off=>have e:=U k (by simp [nc]);exact ⟨by rw [e];exact r.1,r.2⟩
 |all k=>have e:=U k (by simp [nc]);exact ⟨by rw [e];exact r.1,r.2.1,λt R h=>r.2.2 t R (sq k e t R h)⟩
 |ref k off len=>have e:=U k (by simp [nc]);exact ⟨by rw [e];exact r.1,r.2.1,λt R h=>r.2.2 t R (sq k e t R h)⟩
 |row k i o=>have e:=U k (by simp [nc]);exact ⟨by rw [e];exact r.1,r.2.1,λt R h=>r.2.2 t R (by rw [<-e];exact h)⟩
 |yK k i o j sz off=>
  have e:=U k (by simp [nc]);obtain ⟨h1,b,h2,h3⟩:=r;exact ⟨by rw [e];exact h1,b,h2,λt R h=>h3 t R (by rw [<-e];exact h)⟩
 |bp t x=>exact abi (λb hb=>⟨T b hb,rfl⟩) t [v] x r
 |ip t x off=>
  obtain ⟨ad,es,e,hs,I,J⟩:=r;exact ⟨ad,es,e,T _ hs,I,abi (λb hb=>⟨T b hb,rfl⟩) t es x J⟩
 |br=>exact r
 |fn f=>exact r
 |jb f t x=>
  obtain ⟨ad,es,e,hs,I,J⟩:=r;exact ⟨ad,es,e,T _ hs,I,abi (λb hb=>⟨T b hb,rfl⟩) t es x J⟩
 |cls f ks=>
  obtain ⟨ps,e,gx⟩:=r;exact ⟨ps,e,gx.imp_mem λk Uf p hp=>⟨by rw [U k Uf];exact hp.1,hp.2⟩⟩
 |zq f t x=>
  obtain ⟨ad,KM,es,e,qg,HQ,hs,I,J⟩:=r;exact ⟨ad,KM,es,e,T _ qg,HQ,T _ hs,I,abi (λb hb=>⟨T b hb,rfl⟩) t es x J⟩
 |fK k=>have e:=U k (by simp [nc]);exact ⟨by rw [e];exact r.1,r.2⟩
 |dE=>exact r
 |bad=>trivial
theorem cG.gc {cx:Cx}{g:GM}{tn:St}{a:Act}{w:Ε}{own ks ms:List Nat}(h:cG cx g tn a w)(ho:cx.own.map aas=own)(hb:R1 own ks ms tn=true):cG cx g ⟨(tn.bt ks).fr,zN tn.mem ms,tn.nx⟩ a w:=by
 have h:=h.Nq ks;unfold R1 at hb;simp only [κ] at hb;obtain ⟨⟨⟨hn,tD⟩,ZD⟩,xy⟩:=hb;have hn:=iq hn;have B4: ∀k,k∈ms->lk k (zN tn.mem ms)=lk k tn.mem:=λk J=>by rw [Er hn,if_pos J]
 have ae: ∀k r,lk k (zN tn.mem ms)=some r->k∈ms/\lk k tn.mem=some r:=λk r J=>by
  rw [Er hn] at J;split at J;rename_i hm;exact ⟨hm,J⟩;cases J
 have I: ∀b,cx.safe g tn.mem w b->cx.safe g (zN tn.mem ms) w b:=λb ⟨h1,h2,h3⟩=>⟨h1,h2,λ⟨k,p,r,q1,q2,q3⟩=>h3 ⟨k,p,r,(ae k r q1).2,q2,q3⟩⟩;have QT: ∀c v,(∀k,k∈nc c->k∈ms)->CR g tn.mem (cx.safe g tn.mem w) w c v->CR g (zN tn.mem ms) (cx.safe g (zN tn.mem ms) w) w c v:=λc v J U=>CR.sub I (λk aa=>B4 k (J k aa)) U;have R: ∀cs vs,(∀k,k∈cs.flatMap nc->k∈ms)->bN (CR g tn.mem (cx.safe g tn.mem w) w) cs vs->bN (CR g (zN tn.mem ms) (cx.safe g (zN tn.mem ms) w) w) cs vs:=λcs vs J U=>
  U.imp_mem λc hc v hv=>QT c v (λk aa=>J k (afQ.2 ⟨c,hc,aa⟩)) hv
 refine ⟨h.defers.bt (λb hb=>⟨I b hb,rfl⟩),h.size,λt v hl=> ?_,λk r J=> ?_,λk k' p p' r pq b h1 h2 h3 h4=>h.fV k k' p p' r pq b (ae k r h1).2 h2 (ae k' pq h3).2 h4,λk p r b h1=>h.iF k p r b (ae k r h1).2,λk p r b h1=>h.lt k p r b (ae k r h1).2,h.bt,λp hp=> ?_,h.gl⟩;have hv:=h.fr t v hl;have J: ∀k,k∈Nr v->k∈ms:=λk J=>wa.1 (ϡ.1 (ϡ.1 tD _ (mh hl)) k J);cases v with
 |one c=>exact QT c _ J hv
 |agg cs=>obtain ⟨vs,e,so⟩:=hv;exact ⟨vs,e,R cs vs J so⟩
 |Ab ts=>
  obtain ⟨vs,e,so⟩:=hv;refine ⟨vs,e,so.imp_mem λt ht u hc=> ?_⟩;have sy: ∀k,k∈t.2.flatMap nc->k∈ms:=λk aa=>J k (afQ.2 ⟨t,ht,aa⟩);unfold CV at hc⊢;split at hc;obtain ⟨us,e',hu⟩:=hc;exact ⟨us,e',R _ us sy hu⟩;rename_i c e1 e2;rw [e2] at sy;exact QT _ _ (λk aa=>sy k (by simpa using aa)) hc;exact hc.elim
 |BO=>exact hv
 |dE=>trivial
 obtain ⟨Uf,M3⟩:=ae k r J;have U:=h.mem k r M3;have ab:=ϡ.1 ZD k Uf;rw [M3] at ab;have ab: ∀q,q∈Ns r->q∈ms:=λq hq=>wa.1 (ϡ.1 ab q hq);cases r with
 |gone=>trivial
 |box cs=>obtain ⟨b,arr,e,hb,gx⟩:=U;exact ⟨b,arr,e,hb,R cs _ ab gx⟩
 |mp t u xs=>exact U
 |pA T e xs=>exact U
 |gh cs vs=>exact ⟨U.1,R cs _ ab U.2⟩
 |seq t xs=>
  show jc g (zN tn.mem ms) (cx.safe g (zN tn.mem ms) w) w (g.f k) _;unfold jc at U⊢;cases hγ:g.f k [] with
  |none=>rw [hγ] at U;exact U
  |some b=>
   rw [hγ] at U;obtain ⟨arr,q1,q2⟩:=U;exact ⟨arr,q1,q2.bt (λb hb=>⟨I b hb,rfl⟩) λ_ _ _=>rfl⟩
 |oS t xs i cs ks=>
  obtain ⟨Ft,b,arr,q1,q2,q3,q4,es,q5,q6,q7⟩:=U;refine ⟨?_,b,arr,q1,q2,q3,λj hj iH=> ?_,es,q5,q6,R cs es (λq hq=>ab q (Λ.2 (.inl hq))) q7⟩;refine bN.D7 Ft.length λj o k1 hj GA=> ?_;obtain ⟨Zw,ad,r1,r2⟩:=bN.get j Ft o hj;rw [GA] at ad;injection ad with ad;subst ad;exact ⟨by show lk k1 (zN tn.mem ms)≠none;rw [B4 k1 (ab k1 (Λ.2 (.inr (aaG GA))))];exact r1,r2⟩;obtain ⟨ZE,r1,r2⟩:=q4 j hj iH;exact ⟨ZE,r1,de.bt (λb hb=>⟨I b hb,rfl⟩) t (λ_ _ _=>rfl) r2⟩
 refine ⟨(h.own p hp).1,?_⟩;show lk p.1 (zN tn.mem ms)≠none;rw [B4 p.1 (wa.1 (ϡ.1 xy p.1 (by rw [<-ho];exact ϟ.2 ⟨p,hp,rfl⟩)))];exact (h.own p hp).2
structure gG (cx:Cx)(P:Ξ)(N:Nat)(own:List Nat):Prop where
 P:cx.P=P
 N:cx.N=N
 own:cx.own.map aas=own
theorem Le.gc {own ks ms:List Nat}{o:Option (St×List Prop)}{st1:St}{cs j:List Prop}(p:gG cx P N own)(r:o=some (st1,j))(t:Ue own ks ms o=some (st',cs)):cs=j/\Le cx st1 st':=by
 subst r;obtain ⟨I,J,R⟩:=IP t;refine ⟨R,λg a w T=>⟨g,?_⟩⟩;rw [J];exact T.gc p.own I
theorem aX (h:HT cx st y Q):vl cx y Q .normal st:=h
theorem bw {k:Nat}(h:Q (.exit k) st):vl cx y Q (.exit k) st:=h
theorem bn (h:Q .ret st):vl cx y Q .ret st:=h
theorem bj {id:Nat}(h:Q .normal st):uK id Q .normal st:=h
theorem bm {id:Nat}(h:Q .normal st):uK id Q (.exit id) st:=by
 show if id=id then Q .normal st else Q (.exit id) st
 rw [if_pos rfl];exact h
theorem Lr {id k:Nat}(j:Α k id=false)(h:Q (.exit k) st):uK id Q (.exit k) st:=by
 show if k=id then Q .normal st else Q (.exit k) st
 rw [if_neg (by rintro rfl;rw [adw] at j;cases j)];exact h
theorem bH {id:Nat}(h:Q .ret st):uK id Q .ret st:=h
theorem bA {J:St->Prop}{k:Nat}(h:Q (.exit k) st):vm J Q (.exit k) st:=h
theorem eZ {J:St->Prop}(h:Q .ret st):vm J Q .ret st:=h
theorem bz {J:St->Prop}(h:J st):vm J Q .normal st:=h
theorem HT.CT {o:aah}{b:Bool}(j:ev st.fr o=some (.one (.bp .bool b)))(p:b=true)(r:HT cx st x Q):HT cx st (.cond o x y) Q:=HT.cond j (λ_=>r) (λh=>by rw [p] at h;cases h)
theorem HT.zO {o:aah}{b:Bool}(j:ev st.fr o=some (.one (.bp .bool b)))(p:b=false)(r:HT cx st y Q):HT cx st (.cond o x y) Q:=HT.cond j (λh=>by rw [p] at h;cases h) (λ_=>r)
end
end Go.Ide
namespace Go.Ide
mutual
def AP (P:Ξ):Nat->Ty->Ι->Bool
 |0,_,_=>false
 |n+1,t,T=>match t with
  | .int k=>(match P.underlying T with
   |some (.int j)=>k==j
   |_=>false)
  | .dB k=>(match P.underlying T with
   |some (.float j)=>k==j
   |_=>false)
  | .bool=>(match P.underlying T with
   |some .bool=>true
   |_=>false)
  | .str=>(match P.underlying T with
   |some .string=>true
   |_=>false)
  | .sl t=>(match P.underlying T with
   |some (.slice e)=>AP P n t e&&Α (P.cellsOf e) t.size
   |_=>false)
  | .st t=>(match P.underlying T with
   |some (.struct o)=>Nt P n t 0 o.toList&&Α (P.cellsOf T) t.size
   |_=>false)
  | .pair _ _=>false
  | .own _=>false
  | .bx _=>false
  | .cl _ _=>false
def Nt (P:Ξ):Nat->Ty->Nat->List Field->Bool
 |0,_,_,_=>false
 |n+1,t,off,j=>match j with
  |[]=>false
  |[f]=>(AP P n t f.type&&Α f.offset off)&&Α (P.cellsOf f.type) t.size
  |f::j=>match t with
   | .pair a b=>((AP P n a f.type&&Α f.offset off)&&Α (P.cellsOf f.type) a.size)&&Nt P n b (off+a.size) j
   |_=>false
end
section
variable {H:Type} {enc:Ι×ο->H} {P:Ξ} {w:Ε} {base:Nat} {spare:Nat->Bool} {held:Bool}
def There (w:Ε)(b:Nat):Prop:=b<w.heap.size
def WfD:(t:Ty)->t.D->Prop
 | .int k,n=>(Lit.int k n).wf=true
 | .dB k,b=> ∃o,cW k o=b/\(Lit.float k o).wf=true
 | .bool,_=>True
 | .str,s=>ζ s<=maxLen
 | .pair a b,x=>WfD a x.1/\WfD b x.2
 | .st t,x=>WfD t x
 | .sl t,j=>ζ j<=maxLen/\ ∀i (h:i<ζ j),WfD t j[i]
 | .bx t,j=>ζ j<=maxLen/\ ∀i (h:i<ζ j),WfD t j[i]
 | .cl _ _,_=>False
 | .own t,j=>ζ j<=maxLen/\ ∀i (h:i<ζ j),WfD t j[i]
theorem zP {α:Type}{R:Nat->α->Prop}: ∀(n:Nat),(∀i,i<n-> ∃x,R i x)-> ∃l:List α,l.length=n/\ ∀i (h:i<l.length),R i l[i]
 |0,_=>⟨[],rfl,λi h=>by simp at h⟩
 |n+1,h=>by
  obtain ⟨l,j,p⟩:=zP n λi o=>h i (by omega);obtain ⟨x,r⟩:=h n (by omega);refine ⟨l++[x],by simp [j],λi o=> ?_⟩;simp at o;rcases aaz i n with t|I
  rw [List.getElem_append_left (by omega)];exact p i (by omega);have:i=n:=by omega
  subst this;rw [List.getElem_append_right (by omega)];simpa [j] using r
theorem Ls {k k':aaC}(h:(k==k')=true):k=k':=by cases k<;>cases k'<;>first|rfl|cases h
theorem IQ {k k':FloatKind}(h:(k==k')=true):k=k':=by cases k<;>cases k'<;>first|rfl|cases h
theorem vw: ∀(n:Nat),
 (∀(t:Ty) (T:Ι) (o:Nat) (cs:List ο) (y:DataW H×List adQ),AP P n t T=true->ac8 enc P w base spare held o T cs=some y-> ∃x,bT (There w) w t cs x/\WfD t x)/\
 (∀(t:Ty) (off:Nat) (fs:List Field) (o:Nat) (cs:List ο),Nt P n t off fs=true->(∀f∈fs,∃y,ac8 enc P w base spare held o f.type ((cs.drop f.offset).take (P.cellsOf f.type))=some y)->cs.length=off+t.size-> ∃x,bT (There w) w t (cs.drop off) x/\WfD t x)
 |0=>⟨λ_ _ _ _ _ h _=>by simp [AP] at h,λ_ _ _ _ _ h _ _=>by simp [Nt] at h⟩
 |n+1=>by
  obtain ⟨VD,X6⟩:=vw n;refine ⟨λt T o cs y h r=> ?_,λt off fs o cs h hf hl=> ?_⟩
  ·cases t with
   |int k=>
    simp only [AP] at h;split at h;rename_i k' U;have hk:=Ls h;subst hk;obtain ⟨m,rfl,_,ZF⟩:=DataW.trod_int U r;exact ⟨m,rfl,ZF⟩;cases h
   |dB k=>
    simp only [AP] at h;split at h
    ·rename_i k' U;have hk:=IQ h;subst hk;cases o with
     |zero=>simp [ac8] at r
     |succ o=>
      unfold ac8 at r;rw [U] at r;split at r
      case h_3=>
       rename_i J k2 b1 p;injection p with p;injection p with p;subst p;split at r;rename_i hk;obtain ⟨GA,sy⟩:=hk;subst GA;exact ⟨_,⟨b1,rfl,rfl⟩,b1,rfl,sy⟩;cases r
      all_goals first|(rename_i p;cases p;done)|(rename_i p _;cases p;done)|(rename_i p _ _;cases p;done)|cases r
    cases h
   |bool=>
    simp only [AP] at h;split at h;rename_i U;obtain ⟨m,rfl,_⟩:=DataW.trod_bool U r;exact ⟨m,rfl,trivial⟩;cases h
   |str=>
    simp only [AP] at h;split at h;rename_i U;obtain ⟨m,rfl,_,hm⟩:=DataW.trod_string U r;exact ⟨m.data.toList,by simp [bT],by simpa [WfD] using hm⟩;cases h
   |sl t=>
    simp only [AP] at h;split at h;rename_i e2 U;simp only [κ] at h;obtain ⟨p,I⟩:=h;have I:=bR I;rcases Go.Deep.open_slice U r with ⟨rfl,_⟩|⟨a,len,cap,m,f2,D,Pl,rfl,hb,hlc,Ug,hm,_,qU⟩
    exact ⟨[],⟨none,0,rfl,φ _,λi hi=>by simp at hi⟩,by simp [WfD]⟩;have XV:len<=m:=by rw [hm];split<;>omega
    obtain ⟨xs,KR,QK⟩:=zP (R:=λi (x:t.D)=>There w a.block/\ ∃es,(∀j v,es[j]? =some v->w.cell? (a.add (i*t.size+j))=some v)/\bT (There w) w t es x/\WfD t x) len λi hi=>by
     obtain ⟨BM,J,k2⟩:=qU i (by omega);obtain ⟨x,k3,k4⟩:=VD t _ _ _ _ p k2;obtain ⟨_,k5,k6⟩:=World.cells?_some J;have Ii:0<P.cellsOf e2:=by rw [I];exact t.size_pos
     refine ⟨x,World.cells?_block J Ii |> λq=>by simpa [There,fm] using q,BM,λj v hv=> ?_,k3,k4⟩;have hj:j<P.cellsOf e2:=by rw [<-k5];exact (ψ.1 hv).1
     rw [<-add_add,<-I,k6 j hj];exact hv
    refine ⟨xs,⟨some a,cap,by rw [KR],by omega,λi hi=> ?_⟩,by rw [KR];omega,λi hi=> ?_⟩;obtain ⟨q1,es,q2,q3,_⟩:=QK i hi;exact ⟨a,es,rfl,q1,q2,q3⟩;obtain ⟨_,_,_,_,q4⟩:=QK i hi;exact q4;cases h
   |pair a b=>simp [AP] at h
   |own t=>simp [AP] at h
   |bx t=>simp [AP] at h
   |cl f t=>simp [AP] at h
   |st t=>
    simp only [AP] at h;split at h;rename_i e2 U;simp only [κ] at h;obtain ⟨p,I⟩:=h;have I:=bR I;obtain ⟨xs,f2,_,_,hl,Lk,qU⟩:=DataW.trod_struct U r;have:=X6 t 0 _ f2 cs p (λf hf=>by
     obtain ⟨i,hi⟩:=acM hf;have BK:e2[i]? =some f:=by rw [<-ϥ];exact hi
     have hlt:i<xs.length:=by rw [Lk];exact (Ϣ.1 BK).1
     exact ⟨xs[i],by rw [qU i f BK];exact Γ hlt⟩) (by rw [hl,I,Υ])
    obtain ⟨x,J,k2⟩:=this;rw [List.drop_zero] at J;exact ⟨x,J,k2⟩;cases h
  cases fs with
  |nil=>simp [Nt] at h
  |cons f fs=>
   cases fs with
   |nil=>
    simp only [Nt,κ] at h;obtain ⟨⟨p,I⟩,h3⟩:=h;have I:=bR I;have h3:=bR h3;obtain ⟨y,r⟩:=hf f (by simp);obtain ⟨x,J,k2⟩:=VD t _ _ _ _ p r;refine ⟨x,?_,k2⟩;rw [I,h3,aaw (by rw [aab];omega)] at J;exact J
   |cons f2 fs=>
    cases t with
    |pair a b=>
     simp only [Nt,κ] at h;obtain ⟨⟨⟨p,I⟩,h3⟩,h4⟩:=h;have I:=bR I;have h3:=bR h3;obtain ⟨y,r⟩:=hf f (by simp);obtain ⟨x,J,k2⟩:=VD a _ _ _ _ p r;obtain ⟨z,k3,k4⟩:=X6 b (off+a.size) _ o cs h4 (λg hg=>hf g (by simp only [ϒ] at hg⊢;exact .inr hg)) (by rw [hl];simp [Ty.size];omega);rw [I,h3] at J;refine ⟨(x,z),⟨_,_,?_,J,k3⟩,k2,k4⟩;rw [<-List.drop_drop];exact (acY _ _).symm
    |_=>simp [Nt] at h
end
end Go.Ide
namespace Go.Ide
open Go.ChangeShapes Go.WideShapes Go.RowKit
section
variable {H:Type} {enc:Ι×ο->H} {P:Ξ}
def IS (P:Ξ)(ts:List Ι):Bool:=ts.all λt=>P.readableRec t&&aae t P.types.size
theorem sF (I:laidOutB P=true){W J:Ε}(R:Below W.heap.size W J): ∀{ts:List Ι} {vs:List ο} {o:List (DataW H)} {p:List adQ},IS P ts=true->acZ enc P W 0 (λ_=>true) true ts vs o p->(∀x∈p,x.block<W.heap.size)->
 acZ enc P J 0 (λb=>decide (b<W.heap.size)) true ts vs o p
 |[],[],[],p,_,h,_=>h
 |t::ts,v::vs,d::o,p,hp,h,j=>by
  obtain ⟨T,U,h1,h2,rfl⟩:=h;simp only [IS,List.all_cons,κ] at hp;refine ⟨T,U,Below.trod I hp.1.1 (abD (by simpa [aae] using hp.1.2)) h1 R (λx r=>j x (by simp [r])),sF I R (by simpa [IS] using hp.2) h2 (λx r=>j x (by simp [r])),rfl⟩
theorem IT {f:Func}{s:ChangeSpec}{T:Ι}{W R:Ε}{args:Array ο}{r gs:List (DataW H)}{o:List adQ}(hl:laidOutB P=true)(t:IS P f.params.toList=true)(U:s.vars=[])(hr:f.resultTypes= #[T])(hT:P.underlying T=some .bool)(J:s.fn H r={results:=[.lit (.bool true)],args:=r})(hW:ag3 enc P f.params.toList s.vars false W args.toList r gs o)(hb:Below W.heap.size W R):s.post enc P f false true false false W args (.bool true) R:=by
 have I:=hW;obtain ⟨p,q,hA,hV,rfl,TV,tQ⟩:=hW;rw [U] at hV;obtain ⟨rfl,rfl⟩:=trodVars_none hV;have j:s.fn H (r++[])={results:=[.lit (.bool true)],args:=r}:=by rw [ϴ];exact J
 refine ⟨r,[],p++[],[],p,[],I,?_,?_,?_,hb.frame _,λh=>by cases h⟩;rw [j,hr];exact trodAll_mk1 ⟨1,by simp [ac8,hT,abz]⟩;rw [j];exact sF hl hb t hA λx hx=>I.lt x (by simp [hx]);rw [U,j];rfl
theorem IU {n:Nat}{t:Ty}{T:Ι}{W:Ε}{r:Reach}{base:Nat}{v:ο}(j:AP P n t T=true)(h:acu P W r base T v):dC t v.cells.toList v:=by
 cases n with
 |zero=>simp [AP] at j
 |succ n=>
  cases t<;>simp only [AP] at j
  case pair=>cases j
  case own=>cases j
  case bx=>cases j
  case cl=>cases j
  case st t=>
   split at j;rename_i o e;unfold acu at h;rw [e] at h;obtain ⟨cs,rfl,_⟩:=h;simp [dC,Ty.sk,abz];cases j
  all_goals
   split at j
   ·rename_i e;simp only [acu,e,Cell.okWide,Cell.ok] at h;cases v<;>first|(simp [dC,Ty.sk,abz];done)|(simp at h;done)|exact h.elim
   cases j
def immArgs (l:List TD):List Arg:=l.map λd=> .bP d.t d.x
def ze (P:Ξ):List Ty->List Ι->Bool
 |[],[]=>true
 |t::j,T::o=>AP P 40 t T&&ze P j o
 |_,_=>false
theorem ub {W:Ε}{base:Nat}{spare:Nat->Bool}{held:Bool}{r:Reach}{b0:Nat}: ∀{ts:List Ty} {Ts:List Ι} {vs:List ο} {U:List (DataW H)} {p:List adQ},ze P ts Ts=true->acZ enc P W base spare held Ts vs U p->
 (∀(j:Nat) t v,Ts[j]? =some t->vs[j]? =some v->acu P W r b0 t v)-> ∃l:List TD,l.map TD.t=ts/\(∀d∈l,WfD d.t d.x)/\o7 (There W) W (immArgs l) vs (l.map λ_=>[])
 |[],[],[],[],p,_,_,_=>⟨[],rfl,λd I=>by simp at I,trivial⟩
 |t::ts,T::Ts,v::vs,d::U,p,o,h,J=>by
  obtain ⟨p1,p2,⟨R,h1⟩,h2,rfl⟩:=h;simp only [ze,κ] at o;obtain ⟨x,k1,k2⟩:=(vw 40).1 t T R _ _ o.1 h1;obtain ⟨l,k3,k4,k5⟩:=ub o.2 h2 λj t v hj hv=>J (j+1) t v (by simpa using hj) (by simpa using hv);refine ⟨⟨t,x⟩::l,by simp [k3],λd I=> ?_,⟨rfl,_,IU o.1 (J 0 T v rfl rfl),k1⟩,k5⟩;rcases ϒ.1 I with e|I
  subst e;exact k2;exact k4 d I
 |[],_::_,_,_,_,o,_,_=>by simp [ze] at o
 |_::_,[],_,_,_,o,_,_=>by simp [ze] at o
theorem IV {α β:Type}: ∀(l:List α),(l.map λ_=>([]:List β)).flatten=[]
 |[]=>rfl
 |_::l=>by simp
theorem IW {S:Nat->Prop}{w:Ε}{v:ο}{F:List (List Nat->Option Nat)}(h:D1 S w [⟨false,.bool,true⟩] v F):v= .bool true:=by
 obtain ⟨j,t,o⟩:=h;cases j with
 |nil=>exact t.elim
 |cons u j=>
  obtain ⟨R,T,_,I,J⟩:=t;cases j with
  |cons=>exact J.elim
  |nil=>
   have o:v=u:=o;subst o;simp only [wQ] at I;obtain ⟨_,cs,p,r⟩:=I;have r:cs=[.bool true]:=r;subst r;have p:[Value.bool true]=[v]:=p;simpa using p.symm
theorem law_run {f:FuncId}{fn:Func}{s:ChangeSpec}{T:Ι}{ts:List Ty}{W:Ε}{base:Nat}{args:Array ο}{J gs:List (DataW H)}{R:List adQ}(hl:laidOutB P=true)(aa:IS P fn.params.toList=true)(hv:s.vars=[])(hr:fn.resultTypes= #[T])(hT:P.underlying T=some .bool)(ab:ze P ts fn.params.toList=true)(hfn:J.length=ts.length->s.fn H J={results:=[.lit (.bool true)],args:=J})(ad: ∀l:List TD,l.map TD.t=ts->(∀d∈l,WfD d.t d.x)->CallOK P f (immArgs l) [⟨false,.bool,true⟩] [])(ae: ∀(j:Nat) t v,fn.params[j]? =some t->args[j]? =some v->acu P W .any base t v)(hgl:Glob.ok W (There W))(hW:ag3 enc P fn.params.toList s.vars false W args.toList J gs R):
 Calls P f args W λe W'=> ∃v,e= .returned v/\s.post enc P fn false true false false W args v W':=by
 have ZG:=hW;obtain ⟨p,q,hA,hV,rfl,TV,tQ⟩:=hW;obtain ⟨l,k1,k2,k3⟩:=ub (r:= .any) (b0:=base) ab hA λj t v hj hv=>ae j t v (by simpa using hj) (by simpa using hv);have VE:J.length=ts.length:=by
  have aux: ∀{o:List Ι} {vs:List ο} {J:List (DataW H)} {p:List adQ},acZ enc P W 0 (λ_=>true) true o vs J p->J.length=o.length:=by
   intro o;induction o with
   |nil=>intro vs J p h;obtain ⟨_,rfl,_⟩:=trodAll_nil h;rfl
   |cons T o ih=>
    intro vs J p h;obtain ⟨v,GD,d,ds',p,q,rfl,rfl,rfl,_,h2⟩:=trodAll_cons h;simp [ih h2]
  have af: ∀{ts:List Ty} {o:List Ι},ze P ts o=true->ts.length=o.length:=by
   intro ts;induction ts with
   |nil=>intro o h;cases o with
    |nil=>rfl
    |cons=>simp [ze] at h
   |cons t ts ih=>intro o h;cases o with
    |nil=>simp [ze] at h
    |cons T o=>simp only [ze,κ] at h;simp [ih h.2]
  rw [aux hA,af ab]
 obtain ⟨_,U⟩:=ad l k1 k2;have I:=IV (β:=List Nat->Option Nat) l;have:=U W (There W) args.toList (l.map λ_=>[]) [] (by rw [I];exact uE.nil) (by rw [I];exact pr.nil) (λb hb=>⟨hb,by simp⟩) (λb hb=>by simp at hb) k3 hgl;rw [show args.toList.toArray=args from by simp] at this;refine this.mono λe W' ⟨v,A',F',e1,_,_,h1,_,h4,_⟩=> ?_;have ZH:=IW h1;subst ZH;exact ⟨_,e1,IT hl aa hv hr hT (hfn VE) ZG ⟨h4.os,h4.tape,h4.output,h4.size,λk hk=>h4.block k hk (by simp)⟩⟩
end
end Go.Ide
namespace Go.Ide
section
variable {σ ρ:Type} {f g:σ->Option (σ⊕ρ)}
end
end Go.Ide
namespace Go.Ide
open Go.IntWalk
def OO {σ ρ:Type}(g:Nat->σ->σ⊕ρ)(e:σ->ρ):Nat->Nat->σ->ρ
 |0,_,s=>e s
 |k+1,i,s=>match g i s with
  | .inl j=>OO g e k (i+1) j
  | .inr r=>r
def OP {σ:Type}(g:Nat->σ->σ):Nat->Nat->σ->σ
 |0,_,s=>s
 |k+1,i,s=>OP g k (i+1) (g i s)
section
variable {σ τ ρ:Type}
theorem Es {f:τ->Option (τ⊕ρ)}(mk:Nat->σ->τ)(g:Nat->σ->σ⊕ρ)(e:σ->ρ){n:Nat}(I:Nat->σ->Prop)(j: ∀i s,i<n->I i s->f (mk i s)=some (match g i s with| .inl p=> .inl (mk (i+1) p)| .inr r=> .inr r)/\(∀p,g i s= .inl p->I (i+1) p))(o: ∀s,I n s->f (mk n s)=some (.inr (e s))): ∀(k i:Nat) (s:σ),i+k=n->I i s->rounds f (mk i s)=some (OO g e k i s)
 |0,i,s,t,h=>by
  have:i=n:=by omega
  subst this;rw [ef,o s h];rfl
 |k+1,i,s,t,h=>by
  obtain ⟨J,R⟩:=j i s (by omega) h;rw [ef,J];simp only [OO];cases T:g i s with
  |inl p=>exact Es mk g e I j o k (i+1) p (by omega) (R p T)
  |inr r=>rfl
theorem nf {f:τ->Option (τ⊕ρ)}(mk:Nat->σ->τ)(g:Nat->σ->σ)(e:σ->ρ){n:Nat}(I:Nat->σ->Prop)(j: ∀i s,i<n->I i s->f (mk i s)=some (.inl (mk (i+1) (g i s)))/\I (i+1) (g i s))(o: ∀s,I n s->f (mk n s)=some (.inr (e s))): ∀(k i:Nat) (s:σ),i+k=n->I i s->rounds f (mk i s)=some (e (OP g k i s))/\I n (OP g k i s)
 |0,i,s,p,h=>by
  have:i=n:=by omega
  subst this;rw [ef,o s h];exact ⟨rfl,h⟩
 |k+1,i,s,p,h=>by
  obtain ⟨r,t⟩:=j i s (by omega) h;rw [ef,r];exact nf mk g e I j o k (i+1) (g i s) (by omega) t
def vS (p:Nat->Bool):Nat->Nat->Bool
 |0,_=>true
 |k+1,i=>p i&&vS p k (i+1)
theorem pP {p:Nat->Bool}: ∀{k i:Nat},vS p k i=true↔ ∀j,i<=j->j<i+k->p j=true
 |0,i=>by simp only [vS,true_iff];intro j r t;omega
 |k+1,i=>by
  simp only [vS,κ,pP (k:=k)];constructor;rintro ⟨r,t⟩ j I o;by_cases e:j=i;rw [e];exact r;exact t j (by omega) (by omega);intro h;exact ⟨h i (φ _) (by omega),λj I o=>h j (by omega) (by omega)⟩
theorem mo {f:τ->Option (τ⊕ρ)}(mk:Nat->τ)(p:Nat->Bool)(a b:ρ){n:Nat}(j: ∀i,i<n->f (mk i)=some (bif p i then .inl (mk (i+1)) else .inr b))(o:f (mk n)=some (.inr a)): ∀(k i:Nat),i+k=n->rounds f (mk i)=some (bif vS p k i then a else b)
 |0,i,r=>by
  have:i=n:=by omega
  subst this;rw [ef,o];rfl
 |k+1,i,r=>by
  rw [ef,j i (by omega)];simp only [vS];cases p i with
  |true=>simp only [cond_true,Bool.true_and];exact mo mk p a b j o k (i+1) (by omega)
  |false=>rfl
theorem fy {f:σ->Option (σ⊕ρ)}(R:Nat->σ->Prop)(Q:ρ->Prop)(step: ∀n s,R n s->(∃j o,j<n/\f s=some (.inl o)/\R j o)\/(∃r,f s=some (.inr r)/\Q r)):
 ∀(n:Nat) (s:σ),R n s-> ∃r,rounds f s=some r/\Q r:=by
 intro n;induction n using aap with
 |_ n ih=>
  intro s h;rw [ef f s];rcases step n s h with ⟨j,o,I,p,t⟩|⟨r,p,t⟩
  rw [p];exact ih j I o t;rw [p];exact ⟨r,rfl,t⟩
end
theorem fM {a b:Int}(h: -9223372036854775808<=a+b/\a+b<=9223372036854775807):bf .i64 a b=a+b:=i64_in _ h
theorem fN {a b:Int}(h: -9223372036854775808<=a - b/\a - b<=9223372036854775807):bI .i64 a b=a - b:=i64_in _ h
theorem xA {a b:Int}(h: -9223372036854775808<=a*b/\a*b<=9223372036854775807):iX .i64 a b=a*b:=i64_in _ h
theorem bO {i n:Nat}(h:i<n)(j:n<=4294967296):bf .i64 (i:Int) 1=((i+1:Nat):Int):=by
 rw [show ((i+1:Nat):Int)=(i:Int)+1 from by omega];exact i64_in _ (by omega)
theorem ki {i n:Nat}(h:i<n):decide ((i:Int)<(n:Int))=true:=by simp;omega
theorem kC {i n:Nat}(h:n<=i):decide ((i:Int)<(n:Int))=false:=by simp;omega
theorem eJ {i n:Nat}(h:i<n):(0:Int)<=(i:Int)/\(i:Int)<(n:Int):=⟨by omega,by omega⟩
theorem R2 {c i k:Nat}(j:c<=1000)(o:i<1000)(p:k<1000):bf .i64 (iX .i64 (i:Int) (c:Int)) (k:Int)=((i*c+k:Nat):Int):=by
 have h:i*c<=1000*1000:=Nat.mul_le_mul (by omega) j;rw [xA (by rw [<-abb];omega),<-abb,fM (by omega)];omega
end Go.Ide
namespace Go.Ide
open Go.IntWalk
section
variable {α:Type}
theorem fq {xs:List α}{i:Nat}(h:i<xs.length)(d:α):xs.take (i+1)=xs.take i++[xs.getD i d]:=by
 rw [List.take_add_one,ς,Γ h];rfl
theorem we {ρ:Type}{f:Int->Option (Int⊕ρ)}(r:ρ)(n:Nat)(j: ∀i:Nat,i<n->f (i:Int)=some (.inl ((i+1:Nat):Int)))(o:f (n:Int)=some (.inr r)):rounds f (0:Int)=some r:=by
 have:=mo (f:=f) (λi=>((i:Nat):Int)) (λ_=>true) r r (n:=n) (λi p=>by rw [j i p];rfl) o n 0 (by omega);rw [show (0:Int)=((0:Nat):Int) from rfl,this];cases vS (λ_=>true) n 0<;>rfl
end
end Go.Ide
namespace Go.Ide
open Go.IntWalk
section
variable {α:Type}
end
end Go.Ide
namespace Go.Ide
end Go.Ide
namespace Go.Ide
section
variable {cx:Cx} {st st':St} {P:Ξ} {N:Nat} {Q:abm->St->Prop} {y:Code}
theorem xB {all os2:List Ϥ}{Q:abm->Act->Ε->Prop}: ∀{os:List Ϥ} {rs:List OH} {st st':St} {cs:List Prop} {g:GM} {a:Act} {w:Ε},
 cG cx g st a w->pt cx.P cx.N all os rs st=some (st',cs)->bU cs->(∀g' a' w',cG cx g' st' a' w'->wpList cx.P all.toArray Q os2 a' w')->wpList cx.P all.toArray Q (os++os2) a w
 |[],rs,st,st',cs,g,a,w,h,j,t,p=>by
  have j:some (st,[])=some (st',cs):=by cases rs<;>exact j
  injection j with j;injection j with I T;subst I;exact p g a w h
 |o::os,[],st,st',cs,g,a,w,h,j,t,p=>by cases j
 |o::os,r::rs,st,st',cs,g,a,w,h,j,t,p=>by
  simp only [pt] at j;split at j;rename_i st1 c1 U;split at j;rename_i aa c2 h2;injection j with j;injection j with I T;subst I;subst T;obtain ⟨J,R⟩:=t.append;rw [List.cons_append];refine wpList_step λK hK=> ?_;exact q9 h U J λg' a' w' hs=>hK a' w' (xB hs h2 R p);cases j;cases j
def RG (cx:Cx)(all os:List Ϥ)(st:St)(Q:abm->St->Prop):Prop:=
 ∀g a w,cG cx g st a w->wpList cx.P all.toArray (λe j w'=> ∃st' g',Q e st'/\cG cx g' st' j w') os a w
theorem HT.rg {id:Nat}{ops:List Ϥ}(h:RG cx ops ops st Q):HT cx st (.region id ops.toArray false) Q:=
 λg a w j=>wp_region_lit (h g a w j)
theorem RG.cut (n:Nat){all os:List Ϥ}(rs:List OH)(st':St){cs:List Prop}(p:cx.P=P)(r:cx.N=N)(t:pt P N all (os.take n) rs st=some (st',cs))(I:bU cs)(h:RG cx all (os.drop n) st' Q):RG cx all os st Q:=by
 subst p;subst r;intro g a w J;have:=xB (os2:=os.drop n) (Q:=λe j w'=> ∃st' g',Q e st'/\cG cx g' st' j w') J t I (λg' j w' o=>h g' j w' o);rwa [acY] at this
theorem RG.last {all os:List Ϥ}(rs:List OH)(st':St){cs:List Prop}(o:cx.P=P)(p:cx.N=N)(r:pt P N all os rs st=some (st',cs))(t:bU cs)(I:Q .normal st'):RG cx all os st Q:=by
 subst o;subst p;exact λg a w J=>qm J r t λg' _ _ j=>⟨st',g',I,j⟩
theorem RG.jV {all os:List Ϥ}(ks:List Nat)(rs:List OH)(st':St){cs:List Prop}(j:cx.P=P)(o:cx.N=N)(p:FP ks (pt P N all os rs st)=some (st',cs))(r:bU cs)(t:HT cx st' y Q):RG cx all os st (vl cx y Q):=by
 obtain ⟨st1,I,J⟩:=xz p;subst J;exact RG.last rs st1 j o I r (HT.bt ks t)
theorem Le.rg {all os:List Ϥ}(h:Le cx st st')(o:RG cx all os st' Q):RG cx all os st Q:=λg a w p=>let ⟨g',j⟩:=h g a w p;o g' a w j
end
end Go.Ide
namespace Go.Ide
open Go.IntWalk
end Go.Ide
namespace Go.Ide
open Go.IntWalk
section
variable {α:Type}
end
end Go.Ide
