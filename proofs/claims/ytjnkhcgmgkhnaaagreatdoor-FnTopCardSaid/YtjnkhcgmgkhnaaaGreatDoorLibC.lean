import Derived.Test.YtjnkhcgmgkhnaaaGreatDoorLibB
import Derived.RangeFuncWrites
import Derived.ProofKit
import Derived.Deep.Slices
import Derived.IntWalk
set_option linter.unusedVariables false
set_option linter.unusedSimpArgs false
set_option linter.unusedSectionVars false
namespace Go.Ide
structure OH where
 tv:Option Bool
 h:Hint
def K2 (N:Nat):Option Tmp→Bool
 |some t=>Nat.blt t N
 |none=>true
def St.app (st:St)(d:Option Tmp)(e:bm):St:=(st.gZ (e.jU++e.new++st.mem) (st.nx+e.new.length)).put d e.val
def th (all:List Oper)(j:Nat):Option Tmp:=(all[j]?).bind (·.dst)
def kP (m:Mem):Mem→Bool
 |[]=>true
 |p::l=>(match lk p.1 m with
  |some _=>false
  |none=>true)&&kP m l
theorem eN {m:Mem}: ∀{l:Mem},kP m l=true→dK m l
 |[],_,p,hp=>by simp at hp
 |q::l,h,p,hp=>by
  simp only [kP,Bool.and_eq_true] at h;rcases List.mem_cons.1 hp with e|hp
  subst e;cases hx:lk p.1 m with
  |none=>rfl
  |some c=>rw [hx] at h;cases h.1
  exact eN h.2 p hp
def rD (P:Program)(all:List Oper)(o:Oper)(h:Hint)(fr:Fr)(m:Mem)(nx:Nat):Option (bm×List Prop):=
 match o.guard with
 |none=>(match vA P fr m nx h o with
  |some e=>some (e,e.cond)
  |none=>none)
 |some (j,want)=>(match (th all j).bind (fun t=>lk t fr) with
  |some (.one (.aB .bool b))=>bif b==want then
   (match vA P fr m nx h o with
   |some e=>some (e,e.cond)
   |none=>none) else some (⟨.A9,[],[],[]⟩,[])
  |some .A9=>some (⟨.A9,[],[],[]⟩,[])
  |_=>none)
def VJ (tv:Option Bool):Option (bm×List Prop)→Option (bm×List Prop)
 |some (e,cs)=>(match tv with
  |none=>some (e,cs)
  |some c=>(match e.val with
   | .one (.aB .bool b)=>some (⟨.one (.aB .bool c),e.new,e.jU,e.cond⟩,(b=c)::cs)
   |_=>none))
 |none=>none
theorem wC {tv:Option Bool}{x:Option (bm×List Prop)}{e:bm}{cs:List Prop}(h:VJ tv x=some (e,cs)):
 ∃e0 Hu,x=some (e0,Hu)∧(aS cs→aS Hu∧e.val=e0.val)∧e.new=e0.new∧e.jU=e0.jU∧e.cond=e0.cond:=by
 cases x with
 |none=>cases h
 |some p=>
  obtain ⟨e0,Hu⟩:=p;unfold VJ at h;cases tv with
  |none=>
   injection h with h;injection h with h1 h2;subst h1 h2;exact ⟨_,_,rfl,fun hc=>⟨hc,rfl⟩,rfl,rfl,rfl⟩
  |some c=>
   simp only at h;split at h;rename_i b hv;injection h with h;injection h with h1 h2;subst h1 h2;exact ⟨_,_,rfl,fun hc=>⟨hc.2,by rw [hv,hc.1]⟩,rfl,rfl,rfl⟩;cases h
def o8 (P:Program)(all:List Oper)(o:Oper)(r:OH)(fr:Fr)(m:Mem)(nx:Nat):Option (bm×List Prop):=VJ r.tv (rD P all o r.h fr m nx)
def FA (P:Program)(N:Nat)(all:List Oper)(o:Oper)(r:OH)(st:St):Option (St×List Prop):=
 match o8 P all o r st.fr st.mem st.nx with
 |some (e,cs)=>bif K2 N o.dst&&kP st.mem e.new then some (st.app o.dst e,cs) else none
 |none=>none
def nQ (P:Program)(N:Nat)(all:List Oper):List Oper→List OH→St→Option (St×List Prop)
 |[],_,st=>some (st,[])
 |o::os,r::rs,st=>(match FA P N all o r st with
  |some (st1,c1)=>(match nQ P N all os rs st1 with
   |some (FB,c2)=>some (FB,c1++c2)
   |none=>none)
  |none=>none)
 |_::_,[],_=>none
section
variable {cx:Cx} {g:GM} {st:St} {a:Act} {w:World}
theorem BK {N:Nat}{d:Option Tmp}(h:K2 N d=true): ∀t,d=some t→t<N:=by
 intro t e;subst e;exact Nat.lt_of_succ_le (by simpa [K2,Nat.blt] using h)
theorem nk.Ul {e:bm}{val:Value}{w':World}(h:nk cx st a e val w'){d:Option Tmp}(hd: ∀t,d=some t→t<cx.N): ∃g',bD cx g' (st.app d e) (a.put d val) w':=by
 obtain ⟨g',h1,h2⟩:=h;exact ⟨g',h1.put h2 d hd⟩
theorem GG {all:List Oper}{j:Nat}{b:Bool}(h:bD cx g st a w)(hg:(th all j).bind (fun t=>lk t st.fr)=some (.one (.aB .bool b))):yielded all.toArray a.tmps j=some b:=by
 unfold th at hg;unfold yielded;cases ho:all[j]? with
 |none=>simp [ho] at hg
 |some o=>
  rw [ho] at hg;simp only [Option.bind_some] at hg;cases hd:o.dst with
  |none=>simp [hd] at hg
  |some t=>
   rw [hd] at hg;simp only [Option.bind_some] at hg;have hv:=h.fr t _ hg;have hb:a.tmps.getD t undef= .bool b:=mG (g:=g) (m:=st.mem) (S:=cx.safe g st.mem w) (w:=w) hv;have hlt:t<a.tmps.size:=by
    rcases Nat.lt_or_ge t a.tmps.size with hlt|pL
    exact hlt;rw [Array.getD_eq_getD_getElem?,Array.getElem?_eq_none pL] at hb;cases hb
   simp only [List.getElem?_toArray,ho,Option.bind_some,hd];rw [Array.getD_eq_getD_getElem?,Array.getElem?_eq_getElem hlt] at hb;rw [Array.getElem?_eq_getElem hlt];simp only [Option.getD_some] at hb;rw [hb]
theorem GH {all:List Oper}{j:Nat}(h:bD cx g st a w)(hg:(th all j).bind (fun t=>lk t st.fr)=some .A9):yielded all.toArray a.tmps j=none:=by
 unfold th at hg;unfold yielded;cases ho:all[j]? with
 |none=>simp [ho] at hg
 |some o=>
  rw [ho] at hg;simp only [Option.bind_some] at hg;cases hd:o.dst with
  |none=>simp [hd] at hg
  |some t=>
   rw [hd] at hg;simp only [Option.bind_some] at hg;have hv:a.tmps.getD t undef=undef:=h.fr t _ hg;simp only [List.getElem?_toArray,ho,Option.bind_some,hd];rcases Nat.lt_or_ge t a.tmps.size with hlt|pL
   rw [Array.getD_eq_getD_getElem?,Array.getElem?_eq_getElem hlt] at hv;rw [Array.getElem?_eq_getElem hlt];simp only [Option.getD_some] at hv;rw [hv];rfl;rw [Array.getElem?_eq_none pL]
theorem wD {all:List Oper}{o:Oper}{r:OH}{e:bm}{cs:List Prop}{Q:Exit→Act→World→Prop}{K:Act→World→Prop}(h:bD cx g st a w)(he:o8 cx.P all o r st.fr st.mem st.nx=some (e,cs))(hw:dK st.mem e.new)(hd:K2 cx.N o.dst=true)(hc:aS cs)(hk: ∀g' a' w',bD cx g' (st.app o.dst e) a' w'→K a' w'):if Region.wanted o (yielded all.toArray a.tmps) then o.wp cx.P a w K Q else K (a.put o.dst undef) w:=by
 have hd:=BK hd;obtain ⟨e0,Hu,my,hv,hn,hu,lZ⟩:=wC he;obtain ⟨zJ,hv⟩:=hv hc;obtain ⟨v0,n0,u0,c0⟩:=e;obtain rfl:v0=e0.val:=hv;obtain rfl:n0=e0.new:=hn;obtain rfl:u0=e0.jU:=hu;have hk: ∀g' a' w',bD cx g' (st.app o.dst e0) a' w'→K a' w':=hk;have hw:dK st.mem e0.new:=hw;clear he hc lZ;unfold rD at my;split at my;rename_i hg;split at my;rename_i e' hi;injection my with my;injection my with e1 e2;subst e1;subst e2;simp only [Region.wanted,hg,if_true];refine (yU h hw hi zJ).wp fun val w' DM=> ?_;obtain ⟨g',hs⟩:=DM.Ul hd;exact hk g' _ _ hs;cases my;rename_i j want hg;split at my;rename_i b hb;have hy:=GG h hb;cases fy:(b==want) with
 |true=>
  rw [fy] at my;simp only [cond_true] at my;split at my;rename_i e' hi;injection my with my;injection my with e1 e2;subst e1;subst e2;have Sc:Region.wanted o (yielded all.toArray a.tmps)=true:=by
   simp only [Region.wanted,hg,hy];simpa using fy
  rw [if_pos Sc];refine (yU h hw hi zJ).wp fun val w' DM=> ?_;obtain ⟨g',hs⟩:=DM.Ul hd;exact hk g' _ _ hs;cases my
 |false=>
  rw [fy] at my;simp only [cond_false] at my;injection my with my;injection my with e1 e2;subst e1;subst e2;have Sc: ¬Region.wanted o (yielded all.toArray a.tmps)=true:=by
   simp only [Region.wanted,hg,hy];simpa using fy
  rw [if_neg Sc];exact hk g _ _ (h.put (v:= .A9) rfl o.dst hd)
 rename_i hb;injection my with my;injection my with e1 e2;subst e1;subst e2;have Sc: ¬Region.wanted o (yielded all.toArray a.tmps)=true:=by
  simp [Region.wanted,hg,GH h hb]
 rw [if_neg Sc];exact hk g _ _ (h.put (v:= .A9) rfl o.dst hd);cases my
theorem qa {all:List Oper}{o:Oper}{r:OH}{st':St}{cs:List Prop}{Q:Exit→Act→World→Prop}{K:Act→World→Prop}(h:bD cx g st a w)(he:FA cx.P cx.N all o r st=some (st',cs))(hc:aS cs)(hk: ∀g' a' w',bD cx g' st' a' w'→K a' w'):if Region.wanted o (yielded all.toArray a.tmps) then o.wp cx.P a w K Q else K (a.put o.dst undef) w:=by
 unfold FA at he;split at he;rename_i e ky hi;cases hd:(K2 cx.N o.dst&&kP st.mem e.new) with
 |false=>rw [hd] at he;cases he
 |true=>
  rw [hd] at he;simp only [cond_true] at he;simp only [Bool.and_eq_true] at hd;injection he with he;injection he with e1 e2;subst e1;subst e2;exact wD h hi (eN hd.2) hd.1 hc hk
 cases he
theorem o9 {all:List Oper}{Q:Exit→Act→World→Prop}: ∀{os:List Oper} {rs:List OH} {st st':St} {cs:List Prop} {g:GM} {a:Act} {w:World},
 bD cx g st a w→nQ cx.P cx.N all os rs st=some (st',cs)→aS cs→(∀g' a' w',bD cx g' st' a' w'→Q .normal a' w')→wpList cx.P all.toArray Q os a w
 |[],rs,st,st',cs,g,a,w,h,he,hc,hk=>by
  have he:some (st,[])=some (st',cs):=by cases rs<;>exact he
  injection he with he;injection he with e1 e2;subst e1;exact hk g a w h
 |o::os,[],st,st',cs,g,a,w,h,he,hc,hk=>by cases he
 |o::os,r::rs,st,st',cs,g,a,w,h,he,hc,hk=>by
  simp only [nQ] at he;split at he;rename_i st1 c1 h1;split at he;rename_i FB c2 h2;injection he with he;injection he with e1 e2;subst e1;subst e2;obtain ⟨A5,bQ⟩:=hc.append;refine wpList_step fun K hK=> ?_;exact qa h h1 A5 fun g' a' w' hs=>hK a' w' (o9 hs h2 bQ hk);cases he;cases he
def HT (cx:Cx)(st:St)(c:Code)(Q:Exit→St→Prop):Prop:=
 ∀g a w,bD cx g st a w→c.wp cx.P (fun e a' w'=> ∃st' g',Q e st'∧bD cx g' st' a' w') a w
variable {Q Q':Exit→St→Prop} {c x y:Code}
theorem HT.mono (h:HT cx st c Q)(hq: ∀e s,Q e s→Q' e s):HT cx st c Q':=
 fun g a w hs=>wp_mono (h g a w hs) fun e _ _ ⟨s,g',h1,h2⟩=>⟨s,g',hq e s h1,h2⟩
theorem HT.region {id:Nat}{ops:List Oper}{rs:List OH}{st':St}{cs:List Prop}(he:nQ cx.P cx.N ops ops rs st=some (st',cs))(hc:aS cs)(hq:Q .normal st'):HT cx st (.region id ops.toArray false) Q:=
 fun g a w hs=>wp_region_lit (o9 hs he hc fun g' _ _ db=>⟨st',g',hq,db⟩)
theorem HT.skip (hq:Q .normal st):HT cx st .skip Q:=fun g _ _ hs=>wp_skip ⟨st,g,hq,hs⟩
theorem HT.exit {id:Nat}(hq:Q (.exit id) st):HT cx st (.exit id) Q:=fun g _ _ hs=>wp_exit ⟨st,g,hq,hs⟩
theorem HT.ret (hq:Q .ret st):HT cx st .ret Q:=fun g _ _ hs=>wp_ret ⟨st,g,hq,hs⟩
def uM (cx:Cx)(y:Code)(Q:Exit→St→Prop):Exit→St→Prop
 | .normal,s=>HT cx s y Q
 |e,s=>Q e s
theorem HT.seq (h:HT cx st x (uM cx y Q)):HT cx st (.seq x y) Q:=fun g a w hs=>by
 refine wp_seq (wp_mono (h g a w hs) fun e a' w' ⟨s,g',h1,h2⟩=> ?_);cases e with
 |normal=>exact h1 g' a' w' h2
 |_=>exact ⟨s,g',h1,h2⟩
theorem HT.cond {o:Operand}{b:Bool}(he:ev st.fr o=some (.one (.aB .bool b)))(h1:b=true→HT cx st x Q)(h2:b=false→HT cx st y Q):HT cx st (.cond o x y) Q:=fun g a w hs=>
 wp_cond_split (mG (g:=g) (m:=st.mem) (S:=cx.safe g st.mem w) (w:=w) (ba hs he)) (fun e=>h1 e g a w hs) (fun e=>h2 e g a w hs)
def wE (id:Nat)(Q:Exit→St→Prop):Exit→St→Prop
 | .exit VK,s=>if VK=id then Q .normal s else Q (.exit VK) s
 |e,s=>Q e s
theorem HT.block {id:Nat}(h:HT cx st c (wE id Q)):HT cx st (.block id c) Q:=fun g a w hs=>by
 refine wp_block (wp_mono (h g a w hs) fun e a' w' ⟨s,g',h1,h2⟩=> ?_);cases e with
 |exit VK=>
  simp only [Exit.inBlock,wE] at h1⊢;split;rename_i e;rw [if_pos e] at h1;exact ⟨s,g',h1,h2⟩;rename_i e;rw [if_neg e] at h1;exact ⟨s,g',h1,h2⟩
 |_=>exact ⟨s,g',h1,h2⟩
def uN (J:St→Prop)(Q:Exit→St→Prop):Exit→St→Prop
 | .normal,s=>J s
 |e,s=>Q e s
theorem HT.loop {α:Type}{I:Nat→α→Prop}{S:α→St}{n:Nat}{s:α}(h0:I n s)(hz: ∀s,¬I 0 s)(round: ∀n s,I (n+1) s→HT cx (S s) c (uN (fun st'=> ∃s',st'=S s'∧I n s') Q)):HT cx (S s) (.loop c) Q:=fun g a w hs=>by
 let J:Nat→Act→World→Prop:=fun n a w=> ∃s g,I n s∧bD cx g (S s) a w;have hex: ∀a w,(∃n,J n a w)→ ∃n,J n a w∧ ∀k,J k a w→n≤k:=by
  intro a w ⟨n,hn⟩;induction n using Nat.strongRecOn with
  |_ n ih=>
   by_cases h: ∃k,k<n∧J k a w;obtain ⟨k,hk,hj⟩:=h;exact ih k hk hj;exact ⟨n,hn,fun k hk=>Nat.le_of_not_lt fun hlt=>h ⟨k,hlt,hk⟩⟩
 let μ:Act→World→Nat:=fun a w=> @dite Nat (∃n,J n a w) (Classical.propDecidable _) (fun h=>Classical.choose (hex a w h)) (fun _=>0);have hμ: ∀a w n,J n a w→J (μ a w) a w∧μ a w≤n:=by
  intro a w n hn;have hx: ∃n,J n a w:=⟨n,hn⟩;have e:μ a w=Classical.choose (hex a w hx):=dif_pos hx;have:=Classical.choose_spec (hex a w hx);rw [e];exact ⟨this.1,this.2 n hn⟩
 refine wp_loop (fun a w=> ∃n,J n a w) μ ⟨n,s,g,h0,hs⟩ fun a w ⟨n,hn⟩=> ?_;obtain ⟨⟨s,g,hI,hs⟩,_⟩:=hμ a w n hn;cases hm:μ a w with
 |zero=>rw [hm] at hI;exact absurd hI (hz s)
 |succ k=>
  rw [hm] at hI;refine wp_mono (round k s hI g a w hs) fun e a' w' ⟨st',g',h1,h2⟩=> ?_;cases e with
  |normal=>
   obtain ⟨s',e,XO⟩:=h1;subst e;have:=hμ a' w' k ⟨s',g',XO,h2⟩;exact ⟨⟨k,s',g',XO,h2⟩,by omega⟩
  |_=>exact ⟨st',g',h1,h2⟩
end
end Go.Ide
namespace Go.Ide
theorem wF {ch:List (Nat×Nat)}: ∀{k k':Nat},lk k ch=some k'→k'∈ch.map Prod.snd:=fun h=>List.mem_map.2 ⟨_,kO h,rfl⟩
def inv (ch:List (Nat×Nat)):List (Nat×Nat):=ch.map fun p=>(p.2,p.1)
theorem mM: ∀{ch:List (Nat×Nat)} {k k':Nat},(ch.map Prod.fst).Nodup→(ch.map Prod.snd).Nodup→(lk k ch=some k'↔lk k' (inv ch)=some k)
 |[],k,k',_,_=>by simp [inv,eB]
 |(a,b)::ch,k,k',h1,h2=>by
  simp only [List.map_cons,List.nodup_cons] at h1 h2;simp only [inv,List.map_cons];rw [aw,aw];have ih:=mM (ch:=ch) (k:=k) (k':=k') h1.2 h2.2;by_cases hk:k=a;subst hk;rw [if_pos rfl];by_cases dS:k'=b;subst dS;simp;rw [if_neg dS];constructor;intro e;injection e with e;exact absurd e.symm dS
  intro e;have:=ih.2 e;exact absurd (List.mem_map.2 ⟨_,kO this,rfl⟩) h1.1;rw [if_neg hk];by_cases dS:k'=b;subst dS;rw [if_pos rfl];constructor;intro e;exact absurd (wF e) h2.1;intro e;injection e with e;exact absurd e.symm hk
  rw [if_neg dS];exact ih
end Go.Ide
namespace Go.Ide
section
variable {w w':World} {D:Nat} {S:Nat→Prop}
theorem FC {o:Obj}(hD:w.heap[D]? =some o)(hn:o.isCells=false){a:Addr}{v:Value}(h:w.cell? a=some v):a.block≠D:=fun e=>by
 obtain ⟨o',h1,h2⟩:=cells_of_cell h;rw [e,hD] at h1;injection h1 with h1;subst h1;rw [hn] at h2;cases h2
theorem kQ {o:Obj}(hD:w.heap[D]? =some o)(hn:o.isCells=false){ad:Addr}{es:List Value}{n k:Nat}(hl:es.length=n)(h0:0<n)(hc: ∀j v,es[j]? =some v→w.cell? (ad.add (k+j))=some v):ad.block≠D:=by
 obtain ⟨v,hv⟩: ∃v,es[0]? =some v:=⟨es[0],List.getElem?_eq_getElem (by omega)⟩;have:=FC hD hn (hc 0 v hv);rwa [dM] at this
theorem nv.cF {o:Obj}(hD:w.heap[D]? =some o)(hn:o.isCells=false): ∀{ns:List Nat} {vs ps:List Value},(∀n∈ns,0<n)→vs.length=ns.sum→nv S w ns vs ps→nv (fun b=>S b∧b≠D) w ns vs ps
 |[],_,[],_,_,_=>trivial
 |n::ns,vs,_::_,h0,hl,⟨⟨ad,e,hs,hc⟩,hr⟩=>by
  have h1:=h0 n List.mem_cons_self;simp only [List.sum_cons] at hl;refine ⟨⟨ad,e,⟨hs,kQ (k:=0) (n:=n) (es:=vs.take n) hD hn (by rw [List.length_take];omega) h1 fun j v hv=>by rw [Nat.zero_add];exact hc j v hv⟩,hc⟩,nv.cF hD hn (fun k hk=>h0 k (List.mem_cons_of_mem _ hk)) (by rw [List.length_drop];omega) hr⟩
 |[],_,_::_,_,_,h=>h.elim
 |_::_,_,[],_,_,h=>h.elim
theorem Ty.BL: ∀(t:Ty),t.rj.sum=t.size
 | .pair a b=>by simp [Ty.rj,Ty.size,Ty.BL b]
 | .st _=>by simp [Ty.rj]
 | .int _=>rfl
 | .cD _=>rfl
 | .bool=>rfl
 | .str=>rfl
 | .sl _=>rfl
 | .own _=>rfl
 | .bx _=>rfl
 | .cl _ _=>rfl
theorem Ty.BM: ∀(t:Ty),∀n∈t.rj,0<n
 | .pair a b,n,h=>by
  rcases List.mem_cons.1 h with rfl|h
  exact a.size_pos;exact Ty.BM b n h
 | .st t,n,h=>by rw [List.mem_singleton.1 h];exact (Ty.st t).size_pos
 | .int _,n,h=>by rw [List.mem_singleton.1 h];exact Nat.one_pos
 | .cD _,n,h=>by rw [List.mem_singleton.1 h];exact Nat.one_pos
 | .bool,n,h=>by rw [List.mem_singleton.1 h];exact Nat.one_pos
 | .str,n,h=>by rw [List.mem_singleton.1 h];exact Nat.one_pos
 | .sl _,n,h=>by rw [List.mem_singleton.1 h];exact Nat.one_pos
 | .own _,n,h=>by rw [List.mem_singleton.1 h];exact Nat.one_pos
 | .bx _,n,h=>by rw [List.mem_singleton.1 h];exact Nat.one_pos
 | .cl _ _,n,h=>by rw [List.mem_singleton.1 h];exact Nat.one_pos
theorem aR.cF {o:Obj}(hD:w.heap[D]? =some o)(hn:o.isCells=false): ∀(t:Ty) (cs:List Value) (x:t.D),aR S w t cs x→aR (fun b=>S b∧b≠D) w t cs x
 | .int _,_,_,hr=>hr
 | .cD _,_,_,hr=>hr
 | .bool,_,_,hr=>hr
 | .str,_,_,hr=>hr
 | .pair a b,_,x,⟨c1,c2,e,h1,h2⟩=>⟨c1,c2,e,aR.cF hD hn a c1 x.1 h1,aR.cF hD hn b c2 x.2 h2⟩
 | .st t,cs,x,hr=>aR.cF hD hn t cs x hr
 | .sl t,_,xs,⟨a,cap,e,hc,hr⟩=>⟨a,cap,e,hc,fun i hi=>by
  obtain ⟨ad,es,ea,hs,aM,bf⟩:=hr i hi;exact ⟨ad,es,ea,⟨hs,kQ hD hn (aR.len t es _ bf) t.size_pos aM⟩,aM,aR.cF hD hn t es _ bf⟩⟩
 | .own t,_,xs,⟨a,cap,e,hc,hr⟩=>⟨a,cap,e,hc,fun i hi=>by
  obtain ⟨ad,es,ea,hs,aM,bf⟩:=hr i hi;exact ⟨ad,es,ea,⟨hs,kQ hD hn (aR.len t es _ bf) t.size_pos aM⟩,aM,aR.cF hD hn t es _ bf⟩⟩
 | .cl f t,_,x,⟨vs,ps,e,hr,hp⟩=>⟨vs,ps,e,aR.cF hD hn t vs x hr,nv.cF hD hn t.BM (by rw [Ty.BL];exact aR.len t vs x hr) hp⟩
 | .bx t,_,xs,⟨ad,e,hr⟩=>⟨ad,e,fun i hi=>by
  obtain ⟨es,hs,aM,bf⟩:=hr i hi;exact ⟨es,⟨hs,kQ hD hn (aR.len t es _ bf) t.size_pos aM⟩,aM,aR.cF hD hn t es _ bf⟩⟩
variable {g:GM} {m:Mem}
theorem CR.cF {o:Obj}(hD:w.heap[D]? =some o)(hn:o.isCells=false){c:aq}{v:Value}(hr:CR g m S w c v):CR g m (fun b=>S b∧b≠D) w c v:=by
 cases c with
 |aB t x=>exact aR.cF hD hn t [v] x hr
 |ip t x off=>
  obtain ⟨ad,es,e,hs,aM,bf⟩:=hr;exact ⟨ad,es,e,⟨hs,kQ (k:=0) hD hn (aR.len t es _ bf) t.size_pos (fun j u hu=>by rw [Nat.zero_add];exact aM j u hu)⟩,aM,aR.cF hD hn t es x bf⟩
 |lK f t x=>
  obtain ⟨ad,es,e,hs,aM,bf⟩:=hr;exact ⟨ad,es,e,⟨hs,kQ (k:=0) hD hn (aR.len t es _ bf) t.size_pos (fun j u hu=>by rw [Nat.zero_add];exact aM j u hu)⟩,aM,aR.cF hD hn t es x bf⟩
 |cls=>exact hr
 |kG=>exact hr
 |yF f t x=>
  obtain ⟨ad,De,es,e,db,Bc,hs,aM,bf⟩:=hr;exact ⟨ad,De,es,e,⟨db,FC hD hn Bc⟩,Bc,⟨hs,kQ (k:=0) hD hn (aR.len t es _ bf) t.size_pos (fun j u hu=>by rw [Nat.zero_add];exact aM j u hu)⟩,aM,aR.cF hD hn t es x bf⟩
 |ptr=>exact hr
 |bT=>exact hr
 |all=>exact hr
 |ref=>exact hr
 |row=>exact hr
 |xS=>exact hr
 |az=>exact hr
 |fn=>exact hr
 |cV=>exact hr
 |bad=>trivial
theorem VR.cF {o:Obj}(hD:w.heap[D]? =some o)(hn:o.isCells=false): ∀{c:au} {v:Value},VR g m S w c v→VR g m (fun b=>S b∧b≠D) w c v
 | .one _,_,hr=>CR.cF hD hn hr
 | .agg _,_,⟨vs,e,hr⟩=>⟨vs,e,hr.mono fun _ _=>CR.cF hD hn⟩
 | .zq _,_,⟨vs,e,hr⟩=>⟨vs,e,hr.mono fun t v hc=>by
  unfold CV at hc⊢;split at hc;obtain ⟨us,e',hu⟩:=hc;exact ⟨us,e',hu.mono fun _ _=>CR.cF hD hn⟩;exact CR.cF hD hn hc;exact hc.elim⟩
 | .A9,_,h=>h
 | .cV,_,_=>trivial
theorem cf.cF {ob:Obj}(hD:w.heap[D]? =some ob)(hn:ob.isCells=false): ∀(t:Ty) {γ:List Nat→Option Nat} {o:Nat} {cs:List Value} {x:t.D},cf S w t γ o cs x→cf (fun b=>S b∧b≠D) w t γ o cs x
 | .own t,γ,o,cs,xs,⟨v,e,ha,hr⟩=>by
  refine ⟨v,e,ha,?_⟩;cases hg:γ [o] with
  |none=>rw [hg] at hr;exact hr
  |some b=>
   rw [hg] at hr;obtain ⟨arr,hb,hi⟩:=hr;exact ⟨arr,hb,fun i hl=>let ⟨es,h1,h2⟩:=hi i hl;⟨es,h1,cf.cF hD hn t h2⟩⟩
 | .pair a b,γ,o,cs,x,⟨c1,c2,e,h1,h2⟩=>⟨c1,c2,e,cf.cF hD hn a h1,cf.cF hD hn b h2⟩
 | .st t,γ,o,cs,x,hr=>cf.cF hD hn t (o:=o) (cs:=cs) (x:=x) hr
 | .int k,_,_,cs,x,hr=>aR.cF hD hn (.int k) cs x hr
 | .cD k,_,_,cs,x,hr=>aR.cF hD hn (.cD k) cs x hr
 | .bool,_,_,cs,x,hr=>aR.cF hD hn .bool cs x hr
 | .str,_,_,cs,x,hr=>aR.cF hD hn .str cs x hr
 | .sl t,_,_,cs,x,hr=>aR.cF hD hn (.sl t) cs x hr
 | .bx t,_,_,cs,x,hr=>aR.cF hD hn (.bx t) cs x hr
 | .cl f t,_,_,cs,x,hr=>aR.cF hD hn (.cl f t) cs x hr
theorem gU.cF {o:Obj}(hD:w.heap[D]? =some o)(hn:o.isCells=false){γ:List Nat→Option Nat}{ch:Chunk}(hr:gU g m S w γ ch):gU g m (fun b=>S b∧b≠D) w γ ch:=by
 cases ch with
 |gone=>trivial
 |box cs=>
  obtain ⟨b,arr,e,iT,hc⟩:=hr;exact ⟨b,arr,e,iT,hc.mono fun _ _=>CR.cF hD hn⟩
 |mp t u xs=>exact hr
 |n9 T e xs=>exact hr
 |gh cs vs=>exact ⟨hr.1,hr.2.mono fun _ _=>CR.cF hD hn⟩
 |seq t xs=>
  cases hγ:γ [] with
  |none=>simp only [gU,hγ] at hr⊢;exact hr
  |some b=>
   simp only [gU,hγ] at hr⊢;obtain ⟨arr,iT,he⟩:=hr;exact ⟨arr,iT,fun i hi=>let ⟨es,h1,h2⟩:=he i hi;⟨es,h1,cf.cF hD hn t h2⟩⟩
 |nu t xs i cs ks=>
  obtain ⟨E7,b,arr,e,iT,hi,hj,es,h1,h2,h3⟩:=hr;refine ⟨E7,b,arr,e,iT,hi,fun j hl cX=> ?_,es,h1,h2,h3.mono fun _ _=>CR.cF hD hn⟩;obtain ⟨es,k1,k2⟩:=hj j hl cX;exact ⟨es,k1,cf.cF hD hn t k2⟩
end
section
variable {cx:Cx} {g:GM} {st:St} {a:Act} {w w':World}
theorem bD.Ng {D:Nat}{o:Obj}(h:bD cx g st a w)(hD:w.heap[D]? =some o)(hn:o.isCells=false)(ve: ∀es ck,o≠ .map es ck)(hw:cx.w0.heap.size≤D)(YY:w'.os=w.os)(XM:w'.tape=w.tape)(YZ:w'.output=w.output)(cY:w.heap.size≤w'.heap.size)(hb: ∀b,b<w.heap.size→b≠D→w'.heap[b]? =w.heap[b]?){a':Act}(ht:a'.tmps=a.tmps)(hd:xT cx g st.mem w' a'.defers):bD cx g st a' w':=by
 have hDl:D<w.heap.size:=(Array.getElem?_eq_some_iff.1 hD).1;have cm: ∀b arr,cg w b arr→cg w' b arr:=fun b arr Sd=>Sd.ar (hb b Sd.lt (fun e=>by
  obtain ⟨T,lo,hi,h1,_⟩:=Sd;rw [e,hD] at h1;injection h1 with h1;subst h1;cases hn))
 have bS: ∀b,(cx.safe g st.mem w b∧b≠D)→cx.safe g st.mem w' b∧w'.heap[b]? =w.heap[b]? :=fun b ⟨⟨h1,h2,h3⟩,h4⟩=>⟨⟨Nat.lt_of_lt_of_le h1 cY,h2,h3⟩,hb b h1 h4⟩;have hJ:gq g g st.mem st.mem (fun b=>cx.safe g st.mem w b∧b≠D) (cx.safe g st.mem w') w w':={
  safe:=bS
  me:=fun c hc=>⟨hc,rfl⟩
  old:=fun c t xs _ hs=>⟨xs,hs,rfl⟩
  cg:=fun c t xs b arr _ _ _ iE=>⟨arr,cm b arr iE,rfl⟩
  Bb:=fun c _=>rfl
  rows:=fun c t bF _ hc=>⟨bF,hc,bu.refl _ _,fun i o b arr _ iE=>⟨arr,cm b arr iE,rfl⟩⟩}
 refine ⟨hd,by rw [ht];exact h.size,fun t v l0=>by rw [ht];exact VR.stays hJ (VR.cF hD hn (h.fr t v l0)),fun k ch hk=> ?_,h.eH,h.gp,fun k p ch b h1 h2 h3=>Nat.lt_of_lt_of_le (h.lt k p ch b h1 h2 h3) cY,?_,h.own,h.gl⟩;have bK:=gU.cF hD hn (h.mem k ch hk);revert bK;generalize hγ:g.f k=γ;intro bK;have lr: ∀(t:Ty) {γ:List Nat→Option Nat} {o:Nat} {cs:List Value} {x:t.D},cf (fun b=>cx.safe g st.mem w b∧b≠D) w t γ o cs x→cf (cx.safe g st.mem w') w' t γ o cs x:=by
  intro t;induction t with
  |own t ih=>
   intro γ o cs xs ⟨v,e,ha,hr⟩;refine ⟨v,e,ha.stays fun b arr _ iE=>⟨arr,cm b arr iE,rfl⟩,?_⟩;cases hg:γ [o] with
   |none=>rw [hg] at hr;exact hr
   |some b=>
    rw [hg] at hr;obtain ⟨arr,iE,hi⟩:=hr;exact ⟨arr,cm b arr iE,fun i hl=>let ⟨es,h1,h2⟩:=hi i hl;⟨es,h1,ih h2⟩⟩
  |pair a b Ob Lw=>exact fun ⟨c1,c2,e,h1,h2⟩=>⟨c1,c2,e,Ob h1,Lw h2⟩
  |st t ih=>exact fun {γ o cs x} hr=>ih (γ:=γ) (o:=o) (cs:=cs) (x:=x) hr
  |int k=>exact fun {γ o cs x} hr=>aR.ar bS (.int k) cs x hr
  |cD k=>exact fun {γ o cs x} hr=>aR.ar bS (.cD k) cs x hr
  |bool=>exact fun {γ o cs x} hr=>aR.ar bS .bool cs x hr
  |str=>exact fun {γ o cs x} hr=>aR.ar bS .str cs x hr
  |sl t _=>exact fun {γ o cs x} hr=>aR.ar bS (.sl t) cs x hr
  |bx t _=>exact fun {γ o cs x} hr=>aR.ar bS (.bx t) cs x hr
  |cl f t _=>exact fun {γ o cs x} hr=>aR.ar bS (.cl f t) cs x hr
 cases ch with
 |gone=>trivial
 |box cs=>
  obtain ⟨b,arr,e,iT,hc⟩:=bK;exact ⟨b,arr,e,cm b arr iT,hc.mono fun _ _=>CR.stays hJ⟩
 |mp t u xs=>
  obtain ⟨b,es,ck,e,Q5,hc⟩:=bK;exact ⟨b,es,ck,e,(hb b (Array.getElem?_eq_some_iff.1 Q5).1 (fun e=>by rw [e,hD] at Q5;injection Q5 with Q5;exact ve es ck Q5)).trans Q5,hc.mono fun _ _ ⟨k1,k2⟩=>⟨k1.ar,k2.ar⟩⟩
 |gh cs vs=>exact ⟨bK.1,bK.2.mono fun _ _=>CR.stays hJ⟩
 |n9 T e xs=>
  obtain ⟨h0,b,p,v,h1,h2,h3,h4⟩:=bK;have key: ∀(k:Nat) (o':Obj),w.heap[k]? =some o'→o'.isCells=true→w'.heap[k]? =w.heap[k]? :=fun k o' hk hc=>hb k (Array.getElem?_eq_some_iff.1 hk).1 (fun e=>by rw [e,hD] at hk;injection hk with hk;rw [hk,hc] at hn;cases hn);refine ⟨h0,b,p,v,h1,h2,(key b _ h3 rfl).trans h3,h4.ar fun g hg=> ?_⟩;unfold sG at h4;rw [hg] at h4;obtain ⟨cap,cur,_,q,_⟩:=h4;exact key g _ q rfl
 |seq t xs=>
  cases Se:γ [] with
  |none=>simp only [gU,Se] at bK⊢;exact bK
  |some b=>
   simp only [gU,Se] at bK⊢;obtain ⟨arr,iT,he⟩:=bK;exact ⟨arr,cm b arr iT,fun i hi=>let ⟨es,h1,h2⟩:=he i hi;⟨es,h1,lr t h2⟩⟩
 |nu t xs i cs ks=>
  obtain ⟨E7,b,arr,e,iT,hi,hj,es,h1,h2,h3⟩:=bK;refine ⟨E7,b,arr,e,cm b arr iT,hi,fun j hl cX=> ?_,es,h1,h2,h3.mono fun _ _=>CR.stays hJ⟩;obtain ⟨es,k1,k2⟩:=hj j hl cX;exact ⟨es,k1,lr t k2⟩
 refine ⟨YY.trans h.ar.os,XM.trans h.ar.tape,YZ.trans h.ar.output,Nat.le_trans h.ar.size cY,fun b h1 h2=> ?_,fun b arr Sd=> ?_⟩;rw [hb b (Nat.lt_of_lt_of_le h1 h.ar.size) (by omega)];exact h.ar.block b h1 h2;obtain ⟨aA,h1,h2⟩:=h.ar.sz b arr Sd;exact ⟨aA,cm b aA h1,h2⟩
theorem bD.grown {row:Option Nat}(h:bD cx g st a w)(hg:w.grownBy w' row)(hr: ∀r,row=some r→cx.w0.heap.size≤r∧ ∃o:Obj,w.heap[r]? =some o∧o.isCells=false∧(∀es ck,o≠ .map es ck)∧o≠ .deferred (some [])):bD cx g st a w':=by
 cases row with
 |some r=>
  obtain ⟨h1,o,h2,h3,ve,h4⟩:=hr r rfl;refine h.Ng h2 h3 ve h1 hg.os hg.tape hg.output hg.size (fun b hb cX=>hg.block b hb (fun e=>cX (by injection e))) rfl ?_;obtain ⟨h0,Ds,e,hn,hD⟩:=h.defers;refine ⟨h0,Ds,e,hn,fun D hm=> ?_⟩;obtain ⟨k1,k2,k3⟩:=hD D hm;refine ⟨(hg.block D (Array.getElem?_eq_some_iff.1 k1).1 (fun e=> ?_)).trans k1,k2,k3⟩;injection e with e;subst e;rw [h2] at k1;injection k1 with k1;exact h4 k1
 |none=>
  have k:aH [] w w':=⟨hg.os,hg.tape,hg.output,hg.size,fun b hb _=>hg.block b hb (fun e=>by cases e),fun b arr hb=>⟨arr,hb.ar (hg.block b hb.lt (fun e=>by cases e)),rfl⟩⟩;exact h.tV (nx':=st.nx) ⟨k,fun b hb=>by simp at hb,fun _ _=>rfl,fun k ch hk=> .inl ⟨hk,fun _ _ _ _ hb=>by simp at hb⟩,fun k ch hk dS=>by rw [hk] at dS;cases dS⟩
theorem bD.Ox (h:bD cx g st a w): ∃F':List Nat,(∀b,b∈F'↔Live g st.mem b)∧bD {cx with w0:=w,S:=cx.safe g st.mem w,F:=F'} g st {a with defers:=[]} w:=by
 obtain ⟨F',hF⟩: ∃F':List Nat,∀b,b∈F'↔Live g st.mem b:=by
  refine ⟨(List.range w.heap.size).filter fun b=> @decide (Live g st.mem b) (Classical.propDecidable _),fun b=> ?_⟩;rw [List.mem_filter];constructor;exact fun h=> @of_decide_eq_true _ (Classical.propDecidable _) h.2;rintro hl;obtain ⟨k,p,ch,h1,h2,h3⟩:=id hl;exact ⟨List.mem_range.2 (h.lt k p ch b h1 h2 h3),@decide_eq_true _ (Classical.propDecidable _) hl⟩
 refine ⟨F',hF,.nil,h.size,fun t v hl=> ?_,fun k ch hk=> ?_,h.eH,fun k p ch b h1 h2 h3=> .inr ((hF b).2 ⟨k,p,ch,h1,h2,h3⟩),h.lt,aH.refl _ _,h.own,h.Lf,fun b hb=>⟨hb.1,fun hm=>hb.2.2 ((hF b).1 hm)⟩⟩;exact VR.stays (gq.mono fun b hb=>⟨hb.1,fun _=>hb,hb.2.2⟩) (h.fr t v hl);exact gU.stays (gq.mono fun b hb=>⟨hb.1,fun _=>hb,hb.2.2⟩) (fun _ _ _ _=>rfl) (h.mem k ch hk)
theorem bD.Oy {g':GM}{st':St}{a':Act}{F':List Nat}(h:bD cx g st a w)(hF: ∀b,b∈F'↔Live g st.mem b)(h':bD {cx with w0:=w,S:=cx.safe g st.mem w,F:=F'} g' st' a' w')(hd:xT cx g' st'.mem w' a'.defers):bD cx g' st' a' w':=by
 have bS: ∀b,Cx.safe {cx with w0:=w,S:=cx.safe g st.mem w,F:=F'} g' st'.mem w' b→cx.safe g' st'.mem w' b:=fun b ⟨h1,h2,h3⟩=>⟨h1,fun hlt=>(h2 (Nat.lt_of_lt_of_le hlt h.ar.size)).2.1 hlt,h3⟩;refine ⟨hd,h'.size,fun t v hl=>VR.stays (gq.mono bS) (h'.fr t v hl),fun k ch hk=>gU.stays (gq.mono bS) (fun _ _ _ _=>rfl) (h'.mem k ch hk),h'.eH,fun k p ch b h1 h2 h3=> ?_,h'.lt,?_,h'.own,h.gl⟩;rcases h'.gp k p ch b h1 h2 h3 with hx|hx
 exact .inl (Nat.le_trans h.ar.size hx);obtain ⟨k0,p0,c0,q1,q2,q3⟩:=(hF b).1 hx;exact h.gp k0 p0 c0 b q1 q2 q3;refine ⟨h'.ar.os.trans h.ar.os,h'.ar.tape.trans h.ar.tape,h'.ar.output.trans h.ar.output,Nat.le_trans h.ar.size h'.ar.size,fun b hb hf=> ?_,
  fun b arr hb=>let ⟨arr1,h1,e1⟩:=h.ar.sz b arr hb;let ⟨mc,h2,e2⟩:=h'.ar.sz b arr1 h1;⟨mc,h2,e2.trans e1⟩⟩
 rw [h'.ar.block b (Nat.lt_of_lt_of_le hb h.ar.size) ?_];exact h.ar.block b hb hf;intro hm;obtain ⟨k0,p0,c0,q1,q2,q3⟩:=(hF b).1 hm;rcases h.gp k0 p0 c0 b q1 q2 q3 with hx|hx
 omega;exact hf hx
end
end Go.Ide
namespace Go.Ide
def toIV (t:Ty)(cs:List aq):au:=if t.rH then .agg cs else (match cs with|[c]=> .one c|_=> .cV)
def cB:List Arg→Nat→Nat→Fr×List Chunk
 |[],_,_=>([],[])
 | .bl t x::r,i,n=>((i,toIV t (fx t x))::(cB r (i+1) n).1,(cB r (i+1) n).2)
 | .gW t x::r,i,n=>((i,.one (.ip t x 0))::(cB r (i+1) n).1,(cB r (i+1) n).2)
 | .fn f::r,i,n=>((i,.one (.fn f))::(cB r (i+1) n).1,(cB r (i+1) n).2)
 | .lK f t x::r,i,n=>((i,.one (.lK f t x))::(cB r (i+1) n).1,(cB r (i+1) n).2)
 | .nl::r,i,n=>((i,.one .az)::(cB r (i+1) n).1,(cB r (i+1) n).2)
 | .mv t x::r,i,n=>
  ((i,toIV t (bH t x n).1)::(cB r (i+1) (n+(bH t x n).2.length)).1,(bH t x n).2++(cB r (i+1) (n+(bH t x n).2.length)).2)
 | .own t x::r,i,n=>
  ((i,toIV t (bH t x n).1)::(cB r (i+1) (n+(bH t x n).2.length)).1,(bH t x n).2++(cB r (i+1) (n+(bH t x n).2.length)).2)
def DN (j:Nat):List Nat→Bool
 |[]=>false
 |a::l=>Nat.beq j a||DN j l
theorem BN {j:Nat}: ∀{l:List Nat},DN j l=true↔j∈l
 |[]=>by simp [DN]
 |a::l=>by simp [DN,BN (l:=l)]
def eO:List Arg→Nat→List Nat
 |[],_=>[]
 | .own t x::r,n=>List.range' n (bH t x n).2.length++eO r (n+(bH t x n).2.length)
 | .mv t x::r,n=>eO r (n+(bH t x n).2.length)
 | .bl _ _::r,n=>eO r n
 | .gW _ _::r,n=>eO r n
 | .fn _::r,n=>eO r n
 | .lK _ _ _::r,n=>eO r n
 | .nl::r,n=>eO r n
def sE (args:List Arg):St:=⟨(cB args 0 0).1,aZ 0 (cB args 0 0).2,(cB args 0 0).2.length⟩
def BO (P:Program)(m:Mem)(fr:Fr):List ResultVar→Option (List au)
 |[]=>some []
 | .tmp t::r=>match lk t fr,BO P m fr r with
  |some v,some l=>some (v::l)
  |_,_=>none
 | .cell t T::r=>match lk t fr,BO P m fr r with
  |some (.one (.ptr c off)),some l=>(match oq P m T (.one (.ptr c off)) with
   |some e=>some (e.val::l)
   |none=>none)
  |_,_=>none
def DO (m:Mem):List (Bool×Ty)→List au→Option (List RV×List Nat)
 |[],[]=>some ([],[])
 |(fresh,t)::ts,v::vs=>match DO m ts vs with
  |some (rs,ks)=>if fresh then (match jA m t v,cJ m t v.cells with
   |some x,some (k,[])=>some (⟨true,t,x⟩::rs,k++ks)
   |_,_=>none) else (match jA [] t v with
   |some x=>some (⟨false,t,x⟩::rs,ks)
   |none=>none)
  |none=>none
 |_,_=>none
def eC (m:Mem):(t:Ty)→t.D→Nat→Option (t.D×Nat×List Prop)
 | .pair a b,x,n=>match eC m a x.1 n with
  |some (y,n1,c1)=>(match eC m b x.2 n1 with
   |some (z,n2,c2)=>some ((y,z),n2,c1++c2)
   |none=>none)
  |none=>none
 | .st t,x,n=>eC m t x n
 | .sl t,xs,n=>match lk n m with
  |some (.seq t' ys)=>if h:t'=t then some (bA (congrArg Ty.sl h) ys,n+1,bif t.top then [List.length ys=List.length xs] else [bu t xs (bA (a:= .sl t') (b:= .sl t) (congrArg Ty.sl h) ys)]) else none
  |_=>none
 | .own t,xs,n=>match lk n m with
  |some (.seq t' ys)=>if h:t'=t then some ((bA (a:= .sl t') (b:= .sl t) (congrArg Ty.sl h) ys:List t.D),n+1,bif t.top then [List.length ys=List.length xs] else [bu t xs (bA (a:= .sl t') (b:= .sl t) (congrArg Ty.sl h) ys)]) else none
  |_=>none
 | .bx t,xs,n=>match lk n m with
  |some (.seq t' ys)=>if h:t'=t then some ((bA (a:= .sl t') (b:= .sl t) (congrArg Ty.sl h) ys:List t.D),n+1,bif t.top then [List.length ys=List.length xs] else [bu t xs (bA (a:= .sl t') (b:= .sl t) (congrArg Ty.sl h) ys)]) else none
  |_=>none
 | .int _,x,n=>some (x,n,[])
 | .cD _,x,n=>some (x,n,[])
 | .bool,x,n=>some (x,n,[])
 | .str,x,n=>some (x,n,[])
 | .cl _ _,_,_=>none
def gM (m:Mem):List Arg→Nat→Option (List TD×List Prop)
 |[],_=>some ([],[])
 | .own t x::r,n=>match eC m t x n with
  |some (y,n1,c1)=>(match gM m r n1 with
   |some (l,c2)=>some (⟨t,y⟩::l,c1++c2)
   |none=>none)
  |none=>none
 | .mv t x::r,n=>gM m r (n+(bH t x n).2.length)
 | .bl _ _::r,n=>gM m r n
 | .gW _ _::r,n=>gM m r n
 | .fn _::r,n=>gM m r n
 | .lK _ _ _::r,n=>gM m r n
 | .nl::r,n=>gM m r n
def BP (P:Program)(fn:Func)(args:List Arg)(ts:List (Bool×Ty))(rs:List RV)(outs:List TD)(st:St):Prop:=
 ∃vs ks cs,BO P st.mem st.fr fn.results.toList=some vs∧DO st.mem ts vs=some (rs,ks)∧iX ks=true∧ks.all (fun k=> !(DN k (eO args 0)))=true∧gM st.mem args 0=some (outs,cs)∧aS cs
def Ip (P:Program)(fn:Func)(args:List Arg)(ts:List (Bool×Ty))(rs:List RV)(outs:List TD):Exit→St→Prop
 | .normal,st=>BP P fn args ts rs outs st
 | .ret,st=>BP P fn args ts rs outs st
 |_,_=>False
section
variable {S:Nat→Prop} {w:World}
theorem toIV_VR {g:GM}{m:Mem}{t:Ty}{cs:List Value}{kI:List aq}{v:Value}(h:cE t cs v)(ha:aK (CR g m S w) kI cs):VR g m S w (toIV t kI) v:=by
 unfold cE at h;unfold toIV;split;rename_i hJ;rw [if_pos hJ] at h;exact ⟨cs,h,ha⟩;rename_i hJ;rw [if_neg hJ] at h;subst h;cases kI with
 |nil=>exact ha.elim
 |cons c r=>
  cases r with
  |nil=>exact ha.1
  |cons=>exact ha.2.elim
theorem ug {S2:Nat→Prop}(hS: ∀b,S b→S2 b): ∀{args:List Arg} {vals:List Value} {As:List (List (List Nat→Option Nat))} (i n:Nat),nz S w args vals As→As.flatten.length=(cB args i n).2.length∧nz S2 w args vals As∧
 ∀(g':GM) (m':Mem),(∀j ch,(cB args i n).2[j]? =some ch→lk (n+j) m'=some ch)→(∀j o,As.flatten[j]? =some o→g'.f (n+j)=o)→
  (∀t v,lk t (cB args i n).1=some v→i≤t∧ ∃u,vals[t - i]? =some u∧VR g' m' S2 w v u)∧Laid g' m' S2 w n (cB args i n).2 As.flatten
 |[],[],[],i,n,_=>⟨rfl,trivial,fun g' m' _ _=>⟨fun t v h=>by simp [cB,eB] at h,rfl,fun j ch hj=>by simp [cB] at hj⟩⟩
 |arg::args,v::vals,F::Fs,i,n,⟨h1,h2⟩=>by
  have plain: ∀(iv:au),F=[]→cB (arg::args) i n=((i,iv)::(cB args (i+1) n).1,(cB args (i+1) n).2)→(∀(g':GM) (m':Mem),VR g' m' S2 w iv v)→xZ S2 w arg v F→
   (F::Fs).flatten.length=(cB (arg::args) i n).2.length∧nz S2 w (arg::args) (v::vals) (F::Fs)∧
   ∀(g':GM) (m':Mem),(∀j ch,(cB (arg::args) i n).2[j]? =some ch→lk (n+j) m'=some ch)→(∀j o,(F::Fs).flatten[j]? =some o→g'.f (n+j)=o)→
    (∀t u,lk t (cB (arg::args) i n).1=some u→i≤t∧ ∃x,(v::vals)[t - i]? =some x∧VR g' m' S2 w u x)∧Laid g' m' S2 w n (cB (arg::args) i n).2 (F::Fs).flatten:=by
   intro iv hF he hv hA;obtain ⟨k1,k2,k3⟩:=ug hS (i+1) n h2;have Y0:(F::Fs).flatten=Fs.flatten:=by rw [hF];rfl
   rw [Y0];refine ⟨by rw [he];exact k1,⟨hA,k2⟩,fun g' m' hm hg=> ?_⟩;rw [he] at hm⊢;obtain ⟨q1,q2⟩:=k3 g' m' hm hg;refine ⟨fun t u hl=> ?_,q2⟩;simp only at hl;rw [aw] at hl;split at hl;rename_i e;subst e;injection hl with hl;subst hl;exact ⟨Nat.le_refl _,v,by simp,hv g' m'⟩;obtain ⟨a1,x,a2,a3⟩:=q1 t u hl;refine ⟨by omega,x,?_,a3⟩;rw [show t - i=(t - (i+1))+1 from by omega];simpa using a2
  have owned: ∀(t:Ty) (x:t.D),cB (arg::args) i n=((i,toIV t (bH t x n).1)::(cB args (i+1) (n+(bH t x n).2.length)).1,(bH t x n).2++(cB args (i+1) (n+(bH t x n).2.length)).2)→
   (∃cs,cE t cs v∧cy S w t cs x F)→((∃cs,cE t cs v∧cy S2 w t cs x F)→xZ S2 w arg v F)→
   (F::Fs).flatten.length=(cB (arg::args) i n).2.length∧nz S2 w (arg::args) (v::vals) (F::Fs)∧
   ∀(g':GM) (m':Mem),(∀j ch,(cB (arg::args) i n).2[j]? =some ch→lk (n+j) m'=some ch)→(∀j o,(F::Fs).flatten[j]? =some o→g'.f (n+j)=o)→
    (∀t u,lk t (cB (arg::args) i n).1=some u→i≤t∧ ∃x,(v::vals)[t - i]? =some x∧VR g' m' S2 w u x)∧Laid g' m' S2 w n (cB (arg::args) i n).2 (F::Fs).flatten:=by
   intro t x he ⟨cs,hv,ho⟩ hA;have ho:=cy.mono hS t ho;obtain ⟨l2,b2,k2⟩:=ug hS (i+1) (n+(bH t x n).2.length) h2;have l1:F.length=(bH t x n).2.length:=by rw [dL,cy.rQ t ho]
   rw [List.flatten_cons];refine ⟨by rw [he];simp only [List.length_append,l1,l2],⟨hA ⟨cs,hv,ho⟩,b2⟩,fun g' m' hm hg=> ?_⟩;rw [he] at hm⊢;obtain ⟨p1,q1⟩:=oy t n ho g' m' (fun j ch hj=>hm j ch (by
    simp only;rw [List.getElem?_append_left (List.getElem?_eq_some_iff.1 hj).1];exact hj)) (fun j o hj=>hg j o (by
    rw [List.getElem?_append_left (List.getElem?_eq_some_iff.1 hj).1];exact hj))
   obtain ⟨p2,q2⟩:=k2 g' m' (fun j ch hj=>by
    rw [Nat.add_assoc];refine hm _ ch ?_;simp only;rw [List.getElem?_append_right (by omega)];simpa using hj) (fun j o hj=>by
    rw [Nat.add_assoc];refine hg _ o ?_;rw [List.getElem?_append_right (by omega),l1];simpa using hj)
   refine ⟨fun t' u hl=> ?_,q1.app q2⟩;simp only at hl;rw [aw] at hl;split at hl;rename_i e;subst e;injection hl with hl;subst hl;exact ⟨Nat.le_refl _,v,by simp,toIV_VR hv p1⟩;obtain ⟨a1,x,a2,a3⟩:=p2 t' u hl;refine ⟨by omega,x,?_,a3⟩;rw [show t' - i=(t' - (i+1))+1 from by omega];simpa using a2
  cases arg with
  |bl t x=>
   obtain ⟨hF,cs,hv,hr⟩:=h1;have Hv:=aR.ar (fun b hb=>⟨hS b hb,rfl⟩) t cs x hr;exact plain _ hF rfl (fun g' m'=>toIV_VR hv (jY t Hv)) ⟨hF,cs,hv,Hv⟩
  |gW t x=>
   obtain ⟨hF,ad,es,e,hs,aM,hr⟩:=h1;have Hv:=aR.ar (fun b hb=>⟨hS b hb,rfl⟩) t es x hr;exact plain _ hF rfl (fun g' m'=>⟨ad,es,by rw [e];simp [Addr.add],hS _ hs,aM,Hv⟩) ⟨hF,ad,es,e,hS _ hs,aM,Hv⟩
  |fn f=>
   obtain ⟨hF,e⟩:=h1;exact plain _ hF rfl (fun g' m'=>e) ⟨hF,e⟩
  |lK f t x=>
   obtain ⟨hF,ad,es,e,hs,aM,hr⟩:=h1;have Hv:=aR.ar (fun b hb=>⟨hS b hb,rfl⟩) t es x hr;exact plain _ hF rfl (fun g' m'=>⟨ad,es,e,hS _ hs,aM,Hv⟩) ⟨hF,ad,es,e,hS _ hs,aM,Hv⟩
  |nl=>
   obtain ⟨hF,e⟩:=h1;exact plain _ hF rfl (fun g' m'=>e) ⟨hF,e⟩
  |own t x=>exact owned t x rfl h1 fun h=>h
  |mv t x=>exact owned t x rfl h1 fun h=>h
 |[],[],_::_,_,_,h=>h.elim
 |[],_::_,_,_,_,h=>h.elim
 |_::_,[],_,_,_,h=>h.elim
 |_::_,_::_,[],_,_,h=>h.elim
end
section
variable {cx:Cx} {g:GM} {st:St} {a:Act} {w:World}
def GI (tmps:Array Value):ResultVar→Sem Value
 | .tmp t=>pure (tmps.getD t undef)
 | .cell x t=>do loadVar t (←asAddr (tmps.getD x undef))
theorem wG (h:bD cx g st a w): ∀{rl:List ResultVar} {vs:List au},BO cx.P st.mem st.fr rl=some vs→
 ∃vals:List Value,(rl.mapM (GI a.tmps)).run cx.P w= .ok vals w∧aK (VR g st.mem (cx.safe g st.mem w) w) vs vals
 |[],vs,he=>by simp only [BO] at he;injection he with he;subst he;exact ⟨[],rfl,trivial⟩
 | .tmp t::rl,vs,he=>by
  simp only [BO] at he;split at he;rename_i v l hv hl;injection he with he;subst he;obtain ⟨vals,h1,h2⟩:=wG h hl;exact ⟨a.tmps.getD t undef::vals,by simp [List.mapM_cons,GI,h1],h.fr t v hv,h2⟩;cases he
 | .cell t T::rl,vs,he=>by
  simp only [BO] at he;split at he;rename_i c off l hv hl;split at he;rename_i e wh;injection he with he;subst he;obtain ⟨vals,h1,h2⟩:=wG h hl;have xR:=h.fr t _ hv;have fy:e.cond=[]:=by
   unfold oq at wh;split at wh;rename_i e1 _ _;cases e1;rename_i e1 _ _;cases e1;split at wh;split at wh;unfold bn at wh;injection wh with wh;rw [←wh]
   cases wh;cases wh;cases wh
  obtain ⟨_,_,r,h3,h4⟩:=pQ h.mem wh (by rw [fy];trivial) xR;obtain ⟨_,b,_,e1⟩:=xR;rw [e1] at h3;simp only [Instr.loadAt,Instr.sureAddr,Sem.run_bind,Sem.run_pure,Result.andThen_ok] at h3;exact ⟨r::vals,by simp [List.mapM_cons,GI,e1,asAddr,h3,h1],h4,h2⟩;cases he;cases he
theorem Iq (hm:jk g st.mem (cx.safe g st.mem w) w){t:Ty}{v:au}{x:t.D}{ks:List Nat}{u:Value}(hx:jA st.mem t v=some x)(hk:cJ st.mem t v.cells=some (ks,[]))(hv:VR g st.mem (cx.safe g st.mem w) w v u):
 ∃cs A,cE t cs u∧cy (cx.safe g st.mem w) w t cs x A∧jl g st.mem ks A:=by
 have iY: ∃vcs,cE t vcs u∧aK (CR g st.mem (cx.safe g st.mem w) w) v.cells vcs∧impl st.mem t v.cells=some (x,[]):=by
  unfold jA at hx;split at hx;rename_i c hJ;split at hx;rename_i y hy;injection hx with hx;subst hx;exact ⟨[u],by simp [cE,hJ],⟨hv,trivial⟩,hy⟩;cases hx;rename_i cs hJ;split at hx;rename_i y hy;injection hx with hx;subst hx;obtain ⟨Bp,e,gL⟩:=hv;exact ⟨Bp,by simp [cE,hJ,e],gL,hy⟩;cases hx;cases hx
 obtain ⟨vcs,hval,aP,himp⟩:=iY;obtain ⟨v1,v2,A,e1,o1,a1,q1,s1,_⟩:=zL hm (fun _ h=>h) t himp hk aP;have:v2=[]:=by cases v2 with|nil=>rfl|cons=>exact a1.elim
 subst this;rw [List.append_nil] at e1;subst e1;exact ⟨vcs,A,hval,o1,s1⟩
theorem BQ (h:bD cx g st a w): ∀{ts:List (Bool×Ty)} {vs:List au} {vals:List Value} {rs:List RV} {ks:List Nat},DO st.mem ts vs=some (rs,ks)→aK (VR g st.mem (cx.safe g st.mem w) w) vs vals→
 ∃A,lL (cx.safe g st.mem w) w rs vals A∧jl g st.mem ks A
 |[],[],vals,rs,ks,he,hv=>by
  simp only [DO] at he;injection he with he;injection he with e1 e2;subst e1;subst e2;cases vals with
  |nil=>exact ⟨[],rfl,jl.nil⟩
  |cons=>exact hv.elim
 |(fresh,t)::ts,v::vs,[],rs,ks,he,hv=>hv.elim
 |(fresh,t)::ts,v::vs,u::vals,rs,ks,he,hv=>by
  simp only [DO] at he;split at he;rename_i Y1 QW h1;obtain ⟨A,k1,k2⟩:=BQ h h1 hv.2;split at he;rename_i hf;split at he;rename_i x k hx hk;injection he with he;injection he with e1 e2;subst e1;subst e2;obtain ⟨cs,A1,q1,q2,q3⟩:=Iq h.mem hx hk hv.1;refine ⟨A1++A,⟨A1,A,rfl,?_,k1⟩,q3.app k2⟩;unfold wc;rw [if_pos rfl];exact ⟨cs,q1,q2⟩;cases he;rename_i hf;split at he;rename_i x hx;injection he with he;injection he with e1 e2;subst e1;subst e2;obtain ⟨cs,q1,q2⟩:=mF (S2:=cx.safe g st.mem w) (fun _ h=>h) gr.nil hx hv.1;refine ⟨A,⟨[],A,rfl,?_,k1⟩,k2⟩;unfold wc;rw [if_neg (by simp)];exact ⟨rfl,cs,q1,q2⟩;cases he;cases he
 |[],_::_,_,_,_,he,_=>by simp [DO] at he
 |_::_,[],_,_,_,he,_=>by cases he
end
theorem BR {S S':Nat→Prop}{w0 w:World}{g:GM}{m:Mem}(hm:jk g m S' w)(hk: ∀b arr,cg w0 b arr→ ∃aA,cg w b aA∧aA.size=arr.size){t:Ty}{cs:List Value}{xs ys:List t.D}{A:List (List Nat→Option Nat)}{n:Nat}(ho:eI S w0 t cs xs A)(hl:lk n m=some (.seq t ys))(hc:aS (bif t.top then [List.length ys=List.length xs] else [bu t xs ys]))(h3: ∀j o,A[j]? =some o→g.f (n+j)=o):A.length=1∧eI S' w t cs ys A∧bu t xs ys:=by
 have hsh:bu t xs ys:=by
  cases ht:t.top with
  |true=>rw [ht] at hc;exact bu.top ht hc.1.symm
  |false=>rw [ht] at hc;exact hc.1
 have hlen:ys.length=xs.length:=hsh.1.symm;have bK:=hm n _ hl;rcases ho with ⟨hF,hx,a,e⟩|⟨v,γ,hF,e,b,cap,arr,h0,ev,q1,q2,q3,q4,q5,q6⟩
 subst hF;refine ⟨rfl,.inl ⟨rfl,?_,a,e⟩,hsh⟩;rw [hx] at hlen;exact List.eq_nil_of_length_eq_zero hlen;subst hF;have hg:=h3 0 γ rfl;rw [Nat.add_zero] at hg;unfold gU at bK;rw [hg,h0] at bK;obtain ⟨aA,r1,r2⟩:=bK;obtain ⟨mc,s1,s2⟩:=hk b arr q3;have:=s1.eq r1;subst this;exact ⟨rfl,.inr ⟨v,γ,rfl,e,b,cap,mc,h0,by rw [hlen];exact ev,by rw [hlen];exact q1,q2,r1,by rw [s2];exact q4,q5,r2⟩,hsh⟩
theorem Ir {S S':Nat→Prop}{w0 w:World}{g:GM}{m:Mem}(hm:jk g m S' w)(hk: ∀b arr,cg w0 b arr→ ∃aA,cg w b aA∧aA.size=arr.size){t:Ty}{cs:List Value}{xs ys:List t.D}{A:List (List Nat→Option Nat)}{n:Nat}(ho:yL S w0 t cs xs A)(hl:lk n m=some (.seq t ys))(hc:aS (bif t.top then [List.length ys=List.length xs] else [bu t xs ys]))(h3: ∀j o,A[j]? =some o→g.f (n+j)=o):A.length=1∧yL S' w t cs ys A∧bu t xs ys:=by
 have hsh:bu t xs ys:=by
  cases ht:t.top with
  |true=>rw [ht] at hc;exact bu.top ht hc.1.symm
  |false=>rw [ht] at hc;exact hc.1
 have bK:=hm n _ hl;obtain ⟨γ,b,arr,hF,e,h0,q3,q6⟩:=ho;subst hF;have hg:=h3 0 γ rfl;rw [Nat.add_zero] at hg;unfold gU at bK;rw [hg,h0] at bK;obtain ⟨aA,r1,r2⟩:=bK;exact ⟨rfl,⟨γ,b,aA,rfl,e,h0,r1,r2⟩,hsh⟩
theorem pa {S S':Nat→Prop}{w0 w:World}{g:GM}{m:Mem}(hm:jk g m S' w)(hk: ∀b arr,cg w0 b arr→ ∃aA,cg w b aA∧aA.size=arr.size): ∀(t:Ty) {cs:List Value} {x y:t.D} {A:List (List Nat→Option Nat)} {n n':Nat} {cd:List Prop},
 cy S w0 t cs x A→eC m t x n=some (y,n',cd)→aS cd→(∀j o,A[j]? =some o→g.f (n+j)=o)→n'=n+A.length∧cy S' w t cs y A∧rP t x y
 | .int k,cs,x,y,A,n,n',cd,⟨hF,hr⟩,h,hc,h3=>by simp only [eC] at h;injection h with h;injection h with e1 h;injection h with e2 e3;subst e1;subst e2;subst hF;exact ⟨rfl,⟨rfl,hr⟩,trivial⟩
 | .cD k,cs,x,y,A,n,n',cd,⟨hF,hr⟩,h,hc,h3=>by simp only [eC] at h;injection h with h;injection h with e1 h;injection h with e2 e3;subst e1;subst e2;subst hF;exact ⟨rfl,⟨rfl,hr⟩,trivial⟩
 | .bool,cs,x,y,A,n,n',cd,⟨hF,hr⟩,h,hc,h3=>by simp only [eC] at h;injection h with h;injection h with e1 h;injection h with e2 e3;subst e1;subst e2;subst hF;exact ⟨rfl,⟨rfl,hr⟩,trivial⟩
 | .str,cs,x,y,A,n,n',cd,⟨hF,hr⟩,h,hc,h3=>by simp only [eC] at h;injection h with h;injection h with e1 h;injection h with e2 e3;subst e1;subst e2;subst hF;exact ⟨rfl,⟨rfl,hr⟩,trivial⟩
 | .st t,cs,x,y,A,n,n',cd,ho,h,hc,h3=>pa hm hk t (cs:=cs) (x:=x) (y:=y) ho h hc h3
 | .pair a b,cs,x,y,A,n,n',cd,⟨c1,c2,A1,A2,e1,e2,o1,o2⟩,h,hc,h3=>by
  subst e2;simp only [eC] at h;split at h;rename_i y1 n1 cd1 Y2;split at h;rename_i y2 n2 cd2 Y3;injection h with h;injection h with k1 h;injection h with k2 k3;subst k1;subst k2;subst k3;obtain ⟨A5,bQ⟩:=hc.append;obtain ⟨r1,r2,r5⟩:=pa hm hk a o1 Y2 A5 (fun j o hj=>h3 j o (by rw [List.getElem?_append_left (List.getElem?_eq_some_iff.1 hj).1];exact hj));subst r1;obtain ⟨r3,r4,r6⟩:=pa hm hk b o2 Y3 bQ (fun j o hj=>by
   rw [Nat.add_assoc];refine h3 _ o ?_;rw [List.getElem?_append_right (by omega)];simpa using hj)
  exact ⟨by rw [r3,List.length_append];omega,⟨c1,c2,A1,A2,e1,rfl,r2,r4⟩,r5,r6⟩;cases h;cases h
 | .sl t,cs,xs,y,A,n,n',cd,ho,h,hc,h3=>by
  simp only [eC] at h;split at h;rename_i t' ys hl;split at h;rename_i he;subst he;injection h with h;injection h with k1 h;injection h with k2 k3;subst k1;subst k2;subst k3;obtain ⟨r1,r2,r3⟩:=BR hm hk ho hl hc h3;exact ⟨by rw [r1],r2,r3⟩;cases h;cases h
 | .own t,cs,xs,y,A,n,n',cd,ho,h,hc,h3=>by
  simp only [eC] at h;split at h;rename_i t' ys hl;split at h;rename_i he;subst he;injection h with h;injection h with k1 h;injection h with k2 k3;subst k1;subst k2;subst k3;obtain ⟨r1,r2,r3⟩:=BR hm hk ho hl hc h3;exact ⟨by rw [r1],r2,r3⟩;cases h;cases h
 | .cl _ _,_,_,_,_,_,_,_,_,h,_,_=>by cases h
 | .bx t,cs,xs,y,A,n,n',cd,ho,h,hc,h3=>by
  simp only [eC] at h;split at h;rename_i t' ys hl;split at h;rename_i he;subst he;injection h with h;injection h with k1 h;injection h with k2 k3;subst k1;subst k2;subst k3;obtain ⟨r1,r2,r3⟩:=Ir hm hk ho hl hc h3;exact ⟨by rw [r1],r2,r3⟩;cases h;cases h
theorem fX {S S':Nat→Prop}{w0 w:World}{g:GM}{m:Mem}(hm:jk g m S' w)(hk: ∀b arr,cg w0 b arr→ ∃aA,cg w b aA∧aA.size=arr.size): ∀{args:List Arg} {vals:List Value} {As:List (List (List Nat→Option Nat))} {n:Nat} {outs:List TD} {cd:List Prop},
 nz S w0 args vals As→gM m args n=some (outs,cd)→aS cd→(∀j o,As.flatten[j]? =some o→n+j∈eO args n→g.f (n+j)=o)→fV S' w args vals As outs
 |[],[],[],n,outs,cd,_,h,_,_=>by
  simp only [gM] at h;injection h with h;injection h with e1 e2;subst e1;trivial
 | .bl t x::as,v::vs,F::Fs,n,outs,cd,ha,h,hc,h3=>fX hm hk (args:=as) (vals:=vs) (As:=Fs) ha.2 h hc (by have e:F=[]:=ha.1.1;rw [e] at h3;exact h3)
 | .gW t x::as,v::vs,F::Fs,n,outs,cd,ha,h,hc,h3=>fX hm hk (args:=as) (vals:=vs) (As:=Fs) ha.2 h hc (by have e:F=[]:=ha.1.1;rw [e] at h3;exact h3)
 | .fn f::as,v::vs,F::Fs,n,outs,cd,ha,h,hc,h3=>fX hm hk (args:=as) (vals:=vs) (As:=Fs) ha.2 h hc (by have e:F=[]:=ha.1.1;rw [e] at h3;exact h3)
 | .lK f t x::as,v::vs,F::Fs,n,outs,cd,ha,h,hc,h3=>fX hm hk (args:=as) (vals:=vs) (As:=Fs) ha.2 h hc (by have e:F=[]:=ha.1.1;rw [e] at h3;exact h3)
 | .nl::as,v::vs,F::Fs,n,outs,cd,ha,h,hc,h3=>fX hm hk (args:=as) (vals:=vs) (As:=Fs) ha.2 h hc (by have e:F=[]:=ha.1.1;rw [e] at h3;exact h3)
 | .mv t x::as,v::vs,F::Fs,n,outs,cd,⟨⟨cs,hv,ho⟩,ha⟩,h,hc,h3=>by
  have hl:F.length=(bH t x n).2.length:=by rw [dL,cy.rQ t ho]
  refine fX hm hk (args:=as) (vals:=vs) (As:=Fs) (n:=n+(bH t x n).2.length) ha h hc fun j o hj oZ=> ?_;rw [Nat.add_assoc] at oZ⊢;refine h3 _ o ?_ oZ;rw [List.flatten_cons,List.getElem?_append_right (by omega),hl];simpa using hj
 | .own t x::as,v::vs,F::Fs,n,outs,cd,⟨⟨cs,hv,ho⟩,ha⟩,h,hc,h3=>by
  simp only [gM] at h;split at h;rename_i y n1 c1 hy;split at h;rename_i l c2 hl;injection h with h;injection h with k1 k2;subst k1;subst k2;obtain ⟨A5,bQ⟩:=hc.append;have hlen:F.length=(bH t x n).2.length:=by rw [dL,cy.rQ t ho]
  obtain ⟨r1,r2,r3⟩:=pa hm hk t ho hy A5 (fun j o hj=>h3 j o (by rw [List.flatten_cons,List.getElem?_append_left (List.getElem?_eq_some_iff.1 hj).1];exact hj) (by
   have:=(List.getElem?_eq_some_iff.1 hj).1;simp only [eO,List.mem_append,List.mem_range'_1];left;omega))
  subst r1;have:=fX hm hk ha hl bQ (fun j o hj oZ=>by
   rw [Nat.add_assoc] at oZ⊢;refine h3 _ o ?_ ?_;rw [List.flatten_cons,List.getElem?_append_right (by omega)];simpa using hj;simp only [eO,List.mem_append];right;rw [←hlen];exact oZ)
  exact ⟨⟨rfl,cs,hv,r2,r3⟩,this⟩;cases h;cases h
theorem iJ {S:Nat→Prop}{w:World}: ∀{args:List Arg} {vals:List Value} {As:List (List (List Nat→Option Nat))} (n:Nat),nz S w args vals As→ ∀j γ p b,As.flatten[j]? =some γ→γ p=some b→n+j∈eO args n∨tQ b args As
 |[],[],[],n,h,j,γ,p,b,hj,_=>by simp at hj
 | .bl _ _::as,_::vs,F::Fs,n,h,j,γ,p,b,hj,hp=>by have e:F=[]:=h.1.1;subst e;exact iJ (args:=as) (vals:=vs) (As:=Fs) n h.2 j γ p b hj hp
 | .gW _ _::as,_::vs,F::Fs,n,h,j,γ,p,b,hj,hp=>by have e:F=[]:=h.1.1;subst e;exact iJ (args:=as) (vals:=vs) (As:=Fs) n h.2 j γ p b hj hp
 | .fn _::as,_::vs,F::Fs,n,h,j,γ,p,b,hj,hp=>by have e:F=[]:=h.1.1;subst e;exact iJ (args:=as) (vals:=vs) (As:=Fs) n h.2 j γ p b hj hp
 | .lK _ _ _::as,_::vs,F::Fs,n,h,j,γ,p,b,hj,hp=>by have e:F=[]:=h.1.1;subst e;exact iJ (args:=as) (vals:=vs) (As:=Fs) n h.2 j γ p b hj hp
 | .nl::as,_::vs,F::Fs,n,h,j,γ,p,b,hj,hp=>by have e:F=[]:=h.1.1;subst e;exact iJ (args:=as) (vals:=vs) (As:=Fs) n h.2 j γ p b hj hp
 | .mv t x::as,v::vs,F::Fs,n,⟨⟨cs,hv,ho⟩,ha⟩,j,γ,p,b,hj,hp=>by
  have hl:F.length=(bH t x n).2.length:=by rw [dL,cy.rQ t ho]
  rw [List.flatten_cons] at hj;by_cases hlt:j<F.length;rw [List.getElem?_append_left hlt] at hj;exact .inr (.inl ⟨γ,List.mem_of_getElem? hj,p,hp⟩);rw [List.getElem?_append_right (by omega)] at hj;rcases iJ (args:=as) (vals:=vs) (As:=Fs) (n+(bH t x n).2.length) ha _ γ p b hj hp with h|h
  left;simp only [eO];rwa [show n+(bH t x n).2.length+(j - F.length)=n+j by omega] at h;exact .inr (.inr h)
 | .own t x::as,v::vs,F::Fs,n,⟨⟨cs,hv,ho⟩,ha⟩,j,γ,p,b,hj,hp=>by
  have hl:F.length=(bH t x n).2.length:=by rw [dL,cy.rQ t ho]
  rw [List.flatten_cons] at hj;by_cases hlt:j<F.length;left;simp only [eO,List.mem_append,List.mem_range'_1];left;omega;rw [List.getElem?_append_right (by omega)] at hj;rcases iJ (args:=as) (vals:=vs) (As:=Fs) (n+(bH t x n).2.length) ha _ γ p b hj hp with h|h
  left;simp only [eO,List.mem_append];right;rwa [show n+(bH t x n).2.length+(j - F.length)=n+j by omega] at h;exact .inr h
theorem pb {m:Mem}: ∀(t:Ty) {x y:t.D} {n n':Nat} {cd:List Prop},eC m t x n=some (y,n',cd)→n'=n+(bH t x n).2.length∧ ∀k,n≤k→k<n'→ ∃t ys,lk k m=some (.seq t ys)
 | .int _,_,_,_,_,_,h=>by simp only [eC] at h;injection h with h;injection h with _ h;injection h with h _;subst h;exact ⟨rfl,fun k h1 h2=>by omega⟩
 | .cD _,_,_,_,_,_,h=>by simp only [eC] at h;injection h with h;injection h with _ h;injection h with h _;subst h;exact ⟨rfl,fun k h1 h2=>by omega⟩
 | .bool,_,_,_,_,_,h=>by simp only [eC] at h;injection h with h;injection h with _ h;injection h with h _;subst h;exact ⟨rfl,fun k h1 h2=>by omega⟩
 | .str,_,_,_,_,_,h=>by simp only [eC] at h;injection h with h;injection h with _ h;injection h with h _;subst h;exact ⟨rfl,fun k h1 h2=>by omega⟩
 | .cl _ _,_,_,_,_,_,h=>by cases h
 | .st t,x,y,_,_,_,h=>pb t (x:=x) (y:=y) h
 | .pair a b,x,_,n,n',cd,h=>by
  simp only [eC] at h;split at h;rename_i y1 n1 c1 h1;split at h;rename_i z1 n2 c2 h2;injection h with h;injection h with _ h;injection h with h _
  subst h;obtain ⟨e1,k1⟩:=pb a h1;obtain ⟨e2,k2⟩:=pb b h2;subst e1;refine ⟨by rw [e2];simp [bH,Nat.add_assoc],fun k h1 h2=> ?_⟩;by_cases hlt:k<n+(bH a x.1 n).2.length;exact k1 k h1 hlt;exact k2 k (by omega) h2;cases h;cases h
 | .sl t,xs,_,n,n',cd,h=>by
  simp only [eC] at h;split at h;rename_i t' ys hl;split at h;injection h with h;injection h with _ h;injection h with h _
  subst h;refine ⟨rfl,fun k h1 h2=> ?_⟩;have:k=n:=by omega
  subst this;exact ⟨_,_,hl⟩;cases h;cases h
 | .own t,xs,_,n,n',cd,h=>by
  simp only [eC] at h;split at h;rename_i t' ys hl;split at h;injection h with h;injection h with _ h;injection h with h _
  subst h;refine ⟨rfl,fun k h1 h2=> ?_⟩;have:k=n:=by omega
  subst this;exact ⟨_,_,hl⟩;cases h;cases h
 | .bx t,xs,_,n,n',cd,h=>by
  simp only [eC] at h;split at h;rename_i t' ys hl;split at h;injection h with h;injection h with _ h;injection h with h _
  subst h;refine ⟨rfl,fun k h1 h2=> ?_⟩;have:k=n:=by omega
  subst this;exact ⟨_,_,hl⟩;cases h;cases h
theorem fY {m:Mem}: ∀{args:List Arg} {n:Nat} {outs:List TD} {cd:List Prop},gM m args n=some (outs,cd)→ ∀k,k∈eO args n→ ∃t ys,lk k m=some (.seq t ys)
 |[],_,_,_,_,k,hk=>by simp [eO] at hk
 | .bl _ _::as,n,outs,cd,h,k,hk=>fY (args:=as) (n:=n) (outs:=outs) (cd:=cd) h k hk
 | .gW _ _::as,n,outs,cd,h,k,hk=>fY (args:=as) (n:=n) (outs:=outs) (cd:=cd) h k hk
 | .fn _::as,n,outs,cd,h,k,hk=>fY (args:=as) (n:=n) (outs:=outs) (cd:=cd) h k hk
 | .lK _ _ _::as,n,outs,cd,h,k,hk=>fY (args:=as) (n:=n) (outs:=outs) (cd:=cd) h k hk
 | .nl::as,n,outs,cd,h,k,hk=>fY (args:=as) (n:=n) (outs:=outs) (cd:=cd) h k hk
 | .mv t x::as,n,outs,cd,h,k,hk=>fY (args:=as) (n:=n+(bH t x n).2.length) (outs:=outs) (cd:=cd) h k hk
 | .own t x::as,n,outs,cd,h,k,hk=>by
  simp only [gM] at h;split at h;rename_i y n1 c1 hy;split at h;rename_i l c2 hl;obtain ⟨e1,h1⟩:=pb t hy;simp only [eO,List.mem_append,List.mem_range'_1] at hk;rcases hk with hk|hk
  exact h1 k hk.1 (by omega);exact fY hl k (by rw [e1];exact hk);cases h;cases h
theorem Is: ∀(l:List Value),Bl l (if h:l.toArray.size=1 then l.toArray[0] else .tuple l.toArray)
 |[]=>rfl
 |[_]=>rfl
 |_::_::_=>rfl
theorem lC: ∀{args:List Arg} {i n k:Nat},k∈eO args n→k<n+(cB args i n).2.length
 |[],_,_,_,h=>by simp [eO] at h
 | .bl _ _::as,i,n,k,h=>lC (args:=as) (i:=i+1) h
 | .gW _ _::as,i,n,k,h=>lC (args:=as) (i:=i+1) h
 | .fn _::as,i,n,k,h=>lC (args:=as) (i:=i+1) h
 | .lK _ _ _::as,i,n,k,h=>lC (args:=as) (i:=i+1) h
 | .nl::as,i,n,k,h=>lC (args:=as) (i:=i+1) h
 | .mv t x::as,i,n,k,h=>by
  have:=lC (args:=as) (i:=i+1) (n:=n+(bH t x n).2.length) h;simp only [cB,List.length_append];omega
 | .own t x::as,i,n,k,h=>by
  simp only [eO,List.mem_append,List.mem_range'_1] at h;simp only [cB,List.length_append];rcases h with h|h
  omega;have:=lC (args:=as) (i:=i+1) h;omega
theorem CallOK.BS {P:Program}{f:FuncId}{fn:Func}{c:Code}{args:List Arg}{ts:List (Bool×Ty)}{rs:List RV}{outs:List TD}(hf:P.funcs[f]? =some fn)(hb:fn.body=some c)(qb:(fn.name=="runtime.NumGoroutine")=false)(hn:args.length≤fn.ntmps)(nd:Bool)(h: ∀cx:Cx,cx.P=P→cx.N=fn.ntmps→cx.own.map Prod.fst=eO args 0→(Bx args=true→cx.HK)→cx.nd=nd→HT cx (sE args) c (Ip P fn args ts rs outs)):CallOK P f args rs outs:=by
 refine ⟨⟨fn,hf,qb,by rw [hb];rfl⟩,fun w S vals As F hB hI hS Um ha VL=>callsIn_wide.1 (callsIn_of_wp_marks (F:=Fence.wide) (n:=0) hf hb trivial (wpIn_wide.2 ?_))⟩;have C8: ∀b,S b→(b<w.heap.size∧S b∧b ∉ F):=fun b hb=>⟨(hS b hb).1,hb,(hS b hb).2⟩;obtain ⟨l1,hA,k1⟩:=ug (S2:=fun b=>b<w.heap.size∧S b∧b ∉ F) C8 0 0 ha;let ni:=(cB args 0 0).2;let A8:=As.flatten;let g:GM:=⟨fun k=>(A8[k]?).getD fun _=>none⟩;have Sf: ∀j o,A8[j]? =some o→g.f (0+j)=o:=fun j o hj=>by
  show (A8[0+j]?).getD _=o;rw [Nat.zero_add,hj];rfl
 have oZ: ∀j ch,ni[j]? =some ch→lk (0+j) (aZ 0 ni)=some ch:=fun j ch hj=>by
  rw [cT,if_pos (by omega)];simpa using hj
 obtain ⟨jW,wh⟩:=k1 g (aZ 0 ni) oZ Sf;let cx:Cx:=⟨P,fn.ntmps,w,S,F,(eO args 0).map fun k=>(k,g.f k),nd⟩;have Sg: ∀(j:Nat) (γ:List Nat→Option Nat) (p:List Nat) (b:Nat),A8[j]? =some γ→γ p=some b→b∈F:=fun j γ p b hj hp=>(hB b).2 ⟨γ,List.mem_of_getElem? hj,p,hp⟩;have VM: ∀k ch,lk k (aZ 0 ni)=some ch→ni[k]? =some ch:=fun k ch hk=>by
  rw [cT,if_pos (by omega)] at hk;simpa using hk
 have mO: ∀k p b,g.f k p=some b→b∈F∧ ∃γ,A8[k]? =some γ∧γ p=some b:=fun k p b hg=>by
  have hg:(A8[k]?).getD (fun _=>none) p=some b:=hg;cases hx:A8[k]? with
  |none=>rw [hx] at hg;simp at hg
  |some γ=>
   rw [hx] at hg;exact ⟨Sg k γ p b hx hg,γ,rfl,hg⟩
 have bS: ∀b,(b<w.heap.size∧S b∧b ∉ F)→cx.safe g (aZ 0 ni) w b:=fun b ⟨h1,h2,h3⟩=>⟨h1,fun _=>h2,fun ⟨k,p,ch,q1,q2,q3⟩=>h3 (mO k p b q3).1⟩;have hlen:args.length=vals.length:=by
  have: ∀{as:List Arg} {vs:List Value} {Fs:List (List (List Nat→Option Nat))},nz S w as vs Fs→as.length=vs.length:=by
   intro as;induction as with
   |nil=>intro vs Fs h;cases vs<;>cases Fs<;>first|rfl|exact h.elim
   |cons a as ih=>
    intro vs Fs h;cases vs with
    |nil=>exact h.elim
    |cons v vs=>
     cases Fs with
     |nil=>exact h.elim
     |cons F Fs=>simp [ih h.2]
  exact this ha
 have DL:bD cx g (sE args) {tmps:=vals.toArray++Array.replicate (fn.ntmps - vals.toArray.size) undef,defers:=[]} w:=by
  refine ⟨.nil,?_,fun t v hl=> ?_,fun k ch hk=> ?_,?_,fun k p ch b hk xU hg=> ?_,fun k p ch b hk xU hg=> ?_,aH.refl _ _,fun p hp=> ?_,⟨VL,hS⟩⟩;show (vals.toArray++Array.replicate (fn.ntmps - vals.toArray.size) undef).size=fn.ntmps;simp;omega;obtain ⟨_,u,hu,hv⟩:=jW t v hl;rw [Nat.sub_zero] at hu;have Fm:=(List.getElem?_eq_some_iff.1 hu);have:(vals.toArray++Array.replicate (fn.ntmps - vals.toArray.size) undef).getD t undef=u:=by
   rw [Array.getD_eq_getD_getElem?,Array.getElem?_append_left (by simpa using Fm.1)];simp [hu]
  show VR _ _ _ _ _ ((vals.toArray++Array.replicate (fn.ntmps - vals.toArray.size) undef).getD t undef);rw [this];exact VR.stays (gq.mono bS) hv;obtain ⟨_,o,ho,bK⟩:=wh.chunk k ch (VM k ch hk);have:=Sf k o ho;rw [Nat.zero_add] at this;rw [this];exact gU.stays (gq.mono bS) (fun _ _ _ _=>rfl) bK;intro k k' p p' ch gV b hk _ dS _ hg gb;obtain ⟨_,γ,h1,h2⟩:=mO k p b hg;obtain ⟨_,γ',h3,h4⟩:=mO k' p' b gb;exact hI.at h1 h3 h2 h4;exact .inr (mO k p b hg).1;exact Um b (mO k p b hg).1;obtain ⟨k,hk,e⟩:=List.mem_map.1 hp;subst e;refine ⟨rfl,?_⟩;have hk:k<ni.length:=by have:=lC (i:=0) hk;simpa [ni] using this
  show lk k (aZ 0 ni)≠none;rw [cT,if_pos (by omega)];simp [hk]
 have QY:Bx args=true→cx.HK:=fun hm b hb=>by
  obtain ⟨γ,hγ,p,hp⟩:=(hB b).1 hb;obtain ⟨j,hj⟩:=List.getElem?_of_mem hγ;rcases iJ 0 hA j γ p b hj hp with hk|hk
  rw [Nat.zero_add] at hk;refine ⟨(j,g.f j),List.mem_map.2 ⟨j,hk,rfl⟩,p,?_⟩;have:=Sf j _ hj;rw [Nat.zero_add] at this;show g.f j p=some b;rw [this];exact hp;exact absurd hk (tQ.none hm)
 have BT:=h cx rfl rfl (by simp [cx,List.map_map,Function.comp_def]) QY rfl g _ w DL;refine wp_mono BT fun e a' w' ⟨st',g',hq,db⟩=> ?_;have ret: ∀(a':Act) (w':World),bD cx g' st' a' w'→BP P fn args ts rs outs st'→ ∃v,(results fn a'.tmps).run P w'= .ok v w'∧ ∃v' A' F',Ending.returned v= .returned v'∧vd A' F'∧ox A'∧Gp (hZ S w w' F') w' rs v' A'∧(∀b,b∈F'→(w.heap.size≤b∨tQ b args As)∧b<w'.heap.size)∧
  aH F w w'∧fV (hZ S w w' F') w' args vals As outs:=by
  clear db hq;intro a' w' db;rintro ⟨vs,ks,cs,r1,r2,r3,r4,r5,r6⟩;obtain ⟨yV,q1,q2⟩:=wG db r1;obtain ⟨A',p1,p2⟩:=BQ db r2 q2;have rn:(results fn a'.tmps).run P w'= .ok (if h:yV.toArray.size=1 then yV.toArray[0] else .tuple yV.toArray) w':=by
   have e:results fn a'.tmps=(do
    let vs←fn.results.mapM (GI a'.tmps)
    pure (if h:vs.size=1 then vs[0] else .tuple vs)):=by
    have hm:(fun r:ResultVar=>(match r with| .tmp t=>(pure (a'.tmps.getD t undef):Sem Value)| .cell x t=>do loadVar t (←asAddr (a'.tmps.getD x undef))))=GI a'.tmps:=by
     funext r;cases r<;>rfl
    rw [←hm];rfl
   have q1:(fn.results.toList.mapM (GI a'.tmps)).run P w'= .ok yV w':=q1;rw [e,Array.mapM_eq_mapM_toList];simp only [Sem.run_bind,Sem.run_map,q1,Result.andThen_ok,Sem.run_pure]
  obtain ⟨F',iT⟩:=lB (n:=w'.heap.size) (A:=A') (fun γ hγ p b hp=>by
   obtain ⟨k,_,p',t,xs,a1,a2⟩:=p2.cg hγ hp;exact db.lt k p' _ b a2 trivial a1)
  have K0: ∀b,b∈F'→ ∃k,k∈ks∧ ∃p t xs,g'.f k p=some b∧lk k st'.mem=some (.seq t xs):=fun b hb=>by
   obtain ⟨γ,hγ,p,hp⟩:=(iT b).1 hb;exact p2.cg hγ hp
  have j6: ∀b,b∈F'→(w.heap.size≤b∨tQ b args As)∧b<w'.heap.size:=fun b hb=>by
   obtain ⟨k,hk,p,t,xs,a1,a2⟩:=K0 b hb;refine ⟨?_,db.lt k p _ b a2 trivial a1⟩;rcases db.gp k p _ b a2 trivial a1 with hx|hx
   exact .inl hx;right;obtain ⟨γ,hγ,q,hq⟩:=(hB b).1 hx;obtain ⟨j,hj⟩:=List.getElem?_of_mem hγ;rcases iJ 0 hA j γ q b hj hq with Q6|Q6
   exfalso;rw [Nat.zero_add] at Q6;obtain ⟨t',ys,dB⟩:=fY r5 j Q6;have VN:g'.f j q=some b:=by
    have:=(db.own (j,g.f j) (List.mem_map.2 ⟨j,Q6,rfl⟩)).1;simp only at this;rw [this];have:=Sf j _ hj;rw [Nat.zero_add] at this;rw [this];exact hq
   have:=(db.eH k j p q _ _ b a2 trivial dB trivial a1 VN).1;have ve:=List.all_eq_true.1 r4 _ hk;rw [this,BN.2 Q6] at ve;cases ve;exact Q6
  have Sh: ∀b,cx.safe g' st'.mem w' b→hZ S w w' F' b:=fun b ⟨h1,h2,h3⟩=>⟨h1,h2,fun hb=>by
   obtain ⟨k,_,p,t,xs,a1,a2⟩:=K0 b hb;exact h3 ⟨k,p,_,a2,trivial,a1⟩⟩
  refine ⟨_,rn,_,A',F',rfl,iT,p2.inj db.Lu (fW r3),⟨yV,lL.mono Sh p1,?_⟩,j6,db.ar,?_⟩;exact Is yV;refine fX (S:=fun b=>b<w.heap.size∧S b∧b ∉ F) (g:=g') (m:=st'.mem) (w:=w') (n:=0) (fun k ch hk=>gU.stays (gq.mono Sh) (fun _ _ _ _=>rfl) (db.mem k ch hk)) db.ar.sz hA r5 r6 fun j o hj oZ=> ?_;rw [Nat.zero_add] at oZ⊢;have:=(db.own (j,g.f j) (List.mem_map.2 ⟨j,oZ,rfl⟩)).1;simp only at this;rw [this];have:=Sf j o hj;rw [Nat.zero_add] at this;exact this
 have fin:BP P fn args ts rs outs st'→LeavesInM Fence.wide 0 P fn a'.tmps (fun e w'=> ∃v A' F',e= .returned v∧vd A' F'∧ox A'∧Gp (hZ S w w' F') w' rs v A'∧(∀b,b∈F'→(w.heap.size≤b∨tQ b args As)∧b<w'.heap.size)∧
  aH F w w'∧fV (hZ S w w' F') w' args vals As outs) a'.defers .returning w':=fun hq=>by
  obtain ⟨_,Ds,e,hn,hD⟩:=db.defers;rw [e];clear e;have key: ∀(Ds:List Nat) (w':World),bD cx g' st' {a' with defers:=[]} w'→Ds.Nodup→(∀D∈Ds,w'.heap[D]? =some (.deferred (some []))∧cx.w0.heap.size≤D)→
   LeavesInM Fence.wide 0 P fn a'.tmps (fun e w'=> ∃v A' F',e= .returned v∧vd A' F'∧ox A'∧Gp (hZ S w w' F') w' rs v A'∧(∀b,b∈F'→(w.heap.size≤b∨tQ b args As)∧b<w'.heap.size)∧
    aH F w w'∧fV (hZ S w w' F') w' args vals As outs) (Ds.map (fun D=>{target:= .collected D,args:= #[]})) .returning w':=by
   intro Ds;induction Ds with
   |nil=>exact fun w' hs _ _=>by have hr:=ret _ w' hs hq;exact hr
   |cons D Ds ih=>
    intro w' hs hn hD;have hn:=List.nodup_cons.1 hn;obtain ⟨h1,h2⟩:=hD D List.mem_cons_self;refine ⟨by simp,.inl ⟨D,_,rfl,run_takeDeferred h1,ih _ ?_ hn.2 fun E hE=> ?_⟩⟩;exact hs.Ng (w':=w'.putObj D (.deferred none)) (a':={a' with defers:=[]}) h1 rfl (fun _ _ e=>by cases e) h2 rfl rfl rfl (by simp) (fun b _ cX=>World.putObj_heap_other cX) rfl .nil;obtain ⟨k1,k2⟩:=hD E (List.mem_cons_of_mem _ hE);exact ⟨(World.putObj_heap_other (fun e:E=D=>hn.1 (e▸hE))).trans k1,k2⟩
  exact key Ds w' ⟨.nil,db.size,db.fr,db.mem,db.eH,db.gp,db.lt,db.ar,db.own,db.gl⟩ hn fun D hm=>⟨(hD D hm).1,(hD D hm).2.1⟩
 cases e with
 |normal=>exact fin hq
 |ret=>exact fin hq
 |_=>exact hq.elim
theorem CallOK.qS {P:Program}{f:FuncId}{fn:Func}{c:Code}{args:List Arg}{ts:List (Bool×Ty)}{rs:List RV}{outs:List TD}(hf:P.funcs[f]? =some fn)(hb:fn.body=some c)(qb:(fn.name=="runtime.NumGoroutine")=false)(hn:args.length≤fn.ntmps)(h: ∀cx:Cx,cx.P=P→cx.N=fn.ntmps→cx.own.map Prod.fst=eO args 0→(Bx args=true→cx.HK)→HT cx (sE args) c (Ip P fn args ts rs outs)):CallOK P f args rs outs:=
 CallOK.BS hf hb qb hn false fun cx a b c d _=>h cx a b c d
end Go.Ide
namespace Go.Ide
def MM (m m':Mem):Prop:= ∀k ch,lk k m=some ch→lk k m'=some ch
section
variable {P:Program} {m m':Mem}
theorem GJ (h:MM m m'){t:Ty}{c:aq}{x:t.D}(he:cI m t c=some x):cI m' t c=some x:=by
 cases c with
 |all c=>
  simp only [cI] at he⊢;split at he;cases hx:lk c m with
  |none=>simp [hx] at he
  |some ch=>rw [hx] at he;rw [h _ _ hx];exact he
  cases he
 |bT c i sz off=>
  simp only [cI] at he⊢;split at he;cases hx:lk c m with
  |none=>simp [hx] at he
  |some ch=>rw [hx] at he;rw [h _ _ hx];exact he
  cases he
 |ref c off len=>
  simp only [cI] at he⊢;split at he;cases hx:lk c m with
  |none=>simp [hx] at he
  |some ch=>rw [hx] at he;rw [h _ _ hx];exact he
  cases he
 |row c i o=>
  simp only [cI] at he⊢;split at he;cases hx:lk c m with
  |none=>simp [hx] at he
  |some ch=>rw [hx] at he;rw [h _ _ hx];exact he
  cases he
 |_=>exact he
theorem ic (h:MM m m'){t:Ty}{cs:List aq}{x:t.D×List aq}(he:b9 m t cs=some x):b9 m' t cs=some x:=by
 cases cs with
 |nil=>exact he
 |cons c r=>
  simp only [b9] at he⊢;cases hx:cI m t c with
  |none=>simp [hx] at he
  |some y=>rw [hx] at he;rw [GJ h hx];exact he
theorem kR (h:MM m m'): ∀(t:Ty) {cs:List aq} {x:t.D×List aq},impl m t cs=some x→impl m' t cs=some x
 | .int _,_,_,he=>ic h he
 | .cD _,_,_,he=>ic h he
 | .bool,_,_,he=>ic h he
 | .str,_,_,he=>ic h he
 | .sl _,_,_,he=>ic h he
 | .bx _,_,_,he=>ic h he
 | .cl _ _,_,_,he=>ic h he
 | .own _,_,_,he=>ic h he
 | .st t,_,_,he=>kR h t he
 | .pair a b,cs,x,he=>by
  simp only [impl] at he⊢;cases h1:impl m a cs with
  |none=>simp [h1] at he
  |some p=>
   obtain ⟨y,r⟩:=p;rw [h1] at he;rw [kR h a h1];simp only at he⊢;cases h2:impl m b r with
   |none=>simp [h2] at he
   |some q=>
    rw [h2] at he;rw [kR h b h2];exact he
theorem mz (h:MM m m'){t:Ty}{v:au}{x:t.D}(he:jA m t v=some x):jA m' t v=some x:=by
 unfold jA at he⊢;split at he;rename_i c hJ;cases h1:impl m t [c] with
 |none=>simp [h1] at he
 |some p=>rw [h1] at he;(try simp only [hJ]);rw [kR h t h1];exact he
 rename_i cs hJ;cases h1:impl m t cs with
 |none=>simp [h1] at he
 |some p=>rw [h1] at he;(try simp only [hJ]);rw [kR h t h1];exact he
 cases he
theorem wH (h:MM m m'){T:TypeId}{v:au}{e:bm}(he:oq P m T v=some e):oq P m' T v=some e:=by
 unfold oq at he⊢;split at he;rename_i c i sz off n ag hs ha
 try simp only [hs,ha]
 cases hx:lk c m with
 |none=>simp [hx] at he
 |some ch=>rw [hx] at he;rw [h _ _ hx];exact he
 rename_i c i o j sz off n ag hs ha
 try simp only [hs,ha]
 cases hx:lk c m with
 |none=>simp [hx] at he
 |some ch=>rw [hx] at he;rw [h _ _ hx];exact he
 rename_i c n ag It By hs ha
 try simp only [hs,ha]
 have key: ∀r,mf m n c=some r→mf m' n c=some r:=by
  intro r hr;cases c with
  |ptr k off=>
   simp only [mf] at hr⊢;cases hx:lk k m with
   |none=>simp [hx] at hr
   |some ch=>rw [hx] at hr;rw [h _ _ hx];exact hr
  |_=>exact hr
 cases hc:mf m n c with
 |none=>simp [hc] at he
 |some r=>
  rw [hc] at he;cases c with
  |bT k i sz off=>first|exact absurd rfl (It k i sz off)|exact absurd rfl (By k i sz off)
  |xS k i o j sz off=>first|exact absurd rfl (It k i o j sz off)|exact absurd rfl (By k i o j sz off)
  |_=>simp only [key _ hc];exact he
 cases he
theorem uO (h:MM m m'){T:TypeId}{a v:au}{e:bm}(he:oQ P m T a v=some e):oQ P m' T a v=some e:=by
 unfold oQ at he⊢;split at he;rename_i c off n hs
 try simp only [hs]
 cases hx:lk c m with
 |none=>simp [hx] at he
 |some ch=>rw [hx] at he;rw [h _ _ hx];exact he
 rename_i c i sz off n hs
 try simp only [hs]
 cases hx:lk c m with
 |none=>simp [hx] at he
 |some ch=>rw [hx] at he;rw [h _ _ hx];exact he
 rename_i c i o j sz off n hs
 try simp only [hs]
 cases hx:lk c m with
 |none=>simp [hx] at he
 |some ch=>rw [hx] at he;rw [h _ _ hx];exact he
 cases he
theorem vj (h:MM m m'){T:TypeId}{x i:au}{e:bm}(he:jB P m T x i=some e):jB P m' T x i=some e:=by
 unfold jB at he⊢;split at he;rename_i el k n hu
 try simp only [hu]
 split at he;rename_i t xs kz hs
 try simp only [hs]
 exact he;rename_i c kz hs
 try simp only [hs]
 cases hx:lk c m with
 |none=>simp [hx] at he
 |some ch=>rw [hx] at he;rw [h _ _ hx];exact he
 rename_i c i o kz hs
 try simp only [hs]
 cases hx:lk c m with
 |none=>simp [hx] at he
 |some ch=>rw [hx] at he;rw [h _ _ hx];exact he
 rename_i c off len kz hs
 try simp only [hs]
 cases hx:lk c m with
 |none=>simp [hx] at he
 |some ch=>rw [hx] at he;rw [h _ _ hx];exact he
 cases he;cases he
theorem uh (h:MM m m'){T:TypeId}{x i:au}{e:bm}(he:gY P m T x i=some e):gY P m' T x i=some e:=by
 unfold gY at he⊢;split at he;exact he;exact vj h he
theorem GK (h:MM m m'){x:au}{e:bm}(he:rJ m x=some e):rJ m' x=some e:=by
 unfold rJ at he⊢;split at he;exact he;exact he;rename_i c
 try simp only
 cases hx:lk c m with
 |none=>simp [hx] at he
 |some ch=>rw [hx] at he;rw [h _ _ hx];exact he
 rename_i c i o
 try simp only
 cases hx:lk c m with
 |none=>simp [hx] at he
 |some ch=>rw [hx] at he;rw [h _ _ hx];exact he
 rename_i c off len
 try simp only
 cases hx:lk c m with
 |none=>simp [hx] at he
 |some ch=>rw [hx] at he;rw [h _ _ hx];exact he
 exact he;cases he
theorem rU (h:MM m m'){x:au}(he:lY m x=true):lY m' x=true:=by
 unfold lY at he⊢;split at he;rename_i c;split at he;rename_i t xs hl;rw [h _ _ hl];exact he;cases he;cases he;exact he
theorem DP (h:MM m m'){T:TypeId}{x:au}{e:bm}(he:BE P m T x=some e):BE P m' T x=some e:=by
 unfold BE at he⊢;split at he
 all_goals first
  |(rename_i hu;(try simp only [hu]);exact GK h he)
  |cases he
theorem ti (h:MM m m'){t:Ty}{x:au}{r:List t.D×List (Nat×Chunk)}(he:mg m t x=some r):mg m' t x=some r:=by
 unfold mg at he⊢;split at he;exact he;rename_i c
 try simp only
 cases hx:lk c m with
 |none=>simp [hx] at he
 |some ch=>rw [hx] at he;rw [h _ _ hx];exact he
 rename_i c len
 try simp only
 cases hx:lk c m with
 |none=>simp [hx] at he
 |some ch=>rw [hx] at he;rw [h _ _ hx];exact he
 cases he
theorem zX (h:MM m m'){nx:Nat}{T T':TypeId}{t:Ty}{s x:au}{e:bm}(he:qz P m nx T T' t s x=some e):qz P m' nx T T' t s x=some e:=by
 unfold qz at he⊢;split at he;rename_i el hu;split at he;rename_i i hi
 try simp only [hi]
 cases hb:(((Nat.beq T T'&&Nat.beq i.size t.size)&&(Nat.ble i.bytes 32768&&i.zero.isSome)&&(i.zero.map fun z=>Nat.beq z.cells.size t.size).getD false)&&(t.top&&lY m x)) with
 |false=>rw [hb] at he;cases he
 |true=>
  rw [hb] at he;have iE:=hb;simp only [Bool.and_eq_true] at iE;have oP:(((Nat.beq T T'&&Nat.beq i.size t.size)&&(Nat.ble i.bytes 32768&&i.zero.isSome)&&(i.zero.map fun z=>Nat.beq z.cells.size t.size).getD false)&&(t.top&&lY m' x))=true:=by
   rw [iE.2.2] at hb;rw [rU h iE.2.2];exact hb
  rw [oP];simp only [cond_true] at he⊢;cases h1:mg m t s with
  |none=>simp [h1] at he
  |some r=>
   cases h2:jA m (.sl t) x with
   |none=>simp [h1,h2] at he
   |some ys=>
    rw [h1,h2] at he;rw [ti h h1,mz h h2];exact he
 cases he;cases he
theorem pd (h:MM m m'): ∀(t:Ty) {cs:List aq} {p:(t.D×List Nat)×List aq},kC m t cs=some p→kC m' t cs=some p
 | .pair a b,cs,p,he=>by
  simp only [kC] at he⊢;split at he;rename_i y k1 r1 h1;rw [pd h a h1];simp only;split at he;rename_i z k2 r2 h2;rw [pd h b h2];exact he;cases he;cases he
 | .st t,cs,p,he=>pd h t (cs:=cs) (p:=p) he
 | .own t,cs,p,he=>by
  simp only [kC] at he⊢;split at he;exact he;rename_i c r;split at he;rename_i e xs hl;rw [h _ _ hl];exact he;cases he;cases he
 | .int _,_,_,he=>he
 | .cD _,_,_,he=>he
 | .bool,_,_,he=>he
 | .str,_,_,he=>he
 | .cl _ _,_,_,he=>he
 | .sl _,_,_,he=>he
 | .bx _,_,_,he=>he
theorem zY (h:MM m m'){nx:Nat}{T:TypeId}{t:Ty}{len:Nat}{parts:List (Nat×au)}{e:bm}(he:qQ P m nx T t len parts=some e):qQ P m' nx T t len parts=some e:=by
 unfold qQ at he⊢;split at he;rename_i el v hu
 try simp only [hu]
 cases hb:((cc P el==some t.size&&(((P.info? el).bind (·.zero)).map fun z=>Nat.beq z.cells.size t.size)==some true)&&(Nat.beq len 1&&Nat.ble t.size 65536)&&v.ok) with
 |false=>rw [hb] at he;cases he
 |true=>
  rw [hb] at he;simp only [cond_true] at he⊢;split at he;rename_i x ks Uj;rw [pd h t Uj];exact he;cases he
 cases he
theorem zZ (h:MM m m'){nx:Nat}{T:TypeId}{t:Ty}{len:Nat}{parts:List (Nat×au)}{e:bm}(he:qR P m nx T t len parts=some e):qR P m' nx T t len parts=some e:=by
 unfold qR at he⊢;cases ht:t.top with
 |true=>rw [ht] at he;exact he
 |false=>rw [ht] at he;exact zY h he
theorem DQ (h:MM m m'){nx:Nat}{T T':TypeId}{t:Ty}{s x:au}{e:bm}(he:yT P m nx T T' t s x=some e):yT P m' nx T T' t s x=some e:=by
 unfold yT at he⊢;split at he;rename_i el s c2 hu
 try simp only [hu]
 split at he;rename_i i t2 ys hi A4;rw [h _ _ A4]
 try simp only [hi]
 cases hb:(((Nat.beq T T'&&Nat.beq i.size t.size)&&(Nat.ble i.bytes 32768&&i.zero.isSome))&&(i.zero.map fun z=>Nat.beq z.cells.size t.size).getD false) with
 |false=>rw [hb] at he;cases he
 |true=>
  rw [hb] at he;simp only [cond_true] at he⊢;split at he;rename_i ht;rw [dif_pos ht];split at he;exact he;rename_i c
  try simp only
  split at he;rename_i t1 xs KY;rw [h _ _ KY];exact he;cases he;cases he;cases he
 cases he;cases he
theorem yn (h:MM m m'){nx:Nat}{T T':TypeId}{t:Ty}{s x:au}{e:bm}(he:oC P m nx T T' t s x=some e):oC P m' nx T T' t s x=some e:=by
 unfold oC at he⊢;cases ht:t.top with
 |true=>rw [ht] at he;exact zX h he
 |false=>rw [ht] at he;exact DQ h he
theorem BU (h:MM m m'){T:TypeId}{x:au}{lo hi:Option au}{e:bm}(he:rL P m T x lo hi=some e):rL P m' T x lo hi=some e:=by
 unfold rL at he⊢;split at he;rename_i xs hu;(try simp only [hu]);exact he;rename_i el hu;(try simp only [hu]);exact he;rename_i el t xs hu;(try simp only [hu]);exact he;rename_i el c hu
 try simp only [hu]
 cases hx:lk c m with
 |none=>simp [hx] at he
 |some ch=>rw [hx] at he;rw [h _ _ hx];exact he
 rename_i el c off len hu
 try simp only [hu]
 cases hx:lk c m with
 |none=>simp [hx] at he
 |some ch=>rw [hx] at he;rw [h _ _ hx];exact he
 cases he
theorem j7 (h:MM m m'): ∀(t:Ty) (cs:List aq) {p:List Nat×List aq},cJ m t cs=some p→cJ m' t cs=some p
 | .cl _ _,_,_,he=>he
 | .int _,_,_,he=>he
 | .cD _,_,_,he=>he
 | .bool,_,_,he=>he
 | .str,_,_,he=>he
 | .sl t,cs,p,he=>by
  simp only [cJ] at he⊢;split at he;split at he;rename_i hl;rw [h _ _ hl];exact he;cases he;exact he;cases he
 | .own t,cs,p,he=>by
  simp only [cJ] at he⊢;split at he;split at he;rename_i hl;rw [h _ _ hl];exact he;cases he;exact he;cases he
 | .bx t,cs,p,he=>by
  simp only [cJ] at he⊢;split at he;split at he;rename_i hl;rw [h _ _ hl];exact he;cases he;cases he
 | .st t,cs,p,he=>j7 h t cs he
 | .pair a b,cs,p,he=>by
  simp only [cJ] at he⊢;split at he;rename_i x r e1;rw [j7 h a cs e1];simp only;split at he;rename_i y r' e2;rw [j7 h b r e2];exact he;cases he;cases he
theorem cU (h:MM m m'): ∀(ms:List Mode) (vs:List au) {ks:List Nat},cK m ms vs=some ks→cK m' ms vs=some ks
 |[],[],_,he=>he
 |[],_::_,_,he=>he
 | .own t::ms,v::vs,ks,he=>by
  simp only [cK] at he⊢;split at he;rename_i k1 l1 e1 e2;rw [j7 h t _ e1,cU h ms vs e2];exact he;cases he
 | .mv t::ms,v::vs,ks,he=>by
  simp only [cK] at he⊢;split at he;rename_i k1 l1 e1 e2;rw [j7 h t _ e1,cU h ms vs e2];exact he;cases he
 | .bl _::ms,_::vs,ks,he=>cU h ms vs (ks:=ks) he
 | .gW _::ms,_::vs,ks,he=>cU h ms vs (ks:=ks) he
 | .fn::ms,_::vs,ks,he=>cU h ms vs (ks:=ks) he
 | .lK _::ms,_::vs,ks,he=>cU h ms vs (ks:=ks) he
 | .nl::ms,_::vs,ks,he=>cU h ms vs (ks:=ks) he
 | .own _::_,[],_,he=>he
 | .mv _::_,[],_,he=>he
 | .nl::_,[],_,he=>he
 | .bl _::_,[],_,he=>he
 | .gW _::_,[],_,he=>he
 | .fn::_,[],_,he=>he
 | .lK _::_,[],_,he=>he
theorem rV (h:MM m m'){md:Mode}{v:au}{a:Arg}(he:gu m md v=some a):gu m' md v=some a:=by
 unfold gu at he⊢;split at he;rename_i v1 t
 try simp only
 cases h1:jA m t v with
 |none=>simp [h1] at he
 |some x=>rw [h1] at he;rw [mz h h1];exact he
 rename_i v1 t
 try simp only
 cases h1:jA m t v with
 |none=>simp [h1] at he
 |some x=>rw [h1] at he;rw [mz h h1];exact he
 rename_i v1 t
 try simp only
 cases h1:jA m t v with
 |none=>simp [h1] at he
 |some x=>rw [h1] at he;rw [mz h h1];exact he
 rename_i t t' x off
 try simp only
 cases h1:impl m t (((fx t' x).drop off).take t.size) with
 |none=>simp [h1] at he
 |some p=>rw [h1] at he;rw [kR h t h1];exact he
 exact he;exact he;exact he;cases he
theorem oE {m2 Si:Mem}(h:MM m m')(h2:MM m2 Si){md:Mode}{v:au}{a:Arg}(he:np m m2 md v=some a):np m' Si md v=some a:=by
 unfold np at he⊢;split at he;rename_i t c off
 try simp only
 cases hx:lk c m with
 |none=>simp [hx] at he
 |some ch=>
  rw [hx] at he;rw [h _ _ hx];cases ch with
  |box cs=>
   simp only at he⊢;cases h1:impl m2 t ((cs.drop off).take t.size) with
   |none=>simp [h1] at he
   |some p=>rw [h1] at he;rw [kR h2 t h1];exact he
  |seq t' xs=>cases he
  |nu t' xs i cs ks=>cases he
  |mp=>cases he
  |gh=>cases he
  |n9=>cases he
  |gone=>cases he
 exact rV h2 he
theorem uP {mp XP m2 Si:Mem}(h:MM m m')(hp:MM mp XP)(h2:MM m2 Si): ∀{ms:List Mode} {vs:List au} {as:List Arg},ct m mp m2 ms vs=some as→ct m' XP Si ms vs=some as:=by
 intro ms;induction ms with
 |nil=>intro vs as he;cases vs<;>exact he
 |cons md ms ih=>
  intro vs as he;cases vs with
  |nil=>cases md<;>exact he
  |cons v vs=>
   cases md with
   |own t=>
    simp only [ct] at he⊢;cases h1:gu m (.own t) v with
    |none=>simp [h1] at he
    |some a=>
     cases h3:ct m mp m2 ms vs with
     |none=>simp [h1,h3] at he
     |some l=>rw [h1,h3] at he;rw [rV h h1,ih h3];exact he
   |mv t=>
    simp only [ct] at he⊢;cases h1:gu m (.mv t) v with
    |none=>simp [h1] at he
    |some a=>
     cases h3:ct m mp m2 ms vs with
     |none=>simp [h1,h3] at he
     |some l=>rw [h1,h3] at he;rw [rV h h1,ih h3];exact he
   |nl=>
    simp only [ct] at he⊢;cases h1:np mp m2 .nl v with
    |none=>simp [h1] at he
    |some a=>
     cases h3:ct m mp m2 ms vs with
     |none=>simp [h1,h3] at he
     |some l=>rw [h1,h3] at he;rw [oE hp h2 h1,ih h3];exact he
   |bl t=>
    simp only [ct] at he⊢;cases h1:np mp m2 (.bl t) v with
    |none=>simp [h1] at he
    |some a=>
     cases h3:ct m mp m2 ms vs with
     |none=>simp [h1,h3] at he
     |some l=>rw [h1,h3] at he;rw [oE hp h2 h1,ih h3];exact he
   |gW t=>
    simp only [ct] at he⊢;cases h1:np mp m2 (.gW t) v with
    |none=>simp [h1] at he
    |some a=>
     cases h3:ct m mp m2 ms vs with
     |none=>simp [h1,h3] at he
     |some l=>rw [h1,h3] at he;rw [oE hp h2 h1,ih h3];exact he
   |fn=>
    simp only [ct] at he⊢;cases h1:np mp m2 .fn v with
    |none=>simp [h1] at he
    |some a=>
     cases h3:ct m mp m2 ms vs with
     |none=>simp [h1,h3] at he
     |some l=>rw [h1,h3] at he;rw [oE hp h2 h1,ih h3];exact he
   |lK t=>
    simp only [ct] at he⊢;cases h1:np mp m2 (.lK t) v with
    |none=>simp [h1] at he
    |some a=>
     cases h3:ct m mp m2 ms vs with
     |none=>simp [h1,h3] at he
     |some l=>rw [h1,h3] at he;rw [oE hp h2 h1,ih h3];exact he
theorem MM.app {l:Mem}(h:MM m m'):MM (l++m) (l++m'):=fun k ch hk=>by
 rw [a8] at hk⊢;cases hx:lk k l with
 |none=>rw [hx] at hk;exact h k ch (by simpa using hk)
 |some c=>rw [hx] at hk;simpa using hk
theorem rW (h:MM m m'){nx:Nat}{ms:List Mode}{rs:List RV}{outs:List TD}{f:FuncId}{vs:List au}{e:bm}(he:uH P m nx ms rs outs f vs=some e):uH P m' nx ms rs outs f vs=some e:=by
 unfold uH at he⊢;split at he;rename_i ks up hk hu;rw [cU h ms vs hk,hu]
 try simp only
 split at he;rename_i as has
 try simp only [has]
 exact he;rename_i has
 try simp only [has]
 cases hb:iX ks with
 |false=>rw [hb] at he;cases he
 |true=>
  rw [hb] at he;simp only [cond_true] at he⊢;cases oP:(rs.all RV.sI&&dO ms) with
  |true=>
   rw [oP] at he;simp only [cond_true] at he⊢;cases h3:ct m m ((ks.map fun k=>(k,Chunk.gone))++m) ms vs with
   |none=>simp [h3] at he
   |some as=>rw [h3] at he;rw [uP h h (MM.app h) h3];exact he
  |false=>
   rw [oP] at he;simp only [cond_false] at he⊢;cases h3:ct m [] [] ms vs with
   |none=>simp [h3] at he
   |some as=>rw [h3] at he;rw [uP h (fun _ _ h=>h) (fun _ _ h=>h) h3];exact he
 cases he
theorem yp (h:MM m m'){nx:Nat}{T T':TypeId}{s x:au}{e:bm}(he:oA P m nx T T' s x=some e):oA P m' nx T T' s x=some e:=by
 unfold oA at he⊢;split at he;rename_i el y hu Fm
 try simp only
 split at he;rename_i i hi
 try simp only [hi]
 cases hb:((cA P T&&Nat.beq i.size 1)&&(Nat.ble i.bytes 32768&&i.zero.isSome)&&(i.zero.map fun z=>Nat.beq z.cells.size 1).getD false) with
 |false=>rw [hb] at he;cases he
 |true=>
  rw [hb] at he;simp only [cond_true] at he⊢;cases h1:mg m (.int .u8) s with
  |none=>simp [h1] at he
  |some r=>
   rw [h1] at he;rw [ti h h1];exact he
 cases he;cases he
theorem wI (h:MM m m'){nx:Nat}{T U:TypeId}{x:au}{e:bm}(he:mw P m nx T U x=some e):mw P m' nx T U x=some e:=by
 unfold mw at he⊢;split at he;exact he;exact he;exact he;rename_i c _ _
 try simp only
 cases hb:(Nat.beq T U&&cA P T) with
 |false=>rw [hb] at he;cases he
 |true=>
  rw [hb] at he;simp only [cond_true] at he⊢;cases hx:lk c m with
  |none=>simp [hx] at he
  |some ch=>rw [hx] at he;rw [h _ _ hx];exact he
 rename_i x _ _ _ _ _ _
 try simp only
 cases hb:(cA P T&&lY m x) with
 |false=>rw [hb] at he;cases he
 |true=>
  rw [hb] at he;simp only [Bool.and_eq_true] at hb;rw [hb.1,rU h hb.2];simp only [cond_true,Bool.and_self] at he⊢;split at he;rename_i l hl;rw [mz h hl];exact he;cases he
 exact he
theorem wJ (h:MM m m'){nx:Nat}{v:au}{r:Mem×Mem×Prop}(he:wx m nx v=some r):wx m' nx v=some r:=by
 unfold wx at he⊢;split at he;rename_i c i sz off
 try simp only
 cases hx:lk c m with
 |none=>simp [hx] at he
 |some ch=>rw [hx] at he;rw [h _ _ hx];exact he
 cases he
theorem BV (h:MM m m'){nx:Nat}{hh:Hint}{T:TypeId}{v:au}{e:bm}(he:pX P m nx hh T v=some e):pX P m' nx hh T v=some e:=by
 unfold pX at he⊢;cases hb:hh.uL with
 |false=>rw [hb] at he;exact wH h he
 |true=>
  rw [hb] at he;simp only [cond_true,zO] at he⊢;split at he;rename_i u n p hp;rw [wJ h hp];simp only;split at he;rename_i e1 hl;rw [wH (MM.app h) hl];exact he;cases he;cases he
theorem z6 (h:MM m m'){nx:Nat}{hh:Hint}{T:TypeId}{v x:au}{e:bm}(he:qP P m nx hh T v x=some e):qP P m' nx hh T v x=some e:=by
 unfold qP at he⊢;cases hb:hh.uL with
 |false=>rw [hb] at he;exact uO h he
 |true=>
  rw [hb] at he;simp only [cond_true,vz] at he⊢;split at he;rename_i u n p hp;rw [wJ h hp];simp only;split at he;rename_i e1 hl;rw [uO (MM.app h) hl];exact he;cases he;cases he
theorem DR (h:MM m m'){T:TypeId}{x y:au}{e:bm}(he:yS P m T x y=some e):yS P m' T x y=some e:=by
 unfold yS at he⊢;have hd: ∀r,yR m x=some r→yR m' x=some r:=fun r hr=>by
  unfold yR at hr⊢;split at hr;rename_i c
  try simp only
  cases hx:lk c m with
  |none=>simp [hx] at hr
  |some ch=>rw [hx] at hr;rw [h _ _ hx];exact hr
  exact hr;cases hr
 split at he;rename_i el c off len hu hc;rw [hd _ hc,hu]
 try simp only
 split at he;rename_i t xs hl;rw [h _ _ hl];simp only;cases hb:((cc P el==some t.size&&t.top)&&lY m y) with
 |false=>rw [hb] at he;cases he
 |true=>
  rw [hb] at he;simp only [Bool.and_eq_true] at hb;rw [show ((cc P el==some t.size&&t.top)&&lY m' y)=true from by simp only [Bool.and_eq_true];exact ⟨hb.1,rU h hb.2⟩];simp only [cond_true] at he⊢;split at he;rename_i ys Vv;rw [mz h Vv];exact he;cases he
 cases he;cases he
theorem yq (h:MM m m'){fr:Fr}{nx:Nat}{hh:Hint}{b:Builtin}{args:List Operand}{ts:List TypeId}{e:bm}(he:oD P fr m nx hh b args ts=some e):oD P fr m' nx hh b args ts=some e:=by
 unfold oD at he⊢;split at he;rename_i x T
 try simp only
 split at he;rename_i v hv;(try simp only [hv]);exact DP h he;cases he;rename_i s x T T'
 try simp only
 split at he;rename_i t sv xv hs hx;(try simp only [hs,hx]);exact yn h he;rename_i sv xv hs hx;(try simp only [hs,hx]);exact yp h he;rename_i t sv xv hs hx;(try simp only [hs,hx]);exact he;cases he;exact he;exact he;rename_i x y T T'
 try simp only
 split at he;rename_i xv yv hx hy;(try simp only [hx,hy]);exact DR h he;cases he;exact he;cases he
theorem Iu (h:MM m m'){fr:Fr}{nx:Nat}{hh:Hint}{o:Oper}{e:bm}(he:vA P fr m nx hh o=some e):vA P fr m' nx hh o=some e:=by
 unfold vA at he⊢;split at he
 case h_8 T x ho=>
  try simp only
  split at he;rename_i v hv;(try simp only [hv]);exact BV h he;cases he
 case h_9 T x y ho=>
  try simp only
  split at he;rename_i xv yv hx hy;(try simp only [hx,hy]);exact z6 h he;cases he
 case h_13 T U x ho=>
  try simp only
  split at he;rename_i v hv;(try simp only [hv]);exact wI h he;cases he
 case h_7 T len parts ho=>
  try simp only
  split at he;rename_i t vs hv;(try simp only [hv]);exact zZ h he;rename_i t vs hv;(try simp only [hv]);exact he;rename_i vs hv;(try simp only [hv]);exact he;cases he
 case h_15 T x lo hi ho=>
  try simp only
  split at he;rename_i v l h' hv hl hh;(try simp only [hv,hl,hh]);exact BU h he;cases he
 case h_18 T x i ho=>
  try simp only
  split at he;rename_i v j hv hj;(try simp only [hv,hj]);exact uh h he;cases he
 case h_22 c ho=>
  try simp only
  split at he;rename_i b hb;(try simp only [hb]);exact yq h he;rename_i f hf
  try simp only [hf]
  split at he;rename_i ms rs outs k vs hk gL;(try simp only [hk,gL]);exact rW h he;rename_i ms rs outs k t x vs hk gL;(try simp only [hk,gL]);exact rW h he;rename_i ms rs outs k t x vs hk gL;(try simp only [hk,gL]);exact rW h he;rename_i k fk n hk gL;(try simp only [hk,gL]);exact he;cases he;cases he
 all_goals first
  |exact he
  |cases he
end
end Go.Ide
namespace Go.Ide
abbrev ER:=Option Tmp×bm
def kS (e:bm):Mem:=e.jU++e.new
def jC (o:Oper):Bool:=
 match o.op with
 | .move _=>true
 | .assign _=>true
 | .pick _ _ _=>true
 | .binOp _ _ _ _ _=>true
 | .unOp _ _ _=>true
 | .fieldAddr _ _ _=>true
 | .index _ _ _=>true
 | .extract _ _=>true
 | .nilCheck _=>true
 |_=>false
def fZ (sel:Nat→Bool):Nat→List ER→Fr→Fr
 |_,[],fr=>fr
 |i,(d,e)::r,fr=>fZ sel (i+1) r (bif sel i then (match d with|some t=>(t,e.val)::fr|none=>fr) else fr)
def cu (sel:Nat→Bool):Nat→List ER→Mem→Mem
 |_,[],m=>m
 |i,(_,e)::r,m=>cu sel (i+1) r (bif sel i then kS e++m else m)
def gw (sel:Nat→Bool)(t:Tmp):Nat→List ER→Option au
 |_,[]=>none
 |i,(d,e)::r=>(gw sel t (i+1) r).or (if sel i=true∧d=some t then some e.val else none)
def dV (sel:Nat→Bool)(k:Nat):Nat→List ER→Option Chunk
 |_,[]=>none
 |i,(_,e)::r=>(dV sel k (i+1) r).or (if sel i=true then lk k (kS e) else none)
theorem j8 {sel:Nat→Bool}{t:Tmp}: ∀{l:List ER} {n:Nat} {fr:Fr},lk t (fZ sel n l fr)=(gw sel t n l).or (lk t fr)
 |[],_,_=>by simp [fZ,gw]
 |(d,e)::r,n,fr=>by
  simp only [fZ,gw];rw [j8,Option.or_assoc]
  congr 1
  cases hs:sel n with
  |false=>simp
  |true=>
   simp only [cond_true,true_and];cases d with
   |none=>simp
   |some t'=>
    rw [aw];by_cases h:t=t';subst h;simp;rw [if_neg h,if_neg (fun e=>h (by injection e with e;exact e.symm))];rfl
theorem dz {sel:Nat→Bool}{k:Nat}: ∀{l:List ER} {n:Nat} {m:Mem},lk k (cu sel n l m)=(dV sel k n l).or (lk k m)
 |[],_,_=>by simp [cu,dV]
 |(d,e)::r,n,m=>by
  simp only [cu,dV];rw [dz,Option.or_assoc]
  congr 1
  cases hs:sel n with
  |false=>simp
  |true=>simp only [cond_true,if_true];rw [a8]
theorem jN {sel sel':Nat→Bool}{t:Tmp}: ∀{l:List ER} {n:Nat},(∀(j:Nat) (d:Option Tmp) (e:bm),l[j]? =some (d,e)→d=some t→sel (n+j)=sel' (n+j))→gw sel t n l=gw sel' t n l
 |[],_,_=>rfl
 |(d,e)::r,n,h=>by
  simp only [gw];have ih:gw sel t (n+1) r=gw sel' t (n+1) r:=jN fun j d e hj hd=>by
   have:=h (j+1) d e (by simpa using hj) hd;have e1:n+(j+1)=n+1+j:=by omega
   rw [e1] at this;exact this
  have hh:(if sel n=true∧d=some t then some e.val else none)=if sel' n=true∧d=some t then some e.val else none:=by
   by_cases hd:d=some t;have h0:sel n=sel' n:=by simpa using h 0 d e rfl hd
   rw [h0];rw [if_neg (fun x=>hd x.2),if_neg (fun x=>hd x.2)]
  rw [ih,hh]
theorem BW {sel:Nat→Bool}{t:Tmp}{v:bm}: ∀{l:List ER} {n i:Nat},l[i]? =some (some t,v)→sel (n+i)=true→(∀(j:Nat) (d:Option Tmp) (e:bm),i<j→l[j]? =some (d,e)→d=some t→sel (n+j)=false)→gw sel t n l=some v.val
 |[],n,i,h,_,_=>by simp at h
 |(d,e)::r,n,0,h,hs,hn=>by
  simp at h;obtain ⟨rfl,rfl⟩:=h;have hz:gw sel t (n+1) r=gw (fun _=>false) t (n+1) r:=jN fun j d e hj hd=>by
   have:=hn (j+1) d e (by omega) (by simpa using hj) hd;rwa [show n+(j+1)=n+1+j from by omega] at this
  have hf: ∀(l:List ER) (n:Nat),gw (fun _=>false) t n l=none:=by
   intro l;induction l with
   |nil=>intro _;rfl
   |cons p l ih=>intro n;obtain ⟨d,e⟩:=p;simp [gw,ih]
  simp only [gw];rw [hz,hf];have hs:sel n=true:=by simpa using hs
  simp [hs]
 |(d,e)::r,n,i+1,h,hs,hn=>by
  simp only [gw];have:=BW (l:=r) (n:=n+1) (i:=i) (by simpa using h) (by rwa [show n+(i+1)=n+1+i from by omega] at hs) (fun j d e hlt hj hd=>by
   have:=hn (j+1) d e (by omega) (by simpa using hj) hd;rwa [show n+(j+1)=n+1+j from by omega] at this)
  rw [this];rfl
theorem ie {sel:Nat→Bool}{k:Nat}{ch:Chunk}: ∀{l:List ER} {n:Nat},dV sel k n l=some ch→ ∃(j:Nat) (d:Option Tmp) (e:bm),l[j]? =some (d,e)∧sel (n+j)=true∧lk k (kS e)=some ch
 |[],_,h=>by simp [dV] at h
 |(d,e)::r,n,h=>by
  simp only [dV] at h;cases hx:dV sel k (n+1) r with
  |some c=>
   rw [hx] at h;have h:c=ch:=by simpa using h
   subst h;obtain ⟨j,d',e',h1,h2,h3⟩:=ie hx;exact ⟨j+1,d',e',by simpa using h1,by rwa [show n+(j+1)=n+1+j from by omega],h3⟩
  |none=>
   rw [hx] at h;simp only [Option.none_or] at h;split at h;rename_i hs;exact ⟨0,d,e,rfl,by simpa using hs,h⟩;cases h
theorem mP {sel:Nat→Bool}{k:Nat}: ∀{l:List ER} {n:Nat},dV sel k n l=none→ ∀(j:Nat) (d:Option Tmp) (e:bm),l[j]? =some (d,e)→sel (n+j)=true→lk k (kS e)=none
 |[],_,_,j,d,e,hj,_=>by simp at hj
 |(d0,e0)::r,n,h,j,d,e,hj,hs=>by
  simp only [dV,Option.or_eq_none_iff] at h;cases j with
  |zero=>
   simp at hj;obtain ⟨rfl,rfl⟩:=hj;have hs:sel n=true:=by simpa using hs
   have:=h.2;rwa [if_pos hs] at this
  |succ j=>exact mP h.1 j d e (by simpa using hj) (by rwa [show n+(j+1)=n+1+j from by omega] at hs)
def bZ (j:Nat):List Nat→Bool
 |[]=>false
 |a::l=>Nat.beq j a||bZ j l
theorem dp {j:Nat}: ∀{l:List Nat},bZ j l=true↔j∈l
 |[]=>by simp [bZ]
 |a::l=>by
  simp only [bZ,Bool.or_eq_true,dp,List.mem_cons];constructor;rintro (h|h);exact .inl (aO h);exact .inr h;rintro (h|h);subst h;exact .inl (Nat.beq_refl _);exact .inr h
def lM (all:List Oper)(o:Oper):List Tmp:=
 (o.op.operands.toList.filterMap fun| .tmp t=>some t|_=>none)++(match o.guard with
  |some (j,_)=>(th all j).toList
  |none=>[])
def eu (o:Oper):List Nat:=(o.after.toList.filter fun e=>Region.binds .any e).map (·.on)
def oF (all:List Oper)(x y:Oper):Bool:=
 (match x.dst with
 |some t=>bZ t (lM all y)||(match y.dst with|some u=>Nat.beq t u|none=>false)
 |none=>false)||
 (match y.dst with
 |some t=>bZ t (lM all x)
 |none=>false)
def lO (all:List Oper)(Ds:List (List Nat))(h:Nat):Nat→List Oper→Bool
 |_,[]=>true
 |i,o::os=>
  ((eu o).all fun d=>Nat.blt d i)&&
  (((Ds.getD i []).all fun j=>bZ j (eu o)||(eu o).any fun d=>bZ j (Ds.getD d [])))&&
  ((List.range i).all fun j=>bZ j (Ds.getD i [])||(Nat.blt i h&& !(oF all (all.getD j default) o)))&&
  lO all Ds h (i+1) os
theorem uQ {all:List Oper}{Ds:List (List Nat)}{h:Nat}: ∀{os:List Oper} {n:Nat},lO all Ds h n os=true→ ∀(i:Nat) (o:Oper),os[i]? =some o→
 (∀d∈eu o,d<n+i)∧(∀j∈Ds.getD (n+i) [],j∈eu o∨ ∃d∈eu o,j∈Ds.getD d [])∧(∀j,j<n+i→j∈Ds.getD (n+i) []∨(n+i<h∧oF all (all.getD j default) o=false))
 |[],_,_,i,o,ho=>by simp at ho
 |o0::os,n,hk,i,o,ho=>by
  simp only [lO,Bool.and_eq_true] at hk;obtain ⟨⟨⟨h1,h2⟩,h3⟩,h4⟩:=hk;cases i with
  |succ i=>
   have:=uQ h4 i o (by simpa using ho);rwa [show n+1+i=n+(i+1) from by omega] at this
  |zero=>
   simp at ho;subst ho;refine ⟨fun d hd=> ?_,fun j hj=> ?_,fun j hj=> ?_⟩;have:=List.all_eq_true.1 h1 d hd;exact Nat.lt_of_succ_le (by simpa [Nat.blt] using this);have:=List.all_eq_true.1 h2 j hj;simp only [Bool.or_eq_true] at this;rcases this with h|h
   exact .inl (dp.1 h);obtain ⟨d,hd,hm⟩:=List.any_eq_true.1 h;exact .inr ⟨d,hd,dp.1 hm⟩;have:=List.all_eq_true.1 h3 j (by simpa using hj);simp only [Bool.or_eq_true,Bool.and_eq_true,Bool.not_eq_true'] at this;rcases this with h|⟨h,h'⟩
   exact .inl (dp.1 h);exact .inr ⟨Nat.lt_of_succ_le (by simpa [Nat.blt] using h),h'⟩
theorem rE {all:List Oper}{x y:Oper}(h:oF all x y=false):(∀t,x.dst=some t→t ∉ lM all y)∧(∀t,x.dst=some t→y.dst≠some t)∧(∀t,y.dst=some t→t ∉ lM all x):=by
 unfold oF at h;simp only [Bool.or_eq_false_iff] at h;obtain ⟨h1,h2⟩:=h;refine ⟨fun t ht hm=> ?_,fun t ht hy=> ?_,fun t ht hm=> ?_⟩;simp only [ht,Bool.or_eq_false_iff] at h1;rw [dp.2 hm] at h1;cases h1.1;simp [ht,hy] at h1;simp only [ht] at h2;rw [dp.2 hm] at h2;cases h2
structure HR where
 r:OH
 D:List Nat
def Iv (m:Mem)(l:Mem):Bool:=l.all fun p=>(lk p.1 m).isSome
def Nh (m l:Mem):Bool:=l.all fun p=>(lk p.1 m).isNone
theorem DS {m l:Mem}(h:Nh m l=true)(k:Nat)(hk:lk k l≠none):lk k m=none:=by
 obtain ⟨c,hc⟩:=Option.ne_none_iff_exists'.1 hk;have:=List.all_eq_true.1 h _ (kO hc);simpa using this
def BX (o:Oper)(h:Hint)(fr:Fr):Option Nat:=
 match o.op,h with
 | .load _ x,.no=>(match ev fr x with
  |some (.one (.ptr c _))=>some c
  |some (.one (.bT c _ _ _))=>some c
  |_=>none)
 | .indexAddr _ x _,.no=>(match ev fr x with
  |some (.one (.all c))=>some c
  |_=>none)
 | .slice _ x _ _ none,.no=>(match ev fr x with
  |some (.one (.aB (.sl _) _))=>some 1000000
  |_=>none)
 |_,_=>none
def LJ (k:Option Nat)(u:Mem):Bool:=
 match k with
 |some c=>(lk c u).isNone
 |none=>false
def ui (all:List Oper)(o:Oper)(D:List Nat)(e:bm)(m:Mem)(done:List ER)(ks:List (Option Nat))(ko:Option Nat):Nat→List ER→Bool
 |_,[]=>true
 |j,p::r=>(bZ j D||((e.jU.isEmpty||(jC (all.getD j default)||Nh (cu (fun _=>true) 0 (done.take j) m) e.jU||LJ (ks.getD j none) e.jU))&&(p.2.jU.isEmpty||(jC o||LJ ko p.2.jU))))&&ui all o D e m done ks ko (j+1) r
def wK (P:Program)(N:Nat)(all:List Oper)(st:St):List Oper→List HR→List ER→List (Option Nat)→Nat→Option (List ER×List Prop×Nat)
 |[],_,done,_,nx=>some (done,[],nx)
 |o::os,r::rs,done,ks,nx=>
  (match o8 P all o r.r (fZ (fun j=>bZ j r.D) 0 done st.fr) (cu (fun j=>bZ j r.D) 0 done st.mem) nx with
  |some (e,cs)=>bif ((K2 N o.dst&&ui all o r.D e st.mem done ks (BX o r.r.h (fZ (fun j=>bZ j r.D) 0 done st.fr)) 0 done)&&Iv (cu (fun j=>bZ j r.D) 0 done st.mem) e.jU)&&kP (cu (fun _=>true) 0 done st.mem) e.new then
   (match wK P N all st os rs (done++[(o.dst,e)]) (ks++[BX o r.r.h (fZ (fun j=>bZ j r.D) 0 done st.fr)]) (nx+e.new.length) with
   |some (l,ky,n)=>some (l,cs++ky,n)
   |none=>none) else none
  |none=>none)
 |_::_,[],_,_,_=>none
def wL (P:Program)(N:Nat)(all:List Oper)(st:St)(os:List Oper)(rs:List HR)(done:List ER)(nx:Nat):Option (List ER×List Prop×Nat):=wK P N all st os rs done [] nx
structure DT (P:Program)(N:Nat)(all:List Oper)(st:St)(cQ:List ER)(K:Nat→Option Nat)(i:Nat)(o:Oper)(D:List Nat):Prop where
 got: ∃(r:OH) (nx:Nat) (e:bm) (cs:List Prop),cQ[i]? =some (o.dst,e)∧o8 P all o r (fZ (fun j=>bZ j D) 0 (cQ.take i) st.fr) (cu (fun j=>bZ j D) 0 (cQ.take i) st.mem) nx=some (e,cs)∧aS cs∧
  K2 N o.dst=true∧(∀k,lk k e.jU≠none→lk k (cu (fun j=>bZ j D) 0 (cQ.take i) st.mem)≠none)∧dK (cu (fun _=>true) 0 (cQ.take i) st.mem) e.new∧
  K i=BX o r.h (fZ (fun j=>bZ j D) 0 (cQ.take i) st.fr)∧
  (∀j d e',j<i→cQ[j]? =some (d,e')→j∈D∨((e.jU=[]∨jC (all.getD j default)=true∨(∀k,lk k e.jU≠none→lk k (cu (fun _=>true) 0 (cQ.take j) st.mem)=none)∨ ∃c,K j=some c∧lk c e.jU=none)∧(e'.jU=[]∨jC o=true∨ ∃c,K i=some c∧lk c e'.jU=none)))
theorem yW {k:Option Nat}{u:Mem}(h:LJ k u=true): ∃c,k=some c∧lk c u=none:=by
 unfold LJ at h;cases k with
 |none=>cases h
 |some c=>exact ⟨c,rfl,by simpa using h⟩
theorem uR {all:List Oper}{o:Oper}{D:List Nat}{e:bm}{m:Mem}{done:List ER}{ks:List (Option Nat)}{ko:Option Nat}: ∀{l:List ER} {n:Nat},ui all o D e m done ks ko n l=true→ ∀j d e',l[j]? =some (d,e')→(n+j)∈D∨((e.jU=[]∨jC (all.getD (n+j) default)=true∨(∀k,lk k e.jU≠none→lk k (cu (fun _=>true) 0 (done.take (n+j)) m)=none)∨ ∃c,ks.getD (n+j) none=some c∧lk c e.jU=none)∧(e'.jU=[]∨jC o=true∨ ∃c,ko=some c∧lk c e'.jU=none))
 |[],_,_,j,d,e',hj=>by simp at hj
 |p::r,n,h,0,d,e',hj=>by
  simp only [List.getElem?_cons_zero,Option.some.injEq] at hj;subst hj;simp only [ui,Bool.and_eq_true,Bool.or_eq_true,List.isEmpty_iff] at h;rcases h.1 with h|⟨h,h2⟩
  exact .inl (dp.1 h);refine .inr ⟨?_,h2.imp id fun h=>h.imp id yW⟩;rcases h with h|(h|h)|h
  exact .inl h;exact .inr (.inl h);exact .inr (.inr (.inl (DS h)));exact .inr (.inr (.inr (yW h)))
 |p::r,n,h,j+1,d,e',hj=>by
  simp only [ui,Bool.and_eq_true] at h;have:=uR h.2 j d e' (by simpa using hj);rwa [show n+1+j=n+(j+1) from by omega] at this
theorem DU {m l:Mem}(h:Iv m l=true)(k:Nat)(hk:lk k l≠none):lk k m≠none:=by
 obtain ⟨c,hc⟩:=Option.ne_none_iff_exists'.1 hk;have:=List.all_eq_true.1 h _ (kO hc);intro e;rw [e] at this;cases this
theorem uS {P:Program}{N:Nat}{all:List Oper}{st:St}: ∀{os:List Oper} {rs:List HR} {done cQ:List ER} {ks:List (Option Nat)} {cs:List Prop} {nx nx':Nat},ks.length=done.length→wK P N all st os rs done ks nx=some (cQ,cs,nx')→aS cs→
 (∃l,cQ=done++l∧l.length=os.length)∧ ∃K:Nat→Option Nat,(∀j,j<done.length→K j=ks.getD j none)∧ ∀(i:Nat) (o:Oper),os[i]? =some o→DT P N all st cQ K (done.length+i) o ((rs.map HR.D).getD i [])
 |[],rs,done,cQ,ks,cs,nx,nx',_,h,_=>by
  simp only [wK] at h;injection h with h;injection h with h1 h;subst h1;exact ⟨⟨[],by simp,rfl⟩,fun j=>ks.getD j none,fun _ _=>rfl,fun i o ho=>by simp at ho⟩
 |o::os,[],done,cQ,ks,cs,nx,nx',_,h,_=>by cases h
 |o::os,r::rs,done,cQ,ks,cs,nx,nx',XQ,h,hc=>by
  simp only [wK] at h;split at h
  ·rename_i e Hu hi;cases hb:(((K2 N o.dst&&ui all o r.D e st.mem done ks (BX o r.r.h (fZ (fun j=>bZ j r.D) 0 done st.fr)) 0 done)&&Iv (cu (fun j=>bZ j r.D) 0 done st.mem) e.jU)&&kP (cu (fun _=>true) 0 done st.mem) e.new) with
   |false=>rw [hb] at h;cases h
   |true=>
    rw [hb] at h;simp only [cond_true] at h;simp only [Bool.and_eq_true] at hb;obtain ⟨⟨⟨hd,hp⟩,hu⟩,hf⟩:=hb;split at h
    ·rename_i l ky n hr;injection h with h;injection h with h1 h;injection h with h2 h3;subst h1;subst h2;obtain ⟨A5,bQ⟩:=hc.append;obtain ⟨⟨l',e1,e2⟩,K,hK,Bf⟩:=uS (by simp [XQ]) hr bQ;have XR: ∀j,j<done.length→K j=ks.getD j none:=fun j hj=>by
      rw [hK j (by simp;omega),List.getD_eq_getElem?_getD,List.getElem?_append_left (by omega),←List.getD_eq_getElem?_getD]
     have Un:K done.length=BX o r.r.h (fZ (fun j=>bZ j r.D) 0 done st.fr):=by
      rw [hK done.length (by simp),List.getD_eq_getElem?_getD,List.getElem?_append_right (by omega),XQ,Nat.sub_self];rfl
     refine ⟨⟨(o.dst,e)::l',by rw [e1];simp,by simp [e2]⟩,K,XR,fun i o' uE=> ?_⟩;cases i with
     |zero=>
      simp at uE;subst uE;have ht:l.take done.length=done:=by rw [e1];simp
      refine ⟨⟨r.r,nx,e,Hu,?_,?_,A5,hd,?_,?_,?_,?_⟩⟩;rw [e1];simp;simp only [Nat.add_zero,ht,List.map_cons];exact hi;simp only [Nat.add_zero,ht,List.map_cons];exact DU hu;simp only [Nat.add_zero,ht];exact eN hf;simp only [Nat.add_zero,ht,List.map_cons];exact Un
      ·intro j d e' hj XS;have Fe:j<done.length:=by simpa using hj
       have VO:done[j]? =some (d,e'):=by
        rw [e1,List.append_assoc,List.getElem?_append_left Fe] at XS;exact XS
       have:=uR hp j d e' VO;rw [Nat.zero_add] at this;have e5:l.take j=done.take j:=by rw [e1,List.append_assoc,List.take_append_of_le_length (by omega)]
       rw [e5,XR j Fe,Nat.add_zero,Un];exact this
     |succ i=>
      have:=Bf i o' (by simpa using uE);have hlen:(done++[(o.dst,e)]).length+i=done.length+(i+1):=by simp;omega
      rw [hlen] at this;simpa using this
    cases h
  cases h
theorem DV {P:Program}{N:Nat}{all:List Oper}{st:St}{os:List Oper}{rs:List HR}{cQ:List ER}{cs:List Prop}{nx nx':Nat}(h:wL P N all st os rs [] nx=some (cQ,cs,nx'))(hc:aS cs):
 (∃l,cQ=[]++l∧l.length=os.length)∧ ∃K:Nat→Option Nat,∀(i:Nat) (o:Oper),os[i]? =some o→DT P N all st cQ K (([]:List ER).length+i) o ((rs.map HR.D).getD i []):=by
 obtain ⟨h1,K,_,h2⟩:=uS (done:=[]) (ks:=[]) rfl h hc;exact ⟨h1,K,h2⟩
theorem rX {sel:Nat→Bool}{t:Tmp}: ∀{l:List ER} {n i:Nat},(∀j,i≤j→sel (n+j)=false)→gw sel t n (l.take i)=gw sel t n l
 |[],_,_,_=>by simp
 |(d,e)::r,n,0,h=>by
  have:gw sel t n ((d,e)::r)=gw (fun _=>false) t n ((d,e)::r):=jN fun j _ _ _ _=>h j (Nat.zero_le _);rw [this];have hf: ∀(l:List ER) (n:Nat),gw (fun _=>false) t n l=none:=by
   intro l;induction l with
   |nil=>intro _;rfl
   |cons p l ih=>intro n;obtain ⟨d,e⟩:=p;simp [gw,ih]
  rw [hf];rfl
 |(d,e)::r,n,i+1,h=>by
  simp only [List.take_succ_cons,gw];rw [rX (fun j hj=>by have:=h (j+1) (by omega);rwa [show n+(j+1)=n+1+j from by omega] at this)]
theorem lP {l:List ER}{i j:Nat}{p:ER}(h:(l.take i)[j]? =some p):j<i∧l[j]? =some p:=by
 rw [List.getElem?_take] at h;split at h;rename_i hlt;exact ⟨hlt,h⟩;cases h
theorem Iw {fr og:Fr}{x:Operand}(h: ∀t,x= .tmp t→lk t og=lk t fr):ev og x=ev fr x:=by
 cases x with
 |tmp t=>exact h t rfl
 |_=>rfl
theorem uj {fr og:Fr}: ∀{xs:List Operand},(∀x∈xs,ev og x=ev fr x)→Ik og xs=Ik fr xs
 |[],_=>rfl
 |x::xs,h=>by simp only [Ik];rw [h x (by simp),uj fun y hy=>h y (by simp [hy])]
theorem uk {fr og:Fr}: ∀{xs:List (Nat×Operand)},(∀x∈xs.map (·.2),ev og x=ev fr x)→xO og xs=xO fr xs
 |[],_=>rfl
 |(i,x)::xs,h=>by simp only [xO];rw [h x (by simp),uk fun y hy=>h y (by simp only [List.map_cons,List.mem_cons];exact .inr hy)]
theorem qT {fr og:Fr}{x:Option Operand}(h: ∀y,x=some y→ev og y=ev fr y):K1 og x=K1 fr x:=by
 cases x with
 |none=>rfl
 |some y=>simp only [K1];rw [h y rfl]
theorem GL {P:Program}{fr og:Fr}{m:Mem}{nx:Nat}{h:Hint}{o:Oper}(hk: ∀x∈o.op.operands.toList,ev og x=ev fr x):vA P og m nx h o=vA P fr m nx h o:=by
 unfold vA;cases ho:o.op<;>rw [ho] at hk<;>simp only [Op.operands] at hk<;>try simp only
 case move x=>rw [hk x (by simp)]
 case assign x=>rw [hk x (by simp)]
 case pick c x y=>
  have e1:=hk c (by simp);have e2:=hk x (by simp);have e3:=hk y (by simp);have e4: ∀b:Bool,ev og (bif b then x else y)=ev fr (bif b then x else y):=fun b=>by cases b<;>assumption
  simp only [e1,e4]
 case box T x=>rw [hk x (by simp)]
 case build T ps=>rw [uk fun x hx=>hk x (by simpa using hx)]
 case buildSlice T n ps=>rw [uk fun x hx=>hk x (by simpa using hx)]
 case load T x=>rw [hk x (by simp)]
 case store T x y=>rw [hk x (by simp),hk y (by simp)]
 case nilCheck x=>rw [hk x (by simp)]
 case binOp op T x y T'=>rw [hk x (by simp),hk y (by simp)]
 case unOp op T x=>rw [hk x (by simp)]
 case convert T U x=>rw [hk x (by simp)]
 case makeSlice T l c=>rw [hk l (by simp),hk c (by simp)]
 case slice T x lo hi mx=>
  cases mx with
  |some q=>
   try simp only
   rw [hk x (by simp),hk q (by simp),qT fun y hy=>hk y (by subst hy;simp),qT (x:=hi) fun y hy=>hk y (by subst hy;simp)]
  |none=>
   try simp only
   rw [hk x (by simp),qT fun y hy=>hk y (by subst hy;simp),qT (x:=hi) fun y hy=>hk y (by subst hy;simp)]
 case fieldAddr T x f=>rw [hk x (by simp)]
 case indexAddr T x i=>rw [hk x (by simp),hk i (by simp)]
 case index T x i=>rw [hk x (by simp),hk i (by simp)]
 case extract x i=>rw [hk x (by simp)]
 case makeFunc fn first captured=>
  have fR: ∀x∈captured.toList,ev og x=ev fr x:=fun x hx=>hk x (by simp only [Array.toList_append,List.mem_append];exact .inr hx);cases fn with
  |func f=>
   try simp only
   rw [uj fR]
  |_=>rfl
 case call c=>
  cases hc:c.callee with
  |builtin b=>
   simp only;have ha: ∀x∈c.args.toList,ev og x=ev fr x:=fun x hx=>hk x (by simp [Call.operands,hc];simpa using hx);unfold oD;split;rename_i x T kD _;rw [ha x (by rw [kD];simp)];rename_i s x T T' kD _;rw [ha s (by rw [kD];simp),ha x (by rw [kD];simp)];rename_i _ x y kD;rw [ha x (by rw [kD];simp),ha y (by rw [kD];simp)];rename_i _ x y kD;rw [ha x (by rw [kD];simp),ha y (by rw [kD];simp)];rename_i x y T T' kD _;rw [ha x (by rw [kD];simp),ha y (by rw [kD];simp)];rename_i x T kD _;rw [ha x (by rw [kD];simp)];rfl
  |value f=>
   simp only;rw [hk f (by simp [Call.operands,hc]),uj fun x hx=>hk x (by simp [Call.operands,hc];exact .inr (by simpa using hx))]
  |invoke r n=>rfl
theorem FD {P:Program}{fr:Fr}{m m':Mem}{nx c:Nat}{h:Hint}{o:Oper}{e:bm}(hk:BX o h fr=some c)(hm: ∀ch,lk c m=some ch→lk c m'=some ch)(he:vA P fr m nx h o=some e):vA P fr m' nx h o=some e∧e.new=[]∧e.jU=[]:=by
 have BY: ∀{v:au} {e:bm},bn v=some e→e.new=[]∧e.jU=[]:=by
  intro v e h;injection h with h;subst h;exact ⟨rfl,rfl⟩
 have K3: ∀{v:au} {c:List Prop} {e:bm},fj v c=some e→e.new=[]∧e.jU=[]:=by
  intro v c e h;injection h with h;subst h;exact ⟨rfl,rfl⟩
 unfold BX at hk;unfold vA at he⊢;cases ho:o.op<;>rw [ho] at hk he<;>(try simp only at he⊢)<;>try (simp only at hk;cases hk;done)
 case load T x=>
  cases h<;>simp only at hk<;>try (cases hk;done)
  split at hk;rename_i c' off hv;injection hk with hk;subst hk;rw [hv] at he⊢;simp only [pX,Hint.uL,cond_false] at he⊢;unfold oq at he⊢;split at he;rename_i heq _ _;cases heq;rename_i heq _ _;cases heq;rename_i c0 n ag It By heq hs ha;injection heq with heq;subst heq
  (try simp only [hs,ha])
  simp only [mf] at he⊢;cases hx:lk c' m with
  |none=>rw [hx] at he;simp at he
  |some ch=>
   rw [hx] at he;rw [hm ch hx];refine ⟨he,?_⟩;split at he;split at he;exact BY he;cases he;cases he
  cases he;rename_i c' i sz off hv;injection hk with hk;subst hk;rw [hv] at he⊢;simp only [pX,Hint.uL,cond_false] at he⊢;unfold oq at he⊢;split at he;rename_i c0 i0 sz0 Y4 n ag heq hs ha;injection heq with heq;injection heq with q1 q2 q3 q4;subst q1;subst q2;subst q3;subst q4
  (try simp only [hs,ha])
  cases hx:lk c' m with
  |none=>rw [hx] at he;simp at he
  |some ch=>
   rw [hx] at he;rw [hm ch hx];refine ⟨he,?_⟩;cases ch with
   |seq t xs=>
    simp only at he;revert he;generalize (_&&_:Bool)=q;intro he;cases q;cases he;simp only [cond_true] at he;split at he;exact K3 he;cases he
   |nu t xs j cs ks=>
    simp only at he;revert he;generalize (_&&_:Bool)=q;intro he;cases q;cases he;simp only [cond_true] at he;split at he;exact K3 he;cases he
   |box cs=>cases he
   |mp=>cases he
   |gh=>cases he
   |n9=>cases he
   |gone=>cases he
  rename_i heq _ _;cases heq;rename_i c0 n ag It By heq hs ha;injection heq with heq;exact absurd heq.symm (It _ _ _ _);cases he;cases hk
 case slice T x lo hi q=>
  cases h<;>cases q<;>simp only at hk<;>try (cases hk;done)
  split at hk
  ·rename_i t xs hv;simp only at he⊢;rw [hv] at he⊢;split at he
   ·rename_i v l h' heq hl hh;injection heq with heq;subst heq
    (try simp only [hl,hh])
    unfold rL at he⊢;cases hu:P.underlying T with
    |none=>rw [hu] at he;cases he
    |some u=>
     rw [hu] at he;cases u<;>simp only at he⊢ <;>try (cases he;done)
     refine ⟨he,?_⟩;split at he;revert he;generalize (_==some t.size:Bool)=b;intro he;cases b;cases he;exact K3 he;cases he
   cases he
  cases hk
 case indexAddr T x i=>
  cases h<;>simp only at hk<;>try (cases hk;done)
  split at hk;rename_i c' hv;injection hk with hk;subst hk;rw [hv] at he⊢;cases hi:ev fr i with
  |none=>rw [hi] at he;cases he
  |some j=>
   rw [hi] at he;simp only at he⊢;have hA:sJ P T (.one (.all c')) j=none:=by
    unfold sJ;split;rename_i hx;cases hx;rfl
   unfold gY at he⊢;rw [hA] at he⊢;simp only at he⊢;unfold jB at he⊢;split at he;rename_i el k n hu
   (try simp only [hu])
   split at he;rename_i heq _;cases heq;rename_i c0 kz heq hs;injection heq with heq;injection heq with heq;subst heq
   (try simp only [hs])
   cases hx:lk c' m with
   |none=>rw [hx] at he;simp at he
   |some ch=>
    rw [hx] at he;rw [hm ch hx];refine ⟨he,?_⟩;cases ch with
    |seq t xs=>
     simp only at he;revert he;generalize (Nat.beq _ _:Bool)=q;intro he;cases q;cases he;exact K3 he
    |nu t xs j cs ks=>
     simp only at he;revert he;generalize (Nat.beq _ _:Bool)=q;intro he;cases q;cases he;exact K3 he
    |box cs=>cases he
    |mp=>cases he
    |gh=>cases he
    |n9=>cases he
    |gone=>cases he
   rename_i heq _;cases heq;rename_i heq _;cases heq;cases he;cases he
  cases hk
theorem BZ {P:Program}{all:List Oper}{fr og:Fr}{m m':Mem}{nx:Nat}{o:Oper}{hh:Hint}{x:bm×List Prop}(hf: ∀t∈lM all o,lk t og=lk t fr)(hm:MM m m')(h:rD P all o hh fr m nx=some x):rD P all o hh og m' nx=some x:=by
 have hk: ∀x∈o.op.operands.toList,ev og x=ev fr x:=fun x hx=>Iw fun t ht=>hf t (by
  unfold lM;refine List.mem_append.2 (.inl (List.mem_filterMap.2 ⟨x,hx,?_⟩));rw [ht])
 have hi: ∀e,vA P fr m nx hh o=some e→vA P og m' nx hh o=some e:=fun e he=>by
  rw [GL hk];exact Iu hm he
 unfold rD at h⊢;cases hg:o.guard with
 |none=>
  rw [hg] at h;simp only at h⊢;cases hx:vA P fr m nx hh o with
  |none=>simp [hx] at h
  |some e=>rw [hx] at h;rw [hi e hx];exact h
 |some p=>
  obtain ⟨j,want⟩:=p;rw [hg] at h;simp only at h⊢;have Y5:(th all j).bind (fun t=>lk t og)=(th all j).bind (fun t=>lk t fr):=by
   cases hs:th all j with
   |none=>rfl
   |some t=>
    simp only [Option.bind_some];exact hf t (by unfold lM;simp [hg,hs])
  rw [Y5];split at h;rename_i b hb;cases fy:(b==want) with
  |false=>rw [fy] at h;exact h
  |true=>
   rw [fy] at h;simp only [cond_true] at h⊢;cases hx:vA P fr m nx hh o with
   |none=>simp [hx] at h
   |some e=>rw [hx] at h;rw [hi e hx];exact h
  exact h;cases h
theorem rY {P:Program}{all:List Oper}{fr og:Fr}{m m':Mem}{nx:Nat}{o:Oper}{r:OH}{x:bm×List Prop}(hf: ∀t∈lM all o,lk t og=lk t fr)(hm:MM m m')(h:o8 P all o r fr m nx=some x):o8 P all o r og m' nx=some x:=by
 unfold o8 at h⊢;cases hx:rD P all o r.h fr m nx with
 |none=>rw [hx] at h;cases h
 |some y=>rw [hx] at h;rw [BZ hf hm hx];exact h
theorem B0 {P:Program}{all:List Oper}{fr og:Fr}{m m':Mem}{nx c:Nat}{o:Oper}{r:OH}{e:bm}{cs:List Prop}(hk:BX o r.h fr=some c)(hf: ∀t∈lM all o,lk t og=lk t fr)(hm: ∀ch,lk c m=some ch→lk c m'=some ch)(h:o8 P all o r fr m nx=some (e,cs)):
 o8 P all o r og m' nx=some (e,cs)∧e.new=[]∧e.jU=[]:=by
 have h1:o8 P all o r fr m' nx=some (e,cs)∧e.new=[]∧e.jU=[]:=by
  obtain ⟨e0,Hu,h0,_,hn,hu,_⟩:=wC h;have key:rD P all o r.h fr m' nx=some (e0,Hu)∧e0.new=[]∧e0.jU=[]:=by
   clear h hn hu;unfold rD at h0⊢;cases hg:o.guard with
   |none=>
    rw [hg] at h0;simp only at h0⊢;cases hx:vA P fr m nx r.h o with
    |none=>simp [hx] at h0
    |some e'=>
     rw [hx] at h0;obtain ⟨k1,k2,k3⟩:=FD hk hm hx;rw [k1];injection h0 with h0;injection h0 with h1 h2;subst h1;exact ⟨by simp only [h2],k2,k3⟩
   |some p=>
    obtain ⟨j,want⟩:=p;rw [hg] at h0;simp only at h0⊢;split at h0;rename_i b hb;cases fy:(b==want) with
    |false=>
     rw [fy] at h0;simp only [cond_false] at h0⊢;injection h0 with h0;injection h0 with h1 h2;subst h1;exact ⟨by rw [h2],rfl,rfl⟩
    |true=>
     rw [fy] at h0;simp only [cond_true] at h0⊢;cases hx:vA P fr m nx r.h o with
     |none=>simp [hx] at h0
     |some e'=>
      rw [hx] at h0;obtain ⟨k1,k2,k3⟩:=FD hk hm hx;rw [k1];injection h0 with h0;injection h0 with h1 h2;subst h1;exact ⟨by simp only [h2],k2,k3⟩
    injection h0 with h0;injection h0 with h1 h2;subst h1;exact ⟨by rw [h2],rfl,rfl⟩;cases h0
  refine ⟨?_,by rw [hn];exact key.2.1,by rw [hu];exact key.2.2⟩;unfold o8 at h⊢;rw [h0] at h;rw [key.1];exact h
 exact ⟨rY hf (fun _ _ h=>h) h1.1,h1.2⟩
end Go.Ide
namespace Go.Ide
section
variable {cx:Cx} {g:GM} {st:St} {a:Act} {w:World}
theorem bD.congr {og:Fr}{m':Mem}{nx':Nat}(h:bD cx g st a w)(hf: ∀t v,lk t og=some v→lk t st.fr=some v)(hm: ∀k,lk k m'=lk k st.mem):bD cx g ⟨og,m',nx'⟩ a w:=by
 have h1:bD cx g (st.gZ m' nx') a w:=h.tV (G:=[]) ⟨aH.refl _ _,fun b hb=>(by simp at hb),fun _ _=>rfl,fun k ch hk=> .inl ⟨(hm k).trans hk,fun _ b _ _ hb=>by simp at hb⟩,fun k ch hk dS=>by
  rw [hm,hk] at dS;cases dS⟩
 exact ⟨h1.defers,h1.size,fun t v hl=>h1.fr t v (hf t v hl),h1.mem,h1.eH,h1.gp,h1.lt,h1.ar,h1.own,h1.gl⟩
theorem bD.drew (h:bD cx g st a w):bD cx g st a w.drew:=by
 have h1:bD cx g (st.gZ st.mem st.nx) a w.drew:=h.tV (G:=[]) ⟨aH.drew _ _,fun b hb=>(by simp at hb),fun _ _=>rfl,fun k ch hk=> .inl ⟨hk,fun _ b _ _ hb=>by simp at hb⟩,fun k ch hk dS=>by
  rw [hk] at dS;cases dS⟩
 exact h1
theorem wM {α:Type}: ∀{l:List (Nat×α)} {p:Nat×α},p∈l→lk p.1 l≠none
 |q::l,p,h=>by
  obtain ⟨k,x⟩:=q;rw [aw];split;simp;rename_i cX;rcases List.mem_cons.1 h with e|h
  subst e;exact absurd rfl cX;exact wM h
theorem qc {sel sel':Nat→Bool}{k:Nat}: ∀{l:List ER} {n:Nat},(∀(j:Nat) (d:Option Tmp) (e:bm),l[j]? =some (d,e)→lk k (kS e)≠none→sel (n+j)=sel' (n+j))→dV sel k n l=dV sel' k n l
 |[],_,_=>rfl
 |(d,e)::r,n,h=>by
  simp only [dV];have ih:dV sel k (n+1) r=dV sel' k (n+1) r:=qc fun j d e hj hd=>by
   have:=h (j+1) d e (by simpa using hj) hd;have e1:n+(j+1)=n+1+j:=by omega
   rw [e1] at this;exact this
  have hh:(if sel n=true then lk k (kS e) else none)=if sel' n=true then lk k (kS e) else none:=by
   cases hk:lk k (kS e) with
   |none=>simp
   |some c=>
    have h0:sel n=sel' n:=by simpa using h 0 d e rfl (by rw [hk];simp)
    rw [h0]
  rw [ih,hh]
structure kE (P:Program)(N:Nat)(all:List Oper)(st:St)(h:Nat)(Ds:List (List Nat))(cQ:List ER)(K:Nat→Option Nat):Prop where
 len:cQ.length=h
 ok: ∀i,i<h→ ∃o,all[i]? =some o∧DT P N all st cQ K i o (Ds.getD i [])
 z7: ∀i o,all[i]? =some o→(∀d∈eu o,d<i)∧(∀j∈Ds.getD i [],j∈eu o∨ ∃d∈eu o,j∈Ds.getD d [])∧(∀j,j<i→j∈Ds.getD i []∨(i<h∧oF all (all.getD j default) o=false))
variable {P:Program} {N:Nat} {all:List Oper} {h:Nat} {Ds:List (List Nat)} {cQ:List ER} {K:Nat→Option Nat}
theorem kE.lt (H:kE P N all st h Ds cQ K): ∀(i j:Nat) (o:Oper),all[i]? =some o→j∈Ds.getD i []→j<i:=by
 intro i;induction i using Nat.strongRecOn with
 |_ i ih=>
  intro j o ho hj;obtain ⟨h1,h2,_⟩:=H.z7 i o ho;rcases h2 j hj with hd|⟨d,hd,hj⟩
  exact h1 j hd;have K4:=h1 d hd;have hlt:i<all.length:=(List.getElem?_eq_some_iff.1 ho).1;exact Nat.lt_trans (ih d K4 j all[d] (List.getElem?_eq_getElem (Nat.lt_trans K4 hlt)) hj) K4
theorem kE.er (H:kE P N all st h Ds cQ K){i:Nat}{d:Option Tmp}{e:bm}(he:cQ[i]? =some (d,e)):i<h∧ ∃o,all[i]? =some o∧d=o.dst∧all.getD i default=o:=by
 have hlt:i<h:=by rw [←H.len];exact (List.getElem?_eq_some_iff.1 he).1
 obtain ⟨o,ho,⟨⟨r,nx,e',cs,h1,_⟩⟩⟩:=H.ok i hlt;rw [he] at h1;injection h1 with h1;injection h1 with h1 h2;refine ⟨hlt,o,ho,h1,?_⟩;rw [List.getD_eq_getElem?_getD,ho];rfl
theorem Ix {k:Nat}{e:bm}(h:lk k (kS e)=none):lk k e.new=none:=by
 unfold kS at h;rw [a8,Option.or_eq_none_iff] at h;exact h.2
theorem kE.uniq (H:kE P N all st h Ds cQ K){i j:Nat}{d d':Option Tmp}{e e':bm}{k:Nat}(hi:cQ[i]? =some (d,e))(hj:cQ[j]? =some (d',e'))(hk:lk k e.new≠none)(dS:lk k e'.new≠none):i=j:=by
 have aux: ∀{i j:Nat} {d d':Option Tmp} {e e':bm},cQ[i]? =some (d,e)→cQ[j]? =some (d',e')→lk k e.new≠none→lk k e'.new≠none→ ¬i<j:=by
  intro i j d d' e e' hi hj hk dS hlt;obtain ⟨_,o,ho,_⟩:=H.er hj;obtain ⟨o',_,⟨⟨r,nx,e1,cs,h1,_,_,_,_,hf,_⟩⟩⟩:=H.ok j (H.er hj).1;rw [hj] at h1;injection h1 with h1;injection h1 with _ h1;subst h1;obtain ⟨c,hc⟩:=Option.ne_none_iff_exists'.1 dS;have hz:=hf _ (kO hc);rw [dz,Option.or_eq_none_iff] at hz;exact hk (Ix (mP hz.1 i d e (by rw [List.getElem?_take,if_pos hlt];exact hi) rfl))
 rcases Nat.lt_trichotomy i j with h|h|h
 exact absurd h (aux hi hj hk dS);exact h;exact absurd h (aux hj hi dS hk)
theorem kE.z8 (H:kE P N all st h Ds cQ K){i:Nat}{d:Option Tmp}{e:bm}{k:Nat}(hi:cQ[i]? =some (d,e))(hk:lk k e.new≠none):lk k st.mem=none:=by
 obtain ⟨o',_,⟨⟨r,nx,e1,cs,h1,_,_,_,_,hf,_⟩⟩⟩:=H.ok i (H.er hi).1;rw [hi] at h1;injection h1 with h1;injection h1 with _ h1;subst h1;obtain ⟨c,hc⟩:=Option.ne_none_iff_exists'.1 hk;have hz:=hf _ (kO hc);rw [dz,Option.or_eq_none_iff] at hz;exact hz.2
theorem yX {m:Mem}{nx:Nat}{hh:Hint}{fr:Fr}{o:Oper}{e:bm}(hb:jC o=true)(he:vA P fr m nx hh o=some e):e.new=[]∧e.jU=[]:=by
 unfold vA at he;unfold jC at hb;have BY: ∀{v:au} {e:bm},bn v=some e→e.new=[]∧e.jU=[]:=by
  intro v e h;injection h with h;subst h;exact ⟨rfl,rfl⟩
 have K3: ∀{v:au} {c:List Prop} {e:bm},fj v c=some e→e.new=[]∧e.jU=[]:=by
  intro v c e h;injection h with h;subst h;exact ⟨rfl,rfl⟩
 cases ho:o.op<;>rw [ho] at hb he<;>try (cases hb;done)
 all_goals simp only at he
 case move=>split at he;exact BY he;cases he
 case assign=>split at he;exact BY he;cases he
 case pick=>
  split at he;split at he;exact BY he;cases he;cases he
 case binOp=>
  split at he;unfold yP at he;split at he;split at he;split at he;exact BY he;unfold Ib at he;split at he<;>first|exact BY he|cases he
  cases he;unfold mu at he;split at he;rename_i T _ _ _ _ _ _ _ _ _;revert he;generalize (_||_:Bool)=q;intro he;cases q;simp only [cond_false] at he;split at he<;>first|exact BY he|cases he
  cases he;cases he;unfold Gj at he;split at he;split at he;unfold Di at he;split at he<;>first|exact K3 he|cases he
  split at he;unfold Lj at he;split at he<;>first|exact BY he|exact K3 he|(split at he<;>first|exact BY he|cases he)
  cases he;unfold N0 at he;split at he<;>first|exact BY he|exact K3 he|cases he
  split at he<;>first|exact BY he|cases he
  cases he;cases he
 case unOp=>
  split at he;unfold LB at he;split at he;exact BY he;unfold Ua at he;split at he<;>first|exact BY he|cases he
  cases he
 case fieldAddr=>
  split at he;unfold oR at he;split at he;split at he;split at he<;>first|exact BY he|cases he
  cases he;cases he;cases he
 case index=>
  split at he;unfold zS at he;split at he<;>first|exact K3 he|cases he
  cases he
 case extract=>
  split at he;unfold sK at he;split at he;split at he;split at he<;>first|exact BY he|cases he
  cases he;cases he;cases he
 case nilCheck=>
  split at he;unfold Ou at he;split at he<;>first|exact BY he|cases he
  cases he
theorem DW {m:Mem}{nx:Nat}{r:OH}{fr:Fr}{o:Oper}{e:bm}{cs:List Prop}(hb:jC o=true)(he:o8 P all o r fr m nx=some (e,cs)):e.new=[]∧e.jU=[]:=by
 obtain ⟨e0,Hu,my,_,hn,hu,_⟩:=wC he;rw [hn,hu];unfold rD at my;split at my;split at my;rename_i e' hi;injection my with my;injection my with e1 _;subst e1
 exact yX hb hi;cases my;split at my;rename_i b _;cases hc:(b==_) with
 |true=>
  rw [hc] at my;simp only [cond_true] at my;split at my;rename_i e' hi;injection my with my;injection my with e1 _;subst e1
  exact yX hb hi;cases my
 |false=>
  rw [hc] at my;injection my with my;injection my with e1 _;subst e1
  exact ⟨rfl,rfl⟩
 injection my with my;injection my with e1 _;subst e1
 exact ⟨rfl,rfl⟩;cases my
theorem GN {m m':Mem}{nx:Nat}{hh:Hint}{fr:Fr}{o:Oper}(hb:jC o=true):vA P fr m nx hh o=vA P fr m' nx hh o:=by
 unfold vA;unfold jC at hb;cases ho:o.op<;>rw [ho] at hb<;>first|rfl|(cases hb;done)
theorem DX {fr og:Fr}{m m':Mem}{nx:Nat}{o:Oper}{r:OH}{x:bm×List Prop}(hb:jC o=true)(hf: ∀t∈lM all o,lk t og=lk t fr)(h:o8 P all o r fr m nx=some x):o8 P all o r og m' nx=some x:=by
 have e:o8 P all o r fr m nx=o8 P all o r fr m' nx:=by
  unfold o8 rD;rw [GN (P:=P) (m:=m) (m':=m') hb]
 rw [e] at h;exact rY hf (fun _ _ hk=>hk) h
theorem kE.blind (H:kE P N all st h Ds cQ K){i:Nat}{d:Option Tmp}{e:bm}(hi:cQ[i]? =some (d,e))(hb:jC (all.getD i default)=true):kS e=[]:=by
 obtain ⟨hlt,o,ho,_,hg⟩:=H.er hi;obtain ⟨o',uE,⟨⟨r,nx,e1,cs,h1,h2,_⟩⟩⟩:=H.ok i hlt;rw [hi] at h1;injection h1 with h1;injection h1 with _ h1;subst h1;rw [ho] at uE;injection uE with uE;subst uE;rw [hg] at hb;obtain ⟨h3,h4⟩:=DW hb h2;unfold kS;rw [h3,h4];rfl
theorem jD {k:Nat}{e:bm}(hk:lk k (kS e)≠none):lk k e.jU≠none∨lk k e.new≠none:=by
 unfold kS at hk;rw [a8] at hk;by_cases h1:lk k e.jU=none;right;intro h2;rw [h1,h2] at hk;exact hk rfl;exact .inl h1
theorem kE.Sj (H:kE P N all st h Ds cQ K){k:Nat}: ∀(j:Nat) (d:Option Tmp) (e:bm),cQ[j]? =some (d,e)→lk k (kS e)≠none→lk k st.mem≠none∨ ∃j2 d2 e2,j2≤j∧cQ[j2]? =some (d2,e2)∧lk k e2.new≠none:=by
 intro j;induction j using Nat.strongRecOn with
 |_ j ih=>
  intro d e hj hk;rcases jD hk with hu|hn
  obtain ⟨o',_,⟨⟨r,nx,e1,cs,h1,_,_,_,hp,_⟩⟩⟩:=H.ok j (H.er hj).1;rw [hj] at h1;injection h1 with h1;injection h1 with _ h1;subst h1;have:=hp k hu;rw [dz] at this;cases hx:dV (fun q=>bZ q (Ds.getD j [])) k 0 (cQ.take j) with
  |none=>rw [hx,Option.none_or] at this;exact .inl this
  |some c=>
   obtain ⟨q,d2,e2,g1,_,g3⟩:=ie hx;obtain ⟨hq,g1⟩:=lP g1;rcases ih q hq d2 e2 g1 (by rw [g3];simp) with h0|⟨j2,d3,e3,h1,h2,h3⟩
   exact .inl h0;exact .inr ⟨j2,d3,e3,by omega,h2,h3⟩
  exact .inr ⟨j,d,e,Nat.le_refl _,hj,hn⟩
theorem kE.pair (H:kE P N all st h Ds cQ K){i j:Nat}{d d':Option Tmp}{e e':bm}(hi:cQ[i]? =some (d,e))(hj:cQ[j]? =some (d',e'))(hlt:j<i)(hn:j ∉ Ds.getD i []):e'.jU=[]∨kS e=[]:=by
 obtain ⟨o',uE,⟨⟨r,nx,e1,cs,h1,RC,_,_,_,_,hK,hp⟩⟩⟩:=H.ok i (H.er hi).1;rw [hi] at h1;injection h1 with h1;injection h1 with _ h1;subst h1;have hg:all.getD i default=o':=by rw [List.getD_eq_getElem?_getD,uE];rfl
 rcases hp j d' e' hlt hj with h|⟨h1,h2⟩
 exact absurd h hn;rcases h2 with h2|h2|⟨c,h2,_⟩
 exact .inl h2;exact .inr (H.blind hi (by rw [hg];exact h2));obtain ⟨_,k1,k2⟩:=B0 (hK.symm.trans h2) (fun _ _=>rfl) (fun _ h=>h) RC;right;unfold kS;rw [k1,k2];rfl
theorem Iy {k:Nat}{e:bm}(h:kS e=[]):lk k (kS e)=none:=by rw [h];rfl
theorem wN {sel:Nat→Bool}{k:Nat}{ch:Chunk}{v:bm}: ∀{l:List ER} {n i:Nat} {d:Option Tmp},l[i]? =some (d,v)→sel (n+i)=true→lk k (kS v)=some ch→(∀(j:Nat) (d:Option Tmp) (e:bm),i<j→l[j]? =some (d,e)→lk k (kS e)≠none→sel (n+j)=false)→dV sel k n l=some ch
 |[],n,i,_,h,_,_,_=>by simp at h
 |(d,e)::r,n,0,d',h,hs,hk,hn=>by
  simp at h;obtain ⟨rfl,rfl⟩:=h;have hz:dV sel k (n+1) r=none:=by
   cases hx:dV sel k (n+1) r with
   |none=>rfl
   |some c=>
    obtain ⟨j,d2,e2,g1,g2,g3⟩:=ie hx;have:=hn (j+1) d2 e2 (by omega) (by simpa using g1) (by rw [g3];simp);rw [show n+(j+1)=n+1+j from by omega,g2] at this;cases this
  simp only [dV];have hs:sel n=true:=by simpa using hs
  rw [hz,if_pos hs,hk];rfl
 |(d,e)::r,n,i+1,d',h,hs,hk,hn=>by
  simp only [dV];have:=wN (l:=r) (n:=n+1) (i:=i) (d:=d') (by simpa using h) (by rwa [show n+(i+1)=n+1+i from by omega] at hs) hk (fun j d e hlt hj hd=>by
   have:=hn (j+1) d e (by omega) (by simpa using hj) hd;rwa [show n+(j+1)=n+1+j from by omega] at this)
  rw [this];rfl
theorem wO {sel:Nat→Bool}{k:Nat}{ch:Chunk}: ∀{l:List ER} {n:Nat},dV sel k n l=some ch→ ∃(j:Nat) (d:Option Tmp) (e:bm),l[j]? =some (d,e)∧sel (n+j)=true∧lk k (kS e)=some ch∧ ∀(q:Nat) (d:Option Tmp) (e:bm),j<q→l[q]? =some (d,e)→lk k (kS e)≠none→sel (n+q)=false
 |[],_,h=>by simp [dV] at h
 |(d,e)::r,n,h=>by
  simp only [dV] at h;cases hx:dV sel k (n+1) r with
  |some c=>
   rw [hx] at h;have h:c=ch:=by simpa using h
   subst h;obtain ⟨j,d',e',h1,h2,h3,h4⟩:=wO hx;refine ⟨j+1,d',e',by simpa using h1,by rwa [show n+(j+1)=n+1+j from by omega],h3,fun q d2 e2 hq Hy hk=> ?_⟩;cases q with
   |zero=>omega
   |succ q=>
    have:=h4 q d2 e2 (by omega) (by simpa using Hy) hk;rwa [show n+(q+1)=n+1+q from by omega]
  |none=>
   rw [hx] at h;simp only [Option.none_or] at h;split at h;rename_i hs;refine ⟨0,d,e,rfl,by simpa using hs,h,fun q d2 e2 hq Hy hk=> ?_⟩;cases q with
   |zero=>omega
   |succ q=>
    cases Q7:sel (n+(q+1)) with
    |false=>rfl
    |true=>exact absurd (mP hx q d2 e2 (by simpa using Hy) (by rwa [show n+1+q=n+(q+1) from by omega])) hk
   cases h
def mQ (st:St)(cQ:List ER)(sel:Nat→Bool)(nx:Nat):St:=⟨fZ sel 0 cQ st.fr,cu sel 0 cQ st.mem,nx⟩
theorem kE.step (H:kE P N all st h Ds cQ K){sel:Nat→Bool}{i:Nat}{o:Oper}(hi:i<h)(ho:all[i]? =some o)(hn:sel i=false)(hd: ∀j∈Ds.getD i [],sel j=true)(hc: ∀j,j<h→sel j=true→ ∀k∈Ds.getD j [],sel k=true):
 ∃(r:OH) (nx:Nat) (e:bm) (cs:List Prop),o8 P all o r (fZ sel 0 cQ st.fr) (cu sel 0 cQ st.mem) nx=some (e,cs)∧aS cs∧K2 N o.dst=true∧dK (cu sel 0 cQ st.mem) e.new∧
  (∀t,lk t (fZ (fun j=>sel j||Nat.beq j i) 0 cQ st.fr)=lk t (match o.dst with|some t'=>(t',e.val)::fZ sel 0 cQ st.fr|none=>fZ sel 0 cQ st.fr))∧
  (∀k,lk k (cu (fun j=>sel j||Nat.beq j i) 0 cQ st.mem)=lk k (e.jU++e.new++cu sel 0 cQ st.mem)):=by
 obtain ⟨o',uE,⟨⟨r,nx,e,cs,h1,h2,h3,h4,h5,h6,Y6,h7⟩⟩⟩:=H.ok i hi;rw [ho] at uE;injection uE with uE;subst uE;have Ni: ∀j,j≠i→Nat.beq j i=false:=fun j hj=>by
  cases hb:Nat.beq j i with
  |false=>rfl
  |true=>exact absurd (aO hb) hj
 have pL: ∀j,i≤j→bZ (0+j) (Ds.getD i [])=false:=fun j hj=>by
  cases hb:bZ (0+j) (Ds.getD i []) with
  |false=>rfl
  |true=>
   have:=H.lt i _ o ho (dp.1 hb);omega
 have Nj: ∀j d e',cQ[j]? =some (d,e')→j≠i→(sel j=bZ j (Ds.getD i []))∨((∀t,d=some t→t ∉ lM all o)∧(∀t,d=some t→o.dst≠some t)):=by
  intro j d e' hj cX;obtain ⟨LK,oj,Oe,LG,VN⟩:=H.er hj;rcases Nat.lt_or_ge j i with hlt|Y7
  rcases (H.z7 i o ho).2.2 j hlt with hm|⟨_,Sk⟩
  left;rw [hd j hm,dp.2 hm];right;rw [VN] at Sk;have:=rE Sk;subst LG;exact ⟨this.1,this.2.1⟩;rcases (H.z7 j oj Oe).2.2 i (by omega) with hm|⟨_,Sk⟩
  left;have e1:=pL j Y7;rw [Nat.zero_add] at e1;rw [e1];cases hs:sel j with
  |false=>rfl
  |true=>rw [hc j LK hs i hm] at hn;cases hn
  right;rw [show all.getD i default=o from by rw [List.getD_eq_getElem?_getD,ho];rfl] at Sk;have:=rE Sk;subst LG;exact ⟨this.2.2,fun t ht he=>this.2.1 t he ht⟩
 have Iz: ∀t∈lM all o,lk t (fZ sel 0 cQ st.fr)=lk t (fZ (fun j=>bZ j (Ds.getD i [])) 0 (cQ.take i) st.fr):=by
  intro t ht;rw [j8,j8,rX pL]
  congr 1
  refine jN fun j d e' hj Oz=> ?_;rw [Nat.zero_add];by_cases DY:j=i;subst DY;have e1:=pL j (Nat.le_refl _);rw [Nat.zero_add] at e1;rw [hn,e1];rcases Nj j d e' hj DY with hp|⟨hp,_⟩
  exact hp;exact absurd ht (hp t Oz)
 have Y8:all.getD i default=o:=by rw [List.getD_eq_getElem?_getD,ho];rfl
 have OA: ∀j d e',cQ[j]? =some (d,e')→i<j→sel j=true→e.jU=[]∨kS e'=[]:=by
  intro j d e' hj Be hs;have LK:=(H.er hj).1;have OB:i ∉ Ds.getD j []:=fun hx=>by rw [hc j LK hs i hx] at hn;cases hn
  exact H.pair hj h1 Be OB
 have Nk: ∀j,sel j=true→ ∀d e' k,cQ[j]? =some (d,e')→lk k e'.jU≠none→lk k e.new≠none→False:=by
  intro j;induction j using Nat.strongRecOn with
  |_ j Y9=>
   intro hs d e' k hj hu j6;obtain ⟨LK,_⟩:=H.er hj;obtain ⟨Za,_,⟨⟨r2,Zb,e2,Nl,p1,_,_,_,p5,_,_⟩⟩⟩:=H.ok j LK;rw [hj] at p1;injection p1 with p1;injection p1 with _ p1;subst p1;have:=p5 k hu;rw [dz,H.z8 h1 j6,Option.or_none] at this;cases hx:dV (fun q=>bZ q (Ds.getD j [])) k 0 (cQ.take j) with
   |none=>exact this hx
   |some c=>
    obtain ⟨q,d3,e3,g1,g2,g3⟩:=ie hx;obtain ⟨hq,g1⟩:=lP g1;rw [Nat.zero_add] at g2;have Q7:=hc j LK hs q (dp.1 g2);rcases jD (k:=k) (e:=e3) (by rw [g3];simp) with hy|hy
    exact Y9 q hq Q7 d3 e3 k g1 hy j6;have:=H.uniq g1 h1 hy j6;subst this;rw [Q7] at hn;cases hn
 have Gy: ∀k,lk k (cu (fun j=>bZ j (Ds.getD i [])) 0 (cQ.take i) st.mem)≠none→lk k (cu (fun _=>true) 0 (cQ.take i) st.mem)≠none:=by
  intro k hk hx;rw [dz,Option.or_eq_none_iff] at hx;rw [dz,hx.2,Option.or_none] at hk;cases hy:dV (fun j=>bZ j (Ds.getD i [])) k 0 (cQ.take i) with
  |none=>exact hk hy
  |some c=>
   obtain ⟨q,d3,e3,g1,_,g3⟩:=ie hy;have:=mP hx.1 q d3 e3 g1 rfl;rw [g3] at this;cases this
 have core: ∀k ch,lk k (cu (fun j=>bZ j (Ds.getD i [])) 0 (cQ.take i) st.mem)=some ch→(∀j d e',cQ[j]? =some (d,e')→j≠i→sel j=true→bZ j (Ds.getD i [])=false→lk k e'.jU=none)→lk k (cu sel 0 cQ st.mem)=some ch:=by
  intro k ch hk IA;rw [dz] at hk⊢;cases hx:dV (fun j=>bZ j (Ds.getD i [])) k 0 (cQ.take i) with
  |some c=>
   rw [hx] at hk;have hk:c=ch:=by simpa using hk
   subst hk;obtain ⟨j,d,e',g1,g2,g3,g4⟩:=wO hx;obtain ⟨DY,g1⟩:=lP g1;rw [Nat.zero_add] at g2;rw [wN (i:=j) (d:=d) (v:=e') g1 (by rw [Nat.zero_add];exact hd j (dp.1 g2)) g3 (fun q d2 e2 hq Hy fR=>by
    rw [Nat.zero_add];cases hs:sel q with
    |false=>rfl
    |true=>
     exfalso;have Dz:q≠i:=by rintro rfl;rw [hs] at hn;cases hn
     cases hm:bZ q (Ds.getD i []) with
     |true=>
      have hlt:=H.lt i q o ho (dp.1 hm);have:=g4 q d2 e2 hq (by rw [List.getElem?_take,if_pos hlt];exact Hy) fR;rw [Nat.zero_add,hm] at this;cases this
     |false=>
      have hu:=IA q d2 e2 Hy Dz hs hm;have j6:lk k e2.new≠none:=by
       rcases jD fR with hx|hx
       exact absurd hu hx;exact hx
      rcases H.Sj j d e' g1 (by rw [g3];simp) with h0|⟨j2,d3,e3,p1,p2,p3⟩
      exact h0 (H.z8 Hy j6);have:=H.uniq p2 Hy p3 j6;omega)]
   rfl
  |none=>
   rw [hx,Option.none_or] at hk;cases hy:dV sel k 0 cQ with
   |none=>rw [Option.none_or];exact hk
   |some c=>
    exfalso;obtain ⟨j,d,e',g1,g2,g3⟩:=ie hy;rw [Nat.zero_add] at g2;have DY:j≠i:=by rintro rfl;rw [g2] at hn;cases hn
    cases hm:bZ j (Ds.getD i []) with
    |true=>
     have hlt:=H.lt i j o ho (dp.1 hm);have:=mP hx j d e' (by rw [List.getElem?_take,if_pos hlt];exact g1) (by rw [Nat.zero_add];exact hm);rw [g3] at this;cases this
    |false=>
     have hu:=IA j d e' g1 DY g2 hm;have j6:lk k e'.new≠none:=by
      rcases jD (k:=k) (e:=e') (by rw [g3];simp) with hx|hx
      exact absurd hu hx;exact hx
     rw [H.z8 g1 j6] at hk;cases hk
 have IB: ∀k,lk k (cu (fun j=>bZ j (Ds.getD i [])) 0 (cQ.take i) st.mem)≠none→jC o=false→(K i=none∨K i=some k)→ ∀j d e',cQ[j]? =some (d,e')→j≠i→sel j=true→bZ j (Ds.getD i [])=false→lk k e'.jU=none:=by
  intro k C9 iT Zc j d e' hj cX hs hm;obtain ⟨LK,oj,Oe,_,_⟩:=H.er hj;have Sl: ∀{u:Mem},(∃c,K i=some c∧lk c u=none)→lk k u=none:=fun {u} ⟨c,q1,q2⟩=>by
   rcases Zc with q|q
   rw [q] at q1;cases q1;rw [q] at q1;injection q1 with q1;rw [q1];exact q2
  rcases Nat.lt_or_ge j i with hlt|Zd
  rcases h7 j d e' hlt hj with hx|hx
  rw [dp.2 hx] at hm;cases hm;rcases hx.2 with hx|hx|hx
  rw [hx];rfl;rw [iT] at hx;cases hx;exact Sl hx;have OB:i ∉ Ds.getD j []:=fun hx=>by rw [hc j LK hs i hx] at hn;cases hn
  obtain ⟨Za,_,⟨⟨r2,Zb,e2,Nl,p1,_,_,_,_,_,_,p7⟩⟩⟩:=H.ok j LK;rw [hj] at p1;injection p1 with p1;injection p1 with _ p1;subst p1;rcases p7 i o.dst e (by omega) h1 with hx|hx
  exact absurd hx OB;rcases hx.1 with hx|hx|hx|hx
  rw [hx];rfl;rw [Y8,iT] at hx;cases hx;cases hy:lk k e'.jU with
  |none=>rfl
  |some c=>exact absurd (hx k (by rw [hy];simp)) (Gy k C9)
  exact Sl hx
 have RC:o8 P all o r (fZ sel 0 cQ st.fr) (cu sel 0 cQ st.mem) nx=some (e,cs):=by
  cases iT:jC o with
  |false=>
   cases VP:K i with
   |none=>exact rY Iz (fun k ch hk=>core k ch hk (IB k (by rw [hk];simp) iT (.inl VP))) h2
   |some c=>exact (B0 (Y6.symm.trans VP) Iz (fun ch hk=>core c ch hk (IB c (by rw [hk];simp) iT (.inr VP))) h2).1
  |true=>exact DX iT Iz h2
 refine ⟨r,nx,e,cs,RC,h3,h4,fun p hp=> ?_,fun t=> ?_,fun k=> ?_⟩;have VQ:lk p.1 e.new≠none:=wM hp;rw [dz,H.z8 h1 VQ,Option.or_none];cases hx:dV sel p.1 0 cQ with
 |none=>rfl
 |some c=>
  exfalso;obtain ⟨j,d,e',g1,g2,g3⟩:=ie hx;rw [Nat.zero_add] at g2;have DY:j≠i:=by rintro rfl;rw [g2] at hn;cases hn
  rcases jD (k:=p.1) (e:=e') (by rw [g3];simp) with hu|j6
  exact Nk j g2 d e' p.1 g1 hu VQ;exact DY (H.uniq g1 h1 j6 VQ)
 have tf:(∀t',o.dst=some t'→t≠t')→lk t (fZ (fun j=>sel j||Nat.beq j i) 0 cQ st.fr)=lk t (fZ sel 0 cQ st.fr):=by
  intro cX;rw [j8,j8]
  congr 1
  refine jN fun j d e' hj Oz=> ?_;rw [Nat.zero_add];have DY:j≠i:=by
   rintro rfl;rw [h1] at hj;injection hj with hj;injection hj with hj _;exact cX t (hj.trans Oz) rfl
  rw [Ni j DY,Bool.or_false]
 cases zR:o.dst with
 |none=>exact tf fun t' RR=>by rw [zR] at RR;cases RR
 |some t'=>
  simp only;rw [aw];by_cases VS:t=t';subst VS;rw [if_pos rfl,j8];rw [BW (i:=i) (v:=e) (by rw [h1,zR]) (by rw [Nat.zero_add];simp) (fun j d e' Be hj Oz=>by
   rw [Nat.zero_add,Ni j (by omega),Bool.or_false];rcases Nj j d e' hj (by omega) with hp|⟨_,hp⟩
   rw [hp];have:=pL j (by omega);rwa [Nat.zero_add] at this;exact absurd zR (hp t Oz))]
  rfl;rw [if_neg VS];exact tf fun t'' LL=>by rw [zR] at LL;injection LL with LL;subst LL;exact VS
 show _=lk k (kS e++cu sel 0 cQ st.mem);rw [a8,dz,dz,←Option.or_assoc]
 congr 1
 cases hk:lk k (kS e) with
 |some c=>
  rw [wN (i:=i) (d:=o.dst) (v:=e) h1 (by simp) hk (fun j d e' Be hj Uo=>by
   rw [Nat.zero_add,Ni j (by omega),Bool.or_false];cases hs:sel j with
   |false=>rfl
   |true=>
    exfalso;have DY:j≠i:=by omega
    have VT:kS e'≠[]:=fun hx=>Uo (Iy hx);have u2:=(OA j d e' hj Be hs).resolve_right VT;have n1:lk k e.new≠none:=by
     rcases jD (k:=k) (e:=e) (by rw [hk];simp) with hx|hx
     rw [u2] at hx;exact absurd rfl hx;exact hx
    rcases jD Uo with hx|hx
    exact Nk j hs d e' k hj hx n1;exact DY (H.uniq hj h1 hx n1))]
  rfl
 |none=>
  rw [Option.none_or];refine qc fun j d e' hj Uo=> ?_;rw [Nat.zero_add];have DY:j≠i:=by
   rintro rfl;rw [h1] at hj;injection hj with hj;injection hj with _ hj;subst hj;exact Uo hk
  rw [Ni j DY,Bool.or_false]
theorem Sm {ops:Array Oper}{Q:Exit→Act→World→Prop}{K:Act→World→Prop}{i:Nat}{o:Oper}(ho:ops[i]? =some o)(h:if Region.wanted o (yielded ops a.tmps) then o.wp P a w K Q else K (a.put o.dst undef) w):wpOp P ops Q i K a w:=by
 unfold wpOp;rw [ho];simp only;by_cases hw:Region.wanted o (yielded ops a.tmps)=true;rw [if_pos hw] at h⊢;exact .inl h;rw [if_neg hw] at h⊢;exact h
def dW (listed:Array Bool)(j:Nat):Bool:=listed.getD j false
theorem rZ {ops:List Oper}{listed:Array Bool}(hs:listed.size=ops.length){i:Nat}(hi:i∈Region.ready .any ops.toArray listed):
 ∃o,ops[i]? =some o∧dW listed i=false∧ ∀d∈eu o,dW listed d=true:=by
 obtain ⟨h0,o,ho,aP⟩:=mem_ready.1 hi;have ho:ops[i]? =some o:=by simpa using ho
 have hlt:i<listed.size:=by rw [hs];exact (List.getElem?_eq_some_iff.1 ho).1
 refine ⟨o,ho,?_,fun d hd=> ?_⟩;unfold dW;simp [Array.getD,hlt] at h0⊢;exact h0;unfold eu at hd;obtain ⟨e,he,rfl⟩:=List.mem_map.1 hd;obtain ⟨he,hb⟩:=List.mem_filter.1 he;exact aP e (by simpa using he) hb
theorem yY {ops:List Oper}{listed:Array Bool}(hs:listed.size=ops.length)(hd: ∀i o,ops[i]? =some o→ ∀d∈eu o,d<i)(hr:Region.ready .any ops.toArray listed=[]): ∀i,i<ops.length→dW listed i=true:=by
 intro i;induction i using Nat.strongRecOn with
 |_ i ih=>
  intro hi;cases hl:dW listed i with
  |true=>rfl
  |false=>
   have:i∈Region.ready .any ops.toArray listed:=by
    refine mem_ready.2 ⟨?_,ops[i],by simp [hi],fun e he hb=> ?_⟩;unfold dW at hl;have hlt:i<listed.size:=by omega
    simp [Array.getD,hlt] at hl⊢;exact hl;have K4:e.on∈eu ops[i]:=List.mem_map.2 ⟨e,List.mem_filter.2 ⟨by simpa using he,hb⟩,rfl⟩;have hlt:=hd i ops[i] (List.getElem?_eq_getElem hi) e.on K4;exact ih e.on hlt (by omega)
   rw [hr] at this;simp at this
theorem qd {listed:Array Bool}{i j:Nat}(hi:i<listed.size):dW (listed.setIfInBounds i true) j=(dW listed j||Nat.beq j i):=by
 unfold dW;by_cases Be:j=i;subst Be;have:Nat.beq j j=true:=Nat.beq_refl j;rw [this];simp [hi];have:Nat.beq j i=false:=by
  cases hb:Nat.beq j i with
  |false=>rfl
  |true=>exact absurd (aO hb) Be
 rw [this,getD_set_ne false (fun e=>Be e.symm)];simp
def todo (listed:Array Bool)(n:Nat):Nat:=((List.range n).filter fun j=> !dW listed j).length
theorem B3 {listed:Array Bool}{i n:Nat}(hi:i<listed.size)(hn:i<n)(hl:dW listed i=false):todo (listed.setIfInBounds i true) n+1≤todo listed n:=by
 unfold todo;have aux: ∀l:List Nat,l.Nodup→i∈l→(l.filter fun j=> !dW (listed.setIfInBounds i true) j).length+1≤(l.filter fun j=> !dW listed j).length:=by
  intro l;induction l with
  |nil=>intro _ h;simp at h
  |cons x l ih=>
   intro lJ hm;simp only [List.nodup_cons] at lJ;by_cases hx:x=i;subst hx;have e1:(!dW (listed.setIfInBounds x true) x)=false:=by rw [qd hi];simp
   have e2:(!dW listed x)=true:=by rw [hl];rfl
   rw [List.filter_cons_of_neg (by simp [e1]),List.filter_cons_of_pos (by simp [hl])];simp only [List.length_cons,Nat.add_le_add_iff_right];refine Nat.le_of_eq ?_
   congr 1
   refine List.filter_congr fun y hy=> ?_;rw [qd hi];have:Nat.beq y x=false:=by
    cases hb:Nat.beq y x with
    |false=>rfl
    |true=>have:=aO hb;subst this;exact absurd hy lJ.1
   rw [this,Bool.or_false];have hm:i∈l:=by
    rcases List.mem_cons.1 hm with e|hm
    exact absurd e.symm hx;exact hm
   have:=ih lJ.2 hm;have e:dW (listed.setIfInBounds i true) x=dW listed x:=by
    rw [qd hi];have:Nat.beq x i=false:=by
     cases hb:Nat.beq x i with
     |false=>rfl
     |true=>exact absurd (aO hb) hx
    rw [this,Bool.or_false]
   cases hs:dW listed x with
   |true=>
    rw [hs] at e;rw [List.filter_cons_of_neg (by simp [e]),List.filter_cons_of_neg (by simp [hs])];exact this
   |false=>
    rw [hs] at e;rw [List.filter_cons_of_pos (by simp [e]),List.filter_cons_of_pos (by simp [hs])];simp only [List.length_cons];omega
 exact aux _ List.nodup_range (List.mem_range.2 hn)
theorem DZ {Q:Exit→Act→World→Prop}(hd: ∀i o,all[i]? =some o→(∀d∈eu o,d<i)∧(∀j∈Ds.getD i [],j∈eu o∨ ∃d∈eu o,j∈Ds.getD d [])∧(∀j,h≤j→j<i→j∈Ds.getD i [])):
 ∀(fuel:Nat) {listed:Array Bool} {i:Nat} {a:Act} {w:World},listed.size=all.length→h≤i→(∀j,j<all.length→(dW listed j=true↔j<i))→i≤all.length→todo listed all.length≤fuel→
  wpList cx.P all.toArray Q (all.drop i) a w→wpAny cx.P .any all.toArray Q fuel listed a w:=by
 intro fuel;have kU: ∀{listed:Array Bool} {i:Nat} {a:Act} {w:World},(∀j,j<all.length→(dW listed j=true↔j<i))→i≤all.length→(∀j,j<all.length→dW listed j=true)→wpList cx.P all.toArray Q (all.drop i) a w→Q .normal a w:=by
  intro listed i a w hl hi kD he;have IC:all.drop i=[]:=by
   rcases Nat.lt_or_ge i all.length with hlt|pL
   have:=(hl i hlt).1 (kD i hlt);omega;exact List.drop_eq_nil_of_le pL
  rw [IC] at he;exact he
 induction fuel with
 |zero=>
  intro listed i a w cY HQ hl hi ID he;have kD: ∀j,j<all.length→dW listed j=true:=fun j hj=>by
   cases hx:dW listed j with
   |true=>rfl
   |false=>
    have:j∈(List.range all.length).filter fun j=> !dW listed j:=List.mem_filter.2 ⟨List.mem_range.2 hj,by rw [hx];rfl⟩;have:=List.length_pos_of_mem this;unfold todo at ID;omega
  refine ⟨?_,kU hl hi kD he⟩;cases hr:Region.ready .any all.toArray listed with
  |nil=>rfl
  |cons x xs=>
   obtain ⟨o,ho,h1,_⟩:=rZ cY (i:=x) (by rw [hr];simp);rw [kD x (List.getElem?_eq_some_iff.1 ho).1] at h1;cases h1
 |succ fuel ih=>
  intro listed i a w cY HQ hl hi ID he;refine ⟨fun hr=>kU hl hi (yY cY (fun i o ho=>(hd i o ho).1) hr) he,fun j hj=> ?_⟩;obtain ⟨o,ho,h1,h2⟩:=rZ cY hj;have Q1:j<all.length:=(List.getElem?_eq_some_iff.1 ho).1;have DY:j=i:=by
   have pL:i≤j:=by
    rcases Nat.lt_or_ge j i with hlt|pL
    rw [(hl j Q1).2 hlt] at h1;cases h1;exact pL
   rcases Nat.lt_or_ge i j with hlt|hle
   have hm:=(hd j o ho).2.2 i HQ hlt;have ma: ∀(n:Nat) (o:Oper),all[n]? =some o→(∀d∈eu o,dW listed d=true)→ ∀k∈Ds.getD n [],dW listed k=true:=by
    intro n;induction n using Nat.strongRecOn with
    |_ n Ze=>
     intro o ho VU k hk;have hlt:n<all.length:=(List.getElem?_eq_some_iff.1 ho).1;rcases (hd n o ho).2.1 k hk with Up|⟨d,Up,od⟩
     exact VU k Up;have VV:=(hd n o ho).1 d Up;have OC:d<all.length:=by omega
     refine Ze d VV all[d] (List.getElem?_eq_getElem OC) (fun d' VW=> ?_) k od;have K4:=(hl d OC).1 (VU d Up);have:=(hd d all[d] (List.getElem?_eq_getElem OC)).1 d' VW;exact (hl d' (by omega)).2 (by omega)
   have:=(hl i (by omega)).1 (ma j o ho h2 i hm);omega;omega
  subst DY;have IC:all.drop j=o::all.drop (j+1):=by
   rw [List.drop_eq_getElem_cons Q1]
   congr 1
   exact (List.getElem?_eq_some_iff.1 ho).2
  rw [IC] at he;simp only [wpList] at he;unfold wpOp;rw [show all.toArray[j]? =some o by simpa using ho];simp only;have Nn: ∀a' w',wpList cx.P all.toArray Q (all.drop (j+1)) a' w'→wpAny cx.P .any all.toArray Q fuel (listed.setIfInBounds j true) a' w':=fun a' w' h'=>by
   refine ih (i:=j+1) (by simp [cY]) (by omega) (fun k hk=> ?_) (by omega) ?_ h';rw [qd (by omega)];simp only [Bool.or_eq_true];rw [hl k hk];constructor;rintro (dS|dS);omega;have:=aO dS;omega;intro dS;rcases Nat.lt_or_ge k j with hlt|pL
   exact .inl hlt;right;have:k=j:=by omega
   subst this;exact Nat.beq_refl _;have:=B3 (listed:=listed) (i:=j) (n:=all.length) (by omega) Q1 h1;omega
  split;rename_i hw;rw [if_pos hw] at he;exact he.imp (Oper.wp_mono Nn) id;rename_i hw;rw [if_neg hw] at he;exact Nn _ _ he
theorem B4 {sel sel':Nat→Bool}(H: ∀j,j<cQ.length→sel j=sel' j)(fr:Fr)(t:Tmp):lk t (fZ sel 0 cQ fr)=lk t (fZ sel' 0 cQ fr):=by
 rw [j8,j8]
 congr 1
 exact jN fun j d e hj _=>by
  rw [Nat.zero_add];exact H j (List.getElem?_eq_some_iff.1 hj).1
theorem Aa {sel sel':Nat→Bool}(H: ∀j,j<cQ.length→sel j=sel' j)(m:Mem)(k:Nat):lk k (cu sel 0 cQ m)=lk k (cu sel' 0 cQ m):=by
 rw [dz,dz]
 congr 1
 exact qc fun j d e hj _=>by
  rw [Nat.zero_add];exact H j (List.getElem?_eq_some_iff.1 hj).1
theorem B5 {Q:Exit→Act→World→Prop}{st:St}{nx0:Nat}(H:kE cx.P cx.N all st h Ds cQ K)(hh:h≤all.length)(hT: ∀g' a' w',bD cx g' (mQ st cQ (fun _=>true) nx0) a' w'→wpList cx.P all.toArray Q (all.drop h) a' w'):
 ∀(fuel:Nat) {listed:Array Bool} {nx:Nat} {g:GM} {a:Act} {w:World},listed.size=all.length→(∀j,dW listed j=true→j<h)→(∀j,j<h→dW listed j=true→ ∀k∈Ds.getD j [],dW listed k=true)→todo listed all.length≤fuel→
  bD cx g (mQ st cQ (dW listed) nx) a w→wpAny cx.P .any all.toArray Q fuel listed a w:=by
 intro fuel;have kU: ∀(fuel:Nat) {listed:Array Bool} {nx:Nat} {g:GM} {a:Act} {w:World},listed.size=all.length→(∀j,dW listed j=true→j<h)→todo listed all.length≤fuel→(∀j,j<h→dW listed j=true)→bD cx g (mQ st cQ (dW listed) nx) a w→wpAny cx.P .any all.toArray Q fuel listed a w:=by
  intro fuel listed nx g a w cY hl ID kD hs;have db:bD cx g (mQ st cQ (fun _=>true) nx0) a w:=hs.congr (fun t v hv=>by
   rw [←hv];exact B4 (sel':=fun _=>true) (fun j hj=>kD j (by rw [←H.len];exact hj)) _ _) (fun k=>(Aa (sel':=fun _=>true) (fun j hj=>kD j (by rw [←H.len];exact hj)) _ _).symm)
  exact DZ (h:=h) (Ds:=Ds) (fun i o ho=>⟨(H.z7 i o ho).1,(H.z7 i o ho).2.1,fun j hj hi=>((H.z7 i o ho).2.2 j hi).resolve_right fun x=>by omega⟩) fuel cY (Nat.le_refl h) (fun j hj=>⟨hl j,kD j⟩) hh ID (hT _ _ _ db)
 induction fuel with
 |zero=>
  intro listed nx g a w cY hl ma ID hs;refine kU 0 cY hl ID (fun j hj=> ?_) hs;cases hx:dW listed j with
  |true=>rfl
  |false=>
   have:j∈(List.range all.length).filter fun j=> !dW listed j:=List.mem_filter.2 ⟨List.mem_range.2 (by omega),by rw [hx];rfl⟩;have:=List.length_pos_of_mem this;unfold todo at ID;omega
 |succ fuel ih=>
  intro listed nx g a w cY hl ma ID hs;by_cases kD: ∀j,j<h→dW listed j=true;exact kU (fuel+1) cY hl ID kD hs;refine ⟨fun hr=>absurd (fun j hj=>yY cY (fun i o ho=>(H.z7 i o ho).1) hr j (by omega)) kD,fun i hi=> ?_⟩;obtain ⟨o,ho,h1,h2⟩:=rZ cY hi;have Zf:i<all.length:=(List.getElem?_eq_some_iff.1 ho).1;have K4: ∀j∈Ds.getD i [],dW listed j=true:=fun j hj=>by
   rcases (H.z7 i o ho).2.1 j hj with hd|⟨d,hd,hj⟩
   exact h2 j hd;exact ma d (hl d (h2 d hd)) (h2 d hd) j hj
  have XT:i<h:=by
   rcases Nat.lt_or_ge i h with hlt|pL
   exact hlt;exact absurd (fun j hj=>K4 j (((H.z7 i o ho).2.2 j (by omega)).resolve_right fun x=>by omega)) kD
  obtain ⟨r,nx',e,ky,g1,g2,g3,g5,g6,g7⟩:=H.step XT ho h1 K4 ma;have LM:dW (listed.setIfInBounds i true)=fun j=>dW listed j||Nat.beq j i:=funext fun j=>qd (by omega)
  have zW:bD cx g ⟨fZ (dW listed) 0 cQ st.fr,cu (dW listed) 0 cQ st.mem,nx'⟩ a w:=hs.congr (fun _ _ hv=>hv) (fun _=>rfl);refine Sm (by simpa using ho) (wD zW g1 g5 g3 g2 fun g' a' w' db=> ?_);refine ih (nx:=0) (by simp [cY]) (fun j hj=> ?_) (fun j hj OD k hk=> ?_) ?_ (db.congr (fun t v hv=> ?_) fun k=> ?_);rw [LM] at hj;simp only [Bool.or_eq_true] at hj;rcases hj with hj|hj
  exact hl j hj;rw [aO hj];exact XT;rw [LM] at OD⊢;simp only [Bool.or_eq_true] at OD⊢;rcases OD with OD|OD
  exact .inl (ma j hj OD k hk);have:=aO OD;subst this;exact .inl (K4 k hk);have:=B3 (listed:=listed) (i:=i) (n:=all.length) (by omega) Zf h1;omega;change lk t (fZ (dW (listed.setIfInBounds i true)) 0 cQ st.fr)=some v at hv;rw [LM,g6] at hv;cases zR:o.dst with
  |none=>rw [zR] at hv;exact hv
  |some t'=>rw [zR] at hv;exact hv
  change lk k (cu (dW (listed.setIfInBounds i true)) 0 cQ st.mem)=_;rw [LM,g7];unfold St.app;cases o.dst<;>rfl
theorem bD.B6 {QQ:Exit→Act→World→Prop}{h:Nat}{ops:List Oper}{hrs:List HR}{tds:List (List Nat)}{cQ:List ER}{st:St}{cs:List Prop}{nx:Nat}(hs:bD cx g st a w)(hn:(hrs.length==h&&Nat.ble h ops.length)=true)(jz:lO ops (hrs.map HR.D++tds) h 0 ops=true)(hh:wL cx.P cx.N ops st (ops.take h) hrs [] st.nx=some (cQ,cs,nx))(hc:aS cs)(hT: ∀g' a' w',bD cx g' (mQ st cQ (fun _=>true) nx) a' w'→wpList cx.P ops.toArray QQ (ops.drop h) a' w'):wpAny cx.P .any ops.toArray QQ ops.toArray.size (Array.replicate ops.toArray.size false) a {w with drawn:=w.drawn+1}:=by
 simp only [Bool.and_eq_true,beq_iff_eq] at hn;obtain ⟨hn,hl⟩:=hn;have hl:h≤ops.length:=Nat.le_of_ble_eq_true hl;obtain ⟨⟨l,e1,e2⟩,K,Sn⟩:=DV hh hc;have hlen:cQ.length=h:=by rw [e1];simp [e2,hl]
 have OE: ∀i,i<h→(hrs.map HR.D++tds).getD i []=(hrs.map HR.D).getD i []:=fun i hi=>by
  rw [List.getD_eq_getElem?_getD,List.getD_eq_getElem?_getD,List.getElem?_append_left (by simp [hn,hi])]
 have H:kE cx.P cx.N ops st h (hrs.map HR.D++tds) cQ K:=by
  refine ⟨hlen,fun i hi=> ?_,fun i o ho=> ?_⟩;have ho:ops[i]? =some ops[i]:=List.getElem?_eq_getElem (by omega);refine ⟨ops[i],ho,?_⟩;have:=Sn i ops[i] (by rw [List.getElem?_take,if_pos hi];exact ho);rw [OE i hi];simpa using this;have:=uQ jz i o ho;simpa using this
 have hz: ∀j,dW (Array.replicate ops.length false) j=false:=fun j=>by
  unfold dW;rw [Array.getD_eq_getD_getElem?];by_cases hj:j<ops.length;simp [hj];rw [Array.getElem?_eq_none (by simpa using Nat.le_of_not_lt hj)];rfl
 have ID:todo (Array.replicate ops.length false) ops.length≤ops.length:=by
  unfold todo;exact Nat.le_trans (List.length_filter_le _ _) (by simp)
 have Q8:bD cx g (mQ st cQ (dW (Array.replicate ops.length false)) 0) a w.drew:=by
  have XU:dW (Array.replicate ops.length false)=fun _=>false:=funext hz;refine hs.drew.congr (fun t v hv=> ?_) fun k=> ?_;rw [XU] at hv;change lk t (fZ (fun _=>false) 0 cQ st.fr)=some v at hv;rw [j8] at hv;have:gw (fun _=>false) t 0 cQ=none:=by
   have:=rX (sel:=fun _=>false) (t:=t) (l:=cQ) (n:=0) (i:=0) (fun _ _=>rfl);simpa [gw] using this.symm
  rw [this] at hv;exact hv;rw [XU];change lk k (cu (fun _=>false) 0 cQ st.mem)=_;rw [dz];cases hx:dV (fun _=>false) k 0 cQ with
  |none=>rfl
  |some c=>obtain ⟨_,_,_,_,h2,_⟩:=ie hx;cases h2
 have:=B5 (Q:=QQ) (nx0:=nx) H hl hT ops.length (listed:=Array.replicate ops.length false) (by simp) (fun j hj=>by rw [hz j] at hj;cases hj) (fun j _ hj=>by rw [hz j] at hj;cases hj) ID Q8;simpa using this
theorem bD.FE {QQ:Exit→Act→World→Prop}{h:Nat}{ops:List Oper}{hrs:List HR}{tds:List (List Nat)}{rs:List OH}{cQ:List ER}{st st':St}{cs ky:List Prop}{nx:Nat}(hs:bD cx g st a w)(hn:(hrs.length==h&&Nat.ble h ops.length)=true)(jz:lO ops (hrs.map HR.D++tds) h 0 ops=true)(hh:wL cx.P cx.N ops st (ops.take h) hrs [] st.nx=some (cQ,cs,nx))(he:nQ cx.P cx.N ops (ops.drop h) rs (mQ st cQ (fun _=>true) nx)=some (st',ky))(hc:aS cs)(Bc:aS ky)(hq: ∀g' a' w',bD cx g' st' a' w'→QQ .normal a' w'):wpAny cx.P .any ops.toArray QQ ops.toArray.size (Array.replicate ops.toArray.size false) a {w with drawn:=w.drawn+1}:=
 hs.B6 hn jz hh hc fun _ _ _ db=>o9 db he Bc hq
theorem HT.draw {Q:Exit→St→Prop}{id h:Nat}{ops:List Oper}{hrs:List HR}{tds:List (List Nat)}{rs:List OH}{cQ:List ER}{st st':St}{cs ky:List Prop}{nx:Nat}(hm:cx.P.follows .mixedOrders=true)(hn:(hrs.length==h&&Nat.ble h ops.length)=true)(jz:lO ops (hrs.map HR.D++tds) h 0 ops=true)(hh:wL cx.P cx.N ops st (ops.take h) hrs [] st.nx=some (cQ,cs,nx))(he:nQ cx.P cx.N ops (ops.drop h) rs (mQ st cQ (fun _=>true) nx)=some (st',ky))(hc:aS cs)(Bc:aS ky)(hq:Q .normal st'):HT cx st (.region id ops.toArray true) Q:=
 fun _ _ _ hs=>wp_region_any hm (hs.FE hn jz hh he hc Bc fun g' _ _ db=>⟨st',g',hq,db⟩)
end
end Go.Ide
namespace Go.Ide
structure rp where
 ch:List (Nat×Nat)
 vs:List Nat
 tr:List Nat
 fz:Bool
def pM (k k':Nat)(ch:List (Nat×Nat)):Bool:=
 match lk k ch with
 |some q=>Nat.beq q k'
 |none=>false
theorem mo {k k':Nat}{ch:List (Nat×Nat)}(h:pM k k' ch=true):lk k ch=some k':=by
 unfold pM at h;split at h;rename_i q hq;rw [hq,aO h];cases h
def D0 (k:Nat)(ch:List (Nat×Nat)):Bool:=match lk k ch with|some _=>true|none=>false
def rp.m0 (s:rp)(m:Mem):Mem:=bif s.fz then m.filter (fun p=> !(D0 p.1 s.ch)) else []
def B7 (ch:List (Nat×Nat)):List Nat→List Nat→Bool
 |[],[]=>true
 |k::r,k'::r'=>pM k k' ch&&B7 ch r r'
 |_,_=>false
def Ab (s:rp)(m0 m':Mem)(c c':aq):Option (List Prop):=
 match c' with
 | .aB t x'=>(match cI m0 t c with
  |some x=>some [x'=x]
  |none=>none)
 | .ptr k' c8=>(match c with
  | .ptr k off=>bif pM k k' s.ch&&Nat.beq off c8 then some [] else none
  |_=>none)
 | .bT k' i' Fw c8=>(match c with
  | .bT k i sz off=>bif pM k k' s.ch&&(Nat.beq sz Fw&&Nat.beq off c8) then some [i'=i] else none
  |_=>none)
 | .ip t' x' c8=>(match c with
  | .ip t x off=>bif Nat.beq off c8 then (if h:t'=t then some [bA h x'=x] else none) else none
  | .ptr k off=>(match lk k m0 with
   |some (.box cs)=>bif Nat.beq off c8 then (match impl m0 t' cs with
    |some (x,[])=>some [x'=x]
    |_=>none) else none
   |_=>none)
  |_=>none)
 | .all k'=>(match c with
  | .all k=>bif pM k k' s.ch&& !(bZ k s.tr) then some [] else none
  | .az=>bif bZ k' s.vs then some [] else none
  | .ref k off len=>bif pM k k' s.ch&&bZ k s.tr then (match lk k' m' with
   |some (.seq _ bF)=>some [off=0,List.length bF=len]
   |_=>none) else none
  |_=>none)
 | .ref k' c8 GB=>(match c with
  | .ref k off len=>bif pM k k' s.ch&& !(bZ k s.tr) then some [c8=off,GB=len] else none
  |_=>none)
 | .row _ _ _=>none
 | .xS _ _ _ _ _ _=>none
 | .az=>(match c with
  | .az=>some []
  |_=>none)
 | .fn f'=>(match c with
  | .fn f=>if f'=f then some [] else none
  |_=>none)
 | .lK f' t' x'=>(match c with
  | .lK f t x=>if f'=f then (if h:t'=t then some [bA h x'=x] else none) else none
  |_=>none)
 | .cls f' Ac=>(match c with
  | .cls f ks=>if f'=f then (bif B7 s.ch ks Ac then some [] else none) else none
  |_=>none)
 | .yF f' t' x'=>(match c with
  | .yF f t x=>if f'=f then (if h:t'=t then some [bA h x'=x] else none) else none
  |_=>none)
 | .kG k'=>(match c with
  | .kG k=>bif pM k k' s.ch then some [] else none
  |_=>none)
 | .cV=>bif c.ok then some [] else none
 | .bad=>none
def Ad (s:rp)(m0 m':Mem):List aq→List aq→Option (List Prop)
 |[],[]=>some []
 |c::r,c'::r'=>(match Ab s m0 m' c c',Ad s m0 m' r r' with
  |some p,some q=>some (p++q)
  |_,_=>none)
 |_,_=>none
def OF (s:rp)(m0 m':Mem)(v v':au):Option (List Prop):=
 match v' with
 | .one c'=>(match v with
  | .one c=>Ab s m0 m' c c'
  |_=>none)
 | .agg ky=>(match v with
  | .agg cs=>Ad s m0 m' cs ky
  |_=>none)
 | .zq _=>none
 | .A9=>none
 | .cV=>some []
def GO (s:rp)(m0 m':Mem)(fr:Fr):Fr→Option (List Prop)
 |[]=>some []
 |(t,v')::r=>(match lk t fr with
  |some v=>(match OF s m0 m' v v',GO s m0 m' fr r with
   |some p,some q=>some (p++q)
   |_,_=>none)
  |none=>none)
def tj (s:rp)(m0 m':Mem)(k:Nat)(c c':Chunk):Option (List Prop):=
 match c' with
 | .box ky=>(match c with
  | .box cs=>Ad s m0 m' cs ky
  |_=>none)
 | .seq t' bF=>(match c with
  | .seq t xs=>if h:t'=t then (bif bZ k s.tr then some [bA (congrArg Ty.sl h) bF=List.take (List.length bF) xs] else some [bA (congrArg Ty.sl h) bF=xs]) else none
  |_=>none)
 | .mp t' u' bF=>(match c with
  | .mp t u xs=>if h:Ty.pair t' u'=Ty.pair t u then some [bA (a:= .sl (.pair t' u')) (b:= .sl (.pair t u)) (congrArg Ty.sl h) bF=xs] else none
  |_=>none)
 | .n9 T' e' bF=>(match c with
  | .n9 T e xs=>bif Nat.beq T' T&&Nat.beq e' e then some [bF=xs] else none
  |_=>none)
 | .gh ky Bp=>(match c with
  | .gh cs vs=>(match Ad s m0 m' cs ky with
   |some p=>some ((Bp=vs)::p)
   |none=>none)
  |_=>none)
 | .nu _ _ _ _ _=>none
 | .gone=>none
def OG (s:rp)(m m0 m':Mem):Mem→Option (List Prop)
 |[]=>some []
 |(k',c')::r=>(match lk k' (inv s.ch) with
  |some k=>(match lk k m with
   |some c=>(match tj s m0 m' k c c',OG s m m0 m' r with
    |some p,some q=>some (p++q)
    |_,_=>none)
   |none=>none)
  |none=>bif bZ k' s.vs then (match c' with
   | .seq _ bF=>(match OG s m m0 m' r with
    |some q=>some ((bF=[])::q)
    |none=>none)
   |_=>none) else none)
def D1 (k:Nat)(m:Mem):Bool:=match lk k m with|some _=>true|none=>false
def rp.okB (s:rp)(m':Mem)(own:List Nat):Bool:=
 (iX (s.ch.map Prod.fst)&&iX (s.ch.map Prod.snd))&&((s.ch.all fun p=>D1 p.2 m')&&((s.vs.all fun k=>D1 k m'&& !(bZ k (s.ch.map Prod.snd)))&&(own.all fun k=>pM k k s.ch)))
def St.cv (s:rp)(own:List Nat)(st st':St):Option (List Prop):=
 bif s.okB st'.mem own then (match GO s (s.m0 st.mem) st'.mem st.fr st'.fr,OG s st.mem (s.m0 st.mem) st'.mem st'.mem with
  |some p,some q=>some (p++q)
  |_,_=>none) else none
theorem B8 {k:Nat}{m:Mem}(h:D1 k m=true):lk k m≠none:=by
 unfold D1 at h;split at h;rename_i c hc;rw [hc];simp;cases h
theorem B9 {k:Nat}{ch:List (Nat×Nat)}:D0 k ch=true↔ ∃k',lk k ch=some k':=by
 unfold D0;cases lk k ch with
 |some q=>exact ⟨fun _=>⟨q,rfl⟩,fun _=>rfl⟩
 |none=>exact ⟨fun h=>(by cases h),fun h=>(by obtain ⟨k',h⟩:=h;cases h)⟩
theorem qU {p:Nat→Bool}: ∀{m:Mem} {k:Nat} {c:Chunk},lk k (m.filter fun q=>p q.1)=some c→lk k m=some c∧p k=true
 |[],k,c,h=>by simp [eB] at h
 |(q,d)::m,k,c,h=>by
  cases hp:p q with
  |false=>
   rw [List.filter_cons_of_neg (by simp [hp])] at h;obtain ⟨h1,h2⟩:=qU h;rw [aw];have cX:k≠q:=by rintro rfl;rw [hp] at h2;cases h2
   rw [if_neg cX];exact ⟨h1,h2⟩
  |true=>
   rw [List.filter_cons_of_pos (by simp [hp])] at h;rw [aw] at h⊢;split at h;rename_i e;subst e;rw [if_pos rfl];exact ⟨h,hp⟩;rename_i e;rw [if_neg e];exact qU h
theorem FF {s:rp}{m0 m':Mem}{fr:Fr}: ∀{og:Fr} {ps:List Prop} {t:Nat} {v':au},GO s m0 m' fr og=some ps→aS ps→lk t og=some v'→ ∃v p,lk t fr=some v∧OF s m0 m' v v'=some p∧aS p
 |[],ps,t,v',h,_,hl=>by simp [eB] at hl
 |(q,u')::r,ps,t,v',h,hp,hl=>by
  simp only [GO] at h;split at h;rename_i v hv;split at h;rename_i p q' h1 h2;injection h with h;subst h;obtain ⟨OI,LN⟩:=hp.append;rw [aw] at hl;split at hl;rename_i e;subst e;injection hl with hl;subst hl;exact ⟨v,p,hv,h1,OI⟩
  exact FF h2 LN hl;cases h;cases h
theorem wP {s:rp}{m m0 m':Mem}: ∀{l:Mem} {ps:List Prop} {k':Nat} {c':Chunk},OG s m m0 m' l=some ps→aS ps→lk k' l=some c'→
 (∃k c p,lk k' (inv s.ch)=some k∧lk k m=some c∧tj s m0 m' k c c'=some p∧aS p)∨(lk k' (inv s.ch)=none∧ ∃t,c'= .seq t [])
 |[],ps,k',c',h,_,hl=>by simp [eB] at hl
 |(q,d)::r,ps,k',c',h,hp,hl=>by
  simp only [OG] at h;split at h;rename_i k hk;split at h;rename_i c hc;split at h;rename_i p q' h1 h2;injection h with h;subst h;obtain ⟨OI,LN⟩:=hp.append;rw [aw] at hl;split at hl;rename_i e;subst e;injection hl with hl;subst hl;exact .inl ⟨k,c,p,hk,hc,h1,OI⟩
  exact wP h2 LN hl;cases h;cases h;rename_i hk;cases hb:bZ q s.vs with
  |false=>rw [hb] at h;cases h
  |true=>
   rw [hb] at h;simp only [cond_true] at h;split at h;rename_i t bF;split at h;rename_i q' h2;injection h with h;subst h;rw [aw] at hl;split at hl;rename_i e;subst e;injection hl with hl;subst hl;exact .inr ⟨hk,t,by rw [hp.1]⟩
   exact wP h2 hp.2 hl;cases h;cases h
section
variable {cx:Cx} {g:GM} {st st':St} {a:Act} {w:World}
theorem bD.cv {s:rp}{own:List Nat}{ps:List Prop}(h:bD cx g st a w)(he:st.cv s own st'=some ps)(hp:aS ps)(ho:cx.own.map Prod.fst=own)(hF:s.fz=true→cx.HK): ∃g',bD cx g' st' a w:=by
 unfold St.cv at he;cases hb:s.okB st'.mem own with
 |false=>rw [hb] at he;cases he
 |true=>
  rw [hb] at he;simp only [cond_true] at he;unfold rp.okB at hb;simp only [Bool.and_eq_true] at hb;obtain ⟨⟨hn1,rk⟩,bK,gL,Ae⟩:=hb;have hn1:=fW hn1;have rk:=fW rk;split at he;rename_i p q jW oZ;injection he with he;subst he;obtain ⟨OI,LN⟩:=hp.append;let g':GM:=⟨fun k'=>match lk k' (inv s.ch) with|some k=>g.f k|none=>fun _=>none⟩;have Uq: ∀k k',lk k s.ch=some k'→g'.f k'=g.f k:=fun k k' hk=>by
   show (match lk k' (inv s.ch) with|some k=>g.f k|none=>fun _=>none)=g.f k;rw [(mM hn1 rk).1 hk]
  have gb: ∀k k',lk k s.ch=some k'→g' k'=g k:=fun k k' hk=>congrFun (Uq k k' hk) [];have iF: ∀k',lk k' (inv s.ch)=none→g'.f k'=fun _=>none:=fun k' hk=>by
   show (match lk k' (inv s.ch) with|some k=>g.f k|none=>fun _=>none)=_;rw [hk]
  have tk: ∀k k',lk k s.ch=some k'→lk k' st'.mem≠none:=fun k k' hk=>B8 (List.all_eq_true.1 bK _ (kO hk));have mO: ∀k' c',lk k' st'.mem=some c'→(∃k c p,lk k s.ch=some k'∧lk k st.mem=some c∧tj s (s.m0 st.mem) st'.mem k c c'=some p∧aS p∧(∀p,c.owns p)∧g'.f k'=g.f k)∨(g'.f k'=(fun _=>none)∧ ∃t,c'= .seq t []):=fun k' c' hk=>by
   rcases wP oZ LN hk with ⟨k,c,p,h1,h2,h3,h4⟩|⟨h1,h2⟩
   have h5:=(mM hn1 rk).2 h1;refine .inl ⟨k,c,p,h5,h2,h3,h4,fun q=> ?_,Uq k k' h5⟩;cases c with
   |box cs=>trivial
   |seq t xs=>trivial
   |mp=>trivial
   |gh=>trivial
   |n9=>trivial
   |gone=>unfold tj at h3;split at h3<;>cases h3
   |nu t xs i cs ks=>unfold tj at h3;split at h3<;>cases h3
   exact .inr ⟨iF k' h1,h2⟩
  have XV: ∀b,Live g' st'.mem b→ ∃k k' q c,lk k s.ch=some k'∧lk k st.mem=some c∧c.owns q∧g.f k q=some b:=by
   rintro b ⟨k',q,c',hk,_,oO⟩;rcases mO k' c' hk with ⟨k,c,p,q1,q2,_,_,q5,q6⟩|⟨q1,_⟩
   exact ⟨k,k',q,c,q1,q2,q5 q,by rw [←q6];exact oO⟩;rw [q1] at oO;cases oO
  have bS: ∀b,cx.safe g st.mem w b→cx.safe g' st'.mem w b:=fun b ⟨h1,h2,h3⟩=>by
   refine ⟨h1,h2,fun hl=> ?_⟩;obtain ⟨k,k',q,c,q1,q2,q3,q4⟩:=XV b hl;exact h3 ⟨k,q,c,q2,q3,q4⟩
  have yK: ∀k q ch b,lk k st.mem=some ch→ch.owns q→g.f k q=some b→s.fz=true→(!(D0 k s.ch))=true→ ¬b<cx.w0.heap.size:=fun k q ch b h1 hn oO hz h2 hlt=>by
   rcases h.gp k q ch b h1 hn oO with pL|hf
   omega;obtain ⟨p,VX,q',VY⟩:=hF hz b hf;have IE:p.1∈own:=by rw [←ho];exact List.mem_map.2 ⟨p,VX,rfl⟩
   have l0:=mo (List.all_eq_true.1 Ae _ IE);obtain ⟨k',dS⟩: ∃c',lk p.1 st'.mem=some c':=Option.ne_none_iff_exists'.1 (tk _ _ l0);rcases mO p.1 k' dS with ⟨k2,c2,q2,a1,a2,_,_,a5,_⟩|⟨a1,_⟩
   have:k2=p.1:=by
    have b1:=(mM hn1 rk).1 a1;have b2:=(mM hn1 rk).1 l0;rw [b1] at b2;injection b2
   subst this;have:=(h.eH k p.1 q q' ch c2 b h1 hn a2 (a5 q') oO (by rw [(h.own p VX).1,VY])).1;subst this;rw [B9.2 ⟨_,l0⟩] at h2;cases h2;rw [Uq _ _ l0,(h.own p VX).1] at a1;rw [a1] at VY;cases VY
  have No: ∀k q ch b,lk k st.mem=some ch→ch.owns q→g.f k q=some b→(!(D0 k s.ch))=true→ ¬Live g' st'.mem b:=fun k q ch b h1 hn oO h2 hl=>by
   obtain ⟨k1,Zg,q',c1,q1,q2,q3,q4⟩:=XV b hl;have:=(h.eH k k1 q q' _ c1 b h1 hn q2 q3 oO q4).1;subst this;rw [B9.2 ⟨_,q1⟩] at h2;cases h2
  have Gr: ∀k cs,lk k (s.m0 st.mem)=some (.box cs)→ ∃b arr,g k=some b∧cx.safe g' st'.mem w b∧cg w b arr∧aK (CR g st.mem (cx.safe g st.mem w) w) cs arr.toList:=by
   intro k cs hl;unfold rp.m0 at hl;cases hz:s.fz with
   |false=>rw [hz] at hl;simp [eB] at hl
   |true=>
    rw [hz] at hl;simp only [cond_true] at hl;obtain ⟨h1,h2⟩:=qU (p:=fun k=> !(D0 k s.ch)) hl;obtain ⟨b,arr,oO,hb,aP⟩:=h.mem k _ h1;exact ⟨b,arr,oO,⟨hb.lt,fun hlt=>absurd hlt (yK k [] _ b h1 trivial oO hz h2),No k [] _ b h1 trivial oO h2⟩,hb,aP⟩
  have Np:gr g st.mem (s.m0 st.mem) (cx.safe g' st'.mem w) w:=by
   intro k t xs hl;unfold rp.m0 at hl;cases hz:s.fz with
   |false=>rw [hz] at hl;simp [eB] at hl
   |true=>
    rw [hz] at hl;simp only [cond_true] at hl;obtain ⟨h1,h2⟩:=qU (p:=fun k=> !(D0 k s.ch)) hl;have RY: ∀p b,g.f k p=some b→cx.safe g' st'.mem w b:=fun p b oO=>
     ⟨h.lt k p _ b h1 trivial oO,fun hlt=>absurd hlt (yK k p _ b h1 trivial oO hz h2),No k p _ b h1 trivial oO h2⟩
    refine ⟨h1,RY,?_⟩;have hc:=h.mem k _ h1;unfold gU at hc;cases oO:g.f k [] with
    |none=>rw [show g k=none from oO];rw [oO] at hc;exact hc
    |some b=>
     rw [show g k=some b from oO];rw [oO] at hc;obtain ⟨arr,hb,lr⟩:=hc;exact ⟨arr,hb,lr.ar (fun b hb=>⟨bS b hb,rfl⟩) fun _ _ _=>rfl⟩
  have yb: ∀k k' t bF,lk k s.ch=some k'→cz st'.mem k' t bF→bZ k s.tr=false→cz st.mem k t bF:=fun k k' t bF hk hl So=>by
   refine .inl ?_;have hl:lk k' st'.mem=some (.seq t bF):=by
    rcases hl with hl|⟨i,cs,ks,hl⟩
    exact hl;rcases mO k' _ hl with ⟨_,_,_,_,_,q3,_⟩|⟨_,_,q2⟩
    cases q3;cases q2
   rcases mO k' _ hl with ⟨k1,c,p,q1,q2,q3,q4,_⟩|⟨q1,_⟩
   have:k1=k:=by
    have a1:=(mM hn1 rk).1 q1;have a2:=(mM hn1 rk).1 hk;rw [a1] at a2;injection a2
   subst this;cases c with
   |seq t1 Uk=>
    simp only [tj] at q3;split at q3;rename_i ht;subst ht;rw [So] at q3;simp only [cond_false] at q3;injection q3 with q3;subst q3;have:=q4.1;simp only [bA] at this;rw [q2,this];cases q3
   |box cs=>cases q3
   |nu=>cases q3
   |mp=>cases q3
   |gh=>cases q3
   |n9=>cases q3
   |gone=>cases q3
   have:lk k' (inv s.ch)=some k:=(mM hn1 rk).1 hk;rcases wP oZ LN hl with ⟨k1,c,p,h1,h2,h3,h4⟩|⟨h1,_⟩
   have:k1=k:=by rw [this] at h1;injection h1 with h1;exact h1.symm
   subst this;cases c with
   |seq t1 Uk=>
    simp only [tj] at h3;split at h3;rename_i ht;subst ht;rw [So] at h3;simp only [cond_false] at h3;injection h3 with h3;subst h3;have:=h4.1;simp only [bA] at this;rw [h2,this];cases h3
   |box cs=>cases h3
   |nu=>cases h3
   |mp=>cases h3
   |gh=>cases h3
   |n9=>cases h3
   |gone=>cases h3
   rw [this] at h1;cases h1
  have Q9: ∀c c' p v,Ab s (s.m0 st.mem) st'.mem c c'=some p→aS p→CR g st.mem (cx.safe g st.mem w) w c v→CR g' st'.mem (cx.safe g' st'.mem w) w c' v:=by
   intro c c' p v hc hp hr;cases c' with
   |aB t x'=>
    simp only [Ab] at hc;split at hc;rename_i x hx;injection hc with hc;subst hc;rw [hp.1];exact pP bS Np hx hr;cases hc
   |ptr k' c8=>
    cases c with
    |ptr k off=>
     simp only [Ab] at hc;cases hb:(pM k k' s.ch&&Nat.beq off c8) with
     |false=>rw [hb] at hc;cases hc
     |true=>
      simp only [Bool.and_eq_true] at hb;have hk:=mo hb.1;obtain ⟨_,b,h1,h2⟩:=hr;exact ⟨tk k k' hk,b,by rw [gb k k' hk];exact h1,by rw [←aO hb.2];exact h2⟩
    |_=>cases hc
   |bT k' i' Fw c8=>
    cases c with
    |bT k i sz off=>
     simp only [Ab] at hc;cases hb:(pM k k' s.ch&&(Nat.beq sz Fw&&Nat.beq off c8)) with
     |false=>rw [hb] at hc;cases hc
     |true=>
      rw [hb] at hc;simp only [cond_true] at hc;injection hc with hc;subst hc;simp only [Bool.and_eq_true] at hb;have hk:=mo hb.1;obtain ⟨_,b,h1,h2⟩:=hr;exact ⟨tk k k' hk,b,by rw [gb k k' hk];exact h1,by rw [←aO hb.2.1,←aO hb.2.2,hp.1];exact h2⟩
    |_=>cases hc
   |ip t' x' c8=>
    cases c with
    |ip t x off=>
     simp only [Ab] at hc;cases hb:Nat.beq off c8 with
     |false=>rw [hb] at hc;cases hc
     |true=>
      rw [hb] at hc;simp only [cond_true] at hc;split at hc;rename_i ht;subst ht;injection hc with hc;subst hc;have:=aO hb;subst this;have hx:x'=x:=hp.1;subst hx;obtain ⟨ad,es,e,hs,aM,bf⟩:=hr;exact ⟨ad,es,e,bS _ hs,aM,aR.ar (fun b hb=>⟨bS b hb,rfl⟩) t' es x' bf⟩;cases hc
    |ptr k off=>
     simp only [Ab] at hc;split at hc;rename_i cs hl;cases hb:Nat.beq off c8 with
     |false=>rw [hb] at hc;cases hc
     |true=>
      rw [hb] at hc;simp only [cond_true] at hc;split at hc;rename_i x hx;injection hc with hc;subst hc;have:=aO hb;subst this;have Zh:x'=x:=hp.1;subst Zh;obtain ⟨b,arr,oO,Zi,iT,aP⟩:=Gr k cs hl;obtain ⟨_,b',DA,e⟩:=hr;rw [oO] at DA;injection DA with DA;subst DA;obtain ⟨v1,v2,e2,r1,r2⟩:=hH bS Np t' hx aP;have:v2=[]:=by cases v2 with|nil=>rfl|cons=>exact r2.elim
      subst this;rw [List.append_nil] at e2;refine ⟨⟨b,0,none⟩,arr.toList,by rw [aX,Nat.zero_add];exact e,Zi,fun j u hu=> ?_,by rw [e2];exact r1⟩;rw [aX,Nat.zero_add,iT.cell,←Array.getElem?_toList];exact hu;cases hc
     cases hc
    |_=>cases hc
   |all k'=>
    cases c with
    |all k=>
     simp only [Ab] at hc;cases hb:(pM k k' s.ch&& !(bZ k s.tr)) with
     |false=>rw [hb] at hc;cases hc
     |true=>
      simp only [Bool.and_eq_true,Bool.not_eq_true'] at hb;have hk:=mo hb.1;obtain ⟨_,h1,h2⟩:=hr;exact ⟨tk k k' hk,h1,fun t xs hl=>by rw [gb k k' hk];exact h2 t xs (yb k k' t xs hk hl hb.2)⟩
    |az=>
     simp only [Ab] at hc;cases hb:bZ k' s.vs with
     |false=>rw [hb] at hc;cases hc
     |true=>
      have hv:=List.all_eq_true.1 gL _ (dp.1 hb);simp only [Bool.and_eq_true,Bool.not_eq_true'] at hv;obtain ⟨b,hr⟩:=hr;refine ⟨B8 hv.1,by subst hr;rfl,fun t xs hl=> ?_⟩;have:g' k'=none:=by
       cases hi:lk k' (inv s.ch) with
       |none=>exact congrFun (iF k' hi) []
       |some k=>
        have:=wF ((mM hn1 rk).2 hi);rw [dp.2 this] at hv;cases hv.2
      rw [this];exact ⟨b,hr⟩
    |ref k off len=>
     simp only [Ab] at hc;cases hb:(pM k k' s.ch&&bZ k s.tr) with
     |false=>rw [hb] at hc;cases hc
     |true=>
      rw [hb] at hc;simp only [cond_true] at hc;simp only [Bool.and_eq_true] at hb;have hk:=mo hb.1;split at hc;rename_i t0 Ue tP;injection hc with hc;subst hc;obtain ⟨U1,hlen,_⟩:=hp;subst U1;subst hlen;obtain ⟨_,h1,h2⟩:=hr;refine ⟨tk k k' hk,h1,fun t xs hl=> ?_⟩;have hl:=cz.toSeq tP hl;rw [tP] at hl;injection hl with hl;injection hl with e1 e2;subst e1;have e2:=eq_of_heq e2;subst e2;rw [gb k k' hk];rcases wP oZ LN tP with ⟨k1,c,p,q1,q2,q3,q4⟩|⟨q1,_⟩
      have:k1=k:=by
       have a2:=(mM hn1 rk).1 hk;rw [q1] at a2;injection a2
      subst this;cases c with
      |seq t1 Uk=>
       simp only [tj] at q3;split at q3;rename_i ht;subst ht;obtain ⟨_,hx⟩:=h2 _ Uk (.inl q2);rcases hx with ⟨hz,hn,a,ha⟩|⟨b,cap,arr,hg,e,k1,k2,k3,k4⟩
       rw [hn rfl,hz.symm.symm];exact ⟨a,by rw [ha]⟩;rw [hg];exact ⟨cap,arr,by rw [e,Nat.zero_mul],k1,k2,by rw [Nat.zero_add] at k3;exact k3,k4⟩;cases q3
      |box cs=>cases q3
      |nu=>cases q3
      |mp=>cases q3
      |gh=>cases q3
      |n9=>cases q3
      |gone=>cases q3
      rw [(mM hn1 rk).1 hk] at q1;cases q1;cases hc
    |_=>cases hc
   |ref k' c8 GB=>
    cases c with
    |ref k off len=>
     simp only [Ab] at hc;cases hb:(pM k k' s.ch&& !(bZ k s.tr)) with
     |false=>rw [hb] at hc;cases hc
     |true=>
      rw [hb] at hc;simp only [cond_true] at hc;injection hc with hc;subst hc;obtain ⟨e1,e2,_⟩:=hp;subst e1;subst e2;simp only [Bool.and_eq_true,Bool.not_eq_true'] at hb;have hk:=mo hb.1;obtain ⟨_,h1,h2⟩:=hr;exact ⟨tk k k' hk,h1,fun t xs hl=>by rw [gb k k' hk];exact h2 t xs (yb k k' t xs hk hl hb.2)⟩
    |_=>cases hc
   |row=>cases hc
   |xS=>cases hc
   |az=>
    cases c with
    |az=>exact hr
    |_=>cases hc
   |fn f'=>
    cases c with
    |fn f=>
     simp only [Ab] at hc;split at hc;rename_i hf;subst hf;exact hr;cases hc
    |_=>cases hc
   |lK f' t' x'=>
    cases c with
    |lK f t x=>
     simp only [Ab] at hc;split at hc;rename_i hf;subst hf;split at hc;rename_i ht;subst ht;injection hc with hc;subst hc;have hx:x'=x:=hp.1;subst hx;obtain ⟨ad,es,e,hs,aM,bf⟩:=hr;exact ⟨ad,es,e,bS _ hs,aM,aR.ar (fun b hb=>⟨bS b hb,rfl⟩) t' es x' bf⟩;cases hc;cases hc
    |_=>cases hc
   |cls f' Ac=>
    cases c with
    |cls f ks=>
     simp only [Ab] at hc;split at hc;rename_i hf;subst hf;cases hb:B7 s.ch ks Ac with
     |false=>rw [hb] at hc;cases hc
     |true=>
      obtain ⟨ps,e,aP⟩:=hr;refine ⟨ps,e,?_⟩;clear e hc;induction ks generalizing Ac ps with
      |nil=>
       cases Ac with
       |nil=>cases ps with
        |nil=>trivial
        |cons=>exact aP.elim
       |cons=>cases hb
      |cons k ks ih=>
       cases Ac with
       |nil=>cases hb
       |cons k' Ac=>
        cases ps with
        |nil=>exact aP.elim
        |cons p ps=>
         simp only [B7,Bool.and_eq_true] at hb;have hk:=mo hb.1;obtain ⟨⟨_,b,h1,h2⟩,h3⟩:=aP;exact ⟨⟨tk k k' hk,b,by rw [gb k k' hk];exact h1,h2⟩,ih Ac hb.2 ps h3⟩
     cases hc
    |_=>cases hc
   |yF f' t' x'=>
    cases c with
    |yF f t x=>
     simp only [Ab] at hc;split at hc;rename_i hf;subst hf;split at hc;rename_i ht;subst ht;injection hc with hc;subst hc;have hx:x'=x:=hp.1;subst hx;obtain ⟨ad,De,es,e,db,Bc,hs,aM,bf⟩:=hr;exact ⟨ad,De,es,e,bS _ db,Bc,bS _ hs,aM,aR.ar (fun b hb=>⟨bS b hb,rfl⟩) t' es x' bf⟩;cases hc;cases hc
    |_=>cases hc
   |kG k'=>
    cases c with
    |kG k=>
     simp only [Ab] at hc;cases hb:pM k k' s.ch with
     |false=>rw [hb] at hc;cases hc
     |true=>
      have hk:=mo hb;obtain ⟨_,b,h1,h2⟩:=hr;exact ⟨tk k k' hk,b,by rw [gb k k' hk];exact h1,h2⟩
    |_=>cases hc
   |cV=>
    simp only [Ab] at hc;cases hb:c.ok with
    |false=>rw [hb] at hc;cases hc
    |true=>exact vW hb hr
   |bad=>cases hc
  have Af: ∀cs ky p vs,Ad s (s.m0 st.mem) st'.mem cs ky=some p→aS p→aK (CR g st.mem (cx.safe g st.mem w) w) cs vs→aK (CR g' st'.mem (cx.safe g' st'.mem w) w) ky vs:=by
   intro cs;induction cs with
   |nil=>
    intro ky p vs hc hp hr;cases ky with
    |cons=>cases hc
    |nil=>cases vs with
     |nil=>trivial
     |cons=>exact hr.elim
   |cons c cs ih=>
    intro ky p vs hc hp hr;cases ky with
    |nil=>cases hc
    |cons c' ky=>
     simp only [Ad] at hc;split at hc;rename_i p1 p2 h1 h2;injection hc with hc;subst hc;obtain ⟨OI,LN⟩:=hp.append;cases vs with
     |nil=>exact hr.elim
     |cons v vs=>exact ⟨Q9 c c' p1 v h1 OI hr.1,ih ky p2 vs h2 LN hr.2⟩
     cases hc
  refine ⟨g',h.defers.ar (fun b hb=>⟨bS b hb,rfl⟩),h.size,fun t v' hl=> ?_,fun k' c' hk=> ?_,?_,fun k' r' c' b hk hn hg=> ?_,fun k' r' c' b hk hn hg=> ?_,h.ar,fun p hp=> ?_,h.gl⟩;obtain ⟨v,p,h1,h2,h3⟩:=FF jW OI hl;have hv:=h.fr t v h1;unfold OF at h2;split at h2;split at h2;exact Q9 _ _ p _ h2 h3 hv;cases h2;split at h2;obtain ⟨vs,e,gL⟩:=hv;exact ⟨vs,e,Af _ _ p vs h2 h3 gL⟩;cases h2;cases h2;cases h2;trivial;rcases mO k' c' hk with ⟨k,c,p,q1,q2,q3,q4,q5,q6⟩|⟨q1,t,q2⟩
  have bK:=h.mem k c q2;rw [q6];cases c' with
  |box ky=>
   cases c with
   |box cs=>
    obtain ⟨b,arr,e,hb,aP⟩:=bK;exact ⟨b,arr,e,hb,Af cs ky _ _ q3 q4 aP⟩
   |seq t xs=>cases q3
   |nu=>cases q3
   |mp=>cases q3
   |gh=>cases q3
   |n9=>cases q3
   |gone=>cases q3
  |nu=>cases q3
  |gone=>cases q3
  |mp t' u' bF=>
   cases c with
   |mp t u xs=>
    simp only [tj] at q3;split at q3;rename_i ht;injection ht with Ot Vp;subst Ot;subst Vp;injection q3 with q3;subst q3;have hx:bF=xs:=q4.1;subst hx;exact bK;cases q3
   |_=>cases q3
  |n9 T' e' bF=>
   cases c with
   |n9 T e xs=>
    simp only [tj] at q3;cases hb:(Nat.beq T' T&&Nat.beq e' e) with
    |false=>rw [hb] at q3;cases q3
    |true=>
     rw [hb] at q3;simp only [cond_true] at q3;simp only [Bool.and_eq_true] at hb;have e1:=aO hb.1;have e2:=aO hb.2;subst e1 e2;injection q3 with q3;subst q3;have hx:bF=xs:=q4.1;subst hx;exact bK
   |_=>cases q3
  |gh ky Bp=>
   cases c with
   |gh cs vs=>
    simp only [tj] at q3;split at q3;rename_i p1 h1;injection q3 with q3;subst q3;have hx:Bp=vs:=q4.1;subst hx;exact ⟨bK.1,Af cs ky p1 Bp h1 q4.2 bK.2⟩;cases q3
   |_=>cases q3
  |seq t' bF=>
   cases c with
   |box cs=>cases q3
   |nu=>cases q3
   |mp=>cases q3
   |gh=>cases q3
   |n9=>cases q3
   |gone=>cases q3
   |seq t xs=>
    simp only [tj] at q3;split at q3;rename_i ht;subst ht;have Gy: ∃n,bF=xs.take n:=by
     cases So:bZ k s.tr with
     |true=>
      rw [So] at q3;simp only [cond_true] at q3;injection q3 with q3;subst q3;exact ⟨_,q4.1⟩
     |false=>
      rw [So] at q3;simp only [cond_false] at q3;injection q3 with q3;subst q3;have:bF=xs:=q4.1;exact ⟨xs.length,by rw [this,List.take_length]⟩
    obtain ⟨n,hn⟩:=Gy;unfold gU at bK⊢;cases oO:g.f k [] with
    |none=>
     rw [oO] at bK;have:xs=[]:=bK;subst this;show bF=[];rw [hn];simp
    |some b=>
     rw [oO] at bK;obtain ⟨arr,hb,lr⟩:=bK;refine ⟨arr,hb,fun i hi=> ?_⟩;subst hn;have vw:i<xs.length:=by
      have:=List.length_take_le' n xs;omega
     obtain ⟨es,k1,k2⟩:=(lr.ar (fun b hb=>⟨bS b hb,rfl⟩) (fun _ _ _=>rfl):dw (cx.safe g' st'.mem w) w (g.f k) t' xs arr) i vw;refine ⟨es,k1,?_⟩;rw [List.getElem_take];exact k2
    cases q3
  subst q2;rw [q1];rfl;intro k1 k2 r1 r2 c1 c2 b Gs Zj fR Zk DA sL;rcases mO k1 c1 Gs with ⟨q,d,p,a1,a2,a3,a4,a5,a6⟩|⟨a1,_⟩
  rcases mO k2 c2 fR with ⟨q',d',p',b1,b2,b3,b4,b5,b6⟩|⟨b1,_⟩
  obtain ⟨e1,e2⟩:=h.eH q q' r1 r2 d d' b a2 (a5 r1) b2 (b5 r2) (by rw [←a6];exact DA) (by rw [←b6];exact sL);subst e1;rw [a1] at b1;injection b1 with b1;exact ⟨b1,e2⟩;rw [b1] at sL;cases sL;rw [a1] at DA;cases DA;rcases mO k' c' hk with ⟨q,d,p,a1,a2,a3,a4,a5,a6⟩|⟨a1,_⟩
  exact h.gp q r' d b a2 (a5 r') (by rw [←a6];exact hg);rw [a1] at hg;cases hg;rcases mO k' c' hk with ⟨q,d,p,a1,a2,a3,a4,a5,a6⟩|⟨a1,_⟩
  exact h.lt q r' d b a2 (a5 r') (by rw [←a6];exact hg);rw [a1] at hg;cases hg;have IE:p.1∈own:=by rw [←ho];exact List.mem_map.2 ⟨p,hp,rfl⟩
  have l0:=mo (List.all_eq_true.1 Ae _ IE);exact ⟨by rw [Uq _ _ l0];exact (h.own p hp).1,tk _ _ l0⟩;cases he
end
end Go.Ide
namespace Go.Ide
def runN {σ ρ:Type}(f:σ→Option (σ⊕ρ)):Nat→σ→Option ρ
 |0,_=>none
 |n+1,s=>match f s with
  |some (.inl s')=>runN f n s'
  |some (.inr r)=>some r
  |none=>none
theorem um {σ ρ:Type}{f:σ→Option (σ⊕ρ)}: ∀{n m:Nat} {s:σ} {r:ρ},n≤m→runN f n s=some r→runN f m s=some r
 |0,_,_,_,_,h=>by cases h
 |n+1,0,_,_,hle,_=>by omega
 |n+1,m+1,s,r,hle,h=>by
  simp only [runN] at h⊢;cases hf:f s with
  |none=>simp [hf] at h
  |some x=>
   cases x with
   |inr r'=>rw [hf] at h;exact h
   |inl s'=>rw [hf] at h;exact um (Nat.le_of_succ_le_succ hle) h
noncomputable def rounds {σ ρ:Type}(f:σ→Option (σ⊕ρ))(s:σ):Option ρ:=
 @dite (Option ρ) (∃r,∃n,runN f n s=some r) (Classical.propDecidable _) (fun h=>some (Classical.choose h)) (fun _=>none)
theorem pf {σ ρ:Type}{f:σ→Option (σ⊕ρ)}{s:σ}{r:ρ}:rounds f s=some r↔ ∃n,runN f n s=some r:=by
 unfold rounds;constructor;intro h;split at h;rename_i hx;injection h with h;subst h;exact Classical.choose_spec hx;cases h;rintro ⟨n,hn⟩;have hx: ∃r,∃n,runN f n s=some r:=⟨r,n,hn⟩;rw [dif_pos hx];obtain ⟨m,hm⟩:=Classical.choose_spec hx;have h1:=um (Nat.le_max_left n m) hn;have h2:=um (Nat.le_max_right n m) hm;rw [h1] at h2;injection h2 with h2;rw [h2]
theorem dP {σ ρ:Type}(f:σ→Option (σ⊕ρ))(s:σ):rounds f s=match f s with
 |some (.inl s')=>rounds f s'
 |some (.inr r)=>some r
 |none=>none:=by
 have key: ∀r,rounds f s=some r↔(match f s with
  |some (.inl s')=>rounds f s'
  |some (.inr r)=>some r
  |none=>none)=some r:=by
  intro r;rw [pf];constructor;rintro ⟨n,hn⟩;cases n with
  |zero=>cases hn
  |succ n=>
   simp only [runN] at hn;cases hf:f s with
   |none=>rw [hf] at hn;cases hn
   |some x=>
    rw [hf] at hn;cases x with
    |inl s'=>exact pf.2 ⟨n,hn⟩
    |inr r'=>exact hn
  intro h;split at h;rename_i s' hf;obtain ⟨n,hn⟩:=pf.1 h;exact ⟨n+1,by simp only [runN];rw [hf];exact hn⟩;rename_i r' hf;exact ⟨1,by simp only [runN];rw [hf];exact h⟩;cases h
 cases h1:rounds f s with
 |some r=>exact ((key r).1 h1).symm
 |none=>
  cases h2:(match f s with
  |some (.inl s')=>rounds f s'
  |some (.inr r)=>some r
  |none=>none) with
  |none=>rfl
  |some r=>
   have:=(key r).2 h2;rw [h1] at this;cases this
theorem qV {α β:Type}{o:Option α}{k:α→Option β}{r:β}(h:o.bind k=some r): ∃y,o=some y∧k y=some r:=by
 cases o with
 |none=>cases h
 |some y=>exact ⟨y,rfl,h⟩
def ai {β:Type}(p:Prop)[Decidable p](k:Option β):Option β:=if p then k else none
theorem ig {β:Type}{p:Prop}[Decidable p]{k:Option β}{r:β}(h:ai p k=some r):p∧k=some r:=by
 unfold ai at h;split at h;rename_i hp;exact ⟨hp,h⟩;cases h
theorem guard_pos {β:Type}{p:Prop}[Decidable p]{k:Option β}(h:p):ai p k=k:=if_pos h
theorem IF {β:Type}{b:Bool}{x y:Option β}{r:β}(h:(bif b then x else y)=some r):(b=true∧x=some r)∨(b=false∧y=some r):=by
 cases b with
 |true=>exact .inl ⟨rfl,h⟩
 |false=>exact .inr ⟨rfl,h⟩
abbrev aj (k:IntKind)(a b:Int):Int:=k.wrap (a+b)
abbrev a7 (k:IntKind)(a b:Int):Int:=k.wrap (a - b)
abbrev ij (k:IntKind)(a b:Int):Int:=k.wrap (a*b)
abbrev ae {α:Type}(xs:List α):Int:=((List.length xs:Nat):Int)
section
variable {cx:Cx} {st:St} {P:Program} {N:Nat} {Q:Exit→St→Prop} {x y c:Code}
theorem HT.Ur {id:Nat}{ops:List Oper}{rs:List OH}{st':St}{cs:List Prop}(hP:cx.P=P)(hN:cx.N=N)(he:nQ P N ops ops rs st=some (st',cs))(hc:aS cs)(hq:Q .normal st'):HT cx st (.region id ops.toArray false) Q:=by
 subst hP;subst hN;exact HT.region he hc hq
theorem HT.Zl {id h:Nat}{ops:List Oper}{hrs:List HR}{tds:List (List Nat)}{rs:List OH}{cQ:List ER}{st':St}{cs ky:List Prop}{nx:Nat}(hP:cx.P=P)(hN:cx.N=N)(hm:P.follows .mixedOrders=true)(hn:(hrs.length==h&&Nat.ble h ops.length)=true)(jz:lO ops (hrs.map HR.D++tds) h 0 ops=true)(hh:wL P N ops st (ops.take h) hrs [] st.nx=some (cQ,cs,nx))(he:nQ P N ops (ops.drop h) rs (mQ st cQ (fun _=>true) nx)=some (st',ky))(hc:aS cs)(Bc:aS ky)(hq:Q .normal st'):HT cx st (.region id ops.toArray true) Q:=by
 subst hP;subst hN;exact HT.draw hm hn jz hh he hc Bc hq
def Le (cx:Cx)(st st':St):Prop:= ∀g a w,bD cx g st a w→ ∃g',bD cx g' st' a w
theorem Le.cv {s:rp}{own:List Nat}{ps:List Prop}{st':St}(ho:cx.own.map Prod.fst=own)(hF:s.fz=true→cx.HK)(he:st.cv s own st'=some ps)(hp:aS ps):Le cx st st':=
 fun _ _ _ hs=>hs.cv he hp ho hF
theorem Le.ht {st':St}(h:Le cx st st')(hc:HT cx st' c Q):HT cx st c Q:=fun g a w hs=>let ⟨g',db⟩:=h g a w hs;hc g' a w db
theorem Le.trans {st1 FB XW:St}(h1:Le cx st1 FB)(h2:Le cx FB XW):Le cx st1 XW:=fun g a w hs=>let ⟨g1,h⟩:=h1 g a w hs;h2 g1 a w h
theorem Le.refl:Le cx st st:=fun g _ _ hs=>⟨g,hs⟩
theorem HT.Sp {σ ρ:Type}{f:σ→Option (σ⊕ρ)}{s:σ}{r:ρ}(S:σ→St)(E:ρ→Exit×St)(h:rounds f s=some r)(hc:Q (E r).1 (E r).2)(round: ∀s x,f s=some x→(∀r',x= .inr r'→Q (E r').1 (E r').2)→HT cx (S s) c (uN (fun st'=> ∃s',x= .inl s'∧Le cx st' (S s')) Q)):HT cx (S s) (.loop c) Q:=by
 obtain ⟨n,hn⟩:=pf.1 h;let I:Nat→St→Prop:=fun n st'=> ∃s,Le cx st' (S s)∧runN f n s=some r;have:=HT.loop (cx:=cx) (c:=c) (Q:=Q) (α:=St) (I:=I) (S:=id) (n:=n) (s:=S s) ⟨s,Le.refl,hn⟩ (fun st' ⟨s,_,h0⟩=>by cases h0) (fun n st' ⟨s,hle,hr⟩=>by
  simp only [runN] at hr;have hx: ∃x,f s=some x∧(∀r',x= .inr r'→r'=r)∧ ∀s',x= .inl s'→runN f n s'=some r:=by
   split at hr;rename_i s' hf;exact ⟨.inl s',hf,fun r' e=>(by cases e),fun Zm e=>(by injection e with e;subst e;exact hr)⟩;rename_i r' hf;injection hr with hr;exact ⟨.inr r',hf,fun Fo e=>(by injection e with e;rw [←e];exact hr),fun Zm e=>(by cases e)⟩
   cases hr
  obtain ⟨x,hf,h1,h2⟩:=hx;refine hle.ht ((round s x hf fun r' e=>by rw [h1 r' e];exact hc).mono fun e st1 hq=> ?_);cases e with
  |normal=>
   obtain ⟨s',e1,VZ⟩:=hq;exact ⟨st1,rfl,s',VZ,h2 s' e1⟩
  |_=>exact hq)
 exact this
theorem IG (g:GM)(m:Mem)(S:Nat→Prop)(w:World){v:au}{val:Value}{t:Ty}{xs:List t.D}(hv:jA m (.sl t) v=some xs)(hm:gr g m m (fun _=>True) w)(h:VR g m S w v val): ∃a n cap,val= .slice a n cap∧(a=none→xs=[]):=by
 obtain ⟨cs,h1,h2⟩:=mF (S2:=fun _=>True) (fun _ _=>trivial) hm hv h;obtain ⟨a,cap,e,_,lr⟩:=h2;have:val= .slice a (List.length xs) cap:=by
  unfold cE at h1;rw [e] at h1;simpa [Ty.rH] using h1.symm
 refine ⟨a,_,cap,this,fun ha=> ?_⟩;cases xs with
 |nil=>rfl
 |cons x xs=>
  obtain ⟨ad,es,e1,_⟩:=lr 0 (by simp);rw [ha] at e1;cases e1
end
end Go.Ide
namespace Go.Ide
theorem yr {P:Program}{w:World}{T e:TypeId}{a:Option Addr}{n cap:Nat}(hT:P.underlying T=some (.slice e)):
 (Op.equal T (.slice a n cap) (.slice none 0 0)).run P w= .ok a.isNone w:=by
 have h: ∀d:Nat,(Op.equalIn (d+1) T (.slice a n cap) (.slice none 0 0)).run P w= .ok a.isNone w:=fun d=>by
  rw [Op.equalIn];cases a<;>simp [run_underlying hT]
 exact h 9999
theorem Ag {P:Program}{w:World}{T:TypeId}{x y:Operand}{a:Option Addr}{n cap:Nat}:(Go.eqGuard .eql T x y (.slice a n cap) (.slice none 0 0)).run P w= .ok () w:=rfl
theorem D2 {P:Program}{w:World}{T e:TypeId}{a:Option Addr}{n cap:Nat}(hT:P.underlying T=some (.slice e)):(Go.binOp .eql T (.slice a n cap) (.slice none 0 0)).run P w= .ok (.bool a.isNone) w:=by
 have h2:Go.binOp .eql T (.slice a n cap) (.slice none 0 0)=(do pure (.bool (←Op.equal T (.slice a n cap) (.slice none 0 0)))):=rfl;rw [h2];simp only [Sem.run_bind,Result.andThen_ok,yr hT,Sem.run_pure]
section
variable {cx:Cx} {st:St} {P:Program} {N:Nat} {Q:Exit→St→Prop} {y:Code}
theorem HT.isNil {id:Nat}{o1 o2:Oper}{T T' e:TypeId}{t3 t4:Tmp}{v:au}{t:Ty}{xs:List t.D}{st1:St}(hP:cx.P=P)(hN:cx.N=N)(h1:FA P N [o1,o2] o1 ⟨none,.no⟩ st=some (st1,[]))(hg:o2.guard=none)(Zn:o2.op= .binOp .eql T (.tmp t3) (.const (.slice none 0 0)) T')(hd:o2.dst=some t4)(hlt:Nat.blt t4 N=true)(hT:P.underlying T=some (.slice e))(hv:lk t3 st1.fr=some v)(hx:jA st1.mem (.sl t) v=some xs)(k: ∀b,(b=true→xs=[])→HT cx (st1.put (some t4) (.one (.aB .bool b))) y Q):HT cx st (.seq (.region id [o1,o2].toArray false) y) Q:=by
 subst hP;subst hN;refine HT.seq fun g a w hs=>wp_region_lit ?_;refine wpList_step fun K hK=>qa hs h1 trivial fun g' a' w' db=>hK a' w' ?_;refine wpList_step fun K' Zo=> ?_;have hw:Region.wanted o2 (yielded [o1,o2].toArray a'.tmps)=true:=by simp only [Region.wanted,hg]
 rw [if_pos hw];have hr:gr g' st1.mem st1.mem (fun _=>True) w':=fun k t xs hl=>by
  refine ⟨hl,fun _ _ _=>trivial,?_⟩;have hc:=db.mem k _ hl;unfold gU at hc;cases oO:g'.f k [] with
  |none=>rw [show g' k=none from oO];rw [oO] at hc;exact hc
  |some b=>
   rw [show g' k=some b from oO];rw [oO] at hc;obtain ⟨arr,hb,lr⟩:=hc;exact ⟨arr,hb,lr.ar (fun b _=>⟨trivial,rfl⟩) fun _ _ _=>rfl⟩
 obtain ⟨ad,n,cap,e1,e2⟩:=IG _ _ _ _ hx hr (db.fr t3 v hv);unfold Oper.wp;have he:(execOp a'.eval o2).run cx.P w'= .ok (.value (.bool ad.isNone)) w':=by
  have e3:a'.eval (.tmp t3)= .slice ad n cap:=e1;have e4:a'.eval (.const (.slice none 0 0))= .slice none 0 0:=rfl;simp only [execOp,Zn,e3,e4,Sem.run_bind,Ag,Result.andThen_ok,D2 hT,Sem.run_pure]
 rw [he];refine Zo _ _ ?_;have DL:=db.put (v:= .one (.aB .bool ad.isNone)) (val:= .bool ad.isNone) (show CR g' st1.mem (cx.safe g' st1.mem w') w' (.aB .bool ad.isNone) (.bool ad.isNone) from rfl) (some t4) (fun t e=>by injection e with e;subst e;exact Nat.lt_of_succ_le (by simpa [Nat.blt] using hlt));rw [hd];exact ⟨_,g',k ad.isNone (fun hb=>e2 (by simpa using hb)),DL⟩
end
end Go.Ide
namespace Go.Ide
def St.ar (ks:List Nat)(st:St):St:=⟨(ks.filterMap fun t=>match lk t st.fr with
 |some v=>some (t,v)
 |none=>none),st.mem,st.nx⟩
theorem Ah {fr:Fr}{t:Nat}{v:au}: ∀{ks:List Nat},lk t (ks.filterMap fun t=>match lk t fr with|some v=>some (t,v)|none=>none)=some v→lk t fr=some v
 |[],h=>by simp [eB] at h
 |k::ks,h=>by
  rw [List.filterMap_cons] at h;split at h;exact Ah h;rename_i b hb;split at hb;rename_i v' xR;injection hb with hb;subst hb;rw [aw] at h;split at h;rename_i e;subst e;rw [xR];exact h;exact Ah h;cases hb
theorem bD.Nq {cx:Cx}{g:GM}{st:St}{a:Act}{w:World}(ks:List Nat)(h:bD cx g st a w):bD cx g (st.ar ks) a w:=
 h.congr (fun _ _ hv=>Ah hv) fun _=>rfl
def FG (ks:List Nat):Option (St×List Prop)→Option (St×List Prop)
 |some (st,cs)=>some (st.ar ks,cs)
 |none=>none
theorem wQ {ks:List Nat}{o:Option (St×List Prop)}{st':St}{cs:List Prop}(h:FG ks o=some (st',cs)): ∃st1,o=some (st1,cs)∧st'=st1.ar ks:=by
 unfold FG at h;split at h;rename_i st1 GP;injection h with h;injection h with h1 h2;subst h2;exact ⟨st1,rfl,h1.symm⟩;cases h
def Ca (P:Program)(N:Nat)(ops:List Oper)(h:Nat)(hrs:List HR)(tds:List (List Nat))(rs:List OH)(st:St):Option (St×List Prop):=
 bif (Nat.beq hrs.length h&&Nat.ble h ops.length)&&lO ops (hrs.map HR.D++tds) h 0 ops then (match wL P N ops st (ops.take h) hrs [] st.nx with
  |some (cQ,cs,nx)=>(match nQ P N ops (ops.drop h) rs (mQ st cQ (fun _=>true) nx) with
   |some (st',ky)=>some (st',cs++ky)
   |none=>none)
  |none=>none) else none
def Ai {α β:Type}:Option β→Option (α⊕β)
 |some b=>some (.inr b)
 |none=>none
theorem OJ {α β:Type}{e:Option β}{w:α⊕β}(h:Ai e=some w): ∃z,e=some z∧w= .inr z:=by
 cases e with
 |none=>cases h
 |some z=>injection h with h;exact ⟨z,rfl,h.symm⟩
theorem ah {α:Type}{a b:α}(h:some a=some b):a=b:=by injection h
theorem an {α:Type}{a b:α}(h:some a=some b):b=a:=by injection h with h;exact h.symm
theorem aa:aS []:=trivial
theorem iK {p:Prop}{r:List Prop}(h:p)(hr:aS r):aS (p::r):=⟨h,hr⟩
noncomputable instance {t:Ty}{xs ys:List t.D}:Decidable (bu t xs ys):=Classical.propDecidable _
theorem bd {α:Type}{xs:List α}{n:Int}(h:(0:Int)≤n∧n<ae xs):Int.toNat n<List.length xs:=by
 obtain ⟨h1,h2⟩:=h;simp only [ae] at h2;omega
theorem IH {α:Type}{xs:List α}{n:Int}(h:(0:Int)≤n∧n≤ae xs):List.length (List.take (Int.toNat n) xs)=Int.toNat n:=by
 obtain ⟨h1,h2⟩:=h;simp only [ae] at h2;rw [List.length_take];omega
theorem II {α:Type}(n:Nat)(xs:List α):List.take n xs=List.take (List.length (List.take n xs)) xs:=by
 rw [List.length_take];rcases Nat.le_total n xs.length with h|h
 rw [Nat.min_eq_left h];rw [Nat.min_eq_right h,List.take_length,List.take_of_length_le h]
abbrev tI:Ty:= .int .i64
abbrev aN:Ty:= .sl (.int .i64)
abbrev iV (x:Int):au:= .one (.aB (.int .i64) x)
abbrev iC (x:Int):aq:= .aB (.int .i64) x
abbrev bV (x:Bool):au:= .one (.aB .bool x)
abbrev bC (x:Bool):aq:= .aB .bool x
abbrev nV (x:List Int):au:= .one (.aB (.sl (.int .i64)) x)
abbrev nC (x:List Int):aq:= .aB (.sl (.int .i64)) x
abbrev oH:OH:=⟨none,.no⟩
abbrev aV (c:Nat):au:= .one (.all c)
abbrev pV (c o:Nat):au:= .one (.ptr c o)
def slices_Clone {α:Type}(xs:List α):Option (List α):=ai (0+List.length xs≤av) (some xs)
section
variable {cx:Cx} {st st':St} {P:Program} {N:Nat} {Q:Exit→St→Prop} {x y c:Code}
theorem HT.ar (ks:List Nat)(h:HT cx (st.ar ks) c Q):HT cx st c Q:=fun g a w hs=>h g a w (hs.Nq ks)
theorem IJ {id h:Nat}{ops:List Oper}{hrs:List HR}{tds:List (List Nat)}{rs:List OH}{cs:List Prop}(hP:cx.P=P)(hN:cx.N=N)(hm:P.follows .mixedOrders=true)(he:Ca P N ops h hrs tds rs st=some (st',cs))(hc:aS cs)(hq:Q .normal st'):HT cx st (.region id ops.toArray true) Q:=by
 unfold Ca at he;cases hb:((Nat.beq hrs.length h&&Nat.ble h ops.length)&&lO ops (hrs.map HR.D++tds) h 0 ops) with
 |false=>rw [hb] at he;cases he
 |true=>
  rw [hb] at he;simp only [cond_true] at he;simp only [Bool.and_eq_true] at hb;split at he;rename_i cQ GP nx h1;split at he;rename_i st1 Nl h2;injection he with he;injection he with e1 e2;subst e1;subst e2;obtain ⟨A5,bQ⟩:=hc.append;exact HT.Zl hP hN hm (by simp only [Bool.and_eq_true,beq_iff_eq];exact ⟨aO hb.1.1,hb.1.2⟩) hb.2 h1 h2 A5 bQ hq;cases he;cases he
theorem HT.vl {id:Nat}{ops:List Oper}(ks:List Nat)(rs:List OH)(st':St){cs:List Prop}(hP:cx.P=P)(hN:cx.N=N)(he:FG ks (nQ P N ops ops rs st)=some (st',cs))(hc:aS cs)(hq:HT cx st' y Q):HT cx st (.seq (.region id ops.toArray false) y) Q:=by
 obtain ⟨st1,h1,h2⟩:=wQ he;subst h2;exact HT.seq (HT.Ur hP hN h1 hc (HT.ar ks hq))
def lD:aq→List Nat
 | .ptr c _=>[c]
 | .bT c _ _ _=>[c]
 | .all c=>[c]
 | .ref c _ _=>[c]
 | .row c _ _=>[c]
 | .xS c _ _ _ _ _=>[c]
 | .cls _ ks=>ks
 | .kG c=>[c]
 |_=>[]
def Nr:au→List Nat
 | .one c=>lD c
 | .agg cs=>cs.flatMap lD
 | .zq ts=>ts.flatMap fun t=>t.2.flatMap lD
 |_=>[]
def Ns:Chunk→List Nat
 | .box cs=>cs.flatMap lD
 | .nu _ _ _ cs ks=>cs.flatMap lD++ks
 | .gh cs _=>cs.flatMap lD
 |_=>[]
def yZ (m:Mem):List Nat→Mem
 |[]=>[]
 |k::ks=>(match lk k m with
  |some c=>(k,c)::yZ m ks
  |none=>yZ m ks)
def Sq (own ks ms:List Nat)(st:St):Bool:=
 ((iX ms&&(st.ar ks).fr.all fun p=>(Nr p.2).all fun k=>Om k ms)&&ms.all fun k=>match lk k st.mem with
  |some c=>(Ns c).all fun q=>Om q ms
  |none=>false)&&own.all fun k=>Om k ms
def Us (own ks ms:List Nat):Option (St×List Prop)→Option (St×List Prop)
 |some (st,cs)=>bif Sq own ks ms st then some (⟨(st.ar ks).fr,yZ st.mem ms,st.nx⟩,cs) else none
 |none=>none
theorem IK {own ks ms:List Nat}{st st':St}{cs ky:List Prop}(h:Us own ks ms (some (st,cs))=some (st',ky)):Sq own ks ms st=true∧st'=⟨(st.ar ks).fr,yZ st.mem ms,st.nx⟩∧ky=cs:=by
 simp only [Us] at h;cases hb:Sq own ks ms st with
 |false=>rw [hb] at h;cases h
 |true=>
  rw [hb] at h;simp only [cond_true] at h;injection h with h;injection h with h1 h2;exact ⟨rfl,h1.symm,h2.symm⟩
theorem D3 {m:Mem}{k:Nat}: ∀{ms:List Nat},ms.Nodup→lk k (yZ m ms)=if k∈ms then lk k m else none
 |[],_=>by simp [yZ,eB]
 |q::ms,hn=>by
  simp only [List.nodup_cons] at hn;have ih:=D3 (m:=m) (k:=k) hn.2;simp only [yZ];cases hq:lk q m with
  |none=>
   simp only;rw [ih];by_cases e:k=q;subst e;rw [if_neg hn.1,if_pos (by simp),hq];simp [e]
  |some c=>
   simp only;rw [aw,ih];by_cases e:k=q;subst e;rw [if_pos rfl,if_pos (by simp),hq];rw [if_neg e];simp [e]
theorem CR.sub {g:GM}{m m':Mem}{S S':Nat→Prop}{w:World}(hS: ∀b,S b→S' b){c:aq}(hk: ∀k,k∈lD c→lk k m'=lk k m){v:Value}(hr:CR g m S w c v):CR g m' S' w c v:=by
 have sq: ∀k,lk k m'=lk k m→ ∀t xs,cz m' k t xs→cz m k t xs:=fun k e t xs h=>by unfold cz at h⊢;rw [e] at h;exact h
 cases c with
 |ptr k off=>have e:=hk k (by simp [lD]);exact ⟨by rw [e];exact hr.1,hr.2⟩
 |bT k i sz off=>have e:=hk k (by simp [lD]);exact ⟨by rw [e];exact hr.1,hr.2⟩
 |all k=>have e:=hk k (by simp [lD]);exact ⟨by rw [e];exact hr.1,hr.2.1,fun t xs h=>hr.2.2 t xs (sq k e t xs h)⟩
 |ref k off len=>have e:=hk k (by simp [lD]);exact ⟨by rw [e];exact hr.1,hr.2.1,fun t xs h=>hr.2.2 t xs (sq k e t xs h)⟩
 |row k i o=>have e:=hk k (by simp [lD]);exact ⟨by rw [e];exact hr.1,hr.2.1,fun t xs h=>hr.2.2 t xs (by rw [←e];exact h)⟩
 |xS k i o j sz off=>
  have e:=hk k (by simp [lD]);obtain ⟨h1,b,h2,h3⟩:=hr;exact ⟨by rw [e];exact h1,b,h2,fun t xs h=>h3 t xs (by rw [←e];exact h)⟩
 |aB t x=>exact aR.ar (fun b hb=>⟨hS b hb,rfl⟩) t [v] x hr
 |ip t x off=>
  obtain ⟨ad,es,e,hs,aM,bf⟩:=hr;exact ⟨ad,es,e,hS _ hs,aM,aR.ar (fun b hb=>⟨hS b hb,rfl⟩) t es x bf⟩
 |az=>exact hr
 |fn f=>exact hr
 |lK f t x=>
  obtain ⟨ad,es,e,hs,aM,bf⟩:=hr;exact ⟨ad,es,e,hS _ hs,aM,aR.ar (fun b hb=>⟨hS b hb,rfl⟩) t es x bf⟩
 |cls f ks=>
  obtain ⟨ps,e,aP⟩:=hr;exact ⟨ps,e,aP.imp_mem fun k Ut p hp=>⟨by rw [hk k Ut];exact hp.1,hp.2⟩⟩
 |yF f t x=>
  obtain ⟨ad,De,es,e,db,Bc,hs,aM,bf⟩:=hr;exact ⟨ad,De,es,e,hS _ db,Bc,hS _ hs,aM,aR.ar (fun b hb=>⟨hS b hb,rfl⟩) t es x bf⟩
 |kG k=>have e:=hk k (by simp [lD]);exact ⟨by rw [e];exact hr.1,hr.2⟩
 |cV=>exact hr
 |bad=>trivial
theorem bD.gc {cx:Cx}{g:GM}{sE:St}{a:Act}{w:World}{own ks ms:List Nat}(h:bD cx g sE a w)(ho:cx.own.map Prod.fst=own)(hb:Sq own ks ms sE=true):bD cx g ⟨(sE.ar ks).fr,yZ sE.mem ms,sE.nx⟩ a w:=by
 have h:=h.Nq ks;unfold Sq at hb;simp only [Bool.and_eq_true] at hb;obtain ⟨⟨⟨hn,jW⟩,Zp⟩,Ae⟩:=hb;have hn:=fW hn;have zA: ∀k,k∈ms→lk k (yZ sE.mem ms)=lk k sE.mem:=fun k hk=>by rw [D3 hn,if_pos hk]
 have Ra: ∀k ch,lk k (yZ sE.mem ms)=some ch→k∈ms∧lk k sE.mem=some ch:=fun k ch hk=>by
  rw [D3 hn] at hk;split at hk;rename_i hm;exact ⟨hm,hk⟩;cases hk
 have bS: ∀b,cx.safe g sE.mem w b→cx.safe g (yZ sE.mem ms) w b:=fun b ⟨h1,h2,h3⟩=>⟨h1,h2,fun ⟨k,p,ch,q1,q2,q3⟩=>h3 ⟨k,p,ch,(Ra k ch q1).2,q2,q3⟩⟩;have Q9: ∀c v,(∀k,k∈lD c→k∈ms)→CR g sE.mem (cx.safe g sE.mem w) w c v→CR g (yZ sE.mem ms) (cx.safe g (yZ sE.mem ms) w) w c v:=fun c v hk hr=>CR.sub bS (fun k od=>zA k (hk k od)) hr;have Af: ∀cs vs,(∀k,k∈cs.flatMap lD→k∈ms)→aK (CR g sE.mem (cx.safe g sE.mem w) w) cs vs→aK (CR g (yZ sE.mem ms) (cx.safe g (yZ sE.mem ms) w) w) cs vs:=fun cs vs hk hr=>
  hr.imp_mem fun c hc v hv=>Q9 c v (fun k od=>hk k (List.mem_flatMap.2 ⟨c,hc,od⟩)) hv
 refine ⟨h.defers.ar (fun b hb=>⟨bS b hb,rfl⟩),h.size,fun t v hl=> ?_,fun k ch hk=> ?_,fun k k' p p' ch gV b h1 h2 h3 h4=>h.eH k k' p p' ch gV b (Ra k ch h1).2 h2 (Ra k' gV h3).2 h4,fun k p ch b h1=>h.gp k p ch b (Ra k ch h1).2,fun k p ch b h1=>h.lt k p ch b (Ra k ch h1).2,h.ar,fun p hp=> ?_,h.gl⟩;have hv:=h.fr t v hl;have hk: ∀k,k∈Nr v→k∈ms:=fun k hk=>vy.1 (List.all_eq_true.1 (List.all_eq_true.1 jW _ (kO hl)) k hk);cases v with
 |one c=>exact Q9 c _ hk hv
 |agg cs=>obtain ⟨vs,e,gL⟩:=hv;exact ⟨vs,e,Af cs vs hk gL⟩
 |zq ts=>
  obtain ⟨vs,e,gL⟩:=hv;refine ⟨vs,e,gL.imp_mem fun t ht u hc=> ?_⟩;have fR: ∀k,k∈t.2.flatMap lD→k∈ms:=fun k od=>hk k (List.mem_flatMap.2 ⟨t,ht,od⟩);unfold CV at hc⊢;split at hc;obtain ⟨us,e',hu⟩:=hc;exact ⟨us,e',Af _ us fR hu⟩;rename_i c e1 e2;rw [e2] at fR;exact Q9 _ _ (fun k od=>fR k (by simpa using od)) hc;exact hc.elim
 |A9=>exact hv
 |cV=>trivial
 obtain ⟨Ut,C9⟩:=Ra k ch hk;have hr:=h.mem k ch C9;have OL:=List.all_eq_true.1 Zp k Ut;rw [C9] at OL;have OL: ∀q,q∈Ns ch→q∈ms:=fun q hq=>vy.1 (List.all_eq_true.1 OL q hq);cases ch with
 |gone=>trivial
 |box cs=>obtain ⟨b,arr,e,hb,aP⟩:=hr;exact ⟨b,arr,e,hb,Af cs _ OL aP⟩
 |mp t u xs=>exact hr
 |n9 T e xs=>exact hr
 |gh cs vs=>exact ⟨hr.1,Af cs _ OL hr.2⟩
 |seq t xs=>
  show gU g (yZ sE.mem ms) (cx.safe g (yZ sE.mem ms) w) w (g.f k) _;unfold gU at hr⊢;cases hγ:g.f k [] with
  |none=>rw [hγ] at hr;exact hr
  |some b=>
   rw [hγ] at hr;obtain ⟨arr,q1,q2⟩:=hr;exact ⟨arr,q1,q2.ar (fun b hb=>⟨bS b hb,rfl⟩) fun _ _ _=>rfl⟩
 |nu t xs i cs ks=>
  obtain ⟨E7,b,arr,q1,q2,q3,q4,es,q5,q6,q7⟩:=hr;refine ⟨?_,b,arr,q1,q2,q3,fun j hj cX=> ?_,es,q5,q6,Af cs es (fun q hq=>OL q (List.mem_append.2 (.inl hq))) q7⟩;refine aK.DI E7.length fun j o k1 hj Gs=> ?_;obtain ⟨Zg,we,r1,r2⟩:=aK.get j E7 o hj;rw [Gs] at we;injection we with we;subst we;exact ⟨by show lk k1 (yZ sE.mem ms)≠none;rw [zA k1 (OL k1 (List.mem_append.2 (.inr (List.mem_of_getElem? Gs))))];exact r1,r2⟩;obtain ⟨Zq,r1,r2⟩:=q4 j hj cX;exact ⟨Zq,r1,cf.ar (fun b hb=>⟨bS b hb,rfl⟩) t (fun _ _ _=>rfl) r2⟩
 refine ⟨(h.own p hp).1,?_⟩;show lk p.1 (yZ sE.mem ms)≠none;rw [zA p.1 (vy.1 (List.all_eq_true.1 Ae p.1 (by rw [←ho];exact List.mem_map.2 ⟨p,hp,rfl⟩)))];exact (h.own p hp).2
structure gf (cx:Cx)(P:Program)(N:Nat)(own:List Nat):Prop where
 P:cx.P=P
 N:cx.N=N
 own:cx.own.map Prod.fst=own
theorem Le.gc {own ks ms:List Nat}{o:Option (St×List Prop)}{st1:St}{cs GP:List Prop}(hX:gf cx P N own)(ho:o=some (st1,GP))(he:Us own ks ms o=some (st',cs)):cs=GP∧Le cx st1 st':=by
 subst ho;obtain ⟨h1,h2,h3⟩:=IK he;refine ⟨h3,fun g a w hs=>⟨g,?_⟩⟩;rw [h2];exact hs.gc hX.own h1
theorem af (h:HT cx st y Q):uM cx y Q .normal st:=h
theorem aT {k:Nat}(h:Q (.exit k) st):uM cx y Q (.exit k) st:=h
theorem aD (h:Q .ret st):uM cx y Q .ret st:=h
theorem aE {id:Nat}(h:Q .normal st):wE id Q .normal st:=h
theorem aI {id:Nat}(h:Q .normal st):wE id Q (.exit id) st:=by
 show if id=id then Q .normal st else Q (.exit id) st
 rw [if_pos rfl];exact h
theorem br {id:Nat}(h:Q .ret st):wE id Q .ret st:=h
theorem aW {J:St→Prop}{k:Nat}(h:Q (.exit k) st):uN J Q (.exit k) st:=h
theorem jE {J:St→Prop}(h:Q .ret st):uN J Q .ret st:=h
theorem aU {J:St→Prop}(h:J st):uN J Q .normal st:=h
theorem HT.Cb {o:Operand}{b:Bool}(he:ev st.fr o=some (.one (.aB .bool b)))(hb:b=true)(h1:HT cx st x Q):HT cx st (.cond o x y) Q:=HT.cond he (fun _=>h1) (fun h=>by rw [hb] at h;cases h)
theorem HT.za {o:Operand}{b:Bool}(he:ev st.fr o=some (.one (.aB .bool b)))(hb:b=false)(h1:HT cx st y Q):HT cx st (.cond o x y) Q:=HT.cond he (fun h=>by rw [hb] at h;cases h) (fun _=>h1)
end
end Go.Ide
namespace Go.Ide
mutual
def Aj (P:Program):Nat→Ty→TypeId→Bool
 |0,_,_=>false
 |n+1,t,T=>match t with
  | .int k=>(match P.underlying T with
   |some (.int k')=>k==k'
   |_=>false)
  | .cD k=>(match P.underlying T with
   |some (.float k')=>k==k'
   |_=>false)
  | .bool=>(match P.underlying T with
   |some .bool=>true
   |_=>false)
  | .str=>(match P.underlying T with
   |some .string=>true
   |_=>false)
  | .sl t=>(match P.underlying T with
   |some (.slice e)=>Aj P n t e&&Nat.beq (P.cellsOf e) t.size
   |_=>false)
  | .st t=>(match P.underlying T with
   |some (.struct fs)=>Nt P n t 0 fs.toList&&Nat.beq (P.cellsOf T) t.size
   |_=>false)
  | .pair _ _=>false
  | .own _=>false
  | .bx _=>false
  | .cl _ _=>false
def Nt (P:Program):Nat→Ty→Nat→List Field→Bool
 |0,_,_,_=>false
 |n+1,t,off,fs=>match fs with
  |[]=>false
  |[f]=>(Aj P n t f.type&&Nat.beq f.offset off)&&Nat.beq (P.cellsOf f.type) t.size
  |f::fs=>match t with
   | .pair a b=>((Aj P n a f.type&&Nat.beq f.offset off)&&Nat.beq (P.cellsOf f.type) a.size)&&Nt P n b (off+a.size) fs
   |_=>false
end
section
variable {H:Type} {enc:TypeId×Value→H} {P:Program} {w:World} {base:Nat} {spare:Nat→Bool} {held:Bool}
def There (w:World)(b:Nat):Prop:=b<w.heap.size
def WfD:(t:Ty)→t.D→Prop
 | .int k,n=>(Lit.int k n).wf=true
 | .cD k,b=> ∃b',bO k b'=b∧(Lit.float k b').wf=true
 | .bool,_=>True
 | .str,s=>List.length s≤maxLen
 | .pair a b,x=>WfD a x.1∧WfD b x.2
 | .st t,x=>WfD t x
 | .sl t,xs=>List.length xs≤maxLen∧ ∀i (h:i<List.length xs),WfD t xs[i]
 | .bx t,xs=>List.length xs≤maxLen∧ ∀i (h:i<List.length xs),WfD t xs[i]
 | .cl _ _,_=>False
 | .own t,xs=>List.length xs≤maxLen∧ ∀i (h:i<List.length xs),WfD t xs[i]
theorem zb {α:Type}{R:Nat→α→Prop}: ∀(n:Nat),(∀i,i<n→ ∃x,R i x)→ ∃l:List α,l.length=n∧ ∀i (h:i<l.length),R i l[i]
 |0,_=>⟨[],rfl,fun i h=>by simp at h⟩
 |n+1,h=>by
  obtain ⟨l,h1,h2⟩:=zb n fun i hi=>h i (by omega);obtain ⟨x,hx⟩:=h n (by omega);refine ⟨l++[x],by simp [h1],fun i hi=> ?_⟩;simp at hi;rcases Nat.lt_or_ge i n with hlt|pL
  rw [List.getElem_append_left (by omega)];exact h2 i (by omega);have:i=n:=by omega
  subst this;rw [List.getElem_append_right (by omega)];simpa [h1] using hx
theorem LO {k k':IntKind}(h:(k==k')=true):k=k':=by cases k<;>cases k'<;>first|rfl|cases h
theorem IL {k k':FloatKind}(h:(k==k')=true):k=k':=by cases k<;>cases k'<;>first|rfl|cases h
theorem uT: ∀(n:Nat),
 (∀(t:Ty) (T:TypeId) (fuel:Nat) (cs:List Value) (y:DataW H×List MemPlace),Aj P n t T=true→DataW.trod enc P w base spare held fuel T cs=some y→ ∃x,aR (There w) w t cs x∧WfD t x)∧
 (∀(t:Ty) (off:Nat) (fs:List Field) (fuel:Nat) (cs:List Value),Nt P n t off fs=true→(∀f∈fs,∃y,DataW.trod enc P w base spare held fuel f.type ((cs.drop f.offset).take (P.cellsOf f.type))=some y)→cs.length=off+t.size→ ∃x,aR (There w) w t (cs.drop off) x∧WfD t x)
 |0=>⟨fun _ _ _ _ _ h _=>by simp [Aj] at h,fun _ _ _ _ _ h _ _=>by simp [Nt] at h⟩
 |n+1=>by
  obtain ⟨Sr,Uu⟩:=uT n;refine ⟨fun t T fuel cs y h hy=> ?_,fun t off fs fuel cs h hf hl=> ?_⟩
  ·cases t with
   |int k=>
    simp only [Aj] at h;split at h;rename_i k' e3;have hk:=LO h;subst hk;obtain ⟨m,rfl,_,Zr⟩:=DataW.trod_int e3 hy;exact ⟨m,rfl,Zr⟩;cases h
   |cD k=>
    simp only [Aj] at h;split at h
    ·rename_i k' e3;have hk:=IL h;subst hk;cases fuel with
     |zero=>simp [DataW.trod] at hy
     |succ fuel=>
      unfold DataW.trod at hy;rw [e3] at hy;split at hy
      case h_3=>
       rename_i k1 k2 b1 h1;injection h1 with h1;injection h1 with h1;subst h1;split at hy;rename_i hk;obtain ⟨Gs,fR⟩:=hk;subst Gs;exact ⟨_,⟨b1,rfl,rfl⟩,b1,rfl,fR⟩;cases hy
      all_goals first|(rename_i h1;cases h1;done)|(rename_i h1 _;cases h1;done)|(rename_i h1 _ _;cases h1;done)|cases hy
    cases h
   |bool=>
    simp only [Aj] at h;split at h;rename_i e3;obtain ⟨m,rfl,_⟩:=DataW.trod_bool e3 hy;exact ⟨m,rfl,trivial⟩;cases h
   |str=>
    simp only [Aj] at h;split at h;rename_i e3;obtain ⟨m,rfl,_,hm⟩:=DataW.trod_string e3 hy;exact ⟨m.data.toList,by simp [aR],by simpa [WfD] using hm⟩;cases h
   |sl t=>
    simp only [Aj] at h;split at h;rename_i e2 e3;simp only [Bool.and_eq_true] at h;obtain ⟨h1,h2⟩:=h;have h2:=aO h2;rcases Go.Deep.open_slice e3 hy with ⟨rfl,_⟩|⟨a,len,cap,m,f2,D,Pl,rfl,hb,hlc,XX,hm,_,lr⟩
    exact ⟨[],⟨none,0,rfl,Nat.le_refl _,fun i hi=>by simp at hi⟩,by simp [WfD]⟩;have XG:len≤m:=by rw [hm];split<;>omega
    obtain ⟨xs,Oo,QV⟩:=zb (R:=fun i (x:t.D)=>There w a.block∧ ∃es,(∀j v,es[j]? =some v→w.cell? (a.add (i*t.size+j))=some v)∧aR (There w) w t es x∧WfD t x) len fun i hi=>by
     obtain ⟨ky,k1,k2⟩:=lr i (by omega);obtain ⟨x,k3,k4⟩:=Sr t _ _ _ _ h1 k2;obtain ⟨_,k5,k6⟩:=World.cells?_some k1;have Ie:0<P.cellsOf e2:=by rw [h2];exact t.size_pos
     refine ⟨x,World.cells?_block k1 Ie |> fun q=>by simpa [There,dM] using q,ky,fun j v hv=> ?_,k3,k4⟩;have hj:j<P.cellsOf e2:=by rw [←k5];exact (List.getElem?_eq_some_iff.1 hv).1
     rw [←add_add,←h2,k6 j hj];exact hv
    refine ⟨xs,⟨some a,cap,by rw [Oo],by omega,fun i hi=> ?_⟩,by rw [Oo];omega,fun i hi=> ?_⟩;obtain ⟨q1,es,q2,q3,_⟩:=QV i hi;exact ⟨a,es,rfl,q1,q2,q3⟩;obtain ⟨_,_,_,_,q4⟩:=QV i hi;exact q4;cases h
   |pair a b=>simp [Aj] at h
   |own t=>simp [Aj] at h
   |bx t=>simp [Aj] at h
   |cl f t=>simp [Aj] at h
   |st t=>
    simp only [Aj] at h;split at h;rename_i e2 e3;simp only [Bool.and_eq_true] at h;obtain ⟨h1,h2⟩:=h;have h2:=aO h2;obtain ⟨xs,f2,_,_,hl,sP,lr⟩:=DataW.trod_struct e3 hy;have:=Uu t 0 _ f2 cs h1 (fun f hf=>by
     obtain ⟨i,hi⟩:=List.getElem?_of_mem hf;have vw:e2[i]? =some f:=by rw [←Array.getElem?_toList];exact hi
     have hlt:i<xs.length:=by rw [sP];exact (Array.getElem?_eq_some_iff.1 vw).1
     exact ⟨xs[i],by rw [lr i f vw];exact List.getElem?_eq_getElem hlt⟩) (by rw [hl,h2,Nat.zero_add])
    obtain ⟨x,k1,k2⟩:=this;rw [List.drop_zero] at k1;exact ⟨x,k1,k2⟩;cases h
  cases fs with
  |nil=>simp [Nt] at h
  |cons f fs=>
   cases fs with
   |nil=>
    simp only [Nt,Bool.and_eq_true] at h;obtain ⟨⟨h1,h2⟩,h3⟩:=h;have h2:=aO h2;have h3:=aO h3;obtain ⟨y,hy⟩:=hf f (by simp);obtain ⟨x,k1,k2⟩:=Sr t _ _ _ _ h1 hy;refine ⟨x,?_,k2⟩;rw [h2,h3,List.take_of_length_le (by rw [List.length_drop];omega)] at k1;exact k1
   |cons f2 fs=>
    cases t with
    |pair a b=>
     simp only [Nt,Bool.and_eq_true] at h;obtain ⟨⟨⟨h1,h2⟩,h3⟩,h4⟩:=h;have h2:=aO h2;have h3:=aO h3;obtain ⟨y,hy⟩:=hf f (by simp);obtain ⟨x,k1,k2⟩:=Sr a _ _ _ _ h1 hy;obtain ⟨z,k3,k4⟩:=Uu b (off+a.size) _ fuel cs h4 (fun g hg=>hf g (by simp only [List.mem_cons] at hg⊢;exact .inr hg)) (by rw [hl];simp [Ty.size];omega);rw [h2,h3] at k1;refine ⟨(x,z),⟨_,_,?_,k1,k3⟩,k2,k4⟩;rw [←List.drop_drop];exact (List.take_append_drop _ _).symm
    |_=>simp [Nt] at h
end
end Go.Ide
namespace Go.Ide
open Go.ChangeShapes Go.WideShapes Go.RowKit
section
variable {H:Type} {enc:TypeId×Value→H} {P:Program}
def IM (P:Program)(ts:List TypeId):Bool:=ts.all fun t=>P.readableRec t&&Nat.blt t P.types.size
theorem rF (hl:laidOutB P=true){W W':World}(hb:Below W.heap.size W W'): ∀{ts:List TypeId} {vs:List Value} {ds:List (DataW H)} {p:List MemPlace},IM P ts=true→DataW.TrodAll enc P W 0 (fun _=>true) true ts vs ds p→(∀x∈p,x.block<W.heap.size)→
 DataW.TrodAll enc P W' 0 (fun b=>decide (b<W.heap.size)) true ts vs ds p
 |[],[],[],p,_,h,_=>h
 |t::ts,v::vs,d::ds,p,hp,h,hlt=>by
  obtain ⟨p1,p2,h1,h2,rfl⟩:=h;simp only [IM,List.all_cons,Bool.and_eq_true] at hp;refine ⟨p1,p2,Below.trod hl hp.1.1 (Nat.lt_of_succ_le (by simpa [Nat.blt] using hp.1.2)) h1 hb (fun x hx=>hlt x (by simp [hx])),rF hl hb (by simpa [IM] using hp.2) h2 (fun x hx=>hlt x (by simp [hx])),rfl⟩
theorem IN {f:Func}{s:ChangeSpec}{T:TypeId}{W W':World}{args:Array Value}{ds gs:List (DataW H)}{before:List MemPlace}(hl:laidOutB P=true)(OM:IM P f.params.toList=true)(hv:s.vars=[])(hr:f.resultTypes= #[T])(hT:P.underlying T=some .bool)(hfn:s.fn H ds={results:=[.lit (.bool true)],args:=ds})(hW:DataW.Whole enc P f.params.toList s.vars false W args.toList ds gs before)(hb:Below W.heap.size W W'):s.post enc P f false true false false W args (.bool true) W':=by
 have Uv:=hW;obtain ⟨p,q,hA,hV,rfl,Uh,lJ⟩:=hW;rw [hv] at hV;obtain ⟨rfl,rfl⟩:=trodVars_none hV;have ON:s.fn H (ds++[])={results:=[.lit (.bool true)],args:=ds}:=by rw [List.append_nil];exact hfn
 refine ⟨ds,[],p++[],[],p,[],Uv,?_,?_,?_,hb.frame _,fun h=>by cases h⟩;rw [ON,hr];exact trodAll_mk1 ⟨1,by simp [DataW.trod,hT,Value.cells]⟩;rw [ON];exact rF hl hb OM hA fun x hx=>Uv.lt x (by simp [hx]);rw [hv,ON];rfl
theorem IP {n:Nat}{t:Ty}{T:TypeId}{W:World}{r:Reach}{base:Nat}{v:Value}(hc:Aj P n t T=true)(h:Value.okWide P W r base T v):cE t v.cells.toList v:=by
 cases n with
 |zero=>simp [Aj] at hc
 |succ n=>
  cases t<;>simp only [Aj] at hc
  case pair=>cases hc
  case own=>cases hc
  case bx=>cases hc
  case cl=>cases hc
  case st t=>
   split at hc;rename_i fs e;unfold Value.okWide at h;rw [e] at h;obtain ⟨cs,rfl,_⟩:=h;simp [cE,Ty.rH,Value.cells];cases hc
  all_goals
   split at hc
   ·rename_i e;simp only [Value.okWide,e,Cell.okWide,Cell.ok] at h;cases v<;>first|(simp [cE,Ty.rH,Value.cells];done)|(simp at h;done)|exact h.elim
   cases hc
def immArgs (l:List TD):List Arg:=l.map fun d=> .bl d.t d.x
def yt (P:Program):List Ty→List TypeId→Bool
 |[],[]=>true
 |t::ts,T::Ts=>Aj P 40 t T&&yt P ts Ts
 |_,_=>false
theorem tl {W:World}{base:Nat}{spare:Nat→Bool}{held:Bool}{r:Reach}{b0:Nat}: ∀{ts:List Ty} {Ts:List TypeId} {vs:List Value} {ds:List (DataW H)} {p:List MemPlace},yt P ts Ts=true→DataW.TrodAll enc P W base spare held Ts vs ds p→
 (∀(j:Nat) t v,Ts[j]? =some t→vs[j]? =some v→Value.okWide P W r b0 t v)→ ∃l:List TD,l.map TD.t=ts∧(∀d∈l,WfD d.t d.x)∧nz (There W) W (immArgs l) vs (l.map fun _=>[])
 |[],[],[],[],p,_,_,_=>⟨[],rfl,fun d hd=>by simp at hd,trivial⟩
 |t::ts,T::Ts,v::vs,d::ds,p,hc,h,jz=>by
  obtain ⟨p1,p2,⟨fuel,h1⟩,h2,rfl⟩:=h;simp only [yt,Bool.and_eq_true] at hc;obtain ⟨x,k1,k2⟩:=(uT 40).1 t T fuel _ _ hc.1 h1;obtain ⟨l,k3,k4,k5⟩:=tl hc.2 h2 fun j t v hj hv=>jz (j+1) t v (by simpa using hj) (by simpa using hv);refine ⟨⟨t,x⟩::l,by simp [k3],fun d hd=> ?_,⟨rfl,_,IP hc.1 (jz 0 T v rfl rfl),k1⟩,k5⟩;rcases List.mem_cons.1 hd with e|hd
  subst e;exact k2;exact k4 d hd
 |[],_::_,_,_,_,hc,_,_=>by simp [yt] at hc
 |_::_,[],_,_,_,hc,_,_=>by simp [yt] at hc
theorem IQ {α β:Type}: ∀(l:List α),(l.map fun _=>([]:List β)).flatten=[]
 |[]=>rfl
 |_::l=>by simp
theorem IS {S:Nat→Prop}{w:World}{v:Value}{F:List (List Nat→Option Nat)}(h:Gp S w [⟨false,.bool,true⟩] v F):v= .bool true:=by
 obtain ⟨vs,h1,h2⟩:=h;cases vs with
 |nil=>exact h1.elim
 |cons u vs=>
  obtain ⟨F1,F2,_,h3,h4⟩:=h1;cases vs with
  |cons=>exact h4.elim
  |nil=>
   have h2:v=u:=h2;subst h2;simp only [wc] at h3;obtain ⟨_,cs,h5,h6⟩:=h3;have h6:cs=[.bool true]:=h6;subst h6;have h5:[Value.bool true]=[v]:=h5;simpa using h5.symm
theorem law_run {f:FuncId}{fn:Func}{s:ChangeSpec}{T:TypeId}{ts:List Ty}{W:World}{base:Nat}{args:Array Value}{ds gs:List (DataW H)}{before:List MemPlace}(hl:laidOutB P=true)(OM:IM P fn.params.toList=true)(hv:s.vars=[])(hr:fn.resultTypes= #[T])(hT:P.underlying T=some .bool)(Nu:yt P ts fn.params.toList=true)(hfn:ds.length=ts.length→s.fn H ds={results:=[.lit (.bool true)],args:=ds})(aP: ∀l:List TD,l.map TD.t=ts→(∀d∈l,WfD d.t d.x)→CallOK P f (immArgs l) [⟨false,.bool,true⟩] [])(hval: ∀(j:Nat) t v,fn.params[j]? =some t→args[j]? =some v→Value.okWide P W .any base t v)(hgl:Glob.ok W (There W))(hW:DataW.Whole enc P fn.params.toList s.vars false W args.toList ds gs before):
 Calls P f args W fun e W'=> ∃v,e= .returned v∧s.post enc P fn false true false false W args v W':=by
 have Uv:=hW;obtain ⟨p,q,hA,hV,rfl,Uh,lJ⟩:=hW;obtain ⟨l,k1,k2,k3⟩:=tl (r:= .any) (b0:=base) Nu hA fun j t v hj hv=>hval j t v (by simpa using hj) (by simpa using hv);have V0:ds.length=ts.length:=by
  have aux: ∀{Ts:List TypeId} {vs:List Value} {ds:List (DataW H)} {p:List MemPlace},DataW.TrodAll enc P W 0 (fun _=>true) true Ts vs ds p→ds.length=Ts.length:=by
   intro Ts;induction Ts with
   |nil=>intro vs ds p h;obtain ⟨_,rfl,_⟩:=trodAll_nil h;rfl
   |cons T Ts ih=>
    intro vs ds p h;obtain ⟨v,Bp,d,ds',p,q,rfl,rfl,rfl,_,h2⟩:=trodAll_cons h;simp [ih h2]
  have aux2: ∀{ts:List Ty} {Ts:List TypeId},yt P ts Ts=true→ts.length=Ts.length:=by
   intro ts;induction ts with
   |nil=>intro Ts h;cases Ts with
    |nil=>rfl
    |cons=>simp [yt] at h
   |cons t ts ih=>intro Ts h;cases Ts with
    |nil=>simp [yt] at h
    |cons T Ts=>simp only [yt,Bool.and_eq_true] at h;simp [ih h.2]
  rw [aux hA,aux2 Nu]
 obtain ⟨_,IT⟩:=aP l k1 k2;have Ft:=IQ (β:=List Nat→Option Nat) l;have:=IT W (There W) args.toList (l.map fun _=>[]) [] (by rw [Ft];exact vd.nil) (by rw [Ft];exact ox.nil) (fun b hb=>⟨hb,by simp⟩) (fun b hb=>by simp at hb) k3 hgl;rw [show args.toList.toArray=args from by simp] at this;refine this.mono fun e W' ⟨v,A',F',e1,_,_,h1,_,h4,_⟩=> ?_;have Zs:=IS h1;subst Zs;exact ⟨_,e1,IN hl OM hv hr hT (hfn V0) Uv ⟨h4.os,h4.tape,h4.output,h4.size,fun k hk=>h4.block k hk (by simp)⟩⟩
end
end Go.Ide
namespace Go.Ide
section
variable {σ ρ:Type} {f g:σ→Option (σ⊕ρ)}
end
end Go.Ide
namespace Go.Ide
open Go.IntWalk
def OO {σ ρ:Type}(g:Nat→σ→σ⊕ρ)(e:σ→ρ):Nat→Nat→σ→ρ
 |0,_,s=>e s
 |k+1,i,s=>match g i s with
  | .inl s'=>OO g e k (i+1) s'
  | .inr r=>r
def OP {σ:Type}(g:Nat→σ→σ):Nat→Nat→σ→σ
 |0,_,s=>s
 |k+1,i,s=>OP g k (i+1) (g i s)
section
variable {σ τ ρ:Type}
theorem D4 {f:τ→Option (τ⊕ρ)}(mk:Nat→σ→τ)(g:Nat→σ→σ⊕ρ)(e:σ→ρ){n:Nat}(I:Nat→σ→Prop)(jq: ∀i s,i<n→I i s→f (mk i s)=some (match g i s with| .inl s'=> .inl (mk (i+1) s')| .inr r=> .inr r)∧(∀s',g i s= .inl s'→I (i+1) s'))(kU: ∀s,I n s→f (mk n s)=some (.inr (e s))): ∀(k i:Nat) (s:σ),i+k=n→I i s→rounds f (mk i s)=some (OO g e k i s)
 |0,i,s,hi,h=>by
  have:i=n:=by omega
  subst this;rw [dP,kU s h];rfl
 |k+1,i,s,hi,h=>by
  obtain ⟨h1,h2⟩:=jq i s (by omega) h;rw [dP,h1];simp only [OO];cases hg:g i s with
  |inl s'=>exact D4 mk g e I jq kU k (i+1) s' (by omega) (h2 s' hg)
  |inr r=>rfl
theorem lE {f:τ→Option (τ⊕ρ)}(mk:Nat→σ→τ)(g:Nat→σ→σ)(e:σ→ρ){n:Nat}(I:Nat→σ→Prop)(jq: ∀i s,i<n→I i s→f (mk i s)=some (.inl (mk (i+1) (g i s)))∧I (i+1) (g i s))(kU: ∀s,I n s→f (mk n s)=some (.inr (e s))): ∀(k i:Nat) (s:σ),i+k=n→I i s→rounds f (mk i s)=some (e (OP g k i s))∧I n (OP g k i s)
 |0,i,s,hi,h=>by
  have:i=n:=by omega
  subst this;rw [dP,kU s h];exact ⟨rfl,h⟩
 |k+1,i,s,hi,h=>by
  obtain ⟨h1,h2⟩:=jq i s (by omega) h;rw [dP,h1];exact lE mk g e I jq kU k (i+1) (g i s) (by omega) h2
def vm (p:Nat→Bool):Nat→Nat→Bool
 |0,_=>true
 |k+1,i=>p i&&vm p k (i+1)
theorem tn {p:Nat→Bool}: ∀{k i:Nat},vm p k i=true↔ ∀j,i≤j→j<i+k→p j=true
 |0,i=>by simp only [vm,true_iff];intro j h1 h2;omega
 |k+1,i=>by
  simp only [vm,Bool.and_eq_true,tn (k:=k)];constructor;rintro ⟨h1,h2⟩ j hj DB;by_cases e:j=i;rw [e];exact h1;exact h2 j (by omega) (by omega);intro h;exact ⟨h i (Nat.le_refl _) (by omega),fun j hj DB=>h j (by omega) (by omega)⟩
theorem kV {f:τ→Option (τ⊕ρ)}(mk:Nat→τ)(p:Nat→Bool)(a b:ρ){n:Nat}(jq: ∀i,i<n→f (mk i)=some (bif p i then .inl (mk (i+1)) else .inr b))(kU:f (mk n)=some (.inr a)): ∀(k i:Nat),i+k=n→rounds f (mk i)=some (bif vm p k i then a else b)
 |0,i,hi=>by
  have:i=n:=by omega
  subst this;rw [dP,kU];rfl
 |k+1,i,hi=>by
  rw [dP,jq i (by omega)];simp only [vm];cases p i with
  |true=>simp only [cond_true,Bool.true_and];exact kV mk p a b jq kU k (i+1) (by omega)
  |false=>rfl
theorem dX {f:σ→Option (σ⊕ρ)}(R:Nat→σ→Prop)(Q:ρ→Prop)(step: ∀n s,R n s→(∃n' s',n'<n∧f s=some (.inl s')∧R n' s')∨(∃r,f s=some (.inr r)∧Q r)):
 ∀(n:Nat) (s:σ),R n s→ ∃r,rounds f s=some r∧Q r:=by
 intro n;induction n using Nat.strongRecOn with
 |_ n ih=>
  intro s h;rw [dP f s];rcases step n s h with ⟨n',s',hn,h1,h3⟩|⟨r,h1,h3⟩
  rw [h1];exact ih n' hn s' h3;rw [h1];exact ⟨r,rfl,h3⟩
end
theorem eQ {a b:Int}(h: -9223372036854775808≤a+b∧a+b≤9223372036854775807):aj .i64 a b=a+b:=i64_in _ h
theorem nD {a b:Int}(h: -9223372036854775808≤a - b∧a - b≤9223372036854775807):a7 .i64 a b=a - b:=i64_in _ h
theorem wR {a b:Int}(h: -9223372036854775808≤a*b∧a*b≤9223372036854775807):ij .i64 a b=a*b:=i64_in _ h
theorem dh {i n:Nat}(h:i<n)(hn:n≤4294967296):aj .i64 (i:Int) 1=((i+1:Nat):Int):=by
 rw [show ((i+1:Nat):Int)=(i:Int)+1 from by omega];exact i64_in _ (by omega)
theorem qW {i n:Nat}(h:i<n):decide ((i:Int)<(n:Int))=true:=by simp;omega
theorem rq {i n:Nat}(h:n≤i):decide ((i:Int)<(n:Int))=false:=by simp;omega
theorem kW {i n:Nat}(h:i<n):(0:Int)≤(i:Int)∧(i:Int)<(n:Int):=⟨by omega,by omega⟩
theorem Ss {c i k:Nat}(hc:c≤1000)(hi:i<1000)(hk:k<1000):aj .i64 (ij .i64 (i:Int) (c:Int)) (k:Int)=((i*c+k:Nat):Int):=by
 have h:i*c≤1000*1000:=Nat.mul_le_mul (by omega) hc;rw [wR (by rw [←Int.natCast_mul];omega),←Int.natCast_mul,eQ (by omega)];omega
end Go.Ide
namespace Go.Ide
open Go.IntWalk
section
variable {α:Type}
theorem jP {xs:List α}{i:Nat}(h:i<xs.length)(d:α):xs.take (i+1)=xs.take i++[xs.getD i d]:=by
 rw [List.take_add_one,List.getD_eq_getElem?_getD,List.getElem?_eq_getElem h];rfl
theorem vC {ρ:Type}{f:Int→Option (Int⊕ρ)}(r:ρ)(n:Nat)(jq: ∀i:Nat,i<n→f (i:Int)=some (.inl ((i+1:Nat):Int)))(kU:f (n:Int)=some (.inr r)):rounds f (0:Int)=some r:=by
 have:=kV (f:=f) (fun i=>((i:Nat):Int)) (fun _=>true) r r (n:=n) (fun i hi=>by rw [jq i hi];rfl) kU n 0 (by omega);rw [show (0:Int)=((0:Nat):Int) from rfl,this];cases vm (fun _=>true) n 0<;>rfl
end
end Go.Ide
namespace Go.Ide
open Go.IntWalk
section
variable {α:Type}
end
end Go.Ide
namespace Go.Ide
end Go.Ide
namespace Go.Ide
section
variable {cx:Cx} {st st':St} {P:Program} {N:Nat} {Q:Exit→St→Prop} {y:Code}
theorem wS {all os2:List Oper}{Q:Exit→Act→World→Prop}: ∀{os:List Oper} {rs:List OH} {st st':St} {cs:List Prop} {g:GM} {a:Act} {w:World},
 bD cx g st a w→nQ cx.P cx.N all os rs st=some (st',cs)→aS cs→(∀g' a' w',bD cx g' st' a' w'→wpList cx.P all.toArray Q os2 a' w')→wpList cx.P all.toArray Q (os++os2) a w
 |[],rs,st,st',cs,g,a,w,h,he,hc,hk=>by
  have he:some (st,[])=some (st',cs):=by cases rs<;>exact he
  injection he with he;injection he with e1 e2;subst e1;exact hk g a w h
 |o::os,[],st,st',cs,g,a,w,h,he,hc,hk=>by cases he
 |o::os,r::rs,st,st',cs,g,a,w,h,he,hc,hk=>by
  simp only [nQ] at he;split at he;rename_i st1 c1 h1;split at he;rename_i FB c2 h2;injection he with he;injection he with e1 e2;subst e1;subst e2;obtain ⟨A5,bQ⟩:=hc.append;rw [List.cons_append];refine wpList_step fun K hK=> ?_;exact qa h h1 A5 fun g' a' w' hs=>hK a' w' (wS hs h2 bQ hk);cases he;cases he
def RG (cx:Cx)(all os:List Oper)(st:St)(Q:Exit→St→Prop):Prop:=
 ∀g a w,bD cx g st a w→wpList cx.P all.toArray (fun e a' w'=> ∃st' g',Q e st'∧bD cx g' st' a' w') os a w
theorem HT.rg {id:Nat}{ops:List Oper}(h:RG cx ops ops st Q):HT cx st (.region id ops.toArray false) Q:=
 fun g a w hs=>wp_region_lit (h g a w hs)
theorem RG.cut (n:Nat){all os:List Oper}(rs:List OH)(st':St){cs:List Prop}(hP:cx.P=P)(hN:cx.N=N)(he:nQ P N all (os.take n) rs st=some (st',cs))(hc:aS cs)(h:RG cx all (os.drop n) st' Q):RG cx all os st Q:=by
 subst hP;subst hN;intro g a w hs;have:=wS (os2:=os.drop n) (Q:=fun e a' w'=> ∃st' g',Q e st'∧bD cx g' st' a' w') hs he hc (fun g' a' w' db=>h g' a' w' db);rwa [List.take_append_drop] at this
theorem RG.last {all os:List Oper}(rs:List OH)(st':St){cs:List Prop}(hP:cx.P=P)(hN:cx.N=N)(he:nQ P N all os rs st=some (st',cs))(hc:aS cs)(hq:Q .normal st'):RG cx all os st Q:=by
 subst hP;subst hN;exact fun g a w hs=>o9 hs he hc fun g' _ _ db=>⟨st',g',hq,db⟩
theorem RG.pF {all os:List Oper}(ks:List Nat)(rs:List OH)(st':St){cs:List Prop}(hP:cx.P=P)(hN:cx.N=N)(he:FG ks (nQ P N all os rs st)=some (st',cs))(hc:aS cs)(hq:HT cx st' y Q):RG cx all os st (uM cx y Q):=by
 obtain ⟨st1,h1,h2⟩:=wQ he;subst h2;exact RG.last rs st1 hP hN h1 hc (HT.ar ks hq)
theorem Le.rg {all os:List Oper}(h:Le cx st st')(hc:RG cx all os st' Q):RG cx all os st Q:=fun g a w hs=>let ⟨g',db⟩:=h g a w hs;hc g' a w db
end
end Go.Ide
namespace Go.Ide
open Go.IntWalk
end Go.Ide
namespace Go.Ide
open Go.IntWalk
section
variable {α:Type}
end
end Go.Ide
