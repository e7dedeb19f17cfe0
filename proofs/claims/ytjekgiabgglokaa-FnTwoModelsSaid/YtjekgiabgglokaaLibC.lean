import Derived.Test.YtjekgiabgglokaaLibB
import Derived.RangeFuncWrites
import Derived.ProofKit
import Derived.Deep.Slices
import Derived.IntWalk
set_option linter.unusedVariables false
set_option linter.unusedSimpArgs false
set_option linter.unusedSectionVars false
namespace Go.Ide
structure OH where
 tv:Option Bool
 h:Hint
def N0 (N:Nat):Option Tmp→Bool
 |some t=>Nat.blt t N
 |none=>true
def St.app (st:St)(d:Option Tmp)(e:cf):St:=(st.l8 (e.l6++e.new++st.mem) (st.nx+e.new.length)).put d e.val
def uI (all:List Oper)(j:Nat):Option Tmp:=(all[j]?).bind (·.dst)
def tO (m:Mem):Mem→Bool
 |[]=>true
 |p::l=>(match lk p.1 m with
  |some _=>false
  |none=>true)&&tO m l
theorem rb {m:Mem}: ∀{l:Mem},tO m l=true→fE m l
 |[],_,p,hp=>by simp at hp
 |q::l,h,p,hp=>by
  simp only [tO,Bool.and_eq_true] at h;rcases List.mem_cons.1 hp with e|hp
  subst e;cases hx:lk p.1 m with
  |none=>rfl
  |some c=>rw [hx] at h;cases h.1
  exact rb h.2 p hp
def oO (P:Program)(all:List Oper)(o:Oper)(r:OH)(fr:Fr)(m:Mem)(nx:Nat):Option (cf×List Prop):=
 match o.guard with
 |none=>(match xN P fr m nx r.h o with
  |some e=>some (e,e.cond)
  |none=>none)
 |some (j,want)=>(match r.tv,(uI all j).bind (fun t=>lk t fr) with
  |some tv,some (.one (.aw .bool b))=>bif tv==want then
   (match xN P fr m nx r.h o with
   |some e=>some (e,(b=tv)::e.cond)
   |none=>none) else some (⟨.DF,[],[],[]⟩,[b=tv])
  |none,some .DF=>some (⟨.DF,[],[],[]⟩,[])
  |_,_=>none)
def wR (P:Program)(N:Nat)(all:List Oper)(o:Oper)(r:OH)(st:St):Option (St×List Prop):=
 match oO P all o r st.fr st.mem st.nx with
 |some (e,cs)=>bif N0 N o.dst&&tO st.mem e.new then some (st.app o.dst e,cs) else none
 |none=>none
def oy (P:Program)(N:Nat)(all:List Oper):List Oper→List OH→St→Option (St×List Prop)
 |[],_,st=>some (st,[])
 |o::os,r::rs,st=>(match wR P N all o r st with
  |some (st1,c1)=>(match oy P N all os rs st1 with
   |some (I9,c2)=>some (I9,c1++c2)
   |none=>none)
  |none=>none)
 |_::_,[],_=>none
section
variable {cx:Cx} {g:GM} {st:St} {a:Act} {w:World}
theorem KI {N:Nat}{d:Option Tmp}(h:N0 N d=true): ∀t,d=some t→t<N:=by
 intro t e;subst e;exact Nat.lt_of_succ_le (by simpa [N0,Nat.blt] using h)
theorem oZ.sim {e:cf}{val:Value}{w':World}(h:oZ cx st a e val w'){d:Option Tmp}(hd: ∀t,d=some t→t<cx.N): ∃g',cX cx g' (st.app d e) (a.put d val) w':=by
 obtain ⟨g',h1,h2⟩:=h;exact ⟨g',h1.put h2 d hd⟩
theorem Ja {all:List Oper}{j:Nat}{b:Bool}(h:cX cx g st a w)(hg:(uI all j).bind (fun t=>lk t st.fr)=some (.one (.aw .bool b))):yielded all.toArray a.tmps j=some b:=by
 unfold uI at hg;unfold yielded;cases ho:all[j]? with
 |none=>simp [ho] at hg
 |some o=>
  rw [ho] at hg;simp only [Option.bind_some] at hg;cases hd:o.dst with
  |none=>simp [hd] at hg
  |some t=>
   rw [hd] at hg;simp only [Option.bind_some] at hg;have hv:=h.fr t _ hg;have hb:a.tmps.getD t undef= .bool b:=nQ (g:=g) (m:=st.mem) (S:=cx.safe g st.mem w) (w:=w) hv;have cp:t<a.tmps.size:=by
    rcases Nat.lt_or_ge t a.tmps.size with cp|qU
    exact cp;rw [Array.getD_eq_getD_getElem?,Array.getElem?_eq_none qU] at hb;cases hb
   simp only [List.getElem?_toArray,ho,Option.bind_some,hd];rw [Array.getD_eq_getD_getElem?,Array.getElem?_eq_getElem cp] at hb;rw [Array.getElem?_eq_getElem cp];simp only [Option.getD_some] at hb;rw [hb]
theorem Jb {all:List Oper}{j:Nat}(h:cX cx g st a w)(hg:(uI all j).bind (fun t=>lk t st.fr)=some .DF):yielded all.toArray a.tmps j=none:=by
 unfold uI at hg;unfold yielded;cases ho:all[j]? with
 |none=>simp [ho] at hg
 |some o=>
  rw [ho] at hg;simp only [Option.bind_some] at hg;cases hd:o.dst with
  |none=>simp [hd] at hg
  |some t=>
   rw [hd] at hg;simp only [Option.bind_some] at hg;have hv:a.tmps.getD t undef=undef:=h.fr t _ hg;simp only [List.getElem?_toArray,ho,Option.bind_some,hd];rcases Nat.lt_or_ge t a.tmps.size with cp|qU
   rw [Array.getD_eq_getD_getElem?,Array.getElem?_eq_getElem cp] at hv;rw [Array.getElem?_eq_getElem cp];simp only [Option.getD_some] at hv;rw [hv];rfl;rw [Array.getElem?_eq_none qU]
theorem yU {all:List Oper}{o:Oper}{r:OH}{e:cf}{cs:List Prop}{Q:Exit→Act→World→Prop}{K:Act→World→Prop}(h:cX cx g st a w)(he:oO cx.P all o r st.fr st.mem st.nx=some (e,cs))(hw:fE st.mem e.new)(hd:N0 cx.N o.dst=true)(hc:bB cs)(hk: ∀g' a' w',cX cx g' (st.app o.dst e) a' w'→K a' w'):if Region.wanted o (yielded all.toArray a.tmps) then o.wp cx.P a w K Q else K (a.put o.dst undef) w:=by
 have hd:=KI hd;unfold oO at he;split at he;rename_i hg;split at he;rename_i e' hi;injection he with he;injection he with e1 e2;subst e1;subst e2;simp only [Region.wanted,hg,if_true];refine (Bw h hw hi hc).wp fun val w' QF=> ?_;obtain ⟨g',hs⟩:=QF.sim hd;exact hk g' _ _ hs;cases he;rename_i j want hg;split at he;rename_i tv b XH hb;have hy:=Ja h hb;cases gW:(tv==want) with
 |true=>
  rw [gW] at he;simp only [cond_true] at he;split at he;rename_i e' hi;injection he with he;injection he with e1 e2;subst e1;subst e2;have Ua:b=tv:=hc.1;have QG:Region.wanted o (yielded all.toArray a.tmps)=true:=by
   simp only [Region.wanted,hg,hy,Ua];simpa using gW
  rw [if_pos QG];refine (Bw h hw hi hc.2).wp fun val w' QF=> ?_;obtain ⟨g',hs⟩:=QF.sim hd;exact hk g' _ _ hs;cases he
 |false=>
  rw [gW] at he;simp only [cond_false] at he;injection he with he;injection he with e1 e2;subst e1;subst e2;have Ua:b=tv:=hc.1;have QG: ¬Region.wanted o (yielded all.toArray a.tmps)=true:=by
   simp only [Region.wanted,hg,hy,Ua];simpa using gW
  rw [if_neg QG];exact hk g _ _ (h.put (v:= .DF) rfl o.dst hd)
 rename_i XH hb;injection he with he;injection he with e1 e2;subst e1;subst e2;have QG: ¬Region.wanted o (yielded all.toArray a.tmps)=true:=by
  simp [Region.wanted,hg,Jb h hb]
 rw [if_neg QG];exact hk g _ _ (h.put (v:= .DF) rfl o.dst hd);cases he
theorem oG {all:List Oper}{o:Oper}{r:OH}{st':St}{cs:List Prop}{Q:Exit→Act→World→Prop}{K:Act→World→Prop}(h:cX cx g st a w)(he:wR cx.P cx.N all o r st=some (st',cs))(hc:bB cs)(hk: ∀g' a' w',cX cx g' st' a' w'→K a' w'):if Region.wanted o (yielded all.toArray a.tmps) then o.wp cx.P a w K Q else K (a.put o.dst undef) w:=by
 unfold wR at he;split at he;rename_i e nU hi;cases hd:(N0 cx.N o.dst&&tO st.mem e.new) with
 |false=>rw [hd] at he;cases he
 |true=>
  rw [hd] at he;simp only [cond_true] at he;simp only [Bool.and_eq_true] at hd;injection he with he;injection he with e1 e2;subst e1;subst e2;exact yU h hi (rb hd.2) hd.1 hc hk
 cases he
theorem qc {all:List Oper}{Q:Exit→Act→World→Prop}: ∀{os:List Oper} {rs:List OH} {st st':St} {cs:List Prop} {g:GM} {a:Act} {w:World},
 cX cx g st a w→oy cx.P cx.N all os rs st=some (st',cs)→bB cs→(∀g' a' w',cX cx g' st' a' w'→Q .normal a' w')→wpList cx.P all.toArray Q os a w
 |[],rs,st,st',cs,g,a,w,h,he,hc,hk=>by
  have he:some (st,[])=some (st',cs):=by cases rs<;>exact he
  injection he with he;injection he with e1 e2;subst e1;exact hk g a w h
 |o::os,[],st,st',cs,g,a,w,h,he,hc,hk=>by cases he
 |o::os,r::rs,st,st',cs,g,a,w,h,he,hc,hk=>by
  simp only [oy] at he;split at he;rename_i st1 c1 h1;split at he;rename_i I9 c2 h2;injection he with he;injection he with e1 e2;subst e1;subst e2;obtain ⟨Av,lQ⟩:=hc.append;refine wpList_step fun K hK=> ?_;exact oG h h1 Av fun g' a' w' hs=>hK a' w' (qc hs h2 lQ hk);cases he;cases he
def HT (cx:Cx)(st:St)(c:Code)(Q:Exit→St→Prop):Prop:=
 ∀g a w,cX cx g st a w→c.wp cx.P (fun e a' w'=> ∃st' g',Q e st'∧cX cx g' st' a' w') a w
variable {Q Q':Exit→St→Prop} {c x y:Code}
theorem HT.mono (h:HT cx st c Q)(hq: ∀e s,Q e s→Q' e s):HT cx st c Q':=
 fun g a w hs=>wp_mono (h g a w hs) fun e _ _ ⟨s,g',h1,h2⟩=>⟨s,g',hq e s h1,h2⟩
theorem HT.region {id:Nat}{ops:List Oper}{rs:List OH}{st':St}{cs:List Prop}(he:oy cx.P cx.N ops ops rs st=some (st',cs))(hc:bB cs)(hq:Q .normal st'):HT cx st (.region id ops.toArray false) Q:=
 fun g a w hs=>wp_region_lit (qc hs he hc fun g' _ _ hs'=>⟨st',g',hq,hs'⟩)
theorem HT.skip (hq:Q .normal st):HT cx st .skip Q:=fun g _ _ hs=>wp_skip ⟨st,g,hq,hs⟩
theorem HT.exit {id:Nat}(hq:Q (.exit id) st):HT cx st (.exit id) Q:=fun g _ _ hs=>wp_exit ⟨st,g,hq,hs⟩
theorem HT.ret (hq:Q .ret st):HT cx st .ret Q:=fun g _ _ hs=>wp_ret ⟨st,g,hq,hs⟩
def En (cx:Cx)(y:Code)(Q:Exit→St→Prop):Exit→St→Prop
 | .normal,s=>HT cx s y Q
 |e,s=>Q e s
theorem HT.seq (h:HT cx st x (En cx y Q)):HT cx st (.seq x y) Q:=fun g a w hs=>by
 refine wp_seq (wp_mono (h g a w hs) fun e a' w' ⟨s,g',h1,h2⟩=> ?_);cases e with
 |normal=>exact h1 g' a' w' h2
 |_=>exact ⟨s,g',h1,h2⟩
theorem HT.cond {o:Operand}{b:Bool}(he:ev st.fr o=some (.one (.aw .bool b)))(h1:b=true→HT cx st x Q)(h2:b=false→HT cx st y Q):HT cx st (.cond o x y) Q:=fun g a w hs=>
 wp_cond_split (nQ (g:=g) (m:=st.mem) (S:=cx.safe g st.mem w) (w:=w) (cg hs he)) (fun e=>h1 e g a w hs) (fun e=>h2 e g a w hs)
def yV (id:Nat)(Q:Exit→St→Prop):Exit→St→Prop
 | .exit XI,s=>if XI=id then Q .normal s else Q (.exit XI) s
 |e,s=>Q e s
theorem HT.block {id:Nat}(h:HT cx st c (yV id Q)):HT cx st (.block id c) Q:=fun g a w hs=>by
 refine wp_block (wp_mono (h g a w hs) fun e a' w' ⟨s,g',h1,h2⟩=> ?_);cases e with
 |exit XI=>
  simp only [Exit.inBlock,yV] at h1⊢;split;rename_i e;rw [if_pos e] at h1;exact ⟨s,g',h1,h2⟩;rename_i e;rw [if_neg e] at h1;exact ⟨s,g',h1,h2⟩
 |_=>exact ⟨s,g',h1,h2⟩
def Bx (J:St→Prop)(Q:Exit→St→Prop):Exit→St→Prop
 | .normal,s=>J s
 |e,s=>Q e s
theorem HT.loop {α:Type}{I:Nat→α→Prop}{S:α→St}{n:Nat}{s:α}(h0:I n s)(hz: ∀s,¬I 0 s)(round: ∀n s,I (n+1) s→HT cx (S s) c (Bx (fun st'=> ∃s',st'=S s'∧I n s') Q)):HT cx (S s) (.loop c) Q:=fun g a w hs=>by
 let J:Nat→Act→World→Prop:=fun n a w=> ∃s g,I n s∧cX cx g (S s) a w;have hex: ∀a w,(∃n,J n a w)→ ∃n,J n a w∧ ∀k,J k a w→n≤k:=by
  intro a w ⟨n,hn⟩;induction n using Nat.strongRecOn with
  |_ n ih=>
   by_cases h: ∃k,k<n∧J k a w;obtain ⟨k,hk,hj⟩:=h;exact ih k hk hj;exact ⟨n,hn,fun k hk=>Nat.le_of_not_lt fun cp=>h ⟨k,cp,hk⟩⟩
 let μ:Act→World→Nat:=fun a w=> @dite Nat (∃n,J n a w) (Classical.propDecidable _) (fun h=>Classical.choose (hex a w h)) (fun _=>0);have hμ: ∀a w n,J n a w→J (μ a w) a w∧μ a w≤n:=by
  intro a w n hn;have hx: ∃n,J n a w:=⟨n,hn⟩;have e:μ a w=Classical.choose (hex a w hx):=dif_pos hx;have:=Classical.choose_spec (hex a w hx);rw [e];exact ⟨this.1,this.2 n hn⟩
 refine wp_loop (fun a w=> ∃n,J n a w) μ ⟨n,s,g,h0,hs⟩ fun a w ⟨n,hn⟩=> ?_;obtain ⟨⟨s,g,hI,hs⟩,_⟩:=hμ a w n hn;cases hm:μ a w with
 |zero=>rw [hm] at hI;exact absurd hI (hz s)
 |succ k=>
  rw [hm] at hI;refine wp_mono (round k s hI g a w hs) fun e a' w' ⟨st',g',h1,h2⟩=> ?_;cases e with
  |normal=>
   obtain ⟨s',e,hI'⟩:=h1;subst e;have:=hμ a' w' k ⟨s',g',hI',h2⟩;exact ⟨⟨k,s',g',hI',h2⟩,by omega⟩
  |_=>exact ⟨st',g',h1,h2⟩
end
end Go.Ide
namespace Go.Ide
theorem yW {ch:List (Nat×Nat)}: ∀{k k':Nat},lk k ch=some k'→k'∈ch.map Prod.snd:=fun h=>List.mem_map.2 ⟨_,kJ h,rfl⟩
def inv (ch:List (Nat×Nat)):List (Nat×Nat):=ch.map fun p=>(p.2,p.1)
theorem nY: ∀{ch:List (Nat×Nat)} {k k':Nat},(ch.map Prod.fst).Nodup→(ch.map Prod.snd).Nodup→(lk k ch=some k'↔lk k' (inv ch)=some k)
 |[],k,k',_,_=>by simp [inv,gE]
 |(a,b)::ch,k,k',h1,h2=>by
  simp only [List.map_cons,List.nodup_cons] at h1 h2;simp only [inv,List.map_cons];rw [aL,aL];have ih:=nY (ch:=ch) (k:=k) (k':=k') h1.2 h2.2;by_cases hk:k=a;subst hk;rw [if_pos rfl];by_cases gM:k'=b;subst gM;simp;rw [if_neg gM];constructor;intro e;injection e with e;exact absurd e.symm gM
  intro e;have:=ih.2 e;exact absurd (List.mem_map.2 ⟨_,kJ this,rfl⟩) h1.1;rw [if_neg hk];by_cases gM:k'=b;subst gM;rw [if_pos rfl];constructor;intro e;exact absurd (yW e) h2.1;intro e;injection e with e;exact absurd e.symm hk
  rw [if_neg gM];exact ih
end Go.Ide
namespace Go.Ide
section
variable {w w':World} {D:Nat} {S:Nat→Prop}
theorem N1 {o:Obj}(hD:w.heap[D]? =some o)(hn:o.isCells=false){a:Addr}{v:Value}(h:w.cell? a=some v):a.block≠D:=fun e=>by
 obtain ⟨o',h1,h2⟩:=cells_of_cell h;rw [e,hD] at h1;injection h1 with h1;subst h1;rw [hn] at h2;cases h2
theorem pt {o:Obj}(hD:w.heap[D]? =some o)(hn:o.isCells=false){ad:Addr}{es:List Value}{n k:Nat}(hl:es.length=n)(h0:0<n)(hc: ∀j v,es[j]? =some v→w.cell? (ad.add (k+j))=some v):ad.block≠D:=by
 obtain ⟨v,hv⟩: ∃v,es[0]? =some v:=⟨es[0],List.getElem?_eq_getElem (by omega)⟩;have:=N1 hD hn (hc 0 v hv);rwa [gV] at this
theorem bO.fc {o:Obj}(hD:w.heap[D]? =some o)(hn:o.isCells=false): ∀(t:Ty) (cs:List Value) (x:t.D),bO S w t cs x→bO (fun b=>S b∧b≠D) w t cs x
 | .int _,_,_,hr=>hr
 | .aW _,_,_,hr=>hr
 | .bool,_,_,hr=>hr
 | .str,_,_,hr=>hr
 | .pair a b,_,x,⟨c1,c2,e,h1,h2⟩=>⟨c1,c2,e,bO.fc hD hn a c1 x.1 h1,bO.fc hD hn b c2 x.2 h2⟩
 | .st t,cs,x,hr=>bO.fc hD hn t cs x hr
 | .sl t,_,xs,⟨a,cap,e,hc,hr⟩=>⟨a,cap,e,hc,fun i hi=>by
  obtain ⟨ad,es,ea,hs,bA,cN⟩:=hr i hi;exact ⟨ad,es,ea,⟨hs,pt hD hn (bO.len t es _ cN) t.size_pos bA⟩,bA,bO.fc hD hn t es _ cN⟩⟩
 | .own t,_,xs,⟨a,cap,e,hc,hr⟩=>⟨a,cap,e,hc,fun i hi=>by
  obtain ⟨ad,es,ea,hs,bA,cN⟩:=hr i hi;exact ⟨ad,es,ea,⟨hs,pt hD hn (bO.len t es _ cN) t.size_pos bA⟩,bA,bO.fc hD hn t es _ cN⟩⟩
 | .bx t,_,xs,⟨ad,e,hr⟩=>⟨ad,e,fun i hi=>by
  obtain ⟨es,hs,bA,cN⟩:=hr i hi;exact ⟨es,⟨hs,pt hD hn (bO.len t es _ cN) t.size_pos bA⟩,bA,bO.fc hD hn t es _ cN⟩⟩
variable {g:GM} {m:Mem}
theorem CR.fc {o:Obj}(hD:w.heap[D]? =some o)(hn:o.isCells=false){c:aA}{v:Value}(hr:CR g m S w c v):CR g m (fun b=>S b∧b≠D) w c v:=by
 cases c with
 |aw t x=>exact bO.fc hD hn t [v] x hr
 |ip t x off=>
  obtain ⟨ad,es,e,hs,bA,cN⟩:=hr;exact ⟨ad,es,e,⟨hs,pt (k:=0) hD hn (bO.len t es _ cN) t.size_pos (fun j u hu=>by rw [Nat.zero_add];exact bA j u hu)⟩,bA,bO.fc hD hn t es x cN⟩
 |nr f t x=>
  obtain ⟨ad,es,e,hs,bA,cN⟩:=hr;exact ⟨ad,es,e,⟨hs,pt (k:=0) hD hn (bO.len t es _ cN) t.size_pos (fun j u hu=>by rw [Nat.zero_add];exact bA j u hu)⟩,bA,bO.fc hD hn t es x cN⟩
 |ptr=>exact hr
 |dI=>exact hr
 |all=>exact hr
 |ref=>exact hr
 |row=>exact hr
 |AB=>exact hr
 |al=>exact hr
 |fn=>exact hr
 |gv=>exact hr
 |bad=>trivial
theorem VR.fc {o:Obj}(hD:w.heap[D]? =some o)(hn:o.isCells=false): ∀{c:aD} {v:Value},VR g m S w c v→VR g m (fun b=>S b∧b≠D) w c v
 | .one _,_,hr=>CR.fc hD hn hr
 | .agg _,_,⟨vs,e,hr⟩=>⟨vs,e,hr.mono fun _ _=>CR.fc hD hn⟩
 | .FE _,_,⟨vs,e,hr⟩=>⟨vs,e,hr.mono fun t v hc=>by
  unfold CV at hc⊢;split at hc;obtain ⟨us,e',hu⟩:=hc;exact ⟨us,e',hu.mono fun _ _=>CR.fc hD hn⟩;exact CR.fc hD hn hc;exact hc.elim⟩
 | .DF,_,h=>h
 | .gv,_,_=>trivial
theorem cW.fc {ob:Obj}(hD:w.heap[D]? =some ob)(hn:ob.isCells=false): ∀(t:Ty) {γ:List Nat→Option Nat} {o:Nat} {cs:List Value} {x:t.D},cW S w t γ o cs x→cW (fun b=>S b∧b≠D) w t γ o cs x
 | .own t,γ,o,cs,xs,⟨v,e,ha,hr⟩=>by
  refine ⟨v,e,ha,?_⟩;cases hg:γ [o] with
  |none=>rw [hg] at hr;exact hr
  |some b=>
   rw [hg] at hr;obtain ⟨arr,hb,hi⟩:=hr;exact ⟨arr,hb,fun i hl=>let ⟨es,h1,h2⟩:=hi i hl;⟨es,h1,cW.fc hD hn t h2⟩⟩
 | .pair a b,γ,o,cs,x,⟨c1,c2,e,h1,h2⟩=>⟨c1,c2,e,cW.fc hD hn a h1,cW.fc hD hn b h2⟩
 | .st t,γ,o,cs,x,hr=>cW.fc hD hn t (o:=o) (cs:=cs) (x:=x) hr
 | .int k,_,_,cs,x,hr=>bO.fc hD hn (.int k) cs x hr
 | .aW k,_,_,cs,x,hr=>bO.fc hD hn (.aW k) cs x hr
 | .bool,_,_,cs,x,hr=>bO.fc hD hn .bool cs x hr
 | .str,_,_,cs,x,hr=>bO.fc hD hn .str cs x hr
 | .sl t,_,_,cs,x,hr=>bO.fc hD hn (.sl t) cs x hr
 | .bx t,_,_,cs,x,hr=>bO.fc hD hn (.bx t) cs x hr
theorem jf.fc {o:Obj}(hD:w.heap[D]? =some o)(hn:o.isCells=false){γ:List Nat→Option Nat}{ch:Chunk}(hr:jf g m S w γ ch):jf g m (fun b=>S b∧b≠D) w γ ch:=by
 cases ch with
 |gone=>trivial
 |box cs=>
  obtain ⟨b,arr,e,jV,hc⟩:=hr;exact ⟨b,arr,e,jV,hc.mono fun _ _=>CR.fc hD hn⟩
 |seq t xs=>
  cases hγ:γ [] with
  |none=>simp only [jf,hγ] at hr⊢;exact hr
  |some b=>
   simp only [jf,hγ] at hr⊢;obtain ⟨arr,jV,he⟩:=hr;exact ⟨arr,jV,fun i hi=>let ⟨es,h1,h2⟩:=he i hi;⟨es,h1,cW.fc hD hn t h2⟩⟩
 |o8 t xs i cs ks=>
  obtain ⟨HK,b,arr,e,jV,hi,hj,es,h1,h2,h3⟩:=hr;refine ⟨HK,b,arr,e,jV,hi,fun j hl jg=> ?_,es,h1,h2,h3.mono fun _ _=>CR.fc hD hn⟩;obtain ⟨es,k1,k2⟩:=hj j hl jg;exact ⟨es,k1,cW.fc hD hn t k2⟩
end
section
variable {cx:Cx} {g:GM} {st:St} {a:Act} {w w':World}
theorem cX.Ub {D:Nat}{o:Obj}(h:cX cx g st a w)(hD:w.heap[D]? =some o)(hn:o.isCells=false)(hw:cx.w0.heap.size≤D)(hos:w'.os=w.os)(htp:w'.tape=w.tape)(hou:w'.output=w.output)(eK:w.heap.size≤w'.heap.size)(hb: ∀b,b<w.heap.size→b≠D→w'.heap[b]? =w.heap[b]?){a':Act}(ht:a'.tmps=a.tmps)(hd:FL cx g st.mem w' a'.defers):cX cx g st a' w':=by
 have hDl:D<w.heap.size:=(Array.getElem?_eq_some_iff.1 hD).1;have de: ∀b arr,dc w b arr→dc w' b arr:=fun b arr N2=>N2.keep (hb b N2.lt (fun e=>by
  obtain ⟨T,lo,hi,h1,_⟩:=N2;rw [e,hD] at h1;injection h1 with h1;subst h1;cases hn))
 have di: ∀b,(cx.safe g st.mem w b∧b≠D)→cx.safe g st.mem w' b∧w'.heap[b]? =w.heap[b]? :=fun b ⟨⟨h1,h2,h3⟩,h4⟩=>⟨⟨Nat.lt_of_lt_of_le h1 eK,h2,h3⟩,hb b h1 h4⟩;have kF:na g g st.mem st.mem (fun b=>cx.safe g st.mem w b∧b≠D) (cx.safe g st.mem w') w w':={
  safe:=di
  tq:=fun c hc=>⟨hc,rfl⟩
  old:=fun c t xs _ hs=>⟨xs,hs,rfl⟩
  dc:=fun c t xs b arr _ _ _ jS=>⟨arr,de b arr jS,rfl⟩
  HI:=fun c _=>rfl
  rows:=fun c t cK _ hc=>⟨cK,hc,cy.refl _ _,fun i o b arr _ jS=>⟨arr,de b arr jS,rfl⟩⟩}
 refine ⟨hd,by rw [ht];exact h.size,fun t v rZ=>by rw [ht];exact VR.stays kF (VR.fc hD hn (h.fr t v rZ)),fun k ch hk=> ?_,h.jU,h.nO,fun k p ch b h1 h2 h3=>Nat.lt_of_lt_of_le (h.lt k p ch b h1 h2 h3) eK,?_,h.own,h.gl⟩;have cH:=jf.fc hD hn (h.mem k ch hk);revert cH;generalize hγ:g.f k=γ;intro cH;have nf: ∀(t:Ty) {γ:List Nat→Option Nat} {o:Nat} {cs:List Value} {x:t.D},cW (fun b=>cx.safe g st.mem w b∧b≠D) w t γ o cs x→cW (cx.safe g st.mem w') w' t γ o cs x:=by
  intro t;induction t with
  |own t ih=>
   intro γ o cs xs ⟨v,e,ha,hr⟩;refine ⟨v,e,ha.stays fun b arr _ jS=>⟨arr,de b arr jS,rfl⟩,?_⟩;cases hg:γ [o] with
   |none=>rw [hg] at hr;exact hr
   |some b=>
    rw [hg] at hr;obtain ⟨arr,jS,hi⟩:=hr;exact ⟨arr,de b arr jS,fun i hl=>let ⟨es,h1,h2⟩:=hi i hl;⟨es,h1,ih h2⟩⟩
  |pair a b Qo Qp=>exact fun ⟨c1,c2,e,h1,h2⟩=>⟨c1,c2,e,Qo h1,Qp h2⟩
  |st t ih=>exact fun {γ o cs x} hr=>ih (γ:=γ) (o:=o) (cs:=cs) (x:=x) hr
  |int k=>exact fun {γ o cs x} hr=>bO.keep di (.int k) cs x hr
  |aW k=>exact fun {γ o cs x} hr=>bO.keep di (.aW k) cs x hr
  |bool=>exact fun {γ o cs x} hr=>bO.keep di .bool cs x hr
  |str=>exact fun {γ o cs x} hr=>bO.keep di .str cs x hr
  |sl t _=>exact fun {γ o cs x} hr=>bO.keep di (.sl t) cs x hr
  |bx t _=>exact fun {γ o cs x} hr=>bO.keep di (.bx t) cs x hr
 cases ch with
 |gone=>trivial
 |box cs=>
  obtain ⟨b,arr,e,jV,hc⟩:=cH;exact ⟨b,arr,e,de b arr jV,hc.mono fun _ _=>CR.stays kF⟩
 |seq t xs=>
  cases Uc:γ [] with
  |none=>simp only [jf,Uc] at cH⊢;exact cH
  |some b=>
   simp only [jf,Uc] at cH⊢;obtain ⟨arr,jV,he⟩:=cH;exact ⟨arr,de b arr jV,fun i hi=>let ⟨es,h1,h2⟩:=he i hi;⟨es,h1,nf t h2⟩⟩
 |o8 t xs i cs ks=>
  obtain ⟨HK,b,arr,e,jV,hi,hj,es,h1,h2,h3⟩:=cH;refine ⟨HK,b,arr,e,de b arr jV,hi,fun j hl jg=> ?_,es,h1,h2,h3.mono fun _ _=>CR.stays kF⟩;obtain ⟨es,k1,k2⟩:=hj j hl jg;exact ⟨es,k1,nf t k2⟩
 refine ⟨hos.trans h.keep.os,htp.trans h.keep.tape,hou.trans h.keep.output,Nat.le_trans h.keep.size eK,fun b h1 h2=> ?_,fun b arr N2=> ?_⟩;rw [hb b (Nat.lt_of_lt_of_le h1 h.keep.size) (by omega)];exact h.keep.block b h1 h2;obtain ⟨aG,h1,h2⟩:=h.keep.sz b arr N2;exact ⟨aG,de b aG h1,h2⟩
end
end Go.Ide
namespace Go.Ide
def toIV (t:Ty)(cs:List aA):aD:=if t.ye then .agg cs else (match cs with|[c]=> .one c|_=> .gv)
def dz:List Arg→Nat→Nat→Fr×List Chunk
 |[],_,_=>([],[])
 | .an t x::r,i,n=>((i,toIV t (ib t x))::(dz r (i+1) n).1,(dz r (i+1) n).2)
 | .jk t x::r,i,n=>((i,.one (.ip t x 0))::(dz r (i+1) n).1,(dz r (i+1) n).2)
 | .fn f::r,i,n=>((i,.one (.fn f))::(dz r (i+1) n).1,(dz r (i+1) n).2)
 | .nr f t x::r,i,n=>((i,.one (.nr f t x))::(dz r (i+1) n).1,(dz r (i+1) n).2)
 | .nl::r,i,n=>((i,.one .al)::(dz r (i+1) n).1,(dz r (i+1) n).2)
 | .mv t x::r,i,n=>
  ((i,toIV t (cA t x n).1)::(dz r (i+1) (n+(cA t x n).2.length)).1,(cA t x n).2++(dz r (i+1) (n+(cA t x n).2.length)).2)
 | .own t x::r,i,n=>
  ((i,toIV t (cA t x n).1)::(dz r (i+1) (n+(cA t x n).2.length)).1,(cA t x n).2++(dz r (i+1) (n+(cA t x n).2.length)).2)
def Jc (j:Nat):List Nat→Bool
 |[]=>false
 |a::l=>Nat.beq j a||Jc j l
theorem Eo {j:Nat}: ∀{l:List Nat},Jc j l=true↔j∈l
 |[]=>by simp [Jc]
 |a::l=>by simp [Jc,Eo (l:=l)]
def iJ:List Arg→Nat→List Nat
 |[],_=>[]
 | .own t x::r,n=>List.range' n (cA t x n).2.length++iJ r (n+(cA t x n).2.length)
 | .mv t x::r,n=>iJ r (n+(cA t x n).2.length)
 | .an _ _::r,n=>iJ r n
 | .jk _ _::r,n=>iJ r n
 | .fn _::r,n=>iJ r n
 | .nr _ _ _::r,n=>iJ r n
 | .nl::r,n=>iJ r n
def vJ (args:List Arg):St:=⟨(dz args 0 0).1,bI 0 (dz args 0 0).2,(dz args 0 0).2.length⟩
def Ep (P:Program)(m:Mem)(fr:Fr):List ResultVar→Option (List aD)
 |[]=>some []
 | .tmp t::r=>match lk t fr,Ep P m fr r with
  |some v,some l=>some (v::l)
  |_,_=>none
 | .cell t T::r=>match lk t fr,Ep P m fr r with
  |some (.one (.ptr c off)),some l=>(match pa P m T (.one (.ptr c off)) with
   |some e=>some (e.val::l)
   |none=>none)
  |_,_=>none
def Gf (m:Mem):List (Bool×Ty)→List aD→Option (List RV×List Nat)
 |[],[]=>some ([],[])
 |(fresh,t)::ts,v::vs=>match Gf m ts vs with
  |some (rs,ks)=>if fresh then (match lZ m t v,dJ m t v.cells with
   |some x,some (k,[])=>some (⟨true,t,x⟩::rs,k++ks)
   |_,_=>none) else (match lZ [] t v with
   |some x=>some (⟨false,t,x⟩::rs,ks)
   |none=>none)
  |none=>none
 |_,_=>none
def gd (m:Mem):(t:Ty)→t.D→Nat→Option (t.D×Nat×List Prop)
 | .pair a b,x,n=>match gd m a x.1 n with
  |some (y,n1,c1)=>(match gd m b x.2 n1 with
   |some (z,n2,c2)=>some ((y,z),n2,c1++c2)
   |none=>none)
  |none=>none
 | .st t,x,n=>gd m t x n
 | .sl t,xs,n=>match lk n m with
  |some (.seq t' ys)=>if h:t'=t then some (cJ (congrArg Ty.sl h) ys,n+1,bif t.top then [List.length ys=List.length xs] else [cy t xs (cJ (a:= .sl t') (b:= .sl t) (congrArg Ty.sl h) ys)]) else none
  |_=>none
 | .own t,xs,n=>match lk n m with
  |some (.seq t' ys)=>if h:t'=t then some ((cJ (a:= .sl t') (b:= .sl t) (congrArg Ty.sl h) ys:List t.D),n+1,bif t.top then [List.length ys=List.length xs] else [cy t xs (cJ (a:= .sl t') (b:= .sl t) (congrArg Ty.sl h) ys)]) else none
  |_=>none
 | .bx t,xs,n=>match lk n m with
  |some (.seq t' ys)=>if h:t'=t then some ((cJ (a:= .sl t') (b:= .sl t) (congrArg Ty.sl h) ys:List t.D),n+1,bif t.top then [List.length ys=List.length xs] else [cy t xs (cJ (a:= .sl t') (b:= .sl t) (congrArg Ty.sl h) ys)]) else none
  |_=>none
 | .int _,x,n=>some (x,n,[])
 | .aW _,x,n=>some (x,n,[])
 | .bool,x,n=>some (x,n,[])
 | .str,x,n=>some (x,n,[])
def i5 (m:Mem):List Arg→Nat→Option (List TD×List Prop)
 |[],_=>some ([],[])
 | .own t x::r,n=>match gd m t x n with
  |some (y,n1,c1)=>(match i5 m r n1 with
   |some (l,c2)=>some (⟨t,y⟩::l,c1++c2)
   |none=>none)
  |none=>none
 | .mv t x::r,n=>i5 m r (n+(cA t x n).2.length)
 | .an _ _::r,n=>i5 m r n
 | .jk _ _::r,n=>i5 m r n
 | .fn _::r,n=>i5 m r n
 | .nr _ _ _::r,n=>i5 m r n
 | .nl::r,n=>i5 m r n
def Er (P:Program)(fn:Func)(args:List Arg)(ts:List (Bool×Ty))(rs:List RV)(outs:List TD)(st:St):Prop:=
 ∃vs ks cs,Ep P st.mem st.fr fn.results.toList=some vs∧Gf st.mem ts vs=some (rs,ks)∧l7 ks=true∧ks.all (fun k=> !(Jc k (iJ args 0)))=true∧i5 st.mem args 0=some (outs,cs)∧bB cs
def Ud (P:Program)(fn:Func)(args:List Arg)(ts:List (Bool×Ty))(rs:List RV)(outs:List TD):Exit→St→Prop
 | .normal,st=>Er P fn args ts rs outs st
 | .ret,st=>Er P fn args ts rs outs st
 |_,_=>False
section
variable {S:Nat→Prop} {w:World}
theorem toIV_VR {g:GM}{m:Mem}{t:Ty}{cs:List Value}{l9:List aA}{v:Value}(h:dT t cs v)(ha:bC (CR g m S w) l9 cs):VR g m S w (toIV t l9) v:=by
 unfold dT at h;unfold toIV;split;rename_i kF;rw [if_pos kF] at h;exact ⟨cs,h,ha⟩;rename_i kF;rw [if_neg kF] at h;subst h;cases l9 with
 |nil=>exact ha.elim
 |cons c r=>
  cases r with
  |nil=>exact ha.1
  |cons=>exact ha.2.elim
theorem vK {S2:Nat→Prop}(hS: ∀b,S b→S2 b): ∀{args:List Arg} {vals:List Value} {As:List (List (List Nat→Option Nat))} (i n:Nat),qC S w args vals As→As.flatten.length=(dz args i n).2.length∧qC S2 w args vals As∧
 ∀(g':GM) (m':Mem),(∀j ch,(dz args i n).2[j]? =some ch→lk (n+j) m'=some ch)→(∀j o,As.flatten[j]? =some o→g'.f (n+j)=o)→
  (∀t v,lk t (dz args i n).1=some v→i≤t∧ ∃u,vals[t - i]? =some u∧VR g' m' S2 w v u)∧Laid g' m' S2 w n (dz args i n).2 As.flatten
 |[],[],[],i,n,_=>⟨rfl,trivial,fun g' m' _ _=>⟨fun t v h=>by simp [dz,gE] at h,rfl,fun j ch hj=>by simp [dz] at hj⟩⟩
 |arg::args,v::vals,F::Fs,i,n,⟨h1,h2⟩=>by
  have plain: ∀(iv:aD),F=[]→dz (arg::args) i n=((i,iv)::(dz args (i+1) n).1,(dz args (i+1) n).2)→(∀(g':GM) (m':Mem),VR g' m' S2 w iv v)→IS S2 w arg v F→
   (F::Fs).flatten.length=(dz (arg::args) i n).2.length∧qC S2 w (arg::args) (v::vals) (F::Fs)∧
   ∀(g':GM) (m':Mem),(∀j ch,(dz (arg::args) i n).2[j]? =some ch→lk (n+j) m'=some ch)→(∀j o,(F::Fs).flatten[j]? =some o→g'.f (n+j)=o)→
    (∀t u,lk t (dz (arg::args) i n).1=some u→i≤t∧ ∃x,(v::vals)[t - i]? =some x∧VR g' m' S2 w u x)∧Laid g' m' S2 w n (dz (arg::args) i n).2 (F::Fs).flatten:=by
   intro iv hF he hv hA;obtain ⟨k1,k2,k3⟩:=vK hS (i+1) n h2;have hfl:(F::Fs).flatten=Fs.flatten:=by rw [hF];rfl
   rw [hfl];refine ⟨by rw [he];exact k1,⟨hA,k2⟩,fun g' m' hm hg=> ?_⟩;rw [he] at hm⊢;obtain ⟨q1,q2⟩:=k3 g' m' hm hg;refine ⟨fun t u hl=> ?_,q2⟩;simp only at hl;rw [aL] at hl;split at hl;rename_i e;subst e;injection hl with hl;subst hl;exact ⟨Nat.le_refl _,v,by simp,hv g' m'⟩;obtain ⟨a1,x,a2,a3⟩:=q1 t u hl;refine ⟨by omega,x,?_,a3⟩;rw [show t - i=(t - (i+1))+1 from by omega];simpa using a2
  have owned: ∀(t:Ty) (x:t.D),dz (arg::args) i n=((i,toIV t (cA t x n).1)::(dz args (i+1) (n+(cA t x n).2.length)).1,(cA t x n).2++(dz args (i+1) (n+(cA t x n).2.length)).2)→
   (∃cs,dT t cs v∧du S w t cs x F)→((∃cs,dT t cs v∧du S2 w t cs x F)→IS S2 w arg v F)→
   (F::Fs).flatten.length=(dz (arg::args) i n).2.length∧qC S2 w (arg::args) (v::vals) (F::Fs)∧
   ∀(g':GM) (m':Mem),(∀j ch,(dz (arg::args) i n).2[j]? =some ch→lk (n+j) m'=some ch)→(∀j o,(F::Fs).flatten[j]? =some o→g'.f (n+j)=o)→
    (∀t u,lk t (dz (arg::args) i n).1=some u→i≤t∧ ∃x,(v::vals)[t - i]? =some x∧VR g' m' S2 w u x)∧Laid g' m' S2 w n (dz (arg::args) i n).2 (F::Fs).flatten:=by
   intro t x he ⟨cs,hv,ho⟩ hA;have ho:=du.mono hS t ho;obtain ⟨l2,b2,k2⟩:=vK hS (i+1) (n+(cA t x n).2.length) h2;have l1:F.length=(cA t x n).2.length:=by rw [fj,du.tD t ho]
   rw [List.flatten_cons];refine ⟨by rw [he];simp only [List.length_append,l1,l2],⟨hA ⟨cs,hv,ho⟩,b2⟩,fun g' m' hm hg=> ?_⟩;rw [he] at hm⊢;obtain ⟨p1,q1⟩:=ph t n ho g' m' (fun j ch hj=>hm j ch (by
    simp only;rw [List.getElem?_append_left (List.getElem?_eq_some_iff.1 hj).1];exact hj)) (fun j o hj=>hg j o (by
    rw [List.getElem?_append_left (List.getElem?_eq_some_iff.1 hj).1];exact hj))
   obtain ⟨p2,q2⟩:=k2 g' m' (fun j ch hj=>by
    rw [Nat.add_assoc];refine hm _ ch ?_;simp only;rw [List.getElem?_append_right (by omega)];simpa using hj) (fun j o hj=>by
    rw [Nat.add_assoc];refine hg _ o ?_;rw [List.getElem?_append_right (by omega),l1];simpa using hj)
   refine ⟨fun t' u hl=> ?_,q1.app q2⟩;simp only at hl;rw [aL] at hl;split at hl;rename_i e;subst e;injection hl with hl;subst hl;exact ⟨Nat.le_refl _,v,by simp,toIV_VR hv p1⟩;obtain ⟨a1,x,a2,a3⟩:=p2 t' u hl;refine ⟨by omega,x,?_,a3⟩;rw [show t' - i=(t' - (i+1))+1 from by omega];simpa using a2
  cases arg with
  |an t x=>
   obtain ⟨hF,cs,hv,hr⟩:=h1;have FF:=bO.keep (fun b hb=>⟨hS b hb,rfl⟩) t cs x hr;exact plain _ hF rfl (fun g' m'=>toIV_VR hv (lq t FF)) ⟨hF,cs,hv,FF⟩
  |jk t x=>
   obtain ⟨hF,ad,es,e,hs,bA,hr⟩:=h1;have FF:=bO.keep (fun b hb=>⟨hS b hb,rfl⟩) t es x hr;exact plain _ hF rfl (fun g' m'=>⟨ad,es,by rw [e];simp [Addr.add],hS _ hs,bA,FF⟩) ⟨hF,ad,es,e,hS _ hs,bA,FF⟩
  |fn f=>
   obtain ⟨hF,e⟩:=h1;exact plain _ hF rfl (fun g' m'=>e) ⟨hF,e⟩
  |nr f t x=>
   obtain ⟨hF,ad,es,e,hs,bA,hr⟩:=h1;have FF:=bO.keep (fun b hb=>⟨hS b hb,rfl⟩) t es x hr;exact plain _ hF rfl (fun g' m'=>⟨ad,es,e,hS _ hs,bA,FF⟩) ⟨hF,ad,es,e,hS _ hs,bA,FF⟩
  |nl=>
   obtain ⟨hF,e⟩:=h1;exact plain _ hF rfl (fun g' m'=>e) ⟨hF,e⟩
  |own t x=>exact owned t x rfl h1 fun h=>h
  |mv t x=>exact owned t x rfl h1 fun h=>h
 |[],[],_::_,_,_,h=>h.elim
 |[],_::_,_,_,_,h=>h.elim
 |_::_,[],_,_,_,h=>h.elim
 |_::_,_::_,[],_,_,h=>h.elim
end
section
variable {cx:Cx} {g:GM} {st:St} {a:Act} {w:World}
def Jd (tmps:Array Value):ResultVar→Sem Value
 | .tmp t=>pure (tmps.getD t undef)
 | .cell x t=>do loadVar t (←asAddr (tmps.getD x undef))
theorem yX (h:cX cx g st a w): ∀{rl:List ResultVar} {vs:List aD},Ep cx.P st.mem st.fr rl=some vs→
 ∃vals:List Value,(rl.mapM (Jd a.tmps)).run cx.P w= .ok vals w∧bC (VR g st.mem (cx.safe g st.mem w) w) vs vals
 |[],vs,he=>by simp only [Ep] at he;injection he with he;subst he;exact ⟨[],rfl,trivial⟩
 | .tmp t::rl,vs,he=>by
  simp only [Ep] at he;split at he;rename_i v l hv hl;injection he with he;subst he;obtain ⟨vals,h1,h2⟩:=yX h hl;exact ⟨a.tmps.getD t undef::vals,by simp [List.mapM_cons,Jd,h1],h.fr t v hv,h2⟩;cases he
 | .cell t T::rl,vs,he=>by
  simp only [Ep] at he;split at he;rename_i c off l hv hl;split at he;rename_i e yG;injection he with he;subst he;obtain ⟨vals,h1,h2⟩:=yX h hl;have xO:=h.fr t _ hv;have gW:e.cond=[]:=by
   unfold pa at yG;split at yG;rename_i e1 _ _;cases e1;rename_i e1 _ _;cases e1;split at yG;split at yG;unfold ca at yG;injection yG with yG;rw [←yG]
   cases yG;cases yG;cases yG
  obtain ⟨_,_,r,h3,h4⟩:=qT h.mem yG (by rw [gW];trivial) xO;obtain ⟨_,b,_,e1⟩:=xO;rw [e1] at h3;simp only [Instr.loadAt,Instr.sureAddr,Sem.run_bind,Sem.run_pure,Result.andThen_ok] at h3;exact ⟨r::vals,by simp [List.mapM_cons,Jd,e1,asAddr,h3,h1],h4,h2⟩;cases he;cases he
theorem KJ (hm:kY g st.mem (cx.safe g st.mem w) w){t:Ty}{v:aD}{x:t.D}{ks:List Nat}{u:Value}(hx:lZ st.mem t v=some x)(hk:dJ st.mem t v.cells=some (ks,[]))(hv:VR g st.mem (cx.safe g st.mem w) w v u):
 ∃cs A,dT t cs u∧du (cx.safe g st.mem w) w t cs x A∧j9 g st.mem ks A:=by
 have mT: ∃vcs,dT t vcs u∧bC (CR g st.mem (cx.safe g st.mem w) w) v.cells vcs∧impl st.mem t v.cells=some (x,[]):=by
  unfold lZ at hx;split at hx;rename_i c kF;split at hx;rename_i y hy;injection hx with hx;subst hx;exact ⟨[u],by simp [dT,kF],⟨hv,trivial⟩,hy⟩;cases hx;rename_i cs kF;split at hx;rename_i y hy;injection hx with hx;subst hx;obtain ⟨S6,e,kG⟩:=hv;exact ⟨S6,by simp [dT,kF,e],kG,hy⟩;cases hx;cases hx
 obtain ⟨vcs,hval,bF,himp⟩:=mT;obtain ⟨v1,v2,A,e1,o1,a1,q1,s1,_⟩:=Cl hm (fun _ h=>h) t himp hk bF;have:v2=[]:=by cases v2 with|nil=>rfl|cons=>exact a1.elim
 subst this;rw [List.append_nil] at e1;subst e1;exact ⟨vcs,A,hval,o1,s1⟩
theorem Es (h:cX cx g st a w): ∀{ts:List (Bool×Ty)} {vs:List aD} {vals:List Value} {rs:List RV} {ks:List Nat},Gf st.mem ts vs=some (rs,ks)→bC (VR g st.mem (cx.safe g st.mem w) w) vs vals→
 ∃A,nv (cx.safe g st.mem w) w rs vals A∧j9 g st.mem ks A
 |[],[],vals,rs,ks,he,hv=>by
  simp only [Gf] at he;injection he with he;injection he with e1 e2;subst e1;subst e2;cases vals with
  |nil=>exact ⟨[],rfl,j9.nil⟩
  |cons=>exact hv.elim
 |(fresh,t)::ts,v::vs,[],rs,ks,he,hv=>hv.elim
 |(fresh,t)::ts,v::vs,u::vals,rs,ks,he,hv=>by
  simp only [Gf] at he;split at he;rename_i XJ S5 h1;obtain ⟨A,k1,k2⟩:=Es h h1 hv.2;split at he;rename_i hf;split at he;rename_i x k hx hk;injection he with he;injection he with e1 e2;subst e1;subst e2;obtain ⟨cs,A1,q1,q2,q3⟩:=KJ h.mem hx hk hv.1;refine ⟨A1++A,⟨A1,A,rfl,?_,k1⟩,q3.app k2⟩;unfold yD;rw [if_pos rfl];exact ⟨cs,q1,q2⟩;cases he;rename_i hf;split at he;rename_i x hx;injection he with he;injection he with e1 e2;subst e1;subst e2;obtain ⟨cs,q1,q2⟩:=pb (S2:=cx.safe g st.mem w) (fun _ h=>h) iZ.nil hx hv.1;refine ⟨A,⟨[],A,rfl,?_,k1⟩,k2⟩;unfold yD;rw [if_neg (by simp)];exact ⟨rfl,cs,q1,q2⟩;cases he;cases he
 |[],_::_,_,_,_,he,_=>by simp [Gf] at he
 |_::_,[],_,_,_,he,_=>by cases he
end
theorem Et {S S':Nat→Prop}{w0 w:World}{g:GM}{m:Mem}(hm:kY g m S' w)(hk: ∀b arr,dc w0 b arr→ ∃aG,dc w b aG∧aG.size=arr.size){t:Ty}{cs:List Value}{xs ys:List t.D}{A:List (List Nat→Option Nat)}{n:Nat}(ho:gw S w0 t cs xs A)(hl:lk n m=some (.seq t ys))(hc:bB (bif t.top then [List.length ys=List.length xs] else [cy t xs ys]))(h3: ∀j o,A[j]? =some o→g.f (n+j)=o):A.length=1∧gw S' w t cs ys A∧cy t xs ys:=by
 have vr:cy t xs ys:=by
  cases ht:t.top with
  |true=>rw [ht] at hc;exact cy.top ht hc.1.symm
  |false=>rw [ht] at hc;exact hc.1
 have hlen:ys.length=xs.length:=vr.1.symm;have cH:=hm n _ hl;rcases ho with ⟨hF,hx,a,e⟩|⟨v,γ,hF,e,b,cap,arr,h0,ev,q1,q2,q3,q4,q5,q6⟩
 subst hF;refine ⟨rfl,.inl ⟨rfl,?_,a,e⟩,vr⟩;rw [hx] at hlen;exact List.eq_nil_of_length_eq_zero hlen;subst hF;have hg:=h3 0 γ rfl;rw [Nat.add_zero] at hg;unfold jf at cH;rw [hg,h0] at cH;obtain ⟨aG,r1,r2⟩:=cH;obtain ⟨lP,s1,s2⟩:=hk b arr q3;have:=s1.eq r1;subst this;exact ⟨rfl,.inr ⟨v,γ,rfl,e,b,cap,lP,h0,by rw [hlen];exact ev,by rw [hlen];exact q1,q2,r1,by rw [s2];exact q4,q5,r2⟩,vr⟩
theorem KK {S S':Nat→Prop}{w0 w:World}{g:GM}{m:Mem}(hm:kY g m S' w)(hk: ∀b arr,dc w0 b arr→ ∃aG,dc w b aG∧aG.size=arr.size){t:Ty}{cs:List Value}{xs ys:List t.D}{A:List (List Nat→Option Nat)}{n:Nat}(ho:Bm S w0 t cs xs A)(hl:lk n m=some (.seq t ys))(hc:bB (bif t.top then [List.length ys=List.length xs] else [cy t xs ys]))(h3: ∀j o,A[j]? =some o→g.f (n+j)=o):A.length=1∧Bm S' w t cs ys A∧cy t xs ys:=by
 have vr:cy t xs ys:=by
  cases ht:t.top with
  |true=>rw [ht] at hc;exact cy.top ht hc.1.symm
  |false=>rw [ht] at hc;exact hc.1
 have cH:=hm n _ hl;obtain ⟨γ,b,arr,hF,e,h0,q3,q6⟩:=ho;subst hF;have hg:=h3 0 γ rfl;rw [Nat.add_zero] at hg;unfold jf at cH;rw [hg,h0] at cH;obtain ⟨aG,r1,r2⟩:=cH;exact ⟨rfl,⟨γ,b,aG,rfl,e,h0,r1,r2⟩,vr⟩
theorem qd {S S':Nat→Prop}{w0 w:World}{g:GM}{m:Mem}(hm:kY g m S' w)(hk: ∀b arr,dc w0 b arr→ ∃aG,dc w b aG∧aG.size=arr.size): ∀(t:Ty) {cs:List Value} {x y:t.D} {A:List (List Nat→Option Nat)} {n n':Nat} {cd:List Prop},
 du S w0 t cs x A→gd m t x n=some (y,n',cd)→bB cd→(∀j o,A[j]? =some o→g.f (n+j)=o)→n'=n+A.length∧du S' w t cs y A∧tC t x y
 | .int k,cs,x,y,A,n,n',cd,⟨hF,hr⟩,h,hc,h3=>by simp only [gd] at h;injection h with h;injection h with e1 h;injection h with e2 e3;subst e1;subst e2;subst hF;exact ⟨rfl,⟨rfl,hr⟩,trivial⟩
 | .aW k,cs,x,y,A,n,n',cd,⟨hF,hr⟩,h,hc,h3=>by simp only [gd] at h;injection h with h;injection h with e1 h;injection h with e2 e3;subst e1;subst e2;subst hF;exact ⟨rfl,⟨rfl,hr⟩,trivial⟩
 | .bool,cs,x,y,A,n,n',cd,⟨hF,hr⟩,h,hc,h3=>by simp only [gd] at h;injection h with h;injection h with e1 h;injection h with e2 e3;subst e1;subst e2;subst hF;exact ⟨rfl,⟨rfl,hr⟩,trivial⟩
 | .str,cs,x,y,A,n,n',cd,⟨hF,hr⟩,h,hc,h3=>by simp only [gd] at h;injection h with h;injection h with e1 h;injection h with e2 e3;subst e1;subst e2;subst hF;exact ⟨rfl,⟨rfl,hr⟩,trivial⟩
 | .st t,cs,x,y,A,n,n',cd,ho,h,hc,h3=>qd hm hk t (cs:=cs) (x:=x) (y:=y) ho h hc h3
 | .pair a b,cs,x,y,A,n,n',cd,⟨c1,c2,A1,A2,e1,e2,o1,o2⟩,h,hc,h3=>by
  subst e2;simp only [gd] at h;split at h;rename_i y1 n1 cd1 hy1;split at h;rename_i y2 n2 cd2 XK;injection h with h;injection h with k1 h;injection h with k2 k3;subst k1;subst k2;subst k3;obtain ⟨Av,lQ⟩:=hc.append;obtain ⟨r1,r2,r5⟩:=qd hm hk a o1 hy1 Av (fun j o hj=>h3 j o (by rw [List.getElem?_append_left (List.getElem?_eq_some_iff.1 hj).1];exact hj));subst r1;obtain ⟨r3,r4,r6⟩:=qd hm hk b o2 XK lQ (fun j o hj=>by
   rw [Nat.add_assoc];refine h3 _ o ?_;rw [List.getElem?_append_right (by omega)];simpa using hj)
  exact ⟨by rw [r3,List.length_append];omega,⟨c1,c2,A1,A2,e1,rfl,r2,r4⟩,r5,r6⟩;cases h;cases h
 | .sl t,cs,xs,y,A,n,n',cd,ho,h,hc,h3=>by
  simp only [gd] at h;split at h;rename_i t' ys hl;split at h;rename_i he;subst he;injection h with h;injection h with k1 h;injection h with k2 k3;subst k1;subst k2;subst k3;obtain ⟨r1,r2,r3⟩:=Et hm hk ho hl hc h3;exact ⟨by rw [r1],r2,r3⟩;cases h;cases h
 | .own t,cs,xs,y,A,n,n',cd,ho,h,hc,h3=>by
  simp only [gd] at h;split at h;rename_i t' ys hl;split at h;rename_i he;subst he;injection h with h;injection h with k1 h;injection h with k2 k3;subst k1;subst k2;subst k3;obtain ⟨r1,r2,r3⟩:=Et hm hk ho hl hc h3;exact ⟨by rw [r1],r2,r3⟩;cases h;cases h
 | .bx t,cs,xs,y,A,n,n',cd,ho,h,hc,h3=>by
  simp only [gd] at h;split at h;rename_i t' ys hl;split at h;rename_i he;subst he;injection h with h;injection h with k1 h;injection h with k2 k3;subst k1;subst k2;subst k3;obtain ⟨r1,r2,r3⟩:=KK hm hk ho hl hc h3;exact ⟨by rw [r1],r2,r3⟩;cases h;cases h
theorem ie {S S':Nat→Prop}{w0 w:World}{g:GM}{m:Mem}(hm:kY g m S' w)(hk: ∀b arr,dc w0 b arr→ ∃aG,dc w b aG∧aG.size=arr.size): ∀{args:List Arg} {vals:List Value} {As:List (List (List Nat→Option Nat))} {n:Nat} {outs:List TD} {cd:List Prop},
 qC S w0 args vals As→i5 m args n=some (outs,cd)→bB cd→(∀j o,As.flatten[j]? =some o→n+j∈iJ args n→g.f (n+j)=o)→i4 S' w args vals As outs
 |[],[],[],n,outs,cd,_,h,_,_=>by
  simp only [i5] at h;injection h with h;injection h with e1 e2;subst e1;trivial
 | .an t x::as,v::vs,F::Fs,n,outs,cd,ha,h,hc,h3=>ie hm hk (args:=as) (vals:=vs) (As:=Fs) ha.2 h hc (by have e:F=[]:=ha.1.1;rw [e] at h3;exact h3)
 | .jk t x::as,v::vs,F::Fs,n,outs,cd,ha,h,hc,h3=>ie hm hk (args:=as) (vals:=vs) (As:=Fs) ha.2 h hc (by have e:F=[]:=ha.1.1;rw [e] at h3;exact h3)
 | .fn f::as,v::vs,F::Fs,n,outs,cd,ha,h,hc,h3=>ie hm hk (args:=as) (vals:=vs) (As:=Fs) ha.2 h hc (by have e:F=[]:=ha.1.1;rw [e] at h3;exact h3)
 | .nr f t x::as,v::vs,F::Fs,n,outs,cd,ha,h,hc,h3=>ie hm hk (args:=as) (vals:=vs) (As:=Fs) ha.2 h hc (by have e:F=[]:=ha.1.1;rw [e] at h3;exact h3)
 | .nl::as,v::vs,F::Fs,n,outs,cd,ha,h,hc,h3=>ie hm hk (args:=as) (vals:=vs) (As:=Fs) ha.2 h hc (by have e:F=[]:=ha.1.1;rw [e] at h3;exact h3)
 | .mv t x::as,v::vs,F::Fs,n,outs,cd,⟨⟨cs,hv,ho⟩,ha⟩,h,hc,h3=>by
  have hl:F.length=(cA t x n).2.length:=by rw [fj,du.tD t ho]
  refine ie hm hk (args:=as) (vals:=vs) (As:=Fs) (n:=n+(cA t x n).2.length) ha h hc fun j o hj qY=> ?_;rw [Nat.add_assoc] at qY⊢;refine h3 _ o ?_ qY;rw [List.flatten_cons,List.getElem?_append_right (by omega),hl];simpa using hj
 | .own t x::as,v::vs,F::Fs,n,outs,cd,⟨⟨cs,hv,ho⟩,ha⟩,h,hc,h3=>by
  simp only [i5] at h;split at h;rename_i y n1 c1 hy;split at h;rename_i l c2 hl;injection h with h;injection h with k1 k2;subst k1;subst k2;obtain ⟨Av,lQ⟩:=hc.append;have hlen:F.length=(cA t x n).2.length:=by rw [fj,du.tD t ho]
  obtain ⟨r1,r2,r3⟩:=qd hm hk t ho hy Av (fun j o hj=>h3 j o (by rw [List.flatten_cons,List.getElem?_append_left (List.getElem?_eq_some_iff.1 hj).1];exact hj) (by
   have:=(List.getElem?_eq_some_iff.1 hj).1;simp only [iJ,List.mem_append,List.mem_range'_1];left;omega))
  subst r1;have:=ie hm hk ha hl lQ (fun j o hj qY=>by
   rw [Nat.add_assoc] at qY⊢;refine h3 _ o ?_ ?_;rw [List.flatten_cons,List.getElem?_append_right (by omega)];simpa using hj;simp only [iJ,List.mem_append];right;rw [←hlen];exact qY)
  exact ⟨⟨rfl,cs,hv,r2,r3⟩,this⟩;cases h;cases h
theorem jD {S:Nat→Prop}{w:World}: ∀{args:List Arg} {vals:List Value} {As:List (List (List Nat→Option Nat))} (n:Nat),qC S w args vals As→ ∀j γ p b,As.flatten[j]? =some γ→γ p=some b→n+j∈iJ args n∨vE b args As
 |[],[],[],n,h,j,γ,p,b,hj,_=>by simp at hj
 | .an _ _::as,_::vs,F::Fs,n,h,j,γ,p,b,hj,hp=>by have e:F=[]:=h.1.1;subst e;exact jD (args:=as) (vals:=vs) (As:=Fs) n h.2 j γ p b hj hp
 | .jk _ _::as,_::vs,F::Fs,n,h,j,γ,p,b,hj,hp=>by have e:F=[]:=h.1.1;subst e;exact jD (args:=as) (vals:=vs) (As:=Fs) n h.2 j γ p b hj hp
 | .fn _::as,_::vs,F::Fs,n,h,j,γ,p,b,hj,hp=>by have e:F=[]:=h.1.1;subst e;exact jD (args:=as) (vals:=vs) (As:=Fs) n h.2 j γ p b hj hp
 | .nr _ _ _::as,_::vs,F::Fs,n,h,j,γ,p,b,hj,hp=>by have e:F=[]:=h.1.1;subst e;exact jD (args:=as) (vals:=vs) (As:=Fs) n h.2 j γ p b hj hp
 | .nl::as,_::vs,F::Fs,n,h,j,γ,p,b,hj,hp=>by have e:F=[]:=h.1.1;subst e;exact jD (args:=as) (vals:=vs) (As:=Fs) n h.2 j γ p b hj hp
 | .mv t x::as,v::vs,F::Fs,n,⟨⟨cs,hv,ho⟩,ha⟩,j,γ,p,b,hj,hp=>by
  have hl:F.length=(cA t x n).2.length:=by rw [fj,du.tD t ho]
  rw [List.flatten_cons] at hj;by_cases cp:j<F.length;rw [List.getElem?_append_left cp] at hj;exact .inr (.inl ⟨γ,List.mem_of_getElem? hj,p,hp⟩);rw [List.getElem?_append_right (by omega)] at hj;rcases jD (args:=as) (vals:=vs) (As:=Fs) (n+(cA t x n).2.length) ha _ γ p b hj hp with h|h
  left;simp only [iJ];rwa [show n+(cA t x n).2.length+(j - F.length)=n+j by omega] at h;exact .inr (.inr h)
 | .own t x::as,v::vs,F::Fs,n,⟨⟨cs,hv,ho⟩,ha⟩,j,γ,p,b,hj,hp=>by
  have hl:F.length=(cA t x n).2.length:=by rw [fj,du.tD t ho]
  rw [List.flatten_cons] at hj;by_cases cp:j<F.length;left;simp only [iJ,List.mem_append,List.mem_range'_1];left;omega;rw [List.getElem?_append_right (by omega)] at hj;rcases jD (args:=as) (vals:=vs) (As:=Fs) (n+(cA t x n).2.length) ha _ γ p b hj hp with h|h
  left;simp only [iJ,List.mem_append];right;rwa [show n+(cA t x n).2.length+(j - F.length)=n+j by omega] at h;exact .inr h
theorem qe {m:Mem}: ∀(t:Ty) {x y:t.D} {n n':Nat} {cd:List Prop},gd m t x n=some (y,n',cd)→n'=n+(cA t x n).2.length∧ ∀k,n≤k→k<n'→ ∃t ys,lk k m=some (.seq t ys)
 | .int _,_,_,_,_,_,h=>by simp only [gd] at h;injection h with h;injection h with _ h;injection h with h _;subst h;exact ⟨rfl,fun k h1 h2=>by omega⟩
 | .aW _,_,_,_,_,_,h=>by simp only [gd] at h;injection h with h;injection h with _ h;injection h with h _;subst h;exact ⟨rfl,fun k h1 h2=>by omega⟩
 | .bool,_,_,_,_,_,h=>by simp only [gd] at h;injection h with h;injection h with _ h;injection h with h _;subst h;exact ⟨rfl,fun k h1 h2=>by omega⟩
 | .str,_,_,_,_,_,h=>by simp only [gd] at h;injection h with h;injection h with _ h;injection h with h _;subst h;exact ⟨rfl,fun k h1 h2=>by omega⟩
 | .st t,x,y,_,_,_,h=>qe t (x:=x) (y:=y) h
 | .pair a b,x,_,n,n',cd,h=>by
  simp only [gd] at h;split at h;rename_i y1 n1 c1 h1;split at h;rename_i z1 n2 c2 h2;injection h with h;injection h with _ h;injection h with h _
  subst h;obtain ⟨e1,k1⟩:=qe a h1;obtain ⟨e2,k2⟩:=qe b h2;subst e1;refine ⟨by rw [e2];simp [cA,Nat.add_assoc],fun k h1 h2=> ?_⟩;by_cases cp:k<n+(cA a x.1 n).2.length;exact k1 k h1 cp;exact k2 k (by omega) h2;cases h;cases h
 | .sl t,xs,_,n,n',cd,h=>by
  simp only [gd] at h;split at h;rename_i t' ys hl;split at h;injection h with h;injection h with _ h;injection h with h _
  subst h;refine ⟨rfl,fun k h1 h2=> ?_⟩;have:k=n:=by omega
  subst this;exact ⟨_,_,hl⟩;cases h;cases h
 | .own t,xs,_,n,n',cd,h=>by
  simp only [gd] at h;split at h;rename_i t' ys hl;split at h;injection h with h;injection h with _ h;injection h with h _
  subst h;refine ⟨rfl,fun k h1 h2=> ?_⟩;have:k=n:=by omega
  subst this;exact ⟨_,_,hl⟩;cases h;cases h
 | .bx t,xs,_,n,n',cd,h=>by
  simp only [gd] at h;split at h;rename_i t' ys hl;split at h;injection h with h;injection h with _ h;injection h with h _
  subst h;refine ⟨rfl,fun k h1 h2=> ?_⟩;have:k=n:=by omega
  subst this;exact ⟨_,_,hl⟩;cases h;cases h
theorem ig {m:Mem}: ∀{args:List Arg} {n:Nat} {outs:List TD} {cd:List Prop},i5 m args n=some (outs,cd)→ ∀k,k∈iJ args n→ ∃t ys,lk k m=some (.seq t ys)
 |[],_,_,_,_,k,hk=>by simp [iJ] at hk
 | .an _ _::as,n,outs,cd,h,k,hk=>ig (args:=as) (n:=n) (outs:=outs) (cd:=cd) h k hk
 | .jk _ _::as,n,outs,cd,h,k,hk=>ig (args:=as) (n:=n) (outs:=outs) (cd:=cd) h k hk
 | .fn _::as,n,outs,cd,h,k,hk=>ig (args:=as) (n:=n) (outs:=outs) (cd:=cd) h k hk
 | .nr _ _ _::as,n,outs,cd,h,k,hk=>ig (args:=as) (n:=n) (outs:=outs) (cd:=cd) h k hk
 | .nl::as,n,outs,cd,h,k,hk=>ig (args:=as) (n:=n) (outs:=outs) (cd:=cd) h k hk
 | .mv t x::as,n,outs,cd,h,k,hk=>ig (args:=as) (n:=n+(cA t x n).2.length) (outs:=outs) (cd:=cd) h k hk
 | .own t x::as,n,outs,cd,h,k,hk=>by
  simp only [i5] at h;split at h;rename_i y n1 c1 hy;split at h;rename_i l c2 hl;obtain ⟨e1,h1⟩:=qe t hy;simp only [iJ,List.mem_append,List.mem_range'_1] at hk;rcases hk with hk|hk
  exact h1 k hk.1 (by omega);exact ig hl k (by rw [e1];exact hk);cases h;cases h
theorem KL: ∀(l:List Value),HY l (if h:l.toArray.size=1 then l.toArray[0] else .tuple l.toArray)
 |[]=>rfl
 |[_]=>rfl
 |_::_::_=>rfl
theorem mJ: ∀{args:List Arg} {i n k:Nat},k∈iJ args n→k<n+(dz args i n).2.length
 |[],_,_,_,h=>by simp [iJ] at h
 | .an _ _::as,i,n,k,h=>mJ (args:=as) (i:=i+1) h
 | .jk _ _::as,i,n,k,h=>mJ (args:=as) (i:=i+1) h
 | .fn _::as,i,n,k,h=>mJ (args:=as) (i:=i+1) h
 | .nr _ _ _::as,i,n,k,h=>mJ (args:=as) (i:=i+1) h
 | .nl::as,i,n,k,h=>mJ (args:=as) (i:=i+1) h
 | .mv t x::as,i,n,k,h=>by
  have:=mJ (args:=as) (i:=i+1) (n:=n+(cA t x n).2.length) h;simp only [dz,List.length_append];omega
 | .own t x::as,i,n,k,h=>by
  simp only [iJ,List.mem_append,List.mem_range'_1] at h;simp only [dz,List.length_append];rcases h with h|h
  omega;have:=mJ (args:=as) (i:=i+1) h;omega
theorem CallOK.sF {P:Program}{f:FuncId}{fn:Func}{c:Code}{args:List Arg}{ts:List (Bool×Ty)}{rs:List RV}{outs:List TD}(hf:P.funcs[f]? =some fn)(hb:fn.body=some c)(Ue:(fn.name=="runtime.NumGoroutine")=false)(hn:args.length≤fn.ntmps)(h: ∀cx:Cx,cx.P=P→cx.N=fn.ntmps→cx.own.map Prod.fst=iJ args 0→(I1 args=true→cx.SY)→HT cx (vJ args) c (Ud P fn args ts rs outs)):CallOK P f args rs outs:=by
 refine ⟨⟨fn,hf,Ue,by rw [hb];rfl⟩,fun w S vals As F hB hI hS hFl ha XL=>callsIn_wide.1 (callsIn_of_wp_marks (F:=Fence.wide) (n:=0) hf hb trivial (wpIn_wide.2 ?_))⟩;have JZ: ∀b,S b→(b<w.heap.size∧S b∧b ∉ F):=fun b hb=>⟨(hS b hb).1,hb,(hS b hb).2⟩;obtain ⟨l1,hA,k1⟩:=vK (S2:=fun b=>b<w.heap.size∧S b∧b ∉ F) JZ 0 0 ha;let ov:=(dz args 0 0).2;let DK:=As.flatten;let g:GM:=⟨fun k=>(DK[k]?).getD fun _=>none⟩;have Uf: ∀j o,DK[j]? =some o→g.f (0+j)=o:=fun j o hj=>by
  show (DK[0+j]?).getD _=o;rw [Nat.zero_add,hj];rfl
 have qY: ∀j ch,ov[j]? =some ch→lk (0+j) (bI 0 ov)=some ch:=fun j ch hj=>by
  rw [dU,if_pos (by omega)];simpa using hj
 obtain ⟨oq,yG⟩:=k1 g (bI 0 ov) qY Uf;let cx:Cx:=⟨P,fn.ntmps,w,S,F,(iJ args 0).map fun k=>(k,g.f k)⟩;have Ug: ∀(j:Nat) (γ:List Nat→Option Nat) (p:List Nat) (b:Nat),DK[j]? =some γ→γ p=some b→b∈F:=fun j γ p b hj hp=>(hB b).2 ⟨γ,List.mem_of_getElem? hj,p,hp⟩;have XM: ∀k ch,lk k (bI 0 ov)=some ch→ov[k]? =some ch:=fun k ch hk=>by
  rw [dU,if_pos (by omega)] at hk;simpa using hk
 have mK: ∀k p b,g.f k p=some b→b∈F∧ ∃γ,DK[k]? =some γ∧γ p=some b:=fun k p b hg=>by
  have hg:(DK[k]?).getD (fun _=>none) p=some b:=hg;cases hx:DK[k]? with
  |none=>rw [hx] at hg;simp at hg
  |some γ=>
   rw [hx] at hg;exact ⟨Ug k γ p b hx hg,γ,rfl,hg⟩
 have di: ∀b,(b<w.heap.size∧S b∧b ∉ F)→cx.safe g (bI 0 ov) w b:=fun b ⟨h1,h2,h3⟩=>⟨h1,fun _=>h2,fun ⟨k,p,ch,q1,q2,q3⟩=>h3 (mK k p b q3).1⟩;have hlen:args.length=vals.length:=by
  have: ∀{as:List Arg} {vs:List Value} {Fs:List (List (List Nat→Option Nat))},qC S w as vs Fs→as.length=vs.length:=by
   intro as;induction as with
   |nil=>intro vs Fs h;cases vs<;>cases Fs<;>first|rfl|exact h.elim
   |cons a as ih=>
    intro vs Fs h;cases vs with
    |nil=>exact h.elim
    |cons v vs=>
     cases Fs with
     |nil=>exact h.elim
     |cons F Fs=>simp [ih h.2]
  exact this ha
 have KF:cX cx g (vJ args) {tmps:=vals.toArray++Array.replicate (fn.ntmps - vals.toArray.size) undef,defers:=[]} w:=by
  refine ⟨.nil,?_,fun t v hl=> ?_,fun k ch hk=> ?_,?_,fun k p ch b hk xj hg=> ?_,fun k p ch b hk xj hg=> ?_,bJ.refl _ _,fun p hp=> ?_,⟨XL,hS⟩⟩;show (vals.toArray++Array.replicate (fn.ntmps - vals.toArray.size) undef).size=fn.ntmps;simp;omega;obtain ⟨_,u,hu,hv⟩:=oq t v hl;rw [Nat.sub_zero] at hu;have J2:=(List.getElem?_eq_some_iff.1 hu);have:(vals.toArray++Array.replicate (fn.ntmps - vals.toArray.size) undef).getD t undef=u:=by
   rw [Array.getD_eq_getD_getElem?,Array.getElem?_append_left (by simpa using J2.1)];simp [hu]
  show VR _ _ _ _ _ ((vals.toArray++Array.replicate (fn.ntmps - vals.toArray.size) undef).getD t undef);rw [this];exact VR.stays (na.mono di) hv;obtain ⟨_,o,ho,cH⟩:=yG.chunk k ch (XM k ch hk);have:=Uf k o ho;rw [Nat.zero_add] at this;rw [this];exact jf.stays (na.mono di) (fun _ _ _ _=>rfl) cH;intro k k' p p' ch ji b hk _ gM _ hg jl;obtain ⟨_,γ,h1,h2⟩:=mK k p b hg;obtain ⟨_,γ',h3,h4⟩:=mK k' p' b jl;exact hI.at h1 h3 h2 h4;exact .inr (mK k p b hg).1;exact hFl b (mK k p b hg).1;obtain ⟨k,hk,e⟩:=List.mem_map.1 hp;subst e;refine ⟨rfl,?_⟩;have hk:k<ov.length:=by have:=mJ (i:=0) hk;simpa [ov] using this
  show lk k (bI 0 ov)≠none;rw [dU,if_pos (by omega)];simp [hk]
 have Wc:I1 args=true→cx.SY:=fun hm b hb=>by
  obtain ⟨γ,hγ,p,hp⟩:=(hB b).1 hb;obtain ⟨j,hj⟩:=List.getElem?_of_mem hγ;rcases jD 0 hA j γ p b hj hp with hk|hk
  rw [Nat.zero_add] at hk;refine ⟨(j,g.f j),List.mem_map.2 ⟨j,hk,rfl⟩,p,?_⟩;have:=Uf j _ hj;rw [Nat.zero_add] at this;show g.f j p=some b;rw [this];exact hp;exact absurd hk (vE.none hm)
 have Uh:=h cx rfl rfl (by simp [cx,List.map_map,Function.comp_def]) Wc g _ w KF;refine wp_mono Uh fun e a' w' ⟨st',g',hq,hs'⟩=> ?_;have ret: ∀(a':Act) (w':World),cX cx g' st' a' w'→Er P fn args ts rs outs st'→ ∃v,(results fn a'.tmps).run P w'= .ok v w'∧ ∃v' A' F',Ending.returned v= .returned v'∧yC A' F'∧pY A'∧Kp (kI S w w' F') w' rs v' A'∧(∀b,b∈F'→(w.heap.size≤b∨vE b args As)∧b<w'.heap.size)∧
  bJ F w w'∧i4 (kI S w w' F') w' args vals As outs:=by
  clear hs' hq;intro a' w' hs';rintro ⟨vs,ks,cs,r1,r2,r3,r4,r5,r6⟩;obtain ⟨By,q1,q2⟩:=yX hs' r1;obtain ⟨A',p1,p2⟩:=Es hs' r2 q2;have xw:(results fn a'.tmps).run P w'= .ok (if h:By.toArray.size=1 then By.toArray[0] else .tuple By.toArray) w':=by
   have e:results fn a'.tmps=(do
    let vs←fn.results.mapM (Jd a'.tmps)
    pure (if h:vs.size=1 then vs[0] else .tuple vs)):=by
    have hm:(fun r:ResultVar=>(match r with| .tmp t=>(pure (a'.tmps.getD t undef):Sem Value)| .cell x t=>do loadVar t (←asAddr (a'.tmps.getD x undef))))=Jd a'.tmps:=by
     funext r;cases r<;>rfl
    rw [←hm];rfl
   have q1:(fn.results.toList.mapM (Jd a'.tmps)).run P w'= .ok By w':=q1;rw [e,Array.mapM_eq_mapM_toList];simp only [Sem.run_bind,Sem.run_map,q1,Result.andThen_ok,Sem.run_pure]
  obtain ⟨F',jV⟩:=mI (n:=w'.heap.size) (A:=A') (fun γ hγ p b hp=>by
   obtain ⟨k,_,p',t,xs,a1,a2⟩:=p2.dc hγ hp;exact hs'.lt k p' _ b a2 trivial a1)
  have Nn: ∀b,b∈F'→ ∃k,k∈ks∧ ∃p t xs,g'.f k p=some b∧lk k st'.mem=some (.seq t xs):=fun b hb=>by
   obtain ⟨γ,hγ,p,hp⟩:=(jV b).1 hb;exact p2.dc hγ hp
  have mV: ∀b,b∈F'→(w.heap.size≤b∨vE b args As)∧b<w'.heap.size:=fun b hb=>by
   obtain ⟨k,hk,p,t,xs,a1,a2⟩:=Nn b hb;refine ⟨?_,hs'.lt k p _ b a2 trivial a1⟩;rcases hs'.nO k p _ b a2 trivial a1 with hx|hx
   exact .inl hx;right;obtain ⟨γ,hγ,q,hq⟩:=(hB b).1 hx;obtain ⟨j,hj⟩:=List.getElem?_of_mem hγ;rcases jD 0 hA j γ q b hj hq with S9|S9
   exfalso;rw [Nat.zero_add] at S9;obtain ⟨t',ys,fb⟩:=ig r5 j S9;have XN:g'.f j q=some b:=by
    have:=(hs'.own (j,g.f j) (List.mem_map.2 ⟨j,S9,rfl⟩)).1;simp only at this;rw [this];have:=Uf j _ hj;rw [Nat.zero_add] at this;rw [this];exact hq
   have:=(hs'.jU k j p q _ _ b a2 trivial fb trivial a1 XN).1;have DL:=List.all_eq_true.1 r4 _ hk;rw [this,Eo.2 S9] at DL;cases DL;exact S9
  have Ui: ∀b,cx.safe g' st'.mem w' b→kI S w w' F' b:=fun b ⟨h1,h2,h3⟩=>⟨h1,h2,fun hb=>by
   obtain ⟨k,_,p,t,xs,a1,a2⟩:=Nn b hb;exact h3 ⟨k,p,_,a2,trivial,a1⟩⟩
  refine ⟨_,xw,_,A',F',rfl,jV,p2.inj hs'.NL (jn r3),⟨By,nv.mono Ui p1,?_⟩,mV,hs'.keep,?_⟩;exact KL By;refine ie (S:=fun b=>b<w.heap.size∧S b∧b ∉ F) (g:=g') (m:=st'.mem) (w:=w') (n:=0) (fun k ch hk=>jf.stays (na.mono Ui) (fun _ _ _ _=>rfl) (hs'.mem k ch hk)) hs'.keep.sz hA r5 r6 fun j o hj qY=> ?_;rw [Nat.zero_add] at qY⊢;have:=(hs'.own (j,g.f j) (List.mem_map.2 ⟨j,qY,rfl⟩)).1;simp only at this;rw [this];have:=Uf j o hj;rw [Nat.zero_add] at this;exact this
 have fin:Er P fn args ts rs outs st'→LeavesInM Fence.wide 0 P fn a'.tmps (fun e w'=> ∃v A' F',e= .returned v∧yC A' F'∧pY A'∧Kp (kI S w w' F') w' rs v A'∧(∀b,b∈F'→(w.heap.size≤b∨vE b args As)∧b<w'.heap.size)∧
  bJ F w w'∧i4 (kI S w w' F') w' args vals As outs) a'.defers .returning w':=fun hq=>by
  obtain ⟨Ds,e,hn,hD⟩:=hs'.defers;rw [e];clear e;have key: ∀(Ds:List Nat) (w':World),cX cx g' st' {a' with defers:=[]} w'→Ds.Nodup→(∀D∈Ds,w'.heap[D]? =some (.deferred (some []))∧cx.w0.heap.size≤D)→
   LeavesInM Fence.wide 0 P fn a'.tmps (fun e w'=> ∃v A' F',e= .returned v∧yC A' F'∧pY A'∧Kp (kI S w w' F') w' rs v A'∧(∀b,b∈F'→(w.heap.size≤b∨vE b args As)∧b<w'.heap.size)∧
    bJ F w w'∧i4 (kI S w w' F') w' args vals As outs) (Ds.map (fun D=>{target:= .collected D,args:= #[]})) .returning w':=by
   intro Ds;induction Ds with
   |nil=>exact fun w' hs _ _=>by have hr:=ret _ w' hs hq;exact hr
   |cons D Ds ih=>
    intro w' hs hn hD;have hn:=List.nodup_cons.1 hn;obtain ⟨h1,h2⟩:=hD D List.mem_cons_self;refine ⟨by simp,.inl ⟨D,_,rfl,run_takeDeferred h1,ih _ ?_ hn.2 fun E hE=> ?_⟩⟩;exact hs.Ub (w':=w'.putObj D (.deferred none)) (a':={a' with defers:=[]}) h1 rfl h2 rfl rfl rfl (by simp) (fun b _ jg=>World.putObj_heap_other jg) rfl .nil;obtain ⟨k1,k2⟩:=hD E (List.mem_cons_of_mem _ hE);exact ⟨(World.putObj_heap_other (fun e:E=D=>hn.1 (e▸hE))).trans k1,k2⟩
  exact key Ds w' ⟨.nil,hs'.size,hs'.fr,hs'.mem,hs'.jU,hs'.nO,hs'.lt,hs'.keep,hs'.own,hs'.gl⟩ hn fun D hm=>⟨(hD D hm).1,(hD D hm).2.1⟩
 cases e with
 |normal=>exact fin hq
 |ret=>exact fin hq
 |_=>exact hq.elim
end Go.Ide
namespace Go.Ide
def MM (m m':Mem):Prop:= ∀k ch,lk k m=some ch→lk k m'=some ch
section
variable {P:Program} {m m':Mem}
theorem Je (h:MM m m'){t:Ty}{c:aA}{x:t.D}(he:eE m t c=some x):eE m' t c=some x:=by
 cases c with
 |all c=>
  simp only [eE] at he⊢;split at he;cases hx:lk c m with
  |none=>simp [hx] at he
  |some ch=>rw [hx] at he;rw [h _ _ hx];exact he
  cases he
 |dI c i sz off=>
  simp only [eE] at he⊢;split at he;cases hx:lk c m with
  |none=>simp [hx] at he
  |some ch=>rw [hx] at he;rw [h _ _ hx];exact he
  cases he
 |ref c off len=>
  simp only [eE] at he⊢;split at he;cases hx:lk c m with
  |none=>simp [hx] at he
  |some ch=>rw [hx] at he;rw [h _ _ hx];exact he
  cases he
 |row c i o=>
  simp only [eE] at he⊢;split at he;cases hx:lk c m with
  |none=>simp [hx] at he
  |some ch=>rw [hx] at he;rw [h _ _ hx];exact he
  cases he
 |_=>exact he
theorem kK (h:MM m m'){t:Ty}{cs:List aA}{x:t.D×List aA}(he:c9 m t cs=some x):c9 m' t cs=some x:=by
 cases cs with
 |nil=>exact he
 |cons c r=>
  simp only [c9] at he⊢;cases hx:eE m t c with
  |none=>simp [hx] at he
  |some y=>rw [hx] at he;rw [Je h hx];exact he
theorem me (h:MM m m'): ∀(t:Ty) {cs:List aA} {x:t.D×List aA},impl m t cs=some x→impl m' t cs=some x
 | .int _,_,_,he=>kK h he
 | .aW _,_,_,he=>kK h he
 | .bool,_,_,he=>kK h he
 | .str,_,_,he=>kK h he
 | .sl _,_,_,he=>kK h he
 | .bx _,_,_,he=>kK h he
 | .own _,_,_,he=>kK h he
 | .st t,_,_,he=>me h t he
 | .pair a b,cs,x,he=>by
  simp only [impl] at he⊢;cases h1:impl m a cs with
  |none=>simp [h1] at he
  |some p=>
   obtain ⟨y,r⟩:=p;rw [h1] at he;rw [me h a h1];simp only at he⊢;cases h2:impl m b r with
   |none=>simp [h2] at he
   |some q=>
    rw [h2] at he;rw [me h b h2];exact he
theorem nK (h:MM m m'){t:Ty}{v:aD}{x:t.D}(he:lZ m t v=some x):lZ m' t v=some x:=by
 unfold lZ at he⊢;split at he;rename_i c kF;cases h1:impl m t [c] with
 |none=>simp [h1] at he
 |some p=>rw [h1] at he;(try simp only [kF]);rw [me h t h1];exact he
 rename_i cs kF;cases h1:impl m t cs with
 |none=>simp [h1] at he
 |some p=>rw [h1] at he;(try simp only [kF]);rw [me h t h1];exact he
 cases he
theorem yY (h:MM m m'){T:TypeId}{v:aD}{e:cf}(he:pa P m T v=some e):pa P m' T v=some e:=by
 unfold pa at he⊢;split at he;rename_i c i sz off n ag hs ha
 try simp only [hs,ha]
 cases hx:lk c m with
 |none=>simp [hx] at he
 |some ch=>rw [hx] at he;rw [h _ _ hx];exact he
 rename_i c i o j sz off n ag hs ha
 try simp only [hs,ha]
 cases hx:lk c m with
 |none=>simp [hx] at he
 |some ch=>rw [hx] at he;rw [h _ _ hx];exact he
 rename_i c n ag KM I2 hs ha
 try simp only [hs,ha]
 have key: ∀r,ns m n c=some r→ns m' n c=some r:=by
  intro r hr;cases c with
  |ptr k off=>
   simp only [ns] at hr⊢;cases hx:lk k m with
   |none=>simp [hx] at hr
   |some ch=>rw [hx] at hr;rw [h _ _ hx];exact hr
  |_=>exact hr
 cases hc:ns m n c with
 |none=>simp [hc] at he
 |some r=>
  rw [hc] at he;cases c with
  |dI k i sz off=>first|exact absurd rfl (KM k i sz off)|exact absurd rfl (I2 k i sz off)
  |AB k i o j sz off=>first|exact absurd rfl (KM k i o j sz off)|exact absurd rfl (I2 k i o j sz off)
  |_=>simp only [key _ hc];exact he
 cases he
theorem wT (h:MM m m'){T:TypeId}{a v:aD}{e:cf}(he:pS P m T a v=some e):pS P m' T a v=some e:=by
 unfold pS at he⊢;split at he;rename_i c off n hs
 try simp only [hs]
 cases hx:lk c m with
 |none=>simp [hx] at he
 |some ch=>rw [hx] at he;rw [h _ _ hx];exact he
 rename_i c i sz off n hs
 try simp only [hs]
 cases hx:lk c m with
 |none=>simp [hx] at he
 |some ch=>rw [hx] at he;rw [h _ _ hx];exact he
 rename_i c i o j sz off n hs
 try simp only [hs]
 cases hx:lk c m with
 |none=>simp [hx] at he
 |some ch=>rw [hx] at he;rw [h _ _ hx];exact he
 cases he
theorem xx (h:MM m m'){T:TypeId}{x i:aD}{e:cf}(he:kE P m T x i=some e):kE P m' T x i=some e:=by
 unfold kE at he⊢;split at he;rename_i el k n hu
 try simp only [hu]
 split at he;rename_i t xs kz hs
 try simp only [hs]
 exact he;rename_i c kz hs
 try simp only [hs]
 cases hx:lk c m with
 |none=>simp [hx] at he
 |some ch=>rw [hx] at he;rw [h _ _ hx];exact he
 rename_i c i o kz hs
 try simp only [hs]
 cases hx:lk c m with
 |none=>simp [hx] at he
 |some ch=>rw [hx] at he;rw [h _ _ hx];exact he
 rename_i c off len kz hs
 try simp only [hs]
 cases hx:lk c m with
 |none=>simp [hx] at he
 |some ch=>rw [hx] at he;rw [h _ _ hx];exact he
 cases he;cases he
theorem Jf (h:MM m m'){x:aD}{e:cf}(he:tu m x=some e):tu m' x=some e:=by
 unfold tu at he⊢;split at he;exact he;exact he;rename_i c
 try simp only
 cases hx:lk c m with
 |none=>simp [hx] at he
 |some ch=>rw [hx] at he;rw [h _ _ hx];exact he
 rename_i c i o
 try simp only
 cases hx:lk c m with
 |none=>simp [hx] at he
 |some ch=>rw [hx] at he;rw [h _ _ hx];exact he
 rename_i c off len
 try simp only
 cases hx:lk c m with
 |none=>simp [hx] at he
 |some ch=>rw [hx] at he;rw [h _ _ hx];exact he
 exact he;cases he
theorem tP (h:MM m m'){x:aD}(he:nb m x=true):nb m' x=true:=by
 unfold nb at he⊢;split at he;rename_i c;split at he;rename_i t xs hl;rw [h _ _ hl];exact he;cases he;cases he;exact he
theorem Gg (h:MM m m'){T:TypeId}{x:aD}{e:cf}(he:Ej P m T x=some e):Ej P m' T x=some e:=by
 unfold Ej at he⊢;split at he
 all_goals first
  |(rename_i hu;(try simp only [hu]);exact Jf h he)
  |cases he
theorem uJ (h:MM m m'){t:Ty}{x:aD}{r:List t.D×List (Nat×Chunk)}(he:nt m t x=some r):nt m' t x=some r:=by
 unfold nt at he⊢;split at he;exact he;rename_i c
 try simp only
 cases hx:lk c m with
 |none=>simp [hx] at he
 |some ch=>rw [hx] at he;rw [h _ _ hx];exact he
 rename_i c len
 try simp only
 cases hx:lk c m with
 |none=>simp [hx] at he
 |some ch=>rw [hx] at he;rw [h _ _ hx];exact he
 cases he
theorem Cz (h:MM m m'){nx:Nat}{T T':TypeId}{t:Ty}{s x:aD}{e:cf}(he:rQ P m nx T T' t s x=some e):rQ P m' nx T T' t s x=some e:=by
 unfold rQ at he⊢;split at he;rename_i el hu;split at he;rename_i i hi
 try simp only [hi]
 cases hb:(((Nat.beq T T'&&Nat.beq i.size t.size)&&(Nat.ble i.bytes 32768&&i.zero.isSome)&&(i.zero.map fun z=>Nat.beq z.cells.size t.size).getD false)&&(t.top&&nb m x)) with
 |false=>rw [hb] at he;cases he
 |true=>
  rw [hb] at he;have jS:=hb;simp only [Bool.and_eq_true] at jS;have o5:(((Nat.beq T T'&&Nat.beq i.size t.size)&&(Nat.ble i.bytes 32768&&i.zero.isSome)&&(i.zero.map fun z=>Nat.beq z.cells.size t.size).getD false)&&(t.top&&nb m' x))=true:=by
   rw [jS.2.2] at hb;rw [tP h jS.2.2];exact hb
  rw [o5];simp only [cond_true] at he⊢;cases h1:nt m t s with
  |none=>simp [h1] at he
  |some r=>
   cases h2:lZ m (.sl t) x with
   |none=>simp [h1,h2] at he
   |some ys=>
    rw [h1,h2] at he;rw [uJ h h1,nK h h2];exact he
 cases he;cases he
theorem qf (h:MM m m'): ∀(t:Ty) {cs:List aA} {p:(t.D×List Nat)×List aA},lT m t cs=some p→lT m' t cs=some p
 | .pair a b,cs,p,he=>by
  simp only [lT] at he⊢;split at he;rename_i y k1 r1 h1;rw [qf h a h1];simp only;split at he;rename_i z k2 r2 h2;rw [qf h b h2];exact he;cases he;cases he
 | .st t,cs,p,he=>qf h t (cs:=cs) (p:=p) he
 | .own t,cs,p,he=>by
  simp only [lT] at he⊢;split at he;exact he;rename_i c r;split at he;rename_i e xs hl;rw [h _ _ hl];exact he;cases he;cases he
 | .int _,_,_,he=>he
 | .aW _,_,_,he=>he
 | .bool,_,_,he=>he
 | .str,_,_,he=>he
 | .sl _,_,_,he=>he
 | .bx _,_,_,he=>he
theorem CA (h:MM m m'){nx:Nat}{T:TypeId}{t:Ty}{len:Nat}{parts:List (Nat×aD)}{e:cf}(he:sD P m nx T t len parts=some e):sD P m' nx T t len parts=some e:=by
 unfold sD at he⊢;split at he;rename_i el v hu
 try simp only [hu]
 cases hb:((cY P el==some t.size&&(((P.info? el).bind (·.zero)).map fun z=>Nat.beq z.cells.size t.size)==some true)&&(Nat.beq len 1&&Nat.ble t.size 65536)&&v.ok) with
 |false=>rw [hb] at he;cases he
 |true=>
  rw [hb] at he;simp only [cond_true] at he⊢;split at he;rename_i x ks Wi;rw [qf h t Wi];exact he;cases he
 cases he
theorem CB (h:MM m m'){nx:Nat}{T:TypeId}{t:Ty}{len:Nat}{parts:List (Nat×aD)}{e:cf}(he:sE P m nx T t len parts=some e):sE P m' nx T t len parts=some e:=by
 unfold sE at he⊢;cases ht:t.top with
 |true=>rw [ht] at he;exact he
 |false=>rw [ht] at he;exact CA h he
theorem Gh (h:MM m m'){nx:Nat}{T T':TypeId}{t:Ty}{s x:aD}{e:cf}(he:Bv P m nx T T' t s x=some e):Bv P m' nx T T' t s x=some e:=by
 unfold Bv at he⊢;split at he;rename_i el s c2 hu
 try simp only [hu]
 split at he;rename_i i t2 ys hi Cd;rw [h _ _ Cd]
 try simp only [hi]
 cases hb:(((Nat.beq T T'&&Nat.beq i.size t.size)&&(Nat.ble i.bytes 32768&&i.zero.isSome))&&(i.zero.map fun z=>Nat.beq z.cells.size t.size).getD false) with
 |false=>rw [hb] at he;cases he
 |true=>
  rw [hb] at he;simp only [cond_true] at he⊢;split at he;rename_i ht;rw [dif_pos ht];split at he;exact he;rename_i c
  try simp only
  split at he;rename_i t1 xs Nl;rw [h _ _ Nl];exact he;cases he;cases he;cases he
 cases he;cases he
theorem AW (h:MM m m'){nx:Nat}{T T':TypeId}{t:Ty}{s x:aD}{e:cf}(he:pq P m nx T T' t s x=some e):pq P m' nx T T' t s x=some e:=by
 unfold pq at he⊢;cases ht:t.top with
 |true=>rw [ht] at he;exact Cz h he
 |false=>rw [ht] at he;exact Gh h he
theorem Eu (h:MM m m'){T:TypeId}{x:aD}{lo hi:Option aD}{e:cf}(he:tx P m T x lo hi=some e):tx P m' T x lo hi=some e:=by
 unfold tx at he⊢;split at he;rename_i xs hu;(try simp only [hu]);exact he;rename_i el hu;(try simp only [hu]);exact he;rename_i el t xs hu;(try simp only [hu]);exact he;rename_i el c hu
 try simp only [hu]
 cases hx:lk c m with
 |none=>simp [hx] at he
 |some ch=>rw [hx] at he;rw [h _ _ hx];exact he
 rename_i el c off len hu
 try simp only [hu]
 cases hx:lk c m with
 |none=>simp [hx] at he
 |some ch=>rw [hx] at he;rw [h _ _ hx];exact he
 cases he
theorem lB (h:MM m m'): ∀(t:Ty) (cs:List aA) {p:List Nat×List aA},dJ m t cs=some p→dJ m' t cs=some p
 | .int _,_,_,he=>he
 | .aW _,_,_,he=>he
 | .bool,_,_,he=>he
 | .str,_,_,he=>he
 | .sl t,cs,p,he=>by
  simp only [dJ] at he⊢;split at he;split at he;rename_i hl;rw [h _ _ hl];exact he;cases he;exact he;cases he
 | .own t,cs,p,he=>by
  simp only [dJ] at he⊢;split at he;split at he;rename_i hl;rw [h _ _ hl];exact he;cases he;exact he;cases he
 | .bx t,cs,p,he=>by
  simp only [dJ] at he⊢;split at he;split at he;rename_i hl;rw [h _ _ hl];exact he;cases he;cases he
 | .st t,cs,p,he=>lB h t cs he
 | .pair a b,cs,p,he=>by
  simp only [dJ] at he⊢;split at he;rename_i x r e1;rw [lB h a cs e1];simp only;split at he;rename_i y r' e2;rw [lB h b r e2];exact he;cases he;cases he
theorem dV (h:MM m m'): ∀(ms:List Mode) (vs:List aD) {ks:List Nat},dK m ms vs=some ks→dK m' ms vs=some ks
 |[],[],_,he=>he
 |[],_::_,_,he=>he
 | .own t::ms,v::vs,ks,he=>by
  simp only [dK] at he⊢;split at he;rename_i k1 l1 e1 e2;rw [lB h t _ e1,dV h ms vs e2];exact he;cases he
 | .mv t::ms,v::vs,ks,he=>by
  simp only [dK] at he⊢;split at he;rename_i k1 l1 e1 e2;rw [lB h t _ e1,dV h ms vs e2];exact he;cases he
 | .an _::ms,_::vs,ks,he=>dV h ms vs (ks:=ks) he
 | .jk _::ms,_::vs,ks,he=>dV h ms vs (ks:=ks) he
 | .fn::ms,_::vs,ks,he=>dV h ms vs (ks:=ks) he
 | .nr _::ms,_::vs,ks,he=>dV h ms vs (ks:=ks) he
 | .nl::ms,_::vs,ks,he=>dV h ms vs (ks:=ks) he
 | .own _::_,[],_,he=>he
 | .mv _::_,[],_,he=>he
 | .nl::_,[],_,he=>he
 | .an _::_,[],_,he=>he
 | .jk _::_,[],_,he=>he
 | .fn::_,[],_,he=>he
 | .nr _::_,[],_,he=>he
theorem tQ (h:MM m m'){md:Mode}{v:aD}{a:Arg}(he:iH m md v=some a):iH m' md v=some a:=by
 unfold iH at he⊢;split at he;rename_i v1 t
 try simp only
 cases h1:lZ m t v with
 |none=>simp [h1] at he
 |some x=>rw [h1] at he;rw [nK h h1];exact he
 rename_i v1 t
 try simp only
 cases h1:lZ m t v with
 |none=>simp [h1] at he
 |some x=>rw [h1] at he;rw [nK h h1];exact he
 rename_i v1 t
 try simp only
 cases h1:lZ m t v with
 |none=>simp [h1] at he
 |some x=>rw [h1] at he;rw [nK h h1];exact he
 rename_i t t' x off
 try simp only
 cases h1:impl m t (((ib t' x).drop off).take t.size) with
 |none=>simp [h1] at he
 |some p=>rw [h1] at he;rw [me h t h1];exact he
 exact he;exact he;exact he;cases he
theorem pv {m2 Uj:Mem}(h:MM m m')(h2:MM m2 Uj){md:Mode}{v:aD}{a:Arg}(he:ox m m2 md v=some a):ox m' Uj md v=some a:=by
 unfold ox at he⊢;split at he;rename_i t c off
 try simp only
 cases hx:lk c m with
 |none=>simp [hx] at he
 |some ch=>
  rw [hx] at he;rw [h _ _ hx];cases ch with
  |box cs=>
   simp only at he⊢;cases h1:impl m2 t ((cs.drop off).take t.size) with
   |none=>simp [h1] at he
   |some p=>rw [h1] at he;rw [me h2 t h1];exact he
  |seq t' xs=>cases he
  |o8 t' xs i cs ks=>cases he
  |gone=>cases he
 exact tQ h2 he
theorem wU {mp mp' m2 Uj:Mem}(h:MM m m')(hp:MM mp mp')(h2:MM m2 Uj): ∀{ms:List Mode} {vs:List aD} {as:List Arg},dn m mp m2 ms vs=some as→dn m' mp' Uj ms vs=some as:=by
 intro ms;induction ms with
 |nil=>intro vs as he;cases vs<;>exact he
 |cons md ms ih=>
  intro vs as he;cases vs with
  |nil=>cases md<;>exact he
  |cons v vs=>
   cases md with
   |own t=>
    simp only [dn] at he⊢;cases h1:iH m (.own t) v with
    |none=>simp [h1] at he
    |some a=>
     cases h3:dn m mp m2 ms vs with
     |none=>simp [h1,h3] at he
     |some l=>rw [h1,h3] at he;rw [tQ h h1,ih h3];exact he
   |mv t=>
    simp only [dn] at he⊢;cases h1:iH m (.mv t) v with
    |none=>simp [h1] at he
    |some a=>
     cases h3:dn m mp m2 ms vs with
     |none=>simp [h1,h3] at he
     |some l=>rw [h1,h3] at he;rw [tQ h h1,ih h3];exact he
   |nl=>
    simp only [dn] at he⊢;cases h1:ox mp m2 .nl v with
    |none=>simp [h1] at he
    |some a=>
     cases h3:dn m mp m2 ms vs with
     |none=>simp [h1,h3] at he
     |some l=>rw [h1,h3] at he;rw [pv hp h2 h1,ih h3];exact he
   |an t=>
    simp only [dn] at he⊢;cases h1:ox mp m2 (.an t) v with
    |none=>simp [h1] at he
    |some a=>
     cases h3:dn m mp m2 ms vs with
     |none=>simp [h1,h3] at he
     |some l=>rw [h1,h3] at he;rw [pv hp h2 h1,ih h3];exact he
   |jk t=>
    simp only [dn] at he⊢;cases h1:ox mp m2 (.jk t) v with
    |none=>simp [h1] at he
    |some a=>
     cases h3:dn m mp m2 ms vs with
     |none=>simp [h1,h3] at he
     |some l=>rw [h1,h3] at he;rw [pv hp h2 h1,ih h3];exact he
   |fn=>
    simp only [dn] at he⊢;cases h1:ox mp m2 .fn v with
    |none=>simp [h1] at he
    |some a=>
     cases h3:dn m mp m2 ms vs with
     |none=>simp [h1,h3] at he
     |some l=>rw [h1,h3] at he;rw [pv hp h2 h1,ih h3];exact he
   |nr t=>
    simp only [dn] at he⊢;cases h1:ox mp m2 (.nr t) v with
    |none=>simp [h1] at he
    |some a=>
     cases h3:dn m mp m2 ms vs with
     |none=>simp [h1,h3] at he
     |some l=>rw [h1,h3] at he;rw [pv hp h2 h1,ih h3];exact he
theorem MM.app {l:Mem}(h:MM m m'):MM (l++m) (l++m'):=fun k ch hk=>by
 rw [bN] at hk⊢;cases hx:lk k l with
 |none=>rw [hx] at hk;exact h k ch (by simpa using hk)
 |some c=>rw [hx] at hk;simpa using hk
theorem yZ (h:MM m m'){nx:Nat}{ms:List Mode}{rs:List RV}{outs:List TD}{f:FuncId}{vs:List aD}{e:cf}(he:yE P m nx ms rs outs f vs=some e):yE P m' nx ms rs outs f vs=some e:=by
 unfold yE at he⊢;split at he;rename_i ks up hk hu;rw [dV h ms vs hk,hu]
 try simp only
 split at he;rename_i as has
 try simp only [has]
 exact he;rename_i has
 try simp only [has]
 cases hb:l7 ks with
 |false=>rw [hb] at he;cases he
 |true=>
  rw [hb] at he;simp only [cond_true] at he⊢;cases o5:(rs.all RV.uj&&ft ms) with
  |true=>
   rw [o5] at he;simp only [cond_true] at he⊢;cases h3:dn m m ((ks.map fun k=>(k,Chunk.gone))++m) ms vs with
   |none=>simp [h3] at he
   |some as=>rw [h3] at he;rw [wU h h (MM.app h) h3];exact he
  |false=>
   rw [o5] at he;simp only [cond_false] at he⊢;cases h3:dn m [] [] ms vs with
   |none=>simp [h3] at he
   |some as=>rw [h3] at he;rw [wU h (fun _ _ h=>h) (fun _ _ h=>h) h3];exact he
 cases he
theorem AX (h:MM m m'){nx:Nat}{T T':TypeId}{s x:aD}{e:cf}(he:pn P m nx T T' s x=some e):pn P m' nx T T' s x=some e:=by
 unfold pn at he⊢;split at he;rename_i el y hu J2
 try simp only
 split at he;rename_i i hi
 try simp only [hi]
 cases hb:((dy P T&&Nat.beq i.size 1)&&(Nat.ble i.bytes 32768&&i.zero.isSome)&&(i.zero.map fun z=>Nat.beq z.cells.size 1).getD false) with
 |false=>rw [hb] at he;cases he
 |true=>
  rw [hb] at he;simp only [cond_true] at he⊢;cases h1:nt m (.int .u8) s with
  |none=>simp [h1] at he
  |some r=>
   rw [h1] at he;rw [uJ h h1];exact he
 cases he;cases he
theorem y0 (h:MM m m'){nx:Nat}{T U:TypeId}{x:aD}{e:cf}(he:nJ P m nx T U x=some e):nJ P m' nx T U x=some e:=by
 unfold nJ at he⊢;split at he;exact he;exact he;exact he;rename_i c _ _
 try simp only
 cases hb:(Nat.beq T U&&dy P T) with
 |false=>rw [hb] at he;cases he
 |true=>
  rw [hb] at he;simp only [cond_true] at he⊢;cases hx:lk c m with
  |none=>simp [hx] at he
  |some ch=>rw [hx] at he;rw [h _ _ hx];exact he
 rename_i x _ _ _ _ _ _
 try simp only
 cases hb:(dy P T&&nb m x) with
 |false=>rw [hb] at he;cases he
 |true=>
  rw [hb] at he;simp only [Bool.and_eq_true] at hb;rw [hb.1,tP h hb.2];simp only [cond_true,Bool.and_self] at he⊢;split at he;rename_i l hl;rw [nK h hl];exact he;cases he
 exact he
theorem za (h:MM m m'){nx:Nat}{v:aD}{r:Mem×Mem×Prop}(he:yP m nx v=some r):yP m' nx v=some r:=by
 unfold yP at he⊢;split at he;rename_i c i sz off
 try simp only
 cases hx:lk c m with
 |none=>simp [hx] at he
 |some ch=>rw [hx] at he;rw [h _ _ hx];exact he
 cases he
theorem Ev (h:MM m m'){nx:Nat}{hh:Hint}{T:TypeId}{v:aD}{e:cf}(he:qZ P m nx hh T v=some e):qZ P m' nx hh T v=some e:=by
 unfold qZ at he⊢;cases hb:hh.wQ with
 |false=>rw [hb] at he;exact yY h he
 |true=>
  rw [hb] at he;simp only [cond_true,Cq] at he⊢;split at he;rename_i u n p hp;rw [za h hp];simp only;split at he;rename_i e1 hl;rw [yY (MM.app h) hl];exact he;cases he;cases he
theorem CC (h:MM m m'){nx:Nat}{hh:Hint}{T:TypeId}{v x:aD}{e:cf}(he:sC P m nx hh T v x=some e):sC P m' nx hh T v x=some e:=by
 unfold sC at he⊢;cases hb:hh.wQ with
 |false=>rw [hb] at he;exact wT h he
 |true=>
  rw [hb] at he;simp only [cond_true,xL] at he⊢;split at he;rename_i u n p hp;rw [za h hp];simp only;split at he;rename_i e1 hl;rw [wT (MM.app h) hl];exact he;cases he;cases he
theorem Gi (h:MM m m'){T:TypeId}{x y:aD}{e:cf}(he:Bu P m T x y=some e):Bu P m' T x y=some e:=by
 unfold Bu at he⊢;have hd: ∀r,Bt m x=some r→Bt m' x=some r:=fun r hr=>by
  unfold Bt at hr⊢;split at hr;rename_i c
  try simp only
  cases hx:lk c m with
  |none=>simp [hx] at hr
  |some ch=>rw [hx] at hr;rw [h _ _ hx];exact hr
  exact hr;cases hr
 split at he;rename_i el c off len hu hc;rw [hd _ hc,hu]
 try simp only
 split at he;rename_i t xs hl;rw [h _ _ hl];simp only;cases hb:((cY P el==some t.size&&t.top)&&nb m y) with
 |false=>rw [hb] at he;cases he
 |true=>
  rw [hb] at he;simp only [Bool.and_eq_true] at hb;rw [show ((cY P el==some t.size&&t.top)&&nb m' y)=true from by simp only [Bool.and_eq_true];exact ⟨hb.1,tP h hb.2⟩];simp only [cond_true] at he⊢;split at he;rename_i ys Xv;rw [nK h Xv];exact he;cases he
 cases he;cases he
theorem AY (h:MM m m'){fr:Fr}{nx:Nat}{hh:Hint}{b:Builtin}{args:List Operand}{ts:List TypeId}{e:cf}(he:pr P fr m nx hh b args ts=some e):pr P fr m' nx hh b args ts=some e:=by
 unfold pr at he⊢;split at he;rename_i x T
 try simp only
 split at he;rename_i v hv;(try simp only [hv]);exact Gg h he;cases he;rename_i s x T T'
 try simp only
 split at he;rename_i t sv xv hs hx;(try simp only [hs,hx]);exact AW h he;rename_i sv xv hs hx;(try simp only [hs,hx]);exact AX h he;rename_i t sv xv hs hx;(try simp only [hs,hx]);exact he;cases he;exact he;exact he;rename_i x y T T'
 try simp only
 split at he;rename_i xv yv hx hy;(try simp only [hx,hy]);exact Gi h he;cases he;exact he;cases he
theorem KN (h:MM m m'){fr:Fr}{nx:Nat}{hh:Hint}{o:Oper}{e:cf}(he:xN P fr m nx hh o=some e):xN P fr m' nx hh o=some e:=by
 unfold xN at he⊢;split at he
 case h_8 T x ho=>
  try simp only
  split at he;rename_i v hv;(try simp only [hv]);exact Ev h he;cases he
 case h_9 T x y ho=>
  try simp only
  split at he;rename_i xv yv hx hy;(try simp only [hx,hy]);exact CC h he;cases he
 case h_13 T U x ho=>
  try simp only
  split at he;rename_i v hv;(try simp only [hv]);exact y0 h he;cases he
 case h_7 T len parts ho=>
  try simp only
  split at he;rename_i t vs hv;(try simp only [hv]);exact CB h he;rename_i t vs hv;(try simp only [hv]);exact he;rename_i vs hv;(try simp only [hv]);exact he;cases he
 case h_15 T x lo hi ho=>
  try simp only
  split at he;rename_i v l h' hv hl hh;(try simp only [hv,hl,hh]);exact Eu h he;cases he
 case h_18 T x i ho=>
  try simp only
  split at he;rename_i v j hv hj;(try simp only [hv,hj]);exact xx h he;cases he
 case h_22 c ho=>
  try simp only
  split at he;rename_i b hb;(try simp only [hb]);exact AY h he;rename_i f hf
  try simp only [hf]
  split at he;rename_i ms rs outs k vs hk kG;(try simp only [hk,kG]);exact yZ h he;rename_i ms rs outs k t x vs hk kG;(try simp only [hk,kG]);exact yZ h he;rename_i k fk n hk kG;(try simp only [hk,kG]);exact he;cases he;cases he
 all_goals first
  |exact he
  |cases he
end
end Go.Ide
namespace Go.Ide
abbrev ER:=Option Tmp×cf
def mf (e:cf):Mem:=e.l6++e.new
def kL (o:Oper):Bool:=
 match o.op with
 | .move _=>true
 | .assign _=>true
 | .pick _ _ _=>true
 | .binOp _ _ _ _ _=>true
 | .unOp _ _ _=>true
 | .fieldAddr _ _ _=>true
 | .index _ _ _=>true
 | .extract _ _=>true
 | .nilCheck _=>true
 |_=>false
def ij (sel:Nat→Bool):Nat→List ER→Fr→Fr
 |_,[],fr=>fr
 |i,(d,e)::r,fr=>ij sel (i+1) r (bif sel i then (match d with|some t=>(t,e.val)::fr|none=>fr) else fr)
def dp (sel:Nat→Bool):Nat→List ER→Mem→Mem
 |_,[],m=>m
 |i,(_,e)::r,m=>dp sel (i+1) r (bif sel i then mf e++m else m)
def iK (sel:Nat→Bool)(t:Tmp):Nat→List ER→Option aD
 |_,[]=>none
 |i,(d,e)::r=>(iK sel t (i+1) r).or (if sel i=true∧d=some t then some e.val else none)
def fG (sel:Nat→Bool)(k:Nat):Nat→List ER→Option Chunk
 |_,[]=>none
 |i,(_,e)::r=>(fG sel k (i+1) r).or (if sel i=true then lk k (mf e) else none)
theorem lD {sel:Nat→Bool}{t:Tmp}: ∀{l:List ER} {n:Nat} {fr:Fr},lk t (ij sel n l fr)=(iK sel t n l).or (lk t fr)
 |[],_,_=>by simp [ij,iK]
 |(d,e)::r,n,fr=>by
  simp only [ij,iK];rw [lD,Option.or_assoc]
  congr 1
  cases hs:sel n with
  |false=>simp
  |true=>
   simp only [cond_true,true_and];cases d with
   |none=>simp
   |some t'=>
    rw [aL];by_cases h:t=t';subst h;simp;rw [if_neg h,if_neg (fun e=>h (by injection e with e;exact e.symm))];rfl
theorem eV {sel:Nat→Bool}{k:Nat}: ∀{l:List ER} {n:Nat} {m:Mem},lk k (dp sel n l m)=(fG sel k n l).or (lk k m)
 |[],_,_=>by simp [dp,fG]
 |(d,e)::r,n,m=>by
  simp only [dp,fG];rw [eV,Option.or_assoc]
  congr 1
  cases hs:sel n with
  |false=>simp
  |true=>simp only [cond_true,if_true];rw [bN]
theorem kZ {sel sel':Nat→Bool}{t:Tmp}: ∀{l:List ER} {n:Nat},(∀(j:Nat) (d:Option Tmp) (e:cf),l[j]? =some (d,e)→d=some t→sel (n+j)=sel' (n+j))→iK sel t n l=iK sel' t n l
 |[],_,_=>rfl
 |(d,e)::r,n,h=>by
  simp only [iK];have ih:iK sel t (n+1) r=iK sel' t (n+1) r:=kZ fun j d e hj hd=>by
   have:=h (j+1) d e (by simpa using hj) hd;have e1:n+(j+1)=n+1+j:=by omega
   rw [e1] at this;exact this
  have hh:(if sel n=true∧d=some t then some e.val else none)=if sel' n=true∧d=some t then some e.val else none:=by
   by_cases hd:d=some t;have h0:sel n=sel' n:=by simpa using h 0 d e rfl hd
   rw [h0];rw [if_neg (fun x=>hd x.2),if_neg (fun x=>hd x.2)]
  rw [ih,hh]
theorem Ew {sel:Nat→Bool}{t:Tmp}{v:cf}: ∀{l:List ER} {n i:Nat},l[i]? =some (some t,v)→sel (n+i)=true→(∀(j:Nat) (d:Option Tmp) (e:cf),i<j→l[j]? =some (d,e)→d=some t→sel (n+j)=false)→iK sel t n l=some v.val
 |[],n,i,h,_,_=>by simp at h
 |(d,e)::r,n,0,h,hs,hn=>by
  simp at h;obtain ⟨rfl,rfl⟩:=h;have hz:iK sel t (n+1) r=iK (fun _=>false) t (n+1) r:=kZ fun j d e hj hd=>by
   have:=hn (j+1) d e (by omega) (by simpa using hj) hd;rwa [show n+(j+1)=n+1+j from by omega] at this
  have hf: ∀(l:List ER) (n:Nat),iK (fun _=>false) t n l=none:=by
   intro l;induction l with
   |nil=>intro _;rfl
   |cons p l ih=>intro n;obtain ⟨d,e⟩:=p;simp [iK,ih]
  simp only [iK];rw [hz,hf];have hs:sel n=true:=by simpa using hs
  simp [hs]
 |(d,e)::r,n,i+1,h,hs,hn=>by
  simp only [iK];have:=Ew (l:=r) (n:=n+1) (i:=i) (by simpa using h) (by rwa [show n+(i+1)=n+1+i from by omega] at hs) (fun j d e cp hj hd=>by
   have:=hn (j+1) d e (by omega) (by simpa using hj) hd;rwa [show n+(j+1)=n+1+j from by omega] at this)
  rw [this];rfl
theorem jo {sel:Nat→Bool}{k:Nat}{ch:Chunk}: ∀{l:List ER} {n:Nat},fG sel k n l=some ch→ ∃(j:Nat) (d:Option Tmp) (e:cf),l[j]? =some (d,e)∧sel (n+j)=true∧lk k (mf e)=some ch
 |[],_,h=>by simp [fG] at h
 |(d,e)::r,n,h=>by
  simp only [fG] at h;cases hx:fG sel k (n+1) r with
  |some c=>
   rw [hx] at h;have h:c=ch:=by simpa using h
   subst h;obtain ⟨j,d',e',h1,h2,h3⟩:=jo hx;exact ⟨j+1,d',e',by simpa using h1,by rwa [show n+(j+1)=n+1+j from by omega],h3⟩
  |none=>
   rw [hx] at h;simp only [Option.none_or] at h;split at h;rename_i hs;exact ⟨0,d,e,rfl,by simpa using hs,h⟩;cases h
theorem nZ {sel:Nat→Bool}{k:Nat}: ∀{l:List ER} {n:Nat},fG sel k n l=none→ ∀(j:Nat) (d:Option Tmp) (e:cf),l[j]? =some (d,e)→sel (n+j)=true→lk k (mf e)=none
 |[],_,_,j,d,e,hj,_=>by simp at hj
 |(d0,e0)::r,n,h,j,d,e,hj,hs=>by
  simp only [fG,Option.or_eq_none_iff] at h;cases j with
  |zero=>
   simp at hj;obtain ⟨rfl,rfl⟩:=hj;have hs:sel n=true:=by simpa using hs
   have:=h.2;rwa [if_pos hs] at this
  |succ j=>exact nZ h.1 j d e (by simpa using hj) (by rwa [show n+(j+1)=n+1+j from by omega] at hs)
def cP (j:Nat):List Nat→Bool
 |[]=>false
 |a::l=>Nat.beq j a||cP j l
theorem dA {j:Nat}: ∀{l:List Nat},cP j l=true↔j∈l
 |[]=>by simp [cP]
 |a::l=>by
  simp only [cP,Bool.or_eq_true,dA,List.mem_cons];constructor;rintro (h|h);exact .inl (bG h);exact .inr h;rintro (h|h);subst h;exact .inl (Nat.beq_refl _);exact .inr h
def n7 (all:List Oper)(o:Oper):List Tmp:=
 (o.op.operands.toList.filterMap fun| .tmp t=>some t|_=>none)++(match o.guard with
  |some (j,_)=>(uI all j).toList
  |none=>[])
def dL (o:Oper):List Nat:=(o.after.toList.filter fun e=>Region.binds .any e).map (·.on)
def pz (all:List Oper)(x y:Oper):Bool:=
 (match x.dst with
 |some t=>cP t (n7 all y)||(match y.dst with|some u=>Nat.beq t u|none=>false)
 |none=>false)||
 (match y.dst with
 |some t=>cP t (n7 all x)
 |none=>false)
def qg (all:List Oper)(Ds:List (List Nat))(h:Nat):Nat→List Oper→Bool
 |_,[]=>true
 |i,o::os=>
  ((dL o).all fun d=>Nat.blt d i)&&
  (((Ds.getD i []).all fun j=>cP j (dL o)||(dL o).any fun d=>cP j (Ds.getD d [])))&&
  ((List.range i).all fun j=>cP j (Ds.getD i [])||(Nat.blt i h&& !(pz all (all.getD j default) o)))&&
  qg all Ds h (i+1) os
theorem wV {all:List Oper}{Ds:List (List Nat)}{h:Nat}: ∀{os:List Oper} {n:Nat},qg all Ds h n os=true→ ∀(i:Nat) (o:Oper),os[i]? =some o→
 (∀d∈dL o,d<n+i)∧(∀j∈Ds.getD (n+i) [],j∈dL o∨ ∃d∈dL o,j∈Ds.getD d [])∧(∀j,j<n+i→j∈Ds.getD (n+i) []∨(n+i<h∧pz all (all.getD j default) o=false))
 |[],_,_,i,o,ho=>by simp at ho
 |o0::os,n,hk,i,o,ho=>by
  simp only [qg,Bool.and_eq_true] at hk;obtain ⟨⟨⟨h1,h2⟩,h3⟩,h4⟩:=hk;cases i with
  |succ i=>
   have:=wV h4 i o (by simpa using ho);rwa [show n+1+i=n+(i+1) from by omega] at this
  |zero=>
   simp at ho;subst ho;refine ⟨fun d hd=> ?_,fun j hj=> ?_,fun j hj=> ?_⟩;have:=List.all_eq_true.1 h1 d hd;exact Nat.lt_of_succ_le (by simpa [Nat.blt] using this);have:=List.all_eq_true.1 h2 j hj;simp only [Bool.or_eq_true] at this;rcases this with h|h
   exact .inl (dA.1 h);obtain ⟨d,hd,hm⟩:=List.any_eq_true.1 h;exact .inr ⟨d,hd,dA.1 hm⟩;have:=List.all_eq_true.1 h3 j (by simpa using hj);simp only [Bool.or_eq_true,Bool.and_eq_true,Bool.not_eq_true'] at this;rcases this with h|⟨h,h'⟩
   exact .inl (dA.1 h);exact .inr ⟨Nat.lt_of_succ_le (by simpa [Nat.blt] using h),h'⟩
theorem th {all:List Oper}{x y:Oper}(h:pz all x y=false):(∀t,x.dst=some t→t ∉ n7 all y)∧(∀t,x.dst=some t→y.dst≠some t)∧(∀t,y.dst=some t→t ∉ n7 all x):=by
 unfold pz at h;simp only [Bool.or_eq_false_iff] at h;obtain ⟨h1,h2⟩:=h;refine ⟨fun t ht hm=> ?_,fun t ht hy=> ?_,fun t ht hm=> ?_⟩;simp only [ht,Bool.or_eq_false_iff] at h1;rw [dA.2 hm] at h1;cases h1.1;simp [ht,hy] at h1;simp only [ht] at h2;rw [dA.2 hm] at h2;cases h2
structure HR where
 r:OH
 D:List Nat
def KO (m:Mem)(l:Mem):Bool:=l.all fun p=>(lk p.1 m).isSome
def PB (m l:Mem):Bool:=l.all fun p=>(lk p.1 m).isNone
theorem Gj {m l:Mem}(h:PB m l=true)(k:Nat)(hk:lk k l≠none):lk k m=none:=by
 obtain ⟨c,hc⟩:=Option.ne_none_iff_exists'.1 hk;have:=List.all_eq_true.1 h _ (kJ hc);simpa using this
def Ey (o:Oper)(h:Hint)(fr:Fr):Option Nat:=
 match o.op,h with
 | .load _ x,.no=>(match ev fr x with
  |some (.one (.ptr c _))=>some c
  |some (.one (.dI c _ _ _))=>some c
  |_=>none)
 | .indexAddr _ x _,.no=>(match ev fr x with
  |some (.one (.all c))=>some c
  |_=>none)
 | .slice _ x _ _ none,.no=>(match ev fr x with
  |some (.one (.aw (.sl _) _))=>some 1000000
  |_=>none)
 |_,_=>none
def N3 (k:Option Nat)(u:Mem):Bool:=
 match k with
 |some c=>(lk c u).isNone
 |none=>false
def vL (all:List Oper)(o:Oper)(D:List Nat)(e:cf)(m:Mem)(done:List ER)(ks:List (Option Nat))(ko:Option Nat):Nat→List ER→Bool
 |_,[]=>true
 |j,p::r=>(cP j D||((e.l6.isEmpty||(kL (all.getD j default)||PB (dp (fun _=>true) 0 (done.take j) m) e.l6||N3 (ks.getD j none) e.l6))&&(p.2.l6.isEmpty||(kL o||N3 ko p.2.l6))))&&vL all o D e m done ks ko (j+1) r
def zc (P:Program)(N:Nat)(all:List Oper)(st:St):List Oper→List HR→List ER→List (Option Nat)→Nat→Option (List ER×List Prop×Nat)
 |[],_,done,_,nx=>some (done,[],nx)
 |o::os,r::rs,done,ks,nx=>
  (match oO P all o r.r (ij (fun j=>cP j r.D) 0 done st.fr) (dp (fun j=>cP j r.D) 0 done st.mem) nx with
  |some (e,cs)=>bif ((N0 N o.dst&&vL all o r.D e st.mem done ks (Ey o r.r.h (ij (fun j=>cP j r.D) 0 done st.fr)) 0 done)&&KO (dp (fun j=>cP j r.D) 0 done st.mem) e.l6)&&tO (dp (fun _=>true) 0 done st.mem) e.new then
   (match zc P N all st os rs (done++[(o.dst,e)]) (ks++[Ey o r.r.h (ij (fun j=>cP j r.D) 0 done st.fr)]) (nx+e.new.length) with
   |some (l,nU,n)=>some (l,cs++nU,n)
   |none=>none) else none
  |none=>none)
 |_::_,[],_,_,_=>none
def Bz (P:Program)(N:Nat)(all:List Oper)(st:St)(os:List Oper)(rs:List HR)(done:List ER)(nx:Nat):Option (List ER×List Prop×Nat):=zc P N all st os rs done [] nx
structure Gk (P:Program)(N:Nat)(all:List Oper)(st:St)(dY:List ER)(K:Nat→Option Nat)(i:Nat)(o:Oper)(D:List Nat):Prop where
 got: ∃(r:OH) (nx:Nat) (e:cf) (cs:List Prop),dY[i]? =some (o.dst,e)∧oO P all o r (ij (fun j=>cP j D) 0 (dY.take i) st.fr) (dp (fun j=>cP j D) 0 (dY.take i) st.mem) nx=some (e,cs)∧bB cs∧
  N0 N o.dst=true∧(∀k,lk k e.l6≠none→lk k (dp (fun j=>cP j D) 0 (dY.take i) st.mem)≠none)∧fE (dp (fun _=>true) 0 (dY.take i) st.mem) e.new∧
  K i=Ey o r.h (ij (fun j=>cP j D) 0 (dY.take i) st.fr)∧
  (∀j d e',j<i→dY[j]? =some (d,e')→j∈D∨((e.l6=[]∨kL (all.getD j default)=true∨(∀k,lk k e.l6≠none→lk k (dp (fun _=>true) 0 (dY.take j) st.mem)=none)∨ ∃c,K j=some c∧lk c e.l6=none)∧(e'.l6=[]∨kL o=true∨ ∃c,K i=some c∧lk c e'.l6=none)))
theorem BA {k:Option Nat}{u:Mem}(h:N3 k u=true): ∃c,k=some c∧lk c u=none:=by
 unfold N3 at h;cases k with
 |none=>cases h
 |some c=>exact ⟨c,rfl,by simpa using h⟩
theorem wW {all:List Oper}{o:Oper}{D:List Nat}{e:cf}{m:Mem}{done:List ER}{ks:List (Option Nat)}{ko:Option Nat}: ∀{l:List ER} {n:Nat},vL all o D e m done ks ko n l=true→ ∀j d e',l[j]? =some (d,e')→(n+j)∈D∨((e.l6=[]∨kL (all.getD (n+j) default)=true∨(∀k,lk k e.l6≠none→lk k (dp (fun _=>true) 0 (done.take (n+j)) m)=none)∨ ∃c,ks.getD (n+j) none=some c∧lk c e.l6=none)∧(e'.l6=[]∨kL o=true∨ ∃c,ko=some c∧lk c e'.l6=none))
 |[],_,_,j,d,e',hj=>by simp at hj
 |p::r,n,h,0,d,e',hj=>by
  simp only [List.getElem?_cons_zero,Option.some.injEq] at hj;subst hj;simp only [vL,Bool.and_eq_true,Bool.or_eq_true,List.isEmpty_iff] at h;rcases h.1 with h|⟨h,h2⟩
  exact .inl (dA.1 h);refine .inr ⟨?_,h2.imp id fun h=>h.imp id BA⟩;rcases h with h|(h|h)|h
  exact .inl h;exact .inr (.inl h);exact .inr (.inr (.inl (Gj h)));exact .inr (.inr (.inr (BA h)))
 |p::r,n,h,j+1,d,e',hj=>by
  simp only [vL,Bool.and_eq_true] at h;have:=wW h.2 j d e' (by simpa using hj);rwa [show n+1+j=n+(j+1) from by omega] at this
theorem Gl {m l:Mem}(h:KO m l=true)(k:Nat)(hk:lk k l≠none):lk k m≠none:=by
 obtain ⟨c,hc⟩:=Option.ne_none_iff_exists'.1 hk;have:=List.all_eq_true.1 h _ (kJ hc);intro e;rw [e] at this;cases this
theorem wX {P:Program}{N:Nat}{all:List Oper}{st:St}: ∀{os:List Oper} {rs:List HR} {done dY:List ER} {ks:List (Option Nat)} {cs:List Prop} {nx nx':Nat},ks.length=done.length→zc P N all st os rs done ks nx=some (dY,cs,nx')→bB cs→
 (∃l,dY=done++l∧l.length=os.length)∧ ∃K:Nat→Option Nat,(∀j,j<done.length→K j=ks.getD j none)∧ ∀(i:Nat) (o:Oper),os[i]? =some o→Gk P N all st dY K (done.length+i) o ((rs.map HR.D).getD i [])
 |[],rs,done,dY,ks,cs,nx,nx',_,h,_=>by
  simp only [zc] at h;injection h with h;injection h with h1 h;subst h1;exact ⟨⟨[],by simp,rfl⟩,fun j=>ks.getD j none,fun _ _=>rfl,fun i o ho=>by simp at ho⟩
 |o::os,[],done,dY,ks,cs,nx,nx',_,h,_=>by cases h
 |o::os,r::rs,done,dY,ks,cs,nx,nx',Wk,h,hc=>by
  simp only [zc] at h;split at h
  ·rename_i e V7 hi;cases hb:(((N0 N o.dst&&vL all o r.D e st.mem done ks (Ey o r.r.h (ij (fun j=>cP j r.D) 0 done st.fr)) 0 done)&&KO (dp (fun j=>cP j r.D) 0 done st.mem) e.l6)&&tO (dp (fun _=>true) 0 done st.mem) e.new) with
   |false=>rw [hb] at h;cases h
   |true=>
    rw [hb] at h;simp only [cond_true] at h;simp only [Bool.and_eq_true] at hb;obtain ⟨⟨⟨hd,hp⟩,hu⟩,hf⟩:=hb;split at h
    ·rename_i l nU n hr;injection h with h;injection h with h1 h;injection h with h2 h3;subst h1;subst h2;obtain ⟨Av,lQ⟩:=hc.append;obtain ⟨⟨l',e1,e2⟩,K,hK,yu⟩:=wX (by simp [Wk]) hr lQ;have hK0: ∀j,j<done.length→K j=ks.getD j none:=fun j hj=>by
      rw [hK j (by simp;omega),List.getD_eq_getElem?_getD,List.getElem?_append_left (by omega),←List.getD_eq_getElem?_getD]
     have hK1:K done.length=Ey o r.r.h (ij (fun j=>cP j r.D) 0 done st.fr):=by
      rw [hK done.length (by simp),List.getD_eq_getElem?_getD,List.getElem?_append_right (by omega),Wk,Nat.sub_self];rfl
     refine ⟨⟨(o.dst,e)::l',by rw [e1];simp,by simp [e2]⟩,K,hK0,fun i o' vx=> ?_⟩;cases i with
     |zero=>
      simp at vx;subst vx;have ht:l.take done.length=done:=by rw [e1];simp
      refine ⟨⟨r.r,nx,e,V7,?_,?_,Av,hd,?_,?_,?_,?_⟩⟩;rw [e1];simp;simp only [Nat.add_zero,ht,List.map_cons];exact hi;simp only [Nat.add_zero,ht,List.map_cons];exact Gl hu;simp only [Nat.add_zero,ht];exact rb hf;simp only [Nat.add_zero,ht,List.map_cons];exact hK1
      ·intro j d e' hj hje;have J0:j<done.length:=by simpa using hj
       have XO:done[j]? =some (d,e'):=by
        rw [e1,List.append_assoc,List.getElem?_append_left J0] at hje;exact hje
       have:=wW hp j d e' XO;rw [Nat.zero_add] at this;have e5:l.take j=done.take j:=by rw [e1,List.append_assoc,List.take_append_of_le_length (by omega)]
       rw [e5,hK0 j J0,Nat.add_zero,hK1];exact this
     |succ i=>
      have:=yu i o' (by simpa using vx);have hlen:(done++[(o.dst,e)]).length+i=done.length+(i+1):=by simp;omega
      rw [hlen] at this;simpa using this
    cases h
  cases h
theorem Gm {P:Program}{N:Nat}{all:List Oper}{st:St}{os:List Oper}{rs:List HR}{dY:List ER}{cs:List Prop}{nx nx':Nat}(h:Bz P N all st os rs [] nx=some (dY,cs,nx'))(hc:bB cs):
 (∃l,dY=[]++l∧l.length=os.length)∧ ∃K:Nat→Option Nat,∀(i:Nat) (o:Oper),os[i]? =some o→Gk P N all st dY K (([]:List ER).length+i) o ((rs.map HR.D).getD i []):=by
 obtain ⟨h1,K,_,h2⟩:=wX (done:=[]) (ks:=[]) rfl h hc;exact ⟨h1,K,h2⟩
theorem tR {sel:Nat→Bool}{t:Tmp}: ∀{l:List ER} {n i:Nat},(∀j,i≤j→sel (n+j)=false)→iK sel t n (l.take i)=iK sel t n l
 |[],_,_,_=>by simp
 |(d,e)::r,n,0,h=>by
  have:iK sel t n ((d,e)::r)=iK (fun _=>false) t n ((d,e)::r):=kZ fun j _ _ _ _=>h j (Nat.zero_le _);rw [this];have hf: ∀(l:List ER) (n:Nat),iK (fun _=>false) t n l=none:=by
   intro l;induction l with
   |nil=>intro _;rfl
   |cons p l ih=>intro n;obtain ⟨d,e⟩:=p;simp [iK,ih]
  rw [hf];rfl
 |(d,e)::r,n,i+1,h=>by
  simp only [List.take_succ_cons,iK];rw [tR (fun j hj=>by have:=h (j+1) (by omega);rwa [show n+(j+1)=n+1+j from by omega] at this)]
theorem mW {l:List ER}{i j:Nat}{p:ER}(h:(l.take i)[j]? =some p):j<i∧l[j]? =some p:=by
 rw [List.getElem?_take] at h;split at h;rename_i cp;exact ⟨cp,h⟩;cases h
theorem KP {fr qE:Fr}{x:Operand}(h: ∀t,x= .tmp t→lk t qE=lk t fr):ev qE x=ev fr x:=by
 cases x with
 |tmp t=>exact h t rfl
 |_=>rfl
theorem vM {fr qE:Fr}: ∀{xs:List Operand},(∀x∈xs,ev qE x=ev fr x)→NY qE xs=NY fr xs
 |[],_=>rfl
 |x::xs,h=>by simp only [NY];rw [h x (by simp),vM fun y hy=>h y (by simp [hy])]
theorem vN {fr qE:Fr}: ∀{xs:List (Nat×Operand)},(∀x∈xs.map (·.2),ev qE x=ev fr x)→AD qE xs=AD fr xs
 |[],_=>rfl
 |(i,x)::xs,h=>by simp only [AD];rw [h x (by simp),vN fun y hy=>h y (by simp only [List.map_cons,List.mem_cons];exact .inr hy)]
theorem sG {fr qE:Fr}{x:Option Operand}(h: ∀y,x=some y→ev qE y=ev fr y):Np qE x=Np fr x:=by
 cases x with
 |none=>rfl
 |some y=>simp only [Np];rw [h y rfl]
theorem Jg {P:Program}{fr qE:Fr}{m:Mem}{nx:Nat}{h:Hint}{o:Oper}(hk: ∀x∈o.op.operands.toList,ev qE x=ev fr x):xN P qE m nx h o=xN P fr m nx h o:=by
 unfold xN;cases ho:o.op<;>rw [ho] at hk<;>simp only [Op.operands] at hk<;>try simp only
 case move x=>rw [hk x (by simp)]
 case assign x=>rw [hk x (by simp)]
 case pick c x y=>
  cases h with
  |tv b=>simp only;rw [hk c (by simp),hk (if b then x else y) (by cases b<;>simp)]
  |_=>rfl
 case box T x=>rw [hk x (by simp)]
 case build T ps=>rw [vN fun x hx=>hk x (by simpa using hx)]
 case buildSlice T n ps=>rw [vN fun x hx=>hk x (by simpa using hx)]
 case load T x=>rw [hk x (by simp)]
 case store T x y=>rw [hk x (by simp),hk y (by simp)]
 case nilCheck x=>rw [hk x (by simp)]
 case binOp op T x y T'=>rw [hk x (by simp),hk y (by simp)]
 case unOp op T x=>rw [hk x (by simp)]
 case convert T U x=>rw [hk x (by simp)]
 case makeSlice T l c=>rw [hk l (by simp),hk c (by simp)]
 case slice T x lo hi mx=>
  cases mx with
  |some q=>
   try simp only
   rw [hk x (by simp),hk q (by simp),sG fun y hy=>hk y (by subst hy;simp),sG (x:=hi) fun y hy=>hk y (by subst hy;simp)]
  |none=>
   try simp only
   rw [hk x (by simp),sG fun y hy=>hk y (by subst hy;simp),sG (x:=hi) fun y hy=>hk y (by subst hy;simp)]
 case fieldAddr T x f=>rw [hk x (by simp)]
 case indexAddr T x i=>rw [hk x (by simp),hk i (by simp)]
 case index T x i=>rw [hk x (by simp),hk i (by simp)]
 case extract x i=>rw [hk x (by simp)]
 case makeFunc fn first captured=>
  have fi: ∀x∈captured.toList,ev qE x=ev fr x:=fun x hx=>hk x (by simp only [Array.toList_append,List.mem_append];exact .inr hx);cases fn with
  |func f=>
   try simp only
   rw [vM fi]
  |_=>rfl
 case call c=>
  cases hc:c.callee with
  |builtin b=>
   simp only;have ha: ∀x∈c.args.toList,ev qE x=ev fr x:=fun x hx=>hk x (by simp [Call.operands,hc];simpa using hx);unfold pr;split;rename_i x T my _;rw [ha x (by rw [my];simp)];rename_i s x T T' my _;rw [ha s (by rw [my];simp),ha x (by rw [my];simp)];rename_i _ x y my;rw [ha x (by rw [my];simp),ha y (by rw [my];simp)];rename_i _ x y my;rw [ha x (by rw [my];simp),ha y (by rw [my];simp)];rename_i x y T T' my _;rw [ha x (by rw [my];simp),ha y (by rw [my];simp)];rename_i x T my _;rw [ha x (by rw [my];simp)];rfl
  |value f=>
   simp only;rw [hk f (by simp [Call.operands,hc]),vM fun x hx=>hk x (by simp [Call.operands,hc];exact .inr (by simpa using hx))]
  |invoke r n=>rfl
theorem Ic {P:Program}{fr:Fr}{m m':Mem}{nx c:Nat}{h:Hint}{o:Oper}{e:cf}(hk:Ey o h fr=some c)(hm: ∀ch,lk c m=some ch→lk c m'=some ch)(he:xN P fr m nx h o=some e):xN P fr m' nx h o=some e∧e.new=[]∧e.l6=[]:=by
 have FI: ∀{v:aD} {e:cf},ca v=some e→e.new=[]∧e.l6=[]:=by
  intro v e h;injection h with h;subst h;exact ⟨rfl,rfl⟩
 have KQ: ∀{v:aD} {c:List Prop} {e:cf},gI v c=some e→e.new=[]∧e.l6=[]:=by
  intro v c e h;injection h with h;subst h;exact ⟨rfl,rfl⟩
 unfold Ey at hk;unfold xN at he⊢;cases ho:o.op<;>rw [ho] at hk he<;>(try simp only at he⊢)<;>try (simp only at hk;cases hk;done)
 case load T x=>
  cases h<;>simp only at hk<;>try (cases hk;done)
  split at hk;rename_i c' off hv;injection hk with hk;subst hk;rw [hv] at he⊢;simp only [qZ,Hint.wQ,cond_false] at he⊢;unfold pa at he⊢;split at he;rename_i heq _ _;cases heq;rename_i heq _ _;cases heq;rename_i c0 n ag KM I2 heq hs ha;injection heq with heq;subst heq
  (try simp only [hs,ha])
  simp only [ns] at he⊢;cases hx:lk c' m with
  |none=>rw [hx] at he;simp at he
  |some ch=>
   rw [hx] at he;rw [hm ch hx];refine ⟨he,?_⟩;split at he;split at he;exact FI he;cases he;cases he
  cases he;rename_i c' i sz off hv;injection hk with hk;subst hk;rw [hv] at he⊢;simp only [qZ,Hint.wQ,cond_false] at he⊢;unfold pa at he⊢;split at he;rename_i c0 i0 sz0 acj n ag heq hs ha;injection heq with heq;injection heq with q1 q2 q3 q4;subst q1;subst q2;subst q3;subst q4
  (try simp only [hs,ha])
  cases hx:lk c' m with
  |none=>rw [hx] at he;simp at he
  |some ch=>
   rw [hx] at he;rw [hm ch hx];refine ⟨he,?_⟩;cases ch with
   |seq t xs=>
    simp only at he;revert he;generalize (_&&_:Bool)=q;intro he;cases q;cases he;simp only [cond_true] at he;split at he;exact KQ he;cases he
   |o8 t xs j cs ks=>
    simp only at he;revert he;generalize (_&&_:Bool)=q;intro he;cases q;cases he;simp only [cond_true] at he;split at he;exact KQ he;cases he
   |box cs=>cases he
   |gone=>cases he
  rename_i heq _ _;cases heq;rename_i c0 n ag KM I2 heq hs ha;injection heq with heq;exact absurd heq.symm (KM _ _ _ _);cases he;cases hk
 case slice T x lo hi q=>
  cases h<;>cases q<;>simp only at hk<;>try (cases hk;done)
  split at hk
  ·rename_i t xs hv;simp only at he⊢;rw [hv] at he⊢;split at he
   ·rename_i v l h' heq hl hh;injection heq with heq;subst heq
    (try simp only [hl,hh])
    unfold tx at he⊢;cases hu:P.underlying T with
    |none=>rw [hu] at he;cases he
    |some u=>
     rw [hu] at he;cases u<;>simp only at he⊢ <;>try (cases he;done)
     refine ⟨he,?_⟩;split at he;revert he;generalize (_==some t.size:Bool)=b;intro he;cases b;cases he;exact KQ he;cases he
   cases he
  cases hk
 case indexAddr T x i=>
  cases h<;>simp only at hk<;>try (cases hk;done)
  split at hk;rename_i c' hv;injection hk with hk;subst hk;rw [hv] at he⊢;cases hi:ev fr i with
  |none=>rw [hi] at he;cases he
  |some j=>
   rw [hi] at he;simp only at he⊢;unfold kE at he⊢;split at he;rename_i el k n hu
   (try simp only [hu])
   split at he;rename_i heq _;cases heq;rename_i c0 kz heq hs;injection heq with heq;injection heq with heq;subst heq
   (try simp only [hs])
   cases hx:lk c' m with
   |none=>rw [hx] at he;simp at he
   |some ch=>
    rw [hx] at he;rw [hm ch hx];refine ⟨he,?_⟩;cases ch with
    |seq t xs=>
     simp only at he;revert he;generalize (Nat.beq _ _:Bool)=q;intro he;cases q;cases he;exact KQ he
    |o8 t xs j cs ks=>
     simp only at he;revert he;generalize (Nat.beq _ _:Bool)=q;intro he;cases q;cases he;exact KQ he
    |box cs=>cases he
    |gone=>cases he
   rename_i heq _;cases heq;rename_i heq _;cases heq;cases he;cases he
  cases hk
theorem tS {P:Program}{all:List Oper}{fr qE:Fr}{m m':Mem}{nx:Nat}{o:Oper}{r:OH}{x:cf×List Prop}(hf: ∀t∈n7 all o,lk t qE=lk t fr)(hm:MM m m')(h:oO P all o r fr m nx=some x):oO P all o r qE m' nx=some x:=by
 have hk: ∀x∈o.op.operands.toList,ev qE x=ev fr x:=fun x hx=>KP fun t ht=>hf t (by
  unfold n7;refine List.mem_append.2 (.inl (List.mem_filterMap.2 ⟨x,hx,?_⟩));rw [ht])
 have hi: ∀e,xN P fr m nx r.h o=some e→xN P qE m' nx r.h o=some e:=fun e he=>by
  rw [Jg hk];exact KN hm he
 unfold oO at h⊢;cases hg:o.guard with
 |none=>
  rw [hg] at h;simp only at h⊢;cases hx:xN P fr m nx r.h o with
  |none=>simp [hx] at h
  |some e=>rw [hx] at h;rw [hi e hx];exact h
 |some p=>
  obtain ⟨j,want⟩:=p;rw [hg] at h;simp only at h⊢;have hgs:(uI all j).bind (fun t=>lk t qE)=(uI all j).bind (fun t=>lk t fr):=by
   cases hs:uI all j with
   |none=>rfl
   |some t=>
    simp only [Option.bind_some];exact hf t (by unfold n7;simp [hg,hs])
  rw [hgs];split at h;rename_i tv b XH hb;cases gW:(tv==want) with
  |false=>rw [gW] at h;exact h
  |true=>
   rw [gW] at h;simp only [cond_true] at h⊢;cases hx:xN P fr m nx r.h o with
   |none=>simp [hx] at h
   |some e=>rw [hx] at h;rw [hi e hx];exact h
  exact h;cases h
theorem Ez {P:Program}{all:List Oper}{fr qE:Fr}{m m':Mem}{nx c:Nat}{o:Oper}{r:OH}{e:cf}{cs:List Prop}(hk:Ey o r.h fr=some c)(hf: ∀t∈n7 all o,lk t qE=lk t fr)(hm: ∀ch,lk c m=some ch→lk c m'=some ch)(h:oO P all o r fr m nx=some (e,cs)):
 oO P all o r qE m' nx=some (e,cs)∧e.new=[]∧e.l6=[]:=by
 have h1:oO P all o r fr m' nx=some (e,cs)∧e.new=[]∧e.l6=[]:=by
  unfold oO at h⊢;cases hg:o.guard with
  |none=>
   rw [hg] at h;simp only at h⊢;cases hx:xN P fr m nx r.h o with
   |none=>simp [hx] at h
   |some e'=>
    rw [hx] at h;obtain ⟨k1,k2,k3⟩:=Ic hk hm hx;rw [k1];injection h with h;injection h with h1 h2;subst h1;exact ⟨by simp only [h2],k2,k3⟩
  |some p=>
   obtain ⟨j,want⟩:=p;rw [hg] at h;simp only at h⊢;split at h;rename_i tv b XH hb;cases gW:(tv==want) with
   |false=>
    rw [gW] at h;simp only [cond_false] at h⊢;injection h with h;injection h with h1 h2;subst h1;exact ⟨by rw [h2],rfl,rfl⟩
   |true=>
    rw [gW] at h;simp only [cond_true] at h⊢;cases hx:xN P fr m nx r.h o with
    |none=>simp [hx] at h
    |some e'=>
     rw [hx] at h;obtain ⟨k1,k2,k3⟩:=Ic hk hm hx;rw [k1];injection h with h;injection h with h1 h2;subst h1;exact ⟨by simp only [h2],k2,k3⟩
   injection h with h;injection h with h1 h2;subst h1;exact ⟨by rw [h2],rfl,rfl⟩;cases h
 exact ⟨tS hf (fun _ _ h=>h) h1.1,h1.2⟩
end Go.Ide
namespace Go.Ide
section
variable {cx:Cx} {g:GM} {st:St} {a:Act} {w:World}
theorem cX.congr {qE:Fr}{m':Mem}{nx':Nat}(h:cX cx g st a w)(hf: ∀t v,lk t qE=some v→lk t st.fr=some v)(hm: ∀k,lk k m'=lk k st.mem):cX cx g ⟨qE,m',nx'⟩ a w:=by
 have h1:cX cx g (st.l8 m' nx') a w:=h.AF (G:=[]) ⟨bJ.refl _ _,fun b hb=>(by simp at hb),fun _ _=>rfl,fun k ch hk=> .inl ⟨(hm k).trans hk,fun _ b _ _ hb=>by simp at hb⟩,fun k ch hk gM=>by
  rw [hm,hk] at gM;cases gM⟩
 exact ⟨h1.defers,h1.size,fun t v hl=>h1.fr t v (hf t v hl),h1.mem,h1.jU,h1.nO,h1.lt,h1.keep,h1.own,h1.gl⟩
theorem cX.drew (h:cX cx g st a w):cX cx g st a w.drew:=by
 have h1:cX cx g (st.l8 st.mem st.nx) a w.drew:=h.AF (G:=[]) ⟨bJ.drew _ _,fun b hb=>(by simp at hb),fun _ _=>rfl,fun k ch hk=> .inl ⟨hk,fun _ b _ _ hb=>by simp at hb⟩,fun k ch hk gM=>by
  rw [hk] at gM;cases gM⟩
 exact h1
theorem zd {α:Type}: ∀{l:List (Nat×α)} {p:Nat×α},p∈l→lk p.1 l≠none
 |q::l,p,h=>by
  obtain ⟨k,x⟩:=q;rw [aL];split;simp;rename_i jg;rcases List.mem_cons.1 h with e|h
  subst e;exact absurd rfl jg;exact zd h
theorem rf {sel sel':Nat→Bool}{k:Nat}: ∀{l:List ER} {n:Nat},(∀(j:Nat) (d:Option Tmp) (e:cf),l[j]? =some (d,e)→lk k (mf e)≠none→sel (n+j)=sel' (n+j))→fG sel k n l=fG sel' k n l
 |[],_,_=>rfl
 |(d,e)::r,n,h=>by
  simp only [fG];have ih:fG sel k (n+1) r=fG sel' k (n+1) r:=rf fun j d e hj hd=>by
   have:=h (j+1) d e (by simpa using hj) hd;have e1:n+(j+1)=n+1+j:=by omega
   rw [e1] at this;exact this
  have hh:(if sel n=true then lk k (mf e) else none)=if sel' n=true then lk k (mf e) else none:=by
   cases hk:lk k (mf e) with
   |none=>simp
   |some c=>
    have h0:sel n=sel' n:=by simpa using h 0 d e rfl (by rw [hk];simp)
    rw [h0]
  rw [ih,hh]
structure lW (P:Program)(N:Nat)(all:List Oper)(st:St)(h:Nat)(Ds:List (List Nat))(dY:List ER)(K:Nat→Option Nat):Prop where
 len:dY.length=h
 ok: ∀i,i<h→ ∃o,all[i]? =some o∧Gk P N all st dY K i o (Ds.getD i [])
 CD: ∀i o,all[i]? =some o→(∀d∈dL o,d<i)∧(∀j∈Ds.getD i [],j∈dL o∨ ∃d∈dL o,j∈Ds.getD d [])∧(∀j,j<i→j∈Ds.getD i []∨(i<h∧pz all (all.getD j default) o=false))
variable {P:Program} {N:Nat} {all:List Oper} {h:Nat} {Ds:List (List Nat)} {dY:List ER} {K:Nat→Option Nat}
theorem lW.lt (H:lW P N all st h Ds dY K): ∀(i j:Nat) (o:Oper),all[i]? =some o→j∈Ds.getD i []→j<i:=by
 intro i;induction i using Nat.strongRecOn with
 |_ i ih=>
  intro j o ho hj;obtain ⟨h1,h2,_⟩:=H.CD i o ho;rcases h2 j hj with hd|⟨d,hd,hj⟩
  exact h1 j hd;have Nr:=h1 d hd;have cp:i<all.length:=(List.getElem?_eq_some_iff.1 ho).1;exact Nat.lt_trans (ih d Nr j all[d] (List.getElem?_eq_getElem (Nat.lt_trans Nr cp)) hj) Nr
theorem lW.er (H:lW P N all st h Ds dY K){i:Nat}{d:Option Tmp}{e:cf}(he:dY[i]? =some (d,e)):i<h∧ ∃o,all[i]? =some o∧d=o.dst∧all.getD i default=o:=by
 have cp:i<h:=by rw [←H.len];exact (List.getElem?_eq_some_iff.1 he).1
 obtain ⟨o,ho,⟨⟨r,nx,e',cs,h1,_⟩⟩⟩:=H.ok i cp;rw [he] at h1;injection h1 with h1;injection h1 with h1 h2;refine ⟨cp,o,ho,h1,?_⟩;rw [List.getD_eq_getElem?_getD,ho];rfl
theorem KR {k:Nat}{e:cf}(h:lk k (mf e)=none):lk k e.new=none:=by
 unfold mf at h;rw [bN,Option.or_eq_none_iff] at h;exact h.2
theorem lW.uniq (H:lW P N all st h Ds dY K){i j:Nat}{d d':Option Tmp}{e e':cf}{k:Nat}(hi:dY[i]? =some (d,e))(hj:dY[j]? =some (d',e'))(hk:lk k e.new≠none)(gM:lk k e'.new≠none):i=j:=by
 have aux: ∀{i j:Nat} {d d':Option Tmp} {e e':cf},dY[i]? =some (d,e)→dY[j]? =some (d',e')→lk k e.new≠none→lk k e'.new≠none→ ¬i<j:=by
  intro i j d d' e e' hi hj hk gM cp;obtain ⟨_,o,ho,_⟩:=H.er hj;obtain ⟨o',_,⟨⟨r,nx,e1,cs,h1,_,_,_,_,hf,_⟩⟩⟩:=H.ok j (H.er hj).1;rw [hj] at h1;injection h1 with h1;injection h1 with _ h1;subst h1;obtain ⟨c,hc⟩:=Option.ne_none_iff_exists'.1 gM;have hz:=hf _ (kJ hc);rw [eV,Option.or_eq_none_iff] at hz;exact hk (KR (nZ hz.1 i d e (by rw [List.getElem?_take,if_pos cp];exact hi) rfl))
 rcases Nat.lt_trichotomy i j with h|h|h
 exact absurd h (aux hi hj hk gM);exact h;exact absurd h (aux hj hi gM hk)
theorem lW.CF (H:lW P N all st h Ds dY K){i:Nat}{d:Option Tmp}{e:cf}{k:Nat}(hi:dY[i]? =some (d,e))(hk:lk k e.new≠none):lk k st.mem=none:=by
 obtain ⟨o',_,⟨⟨r,nx,e1,cs,h1,_,_,_,_,hf,_⟩⟩⟩:=H.ok i (H.er hi).1;rw [hi] at h1;injection h1 with h1;injection h1 with _ h1;subst h1;obtain ⟨c,hc⟩:=Option.ne_none_iff_exists'.1 hk;have hz:=hf _ (kJ hc);rw [eV,Option.or_eq_none_iff] at hz;exact hz.2
theorem BB {m:Mem}{nx:Nat}{hh:Hint}{fr:Fr}{o:Oper}{e:cf}(hb:kL o=true)(he:xN P fr m nx hh o=some e):e.new=[]∧e.l6=[]:=by
 unfold xN at he;unfold kL at hb;have FI: ∀{v:aD} {e:cf},ca v=some e→e.new=[]∧e.l6=[]:=by
  intro v e h;injection h with h;subst h;exact ⟨rfl,rfl⟩
 have KQ: ∀{v:aD} {c:List Prop} {e:cf},gI v c=some e→e.new=[]∧e.l6=[]:=by
  intro v c e h;injection h with h;subst h;exact ⟨rfl,rfl⟩
 cases ho:o.op<;>rw [ho] at hb he<;>try (cases hb;done)
 all_goals simp only at he
 case move=>split at he;exact FI he;cases he
 case assign=>split at he;exact FI he;cases he
 case pick=>
  split at he;split at he;unfold Kb at he;split at he;exact KQ he;cases he;cases he;cases he
 case binOp=>
  split at he;unfold Bq at he;split at he;split at he;split at he;exact FI he;unfold Kz at he;split at he<;>first|exact FI he|cases he
  cases he;unfold nI at he;split at he;rename_i T _ _ _ _ _ _ _ _ _;revert he;generalize (_||_:Bool)=q;intro he;cases q;simp only [cond_false] at he;split at he<;>first|exact FI he|cases he
  cases he;cases he;unfold IM at he;split at he;split at he;unfold FP at he;split at he<;>first|exact KQ he|cases he
  split at he;unfold NF at he;split at he<;>first|exact FI he|exact KQ he|(split at he<;>first|exact FI he|cases he)
  cases he;unfold Qa at he;split at he<;>first|exact FI he|exact KQ he|cases he
  split at he<;>first|exact FI he|cases he
  cases he;cases he
 case unOp=>
  split at he;unfold NS at he;split at he;exact FI he;unfold V6 at he;split at he<;>first|exact FI he|cases he
  cases he
 case fieldAddr=>
  split at he;unfold pT at he;split at he;split at he;split at he<;>first|exact FI he|cases he
  cases he;cases he;cases he
 case index=>
  split at he;unfold Cv at he;split at he<;>first|exact KQ he|cases he
  cases he
 case extract=>
  split at he;unfold uk at he;split at he;split at he;split at he<;>first|exact FI he|cases he
  cases he;cases he;cases he
 case nilCheck=>
  split at he;unfold QC at he;split at he<;>first|exact FI he|cases he
  cases he
theorem Gn {m:Mem}{nx:Nat}{r:OH}{fr:Fr}{o:Oper}{e:cf}{cs:List Prop}(hb:kL o=true)(he:oO P all o r fr m nx=some (e,cs)):e.new=[]∧e.l6=[]:=by
 unfold oO at he;split at he;split at he;rename_i e' hi;injection he with he;injection he with e1 _;subst e1
 exact BB hb hi;cases he;split at he;rename_i tv b _ _;cases hc:(tv==_) with
 |true=>
  rw [hc] at he;simp only [cond_true] at he;split at he;rename_i e' hi;injection he with he;injection he with e1 _;subst e1
  exact BB hb hi;cases he
 |false=>
  rw [hc] at he;injection he with he;injection he with e1 _;subst e1
  exact ⟨rfl,rfl⟩
 injection he with he;injection he with e1 _;subst e1
 exact ⟨rfl,rfl⟩;cases he
theorem Jh {m m':Mem}{nx:Nat}{hh:Hint}{fr:Fr}{o:Oper}(hb:kL o=true):xN P fr m nx hh o=xN P fr m' nx hh o:=by
 unfold xN;unfold kL at hb;cases ho:o.op<;>rw [ho] at hb<;>first|rfl|(cases hb;done)
theorem Gp {fr qE:Fr}{m m':Mem}{nx:Nat}{o:Oper}{r:OH}{x:cf×List Prop}(hb:kL o=true)(hf: ∀t∈n7 all o,lk t qE=lk t fr)(h:oO P all o r fr m nx=some x):oO P all o r qE m' nx=some x:=by
 have e:oO P all o r fr m nx=oO P all o r fr m' nx:=by
  unfold oO;rw [Jh (P:=P) (m:=m) (m':=m') hb]
 rw [e] at h;exact tS hf (fun _ _ hk=>hk) h
theorem lW.blind (H:lW P N all st h Ds dY K){i:Nat}{d:Option Tmp}{e:cf}(hi:dY[i]? =some (d,e))(hb:kL (all.getD i default)=true):mf e=[]:=by
 obtain ⟨cp,o,ho,_,hg⟩:=H.er hi;obtain ⟨o',vx,⟨⟨r,nx,e1,cs,h1,h2,_⟩⟩⟩:=H.ok i cp;rw [hi] at h1;injection h1 with h1;injection h1 with _ h1;subst h1;rw [ho] at vx;injection vx with vx;subst vx;rw [hg] at hb;obtain ⟨h3,h4⟩:=Gn hb h2;unfold mf;rw [h3,h4];rfl
theorem kM {k:Nat}{e:cf}(hk:lk k (mf e)≠none):lk k e.l6≠none∨lk k e.new≠none:=by
 unfold mf at hk;rw [bN] at hk;by_cases h1:lk k e.l6=none;right;intro h2;rw [h1,h2] at hk;exact hk rfl;exact .inl h1
theorem lW.Uk (H:lW P N all st h Ds dY K){k:Nat}: ∀(j:Nat) (d:Option Tmp) (e:cf),dY[j]? =some (d,e)→lk k (mf e)≠none→lk k st.mem≠none∨ ∃j2 d2 e2,j2≤j∧dY[j2]? =some (d2,e2)∧lk k e2.new≠none:=by
 intro j;induction j using Nat.strongRecOn with
 |_ j ih=>
  intro d e hj hk;rcases kM hk with hu|hn
  obtain ⟨o',_,⟨⟨r,nx,e1,cs,h1,_,_,_,hp,_⟩⟩⟩:=H.ok j (H.er hj).1;rw [hj] at h1;injection h1 with h1;injection h1 with _ h1;subst h1;have:=hp k hu;rw [eV] at this;cases hx:fG (fun q=>cP q (Ds.getD j [])) k 0 (dY.take j) with
  |none=>rw [hx,Option.none_or] at this;exact .inl this
  |some c=>
   obtain ⟨q,d2,e2,g1,_,g3⟩:=jo hx;obtain ⟨hq,g1⟩:=mW g1;rcases ih q hq d2 e2 g1 (by rw [g3];simp) with h0|⟨j2,d3,e3,h1,h2,h3⟩
   exact .inl h0;exact .inr ⟨j2,d3,e3,by omega,h2,h3⟩
  exact .inr ⟨j,d,e,Nat.le_refl _,hj,hn⟩
theorem lW.pair (H:lW P N all st h Ds dY K){i j:Nat}{d d':Option Tmp}{e e':cf}(hi:dY[i]? =some (d,e))(hj:dY[j]? =some (d',e'))(cp:j<i)(hn:j ∉ Ds.getD i []):e'.l6=[]∨mf e=[]:=by
 obtain ⟨o',vx,⟨⟨r,nx,e1,cs,h1,Qi,_,_,_,_,hK,hp⟩⟩⟩:=H.ok i (H.er hi).1;rw [hi] at h1;injection h1 with h1;injection h1 with _ h1;subst h1;have hg:all.getD i default=o':=by rw [List.getD_eq_getElem?_getD,vx];rfl
 rcases hp j d' e' cp hj with h|⟨h1,h2⟩
 exact absurd h hn;rcases h2 with h2|h2|⟨c,h2,_⟩
 exact .inl h2;exact .inr (H.blind hi (by rw [hg];exact h2));obtain ⟨_,k1,k2⟩:=Ez (hK.symm.trans h2) (fun _ _=>rfl) (fun _ h=>h) Qi;right;unfold mf;rw [k1,k2];rfl
theorem KS {k:Nat}{e:cf}(h:mf e=[]):lk k (mf e)=none:=by rw [h];rfl
theorem ze {sel:Nat→Bool}{k:Nat}{ch:Chunk}{v:cf}: ∀{l:List ER} {n i:Nat} {d:Option Tmp},l[i]? =some (d,v)→sel (n+i)=true→lk k (mf v)=some ch→(∀(j:Nat) (d:Option Tmp) (e:cf),i<j→l[j]? =some (d,e)→lk k (mf e)≠none→sel (n+j)=false)→fG sel k n l=some ch
 |[],n,i,_,h,_,_,_=>by simp at h
 |(d,e)::r,n,0,d',h,hs,hk,hn=>by
  simp at h;obtain ⟨rfl,rfl⟩:=h;have hz:fG sel k (n+1) r=none:=by
   cases hx:fG sel k (n+1) r with
   |none=>rfl
   |some c=>
    obtain ⟨j,d2,e2,g1,g2,g3⟩:=jo hx;have:=hn (j+1) d2 e2 (by omega) (by simpa using g1) (by rw [g3];simp);rw [show n+(j+1)=n+1+j from by omega,g2] at this;cases this
  simp only [fG];have hs:sel n=true:=by simpa using hs
  rw [hz,if_pos hs,hk];rfl
 |(d,e)::r,n,i+1,d',h,hs,hk,hn=>by
  simp only [fG];have:=ze (l:=r) (n:=n+1) (i:=i) (d:=d') (by simpa using h) (by rwa [show n+(i+1)=n+1+i from by omega] at hs) hk (fun j d e cp hj hd=>by
   have:=hn (j+1) d e (by omega) (by simpa using hj) hd;rwa [show n+(j+1)=n+1+j from by omega] at this)
  rw [this];rfl
theorem zf {sel:Nat→Bool}{k:Nat}{ch:Chunk}: ∀{l:List ER} {n:Nat},fG sel k n l=some ch→ ∃(j:Nat) (d:Option Tmp) (e:cf),l[j]? =some (d,e)∧sel (n+j)=true∧lk k (mf e)=some ch∧ ∀(q:Nat) (d:Option Tmp) (e:cf),j<q→l[q]? =some (d,e)→lk k (mf e)≠none→sel (n+q)=false
 |[],_,h=>by simp [fG] at h
 |(d,e)::r,n,h=>by
  simp only [fG] at h;cases hx:fG sel k (n+1) r with
  |some c=>
   rw [hx] at h;have h:c=ch:=by simpa using h
   subst h;obtain ⟨j,d',e',h1,h2,h3,h4⟩:=zf hx;refine ⟨j+1,d',e',by simpa using h1,by rwa [show n+(j+1)=n+1+j from by omega],h3,fun q d2 e2 hq xu hk=> ?_⟩;cases q with
   |zero=>omega
   |succ q=>
    have:=h4 q d2 e2 (by omega) (by simpa using xu) hk;rwa [show n+(q+1)=n+1+q from by omega]
  |none=>
   rw [hx] at h;simp only [Option.none_or] at h;split at h;rename_i hs;refine ⟨0,d,e,rfl,by simpa using hs,h,fun q d2 e2 hq xu hk=> ?_⟩;cases q with
   |zero=>omega
   |succ q=>
    cases XP:sel (n+(q+1)) with
    |false=>rfl
    |true=>exact absurd (nZ hx q d2 e2 (by simpa using xu) (by rwa [show n+1+q=n+(q+1) from by omega])) hk
   cases h
def oP (st:St)(dY:List ER)(sel:Nat→Bool)(nx:Nat):St:=⟨ij sel 0 dY st.fr,dp sel 0 dY st.mem,nx⟩
theorem lW.step (H:lW P N all st h Ds dY K){sel:Nat→Bool}{i:Nat}{o:Oper}(hi:i<h)(ho:all[i]? =some o)(hn:sel i=false)(hd: ∀j∈Ds.getD i [],sel j=true)(hc: ∀j,j<h→sel j=true→ ∀k∈Ds.getD j [],sel k=true):
 ∃(r:OH) (nx:Nat) (e:cf) (cs:List Prop),oO P all o r (ij sel 0 dY st.fr) (dp sel 0 dY st.mem) nx=some (e,cs)∧bB cs∧N0 N o.dst=true∧fE (dp sel 0 dY st.mem) e.new∧
  (∀t,lk t (ij (fun j=>sel j||Nat.beq j i) 0 dY st.fr)=lk t (match o.dst with|some t'=>(t',e.val)::ij sel 0 dY st.fr|none=>ij sel 0 dY st.fr))∧
  (∀k,lk k (dp (fun j=>sel j||Nat.beq j i) 0 dY st.mem)=lk k (e.l6++e.new++dp sel 0 dY st.mem)):=by
 obtain ⟨o',vx,⟨⟨r,nx,e,cs,h1,h2,h3,h4,h5,h6,hKi,h7⟩⟩⟩:=H.ok i hi;rw [ho] at vx;injection vx with vx;subst vx;have Wl: ∀j,j≠i→Nat.beq j i=false:=fun j hj=>by
  cases hb:Nat.beq j i with
  |false=>rfl
  |true=>exact absurd (bG hb) hj
 have qU: ∀j,i≤j→cP (0+j) (Ds.getD i [])=false:=fun j hj=>by
  cases hb:cP (0+j) (Ds.getD i []) with
  |false=>rfl
  |true=>
   have:=H.lt i _ o ho (dA.1 hb);omega
 have PC: ∀j d e',dY[j]? =some (d,e')→j≠i→(sel j=cP j (Ds.getD i []))∨((∀t,d=some t→t ∉ n7 all o)∧(∀t,d=some t→o.dst≠some t)):=by
  intro j d e' hj jg;obtain ⟨Ns,oj,NP,NX,XN⟩:=H.er hj;rcases Nat.lt_or_ge j i with cp|hgt
  rcases (H.CD i o ho).2.2 j cp with hm|⟨_,QH⟩
  left;rw [hd j hm,dA.2 hm];right;rw [XN] at QH;have:=th QH;subst NX;exact ⟨this.1,this.2.1⟩;rcases (H.CD j oj NP).2.2 i (by omega) with hm|⟨_,QH⟩
  left;have e1:=qU j hgt;rw [Nat.zero_add] at e1;rw [e1];cases hs:sel j with
  |false=>rfl
  |true=>rw [hc j Ns hs i hm] at hn;cases hn
  right;rw [show all.getD i default=o from by rw [List.getD_eq_getElem?_getD,ho];rfl] at QH;have:=th QH;subst NX;exact ⟨this.2.2,fun t ht he=>this.2.1 t he ht⟩
 have KT: ∀t∈n7 all o,lk t (ij sel 0 dY st.fr)=lk t (ij (fun j=>cP j (Ds.getD i [])) 0 (dY.take i) st.fr):=by
  intro t ht;rw [lD,lD,tR qU]
  congr 1
  refine kZ fun j d e' hj Ul=> ?_;rw [Nat.zero_add];by_cases Gq:j=i;subst Gq;have e1:=qU j (Nat.le_refl _);rw [Nat.zero_add] at e1;rw [hn,e1];rcases PC j d e' hj Gq with hp|⟨hp,_⟩
  exact hp;exact absurd ht (hp t Ul)
 have hgi:all.getD i default=o:=by rw [List.getD_eq_getElem?_getD,ho];rfl
 have QI: ∀j d e',dY[j]? =some (d,e')→i<j→sel j=true→e.l6=[]∨mf e'=[]:=by
  intro j d e' hj Bi hs;have Ns:=(H.er hj).1;have XQ:i ∉ Ds.getD j []:=fun hx=>by rw [hc j Ns hs i hx] at hn;cases hn
  exact H.pair hj h1 Bi XQ
 have PD: ∀j,sel j=true→ ∀d e' k,dY[j]? =some (d,e')→lk k e'.l6≠none→lk k e.new≠none→False:=by
  intro j;induction j using Nat.strongRecOn with
  |_ j ihj=>
   intro hs d e' k hj hu mV;obtain ⟨Ns,_⟩:=H.er hj;obtain ⟨oj',_,⟨⟨r2,nx2,e2,Um,p1,_,_,_,p5,_,_⟩⟩⟩:=H.ok j Ns;rw [hj] at p1;injection p1 with p1;injection p1 with _ p1;subst p1;have:=p5 k hu;rw [eV,H.CF h1 mV,Option.or_none] at this;cases hx:fG (fun q=>cP q (Ds.getD j [])) k 0 (dY.take j) with
   |none=>exact this hx
   |some c=>
    obtain ⟨q,d3,e3,g1,g2,g3⟩:=jo hx;obtain ⟨hq,g1⟩:=mW g1;rw [Nat.zero_add] at g2;have XP:=hc j Ns hs q (dA.1 g2);rcases kM (k:=k) (e:=e3) (by rw [g3];simp) with hy|hy
    exact ihj q hq XP d3 e3 k g1 hy mV;have:=H.uniq g1 h1 hy mV;subst this;rw [XP] at hn;cases hn
 have tL: ∀k,lk k (dp (fun j=>cP j (Ds.getD i [])) 0 (dY.take i) st.mem)≠none→lk k (dp (fun _=>true) 0 (dY.take i) st.mem)≠none:=by
  intro k hk hx;rw [eV,Option.or_eq_none_iff] at hx;rw [eV,hx.2,Option.or_none] at hk;cases hy:fG (fun j=>cP j (Ds.getD i [])) k 0 (dY.take i) with
  |none=>exact hk hy
  |some c=>
   obtain ⟨q,d3,e3,g1,_,g3⟩:=jo hy;have:=nZ hx.1 q d3 e3 g1 rfl;rw [g3] at this;cases this
 have core: ∀k ch,lk k (dp (fun j=>cP j (Ds.getD i [])) 0 (dY.take i) st.mem)=some ch→(∀j d e',dY[j]? =some (d,e')→j≠i→sel j=true→cP j (Ds.getD i [])=false→lk k e'.l6=none)→lk k (dp sel 0 dY st.mem)=some ch:=by
  intro k ch hk KU;rw [eV] at hk⊢;cases hx:fG (fun j=>cP j (Ds.getD i [])) k 0 (dY.take i) with
  |some c=>
   rw [hx] at hk;have hk:c=ch:=by simpa using hk
   subst hk;obtain ⟨j,d,e',g1,g2,g3,g4⟩:=zf hx;obtain ⟨Gq,g1⟩:=mW g1;rw [Nat.zero_add] at g2;rw [ze (i:=j) (d:=d) (v:=e') g1 (by rw [Nat.zero_add];exact hd j (dA.1 g2)) g3 (fun q d2 e2 hq xu fi=>by
    rw [Nat.zero_add];cases hs:sel q with
    |false=>rfl
    |true=>
     exfalso;have F8:q≠i:=by rintro rfl;rw [hs] at hn;cases hn
     cases hm:cP q (Ds.getD i []) with
     |true=>
      have cp:=H.lt i q o ho (dA.1 hm);have:=g4 q d2 e2 hq (by rw [List.getElem?_take,if_pos cp];exact xu) fi;rw [Nat.zero_add,hm] at this;cases this
     |false=>
      have hu:=KU q d2 e2 xu F8 hs hm;have mV:lk k e2.new≠none:=by
       rcases kM fi with hx|hx
       exact absurd hu hx;exact hx
      rcases H.Uk j d e' g1 (by rw [g3];simp) with h0|⟨j2,d3,e3,p1,p2,p3⟩
      exact h0 (H.CF xu mV);have:=H.uniq p2 xu p3 mV;omega)]
   rfl
  |none=>
   rw [hx,Option.none_or] at hk;cases hy:fG sel k 0 dY with
   |none=>rw [Option.none_or];exact hk
   |some c=>
    exfalso;obtain ⟨j,d,e',g1,g2,g3⟩:=jo hy;rw [Nat.zero_add] at g2;have Gq:j≠i:=by rintro rfl;rw [g2] at hn;cases hn
    cases hm:cP j (Ds.getD i []) with
    |true=>
     have cp:=H.lt i j o ho (dA.1 hm);have:=nZ hx j d e' (by rw [List.getElem?_take,if_pos cp];exact g1) (by rw [Nat.zero_add];exact hm);rw [g3] at this;cases this
    |false=>
     have hu:=KU j d e' g1 Gq g2 hm;have mV:lk k e'.new≠none:=by
      rcases kM (k:=k) (e:=e') (by rw [g3];simp) with hx|hx
      exact absurd hu hx;exact hx
     rw [H.CF g1 mV] at hk;cases hk
 have KV: ∀k,lk k (dp (fun j=>cP j (Ds.getD i [])) 0 (dY.take i) st.mem)≠none→kL o=false→(K i=none∨K i=some k)→ ∀j d e',dY[j]? =some (d,e')→j≠i→sel j=true→cP j (Ds.getD i [])=false→lk k e'.l6=none:=by
  intro k ou jV hKk j d e' hj jg hs hm;obtain ⟨Ns,oj,NP,_,_⟩:=H.er hj;have Un: ∀{u:Mem},(∃c,K i=some c∧lk c u=none)→lk k u=none:=fun {u} ⟨c,q1,q2⟩=>by
   rcases hKk with q|q
   rw [q] at q1;cases q1;rw [q] at q1;injection q1 with q1;rw [q1];exact q2
  rcases Nat.lt_or_ge j i with cp|acu
  rcases h7 j d e' cp hj with hx|hx
  rw [dA.2 hx] at hm;cases hm;rcases hx.2 with hx|hx|hx
  rw [hx];rfl;rw [jV] at hx;cases hx;exact Un hx;have XQ:i ∉ Ds.getD j []:=fun hx=>by rw [hc j Ns hs i hx] at hn;cases hn
  obtain ⟨oj',_,⟨⟨r2,nx2,e2,Um,p1,_,_,_,_,_,_,p7⟩⟩⟩:=H.ok j Ns;rw [hj] at p1;injection p1 with p1;injection p1 with _ p1;subst p1;rcases p7 i o.dst e (by omega) h1 with hx|hx
  exact absurd hx XQ;rcases hx.1 with hx|hx|hx|hx
  rw [hx];rfl;rw [hgi,jV] at hx;cases hx;cases hy:lk k e'.l6 with
  |none=>rfl
  |some c=>exact absurd (hx k (by rw [hy];simp)) (tL k ou)
  exact Un hx
 have Qi:oO P all o r (ij sel 0 dY st.fr) (dp sel 0 dY st.mem) nx=some (e,cs):=by
  cases jV:kL o with
  |false=>
   cases QJ:K i with
   |none=>exact tS KT (fun k ch hk=>core k ch hk (KV k (by rw [hk];simp) jV (.inl QJ))) h2
   |some c=>exact (Ez (hKi.symm.trans QJ) KT (fun ch hk=>core c ch hk (KV c (by rw [hk];simp) jV (.inr QJ))) h2).1
  |true=>exact Gp jV KT h2
 refine ⟨r,nx,e,cs,Qi,h3,h4,fun p hp=> ?_,fun t=> ?_,fun k=> ?_⟩;have XR:lk p.1 e.new≠none:=zd hp;rw [eV,H.CF h1 XR,Option.or_none];cases hx:fG sel p.1 0 dY with
 |none=>rfl
 |some c=>
  exfalso;obtain ⟨j,d,e',g1,g2,g3⟩:=jo hx;rw [Nat.zero_add] at g2;have Gq:j≠i:=by rintro rfl;rw [g2] at hn;cases hn
  rcases kM (k:=p.1) (e:=e') (by rw [g3];simp) with hu|mV
  exact PD j g2 d e' p.1 g1 hu XR;exact Gq (H.uniq g1 h1 mV XR)
 have H9:(∀t',o.dst=some t'→t≠t')→lk t (ij (fun j=>sel j||Nat.beq j i) 0 dY st.fr)=lk t (ij sel 0 dY st.fr):=by
  intro jg;rw [lD,lD]
  congr 1
  refine kZ fun j d e' hj Ul=> ?_;rw [Nat.zero_add];have Gq:j≠i:=by
   rintro rfl;rw [h1] at hj;injection hj with hj;injection hj with hj _;exact jg t (hj.trans Ul) rfl
  rw [Wl j Gq,Bool.or_false]
 cases Cu:o.dst with
 |none=>exact H9 fun t' Xd=>by rw [Cu] at Xd;cases Xd
 |some t'=>
  simp only;rw [aL];by_cases XS:t=t';subst XS;rw [if_pos rfl,lD];rw [Ew (i:=i) (v:=e) (by rw [h1,Cu]) (by rw [Nat.zero_add];simp) (fun j d e' Bi hj Ul=>by
   rw [Nat.zero_add,Wl j (by omega),Bool.or_false];rcases PC j d e' hj (by omega) with hp|⟨_,hp⟩
   rw [hp];have:=qU j (by omega);rwa [Nat.zero_add] at this;exact absurd Cu (hp t Ul))]
  rfl;rw [if_neg XS];exact H9 fun t'' N4=>by rw [Cu] at N4;injection N4 with N4;subst N4;exact XS
 show _=lk k (mf e++dp sel 0 dY st.mem);rw [bN,eV,eV,←Option.or_assoc]
 congr 1
 cases hk:lk k (mf e) with
 |some c=>
  rw [ze (i:=i) (d:=o.dst) (v:=e) h1 (by simp) hk (fun j d e' Bi hj Wm=>by
   rw [Nat.zero_add,Wl j (by omega),Bool.or_false];cases hs:sel j with
   |false=>rfl
   |true=>
    exfalso;have Gq:j≠i:=by omega
    have XT:mf e'≠[]:=fun hx=>Wm (KS hx);have u2:=(QI j d e' hj Bi hs).resolve_right XT;have n1:lk k e.new≠none:=by
     rcases kM (k:=k) (e:=e) (by rw [hk];simp) with hx|hx
     rw [u2] at hx;exact absurd rfl hx;exact hx
    rcases kM Wm with hx|hx
    exact PD j hs d e' k hj hx n1;exact Gq (H.uniq hj h1 hx n1))]
  rfl
 |none=>
  rw [Option.none_or];refine rf fun j d e' hj Wm=> ?_;rw [Nat.zero_add];have Gq:j≠i:=by
   rintro rfl;rw [h1] at hj;injection hj with hj;injection hj with _ hj;subst hj;exact Wm hk
  rw [Wl j Gq,Bool.or_false]
theorem PE {ops:Array Oper}{Q:Exit→Act→World→Prop}{K:Act→World→Prop}{i:Nat}{o:Oper}(ho:ops[i]? =some o)(h:if Region.wanted o (yielded ops a.tmps) then o.wp P a w K Q else K (a.put o.dst undef) w):wpOp P ops Q i K a w:=by
 unfold wpOp;rw [ho];simp only;by_cases hw:Region.wanted o (yielded ops a.tmps)=true;rw [if_pos hw] at h⊢;exact .inl h;rw [if_neg hw] at h⊢;exact h
def fu (listed:Array Bool)(j:Nat):Bool:=listed.getD j false
theorem tT {ops:List Oper}{listed:Array Bool}(hs:listed.size=ops.length){i:Nat}(hi:i∈Region.ready .any ops.toArray listed):
 ∃o,ops[i]? =some o∧fu listed i=false∧ ∀d∈dL o,fu listed d=true:=by
 obtain ⟨h0,o,ho,bF⟩:=mem_ready.1 hi;have ho:ops[i]? =some o:=by simpa using ho
 have cp:i<listed.size:=by rw [hs];exact (List.getElem?_eq_some_iff.1 ho).1
 refine ⟨o,ho,?_,fun d hd=> ?_⟩;unfold fu;simp [Array.getD,cp] at h0⊢;exact h0;unfold dL at hd;obtain ⟨e,he,rfl⟩:=List.mem_map.1 hd;obtain ⟨he,hb⟩:=List.mem_filter.1 he;exact bF e (by simpa using he) hb
theorem BC {ops:List Oper}{listed:Array Bool}(hs:listed.size=ops.length)(hd: ∀i o,ops[i]? =some o→ ∀d∈dL o,d<i)(hr:Region.ready .any ops.toArray listed=[]): ∀i,i<ops.length→fu listed i=true:=by
 intro i;induction i using Nat.strongRecOn with
 |_ i ih=>
  intro hi;cases hl:fu listed i with
  |true=>rfl
  |false=>
   have:i∈Region.ready .any ops.toArray listed:=by
    refine mem_ready.2 ⟨?_,ops[i],by simp [hi],fun e he hb=> ?_⟩;unfold fu at hl;have cp:i<listed.size:=by omega
    simp [Array.getD,cp] at hl⊢;exact hl;have Nr:e.on∈dL ops[i]:=List.mem_map.2 ⟨e,List.mem_filter.2 ⟨by simpa using he,hb⟩,rfl⟩;have cp:=hd i ops[i] (List.getElem?_eq_getElem hi) e.on Nr;exact ih e.on cp (by omega)
   rw [hr] at this;simp at this
theorem rh {listed:Array Bool}{i j:Nat}(hi:i<listed.size):fu (listed.setIfInBounds i true) j=(fu listed j||Nat.beq j i):=by
 unfold fu;by_cases Bi:j=i;subst Bi;have:Nat.beq j j=true:=Nat.beq_refl j;rw [this];simp [hi];have:Nat.beq j i=false:=by
  cases hb:Nat.beq j i with
  |false=>rfl
  |true=>exact absurd (bG hb) Bi
 rw [this,getD_set_ne false (fun e=>Bi e.symm)];simp
def todo (listed:Array Bool)(n:Nat):Nat:=((List.range n).filter fun j=> !fu listed j).length
theorem EA {listed:Array Bool}{i n:Nat}(hi:i<listed.size)(hn:i<n)(hl:fu listed i=false):todo (listed.setIfInBounds i true) n+1≤todo listed n:=by
 unfold todo;have aux: ∀l:List Nat,l.Nodup→i∈l→(l.filter fun j=> !fu (listed.setIfInBounds i true) j).length+1≤(l.filter fun j=> !fu listed j).length:=by
  intro l;induction l with
  |nil=>intro _ h;simp at h
  |cons x l ih=>
   intro xn hm;simp only [List.nodup_cons] at xn;by_cases hx:x=i;subst hx;have e1:(!fu (listed.setIfInBounds x true) x)=false:=by rw [rh hi];simp
   have e2:(!fu listed x)=true:=by rw [hl];rfl
   rw [List.filter_cons_of_neg (by simp [e1]),List.filter_cons_of_pos (by simp [hl])];simp only [List.length_cons,Nat.add_le_add_iff_right];refine Nat.le_of_eq ?_
   congr 1
   refine List.filter_congr fun y hy=> ?_;rw [rh hi];have:Nat.beq y x=false:=by
    cases hb:Nat.beq y x with
    |false=>rfl
    |true=>have:=bG hb;subst this;exact absurd hy xn.1
   rw [this,Bool.or_false];have hm:i∈l:=by
    rcases List.mem_cons.1 hm with e|hm
    exact absurd e.symm hx;exact hm
   have:=ih xn.2 hm;have e:fu (listed.setIfInBounds i true) x=fu listed x:=by
    rw [rh hi];have:Nat.beq x i=false:=by
     cases hb:Nat.beq x i with
     |false=>rfl
     |true=>exact absurd (bG hb) hx
    rw [this,Bool.or_false]
   cases hs:fu listed x with
   |true=>
    rw [hs] at e;rw [List.filter_cons_of_neg (by simp [e]),List.filter_cons_of_neg (by simp [hs])];exact this
   |false=>
    rw [hs] at e;rw [List.filter_cons_of_pos (by simp [e]),List.filter_cons_of_pos (by simp [hs])];simp only [List.length_cons];omega
 exact aux _ List.nodup_range (List.mem_range.2 hn)
theorem zg {Q:Exit→Act→World→Prop}(hd: ∀i o,all[i]? =some o→(∀d∈dL o,d<i)∧(∀j∈Ds.getD i [],j∈dL o∨ ∃d∈dL o,j∈Ds.getD d [])∧(∀j,h≤j→j<i→j∈Ds.getD i [])):
 ∀(fuel:Nat) {listed:Array Bool} {i:Nat} {a:Act} {w:World},listed.size=all.length→h≤i→(∀j,j<all.length→(fu listed j=true↔j<i))→i≤all.length→todo listed all.length≤fuel→
  wpList cx.P all.toArray Q (all.drop i) a w→wpAny cx.P .any all.toArray Q fuel listed a w:=by
 intro fuel;have mX: ∀{listed:Array Bool} {i:Nat} {a:Act} {w:World},(∀j,j<all.length→(fu listed j=true↔j<i))→i≤all.length→(∀j,j<all.length→fu listed j=true)→wpList cx.P all.toArray Q (all.drop i) a w→Q .normal a w:=by
  intro listed i a w hl hi my he;have Ea:all.drop i=[]:=by
   rcases Nat.lt_or_ge i all.length with cp|qU
   have:=(hl i cp).1 (my i cp);omega;exact List.drop_eq_nil_of_le qU
  rw [Ea] at he;exact he
 induction fuel with
 |zero=>
  intro listed i a w eK ui hl hi KW he;have my: ∀j,j<all.length→fu listed j=true:=fun j hj=>by
   cases hx:fu listed j with
   |true=>rfl
   |false=>
    have:j∈(List.range all.length).filter fun j=> !fu listed j:=List.mem_filter.2 ⟨List.mem_range.2 hj,by rw [hx];rfl⟩;have:=List.length_pos_of_mem this;unfold todo at KW;omega
  refine ⟨?_,mX hl hi my he⟩;cases hr:Region.ready .any all.toArray listed with
  |nil=>rfl
  |cons x xs=>
   obtain ⟨o,ho,h1,_⟩:=tT eK (i:=x) (by rw [hr];simp);rw [my x (List.getElem?_eq_some_iff.1 ho).1] at h1;cases h1
 |succ fuel ih=>
  intro listed i a w eK ui hl hi KW he;refine ⟨fun hr=>mX hl hi (BC eK (fun i o ho=>(hd i o ho).1) hr) he,fun j hj=> ?_⟩;obtain ⟨o,ho,h1,h2⟩:=tT eK hj;have NV:j<all.length:=(List.getElem?_eq_some_iff.1 ho).1;have Gq:j=i:=by
   have qU:i≤j:=by
    rcases Nat.lt_or_ge j i with cp|qU
    rw [(hl j NV).2 cp] at h1;cases h1;exact qU
   rcases Nat.lt_or_ge i j with cp|hle
   have hm:=(hd j o ho).2.2 i ui cp;have ur: ∀(n:Nat) (o:Oper),all[n]? =some o→(∀d∈dL o,fu listed d=true)→ ∀k∈Ds.getD n [],fu listed k=true:=by
    intro n;induction n using Nat.strongRecOn with
    |_ n ihn=>
     intro o ho hdl k hk;have cp:n<all.length:=(List.getElem?_eq_some_iff.1 ho).1;rcases (hd n o ho).2.1 k hk with Wn|⟨d,Wn,vy⟩
     exact hdl k Wn;have hdn:=(hd n o ho).1 d Wn;have QK:d<all.length:=by omega
     refine ihn d hdn all[d] (List.getElem?_eq_getElem QK) (fun d' hd'=> ?_) k vy;have Nr:=(hl d QK).1 (hdl d Wn);have:=(hd d all[d] (List.getElem?_eq_getElem QK)).1 d' hd';exact (hl d' (by omega)).2 (by omega)
   have:=(hl i (by omega)).1 (ur j o ho h2 i hm);omega;omega
  subst Gq;have Ea:all.drop j=o::all.drop (j+1):=by
   rw [List.drop_eq_getElem_cons NV]
   congr 1
   exact (List.getElem?_eq_some_iff.1 ho).2
  rw [Ea] at he;simp only [wpList] at he;unfold wpOp;rw [show all.toArray[j]? =some o by simpa using ho];simp only;have nxt: ∀a' w',wpList cx.P all.toArray Q (all.drop (j+1)) a' w'→wpAny cx.P .any all.toArray Q fuel (listed.setIfInBounds j true) a' w':=fun a' w' h'=>by
   refine ih (i:=j+1) (by simp [eK]) (by omega) (fun k hk=> ?_) (by omega) ?_ h';rw [rh (by omega)];simp only [Bool.or_eq_true];rw [hl k hk];constructor;rintro (gM|gM);omega;have:=bG gM;omega;intro gM;rcases Nat.lt_or_ge k j with cp|qU
   exact .inl cp;right;have:k=j:=by omega
   subst this;exact Nat.beq_refl _;have:=EA (listed:=listed) (i:=j) (n:=all.length) (by omega) NV h1;omega
  split;rename_i hw;rw [if_pos hw] at he;exact he.imp (Oper.wp_mono nxt) id;rename_i hw;rw [if_neg hw] at he;exact nxt _ _ he
theorem EB {sel sel':Nat→Bool}(H: ∀j,j<dY.length→sel j=sel' j)(fr:Fr)(t:Tmp):lk t (ij sel 0 dY fr)=lk t (ij sel' 0 dY fr):=by
 rw [lD,lD]
 congr 1
 exact kZ fun j d e hj _=>by
  rw [Nat.zero_add];exact H j (List.getElem?_eq_some_iff.1 hj).1
theorem CG {sel sel':Nat→Bool}(H: ∀j,j<dY.length→sel j=sel' j)(m:Mem)(k:Nat):lk k (dp sel 0 dY m)=lk k (dp sel' 0 dY m):=by
 rw [eV,eV]
 congr 1
 exact rf fun j d e hj _=>by
  rw [Nat.zero_add];exact H j (List.getElem?_eq_some_iff.1 hj).1
theorem EC {Q:Exit→Act→World→Prop}{st:St}{nx0:Nat}(H:lW cx.P cx.N all st h Ds dY K)(hh:h≤all.length)(hT: ∀g' a' w',cX cx g' (oP st dY (fun _=>true) nx0) a' w'→wpList cx.P all.toArray Q (all.drop h) a' w'):
 ∀(fuel:Nat) {listed:Array Bool} {nx:Nat} {g:GM} {a:Act} {w:World},listed.size=all.length→(∀j,fu listed j=true→j<h)→(∀j,j<h→fu listed j=true→ ∀k∈Ds.getD j [],fu listed k=true)→todo listed all.length≤fuel→
  cX cx g (oP st dY (fu listed) nx) a w→wpAny cx.P .any all.toArray Q fuel listed a w:=by
 intro fuel;have mX: ∀(fuel:Nat) {listed:Array Bool} {nx:Nat} {g:GM} {a:Act} {w:World},listed.size=all.length→(∀j,fu listed j=true→j<h)→todo listed all.length≤fuel→(∀j,j<h→fu listed j=true)→cX cx g (oP st dY (fu listed) nx) a w→wpAny cx.P .any all.toArray Q fuel listed a w:=by
  intro fuel listed nx g a w eK hl KW my hs;have hs':cX cx g (oP st dY (fun _=>true) nx0) a w:=hs.congr (fun t v hv=>by
   rw [←hv];exact EB (sel':=fun _=>true) (fun j hj=>my j (by rw [←H.len];exact hj)) _ _) (fun k=>(CG (sel':=fun _=>true) (fun j hj=>my j (by rw [←H.len];exact hj)) _ _).symm)
  exact zg (h:=h) (Ds:=Ds) (fun i o ho=>⟨(H.CD i o ho).1,(H.CD i o ho).2.1,fun j hj hi=>((H.CD i o ho).2.2 j hi).resolve_right fun x=>by omega⟩) fuel eK (Nat.le_refl h) (fun j hj=>⟨hl j,my j⟩) hh KW (hT _ _ _ hs')
 induction fuel with
 |zero=>
  intro listed nx g a w eK hl ur KW hs;refine mX 0 eK hl KW (fun j hj=> ?_) hs;cases hx:fu listed j with
  |true=>rfl
  |false=>
   have:j∈(List.range all.length).filter fun j=> !fu listed j:=List.mem_filter.2 ⟨List.mem_range.2 (by omega),by rw [hx];rfl⟩;have:=List.length_pos_of_mem this;unfold todo at KW;omega
 |succ fuel ih=>
  intro listed nx g a w eK hl ur KW hs;by_cases my: ∀j,j<h→fu listed j=true;exact mX (fuel+1) eK hl KW my hs;refine ⟨fun hr=>absurd (fun j hj=>BC eK (fun i o ho=>(H.CD i o ho).1) hr j (by omega)) my,fun i hi=> ?_⟩;obtain ⟨o,ho,h1,h2⟩:=tT eK hi;have hil:i<all.length:=(List.getElem?_eq_some_iff.1 ho).1;have Nr: ∀j∈Ds.getD i [],fu listed j=true:=fun j hj=>by
   rcases (H.CD i o ho).2.1 j hj with hd|⟨d,hd,hj⟩
   exact h2 j hd;exact ur d (hl d (h2 d hd)) (h2 d hd) j hj
  have hih:i<h:=by
   rcases Nat.lt_or_ge i h with cp|qU
   exact cp;exact absurd (fun j hj=>Nr j (((H.CD i o ho).2.2 j (by omega)).resolve_right fun x=>by omega)) my
  obtain ⟨r,nx',e,nU,g1,g2,g3,g5,g6,g7⟩:=H.step hih ho h1 Nr ur;have Gr:fu (listed.setIfInBounds i true)=fun j=>fu listed j||Nat.beq j i:=funext fun j=>rh (by omega)
  have DO:cX cx g ⟨ij (fu listed) 0 dY st.fr,dp (fu listed) 0 dY st.mem,nx'⟩ a w:=hs.congr (fun _ _ hv=>hv) (fun _=>rfl);refine PE (by simpa using ho) (yU DO g1 g5 g3 g2 fun g' a' w' hs'=> ?_);refine ih (nx:=0) (by simp [eK]) (fun j hj=> ?_) (fun j hj QL k hk=> ?_) ?_ (hs'.congr (fun t v hv=> ?_) fun k=> ?_);rw [Gr] at hj;simp only [Bool.or_eq_true] at hj;rcases hj with hj|hj
  exact hl j hj;rw [bG hj];exact hih;rw [Gr] at QL⊢;simp only [Bool.or_eq_true] at QL⊢;rcases QL with QL|QL
  exact .inl (ur j hj QL k hk);have:=bG QL;subst this;exact .inl (Nr k hk);have:=EA (listed:=listed) (i:=i) (n:=all.length) (by omega) hil h1;omega;change lk t (ij (fu (listed.setIfInBounds i true)) 0 dY st.fr)=some v at hv;rw [Gr,g6] at hv;cases Cu:o.dst with
  |none=>rw [Cu] at hv;exact hv
  |some t'=>rw [Cu] at hv;exact hv
  change lk k (dp (fu (listed.setIfInBounds i true)) 0 dY st.mem)=_;rw [Gr,g7];unfold St.app;cases o.dst<;>rfl
theorem cX.KX {QQ:Exit→Act→World→Prop}{h:Nat}{ops:List Oper}{sH:List HR}{Aw:List (List Nat)}{dY:List ER}{st:St}{cs:List Prop}{nx:Nat}(hs:cX cx g st a w)(hn:(sH.length==h&&Nat.ble h ops.length)=true)(jT:qg ops (sH.map HR.D++Aw) h 0 ops=true)(hh:Bz cx.P cx.N ops st (ops.take h) sH [] st.nx=some (dY,cs,nx))(hc:bB cs)(hT: ∀g' a' w',cX cx g' (oP st dY (fun _=>true) nx) a' w'→wpList cx.P ops.toArray QQ (ops.drop h) a' w'):wpAny cx.P .any ops.toArray QQ ops.toArray.size (Array.replicate ops.toArray.size false) a {w with drawn:=w.drawn+1}:=by
 simp only [Bool.and_eq_true,beq_iff_eq] at hn;obtain ⟨hn,hl⟩:=hn;have hl:h≤ops.length:=Nat.le_of_ble_eq_true hl;obtain ⟨⟨l,e1,e2⟩,K,hsp⟩:=Gm hh hc;have hlen:dY.length=h:=by rw [e1];simp [e2,hl]
 have hDs: ∀i,i<h→(sH.map HR.D++Aw).getD i []=(sH.map HR.D).getD i []:=fun i hi=>by
  rw [List.getD_eq_getElem?_getD,List.getD_eq_getElem?_getD,List.getElem?_append_left (by simp [hn,hi])]
 have H:lW cx.P cx.N ops st h (sH.map HR.D++Aw) dY K:=by
  refine ⟨hlen,fun i hi=> ?_,fun i o ho=> ?_⟩;have ho:ops[i]? =some ops[i]:=List.getElem?_eq_getElem (by omega);refine ⟨ops[i],ho,?_⟩;have:=hsp i ops[i] (by rw [List.getElem?_take,if_pos hi];exact ho);rw [hDs i hi];simpa using this;have:=wV jT i o ho;simpa using this
 have hz: ∀j,fu (Array.replicate ops.length false) j=false:=fun j=>by
  unfold fu;rw [Array.getD_eq_getD_getElem?];by_cases hj:j<ops.length;simp [hj];rw [Array.getElem?_eq_none (by simpa using Nat.le_of_not_lt hj)];rfl
 have KW:todo (Array.replicate ops.length false) ops.length≤ops.length:=by
  unfold todo;exact Nat.le_trans (List.length_filter_le _ _) (by simp)
 have oz:cX cx g (oP st dY (fu (Array.replicate ops.length false)) 0) a w.drew:=by
  have hz':fu (Array.replicate ops.length false)=fun _=>false:=funext hz;refine hs.drew.congr (fun t v hv=> ?_) fun k=> ?_;rw [hz'] at hv;change lk t (ij (fun _=>false) 0 dY st.fr)=some v at hv;rw [lD] at hv;have:iK (fun _=>false) t 0 dY=none:=by
   have:=tR (sel:=fun _=>false) (t:=t) (l:=dY) (n:=0) (i:=0) (fun _ _=>rfl);simpa [iK] using this.symm
  rw [this] at hv;exact hv;rw [hz'];change lk k (dp (fun _=>false) 0 dY st.mem)=_;rw [eV];cases hx:fG (fun _=>false) k 0 dY with
  |none=>rfl
  |some c=>obtain ⟨_,_,_,_,h2,_⟩:=jo hx;cases h2
 have:=EC (Q:=QQ) (nx0:=nx) H hl hT ops.length (listed:=Array.replicate ops.length false) (by simp) (fun j hj=>by rw [hz j] at hj;cases hj) (fun j _ hj=>by rw [hz j] at hj;cases hj) KW oz;simpa using this
theorem cX.N5 {QQ:Exit→Act→World→Prop}{h:Nat}{ops:List Oper}{sH:List HR}{Aw:List (List Nat)}{rs:List OH}{dY:List ER}{st st':St}{cs nU:List Prop}{nx:Nat}(hs:cX cx g st a w)(hn:(sH.length==h&&Nat.ble h ops.length)=true)(jT:qg ops (sH.map HR.D++Aw) h 0 ops=true)(hh:Bz cx.P cx.N ops st (ops.take h) sH [] st.nx=some (dY,cs,nx))(he:oy cx.P cx.N ops (ops.drop h) rs (oP st dY (fun _=>true) nx)=some (st',nU))(hc:bB cs)(Nk:bB nU)(hq: ∀g' a' w',cX cx g' st' a' w'→QQ .normal a' w'):wpAny cx.P .any ops.toArray QQ ops.toArray.size (Array.replicate ops.toArray.size false) a {w with drawn:=w.drawn+1}:=
 hs.KX hn jT hh hc fun _ _ _ hs'=>qc hs' he Nk hq
theorem HT.draw {Q:Exit→St→Prop}{id h:Nat}{ops:List Oper}{sH:List HR}{Aw:List (List Nat)}{rs:List OH}{dY:List ER}{st st':St}{cs nU:List Prop}{nx:Nat}(hm:cx.P.follows .mixedOrders=true)(hn:(sH.length==h&&Nat.ble h ops.length)=true)(jT:qg ops (sH.map HR.D++Aw) h 0 ops=true)(hh:Bz cx.P cx.N ops st (ops.take h) sH [] st.nx=some (dY,cs,nx))(he:oy cx.P cx.N ops (ops.drop h) rs (oP st dY (fun _=>true) nx)=some (st',nU))(hc:bB cs)(Nk:bB nU)(hq:Q .normal st'):HT cx st (.region id ops.toArray true) Q:=
 fun _ _ _ hs=>wp_region_any hm (hs.N5 hn jT hh he hc Nk fun g' _ _ hs'=>⟨st',g',hq,hs'⟩)
end
end Go.Ide
namespace Go.Ide
structure sI where
 ch:List (Nat×Nat)
 vs:List Nat
 tr:List Nat
 fz:Bool
def uK (k k':Nat)(ch:List (Nat×Nat)):Bool:=
 match lk k ch with
 |some q=>Nat.beq q k'
 |none=>false
theorem qh {k k':Nat}{ch:List (Nat×Nat)}(h:uK k k' ch=true):lk k ch=some k':=by
 unfold uK at h;split at h;rename_i q hq;rw [hq,bG h];cases h
def Gs (k:Nat)(ch:List (Nat×Nat)):Bool:=match lk k ch with|some _=>true|none=>false
def sI.m0 (s:sI)(m:Mem):Mem:=bif s.fz then m.filter (fun p=> !(Gs p.1 s.ch)) else []
def FJ (s:sI)(m0 m':Mem)(c c':aA):Option (List Prop):=
 match c' with
 | .aw t x'=>(match eE m0 t c with
  |some x=>some [x'=x]
  |none=>none)
 | .ptr k' ei=>(match c with
  | .ptr k off=>bif uK k k' s.ch&&Nat.beq off ei then some [] else none
  |_=>none)
 | .dI k' i' H8 ei=>(match c with
  | .dI k i sz off=>bif uK k k' s.ch&&(Nat.beq sz H8&&Nat.beq off ei) then some [i'=i] else none
  |_=>none)
 | .ip t' x' ei=>(match c with
  | .ip t x off=>bif Nat.beq off ei then (if h:t'=t then some [cJ h x'=x] else none) else none
  | .ptr k off=>(match lk k m0 with
   |some (.box cs)=>bif Nat.beq off ei then (match impl m0 t' cs with
    |some (x,[])=>some [x'=x]
    |_=>none) else none
   |_=>none)
  |_=>none)
 | .all k'=>(match c with
  | .all k=>bif uK k k' s.ch&& !(cP k s.tr) then some [] else none
  | .al=>bif cP k' s.vs then some [] else none
  | .ref k off len=>bif uK k k' s.ch&&cP k s.tr then (match lk k' m' with
   |some (.seq _ cK)=>some [off=0,List.length cK=len]
   |_=>none) else none
  |_=>none)
 | .ref k' ei I6=>(match c with
  | .ref k off len=>bif uK k k' s.ch&& !(cP k s.tr) then some [ei=off,I6=len] else none
  |_=>none)
 | .row _ _ _=>none
 | .AB _ _ _ _ _ _=>none
 | .al=>(match c with
  | .al=>some []
  |_=>none)
 | .fn f'=>(match c with
  | .fn f=>if f'=f then some [] else none
  |_=>none)
 | .nr f' t' x'=>(match c with
  | .nr f t x=>if f'=f then (if h:t'=t then some [cJ h x'=x] else none) else none
  |_=>none)
 | .gv=>bif c.ok then some [] else none
 | .bad=>none
def Gt (s:sI)(m0 m':Mem):List aA→List aA→Option (List Prop)
 |[],[]=>some []
 |c::r,c'::r'=>(match FJ s m0 m' c c',Gt s m0 m' r r' with
  |some p,some q=>some (p++q)
  |_,_=>none)
 |_,_=>none
def QM (s:sI)(m0 m':Mem)(v v':aD):Option (List Prop):=
 match v' with
 | .one c'=>(match v with
  | .one c=>FJ s m0 m' c c'
  |_=>none)
 | .agg nU=>(match v with
  | .agg cs=>Gt s m0 m' cs nU
  |_=>none)
 | .FE _=>none
 | .DF=>none
 | .gv=>some []
def Ji (s:sI)(m0 m':Mem)(fr:Fr):Fr→Option (List Prop)
 |[]=>some []
 |(t,v')::r=>(match lk t fr with
  |some v=>(match QM s m0 m' v v',Ji s m0 m' fr r with
   |some p,some q=>some (p++q)
   |_,_=>none)
  |none=>none)
def zh (s:sI)(m0 m':Mem)(k:Nat)(c c':Chunk):Option (List Prop):=
 match c' with
 | .box nU=>(match c with
  | .box cs=>Gt s m0 m' cs nU
  |_=>none)
 | .seq t' cK=>(match c with
  | .seq t xs=>if h:t'=t then (bif cP k s.tr then some [cJ (congrArg Ty.sl h) cK=List.take (List.length cK) xs] else some [cJ (congrArg Ty.sl h) cK=xs]) else none
  |_=>none)
 | .o8 _ _ _ _ _=>none
 | .gone=>none
def QN (s:sI)(m m0 m':Mem):Mem→Option (List Prop)
 |[]=>some []
 |(k',c')::r=>(match lk k' (inv s.ch) with
  |some k=>(match lk k m with
   |some c=>(match zh s m0 m' k c c',QN s m m0 m' r with
    |some p,some q=>some (p++q)
    |_,_=>none)
   |none=>none)
  |none=>bif cP k' s.vs then (match c' with
   | .seq _ cK=>(match QN s m m0 m' r with
    |some q=>some ((cK=[])::q)
    |none=>none)
   |_=>none) else none)
def N6 (k:Nat)(m:Mem):Bool:=match lk k m with|some _=>true|none=>false
def sI.okB (s:sI)(m':Mem)(own:List Nat):Bool:=
 (l7 (s.ch.map Prod.fst)&&l7 (s.ch.map Prod.snd))&&((s.ch.all fun p=>N6 p.2 m')&&((s.vs.all fun k=>N6 k m'&& !(cP k (s.ch.map Prod.snd)))&&(own.all fun k=>uK k k s.ch)))
def St.cv (s:sI)(own:List Nat)(st st':St):Option (List Prop):=
 bif s.okB st'.mem own then (match Ji s (s.m0 st.mem) st'.mem st.fr st'.fr,QN s st.mem (s.m0 st.mem) st'.mem st'.mem with
  |some p,some q=>some (p++q)
  |_,_=>none) else none
theorem ED {k:Nat}{m:Mem}(h:N6 k m=true):lk k m≠none:=by
 unfold N6 at h;split at h;rename_i c hc;rw [hc];simp;cases h
theorem EE {k:Nat}{ch:List (Nat×Nat)}:Gs k ch=true↔ ∃k',lk k ch=some k':=by
 unfold Gs;cases lk k ch with
 |some q=>exact ⟨fun _=>⟨q,rfl⟩,fun _=>rfl⟩
 |none=>exact ⟨fun h=>(by cases h),fun h=>(by obtain ⟨k',h⟩:=h;cases h)⟩
theorem sJ {p:Nat→Bool}: ∀{m:Mem} {k:Nat} {c:Chunk},lk k (m.filter fun q=>p q.1)=some c→lk k m=some c∧p k=true
 |[],k,c,h=>by simp [gE] at h
 |(q,d)::m,k,c,h=>by
  cases hp:p q with
  |false=>
   rw [List.filter_cons_of_neg (by simp [hp])] at h;obtain ⟨h1,h2⟩:=sJ h;rw [aL];have jg:k≠q:=by rintro rfl;rw [hp] at h2;cases h2
   rw [if_neg jg];exact ⟨h1,h2⟩
  |true=>
   rw [List.filter_cons_of_pos (by simp [hp])] at h;rw [aL] at h⊢;split at h;rename_i e;subst e;rw [if_pos rfl];exact ⟨h,hp⟩;rename_i e;rw [if_neg e];exact sJ h
theorem Ie {s:sI}{m0 m':Mem}{fr:Fr}: ∀{qE:Fr} {ps:List Prop} {t:Nat} {v':aD},Ji s m0 m' fr qE=some ps→bB ps→lk t qE=some v'→ ∃v p,lk t fr=some v∧QM s m0 m' v v'=some p∧bB p
 |[],ps,t,v',h,_,hl=>by simp [gE] at hl
 |(q,u')::r,ps,t,v',h,hp,hl=>by
  simp only [Ji] at h;split at h;rename_i v hv;split at h;rename_i p q' h1 h2;injection h with h;subst h;obtain ⟨QO,N7⟩:=hp.append;rw [aL] at hl;split at hl;rename_i e;subst e;injection hl with hl;subst hl;exact ⟨v,p,hv,h1,QO⟩
  exact Ie h2 N7 hl;cases h;cases h
theorem zi {s:sI}{m m0 m':Mem}: ∀{l:Mem} {ps:List Prop} {k':Nat} {c':Chunk},QN s m m0 m' l=some ps→bB ps→lk k' l=some c'→
 (∃k c p,lk k' (inv s.ch)=some k∧lk k m=some c∧zh s m0 m' k c c'=some p∧bB p)∨(lk k' (inv s.ch)=none∧ ∃t,c'= .seq t [])
 |[],ps,k',c',h,_,hl=>by simp [gE] at hl
 |(q,d)::r,ps,k',c',h,hp,hl=>by
  simp only [QN] at h;split at h;rename_i k hk;split at h;rename_i c hc;split at h;rename_i p q' h1 h2;injection h with h;subst h;obtain ⟨QO,N7⟩:=hp.append;rw [aL] at hl;split at hl;rename_i e;subst e;injection hl with hl;subst hl;exact .inl ⟨k,c,p,hk,hc,h1,QO⟩
  exact zi h2 N7 hl;cases h;cases h;rename_i hk;cases hb:cP q s.vs with
  |false=>rw [hb] at h;cases h
  |true=>
   rw [hb] at h;simp only [cond_true] at h;split at h;rename_i t cK;split at h;rename_i q' h2;injection h with h;subst h;rw [aL] at hl;split at hl;rename_i e;subst e;injection hl with hl;subst hl;exact .inr ⟨hk,t,by rw [hp.1]⟩
   exact zi h2 hp.2 hl;cases h;cases h
section
variable {cx:Cx} {g:GM} {st st':St} {a:Act} {w:World}
theorem cX.cv {s:sI}{own:List Nat}{ps:List Prop}(h:cX cx g st a w)(he:st.cv s own st'=some ps)(hp:bB ps)(ho:cx.own.map Prod.fst=own)(hF:s.fz=true→cx.SY): ∃g',cX cx g' st' a w:=by
 unfold St.cv at he;cases hb:s.okB st'.mem own with
 |false=>rw [hb] at he;cases he
 |true=>
  rw [hb] at he;simp only [cond_true] at he;unfold sI.okB at hb;simp only [Bool.and_eq_true] at hb;obtain ⟨⟨Bj,qI⟩,cH,kG,CH⟩:=hb;have Bj:=jn Bj;have qI:=jn qI;split at he;rename_i p q oq qY;injection he with he;subst he;obtain ⟨QO,N7⟩:=hp.append;let g':GM:=⟨fun k'=>match lk k' (inv s.ch) with|some k=>g.f k|none=>fun _=>none⟩;have Wo: ∀k k',lk k s.ch=some k'→g'.f k'=g.f k:=fun k k' hk=>by
   show (match lk k' (inv s.ch) with|some k=>g.f k|none=>fun _=>none)=g.f k;rw [(nY Bj qI).1 hk]
  have jl: ∀k k',lk k s.ch=some k'→g' k'=g k:=fun k k' hk=>congrFun (Wo k k' hk) [];have mS: ∀k',lk k' (inv s.ch)=none→g'.f k'=fun _=>none:=fun k' hk=>by
   show (match lk k' (inv s.ch) with|some k=>g.f k|none=>fun _=>none)=_;rw [hk]
  have zj: ∀k k',lk k s.ch=some k'→lk k' st'.mem≠none:=fun k k' hk=>ED (List.all_eq_true.1 cH _ (kJ hk));have mK: ∀k' c',lk k' st'.mem=some c'→(∃k c p,lk k s.ch=some k'∧lk k st.mem=some c∧zh s (s.m0 st.mem) st'.mem k c c'=some p∧bB p∧(∀p,c.owns p)∧g'.f k'=g.f k)∨(g'.f k'=(fun _=>none)∧ ∃t,c'= .seq t []):=fun k' c' hk=>by
   rcases zi qY N7 hk with ⟨k,c,p,h1,h2,h3,h4⟩|⟨h1,h2⟩
   have h5:=(nY Bj qI).2 h1;refine .inl ⟨k,c,p,h5,h2,h3,h4,fun q=> ?_,Wo k k' h5⟩;cases c with
   |box cs=>trivial
   |seq t xs=>trivial
   |gone=>unfold zh at h3;split at h3<;>cases h3
   |o8 t xs i cs ks=>unfold zh at h3;split at h3<;>cases h3
   exact .inr ⟨mS k' h1,h2⟩
  have hlv: ∀b,Live g' st'.mem b→ ∃k k' q c,lk k s.ch=some k'∧lk k st.mem=some c∧c.owns q∧g.f k q=some b:=by
   rintro b ⟨k',q,c',hk,_,pN⟩;rcases mK k' c' hk with ⟨k,c,p,q1,q2,_,_,q5,q6⟩|⟨q1,_⟩
   exact ⟨k,k',q,c,q1,q2,q5 q,by rw [←q6];exact pN⟩;rw [q1] at pN;cases pN
  have di: ∀b,cx.safe g st.mem w b→cx.safe g' st'.mem w b:=fun b ⟨h1,h2,h3⟩=>by
   refine ⟨h1,h2,fun hl=> ?_⟩;obtain ⟨k,k',q,c,q1,q2,q3,q4⟩:=hlv b hl;exact h3 ⟨k,q,c,q2,q3,q4⟩
  have Bk: ∀k q ch b,lk k st.mem=some ch→ch.owns q→g.f k q=some b→s.fz=true→(!(Gs k s.ch))=true→ ¬b<cx.w0.heap.size:=fun k q ch b h1 hn pN hz h2 cp=>by
   rcases h.nO k q ch b h1 hn pN with qU|hf
   omega;obtain ⟨p,XU,q',Wp⟩:=hF hz b hf;have KY:p.1∈own:=by rw [←ho];exact List.mem_map.2 ⟨p,XU,rfl⟩
   have rZ:=qh (List.all_eq_true.1 CH _ KY);obtain ⟨k',gM⟩: ∃c',lk p.1 st'.mem=some c':=Option.ne_none_iff_exists'.1 (zj _ _ rZ);rcases mK p.1 k' gM with ⟨k2,c2,q2,a1,a2,_,_,a5,_⟩|⟨a1,_⟩
   have:k2=p.1:=by
    have b1:=(nY Bj qI).1 a1;have b2:=(nY Bj qI).1 rZ;rw [b1] at b2;injection b2
   subst this;have:=(h.jU k p.1 q q' ch c2 b h1 hn a2 (a5 q') pN (by rw [(h.own p XU).1,Wp])).1;subst this;rw [EE.2 ⟨_,rZ⟩] at h2;cases h2;rw [Wo _ _ rZ,(h.own p XU).1] at a1;rw [a1] at Wp;cases Wp
  have PF: ∀k q ch b,lk k st.mem=some ch→ch.owns q→g.f k q=some b→(!(Gs k s.ch))=true→ ¬Live g' st'.mem b:=fun k q ch b h1 hn pN h2 hl=>by
   obtain ⟨k1,k1',q',c1,q1,q2,q3,q4⟩:=hlv b hl;have:=(h.jU k k1 q q' _ c1 b h1 hn q2 q3 pN q4).1;subst this;rw [EE.2 ⟨_,q1⟩] at h2;cases h2
  have IU: ∀k cs,lk k (s.m0 st.mem)=some (.box cs)→ ∃b arr,g k=some b∧cx.safe g' st'.mem w b∧dc w b arr∧bC (CR g st.mem (cx.safe g st.mem w) w) cs arr.toList:=by
   intro k cs hl;unfold sI.m0 at hl;cases hz:s.fz with
   |false=>rw [hz] at hl;simp [gE] at hl
   |true=>
    rw [hz] at hl;simp only [cond_true] at hl;obtain ⟨h1,h2⟩:=sJ (p:=fun k=> !(Gs k s.ch)) hl;obtain ⟨b,arr,pN,hb,bF⟩:=h.mem k _ h1;exact ⟨b,arr,pN,⟨hb.lt,fun cp=>absurd cp (Bk k [] _ b h1 trivial pN hz h2),PF k [] _ b h1 trivial pN h2⟩,hb,bF⟩
  have PG:iZ g st.mem (s.m0 st.mem) (cx.safe g' st'.mem w) w:=by
   intro k t xs hl;unfold sI.m0 at hl;cases hz:s.fz with
   |false=>rw [hz] at hl;simp [gE] at hl
   |true=>
    rw [hz] at hl;simp only [cond_true] at hl;obtain ⟨h1,h2⟩:=sJ (p:=fun k=> !(Gs k s.ch)) hl;have Xj: ∀p b,g.f k p=some b→cx.safe g' st'.mem w b:=fun p b pN=>
     ⟨h.lt k p _ b h1 trivial pN,fun cp=>absurd cp (Bk k p _ b h1 trivial pN hz h2),PF k p _ b h1 trivial pN h2⟩
    refine ⟨h1,Xj,?_⟩;have hc:=h.mem k _ h1;unfold jf at hc;cases pN:g.f k [] with
    |none=>rw [show g k=none from pN];rw [pN] at hc;exact hc
    |some b=>
     rw [show g k=some b from pN];rw [pN] at hc;obtain ⟨arr,hb,nf⟩:=hc;exact ⟨arr,hb,nf.keep (fun b hb=>⟨di b hb,rfl⟩) fun _ _ _=>rfl⟩
  have AI: ∀k k' t cK,lk k s.ch=some k'→dF st'.mem k' t cK→cP k s.tr=false→dF st.mem k t cK:=fun k k' t cK hk hl Uo=>by
   refine .inl ?_;have hl:lk k' st'.mem=some (.seq t cK):=by
    rcases hl with hl|⟨i,cs,ks,hl⟩
    exact hl;rcases mK k' _ hl with ⟨_,_,_,_,_,q3,_⟩|⟨_,_,q2⟩
    cases q3;cases q2
   rcases mK k' _ hl with ⟨k1,c,p,q1,q2,q3,q4,_⟩|⟨q1,_⟩
   have:k1=k:=by
    have a1:=(nY Bj qI).1 q1;have a2:=(nY Bj qI).1 hk;rw [a1] at a2;injection a2
   subst this;cases c with
   |seq t1 Wj=>
    simp only [zh] at q3;split at q3;rename_i ht;subst ht;rw [Uo] at q3;simp only [cond_false] at q3;injection q3 with q3;subst q3;have:=q4.1;simp only [cJ] at this;rw [q2,this];cases q3
   |box cs=>cases q3
   |o8=>cases q3
   |gone=>cases q3
   have:lk k' (inv s.ch)=some k:=(nY Bj qI).1 hk;rcases zi qY N7 hl with ⟨k1,c,p,h1,h2,h3,h4⟩|⟨h1,_⟩
   have:k1=k:=by rw [this] at h1;injection h1 with h1;exact h1.symm
   subst this;cases c with
   |seq t1 Wj=>
    simp only [zh] at h3;split at h3;rename_i ht;subst ht;rw [Uo] at h3;simp only [cond_false] at h3;injection h3 with h3;subst h3;have:=h4.1;simp only [cJ] at this;rw [h2,this];cases h3
   |box cs=>cases h3
   |o8=>cases h3
   |gone=>cases h3
   rw [this] at h1;cases h1
  have Ta: ∀c c' p v,FJ s (s.m0 st.mem) st'.mem c c'=some p→bB p→CR g st.mem (cx.safe g st.mem w) w c v→CR g' st'.mem (cx.safe g' st'.mem w) w c' v:=by
   intro c c' p v hc hp hr;cases c' with
   |aw t x'=>
    simp only [FJ] at hc;split at hc;rename_i x hx;injection hc with hc;subst hc;rw [hp.1];exact qS di PG hx hr;cases hc
   |ptr k' ei=>
    cases c with
    |ptr k off=>
     simp only [FJ] at hc;cases hb:(uK k k' s.ch&&Nat.beq off ei) with
     |false=>rw [hb] at hc;cases hc
     |true=>
      simp only [Bool.and_eq_true] at hb;have hk:=qh hb.1;obtain ⟨_,b,h1,h2⟩:=hr;exact ⟨zj k k' hk,b,by rw [jl k k' hk];exact h1,by rw [←bG hb.2];exact h2⟩
    |_=>cases hc
   |dI k' i' H8 ei=>
    cases c with
    |dI k i sz off=>
     simp only [FJ] at hc;cases hb:(uK k k' s.ch&&(Nat.beq sz H8&&Nat.beq off ei)) with
     |false=>rw [hb] at hc;cases hc
     |true=>
      rw [hb] at hc;simp only [cond_true] at hc;injection hc with hc;subst hc;simp only [Bool.and_eq_true] at hb;have hk:=qh hb.1;obtain ⟨_,b,h1,h2⟩:=hr;exact ⟨zj k k' hk,b,by rw [jl k k' hk];exact h1,by rw [←bG hb.2.1,←bG hb.2.2,hp.1];exact h2⟩
    |_=>cases hc
   |ip t' x' ei=>
    cases c with
    |ip t x off=>
     simp only [FJ] at hc;cases hb:Nat.beq off ei with
     |false=>rw [hb] at hc;cases hc
     |true=>
      rw [hb] at hc;simp only [cond_true] at hc;split at hc;rename_i ht;subst ht;injection hc with hc;subst hc;have:=bG hb;subst this;have hx:x'=x:=hp.1;subst hx;obtain ⟨ad,es,e,hs,bA,cN⟩:=hr;exact ⟨ad,es,e,di _ hs,bA,bO.keep (fun b hb=>⟨di b hb,rfl⟩) t' es x' cN⟩;cases hc
    |ptr k off=>
     simp only [FJ] at hc;split at hc;rename_i cs hl;cases hb:Nat.beq off ei with
     |false=>rw [hb] at hc;cases hc
     |true=>
      rw [hb] at hc;simp only [cond_true] at hc;split at hc;rename_i x hx;injection hc with hc;subst hc;have:=bG hb;subst this;have hxx:x'=x:=hp.1;subst hxx;obtain ⟨b,arr,pN,hsb,jV,bF⟩:=IU k cs hl;obtain ⟨_,b',xK,e⟩:=hr;rw [pN] at xK;injection xK with xK;subst xK;obtain ⟨v1,v2,e2,r1,r2⟩:=jm di PG t' hx bF;have:v2=[]:=by cases v2 with|nil=>rfl|cons=>exact r2.elim
      subst this;rw [List.append_nil] at e2;refine ⟨⟨b,0,none⟩,arr.toList,by rw [bP,Nat.zero_add];exact e,hsb,fun j u hu=> ?_,by rw [e2];exact r1⟩;rw [bP,Nat.zero_add,jV.cell,←Array.getElem?_toList];exact hu;cases hc
     cases hc
    |_=>cases hc
   |all k'=>
    cases c with
    |all k=>
     simp only [FJ] at hc;cases hb:(uK k k' s.ch&& !(cP k s.tr)) with
     |false=>rw [hb] at hc;cases hc
     |true=>
      simp only [Bool.and_eq_true,Bool.not_eq_true'] at hb;have hk:=qh hb.1;obtain ⟨_,h1,h2⟩:=hr;exact ⟨zj k k' hk,h1,fun t xs hl=>by rw [jl k k' hk];exact h2 t xs (AI k k' t xs hk hl hb.2)⟩
    |al=>
     simp only [FJ] at hc;cases hb:cP k' s.vs with
     |false=>rw [hb] at hc;cases hc
     |true=>
      have hv:=List.all_eq_true.1 kG _ (dA.1 hb);simp only [Bool.and_eq_true,Bool.not_eq_true'] at hv;obtain ⟨b,hr⟩:=hr;refine ⟨ED hv.1,by subst hr;rfl,fun t xs hl=> ?_⟩;have:g' k'=none:=by
       cases hi:lk k' (inv s.ch) with
       |none=>exact congrFun (mS k' hi) []
       |some k=>
        have:=yW ((nY Bj qI).2 hi);rw [dA.2 this] at hv;cases hv.2
      rw [this];exact ⟨b,hr⟩
    |ref k off len=>
     simp only [FJ] at hc;cases hb:(uK k k' s.ch&&cP k s.tr) with
     |false=>rw [hb] at hc;cases hc
     |true=>
      rw [hb] at hc;simp only [cond_true] at hc;simp only [Bool.and_eq_true] at hb;have hk:=qh hb.1;split at hc;rename_i t0 Qr vB;injection hc with hc;subst hc;obtain ⟨WX,hlen,_⟩:=hp;subst WX;subst hlen;obtain ⟨_,h1,h2⟩:=hr;refine ⟨zj k k' hk,h1,fun t xs hl=> ?_⟩;have hl:=dF.toSeq vB hl;rw [vB] at hl;injection hl with hl;injection hl with e1 e2;subst e1;have e2:=eq_of_heq e2;subst e2;rw [jl k k' hk];rcases zi qY N7 vB with ⟨k1,c,p,q1,q2,q3,q4⟩|⟨q1,_⟩
      have:k1=k:=by
       have a2:=(nY Bj qI).1 hk;rw [q1] at a2;injection a2
      subst this;cases c with
      |seq t1 Wj=>
       simp only [zh] at q3;split at q3;rename_i ht;subst ht;obtain ⟨_,hx⟩:=h2 _ Wj (.inl q2);rcases hx with ⟨hz,hn,a,ha⟩|⟨b,cap,arr,hg,e,k1,k2,k3,k4⟩
       rw [hn rfl,hz.symm.symm];exact ⟨a,by rw [ha]⟩;rw [hg];exact ⟨cap,arr,by rw [e,Nat.zero_mul],k1,k2,by rw [Nat.zero_add] at k3;exact k3,k4⟩;cases q3
      |box cs=>cases q3
      |o8=>cases q3
      |gone=>cases q3
      rw [(nY Bj qI).1 hk] at q1;cases q1;cases hc
    |_=>cases hc
   |ref k' ei I6=>
    cases c with
    |ref k off len=>
     simp only [FJ] at hc;cases hb:(uK k k' s.ch&& !(cP k s.tr)) with
     |false=>rw [hb] at hc;cases hc
     |true=>
      rw [hb] at hc;simp only [cond_true] at hc;injection hc with hc;subst hc;obtain ⟨e1,e2,_⟩:=hp;subst e1;subst e2;simp only [Bool.and_eq_true,Bool.not_eq_true'] at hb;have hk:=qh hb.1;obtain ⟨_,h1,h2⟩:=hr;exact ⟨zj k k' hk,h1,fun t xs hl=>by rw [jl k k' hk];exact h2 t xs (AI k k' t xs hk hl hb.2)⟩
    |_=>cases hc
   |row=>cases hc
   |AB=>cases hc
   |al=>
    cases c with
    |al=>exact hr
    |_=>cases hc
   |fn f'=>
    cases c with
    |fn f=>
     simp only [FJ] at hc;split at hc;rename_i hf;subst hf;exact hr;cases hc
    |_=>cases hc
   |nr f' t' x'=>
    cases c with
    |nr f t x=>
     simp only [FJ] at hc;split at hc;rename_i hf;subst hf;split at hc;rename_i ht;subst ht;injection hc with hc;subst hc;have hx:x'=x:=hp.1;subst hx;obtain ⟨ad,es,e,hs,bA,cN⟩:=hr;exact ⟨ad,es,e,di _ hs,bA,bO.keep (fun b hb=>⟨di b hb,rfl⟩) t' es x' cN⟩;cases hc;cases hc
    |_=>cases hc
   |gv=>
    simp only [FJ] at hc;cases hb:c.ok with
    |false=>rw [hb] at hc;cases hc
    |true=>exact yr hb hr
   |bad=>cases hc
  have Gu: ∀cs nU p vs,Gt s (s.m0 st.mem) st'.mem cs nU=some p→bB p→bC (CR g st.mem (cx.safe g st.mem w) w) cs vs→bC (CR g' st'.mem (cx.safe g' st'.mem w) w) nU vs:=by
   intro cs;induction cs with
   |nil=>
    intro nU p vs hc hp hr;cases nU with
    |cons=>cases hc
    |nil=>cases vs with
     |nil=>trivial
     |cons=>exact hr.elim
   |cons c cs ih=>
    intro nU p vs hc hp hr;cases nU with
    |nil=>cases hc
    |cons c' nU=>
     simp only [Gt] at hc;split at hc;rename_i p1 p2 h1 h2;injection hc with hc;subst hc;obtain ⟨QO,N7⟩:=hp.append;cases vs with
     |nil=>exact hr.elim
     |cons v vs=>exact ⟨Ta c c' p1 v h1 QO hr.1,ih nU p2 vs h2 N7 hr.2⟩
     cases hc
  refine ⟨g',h.defers.keep (fun b hb=>⟨di b hb,rfl⟩),h.size,fun t v' hl=> ?_,fun k' c' hk=> ?_,?_,fun k' r' c' b hk hn hg=> ?_,fun k' r' c' b hk hn hg=> ?_,h.keep,fun p hp=> ?_,h.gl⟩;obtain ⟨v,p,h1,h2,h3⟩:=Ie oq QO hl;have hv:=h.fr t v h1;unfold QM at h2;split at h2;split at h2;exact Ta _ _ p _ h2 h3 hv;cases h2;split at h2;obtain ⟨vs,e,kG⟩:=hv;exact ⟨vs,e,Gu _ _ p vs h2 h3 kG⟩;cases h2;cases h2;cases h2;trivial;rcases mK k' c' hk with ⟨k,c,p,q1,q2,q3,q4,q5,q6⟩|⟨q1,t,q2⟩
  have cH:=h.mem k c q2;rw [q6];cases c' with
  |box nU=>
   cases c with
   |box cs=>
    obtain ⟨b,arr,e,hb,bF⟩:=cH;exact ⟨b,arr,e,hb,Gu cs nU _ _ q3 q4 bF⟩
   |seq t xs=>cases q3
   |o8=>cases q3
   |gone=>cases q3
  |o8=>cases q3
  |gone=>cases q3
  |seq t' cK=>
   cases c with
   |box cs=>cases q3
   |o8=>cases q3
   |gone=>cases q3
   |seq t xs=>
    simp only [zh] at q3;split at q3;rename_i ht;subst ht;have tL: ∃n,cK=xs.take n:=by
     cases Uo:cP k s.tr with
     |true=>
      rw [Uo] at q3;simp only [cond_true] at q3;injection q3 with q3;subst q3;exact ⟨_,q4.1⟩
     |false=>
      rw [Uo] at q3;simp only [cond_false] at q3;injection q3 with q3;subst q3;have:cK=xs:=q4.1;exact ⟨xs.length,by rw [this,List.take_length]⟩
    obtain ⟨n,hn⟩:=tL;unfold jf at cH⊢;cases pN:g.f k [] with
    |none=>
     rw [pN] at cH;have:xs=[]:=cH;subst this;show cK=[];rw [hn];simp
    |some b=>
     rw [pN] at cH;obtain ⟨arr,hb,nf⟩:=cH;refine ⟨arr,hb,fun i hi=> ?_⟩;subst hn;have xi:i<xs.length:=by
      have:=List.length_take_le' n xs;omega
     obtain ⟨es,k1,k2⟩:=(nf.keep (fun b hb=>⟨di b hb,rfl⟩) (fun _ _ _=>rfl):fm (cx.safe g' st'.mem w) w (g.f k) t' xs arr) i xi;refine ⟨es,k1,?_⟩;rw [List.getElem_take];exact k2
    cases q3
  subst q2;rw [q1];rfl;intro k1 k2 r1 r2 c1 c2 b DM acD fi QP xK wI;rcases mK k1 c1 DM with ⟨q,d,p,a1,a2,a3,a4,a5,a6⟩|⟨a1,_⟩
  rcases mK k2 c2 fi with ⟨q',d',p',b1,b2,b3,b4,b5,b6⟩|⟨b1,_⟩
  obtain ⟨e1,e2⟩:=h.jU q q' r1 r2 d d' b a2 (a5 r1) b2 (b5 r2) (by rw [←a6];exact xK) (by rw [←b6];exact wI);subst e1;rw [a1] at b1;injection b1 with b1;exact ⟨b1,e2⟩;rw [b1] at wI;cases wI;rw [a1] at xK;cases xK;rcases mK k' c' hk with ⟨q,d,p,a1,a2,a3,a4,a5,a6⟩|⟨a1,_⟩
  exact h.nO q r' d b a2 (a5 r') (by rw [←a6];exact hg);rw [a1] at hg;cases hg;rcases mK k' c' hk with ⟨q,d,p,a1,a2,a3,a4,a5,a6⟩|⟨a1,_⟩
  exact h.lt q r' d b a2 (a5 r') (by rw [←a6];exact hg);rw [a1] at hg;cases hg;have KY:p.1∈own:=by rw [←ho];exact List.mem_map.2 ⟨p,hp,rfl⟩
  have rZ:=qh (List.all_eq_true.1 CH _ KY);exact ⟨by rw [Wo _ _ rZ];exact (h.own p hp).1,zj _ _ rZ⟩;cases he
end
end Go.Ide
namespace Go.Ide
def runN {σ ρ:Type}(f:σ→Option (σ⊕ρ)):Nat→σ→Option ρ
 |0,_=>none
 |n+1,s=>match f s with
  |some (.inl s')=>runN f n s'
  |some (.inr r)=>some r
  |none=>none
theorem vO {σ ρ:Type}{f:σ→Option (σ⊕ρ)}: ∀{n m:Nat} {s:σ} {r:ρ},n≤m→runN f n s=some r→runN f m s=some r
 |0,_,_,_,_,h=>by cases h
 |n+1,0,_,_,hle,_=>by omega
 |n+1,m+1,s,r,hle,h=>by
  simp only [runN] at h⊢;cases hf:f s with
  |none=>simp [hf] at h
  |some x=>
   cases x with
   |inr r'=>rw [hf] at h;exact h
   |inl s'=>rw [hf] at h;exact vO (Nat.le_of_succ_le_succ hle) h
noncomputable def rounds {σ ρ:Type}(f:σ→Option (σ⊕ρ))(s:σ):Option ρ:=
 @dite (Option ρ) (∃r,∃n,runN f n s=some r) (Classical.propDecidable _) (fun h=>some (Classical.choose h)) (fun _=>none)
theorem dM {σ ρ:Type}{f:σ→Option (σ⊕ρ)}{s:σ}{r:ρ}:rounds f s=some r↔ ∃n,runN f n s=some r:=by
 unfold rounds;constructor;intro h;split at h;rename_i hx;injection h with h;subst h;exact Classical.choose_spec hx;cases h;rintro ⟨n,hn⟩;have hx: ∃r,∃n,runN f n s=some r:=⟨r,n,hn⟩;rw [dif_pos hx];obtain ⟨m,hm⟩:=Classical.choose_spec hx;have h1:=vO (Nat.le_max_left n m) hn;have h2:=vO (Nat.le_max_right n m) hm;rw [h1] at h2;injection h2 with h2;rw [h2]
theorem bn {σ ρ:Type}(f:σ→Option (σ⊕ρ))(s:σ):rounds f s=match f s with
 |some (.inl s')=>rounds f s'
 |some (.inr r)=>some r
 |none=>none:=by
 have key: ∀r,rounds f s=some r↔(match f s with
  |some (.inl s')=>rounds f s'
  |some (.inr r)=>some r
  |none=>none)=some r:=by
  intro r;rw [dM];constructor;rintro ⟨n,hn⟩;cases n with
  |zero=>cases hn
  |succ n=>
   simp only [runN] at hn;cases hf:f s with
   |none=>rw [hf] at hn;cases hn
   |some x=>
    rw [hf] at hn;cases x with
    |inl s'=>exact dM.2 ⟨n,hn⟩
    |inr r'=>exact hn
  intro h;split at h;rename_i s' hf;obtain ⟨n,hn⟩:=dM.1 h;exact ⟨n+1,by simp only [runN];rw [hf];exact hn⟩;rename_i r' hf;exact ⟨1,by simp only [runN];rw [hf];exact h⟩;cases h
 cases h1:rounds f s with
 |some r=>exact ((key r).1 h1).symm
 |none=>
  cases h2:(match f s with
  |some (.inl s')=>rounds f s'
  |some (.inr r)=>some r
  |none=>none) with
  |none=>rfl
  |some r=>
   have:=(key r).2 h2;rw [h1] at this;cases this
theorem ae {α β:Type}{o:Option α}{k:α→Option β}{r:β}(h:o.bind k=some r): ∃y,o=some y∧k y=some r:=by
 cases o with
 |none=>cases h
 |some y=>exact ⟨y,rfl,h⟩
def ao {β:Type}(p:Prop)[Decidable p](k:Option β):Option β:=if p then k else none
theorem aj {β:Type}{p:Prop}[Decidable p]{k:Option β}{r:β}(h:ao p k=some r):p∧k=some r:=by
 unfold ao at h;split at h;rename_i hp;exact ⟨hp,h⟩;cases h
theorem guard_pos {β:Type}{p:Prop}[Decidable p]{k:Option β}(h:p):ao p k=k:=if_pos h
theorem ak {β:Type}{b:Bool}{x y:Option β}{r:β}(h:(bif b then x else y)=some r):(b=true∧x=some r)∨(b=false∧y=some r):=by
 cases b with
 |true=>exact .inl ⟨rfl,h⟩
 |false=>exact .inr ⟨rfl,h⟩
abbrev ai (k:IntKind)(a b:Int):Int:=k.wrap (a+b)
abbrev b8 (k:IntKind)(a b:Int):Int:=k.wrap (a - b)
abbrev az (k:IntKind)(a b:Int):Int:=k.wrap (a*b)
abbrev af {α:Type}(xs:List α):Int:=((List.length xs:Nat):Int)
section
variable {cx:Cx} {st:St} {P:Program} {N:Nat} {Q:Exit→St→Prop} {x y c:Code}
theorem HT.Wq {id:Nat}{ops:List Oper}{rs:List OH}{st':St}{cs:List Prop}(hP:cx.P=P)(hN:cx.N=N)(he:oy P N ops ops rs st=some (st',cs))(hc:bB cs)(hq:Q .normal st'):HT cx st (.region id ops.toArray false) Q:=by
 subst hP;subst hN;exact HT.region he hc hq
theorem HT.drw {id h:Nat}{ops:List Oper}{sH:List HR}{Aw:List (List Nat)}{rs:List OH}{dY:List ER}{st':St}{cs nU:List Prop}{nx:Nat}(hP:cx.P=P)(hN:cx.N=N)(hm:P.follows .mixedOrders=true)(hn:(sH.length==h&&Nat.ble h ops.length)=true)(jT:qg ops (sH.map HR.D++Aw) h 0 ops=true)(hh:Bz P N ops st (ops.take h) sH [] st.nx=some (dY,cs,nx))(he:oy P N ops (ops.drop h) rs (oP st dY (fun _=>true) nx)=some (st',nU))(hc:bB cs)(Nk:bB nU)(hq:Q .normal st'):HT cx st (.region id ops.toArray true) Q:=by
 subst hP;subst hN;exact HT.draw hm hn jT hh he hc Nk hq
def Le (cx:Cx)(st st':St):Prop:= ∀g a w,cX cx g st a w→ ∃g',cX cx g' st' a w
theorem Le.cv {s:sI}{own:List Nat}{ps:List Prop}{st':St}(ho:cx.own.map Prod.fst=own)(hF:s.fz=true→cx.SY)(he:st.cv s own st'=some ps)(hp:bB ps):Le cx st st':=
 fun _ _ _ hs=>hs.cv he hp ho hF
theorem Le.ht {st':St}(h:Le cx st st')(hc:HT cx st' c Q):HT cx st c Q:=fun g a w hs=>let ⟨g',hs'⟩:=h g a w hs;hc g' a w hs'
theorem HT.leQ (h:HT cx st c (fun e s=> ∃s',Le cx s s'∧Q e s')):HT cx st c Q:=fun g a w hs=>by
 refine wp_mono (h g a w hs) fun e a' w' ⟨s,g',⟨s',hle,hq⟩,hs'⟩=> ?_;obtain ⟨g2,h2⟩:=hle g' a' w' hs';exact ⟨s',g2,hq,h2⟩
theorem Le.refl:Le cx st st:=fun g _ _ hs=>⟨g,hs⟩
theorem HT.Up {σ ρ:Type}{f:σ→Option (σ⊕ρ)}{s:σ}{r:ρ}(S:σ→St)(E:ρ→Exit×St)(h:rounds f s=some r)(hc:Q (E r).1 (E r).2)(round: ∀s x,f s=some x→(∀r',x= .inr r'→Q (E r').1 (E r').2)→HT cx (S s) c (Bx (fun st'=> ∃s',x= .inl s'∧Le cx st' (S s')) Q)):HT cx (S s) (.loop c) Q:=by
 obtain ⟨n,hn⟩:=dM.1 h;let I:Nat→St→Prop:=fun n st'=> ∃s,Le cx st' (S s)∧runN f n s=some r;have:=HT.loop (cx:=cx) (c:=c) (Q:=Q) (α:=St) (I:=I) (S:=id) (n:=n) (s:=S s) ⟨s,Le.refl,hn⟩ (fun st' ⟨s,_,h0⟩=>by cases h0) (fun n st' ⟨s,hle,hr⟩=>by
  simp only [runN] at hr;have hx: ∃x,f s=some x∧(∀r',x= .inr r'→r'=r)∧ ∀s',x= .inl s'→runN f n s'=some r:=by
   split at hr;rename_i s' hf;exact ⟨.inl s',hf,fun r' e=>(by cases e),fun s'' e=>(by injection e with e;subst e;exact hr)⟩;rename_i r' hf;injection hr with hr;exact ⟨.inr r',hf,fun HZ e=>(by injection e with e;rw [←e];exact hr),fun s'' e=>(by cases e)⟩
   cases hr
  obtain ⟨x,hf,h1,h2⟩:=hx;refine hle.ht ((round s x hf fun r' e=>by rw [h1 r' e];exact hc).mono fun e st1 hq=> ?_);cases e with
  |normal=>
   obtain ⟨s',e1,XV⟩:=hq;exact ⟨st1,rfl,s',XV,h2 s' e1⟩
  |_=>exact hq)
 exact this
theorem KZ (g:GM)(m:Mem)(S:Nat→Prop)(w:World){v:aD}{val:Value}{t:Ty}{xs:List t.D}(hv:lZ m (.sl t) v=some xs)(hm:iZ g m m (fun _=>True) w)(h:VR g m S w v val): ∃a n cap,val= .slice a n cap∧(a=none→xs=[]):=by
 obtain ⟨cs,h1,h2⟩:=pb (S2:=fun _=>True) (fun _ _=>trivial) hm hv h;obtain ⟨a,cap,e,_,nf⟩:=h2;have:val= .slice a (List.length xs) cap:=by
  unfold dT at h1;rw [e] at h1;simpa [Ty.ye] using h1.symm
 refine ⟨a,_,cap,this,fun ha=> ?_⟩;cases xs with
 |nil=>rfl
 |cons x xs=>
  obtain ⟨ad,es,e1,_⟩:=nf 0 (by simp);rw [ha] at e1;cases e1
end
end Go.Ide
namespace Go.Ide
theorem AZ {P:Program}{w:World}{T e:TypeId}{a:Option Addr}{n cap:Nat}(hT:P.underlying T=some (.slice e)):
 (Op.equal T (.slice a n cap) (.slice none 0 0)).run P w= .ok a.isNone w:=by
 have h: ∀d:Nat,(Op.equalIn (d+1) T (.slice a n cap) (.slice none 0 0)).run P w= .ok a.isNone w:=fun d=>by
  rw [Op.equalIn];cases a<;>simp [run_underlying hT]
 exact h 9999
theorem CI {P:Program}{w:World}{T:TypeId}{x y:Operand}{a:Option Addr}{n cap:Nat}:(Go.eqGuard .eql T x y (.slice a n cap) (.slice none 0 0)).run P w= .ok () w:=rfl
theorem Gv {P:Program}{w:World}{T e:TypeId}{a:Option Addr}{n cap:Nat}(hT:P.underlying T=some (.slice e)):(Go.binOp .eql T (.slice a n cap) (.slice none 0 0)).run P w= .ok (.bool a.isNone) w:=by
 have h2:Go.binOp .eql T (.slice a n cap) (.slice none 0 0)=(do pure (.bool (←Op.equal T (.slice a n cap) (.slice none 0 0)))):=rfl;rw [h2];simp only [Sem.run_bind,Result.andThen_ok,AZ hT,Sem.run_pure]
section
variable {cx:Cx} {st:St} {P:Program} {N:Nat} {Q:Exit→St→Prop} {y:Code}
theorem HT.isNil {id:Nat}{o1 o2:Oper}{T T' e:TypeId}{t3 t4:Tmp}{v:aD}{t:Ty}{xs:List t.D}{st1:St}(hP:cx.P=P)(hN:cx.N=N)(h1:wR P N [o1,o2] o1 ⟨none,.no⟩ st=some (st1,[]))(hg:o2.guard=none)(Uq:o2.op= .binOp .eql T (.tmp t3) (.const (.slice none 0 0)) T')(hd:o2.dst=some t4)(cp:Nat.blt t4 N=true)(hT:P.underlying T=some (.slice e))(hv:lk t3 st1.fr=some v)(hx:lZ st1.mem (.sl t) v=some xs)(k: ∀b,(b=true→xs=[])→HT cx (st1.put (some t4) (.one (.aw .bool b))) y Q):HT cx st (.seq (.region id [o1,o2].toArray false) y) Q:=by
 subst hP;subst hN;refine HT.seq fun g a w hs=>wp_region_lit ?_;refine wpList_step fun K hK=>oG hs h1 trivial fun g' a' w' hs'=>hK a' w' ?_;refine wpList_step fun K' Ur=> ?_;have hw:Region.wanted o2 (yielded [o1,o2].toArray a'.tmps)=true:=by simp only [Region.wanted,hg]
 rw [if_pos hw];have hr:iZ g' st1.mem st1.mem (fun _=>True) w':=fun k t xs hl=>by
  refine ⟨hl,fun _ _ _=>trivial,?_⟩;have hc:=hs'.mem k _ hl;unfold jf at hc;cases pN:g'.f k [] with
  |none=>rw [show g' k=none from pN];rw [pN] at hc;exact hc
  |some b=>
   rw [show g' k=some b from pN];rw [pN] at hc;obtain ⟨arr,hb,nf⟩:=hc;exact ⟨arr,hb,nf.keep (fun b _=>⟨trivial,rfl⟩) fun _ _ _=>rfl⟩
 obtain ⟨ad,n,cap,e1,e2⟩:=KZ _ _ _ _ hx hr (hs'.fr t3 v hv);unfold Oper.wp;have he:(execOp a'.eval o2).run cx.P w'= .ok (.value (.bool ad.isNone)) w':=by
  have e3:a'.eval (.tmp t3)= .slice ad n cap:=e1;have e4:a'.eval (.const (.slice none 0 0))= .slice none 0 0:=rfl;simp only [execOp,Uq,e3,e4,Sem.run_bind,CI,Result.andThen_ok,Gv hT,Sem.run_pure]
 rw [he];refine Ur _ _ ?_;have KF:=hs'.put (v:= .one (.aw .bool ad.isNone)) (val:= .bool ad.isNone) (show CR g' st1.mem (cx.safe g' st1.mem w') w' (.aw .bool ad.isNone) (.bool ad.isNone) from rfl) (some t4) (fun t e=>by injection e with e;subst e;exact Nat.lt_of_succ_le (by simpa [Nat.blt] using cp));rw [hd];exact ⟨_,g',k ad.isNone (fun hb=>e2 (by simpa using hb)),KF⟩
end
end Go.Ide
namespace Go.Ide
def St.keep (ks:List Nat)(st:St):St:=⟨(ks.filterMap fun t=>match lk t st.fr with
 |some v=>some (t,v)
 |none=>none),st.mem,st.nx⟩
theorem CJ {fr:Fr}{t:Nat}{v:aD}: ∀{ks:List Nat},lk t (ks.filterMap fun t=>match lk t fr with|some v=>some (t,v)|none=>none)=some v→lk t fr=some v
 |[],h=>by simp [gE] at h
 |k::ks,h=>by
  rw [List.filterMap_cons] at h;split at h;exact CJ h;rename_i b hb;split at hb;rename_i v' xO;injection hb with hb;subst hb;rw [aL] at h;split at h;rename_i e;subst e;rw [xO];exact h;exact CJ h;cases hb
theorem cX.PH {cx:Cx}{g:GM}{st:St}{a:Act}{w:World}(ks:List Nat)(h:cX cx g st a w):cX cx g (st.keep ks) a w:=
 h.congr (fun _ _ hv=>CJ hv) fun _=>rfl
def K0 (ks:List Nat):Option (St×List Prop)→Option (St×List Prop)
 |some (st,cs)=>some (st.keep ks,cs)
 |none=>none
theorem Gw {ks:List Nat}{o:Option (St×List Prop)}{st':St}{cs:List Prop}(h:K0 ks o=some (st',cs)): ∃st1,o=some (st1,cs)∧st'=st1.keep ks:=by
 unfold K0 at h;split at h;rename_i st1 J3;injection h with h;injection h with h1 h2;subst h2;exact ⟨st1,rfl,h1.symm⟩;cases h
def zk (P:Program)(N:Nat)(ops:List Oper)(h:Nat)(sH:List HR)(Aw:List (List Nat))(rs:List OH)(st:St):Option (St×List Prop):=
 bif (Nat.beq sH.length h&&Nat.ble h ops.length)&&qg ops (sH.map HR.D++Aw) h 0 ops then (match Bz P N ops st (ops.take h) sH [] st.nx with
  |some (dY,cs,nx)=>(match oy P N ops (ops.drop h) rs (oP st dY (fun _=>true) nx) with
   |some (st',nU)=>some (st',cs++nU)
   |none=>none)
  |none=>none) else none
def Jj {α β:Type}:Option β→Option (α⊕β)
 |some b=>some (.inr b)
 |none=>none
theorem CK {α β:Type}{e:Option β}{w:α⊕β}(h:Jj e=some w): ∃z,e=some z∧w= .inr z:=by
 cases e with
 |none=>cases h
 |some z=>injection h with h;exact ⟨z,rfl,h.symm⟩
theorem aa {α:Type}{a b:α}(h:some a=some b):a=b:=by injection h
theorem cl {α:Type}{a b:α}(h:some a=some b):b=a:=by injection h with h;exact h.symm
theorem QR:bB []:=trivial
theorem CL {p:Prop}{r:List Prop}(h:p)(hr:bB r):bB (p::r):=⟨h,hr⟩
noncomputable instance {t:Ty}{xs ys:List t.D}:Decidable (cy t xs ys):=Classical.propDecidable _
theorem bL {α:Type}{xs:List α}{n:Int}(h:(0:Int)≤n∧n<af xs):Int.toNat n<List.length xs:=by
 obtain ⟨h1,h2⟩:=h;simp only [af] at h2;omega
theorem QS {α:Type}{xs:List α}{n:Int}(h:(0:Int)≤n∧n≤af xs):List.length (List.take (Int.toNat n) xs)=Int.toNat n:=by
 obtain ⟨h1,h2⟩:=h;simp only [af] at h2;rw [List.length_take];omega
theorem QT {α:Type}(n:Nat)(xs:List α):List.take n xs=List.take (List.length (List.take n xs)) xs:=by
 rw [List.length_take];rcases Nat.le_total n xs.length with h|h
 rw [Nat.min_eq_left h];rw [Nat.min_eq_right h,List.take_length,List.take_of_length_le h]
abbrev tI:Ty:= .int .i64
abbrev tF:Ty:= .aW .f32
abbrev eo:Ty:= .sl (.int .i64)
abbrev cb:Ty:= .sl (.aW .f32)
abbrev iV (x:Int):aD:= .one (.aw (.int .i64) x)
abbrev iC (x:Int):aA:= .aw (.int .i64) x
abbrev bV (x:Bool):aD:= .one (.aw .bool x)
abbrev fV (x:Nat):aD:= .one (.aw (.aW .f32) x)
abbrev lV (x:List Nat):aD:= .one (.aw (.sl (.aW .f32)) x)
abbrev lC (x:List Nat):aA:= .aw (.sl (.aW .f32)) x
abbrev nV (x:List Int):aD:= .one (.aw (.sl (.int .i64)) x)
abbrev nC (x:List Int):aA:= .aw (.sl (.int .i64)) x
abbrev oH:OH:=⟨none,.no⟩
abbrev aI (n:Nat):List OH:=List.replicate n ⟨none,.no⟩
abbrev aV (c:Nat):aD:= .one (.all c)
abbrev pV (c o:Nat):aD:= .one (.ptr c o)
def dv {α:Type}(xs:List α):Option (List α):=ao (0+List.length xs≤bg) (some xs)
section
variable {cx:Cx} {st st':St} {P:Program} {N:Nat} {Q:Exit→St→Prop} {x y c:Code}
theorem HT.keep (ks:List Nat)(h:HT cx (st.keep ks) c Q):HT cx st c Q:=fun g a w hs=>h g a w (hs.PH ks)
theorem K1 {id h:Nat}{ops:List Oper}{sH:List HR}{Aw:List (List Nat)}{rs:List OH}{cs:List Prop}(hP:cx.P=P)(hN:cx.N=N)(hm:P.follows .mixedOrders=true)(he:zk P N ops h sH Aw rs st=some (st',cs))(hc:bB cs)(hq:Q .normal st'):HT cx st (.region id ops.toArray true) Q:=by
 unfold zk at he;cases hb:((Nat.beq sH.length h&&Nat.ble h ops.length)&&qg ops (sH.map HR.D++Aw) h 0 ops) with
 |false=>rw [hb] at he;cases he
 |true=>
  rw [hb] at he;simp only [cond_true] at he;simp only [Bool.and_eq_true] at hb;split at he;rename_i dY J3 nx h1;split at he;rename_i st1 Um h2;injection he with he;injection he with e1 e2;subst e1;subst e2;obtain ⟨Av,lQ⟩:=hc.append;exact HT.drw hP hN hm (by simp only [Bool.and_eq_true,beq_iff_eq];exact ⟨bG hb.1.1,hb.1.2⟩) hb.2 h1 h2 Av lQ hq;cases he;cases he
theorem HT.Jk {id:Nat}{ops:List Oper}(ks:List Nat)(rs:List OH)(st':St){cs:List Prop}(hP:cx.P=P)(hN:cx.N=N)(he:K0 ks (oy P N ops ops rs st)=some (st',cs))(hc:bB cs)(hq:HT cx st' y Q):HT cx st (.seq (.region id ops.toArray false) y) Q:=by
 obtain ⟨st1,h1,h2⟩:=Gw he;subst h2;exact HT.seq (HT.Wq hP hN h1 hc (HT.keep ks hq))
def n8:aA→List Nat
 | .ptr c _=>[c]
 | .dI c _ _ _=>[c]
 | .all c=>[c]
 | .ref c _ _=>[c]
 | .row c _ _=>[c]
 | .AB c _ _ _ _ _=>[c]
 |_=>[]
def PI:aD→List Nat
 | .one c=>n8 c
 | .agg cs=>cs.flatMap n8
 | .FE ts=>ts.flatMap fun t=>t.2.flatMap n8
 |_=>[]
def PJ:Chunk→List Nat
 | .box cs=>cs.flatMap n8
 | .o8 _ _ _ cs ks=>cs.flatMap n8++ks
 |_=>[]
def CM (m:Mem):List Nat→Mem
 |[]=>[]
 |k::ks=>(match lk k m with
  |some c=>(k,c)::CM m ks
  |none=>CM m ks)
def Us (own ks ms:List Nat)(st:St):Bool:=
 ((l7 ms&&(st.keep ks).fr.all fun p=>(PI p.2).all fun k=>Px k ms)&&ms.all fun k=>match lk k st.mem with
  |some c=>(PJ c).all fun q=>Px q ms
  |none=>false)&&own.all fun k=>Px k ms
def PK (own ks ms:List Nat):Option (St×List Prop)→Option (St×List Prop)
 |some (st,cs)=>bif Us own ks ms st then some (⟨(st.keep ks).fr,CM st.mem ms,st.nx⟩,cs) else none
 |none=>none
theorem zl {own ks ms:List Nat}{st st':St}{cs nU:List Prop}(h:PK own ks ms (some (st,cs))=some (st',nU)):Us own ks ms st=true∧st'=⟨(st.keep ks).fr,CM st.mem ms,st.nx⟩∧nU=cs:=by
 simp only [PK] at h;cases hb:Us own ks ms st with
 |false=>rw [hb] at h;cases h
 |true=>
  rw [hb] at h;simp only [cond_true] at h;injection h with h;injection h with h1 h2;exact ⟨rfl,h1.symm,h2.symm⟩
theorem Gx {m:Mem}{k:Nat}: ∀{ms:List Nat},ms.Nodup→lk k (CM m ms)=if k∈ms then lk k m else none
 |[],_=>by simp [CM,gE]
 |q::ms,hn=>by
  simp only [List.nodup_cons] at hn;have ih:=Gx (m:=m) (k:=k) hn.2;simp only [CM];cases hq:lk q m with
  |none=>
   simp only;rw [ih];by_cases e:k=q;subst e;rw [if_neg hn.1,if_pos (by simp),hq];simp [e]
  |some c=>
   simp only;rw [aL,ih];by_cases e:k=q;subst e;rw [if_pos rfl,if_pos (by simp),hq];rw [if_neg e];simp [e]
theorem CR.sub {g:GM}{m m':Mem}{S S':Nat→Prop}{w:World}(hS: ∀b,S b→S' b){c:aA}(hk: ∀k,k∈n8 c→lk k m'=lk k m){v:Value}(hr:CR g m S w c v):CR g m' S' w c v:=by
 have sq: ∀k,lk k m'=lk k m→ ∀t xs,dF m' k t xs→dF m k t xs:=fun k e t xs h=>by unfold dF at h⊢;rw [e] at h;exact h
 cases c with
 |ptr k off=>have e:=hk k (by simp [n8]);exact ⟨by rw [e];exact hr.1,hr.2⟩
 |dI k i sz off=>have e:=hk k (by simp [n8]);exact ⟨by rw [e];exact hr.1,hr.2⟩
 |all k=>have e:=hk k (by simp [n8]);exact ⟨by rw [e];exact hr.1,hr.2.1,fun t xs h=>hr.2.2 t xs (sq k e t xs h)⟩
 |ref k off len=>have e:=hk k (by simp [n8]);exact ⟨by rw [e];exact hr.1,hr.2.1,fun t xs h=>hr.2.2 t xs (sq k e t xs h)⟩
 |row k i o=>have e:=hk k (by simp [n8]);exact ⟨by rw [e];exact hr.1,hr.2.1,fun t xs h=>hr.2.2 t xs (by rw [←e];exact h)⟩
 |AB k i o j sz off=>
  have e:=hk k (by simp [n8]);obtain ⟨h1,b,h2,h3⟩:=hr;exact ⟨by rw [e];exact h1,b,h2,fun t xs h=>h3 t xs (by rw [←e];exact h)⟩
 |aw t x=>exact bO.keep (fun b hb=>⟨hS b hb,rfl⟩) t [v] x hr
 |ip t x off=>
  obtain ⟨ad,es,e,hs,bA,cN⟩:=hr;exact ⟨ad,es,e,hS _ hs,bA,bO.keep (fun b hb=>⟨hS b hb,rfl⟩) t es x cN⟩
 |al=>exact hr
 |fn f=>exact hr
 |nr f t x=>
  obtain ⟨ad,es,e,hs,bA,cN⟩:=hr;exact ⟨ad,es,e,hS _ hs,bA,bO.keep (fun b hb=>⟨hS b hb,rfl⟩) t es x cN⟩
 |gv=>exact hr
 |bad=>trivial
theorem cX.gc {cx:Cx}{g:GM}{vJ:St}{a:Act}{w:World}{own ks ms:List Nat}(h:cX cx g vJ a w)(ho:cx.own.map Prod.fst=own)(hb:Us own ks ms vJ=true):cX cx g ⟨(vJ.keep ks).fr,CM vJ.mem ms,vJ.nx⟩ a w:=by
 have h:=h.PH ks;unfold Us at hb;simp only [Bool.and_eq_true] at hb;obtain ⟨⟨⟨hn,oq⟩,hms⟩,CH⟩:=hb;have hn:=jn hn;have FG: ∀k,k∈ms→lk k (CM vJ.mem ms)=lk k vJ.mem:=fun k hk=>by rw [Gx hn,if_pos hk]
 have Tb: ∀k ch,lk k (CM vJ.mem ms)=some ch→k∈ms∧lk k vJ.mem=some ch:=fun k ch hk=>by
  rw [Gx hn] at hk;split at hk;rename_i hm;exact ⟨hm,hk⟩;cases hk
 have di: ∀b,cx.safe g vJ.mem w b→cx.safe g (CM vJ.mem ms) w b:=fun b ⟨h1,h2,h3⟩=>⟨h1,h2,fun ⟨k,p,ch,q1,q2,q3⟩=>h3 ⟨k,p,ch,(Tb k ch q1).2,q2,q3⟩⟩;have Ta: ∀c v,(∀k,k∈n8 c→k∈ms)→CR g vJ.mem (cx.safe g vJ.mem w) w c v→CR g (CM vJ.mem ms) (cx.safe g (CM vJ.mem ms) w) w c v:=fun c v hk hr=>CR.sub di (fun k vy=>FG k (hk k vy)) hr;have Gu: ∀cs vs,(∀k,k∈cs.flatMap n8→k∈ms)→bC (CR g vJ.mem (cx.safe g vJ.mem w) w) cs vs→bC (CR g (CM vJ.mem ms) (cx.safe g (CM vJ.mem ms) w) w) cs vs:=fun cs vs hk hr=>
  hr.imp_mem fun c hc v hv=>Ta c v (fun k vy=>hk k (List.mem_flatMap.2 ⟨c,hc,vy⟩)) hv
 refine ⟨h.defers.keep (fun b hb=>⟨di b hb,rfl⟩),h.size,fun t v hl=> ?_,fun k ch hk=> ?_,fun k k' p p' ch ji b h1 h2 h3 h4=>h.jU k k' p p' ch ji b (Tb k ch h1).2 h2 (Tb k' ji h3).2 h4,fun k p ch b h1=>h.nO k p ch b (Tb k ch h1).2,fun k p ch b h1=>h.lt k p ch b (Tb k ch h1).2,h.keep,fun p hp=> ?_,h.gl⟩;have hv:=h.fr t v hl;have hk: ∀k,k∈PI v→k∈ms:=fun k hk=>uD.1 (List.all_eq_true.1 (List.all_eq_true.1 oq _ (kJ hl)) k hk);cases v with
 |one c=>exact Ta c _ hk hv
 |agg cs=>obtain ⟨vs,e,kG⟩:=hv;exact ⟨vs,e,Gu cs vs hk kG⟩
 |FE ts=>
  obtain ⟨vs,e,kG⟩:=hv;refine ⟨vs,e,kG.imp_mem fun t ht u hc=> ?_⟩;have fi: ∀k,k∈t.2.flatMap n8→k∈ms:=fun k vy=>hk k (List.mem_flatMap.2 ⟨t,ht,vy⟩);unfold CV at hc⊢;split at hc;obtain ⟨us,e',hu⟩:=hc;exact ⟨us,e',Gu _ us fi hu⟩;rename_i c e1 e2;rw [e2] at fi;exact Ta _ _ (fun k vy=>fi k (by simpa using vy)) hc;exact hc.elim
 |DF=>exact hv
 |gv=>trivial
 obtain ⟨hkm,ou⟩:=Tb k ch hk;have hr:=h.mem k ch ou;have Tc:=List.all_eq_true.1 hms k hkm;rw [ou] at Tc;have Tc: ∀q,q∈PJ ch→q∈ms:=fun q hq=>uD.1 (List.all_eq_true.1 Tc q hq);cases ch with
 |gone=>trivial
 |box cs=>obtain ⟨b,arr,e,hb,bF⟩:=hr;exact ⟨b,arr,e,hb,Gu cs _ Tc bF⟩
 |seq t xs=>
  show jf g (CM vJ.mem ms) (cx.safe g (CM vJ.mem ms) w) w (g.f k) _;unfold jf at hr⊢;cases hγ:g.f k [] with
  |none=>rw [hγ] at hr;exact hr
  |some b=>
   rw [hγ] at hr;obtain ⟨arr,q1,q2⟩:=hr;exact ⟨arr,q1,q2.keep (fun b hb=>⟨di b hb,rfl⟩) fun _ _ _=>rfl⟩
 |o8 t xs i cs ks=>
  obtain ⟨HK,b,arr,q1,q2,q3,q4,es,q5,q6,q7⟩:=hr;refine ⟨?_,b,arr,q1,q2,q3,fun j hj jg=> ?_,es,q5,q6,Gu cs es (fun q hq=>Tc q (List.mem_append.2 (.inl hq))) q7⟩;refine bC.Cp HK.length fun j o k1 hj DM=> ?_;obtain ⟨k1',tb,r1,r2⟩:=bC.get j HK o hj;rw [DM] at tb;injection tb with tb;subst tb;exact ⟨by show lk k1 (CM vJ.mem ms)≠none;rw [FG k1 (Tc k1 (List.mem_append.2 (.inr (List.mem_of_getElem? DM))))];exact r1,r2⟩;obtain ⟨Ut,r1,r2⟩:=q4 j hj jg;exact ⟨Ut,r1,cW.keep (fun b hb=>⟨di b hb,rfl⟩) t (fun _ _ _=>rfl) r2⟩
 refine ⟨(h.own p hp).1,?_⟩;show lk p.1 (CM vJ.mem ms)≠none;rw [FG p.1 (uD.1 (List.all_eq_true.1 CH p.1 (by rw [←ho];exact List.mem_map.2 ⟨p,hp,rfl⟩)))];exact (h.own p hp).2
structure oQ (cx:Cx)(P:Program)(N:Nat)(own:List Nat):Prop where
 P:cx.P=P
 N:cx.N=N
 own:cx.own.map Prod.fst=own
theorem HT.rg2 {id:Nat}{ops:List Oper}{own:List Nat}(rs:List OH)(st':St){cs:List Prop}(hX:oQ cx P N own)(he:PK own (st'.fr.map Prod.fst) (st'.mem.map Prod.fst) (oy P N ops ops rs st)=some (st',cs))(hc:bB cs)(hq:HT cx st' y Q):HT cx st (.seq (.region id ops.toArray false) y) Q:=by
 cases hi:oy P N ops ops rs st with
 |none=>rw [hi] at he;cases he
 |some p=>
  obtain ⟨st1,J3⟩:=p;rw [hi] at he;obtain ⟨h1,h2,h3⟩:=zl he;subst h3;refine HT.seq (HT.Wq hX.P hX.N hi hc (show HT cx st1 y Q from fun g a w hs=>hq g a w ?_));rw [h2];exact hs.gc hX.own h1
theorem Le.gc {own ks ms:List Nat}{o:Option (St×List Prop)}{st1:St}{cs J3:List Prop}(hX:oQ cx P N own)(ho:o=some (st1,J3))(he:PK own ks ms o=some (st',cs)):cs=J3∧Le cx st1 st':=by
 subst ho;obtain ⟨h1,h2,h3⟩:=zl he;refine ⟨h3,fun g a w hs=>⟨g,?_⟩⟩;rw [h2];exact hs.gc hX.own h1
theorem HT.DP {id:Nat}{ops:List Oper}{own:List Nat}(rs:List OH)(st':St){cs:List Prop}(hX:oQ cx P N own)(he:PK own (st'.fr.map Prod.fst) (st'.mem.map Prod.fst) (oy P N ops ops rs st)=some (st',cs))(hc:bB cs)(hq:Q .normal st'):HT cx st (.region id ops.toArray false) Q:=by
 cases hi:oy P N ops ops rs st with
 |none=>rw [hi] at he;cases he
 |some p=>
  obtain ⟨st1,J3⟩:=p;obtain ⟨h1,h2⟩:=Le.gc hX hi he;subst h1;exact HT.leQ (HT.Wq hX.P hX.N hi hc ⟨st',h2,hq⟩)
theorem HT.DQ {id:Nat}{ops:List Oper}{own:List Nat}(h:Nat)(sH:List HR)(Aw:List (List Nat))(rs:List OH)(st':St){cs:List Prop}(hX:oQ cx P N own)(hm:P.follows .mixedOrders=true)(he:PK own (st'.fr.map Prod.fst) (st'.mem.map Prod.fst) (zk P N ops h sH Aw rs st)=some (st',cs))(hc:bB cs)(hq:Q .normal st'):HT cx st (.region id ops.toArray true) Q:=by
 cases hi:zk P N ops h sH Aw rs st with
 |none=>rw [hi] at he;cases he
 |some p=>
  obtain ⟨st1,J3⟩:=p;obtain ⟨h1,h2⟩:=Le.gc hX hi he;subst h1;exact HT.leQ (K1 hX.P hX.N hm hi hc ⟨st',h2,hq⟩)
theorem HT.CN {id:Nat}{ops:List Oper}{own:List Nat}(h:Nat)(sH:List HR)(Aw:List (List Nat))(rs:List OH)(st':St){cs:List Prop}(hX:oQ cx P N own)(hm:P.follows .mixedOrders=true)(he:PK own (st'.fr.map Prod.fst) (st'.mem.map Prod.fst) (zk P N ops h sH Aw rs st)=some (st',cs))(hc:bB cs)(hq:HT cx st' y Q):HT cx st (.seq (.region id ops.toArray true) y) Q:=by
 cases hi:zk P N ops h sH Aw rs st with
 |none=>rw [hi] at he;cases he
 |some p=>
  obtain ⟨st1,J3⟩:=p;rw [hi] at he;obtain ⟨h1,h2,h3⟩:=zl he;subst h3;refine HT.seq (K1 hX.P hX.N hm hi hc (show HT cx st1 y Q from fun g a w hs=>hq g a w ?_));rw [h2];exact hs.gc hX.own h1
theorem HT.join {α:Type}(J:α→St)(C:α→Prop)(h1: ∀v,C v→HT cx (J v) y Q)(h2:(∀v,C v→HT cx (J v) y Q)→HT cx st x (En cx y Q)):HT cx st (.seq x y) Q:=HT.seq (h2 h1)
theorem ah (h:HT cx st y Q):En cx y Q .normal st:=h
theorem bm {k:Nat}(h:Q (.exit k) st):En cx y Q (.exit k) st:=h
theorem aQ (h:Q .ret st):En cx y Q .ret st:=h
theorem bj {id:Nat}(h:Q .normal st):yV id Q .normal st:=h
theorem aK {id:Nat}(h:Q .normal st):yV id Q (.exit id) st:=by
 show if id=id then Q .normal st else Q (.exit id) st
 rw [if_pos rfl];exact h
theorem bZ {id:Nat}(h:Q .ret st):yV id Q .ret st:=h
theorem bt {J:St→Prop}{k:Nat}(h:Q (.exit k) st):Bx J Q (.exit k) st:=h
theorem jq {J:St→Prop}(h:Q .ret st):Bx J Q .ret st:=h
theorem bw {J:St→Prop}(h:J st):Bx J Q .normal st:=h
theorem HT.aH {o:Operand}{b:Bool}(he:ev st.fr o=some (.one (.aw .bool b)))(hb:b=true)(h1:HT cx st x Q):HT cx st (.cond o x y) Q:=HT.cond he (fun _=>h1) (fun h=>by rw [hb] at h;cases h)
theorem HT.aE {o:Operand}{b:Bool}(he:ev st.fr o=some (.one (.aw .bool b)))(hb:b=false)(h1:HT cx st y Q):HT cx st (.cond o x y) Q:=HT.cond he (fun h=>by rw [hb] at h;cases h) (fun _=>h1)
end
end Go.Ide
namespace Go.Ide
mutual
def DR (P:Program):Nat→Ty→TypeId→Bool
 |0,_,_=>false
 |n+1,t,T=>match t with
  | .int k=>(match P.underlying T with
   |some (.int k')=>k==k'
   |_=>false)
  | .aW k=>(match P.underlying T with
   |some (.float k')=>k==k'
   |_=>false)
  | .bool=>(match P.underlying T with
   |some .bool=>true
   |_=>false)
  | .str=>(match P.underlying T with
   |some .string=>true
   |_=>false)
  | .sl t=>(match P.underlying T with
   |some (.slice e)=>DR P n t e&&Nat.beq (P.cellsOf e) t.size
   |_=>false)
  | .st t=>(match P.underlying T with
   |some (.struct fs)=>PL P n t 0 fs.toList&&Nat.beq (P.cellsOf T) t.size
   |_=>false)
  | .pair _ _=>false
  | .own _=>false
  | .bx _=>false
def PL (P:Program):Nat→Ty→Nat→List Field→Bool
 |0,_,_,_=>false
 |n+1,t,off,fs=>match fs with
  |[]=>false
  |[f]=>(DR P n t f.type&&Nat.beq f.offset off)&&Nat.beq (P.cellsOf f.type) t.size
  |f::fs=>match t with
   | .pair a b=>((DR P n a f.type&&Nat.beq f.offset off)&&Nat.beq (P.cellsOf f.type) a.size)&&PL P n b (off+a.size) fs
   |_=>false
end
section
variable {H:Type} {enc:TypeId×Value→H} {P:Program} {w:World} {base:Nat} {spare:Nat→Bool} {held:Bool}
def wY (w:World)(b:Nat):Prop:=b<w.heap.size
def WfD:(t:Ty)→t.D→Prop
 | .int k,n=>(Lit.int k n).wf=true
 | .aW k,b=> ∃b',bz k b'=b∧(Lit.float k b').wf=true
 | .bool,_=>True
 | .str,s=>List.length s≤maxLen
 | .pair a b,x=>WfD a x.1∧WfD b x.2
 | .st t,x=>WfD t x
 | .sl t,xs=>List.length xs≤maxLen∧ ∀i (h:i<List.length xs),WfD t xs[i]
 | .bx t,xs=>List.length xs≤maxLen∧ ∀i (h:i<List.length xs),WfD t xs[i]
 | .own t,xs=>List.length xs≤maxLen∧ ∀i (h:i<List.length xs),WfD t xs[i]
theorem BD {α:Type}{R:Nat→α→Prop}: ∀(n:Nat),(∀i,i<n→ ∃x,R i x)→ ∃l:List α,l.length=n∧ ∀i (h:i<l.length),R i l[i]
 |0,_=>⟨[],rfl,fun i h=>by simp at h⟩
 |n+1,h=>by
  obtain ⟨l,h1,h2⟩:=BD n fun i hi=>h i (by omega);obtain ⟨x,hx⟩:=h n (by omega);refine ⟨l++[x],by simp [h1],fun i hi=> ?_⟩;simp at hi;rcases Nat.lt_or_ge i n with cp|qU
  rw [List.getElem_append_left (by omega)];exact h2 i (by omega);have:i=n:=by omega
  subst this;rw [List.getElem_append_right (by omega)];simpa [h1] using hx
theorem N8 {k k':IntKind}(h:(k==k')=true):k=k':=by cases k<;>cases k'<;>first|rfl|cases h
theorem K2 {k k':FloatKind}(h:(k==k')=true):k=k':=by cases k<;>cases k'<;>first|rfl|cases h
theorem wZ: ∀(n:Nat),
 (∀(t:Ty) (T:TypeId) (fuel:Nat) (cs:List Value) (y:DataW H×List MemPlace),DR P n t T=true→DataW.trod enc P w base spare held fuel T cs=some y→ ∃x,bO (wY w) w t cs x∧WfD t x)∧
 (∀(t:Ty) (off:Nat) (fs:List Field) (fuel:Nat) (cs:List Value),PL P n t off fs=true→(∀f∈fs,∃y,DataW.trod enc P w base spare held fuel f.type ((cs.drop f.offset).take (P.cellsOf f.type))=some y)→cs.length=off+t.size→ ∃x,bO (wY w) w t (cs.drop off) x∧WfD t x)
 |0=>⟨fun _ _ _ _ _ h _=>by simp [DR] at h,fun _ _ _ _ _ h _ _=>by simp [PL] at h⟩
 |n+1=>by
  obtain ⟨XW,ih2⟩:=wZ n;refine ⟨fun t T fuel cs y h hy=> ?_,fun t off fs fuel cs h hf hl=> ?_⟩
  ·cases t with
   |int k=>
    simp only [DR] at h;split at h;rename_i k' e3;have hk:=N8 h;subst hk;obtain ⟨m,rfl,_,hwf⟩:=DataW.trod_int e3 hy;exact ⟨m,rfl,hwf⟩;cases h
   |aW k=>
    simp only [DR] at h;split at h
    ·rename_i k' e3;have hk:=K2 h;subst hk;cases fuel with
     |zero=>simp [DataW.trod] at hy
     |succ fuel=>
      unfold DataW.trod at hy;rw [e3] at hy;split at hy
      case h_3=>
       rename_i k1 k2 b1 h1;injection h1 with h1;injection h1 with h1;subst h1;split at hy;rename_i hk;obtain ⟨DM,fi⟩:=hk;subst DM;exact ⟨_,⟨b1,rfl,rfl⟩,b1,rfl,fi⟩;cases hy
      all_goals first|(rename_i h1;cases h1;done)|(rename_i h1 _;cases h1;done)|(rename_i h1 _ _;cases h1;done)|cases hy
    cases h
   |bool=>
    simp only [DR] at h;split at h;rename_i e3;obtain ⟨m,rfl,_⟩:=DataW.trod_bool e3 hy;exact ⟨m,rfl,trivial⟩;cases h
   |str=>
    simp only [DR] at h;split at h;rename_i e3;obtain ⟨m,rfl,_,hm⟩:=DataW.trod_string e3 hy;exact ⟨m.data.toList,by simp [bO],by simpa [WfD] using hm⟩;cases h
   |sl t=>
    simp only [DR] at h;split at h;rename_i e2 e3;simp only [Bool.and_eq_true] at h;obtain ⟨h1,h2⟩:=h;have h2:=bG h2;rcases Go.Deep.open_slice e3 hy with ⟨rfl,_⟩|⟨a,len,cap,m,f2,D,Pl,rfl,hb,hlc,hcm,hm,_,nf⟩
    exact ⟨[],⟨none,0,rfl,Nat.le_refl _,fun i hi=>by simp at hi⟩,by simp [WfD]⟩;have TK:len≤m:=by rw [hm];split<;>omega
    obtain ⟨xs,T3,Qm⟩:=BD (R:=fun i (x:t.D)=>wY w a.block∧ ∃es,(∀j v,es[j]? =some v→w.cell? (a.add (i*t.size+j))=some v)∧bO (wY w) w t es x∧WfD t x) len fun i hi=>by
     obtain ⟨nU,k1,k2⟩:=nf i (by omega);obtain ⟨x,k3,k4⟩:=XW t _ _ _ _ h1 k2;obtain ⟨_,k5,k6⟩:=World.cells?_some k1;have I0:0<P.cellsOf e2:=by rw [h2];exact t.size_pos
     refine ⟨x,World.cells?_block k1 I0 |> fun q=>by simpa [wY,gV] using q,nU,fun j v hv=> ?_,k3,k4⟩;have hj:j<P.cellsOf e2:=by rw [←k5];exact (List.getElem?_eq_some_iff.1 hv).1
     rw [←add_add,←h2,k6 j hj];exact hv
    refine ⟨xs,⟨some a,cap,by rw [T3],by omega,fun i hi=> ?_⟩,by rw [T3];omega,fun i hi=> ?_⟩;obtain ⟨q1,es,q2,q3,_⟩:=Qm i hi;exact ⟨a,es,rfl,q1,q2,q3⟩;obtain ⟨_,_,_,_,q4⟩:=Qm i hi;exact q4;cases h
   |pair a b=>simp [DR] at h
   |own t=>simp [DR] at h
   |bx t=>simp [DR] at h
   |st t=>
    simp only [DR] at h;split at h;rename_i e2 e3;simp only [Bool.and_eq_true] at h;obtain ⟨h1,h2⟩:=h;have h2:=bG h2;obtain ⟨xs,f2,_,_,hl,uq,nf⟩:=DataW.trod_struct e3 hy;have:=ih2 t 0 _ f2 cs h1 (fun f hf=>by
     obtain ⟨i,hi⟩:=List.getElem?_of_mem hf;have xi:e2[i]? =some f:=by rw [←Array.getElem?_toList];exact hi
     have cp:i<xs.length:=by rw [uq];exact (Array.getElem?_eq_some_iff.1 xi).1
     exact ⟨xs[i],by rw [nf i f xi];exact List.getElem?_eq_getElem cp⟩) (by rw [hl,h2,Nat.zero_add])
    obtain ⟨x,k1,k2⟩:=this;rw [List.drop_zero] at k1;exact ⟨x,k1,k2⟩;cases h
  cases fs with
  |nil=>simp [PL] at h
  |cons f fs=>
   cases fs with
   |nil=>
    simp only [PL,Bool.and_eq_true] at h;obtain ⟨⟨h1,h2⟩,h3⟩:=h;have h2:=bG h2;have h3:=bG h3;obtain ⟨y,hy⟩:=hf f (by simp);obtain ⟨x,k1,k2⟩:=XW t _ _ _ _ h1 hy;refine ⟨x,?_,k2⟩;rw [h2,h3,List.take_of_length_le (by rw [List.length_drop];omega)] at k1;exact k1
   |cons f2 fs=>
    cases t with
    |pair a b=>
     simp only [PL,Bool.and_eq_true] at h;obtain ⟨⟨⟨h1,h2⟩,h3⟩,h4⟩:=h;have h2:=bG h2;have h3:=bG h3;obtain ⟨y,hy⟩:=hf f (by simp);obtain ⟨x,k1,k2⟩:=XW a _ _ _ _ h1 hy;obtain ⟨z,k3,k4⟩:=ih2 b (off+a.size) _ fuel cs h4 (fun g hg=>hf g (by simp only [List.mem_cons] at hg⊢;exact .inr hg)) (by rw [hl];simp [Ty.size];omega);rw [h2,h3] at k1;refine ⟨(x,z),⟨_,_,?_,k1,k3⟩,k2,k4⟩;rw [←List.drop_drop];exact (List.take_append_drop _ _).symm
    |_=>simp [PL] at h
end
end Go.Ide
namespace Go.Ide
open Go.ChangeShapes Go.WideShapes Go.RowKit
section
variable {H:Type} {enc:TypeId×Value→H} {P:Program}
def K3 (P:Program)(ts:List TypeId):Bool:=ts.all fun t=>P.readableRec t&&Nat.blt t P.types.size
theorem ti (hl:laidOutB P=true){W W':World}(hb:Below W.heap.size W W'): ∀{ts:List TypeId} {vs:List Value} {ds:List (DataW H)} {p:List MemPlace},K3 P ts=true→DataW.TrodAll enc P W 0 (fun _=>true) true ts vs ds p→(∀x∈p,x.block<W.heap.size)→
 DataW.TrodAll enc P W' 0 (fun b=>decide (b<W.heap.size)) true ts vs ds p
 |[],[],[],p,_,h,_=>h
 |t::ts,v::vs,d::ds,p,hp,h,cp=>by
  obtain ⟨p1,p2,h1,h2,rfl⟩:=h;simp only [K3,List.all_cons,Bool.and_eq_true] at hp;refine ⟨p1,p2,Below.trod hl hp.1.1 (Nat.lt_of_succ_le (by simpa [Nat.blt] using hp.1.2)) h1 hb (fun x hx=>cp x (by simp [hx])),ti hl hb (by simpa [K3] using hp.2) h2 (fun x hx=>cp x (by simp [hx])),rfl⟩
theorem K4 {f:Func}{s:ChangeSpec}{T:TypeId}{W W':World}{args:Array Value}{ds gs:List (DataW H)}{before:List MemPlace}(hl:laidOutB P=true)(QU:K3 P f.params.toList=true)(hv:s.vars=[])(hr:f.resultTypes= #[T])(hT:P.underlying T=some .bool)(XX:s.fn H ds={results:=[.lit (.bool true)],args:=ds})(hW:DataW.Whole enc P f.params.toList s.vars false W args.toList ds gs before)(hb:Below W.heap.size W W'):s.post enc P f false true false false W args (.bool true) W':=by
 have Wr:=hW;obtain ⟨p,q,hA,hV,rfl,Xq,xn⟩:=hW;rw [hv] at hV;obtain ⟨rfl,rfl⟩:=trodVars_none hV;have QV:s.fn H (ds++[])={results:=[.lit (.bool true)],args:=ds}:=by rw [List.append_nil];exact XX
 refine ⟨ds,[],p++[],[],p,[],Wr,?_,?_,?_,hb.frame _,fun h=>by cases h⟩;rw [QV,hr];exact trodAll_mk1 ⟨1,by simp [DataW.trod,hT,Value.cells]⟩;rw [QV];exact ti hl hb QU hA fun x hx=>Wr.lt x (by simp [hx]);rw [hv,QV];rfl
theorem K5 {n:Nat}{t:Ty}{T:TypeId}{W:World}{r:Reach}{base:Nat}{v:Value}(hc:DR P n t T=true)(h:Value.okWide P W r base T v):dT t v.cells.toList v:=by
 cases n with
 |zero=>simp [DR] at hc
 |succ n=>
  cases t<;>simp only [DR] at hc
  case pair=>cases hc
  case own=>cases hc
  case bx=>cases hc
  case st t=>
   split at hc;rename_i fs e;unfold Value.okWide at h;rw [e] at h;obtain ⟨cs,rfl,_⟩:=h;simp [dT,Ty.ye,Value.cells];cases hc
  all_goals
   split at hc
   ·rename_i e;simp only [Value.okWide,e,Cell.okWide,Cell.ok] at h;cases v<;>first|(simp [dT,Ty.ye,Value.cells];done)|(simp at h;done)|exact h.elim
   cases hc
def immArgs (l:List TD):List Arg:=l.map fun d=> .an d.t d.x
def A3 (P:Program):List Ty→List TypeId→Bool
 |[],[]=>true
 |t::ts,T::Ts=>DR P 40 t T&&A3 P ts Ts
 |_,_=>false
theorem uL {W:World}{base:Nat}{spare:Nat→Bool}{held:Bool}{r:Reach}{b0:Nat}: ∀{ts:List Ty} {Ts:List TypeId} {vs:List Value} {ds:List (DataW H)} {p:List MemPlace},A3 P ts Ts=true→DataW.TrodAll enc P W base spare held Ts vs ds p→
 (∀(j:Nat) t v,Ts[j]? =some t→vs[j]? =some v→Value.okWide P W r b0 t v)→ ∃l:List TD,l.map TD.t=ts∧(∀d∈l,WfD d.t d.x)∧qC (wY W) W (immArgs l) vs (l.map fun _=>[])
 |[],[],[],[],p,_,_,_=>⟨[],rfl,fun d hd=>by simp at hd,trivial⟩
 |t::ts,T::Ts,v::vs,d::ds,p,hc,h,jT=>by
  obtain ⟨p1,p2,⟨fuel,h1⟩,h2,rfl⟩:=h;simp only [A3,Bool.and_eq_true] at hc;obtain ⟨x,k1,k2⟩:=(wZ 40).1 t T fuel _ _ hc.1 h1;obtain ⟨l,k3,k4,k5⟩:=uL hc.2 h2 fun j t v hj hv=>jT (j+1) t v (by simpa using hj) (by simpa using hv);refine ⟨⟨t,x⟩::l,by simp [k3],fun d hd=> ?_,⟨rfl,_,K5 hc.1 (jT 0 T v rfl rfl),k1⟩,k5⟩;rcases List.mem_cons.1 hd with e|hd
  subst e;exact k2;exact k4 d hd
 |[],_::_,_,_,_,hc,_,_=>by simp [A3] at hc
 |_::_,[],_,_,_,hc,_,_=>by simp [A3] at hc
theorem K6 {α β:Type}: ∀(l:List α),(l.map fun _=>([]:List β)).flatten=[]
 |[]=>rfl
 |_::l=>by simp
theorem K7 {S:Nat→Prop}{w:World}{v:Value}{F:List (List Nat→Option Nat)}(h:Kp S w [⟨false,.bool,true⟩] v F):v= .bool true:=by
 obtain ⟨vs,h1,h2⟩:=h;cases vs with
 |nil=>exact h1.elim
 |cons u vs=>
  obtain ⟨F1,F2,_,h3,h4⟩:=h1;cases vs with
  |cons=>exact h4.elim
  |nil=>
   have h2:v=u:=h2;subst h2;simp only [yD] at h3;obtain ⟨_,cs,h5,h6⟩:=h3;have h6:cs=[.bool true]:=h6;subst h6;have h5:[Value.bool true]=[v]:=h5;simpa using h5.symm
theorem law_run {f:FuncId}{fn:Func}{s:ChangeSpec}{T:TypeId}{ts:List Ty}{W:World}{base:Nat}{args:Array Value}{ds gs:List (DataW H)}{before:List MemPlace}(hl:laidOutB P=true)(QU:K3 P fn.params.toList=true)(hv:s.vars=[])(hr:fn.resultTypes= #[T])(hT:P.underlying T=some .bool)(hts:A3 P ts fn.params.toList=true)(XX:ds.length=ts.length→s.fn H ds={results:=[.lit (.bool true)],args:=ds})(bF: ∀l:List TD,l.map TD.t=ts→(∀d∈l,WfD d.t d.x)→CallOK P f (immArgs l) [⟨false,.bool,true⟩] [])(hval: ∀(j:Nat) t v,fn.params[j]? =some t→args[j]? =some v→Value.okWide P W .any base t v)(Wf:BZ.ok W (wY W))(hW:DataW.Whole enc P fn.params.toList s.vars false W args.toList ds gs before):
 Calls P f args W fun e W'=> ∃v,e= .returned v∧s.post enc P fn false true false false W args v W':=by
 have Wr:=hW;obtain ⟨p,q,hA,hV,rfl,Xq,xn⟩:=hW;obtain ⟨l,k1,k2,k3⟩:=uL (r:= .any) (b0:=base) hts hA fun j t v hj hv=>hval j t v (by simpa using hj) (by simpa using hv);have Ws:ds.length=ts.length:=by
  have aux: ∀{Ts:List TypeId} {vs:List Value} {ds:List (DataW H)} {p:List MemPlace},DataW.TrodAll enc P W 0 (fun _=>true) true Ts vs ds p→ds.length=Ts.length:=by
   intro Ts;induction Ts with
   |nil=>intro vs ds p h;obtain ⟨_,rfl,_⟩:=trodAll_nil h;rfl
   |cons T Ts ih=>
    intro vs ds p h;obtain ⟨v,S6,d,ds',p,q,rfl,rfl,rfl,_,h2⟩:=trodAll_cons h;simp [ih h2]
  have aux2: ∀{ts:List Ty} {Ts:List TypeId},A3 P ts Ts=true→ts.length=Ts.length:=by
   intro ts;induction ts with
   |nil=>intro Ts h;cases Ts with
    |nil=>rfl
    |cons=>simp [A3] at h
   |cons t ts ih=>intro Ts h;cases Ts with
    |nil=>simp [A3] at h
    |cons T Ts=>simp only [A3,Bool.and_eq_true] at h;simp [ih h.2]
  rw [aux hA,aux2 hts]
 obtain ⟨_,Uu⟩:=bF l k1 k2;have H5:=K6 (β:=List Nat→Option Nat) l;have:=Uu W (wY W) args.toList (l.map fun _=>[]) [] (by rw [H5];exact yC.nil) (by rw [H5];exact pY.nil) (fun b hb=>⟨hb,by simp⟩) (fun b hb=>by simp at hb) k3 Wf;rw [show args.toList.toArray=args from by simp] at this;refine this.mono fun e W' ⟨v,A',F',e1,_,_,h1,_,h4,_⟩=> ?_;have hvt:=K7 h1;subst hvt;exact ⟨_,e1,K4 hl QU hv hr hT (XX Ws) Wr ⟨h4.os,h4.tape,h4.output,h4.size,fun k hk=>h4.block k hk (by simp)⟩⟩
end
end Go.Ide
namespace Go.Ide
section
variable {σ ρ:Type} {f g:σ→Option (σ⊕ρ)}
end
end Go.Ide
namespace Go.Ide
open Go.IntWalk
def QW {σ ρ:Type}(g:Nat→σ→σ⊕ρ)(e:σ→ρ):Nat→Nat→σ→ρ
 |0,_,s=>e s
 |k+1,i,s=>match g i s with
  | .inl s'=>QW g e k (i+1) s'
  | .inr r=>r
def uM {σ:Type}(g:Nat→σ→σ):Nat→Nat→σ→σ
 |0,_,s=>s
 |k+1,i,s=>uM g k (i+1) (g i s)
section
variable {σ τ ρ:Type}
theorem Gy {f:τ→Option (τ⊕ρ)}(mk:Nat→σ→τ)(g:Nat→σ→σ⊕ρ)(e:σ→ρ){n:Nat}(I:Nat→σ→Prop)(mL: ∀i s,i<n→I i s→f (mk i s)=some (match g i s with| .inl s'=> .inl (mk (i+1) s')| .inr r=> .inr r)∧(∀s',g i s= .inl s'→I (i+1) s'))(mX: ∀s,I n s→f (mk n s)=some (.inr (e s))): ∀(k i:Nat) (s:σ),i+k=n→I i s→rounds f (mk i s)=some (QW g e k i s)
 |0,i,s,hi,h=>by
  have:i=n:=by omega
  subst this;rw [bn,mX s h];rfl
 |k+1,i,s,hi,h=>by
  obtain ⟨h1,h2⟩:=mL i s (by omega) h;rw [bn,h1];simp only [QW];cases hg:g i s with
  |inl s'=>exact Gy mk g e I mL mX k (i+1) s' (by omega) (h2 s' hg)
  |inr r=>rfl
theorem aM {f:τ→Option (τ⊕ρ)}(mk:Nat→σ→τ)(g:Nat→σ→σ)(e:σ→ρ){n:Nat}(I:Nat→σ→Prop)(mL: ∀i s,i<n→I i s→f (mk i s)=some (.inl (mk (i+1) (g i s)))∧I (i+1) (g i s))(mX: ∀s,I n s→f (mk n s)=some (.inr (e s))): ∀(k i:Nat) (s:σ),i+k=n→I i s→rounds f (mk i s)=some (e (uM g k i s))∧I n (uM g k i s)
 |0,i,s,hi,h=>by
  have:i=n:=by omega
  subst this;rw [bn,mX s h];exact ⟨rfl,h⟩
 |k+1,i,s,hi,h=>by
  obtain ⟨h1,h2⟩:=mL i s (by omega) h;rw [bn,h1];exact aM mk g e I mL mX k (i+1) (g i s) (by omega) h2
def iW (p:Nat→Bool):Nat→Nat→Bool
 |0,_=>true
 |k+1,i=>p i&&iW p k (i+1)
theorem lE {p:Nat→Bool}: ∀{k i:Nat},iW p k i=true↔ ∀j,i≤j→j<i+k→p j=true
 |0,i=>by simp only [iW,true_iff];intro j h1 h2;omega
 |k+1,i=>by
  simp only [iW,Bool.and_eq_true,lE (k:=k)];constructor;rintro ⟨h1,h2⟩ j hj Ko;by_cases e:j=i;rw [e];exact h1;exact h2 j (by omega) (by omega);intro h;exact ⟨h i (Nat.le_refl _) (by omega),fun j hj Ko=>h j (by omega) (by omega)⟩
theorem n9 {f:τ→Option (τ⊕ρ)}(mk:Nat→τ)(p:Nat→Bool)(a b:ρ){n:Nat}(mL: ∀i,i<n→f (mk i)=some (bif p i then .inl (mk (i+1)) else .inr b))(mX:f (mk n)=some (.inr a)): ∀(k i:Nat),i+k=n→rounds f (mk i)=some (bif iW p k i then a else b)
 |0,i,hi=>by
  have:i=n:=by omega
  subst this;rw [bn,mX];rfl
 |k+1,i,hi=>by
  rw [bn,mL i (by omega)];simp only [iW];cases p i with
  |true=>simp only [cond_true,Bool.true_and];exact n9 mk p a b mL mX k (i+1) (by omega)
  |false=>rfl
theorem ir {f:σ→Option (σ⊕ρ)}(R:Nat→σ→Prop)(Q:ρ→Prop)(step: ∀n s,R n s→(∃n' s',n'<n∧f s=some (.inl s')∧R n' s')∨(∃r,f s=some (.inr r)∧Q r)):
 ∀(n:Nat) (s:σ),R n s→ ∃r,rounds f s=some r∧Q r:=by
 intro n;induction n using Nat.strongRecOn with
 |_ n ih=>
  intro s h;rw [bn f s];rcases step n s h with ⟨n',s',hn,h1,h3⟩|⟨r,h1,h3⟩
  rw [h1];exact ih n' hn s' h3;rw [h1];exact ⟨r,rfl,h3⟩
end
theorem lX {a b:Int}(h: -9223372036854775808≤a+b∧a+b≤9223372036854775807):ai .i64 a b=a+b:=i64_in _ h
theorem EF {a b:Int}(h: -9223372036854775808≤a - b∧a - b≤9223372036854775807):b8 .i64 a b=a - b:=i64_in _ h
theorem kb {a b:Int}(h: -9223372036854775808≤a*b∧a*b≤9223372036854775807):az .i64 a b=a*b:=i64_in _ h
theorem cL {i n:Nat}(h:i<n)(hn:n≤4294967296):ai .i64 (i:Int) 1=((i+1:Nat):Int):=by
 rw [show ((i+1:Nat):Int)=(i:Int)+1 from by omega];exact i64_in _ (by omega)
theorem nL {i n:Nat}(h:i<n):decide ((i:Int)<(n:Int))=true:=by simp;omega
theorem nM {i n:Nat}(h:n≤i):decide ((i:Int)<(n:Int))=false:=by simp;omega
theorem eG {i n:Nat}(h:i<n):(0:Int)≤(i:Int)∧(i:Int)<(n:Int):=⟨by omega,by omega⟩
theorem Uv {c i k:Nat}(hc:c≤1000)(hi:i<1000)(hk:k<1000):ai .i64 (az .i64 (i:Int) (c:Int)) (k:Int)=((i*c+k:Nat):Int):=by
 have h:i*c≤1000*1000:=Nat.mul_le_mul (by omega) hc;rw [kb (by rw [←Int.natCast_mul];omega),←Int.natCast_mul,lX (by omega)];omega
theorem CO {c i k:Nat}(hi:i<c)(hk:k<c):i*c+k<c*c:=by
 have:i*c+c≤c*c:=by
  rw [←Nat.succ_mul];exact Nat.mul_le_mul_right c hi
 omega
end Go.Ide
namespace Go.Ide
open Go.IntWalk
section
variable {α:Type}
theorem drop_cons {xs:List α}{i:Nat}(h:i<xs.length)(d:α):xs.drop i=xs.getD i d::xs.drop (i+1):=by
 rw [List.drop_eq_getElem_cons h,List.getD_eq_getElem?_getD,List.getElem?_eq_getElem h];rfl
theorem zm {l r:List α}{a b:α}{i:Nat}(h:l.length=i):(l++a::r).set i b=l++b::r:=by
 subst h;induction l with
 |nil=>rfl
 |cons x l ih=>simp [ih]
theorem sK {xs:List α}{i:Nat}(h:i<xs.length)(d:α):xs.take (i+1)=xs.take i++[xs.getD i d]:=by
 rw [List.take_add_one,List.getD_eq_getElem?_getD,List.getElem?_eq_getElem h];rfl
end
end Go.Ide
namespace Go.Ide
open Go.IntWalk
section
variable {α:Type}
theorem K8 {f:Int×List α→Option ((Int×List α)⊕List α)}(h:Nat→α)(n:Nat)(base:List α)(mL: ∀(i:Nat) (out:List α),i<n→out.length=base.length+i→f ((i:Int),out)=some (.inl (((i+1:Nat):Int),out++[h i])))(mX: ∀out:List α,f ((n:Int),out)=some (.inr out)):rounds f ((0:Int),base)=some (base++(List.range n).map h):=by
 have:=aM (f:=f) (fun i out=>(((i:Nat):Int),out)) (fun i out=>out++[h i]) id (n:=n) (fun i out=>out=base++(List.range i).map h)
  (fun i out hi ho=>⟨mL i out hi (by rw [ho];simp),by rw [ho];simp [List.range_succ]⟩)
  (fun out _=>mX out) n 0 base (by omega) (by simp)
 simp only [Int.natCast_zero] at this;rw [this.1,show id (uM _ n 0 base)=uM _ n 0 base from rfl,this.2]
end
end Go.Ide
namespace Go.Ide
theorem oa (neg:Bool)(m:Nat)(p:Int): ∃r,r≤2139095040∧Ieee.single.nearest neg m p=Ieee.single.word neg r:=by
 have e3:Ieee.single.infRung=2139095040:=by decide
 unfold Ieee.Format.nearest;split;exact ⟨0,by omega,rfl⟩;exact ⟨_,by rw [e3];exact Nat.min_le_right _ _,rfl⟩
end Go.Ide
namespace Go.Ide
def bd (x K:Nat):Prop:=x%2147483648≤K*8388608
theorem bd.mono {x K L:Nat}(h:bd x K)(hl:K≤L):bd x L:=Nat.le_trans h (Nat.mul_le_mul_right _ hl)
theorem vP:Ieee.single.signWeight=2147483648:=by decide
theorem rk:Ieee.single.binade=8388608:=by decide
theorem qi:Ieee.single.infRung=2139095040:=by decide
theorem xy:Ieee.single.leastPlace= -149:=by decide
theorem xP {x:Nat}(h:x%2147483648<8388608):Ieee.single.read x= .number (x/2147483648%2==1) (x%2147483648) (-149+((0:Nat):Int)):=by
 unfold Ieee.Format.read;simp only [vP,rk,qi,xy];rw [if_pos h];rfl
theorem xQ {x:Nat}(h:8388608≤x%2147483648)(h2:x%2147483648<2139095040):Ieee.single.read x= .number (x/2147483648%2==1) (8388608+x%2147483648%8388608) (-149+((x%2147483648/8388608 - 1:Nat):Int)):=by
 unfold Ieee.Format.read;simp only [vP,rk,qi,xy];rw [if_neg (by omega),if_pos h2]
theorem sL {x K:Nat}(h:bd x K)(h2:2≤K)(h3:K≤254): ∃s m j,Ieee.single.read x= .number s m (-149+((j:Nat):Int))∧m*2^j≤2^(K+22):=by
 unfold bd at h;by_cases pd:x%2147483648<8388608;refine ⟨_,_,_,xP pd,?_⟩;have:2^24≤2^(K+22):=Nat.pow_le_pow_right (by omega) (by omega);omega;refine ⟨_,_,_,xQ (by omega) (by omega),?_⟩;generalize x%2147483648=r at*;have hq:r/8388608≤K:=by omega
 by_cases he:r/8388608=K;have h0:r%8388608=0:=by omega
 rw [h0,he,show K+22=23+(K - 1) by omega,Nat.pow_add 2 23 (K - 1)];exact Nat.le_refl _;have e:K+22=24+(K - 2):=by omega
 have h1:2^(r/8388608 - 1)≤2^(K - 2):=Nat.pow_le_pow_right (by omega) (by omega);rw [e,Nat.pow_add 2 24 (K - 2)];refine Nat.mul_le_mul ?_ h1;omega
theorem CP {neg:Bool}{n drop B:Nat}(h:n≤B*2^drop):Ieee.Toward.cut .even neg n drop≤B:=by
 unfold Ieee.Toward.cut;simp only [Nat.one_shiftLeft];by_cases hd:drop≤n.log2+2;rw [Nat.min_eq_left hd];have hp:0<2^drop:=Nat.pos_of_ne_zero (by simp);generalize 2^drop=g at*;have XY:=Nat.div_add_mod n g;have hml:=Nat.mod_lt n hp;have hB:n/g≤B:=by
  rw [Nat.div_le_iff_le_mul_add_pred hp];have:B*g=g*B:=Nat.mul_comm _ _;omega
 by_cases he:n/g=B;have:n%g=0:=by
  rw [he] at XY;have:B*g=g*B:=Nat.mul_comm _ _;omega
 rw [this,he];have hg:(g==0)=false:=beq_eq_false_iff_ne.2 (by omega);simp [hg];have: ∀b:Bool,b.toNat≤1:=by decide
 have:=this (decide (g<2*(n%g))||g==2*(n%g)&&n/g%2==1);omega;rw [Nat.min_eq_right (by omega)];have cp:n<2^(n.log2+1):=Nat.lt_log2_self;have hg:2^(n.log2+2)=2*2^(n.log2+1):=by rw [Nat.pow_succ];omega
 rw [Nat.div_eq_of_lt (by omega),Nat.mod_eq_of_lt (by omega)];simp [show¬(2^(n.log2+2)<2*n) by omega,show¬(2^(n.log2+2)=2*n) by omega]
theorem qj {s:Bool}{r:Nat}(h:r≤2139095040):Ieee.single.word s r%2147483648=r:=by
 unfold Ieee.Format.word;cases s with
 |true=>simp only [if_true,vP];omega
 |false=>simp only [Bool.false_eq_true,if_false];omega
theorem zn {neg:Bool}{mag j K:Nat}(h:mag*2^j≤2^(K+171))(hK:2≤K):bd (Ieee.single.nearest neg mag (-298+(j:Int))) K:=by
 unfold bd Ieee.Format.nearest;by_cases h0:mag=0;rw [if_pos h0,qj (by omega)];omega;rw [if_neg h0];simp only [xy,rk,qi];have hf:Ieee.single.fractionBits=23:=rfl;simp only [hf];have pd:2^mag.log2≤mag:=Nat.log2_self_le h0;have ui:mag<2^(mag.log2+1):=Nat.lt_log2_self;generalize mag.log2=L at*;have hLj:L+j≤K+171:=by
  have:2^(L+j)≤2^(K+171):=by
   rw [Nat.pow_add];exact Nat.le_trans (Nat.mul_le_mul_right _ pd) h
  exact (Nat.pow_le_pow_iff_right (by omega)).1 this
 rw [qj (Nat.min_le_right _ _)];refine Nat.le_trans (Nat.min_le_left _ _) ?_;by_cases hA:j+L≤172;have el:max (-298+(j:Int)+L - ((23:Nat):Int)) (-149)= -149:=by omega
 rw [el];have e1:((-149:Int) - -149).toNat=0:=rfl;have e2:(-298+(j:Int) - -149).toNat=j - 149:=by omega
 have e3:((-149:Int) - (-298+(j:Int))).toNat=149 - j:=by omega
 rw [e1,e2,e3];have hc:Ieee.Toward.cut .even neg (mag<<<(j - 149)) (149 - j)≤16777216:=by
  apply CP;rw [Nat.shiftLeft_eq];have:mag≤2^(173 - j):=by
   refine Nat.le_trans (Nat.le_of_lt ui) (Nat.pow_le_pow_right (by omega) (by omega))
  by_cases hj:j≤149;rw [show j - 149=0 by omega];have e:16777216*2^(149 - j)=2^(173 - j):=by
   rw [show 173 - j=24+(149 - j) by omega,Nat.pow_add 2 24]
  rw [e];simpa using this;rw [show 149 - j=0 by omega];have e:mag*2^(j - 149)≤2^(173 - j)*2^(j - 149):=Nat.mul_le_mul_right _ this;rw [←Nat.pow_add,show 173 - j+(j - 149)=24 by omega] at e;simpa using e
 refine Nat.le_trans (Nat.add_le_add_left hc _) ?_;rw [Nat.zero_mul,Nat.zero_add];exact Nat.mul_le_mul_right 8388608 hK;have el:max (-298+(j:Int)+L - ((23:Nat):Int)) (-149)=((j+L:Nat):Int) - 321:=by omega
 rw [el];have e1:(((j+L:Nat):Int) - 321 - -149).toNat=j+L - 172:=by omega
 have e2:(-298+(j:Int) - (((j+L:Nat):Int) - 321)).toNat=23 - L:=by omega
 have e3:(((j+L:Nat):Int) - 321 - (-298+(j:Int))).toNat=L - 23:=by omega
 rw [e1,e2,e3];by_cases hB:j+L≤K+170;have hc:Ieee.Toward.cut .even neg (mag<<<(23 - L)) (L - 23)≤16777216:=by
  apply CP;rw [Nat.shiftLeft_eq];by_cases hj:L≤23;rw [show L - 23=0 by omega];have e:mag*2^(23 - L)≤2^(L+1)*2^(23 - L):=Nat.mul_le_mul_right _ (Nat.le_of_lt ui);rw [←Nat.pow_add,show L+1+(23 - L)=24 by omega] at e;simpa using e;rw [show 23 - L=0 by omega];have e:16777216*2^(L - 23)=2^(L+1):=by
   rw [show L+1=24+(L - 23) by omega,Nat.pow_add 2 24]
  rw [e];simpa using Nat.le_of_lt ui
 omega;have hm:mag≤2^L:=by
  have e:2^(K+171)=2^L*2^j:=by rw [←Nat.pow_add,show L+j=K+171 by omega]
  rw [e] at h;exact Nat.le_of_mul_le_mul_right h (Nat.pos_of_ne_zero (by simp))
 have hc:Ieee.Toward.cut .even neg (mag<<<(23 - L)) (L - 23)≤8388608:=by
  apply CP;rw [Nat.shiftLeft_eq];by_cases hj:L≤23;rw [show L - 23=0 by omega];have e:mag*2^(23 - L)≤2^L*2^(23 - L):=Nat.mul_le_mul_right _ hm;rw [←Nat.pow_add,show L+(23 - L)=23 by omega] at e;simpa using e;rw [show 23 - L=0 by omega];have e:8388608*2^(L - 23)=2^L:=by
   conv=>rhs;rw [show L=23+(L - 23) by omega,Nat.pow_add 2 23]
  rw [e];simpa using hm
 omega
theorem lF {x K:Nat}(h:bd x K)(hK:K≤255):bz .f32 x=x:=by
 unfold bd at h;rw [AJ,if_neg (by omega)]
theorem gG (neg:Bool)(mag:Nat)(p:Int):bd (Ieee.single.nearest neg mag p) 255:=by
 obtain ⟨r,hr,e⟩:=oa neg mag p;unfold bd;rw [e,qj hr];omega
theorem K9 {x y a b K:Nat}(hx:bd x a)(hy:bd y b)(ha:2≤a)(Ig:a≤254)(hb:2≤b)(o5:b≤254)(hK:2≤K)(h:a+b≤K+127):bd (aq .mul .f32 x y) K:=by
 obtain ⟨s,m,i,e1,h1⟩:=sL hx ha Ig;obtain ⟨t,n,j,e2,h2⟩:=sL hy hb o5;have e:aq .mul .f32 x y=bz .f32 (Ieee.single.nearest (s^^t) (m*n) (-298+((i+j:Nat):Int))):=by
  have:floatBits .mul .f32 x y=some (Ieee.single.nearest (s^^t) (m*n) (-298+((i+j:Nat):Int))):=by
   show Ieee.single.mul x y=_;unfold Ieee.Format.mul;rw [e1,e2];show some (Ieee.single.nearest (s^^t) (m*n) (-149+(i:Int)+(-149+(j:Int))))=_
   congr 2
   omega
  unfold aq;rw [this]
 rw [e,lF (gG _ _ _) (Nat.le_refl _)];refine zn ?_ hK;have:m*n*2^(i+j)=(m*2^i)*(n*2^j):=by rw [Nat.pow_add];ac_rfl
 rw [this];refine Nat.le_trans (Nat.mul_le_mul h1 h2) ?_;rw [←Nat.pow_add];exact Nat.pow_le_pow_right (by omega) (by omega)
theorem zo (s:Bool)(m u:Nat):(Ieee.signed s m u).natAbs=m*2^u:=by
 unfold Ieee.signed;rw [Nat.shiftLeft_eq];cases s<;>simp [Int.natAbs_mul,Int.natAbs_pow]
theorem QX {s t:Bool}{m n i j K:Nat}(h1:m*2^i≤2^(K+22))(h2:n*2^j≤2^(K+22)):
 ∃g mag p,Ieee.Datum.sum (.number s m (-149+(i:Int))) (.number t n (-149+(j:Int)))=some (.number g mag (-298+((p:Nat):Int)))∧mag*2^p≤2^(K+1+171):=by
 have hb:(min (-149+(i:Int)) (-149+(j:Int)))= -298+((149+min i j:Nat):Int):=by omega
 refine ⟨if Ieee.signed s m (-149+(i:Int) - (-298+((149+min i j:Nat):Int))).toNat+Ieee.signed t n (-149+(j:Int) - (-298+((149+min i j:Nat):Int))).toNat=0 then s&&t else Ieee.signed s m (-149+(i:Int) - (-298+((149+min i j:Nat):Int))).toNat+Ieee.signed t n (-149+(j:Int) - (-298+((149+min i j:Nat):Int))).toNat<0,(Ieee.signed s m (-149+(i:Int) - (-298+((149+min i j:Nat):Int))).toNat+Ieee.signed t n (-149+(j:Int) - (-298+((149+min i j:Nat):Int))).toNat).natAbs,149+min i j,?_,?_⟩;unfold Ieee.Datum.sum;simp only [hb];have e1:(-149+(i:Int) - (-298+((149+min i j:Nat):Int))).toNat=i - min i j:=by omega
 have e2:(-149+(j:Int) - (-298+((149+min i j:Nat):Int))).toNat=j - min i j:=by omega
 rw [e1,e2];refine Nat.le_trans (Nat.mul_le_mul_right _ (Int.natAbs_add_le _ _)) ?_;rw [zo,zo,Nat.add_mul];have e3:m*2^(i - min i j)*2^(149+min i j)=2^149*(m*2^i):=by
  rw [Nat.mul_assoc,←Nat.pow_add,show i - min i j+(149+min i j)=149+i by omega,Nat.pow_add];ac_rfl
 have e4:n*2^(j - min i j)*2^(149+min i j)=2^149*(n*2^j):=by
  rw [Nat.mul_assoc,←Nat.pow_add,show j - min i j+(149+min i j)=149+j by omega,Nat.pow_add];ac_rfl
 rw [e3,e4,←Nat.mul_add,show K+1+171=149+(K+22+1) by omega,Nat.pow_add 2 149,Nat.pow_succ];exact Nat.mul_le_mul_left _ (by omega)
theorem La {x y a:Nat}(hx:bd x a)(hy:bd y a)(ha:2≤a)(Ig:a≤254):bd (aq .add .f32 x y) (a+1):=by
 obtain ⟨s,m,i,e1,h1⟩:=sL hx ha Ig;obtain ⟨t,n,j,e2,h2⟩:=sL hy ha Ig;obtain ⟨g,mag,p,e3,h3⟩:=QX (s:=s) (t:=t) h1 h2;have e:aq .add .f32 x y=bz .f32 (Ieee.single.nearest g mag (-298+((p:Nat):Int))):=by
  have:floatBits .add .f32 x y=some (Ieee.single.nearest g mag (-298+((p:Nat):Int))):=by
   show Ieee.single.add x y=_;unfold Ieee.Format.add;rw [e1,e2,e3];rfl
  unfold aq;rw [this]
 rw [e,lF (gG _ _ _) (Nat.le_refl _)];exact zn h3 (by omega)
theorem tU {x K:Nat}(h:bd x K)(h2:2≤K)(h3:K≤254):aq .sub .f32 x x=0:=by
 obtain ⟨s,m,i,e1,h1⟩:=sL h h2 h3;have:floatBits .sub .f32 x x=some 0:=by
  show Ieee.single.sub x x=_;unfold Ieee.Format.sub;rw [e1];show Option.map _ (some (Ieee.Datum.number _ _ _))=_;have e0:Ieee.signed s m ((-149+(i:Int)) - min (-149+(i:Int)) (-149+(i:Int))).toNat+Ieee.signed (!s) m ((-149+(i:Int)) - min (-149+(i:Int)) (-149+(i:Int))).toNat=0:=by
   unfold Ieee.signed;cases s<;>simp<;>omega
  rw [e0];simp only [Option.map];cases s<;>rfl
 unfold aq;rw [this];rfl
end Go.Ide
namespace Go.Ide
theorem Gz (a b:Int):(some (compare a b)==some Ordering.lt||some (compare a b)==some Ordering.eq)=decide (a≤b):=by
 simp only [compare,compareOfLessAndEq];by_cases h:a<b;rw [if_pos h];simp;omega;rw [if_neg h];by_cases h2:a=b;rw [if_pos h2];simp [h2];rw [if_neg h2];simp;omega
theorem Lb (a b:Int):(some (compare a b)==some Ordering.gt||some (compare a b)==some Ordering.eq)=decide (b≤a):=by
 simp only [compare,compareOfLessAndEq];by_cases h:a<b;rw [if_pos h];simp;omega;rw [if_neg h];by_cases h2:a=b;rw [if_pos h2];simp [h2];rw [if_neg h2];simp;omega
theorem QY (a b:Int):(some (compare a b)==some Ordering.lt)=decide (a<b):=by
 simp only [compare,compareOfLessAndEq];by_cases h:a<b;rw [if_pos h];simp [h];rw [if_neg h];by_cases h2:a=b;rw [if_pos h2];simp [h2];rw [if_neg h2];simp;omega
theorem xR {x y m n:Nat}{s t:Bool}{p q:Int}(hx:Ieee.single.read x= .number s m p)(hy:Ieee.single.read y= .number t n q):
 pO .f32 x y=decide (Ieee.signed s m (p - min p q).toNat≤Ieee.signed t n (q - min p q).toNat):=by
 unfold pO;have:FloatKind.f32.format.order x y=some (compare (Ieee.signed s m (p - min p q).toNat) (Ieee.signed t n (q - min p q).toNat)):=by
  show Ieee.Datum.order (Ieee.single.read x) (Ieee.single.read y)=_;rw [hx,hy];rfl
 rw [this];exact Gz _ _
theorem CQ {x y m n:Nat}{s t:Bool}{p q:Int}(hx:Ieee.single.read x= .number s m p)(hy:Ieee.single.read y= .number t n q):
 sx .f32 x y=decide (Ieee.signed t n (q - min p q).toNat≤Ieee.signed s m (p - min p q).toNat):=by
 unfold sx;have:FloatKind.f32.format.order x y=some (compare (Ieee.signed s m (p - min p q).toNat) (Ieee.signed t n (q - min p q).toNat)):=by
  show Ieee.Datum.order (Ieee.single.read x) (Ieee.single.read y)=_;rw [hx,hy];rfl
 rw [this];exact Lb _ _
theorem Ih {x y m n:Nat}{s t:Bool}{p q:Int}(hx:Ieee.single.read x= .number s m p)(hy:Ieee.single.read y= .number t n q):
 aW .f32 x y=decide (Ieee.signed s m (p - min p q).toNat<Ieee.signed t n (q - min p q).toNat):=by
 unfold aW;have:FloatKind.f32.format.order x y=some (compare (Ieee.signed s m (p - min p q).toNat) (Ieee.signed t n (q - min p q).toNat)):=by
  show Ieee.Datum.order (Ieee.single.read x) (Ieee.single.read y)=_;rw [hx,hy];rfl
 rw [this];exact QY _ _
theorem k9:Ieee.single.read 0= .number false 0 (-149):=by decide
theorem EG:Ieee.single.read 1065353216= .number false 8388608 (-149+((126:Nat):Int)):=by decide
theorem bM (m u:Nat):Ieee.signed false m u=((m*2^u:Nat):Int):=by
 unfold Ieee.signed;rw [Nat.shiftLeft_eq];rfl
theorem dB (m u:Nat):Ieee.signed true m u= -((m*2^u:Nat):Int):=by
 unfold Ieee.signed;rw [Nat.shiftLeft_eq];rfl
theorem Lc {x:Nat}(h0:sx .f32 x 0=true)(h1:pO .f32 x 1065353216=true):bd x 127:=by
 unfold bd;by_cases pd:x%2147483648<8388608;omega;by_cases ui:x%2147483648<2139095040;have hr:=xQ (by omega) ui;by_cases hb:x%2147483648≤127*8388608;exact hb;exfalso;rw [CQ hr k9] at h0;rw [xR hr EG] at h1;generalize x%2147483648=r at*;have hm:min (-149+((r/8388608 - 1:Nat):Int)) (-149+((126:Nat):Int))= -149+((126:Nat):Int):=by omega
 rw [hm] at h1;have e1:(-149+((r/8388608 - 1:Nat):Int) - (-149+((126:Nat):Int))).toNat=r/8388608 - 127:=by omega
 have e2:(-149+((126:Nat):Int) - (-149+((126:Nat):Int))).toNat=0:=by omega
 rw [e1,e2,bM] at h1;have hp: ∀u:Nat,1≤2^u:=fun u=>Nat.pos_of_ne_zero (by simp);cases hs:(x/2147483648%2==1) with
 |false=>
  rw [hs,bM] at h1;have h1:=of_decide_eq_true h1;have h1:(8388608+r%8388608)*2^(r/8388608 - 127)≤8388608*2^0:=Int.ofNat_le.1 h1;by_cases hq:r/8388608=127;rw [hq] at h1;omega;have:2^(r/8388608 - 127)=2*2^(r/8388608 - 128):=by
   rw [show r/8388608 - 127=(r/8388608 - 128)+1 by omega,Nat.pow_succ];omega
  rw [this] at h1;have h2:(8388608+r%8388608)*(2*1)≤(8388608+r%8388608)*(2*2^(r/8388608 - 128)):=Nat.mul_le_mul_left _ (Nat.mul_le_mul_left _ (hp _));omega
 |true=>
  rw [hs,dB,bM] at h0;have h0:=of_decide_eq_true h0;have:1≤(8388608+r%8388608)*2^((-149+((r/8388608 - 1:Nat):Int) - min (-149+((r/8388608 - 1:Nat):Int)) (-149))).toNat:=Nat.mul_pos (by omega) (hp _);omega
 exfalso;by_cases hi:x%2147483648=2139095040;have hr:Ieee.single.read x= .infinity (x/2147483648%2==1):=by
  unfold Ieee.Format.read;simp only [vP,rk,qi];rw [if_neg pd,if_neg ui,if_pos hi]
 have o0:FloatKind.f32.format.order x 0=some (if (x/2147483648%2==1) then .lt else .gt):=by
  show Ieee.Datum.order (Ieee.single.read x) (Ieee.single.read 0)=_;rw [hr,k9];rfl
 have o1:FloatKind.f32.format.order x 1065353216=some (if (x/2147483648%2==1) then .lt else .gt):=by
  show Ieee.Datum.order (Ieee.single.read x) (Ieee.single.read 1065353216)=_;rw [hr,EG];rfl
 unfold sx at h0;unfold pO at h1;rw [o0] at h0;rw [o1] at h1;revert h0 h1;cases (x/2147483648%2==1)<;>decide;have hr:Ieee.single.read x= .nan (x/2147483648%2==1) (x%2147483648 - 2139095040):=by
  unfold Ieee.Format.read;simp only [vP,rk,qi];rw [if_neg pd,if_neg ui,if_neg hi]
 have o0:FloatKind.f32.format.order x 0=none:=by
  show Ieee.Datum.order (Ieee.single.read x) (Ieee.single.read 0)=_;rw [hr];rfl
 unfold sx at h0;rw [o0] at h0;exact absurd h0 (by decide)
theorem EH (x:Nat):Ieee.single.read (Op.negFloat .f32 x)=(Ieee.single.read x).opposite:=by
 have e:Op.negFloat .f32 x=x^^^2^31:=rfl;have h1:(x^^^2^31)%2147483648=x%2147483648:=by
  show (x^^^2^31)%2^31=x%2^31;rw [Nat.xor_mod_two_pow,Nat.mod_self,Nat.xor_zero]
 have h2:(x^^^2^31)/2147483648%2=(x/2147483648%2)^^^1:=by
  show (x^^^2^31)/2^31%2^1=(x/2^31%2^1)^^^1;rw [Nat.xor_div_two_pow,Nat.xor_mod_two_pow]
 have h3:((x^^^2^31)/2147483648%2==1)= !(x/2147483648%2==1):=by
  rw [h2];rcases (show x/2147483648%2=0∨x/2147483648%2=1 by omega) with h|h<;>rw [h]<;>rfl
 rw [e];unfold Ieee.Format.read;simp only [vP,rk,qi,h1,h3];split;rfl;split;rfl;split;rfl;rfl
theorem CS (x y:Nat):Ieee.single.order (bz .f32 x) y=Ieee.single.order x y:=by
 rw [AJ];split;rename_i h;unfold Ieee.Format.order;have hr:Ieee.single.read x= .nan (x/2147483648%2==1) (x%2147483648 - 2139095040):=by
  unfold Ieee.Format.read;simp only [vP,rk,qi];rw [if_neg (by omega),if_neg (by omega),if_neg (by omega)]
 have FF: ∃s f,Ieee.single.read 2143289344= .nan s f:=⟨false,4194304,by decide⟩;obtain ⟨s,f,h2⟩:=FF;rw [hr,h2];rfl;rfl
theorem Ld {d c nc mc:Nat}{pc:Int}(hc:Ieee.single.read c= .number false mc pc)(hn:Ieee.single.read nc= .number true mc pc):
 (pO .f32 d c&&sx .f32 d nc)=(bif aW .f32 d 0 then pO .f32 (tE .f32 d) c else pO .f32 d c):=by
 have zp:pO .f32 (tE .f32 d) c=(Ieee.Datum.order (Ieee.single.read d).opposite (Ieee.single.read c)==some .lt||Ieee.Datum.order (Ieee.single.read d).opposite (Ieee.single.read c)==some .eq):=by
  unfold pO tE;show (Ieee.single.order _ _==_||Ieee.single.order _ _==_)=_;rw [CS];unfold Ieee.Format.order;rw [EH]
 cases hr:Ieee.single.read d with
 |nan s f=>
  have: ∀y,FloatKind.f32.format.order d y=none:=fun y=>by
   show Ieee.Datum.order (Ieee.single.read d) _=_;rw [hr];rfl
  unfold pO sx aW;rw [this,this,this];rfl
 |infinity s=>
  rw [zp,hr,hc];unfold pO sx aW;show ((Ieee.Datum.order (Ieee.single.read d) (Ieee.single.read c)==_||Ieee.Datum.order (Ieee.single.read d) (Ieee.single.read c)==_)&&(Ieee.Datum.order (Ieee.single.read d) (Ieee.single.read nc)==_||Ieee.Datum.order (Ieee.single.read d) (Ieee.single.read nc)==_))=bif Ieee.Datum.order (Ieee.single.read d) (Ieee.single.read 0)==_ then _ else (Ieee.Datum.order (Ieee.single.read d) (Ieee.single.read c)==_||Ieee.Datum.order (Ieee.single.read d) (Ieee.single.read c)==_);rw [hr,hc,hn,k9];cases s<;>rfl
 |number s m p=>
  rw [zp,hr,hc,xR hr hc,CQ hr hn,Ih hr k9];show _=bif _ then (some (compare (Ieee.signed (!s) m _) (Ieee.signed false mc _))==_||some (compare (Ieee.signed (!s) m _) (Ieee.signed false mc _))==_) else _;rw [Gz];generalize (p - min p pc).toNat=u;generalize (pc - min p pc).toNat=v;generalize (p - min p (-149)).toNat=u';generalize (-149 - min p (-149)).toNat=v';cases s with
  |false=>
   simp only [bM,dB,Bool.not_false];have h0: ¬(((m*2^u':Nat):Int)<((0*2^v':Nat):Int)):=by omega
   rw [decide_eq_false h0,cond_false];have h1: -((mc*2^v:Nat):Int)≤((m*2^u:Nat):Int):=by omega
   rw [decide_eq_true h1,Bool.and_true]
  |true=>
   simp only [bM,dB,Bool.not_true];have h1: -((m*2^u:Nat):Int)≤((mc*2^v:Nat):Int):=by omega
   rw [decide_eq_true h1,Bool.true_and];by_cases hm:m=0;subst hm;simp only [Nat.zero_mul];cases hv:(mc*2^v) with
   |zero=>rfl
   |succ n=>simp;omega
   have:0<m*2^u':=Nat.mul_pos (by omega) (Nat.pos_of_ne_zero (by simp));rw [decide_eq_true (show -((m*2^u':Nat):Int)<((0*2^v':Nat):Int) by omega),cond_true]
   congr 1
   apply propext;constructor<;>intro h<;>omega
end Go.Ide
namespace Go.Ide
theorem bY (u:Nat):0<2^u:=Nat.pos_of_ne_zero (by simp)
theorem QZ {neg:Bool}{n drop B:Nat}(h:B*2^drop≤n):B≤Ieee.Toward.cut .even neg n drop:=by
 unfold Ieee.Toward.cut;simp only [Nat.one_shiftLeft];refine Nat.le_trans ?_ (Nat.le_add_right _ _);by_cases hd:drop≤n.log2+2;rw [Nat.min_eq_left hd];exact (Nat.le_div_iff_mul_le (bY _)).2 h;have cp:n<2^(n.log2+1):=Nat.lt_log2_self;have hle:2^(n.log2+1)≤2^drop:=Nat.pow_le_pow_right (by omega) (by omega);by_cases hB:B=0;subst hB;exact Nat.zero_le _;have:1*2^drop≤B*2^drop:=Nat.mul_le_mul_right _ (by omega);omega
end Go.Ide
