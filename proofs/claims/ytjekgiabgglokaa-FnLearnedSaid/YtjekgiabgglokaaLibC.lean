import Derived.Test.YtjekgiabgglokaaLibB
import Derived.RangeFuncWrites
import Derived.ProofKit
import Derived.Deep.Slices
import Derived.IntWalk
set_option linter.unusedVariables false
set_option linter.unusedSimpArgs false
set_option linter.unusedSectionVars false
namespace Go.Ide
section
variable {w w':World} {D:Nat} {S:Nat→Prop}
theorem NZ {o:Obj}(hD:w.heap[D]? =some o)(hn:o.isCells=false){a:Addr}{v:Value}(h:w.cell? a=some v):a.block≠D:=fun e=>by
 obtain ⟨o',h1,h2⟩:=cells_of_cell h;rw [e,hD] at h1;injection h1 with h1;subst h1;rw [hn] at h2;cases h2
theorem pZ {o:Obj}(hD:w.heap[D]? =some o)(hn:o.isCells=false){ad:Addr}{es:List Value}{n k:Nat}(hl:es.length=n)(h0:0<n)(hc: ∀j v,es[j]? =some v→w.cell? (ad.add (k+j))=some v):ad.block≠D:=by
 obtain ⟨v,hv⟩: ∃v,es[0]? =some v:=⟨es[0],List.getElem?_eq_getElem (by omega)⟩;have:=NZ hD hn (hc 0 v hv);rwa [gW] at this
theorem bS.ff {o:Obj}(hD:w.heap[D]? =some o)(hn:o.isCells=false): ∀(t:Ty) (cs:List Value) (x:t.D),bS S w t cs x→bS (fun b=>S b∧b≠D) w t cs x
 | .int _,_,_,hr=>hr
 | .aX _,_,_,hr=>hr
 | .bool,_,_,hr=>hr
 | .str,_,_,hr=>hr
 | .pair a b,_,x,⟨c1,c2,e,h1,h2⟩=>⟨c1,c2,e,bS.ff hD hn a c1 x.1 h1,bS.ff hD hn b c2 x.2 h2⟩
 | .st t,cs,x,hr=>bS.ff hD hn t cs x hr
 | .sl t,_,xs,⟨a,cap,e,hc,hr⟩=>⟨a,cap,e,hc,fun i hi=>by
  obtain ⟨ad,es,ea,hs,br,cJ⟩:=hr i hi;exact ⟨ad,es,ea,⟨hs,pZ hD hn (bS.len t es _ cJ) t.size_pos br⟩,br,bS.ff hD hn t es _ cJ⟩⟩
 | .own t,_,xs,⟨a,cap,e,hc,hr⟩=>⟨a,cap,e,hc,fun i hi=>by
  obtain ⟨ad,es,ea,hs,br,cJ⟩:=hr i hi;exact ⟨ad,es,ea,⟨hs,pZ hD hn (bS.len t es _ cJ) t.size_pos br⟩,br,bS.ff hD hn t es _ cJ⟩⟩
 | .bx t,_,xs,⟨ad,e,hr⟩=>⟨ad,e,fun i hi=>by
  obtain ⟨es,hs,br,cJ⟩:=hr i hi;exact ⟨es,⟨hs,pZ hD hn (bS.len t es _ cJ) t.size_pos br⟩,br,bS.ff hD hn t es _ cJ⟩⟩
variable {g:GM} {m:Mem}
theorem CR.ff {o:Obj}(hD:w.heap[D]? =some o)(hn:o.isCells=false){c:aA}{v:Value}(hr:CR g m S w c v):CR g m (fun b=>S b∧b≠D) w c v:=by
 cases c with
 |aq t x=>exact bS.ff hD hn t [v] x hr
 |ip t x off=>
  obtain ⟨ad,es,e,hs,br,cJ⟩:=hr;exact ⟨ad,es,e,⟨hs,pZ (k:=0) hD hn (bS.len t es _ cJ) t.size_pos (fun j u hu=>by rw [Nat.zero_add];exact br j u hu)⟩,br,bS.ff hD hn t es x cJ⟩
 |nM f t x=>
  obtain ⟨ad,es,e,hs,br,cJ⟩:=hr;exact ⟨ad,es,e,⟨hs,pZ (k:=0) hD hn (bS.len t es _ cJ) t.size_pos (fun j u hu=>by rw [Nat.zero_add];exact br j u hu)⟩,br,bS.ff hD hn t es x cJ⟩
 |ptr=>exact hr
 |iy=>exact hr
 |all=>exact hr
 |ref=>exact hr
 |row=>exact hr
 |AW=>exact hr
 |ar=>exact hr
 |fn=>exact hr
 |jk=>exact hr
 |bad=>trivial
theorem VR.ff {o:Obj}(hD:w.heap[D]? =some o)(hn:o.isCells=false): ∀{c:aE} {v:Value},VR g m S w c v→VR g m (fun b=>S b∧b≠D) w c v
 | .one _,_,hr=>CR.ff hD hn hr
 | .agg _,_,⟨vs,e,hr⟩=>⟨vs,e,hr.mono fun _ _=>CR.ff hD hn⟩
 | .HM _,_,⟨vs,e,hr⟩=>⟨vs,e,hr.mono fun t v hc=>by
  unfold CV at hc⊢;split at hc;obtain ⟨us,e',hu⟩:=hc;exact ⟨us,e',hu.mono fun _ _=>CR.ff hD hn⟩;exact CR.ff hD hn hc;exact hc.elim⟩
 | .FQ,_,h=>h
 | .jk,_,_=>trivial
theorem cX.ff {ob:Obj}(hD:w.heap[D]? =some ob)(hn:ob.isCells=false): ∀(t:Ty) {γ:List Nat→Option Nat} {o:Nat} {cs:List Value} {x:t.D},cX S w t γ o cs x→cX (fun b=>S b∧b≠D) w t γ o cs x
 | .own t,γ,o,cs,xs,⟨v,e,ha,hr⟩=>by
  refine ⟨v,e,ha,?_⟩;cases hg:γ [o] with
  |none=>rw [hg] at hr;exact hr
  |some b=>
   rw [hg] at hr;obtain ⟨arr,hb,hi⟩:=hr;exact ⟨arr,hb,fun i hl=>let ⟨es,h1,h2⟩:=hi i hl;⟨es,h1,cX.ff hD hn t h2⟩⟩
 | .pair a b,γ,o,cs,x,⟨c1,c2,e,h1,h2⟩=>⟨c1,c2,e,cX.ff hD hn a h1,cX.ff hD hn b h2⟩
 | .st t,γ,o,cs,x,hr=>cX.ff hD hn t (o:=o) (cs:=cs) (x:=x) hr
 | .int k,_,_,cs,x,hr=>bS.ff hD hn (.int k) cs x hr
 | .aX k,_,_,cs,x,hr=>bS.ff hD hn (.aX k) cs x hr
 | .bool,_,_,cs,x,hr=>bS.ff hD hn .bool cs x hr
 | .str,_,_,cs,x,hr=>bS.ff hD hn .str cs x hr
 | .sl t,_,_,cs,x,hr=>bS.ff hD hn (.sl t) cs x hr
 | .bx t,_,_,cs,x,hr=>bS.ff hD hn (.bx t) cs x hr
theorem kd.ff {o:Obj}(hD:w.heap[D]? =some o)(hn:o.isCells=false){γ:List Nat→Option Nat}{ch:Chunk}(hr:kd g m S w γ ch):kd g m (fun b=>S b∧b≠D) w γ ch:=by
 cases ch with
 |gone=>trivial
 |box cs=>
  obtain ⟨b,arr,e,jL,hc⟩:=hr;exact ⟨b,arr,e,jL,hc.mono fun _ _=>CR.ff hD hn⟩
 |seq t xs=>
  cases hγ:γ [] with
  |none=>simp only [kd,hγ] at hr⊢;exact hr
  |some b=>
   simp only [kd,hγ] at hr⊢;obtain ⟨arr,jL,he⟩:=hr;exact ⟨arr,jL,fun i hi=>let ⟨es,h1,h2⟩:=he i hi;⟨es,h1,cX.ff hD hn t h2⟩⟩
 |rB t xs i cs ks=>
  obtain ⟨HQ,b,arr,e,jL,hi,hj,es,h1,h2,h3⟩:=hr;refine ⟨HQ,b,arr,e,jL,hi,fun j hl jq=> ?_,es,h1,h2,h3.mono fun _ _=>CR.ff hD hn⟩;obtain ⟨es,k1,k2⟩:=hj j hl jq;exact ⟨es,k1,cX.ff hD hn t k2⟩
end
section
variable {cx:Cx} {g:GM} {st:St} {a:Act} {w w':World}
theorem dw.Uo {D:Nat}{o:Obj}(h:dw cx g st a w)(hD:w.heap[D]? =some o)(hn:o.isCells=false)(hw:cx.w0.heap.size≤D)(hos:w'.os=w.os)(ZB:w'.tape=w.tape)(hou:w'.output=w.output)(fG:w.heap.size≤w'.heap.size)(hb: ∀b,b<w.heap.size→b≠D→w'.heap[b]? =w.heap[b]?){a':Act}(ht:a'.tmps=a.tmps)(hd:FX cx g st.mem w' a'.defers):dw cx g st a' w':=by
 have hDl:D<w.heap.size:=(Array.getElem?_eq_some_iff.1 hD).1;have dx: ∀b arr,dy w b arr→dy w' b arr:=fun b arr Up=>Up.keep (hb b Up.lt (fun e=>by
  obtain ⟨T,lo,hi,h1,_⟩:=Up;rw [e,hD] at h1;injection h1 with h1;subst h1;cases hn))
 have dN: ∀b,(cx.safe g st.mem w b∧b≠D)→cx.safe g st.mem w' b∧w'.heap[b]? =w.heap[b]? :=fun b ⟨⟨h1,h2,h3⟩,h4⟩=>⟨⟨Nat.lt_of_lt_of_le h1 fG,h2,h3⟩,hb b h1 h4⟩;have mN:nI g g st.mem st.mem (fun b=>cx.safe g st.mem w b∧b≠D) (cx.safe g st.mem w') w w':={
  safe:=dN
  u5:=fun c hc=>⟨hc,rfl⟩
  old:=fun c t xs _ hs=>⟨xs,hs,rfl⟩
  dy:=fun c t xs b arr _ _ _ ke=>⟨arr,dx b arr ke,rfl⟩
  HO:=fun c _=>rfl
  rows:=fun c t cE _ hc=>⟨cE,hc,cl.refl _ _,fun i o b arr _ ke=>⟨arr,dx b arr ke,rfl⟩⟩}
 refine ⟨hd,by rw [ht];exact h.size,fun t v sW=>by rw [ht];exact VR.stays mN (VR.ff hD hn (h.fr t v sW)),fun k ch hk=> ?_,h.lz,h.rC,fun k p ch b h1 h2 h3=>Nat.lt_of_lt_of_le (h.lt k p ch b h1 h2 h3) fG,?_,h.own,h.gl⟩;have cY:=kd.ff hD hn (h.mem k ch hk);revert cY;generalize hγ:g.f k=γ;intro cY;have oZ: ∀(t:Ty) {γ:List Nat→Option Nat} {o:Nat} {cs:List Value} {x:t.D},cX (fun b=>cx.safe g st.mem w b∧b≠D) w t γ o cs x→cX (cx.safe g st.mem w') w' t γ o cs x:=by
  intro t;induction t with
  |own t ih=>
   intro γ o cs xs ⟨v,e,ha,hr⟩;refine ⟨v,e,ha.stays fun b arr _ ke=>⟨arr,dx b arr ke,rfl⟩,?_⟩;cases hg:γ [o] with
   |none=>rw [hg] at hr;exact hr
   |some b=>
    rw [hg] at hr;obtain ⟨arr,ke,hi⟩:=hr;exact ⟨arr,dx b arr ke,fun i hl=>let ⟨es,h1,h2⟩:=hi i hl;⟨es,h1,ih h2⟩⟩
  |pair a b Qz QA=>exact fun ⟨c1,c2,e,h1,h2⟩=>⟨c1,c2,e,Qz h1,QA h2⟩
  |st t ih=>exact fun {γ o cs x} hr=>ih (γ:=γ) (o:=o) (cs:=cs) (x:=x) hr
  |int k=>exact fun {γ o cs x} hr=>bS.keep dN (.int k) cs x hr
  |aX k=>exact fun {γ o cs x} hr=>bS.keep dN (.aX k) cs x hr
  |bool=>exact fun {γ o cs x} hr=>bS.keep dN .bool cs x hr
  |str=>exact fun {γ o cs x} hr=>bS.keep dN .str cs x hr
  |sl t _=>exact fun {γ o cs x} hr=>bS.keep dN (.sl t) cs x hr
  |bx t _=>exact fun {γ o cs x} hr=>bS.keep dN (.bx t) cs x hr
 cases ch with
 |gone=>trivial
 |box cs=>
  obtain ⟨b,arr,e,jL,hc⟩:=cY;exact ⟨b,arr,e,dx b arr jL,hc.mono fun _ _=>CR.stays mN⟩
 |seq t xs=>
  cases Uq:γ [] with
  |none=>simp only [kd,Uq] at cY⊢;exact cY
  |some b=>
   simp only [kd,Uq] at cY⊢;obtain ⟨arr,jL,he⟩:=cY;exact ⟨arr,dx b arr jL,fun i hi=>let ⟨es,h1,h2⟩:=he i hi;⟨es,h1,oZ t h2⟩⟩
 |rB t xs i cs ks=>
  obtain ⟨HQ,b,arr,e,jL,hi,hj,es,h1,h2,h3⟩:=cY;refine ⟨HQ,b,arr,e,dx b arr jL,hi,fun j hl jq=> ?_,es,h1,h2,h3.mono fun _ _=>CR.stays mN⟩;obtain ⟨es,k1,k2⟩:=hj j hl jq;exact ⟨es,k1,oZ t k2⟩
 refine ⟨hos.trans h.keep.os,ZB.trans h.keep.tape,hou.trans h.keep.output,Nat.le_trans h.keep.size fG,fun b h1 h2=> ?_,fun b arr Up=> ?_⟩;rw [hb b (Nat.lt_of_lt_of_le h1 h.keep.size) (by omega)];exact h.keep.block b h1 h2;obtain ⟨aG,h1,h2⟩:=h.keep.sz b arr Up;exact ⟨aG,dx b aG h1,h2⟩
end
end Go.Ide
namespace Go.Ide
def toIV (t:Ty)(cs:List aA):aE:=if t.yN then .agg cs else (match cs with|[c]=> .one c|_=> .jk)
def dt:List Arg→Nat→Nat→Fr×List Chunk
 |[],_,_=>([],[])
 | .au t x::r,i,n=>((i,toIV t (il t x))::(dt r (i+1) n).1,(dt r (i+1) n).2)
 | .gO t x::r,i,n=>((i,.one (.ip t x 0))::(dt r (i+1) n).1,(dt r (i+1) n).2)
 | .fn f::r,i,n=>((i,.one (.fn f))::(dt r (i+1) n).1,(dt r (i+1) n).2)
 | .nM f t x::r,i,n=>((i,.one (.nM f t x))::(dt r (i+1) n).1,(dt r (i+1) n).2)
 | .nl::r,i,n=>((i,.one .ar)::(dt r (i+1) n).1,(dt r (i+1) n).2)
 | .mv t x::r,i,n=>
  ((i,toIV t (cn t x n).1)::(dt r (i+1) (n+(cn t x n).2.length)).1,(cn t x n).2++(dt r (i+1) (n+(cn t x n).2.length)).2)
 | .own t x::r,i,n=>
  ((i,toIV t (cn t x n).1)::(dt r (i+1) (n+(cn t x n).2.length)).1,(cn t x n).2++(dt r (i+1) (n+(cn t x n).2.length)).2)
def JH (j:Nat):List Nat→Bool
 |[]=>false
 |a::l=>Nat.beq j a||JH j l
theorem EK {j:Nat}: ∀{l:List Nat},JH j l=true↔j∈l
 |[]=>by simp [JH]
 |a::l=>by simp [JH,EK (l:=l)]
def iL:List Arg→Nat→List Nat
 |[],_=>[]
 | .own t x::r,n=>List.range' n (cn t x n).2.length++iL r (n+(cn t x n).2.length)
 | .mv t x::r,n=>iL r (n+(cn t x n).2.length)
 | .au _ _::r,n=>iL r n
 | .gO _ _::r,n=>iL r n
 | .fn _::r,n=>iL r n
 | .nM _ _ _::r,n=>iL r n
 | .nl::r,n=>iL r n
def wG (args:List Arg):St:=⟨(dt args 0 0).1,bG 0 (dt args 0 0).2,(dt args 0 0).2.length⟩
def EL (P:Program)(m:Mem)(fr:Fr):List ResultVar→Option (List aE)
 |[]=>some []
 | .tmp t::r=>match lk t fr,EL P m fr r with
  |some v,some l=>some (v::l)
  |_,_=>none
 | .cell t T::r=>match lk t fr,EL P m fr r with
  |some (.one (.ptr c off)),some l=>(match pN P m T (.one (.ptr c off)) with
   |some e=>some (e.val::l)
   |none=>none)
  |_,_=>none
def Gw (m:Mem):List (Bool×Ty)→List aE→Option (List RV×List Nat)
 |[],[]=>some ([],[])
 |(fresh,t)::ts,v::vs=>match Gw m ts vs with
  |some (rs,ks)=>if fresh then (match mr m t v,dA m t v.cells with
   |some x,some (k,[])=>some (⟨true,t,x⟩::rs,k++ks)
   |_,_=>none) else (match mr [] t v with
   |some x=>some (⟨false,t,x⟩::rs,ks)
   |none=>none)
  |none=>none
 |_,_=>none
def gi (m:Mem):(t:Ty)→t.D→Nat→Option (t.D×Nat×List Prop)
 | .pair a b,x,n=>match gi m a x.1 n with
  |some (y,n1,c1)=>(match gi m b x.2 n1 with
   |some (z,n2,c2)=>some ((y,z),n2,c1++c2)
   |none=>none)
  |none=>none
 | .st t,x,n=>gi m t x n
 | .sl t,xs,n=>match lk n m with
  |some (.seq t' ys)=>if h:t'=t then some (cG (congrArg Ty.sl h) ys,n+1,bif t.top then [List.length ys=List.length xs] else [cl t xs (cG (a:= .sl t') (b:= .sl t) (congrArg Ty.sl h) ys)]) else none
  |_=>none
 | .own t,xs,n=>match lk n m with
  |some (.seq t' ys)=>if h:t'=t then some ((cG (a:= .sl t') (b:= .sl t) (congrArg Ty.sl h) ys:List t.D),n+1,bif t.top then [List.length ys=List.length xs] else [cl t xs (cG (a:= .sl t') (b:= .sl t) (congrArg Ty.sl h) ys)]) else none
  |_=>none
 | .bx t,xs,n=>match lk n m with
  |some (.seq t' ys)=>if h:t'=t then some ((cG (a:= .sl t') (b:= .sl t) (congrArg Ty.sl h) ys:List t.D),n+1,bif t.top then [List.length ys=List.length xs] else [cl t xs (cG (a:= .sl t') (b:= .sl t) (congrArg Ty.sl h) ys)]) else none
  |_=>none
 | .int _,x,n=>some (x,n,[])
 | .aX _,x,n=>some (x,n,[])
 | .bool,x,n=>some (x,n,[])
 | .str,x,n=>some (x,n,[])
def je (m:Mem):List Arg→Nat→Option (List TD×List Prop)
 |[],_=>some ([],[])
 | .own t x::r,n=>match gi m t x n with
  |some (y,n1,c1)=>(match je m r n1 with
   |some (l,c2)=>some (⟨t,y⟩::l,c1++c2)
   |none=>none)
  |none=>none
 | .mv t x::r,n=>je m r (n+(cn t x n).2.length)
 | .au _ _::r,n=>je m r n
 | .gO _ _::r,n=>je m r n
 | .fn _::r,n=>je m r n
 | .nM _ _ _::r,n=>je m r n
 | .nl::r,n=>je m r n
def EM (P:Program)(fn:Func)(args:List Arg)(ts:List (Bool×Ty))(rs:List RV)(outs:List TD)(st:St):Prop:=
 ∃vs ks cs,EL P st.mem st.fr fn.results.toList=some vs∧Gw st.mem ts vs=some (rs,ks)∧mw ks=true∧ks.all (fun k=> !(JH k (iL args 0)))=true∧je st.mem args 0=some (outs,cs)∧bH cs
def Ur (P:Program)(fn:Func)(args:List Arg)(ts:List (Bool×Ty))(rs:List RV)(outs:List TD):Exit→St→Prop
 | .normal,st=>EM P fn args ts rs outs st
 | .ret,st=>EM P fn args ts rs outs st
 |_,_=>False
section
variable {S:Nat→Prop} {w:World}
theorem toIV_VR {g:GM}{m:Mem}{t:Ty}{cs:List Value}{mO:List aA}{v:Value}(h:dO t cs v)(ha:bB (CR g m S w) mO cs):VR g m S w (toIV t mO) v:=by
 unfold dO at h;unfold toIV;split;rename_i mN;rw [if_pos mN] at h;exact ⟨cs,h,ha⟩;rename_i mN;rw [if_neg mN] at h;subst h;cases mO with
 |nil=>exact ha.elim
 |cons c r=>
  cases r with
  |nil=>exact ha.1
  |cons=>exact ha.2.elim
theorem wH {S2:Nat→Prop}(hS: ∀b,S b→S2 b): ∀{args:List Arg} {vals:List Value} {As:List (List (List Nat→Option Nat))} (i n:Nat),rD S w args vals As→As.flatten.length=(dt args i n).2.length∧rD S2 w args vals As∧
 ∀(g':GM) (m':Mem),(∀j ch,(dt args i n).2[j]? =some ch→lk (n+j) m'=some ch)→(∀j o,As.flatten[j]? =some o→g'.f (n+j)=o)→
  (∀t v,lk t (dt args i n).1=some v→i≤t∧ ∃u,vals[t - i]? =some u∧VR g' m' S2 w v u)∧Laid g' m' S2 w n (dt args i n).2 As.flatten
 |[],[],[],i,n,_=>⟨rfl,trivial,fun g' m' _ _=>⟨fun t v h=>by simp [dt,gI] at h,rfl,fun j ch hj=>by simp [dt] at hj⟩⟩
 |arg::args,v::vals,F::Fs,i,n,⟨h1,h2⟩=>by
  have plain: ∀(iv:aE),F=[]→dt (arg::args) i n=((i,iv)::(dt args (i+1) n).1,(dt args (i+1) n).2)→(∀(g':GM) (m':Mem),VR g' m' S2 w iv v)→Jn S2 w arg v F→
   (F::Fs).flatten.length=(dt (arg::args) i n).2.length∧rD S2 w (arg::args) (v::vals) (F::Fs)∧
   ∀(g':GM) (m':Mem),(∀j ch,(dt (arg::args) i n).2[j]? =some ch→lk (n+j) m'=some ch)→(∀j o,(F::Fs).flatten[j]? =some o→g'.f (n+j)=o)→
    (∀t u,lk t (dt (arg::args) i n).1=some u→i≤t∧ ∃x,(v::vals)[t - i]? =some x∧VR g' m' S2 w u x)∧Laid g' m' S2 w n (dt (arg::args) i n).2 (F::Fs).flatten:=by
   intro iv hF he hv hA;obtain ⟨k1,k2,k3⟩:=wH hS (i+1) n h2;have Ti:(F::Fs).flatten=Fs.flatten:=by rw [hF];rfl
   rw [Ti];refine ⟨by rw [he];exact k1,⟨hA,k2⟩,fun g' m' hm hg=> ?_⟩;rw [he] at hm⊢;obtain ⟨q1,q2⟩:=k3 g' m' hm hg;refine ⟨fun t u hl=> ?_,q2⟩;simp only at hl;rw [aS] at hl;split at hl;rename_i e;subst e;injection hl with hl;subst hl;exact ⟨Nat.le_refl _,v,by simp,hv g' m'⟩;obtain ⟨a1,x,a2,a3⟩:=q1 t u hl;refine ⟨by omega,x,?_,a3⟩;rw [show t - i=(t - (i+1))+1 from by omega];simpa using a2
  have owned: ∀(t:Ty) (x:t.D),dt (arg::args) i n=((i,toIV t (cn t x n).1)::(dt args (i+1) (n+(cn t x n).2.length)).1,(cn t x n).2++(dt args (i+1) (n+(cn t x n).2.length)).2)→
   (∃cs,dO t cs v∧dh S w t cs x F)→((∃cs,dO t cs v∧dh S2 w t cs x F)→Jn S2 w arg v F)→
   (F::Fs).flatten.length=(dt (arg::args) i n).2.length∧rD S2 w (arg::args) (v::vals) (F::Fs)∧
   ∀(g':GM) (m':Mem),(∀j ch,(dt (arg::args) i n).2[j]? =some ch→lk (n+j) m'=some ch)→(∀j o,(F::Fs).flatten[j]? =some o→g'.f (n+j)=o)→
    (∀t u,lk t (dt (arg::args) i n).1=some u→i≤t∧ ∃x,(v::vals)[t - i]? =some x∧VR g' m' S2 w u x)∧Laid g' m' S2 w n (dt (arg::args) i n).2 (F::Fs).flatten:=by
   intro t x he ⟨cs,hv,ho⟩ hA;have ho:=dh.mono hS t ho;obtain ⟨l2,b2,k2⟩:=wH hS (i+1) (n+(cn t x n).2.length) h2;have l1:F.length=(cn t x n).2.length:=by rw [fy,dh.uq t ho]
   rw [List.flatten_cons];refine ⟨by rw [he];simp only [List.length_append,l1,l2],⟨hA ⟨cs,hv,ho⟩,b2⟩,fun g' m' hm hg=> ?_⟩;rw [he] at hm⊢;obtain ⟨p1,q1⟩:=pS t n ho g' m' (fun j ch hj=>hm j ch (by
    simp only;rw [List.getElem?_append_left (List.getElem?_eq_some_iff.1 hj).1];exact hj)) (fun j o hj=>hg j o (by
    rw [List.getElem?_append_left (List.getElem?_eq_some_iff.1 hj).1];exact hj))
   obtain ⟨p2,q2⟩:=k2 g' m' (fun j ch hj=>by
    rw [Nat.add_assoc];refine hm _ ch ?_;simp only;rw [List.getElem?_append_right (by omega)];simpa using hj) (fun j o hj=>by
    rw [Nat.add_assoc];refine hg _ o ?_;rw [List.getElem?_append_right (by omega),l1];simpa using hj)
   refine ⟨fun t' u hl=> ?_,q1.app q2⟩;simp only at hl;rw [aS] at hl;split at hl;rename_i e;subst e;injection hl with hl;subst hl;exact ⟨Nat.le_refl _,v,by simp,toIV_VR hv p1⟩;obtain ⟨a1,x,a2,a3⟩:=p2 t' u hl;refine ⟨by omega,x,?_,a3⟩;rw [show t' - i=(t' - (i+1))+1 from by omega];simpa using a2
  cases arg with
  |au t x=>
   obtain ⟨hF,cs,hv,hr⟩:=h1;have F9:=bS.keep (fun b hb=>⟨hS b hb,rfl⟩) t cs x hr;exact plain _ hF rfl (fun g' m'=>toIV_VR hv (lG t F9)) ⟨hF,cs,hv,F9⟩
  |gO t x=>
   obtain ⟨hF,ad,es,e,hs,br,hr⟩:=h1;have F9:=bS.keep (fun b hb=>⟨hS b hb,rfl⟩) t es x hr;exact plain _ hF rfl (fun g' m'=>⟨ad,es,by rw [e];simp [Addr.add],hS _ hs,br,F9⟩) ⟨hF,ad,es,e,hS _ hs,br,F9⟩
  |fn f=>
   obtain ⟨hF,e⟩:=h1;exact plain _ hF rfl (fun g' m'=>e) ⟨hF,e⟩
  |nM f t x=>
   obtain ⟨hF,ad,es,e,hs,br,hr⟩:=h1;have F9:=bS.keep (fun b hb=>⟨hS b hb,rfl⟩) t es x hr;exact plain _ hF rfl (fun g' m'=>⟨ad,es,e,hS _ hs,br,F9⟩) ⟨hF,ad,es,e,hS _ hs,br,F9⟩
  |nl=>
   obtain ⟨hF,e⟩:=h1;exact plain _ hF rfl (fun g' m'=>e) ⟨hF,e⟩
  |own t x=>exact owned t x rfl h1 fun h=>h
  |mv t x=>exact owned t x rfl h1 fun h=>h
 |[],[],_::_,_,_,h=>h.elim
 |[],_::_,_,_,_,h=>h.elim
 |_::_,[],_,_,_,h=>h.elim
 |_::_,_::_,[],_,_,h=>h.elim
end
section
variable {cx:Cx} {g:GM} {st:St} {a:Act} {w:World}
def JI (tmps:Array Value):ResultVar→Sem Value
 | .tmp t=>pure (tmps.getD t undef)
 | .cell x t=>do loadVar t (←asAddr (tmps.getD x undef))
theorem zC (h:dw cx g st a w): ∀{rl:List ResultVar} {vs:List aE},EL cx.P st.mem st.fr rl=some vs→
 ∃vals:List Value,(rl.mapM (JI a.tmps)).run cx.P w= .ok vals w∧bB (VR g st.mem (cx.safe g st.mem w) w) vs vals
 |[],vs,he=>by simp only [EL] at he;injection he with he;subst he;exact ⟨[],rfl,trivial⟩
 | .tmp t::rl,vs,he=>by
  simp only [EL] at he;split at he;rename_i v l hv hl;injection he with he;subst he;obtain ⟨vals,h1,h2⟩:=zC h hl;exact ⟨a.tmps.getD t undef::vals,by simp [List.mapM_cons,JI,h1],h.fr t v hv,h2⟩;cases he
 | .cell t T::rl,vs,he=>by
  simp only [EL] at he;split at he;rename_i c off l hv hl;split at he;rename_i e zk;injection he with he;subst he;obtain ⟨vals,h1,h2⟩:=zC h hl;have yz:=h.fr t _ hv;have gX:e.cond=[]:=by
   unfold pN at zk;split at zk;rename_i e1 _ _;cases e1;rename_i e1 _ _;cases e1;split at zk;split at zk;unfold bZ at zk;injection zk with zk;rw [←zk]
   cases zk;cases zk;cases zk
  obtain ⟨_,_,r,h3,h4⟩:=rY h.mem zk (by rw [gX];trivial) yz;obtain ⟨_,b,_,e1⟩:=yz;rw [e1] at h3;simp only [Instr.loadAt,Instr.sureAddr,Sem.run_bind,Sem.run_pure,Result.andThen_ok] at h3;exact ⟨r::vals,by simp [List.mapM_cons,JI,e1,asAddr,h3,h1],h4,h2⟩;cases he;cases he
theorem K5 (hm:lj g st.mem (cx.safe g st.mem w) w){t:Ty}{v:aE}{x:t.D}{ks:List Nat}{u:Value}(hx:mr st.mem t v=some x)(hk:dA st.mem t v.cells=some (ks,[]))(hv:VR g st.mem (cx.safe g st.mem w) w v u):
 ∃cs A,dO t cs u∧dh (cx.safe g st.mem w) w t cs x A∧kg g st.mem ks A:=by
 have ns: ∃vcs,dO t vcs u∧bB (CR g st.mem (cx.safe g st.mem w) w) v.cells vcs∧impl st.mem t v.cells=some (x,[]):=by
  unfold mr at hx;split at hx;rename_i c mN;split at hx;rename_i y hy;injection hx with hx;subst hx;exact ⟨[u],by simp [dO,mN],⟨hv,trivial⟩,hy⟩;cases hx;rename_i cs mN;split at hx;rename_i y hy;injection hx with hx;subst hx;obtain ⟨Tf,e,kI⟩:=hv;exact ⟨Tf,by simp [dO,mN,e],kI,hy⟩;cases hx;cases hx
 obtain ⟨vcs,hval,bN,himp⟩:=ns;obtain ⟨v1,v2,A,e1,o1,a1,q1,s1,_⟩:=CJ hm (fun _ h=>h) t himp hk bN;have:v2=[]:=by cases v2 with|nil=>rfl|cons=>exact a1.elim
 subst this;rw [List.append_nil] at e1;subst e1;exact ⟨vcs,A,hval,o1,s1⟩
theorem EN (h:dw cx g st a w): ∀{ts:List (Bool×Ty)} {vs:List aE} {vals:List Value} {rs:List RV} {ks:List Nat},Gw st.mem ts vs=some (rs,ks)→bB (VR g st.mem (cx.safe g st.mem w) w) vs vals→
 ∃A,nR (cx.safe g st.mem w) w rs vals A∧kg g st.mem ks A
 |[],[],vals,rs,ks,he,hv=>by
  simp only [Gw] at he;injection he with he;injection he with e1 e2;subst e1;subst e2;cases vals with
  |nil=>exact ⟨[],rfl,kg.nil⟩
  |cons=>exact hv.elim
 |(fresh,t)::ts,v::vs,[],rs,ks,he,hv=>hv.elim
 |(fresh,t)::ts,v::vs,u::vals,rs,ks,he,hv=>by
  simp only [Gw] at he;split at he;rename_i rs1 Te h1;obtain ⟨A,k1,k2⟩:=EN h h1 hv.2;split at he;rename_i hf;split at he;rename_i x k hx hk;injection he with he;injection he with e1 e2;subst e1;subst e2;obtain ⟨cs,A1,q1,q2,q3⟩:=K5 h.mem hx hk hv.1;refine ⟨A1++A,⟨A1,A,rfl,?_,k1⟩,q3.app k2⟩;unfold zg;rw [if_pos rfl];exact ⟨cs,q1,q2⟩;cases he;rename_i hf;split at he;rename_i x hx;injection he with he;injection he with e1 e2;subst e1;subst e2;obtain ⟨cs,q1,q2⟩:=pO (S2:=cx.safe g st.mem w) (fun _ h=>h) i9.nil hx hv.1;refine ⟨A,⟨[],A,rfl,?_,k1⟩,k2⟩;unfold zg;rw [if_neg (by simp)];exact ⟨rfl,cs,q1,q2⟩;cases he;cases he
 |[],_::_,_,_,_,he,_=>by simp [Gw] at he
 |_::_,[],_,_,_,he,_=>by cases he
end
theorem EO {S S':Nat→Prop}{w0 w:World}{g:GM}{m:Mem}(hm:lj g m S' w)(hk: ∀b arr,dy w0 b arr→ ∃aG,dy w b aG∧aG.size=arr.size){t:Ty}{cs:List Value}{xs ys:List t.D}{A:List (List Nat→Option Nat)}{n:Nat}(ho:gw S w0 t cs xs A)(hl:lk n m=some (.seq t ys))(hc:bH (bif t.top then [List.length ys=List.length xs] else [cl t xs ys]))(h3: ∀j o,A[j]? =some o→g.f (n+j)=o):A.length=1∧gw S' w t cs ys A∧cl t xs ys:=by
 have uW:cl t xs ys:=by
  cases ht:t.top with
  |true=>rw [ht] at hc;exact cl.top ht hc.1.symm
  |false=>rw [ht] at hc;exact hc.1
 have hlen:ys.length=xs.length:=uW.1.symm;have cY:=hm n _ hl;rcases ho with ⟨hF,hx,a,e⟩|⟨v,γ,hF,e,b,cap,arr,h0,ev,q1,q2,q3,q4,q5,q6⟩
 subst hF;refine ⟨rfl,.inl ⟨rfl,?_,a,e⟩,uW⟩;rw [hx] at hlen;exact List.eq_nil_of_length_eq_zero hlen;subst hF;have hg:=h3 0 γ rfl;rw [Nat.add_zero] at hg;unfold kd at cY;rw [hg,h0] at cY;obtain ⟨aG,r1,r2⟩:=cY;obtain ⟨qx,s1,s2⟩:=hk b arr q3;have:=s1.eq r1;subst this;exact ⟨rfl,.inr ⟨v,γ,rfl,e,b,cap,qx,h0,by rw [hlen];exact ev,by rw [hlen];exact q1,q2,r1,by rw [s2];exact q4,q5,r2⟩,uW⟩
theorem K6 {S S':Nat→Prop}{w0 w:World}{g:GM}{m:Mem}(hm:lj g m S' w)(hk: ∀b arr,dy w0 b arr→ ∃aG,dy w b aG∧aG.size=arr.size){t:Ty}{cs:List Value}{xs ys:List t.D}{A:List (List Nat→Option Nat)}{n:Nat}(ho:Bz S w0 t cs xs A)(hl:lk n m=some (.seq t ys))(hc:bH (bif t.top then [List.length ys=List.length xs] else [cl t xs ys]))(h3: ∀j o,A[j]? =some o→g.f (n+j)=o):A.length=1∧Bz S' w t cs ys A∧cl t xs ys:=by
 have uW:cl t xs ys:=by
  cases ht:t.top with
  |true=>rw [ht] at hc;exact cl.top ht hc.1.symm
  |false=>rw [ht] at hc;exact hc.1
 have cY:=hm n _ hl;obtain ⟨γ,b,arr,hF,e,h0,q3,q6⟩:=ho;subst hF;have hg:=h3 0 γ rfl;rw [Nat.add_zero] at hg;unfold kd at cY;rw [hg,h0] at cY;obtain ⟨aG,r1,r2⟩:=cY;exact ⟨rfl,⟨γ,b,aG,rfl,e,h0,r1,r2⟩,uW⟩
theorem qM {S S':Nat→Prop}{w0 w:World}{g:GM}{m:Mem}(hm:lj g m S' w)(hk: ∀b arr,dy w0 b arr→ ∃aG,dy w b aG∧aG.size=arr.size): ∀(t:Ty) {cs:List Value} {x y:t.D} {A:List (List Nat→Option Nat)} {n n':Nat} {cd:List Prop},
 dh S w0 t cs x A→gi m t x n=some (y,n',cd)→bH cd→(∀j o,A[j]? =some o→g.f (n+j)=o)→n'=n+A.length∧dh S' w t cs y A∧uo t x y
 | .int k,cs,x,y,A,n,n',cd,⟨hF,hr⟩,h,hc,h3=>by simp only [gi] at h;injection h with h;injection h with e1 h;injection h with e2 e3;subst e1;subst e2;subst hF;exact ⟨rfl,⟨rfl,hr⟩,trivial⟩
 | .aX k,cs,x,y,A,n,n',cd,⟨hF,hr⟩,h,hc,h3=>by simp only [gi] at h;injection h with h;injection h with e1 h;injection h with e2 e3;subst e1;subst e2;subst hF;exact ⟨rfl,⟨rfl,hr⟩,trivial⟩
 | .bool,cs,x,y,A,n,n',cd,⟨hF,hr⟩,h,hc,h3=>by simp only [gi] at h;injection h with h;injection h with e1 h;injection h with e2 e3;subst e1;subst e2;subst hF;exact ⟨rfl,⟨rfl,hr⟩,trivial⟩
 | .str,cs,x,y,A,n,n',cd,⟨hF,hr⟩,h,hc,h3=>by simp only [gi] at h;injection h with h;injection h with e1 h;injection h with e2 e3;subst e1;subst e2;subst hF;exact ⟨rfl,⟨rfl,hr⟩,trivial⟩
 | .st t,cs,x,y,A,n,n',cd,ho,h,hc,h3=>qM hm hk t (cs:=cs) (x:=x) (y:=y) ho h hc h3
 | .pair a b,cs,x,y,A,n,n',cd,⟨c1,c2,A1,A2,e1,e2,o1,o2⟩,h,hc,h3=>by
  subst e2;simp only [gi] at h;split at h;rename_i y1 n1 cd1 hy1;split at h;rename_i y2 n2 cd2 Xf;injection h with h;injection h with k1 h;injection h with k2 k3;subst k1;subst k2;subst k3;obtain ⟨HY,eV⟩:=hc.append;obtain ⟨r1,r2,r5⟩:=qM hm hk a o1 hy1 HY (fun j o hj=>h3 j o (by rw [List.getElem?_append_left (List.getElem?_eq_some_iff.1 hj).1];exact hj));subst r1;obtain ⟨r3,r4,r6⟩:=qM hm hk b o2 Xf eV (fun j o hj=>by
   rw [Nat.add_assoc];refine h3 _ o ?_;rw [List.getElem?_append_right (by omega)];simpa using hj)
  exact ⟨by rw [r3,List.length_append];omega,⟨c1,c2,A1,A2,e1,rfl,r2,r4⟩,r5,r6⟩;cases h;cases h
 | .sl t,cs,xs,y,A,n,n',cd,ho,h,hc,h3=>by
  simp only [gi] at h;split at h;rename_i t' ys hl;split at h;rename_i he;subst he;injection h with h;injection h with k1 h;injection h with k2 k3;subst k1;subst k2;subst k3;obtain ⟨r1,r2,r3⟩:=EO hm hk ho hl hc h3;exact ⟨by rw [r1],r2,r3⟩;cases h;cases h
 | .own t,cs,xs,y,A,n,n',cd,ho,h,hc,h3=>by
  simp only [gi] at h;split at h;rename_i t' ys hl;split at h;rename_i he;subst he;injection h with h;injection h with k1 h;injection h with k2 k3;subst k1;subst k2;subst k3;obtain ⟨r1,r2,r3⟩:=EO hm hk ho hl hc h3;exact ⟨by rw [r1],r2,r3⟩;cases h;cases h
 | .bx t,cs,xs,y,A,n,n',cd,ho,h,hc,h3=>by
  simp only [gi] at h;split at h;rename_i t' ys hl;split at h;rename_i he;subst he;injection h with h;injection h with k1 h;injection h with k2 k3;subst k1;subst k2;subst k3;obtain ⟨r1,r2,r3⟩:=K6 hm hk ho hl hc h3;exact ⟨by rw [r1],r2,r3⟩;cases h;cases h
theorem iq {S S':Nat→Prop}{w0 w:World}{g:GM}{m:Mem}(hm:lj g m S' w)(hk: ∀b arr,dy w0 b arr→ ∃aG,dy w b aG∧aG.size=arr.size): ∀{args:List Arg} {vals:List Value} {As:List (List (List Nat→Option Nat))} {n:Nat} {outs:List TD} {cd:List Prop},
 rD S w0 args vals As→je m args n=some (outs,cd)→bH cd→(∀j o,As.flatten[j]? =some o→n+j∈iL args n→g.f (n+j)=o)→jd S' w args vals As outs
 |[],[],[],n,outs,cd,_,h,_,_=>by
  simp only [je] at h;injection h with h;injection h with e1 e2;subst e1;trivial
 | .au t x::as,v::vs,F::Fs,n,outs,cd,ha,h,hc,h3=>iq hm hk (args:=as) (vals:=vs) (As:=Fs) ha.2 h hc (by have e:F=[]:=ha.1.1;rw [e] at h3;exact h3)
 | .gO t x::as,v::vs,F::Fs,n,outs,cd,ha,h,hc,h3=>iq hm hk (args:=as) (vals:=vs) (As:=Fs) ha.2 h hc (by have e:F=[]:=ha.1.1;rw [e] at h3;exact h3)
 | .fn f::as,v::vs,F::Fs,n,outs,cd,ha,h,hc,h3=>iq hm hk (args:=as) (vals:=vs) (As:=Fs) ha.2 h hc (by have e:F=[]:=ha.1.1;rw [e] at h3;exact h3)
 | .nM f t x::as,v::vs,F::Fs,n,outs,cd,ha,h,hc,h3=>iq hm hk (args:=as) (vals:=vs) (As:=Fs) ha.2 h hc (by have e:F=[]:=ha.1.1;rw [e] at h3;exact h3)
 | .nl::as,v::vs,F::Fs,n,outs,cd,ha,h,hc,h3=>iq hm hk (args:=as) (vals:=vs) (As:=Fs) ha.2 h hc (by have e:F=[]:=ha.1.1;rw [e] at h3;exact h3)
 | .mv t x::as,v::vs,F::Fs,n,outs,cd,⟨⟨cs,hv,ho⟩,ha⟩,h,hc,h3=>by
  have hl:F.length=(cn t x n).2.length:=by rw [fy,dh.uq t ho]
  refine iq hm hk (args:=as) (vals:=vs) (As:=Fs) (n:=n+(cn t x n).2.length) ha h hc fun j o hj se=> ?_;rw [Nat.add_assoc] at se⊢;refine h3 _ o ?_ se;rw [List.flatten_cons,List.getElem?_append_right (by omega),hl];simpa using hj
 | .own t x::as,v::vs,F::Fs,n,outs,cd,⟨⟨cs,hv,ho⟩,ha⟩,h,hc,h3=>by
  simp only [je] at h;split at h;rename_i y n1 c1 hy;split at h;rename_i l c2 hl;injection h with h;injection h with k1 k2;subst k1;subst k2;obtain ⟨HY,eV⟩:=hc.append;have hlen:F.length=(cn t x n).2.length:=by rw [fy,dh.uq t ho]
  obtain ⟨r1,r2,r3⟩:=qM hm hk t ho hy HY (fun j o hj=>h3 j o (by rw [List.flatten_cons,List.getElem?_append_left (List.getElem?_eq_some_iff.1 hj).1];exact hj) (by
   have:=(List.getElem?_eq_some_iff.1 hj).1;simp only [iL,List.mem_append,List.mem_range'_1];left;omega))
  subst r1;have:=iq hm hk ha hl eV (fun j o hj se=>by
   rw [Nat.add_assoc] at se⊢;refine h3 _ o ?_ ?_;rw [List.flatten_cons,List.getElem?_append_right (by omega)];simpa using hj;simp only [iL,List.mem_append];right;rw [←hlen];exact se)
  exact ⟨⟨rfl,cs,hv,r2,r3⟩,this⟩;cases h;cases h
theorem jP {S:Nat→Prop}{w:World}: ∀{args:List Arg} {vals:List Value} {As:List (List (List Nat→Option Nat))} (n:Nat),rD S w args vals As→ ∀j γ p b,As.flatten[j]? =some γ→γ p=some b→n+j∈iL args n∨wA b args As
 |[],[],[],n,h,j,γ,p,b,hj,_=>by simp at hj
 | .au _ _::as,_::vs,F::Fs,n,h,j,γ,p,b,hj,hp=>by have e:F=[]:=h.1.1;subst e;exact jP (args:=as) (vals:=vs) (As:=Fs) n h.2 j γ p b hj hp
 | .gO _ _::as,_::vs,F::Fs,n,h,j,γ,p,b,hj,hp=>by have e:F=[]:=h.1.1;subst e;exact jP (args:=as) (vals:=vs) (As:=Fs) n h.2 j γ p b hj hp
 | .fn _::as,_::vs,F::Fs,n,h,j,γ,p,b,hj,hp=>by have e:F=[]:=h.1.1;subst e;exact jP (args:=as) (vals:=vs) (As:=Fs) n h.2 j γ p b hj hp
 | .nM _ _ _::as,_::vs,F::Fs,n,h,j,γ,p,b,hj,hp=>by have e:F=[]:=h.1.1;subst e;exact jP (args:=as) (vals:=vs) (As:=Fs) n h.2 j γ p b hj hp
 | .nl::as,_::vs,F::Fs,n,h,j,γ,p,b,hj,hp=>by have e:F=[]:=h.1.1;subst e;exact jP (args:=as) (vals:=vs) (As:=Fs) n h.2 j γ p b hj hp
 | .mv t x::as,v::vs,F::Fs,n,⟨⟨cs,hv,ho⟩,ha⟩,j,γ,p,b,hj,hp=>by
  have hl:F.length=(cn t x n).2.length:=by rw [fy,dh.uq t ho]
  rw [List.flatten_cons] at hj;by_cases cq:j<F.length;rw [List.getElem?_append_left cq] at hj;exact .inr (.inl ⟨γ,List.mem_of_getElem? hj,p,hp⟩);rw [List.getElem?_append_right (by omega)] at hj;rcases jP (args:=as) (vals:=vs) (As:=Fs) (n+(cn t x n).2.length) ha _ γ p b hj hp with h|h
  left;simp only [iL];rwa [show n+(cn t x n).2.length+(j - F.length)=n+j by omega] at h;exact .inr (.inr h)
 | .own t x::as,v::vs,F::Fs,n,⟨⟨cs,hv,ho⟩,ha⟩,j,γ,p,b,hj,hp=>by
  have hl:F.length=(cn t x n).2.length:=by rw [fy,dh.uq t ho]
  rw [List.flatten_cons] at hj;by_cases cq:j<F.length;left;simp only [iL,List.mem_append,List.mem_range'_1];left;omega;rw [List.getElem?_append_right (by omega)] at hj;rcases jP (args:=as) (vals:=vs) (As:=Fs) (n+(cn t x n).2.length) ha _ γ p b hj hp with h|h
  left;simp only [iL,List.mem_append];right;rwa [show n+(cn t x n).2.length+(j - F.length)=n+j by omega] at h;exact .inr h
theorem qN {m:Mem}: ∀(t:Ty) {x y:t.D} {n n':Nat} {cd:List Prop},gi m t x n=some (y,n',cd)→n'=n+(cn t x n).2.length∧ ∀k,n≤k→k<n'→ ∃t ys,lk k m=some (.seq t ys)
 | .int _,_,_,_,_,_,h=>by simp only [gi] at h;injection h with h;injection h with _ h;injection h with h _;subst h;exact ⟨rfl,fun k h1 h2=>by omega⟩
 | .aX _,_,_,_,_,_,h=>by simp only [gi] at h;injection h with h;injection h with _ h;injection h with h _;subst h;exact ⟨rfl,fun k h1 h2=>by omega⟩
 | .bool,_,_,_,_,_,h=>by simp only [gi] at h;injection h with h;injection h with _ h;injection h with h _;subst h;exact ⟨rfl,fun k h1 h2=>by omega⟩
 | .str,_,_,_,_,_,h=>by simp only [gi] at h;injection h with h;injection h with _ h;injection h with h _;subst h;exact ⟨rfl,fun k h1 h2=>by omega⟩
 | .st t,x,y,_,_,_,h=>qN t (x:=x) (y:=y) h
 | .pair a b,x,_,n,n',cd,h=>by
  simp only [gi] at h;split at h;rename_i y1 n1 c1 h1;split at h;rename_i z1 n2 c2 h2;injection h with h;injection h with _ h;injection h with h _
  subst h;obtain ⟨e1,k1⟩:=qN a h1;obtain ⟨e2,k2⟩:=qN b h2;subst e1;refine ⟨by rw [e2];simp [cn,Nat.add_assoc],fun k h1 h2=> ?_⟩;by_cases cq:k<n+(cn a x.1 n).2.length;exact k1 k h1 cq;exact k2 k (by omega) h2;cases h;cases h
 | .sl t,xs,_,n,n',cd,h=>by
  simp only [gi] at h;split at h;rename_i t' ys hl;split at h;injection h with h;injection h with _ h;injection h with h _
  subst h;refine ⟨rfl,fun k h1 h2=> ?_⟩;have:k=n:=by omega
  subst this;exact ⟨_,_,hl⟩;cases h;cases h
 | .own t,xs,_,n,n',cd,h=>by
  simp only [gi] at h;split at h;rename_i t' ys hl;split at h;injection h with h;injection h with _ h;injection h with h _
  subst h;refine ⟨rfl,fun k h1 h2=> ?_⟩;have:k=n:=by omega
  subst this;exact ⟨_,_,hl⟩;cases h;cases h
 | .bx t,xs,_,n,n',cd,h=>by
  simp only [gi] at h;split at h;rename_i t' ys hl;split at h;injection h with h;injection h with _ h;injection h with h _
  subst h;refine ⟨rfl,fun k h1 h2=> ?_⟩;have:k=n:=by omega
  subst this;exact ⟨_,_,hl⟩;cases h;cases h
theorem ir {m:Mem}: ∀{args:List Arg} {n:Nat} {outs:List TD} {cd:List Prop},je m args n=some (outs,cd)→ ∀k,k∈iL args n→ ∃t ys,lk k m=some (.seq t ys)
 |[],_,_,_,_,k,hk=>by simp [iL] at hk
 | .au _ _::as,n,outs,cd,h,k,hk=>ir (args:=as) (n:=n) (outs:=outs) (cd:=cd) h k hk
 | .gO _ _::as,n,outs,cd,h,k,hk=>ir (args:=as) (n:=n) (outs:=outs) (cd:=cd) h k hk
 | .fn _::as,n,outs,cd,h,k,hk=>ir (args:=as) (n:=n) (outs:=outs) (cd:=cd) h k hk
 | .nM _ _ _::as,n,outs,cd,h,k,hk=>ir (args:=as) (n:=n) (outs:=outs) (cd:=cd) h k hk
 | .nl::as,n,outs,cd,h,k,hk=>ir (args:=as) (n:=n) (outs:=outs) (cd:=cd) h k hk
 | .mv t x::as,n,outs,cd,h,k,hk=>ir (args:=as) (n:=n+(cn t x n).2.length) (outs:=outs) (cd:=cd) h k hk
 | .own t x::as,n,outs,cd,h,k,hk=>by
  simp only [je] at h;split at h;rename_i y n1 c1 hy;split at h;rename_i l c2 hl;obtain ⟨e1,h1⟩:=qN t hy;simp only [iL,List.mem_append,List.mem_range'_1] at hk;rcases hk with hk|hk
  exact h1 k hk.1 (by omega);exact ir hl k (by rw [e1];exact hk);cases h;cases h
theorem K7: ∀(l:List Value),H5 l (if h:l.toArray.size=1 then l.toArray[0] else .tuple l.toArray)
 |[]=>rfl
 |[_]=>rfl
 |_::_::_=>rfl
theorem m7: ∀{args:List Arg} {i n k:Nat},k∈iL args n→k<n+(dt args i n).2.length
 |[],_,_,_,h=>by simp [iL] at h
 | .au _ _::as,i,n,k,h=>m7 (args:=as) (i:=i+1) h
 | .gO _ _::as,i,n,k,h=>m7 (args:=as) (i:=i+1) h
 | .fn _::as,i,n,k,h=>m7 (args:=as) (i:=i+1) h
 | .nM _ _ _::as,i,n,k,h=>m7 (args:=as) (i:=i+1) h
 | .nl::as,i,n,k,h=>m7 (args:=as) (i:=i+1) h
 | .mv t x::as,i,n,k,h=>by
  have:=m7 (args:=as) (i:=i+1) (n:=n+(cn t x n).2.length) h;simp only [dt,List.length_append];omega
 | .own t x::as,i,n,k,h=>by
  simp only [iL,List.mem_append,List.mem_range'_1] at h;simp only [dt,List.length_append];rcases h with h|h
  omega;have:=m7 (args:=as) (i:=i+1) h;omega
theorem CallOK.vv {P:Program}{f:FuncId}{fn:Func}{c:Code}{args:List Arg}{ts:List (Bool×Ty)}{rs:List RV}{outs:List TD}(hf:P.funcs[f]? =some fn)(hb:fn.body=some c)(Us:(fn.name=="runtime.NumGoroutine")=false)(hn:args.length≤fn.ntmps)(h: ∀cx:Cx,cx.P=P→cx.N=fn.ntmps→cx.own.map Prod.fst=iL args 0→(Jx args=true→cx.S7)→HT cx (wG args) c (Ur P fn args ts rs outs)):CallOK P f args rs outs:=by
 refine ⟨⟨fn,hf,Us,by rw [hb];rfl⟩,fun w S vals As F hB hI hS hFl ha Xg=>callsIn_wide.1 (callsIn_of_wp_marks (F:=Fence.wide) (n:=0) hf hb trivial (wpIn_wide.2 ?_))⟩;have Ko: ∀b,S b→(b<w.heap.size∧S b∧b ∉ F):=fun b hb=>⟨(hS b hb).1,hb,(hS b hb).2⟩;obtain ⟨l1,hA,k1⟩:=wH (S2:=fun b=>b<w.heap.size∧S b∧b ∉ F) Ko 0 0 ha;let o7:=(dt args 0 0).2;let D4:=As.flatten;let g:GM:=⟨fun k=>(D4[k]?).getD fun _=>none⟩;have Ut: ∀j o,D4[j]? =some o→g.f (0+j)=o:=fun j o hj=>by
  show (D4[0+j]?).getD _=o;rw [Nat.zero_add,hj];rfl
 have se: ∀j ch,o7[j]? =some ch→lk (0+j) (bG 0 o7)=some ch:=fun j ch hj=>by
  rw [dP,if_pos (by omega)];simpa using hj
 obtain ⟨qt,zk⟩:=k1 g (bG 0 o7) se Ut;let cx:Cx:=⟨P,fn.ntmps,w,S,F,(iL args 0).map fun k=>(k,g.f k)⟩;have Uu: ∀(j:Nat) (γ:List Nat→Option Nat) (p:List Nat) (b:Nat),D4[j]? =some γ→γ p=some b→b∈F:=fun j γ p b hj hp=>(hB b).2 ⟨γ,List.mem_of_getElem? hj,p,hp⟩;have Xh: ∀k ch,lk k (bG 0 o7)=some ch→o7[k]? =some ch:=fun k ch hk=>by
  rw [dP,if_pos (by omega)] at hk;simpa using hk
 have oD: ∀k p b,g.f k p=some b→b∈F∧ ∃γ,D4[k]? =some γ∧γ p=some b:=fun k p b hg=>by
  have hg:(D4[k]?).getD (fun _=>none) p=some b:=hg;cases hx:D4[k]? with
  |none=>rw [hx] at hg;simp at hg
  |some γ=>
   rw [hx] at hg;exact ⟨Uu k γ p b hx hg,γ,rfl,hg⟩
 have dN: ∀b,(b<w.heap.size∧S b∧b ∉ F)→cx.safe g (bG 0 o7) w b:=fun b ⟨h1,h2,h3⟩=>⟨h1,fun _=>h2,fun ⟨k,p,ch,q1,q2,q3⟩=>h3 (oD k p b q3).1⟩;have hlen:args.length=vals.length:=by
  have: ∀{as:List Arg} {vs:List Value} {Fs:List (List (List Nat→Option Nat))},rD S w as vs Fs→as.length=vs.length:=by
   intro as;induction as with
   |nil=>intro vs Fs h;cases vs<;>cases Fs<;>first|rfl|exact h.elim
   |cons a as ih=>
    intro vs Fs h;cases vs with
    |nil=>exact h.elim
    |cons v vs=>
     cases Fs with
     |nil=>exact h.elim
     |cons F Fs=>simp [ih h.2]
  exact this ha
 have K1:dw cx g (wG args) {tmps:=vals.toArray++Array.replicate (fn.ntmps - vals.toArray.size) undef,defers:=[]} w:=by
  refine ⟨.nil,?_,fun t v hl=> ?_,fun k ch hk=> ?_,?_,fun k p ch b hk Cr hg=> ?_,fun k p ch b hk Cr hg=> ?_,bK.refl _ _,fun p hp=> ?_,⟨Xg,hS⟩⟩;show (vals.toArray++Array.replicate (fn.ntmps - vals.toArray.size) undef).size=fn.ntmps;simp;omega;obtain ⟨_,u,hu,hv⟩:=qt t v hl;rw [Nat.sub_zero] at hu;have Kr:=(List.getElem?_eq_some_iff.1 hu);have:(vals.toArray++Array.replicate (fn.ntmps - vals.toArray.size) undef).getD t undef=u:=by
   rw [Array.getD_eq_getD_getElem?,Array.getElem?_append_left (by simpa using Kr.1)];simp [hu]
  show VR _ _ _ _ _ ((vals.toArray++Array.replicate (fn.ntmps - vals.toArray.size) undef).getD t undef);rw [this];exact VR.stays (nI.mono dN) hv;obtain ⟨_,o,ho,cY⟩:=zk.chunk k ch (Xh k ch hk);have:=Ut k o ho;rw [Nat.zero_add] at this;rw [this];exact kd.stays (nI.mono dN) (fun _ _ _ _=>rfl) cY;intro k k' p p' ch jM b hk _ gP _ hg j8;obtain ⟨_,γ,h1,h2⟩:=oD k p b hg;obtain ⟨_,γ',h3,h4⟩:=oD k' p' b j8;exact hI.at h1 h3 h2 h4;exact .inr (oD k p b hg).1;exact hFl b (oD k p b hg).1;obtain ⟨k,hk,e⟩:=List.mem_map.1 hp;subst e;refine ⟨rfl,?_⟩;have hk:k<o7.length:=by have:=m7 (i:=0) hk;simpa [o7] using this
  show lk k (bG 0 o7)≠none;rw [dP,if_pos (by omega)];simp [hk]
 have VL:Jx args=true→cx.S7:=fun hm b hb=>by
  obtain ⟨γ,hγ,p,hp⟩:=(hB b).1 hb;obtain ⟨j,hj⟩:=List.getElem?_of_mem hγ;rcases jP 0 hA j γ p b hj hp with hk|hk
  rw [Nat.zero_add] at hk;refine ⟨(j,g.f j),List.mem_map.2 ⟨j,hk,rfl⟩,p,?_⟩;have:=Ut j _ hj;rw [Nat.zero_add] at this;show g.f j p=some b;rw [this];exact hp;exact absurd hk (wA.none hm)
 have Uv:=h cx rfl rfl (by simp [cx,List.map_map,Function.comp_def]) VL g _ w K1;refine wp_mono Uv fun e a' w' ⟨st',g',hq,eI⟩=> ?_;have ret: ∀(a':Act) (w':World),dw cx g' st' a' w'→EM P fn args ts rs outs st'→ ∃v,(results fn a'.tmps).run P w'= .ok v w'∧ ∃v' A' F',Ending.returned v= .returned v'∧zf A' F'∧qD A'∧KL (kL S w w' F') w' rs v' A'∧(∀b,b∈F'→(w.heap.size≤b∨wA b args As)∧b<w'.heap.size)∧
  bK F w w'∧jd (kL S w w' F') w' args vals As outs:=by
  clear eI hq;intro a' w' eI;rintro ⟨vs,ks,cs,r1,r2,r3,r4,r5,r6⟩;obtain ⟨BL,q1,q2⟩:=zC eI r1;obtain ⟨A',p1,p2⟩:=EN eI r2 q2;have yi:(results fn a'.tmps).run P w'= .ok (if h:BL.toArray.size=1 then BL.toArray[0] else .tuple BL.toArray) w':=by
   have e:results fn a'.tmps=(do
    let vs←fn.results.mapM (JI a'.tmps)
    pure (if h:vs.size=1 then vs[0] else .tuple vs)):=by
    have hm:(fun r:ResultVar=>(match r with| .tmp t=>(pure (a'.tmps.getD t undef):Sem Value)| .cell x t=>do loadVar t (←asAddr (a'.tmps.getD x undef))))=JI a'.tmps:=by
     funext r;cases r<;>rfl
    rw [←hm];rfl
   have q1:(fn.results.toList.mapM (JI a'.tmps)).run P w'= .ok BL w':=q1;rw [e,Array.mapM_eq_mapM_toList];simp only [Sem.run_bind,Sem.run_map,q1,Result.andThen_ok,Sem.run_pure]
  obtain ⟨F',jL⟩:=m4 (n:=w'.heap.size) (A:=A') (fun γ hγ p b hp=>by
   obtain ⟨k,_,p',t,xs,a1,a2⟩:=p2.dy hγ hp;exact eI.lt k p' _ b a2 trivial a1)
  have Nt: ∀b,b∈F'→ ∃k,k∈ks∧ ∃p t xs,g'.f k p=some b∧lk k st'.mem=some (.seq t xs):=fun b hb=>by
   obtain ⟨γ,hγ,p,hp⟩:=(jL b).1 hb;exact p2.dy hγ hp
  have nt: ∀b,b∈F'→(w.heap.size≤b∨wA b args As)∧b<w'.heap.size:=fun b hb=>by
   obtain ⟨k,hk,p,t,xs,a1,a2⟩:=Nt b hb;refine ⟨?_,eI.lt k p _ b a2 trivial a1⟩;rcases eI.rC k p _ b a2 trivial a1 with hx|hx
   exact .inl hx;right;obtain ⟨γ,hγ,q,hq⟩:=(hB b).1 hx;obtain ⟨j,hj⟩:=List.getElem?_of_mem hγ;rcases jP 0 hA j γ q b hj hq with Tj|Tj
   exfalso;rw [Nat.zero_add] at Tj;obtain ⟨t',ys,fe⟩:=ir r5 j Tj;have Xi:g'.f j q=some b:=by
    have:=(eI.own (j,g.f j) (List.mem_map.2 ⟨j,Tj,rfl⟩)).1;simp only at this;rw [this];have:=Ut j _ hj;rw [Nat.zero_add] at this;rw [this];exact hq
   have:=(eI.lz k j p q _ _ b a2 trivial fe trivial a1 Xi).1;have D5:=List.all_eq_true.1 r4 _ hk;rw [this,EK.2 Tj] at D5;cases D5;exact Tj
  have Uw: ∀b,cx.safe g' st'.mem w' b→kL S w w' F' b:=fun b ⟨h1,h2,h3⟩=>⟨h1,h2,fun hb=>by
   obtain ⟨k,_,p,t,xs,a1,a2⟩:=Nt b hb;exact h3 ⟨k,p,_,a2,trivial,a1⟩⟩
  refine ⟨_,yi,_,A',F',rfl,jL,p2.inj eI.NK (js r3),⟨BL,nR.mono Uw p1,?_⟩,nt,eI.keep,?_⟩;exact K7 BL;refine iq (S:=fun b=>b<w.heap.size∧S b∧b ∉ F) (g:=g') (m:=st'.mem) (w:=w') (n:=0) (fun k ch hk=>kd.stays (nI.mono Uw) (fun _ _ _ _=>rfl) (eI.mem k ch hk)) eI.keep.sz hA r5 r6 fun j o hj se=> ?_;rw [Nat.zero_add] at se⊢;have:=(eI.own (j,g.f j) (List.mem_map.2 ⟨j,se,rfl⟩)).1;simp only at this;rw [this];have:=Ut j o hj;rw [Nat.zero_add] at this;exact this
 have fin:EM P fn args ts rs outs st'→LeavesInM Fence.wide 0 P fn a'.tmps (fun e w'=> ∃v A' F',e= .returned v∧zf A' F'∧qD A'∧KL (kL S w w' F') w' rs v A'∧(∀b,b∈F'→(w.heap.size≤b∨wA b args As)∧b<w'.heap.size)∧
  bK F w w'∧jd (kL S w w' F') w' args vals As outs) a'.defers .returning w':=fun hq=>by
  obtain ⟨Ds,e,hn,hD⟩:=eI.defers;rw [e];clear e;have key: ∀(Ds:List Nat) (w':World),dw cx g' st' {a' with defers:=[]} w'→Ds.Nodup→(∀D∈Ds,w'.heap[D]? =some (.deferred (some []))∧cx.w0.heap.size≤D)→
   LeavesInM Fence.wide 0 P fn a'.tmps (fun e w'=> ∃v A' F',e= .returned v∧zf A' F'∧qD A'∧KL (kL S w w' F') w' rs v A'∧(∀b,b∈F'→(w.heap.size≤b∨wA b args As)∧b<w'.heap.size)∧
    bK F w w'∧jd (kL S w w' F') w' args vals As outs) (Ds.map (fun D=>{target:= .collected D,args:= #[]})) .returning w':=by
   intro Ds;induction Ds with
   |nil=>exact fun w' hs _ _=>by have hr:=ret _ w' hs hq;exact hr
   |cons D Ds ih=>
    intro w' hs hn hD;have hn:=List.nodup_cons.1 hn;obtain ⟨h1,h2⟩:=hD D List.mem_cons_self;refine ⟨by simp,.inl ⟨D,_,rfl,run_takeDeferred h1,ih _ ?_ hn.2 fun E hE=> ?_⟩⟩;exact hs.Uo (w':=w'.putObj D (.deferred none)) (a':={a' with defers:=[]}) h1 rfl h2 rfl rfl rfl (by simp) (fun b _ jq=>World.putObj_heap_other jq) rfl .nil;obtain ⟨k1,k2⟩:=hD E (List.mem_cons_of_mem _ hE);exact ⟨(World.putObj_heap_other (fun e:E=D=>hn.1 (e▸hE))).trans k1,k2⟩
  exact key Ds w' ⟨.nil,eI.size,eI.fr,eI.mem,eI.lz,eI.rC,eI.lt,eI.keep,eI.own,eI.gl⟩ hn fun D hm=>⟨(hD D hm).1,(hD D hm).2.1⟩
 cases e with
 |normal=>exact fin hq
 |ret=>exact fin hq
 |_=>exact hq.elim
end Go.Ide
namespace Go.Ide
def MM (m m':Mem):Prop:= ∀k ch,lk k m=some ch→lk k m'=some ch
section
variable {P:Program} {m m':Mem}
theorem JJ (h:MM m m'){t:Ty}{c:aA}{x:t.D}(he:eu m t c=some x):eu m' t c=some x:=by
 cases c with
 |all c=>
  simp only [eu] at he⊢;split at he;cases hx:lk c m with
  |none=>simp [hx] at he
  |some ch=>rw [hx] at he;rw [h _ _ hx];exact he
  cases he
 |iy c i sz off=>
  simp only [eu] at he⊢;split at he;cases hx:lk c m with
  |none=>simp [hx] at he
  |some ch=>rw [hx] at he;rw [h _ _ hx];exact he
  cases he
 |ref c off len=>
  simp only [eu] at he⊢;split at he;cases hx:lk c m with
  |none=>simp [hx] at he
  |some ch=>rw [hx] at he;rw [h _ _ hx];exact he
  cases he
 |row c i o=>
  simp only [eu] at he⊢;split at he;cases hx:lk c m with
  |none=>simp [hx] at he
  |some ch=>rw [hx] at he;rw [h _ _ hx];exact he
  cases he
 |_=>exact he
theorem kM (h:MM m m'){t:Ty}{cs:List aA}{x:t.D×List aA}(he:cW m t cs=some x):cW m' t cs=some x:=by
 cases cs with
 |nil=>exact he
 |cons c r=>
  simp only [cW] at he⊢;cases hx:eu m t c with
  |none=>simp [hx] at he
  |some y=>rw [hx] at he;rw [JJ h hx];exact he
theorem mE (h:MM m m'): ∀(t:Ty) {cs:List aA} {x:t.D×List aA},impl m t cs=some x→impl m' t cs=some x
 | .int _,_,_,he=>kM h he
 | .aX _,_,_,he=>kM h he
 | .bool,_,_,he=>kM h he
 | .str,_,_,he=>kM h he
 | .sl _,_,_,he=>kM h he
 | .bx _,_,_,he=>kM h he
 | .own _,_,_,he=>kM h he
 | .st t,_,_,he=>mE h t he
 | .pair a b,cs,x,he=>by
  simp only [impl] at he⊢;cases h1:impl m a cs with
  |none=>simp [h1] at he
  |some p=>
   obtain ⟨y,r⟩:=p;rw [h1] at he;rw [mE h a h1];simp only at he⊢;cases h2:impl m b r with
   |none=>simp [h2] at he
   |some q=>
    rw [h2] at he;rw [mE h b h2];exact he
theorem oi (h:MM m m'){t:Ty}{v:aE}{x:t.D}(he:mr m t v=some x):mr m' t v=some x:=by
 unfold mr at he⊢;split at he;rename_i c mN;cases h1:impl m t [c] with
 |none=>simp [h1] at he
 |some p=>rw [h1] at he;(try simp only [mN]);rw [mE h t h1];exact he
 rename_i cs mN;cases h1:impl m t cs with
 |none=>simp [h1] at he
 |some p=>rw [h1] at he;(try simp only [mN]);rw [mE h t h1];exact he
 cases he
theorem zD (h:MM m m'){T:TypeId}{v:aE}{e:ca}(he:pN P m T v=some e):pN P m' T v=some e:=by
 unfold pN at he⊢;split at he;rename_i c i sz off n ag hs ha
 try simp only [hs,ha]
 cases hx:lk c m with
 |none=>simp [hx] at he
 |some ch=>rw [hx] at he;rw [h _ _ hx];exact he
 rename_i c i o j sz off n ag hs ha
 try simp only [hs,ha]
 cases hx:lk c m with
 |none=>simp [hx] at he
 |some ch=>rw [hx] at he;rw [h _ _ hx];exact he
 rename_i c n ag K8 Jy hs ha
 try simp only [hs,ha]
 have key: ∀r,nN m n c=some r→nN m' n c=some r:=by
  intro r hr;cases c with
  |ptr k off=>
   simp only [nN] at hr⊢;cases hx:lk k m with
   |none=>simp [hx] at hr
   |some ch=>rw [hx] at hr;rw [h _ _ hx];exact hr
  |_=>exact hr
 cases hc:nN m n c with
 |none=>simp [hc] at he
 |some r=>
  rw [hc] at he;cases c with
  |iy k i sz off=>first|exact absurd rfl (K8 k i sz off)|exact absurd rfl (Jy k i sz off)
  |AW k i o j sz off=>first|exact absurd rfl (K8 k i o j sz off)|exact absurd rfl (Jy k i o j sz off)
  |_=>simp only [key _ hc];exact he
 cases he
theorem xH (h:MM m m'){T:TypeId}{a v:aE}{e:ca}(he:qy P m T a v=some e):qy P m' T a v=some e:=by
 unfold qy at he⊢;split at he;rename_i c off n hs
 try simp only [hs]
 cases hx:lk c m with
 |none=>simp [hx] at he
 |some ch=>rw [hx] at he;rw [h _ _ hx];exact he
 rename_i c i sz off n hs
 try simp only [hs]
 cases hx:lk c m with
 |none=>simp [hx] at he
 |some ch=>rw [hx] at he;rw [h _ _ hx];exact he
 rename_i c i o j sz off n hs
 try simp only [hs]
 cases hx:lk c m with
 |none=>simp [hx] at he
 |some ch=>rw [hx] at he;rw [h _ _ hx];exact he
 cases he
theorem yj (h:MM m m'){T:TypeId}{x i:aE}{e:ca}(he:kH P m T x i=some e):kH P m' T x i=some e:=by
 unfold kH at he⊢;split at he;rename_i el k n hu
 try simp only [hu]
 split at he;rename_i t xs kz hs
 try simp only [hs]
 exact he;rename_i c kz hs
 try simp only [hs]
 cases hx:lk c m with
 |none=>simp [hx] at he
 |some ch=>rw [hx] at he;rw [h _ _ hx];exact he
 rename_i c i o kz hs
 try simp only [hs]
 cases hx:lk c m with
 |none=>simp [hx] at he
 |some ch=>rw [hx] at he;rw [h _ _ hx];exact he
 rename_i c off len kz hs
 try simp only [hs]
 cases hx:lk c m with
 |none=>simp [hx] at he
 |some ch=>rw [hx] at he;rw [h _ _ hx];exact he
 cases he;cases he
theorem JK (h:MM m m'){x:aE}{e:ca}(he:ug m x=some e):ug m' x=some e:=by
 unfold ug at he⊢;split at he;exact he;exact he;rename_i c
 try simp only
 cases hx:lk c m with
 |none=>simp [hx] at he
 |some ch=>rw [hx] at he;rw [h _ _ hx];exact he
 rename_i c i o
 try simp only
 cases hx:lk c m with
 |none=>simp [hx] at he
 |some ch=>rw [hx] at he;rw [h _ _ hx];exact he
 rename_i c off len
 try simp only
 cases hx:lk c m with
 |none=>simp [hx] at he
 |some ch=>rw [hx] at he;rw [h _ _ hx];exact he
 exact he;cases he
theorem uz (h:MM m m'){x:aE}(he:nJ m x=true):nJ m' x=true:=by
 unfold nJ at he⊢;split at he;rename_i c;split at he;rename_i t xs hl;rw [h _ _ hl];exact he;cases he;cases he;exact he
theorem Gx (h:MM m m'){T:TypeId}{x:aE}{e:ca}(he:EF P m T x=some e):EF P m' T x=some e:=by
 unfold EF at he⊢;split at he
 all_goals first
  |(rename_i hu;(try simp only [hu]);exact JK h he)
  |cases he
theorem vw (h:MM m m'){t:Ty}{x:aE}{r:List t.D×List (Nat×Chunk)}(he:nO m t x=some r):nO m' t x=some r:=by
 unfold nO at he⊢;split at he;exact he;rename_i c
 try simp only
 cases hx:lk c m with
 |none=>simp [hx] at he
 |some ch=>rw [hx] at he;rw [h _ _ hx];exact he
 rename_i c len
 try simp only
 cases hx:lk c m with
 |none=>simp [hx] at he
 |some ch=>rw [hx] at he;rw [h _ _ hx];exact he
 cases he
theorem CW (h:MM m m'){nx:Nat}{T T':TypeId}{t:Ty}{s x:aE}{e:ca}(he:sO P m nx T T' t s x=some e):sO P m' nx T T' t s x=some e:=by
 unfold sO at he⊢;split at he;rename_i el hu;split at he;rename_i i hi
 try simp only [hi]
 cases hb:(((Nat.beq T T'&&Nat.beq i.size t.size)&&(Nat.ble i.bytes 32768&&i.zero.isSome)&&(i.zero.map fun z=>Nat.beq z.cells.size t.size).getD false)&&(t.top&&nJ m x)) with
 |false=>rw [hb] at he;cases he
 |true=>
  rw [hb] at he;have ke:=hb;simp only [Bool.and_eq_true] at ke;have o6:(((Nat.beq T T'&&Nat.beq i.size t.size)&&(Nat.ble i.bytes 32768&&i.zero.isSome)&&(i.zero.map fun z=>Nat.beq z.cells.size t.size).getD false)&&(t.top&&nJ m' x))=true:=by
   rw [ke.2.2] at hb;rw [uz h ke.2.2];exact hb
  rw [o6];simp only [cond_true] at he⊢;cases h1:nO m t s with
  |none=>simp [h1] at he
  |some r=>
   cases h2:mr m (.sl t) x with
   |none=>simp [h1,h2] at he
   |some ys=>
    rw [h1,h2] at he;rw [vw h h1,oi h h2];exact he
 cases he;cases he
theorem qO (h:MM m m'): ∀(t:Ty) {cs:List aA} {p:(t.D×List Nat)×List aA},mj m t cs=some p→mj m' t cs=some p
 | .pair a b,cs,p,he=>by
  simp only [mj] at he⊢;split at he;rename_i y k1 r1 h1;rw [qO h a h1];simp only;split at he;rename_i z k2 r2 h2;rw [qO h b h2];exact he;cases he;cases he
 | .st t,cs,p,he=>qO h t (cs:=cs) (p:=p) he
 | .own t,cs,p,he=>by
  simp only [mj] at he⊢;split at he;exact he;rename_i c r;split at he;rename_i e xs hl;rw [h _ _ hl];exact he;cases he;cases he
 | .int _,_,_,he=>he
 | .aX _,_,_,he=>he
 | .bool,_,_,he=>he
 | .str,_,_,he=>he
 | .sl _,_,_,he=>he
 | .bx _,_,_,he=>he
theorem CX (h:MM m m'){nx:Nat}{T:TypeId}{t:Ty}{len:Nat}{parts:List (Nat×aE)}{e:ca}(he:tj P m nx T t len parts=some e):tj P m' nx T t len parts=some e:=by
 unfold tj at he⊢;split at he;rename_i el v hu
 try simp only [hu]
 cases hb:((dq P el==some t.size&&(((P.info? el).bind (·.zero)).map fun z=>Nat.beq z.cells.size t.size)==some true)&&(Nat.beq len 1&&Nat.ble t.size 65536)&&v.ok) with
 |false=>rw [hb] at he;cases he
 |true=>
  rw [hb] at he;simp only [cond_true] at he⊢;split at he;rename_i x ks VQ;rw [qO h t VQ];exact he;cases he
 cases he
theorem CY (h:MM m m'){nx:Nat}{T:TypeId}{t:Ty}{len:Nat}{parts:List (Nat×aE)}{e:ca}(he:tk P m nx T t len parts=some e):tk P m' nx T t len parts=some e:=by
 unfold tk at he⊢;cases ht:t.top with
 |true=>rw [ht] at he;exact he
 |false=>rw [ht] at he;exact CX h he
theorem Gy (h:MM m m'){nx:Nat}{T T':TypeId}{t:Ty}{s x:aE}{e:ca}(he:BI P m nx T T' t s x=some e):BI P m' nx T T' t s x=some e:=by
 unfold BI at he⊢;split at he;rename_i el s c2 hu
 try simp only [hu]
 split at he;rename_i i t2 ys hi A3;rw [h _ _ A3]
 try simp only [hi]
 cases hb:(((Nat.beq T T'&&Nat.beq i.size t.size)&&(Nat.ble i.bytes 32768&&i.zero.isSome))&&(i.zero.map fun z=>Nat.beq z.cells.size t.size).getD false) with
 |false=>rw [hb] at he;cases he
 |true=>
  rw [hb] at he;simp only [cond_true] at he⊢;split at he;rename_i ht;rw [dif_pos ht];split at he;exact he;rename_i c
  try simp only
  split at he;rename_i t1 xs Nr;rw [h _ _ Nr];exact he;cases he;cases he;cases he
 cases he;cases he
theorem Bl (h:MM m m'){nx:Nat}{T T':TypeId}{t:Ty}{s x:aE}{e:ca}(he:pX P m nx T T' t s x=some e):pX P m' nx T T' t s x=some e:=by
 unfold pX at he⊢;cases ht:t.top with
 |true=>rw [ht] at he;exact CW h he
 |false=>rw [ht] at he;exact Gy h he
theorem EP (h:MM m m'){T:TypeId}{x:aE}{lo hi:Option aE}{e:ca}(he:ui P m T x lo hi=some e):ui P m' T x lo hi=some e:=by
 unfold ui at he⊢;split at he;rename_i xs hu;(try simp only [hu]);exact he;rename_i el hu;(try simp only [hu]);exact he;rename_i el t xs hu;(try simp only [hu]);exact he;rename_i el c hu
 try simp only [hu]
 cases hx:lk c m with
 |none=>simp [hx] at he
 |some ch=>rw [hx] at he;rw [h _ _ hx];exact he
 rename_i el c off len hu
 try simp only [hu]
 cases hx:lk c m with
 |none=>simp [hx] at he
 |some ch=>rw [hx] at he;rw [h _ _ hx];exact he
 cases he
theorem lM (h:MM m m'): ∀(t:Ty) (cs:List aA) {p:List Nat×List aA},dA m t cs=some p→dA m' t cs=some p
 | .int _,_,_,he=>he
 | .aX _,_,_,he=>he
 | .bool,_,_,he=>he
 | .str,_,_,he=>he
 | .sl t,cs,p,he=>by
  simp only [dA] at he⊢;split at he;split at he;rename_i hl;rw [h _ _ hl];exact he;cases he;exact he;cases he
 | .own t,cs,p,he=>by
  simp only [dA] at he⊢;split at he;split at he;rename_i hl;rw [h _ _ hl];exact he;cases he;exact he;cases he
 | .bx t,cs,p,he=>by
  simp only [dA] at he⊢;split at he;split at he;rename_i hl;rw [h _ _ hl];exact he;cases he;cases he
 | .st t,cs,p,he=>lM h t cs he
 | .pair a b,cs,p,he=>by
  simp only [dA] at he⊢;split at he;rename_i x r e1;rw [lM h a cs e1];simp only;split at he;rename_i y r' e2;rw [lM h b r e2];exact he;cases he;cases he
theorem dQ (h:MM m m'): ∀(ms:List Mode) (vs:List aE) {ks:List Nat},dB m ms vs=some ks→dB m' ms vs=some ks
 |[],[],_,he=>he
 |[],_::_,_,he=>he
 | .own t::ms,v::vs,ks,he=>by
  simp only [dB] at he⊢;split at he;rename_i k1 l1 e1 e2;rw [lM h t _ e1,dQ h ms vs e2];exact he;cases he
 | .mv t::ms,v::vs,ks,he=>by
  simp only [dB] at he⊢;split at he;rename_i k1 l1 e1 e2;rw [lM h t _ e1,dQ h ms vs e2];exact he;cases he
 | .au _::ms,_::vs,ks,he=>dQ h ms vs (ks:=ks) he
 | .gO _::ms,_::vs,ks,he=>dQ h ms vs (ks:=ks) he
 | .fn::ms,_::vs,ks,he=>dQ h ms vs (ks:=ks) he
 | .nM _::ms,_::vs,ks,he=>dQ h ms vs (ks:=ks) he
 | .nl::ms,_::vs,ks,he=>dQ h ms vs (ks:=ks) he
 | .own _::_,[],_,he=>he
 | .mv _::_,[],_,he=>he
 | .nl::_,[],_,he=>he
 | .au _::_,[],_,he=>he
 | .gO _::_,[],_,he=>he
 | .fn::_,[],_,he=>he
 | .nM _::_,[],_,he=>he
theorem uA (h:MM m m'){md:Mode}{v:aE}{a:Arg}(he:iK m md v=some a):iK m' md v=some a:=by
 unfold iK at he⊢;split at he;rename_i v1 t
 try simp only
 cases h1:mr m t v with
 |none=>simp [h1] at he
 |some x=>rw [h1] at he;rw [oi h h1];exact he
 rename_i v1 t
 try simp only
 cases h1:mr m t v with
 |none=>simp [h1] at he
 |some x=>rw [h1] at he;rw [oi h h1];exact he
 rename_i v1 t
 try simp only
 cases h1:mr m t v with
 |none=>simp [h1] at he
 |some x=>rw [h1] at he;rw [oi h h1];exact he
 rename_i t t' x off
 try simp only
 cases h1:impl m t (((il t' x).drop off).take t.size) with
 |none=>simp [h1] at he
 |some p=>rw [h1] at he;rw [mE h t h1];exact he
 exact he;exact he;exact he;cases he
theorem qa {m2 Ux:Mem}(h:MM m m')(h2:MM m2 Ux){md:Mode}{v:aE}{a:Arg}(he:pd m m2 md v=some a):pd m' Ux md v=some a:=by
 unfold pd at he⊢;split at he;rename_i t c off
 try simp only
 cases hx:lk c m with
 |none=>simp [hx] at he
 |some ch=>
  rw [hx] at he;rw [h _ _ hx];cases ch with
  |box cs=>
   simp only at he⊢;cases h1:impl m2 t ((cs.drop off).take t.size) with
   |none=>simp [h1] at he
   |some p=>rw [h1] at he;rw [mE h2 t h1];exact he
  |seq t' xs=>cases he
  |rB t' xs i cs ks=>cases he
  |gone=>cases he
 exact uA h2 he
theorem xI {mp ZF m2 Ux:Mem}(h:MM m m')(hp:MM mp ZF)(h2:MM m2 Ux): ∀{ms:List Mode} {vs:List aE} {as:List Arg},dc m mp m2 ms vs=some as→dc m' ZF Ux ms vs=some as:=by
 intro ms;induction ms with
 |nil=>intro vs as he;cases vs<;>exact he
 |cons md ms ih=>
  intro vs as he;cases vs with
  |nil=>cases md<;>exact he
  |cons v vs=>
   cases md with
   |own t=>
    simp only [dc] at he⊢;cases h1:iK m (.own t) v with
    |none=>simp [h1] at he
    |some a=>
     cases h3:dc m mp m2 ms vs with
     |none=>simp [h1,h3] at he
     |some l=>rw [h1,h3] at he;rw [uA h h1,ih h3];exact he
   |mv t=>
    simp only [dc] at he⊢;cases h1:iK m (.mv t) v with
    |none=>simp [h1] at he
    |some a=>
     cases h3:dc m mp m2 ms vs with
     |none=>simp [h1,h3] at he
     |some l=>rw [h1,h3] at he;rw [uA h h1,ih h3];exact he
   |nl=>
    simp only [dc] at he⊢;cases h1:pd mp m2 .nl v with
    |none=>simp [h1] at he
    |some a=>
     cases h3:dc m mp m2 ms vs with
     |none=>simp [h1,h3] at he
     |some l=>rw [h1,h3] at he;rw [qa hp h2 h1,ih h3];exact he
   |au t=>
    simp only [dc] at he⊢;cases h1:pd mp m2 (.au t) v with
    |none=>simp [h1] at he
    |some a=>
     cases h3:dc m mp m2 ms vs with
     |none=>simp [h1,h3] at he
     |some l=>rw [h1,h3] at he;rw [qa hp h2 h1,ih h3];exact he
   |gO t=>
    simp only [dc] at he⊢;cases h1:pd mp m2 (.gO t) v with
    |none=>simp [h1] at he
    |some a=>
     cases h3:dc m mp m2 ms vs with
     |none=>simp [h1,h3] at he
     |some l=>rw [h1,h3] at he;rw [qa hp h2 h1,ih h3];exact he
   |fn=>
    simp only [dc] at he⊢;cases h1:pd mp m2 .fn v with
    |none=>simp [h1] at he
    |some a=>
     cases h3:dc m mp m2 ms vs with
     |none=>simp [h1,h3] at he
     |some l=>rw [h1,h3] at he;rw [qa hp h2 h1,ih h3];exact he
   |nM t=>
    simp only [dc] at he⊢;cases h1:pd mp m2 (.nM t) v with
    |none=>simp [h1] at he
    |some a=>
     cases h3:dc m mp m2 ms vs with
     |none=>simp [h1,h3] at he
     |some l=>rw [h1,h3] at he;rw [qa hp h2 h1,ih h3];exact he
theorem MM.app {l:Mem}(h:MM m m'):MM (l++m) (l++m'):=fun k ch hk=>by
 rw [bQ] at hk⊢;cases hx:lk k l with
 |none=>rw [hx] at hk;exact h k ch (by simpa using hk)
 |some c=>rw [hx] at hk;simpa using hk
theorem zE (h:MM m m'){nx:Nat}{ms:List Mode}{rs:List RV}{outs:List TD}{f:FuncId}{vs:List aE}{e:ca}(he:zh P m nx ms rs outs f vs=some e):zh P m' nx ms rs outs f vs=some e:=by
 unfold zh at he⊢;split at he;rename_i ks up hk hu;rw [dQ h ms vs hk,hu]
 try simp only
 split at he;rename_i as has
 try simp only [has]
 exact he;rename_i has
 try simp only [has]
 cases hb:mw ks with
 |false=>rw [hb] at he;cases he
 |true=>
  rw [hb] at he;simp only [cond_true] at he⊢;cases o6:(rs.all RV.u6&&fC ms) with
  |true=>
   rw [o6] at he;simp only [cond_true] at he⊢;cases h3:dc m m ((ks.map fun k=>(k,Chunk.gone))++m) ms vs with
   |none=>simp [h3] at he
   |some as=>rw [h3] at he;rw [xI h h (MM.app h) h3];exact he
  |false=>
   rw [o6] at he;simp only [cond_false] at he⊢;cases h3:dc m [] [] ms vs with
   |none=>simp [h3] at he
   |some as=>rw [h3] at he;rw [xI h (fun _ _ h=>h) (fun _ _ h=>h) h3];exact he
 cases he
theorem Bm (h:MM m m'){nx:Nat}{T T':TypeId}{s x:aE}{e:ca}(he:pU P m nx T T' s x=some e):pU P m' nx T T' s x=some e:=by
 unfold pU at he⊢;split at he;rename_i el y hu Kr
 try simp only
 split at he;rename_i i hi
 try simp only [hi]
 cases hb:((dr P T&&Nat.beq i.size 1)&&(Nat.ble i.bytes 32768&&i.zero.isSome)&&(i.zero.map fun z=>Nat.beq z.cells.size 1).getD false) with
 |false=>rw [hb] at he;cases he
 |true=>
  rw [hb] at he;simp only [cond_true] at he⊢;cases h1:nO m (.int .u8) s with
  |none=>simp [h1] at he
  |some r=>
   rw [h1] at he;rw [vw h h1];exact he
 cases he;cases he
theorem zF (h:MM m m'){nx:Nat}{T U:TypeId}{x:aE}{e:ca}(he:oh P m nx T U x=some e):oh P m' nx T U x=some e:=by
 unfold oh at he⊢;split at he;exact he;exact he;exact he;rename_i c _ _
 try simp only
 cases hb:(Nat.beq T U&&dr P T) with
 |false=>rw [hb] at he;cases he
 |true=>
  rw [hb] at he;simp only [cond_true] at he⊢;cases hx:lk c m with
  |none=>simp [hx] at he
  |some ch=>rw [hx] at he;rw [h _ _ hx];exact he
 rename_i x _ _ _ _ _ _
 try simp only
 cases hb:(dr P T&&nJ m x) with
 |false=>rw [hb] at he;cases he
 |true=>
  rw [hb] at he;simp only [Bool.and_eq_true] at hb;rw [hb.1,uz h hb.2];simp only [cond_true,Bool.and_self] at he⊢;split at he;rename_i l hl;rw [oi h hl];exact he;cases he
 exact he
theorem zG (h:MM m m'){nx:Nat}{v:aE}{r:Mem×Mem×Prop}(he:zt m nx v=some r):zt m' nx v=some r:=by
 unfold zt at he⊢;split at he;rename_i c i sz off
 try simp only
 cases hx:lk c m with
 |none=>simp [hx] at he
 |some ch=>rw [hx] at he;rw [h _ _ hx];exact he
 cases he
theorem ES (h:MM m m'){nx:Nat}{hh:Hint}{T:TypeId}{v:aE}{e:ca}(he:si P m nx hh T v=some e):si P m' nx hh T v=some e:=by
 unfold si at he⊢;cases hb:hh.xF with
 |false=>rw [hb] at he;exact zD h he
 |true=>
  rw [hb] at he;simp only [cond_true,CN] at he⊢;split at he;rename_i u n p hp;rw [zG h hp];simp only;split at he;rename_i e1 hl;rw [zD (MM.app h) hl];exact he;cases he;cases he
theorem CZ (h:MM m m'){nx:Nat}{hh:Hint}{T:TypeId}{v x:aE}{e:ca}(he:ti P m nx hh T v x=some e):ti P m' nx hh T v x=some e:=by
 unfold ti at he⊢;cases hb:hh.xF with
 |false=>rw [hb] at he;exact xH h he
 |true=>
  rw [hb] at he;simp only [cond_true,yx] at he⊢;split at he;rename_i u n p hp;rw [zG h hp];simp only;split at he;rename_i e1 hl;rw [xH (MM.app h) hl];exact he;cases he;cases he
theorem Gz (h:MM m m'){T:TypeId}{x y:aE}{e:ca}(he:BH P m T x y=some e):BH P m' T x y=some e:=by
 unfold BH at he⊢;have hd: ∀r,BG m x=some r→BG m' x=some r:=fun r hr=>by
  unfold BG at hr⊢;split at hr;rename_i c
  try simp only
  cases hx:lk c m with
  |none=>simp [hx] at hr
  |some ch=>rw [hx] at hr;rw [h _ _ hx];exact hr
  exact hr;cases hr
 split at he;rename_i el c off len hu hc;rw [hd _ hc,hu]
 try simp only
 split at he;rename_i t xs hl;rw [h _ _ hl];simp only;cases hb:((dq P el==some t.size&&t.top)&&nJ m y) with
 |false=>rw [hb] at he;cases he
 |true=>
  rw [hb] at he;simp only [Bool.and_eq_true] at hb;rw [show ((dq P el==some t.size&&t.top)&&nJ m' y)=true from by simp only [Bool.and_eq_true];exact ⟨hb.1,uz h hb.2⟩];simp only [cond_true] at he⊢;split at he;rename_i ys WY;rw [oi h WY];exact he;cases he
 cases he;cases he
theorem Bn (h:MM m m'){fr:Fr}{nx:Nat}{hh:Hint}{b:Builtin}{args:List Operand}{ts:List TypeId}{e:ca}(he:pY P fr m nx hh b args ts=some e):pY P fr m' nx hh b args ts=some e:=by
 unfold pY at he⊢;split at he;rename_i x T
 try simp only
 split at he;rename_i v hv;(try simp only [hv]);exact Gx h he;cases he;rename_i s x T T'
 try simp only
 split at he;rename_i t sv xv hs hx;(try simp only [hs,hx]);exact Bl h he;rename_i sv xv hs hx;(try simp only [hs,hx]);exact Bm h he;rename_i t sv xv hs hx;(try simp only [hs,hx]);exact he;cases he;exact he;exact he;rename_i x y T T'
 try simp only
 split at he;rename_i xv yv hx hy;(try simp only [hx,hy]);exact Gz h he;cases he;exact he;cases he
theorem K9 (h:MM m m'){fr:Fr}{nx:Nat}{hh:Hint}{o:Oper}{e:ca}(he:yy P fr m nx hh o=some e):yy P fr m' nx hh o=some e:=by
 unfold yy at he⊢;split at he
 case h_8 T x ho=>
  try simp only
  split at he;rename_i v hv;(try simp only [hv]);exact ES h he;cases he
 case h_9 T x y ho=>
  try simp only
  split at he;rename_i xv yv hx hy;(try simp only [hx,hy]);exact CZ h he;cases he
 case h_13 T U x ho=>
  try simp only
  split at he;rename_i v hv;(try simp only [hv]);exact zF h he;cases he
 case h_7 T len parts ho=>
  try simp only
  split at he;rename_i t vs hv;(try simp only [hv]);exact CY h he;rename_i t vs hv;(try simp only [hv]);exact he;rename_i vs hv;(try simp only [hv]);exact he;cases he
 case h_15 T x lo hi ho=>
  try simp only
  split at he;rename_i v l h' hv hl hh;(try simp only [hv,hl,hh]);exact EP h he;cases he
 case h_18 T x i ho=>
  try simp only
  split at he;rename_i v j hv hj;(try simp only [hv,hj]);exact yj h he;cases he
 case h_22 c ho=>
  try simp only
  split at he;rename_i b hb;(try simp only [hb]);exact Bn h he;rename_i f hf
  try simp only [hf]
  split at he;rename_i ms rs outs k vs hk kI;(try simp only [hk,kI]);exact zE h he;rename_i ms rs outs k t x vs hk kI;(try simp only [hk,kI]);exact zE h he;rename_i k fk n hk kI;(try simp only [hk,kI]);exact he;cases he;cases he
 all_goals first
  |exact he
  |cases he
end
end Go.Ide
namespace Go.Ide
abbrev ER:=Option Tmp×ca
def mF (e:ca):Mem:=e.mu++e.new
def kN (o:Oper):Bool:=
 match o.op with
 | .move _=>true
 | .assign _=>true
 | .pick _ _ _=>true
 | .binOp _ _ _ _ _=>true
 | .unOp _ _ _=>true
 | .fieldAddr _ _ _=>true
 | .index _ _ _=>true
 | .extract _ _=>true
 | .nilCheck _=>true
 |_=>false
def iu (sel:Nat→Bool):Nat→List ER→Fr→Fr
 |_,[],fr=>fr
 |i,(d,e)::r,fr=>iu sel (i+1) r (bif sel i then (match d with|some t=>(t,e.val)::fr|none=>fr) else fr)
def de (sel:Nat→Bool):Nat→List ER→Mem→Mem
 |_,[],m=>m
 |i,(_,e)::r,m=>de sel (i+1) r (bif sel i then mF e++m else m)
def iM (sel:Nat→Bool)(t:Tmp):Nat→List ER→Option aE
 |_,[]=>none
 |i,(d,e)::r=>(iM sel t (i+1) r).or (if sel i=true∧d=some t then some e.val else none)
def fJ (sel:Nat→Bool)(k:Nat):Nat→List ER→Option Chunk
 |_,[]=>none
 |i,(_,e)::r=>(fJ sel k (i+1) r).or (if sel i=true then lk k (mF e) else none)
theorem lN {sel:Nat→Bool}{t:Tmp}: ∀{l:List ER} {n:Nat} {fr:Fr},lk t (iu sel n l fr)=(iM sel t n l).or (lk t fr)
 |[],_,_=>by simp [iu,iM]
 |(d,e)::r,n,fr=>by
  simp only [iu,iM];rw [lN,Option.or_assoc]
  congr 1
  cases hs:sel n with
  |false=>simp
  |true=>
   simp only [cond_true,true_and];cases d with
   |none=>simp
   |some t'=>
    rw [aS];by_cases h:t=t';subst h;simp;rw [if_neg h,if_neg (fun e=>h (by injection e with e;exact e.symm))];rfl
theorem eP {sel:Nat→Bool}{k:Nat}: ∀{l:List ER} {n:Nat} {m:Mem},lk k (de sel n l m)=(fJ sel k n l).or (lk k m)
 |[],_,_=>by simp [de,fJ]
 |(d,e)::r,n,m=>by
  simp only [de,fJ];rw [eP,Option.or_assoc]
  congr 1
  cases hs:sel n with
  |false=>simp
  |true=>simp only [cond_true,if_true];rw [bQ]
theorem ll {sel sel':Nat→Bool}{t:Tmp}: ∀{l:List ER} {n:Nat},(∀(j:Nat) (d:Option Tmp) (e:ca),l[j]? =some (d,e)→d=some t→sel (n+j)=sel' (n+j))→iM sel t n l=iM sel' t n l
 |[],_,_=>rfl
 |(d,e)::r,n,h=>by
  simp only [iM];have ih:iM sel t (n+1) r=iM sel' t (n+1) r:=ll fun j d e hj hd=>by
   have:=h (j+1) d e (by simpa using hj) hd;have e1:n+(j+1)=n+1+j:=by omega
   rw [e1] at this;exact this
  have hh:(if sel n=true∧d=some t then some e.val else none)=if sel' n=true∧d=some t then some e.val else none:=by
   by_cases hd:d=some t;have h0:sel n=sel' n:=by simpa using h 0 d e rfl hd
   rw [h0];rw [if_neg (fun x=>hd x.2),if_neg (fun x=>hd x.2)]
  rw [ih,hh]
theorem ET {sel:Nat→Bool}{t:Tmp}{v:ca}: ∀{l:List ER} {n i:Nat},l[i]? =some (some t,v)→sel (n+i)=true→(∀(j:Nat) (d:Option Tmp) (e:ca),i<j→l[j]? =some (d,e)→d=some t→sel (n+j)=false)→iM sel t n l=some v.val
 |[],n,i,h,_,_=>by simp at h
 |(d,e)::r,n,0,h,hs,hn=>by
  simp at h;obtain ⟨rfl,rfl⟩:=h;have hz:iM sel t (n+1) r=iM (fun _=>false) t (n+1) r:=ll fun j d e hj hd=>by
   have:=hn (j+1) d e (by omega) (by simpa using hj) hd;rwa [show n+(j+1)=n+1+j from by omega] at this
  have hf: ∀(l:List ER) (n:Nat),iM (fun _=>false) t n l=none:=by
   intro l;induction l with
   |nil=>intro _;rfl
   |cons p l ih=>intro n;obtain ⟨d,e⟩:=p;simp [iM,ih]
  simp only [iM];rw [hz,hf];have hs:sel n=true:=by simpa using hs
  simp [hs]
 |(d,e)::r,n,i+1,h,hs,hn=>by
  simp only [iM];have:=ET (l:=r) (n:=n+1) (i:=i) (by simpa using h) (by rwa [show n+(i+1)=n+1+i from by omega] at hs) (fun j d e cq hj hd=>by
   have:=hn (j+1) d e (by omega) (by simpa using hj) hd;rwa [show n+(j+1)=n+1+j from by omega] at this)
  rw [this];rfl
theorem jt {sel:Nat→Bool}{k:Nat}{ch:Chunk}: ∀{l:List ER} {n:Nat},fJ sel k n l=some ch→ ∃(j:Nat) (d:Option Tmp) (e:ca),l[j]? =some (d,e)∧sel (n+j)=true∧lk k (mF e)=some ch
 |[],_,h=>by simp [fJ] at h
 |(d,e)::r,n,h=>by
  simp only [fJ] at h;cases hx:fJ sel k (n+1) r with
  |some c=>
   rw [hx] at h;have h:c=ch:=by simpa using h
   subst h;obtain ⟨j,d',e',h1,h2,h3⟩:=jt hx;exact ⟨j+1,d',e',by simpa using h1,by rwa [show n+(j+1)=n+1+j from by omega],h3⟩
  |none=>
   rw [hx] at h;simp only [Option.none_or] at h;split at h;rename_i hs;exact ⟨0,d,e,rfl,by simpa using hs,h⟩;cases h
theorem oE {sel:Nat→Bool}{k:Nat}: ∀{l:List ER} {n:Nat},fJ sel k n l=none→ ∀(j:Nat) (d:Option Tmp) (e:ca),l[j]? =some (d,e)→sel (n+j)=true→lk k (mF e)=none
 |[],_,_,j,d,e,hj,_=>by simp at hj
 |(d0,e0)::r,n,h,j,d,e,hj,hs=>by
  simp only [fJ,Option.or_eq_none_iff] at h;cases j with
  |zero=>
   simp at hj;obtain ⟨rfl,rfl⟩:=hj;have hs:sel n=true:=by simpa using hs
   have:=h.2;rwa [if_pos hs] at this
  |succ j=>exact oE h.1 j d e (by simpa using hj) (by rwa [show n+(j+1)=n+1+j from by omega] at hs)
def cU (j:Nat):List Nat→Bool
 |[]=>false
 |a::l=>Nat.beq j a||cU j l
theorem fg {j:Nat}: ∀{l:List Nat},cU j l=true↔j∈l
 |[]=>by simp [cU]
 |a::l=>by
  simp only [cU,Bool.or_eq_true,fg,List.mem_cons];constructor;rintro (h|h);exact .inl (bL h);exact .inr h;rintro (h|h);subst h;exact .inl (Nat.beq_refl _);exact .inr h
def oG (all:List Oper)(o:Oper):List Tmp:=
 (o.op.operands.toList.filterMap fun| .tmp t=>some t|_=>none)++(match o.guard with
  |some (j,_)=>(vu all j).toList
  |none=>[])
def gx (o:Oper):List Nat:=(o.after.toList.filter fun e=>Region.binds .any e).map (·.on)
def qc (all:List Oper)(x y:Oper):Bool:=
 (match x.dst with
 |some t=>cU t (oG all y)||(match y.dst with|some u=>Nat.beq t u|none=>false)
 |none=>false)||
 (match y.dst with
 |some t=>cU t (oG all x)
 |none=>false)
def qP (all:List Oper)(Ds:List (List Nat))(h:Nat):Nat→List Oper→Bool
 |_,[]=>true
 |i,o::os=>
  ((gx o).all fun d=>Nat.blt d i)&&
  (((Ds.getD i []).all fun j=>cU j (gx o)||(gx o).any fun d=>cU j (Ds.getD d [])))&&
  ((List.range i).all fun j=>cU j (Ds.getD i [])||(Nat.blt i h&& !(qc all (all.getD j default) o)))&&
  qP all Ds h (i+1) os
theorem xJ {all:List Oper}{Ds:List (List Nat)}{h:Nat}: ∀{os:List Oper} {n:Nat},qP all Ds h n os=true→ ∀(i:Nat) (o:Oper),os[i]? =some o→
 (∀d∈gx o,d<n+i)∧(∀j∈Ds.getD (n+i) [],j∈gx o∨ ∃d∈gx o,j∈Ds.getD d [])∧(∀j,j<n+i→j∈Ds.getD (n+i) []∨(n+i<h∧qc all (all.getD j default) o=false))
 |[],_,_,i,o,ho=>by simp at ho
 |o0::os,n,hk,i,o,ho=>by
  simp only [qP,Bool.and_eq_true] at hk;obtain ⟨⟨⟨h1,h2⟩,h3⟩,h4⟩:=hk;cases i with
  |succ i=>
   have:=xJ h4 i o (by simpa using ho);rwa [show n+1+i=n+(i+1) from by omega] at this
  |zero=>
   simp at ho;subst ho;refine ⟨fun d hd=> ?_,fun j hj=> ?_,fun j hj=> ?_⟩;have:=List.all_eq_true.1 h1 d hd;exact Nat.lt_of_succ_le (by simpa [Nat.blt] using this);have:=List.all_eq_true.1 h2 j hj;simp only [Bool.or_eq_true] at this;rcases this with h|h
   exact .inl (fg.1 h);obtain ⟨d,hd,hm⟩:=List.any_eq_true.1 h;exact .inr ⟨d,hd,fg.1 hm⟩;have:=List.all_eq_true.1 h3 j (by simpa using hj);simp only [Bool.or_eq_true,Bool.and_eq_true,Bool.not_eq_true'] at this;rcases this with h|⟨h,h'⟩
   exact .inl (fg.1 h);exact .inr ⟨Nat.lt_of_succ_le (by simpa [Nat.blt] using h),h'⟩
theorem ub {all:List Oper}{x y:Oper}(h:qc all x y=false):(∀t,x.dst=some t→t ∉ oG all y)∧(∀t,x.dst=some t→y.dst≠some t)∧(∀t,y.dst=some t→t ∉ oG all x):=by
 unfold qc at h;simp only [Bool.or_eq_false_iff] at h;obtain ⟨h1,h2⟩:=h;refine ⟨fun t ht hm=> ?_,fun t ht hy=> ?_,fun t ht hm=> ?_⟩;simp only [ht,Bool.or_eq_false_iff] at h1;rw [fg.2 hm] at h1;cases h1.1;simp [ht,hy] at h1;simp only [ht] at h2;rw [fg.2 hm] at h2;cases h2
structure HR where
 r:OH
 D:List Nat
def La (m:Mem)(l:Mem):Bool:=l.all fun p=>(lk p.1 m).isSome
def PJ (m l:Mem):Bool:=l.all fun p=>(lk p.1 m).isNone
theorem GA {m l:Mem}(h:PJ m l=true)(k:Nat)(hk:lk k l≠none):lk k m=none:=by
 obtain ⟨c,hc⟩:=Option.ne_none_iff_exists'.1 hk;have:=List.all_eq_true.1 h _ (mD hc);simpa using this
def EU (o:Oper)(h:Hint)(fr:Fr):Option Nat:=
 match o.op,h with
 | .load _ x,.no=>(match ev fr x with
  |some (.one (.ptr c _))=>some c
  |some (.one (.iy c _ _ _))=>some c
  |_=>none)
 | .indexAddr _ x _,.no=>(match ev fr x with
  |some (.one (.all c))=>some c
  |_=>none)
 | .slice _ x _ _ none,.no=>(match ev fr x with
  |some (.one (.aq (.sl _) _))=>some 1000000
  |_=>none)
 |_,_=>none
def N0 (k:Option Nat)(u:Mem):Bool:=
 match k with
 |some c=>(lk c u).isNone
 |none=>false
def wI (all:List Oper)(o:Oper)(D:List Nat)(e:ca)(m:Mem)(done:List ER)(ks:List (Option Nat))(ko:Option Nat):Nat→List ER→Bool
 |_,[]=>true
 |j,p::r=>(cU j D||((e.mu.isEmpty||(kN (all.getD j default)||PJ (de (fun _=>true) 0 (done.take j) m) e.mu||N0 (ks.getD j none) e.mu))&&(p.2.mu.isEmpty||(kN o||N0 ko p.2.mu))))&&wI all o D e m done ks ko (j+1) r
def zH (P:Program)(N:Nat)(all:List Oper)(st:St):List Oper→List HR→List ER→List (Option Nat)→Nat→Option (List ER×List Prop×Nat)
 |[],_,done,_,nx=>some (done,[],nx)
 |o::os,r::rs,done,ks,nx=>
  (match pA P all o r.r (iu (fun j=>cU j r.D) 0 done st.fr) (de (fun j=>cU j r.D) 0 done st.mem) nx with
  |some (e,cs)=>bif ((NY N o.dst&&wI all o r.D e st.mem done ks (EU o r.r.h (iu (fun j=>cU j r.D) 0 done st.fr)) 0 done)&&La (de (fun j=>cU j r.D) 0 done st.mem) e.mu)&&ux (de (fun _=>true) 0 done st.mem) e.new then
   (match zH P N all st os rs (done++[(o.dst,e)]) (ks++[EU o r.r.h (iu (fun j=>cU j r.D) 0 done st.fr)]) (nx+e.new.length) with
   |some (l,oy,n)=>some (l,cs++oy,n)
   |none=>none) else none
  |none=>none)
 |_::_,[],_,_,_=>none
def BM (P:Program)(N:Nat)(all:List Oper)(st:St)(os:List Oper)(rs:List HR)(done:List ER)(nx:Nat):Option (List ER×List Prop×Nat):=zH P N all st os rs done [] nx
structure GB (P:Program)(N:Nat)(all:List Oper)(st:St)(dV:List ER)(K:Nat→Option Nat)(i:Nat)(o:Oper)(D:List Nat):Prop where
 got: ∃(r:OH) (nx:Nat) (e:ca) (cs:List Prop),dV[i]? =some (o.dst,e)∧pA P all o r (iu (fun j=>cU j D) 0 (dV.take i) st.fr) (de (fun j=>cU j D) 0 (dV.take i) st.mem) nx=some (e,cs)∧bH cs∧
  NY N o.dst=true∧(∀k,lk k e.mu≠none→lk k (de (fun j=>cU j D) 0 (dV.take i) st.mem)≠none)∧fH (de (fun _=>true) 0 (dV.take i) st.mem) e.new∧
  K i=EU o r.h (iu (fun j=>cU j D) 0 (dV.take i) st.fr)∧
  (∀j d e',j<i→dV[j]? =some (d,e')→j∈D∨((e.mu=[]∨kN (all.getD j default)=true∨(∀k,lk k e.mu≠none→lk k (de (fun _=>true) 0 (dV.take j) st.mem)=none)∨ ∃c,K j=some c∧lk c e.mu=none)∧(e'.mu=[]∨kN o=true∨ ∃c,K i=some c∧lk c e'.mu=none)))
theorem BN {k:Option Nat}{u:Mem}(h:N0 k u=true): ∃c,k=some c∧lk c u=none:=by
 unfold N0 at h;cases k with
 |none=>cases h
 |some c=>exact ⟨c,rfl,by simpa using h⟩
theorem xK {all:List Oper}{o:Oper}{D:List Nat}{e:ca}{m:Mem}{done:List ER}{ks:List (Option Nat)}{ko:Option Nat}: ∀{l:List ER} {n:Nat},wI all o D e m done ks ko n l=true→ ∀j d e',l[j]? =some (d,e')→(n+j)∈D∨((e.mu=[]∨kN (all.getD (n+j) default)=true∨(∀k,lk k e.mu≠none→lk k (de (fun _=>true) 0 (done.take (n+j)) m)=none)∨ ∃c,ks.getD (n+j) none=some c∧lk c e.mu=none)∧(e'.mu=[]∨kN o=true∨ ∃c,ko=some c∧lk c e'.mu=none))
 |[],_,_,j,d,e',hj=>by simp at hj
 |p::r,n,h,0,d,e',hj=>by
  simp only [List.getElem?_cons_zero,Option.some.injEq] at hj;subst hj;simp only [wI,Bool.and_eq_true,Bool.or_eq_true,List.isEmpty_iff] at h;rcases h.1 with h|⟨h,h2⟩
  exact .inl (fg.1 h);refine .inr ⟨?_,h2.imp id fun h=>h.imp id BN⟩;rcases h with h|(h|h)|h
  exact .inl h;exact .inr (.inl h);exact .inr (.inr (.inl (GA h)));exact .inr (.inr (.inr (BN h)))
 |p::r,n,h,j+1,d,e',hj=>by
  simp only [wI,Bool.and_eq_true] at h;have:=xK h.2 j d e' (by simpa using hj);rwa [show n+1+j=n+(j+1) from by omega] at this
theorem GC {m l:Mem}(h:La m l=true)(k:Nat)(hk:lk k l≠none):lk k m≠none:=by
 obtain ⟨c,hc⟩:=Option.ne_none_iff_exists'.1 hk;have:=List.all_eq_true.1 h _ (mD hc);intro e;rw [e] at this;cases this
theorem xL {P:Program}{N:Nat}{all:List Oper}{st:St}: ∀{os:List Oper} {rs:List HR} {done dV:List ER} {ks:List (Option Nat)} {cs:List Prop} {nx nx':Nat},ks.length=done.length→zH P N all st os rs done ks nx=some (dV,cs,nx')→bH cs→
 (∃l,dV=done++l∧l.length=os.length)∧ ∃K:Nat→Option Nat,(∀j,j<done.length→K j=ks.getD j none)∧ ∀(i:Nat) (o:Oper),os[i]? =some o→GB P N all st dV K (done.length+i) o ((rs.map HR.D).getD i [])
 |[],rs,done,dV,ks,cs,nx,nx',_,h,_=>by
  simp only [zH] at h;injection h with h;injection h with h1 h;subst h1;exact ⟨⟨[],by simp,rfl⟩,fun j=>ks.getD j none,fun _ _=>rfl,fun i o ho=>by simp at ho⟩
 |o::os,[],done,dV,ks,cs,nx,nx',_,h,_=>by cases h
 |o::os,r::rs,done,dV,ks,cs,nx,nx',VT,h,hc=>by
  simp only [zH] at h;split at h
  ·rename_i e VF hi;cases hb:(((NY N o.dst&&wI all o r.D e st.mem done ks (EU o r.r.h (iu (fun j=>cU j r.D) 0 done st.fr)) 0 done)&&La (de (fun j=>cU j r.D) 0 done st.mem) e.mu)&&ux (de (fun _=>true) 0 done st.mem) e.new) with
   |false=>rw [hb] at h;cases h
   |true=>
    rw [hb] at h;simp only [cond_true] at h;simp only [Bool.and_eq_true] at hb;obtain ⟨⟨⟨hd,hp⟩,hu⟩,hf⟩:=hb;split at h
    ·rename_i l oy n hr;injection h with h;injection h with h1 h;injection h with h2 h3;subst h1;subst h2;obtain ⟨HY,eV⟩:=hc.append;obtain ⟨⟨l',e1,e2⟩,K,hK,Eg⟩:=xL (by simp [VT]) hr eV;have ZG: ∀j,j<done.length→K j=ks.getD j none:=fun j hj=>by
      rw [hK j (by simp;omega),List.getD_eq_getElem?_getD,List.getElem?_append_left (by omega),←List.getD_eq_getElem?_getD]
     have ZH:K done.length=EU o r.r.h (iu (fun j=>cU j r.D) 0 done st.fr):=by
      rw [hK done.length (by simp),List.getD_eq_getElem?_getD,List.getElem?_append_right (by omega),VT,Nat.sub_self];rfl
     refine ⟨⟨(o.dst,e)::l',by rw [e1];simp,by simp [e2]⟩,K,ZG,fun i o' xx=> ?_⟩;cases i with
     |zero=>
      simp at xx;subst xx;have ht:l.take done.length=done:=by rw [e1];simp
      refine ⟨⟨r.r,nx,e,VF,?_,?_,HY,hd,?_,?_,?_,?_⟩⟩;rw [e1];simp;simp only [Nat.add_zero,ht,List.map_cons];exact hi;simp only [Nat.add_zero,ht,List.map_cons];exact GC hu;simp only [Nat.add_zero,ht];exact sk hf;simp only [Nat.add_zero,ht,List.map_cons];exact ZH
      ·intro j d e' hj ZI;have FR:j<done.length:=by simpa using hj
       have Xj:done[j]? =some (d,e'):=by
        rw [e1,List.append_assoc,List.getElem?_append_left FR] at ZI;exact ZI
       have:=xK hp j d e' Xj;rw [Nat.zero_add] at this;have e5:l.take j=done.take j:=by rw [e1,List.append_assoc,List.take_append_of_le_length (by omega)]
       rw [e5,ZG j FR,Nat.add_zero,ZH];exact this
     |succ i=>
      have:=Eg i o' (by simpa using xx);have hlen:(done++[(o.dst,e)]).length+i=done.length+(i+1):=by simp;omega
      rw [hlen] at this;simpa using this
    cases h
  cases h
theorem GD {P:Program}{N:Nat}{all:List Oper}{st:St}{os:List Oper}{rs:List HR}{dV:List ER}{cs:List Prop}{nx nx':Nat}(h:BM P N all st os rs [] nx=some (dV,cs,nx'))(hc:bH cs):
 (∃l,dV=[]++l∧l.length=os.length)∧ ∃K:Nat→Option Nat,∀(i:Nat) (o:Oper),os[i]? =some o→GB P N all st dV K (([]:List ER).length+i) o ((rs.map HR.D).getD i []):=by
 obtain ⟨h1,K,_,h2⟩:=xL (done:=[]) (ks:=[]) rfl h hc;exact ⟨h1,K,h2⟩
theorem uB {sel:Nat→Bool}{t:Tmp}: ∀{l:List ER} {n i:Nat},(∀j,i≤j→sel (n+j)=false)→iM sel t n (l.take i)=iM sel t n l
 |[],_,_,_=>by simp
 |(d,e)::r,n,0,h=>by
  have:iM sel t n ((d,e)::r)=iM (fun _=>false) t n ((d,e)::r):=ll fun j _ _ _ _=>h j (Nat.zero_le _);rw [this];have hf: ∀(l:List ER) (n:Nat),iM (fun _=>false) t n l=none:=by
   intro l;induction l with
   |nil=>intro _;rfl
   |cons p l ih=>intro n;obtain ⟨d,e⟩:=p;simp [iM,ih]
  rw [hf];rfl
 |(d,e)::r,n,i+1,h=>by
  simp only [List.take_succ_cons,iM];rw [uB (fun j hj=>by have:=h (j+1) (by omega);rwa [show n+(j+1)=n+1+j from by omega] at this)]
theorem nu {l:List ER}{i j:Nat}{p:ER}(h:(l.take i)[j]? =some p):j<i∧l[j]? =some p:=by
 rw [List.getElem?_take] at h;split at h;rename_i cq;exact ⟨cq,h⟩;cases h
theorem Lb {fr rF:Fr}{x:Operand}(h: ∀t,x= .tmp t→lk t rF=lk t fr):ev rF x=ev fr x:=by
 cases x with
 |tmp t=>exact h t rfl
 |_=>rfl
theorem wJ {fr rF:Fr}: ∀{xs:List Operand},(∀x∈xs,ev rF x=ev fr x)→NV rF xs=NV fr xs
 |[],_=>rfl
 |x::xs,h=>by simp only [NV];rw [h x (by simp),wJ fun y hy=>h y (by simp [hy])]
theorem wK {fr rF:Fr}: ∀{xs:List (Nat×Operand)},(∀x∈xs.map (·.2),ev rF x=ev fr x)→AX rF xs=AX fr xs
 |[],_=>rfl
 |(i,x)::xs,h=>by simp only [AX];rw [h x (by simp),wK fun y hy=>h y (by simp only [List.map_cons,List.mem_cons];exact .inr hy)]
theorem tq {fr rF:Fr}{x:Option Operand}(h: ∀y,x=some y→ev rF y=ev fr y):Nu rF x=Nu fr x:=by
 cases x with
 |none=>rfl
 |some y=>simp only [Nu];rw [h y rfl]
theorem JL {P:Program}{fr rF:Fr}{m:Mem}{nx:Nat}{h:Hint}{o:Oper}(hk: ∀x∈o.op.operands.toList,ev rF x=ev fr x):yy P rF m nx h o=yy P fr m nx h o:=by
 unfold yy;cases ho:o.op<;>rw [ho] at hk<;>simp only [Op.operands] at hk<;>try simp only
 case move x=>rw [hk x (by simp)]
 case assign x=>rw [hk x (by simp)]
 case pick c x y=>
  cases h with
  |tv b=>simp only;rw [hk c (by simp),hk (if b then x else y) (by cases b<;>simp)]
  |_=>rfl
 case box T x=>rw [hk x (by simp)]
 case build T ps=>rw [wK fun x hx=>hk x (by simpa using hx)]
 case buildSlice T n ps=>rw [wK fun x hx=>hk x (by simpa using hx)]
 case load T x=>rw [hk x (by simp)]
 case store T x y=>rw [hk x (by simp),hk y (by simp)]
 case nilCheck x=>rw [hk x (by simp)]
 case binOp op T x y T'=>rw [hk x (by simp),hk y (by simp)]
 case unOp op T x=>rw [hk x (by simp)]
 case convert T U x=>rw [hk x (by simp)]
 case makeSlice T l c=>rw [hk l (by simp),hk c (by simp)]
 case slice T x lo hi mx=>
  cases mx with
  |some q=>
   try simp only
   rw [hk x (by simp),hk q (by simp),tq fun y hy=>hk y (by subst hy;simp),tq (x:=hi) fun y hy=>hk y (by subst hy;simp)]
  |none=>
   try simp only
   rw [hk x (by simp),tq fun y hy=>hk y (by subst hy;simp),tq (x:=hi) fun y hy=>hk y (by subst hy;simp)]
 case fieldAddr T x f=>rw [hk x (by simp)]
 case indexAddr T x i=>rw [hk x (by simp),hk i (by simp)]
 case index T x i=>rw [hk x (by simp),hk i (by simp)]
 case extract x i=>rw [hk x (by simp)]
 case makeFunc fn first captured=>
  have dU: ∀x∈captured.toList,ev rF x=ev fr x:=fun x hx=>hk x (by simp only [Array.toList_append,List.mem_append];exact .inr hx);cases fn with
  |func f=>
   try simp only
   rw [wJ dU]
  |_=>rfl
 case call c=>
  cases hc:c.callee with
  |builtin b=>
   simp only;have ha: ∀x∈c.args.toList,ev rF x=ev fr x:=fun x hx=>hk x (by simp [Call.operands,hc];simpa using hx);unfold pY;split;rename_i x T mQ _;rw [ha x (by rw [mQ];simp)];rename_i s x T T' mQ _;rw [ha s (by rw [mQ];simp),ha x (by rw [mQ];simp)];rename_i _ x y mQ;rw [ha x (by rw [mQ];simp),ha y (by rw [mQ];simp)];rename_i _ x y mQ;rw [ha x (by rw [mQ];simp),ha y (by rw [mQ];simp)];rename_i x y T T' mQ _;rw [ha x (by rw [mQ];simp),ha y (by rw [mQ];simp)];rename_i x T mQ _;rw [ha x (by rw [mQ];simp)];rfl
  |value f=>
   simp only;rw [hk f (by simp [Call.operands,hc]),wJ fun x hx=>hk x (by simp [Call.operands,hc];exact .inr (by simpa using hx))]
  |invoke r n=>rfl
theorem Ik {P:Program}{fr:Fr}{m m':Mem}{nx c:Nat}{h:Hint}{o:Oper}{e:ca}(hk:EU o h fr=some c)(hm: ∀ch,lk c m=some ch→lk c m'=some ch)(he:yy P fr m nx h o=some e):yy P fr m' nx h o=some e∧e.new=[]∧e.mu=[]:=by
 have FV: ∀{v:aE} {e:ca},bZ v=some e→e.new=[]∧e.mu=[]:=by
  intro v e h;injection h with h;subst h;exact ⟨rfl,rfl⟩
 have Lc: ∀{v:aE} {c:List Prop} {e:ca},gM v c=some e→e.new=[]∧e.mu=[]:=by
  intro v c e h;injection h with h;subst h;exact ⟨rfl,rfl⟩
 unfold EU at hk;unfold yy at he⊢;cases ho:o.op<;>rw [ho] at hk he<;>(try simp only at he⊢)<;>try (simp only at hk;cases hk;done)
 case load T x=>
  cases h<;>simp only at hk<;>try (cases hk;done)
  split at hk;rename_i c' off hv;injection hk with hk;subst hk;rw [hv] at he⊢;simp only [si,Hint.xF,cond_false] at he⊢;unfold pN at he⊢;split at he;rename_i heq _ _;cases heq;rename_i heq _ _;cases heq;rename_i c0 n ag K8 Jy heq hs ha;injection heq with heq;subst heq
  (try simp only [hs,ha])
  simp only [nN] at he⊢;cases hx:lk c' m with
  |none=>rw [hx] at he;simp at he
  |some ch=>
   rw [hx] at he;rw [hm ch hx];refine ⟨he,?_⟩;split at he;split at he;exact FV he;cases he;cases he
  cases he;rename_i c' i sz off hv;injection hk with hk;subst hk;rw [hv] at he⊢;simp only [si,Hint.xF,cond_false] at he⊢;unfold pN at he⊢;split at he;rename_i c0 i0 sz0 aaY n ag heq hs ha;injection heq with heq;injection heq with q1 q2 q3 q4;subst q1;subst q2;subst q3;subst q4
  (try simp only [hs,ha])
  cases hx:lk c' m with
  |none=>rw [hx] at he;simp at he
  |some ch=>
   rw [hx] at he;rw [hm ch hx];refine ⟨he,?_⟩;cases ch with
   |seq t xs=>
    simp only at he;revert he;generalize (_&&_:Bool)=q;intro he;cases q;cases he;simp only [cond_true] at he;split at he;exact Lc he;cases he
   |rB t xs j cs ks=>
    simp only at he;revert he;generalize (_&&_:Bool)=q;intro he;cases q;cases he;simp only [cond_true] at he;split at he;exact Lc he;cases he
   |box cs=>cases he
   |gone=>cases he
  rename_i heq _ _;cases heq;rename_i c0 n ag K8 Jy heq hs ha;injection heq with heq;exact absurd heq.symm (K8 _ _ _ _);cases he;cases hk
 case slice T x lo hi q=>
  cases h<;>cases q<;>simp only at hk<;>try (cases hk;done)
  split at hk
  ·rename_i t xs hv;simp only at he⊢;rw [hv] at he⊢;split at he
   ·rename_i v l h' heq hl hh;injection heq with heq;subst heq
    (try simp only [hl,hh])
    unfold ui at he⊢;cases hu:P.underlying T with
    |none=>rw [hu] at he;cases he
    |some u=>
     rw [hu] at he;cases u<;>simp only at he⊢ <;>try (cases he;done)
     refine ⟨he,?_⟩;split at he;revert he;generalize (_==some t.size:Bool)=b;intro he;cases b;cases he;exact Lc he;cases he
   cases he
  cases hk
 case indexAddr T x i=>
  cases h<;>simp only at hk<;>try (cases hk;done)
  split at hk;rename_i c' hv;injection hk with hk;subst hk;rw [hv] at he⊢;cases hi:ev fr i with
  |none=>rw [hi] at he;cases he
  |some j=>
   rw [hi] at he;simp only at he⊢;unfold kH at he⊢;split at he;rename_i el k n hu
   (try simp only [hu])
   split at he;rename_i heq _;cases heq;rename_i c0 kz heq hs;injection heq with heq;injection heq with heq;subst heq
   (try simp only [hs])
   cases hx:lk c' m with
   |none=>rw [hx] at he;simp at he
   |some ch=>
    rw [hx] at he;rw [hm ch hx];refine ⟨he,?_⟩;cases ch with
    |seq t xs=>
     simp only at he;revert he;generalize (Nat.beq _ _:Bool)=q;intro he;cases q;cases he;exact Lc he
    |rB t xs j cs ks=>
     simp only at he;revert he;generalize (Nat.beq _ _:Bool)=q;intro he;cases q;cases he;exact Lc he
    |box cs=>cases he
    |gone=>cases he
   rename_i heq _;cases heq;rename_i heq _;cases heq;cases he;cases he
  cases hk
theorem uC {P:Program}{all:List Oper}{fr rF:Fr}{m m':Mem}{nx:Nat}{o:Oper}{r:OH}{x:ca×List Prop}(hf: ∀t∈oG all o,lk t rF=lk t fr)(hm:MM m m')(h:pA P all o r fr m nx=some x):pA P all o r rF m' nx=some x:=by
 have hk: ∀x∈o.op.operands.toList,ev rF x=ev fr x:=fun x hx=>Lb fun t ht=>hf t (by
  unfold oG;refine List.mem_append.2 (.inl (List.mem_filterMap.2 ⟨x,hx,?_⟩));rw [ht])
 have hi: ∀e,yy P fr m nx r.h o=some e→yy P rF m' nx r.h o=some e:=fun e he=>by
  rw [JL hk];exact K9 hm he
 unfold pA at h⊢;cases hg:o.guard with
 |none=>
  rw [hg] at h;simp only at h⊢;cases hx:yy P fr m nx r.h o with
  |none=>simp [hx] at h
  |some e=>rw [hx] at h;rw [hi e hx];exact h
 |some p=>
  obtain ⟨j,want⟩:=p;rw [hg] at h;simp only at h⊢;have hgs:(vu all j).bind (fun t=>lk t rF)=(vu all j).bind (fun t=>lk t fr):=by
   cases hs:vu all j with
   |none=>rfl
   |some t=>
    simp only [Option.bind_some];exact hf t (by unfold oG;simp [hg,hs])
  rw [hgs];split at h;rename_i tv b Xd hb;cases gX:(tv==want) with
  |false=>rw [gX] at h;exact h
  |true=>
   rw [gX] at h;simp only [cond_true] at h⊢;cases hx:yy P fr m nx r.h o with
   |none=>simp [hx] at h
   |some e=>rw [hx] at h;rw [hi e hx];exact h
  exact h;cases h
theorem EV {P:Program}{all:List Oper}{fr rF:Fr}{m m':Mem}{nx c:Nat}{o:Oper}{r:OH}{e:ca}{cs:List Prop}(hk:EU o r.h fr=some c)(hf: ∀t∈oG all o,lk t rF=lk t fr)(hm: ∀ch,lk c m=some ch→lk c m'=some ch)(h:pA P all o r fr m nx=some (e,cs)):
 pA P all o r rF m' nx=some (e,cs)∧e.new=[]∧e.mu=[]:=by
 have h1:pA P all o r fr m' nx=some (e,cs)∧e.new=[]∧e.mu=[]:=by
  unfold pA at h⊢;cases hg:o.guard with
  |none=>
   rw [hg] at h;simp only at h⊢;cases hx:yy P fr m nx r.h o with
   |none=>simp [hx] at h
   |some e'=>
    rw [hx] at h;obtain ⟨k1,k2,k3⟩:=Ik hk hm hx;rw [k1];injection h with h;injection h with h1 h2;subst h1;exact ⟨by simp only [h2],k2,k3⟩
  |some p=>
   obtain ⟨j,want⟩:=p;rw [hg] at h;simp only at h⊢;split at h;rename_i tv b Xd hb;cases gX:(tv==want) with
   |false=>
    rw [gX] at h;simp only [cond_false] at h⊢;injection h with h;injection h with h1 h2;subst h1;exact ⟨by rw [h2],rfl,rfl⟩
   |true=>
    rw [gX] at h;simp only [cond_true] at h⊢;cases hx:yy P fr m nx r.h o with
    |none=>simp [hx] at h
    |some e'=>
     rw [hx] at h;obtain ⟨k1,k2,k3⟩:=Ik hk hm hx;rw [k1];injection h with h;injection h with h1 h2;subst h1;exact ⟨by simp only [h2],k2,k3⟩
   injection h with h;injection h with h1 h2;subst h1;exact ⟨by rw [h2],rfl,rfl⟩;cases h
 exact ⟨uC hf (fun _ _ h=>h) h1.1,h1.2⟩
end Go.Ide
namespace Go.Ide
section
variable {cx:Cx} {g:GM} {st:St} {a:Act} {w:World}
theorem dw.congr {rF:Fr}{m':Mem}{nx':Nat}(h:dw cx g st a w)(hf: ∀t v,lk t rF=some v→lk t st.fr=some v)(hm: ∀k,lk k m'=lk k st.mem):dw cx g ⟨rF,m',nx'⟩ a w:=by
 have h1:dw cx g (st.my m' nx') a w:=h.AZ (G:=[]) ⟨bK.refl _ _,fun b hb=>(by simp at hb),fun _ _=>rfl,fun k ch hk=> .inl ⟨(hm k).trans hk,fun _ b _ _ hb=>by simp at hb⟩,fun k ch hk gP=>by
  rw [hm,hk] at gP;cases gP⟩
 exact ⟨h1.defers,h1.size,fun t v hl=>h1.fr t v (hf t v hl),h1.mem,h1.lz,h1.rC,h1.lt,h1.keep,h1.own,h1.gl⟩
theorem dw.drew (h:dw cx g st a w):dw cx g st a w.drew:=by
 have h1:dw cx g (st.my st.mem st.nx) a w.drew:=h.AZ (G:=[]) ⟨bK.drew _ _,fun b hb=>(by simp at hb),fun _ _=>rfl,fun k ch hk=> .inl ⟨hk,fun _ b _ _ hb=>by simp at hb⟩,fun k ch hk gP=>by
  rw [hk] at gP;cases gP⟩
 exact h1
theorem zI {α:Type}: ∀{l:List (Nat×α)} {p:Nat×α},p∈l→lk p.1 l≠none
 |q::l,p,h=>by
  obtain ⟨k,x⟩:=q;rw [aS];split;simp;rename_i jq;rcases List.mem_cons.1 h with e|h
  subst e;exact absurd rfl jq;exact zI h
theorem so {sel sel':Nat→Bool}{k:Nat}: ∀{l:List ER} {n:Nat},(∀(j:Nat) (d:Option Tmp) (e:ca),l[j]? =some (d,e)→lk k (mF e)≠none→sel (n+j)=sel' (n+j))→fJ sel k n l=fJ sel' k n l
 |[],_,_=>rfl
 |(d,e)::r,n,h=>by
  simp only [fJ];have ih:fJ sel k (n+1) r=fJ sel' k (n+1) r:=so fun j d e hj hd=>by
   have:=h (j+1) d e (by simpa using hj) hd;have e1:n+(j+1)=n+1+j:=by omega
   rw [e1] at this;exact this
  have hh:(if sel n=true then lk k (mF e) else none)=if sel' n=true then lk k (mF e) else none:=by
   cases hk:lk k (mF e) with
   |none=>simp
   |some c=>
    have h0:sel n=sel' n:=by simpa using h 0 d e rfl (by rw [hk];simp)
    rw [h0]
  rw [ih,hh]
structure ml (P:Program)(N:Nat)(all:List Oper)(st:St)(h:Nat)(Ds:List (List Nat))(dV:List ER)(K:Nat→Option Nat):Prop where
 len:dV.length=h
 ok: ∀i,i<h→ ∃o,all[i]? =some o∧GB P N all st dV K i o (Ds.getD i [])
 C0: ∀i o,all[i]? =some o→(∀d∈gx o,d<i)∧(∀j∈Ds.getD i [],j∈gx o∨ ∃d∈gx o,j∈Ds.getD d [])∧(∀j,j<i→j∈Ds.getD i []∨(i<h∧qc all (all.getD j default) o=false))
variable {P:Program} {N:Nat} {all:List Oper} {h:Nat} {Ds:List (List Nat)} {dV:List ER} {K:Nat→Option Nat}
theorem ml.lt (H:ml P N all st h Ds dV K): ∀(i j:Nat) (o:Oper),all[i]? =some o→j∈Ds.getD i []→j<i:=by
 intro i;induction i using Nat.strongRecOn with
 |_ i ih=>
  intro j o ho hj;obtain ⟨h1,h2,_⟩:=H.C0 i o ho;rcases h2 j hj with hd|⟨d,hd,hj⟩
  exact h1 j hd;have Nv:=h1 d hd;have cq:i<all.length:=(List.getElem?_eq_some_iff.1 ho).1;exact Nat.lt_trans (ih d Nv j all[d] (List.getElem?_eq_getElem (Nat.lt_trans Nv cq)) hj) Nv
theorem ml.er (H:ml P N all st h Ds dV K){i:Nat}{d:Option Tmp}{e:ca}(he:dV[i]? =some (d,e)):i<h∧ ∃o,all[i]? =some o∧d=o.dst∧all.getD i default=o:=by
 have cq:i<h:=by rw [←H.len];exact (List.getElem?_eq_some_iff.1 he).1
 obtain ⟨o,ho,⟨⟨r,nx,e',cs,h1,_⟩⟩⟩:=H.ok i cq;rw [he] at h1;injection h1 with h1;injection h1 with h1 h2;refine ⟨cq,o,ho,h1,?_⟩;rw [List.getD_eq_getElem?_getD,ho];rfl
theorem Ld {k:Nat}{e:ca}(h:lk k (mF e)=none):lk k e.new=none:=by
 unfold mF at h;rw [bQ,Option.or_eq_none_iff] at h;exact h.2
theorem ml.uniq (H:ml P N all st h Ds dV K){i j:Nat}{d d':Option Tmp}{e e':ca}{k:Nat}(hi:dV[i]? =some (d,e))(hj:dV[j]? =some (d',e'))(hk:lk k e.new≠none)(gP:lk k e'.new≠none):i=j:=by
 have aux: ∀{i j:Nat} {d d':Option Tmp} {e e':ca},dV[i]? =some (d,e)→dV[j]? =some (d',e')→lk k e.new≠none→lk k e'.new≠none→ ¬i<j:=by
  intro i j d d' e e' hi hj hk gP cq;obtain ⟨_,o,ho,_⟩:=H.er hj;obtain ⟨o',_,⟨⟨r,nx,e1,cs,h1,_,_,_,_,hf,_⟩⟩⟩:=H.ok j (H.er hj).1;rw [hj] at h1;injection h1 with h1;injection h1 with _ h1;subst h1;obtain ⟨c,hc⟩:=Option.ne_none_iff_exists'.1 gP;have hz:=hf _ (mD hc);rw [eP,Option.or_eq_none_iff] at hz;exact hk (Ld (oE hz.1 i d e (by rw [List.getElem?_take,if_pos cq];exact hi) rfl))
 rcases Nat.lt_trichotomy i j with h|h|h
 exact absurd h (aux hi hj hk gP);exact h;exact absurd h (aux hj hi gP hk)
theorem ml.C1 (H:ml P N all st h Ds dV K){i:Nat}{d:Option Tmp}{e:ca}{k:Nat}(hi:dV[i]? =some (d,e))(hk:lk k e.new≠none):lk k st.mem=none:=by
 obtain ⟨o',_,⟨⟨r,nx,e1,cs,h1,_,_,_,_,hf,_⟩⟩⟩:=H.ok i (H.er hi).1;rw [hi] at h1;injection h1 with h1;injection h1 with _ h1;subst h1;obtain ⟨c,hc⟩:=Option.ne_none_iff_exists'.1 hk;have hz:=hf _ (mD hc);rw [eP,Option.or_eq_none_iff] at hz;exact hz.2
theorem BO {m:Mem}{nx:Nat}{hh:Hint}{fr:Fr}{o:Oper}{e:ca}(hb:kN o=true)(he:yy P fr m nx hh o=some e):e.new=[]∧e.mu=[]:=by
 unfold yy at he;unfold kN at hb;have FV: ∀{v:aE} {e:ca},bZ v=some e→e.new=[]∧e.mu=[]:=by
  intro v e h;injection h with h;subst h;exact ⟨rfl,rfl⟩
 have Lc: ∀{v:aE} {c:List Prop} {e:ca},gM v c=some e→e.new=[]∧e.mu=[]:=by
  intro v c e h;injection h with h;subst h;exact ⟨rfl,rfl⟩
 cases ho:o.op<;>rw [ho] at hb he<;>try (cases hb;done)
 all_goals simp only at he
 case move=>split at he;exact FV he;cases he
 case assign=>split at he;exact FV he;cases he
 case pick=>
  split at he;split at he;unfold Kx at he;split at he;exact Lc he;cases he;cases he;cases he
 case binOp=>
  split at he;unfold BD at he;split at he;split at he;split at he;exact FV he;unfold KV at he;split at he<;>first|exact FV he|cases he
  cases he;unfold og at he;split at he;rename_i T _ _ _ _ _ _ _ _ _;revert he;generalize (_||_:Bool)=q;intro he;cases q;simp only [cond_false] at he;split at he<;>first|exact FV he|cases he
  cases he;cases he;unfold Ji at he;split at he;split at he;unfold F5 at he;split at he<;>first|exact Lc he|cases he
  split at he;unfold NG at he;split at he<;>first|exact FV he|exact Lc he|(split at he<;>first|exact FV he|cases he)
  cases he;unfold Qo at he;split at he<;>first|exact FV he|exact Lc he|cases he
  split at he<;>first|exact FV he|cases he
  cases he;cases he
 case unOp=>
  split at he;unfold NR at he;split at he;exact FV he;unfold VE at he;split at he<;>first|exact FV he|cases he
  cases he
 case fieldAddr=>
  split at he;unfold qz at he;split at he;split at he;split at he<;>first|exact FV he|cases he
  cases he;cases he;cases he
 case index=>
  split at he;unfold CS at he;split at he<;>first|exact Lc he|cases he
  cases he
 case extract=>
  split at he;unfold u7 at he;split at he;split at he;split at he<;>first|exact FV he|cases he
  cases he;cases he;cases he
 case nilCheck=>
  split at he;unfold QO at he;split at he<;>first|exact FV he|cases he
  cases he
theorem GF {m:Mem}{nx:Nat}{r:OH}{fr:Fr}{o:Oper}{e:ca}{cs:List Prop}(hb:kN o=true)(he:pA P all o r fr m nx=some (e,cs)):e.new=[]∧e.mu=[]:=by
 unfold pA at he;split at he;split at he;rename_i e' hi;injection he with he;injection he with e1 _;subst e1
 exact BO hb hi;cases he;split at he;rename_i tv b _ _;cases hc:(tv==_) with
 |true=>
  rw [hc] at he;simp only [cond_true] at he;split at he;rename_i e' hi;injection he with he;injection he with e1 _;subst e1
  exact BO hb hi;cases he
 |false=>
  rw [hc] at he;injection he with he;injection he with e1 _;subst e1
  exact ⟨rfl,rfl⟩
 injection he with he;injection he with e1 _;subst e1
 exact ⟨rfl,rfl⟩;cases he
theorem JM {m m':Mem}{nx:Nat}{hh:Hint}{fr:Fr}{o:Oper}(hb:kN o=true):yy P fr m nx hh o=yy P fr m' nx hh o:=by
 unfold yy;unfold kN at hb;cases ho:o.op<;>rw [ho] at hb<;>first|rfl|(cases hb;done)
theorem GG {fr rF:Fr}{m m':Mem}{nx:Nat}{o:Oper}{r:OH}{x:ca×List Prop}(hb:kN o=true)(hf: ∀t∈oG all o,lk t rF=lk t fr)(h:pA P all o r fr m nx=some x):pA P all o r rF m' nx=some x:=by
 have e:pA P all o r fr m nx=pA P all o r fr m' nx:=by
  unfold pA;rw [JM (P:=P) (m:=m) (m':=m') hb]
 rw [e] at h;exact uC hf (fun _ _ hk=>hk) h
theorem ml.blind (H:ml P N all st h Ds dV K){i:Nat}{d:Option Tmp}{e:ca}(hi:dV[i]? =some (d,e))(hb:kN (all.getD i default)=true):mF e=[]:=by
 obtain ⟨cq,o,ho,_,hg⟩:=H.er hi;obtain ⟨o',xx,⟨⟨r,nx,e1,cs,h1,h2,_⟩⟩⟩:=H.ok i cq;rw [hi] at h1;injection h1 with h1;injection h1 with _ h1;subst h1;rw [ho] at xx;injection xx with xx;subst xx;rw [hg] at hb;obtain ⟨h3,h4⟩:=GF hb h2;unfold mF;rw [h3,h4];rfl
theorem kO {k:Nat}{e:ca}(hk:lk k (mF e)≠none):lk k e.mu≠none∨lk k e.new≠none:=by
 unfold mF at hk;rw [bQ] at hk;by_cases h1:lk k e.mu=none;right;intro h2;rw [h1,h2] at hk;exact hk rfl;exact .inl h1
theorem ml.Uy (H:ml P N all st h Ds dV K){k:Nat}: ∀(j:Nat) (d:Option Tmp) (e:ca),dV[j]? =some (d,e)→lk k (mF e)≠none→lk k st.mem≠none∨ ∃j2 d2 e2,j2≤j∧dV[j2]? =some (d2,e2)∧lk k e2.new≠none:=by
 intro j;induction j using Nat.strongRecOn with
 |_ j ih=>
  intro d e hj hk;rcases kO hk with hu|hn
  obtain ⟨o',_,⟨⟨r,nx,e1,cs,h1,_,_,_,hp,_⟩⟩⟩:=H.ok j (H.er hj).1;rw [hj] at h1;injection h1 with h1;injection h1 with _ h1;subst h1;have:=hp k hu;rw [eP] at this;cases hx:fJ (fun q=>cU q (Ds.getD j [])) k 0 (dV.take j) with
  |none=>rw [hx,Option.none_or] at this;exact .inl this
  |some c=>
   obtain ⟨q,d2,e2,g1,_,g3⟩:=jt hx;obtain ⟨hq,g1⟩:=nu g1;rcases ih q hq d2 e2 g1 (by rw [g3];simp) with h0|⟨j2,d3,e3,h1,h2,h3⟩
   exact .inl h0;exact .inr ⟨j2,d3,e3,by omega,h2,h3⟩
  exact .inr ⟨j,d,e,Nat.le_refl _,hj,hn⟩
theorem ml.pair (H:ml P N all st h Ds dV K){i j:Nat}{d d':Option Tmp}{e e':ca}(hi:dV[i]? =some (d,e))(hj:dV[j]? =some (d',e'))(cq:j<i)(hn:j ∉ Ds.getD i []):e'.mu=[]∨mF e=[]:=by
 obtain ⟨o',xx,⟨⟨r,nx,e1,cs,h1,TM,_,_,_,_,hK,hp⟩⟩⟩:=H.ok i (H.er hi).1;rw [hi] at h1;injection h1 with h1;injection h1 with _ h1;subst h1;have hg:all.getD i default=o':=by rw [List.getD_eq_getElem?_getD,xx];rfl
 rcases hp j d' e' cq hj with h|⟨h1,h2⟩
 exact absurd h hn;rcases h2 with h2|h2|⟨c,h2,_⟩
 exact .inl h2;exact .inr (H.blind hi (by rw [hg];exact h2));obtain ⟨_,k1,k2⟩:=EV (hK.symm.trans h2) (fun _ _=>rfl) (fun _ h=>h) TM;right;unfold mF;rw [k1,k2];rfl
theorem Lf {k:Nat}{e:ca}(h:mF e=[]):lk k (mF e)=none:=by rw [h];rfl
theorem zJ {sel:Nat→Bool}{k:Nat}{ch:Chunk}{v:ca}: ∀{l:List ER} {n i:Nat} {d:Option Tmp},l[i]? =some (d,v)→sel (n+i)=true→lk k (mF v)=some ch→(∀(j:Nat) (d:Option Tmp) (e:ca),i<j→l[j]? =some (d,e)→lk k (mF e)≠none→sel (n+j)=false)→fJ sel k n l=some ch
 |[],n,i,_,h,_,_,_=>by simp at h
 |(d,e)::r,n,0,d',h,hs,hk,hn=>by
  simp at h;obtain ⟨rfl,rfl⟩:=h;have hz:fJ sel k (n+1) r=none:=by
   cases hx:fJ sel k (n+1) r with
   |none=>rfl
   |some c=>
    obtain ⟨j,d2,e2,g1,g2,g3⟩:=jt hx;have:=hn (j+1) d2 e2 (by omega) (by simpa using g1) (by rw [g3];simp);rw [show n+(j+1)=n+1+j from by omega,g2] at this;cases this
  simp only [fJ];have hs:sel n=true:=by simpa using hs
  rw [hz,if_pos hs,hk];rfl
 |(d,e)::r,n,i+1,d',h,hs,hk,hn=>by
  simp only [fJ];have:=zJ (l:=r) (n:=n+1) (i:=i) (d:=d') (by simpa using h) (by rwa [show n+(i+1)=n+1+i from by omega] at hs) hk (fun j d e cq hj hd=>by
   have:=hn (j+1) d e (by omega) (by simpa using hj) hd;rwa [show n+(j+1)=n+1+j from by omega] at this)
  rw [this];rfl
theorem zK {sel:Nat→Bool}{k:Nat}{ch:Chunk}: ∀{l:List ER} {n:Nat},fJ sel k n l=some ch→ ∃(j:Nat) (d:Option Tmp) (e:ca),l[j]? =some (d,e)∧sel (n+j)=true∧lk k (mF e)=some ch∧ ∀(q:Nat) (d:Option Tmp) (e:ca),j<q→l[q]? =some (d,e)→lk k (mF e)≠none→sel (n+q)=false
 |[],_,h=>by simp [fJ] at h
 |(d,e)::r,n,h=>by
  simp only [fJ] at h;cases hx:fJ sel k (n+1) r with
  |some c=>
   rw [hx] at h;have h:c=ch:=by simpa using h
   subst h;obtain ⟨j,d',e',h1,h2,h3,h4⟩:=zK hx;refine ⟨j+1,d',e',by simpa using h1,by rwa [show n+(j+1)=n+1+j from by omega],h3,fun q d2 e2 hq yu hk=> ?_⟩;cases q with
   |zero=>omega
   |succ q=>
    have:=h4 q d2 e2 (by omega) (by simpa using yu) hk;rwa [show n+(q+1)=n+1+q from by omega]
  |none=>
   rw [hx] at h;simp only [Option.none_or] at h;split at h;rename_i hs;refine ⟨0,d,e,rfl,by simpa using hs,h,fun q d2 e2 hq yu hk=> ?_⟩;cases q with
   |zero=>omega
   |succ q=>
    cases Xk:sel (n+(q+1)) with
    |false=>rfl
    |true=>exact absurd (oE hx q d2 e2 (by simpa using yu) (by rwa [show n+1+q=n+(q+1) from by omega])) hk
   cases h
def pB (st:St)(dV:List ER)(sel:Nat→Bool)(nx:Nat):St:=⟨iu sel 0 dV st.fr,de sel 0 dV st.mem,nx⟩
theorem ml.step (H:ml P N all st h Ds dV K){sel:Nat→Bool}{i:Nat}{o:Oper}(hi:i<h)(ho:all[i]? =some o)(hn:sel i=false)(hd: ∀j∈Ds.getD i [],sel j=true)(hc: ∀j,j<h→sel j=true→ ∀k∈Ds.getD j [],sel k=true):
 ∃(r:OH) (nx:Nat) (e:ca) (cs:List Prop),pA P all o r (iu sel 0 dV st.fr) (de sel 0 dV st.mem) nx=some (e,cs)∧bH cs∧NY N o.dst=true∧fH (de sel 0 dV st.mem) e.new∧
  (∀t,lk t (iu (fun j=>sel j||Nat.beq j i) 0 dV st.fr)=lk t (match o.dst with|some t'=>(t',e.val)::iu sel 0 dV st.fr|none=>iu sel 0 dV st.fr))∧
  (∀k,lk k (de (fun j=>sel j||Nat.beq j i) 0 dV st.mem)=lk k (e.mu++e.new++de sel 0 dV st.mem)):=by
 obtain ⟨o',xx,⟨⟨r,nx,e,cs,h1,h2,h3,h4,h5,h6,hKi,h7⟩⟩⟩:=H.ok i hi;rw [ho] at xx;injection xx with xx;subst xx;have VU: ∀j,j≠i→Nat.beq j i=false:=fun j hj=>by
  cases hb:Nat.beq j i with
  |false=>rfl
  |true=>exact absurd (bL hb) hj
 have pv: ∀j,i≤j→cU (0+j) (Ds.getD i [])=false:=fun j hj=>by
  cases hb:cU (0+j) (Ds.getD i []) with
  |false=>rfl
  |true=>
   have:=H.lt i _ o ho (fg.1 hb);omega
 have PK: ∀j d e',dV[j]? =some (d,e')→j≠i→(sel j=cU j (Ds.getD i []))∨((∀t,d=some t→t ∉ oG all o)∧(∀t,d=some t→o.dst≠some t)):=by
  intro j d e' hj jq;obtain ⟨N1,oj,Jq,NU,Xi⟩:=H.er hj;rcases Nat.lt_or_ge j i with cq|hgt
  rcases (H.C0 i o ho).2.2 j cq with hm|⟨_,Uz⟩
  left;rw [hd j hm,fg.2 hm];right;rw [Xi] at Uz;have:=ub Uz;subst NU;exact ⟨this.1,this.2.1⟩;rcases (H.C0 j oj Jq).2.2 i (by omega) with hm|⟨_,Uz⟩
  left;have e1:=pv j hgt;rw [Nat.zero_add] at e1;rw [e1];cases hs:sel j with
  |false=>rfl
  |true=>rw [hc j N1 hs i hm] at hn;cases hn
  right;rw [show all.getD i default=o from by rw [List.getD_eq_getElem?_getD,ho];rfl] at Uz;have:=ub Uz;subst NU;exact ⟨this.2.2,fun t ht he=>this.2.1 t he ht⟩
 have Lg: ∀t∈oG all o,lk t (iu sel 0 dV st.fr)=lk t (iu (fun j=>cU j (Ds.getD i [])) 0 (dV.take i) st.fr):=by
  intro t ht;rw [lN,lN,uB pv]
  congr 1
  refine ll fun j d e' hj UA=> ?_;rw [Nat.zero_add];by_cases GH:j=i;subst GH;have e1:=pv j (Nat.le_refl _);rw [Nat.zero_add] at e1;rw [hn,e1];rcases PK j d e' hj GH with hp|⟨hp,_⟩
  exact hp;exact absurd ht (hp t UA)
 have UB:all.getD i default=o:=by rw [List.getD_eq_getElem?_getD,ho];rfl
 have QV: ∀j d e',dV[j]? =some (d,e')→i<j→sel j=true→e.mu=[]∨mF e'=[]:=by
  intro j d e' hj Gd hs;have N1:=(H.er hj).1;have Xl:i ∉ Ds.getD j []:=fun hx=>by rw [hc j N1 hs i hx] at hn;cases hn
  exact H.pair hj h1 Gd Xl
 have PL: ∀j,sel j=true→ ∀d e' k,dV[j]? =some (d,e')→lk k e'.mu≠none→lk k e.new≠none→False:=by
  intro j;induction j using Nat.strongRecOn with
  |_ j ihj=>
   intro hs d e' k hj hu nt;obtain ⟨N1,_⟩:=H.er hj;obtain ⟨oj',_,⟨⟨r2,nx2,e2,ZJ,p1,_,_,_,p5,_,_⟩⟩⟩:=H.ok j N1;rw [hj] at p1;injection p1 with p1;injection p1 with _ p1;subst p1;have:=p5 k hu;rw [eP,H.C1 h1 nt,Option.or_none] at this;cases hx:fJ (fun q=>cU q (Ds.getD j [])) k 0 (dV.take j) with
   |none=>exact this hx
   |some c=>
    obtain ⟨q,d3,e3,g1,g2,g3⟩:=jt hx;obtain ⟨hq,g1⟩:=nu g1;rw [Nat.zero_add] at g2;have Xk:=hc j N1 hs q (fg.1 g2);rcases kO (k:=k) (e:=e3) (by rw [g3];simp) with hy|hy
    exact ihj q hq Xk d3 e3 k g1 hy nt;have:=H.uniq g1 h1 hy nt;subst this;rw [Xk] at hn;cases hn
 have Ez: ∀k,lk k (de (fun j=>cU j (Ds.getD i [])) 0 (dV.take i) st.mem)≠none→lk k (de (fun _=>true) 0 (dV.take i) st.mem)≠none:=by
  intro k hk hx;rw [eP,Option.or_eq_none_iff] at hx;rw [eP,hx.2,Option.or_none] at hk;cases hy:fJ (fun j=>cU j (Ds.getD i [])) k 0 (dV.take i) with
  |none=>exact hk hy
  |some c=>
   obtain ⟨q,d3,e3,g1,_,g3⟩:=jt hy;have:=oE hx.1 q d3 e3 g1 rfl;rw [g3] at this;cases this
 have core: ∀k ch,lk k (de (fun j=>cU j (Ds.getD i [])) 0 (dV.take i) st.mem)=some ch→(∀j d e',dV[j]? =some (d,e')→j≠i→sel j=true→cU j (Ds.getD i [])=false→lk k e'.mu=none)→lk k (de sel 0 dV st.mem)=some ch:=by
  intro k ch hk Lh;rw [eP] at hk⊢;cases hx:fJ (fun j=>cU j (Ds.getD i [])) k 0 (dV.take i) with
  |some c=>
   rw [hx] at hk;have hk:c=ch:=by simpa using hk
   subst hk;obtain ⟨j,d,e',g1,g2,g3,g4⟩:=zK hx;obtain ⟨GH,g1⟩:=nu g1;rw [Nat.zero_add] at g2;rw [zJ (i:=j) (d:=d) (v:=e') g1 (by rw [Nat.zero_add];exact hd j (fg.1 g2)) g3 (fun q d2 e2 hq yu dU=>by
    rw [Nat.zero_add];cases hs:sel q with
    |false=>rfl
    |true=>
     exfalso;have Gm:q≠i:=by rintro rfl;rw [hs] at hn;cases hn
     cases hm:cU q (Ds.getD i []) with
     |true=>
      have cq:=H.lt i q o ho (fg.1 hm);have:=g4 q d2 e2 hq (by rw [List.getElem?_take,if_pos cq];exact yu) dU;rw [Nat.zero_add,hm] at this;cases this
     |false=>
      have hu:=Lh q d2 e2 yu Gm hs hm;have nt:lk k e2.new≠none:=by
       rcases kO dU with hx|hx
       exact absurd hu hx;exact hx
      rcases H.Uy j d e' g1 (by rw [g3];simp) with h0|⟨j2,d3,e3,p1,p2,p3⟩
      exact h0 (H.C1 yu nt);have:=H.uniq p2 yu p3 nt;omega)]
   rfl
  |none=>
   rw [hx,Option.none_or] at hk;cases hy:fJ sel k 0 dV with
   |none=>rw [Option.none_or];exact hk
   |some c=>
    exfalso;obtain ⟨j,d,e',g1,g2,g3⟩:=jt hy;rw [Nat.zero_add] at g2;have GH:j≠i:=by rintro rfl;rw [g2] at hn;cases hn
    cases hm:cU j (Ds.getD i []) with
    |true=>
     have cq:=H.lt i j o ho (fg.1 hm);have:=oE hx j d e' (by rw [List.getElem?_take,if_pos cq];exact g1) (by rw [Nat.zero_add];exact hm);rw [g3] at this;cases this
    |false=>
     have hu:=Lh j d e' g1 GH g2 hm;have nt:lk k e'.new≠none:=by
      rcases kO (k:=k) (e:=e') (by rw [g3];simp) with hx|hx
      exact absurd hu hx;exact hx
     rw [H.C1 g1 nt] at hk;cases hk
 have Li: ∀k,lk k (de (fun j=>cU j (Ds.getD i [])) 0 (dV.take i) st.mem)≠none→kN o=false→(K i=none∨K i=some k)→ ∀j d e',dV[j]? =some (d,e')→j≠i→sel j=true→cU j (Ds.getD i [])=false→lk k e'.mu=none:=by
  intro k sY jL hKk j d e' hj jq hs hm;obtain ⟨N1,oj,Jq,_,_⟩:=H.er hj;have UC: ∀{u:Mem},(∃c,K i=some c∧lk c u=none)→lk k u=none:=fun {u} ⟨c,q1,q2⟩=>by
   rcases hKk with q|q
   rw [q] at q1;cases q1;rw [q] at q1;injection q1 with q1;rw [q1];exact q2
  rcases Nat.lt_or_ge j i with cq|aa6
  rcases h7 j d e' cq hj with hx|hx
  rw [fg.2 hx] at hm;cases hm;rcases hx.2 with hx|hx|hx
  rw [hx];rfl;rw [jL] at hx;cases hx;exact UC hx;have Xl:i ∉ Ds.getD j []:=fun hx=>by rw [hc j N1 hs i hx] at hn;cases hn
  obtain ⟨oj',_,⟨⟨r2,nx2,e2,ZJ,p1,_,_,_,_,_,_,p7⟩⟩⟩:=H.ok j N1;rw [hj] at p1;injection p1 with p1;injection p1 with _ p1;subst p1;rcases p7 i o.dst e (by omega) h1 with hx|hx
  exact absurd hx Xl;rcases hx.1 with hx|hx|hx|hx
  rw [hx];rfl;rw [UB,jL] at hx;cases hx;cases hy:lk k e'.mu with
  |none=>rfl
  |some c=>exact absurd (hx k (by rw [hy];simp)) (Ez k sY)
  exact UC hx
 have TM:pA P all o r (iu sel 0 dV st.fr) (de sel 0 dV st.mem) nx=some (e,cs):=by
  cases jL:kN o with
  |false=>
   cases Xm:K i with
   |none=>exact uC Lg (fun k ch hk=>core k ch hk (Li k (by rw [hk];simp) jL (.inl Xm))) h2
   |some c=>exact (EV (hKi.symm.trans Xm) Lg (fun ch hk=>core c ch hk (Li c (by rw [hk];simp) jL (.inr Xm))) h2).1
  |true=>exact GG jL Lg h2
 refine ⟨r,nx,e,cs,TM,h3,h4,fun p hp=> ?_,fun t=> ?_,fun k=> ?_⟩;have Xn:lk p.1 e.new≠none:=zI hp;rw [eP,H.C1 h1 Xn,Option.or_none];cases hx:fJ sel p.1 0 dV with
 |none=>rfl
 |some c=>
  exfalso;obtain ⟨j,d,e',g1,g2,g3⟩:=jt hx;rw [Nat.zero_add] at g2;have GH:j≠i:=by rintro rfl;rw [g2] at hn;cases hn
  rcases kO (k:=p.1) (e:=e') (by rw [g3];simp) with hu|nt
  exact PL j g2 d e' p.1 g1 hu Xn;exact GH (H.uniq g1 h1 nt Xn)
 have Ig:(∀t',o.dst=some t'→t≠t')→lk t (iu (fun j=>sel j||Nat.beq j i) 0 dV st.fr)=lk t (iu sel 0 dV st.fr):=by
  intro jq;rw [lN,lN]
  congr 1
  refine ll fun j d e' hj UA=> ?_;rw [Nat.zero_add];have GH:j≠i:=by
   rintro rfl;rw [h1] at hj;injection hj with hj;injection hj with hj _;exact jq t (hj.trans UA) rfl
  rw [VU j GH,Bool.or_false]
 cases CQ:o.dst with
 |none=>exact Ig fun t' WD=>by rw [CQ] at WD;cases WD
 |some t'=>
  simp only;rw [aS];by_cases Xo:t=t';subst Xo;rw [if_pos rfl,lN];rw [ET (i:=i) (v:=e) (by rw [h1,CQ]) (by rw [Nat.zero_add];simp) (fun j d e' Gd hj UA=>by
   rw [Nat.zero_add,VU j (by omega),Bool.or_false];rcases PK j d e' hj (by omega) with hp|⟨_,hp⟩
   rw [hp];have:=pv j (by omega);rwa [Nat.zero_add] at this;exact absurd CQ (hp t UA))]
  rfl;rw [if_neg Xo];exact Ig fun t'' N2=>by rw [CQ] at N2;injection N2 with N2;subst N2;exact Xo
 show _=lk k (mF e++de sel 0 dV st.mem);rw [bQ,eP,eP,←Option.or_assoc]
 congr 1
 cases hk:lk k (mF e) with
 |some c=>
  rw [zJ (i:=i) (d:=o.dst) (v:=e) h1 (by simp) hk (fun j d e' Gd hj VV=>by
   rw [Nat.zero_add,VU j (by omega),Bool.or_false];cases hs:sel j with
   |false=>rfl
   |true=>
    exfalso;have GH:j≠i:=by omega
    have Xp:mF e'≠[]:=fun hx=>VV (Lf hx);have u2:=(QV j d e' hj Gd hs).resolve_right Xp;have n1:lk k e.new≠none:=by
     rcases kO (k:=k) (e:=e) (by rw [hk];simp) with hx|hx
     rw [u2] at hx;exact absurd rfl hx;exact hx
    rcases kO VV with hx|hx
    exact PL j hs d e' k hj hx n1;exact GH (H.uniq hj h1 hx n1))]
  rfl
 |none=>
  rw [Option.none_or];refine so fun j d e' hj VV=> ?_;rw [Nat.zero_add];have GH:j≠i:=by
   rintro rfl;rw [h1] at hj;injection hj with hj;injection hj with _ hj;subst hj;exact VV hk
  rw [VU j GH,Bool.or_false]
theorem UE {ops:Array Oper}{Q:Exit→Act→World→Prop}{K:Act→World→Prop}{i:Nat}{o:Oper}(ho:ops[i]? =some o)(h:if Region.wanted o (yielded ops a.tmps) then o.wp P a w K Q else K (a.put o.dst undef) w):wpOp P ops Q i K a w:=by
 unfold wpOp;rw [ho];simp only;by_cases hw:Region.wanted o (yielded ops a.tmps)=true;rw [if_pos hw] at h⊢;exact .inl h;rw [if_neg hw] at h⊢;exact h
def fK (listed:Array Bool)(j:Nat):Bool:=listed.getD j false
theorem uD {ops:List Oper}{listed:Array Bool}(hs:listed.size=ops.length){i:Nat}(hi:i∈Region.ready .any ops.toArray listed):
 ∃o,ops[i]? =some o∧fK listed i=false∧ ∀d∈gx o,fK listed d=true:=by
 obtain ⟨h0,o,ho,bN⟩:=mem_ready.1 hi;have ho:ops[i]? =some o:=by simpa using ho
 have cq:i<listed.size:=by rw [hs];exact (List.getElem?_eq_some_iff.1 ho).1
 refine ⟨o,ho,?_,fun d hd=> ?_⟩;unfold fK;simp [Array.getD,cq] at h0⊢;exact h0;unfold gx at hd;obtain ⟨e,he,rfl⟩:=List.mem_map.1 hd;obtain ⟨he,hb⟩:=List.mem_filter.1 he;exact bN e (by simpa using he) hb
theorem BP {ops:List Oper}{listed:Array Bool}(hs:listed.size=ops.length)(hd: ∀i o,ops[i]? =some o→ ∀d∈gx o,d<i)(hr:Region.ready .any ops.toArray listed=[]): ∀i,i<ops.length→fK listed i=true:=by
 intro i;induction i using Nat.strongRecOn with
 |_ i ih=>
  intro hi;cases hl:fK listed i with
  |true=>rfl
  |false=>
   have:i∈Region.ready .any ops.toArray listed:=by
    refine mem_ready.2 ⟨?_,ops[i],by simp [hi],fun e he hb=> ?_⟩;unfold fK at hl;have cq:i<listed.size:=by omega
    simp [Array.getD,cq] at hl⊢;exact hl;have Nv:e.on∈gx ops[i]:=List.mem_map.2 ⟨e,List.mem_filter.2 ⟨by simpa using he,hb⟩,rfl⟩;have cq:=hd i ops[i] (List.getElem?_eq_getElem hi) e.on Nv;exact ih e.on cq (by omega)
   rw [hr] at this;simp at this
theorem su {listed:Array Bool}{i j:Nat}(hi:i<listed.size):fK (listed.setIfInBounds i true) j=(fK listed j||Nat.beq j i):=by
 unfold fK;by_cases Gd:j=i;subst Gd;have:Nat.beq j j=true:=Nat.beq_refl j;rw [this];simp [hi];have:Nat.beq j i=false:=by
  cases hb:Nat.beq j i with
  |false=>rfl
  |true=>exact absurd (bL hb) Gd
 rw [this,getD_set_ne false (fun e=>Gd e.symm)];simp
def todo (listed:Array Bool)(n:Nat):Nat:=((List.range n).filter fun j=> !fK listed j).length
theorem EW {listed:Array Bool}{i n:Nat}(hi:i<listed.size)(hn:i<n)(hl:fK listed i=false):todo (listed.setIfInBounds i true) n+1≤todo listed n:=by
 unfold todo;have aux: ∀l:List Nat,l.Nodup→i∈l→(l.filter fun j=> !fK (listed.setIfInBounds i true) j).length+1≤(l.filter fun j=> !fK listed j).length:=by
  intro l;induction l with
  |nil=>intro _ h;simp at h
  |cons x l ih=>
   intro A6 hm;simp only [List.nodup_cons] at A6;by_cases hx:x=i;subst hx;have e1:(!fK (listed.setIfInBounds x true) x)=false:=by rw [su hi];simp
   have e2:(!fK listed x)=true:=by rw [hl];rfl
   rw [List.filter_cons_of_neg (by simp [e1]),List.filter_cons_of_pos (by simp [hl])];simp only [List.length_cons,Nat.add_le_add_iff_right];refine Nat.le_of_eq ?_
   congr 1
   refine List.filter_congr fun y hy=> ?_;rw [su hi];have:Nat.beq y x=false:=by
    cases hb:Nat.beq y x with
    |false=>rfl
    |true=>have:=bL hb;subst this;exact absurd hy A6.1
   rw [this,Bool.or_false];have hm:i∈l:=by
    rcases List.mem_cons.1 hm with e|hm
    exact absurd e.symm hx;exact hm
   have:=ih A6.2 hm;have e:fK (listed.setIfInBounds i true) x=fK listed x:=by
    rw [su hi];have:Nat.beq x i=false:=by
     cases hb:Nat.beq x i with
     |false=>rfl
     |true=>exact absurd (bL hb) hx
    rw [this,Bool.or_false]
   cases hs:fK listed x with
   |true=>
    rw [hs] at e;rw [List.filter_cons_of_neg (by simp [e]),List.filter_cons_of_neg (by simp [hs])];exact this
   |false=>
    rw [hs] at e;rw [List.filter_cons_of_pos (by simp [e]),List.filter_cons_of_pos (by simp [hs])];simp only [List.length_cons];omega
 exact aux _ List.nodup_range (List.mem_range.2 hn)
theorem GI {Q:Exit→Act→World→Prop}(hd: ∀i o,all[i]? =some o→(∀d∈gx o,d<i)∧(∀j∈Ds.getD i [],j∈gx o∨ ∃d∈gx o,j∈Ds.getD d [])∧(∀j,h≤j→j<i→j∈Ds.getD i [])):
 ∀(fuel:Nat) {listed:Array Bool} {i:Nat} {a:Act} {w:World},listed.size=all.length→h≤i→(∀j,j<all.length→(fK listed j=true↔j<i))→i≤all.length→todo listed all.length≤fuel→
  wpList cx.P all.toArray Q (all.drop i) a w→wpAny cx.P .any all.toArray Q fuel listed a w:=by
 intro fuel;have mG: ∀{listed:Array Bool} {i:Nat} {a:Act} {w:World},(∀j,j<all.length→(fK listed j=true↔j<i))→i≤all.length→(∀j,j<all.length→fK listed j=true)→wpList cx.P all.toArray Q (all.drop i) a w→Q .normal a w:=by
  intro listed i a w hl hi mQ he;have Et:all.drop i=[]:=by
   rcases Nat.lt_or_ge i all.length with cq|pv
   have:=(hl i cq).1 (mQ i cq);omega;exact List.drop_eq_nil_of_le pv
  rw [Et] at he;exact he
 induction fuel with
 |zero=>
  intro listed i a w fG pr hl hi Lj he;have mQ: ∀j,j<all.length→fK listed j=true:=fun j hj=>by
   cases hx:fK listed j with
   |true=>rfl
   |false=>
    have:j∈(List.range all.length).filter fun j=> !fK listed j:=List.mem_filter.2 ⟨List.mem_range.2 hj,by rw [hx];rfl⟩;have:=List.length_pos_of_mem this;unfold todo at Lj;omega
  refine ⟨?_,mG hl hi mQ he⟩;cases hr:Region.ready .any all.toArray listed with
  |nil=>rfl
  |cons x xs=>
   obtain ⟨o,ho,h1,_⟩:=uD fG (i:=x) (by rw [hr];simp);rw [mQ x (List.getElem?_eq_some_iff.1 ho).1] at h1;cases h1
 |succ fuel ih=>
  intro listed i a w fG pr hl hi Lj he;refine ⟨fun hr=>mG hl hi (BP fG (fun i o ho=>(hd i o ho).1) hr) he,fun j hj=> ?_⟩;obtain ⟨o,ho,h1,h2⟩:=uD fG hj;have Tg:j<all.length:=(List.getElem?_eq_some_iff.1 ho).1;have GH:j=i:=by
   have pv:i≤j:=by
    rcases Nat.lt_or_ge j i with cq|pv
    rw [(hl j Tg).2 cq] at h1;cases h1;exact pv
   rcases Nat.lt_or_ge i j with cq|hle
   have hm:=(hd j o ho).2.2 i pr cq;have rN: ∀(n:Nat) (o:Oper),all[n]? =some o→(∀d∈gx o,fK listed d=true)→ ∀k∈Ds.getD n [],fK listed k=true:=by
    intro n;induction n using Nat.strongRecOn with
    |_ n ihn=>
     intro o ho ZK k hk;have cq:n<all.length:=(List.getElem?_eq_some_iff.1 ho).1;rcases (hd n o ho).2.1 k hk with VW|⟨d,VW,vb⟩
     exact ZK k VW;have hdn:=(hd n o ho).1 d VW;have QW:d<all.length:=by omega
     refine ihn d hdn all[d] (List.getElem?_eq_getElem QW) (fun d' hd'=> ?_) k vb;have Nv:=(hl d QW).1 (ZK d VW);have:=(hd d all[d] (List.getElem?_eq_getElem QW)).1 d' hd';exact (hl d' (by omega)).2 (by omega)
   have:=(hl i (by omega)).1 (rN j o ho h2 i hm);omega;omega
  subst GH;have Et:all.drop j=o::all.drop (j+1):=by
   rw [List.drop_eq_getElem_cons Tg]
   congr 1
   exact (List.getElem?_eq_some_iff.1 ho).2
  rw [Et] at he;simp only [wpList] at he;unfold wpOp;rw [show all.toArray[j]? =some o by simpa using ho];simp only;have ZL: ∀a' w',wpList cx.P all.toArray Q (all.drop (j+1)) a' w'→wpAny cx.P .any all.toArray Q fuel (listed.setIfInBounds j true) a' w':=fun a' w' h'=>by
   refine ih (i:=j+1) (by simp [fG]) (by omega) (fun k hk=> ?_) (by omega) ?_ h';rw [su (by omega)];simp only [Bool.or_eq_true];rw [hl k hk];constructor;rintro (gP|gP);omega;have:=bL gP;omega;intro gP;rcases Nat.lt_or_ge k j with cq|pv
   exact .inl cq;right;have:k=j:=by omega
   subst this;exact Nat.beq_refl _;have:=EW (listed:=listed) (i:=j) (n:=all.length) (by omega) Tg h1;omega
  split;rename_i hw;rw [if_pos hw] at he;exact he.imp (Oper.wp_mono ZL) id;rename_i hw;rw [if_neg hw] at he;exact ZL _ _ he
theorem EX {sel sel':Nat→Bool}(H: ∀j,j<dV.length→sel j=sel' j)(fr:Fr)(t:Tmp):lk t (iu sel 0 dV fr)=lk t (iu sel' 0 dV fr):=by
 rw [lN,lN]
 congr 1
 exact ll fun j d e hj _=>by
  rw [Nat.zero_add];exact H j (List.getElem?_eq_some_iff.1 hj).1
theorem C2 {sel sel':Nat→Bool}(H: ∀j,j<dV.length→sel j=sel' j)(m:Mem)(k:Nat):lk k (de sel 0 dV m)=lk k (de sel' 0 dV m):=by
 rw [eP,eP]
 congr 1
 exact so fun j d e hj _=>by
  rw [Nat.zero_add];exact H j (List.getElem?_eq_some_iff.1 hj).1
theorem EY {Q:Exit→Act→World→Prop}{st:St}{nx0:Nat}(H:ml cx.P cx.N all st h Ds dV K)(hh:h≤all.length)(hT: ∀g' a' w',dw cx g' (pB st dV (fun _=>true) nx0) a' w'→wpList cx.P all.toArray Q (all.drop h) a' w'):
 ∀(fuel:Nat) {listed:Array Bool} {nx:Nat} {g:GM} {a:Act} {w:World},listed.size=all.length→(∀j,fK listed j=true→j<h)→(∀j,j<h→fK listed j=true→ ∀k∈Ds.getD j [],fK listed k=true)→todo listed all.length≤fuel→
  dw cx g (pB st dV (fK listed) nx) a w→wpAny cx.P .any all.toArray Q fuel listed a w:=by
 intro fuel;have mG: ∀(fuel:Nat) {listed:Array Bool} {nx:Nat} {g:GM} {a:Act} {w:World},listed.size=all.length→(∀j,fK listed j=true→j<h)→todo listed all.length≤fuel→(∀j,j<h→fK listed j=true)→dw cx g (pB st dV (fK listed) nx) a w→wpAny cx.P .any all.toArray Q fuel listed a w:=by
  intro fuel listed nx g a w fG hl Lj mQ hs;have eI:dw cx g (pB st dV (fun _=>true) nx0) a w:=hs.congr (fun t v hv=>by
   rw [←hv];exact EX (sel':=fun _=>true) (fun j hj=>mQ j (by rw [←H.len];exact hj)) _ _) (fun k=>(C2 (sel':=fun _=>true) (fun j hj=>mQ j (by rw [←H.len];exact hj)) _ _).symm)
  exact GI (h:=h) (Ds:=Ds) (fun i o ho=>⟨(H.C0 i o ho).1,(H.C0 i o ho).2.1,fun j hj hi=>((H.C0 i o ho).2.2 j hi).resolve_right fun x=>by omega⟩) fuel fG (Nat.le_refl h) (fun j hj=>⟨hl j,mQ j⟩) hh Lj (hT _ _ _ eI)
 induction fuel with
 |zero=>
  intro listed nx g a w fG hl rN Lj hs;refine mG 0 fG hl Lj (fun j hj=> ?_) hs;cases hx:fK listed j with
  |true=>rfl
  |false=>
   have:j∈(List.range all.length).filter fun j=> !fK listed j:=List.mem_filter.2 ⟨List.mem_range.2 (by omega),by rw [hx];rfl⟩;have:=List.length_pos_of_mem this;unfold todo at Lj;omega
 |succ fuel ih=>
  intro listed nx g a w fG hl rN Lj hs;by_cases mQ: ∀j,j<h→fK listed j=true;exact mG (fuel+1) fG hl Lj mQ hs;refine ⟨fun hr=>absurd (fun j hj=>BP fG (fun i o ho=>(H.C0 i o ho).1) hr j (by omega)) mQ,fun i hi=> ?_⟩;obtain ⟨o,ho,h1,h2⟩:=uD fG hi;have hil:i<all.length:=(List.getElem?_eq_some_iff.1 ho).1;have Nv: ∀j∈Ds.getD i [],fK listed j=true:=fun j hj=>by
   rcases (H.C0 i o ho).2.1 j hj with hd|⟨d,hd,hj⟩
   exact h2 j hd;exact rN d (hl d (h2 d hd)) (h2 d hd) j hj
  have ZM:i<h:=by
   rcases Nat.lt_or_ge i h with cq|pv
   exact cq;exact absurd (fun j hj=>Nv j (((H.C0 i o ho).2.2 j (by omega)).resolve_right fun x=>by omega)) mQ
  obtain ⟨r,nx',e,oy,g1,g2,g3,g5,g6,g7⟩:=H.step ZM ho h1 Nv rN;have N3:fK (listed.setIfInBounds i true)=fun j=>fK listed j||Nat.beq j i:=funext fun j=>su (by omega)
  have Ul:dw cx g ⟨iu (fK listed) 0 dV st.fr,de (fK listed) 0 dV st.mem,nx'⟩ a w:=hs.congr (fun _ _ hv=>hv) (fun _=>rfl);refine UE (by simpa using ho) (zy Ul g1 g5 g3 g2 fun g' a' w' eI=> ?_);refine ih (nx:=0) (by simp [fG]) (fun j hj=> ?_) (fun j hj QX k hk=> ?_) ?_ (eI.congr (fun t v hv=> ?_) fun k=> ?_);rw [N3] at hj;simp only [Bool.or_eq_true] at hj;rcases hj with hj|hj
  exact hl j hj;rw [bL hj];exact ZM;rw [N3] at QX⊢;simp only [Bool.or_eq_true] at QX⊢;rcases QX with QX|QX
  exact .inl (rN j hj QX k hk);have:=bL QX;subst this;exact .inl (Nv k hk);have:=EW (listed:=listed) (i:=i) (n:=all.length) (by omega) hil h1;omega;change lk t (iu (fK (listed.setIfInBounds i true)) 0 dV st.fr)=some v at hv;rw [N3,g6] at hv;cases CQ:o.dst with
  |none=>rw [CQ] at hv;exact hv
  |some t'=>rw [CQ] at hv;exact hv
  change lk k (de (fK (listed.setIfInBounds i true)) 0 dV st.mem)=_;rw [N3,g7];unfold St.app;cases o.dst<;>rfl
theorem dw.Lk {QQ:Exit→Act→World→Prop}{h:Nat}{ops:List Oper}{tu:List HR}{AU:List (List Nat)}{dV:List ER}{st:St}{cs:List Prop}{nx:Nat}(hs:dw cx g st a w)(hn:(tu.length==h&&Nat.ble h ops.length)=true)(ja:qP ops (tu.map HR.D++AU) h 0 ops=true)(hh:BM cx.P cx.N ops st (ops.take h) tu [] st.nx=some (dV,cs,nx))(hc:bH cs)(hT: ∀g' a' w',dw cx g' (pB st dV (fun _=>true) nx) a' w'→wpList cx.P ops.toArray QQ (ops.drop h) a' w'):wpAny cx.P .any ops.toArray QQ ops.toArray.size (Array.replicate ops.toArray.size false) a {w with drawn:=w.drawn+1}:=by
 simp only [Bool.and_eq_true,beq_iff_eq] at hn;obtain ⟨hn,hl⟩:=hn;have hl:h≤ops.length:=Nat.le_of_ble_eq_true hl;obtain ⟨⟨l,e1,e2⟩,K,Xq⟩:=GD hh hc;have hlen:dV.length=h:=by rw [e1];simp [e2,hl]
 have hDs: ∀i,i<h→(tu.map HR.D++AU).getD i []=(tu.map HR.D).getD i []:=fun i hi=>by
  rw [List.getD_eq_getElem?_getD,List.getD_eq_getElem?_getD,List.getElem?_append_left (by simp [hn,hi])]
 have H:ml cx.P cx.N ops st h (tu.map HR.D++AU) dV K:=by
  refine ⟨hlen,fun i hi=> ?_,fun i o ho=> ?_⟩;have ho:ops[i]? =some ops[i]:=List.getElem?_eq_getElem (by omega);refine ⟨ops[i],ho,?_⟩;have:=Xq i ops[i] (by rw [List.getElem?_take,if_pos hi];exact ho);rw [hDs i hi];simpa using this;have:=xJ ja i o ho;simpa using this
 have hz: ∀j,fK (Array.replicate ops.length false) j=false:=fun j=>by
  unfold fK;rw [Array.getD_eq_getD_getElem?];by_cases hj:j<ops.length;simp [hj];rw [Array.getElem?_eq_none (by simpa using Nat.le_of_not_lt hj)];rfl
 have Lj:todo (Array.replicate ops.length false) ops.length≤ops.length:=by
  unfold todo;exact Nat.le_trans (List.length_filter_le _ _) (by simp)
 have hs0:dw cx g (pB st dV (fK (Array.replicate ops.length false)) 0) a w.drew:=by
  have ZN:fK (Array.replicate ops.length false)=fun _=>false:=funext hz;refine hs.drew.congr (fun t v hv=> ?_) fun k=> ?_;rw [ZN] at hv;change lk t (iu (fun _=>false) 0 dV st.fr)=some v at hv;rw [lN] at hv;have:iM (fun _=>false) t 0 dV=none:=by
   have:=uB (sel:=fun _=>false) (t:=t) (l:=dV) (n:=0) (i:=0) (fun _ _=>rfl);simpa [iM] using this.symm
  rw [this] at hv;exact hv;rw [ZN];change lk k (de (fun _=>false) 0 dV st.mem)=_;rw [eP];cases hx:fJ (fun _=>false) k 0 dV with
  |none=>rfl
  |some c=>obtain ⟨_,_,_,_,h2,_⟩:=jt hx;cases h2
 have:=EY (Q:=QQ) (nx0:=nx) H hl hT ops.length (listed:=Array.replicate ops.length false) (by simp) (fun j hj=>by rw [hz j] at hj;cases hj) (fun j _ hj=>by rw [hz j] at hj;cases hj) Lj hs0;simpa using this
theorem dw.N4 {QQ:Exit→Act→World→Prop}{h:Nat}{ops:List Oper}{tu:List HR}{AU:List (List Nat)}{rs:List OH}{dV:List ER}{st st':St}{cs oy:List Prop}{nx:Nat}(hs:dw cx g st a w)(hn:(tu.length==h&&Nat.ble h ops.length)=true)(ja:qP ops (tu.map HR.D++AU) h 0 ops=true)(hh:BM cx.P cx.N ops st (ops.take h) tu [] st.nx=some (dV,cs,nx))(he:tV cx.P cx.N ops (ops.drop h) rs (pB st dV (fun _=>true) nx)=some (st',oy))(hc:bH cs)(Pz:bH oy)(hq: ∀g' a' w',dw cx g' st' a' w'→QQ .normal a' w'):wpAny cx.P .any ops.toArray QQ ops.toArray.size (Array.replicate ops.toArray.size false) a {w with drawn:=w.drawn+1}:=
 hs.Lk hn ja hh hc fun _ _ _ eI=>uy eI he Pz hq
theorem HT.draw {Q:Exit→St→Prop}{id h:Nat}{ops:List Oper}{tu:List HR}{AU:List (List Nat)}{rs:List OH}{dV:List ER}{st st':St}{cs oy:List Prop}{nx:Nat}(hm:cx.P.follows .mixedOrders=true)(hn:(tu.length==h&&Nat.ble h ops.length)=true)(ja:qP ops (tu.map HR.D++AU) h 0 ops=true)(hh:BM cx.P cx.N ops st (ops.take h) tu [] st.nx=some (dV,cs,nx))(he:tV cx.P cx.N ops (ops.drop h) rs (pB st dV (fun _=>true) nx)=some (st',oy))(hc:bH cs)(Pz:bH oy)(hq:Q .normal st'):HT cx st (.region id ops.toArray true) Q:=
 fun _ _ _ hs=>wp_region_any hm (hs.N4 hn ja hh he hc Pz fun g' _ _ eI=>⟨st',g',hq,eI⟩)
end
end Go.Ide
namespace Go.Ide
structure tw where
 ch:List (Nat×Nat)
 vs:List Nat
 tr:List Nat
 fz:Bool
def vx (k k':Nat)(ch:List (Nat×Nat)):Bool:=
 match lk k ch with
 |some q=>Nat.beq q k'
 |none=>false
theorem qQ {k k':Nat}{ch:List (Nat×Nat)}(h:vx k k' ch=true):lk k ch=some k':=by
 unfold vx at h;split at h;rename_i q hq;rw [hq,bL h];cases h
def GJ (k:Nat)(ch:List (Nat×Nat)):Bool:=match lk k ch with|some _=>true|none=>false
def tw.m0 (s:tw)(m:Mem):Mem:=bif s.fz then m.filter (fun p=> !(GJ p.1 s.ch)) else []
def FW (s:tw)(m0 m':Mem)(c c':aA):Option (List Prop):=
 match c' with
 | .aq t x'=>(match eu m0 t c with
  |some x=>some [x'=x]
  |none=>none)
 | .ptr k' dY=>(match c with
  | .ptr k off=>bif vx k k' s.ch&&Nat.beq off dY then some [] else none
  |_=>none)
 | .iy k' i' Ie dY=>(match c with
  | .iy k i sz off=>bif vx k k' s.ch&&(Nat.beq sz Ie&&Nat.beq off dY) then some [i'=i] else none
  |_=>none)
 | .ip t' x' dY=>(match c with
  | .ip t x off=>bif Nat.beq off dY then (if h:t'=t then some [cG h x'=x] else none) else none
  | .ptr k off=>(match lk k m0 with
   |some (.box cs)=>bif Nat.beq off dY then (match impl m0 t' cs with
    |some (x,[])=>some [x'=x]
    |_=>none) else none
   |_=>none)
  |_=>none)
 | .all k'=>(match c with
  | .all k=>bif vx k k' s.ch&& !(cU k s.tr) then some [] else none
  | .ar=>bif cU k' s.vs then some [] else none
  | .ref k off len=>bif vx k k' s.ch&&cU k s.tr then (match lk k' m' with
   |some (.seq _ cE)=>some [off=0,List.length cE=len]
   |_=>none) else none
  |_=>none)
 | .ref k' dY JC=>(match c with
  | .ref k off len=>bif vx k k' s.ch&& !(cU k s.tr) then some [dY=off,JC=len] else none
  |_=>none)
 | .row _ _ _=>none
 | .AW _ _ _ _ _ _=>none
 | .ar=>(match c with
  | .ar=>some []
  |_=>none)
 | .fn f'=>(match c with
  | .fn f=>if f'=f then some [] else none
  |_=>none)
 | .nM f' t' x'=>(match c with
  | .nM f t x=>if f'=f then (if h:t'=t then some [cG h x'=x] else none) else none
  |_=>none)
 | .jk=>bif c.ok then some [] else none
 | .bad=>none
def GK (s:tw)(m0 m':Mem):List aA→List aA→Option (List Prop)
 |[],[]=>some []
 |c::r,c'::r'=>(match FW s m0 m' c c',GK s m0 m' r r' with
  |some p,some q=>some (p++q)
  |_,_=>none)
 |_,_=>none
def QY (s:tw)(m0 m':Mem)(v v':aE):Option (List Prop):=
 match v' with
 | .one c'=>(match v with
  | .one c=>FW s m0 m' c c'
  |_=>none)
 | .agg oy=>(match v with
  | .agg cs=>GK s m0 m' cs oy
  |_=>none)
 | .HM _=>none
 | .FQ=>none
 | .jk=>some []
def JN (s:tw)(m0 m':Mem)(fr:Fr):Fr→Option (List Prop)
 |[]=>some []
 |(t,v')::r=>(match lk t fr with
  |some v=>(match QY s m0 m' v v',JN s m0 m' fr r with
   |some p,some q=>some (p++q)
   |_,_=>none)
  |none=>none)
def zL (s:tw)(m0 m':Mem)(k:Nat)(c c':Chunk):Option (List Prop):=
 match c' with
 | .box oy=>(match c with
  | .box cs=>GK s m0 m' cs oy
  |_=>none)
 | .seq t' cE=>(match c with
  | .seq t xs=>if h:t'=t then (bif cU k s.tr then some [cG (congrArg Ty.sl h) cE=List.take (List.length cE) xs] else some [cG (congrArg Ty.sl h) cE=xs]) else none
  |_=>none)
 | .rB _ _ _ _ _=>none
 | .gone=>none
def QZ (s:tw)(m m0 m':Mem):Mem→Option (List Prop)
 |[]=>some []
 |(k',c')::r=>(match lk k' (inv s.ch) with
  |some k=>(match lk k m with
   |some c=>(match zL s m0 m' k c c',QZ s m m0 m' r with
    |some p,some q=>some (p++q)
    |_,_=>none)
   |none=>none)
  |none=>bif cU k' s.vs then (match c' with
   | .seq _ cE=>(match QZ s m m0 m' r with
    |some q=>some ((cE=[])::q)
    |none=>none)
   |_=>none) else none)
def N5 (k:Nat)(m:Mem):Bool:=match lk k m with|some _=>true|none=>false
def tw.okB (s:tw)(m':Mem)(own:List Nat):Bool:=
 (mw (s.ch.map Prod.fst)&&mw (s.ch.map Prod.snd))&&((s.ch.all fun p=>N5 p.2 m')&&((s.vs.all fun k=>N5 k m'&& !(cU k (s.ch.map Prod.snd)))&&(own.all fun k=>vx k k s.ch)))
def St.cv (s:tw)(own:List Nat)(st st':St):Option (List Prop):=
 bif s.okB st'.mem own then (match JN s (s.m0 st.mem) st'.mem st.fr st'.fr,QZ s st.mem (s.m0 st.mem) st'.mem st'.mem with
  |some p,some q=>some (p++q)
  |_,_=>none) else none
theorem EZ {k:Nat}{m:Mem}(h:N5 k m=true):lk k m≠none:=by
 unfold N5 at h;split at h;rename_i c hc;rw [hc];simp;cases h
theorem E0 {k:Nat}{ch:List (Nat×Nat)}:GJ k ch=true↔ ∃k',lk k ch=some k':=by
 unfold GJ;cases lk k ch with
 |some q=>exact ⟨fun _=>⟨q,rfl⟩,fun _=>rfl⟩
 |none=>exact ⟨fun h=>(by cases h),fun h=>(by obtain ⟨k',h⟩:=h;cases h)⟩
theorem tx {p:Nat→Bool}: ∀{m:Mem} {k:Nat} {c:Chunk},lk k (m.filter fun q=>p q.1)=some c→lk k m=some c∧p k=true
 |[],k,c,h=>by simp [gI] at h
 |(q,d)::m,k,c,h=>by
  cases hp:p q with
  |false=>
   rw [List.filter_cons_of_neg (by simp [hp])] at h;obtain ⟨h1,h2⟩:=tx h;rw [aS];have jq:k≠q:=by rintro rfl;rw [hp] at h2;cases h2
   rw [if_neg jq];exact ⟨h1,h2⟩
  |true=>
   rw [List.filter_cons_of_pos (by simp [hp])] at h;rw [aS] at h⊢;split at h;rename_i e;subst e;rw [if_pos rfl];exact ⟨h,hp⟩;rename_i e;rw [if_neg e];exact tx h
theorem Il {s:tw}{m0 m':Mem}{fr:Fr}: ∀{rF:Fr} {ps:List Prop} {t:Nat} {v':aE},JN s m0 m' fr rF=some ps→bH ps→lk t rF=some v'→ ∃v p,lk t fr=some v∧QY s m0 m' v v'=some p∧bH p
 |[],ps,t,v',h,_,hl=>by simp [gI] at hl
 |(q,u')::r,ps,t,v',h,hp,hl=>by
  simp only [JN] at h;split at h;rename_i v hv;split at h;rename_i p q' h1 h2;injection h with h;subst h;obtain ⟨Ll,BQ⟩:=hp.append;rw [aS] at hl;split at hl;rename_i e;subst e;injection hl with hl;subst hl;exact ⟨v,p,hv,h1,Ll⟩
  exact Il h2 BQ hl;cases h;cases h
theorem zM {s:tw}{m m0 m':Mem}: ∀{l:Mem} {ps:List Prop} {k':Nat} {c':Chunk},QZ s m m0 m' l=some ps→bH ps→lk k' l=some c'→
 (∃k c p,lk k' (inv s.ch)=some k∧lk k m=some c∧zL s m0 m' k c c'=some p∧bH p)∨(lk k' (inv s.ch)=none∧ ∃t,c'= .seq t [])
 |[],ps,k',c',h,_,hl=>by simp [gI] at hl
 |(q,d)::r,ps,k',c',h,hp,hl=>by
  simp only [QZ] at h;split at h;rename_i k hk;split at h;rename_i c hc;split at h;rename_i p q' h1 h2;injection h with h;subst h;obtain ⟨Ll,BQ⟩:=hp.append;rw [aS] at hl;split at hl;rename_i e;subst e;injection hl with hl;subst hl;exact .inl ⟨k,c,p,hk,hc,h1,Ll⟩
  exact zM h2 BQ hl;cases h;cases h;rename_i hk;cases hb:cU q s.vs with
  |false=>rw [hb] at h;cases h
  |true=>
   rw [hb] at h;simp only [cond_true] at h;split at h;rename_i t cE;split at h;rename_i q' h2;injection h with h;subst h;rw [aS] at hl;split at hl;rename_i e;subst e;injection hl with hl;subst hl;exact .inr ⟨hk,t,by rw [hp.1]⟩
   exact zM h2 hp.2 hl;cases h;cases h
section
variable {cx:Cx} {g:GM} {st st':St} {a:Act} {w:World}
theorem dw.cv {s:tw}{own:List Nat}{ps:List Prop}(h:dw cx g st a w)(he:st.cv s own st'=some ps)(hp:bH ps)(ho:cx.own.map Prod.fst=own)(hF:s.fz=true→cx.S7): ∃g',dw cx g' st' a w:=by
 unfold St.cv at he;cases hb:s.okB st'.mem own with
 |false=>rw [hb] at he;cases he
 |true=>
  rw [hb] at he;simp only [cond_true] at he;unfold tw.okB at hb;simp only [Bool.and_eq_true] at hb;obtain ⟨⟨yt,ld⟩,cY,kI,N6⟩:=hb;have yt:=js yt;have ld:=js ld;split at he;rename_i p q qt se;injection he with he;subst he;obtain ⟨Ll,BQ⟩:=hp.append;let g':GM:=⟨fun k'=>match lk k' (inv s.ch) with|some k=>g.f k|none=>fun _=>none⟩;have VX: ∀k k',lk k s.ch=some k'→g'.f k'=g.f k:=fun k k' hk=>by
   show (match lk k' (inv s.ch) with|some k=>g.f k|none=>fun _=>none)=g.f k;rw [(oC yt ld).1 hk]
  have j8: ∀k k',lk k s.ch=some k'→g' k'=g k:=fun k k' hk=>congrFun (VX k k' hk) [];have nq: ∀k',lk k' (inv s.ch)=none→g'.f k'=fun _=>none:=fun k' hk=>by
   show (match lk k' (inv s.ch) with|some k=>g.f k|none=>fun _=>none)=_;rw [hk]
  have zN: ∀k k',lk k s.ch=some k'→lk k' st'.mem≠none:=fun k k' hk=>EZ (List.all_eq_true.1 cY _ (mD hk));have oD: ∀k' c',lk k' st'.mem=some c'→(∃k c p,lk k s.ch=some k'∧lk k st.mem=some c∧zL s (s.m0 st.mem) st'.mem k c c'=some p∧bH p∧(∀p,c.owns p)∧g'.f k'=g.f k)∨(g'.f k'=(fun _=>none)∧ ∃t,c'= .seq t []):=fun k' c' hk=>by
   rcases zM se BQ hk with ⟨k,c,p,h1,h2,h3,h4⟩|⟨h1,h2⟩
   have h5:=(oC yt ld).2 h1;refine .inl ⟨k,c,p,h5,h2,h3,h4,fun q=> ?_,VX k k' h5⟩;cases c with
   |box cs=>trivial
   |seq t xs=>trivial
   |gone=>unfold zL at h3;split at h3<;>cases h3
   |rB t xs i cs ks=>unfold zL at h3;split at h3<;>cases h3
   exact .inr ⟨nq k' h1,h2⟩
  have ZO: ∀b,Live g' st'.mem b→ ∃k k' q c,lk k s.ch=some k'∧lk k st.mem=some c∧c.owns q∧g.f k q=some b:=by
   rintro b ⟨k',q,c',hk,_,qp⟩;rcases oD k' c' hk with ⟨k,c,p,q1,q2,_,_,q5,q6⟩|⟨q1,_⟩
   exact ⟨k,k',q,c,q1,q2,q5 q,by rw [←q6];exact qp⟩;rw [q1] at qp;cases qp
  have dN: ∀b,cx.safe g st.mem w b→cx.safe g' st'.mem w b:=fun b ⟨h1,h2,h3⟩=>by
   refine ⟨h1,h2,fun hl=> ?_⟩;obtain ⟨k,k',q,c,q1,q2,q3,q4⟩:=ZO b hl;exact h3 ⟨k,q,c,q2,q3,q4⟩
  have zd: ∀k q ch b,lk k st.mem=some ch→ch.owns q→g.f k q=some b→s.fz=true→(!(GJ k s.ch))=true→ ¬b<cx.w0.heap.size:=fun k q ch b h1 hn qp hz h2 cq=>by
   rcases h.rC k q ch b h1 hn qp with pv|hf
   omega;obtain ⟨p,Xr,q',Xs⟩:=hF hz b hf;have Lm:p.1∈own:=by rw [←ho];exact List.mem_map.2 ⟨p,Xr,rfl⟩
   have sW:=qQ (List.all_eq_true.1 N6 _ Lm);obtain ⟨k',gP⟩: ∃c',lk p.1 st'.mem=some c':=Option.ne_none_iff_exists'.1 (zN _ _ sW);rcases oD p.1 k' gP with ⟨k2,c2,q2,a1,a2,_,_,a5,_⟩|⟨a1,_⟩
   have:k2=p.1:=by
    have b1:=(oC yt ld).1 a1;have b2:=(oC yt ld).1 sW;rw [b1] at b2;injection b2
   subst this;have:=(h.lz k p.1 q q' ch c2 b h1 hn a2 (a5 q') qp (by rw [(h.own p Xr).1,Xs])).1;subst this;rw [E0.2 ⟨_,sW⟩] at h2;cases h2;rw [VX _ _ sW,(h.own p Xr).1] at a1;rw [a1] at Xs;cases Xs
  have PM: ∀k q ch b,lk k st.mem=some ch→ch.owns q→g.f k q=some b→(!(GJ k s.ch))=true→ ¬Live g' st'.mem b:=fun k q ch b h1 hn qp h2 hl=>by
   obtain ⟨k1,k1',q',c1,q1,q2,q3,q4⟩:=ZO b hl;have:=(h.lz k k1 q q' _ c1 b h1 hn q2 q3 qp q4).1;subst this;rw [E0.2 ⟨_,q1⟩] at h2;cases h2
  have Jp: ∀k cs,lk k (s.m0 st.mem)=some (.box cs)→ ∃b arr,g k=some b∧cx.safe g' st'.mem w b∧dy w b arr∧bB (CR g st.mem (cx.safe g st.mem w) w) cs arr.toList:=by
   intro k cs hl;unfold tw.m0 at hl;cases hz:s.fz with
   |false=>rw [hz] at hl;simp [gI] at hl
   |true=>
    rw [hz] at hl;simp only [cond_true] at hl;obtain ⟨h1,h2⟩:=tx (p:=fun k=> !(GJ k s.ch)) hl;obtain ⟨b,arr,qp,hb,bN⟩:=h.mem k _ h1;exact ⟨b,arr,qp,⟨hb.lt,fun cq=>absurd cq (zd k [] _ b h1 trivial qp hz h2),PM k [] _ b h1 trivial qp h2⟩,hb,bN⟩
  have PN:i9 g st.mem (s.m0 st.mem) (cx.safe g' st'.mem w) w:=by
   intro k t xs hl;unfold tw.m0 at hl;cases hz:s.fz with
   |false=>rw [hz] at hl;simp [gI] at hl
   |true=>
    rw [hz] at hl;simp only [cond_true] at hl;obtain ⟨h1,h2⟩:=tx (p:=fun k=> !(GJ k s.ch)) hl;have WK: ∀p b,g.f k p=some b→cx.safe g' st'.mem w b:=fun p b qp=>
     ⟨h.lt k p _ b h1 trivial qp,fun cq=>absurd cq (zd k p _ b h1 trivial qp hz h2),PM k p _ b h1 trivial qp h2⟩
    refine ⟨h1,WK,?_⟩;have hc:=h.mem k _ h1;unfold kd at hc;cases qp:g.f k [] with
    |none=>rw [show g k=none from qp];rw [qp] at hc;exact hc
    |some b=>
     rw [show g k=some b from qp];rw [qp] at hc;obtain ⟨arr,hb,oZ⟩:=hc;exact ⟨arr,hb,oZ.keep (fun b hb=>⟨dN b hb,rfl⟩) fun _ _ _=>rfl⟩
  have A5: ∀k k' t cE,lk k s.ch=some k'→dM st'.mem k' t cE→cU k s.tr=false→dM st.mem k t cE:=fun k k' t cE hk hl UF=>by
   refine .inl ?_;have hl:lk k' st'.mem=some (.seq t cE):=by
    rcases hl with hl|⟨i,cs,ks,hl⟩
    exact hl;rcases oD k' _ hl with ⟨_,_,_,_,_,q3,_⟩|⟨_,_,q2⟩
    cases q3;cases q2
   rcases oD k' _ hl with ⟨k1,c,p,q1,q2,q3,q4,_⟩|⟨q1,_⟩
   have:k1=k:=by
    have a1:=(oC yt ld).1 q1;have a2:=(oC yt ld).1 hk;rw [a1] at a2;injection a2
   subst this;cases c with
   |seq t1 VS=>
    simp only [zL] at q3;split at q3;rename_i ht;subst ht;rw [UF] at q3;simp only [cond_false] at q3;injection q3 with q3;subst q3;have:=q4.1;simp only [cG] at this;rw [q2,this];cases q3
   |box cs=>cases q3
   |rB=>cases q3
   |gone=>cases q3
   have:lk k' (inv s.ch)=some k:=(oC yt ld).1 hk;rcases zM se BQ hl with ⟨k1,c,p,h1,h2,h3,h4⟩|⟨h1,_⟩
   have:k1=k:=by rw [this] at h1;injection h1 with h1;exact h1.symm
   subst this;cases c with
   |seq t1 VS=>
    simp only [zL] at h3;split at h3;rename_i ht;subst ht;rw [UF] at h3;simp only [cond_false] at h3;injection h3 with h3;subst h3;have:=h4.1;simp only [cG] at this;rw [h2,this];cases h3
   |box cs=>cases h3
   |rB=>cases h3
   |gone=>cases h3
   rw [this] at h1;cases h1
  have Tk: ∀c c' p v,FW s (s.m0 st.mem) st'.mem c c'=some p→bH p→CR g st.mem (cx.safe g st.mem w) w c v→CR g' st'.mem (cx.safe g' st'.mem w) w c' v:=by
   intro c c' p v hc hp hr;cases c' with
   |aq t x'=>
    simp only [FW] at hc;split at hc;rename_i x hx;injection hc with hc;subst hc;rw [hp.1];exact rX dN PN hx hr;cases hc
   |ptr k' dY=>
    cases c with
    |ptr k off=>
     simp only [FW] at hc;cases hb:(vx k k' s.ch&&Nat.beq off dY) with
     |false=>rw [hb] at hc;cases hc
     |true=>
      simp only [Bool.and_eq_true] at hb;have hk:=qQ hb.1;obtain ⟨_,b,h1,h2⟩:=hr;exact ⟨zN k k' hk,b,by rw [j8 k k' hk];exact h1,by rw [←bL hb.2];exact h2⟩
    |_=>cases hc
   |iy k' i' Ie dY=>
    cases c with
    |iy k i sz off=>
     simp only [FW] at hc;cases hb:(vx k k' s.ch&&(Nat.beq sz Ie&&Nat.beq off dY)) with
     |false=>rw [hb] at hc;cases hc
     |true=>
      rw [hb] at hc;simp only [cond_true] at hc;injection hc with hc;subst hc;simp only [Bool.and_eq_true] at hb;have hk:=qQ hb.1;obtain ⟨_,b,h1,h2⟩:=hr;exact ⟨zN k k' hk,b,by rw [j8 k k' hk];exact h1,by rw [←bL hb.2.1,←bL hb.2.2,hp.1];exact h2⟩
    |_=>cases hc
   |ip t' x' dY=>
    cases c with
    |ip t x off=>
     simp only [FW] at hc;cases hb:Nat.beq off dY with
     |false=>rw [hb] at hc;cases hc
     |true=>
      rw [hb] at hc;simp only [cond_true] at hc;split at hc;rename_i ht;subst ht;injection hc with hc;subst hc;have:=bL hb;subst this;have hx:x'=x:=hp.1;subst hx;obtain ⟨ad,es,e,hs,br,cJ⟩:=hr;exact ⟨ad,es,e,dN _ hs,br,bS.keep (fun b hb=>⟨dN b hb,rfl⟩) t' es x' cJ⟩;cases hc
    |ptr k off=>
     simp only [FW] at hc;split at hc;rename_i cs hl;cases hb:Nat.beq off dY with
     |false=>rw [hb] at hc;cases hc
     |true=>
      rw [hb] at hc;simp only [cond_true] at hc;split at hc;rename_i x hx;injection hc with hc;subst hc;have:=bL hb;subst this;have hxx:x'=x:=hp.1;subst hxx;obtain ⟨b,arr,qp,hsb,jL,bN⟩:=Jp k cs hl;obtain ⟨_,b',uX,e⟩:=hr;rw [qp] at uX;injection uX with uX;subst uX;obtain ⟨v1,v2,e2,r1,r2⟩:=jr dN PN t' hx bN;have:v2=[]:=by cases v2 with|nil=>rfl|cons=>exact r2.elim
      subst this;rw [List.append_nil] at e2;refine ⟨⟨b,0,none⟩,arr.toList,by rw [bY,Nat.zero_add];exact e,hsb,fun j u hu=> ?_,by rw [e2];exact r1⟩;rw [bY,Nat.zero_add,jL.cell,←Array.getElem?_toList];exact hu;cases hc
     cases hc
    |_=>cases hc
   |all k'=>
    cases c with
    |all k=>
     simp only [FW] at hc;cases hb:(vx k k' s.ch&& !(cU k s.tr)) with
     |false=>rw [hb] at hc;cases hc
     |true=>
      simp only [Bool.and_eq_true,Bool.not_eq_true'] at hb;have hk:=qQ hb.1;obtain ⟨_,h1,h2⟩:=hr;exact ⟨zN k k' hk,h1,fun t xs hl=>by rw [j8 k k' hk];exact h2 t xs (A5 k k' t xs hk hl hb.2)⟩
    |ar=>
     simp only [FW] at hc;cases hb:cU k' s.vs with
     |false=>rw [hb] at hc;cases hc
     |true=>
      have hv:=List.all_eq_true.1 kI _ (fg.1 hb);simp only [Bool.and_eq_true,Bool.not_eq_true'] at hv;obtain ⟨b,hr⟩:=hr;refine ⟨EZ hv.1,by subst hr;rfl,fun t xs hl=> ?_⟩;have:g' k'=none:=by
       cases hi:lk k' (inv s.ch) with
       |none=>exact congrFun (nq k' hi) []
       |some k=>
        have:=zB ((oC yt ld).2 hi);rw [fg.2 this] at hv;cases hv.2
      rw [this];exact ⟨b,hr⟩
    |ref k off len=>
     simp only [FW] at hc;cases hb:(vx k k' s.ch&&cU k s.tr) with
     |false=>rw [hb] at hc;cases hc
     |true=>
      rw [hb] at hc;simp only [cond_true] at hc;simp only [Bool.and_eq_true] at hb;have hk:=qQ hb.1;split at hc;rename_i t0 VK wy;injection hc with hc;subst hc;obtain ⟨Wp,hlen,_⟩:=hp;subst Wp;subst hlen;obtain ⟨_,h1,h2⟩:=hr;refine ⟨zN k k' hk,h1,fun t xs hl=> ?_⟩;have hl:=dM.toSeq wy hl;rw [wy] at hl;injection hl with hl;injection hl with e1 e2;subst e1;have e2:=eq_of_heq e2;subst e2;rw [j8 k k' hk];rcases zM se BQ wy with ⟨k1,c,p,q1,q2,q3,q4⟩|⟨q1,_⟩
      have:k1=k:=by
       have a2:=(oC yt ld).1 hk;rw [q1] at a2;injection a2
      subst this;cases c with
      |seq t1 VS=>
       simp only [zL] at q3;split at q3;rename_i ht;subst ht;obtain ⟨_,hx⟩:=h2 _ VS (.inl q2);rcases hx with ⟨hz,hn,a,ha⟩|⟨b,cap,arr,hg,e,k1,k2,k3,k4⟩
       rw [hn rfl,hz.symm.symm];exact ⟨a,by rw [ha]⟩;rw [hg];exact ⟨cap,arr,by rw [e,Nat.zero_mul],k1,k2,by rw [Nat.zero_add] at k3;exact k3,k4⟩;cases q3
      |box cs=>cases q3
      |rB=>cases q3
      |gone=>cases q3
      rw [(oC yt ld).1 hk] at q1;cases q1;cases hc
    |_=>cases hc
   |ref k' dY JC=>
    cases c with
    |ref k off len=>
     simp only [FW] at hc;cases hb:(vx k k' s.ch&& !(cU k s.tr)) with
     |false=>rw [hb] at hc;cases hc
     |true=>
      rw [hb] at hc;simp only [cond_true] at hc;injection hc with hc;subst hc;obtain ⟨e1,e2,_⟩:=hp;subst e1;subst e2;simp only [Bool.and_eq_true,Bool.not_eq_true'] at hb;have hk:=qQ hb.1;obtain ⟨_,h1,h2⟩:=hr;exact ⟨zN k k' hk,h1,fun t xs hl=>by rw [j8 k k' hk];exact h2 t xs (A5 k k' t xs hk hl hb.2)⟩
    |_=>cases hc
   |row=>cases hc
   |AW=>cases hc
   |ar=>
    cases c with
    |ar=>exact hr
    |_=>cases hc
   |fn f'=>
    cases c with
    |fn f=>
     simp only [FW] at hc;split at hc;rename_i hf;subst hf;exact hr;cases hc
    |_=>cases hc
   |nM f' t' x'=>
    cases c with
    |nM f t x=>
     simp only [FW] at hc;split at hc;rename_i hf;subst hf;split at hc;rename_i ht;subst ht;injection hc with hc;subst hc;have hx:x'=x:=hp.1;subst hx;obtain ⟨ad,es,e,hs,br,cJ⟩:=hr;exact ⟨ad,es,e,dN _ hs,br,bS.keep (fun b hb=>⟨dN b hb,rfl⟩) t' es x' cJ⟩;cases hc;cases hc
    |_=>cases hc
   |jk=>
    simp only [FW] at hc;cases hb:c.ok with
    |false=>rw [hb] at hc;cases hc
    |true=>exact yW hb hr
   |bad=>cases hc
  have GL: ∀cs oy p vs,GK s (s.m0 st.mem) st'.mem cs oy=some p→bH p→bB (CR g st.mem (cx.safe g st.mem w) w) cs vs→bB (CR g' st'.mem (cx.safe g' st'.mem w) w) oy vs:=by
   intro cs;induction cs with
   |nil=>
    intro oy p vs hc hp hr;cases oy with
    |cons=>cases hc
    |nil=>cases vs with
     |nil=>trivial
     |cons=>exact hr.elim
   |cons c cs ih=>
    intro oy p vs hc hp hr;cases oy with
    |nil=>cases hc
    |cons c' oy=>
     simp only [GK] at hc;split at hc;rename_i p1 p2 h1 h2;injection hc with hc;subst hc;obtain ⟨Ll,BQ⟩:=hp.append;cases vs with
     |nil=>exact hr.elim
     |cons v vs=>exact ⟨Tk c c' p1 v h1 Ll hr.1,ih oy p2 vs h2 BQ hr.2⟩
     cases hc
  refine ⟨g',h.defers.keep (fun b hb=>⟨dN b hb,rfl⟩),h.size,fun t v' hl=> ?_,fun k' c' hk=> ?_,?_,fun k' r' c' b hk hn hg=> ?_,fun k' r' c' b hk hn hg=> ?_,h.keep,fun p hp=> ?_,h.gl⟩;obtain ⟨v,p,h1,h2,h3⟩:=Il qt Ll hl;have hv:=h.fr t v h1;unfold QY at h2;split at h2;split at h2;exact Tk _ _ p _ h2 h3 hv;cases h2;split at h2;obtain ⟨vs,e,kI⟩:=hv;exact ⟨vs,e,GL _ _ p vs h2 h3 kI⟩;cases h2;cases h2;cases h2;trivial;rcases oD k' c' hk with ⟨k,c,p,q1,q2,q3,q4,q5,q6⟩|⟨q1,t,q2⟩
  have cY:=h.mem k c q2;rw [q6];cases c' with
  |box oy=>
   cases c with
   |box cs=>
    obtain ⟨b,arr,e,hb,bN⟩:=cY;exact ⟨b,arr,e,hb,GL cs oy _ _ q3 q4 bN⟩
   |seq t xs=>cases q3
   |rB=>cases q3
   |gone=>cases q3
  |rB=>cases q3
  |gone=>cases q3
  |seq t' cE=>
   cases c with
   |box cs=>cases q3
   |rB=>cases q3
   |gone=>cases q3
   |seq t xs=>
    simp only [zL] at q3;split at q3;rename_i ht;subst ht;have Ez: ∃n,cE=xs.take n:=by
     cases UF:cU k s.tr with
     |true=>
      rw [UF] at q3;simp only [cond_true] at q3;injection q3 with q3;subst q3;exact ⟨_,q4.1⟩
     |false=>
      rw [UF] at q3;simp only [cond_false] at q3;injection q3 with q3;subst q3;have:cE=xs:=q4.1;exact ⟨xs.length,by rw [this,List.take_length]⟩
    obtain ⟨n,hn⟩:=Ez;unfold kd at cY⊢;cases qp:g.f k [] with
    |none=>
     rw [qp] at cY;have:xs=[]:=cY;subst this;show cE=[];rw [hn];simp
    |some b=>
     rw [qp] at cY;obtain ⟨arr,hb,oZ⟩:=cY;refine ⟨arr,hb,fun i hi=> ?_⟩;subst hn;have nr:i<xs.length:=by
      have:=List.length_take_le' n xs;omega
     obtain ⟨es,k1,k2⟩:=(oZ.keep (fun b hb=>⟨dN b hb,rfl⟩) (fun _ _ _=>rfl):fA (cx.safe g' st'.mem w) w (g.f k) t' xs arr) i nr;refine ⟨es,k1,?_⟩;rw [List.getElem_take];exact k2
    cases q3
  subst q2;rw [q1];rfl;intro k1 k2 r1 r2 c1 c2 b Gq abg dU abh uX u9;rcases oD k1 c1 Gq with ⟨q,d,p,a1,a2,a3,a4,a5,a6⟩|⟨a1,_⟩
  rcases oD k2 c2 dU with ⟨q',d',p',b1,b2,b3,b4,b5,b6⟩|⟨b1,_⟩
  obtain ⟨e1,e2⟩:=h.lz q q' r1 r2 d d' b a2 (a5 r1) b2 (b5 r2) (by rw [←a6];exact uX) (by rw [←b6];exact u9);subst e1;rw [a1] at b1;injection b1 with b1;exact ⟨b1,e2⟩;rw [b1] at u9;cases u9;rw [a1] at uX;cases uX;rcases oD k' c' hk with ⟨q,d,p,a1,a2,a3,a4,a5,a6⟩|⟨a1,_⟩
  exact h.rC q r' d b a2 (a5 r') (by rw [←a6];exact hg);rw [a1] at hg;cases hg;rcases oD k' c' hk with ⟨q,d,p,a1,a2,a3,a4,a5,a6⟩|⟨a1,_⟩
  exact h.lt q r' d b a2 (a5 r') (by rw [←a6];exact hg);rw [a1] at hg;cases hg;have Lm:p.1∈own:=by rw [←ho];exact List.mem_map.2 ⟨p,hp,rfl⟩
  have sW:=qQ (List.all_eq_true.1 N6 _ Lm);exact ⟨by rw [VX _ _ sW];exact (h.own p hp).1,zN _ _ sW⟩;cases he
end
end Go.Ide
namespace Go.Ide
def runN {σ ρ:Type}(f:σ→Option (σ⊕ρ)):Nat→σ→Option ρ
 |0,_=>none
 |n+1,s=>match f s with
  |some (.inl s')=>runN f n s'
  |some (.inr r)=>some r
  |none=>none
theorem wL {σ ρ:Type}{f:σ→Option (σ⊕ρ)}: ∀{n m:Nat} {s:σ} {r:ρ},n≤m→runN f n s=some r→runN f m s=some r
 |0,_,_,_,_,h=>by cases h
 |n+1,0,_,_,hle,_=>by omega
 |n+1,m+1,s,r,hle,h=>by
  simp only [runN] at h⊢;cases hf:f s with
  |none=>simp [hf] at h
  |some x=>
   cases x with
   |inr r'=>rw [hf] at h;exact h
   |inl s'=>rw [hf] at h;exact wL (Nat.le_of_succ_le_succ hle) h
noncomputable def rounds {σ ρ:Type}(f:σ→Option (σ⊕ρ))(s:σ):Option ρ:=
 @dite (Option ρ) (∃r,∃n,runN f n s=some r) (Classical.propDecidable _) (fun h=>some (Classical.choose h)) (fun _=>none)
theorem gJ {σ ρ:Type}{f:σ→Option (σ⊕ρ)}{s:σ}{r:ρ}:rounds f s=some r↔ ∃n,runN f n s=some r:=by
 unfold rounds;constructor;intro h;split at h;rename_i hx;injection h with h;subst h;exact Classical.choose_spec hx;cases h;rintro ⟨n,hn⟩;have hx: ∃r,∃n,runN f n s=some r:=⟨r,n,hn⟩;rw [dif_pos hx];obtain ⟨m,hm⟩:=Classical.choose_spec hx;have h1:=wL (Nat.le_max_left n m) hn;have h2:=wL (Nat.le_max_right n m) hm;rw [h1] at h2;injection h2 with h2;rw [h2]
theorem bA {σ ρ:Type}(f:σ→Option (σ⊕ρ))(s:σ):rounds f s=match f s with
 |some (.inl s')=>rounds f s'
 |some (.inr r)=>some r
 |none=>none:=by
 have key: ∀r,rounds f s=some r↔(match f s with
  |some (.inl s')=>rounds f s'
  |some (.inr r)=>some r
  |none=>none)=some r:=by
  intro r;rw [gJ];constructor;rintro ⟨n,hn⟩;cases n with
  |zero=>cases hn
  |succ n=>
   simp only [runN] at hn;cases hf:f s with
   |none=>rw [hf] at hn;cases hn
   |some x=>
    rw [hf] at hn;cases x with
    |inl s'=>exact gJ.2 ⟨n,hn⟩
    |inr r'=>exact hn
  intro h;split at h;rename_i s' hf;obtain ⟨n,hn⟩:=gJ.1 h;exact ⟨n+1,by simp only [runN];rw [hf];exact hn⟩;rename_i r' hf;exact ⟨1,by simp only [runN];rw [hf];exact h⟩;cases h
 cases h1:rounds f s with
 |some r=>exact ((key r).1 h1).symm
 |none=>
  cases h2:(match f s with
  |some (.inl s')=>rounds f s'
  |some (.inr r)=>some r
  |none=>none) with
  |none=>rfl
  |some r=>
   have:=(key r).2 h2;rw [h1] at this;cases this
theorem af {α β:Type}{o:Option α}{k:α→Option β}{r:β}(h:o.bind k=some r): ∃y,o=some y∧k y=some r:=by
 cases o with
 |none=>cases h
 |some y=>exact ⟨y,rfl,h⟩
def az {β:Type}(p:Prop)[Decidable p](k:Option β):Option β:=if p then k else none
theorem ao {β:Type}{p:Prop}[Decidable p]{k:Option β}{r:β}(h:az p k=some r):p∧k=some r:=by
 unfold az at h;split at h;rename_i hp;exact ⟨hp,h⟩;cases h
theorem guard_pos {β:Type}{p:Prop}[Decidable p]{k:Option β}(h:p):az p k=k:=if_pos h
theorem an {β:Type}{b:Bool}{x y:Option β}{r:β}(h:(bif b then x else y)=some r):(b=true∧x=some r)∨(b=false∧y=some r):=by
 cases b with
 |true=>exact .inl ⟨rfl,h⟩
 |false=>exact .inr ⟨rfl,h⟩
abbrev al (k:IntKind)(a b:Int):Int:=k.wrap (a+b)
abbrev lO (k:IntKind)(a b:Int):Int:=k.wrap (a - b)
abbrev aU (k:IntKind)(a b:Int):Int:=k.wrap (a*b)
abbrev ai {α:Type}(xs:List α):Int:=((List.length xs:Nat):Int)
section
variable {cx:Cx} {st:St} {P:Program} {N:Nat} {Q:Exit→St→Prop} {x y c:Code}
theorem HT.VY {id:Nat}{ops:List Oper}{rs:List OH}{st':St}{cs:List Prop}(hP:cx.P=P)(hN:cx.N=N)(he:tV P N ops ops rs st=some (st',cs))(hc:bH cs)(hq:Q .normal st'):HT cx st (.region id ops.toArray false) Q:=by
 subst hP;subst hN;exact HT.region he hc hq
theorem HT.drw {id h:Nat}{ops:List Oper}{tu:List HR}{AU:List (List Nat)}{rs:List OH}{dV:List ER}{st':St}{cs oy:List Prop}{nx:Nat}(hP:cx.P=P)(hN:cx.N=N)(hm:P.follows .mixedOrders=true)(hn:(tu.length==h&&Nat.ble h ops.length)=true)(ja:qP ops (tu.map HR.D++AU) h 0 ops=true)(hh:BM P N ops st (ops.take h) tu [] st.nx=some (dV,cs,nx))(he:tV P N ops (ops.drop h) rs (pB st dV (fun _=>true) nx)=some (st',oy))(hc:bH cs)(Pz:bH oy)(hq:Q .normal st'):HT cx st (.region id ops.toArray true) Q:=by
 subst hP;subst hN;exact HT.draw hm hn ja hh he hc Pz hq
def Le (cx:Cx)(st st':St):Prop:= ∀g a w,dw cx g st a w→ ∃g',dw cx g' st' a w
theorem Le.cv {s:tw}{own:List Nat}{ps:List Prop}{st':St}(ho:cx.own.map Prod.fst=own)(hF:s.fz=true→cx.S7)(he:st.cv s own st'=some ps)(hp:bH ps):Le cx st st':=
 fun _ _ _ hs=>hs.cv he hp ho hF
theorem Le.ht {st':St}(h:Le cx st st')(hc:HT cx st' c Q):HT cx st c Q:=fun g a w hs=>let ⟨g',eI⟩:=h g a w hs;hc g' a w eI
theorem HT.ZP (h:HT cx st c (fun e s=> ∃s',Le cx s s'∧Q e s')):HT cx st c Q:=fun g a w hs=>by
 refine wp_mono (h g a w hs) fun e a' w' ⟨s,g',⟨s',hle,hq⟩,eI⟩=> ?_;obtain ⟨g2,h2⟩:=hle g' a' w' eI;exact ⟨s',g2,hq,h2⟩
theorem Le.refl:Le cx st st:=fun g _ _ hs=>⟨g,hs⟩
theorem HT.UG {σ ρ:Type}{f:σ→Option (σ⊕ρ)}{s:σ}{r:ρ}(S:σ→St)(E:ρ→Exit×St)(h:rounds f s=some r)(hc:Q (E r).1 (E r).2)(round: ∀s x,f s=some x→(∀r',x= .inr r'→Q (E r').1 (E r').2)→HT cx (S s) c (BK (fun st'=> ∃s',x= .inl s'∧Le cx st' (S s')) Q)):HT cx (S s) (.loop c) Q:=by
 obtain ⟨n,hn⟩:=gJ.1 h;let I:Nat→St→Prop:=fun n st'=> ∃s,Le cx st' (S s)∧runN f n s=some r;have:=HT.loop (cx:=cx) (c:=c) (Q:=Q) (α:=St) (I:=I) (S:=id) (n:=n) (s:=S s) ⟨s,Le.refl,hn⟩ (fun st' ⟨s,_,h0⟩=>by cases h0) (fun n st' ⟨s,hle,hr⟩=>by
  simp only [runN] at hr;have hx: ∃x,f s=some x∧(∀r',x= .inr r'→r'=r)∧ ∀s',x= .inl s'→runN f n s'=some r:=by
   split at hr;rename_i s' hf;exact ⟨.inl s',hf,fun r' e=>(by cases e),fun s'' e=>(by injection e with e;subst e;exact hr)⟩;rename_i r' hf;injection hr with hr;exact ⟨.inr r',hf,fun H7 e=>(by injection e with e;rw [←e];exact hr),fun s'' e=>(by cases e)⟩
   cases hr
  obtain ⟨x,hf,h1,h2⟩:=hx;refine hle.ht ((round s x hf fun r' e=>by rw [h1 r' e];exact hc).mono fun e st1 hq=> ?_);cases e with
  |normal=>
   obtain ⟨s',e1,Xt⟩:=hq;exact ⟨st1,rfl,s',Xt,h2 s' e1⟩
  |_=>exact hq)
 exact this
theorem Ln (g:GM)(m:Mem)(S:Nat→Prop)(w:World){v:aE}{val:Value}{t:Ty}{xs:List t.D}(hv:mr m (.sl t) v=some xs)(hm:i9 g m m (fun _=>True) w)(h:VR g m S w v val): ∃a n cap,val= .slice a n cap∧(a=none→xs=[]):=by
 obtain ⟨cs,h1,h2⟩:=pO (S2:=fun _=>True) (fun _ _=>trivial) hm hv h;obtain ⟨a,cap,e,_,oZ⟩:=h2;have:val= .slice a (List.length xs) cap:=by
  unfold dO at h1;rw [e] at h1;simpa [Ty.yN] using h1.symm
 refine ⟨a,_,cap,this,fun ha=> ?_⟩;cases xs with
 |nil=>rfl
 |cons x xs=>
  obtain ⟨ad,es,e1,_⟩:=oZ 0 (by simp);rw [ha] at e1;cases e1
end
end Go.Ide
namespace Go.Ide
theorem Bo {P:Program}{w:World}{T e:TypeId}{a:Option Addr}{n cap:Nat}(hT:P.underlying T=some (.slice e)):
 (Op.equal T (.slice a n cap) (.slice none 0 0)).run P w= .ok a.isNone w:=by
 have h: ∀d:Nat,(Op.equalIn (d+1) T (.slice a n cap) (.slice none 0 0)).run P w= .ok a.isNone w:=fun d=>by
  rw [Op.equalIn];cases a<;>simp [run_underlying hT]
 exact h 9999
theorem C3 {P:Program}{w:World}{T:TypeId}{x y:Operand}{a:Option Addr}{n cap:Nat}:(Go.eqGuard .eql T x y (.slice a n cap) (.slice none 0 0)).run P w= .ok () w:=rfl
theorem GN {P:Program}{w:World}{T e:TypeId}{a:Option Addr}{n cap:Nat}(hT:P.underlying T=some (.slice e)):(Go.binOp .eql T (.slice a n cap) (.slice none 0 0)).run P w= .ok (.bool a.isNone) w:=by
 have h2:Go.binOp .eql T (.slice a n cap) (.slice none 0 0)=(do pure (.bool (←Op.equal T (.slice a n cap) (.slice none 0 0)))):=rfl;rw [h2];simp only [Sem.run_bind,Result.andThen_ok,Bo hT,Sem.run_pure]
section
variable {cx:Cx} {st:St} {P:Program} {N:Nat} {Q:Exit→St→Prop} {y:Code}
theorem HT.isNil {id:Nat}{o1 o2:Oper}{T T' e:TypeId}{t3 t4:Tmp}{v:aE}{t:Ty}{xs:List t.D}{st1:St}(hP:cx.P=P)(hN:cx.N=N)(h1:Ij P N [o1,o2] o1 ⟨none,.no⟩ st=some (st1,[]))(hg:o2.guard=none)(hop:o2.op= .binOp .eql T (.tmp t3) (.const (.slice none 0 0)) T')(hd:o2.dst=some t4)(cq:Nat.blt t4 N=true)(hT:P.underlying T=some (.slice e))(hv:lk t3 st1.fr=some v)(hx:mr st1.mem (.sl t) v=some xs)(k: ∀b,(b=true→xs=[])→HT cx (st1.put (some t4) (.one (.aq .bool b))) y Q):HT cx st (.seq (.region id [o1,o2].toArray false) y) Q:=by
 subst hP;subst hN;refine HT.seq fun g a w hs=>wp_region_lit ?_;refine wpList_step fun K hK=>xG hs h1 trivial fun g' a' w' eI=>hK a' w' ?_;refine wpList_step fun K' Xu=> ?_;have hw:Region.wanted o2 (yielded [o1,o2].toArray a'.tmps)=true:=by simp only [Region.wanted,hg]
 rw [if_pos hw];have hr:i9 g' st1.mem st1.mem (fun _=>True) w':=fun k t xs hl=>by
  refine ⟨hl,fun _ _ _=>trivial,?_⟩;have hc:=eI.mem k _ hl;unfold kd at hc;cases qp:g'.f k [] with
  |none=>rw [show g' k=none from qp];rw [qp] at hc;exact hc
  |some b=>
   rw [show g' k=some b from qp];rw [qp] at hc;obtain ⟨arr,hb,oZ⟩:=hc;exact ⟨arr,hb,oZ.keep (fun b _=>⟨trivial,rfl⟩) fun _ _ _=>rfl⟩
 obtain ⟨ad,n,cap,e1,e2⟩:=Ln _ _ _ _ hx hr (eI.fr t3 v hv);unfold Oper.wp;have he:(execOp a'.eval o2).run cx.P w'= .ok (.value (.bool ad.isNone)) w':=by
  have e3:a'.eval (.tmp t3)= .slice ad n cap:=e1;have e4:a'.eval (.const (.slice none 0 0))= .slice none 0 0:=rfl;simp only [execOp,hop,e3,e4,Sem.run_bind,C3,Result.andThen_ok,GN hT,Sem.run_pure]
 rw [he];refine Xu _ _ ?_;have K1:=eI.put (v:= .one (.aq .bool ad.isNone)) (val:= .bool ad.isNone) (show CR g' st1.mem (cx.safe g' st1.mem w') w' (.aq .bool ad.isNone) (.bool ad.isNone) from rfl) (some t4) (fun t e=>by injection e with e;subst e;exact Nat.lt_of_succ_le (by simpa [Nat.blt] using cq));rw [hd];exact ⟨_,g',k ad.isNone (fun hb=>e2 (by simpa using hb)),K1⟩
end
end Go.Ide
namespace Go.Ide
def St.keep (ks:List Nat)(st:St):St:=⟨(ks.filterMap fun t=>match lk t st.fr with
 |some v=>some (t,v)
 |none=>none),st.mem,st.nx⟩
theorem C4 {fr:Fr}{t:Nat}{v:aE}: ∀{ks:List Nat},lk t (ks.filterMap fun t=>match lk t fr with|some v=>some (t,v)|none=>none)=some v→lk t fr=some v
 |[],h=>by simp [gI] at h
 |k::ks,h=>by
  rw [List.filterMap_cons] at h;split at h;exact C4 h;rename_i b hb;split at hb;rename_i v' yz;injection hb with hb;subst hb;rw [aS] at h;split at h;rename_i e;subst e;rw [yz];exact h;exact C4 h;cases hb
theorem dw.PO {cx:Cx}{g:GM}{st:St}{a:Act}{w:World}(ks:List Nat)(h:dw cx g st a w):dw cx g (st.keep ks) a w:=
 h.congr (fun _ _ hv=>C4 hv) fun _=>rfl
def Lo (ks:List Nat):Option (St×List Prop)→Option (St×List Prop)
 |some (st,cs)=>some (st.keep ks,cs)
 |none=>none
theorem GO {ks:List Nat}{o:Option (St×List Prop)}{st':St}{cs:List Prop}(h:Lo ks o=some (st',cs)): ∃st1,o=some (st1,cs)∧st'=st1.keep ks:=by
 unfold Lo at h;split at h;rename_i st1 N7;injection h with h;injection h with h1 h2;subst h2;exact ⟨st1,rfl,h1.symm⟩;cases h
def zO (P:Program)(N:Nat)(ops:List Oper)(h:Nat)(tu:List HR)(AU:List (List Nat))(rs:List OH)(st:St):Option (St×List Prop):=
 bif (Nat.beq tu.length h&&Nat.ble h ops.length)&&qP ops (tu.map HR.D++AU) h 0 ops then (match BM P N ops st (ops.take h) tu [] st.nx with
  |some (dV,cs,nx)=>(match tV P N ops (ops.drop h) rs (pB st dV (fun _=>true) nx) with
   |some (st',oy)=>some (st',cs++oy)
   |none=>none)
  |none=>none) else none
theorem ae {α:Type}{a b:α}(h:some a=some b):a=b:=by injection h
theorem fh {α:Type}{a b:α}(h:some a=some b):b=a:=by injection h with h;exact h.symm
theorem Q0:bH []:=trivial
theorem C5 {p:Prop}{r:List Prop}(h:p)(hr:bH r):bH (p::r):=⟨h,hr⟩
noncomputable instance {t:Ty}{xs ys:List t.D}:Decidable (cl t xs ys):=Classical.propDecidable _
theorem gy {α:Type}{xs:List α}{n:Int}(h:(0:Int)≤n∧n<ai xs):Int.toNat n<List.length xs:=by
 obtain ⟨h1,h2⟩:=h;simp only [ai] at h2;omega
abbrev tI:Ty:= .int .i64
abbrev tF:Ty:= .aX .f32
abbrev bM:Ty:= .sl (.int .i64)
abbrev aY:Ty:= .sl (.aX .f32)
abbrev iV (x:Int):aE:= .one (.aq (.int .i64) x)
abbrev iC (x:Int):aA:= .aq (.int .i64) x
abbrev bV (x:Bool):aE:= .one (.aq .bool x)
abbrev fV (x:Nat):aE:= .one (.aq (.aX .f32) x)
abbrev lV (x:List Nat):aE:= .one (.aq (.sl (.aX .f32)) x)
abbrev lC (x:List Nat):aA:= .aq (.sl (.aX .f32)) x
abbrev nV (x:List Int):aE:= .one (.aq (.sl (.int .i64)) x)
abbrev oH:OH:=⟨none,.no⟩
abbrev aO (n:Nat):List OH:=List.replicate n ⟨none,.no⟩
abbrev aV (c:Nat):aE:= .one (.all c)
abbrev pV (c o:Nat):aE:= .one (.ptr c o)
def cc {α:Type}(xs:List α):Option (List α):=az (0+List.length xs≤bO) (some xs)
section
variable {cx:Cx} {st st':St} {P:Program} {N:Nat} {Q:Exit→St→Prop} {x y c:Code}
theorem HT.keep (ks:List Nat)(h:HT cx (st.keep ks) c Q):HT cx st c Q:=fun g a w hs=>h g a w (hs.PO ks)
theorem Lp {id h:Nat}{ops:List Oper}{tu:List HR}{AU:List (List Nat)}{rs:List OH}{cs:List Prop}(hP:cx.P=P)(hN:cx.N=N)(hm:P.follows .mixedOrders=true)(he:zO P N ops h tu AU rs st=some (st',cs))(hc:bH cs)(hq:Q .normal st'):HT cx st (.region id ops.toArray true) Q:=by
 unfold zO at he;cases hb:((Nat.beq tu.length h&&Nat.ble h ops.length)&&qP ops (tu.map HR.D++AU) h 0 ops) with
 |false=>rw [hb] at he;cases he
 |true=>
  rw [hb] at he;simp only [cond_true] at he;simp only [Bool.and_eq_true] at hb;split at he;rename_i dV N7 nx h1;split at he;rename_i st1 ZJ h2;injection he with he;injection he with e1 e2;subst e1;subst e2;obtain ⟨HY,eV⟩:=hc.append;exact HT.drw hP hN hm (by simp only [Bool.and_eq_true,beq_iff_eq];exact ⟨bL hb.1.1,hb.1.2⟩) hb.2 h1 h2 HY eV hq;cases he;cases he
theorem HT.Q1 {id:Nat}{ops:List Oper}(ks:List Nat)(rs:List OH)(st':St){cs:List Prop}(hP:cx.P=P)(hN:cx.N=N)(he:Lo ks (tV P N ops ops rs st)=some (st',cs))(hc:bH cs)(hq:HT cx st' y Q):HT cx st (.seq (.region id ops.toArray false) y) Q:=by
 obtain ⟨st1,h1,h2⟩:=GO he;subst h2;exact HT.seq (HT.VY hP hN h1 hc (HT.keep ks hq))
def oI:aA→List Nat
 | .ptr c _=>[c]
 | .iy c _ _ _=>[c]
 | .all c=>[c]
 | .ref c _ _=>[c]
 | .row c _ _=>[c]
 | .AW c _ _ _ _ _=>[c]
 |_=>[]
def PQ:aE→List Nat
 | .one c=>oI c
 | .agg cs=>cs.flatMap oI
 | .HM ts=>ts.flatMap fun t=>t.2.flatMap oI
 |_=>[]
def PR:Chunk→List Nat
 | .box cs=>cs.flatMap oI
 | .rB _ _ _ cs ks=>cs.flatMap oI++ks
 |_=>[]
def C6 (m:Mem):List Nat→Mem
 |[]=>[]
 |k::ks=>(match lk k m with
  |some c=>(k,c)::C6 m ks
  |none=>C6 m ks)
def UH (own ks ms:List Nat)(st:St):Bool:=
 ((mw ms&&(st.keep ks).fr.all fun p=>(PQ p.2).all fun k=>QL k ms)&&ms.all fun k=>match lk k st.mem with
  |some c=>(PR c).all fun q=>QL q ms
  |none=>false)&&own.all fun k=>QL k ms
def PS (own ks ms:List Nat):Option (St×List Prop)→Option (St×List Prop)
 |some (st,cs)=>bif UH own ks ms st then some (⟨(st.keep ks).fr,C6 st.mem ms,st.nx⟩,cs) else none
 |none=>none
theorem zP {own ks ms:List Nat}{st st':St}{cs oy:List Prop}(h:PS own ks ms (some (st,cs))=some (st',oy)):UH own ks ms st=true∧st'=⟨(st.keep ks).fr,C6 st.mem ms,st.nx⟩∧oy=cs:=by
 simp only [PS] at h;cases hb:UH own ks ms st with
 |false=>rw [hb] at h;cases h
 |true=>
  rw [hb] at h;simp only [cond_true] at h;injection h with h;injection h with h1 h2;exact ⟨rfl,h1.symm,h2.symm⟩
theorem GP {m:Mem}{k:Nat}: ∀{ms:List Nat},ms.Nodup→lk k (C6 m ms)=if k∈ms then lk k m else none
 |[],_=>by simp [C6,gI]
 |q::ms,hn=>by
  simp only [List.nodup_cons] at hn;have ih:=GP (m:=m) (k:=k) hn.2;simp only [C6];cases hq:lk q m with
  |none=>
   simp only;rw [ih];by_cases e:k=q;subst e;rw [if_neg hn.1,if_pos (by simp),hq];simp [e]
  |some c=>
   simp only;rw [aS,ih];by_cases e:k=q;subst e;rw [if_pos rfl,if_pos (by simp),hq];rw [if_neg e];simp [e]
theorem CR.sub {g:GM}{m m':Mem}{S S':Nat→Prop}{w:World}(hS: ∀b,S b→S' b){c:aA}(hk: ∀k,k∈oI c→lk k m'=lk k m){v:Value}(hr:CR g m S w c v):CR g m' S' w c v:=by
 have sq: ∀k,lk k m'=lk k m→ ∀t xs,dM m' k t xs→dM m k t xs:=fun k e t xs h=>by unfold dM at h⊢;rw [e] at h;exact h
 cases c with
 |ptr k off=>have e:=hk k (by simp [oI]);exact ⟨by rw [e];exact hr.1,hr.2⟩
 |iy k i sz off=>have e:=hk k (by simp [oI]);exact ⟨by rw [e];exact hr.1,hr.2⟩
 |all k=>have e:=hk k (by simp [oI]);exact ⟨by rw [e];exact hr.1,hr.2.1,fun t xs h=>hr.2.2 t xs (sq k e t xs h)⟩
 |ref k off len=>have e:=hk k (by simp [oI]);exact ⟨by rw [e];exact hr.1,hr.2.1,fun t xs h=>hr.2.2 t xs (sq k e t xs h)⟩
 |row k i o=>have e:=hk k (by simp [oI]);exact ⟨by rw [e];exact hr.1,hr.2.1,fun t xs h=>hr.2.2 t xs (by rw [←e];exact h)⟩
 |AW k i o j sz off=>
  have e:=hk k (by simp [oI]);obtain ⟨h1,b,h2,h3⟩:=hr;exact ⟨by rw [e];exact h1,b,h2,fun t xs h=>h3 t xs (by rw [←e];exact h)⟩
 |aq t x=>exact bS.keep (fun b hb=>⟨hS b hb,rfl⟩) t [v] x hr
 |ip t x off=>
  obtain ⟨ad,es,e,hs,br,cJ⟩:=hr;exact ⟨ad,es,e,hS _ hs,br,bS.keep (fun b hb=>⟨hS b hb,rfl⟩) t es x cJ⟩
 |ar=>exact hr
 |fn f=>exact hr
 |nM f t x=>
  obtain ⟨ad,es,e,hs,br,cJ⟩:=hr;exact ⟨ad,es,e,hS _ hs,br,bS.keep (fun b hb=>⟨hS b hb,rfl⟩) t es x cJ⟩
 |jk=>exact hr
 |bad=>trivial
theorem dw.gc {cx:Cx}{g:GM}{wG:St}{a:Act}{w:World}{own ks ms:List Nat}(h:dw cx g wG a w)(ho:cx.own.map Prod.fst=own)(hb:UH own ks ms wG=true):dw cx g ⟨(wG.keep ks).fr,C6 wG.mem ms,wG.nx⟩ a w:=by
 have h:=h.PO ks;unfold UH at hb;simp only [Bool.and_eq_true] at hb;obtain ⟨⟨⟨hn,qt⟩,ZQ⟩,N6⟩:=hb;have hn:=js hn;have CA: ∀k,k∈ms→lk k (C6 wG.mem ms)=lk k wG.mem:=fun k hk=>by rw [GP hn,if_pos hk]
 have Tl: ∀k ch,lk k (C6 wG.mem ms)=some ch→k∈ms∧lk k wG.mem=some ch:=fun k ch hk=>by
  rw [GP hn] at hk;split at hk;rename_i hm;exact ⟨hm,hk⟩;cases hk
 have dN: ∀b,cx.safe g wG.mem w b→cx.safe g (C6 wG.mem ms) w b:=fun b ⟨h1,h2,h3⟩=>⟨h1,h2,fun ⟨k,p,ch,q1,q2,q3⟩=>h3 ⟨k,p,ch,(Tl k ch q1).2,q2,q3⟩⟩;have Tk: ∀c v,(∀k,k∈oI c→k∈ms)→CR g wG.mem (cx.safe g wG.mem w) w c v→CR g (C6 wG.mem ms) (cx.safe g (C6 wG.mem ms) w) w c v:=fun c v hk hr=>CR.sub dN (fun k vb=>CA k (hk k vb)) hr;have GL: ∀cs vs,(∀k,k∈cs.flatMap oI→k∈ms)→bB (CR g wG.mem (cx.safe g wG.mem w) w) cs vs→bB (CR g (C6 wG.mem ms) (cx.safe g (C6 wG.mem ms) w) w) cs vs:=fun cs vs hk hr=>
  hr.imp_mem fun c hc v hv=>Tk c v (fun k vb=>hk k (List.mem_flatMap.2 ⟨c,hc,vb⟩)) hv
 refine ⟨h.defers.keep (fun b hb=>⟨dN b hb,rfl⟩),h.size,fun t v hl=> ?_,fun k ch hk=> ?_,fun k k' p p' ch jM b h1 h2 h3 h4=>h.lz k k' p p' ch jM b (Tl k ch h1).2 h2 (Tl k' jM h3).2 h4,fun k p ch b h1=>h.rC k p ch b (Tl k ch h1).2,fun k p ch b h1=>h.lt k p ch b (Tl k ch h1).2,h.keep,fun p hp=> ?_,h.gl⟩;have hv:=h.fr t v hl;have hk: ∀k,k∈PQ v→k∈ms:=fun k hk=>yw.1 (List.all_eq_true.1 (List.all_eq_true.1 qt _ (mD hl)) k hk);cases v with
 |one c=>exact Tk c _ hk hv
 |agg cs=>obtain ⟨vs,e,kI⟩:=hv;exact ⟨vs,e,GL cs vs hk kI⟩
 |HM ts=>
  obtain ⟨vs,e,kI⟩:=hv;refine ⟨vs,e,kI.imp_mem fun t ht u hc=> ?_⟩;have dU: ∀k,k∈t.2.flatMap oI→k∈ms:=fun k vb=>hk k (List.mem_flatMap.2 ⟨t,ht,vb⟩);unfold CV at hc⊢;split at hc;obtain ⟨us,e',hu⟩:=hc;exact ⟨us,e',GL _ us dU hu⟩;rename_i c e1 e2;rw [e2] at dU;exact Tk _ _ (fun k vb=>dU k (by simpa using vb)) hc;exact hc.elim
 |FQ=>exact hv
 |jk=>trivial
 obtain ⟨hkm,sY⟩:=Tl k ch hk;have hr:=h.mem k ch sY;have Tm:=List.all_eq_true.1 ZQ k hkm;rw [sY] at Tm;have Tm: ∀q,q∈PR ch→q∈ms:=fun q hq=>yw.1 (List.all_eq_true.1 Tm q hq);cases ch with
 |gone=>trivial
 |box cs=>obtain ⟨b,arr,e,hb,bN⟩:=hr;exact ⟨b,arr,e,hb,GL cs _ Tm bN⟩
 |seq t xs=>
  show kd g (C6 wG.mem ms) (cx.safe g (C6 wG.mem ms) w) w (g.f k) _;unfold kd at hr⊢;cases hγ:g.f k [] with
  |none=>rw [hγ] at hr;exact hr
  |some b=>
   rw [hγ] at hr;obtain ⟨arr,q1,q2⟩:=hr;exact ⟨arr,q1,q2.keep (fun b hb=>⟨dN b hb,rfl⟩) fun _ _ _=>rfl⟩
 |rB t xs i cs ks=>
  obtain ⟨HQ,b,arr,q1,q2,q3,q4,es,q5,q6,q7⟩:=hr;refine ⟨?_,b,arr,q1,q2,q3,fun j hj jq=> ?_,es,q5,q6,GL cs es (fun q hq=>Tm q (List.mem_append.2 (.inl hq))) q7⟩;refine bB.Gt HQ.length fun j o k1 hj Gq=> ?_;obtain ⟨k1',zi,r1,r2⟩:=bB.get j HQ o hj;rw [Gq] at zi;injection zi with zi;subst zi;exact ⟨by show lk k1 (C6 wG.mem ms)≠none;rw [CA k1 (Tm k1 (List.mem_append.2 (.inr (List.mem_of_getElem? Gq))))];exact r1,r2⟩;obtain ⟨es2,r1,r2⟩:=q4 j hj jq;exact ⟨es2,r1,cX.keep (fun b hb=>⟨dN b hb,rfl⟩) t (fun _ _ _=>rfl) r2⟩
 refine ⟨(h.own p hp).1,?_⟩;show lk p.1 (C6 wG.mem ms)≠none;rw [CA p.1 (yw.1 (List.all_eq_true.1 N6 p.1 (by rw [←ho];exact List.mem_map.2 ⟨p,hp,rfl⟩)))];exact (h.own p hp).2
structure vy (cx:Cx)(P:Program)(N:Nat)(own:List Nat):Prop where
 P:cx.P=P
 N:cx.N=N
 own:cx.own.map Prod.fst=own
theorem HT.rg2 {id:Nat}{ops:List Oper}{own:List Nat}(rs:List OH)(st':St){cs:List Prop}(hX:vy cx P N own)(he:PS own (st'.fr.map Prod.fst) (st'.mem.map Prod.fst) (tV P N ops ops rs st)=some (st',cs))(hc:bH cs)(hq:HT cx st' y Q):HT cx st (.seq (.region id ops.toArray false) y) Q:=by
 cases hi:tV P N ops ops rs st with
 |none=>rw [hi] at he;cases he
 |some p=>
  obtain ⟨st1,N7⟩:=p;rw [hi] at he;obtain ⟨h1,h2,h3⟩:=zP he;subst h3;refine HT.seq (HT.VY hX.P hX.N hi hc (show HT cx st1 y Q from fun g a w hs=>hq g a w ?_));rw [h2];exact hs.gc hX.own h1
theorem Le.gc {own ks ms:List Nat}{o:Option (St×List Prop)}{st1:St}{cs N7:List Prop}(hX:vy cx P N own)(ho:o=some (st1,N7))(he:PS own ks ms o=some (st',cs)):cs=N7∧Le cx st1 st':=by
 subst ho;obtain ⟨h1,h2,h3⟩:=zP he;refine ⟨h3,fun g a w hs=>⟨g,?_⟩⟩;rw [h2];exact hs.gc hX.own h1
theorem HT.xM {id:Nat}{ops:List Oper}{own:List Nat}(rs:List OH)(st':St){cs:List Prop}(hX:vy cx P N own)(he:PS own (st'.fr.map Prod.fst) (st'.mem.map Prod.fst) (tV P N ops ops rs st)=some (st',cs))(hc:bH cs)(hq:Q .normal st'):HT cx st (.region id ops.toArray false) Q:=by
 cases hi:tV P N ops ops rs st with
 |none=>rw [hi] at he;cases he
 |some p=>
  obtain ⟨st1,N7⟩:=p;obtain ⟨h1,h2⟩:=Le.gc hX hi he;subst h1;exact HT.ZP (HT.VY hX.P hX.N hi hc ⟨st',h2,hq⟩)
theorem HT.PT {id:Nat}{ops:List Oper}{own:List Nat}(h:Nat)(tu:List HR)(AU:List (List Nat))(rs:List OH)(st':St){cs:List Prop}(hX:vy cx P N own)(hm:P.follows .mixedOrders=true)(he:PS own (st'.fr.map Prod.fst) (st'.mem.map Prod.fst) (zO P N ops h tu AU rs st)=some (st',cs))(hc:bH cs)(hq:Q .normal st'):HT cx st (.region id ops.toArray true) Q:=by
 cases hi:zO P N ops h tu AU rs st with
 |none=>rw [hi] at he;cases he
 |some p=>
  obtain ⟨st1,N7⟩:=p;obtain ⟨h1,h2⟩:=Le.gc hX hi he;subst h1;exact HT.ZP (Lp hX.P hX.N hm hi hc ⟨st',h2,hq⟩)
theorem HT.D7 {id:Nat}{ops:List Oper}{own:List Nat}(h:Nat)(tu:List HR)(AU:List (List Nat))(rs:List OH)(st':St){cs:List Prop}(hX:vy cx P N own)(hm:P.follows .mixedOrders=true)(he:PS own (st'.fr.map Prod.fst) (st'.mem.map Prod.fst) (zO P N ops h tu AU rs st)=some (st',cs))(hc:bH cs)(hq:HT cx st' y Q):HT cx st (.seq (.region id ops.toArray true) y) Q:=by
 cases hi:zO P N ops h tu AU rs st with
 |none=>rw [hi] at he;cases he
 |some p=>
  obtain ⟨st1,N7⟩:=p;rw [hi] at he;obtain ⟨h1,h2,h3⟩:=zP he;subst h3;refine HT.seq (Lp hX.P hX.N hm hi hc (show HT cx st1 y Q from fun g a w hs=>hq g a w ?_));rw [h2];exact hs.gc hX.own h1
theorem HT.join {α:Type}(J:α→St)(C:α→Prop)(h1: ∀v,C v→HT cx (J v) y Q)(h2:(∀v,C v→HT cx (J v) y Q)→HT cx st x (EJ cx y Q)):HT cx st (.seq x y) Q:=HT.seq (h2 h1)
theorem aj (h:HT cx st y Q):EJ cx y Q .normal st:=h
theorem bF {k:Nat}(h:Q (.exit k) st):EJ cx y Q (.exit k) st:=h
theorem aM (h:Q .ret st):EJ cx y Q .ret st:=h
theorem bC {id:Nat}(h:Q .normal st):zA id Q .normal st:=h
theorem aZ {id:Nat}(h:Q .normal st):zA id Q (.exit id) st:=by
 show if id=id then Q .normal st else Q (.exit id) st
 rw [if_pos rfl];exact h
theorem bE {id:Nat}(h:Q .ret st):zA id Q .ret st:=h
theorem bI {J:St→Prop}{k:Nat}(h:Q (.exit k) st):BK J Q (.exit k) st:=h
theorem iz {J:St→Prop}(h:Q .ret st):BK J Q .ret st:=h
theorem bJ {J:St→Prop}(h:J st):BK J Q .normal st:=h
theorem HT.aK {o:Operand}{b:Bool}(he:ev st.fr o=some (.one (.aq .bool b)))(hb:b=true)(h1:HT cx st x Q):HT cx st (.cond o x y) Q:=HT.cond he (fun _=>h1) (fun h=>by rw [hb] at h;cases h)
theorem HT.aJ {o:Operand}{b:Bool}(he:ev st.fr o=some (.one (.aq .bool b)))(hb:b=false)(h1:HT cx st y Q):HT cx st (.cond o x y) Q:=HT.cond he (fun h=>by rw [hb] at h;cases h) (fun _=>h1)
end
end Go.Ide
namespace Go.Ide
mutual
def D8 (P:Program):Nat→Ty→TypeId→Bool
 |0,_,_=>false
 |n+1,t,T=>match t with
  | .int k=>(match P.underlying T with
   |some (.int k')=>k==k'
   |_=>false)
  | .aX k=>(match P.underlying T with
   |some (.float k')=>k==k'
   |_=>false)
  | .bool=>(match P.underlying T with
   |some .bool=>true
   |_=>false)
  | .str=>(match P.underlying T with
   |some .string=>true
   |_=>false)
  | .sl t=>(match P.underlying T with
   |some (.slice e)=>D8 P n t e&&Nat.beq (P.cellsOf e) t.size
   |_=>false)
  | .st t=>(match P.underlying T with
   |some (.struct fs)=>PU P n t 0 fs.toList&&Nat.beq (P.cellsOf T) t.size
   |_=>false)
  | .pair _ _=>false
  | .own _=>false
  | .bx _=>false
def PU (P:Program):Nat→Ty→Nat→List Field→Bool
 |0,_,_,_=>false
 |n+1,t,off,fs=>match fs with
  |[]=>false
  |[f]=>(D8 P n t f.type&&Nat.beq f.offset off)&&Nat.beq (P.cellsOf f.type) t.size
  |f::fs=>match t with
   | .pair a b=>((D8 P n a f.type&&Nat.beq f.offset off)&&Nat.beq (P.cellsOf f.type) a.size)&&PU P n b (off+a.size) fs
   |_=>false
end
section
variable {H:Type} {enc:TypeId×Value→H} {P:Program} {w:World} {base:Nat} {spare:Nat→Bool} {held:Bool}
def xN (w:World)(b:Nat):Prop:=b<w.heap.size
def WfD:(t:Ty)→t.D→Prop
 | .int k,n=>(Lit.int k n).wf=true
 | .aX k,b=> ∃b',bw k b'=b∧(Lit.float k b').wf=true
 | .bool,_=>True
 | .str,s=>List.length s≤maxLen
 | .pair a b,x=>WfD a x.1∧WfD b x.2
 | .st t,x=>WfD t x
 | .sl t,xs=>List.length xs≤maxLen∧ ∀i (h:i<List.length xs),WfD t xs[i]
 | .bx t,xs=>List.length xs≤maxLen∧ ∀i (h:i<List.length xs),WfD t xs[i]
 | .own t,xs=>List.length xs≤maxLen∧ ∀i (h:i<List.length xs),WfD t xs[i]
theorem BR {α:Type}{R:Nat→α→Prop}: ∀(n:Nat),(∀i,i<n→ ∃x,R i x)→ ∃l:List α,l.length=n∧ ∀i (h:i<l.length),R i l[i]
 |0,_=>⟨[],rfl,fun i h=>by simp at h⟩
 |n+1,h=>by
  obtain ⟨l,h1,h2⟩:=BR n fun i hi=>h i (by omega);obtain ⟨x,hx⟩:=h n (by omega);refine ⟨l++[x],by simp [h1],fun i hi=> ?_⟩;simp at hi;rcases Nat.lt_or_ge i n with cq|pv
  rw [List.getElem_append_left (by omega)];exact h2 i (by omega);have:i=n:=by omega
  subst this;rw [List.getElem_append_right (by omega)];simpa [h1] using hx
theorem N8 {k k':IntKind}(h:(k==k')=true):k=k':=by cases k<;>cases k'<;>first|rfl|cases h
theorem Lq {k k':FloatKind}(h:(k==k')=true):k=k':=by cases k<;>cases k'<;>first|rfl|cases h
theorem xO: ∀(n:Nat),
 (∀(t:Ty) (T:TypeId) (fuel:Nat) (cs:List Value) (y:DataW H×List MemPlace),D8 P n t T=true→DataW.trod enc P w base spare held fuel T cs=some y→ ∃x,bS (xN w) w t cs x∧WfD t x)∧
 (∀(t:Ty) (off:Nat) (fs:List Field) (fuel:Nat) (cs:List Value),PU P n t off fs=true→(∀f∈fs,∃y,DataW.trod enc P w base spare held fuel f.type ((cs.drop f.offset).take (P.cellsOf f.type))=some y)→cs.length=off+t.size→ ∃x,bS (xN w) w t (cs.drop off) x∧WfD t x)
 |0=>⟨fun _ _ _ _ _ h _=>by simp [D8] at h,fun _ _ _ _ _ h _ _=>by simp [PU] at h⟩
 |n+1=>by
  obtain ⟨Xv,ZR⟩:=xO n;refine ⟨fun t T fuel cs y h hy=> ?_,fun t off fs fuel cs h hf hl=> ?_⟩
  ·cases t with
   |int k=>
    simp only [D8] at h;split at h;rename_i k' e3;have hk:=N8 h;subst hk;obtain ⟨m,rfl,_,hwf⟩:=DataW.trod_int e3 hy;exact ⟨m,rfl,hwf⟩;cases h
   |aX k=>
    simp only [D8] at h;split at h
    ·rename_i k' e3;have hk:=Lq h;subst hk;cases fuel with
     |zero=>simp [DataW.trod] at hy
     |succ fuel=>
      unfold DataW.trod at hy;rw [e3] at hy;split at hy
      case h_3=>
       rename_i k1 k2 b1 h1;injection h1 with h1;injection h1 with h1;subst h1;split at hy;rename_i hk;obtain ⟨Gq,dU⟩:=hk;subst Gq;exact ⟨_,⟨b1,rfl,rfl⟩,b1,rfl,dU⟩;cases hy
      all_goals first|(rename_i h1;cases h1;done)|(rename_i h1 _;cases h1;done)|(rename_i h1 _ _;cases h1;done)|cases hy
    cases h
   |bool=>
    simp only [D8] at h;split at h;rename_i e3;obtain ⟨m,rfl,_⟩:=DataW.trod_bool e3 hy;exact ⟨m,rfl,trivial⟩;cases h
   |str=>
    simp only [D8] at h;split at h;rename_i e3;obtain ⟨m,rfl,_,hm⟩:=DataW.trod_string e3 hy;exact ⟨m.data.toList,by simp [bS],by simpa [WfD] using hm⟩;cases h
   |sl t=>
    simp only [D8] at h;split at h;rename_i e2 e3;simp only [Bool.and_eq_true] at h;obtain ⟨h1,h2⟩:=h;have h2:=bL h2;rcases Go.Deep.open_slice e3 hy with ⟨rfl,_⟩|⟨a,len,cap,m,f2,D,Pl,rfl,hb,hlc,hcm,hm,_,oZ⟩
    exact ⟨[],⟨none,0,rfl,Nat.le_refl _,fun i hi=>by simp at hi⟩,by simp [WfD]⟩;have TW:len≤m:=by rw [hm];split<;>omega
    obtain ⟨xs,Ug,PC⟩:=BR (R:=fun i (x:t.D)=>xN w a.block∧ ∃es,(∀j v,es[j]? =some v→w.cell? (a.add (i*t.size+j))=some v)∧bS (xN w) w t es x∧WfD t x) len fun i hi=>by
     obtain ⟨oy,k1,k2⟩:=oZ i (by omega);obtain ⟨x,k3,k4⟩:=Xv t _ _ _ _ h1 k2;obtain ⟨_,k5,k6⟩:=World.cells?_some k1;have Jw:0<P.cellsOf e2:=by rw [h2];exact t.size_pos
     refine ⟨x,World.cells?_block k1 Jw |> fun q=>by simpa [xN,gW] using q,oy,fun j v hv=> ?_,k3,k4⟩;have hj:j<P.cellsOf e2:=by rw [←k5];exact (List.getElem?_eq_some_iff.1 hv).1
     rw [←add_add,←h2,k6 j hj];exact hv
    refine ⟨xs,⟨some a,cap,by rw [Ug],by omega,fun i hi=> ?_⟩,by rw [Ug];omega,fun i hi=> ?_⟩;obtain ⟨q1,es,q2,q3,_⟩:=PC i hi;exact ⟨a,es,rfl,q1,q2,q3⟩;obtain ⟨_,_,_,_,q4⟩:=PC i hi;exact q4;cases h
   |pair a b=>simp [D8] at h
   |own t=>simp [D8] at h
   |bx t=>simp [D8] at h
   |st t=>
    simp only [D8] at h;split at h;rename_i e2 e3;simp only [Bool.and_eq_true] at h;obtain ⟨h1,h2⟩:=h;have h2:=bL h2;obtain ⟨xs,f2,_,_,hl,ve,oZ⟩:=DataW.trod_struct e3 hy;have:=ZR t 0 _ f2 cs h1 (fun f hf=>by
     obtain ⟨i,hi⟩:=List.getElem?_of_mem hf;have nr:e2[i]? =some f:=by rw [←Array.getElem?_toList];exact hi
     have cq:i<xs.length:=by rw [ve];exact (Array.getElem?_eq_some_iff.1 nr).1
     exact ⟨xs[i],by rw [oZ i f nr];exact List.getElem?_eq_getElem cq⟩) (by rw [hl,h2,Nat.zero_add])
    obtain ⟨x,k1,k2⟩:=this;rw [List.drop_zero] at k1;exact ⟨x,k1,k2⟩;cases h
  cases fs with
  |nil=>simp [PU] at h
  |cons f fs=>
   cases fs with
   |nil=>
    simp only [PU,Bool.and_eq_true] at h;obtain ⟨⟨h1,h2⟩,h3⟩:=h;have h2:=bL h2;have h3:=bL h3;obtain ⟨y,hy⟩:=hf f (by simp);obtain ⟨x,k1,k2⟩:=Xv t _ _ _ _ h1 hy;refine ⟨x,?_,k2⟩;rw [h2,h3,List.take_of_length_le (by rw [List.length_drop];omega)] at k1;exact k1
   |cons f2 fs=>
    cases t with
    |pair a b=>
     simp only [PU,Bool.and_eq_true] at h;obtain ⟨⟨⟨h1,h2⟩,h3⟩,h4⟩:=h;have h2:=bL h2;have h3:=bL h3;obtain ⟨y,hy⟩:=hf f (by simp);obtain ⟨x,k1,k2⟩:=Xv a _ _ _ _ h1 hy;obtain ⟨z,k3,k4⟩:=ZR b (off+a.size) _ fuel cs h4 (fun g hg=>hf g (by simp only [List.mem_cons] at hg⊢;exact .inr hg)) (by rw [hl];simp [Ty.size];omega);rw [h2,h3] at k1;refine ⟨(x,z),⟨_,_,?_,k1,k3⟩,k2,k4⟩;rw [←List.drop_drop];exact (List.take_append_drop _ _).symm
    |_=>simp [PU] at h
end
end Go.Ide
namespace Go.Ide
open Go.ChangeShapes Go.WideShapes Go.RowKit
section
variable {H:Type} {enc:TypeId×Value→H} {P:Program}
def Lr (P:Program)(ts:List TypeId):Bool:=ts.all fun t=>P.readableRec t&&Nat.blt t P.types.size
theorem uc (hl:laidOutB P=true){W W':World}(hb:Below W.heap.size W W'): ∀{ts:List TypeId} {vs:List Value} {ds:List (DataW H)} {p:List MemPlace},Lr P ts=true→DataW.TrodAll enc P W 0 (fun _=>true) true ts vs ds p→(∀x∈p,x.block<W.heap.size)→
 DataW.TrodAll enc P W' 0 (fun b=>decide (b<W.heap.size)) true ts vs ds p
 |[],[],[],p,_,h,_=>h
 |t::ts,v::vs,d::ds,p,hp,h,cq=>by
  obtain ⟨p1,p2,h1,h2,rfl⟩:=h;simp only [Lr,List.all_cons,Bool.and_eq_true] at hp;refine ⟨p1,p2,Below.trod hl hp.1.1 (Nat.lt_of_succ_le (by simpa [Nat.blt] using hp.1.2)) h1 hb (fun x hx=>cq x (by simp [hx])),uc hl hb (by simpa [Lr] using hp.2) h2 (fun x hx=>cq x (by simp [hx])),rfl⟩
theorem Ls {f:Func}{s:ChangeSpec}{T:TypeId}{W W':World}{args:Array Value}{ds gs:List (DataW H)}{before:List MemPlace}(hl:laidOutB P=true)(Q2:Lr P f.params.toList=true)(hv:s.vars=[])(hr:f.resultTypes= #[T])(hT:P.underlying T=some .bool)(VZ:s.fn H ds={results:=[.lit (.bool true)],args:=ds})(hW:DataW.Whole enc P f.params.toList s.vars false W args.toList ds gs before)(hb:Below W.heap.size W W'):s.post enc P f false true false false W args (.bool true) W':=by
 have V0:=hW;obtain ⟨p,q,hA,hV,rfl,WR,A6⟩:=hW;rw [hv] at hV;obtain ⟨rfl,rfl⟩:=trodVars_none hV;have Q3:s.fn H (ds++[])={results:=[.lit (.bool true)],args:=ds}:=by rw [List.append_nil];exact VZ
 refine ⟨ds,[],p++[],[],p,[],V0,?_,?_,?_,hb.frame _,fun h=>by cases h⟩;rw [Q3,hr];exact trodAll_mk1 ⟨1,by simp [DataW.trod,hT,Value.cells]⟩;rw [Q3];exact uc hl hb Q2 hA fun x hx=>V0.lt x (by simp [hx]);rw [hv,Q3];rfl
theorem Lt {n:Nat}{t:Ty}{T:TypeId}{W:World}{r:Reach}{base:Nat}{v:Value}(hc:D8 P n t T=true)(h:Value.okWide P W r base T v):dO t v.cells.toList v:=by
 cases n with
 |zero=>simp [D8] at hc
 |succ n=>
  cases t<;>simp only [D8] at hc
  case pair=>cases hc
  case own=>cases hc
  case bx=>cases hc
  case st t=>
   split at hc;rename_i fs e;unfold Value.okWide at h;rw [e] at h;obtain ⟨cs,rfl,_⟩:=h;simp [dO,Ty.yN,Value.cells];cases hc
  all_goals
   split at hc
   ·rename_i e;simp only [Value.okWide,e,Cell.okWide,Cell.ok] at h;cases v<;>first|(simp [dO,Ty.yN,Value.cells];done)|(simp at h;done)|exact h.elim
   cases hc
def immArgs (l:List TD):List Arg:=l.map fun d=> .au d.t d.x
def Bp (P:Program):List Ty→List TypeId→Bool
 |[],[]=>true
 |t::ts,T::Ts=>D8 P 40 t T&&Bp P ts Ts
 |_,_=>false
theorem vz {W:World}{base:Nat}{spare:Nat→Bool}{held:Bool}{r:Reach}{b0:Nat}: ∀{ts:List Ty} {Ts:List TypeId} {vs:List Value} {ds:List (DataW H)} {p:List MemPlace},Bp P ts Ts=true→DataW.TrodAll enc P W base spare held Ts vs ds p→
 (∀(j:Nat) t v,Ts[j]? =some t→vs[j]? =some v→Value.okWide P W r b0 t v)→ ∃l:List TD,l.map TD.t=ts∧(∀d∈l,WfD d.t d.x)∧rD (xN W) W (immArgs l) vs (l.map fun _=>[])
 |[],[],[],[],p,_,_,_=>⟨[],rfl,fun d hd=>by simp at hd,trivial⟩
 |t::ts,T::Ts,v::vs,d::ds,p,hc,h,ja=>by
  obtain ⟨p1,p2,⟨fuel,h1⟩,h2,rfl⟩:=h;simp only [Bp,Bool.and_eq_true] at hc;obtain ⟨x,k1,k2⟩:=(xO 40).1 t T fuel _ _ hc.1 h1;obtain ⟨l,k3,k4,k5⟩:=vz hc.2 h2 fun j t v hj hv=>ja (j+1) t v (by simpa using hj) (by simpa using hv);refine ⟨⟨t,x⟩::l,by simp [k3],fun d hd=> ?_,⟨rfl,_,Lt hc.1 (ja 0 T v rfl rfl),k1⟩,k5⟩;rcases List.mem_cons.1 hd with e|hd
  subst e;exact k2;exact k4 d hd
 |[],_::_,_,_,_,hc,_,_=>by simp [Bp] at hc
 |_::_,[],_,_,_,hc,_,_=>by simp [Bp] at hc
theorem Lu {α β:Type}: ∀(l:List α),(l.map fun _=>([]:List β)).flatten=[]
 |[]=>rfl
 |_::l=>by simp
theorem Lv {S:Nat→Prop}{w:World}{v:Value}{F:List (List Nat→Option Nat)}(h:KL S w [⟨false,.bool,true⟩] v F):v= .bool true:=by
 obtain ⟨vs,h1,h2⟩:=h;cases vs with
 |nil=>exact h1.elim
 |cons u vs=>
  obtain ⟨F1,F2,_,h3,h4⟩:=h1;cases vs with
  |cons=>exact h4.elim
  |nil=>
   have h2:v=u:=h2;subst h2;simp only [zg] at h3;obtain ⟨_,cs,h5,h6⟩:=h3;have h6:cs=[.bool true]:=h6;subst h6;have h5:[Value.bool true]=[v]:=h5;simpa using h5.symm
theorem law_run {f:FuncId}{fn:Func}{s:ChangeSpec}{T:TypeId}{ts:List Ty}{W:World}{base:Nat}{args:Array Value}{ds gs:List (DataW H)}{before:List MemPlace}(hl:laidOutB P=true)(Q2:Lr P fn.params.toList=true)(hv:s.vars=[])(hr:fn.resultTypes= #[T])(hT:P.underlying T=some .bool)(ZS:Bp P ts fn.params.toList=true)(VZ:ds.length=ts.length→s.fn H ds={results:=[.lit (.bool true)],args:=ds})(bN: ∀l:List TD,l.map TD.t=ts→(∀d∈l,WfD d.t d.x)→CallOK P f (immArgs l) [⟨false,.bool,true⟩] [])(hval: ∀(j:Nat) t v,fn.params[j]? =some t→args[j]? =some v→Value.okWide P W .any base t v)(WQ:Cp.ok W (xN W))(hW:DataW.Whole enc P fn.params.toList s.vars false W args.toList ds gs before):
 Calls P f args W fun e W'=> ∃v,e= .returned v∧s.post enc P fn false true false false W args v W':=by
 have V0:=hW;obtain ⟨p,q,hA,hV,rfl,WR,A6⟩:=hW;obtain ⟨l,k1,k2,k3⟩:=vz (r:= .any) (b0:=base) ZS hA fun j t v hj hv=>hval j t v (by simpa using hj) (by simpa using hv);have hds:ds.length=ts.length:=by
  have aux: ∀{Ts:List TypeId} {vs:List Value} {ds:List (DataW H)} {p:List MemPlace},DataW.TrodAll enc P W 0 (fun _=>true) true Ts vs ds p→ds.length=Ts.length:=by
   intro Ts;induction Ts with
   |nil=>intro vs ds p h;obtain ⟨_,rfl,_⟩:=trodAll_nil h;rfl
   |cons T Ts ih=>
    intro vs ds p h;obtain ⟨v,Tf,d,ds',p,q,rfl,rfl,rfl,_,h2⟩:=trodAll_cons h;simp [ih h2]
  have aux2: ∀{ts:List Ty} {Ts:List TypeId},Bp P ts Ts=true→ts.length=Ts.length:=by
   intro ts;induction ts with
   |nil=>intro Ts h;cases Ts with
    |nil=>rfl
    |cons=>simp [Bp] at h
   |cons t ts ih=>intro Ts h;cases Ts with
    |nil=>simp [Bp] at h
    |cons T Ts=>simp only [Bp,Bool.and_eq_true] at h;simp [ih h.2]
  rw [aux hA,aux2 ZS]
 obtain ⟨_,UI⟩:=bN l k1 k2;have Ia:=Lu (β:=List Nat→Option Nat) l;have:=UI W (xN W) args.toList (l.map fun _=>[]) [] (by rw [Ia];exact zf.nil) (by rw [Ia];exact qD.nil) (fun b hb=>⟨hb,by simp⟩) (fun b hb=>by simp at hb) k3 WQ;rw [show args.toList.toArray=args from by simp] at this;refine this.mono fun e W' ⟨v,A',F',e1,_,_,h1,_,h4,_⟩=> ?_;have hvt:=Lv h1;subst hvt;exact ⟨_,e1,Ls hl Q2 hv hr hT (VZ hds) V0 ⟨h4.os,h4.tape,h4.output,h4.size,fun k hk=>h4.block k hk (by simp)⟩⟩
end
end Go.Ide
namespace Go.Ide
section
variable {σ ρ:Type} {f g:σ→Option (σ⊕ρ)}
end
end Go.Ide
namespace Go.Ide
open Go.IntWalk
def zQ {σ ρ:Type}(g:Nat→σ→σ⊕ρ)(e:σ→ρ):Nat→Nat→σ→ρ
 |0,_,s=>e s
 |k+1,i,s=>match g i s with
  | .inl s'=>zQ g e k (i+1) s'
  | .inr r=>r
def pC {σ:Type}(g:Nat→σ→σ):Nat→Nat→σ→σ
 |0,_,s=>s
 |k+1,i,s=>pC g k (i+1) (g i s)
section
variable {σ τ ρ:Type}
theorem oJ {f:τ→Option (τ⊕ρ)}(mk:Nat→σ→τ)(g:Nat→σ→σ⊕ρ)(e:σ→ρ){n:Nat}(I:Nat→σ→Prop)(lP: ∀i s,i<n→I i s→f (mk i s)=some (match g i s with| .inl s'=> .inl (mk (i+1) s')| .inr r=> .inr r)∧(∀s',g i s= .inl s'→I (i+1) s'))(mG: ∀s,I n s→f (mk n s)=some (.inr (e s))): ∀(k i:Nat) (s:σ),i+k=n→I i s→rounds f (mk i s)=some (zQ g e k i s)
 |0,i,s,hi,h=>by
  have:i=n:=by omega
  subst this;rw [bA,mG s h];rfl
 |k+1,i,s,hi,h=>by
  obtain ⟨h1,h2⟩:=lP i s (by omega) h;rw [bA,h1];simp only [zQ];cases hg:g i s with
  |inl s'=>exact oJ mk g e I lP mG k (i+1) s' (by omega) (h2 s' hg)
  |inr r=>rfl
theorem bt {f:τ→Option (τ⊕ρ)}(mk:Nat→σ→τ)(g:Nat→σ→σ)(e:σ→ρ){n:Nat}(I:Nat→σ→Prop)(lP: ∀i s,i<n→I i s→f (mk i s)=some (.inl (mk (i+1) (g i s)))∧I (i+1) (g i s))(mG: ∀s,I n s→f (mk n s)=some (.inr (e s))): ∀(k i:Nat) (s:σ),i+k=n→I i s→rounds f (mk i s)=some (e (pC g k i s))∧I n (pC g k i s)
 |0,i,s,hi,h=>by
  have:i=n:=by omega
  subst this;rw [bA,mG s h];exact ⟨rfl,h⟩
 |k+1,i,s,hi,h=>by
  obtain ⟨h1,h2⟩:=lP i s (by omega) h;rw [bA,h1];exact bt mk g e I lP mG k (i+1) (g i s) (by omega) h2
def gY (p:Nat→Bool):Nat→Nat→Bool
 |0,_=>true
 |k+1,i=>p i&&gY p k (i+1)
theorem df {p:Nat→Bool}: ∀{k i:Nat},gY p k i=true↔ ∀j,i≤j→j<i+k→p j=true
 |0,i=>by simp only [gY,true_iff];intro j h1 h2;omega
 |k+1,i=>by
  simp only [gY,Bool.and_eq_true,df (k:=k)];constructor;rintro ⟨h1,h2⟩ j hj Gn;by_cases e:j=i;rw [e];exact h1;exact h2 j (by omega) (by omega);intro h;exact ⟨h i (Nat.le_refl _) (by omega),fun j hj Gn=>h j (by omega) (by omega)⟩
theorem iA {f:τ→Option (τ⊕ρ)}(mk:Nat→τ)(p:Nat→Bool)(a b:ρ){n:Nat}(lP: ∀i,i<n→f (mk i)=some (bif p i then .inl (mk (i+1)) else .inr b))(mG:f (mk n)=some (.inr a)): ∀(k i:Nat),i+k=n→rounds f (mk i)=some (bif gY p k i then a else b)
 |0,i,hi=>by
  have:i=n:=by omega
  subst this;rw [bA,mG];rfl
 |k+1,i,hi=>by
  rw [bA,lP i (by omega)];simp only [gY];cases p i with
  |true=>simp only [cond_true,Bool.true_and];exact iA mk p a b lP mG k (i+1) (by omega)
  |false=>rfl
theorem fM {f:σ→Option (σ⊕ρ)}(R:Nat→σ→Prop)(Q:ρ→Prop)(step: ∀n s,R n s→(∃n' s',n'<n∧f s=some (.inl s')∧R n' s')∨(∃r,f s=some (.inr r)∧Q r)):
 ∀(n:Nat) (s:σ),R n s→ ∃r,rounds f s=some r∧Q r:=by
 intro n;induction n using Nat.strongRecOn with
 |_ n ih=>
  intro s h;rw [bA f s];rcases step n s h with ⟨n',s',hn,h1,h3⟩|⟨r,h1,h3⟩
  rw [h1];exact ih n' hn s' h3;rw [h1];exact ⟨r,rfl,h3⟩
end
theorem ju {a b:Int}(h: -9223372036854775808≤a+b∧a+b≤9223372036854775807):al .i64 a b=a+b:=i64_in _ h
theorem xP {a b:Int}(h: -9223372036854775808≤a - b∧a - b≤9223372036854775807):lO .i64 a b=a - b:=i64_in _ h
theorem mo {a b:Int}(h: -9223372036854775808≤a*b∧a*b≤9223372036854775807):aU .i64 a b=a*b:=i64_in _ h
theorem cQ {i n:Nat}(h:i<n)(hn:n≤4294967296):al .i64 (i:Int) 1=((i+1:Nat):Int):=by
 rw [show ((i+1:Nat):Int)=(i:Int)+1 from by omega];exact i64_in _ (by omega)
theorem nW {i n:Nat}(h:i<n):decide ((i:Int)<(n:Int))=true:=by simp;omega
theorem nX {i n:Nat}(h:n≤i):decide ((i:Int)<(n:Int))=false:=by simp;omega
theorem cZ {i n:Nat}(h:i<n):(0:Int)≤(i:Int)∧(i:Int)<(n:Int):=⟨by omega,by omega⟩
theorem UJ {c i k:Nat}(hc:c≤1000)(hi:i<1000)(hk:k<1000):al .i64 (aU .i64 (i:Int) (c:Int)) (k:Int)=((i*c+k:Nat):Int):=by
 have h:i*c≤1000*1000:=Nat.mul_le_mul (by omega) hc;rw [mo (by rw [←Int.natCast_mul];omega),←Int.natCast_mul,ju (by omega)];omega
theorem jg {c i k:Nat}(hi:i<c)(hk:k<c):i*c+k<c*c:=by
 have:i*c+c≤c*c:=by
  rw [←Nat.succ_mul];exact Nat.mul_le_mul_right c hi
 omega
end Go.Ide
namespace Go.Ide
open Go.IntWalk
section
variable {α:Type}
theorem drop_cons {xs:List α}{i:Nat}(h:i<xs.length)(d:α):xs.drop i=xs.getD i d::xs.drop (i+1):=by
 rw [List.drop_eq_getElem_cons h,List.getD_eq_getElem?_getD,List.getElem?_eq_getElem h];rfl
theorem wM {l r:List α}{a b:α}{i:Nat}(h:l.length=i):(l++a::r).set i b=l++b::r:=by
 subst h;induction l with
 |nil=>rfl
 |cons x l ih=>simp [ih]
theorem wO {xs:List α}{i:Nat}(h:i<xs.length)(d:α):xs.take (i+1)=xs.take i++[xs.getD i d]:=by
 rw [List.take_add_one,List.getD_eq_getElem?_getD,List.getElem?_eq_getElem h];rfl
end
end Go.Ide
namespace Go.Ide
open Go.IntWalk
section
variable {α:Type}
theorem zR {f:Int×List α→Option ((Int×List α)⊕List α)}(h:Nat→α)(n:Nat)(base:List α)(lP: ∀(i:Nat) (out:List α),i<n→out.length=base.length+i→f ((i:Int),out)=some (.inl (((i+1:Nat):Int),out++[h i])))(mG: ∀out:List α,f ((n:Int),out)=some (.inr out)):rounds f ((0:Int),base)=some (base++(List.range n).map h):=by
 have:=bt (f:=f) (fun i out=>(((i:Nat):Int),out)) (fun i out=>out++[h i]) id (n:=n) (fun i out=>out=base++(List.range i).map h)
  (fun i out hi ho=>⟨lP i out hi (by rw [ho];simp),by rw [ho];simp [List.range_succ]⟩)
  (fun out _=>mG out) n 0 base (by omega) (by simp)
 simp only [Int.natCast_zero] at this;rw [this.1,show id (pC _ n 0 base)=pC _ n 0 base from rfl,this.2]
end
end Go.Ide
namespace Go.Ide
theorem uE {f:Ieee.Format}{x:Nat}(h: ∀s t,f.read x≠ .nan s t):f.order x x=some .eq:=by
 unfold Ieee.Format.order;cases hr:f.read x with
 |nan s t=>exact absurd hr (h s t)
 |infinity s=>simp [Ieee.Datum.order,compare,compareOfLessAndEq]
 |number s m e=>simp [Ieee.Datum.order,compare,compareOfLessAndEq]
theorem oK (neg:Bool)(m:Nat)(p:Int): ∃r,r≤2139095040∧Ieee.single.nearest neg m p=Ieee.single.word neg r:=by
 have e3:Ieee.single.infRung=2139095040:=by decide
 unfold Ieee.Format.nearest;split;exact ⟨0,by omega,rfl⟩;exact ⟨_,by rw [e3];exact Nat.min_le_right _ _,rfl⟩
end Go.Ide
namespace Go.Ide
def bd (x K:Nat):Prop:=x%2147483648≤K*8388608
theorem bd.mono {x K L:Nat}(h:bd x K)(hl:K≤L):bd x L:=Nat.le_trans h (Nat.mul_le_mul_right _ hl)
theorem vA:Ieee.single.signWeight=2147483648:=by decide
theorem rR:Ieee.single.binade=8388608:=by decide
theorem qR:Ieee.single.infRung=2139095040:=by decide
theorem wP:Ieee.single.leastPlace= -149:=by decide
theorem vB {x:Nat}(h:x%2147483648<8388608):Ieee.single.read x= .number (x/2147483648%2==1) (x%2147483648) (-149+((0:Nat):Int)):=by
 unfold Ieee.Format.read;simp only [vA,rR,qR,wP];rw [if_pos h];rfl
theorem yA {x:Nat}(h:8388608≤x%2147483648)(h2:x%2147483648<2139095040):Ieee.single.read x= .number (x/2147483648%2==1) (8388608+x%2147483648%8388608) (-149+((x%2147483648/8388608 - 1:Nat):Int)):=by
 unfold Ieee.Format.read;simp only [vA,rR,qR,wP];rw [if_neg (by omega),if_pos h2]
theorem nY {x K:Nat}(h:bd x K)(h2:2≤K)(h3:K≤254): ∃s m j,Ieee.single.read x= .number s m (-149+((j:Nat):Int))∧m*2^j≤2^(K+22):=by
 unfold bd at h;by_cases mi:x%2147483648<8388608;refine ⟨_,_,_,vB mi,?_⟩;have:2^24≤2^(K+22):=Nat.pow_le_pow_right (by omega) (by omega);omega;refine ⟨_,_,_,yA (by omega) (by omega),?_⟩;generalize x%2147483648=r at*;have hq:r/8388608≤K:=by omega
 by_cases he:r/8388608=K;have h0:r%8388608=0:=by omega
 rw [h0,he,show K+22=23+(K - 1) by omega,Nat.pow_add 2 23 (K - 1)];exact Nat.le_refl _;have e:K+22=24+(K - 2):=by omega
 have h1:2^(r/8388608 - 1)≤2^(K - 2):=Nat.pow_le_pow_right (by omega) (by omega);rw [e,Nat.pow_add 2 24 (K - 2)];refine Nat.mul_le_mul ?_ h1;omega
theorem uF {neg:Bool}{n drop B:Nat}(h:n≤B*2^drop):Ieee.Toward.cut .even neg n drop≤B:=by
 unfold Ieee.Toward.cut;simp only [Nat.one_shiftLeft];by_cases hd:drop≤n.log2+2;rw [Nat.min_eq_left hd];have hp:0<2^drop:=Nat.pos_of_ne_zero (by simp);generalize 2^drop=g at*;have Xw:=Nat.div_add_mod n g;have Xx:=Nat.mod_lt n hp;have hB:n/g≤B:=by
  rw [Nat.div_le_iff_le_mul_add_pred hp];have:B*g=g*B:=Nat.mul_comm _ _;omega
 by_cases he:n/g=B;have:n%g=0:=by
  rw [he] at Xw;have:B*g=g*B:=Nat.mul_comm _ _;omega
 rw [this,he];have hg:(g==0)=false:=beq_eq_false_iff_ne.2 (by omega);simp [hg];have: ∀b:Bool,b.toNat≤1:=by decide
 have:=this (decide (g<2*(n%g))||g==2*(n%g)&&n/g%2==1);omega;rw [Nat.min_eq_right (by omega)];have cq:n<2^(n.log2+1):=Nat.lt_log2_self;have hg:2^(n.log2+2)=2*2^(n.log2+1):=by rw [Nat.pow_succ];omega
 rw [Nat.div_eq_of_lt (by omega),Nat.mod_eq_of_lt (by omega)];simp [show¬(2^(n.log2+2)<2*n) by omega,show¬(2^(n.log2+2)=2*n) by omega]
theorem jv {s:Bool}{r:Nat}(h:r≤2139095040):Ieee.single.word s r%2147483648=r:=by
 unfold Ieee.Format.word;cases s with
 |true=>simp only [if_true,vA];omega
 |false=>simp only [Bool.false_eq_true,if_false];omega
theorem zS {neg:Bool}{mag j K:Nat}(h:mag*2^j≤2^(K+171))(hK:2≤K):bd (Ieee.single.nearest neg mag (-298+(j:Int))) K:=by
 unfold bd Ieee.Format.nearest;by_cases h0:mag=0;rw [if_pos h0,jv (by omega)];omega;rw [if_neg h0];simp only [wP,rR,qR];have hf:Ieee.single.fractionBits=23:=rfl;simp only [hf];have mi:2^mag.log2≤mag:=Nat.log2_self_le h0;have pr:mag<2^(mag.log2+1):=Nat.lt_log2_self;generalize mag.log2=L at*;have hLj:L+j≤K+171:=by
  have:2^(L+j)≤2^(K+171):=by
   rw [Nat.pow_add];exact Nat.le_trans (Nat.mul_le_mul_right _ mi) h
  exact (Nat.pow_le_pow_iff_right (by omega)).1 this
 rw [jv (Nat.min_le_right _ _)];refine Nat.le_trans (Nat.min_le_left _ _) ?_;by_cases hA:j+L≤172;have el:max (-298+(j:Int)+L - ((23:Nat):Int)) (-149)= -149:=by omega
 rw [el];have e1:((-149:Int) - -149).toNat=0:=rfl;have e2:(-298+(j:Int) - -149).toNat=j - 149:=by omega
 have e3:((-149:Int) - (-298+(j:Int))).toNat=149 - j:=by omega
 rw [e1,e2,e3];have hc:Ieee.Toward.cut .even neg (mag<<<(j - 149)) (149 - j)≤16777216:=by
  apply uF;rw [Nat.shiftLeft_eq];have:mag≤2^(173 - j):=by
   refine Nat.le_trans (Nat.le_of_lt pr) (Nat.pow_le_pow_right (by omega) (by omega))
  by_cases hj:j≤149;rw [show j - 149=0 by omega];have e:16777216*2^(149 - j)=2^(173 - j):=by
   rw [show 173 - j=24+(149 - j) by omega,Nat.pow_add 2 24]
  rw [e];simpa using this;rw [show 149 - j=0 by omega];have e:mag*2^(j - 149)≤2^(173 - j)*2^(j - 149):=Nat.mul_le_mul_right _ this;rw [←Nat.pow_add,show 173 - j+(j - 149)=24 by omega] at e;simpa using e
 refine Nat.le_trans (Nat.add_le_add_left hc _) ?_;rw [Nat.zero_mul,Nat.zero_add];exact Nat.mul_le_mul_right 8388608 hK;have el:max (-298+(j:Int)+L - ((23:Nat):Int)) (-149)=((j+L:Nat):Int) - 321:=by omega
 rw [el];have e1:(((j+L:Nat):Int) - 321 - -149).toNat=j+L - 172:=by omega
 have e2:(-298+(j:Int) - (((j+L:Nat):Int) - 321)).toNat=23 - L:=by omega
 have e3:(((j+L:Nat):Int) - 321 - (-298+(j:Int))).toNat=L - 23:=by omega
 rw [e1,e2,e3];by_cases hB:j+L≤K+170;have hc:Ieee.Toward.cut .even neg (mag<<<(23 - L)) (L - 23)≤16777216:=by
  apply uF;rw [Nat.shiftLeft_eq];by_cases hj:L≤23;rw [show L - 23=0 by omega];have e:mag*2^(23 - L)≤2^(L+1)*2^(23 - L):=Nat.mul_le_mul_right _ (Nat.le_of_lt pr);rw [←Nat.pow_add,show L+1+(23 - L)=24 by omega] at e;simpa using e;rw [show 23 - L=0 by omega];have e:16777216*2^(L - 23)=2^(L+1):=by
   rw [show L+1=24+(L - 23) by omega,Nat.pow_add 2 24]
  rw [e];simpa using Nat.le_of_lt pr
 omega;have hm:mag≤2^L:=by
  have e:2^(K+171)=2^L*2^j:=by rw [←Nat.pow_add,show L+j=K+171 by omega]
  rw [e] at h;exact Nat.le_of_mul_le_mul_right h (Nat.pos_of_ne_zero (by simp))
 have hc:Ieee.Toward.cut .even neg (mag<<<(23 - L)) (L - 23)≤8388608:=by
  apply uF;rw [Nat.shiftLeft_eq];by_cases hj:L≤23;rw [show L - 23=0 by omega];have e:mag*2^(23 - L)≤2^L*2^(23 - L):=Nat.mul_le_mul_right _ hm;rw [←Nat.pow_add,show L+(23 - L)=23 by omega] at e;simpa using e;rw [show 23 - L=0 by omega];have e:8388608*2^(L - 23)=2^L:=by
   conv=>rhs;rw [show L=23+(L - 23) by omega,Nat.pow_add 2 23]
  rw [e];simpa using hm
 omega
theorem qd {x K:Nat}(h:bd x K)(hK:K≤255):bw .f32 x=x:=by
 unfold bd at h;rw [CL,if_neg (by omega)]
theorem ki (neg:Bool)(mag:Nat)(p:Int):bd (Ieee.single.nearest neg mag p) 255:=by
 obtain ⟨r,hr,e⟩:=oK neg mag p;unfold bd;rw [e,jv hr];omega
theorem GQ {x y a b K:Nat}(hx:bd x a)(hy:bd y b)(ha:2≤a)(uY:a≤254)(hb:2≤b)(o6:b≤254)(hK:2≤K)(h:a+b≤K+127):bd (av .mul .f32 x y) K:=by
 obtain ⟨s,m,i,e1,h1⟩:=nY hx ha uY;obtain ⟨t,n,j,e2,h2⟩:=nY hy hb o6;have e:av .mul .f32 x y=bw .f32 (Ieee.single.nearest (s^^t) (m*n) (-298+((i+j:Nat):Int))):=by
  have:floatBits .mul .f32 x y=some (Ieee.single.nearest (s^^t) (m*n) (-298+((i+j:Nat):Int))):=by
   show Ieee.single.mul x y=_;unfold Ieee.Format.mul;rw [e1,e2];show some (Ieee.single.nearest (s^^t) (m*n) (-149+(i:Int)+(-149+(j:Int))))=_
   congr 2
   omega
  unfold av;rw [this]
 rw [e,qd (ki _ _ _) (Nat.le_refl _)];refine zS ?_ hK;have:m*n*2^(i+j)=(m*2^i)*(n*2^j):=by rw [Nat.pow_add];ac_rfl
 rw [this];refine Nat.le_trans (Nat.mul_le_mul h1 h2) ?_;rw [←Nat.pow_add];exact Nat.pow_le_pow_right (by omega) (by omega)
theorem qT (s:Bool)(m u:Nat):(Ieee.signed s m u).natAbs=m*2^u:=by
 unfold Ieee.signed;rw [Nat.shiftLeft_eq];cases s<;>simp [Int.natAbs_mul,Int.natAbs_pow]
theorem Q4 {s t:Bool}{m n i j K:Nat}(h1:m*2^i≤2^(K+22))(h2:n*2^j≤2^(K+22)):
 ∃g mag p,Ieee.Datum.sum (.number s m (-149+(i:Int))) (.number t n (-149+(j:Int)))=some (.number g mag (-298+((p:Nat):Int)))∧mag*2^p≤2^(K+1+171):=by
 have hb:(min (-149+(i:Int)) (-149+(j:Int)))= -298+((149+min i j:Nat):Int):=by omega
 refine ⟨if Ieee.signed s m (-149+(i:Int) - (-298+((149+min i j:Nat):Int))).toNat+Ieee.signed t n (-149+(j:Int) - (-298+((149+min i j:Nat):Int))).toNat=0 then s&&t else Ieee.signed s m (-149+(i:Int) - (-298+((149+min i j:Nat):Int))).toNat+Ieee.signed t n (-149+(j:Int) - (-298+((149+min i j:Nat):Int))).toNat<0,(Ieee.signed s m (-149+(i:Int) - (-298+((149+min i j:Nat):Int))).toNat+Ieee.signed t n (-149+(j:Int) - (-298+((149+min i j:Nat):Int))).toNat).natAbs,149+min i j,?_,?_⟩;unfold Ieee.Datum.sum;simp only [hb];have e1:(-149+(i:Int) - (-298+((149+min i j:Nat):Int))).toNat=i - min i j:=by omega
 have e2:(-149+(j:Int) - (-298+((149+min i j:Nat):Int))).toNat=j - min i j:=by omega
 rw [e1,e2];refine Nat.le_trans (Nat.mul_le_mul_right _ (Int.natAbs_add_le _ _)) ?_;rw [qT,qT,Nat.add_mul];have e3:m*2^(i - min i j)*2^(149+min i j)=2^149*(m*2^i):=by
  rw [Nat.mul_assoc,←Nat.pow_add,show i - min i j+(149+min i j)=149+i by omega,Nat.pow_add];ac_rfl
 have e4:n*2^(j - min i j)*2^(149+min i j)=2^149*(n*2^j):=by
  rw [Nat.mul_assoc,←Nat.pow_add,show j - min i j+(149+min i j)=149+j by omega,Nat.pow_add];ac_rfl
 rw [e3,e4,←Nat.mul_add,show K+1+171=149+(K+22+1) by omega,Nat.pow_add 2 149,Nat.pow_succ];exact Nat.mul_le_mul_left _ (by omega)
theorem Lw {x y a:Nat}(hx:bd x a)(hy:bd y a)(ha:2≤a)(uY:a≤254):bd (av .add .f32 x y) (a+1):=by
 obtain ⟨s,m,i,e1,h1⟩:=nY hx ha uY;obtain ⟨t,n,j,e2,h2⟩:=nY hy ha uY;obtain ⟨g,mag,p,e3,h3⟩:=Q4 (s:=s) (t:=t) h1 h2;have e:av .add .f32 x y=bw .f32 (Ieee.single.nearest g mag (-298+((p:Nat):Int))):=by
  have:floatBits .add .f32 x y=some (Ieee.single.nearest g mag (-298+((p:Nat):Int))):=by
   show Ieee.single.add x y=_;unfold Ieee.Format.add;rw [e1,e2,e3];rfl
  unfold av;rw [this]
 rw [e,qd (ki _ _ _) (Nat.le_refl _)];exact zS h3 (by omega)
theorem zT {x K:Nat}(h:bd x K)(h2:2≤K)(h3:K≤254):av .sub .f32 x x=0:=by
 obtain ⟨s,m,i,e1,h1⟩:=nY h h2 h3;have:floatBits .sub .f32 x x=some 0:=by
  show Ieee.single.sub x x=_;unfold Ieee.Format.sub;rw [e1];show Option.map _ (some (Ieee.Datum.number _ _ _))=_;have e0:Ieee.signed s m ((-149+(i:Int)) - min (-149+(i:Int)) (-149+(i:Int))).toNat+Ieee.signed (!s) m ((-149+(i:Int)) - min (-149+(i:Int)) (-149+(i:Int))).toNat=0:=by
   unfold Ieee.signed;cases s<;>simp<;>omega
  rw [e0];simp only [Option.map];cases s<;>rfl
 unfold av;rw [this];rfl
end Go.Ide
namespace Go.Ide
theorem wQ (a b:Int):(some (compare a b)==some Ordering.lt||some (compare a b)==some Ordering.eq)=decide (a≤b):=by
 simp only [compare,compareOfLessAndEq];by_cases h:a<b;rw [if_pos h];simp;omega;rw [if_neg h];by_cases h2:a=b;rw [if_pos h2];simp [h2];rw [if_neg h2];simp;omega
theorem C7 (a b:Int):(some (compare a b)==some Ordering.gt||some (compare a b)==some Ordering.eq)=decide (b≤a):=by
 simp only [compare,compareOfLessAndEq];by_cases h:a<b;rw [if_pos h];simp;omega;rw [if_neg h];by_cases h2:a=b;rw [if_pos h2];simp [h2];rw [if_neg h2];simp;omega
theorem GR (a b:Int):(some (compare a b)==some Ordering.lt)=decide (a<b):=by
 simp only [compare,compareOfLessAndEq];by_cases h:a<b;rw [if_pos h];simp [h];rw [if_neg h];by_cases h2:a=b;rw [if_pos h2];simp [h2];rw [if_neg h2];simp;omega
theorem C8 {x y m n:Nat}{s t:Bool}{p q:Int}(hx:Ieee.single.read x= .number s m p)(hy:Ieee.single.read y= .number t n q):
 vm .f32 x y=decide (Ieee.signed s m (p - min p q).toNat≤Ieee.signed t n (q - min p q).toNat):=by
 unfold vm;have:FloatKind.f32.format.order x y=some (compare (Ieee.signed s m (p - min p q).toNat) (Ieee.signed t n (q - min p q).toNat)):=by
  show Ieee.Datum.order (Ieee.single.read x) (Ieee.single.read y)=_;rw [hx,hy];rfl
 rw [this];exact wQ _ _
theorem yB {x y m n:Nat}{s t:Bool}{p q:Int}(hx:Ieee.single.read x= .number s m p)(hy:Ieee.single.read y= .number t n q):
 rT .f32 x y=decide (Ieee.signed t n (q - min p q).toNat≤Ieee.signed s m (p - min p q).toNat):=by
 unfold rT;have:FloatKind.f32.format.order x y=some (compare (Ieee.signed s m (p - min p q).toNat) (Ieee.signed t n (q - min p q).toNat)):=by
  show Ieee.Datum.order (Ieee.single.read x) (Ieee.single.read y)=_;rw [hx,hy];rfl
 rw [this];exact C7 _ _
theorem Im {x y m n:Nat}{s t:Bool}{p q:Int}(hx:Ieee.single.read x= .number s m p)(hy:Ieee.single.read y= .number t n q):
 aX .f32 x y=decide (Ieee.signed s m (p - min p q).toNat<Ieee.signed t n (q - min p q).toNat):=by
 unfold aX;have:FloatKind.f32.format.order x y=some (compare (Ieee.signed s m (p - min p q).toNat) (Ieee.signed t n (q - min p q).toNat)):=by
  show Ieee.Datum.order (Ieee.single.read x) (Ieee.single.read y)=_;rw [hx,hy];rfl
 rw [this];exact GR _ _
theorem ln:Ieee.single.read 0= .number false 0 (-149):=by decide
theorem E1:Ieee.single.read 1065353216= .number false 8388608 (-149+((126:Nat):Int)):=by decide
theorem bn (m u:Nat):Ieee.signed false m u=((m*2^u:Nat):Int):=by
 unfold Ieee.signed;rw [Nat.shiftLeft_eq];rfl
theorem dR (m u:Nat):Ieee.signed true m u= -((m*2^u:Nat):Int):=by
 unfold Ieee.signed;rw [Nat.shiftLeft_eq];rfl
theorem Lx {x:Nat}(h0:rT .f32 x 0=true)(h1:vm .f32 x 1065353216=true):bd x 127:=by
 unfold bd;by_cases mi:x%2147483648<8388608;omega;by_cases pr:x%2147483648<2139095040;have hr:=yA (by omega) pr;by_cases hb:x%2147483648≤127*8388608;exact hb;exfalso;rw [yB hr ln] at h0;rw [C8 hr E1] at h1;generalize x%2147483648=r at*;have hm:min (-149+((r/8388608 - 1:Nat):Int)) (-149+((126:Nat):Int))= -149+((126:Nat):Int):=by omega
 rw [hm] at h1;have e1:(-149+((r/8388608 - 1:Nat):Int) - (-149+((126:Nat):Int))).toNat=r/8388608 - 127:=by omega
 have e2:(-149+((126:Nat):Int) - (-149+((126:Nat):Int))).toNat=0:=by omega
 rw [e1,e2,bn] at h1;have hp: ∀u:Nat,1≤2^u:=fun u=>Nat.pos_of_ne_zero (by simp);cases hs:(x/2147483648%2==1) with
 |false=>
  rw [hs,bn] at h1;have h1:=of_decide_eq_true h1;have h1:(8388608+r%8388608)*2^(r/8388608 - 127)≤8388608*2^0:=Int.ofNat_le.1 h1;by_cases hq:r/8388608=127;rw [hq] at h1;omega;have:2^(r/8388608 - 127)=2*2^(r/8388608 - 128):=by
   rw [show r/8388608 - 127=(r/8388608 - 128)+1 by omega,Nat.pow_succ];omega
  rw [this] at h1;have h2:(8388608+r%8388608)*(2*1)≤(8388608+r%8388608)*(2*2^(r/8388608 - 128)):=Nat.mul_le_mul_left _ (Nat.mul_le_mul_left _ (hp _));omega
 |true=>
  rw [hs,dR,bn] at h0;have h0:=of_decide_eq_true h0;have:1≤(8388608+r%8388608)*2^((-149+((r/8388608 - 1:Nat):Int) - min (-149+((r/8388608 - 1:Nat):Int)) (-149))).toNat:=Nat.mul_pos (by omega) (hp _);omega
 exfalso;by_cases hi:x%2147483648=2139095040;have hr:Ieee.single.read x= .infinity (x/2147483648%2==1):=by
  unfold Ieee.Format.read;simp only [vA,rR,qR];rw [if_neg mi,if_neg pr,if_pos hi]
 have o0:FloatKind.f32.format.order x 0=some (if (x/2147483648%2==1) then .lt else .gt):=by
  show Ieee.Datum.order (Ieee.single.read x) (Ieee.single.read 0)=_;rw [hr,ln];rfl
 have o1:FloatKind.f32.format.order x 1065353216=some (if (x/2147483648%2==1) then .lt else .gt):=by
  show Ieee.Datum.order (Ieee.single.read x) (Ieee.single.read 1065353216)=_;rw [hr,E1];rfl
 unfold rT at h0;unfold vm at h1;rw [o0] at h0;rw [o1] at h1;revert h0 h1;cases (x/2147483648%2==1)<;>decide;have hr:Ieee.single.read x= .nan (x/2147483648%2==1) (x%2147483648 - 2139095040):=by
  unfold Ieee.Format.read;simp only [vA,rR,qR];rw [if_neg mi,if_neg pr,if_neg hi]
 have o0:FloatKind.f32.format.order x 0=none:=by
  show Ieee.Datum.order (Ieee.single.read x) (Ieee.single.read 0)=_;rw [hr];rfl
 unfold rT at h0;rw [o0] at h0;exact absurd h0 (by decide)
theorem Ly (x:Nat):Ieee.single.read (Op.negFloat .f32 x)=(Ieee.single.read x).opposite:=by
 have e:Op.negFloat .f32 x=x^^^2^31:=rfl;have h1:(x^^^2^31)%2147483648=x%2147483648:=by
  show (x^^^2^31)%2^31=x%2^31;rw [Nat.xor_mod_two_pow,Nat.mod_self,Nat.xor_zero]
 have h2:(x^^^2^31)/2147483648%2=(x/2147483648%2)^^^1:=by
  show (x^^^2^31)/2^31%2^1=(x/2^31%2^1)^^^1;rw [Nat.xor_div_two_pow,Nat.xor_mod_two_pow]
 have h3:((x^^^2^31)/2147483648%2==1)= !(x/2147483648%2==1):=by
  rw [h2];rcases (show x/2147483648%2=0∨x/2147483648%2=1 by omega) with h|h<;>rw [h]<;>rfl
 rw [e];unfold Ieee.Format.read;simp only [vA,rR,qR,h1,h3];split;rfl;split;rfl;split;rfl;rfl
theorem C9 (x y:Nat):Ieee.single.order (bw .f32 x) y=Ieee.single.order x y:=by
 rw [CL];split;rename_i h;unfold Ieee.Format.order;have hr:Ieee.single.read x= .nan (x/2147483648%2==1) (x%2147483648 - 2139095040):=by
  unfold Ieee.Format.read;simp only [vA,rR,qR];rw [if_neg (by omega),if_neg (by omega),if_neg (by omega)]
 have F9: ∃s f,Ieee.single.read 2143289344= .nan s f:=⟨false,4194304,by decide⟩;obtain ⟨s,f,h2⟩:=F9;rw [hr,h2];rfl;rfl
theorem Lz {d c nc mc:Nat}{pc:Int}(hc:Ieee.single.read c= .number false mc pc)(hn:Ieee.single.read nc= .number true mc pc):
 (vm .f32 d c&&rT .f32 d nc)=(bif aX .f32 d 0 then vm .f32 (A7 .f32 d) c else vm .f32 d c):=by
 have E2:vm .f32 (A7 .f32 d) c=(Ieee.Datum.order (Ieee.single.read d).opposite (Ieee.single.read c)==some .lt||Ieee.Datum.order (Ieee.single.read d).opposite (Ieee.single.read c)==some .eq):=by
  unfold vm A7;show (Ieee.single.order _ _==_||Ieee.single.order _ _==_)=_;rw [C9];unfold Ieee.Format.order;rw [Ly]
 cases hr:Ieee.single.read d with
 |nan s f=>
  have: ∀y,FloatKind.f32.format.order d y=none:=fun y=>by
   show Ieee.Datum.order (Ieee.single.read d) _=_;rw [hr];rfl
  unfold vm rT aX;rw [this,this,this];rfl
 |infinity s=>
  rw [E2,hr,hc];unfold vm rT aX;show ((Ieee.Datum.order (Ieee.single.read d) (Ieee.single.read c)==_||Ieee.Datum.order (Ieee.single.read d) (Ieee.single.read c)==_)&&(Ieee.Datum.order (Ieee.single.read d) (Ieee.single.read nc)==_||Ieee.Datum.order (Ieee.single.read d) (Ieee.single.read nc)==_))=bif Ieee.Datum.order (Ieee.single.read d) (Ieee.single.read 0)==_ then _ else (Ieee.Datum.order (Ieee.single.read d) (Ieee.single.read c)==_||Ieee.Datum.order (Ieee.single.read d) (Ieee.single.read c)==_);rw [hr,hc,hn,ln];cases s<;>rfl
 |number s m p=>
  rw [E2,hr,hc,C8 hr hc,yB hr hn,Im hr ln];show _=bif _ then (some (compare (Ieee.signed (!s) m _) (Ieee.signed false mc _))==_||some (compare (Ieee.signed (!s) m _) (Ieee.signed false mc _))==_) else _;rw [wQ];generalize (p - min p pc).toNat=u;generalize (pc - min p pc).toNat=v;generalize (p - min p (-149)).toNat=u';generalize (-149 - min p (-149)).toNat=v';cases s with
  |false=>
   simp only [bn,dR,Bool.not_false];have h0: ¬(((m*2^u':Nat):Int)<((0*2^v':Nat):Int)):=by omega
   rw [decide_eq_false h0,cond_false];have h1: -((mc*2^v:Nat):Int)≤((m*2^u:Nat):Int):=by omega
   rw [decide_eq_true h1,Bool.and_true]
  |true=>
   simp only [bn,dR,Bool.not_true];have h1: -((m*2^u:Nat):Int)≤((mc*2^v:Nat):Int):=by omega
   rw [decide_eq_true h1,Bool.true_and];by_cases hm:m=0;subst hm;simp only [Nat.zero_mul];cases hv:(mc*2^v) with
   |zero=>rfl
   |succ n=>simp;omega
   have:0<m*2^u':=Nat.mul_pos (by omega) (Nat.pos_of_ne_zero (by simp));rw [decide_eq_true (show -((m*2^u':Nat):Int)<((0*2^v':Nat):Int) by omega),cond_true]
   congr 1
   apply propext;constructor<;>intro h<;>omega
end Go.Ide
namespace Go.Ide
theorem bg (u:Nat):0<2^u:=Nat.pos_of_ne_zero (by simp)
theorem Q5 {neg:Bool}{n drop B:Nat}(h:B*2^drop≤n):B≤Ieee.Toward.cut .even neg n drop:=by
 unfold Ieee.Toward.cut;simp only [Nat.one_shiftLeft];refine Nat.le_trans ?_ (Nat.le_add_right _ _);by_cases hd:drop≤n.log2+2;rw [Nat.min_eq_left hd];exact (Nat.le_div_iff_mul_le (bg _)).2 h;have cq:n<2^(n.log2+1):=Nat.lt_log2_self;have hle:2^(n.log2+1)≤2^drop:=Nat.pow_le_pow_right (by omega) (by omega);by_cases hB:B=0;subst hB;exact Nat.zero_le _;have:1*2^drop≤B*2^drop:=Nat.mul_le_mul_right _ (by omega);omega
end Go.Ide
namespace Go.Ide
section
variable {cx:Cx} {st st':St} {P:Program} {N:Nat} {Q:Exit→St→Prop} {y:Code}
end
end Go.Ide
namespace Go.Ide
theorem zU {n s:Nat}(h:n≠0):(n*2^s).log2=n.log2+s:=by
 have h1:=Nat.log2_self_le h;have h2:n<2^(n.log2+1):=Nat.lt_log2_self;have hp:=bg s;have h0:n*2^s≠0:=Nat.mul_ne_zero h (by omega);apply Nat.le_antisymm;have:(n*2^s).log2<n.log2+s+1:=by
  rw [Nat.log2_lt h0,show n.log2+s+1=n.log2+1+s by omega,Nat.pow_add];exact Nat.mul_lt_mul_of_pos_right h2 hp
 omega;rw [Nat.le_log2 h0,Nat.pow_add];exact Nat.mul_le_mul_right _ h1
theorem oL {neg:Bool}{n:Nat}:Ieee.Toward.cut .even neg n 0=n:=by
 unfold Ieee.Toward.cut;simp [Nat.mod_one]
theorem BS {neg:Bool}{n drop s:Nat}(h:n≠0):Ieee.Toward.cut .even neg (n*2^s) (drop+s)=Ieee.Toward.cut .even neg n drop:=by
 unfold Ieee.Toward.cut;simp only [Nat.one_shiftLeft,zU h];rw [show min (drop+s) (n.log2+s+2)=min drop (n.log2+2)+s by omega,Nat.pow_add];have hp:=bg s;have hg:=bg (min drop (n.log2+2));generalize 2^min drop (n.log2+2)=g at*;generalize 2^s=t at*;rw [Nat.mul_div_mul_right _ _ hp,Nat.mul_mod_mul_right]
 congr 2
 have e1:decide (g*t<2*(n%g*t))=decide (g<2*(n%g)):=by
  rw [decide_eq_decide,←Nat.mul_assoc];exact Nat.mul_lt_mul_right hp
 have e2:(g*t==2*(n%g*t))=(g==2*(n%g)):=by
  rw [Bool.eq_iff_iff,beq_iff_eq,beq_iff_eq,←Nat.mul_assoc];exact ⟨fun h=>Nat.eq_of_mul_eq_mul_right hp h,fun h=>congrArg (· *t) h⟩
 rw [e1,e2]
theorem dz {f:Ieee.Format}{neg:Bool}{mag s:Nat}{place:Int}:f.nearest neg (mag*2^s) (place - s)=f.nearest neg mag place:=by
 by_cases h0:mag=0;subst h0;unfold Ieee.Format.nearest;simp;have hp:=bg s;unfold Ieee.Format.nearest;rw [if_neg h0,if_neg (Nat.mul_ne_zero h0 (by omega))];simp only [zU h0];have e:place - (s:Int)+((mag.log2+s:Nat):Int) - (f.fractionBits:Int)=place+(mag.log2:Int) - (f.fractionBits:Int):=by omega
 rw [e];generalize max (place+(mag.log2:Int) - (f.fractionBits:Int)) f.leastPlace=last
 congr 3
 simp only [Nat.shiftLeft_eq];by_cases hd:last≤place;rw [show (last - place).toNat=0 by omega,oL];by_cases hs:(s:Int)≤place - last;rw [show (last - (place - (s:Int))).toNat=0 by omega,oL,Nat.mul_assoc,←Nat.pow_add,show s+(place - (s:Int) - last).toNat=(place - last).toNat by omega];rw [show (place - (s:Int) - last).toNat=0 by omega,Nat.pow_zero,Nat.mul_one];have e2:(last - (place - (s:Int))).toNat=0+(s - (place - last).toNat):=by omega
 have e3:mag*2^s=mag*2^(place - last).toNat*2^(s - (place - last).toNat):=by
  rw [Nat.mul_assoc,←Nat.pow_add,show (place - last).toNat+(s - (place - last).toNat)=s by omega]
 rw [e2,e3,BS (Nat.mul_ne_zero h0 (by have:=bg (place - last).toNat;omega)),oL];rw [show (place - (s:Int) - last).toNat=0 by omega,show (place - last).toNat=0 by omega,Nat.pow_zero,Nat.mul_one,Nat.mul_one,
  show (last - (place - (s:Int))).toNat=(last - place).toNat+s by omega,BS h0]
end Go.Ide
namespace Go.Ide
theorem zV {x:Nat}{s:Bool}{m:Nat}{p:Int}(h:Ieee.single.read x= .number s m p):m<16777216:=by
 unfold Ieee.Format.read at h;simp only [vA,rR,qR,wP] at h;split at h;injection h with _ h2 _;omega;split at h;injection h with _ h2 _;omega;split at h<;>cases h
end Go.Ide
namespace Go.Ide
theorem JO {x:Nat}(h:x<4294967296):Ieee.single.word (x/2147483648%2==1) (x%2147483648)=x:=by
 unfold Ieee.Format.word;simp only [vA];rcases (show x/2147483648=0∨x/2147483648=1 by omega) with e|e<;>rw [e]
 show x%2147483648=x;omega;show 2147483648+x%2147483648=x;omega
theorem Da {x:Nat}{s:Bool}{m:Nat}{p:Int}(h:x<4294967296)(hr:Ieee.single.read x= .number s m p):Ieee.single.nearest s m p=x:=by
 have hb:=JO h;by_cases mi:x%2147483648<8388608;rw [vB mi] at hr;injection hr with e1 e2 e3;subst e1 e2 e3;unfold Ieee.Format.nearest;by_cases h0:x%2147483648=0;rw [if_pos h0];rw [h0] at hb;exact hb;rw [if_neg h0];have hl:(x%2147483648).log2≤22:=by
  have:=(Nat.log2_lt (k:=23) h0).2 mi;omega
 have hf:Ieee.single.fractionBits=23:=rfl;simp only [wP,rR,qR,hf];have el:max (-149+((0:Nat):Int)+((x%2147483648).log2:Int) - ((23:Nat):Int)) (-149)= -149:=by omega
 rw [el];have e1:((-149:Int) - -149).toNat=0:=rfl;have e2:(-149+((0:Nat):Int) - -149).toNat=0:=rfl;have e3:((-149:Int) - (-149+((0:Nat):Int))).toNat=0:=rfl;rw [e1,e2,e3,oL,Nat.shiftLeft_zero,Nat.zero_mul,Nat.zero_add,Nat.min_eq_left (by omega)];exact hb;by_cases pr:x%2147483648<2139095040;rw [yA (by omega) pr] at hr;injection hr with e1 e2 e3;subst e1 e2 e3;generalize hq:x%2147483648=r at*;unfold Ieee.Format.nearest;rw [if_neg (by omega)];have hl:(8388608+r%8388608).log2=23:=by
  have h0:8388608+r%8388608≠0:=by omega
  have a1:=(Nat.log2_lt (k:=24) h0).2 (by omega);have a2:=(Nat.le_log2 (k:=23) h0).2 (by omega);omega
 have hf:Ieee.single.fractionBits=23:=rfl;simp only [wP,rR,qR,hf,hl];have el:max (-149+((r/8388608 - 1:Nat):Int)+((23:Nat):Int) - ((23:Nat):Int)) (-149)= -149+((r/8388608 - 1:Nat):Int):=by omega
 rw [el];have e1:(-149+((r/8388608 - 1:Nat):Int) - -149).toNat=r/8388608 - 1:=by omega
 have e2:(-149+((r/8388608 - 1:Nat):Int) - (-149+((r/8388608 - 1:Nat):Int))).toNat=0:=by omega
 rw [e1,e2,oL,Nat.shiftLeft_zero,show (r/8388608 - 1)*8388608+(8388608+r%8388608)=r by omega,Nat.min_eq_left (by omega)];exact hb;exfalso;unfold Ieee.Format.read at hr;simp only [vA,rR,qR] at hr;rw [if_neg mi,if_neg pr] at hr;split at hr<;>cases hr
end Go.Ide
namespace Go.Ide
def jx (x:Nat):Prop:=x<2147483648
theorem BT {x m:Nat}{s:Bool}{p:Int}(hr:Ieee.single.read x= .number s m p):s=(x/2147483648%2==1):=by
 unfold Ieee.Format.read at hr;simp only [vA,rR,qR,wP] at hr;split at hr;injection hr with h1 _ _;exact h1.symm;split at hr;injection hr with h1 _ _;exact h1.symm;split at hr<;>cases hr
theorem gZ {x m:Nat}{s:Bool}{p:Int}(h:jx x)(hr:Ieee.single.read x= .number s m p):s=false:=by
 rw [BT hr];unfold jx at h;rw [Nat.div_eq_of_lt h];rfl
theorem E3 {x y m n:Nat}{s t:Bool}{i j:Int}(h1:Ieee.single.read x= .number s m i)(h2:Ieee.single.read y= .number t n j):
 av .add .f32 x y=bw .f32 (Ieee.single.nearest (if Ieee.signed s m (i - min i j).toNat+Ieee.signed t n (j - min i j).toNat=0 then s&&t else Ieee.signed s m (i - min i j).toNat+Ieee.signed t n (j - min i j).toNat<0) (Ieee.signed s m (i - min i j).toNat+Ieee.signed t n (j - min i j).toNat).natAbs (min i j)):=by
 have:floatBits .add .f32 x y=some (Ieee.single.nearest (if Ieee.signed s m (i - min i j).toNat+Ieee.signed t n (j - min i j).toNat=0 then s&&t else Ieee.signed s m (i - min i j).toNat+Ieee.signed t n (j - min i j).toNat<0) (Ieee.signed s m (i - min i j).toNat+Ieee.signed t n (j - min i j).toNat).natAbs (min i j)):=by
  show Ieee.single.add x y=_;unfold Ieee.Format.add;rw [h1,h2];rfl
 unfold av;rw [this]
theorem LA {x y m n:Nat}{s t:Bool}{i j:Int}(h1:Ieee.single.read x= .number s m i)(h2:Ieee.single.read y= .number t n j):
 av .sub .f32 x y=bw .f32 (Ieee.single.nearest (if Ieee.signed s m (i - min i j).toNat+Ieee.signed (!t) n (j - min i j).toNat=0 then s&& !t else Ieee.signed s m (i - min i j).toNat+Ieee.signed (!t) n (j - min i j).toNat<0) (Ieee.signed s m (i - min i j).toNat+Ieee.signed (!t) n (j - min i j).toNat).natAbs (min i j)):=by
 have:floatBits .sub .f32 x y=some (Ieee.single.nearest (if Ieee.signed s m (i - min i j).toNat+Ieee.signed (!t) n (j - min i j).toNat=0 then s&& !t else Ieee.signed s m (i - min i j).toNat+Ieee.signed (!t) n (j - min i j).toNat<0) (Ieee.signed s m (i - min i j).toNat+Ieee.signed (!t) n (j - min i j).toNat).natAbs (min i j)):=by
  show Ieee.single.sub x y=_;unfold Ieee.Format.sub;rw [h1,h2];rfl
 unfold av;rw [this]
theorem E4 {x:Nat}{s:Bool}{p:Int}(hr:Ieee.single.read x= .number s 0 p):x%2147483648=0∧p= -149:=by
 unfold Ieee.Format.read at hr;simp only [vA,rR,qR,wP] at hr;split at hr;injection hr with _ h2 h3;exact ⟨h2,h3.symm⟩;split at hr;injection hr with _ h2 _;omega;split at hr<;>cases hr
end Go.Ide
