import Derived.Test.YtjekgiabgglokaaLibA
import Derived.Laws.FloatArith
import Derived.Lib.ConvBytes
import Derived.Laws.BytesString
import Derived.Laws.Externs
set_option linter.unusedVariables false
set_option linter.unusedSimpArgs false
set_option linter.unusedSectionVars false
namespace Go.Ide
section
variable {g:GM} {m:Mem} {S S2:Nat→Prop} {w:World}
theorem gw.len {t:Ty}{cs:List Value}{xs:List t.D}{A:List (List Nat→Option Nat)}(h:gw S w t cs xs A):cs.length=1:=by
 rcases h with ⟨_,_,a,e⟩|⟨v,γ,_,e,_⟩<;>subst e<;>rfl
theorem dh.len: ∀(t:Ty) {cs:List Value} {x:t.D} {A:List (List Nat→Option Nat)},dh S w t cs x A→cs.length=t.size
 | .int _,_,_,_,h=>bS.len _ _ _ h.2
 | .aX _,_,_,_,h=>bS.len _ _ _ h.2
 | .bool,_,_,_,h=>bS.len _ _ _ h.2
 | .str,_,_,_,h=>bS.len _ _ _ h.2
 | .pair a b,_,_,_,⟨c1,c2,A1,A2,e,_,h1,h2⟩=>by subst e;simp [Ty.size,dh.len a h1,dh.len b h2]
 | .st t,_,_,_,h=>dh.len t (cs:=_) h
 | .sl t,_,_,_,h=>gw.len h
 | .bx t,_,_,_,⟨_,_,_,_,e,_⟩=>by subst e;rfl
 | .own t,_,_,_,h=>gw.len h
theorem gw.uq {t:Ty}{cs:List Value}{xs:List t.D}{A:List (List Nat→Option Nat)}(h:gw S w t cs xs A):A.length=1:=by
 rcases h with ⟨e,_⟩|⟨v,γ,e,_⟩<;>subst e<;>rfl
def Ty.BA:Ty→Nat
 | .pair a b=>a.BA+b.BA
 | .st t=>t.BA
 | .sl _=>1
 | .bx _=>1
 | .own _=>1
 |_=>0
theorem dh.uq: ∀(t:Ty) {cs:List Value} {x:t.D} {A:List (List Nat→Option Nat)},dh S w t cs x A→A.length=t.BA
 | .int _,_,_,_,h=>by rw [h.1];rfl
 | .aX _,_,_,_,h=>by rw [h.1];rfl
 | .bool,_,_,_,h=>by rw [h.1];rfl
 | .str,_,_,_,h=>by rw [h.1];rfl
 | .pair a b,_,_,_,⟨c1,c2,A1,A2,_,e,h1,h2⟩=>by subst e;simp [Ty.BA,dh.uq a h1,dh.uq b h2]
 | .st t,_,_,_,h=>dh.uq t (cs:=_) h
 | .sl t,_,_,_,h=>gw.uq h
 | .bx t,_,_,_,⟨_,_,_,e,_⟩=>by subst e;rfl
 | .own t,_,_,_,h=>gw.uq h
theorem bS.flat {w':World}: ∀(t:Ty) {cs:List Value} {x:t.D},t.flat=true→bS S w t cs x→bS S2 w' t cs x
 | .int _,_,_,_,h=>h
 | .aX _,_,_,_,h=>h
 | .bool,_,_,_,h=>h
 | .str,_,_,_,h=>h
 | .sl _,_,_,hf,_=>by cases hf
 | .bx _,_,_,hf,_=>by cases hf
 | .own _,_,_,hf,_=>by cases hf
 | .pair a b,_,_,hf,⟨c1,c2,e,h1,h2⟩=>by
  simp only [Ty.flat,Bool.and_eq_true] at hf;exact ⟨c1,c2,e,bS.flat a hf.1 h1,bS.flat b hf.2 h2⟩
 | .st t,_,_,hf,h=>bS.flat t (cs:=_) hf h
theorem cX.iZ: ∀(t:Ty) {γ:List Nat→Option Nat} {o:Nat} {cs:List Value} {x:t.D},t.iZ=true→cX S w t γ o cs x→cX S2 w t γ o cs x
 | .own t,γ,o,cs,xs,hf,⟨v,e,ha,hr⟩=>by
  refine ⟨v,e,ha,?_⟩;cases hg:γ [o] with
  |none=>rw [hg] at hr;exact hr
  |some b=>
   rw [hg] at hr;obtain ⟨arr,hb,hi⟩:=hr;exact ⟨arr,hb,fun i hl=>let ⟨es,h1,h2⟩:=hi i hl;⟨es,h1,cX.iZ t hf h2⟩⟩
 | .pair a b,γ,o,cs,x,hf,⟨c1,c2,e,h1,h2⟩=>by
  simp only [Ty.iZ,Bool.and_eq_true] at hf;exact ⟨c1,c2,e,cX.iZ a hf.1 h1,cX.iZ b hf.2 h2⟩
 | .st t,γ,o,cs,x,hf,hr=>cX.iZ t (o:=o) (cs:=cs) (x:=x) hf hr
 | .int k,_,_,cs,x,_,hr=>hr
 | .aX k,_,_,cs,x,_,hr=>hr
 | .bool,_,_,cs,x,_,hr=>hr
 | .str,_,_,cs,x,_,hr=>hr
 | .sl t,_,_,cs,x,hf,hr=>by cases hf
 | .bx t,_,_,cs,x,hf,hr=>by cases hf
theorem fA.iZ {γ:List Nat→Option Nat}{t:Ty}{xs:List t.D}{arr:Array Value}(hf:t.iZ=true)(h:fA S w γ t xs arr):fA S2 w γ t xs arr:=
 fun i hi=>let ⟨es,h1,h2⟩:=h i hi;⟨es,h1,cX.iZ t hf h2⟩
theorem tg: ∀(t:Ty) (x:t.D) (o:Nat),t.top=true→eJ t x o=none
 | .int _,_,_,_=>rfl
 | .aX _,_,_,_=>rfl
 | .bool,_,_,_=>rfl
 | .str,_,_,_=>rfl
 | .sl _,_,_,_=>rfl
 | .bx _,_,_,_=>rfl
 | .own _,_,_,h=>by cases h
 | .pair a b,x,o,h=>by
  simp only [Ty.top,Bool.and_eq_true] at h;simp only [eJ];cases Nat.blt o a.size with
  |true=>exact tg a _ _ h.1
  |false=>exact tg b _ _ h.2
 | .st t,x,o,h=>tg t x o h
theorem cl.top {t:Ty}(h:t.top=true){xs cE:List t.D}(hl:xs.length=cE.length):cl t xs cE:=
 ⟨hl,fun i o e wh hs=>by rw [tg t _ _ h] at hs;cases hs⟩
structure TT (g:GM)(m:Mem)(w:World):Prop where
 inj: ∀k k' p p' ch jM b,lk k m=some ch→ch.owns p→lk k' m=some jM→jM.owns p'→g.f k p=some b→g.f k' p'=some b→k=k'∧p=p'
 lt: ∀k p ch b,lk k m=some ch→ch.owns p→g.f k p=some b→b<w.heap.size
theorem dw.NK {cx:Cx}{st:St}{a:Act}(h:dw cx g st a w):TT g st.mem w:=⟨h.lz,h.lt⟩
theorem qD.nil:qD []:=⟨List.Pairwise.nil,fun γ h=>by simp at h⟩
theorem zf.nil:zf [] []:=fun b=>by simp
theorem m4 {n:Nat}{A:List (List Nat→Option Nat)}(h: ∀γ,γ∈A→ ∀p b,γ p=some b→b<n): ∃F,zf A F:=by
 classical
 refine ⟨(List.range n).filter fun b=>decide (∃γ,γ∈A∧ ∃p,γ p=some b),fun b=> ?_⟩;rw [List.mem_filter];simp only [List.mem_range,decide_eq_true_eq];exact ⟨fun h=>h.2,fun hp=>⟨let ⟨γ,hγ,p,e⟩:=hp;h γ hγ p b e,hp⟩⟩
def gof (g:GM):Option Nat→List Nat→Option Nat
 |some k=>g.f k
 |none=>fun _=>none
def kg (g:GM)(m:Mem)(ks:List Nat)(A:List (List Nat→Option Nat)):Prop:=
 ∃l:List (Option Nat),A=l.map (gof g)∧(l.filterMap id).Sublist ks∧ ∀k,some k∈l→ ∃t xs,lk k m=some (.seq t xs)
theorem kg.nil {ks:List Nat}:kg g m ks []:=⟨[],rfl,List.nil_sublist _,fun k h=>by simp at h⟩
theorem kg.app {Te TU:List Nat}{A1 A2:List (List Nat→Option Nat)}(h1:kg g m Te A1)(h2:kg g m TU A2):kg g m (Te++TU) (A1++A2):=by
 obtain ⟨l1,e1,s1,p1⟩:=h1;obtain ⟨l2,e2,s2,p2⟩:=h2;refine ⟨l1++l2,by rw [e1,e2,List.map_append],by rw [List.filterMap_append];exact s1.append s2,fun k hk=> ?_⟩;rcases List.mem_append.1 hk with hk|hk
 exact p1 k hk;exact p2 k hk
theorem kg.inj (hI:TT g m w){ks:List Nat}{A:List (List Nat→Option Nat)}(h:kg g m ks A)(hn:ks.Nodup):qD A:=by
 obtain ⟨l,e,hs,hp⟩:=h;subst e;have hn:=hs.nodup hn;constructor;rw [List.pairwise_map];have:=List.pairwise_filterMap.1 hn;refine this.imp_of_mem fun {o o'} ho xx hr p q b h1 h2=> ?_;cases o with
 |none=>cases h1
 |some k=>
  cases o' with
  |none=>cases h2
  |some k'=>
   obtain ⟨t,xs,l1⟩:=hp k ho;obtain ⟨t',cE,l2⟩:=hp k' xx;exact hr k rfl k' rfl (hI.inj k k' p q _ _ b l1 trivial l2 trivial h1 h2).1
 intro γ hγ p q b h1 h2;obtain ⟨o,ho,rfl⟩:=List.mem_map.1 hγ;cases o with
 |none=>cases h1
 |some k=>
  obtain ⟨t,xs,l1⟩:=hp k ho;exact (hI.inj k k p q _ _ b l1 trivial l1 trivial h1 h2).2
theorem kg.dy {ks:List Nat}{A:List (List Nat→Option Nat)}(h:kg g m ks A){γ:List Nat→Option Nat}(hγ:γ∈A){p:List Nat}{b:Nat}(hb:γ p=some b): ∃k,k∈ks∧ ∃p t xs,g.f k p=some b∧lk k m=some (.seq t xs):=by
 obtain ⟨l,e,hs,hp⟩:=h;subst e;obtain ⟨o,ho,rfl⟩:=List.mem_map.1 hγ;cases o with
 |none=>cases hb
 |some k=>
  obtain ⟨t,xs,l1⟩:=hp k ho;exact ⟨k,hs.subset (List.mem_filterMap.2 ⟨some k,ho,rfl⟩),p,t,xs,hb,l1⟩
def ox (g:GM)(m:Mem)(SU:Nat→Prop)(w':World)(u:Mem):Prop:=
 ∀p∈u,∃t xs,lk p.1 m=some (.seq t xs)∧(p.2= .gone∨ ∃cE,p.2= .seq t cE∧cl t xs cE∧
  (match g.f p.1 [] with|none=>cE=[]|some b=> ∃arr,dy w' b arr∧fA SU w' (g.f p.1) t cE arr))
theorem ox.nil {SU:Nat→Prop}{w':World}:ox g m SU w' []:=fun p hp=>by simp at hp
theorem ox.app {SU:Nat→Prop}{w':World}{u1 u2:Mem}(h1:ox g m SU w' u1)(h2:ox g m SU w' u2):ox g m SU w' (u1++u2):=fun p hp=>by
 rcases List.mem_append.1 hp with hp|hp
 exact h1 p hp;exact h2 p hp
theorem KM (hm:lj g m S w)(hS: ∀b,S b→S2 b){c:Nat}{t:Ty}{xs:List t.D}(hl:lk c m=some (.seq t xs)){v:Value}(hv:CR g m S w (.all c) v):
 ∃A,gw S2 w t [v] xs A∧kg g m [c] A∧ ∀(w':World) (SO SU:Nat→Prop) (cE:List t.D),(∀b arr,dy w b arr→ ∃aG,dy w' b aG∧aG.size=arr.size)→(t.iZ=true∨ ∀b,SO b→SU b)→gw SO w' t [v] cE A→cl t xs cE→ox g m SU w' [(c,.seq t cE)]:=by
 have hx:=hv.2.2 t xs (.inl hl);have cY:=hm c _ hl;unfold jl at hx;unfold kd at cY;have TV: ∀cE,xs=[]→cl t xs cE→cE=[]:=fun cE h h'=>List.eq_nil_of_length_eq_zero (by rw [←h'.1,h];rfl);cases hg:g.f c [] with
 |none=>
  rw [show g c=none from hg] at hx;rw [hg] at cY;obtain ⟨a,ha⟩:=hx;have cY:xs=[]:=cY;refine ⟨[fun _=>none],.inl ⟨rfl,cY,a,by rw [ha]⟩,⟨[none],rfl,by simp,by simp⟩,fun w' SO SU cE fG hf ho uW p hp=> ?_⟩;simp at hp;subst hp;refine ⟨t,xs,hl,.inr ⟨cE,rfl,uW,?_⟩⟩;simp only [hg];exact TV cE cY uW
 |some b=>
  rw [show g c=some b from hg] at hx;rw [hg] at cY;obtain ⟨cap,arr,e1,k1,k2,k3,k4⟩:=hx;obtain ⟨aG,ke,oZ⟩:=cY;have:=k2.eq ke;subst this;subst e1;by_cases uj:cap=0;subst uj;have ve:xs=[]:=List.eq_nil_of_length_eq_zero (by omega);refine ⟨[fun _=>none],.inl ⟨rfl,ve,_,by rw [ve];rfl⟩,⟨[none],rfl,by simp,by simp⟩,fun w' SO SU cE fG hf ho uW p hp=> ?_⟩;simp at hp;subst hp;have yb:=TV cE ve uW;refine ⟨t,xs,hl,.inr ⟨cE,rfl,uW,?_⟩⟩;simp only [hg];obtain ⟨aG,q1,_⟩:=fG b arr k2;exact ⟨aG,q1,by rw [yb];exact fun i hi=>by simp at hi⟩;refine ⟨[g.f c],.inr ⟨_,g.f c,rfl,rfl,b,cap,arr,hg,rfl,k1,by omega,k2,k3,k4,oZ.keep (fun b hb=>⟨hS b hb,rfl⟩) (fun _ _ _=>rfl)⟩,⟨[some c],rfl,by simp,fun k hk=>by simp at hk;subst hk;exact ⟨t,xs,hl⟩⟩,fun w' SO SU cE fG hf ho uW p hp=> ?_⟩;simp at hp;subst hp;refine ⟨t,xs,hl,.inr ⟨cE,rfl,uW,?_⟩⟩;rcases ho with ⟨e,_⟩|⟨v',γ,e,e2,b2,aax,qx,h0,_,_,_,q3,_,_,q6⟩
  injection e with e;rw [e] at hg;cases hg;injection e with e;subst e;simp only [h0];refine ⟨qx,q3,?_⟩;rcases hf with hf|hf
  exact q6.iZ hf;exact q6.keep (fun b hb=>⟨hf b hb,rfl⟩) fun _ _ _=>rfl
theorem NL (hm:lj g m S w)(hS: ∀b,S b→S2 b){c sz:Nat}{t:Ty}{xs:List t.D}(hl:lk c m=some (.seq t xs)){v:Value}(hv:CR g m S w (.iy c 0 sz 0) v):
 ∃A,Bz S2 w t [v] xs A∧kg g m [c] A∧ ∀(w':World) (SO SU:Nat→Prop) (cE:List t.D),(t.iZ=true∨ ∀b,SO b→SU b)→Bz SO w' t [v] cE A→cl t xs cE→ox g m SU w' [(c,.seq t cE)]:=by
 obtain ⟨_,b,hg,ev⟩:=hv;have cY:=hm c _ hl;unfold kd at cY;have hg:g.f c []=some b:=hg;rw [hg] at cY;obtain ⟨arr,hb,oZ⟩:=cY;refine ⟨[g.f c],⟨g.f c,b,arr,rfl,by rw [ev];simp,hg,hb,oZ.keep (fun b hb=>⟨hS b hb,rfl⟩) fun _ _ _=>rfl⟩,⟨[some c],rfl,by simp,fun k hk=>by simp at hk;subst hk;exact ⟨t,xs,hl⟩⟩,fun w' SO SU cE hf ho uW p hp=> ?_⟩;simp at hp;subst hp;refine ⟨t,xs,hl,.inr ⟨cE,rfl,uW,?_⟩⟩;obtain ⟨γ,b2,qx,e1,_,h0,q3,q6⟩:=ho;injection e1 with e1;subst e1;simp only [h0];refine ⟨qx,q3,?_⟩;rcases hf with hf|hf
 exact q6.iZ hf;exact q6.keep (fun b hb=>⟨hf b hb,rfl⟩) fun _ _ _=>rfl
theorem CJ (hm:lj g m S w)(hS: ∀b,S b→S2 b): ∀(t:Ty) {mO:List aA} {x:t.D} {r r':List aA} {ks:List Nat} {vs:List Value},
 impl m t mO=some (x,r)→dA m t mO=some (ks,r')→bB (CR g m S w) mO vs→
 ∃v1 v2 A,vs=v1++v2∧dh S2 w t v1 x A∧bB (CR g m S w) r v2∧r'=r∧kg g m ks A∧(∀k∈ks,∃t xs,lk k m=some (.seq t xs))∧
  ∀(w':World) (SO SU:Nat→Prop) (x':t.D) (u:Mem) (H7:List aA),(∀b arr,dy w b arr→ ∃aG,dy w' b aG∧aG.size=arr.size)→(t.lb=true∨ ∀b,SO b→SU b)→ow t mO x'=some (u,H7)→dh SO w' t v1 x' A→uo t x x'→
   u.map Prod.fst=ks∧ox g m SU w' u∧H7=r:=by
 have rP: ∀(t:Ty) (hp: ∀cs x A,A=[]∧bS S2 w t cs x→dh S2 w t cs x A) (hu: ∀mO x' u H7,ow t mO x'=some (u,H7)→(match mO with| .aq _ _::r=>some (([]:Mem),r)|_=>none)=some (u,H7))
  {mO:List aA} {x:t.D} {r r':List aA} {ks:List Nat} {vs:List Value},
  cW m t mO=some (x,r)→(match mO with| .aq _ _::r=>some ([],r)|_=>none)=some (ks,r')→bB (CR g m S w) mO vs→
  ∃v1 v2 A,vs=v1++v2∧dh S2 w t v1 x A∧bB (CR g m S w) r v2∧r'=r∧kg g m ks A∧(∀k∈ks,∃t xs,lk k m=some (.seq t xs))∧
  ∀(w':World) (SO SU:Nat→Prop) (x':t.D) (u:Mem) (H7:List aA),(∀b arr,dy w b arr→ ∃aG,dy w' b aG∧aG.size=arr.size)→(t.lb=true∨ ∀b,SO b→SU b)→ow t mO x'=some (u,H7)→dh SO w' t v1 x' A→uo t x x'→
   u.map Prod.fst=ks∧ox g m SU w' u∧H7=r:=by
  intro t hp hu mO x r r' ks vs h1 h2 h3;split at h2;rename_i t' y r0;injection h2 with h2;injection h2 with e1 e2;subst e1;subst e2;cases vs with
  |nil=>exact h3.elim
  |cons v vs=>
   simp only [cW] at h1;split at h1;rename_i z hz;injection h1 with h1;injection h1 with e1 e2;subst e1;subst e2;refine ⟨[v],vs,[],rfl,hp _ _ _ ⟨rfl,?_⟩,h3.2,rfl,kg.nil,by simp,fun w' SO SU x' u H7 _ _ h _ _=> ?_⟩;refine rX (m0:=[]) hS i9.nil (c:= .aq t' y) ?_ h3.1;simp only [eu] at hz⊢;exact hz;have:=hu _ _ _ _ h;simp at this;obtain ⟨e1,e2⟩:=this;subst e1;subst e2;exact ⟨rfl,ox.nil,rfl⟩;cases h1
  cases h2
 intro t;induction t with
 |int k=>intro mO x r r' ks vs h1 h2 h3;exact rP (.int k) (fun _ _ _ h=>h) (fun _ _ _ _ h=>h) h1 h2 h3
 |aX k=>intro mO x r r' ks vs h1 h2 h3;exact rP (.aX k) (fun _ _ _ h=>h) (fun _ _ _ _ h=>h) h1 h2 h3
 |bool=>intro mO x r r' ks vs h1 h2 h3;exact rP .bool (fun _ _ _ h=>h) (fun _ _ _ _ h=>h) h1 h2 h3
 |str=>intro mO x r r' ks vs h1 h2 h3;exact rP .str (fun _ _ _ h=>h) (fun _ _ _ _ h=>h) h1 h2 h3
 |st t ih=>intro mO x r r' ks vs h1 h2 h3;exact ih h1 h2 h3
 |pair a b Qz QA=>
  intro mO x r r' ks vs h1 h2 h3;simp only [impl] at h1;simp only [dA] at h2;split at h1;rename_i y r1 e1;split at h1;rename_i z r2 e2;injection h1 with h1;injection h1 with k1 k2;subst k1;subst k2;split at h2;rename_i Te r3 e3;split at h2;rename_i TU r4 e4;injection h2 with h2;injection h2 with k3 k4;subst k3;subst k4;obtain ⟨v1,v2,A1,rfl,o1,a1,q1,s1,p1,n1⟩:=Qz e1 e3 h3;subst q1;obtain ⟨v3,v4,A2,rfl,o2,a2,q2,s2,p2,n2⟩:=QA e2 e4 a1;refine ⟨v1++v3,v4,A1++A2,by simp,⟨v1,v3,_,_,rfl,rfl,o1,o2⟩,a2,q2,s1.app s2,fun k hk=> ?_,fun w' SO SU x' u H7 fG hf hu ho uW=> ?_⟩;rcases List.mem_append.1 hk with hk|hk
  exact p1 k hk;exact p2 k hk;simp only [ow] at hu;have PD:a.lb=true∨ ∀b,SO b→SU b:=hf.imp_left fun hf=>by simp only [Ty.lb,Bool.and_eq_true] at hf;exact hf.1
  have KN:b.lb=true∨ ∀b,SO b→SU b:=hf.imp_left fun hf=>by simp only [Ty.lb,Bool.and_eq_true] at hf;exact hf.2
  split at hu;rename_i u1 r5 e5;split at hu;rename_i u2 r6 e6;injection hu with hu;injection hu with k5 k6;subst k5;subst k6;obtain ⟨c1,c2,B1,B2,ec,eA,o3,o4⟩:=ho;obtain ⟨rfl,rfl⟩:=List.append_inj ec (by rw [dh.len a o1,dh.len a o3]);obtain ⟨rfl,rfl⟩:=List.append_inj eA (by rw [dh.uq a o1,dh.uq a o3]);obtain ⟨g1,g2,g3⟩:=n1 w' SO SU x'.1 u1 r5 fG PD e5 o3 uW.1;subst g3;obtain ⟨g4,g5,g6⟩:=n2 w' SO SU x'.2 u2 r6 fG KN e6 o4 uW.2;exact ⟨by simp [g1,g4],g2.app g5,g6⟩;cases hu;cases hu;cases h2;cases h2;cases h1;cases h1
 |sl t ih=>
  intro mO x r r' ks vs h1 h2 h3;simp only [dA] at h2;split at h2;rename_i c r0;cases vs with
  |nil=>exact h3.elim
  |cons v vs=>
   simp only [impl,cW] at h1;split at h1;rename_i z hz;injection h1 with h1;injection h1 with e1 e2;subst e1;subst e2;simp only [eu] at hz;split at hz;rename_i e' xs hl;rw [hl] at h2;simp only at h2;split at h2;rename_i he;subst he;injection h2 with h2;injection h2 with e1 e2;subst e1;subst e2;rw [dif_pos rfl] at hz;injection hz with hz;subst hz;obtain ⟨A,f1,f2,f3⟩:=KM hm hS hl h3.1;refine ⟨[v],vs,A,rfl,f1,h3.2,rfl,f2,fun k hk=>by simp at hk;subst hk;exact ⟨_,_,hl⟩,fun w' SO SU x' u H7 fG hf hu ho uW=> ?_⟩;simp only [ow] at hu;injection hu with hu;injection hu with e1 e2;subst e1;subst e2;exact ⟨rfl,f3 w' SO SU x' fG hf ho uW,rfl⟩;cases h2;cases hz;cases h1
  rename_i r0;injection h2 with h2;injection h2 with e1 e2;subst e1;subst e2;cases vs with
  |nil=>exact h3.elim
  |cons v vs=>
   simp only [impl,cW,eu] at h1;injection h1 with h1;injection h1 with e1 e2;subst e1;subst e2;obtain ⟨a,ha⟩:=h3.1;subst ha;refine ⟨[.slice a 0 0],vs,[fun _=>none],rfl,.inl ⟨rfl,rfl,a,rfl⟩,h3.2,rfl,⟨[none],rfl,by simp,by simp⟩,by simp,fun w' SO SU x' u H7 fG hf hu ho uW=> ?_⟩;simp only [ow] at hu;injection hu with hu;injection hu with e1 e2;subst e1;subst e2;exact ⟨rfl,ox.nil,rfl⟩
  cases h2
 |own t ih=>
  intro mO x r r' ks vs h1 h2 h3;simp only [dA] at h2;split at h2;simp [impl,cW,eu] at h1;simp [impl,cW,eu] at h1;cases h2
 |bx t ih=>
  intro mO x r r' ks vs h1 h2 h3;simp only [dA] at h2;split at h2;rename_i c i sz off r0;cases vs with
  |nil=>exact h3.elim
  |cons v vs=>
   simp only [impl,cW] at h1;split at h1;rename_i z hz;injection h1 with h1;injection h1 with e1 e2;subst e1;subst e2;simp only [eu] at hz;split at hz;rename_i e' xs hl;rw [hl] at h2;simp only at h2;split at h2;rename_i he;subst he;injection h2 with h2;injection h2 with e1 e2;subst e1;subst e2;rw [dif_pos rfl] at hz;cases hb:(Nat.beq i 0&&(Nat.beq off 0&&Nat.beq sz e'.size)) with
   |false=>rw [hb] at hz;cases hz
   |true=>
    rw [hb] at hz;simp only [cond_true] at hz;injection hz with hz;subst hz;simp only [Bool.and_eq_true] at hb;have hi:=Nat.eq_of_beq_eq_true hb.1;have ho:=Nat.eq_of_beq_eq_true hb.2.1;subst hi;subst ho;obtain ⟨A,f1,f2,f3⟩:=NL hm hS hl h3.1;refine ⟨[v],vs,A,rfl,f1,h3.2,rfl,f2,fun k hk=>by simp at hk;subst hk;exact ⟨_,_,hl⟩,fun w' SO SU x' u H7 fG hf hu ho uW=> ?_⟩;simp only [ow] at hu;injection hu with hu;injection hu with e1 e2;subst e1;subst e2;exact ⟨rfl,f3 w' SO SU x' hf ho uW,rfl⟩
   cases h2;cases hz;cases h1
  cases h2
theorem pf {m:Mem}: ∀(t:Ty) (cs:List aA) {p:List Nat×List aA},dA m t cs=some p→lE t cs=some p
 | .int _,_,_,h=>h
 | .aX _,_,_,h=>h
 | .bool,_,_,h=>h
 | .str,_,_,h=>h
 | .sl t,cs,p,h=>by
  simp only [dA] at h;simp only [lE];split at h;split at h;split at h;exact h;cases h;cases h;exact h;cases h
 | .own t,cs,p,h=>by
  simp only [dA] at h;simp only [lE];split at h;split at h;split at h;exact h;cases h;cases h;exact h;cases h
 | .bx t,cs,p,h=>by
  simp only [dA] at h;simp only [lE];split at h;split at h;split at h;exact h;cases h;cases h;cases h
 | .st t,cs,p,h=>pf t cs h
 | .pair a b,cs,p,h=>by
  simp only [dA] at h;simp only [lE];split at h;rename_i x r e1;rw [pf a cs e1];simp only;split at h;rename_i y r' e2;rw [pf b r e2];exact h;cases h;cases h
end
end Go.Ide
namespace Go.Ide
theorem dP: ∀(l:List Chunk) (n k:Nat),lk k (bG n l)=if n≤k then l[k - n]? else none
 |[],n,k=>by simp [bG,gI]
 |c::r,n,k=>by
  simp only [bG];rw [aS,dP r (n+1) k];by_cases h:k=n;subst h;simp;rw [if_neg h];by_cases hle:n≤k;rw [if_pos hle,if_pos (by omega),show k - n=(k - (n+1))+1 from by omega];simp;rw [if_neg hle,if_neg (by omega)]
theorem rE: ∀(l:List Chunk) (n:Nat),(bG n l).length=l.length
 |[],_=>rfl
 |_::r,n=>by simp [bG,rE r (n+1)]
structure Laid (g':GM)(m':Mem)(S':Nat→Prop)(w:World)(n:Nat)(o7:List Chunk)(D4:List (List Nat→Option Nat)):Prop where
 len:D4.length=o7.length
 chunk: ∀(j:Nat) (ch:Chunk),o7[j]? =some ch→ch≠ .gone∧ ∃o,D4[j]? =some o∧kd g' m' S' w o ch
theorem Laid.app {g':GM}{m':Mem}{S':Nat→Prop}{w:World}{n n':Nat}{c1 c2:List Chunk}{a1 a2:List (List Nat→Option Nat)}(h1:Laid g' m' S' w n c1 a1)(h2:Laid g' m' S' w n' c2 a2):
 Laid g' m' S' w n (c1++c2) (a1++a2):=by
 refine ⟨by simp [h1.len,h2.len],fun j ch hj=> ?_⟩;by_cases cq:j<c1.length;rw [List.getElem?_append_left cq] at hj;rw [List.getElem?_append_left (by rw [h1.len];exact cq)];exact h1.chunk j ch hj;rw [List.getElem?_append_right (by omega)] at hj;rw [List.getElem?_append_right (by rw [h1.len];omega),h1.len];exact h2.chunk _ ch hj
section
variable {S:Nat→Prop} {w:World}
theorem Eo {t:Ty}{cs:List Value}{xs:List t.D}{A:List (List Nat→Option Nat)}(n:Nat)(h:gw S w t cs xs A):
 ∀(g':GM) (m':Mem),(∀j ch,[Chunk.seq t xs][j]? =some ch→lk (n+j) m'=some ch)→(∀j o,A[j]? =some o→g'.f (n+j)=o)→
  bB (CR g' m' S w) [.all n] cs∧Laid g' m' S w n [.seq t xs] A:=by
 rcases h with ⟨eA,hx,a,e⟩|⟨v,γ,eA,e,b,cap,arr,h0,ev,h1,h2,h3,h4,h5,h6⟩
 subst eA;subst e;subst hx;intro g' m' hm hg;have hl:=hm 0 _ rfl;have nq:=hg 0 _ rfl;rw [Nat.add_zero] at hl nq;refine ⟨⟨⟨by rw [hl];simp,rfl,fun t' cE fe=> ?_⟩,trivial⟩,rfl,fun j ch hj=> ?_⟩;have:g' n=none:=congrFun nq [];have e:=dM.toSeq hl fe;rw [hl] at e;injection e with e;injection e with e1 e2;subst e1;have e2:=eq_of_heq e2;subst e2;rw [this];exact ⟨a,rfl⟩;have:j=0:=by
  have:=(List.getElem?_eq_some_iff.1 hj).1;simp at this;exact this
 subst this;simp at hj;subst hj;exact ⟨by simp,_,rfl,rfl⟩;subst eA;subst e;subst ev;intro g' m' hm hg;have hl:=hm 0 _ rfl;have nq:=hg 0 _ rfl;rw [Nat.add_zero] at hl nq;refine ⟨⟨⟨by rw [hl];simp,rfl,fun t' cE fe=> ?_⟩,trivial⟩,rfl,fun j ch hj=> ?_⟩;have e:=dM.toSeq hl fe;rw [hl] at e;injection e with e;injection e with e1 e2;subst e1;have e2:=eq_of_heq e2;subst e2;have:g' n=some b:=(congrFun nq []).trans h0;rw [this];exact ⟨cap,arr,rfl,h1,h3,h4,h5⟩;have:j=0:=by
  have:=(List.getElem?_eq_some_iff.1 hj).1;simp at this;exact this
 subst this;simp at hj;subst hj;refine ⟨by simp,γ,rfl,?_⟩;unfold kd;rw [h0];exact ⟨arr,h3,h6⟩
theorem KO {t:Ty}{cs:List Value}{xs:List t.D}{A:List (List Nat→Option Nat)}(n:Nat)(h:Bz S w t cs xs A):
 ∀(g':GM) (m':Mem),(∀j ch,[Chunk.seq t xs][j]? =some ch→lk (n+j) m'=some ch)→(∀j o,A[j]? =some o→g'.f (n+j)=o)→
  bB (CR g' m' S w) [.iy n 0 t.size 0] cs∧Laid g' m' S w n [.seq t xs] A:=by
 obtain ⟨γ,b,arr,eA,e,h0,h3,h6⟩:=h;subst eA;subst e;intro g' m' hm hg;have hl:=hm 0 _ rfl;have nq:=hg 0 _ rfl;rw [Nat.add_zero] at hl nq;refine ⟨⟨⟨by rw [hl];simp,b,(congrFun nq []).trans h0,by simp⟩,trivial⟩,rfl,fun j ch hj=> ?_⟩;have:j=0:=by
  have:=(List.getElem?_eq_some_iff.1 hj).1;simp at this;exact this
 subst this;simp at hj;subst hj;refine ⟨by simp,γ,rfl,?_⟩;unfold kd;rw [h0];exact ⟨arr,h3,h6⟩
theorem fy: ∀(t:Ty) (x:t.D) (n:Nat),(cn t x n).2.length=t.BA
 | .int _,_,_=>rfl
 | .aX _,_,_=>rfl
 | .bool,_,_=>rfl
 | .str,_,_=>rfl
 | .sl _,_,_=>rfl
 | .bx _,_,_=>rfl
 | .own _,_,_=>rfl
 | .st t,x,n=>fy t x n
 | .pair a b,x,n=>by simp only [cn,List.length_append,fy a,fy b];rfl
theorem pS: ∀(t:Ty) {cs:List Value} {x:t.D} {A:List (List Nat→Option Nat)} (n:Nat),dh S w t cs x A→
 ∀(g':GM) (m':Mem),(∀j ch,(cn t x n).2[j]? =some ch→lk (n+j) m'=some ch)→(∀j o,A[j]? =some o→g'.f (n+j)=o)→
  bB (CR g' m' S w) (cn t x n).1 cs∧Laid g' m' S w n (cn t x n).2 A
 | .int _,_,_,_,n,⟨hF,h⟩=>by
  subst hF;subst h;exact fun g' m' _ _=>⟨⟨rfl,trivial⟩,rfl,fun j ch hj=>by simp [cn] at hj⟩
 | .aX _,_,_,_,n,⟨hF,b,e,h⟩=>by
  subst hF;subst e;exact fun g' m' _ _=>⟨⟨⟨b,rfl,h⟩,trivial⟩,rfl,fun j ch hj=>by simp [cn] at hj⟩
 | .bool,_,_,_,n,⟨hF,h⟩=>by
  subst hF;subst h;exact fun g' m' _ _=>⟨⟨rfl,trivial⟩,rfl,fun j ch hj=>by simp [cn] at hj⟩
 | .str,_,_,_,n,⟨hF,h⟩=>by
  subst hF;subst h;exact fun g' m' _ _=>⟨⟨rfl,trivial⟩,rfl,fun j ch hj=>by simp [cn] at hj⟩
 | .st t,_,_,_,n,h=>pS t (cs:=_) n h
 | .pair a b,_,x,_,n,⟨c1,c2,A1,A2,e1,e2,h1,h2⟩=>by
  subst e1;subst e2;intro g' m' hm hg;have l1:A1.length=(cn a x.1 n).2.length:=by rw [fy,dh.uq a h1]
  obtain ⟨p1,q1⟩:=pS a n h1 g' m' (fun j ch hj=>hm j ch (by
   simp only [cn];rw [List.getElem?_append_left (List.getElem?_eq_some_iff.1 hj).1];exact hj)) (fun j o hj=>hg j o (by
   rw [List.getElem?_append_left (List.getElem?_eq_some_iff.1 hj).1];exact hj))
  obtain ⟨p2,q2⟩:=pS b (n+(cn a x.1 n).2.length) h2 g' m' (fun j ch hj=>by
   rw [Nat.add_assoc];refine hm _ ch ?_;simp only [cn];rw [List.getElem?_append_right (by omega)];simpa using hj) (fun j o hj=>by
   rw [Nat.add_assoc];refine hg _ o ?_;rw [List.getElem?_append_right (by omega),l1];simpa using hj)
  exact ⟨p1.append p2,q1.app q2⟩
 | .sl t,_,xs,_,n,h=>Eo n h
 | .bx t,_,xs,_,n,h=>KO n h
 | .own t,_,xs,_,n,h=>Eo n h
theorem Ep {g':GM}{m':Mem}{t:Ty}{cs:List Value}{mO:List aA}{v:Value}(h:dO t cs v)(ha:bB (CR g' m' S w) mO cs):CV g' m' S w t.yN mO v:=by
 unfold dO at h;unfold CV;cases mN:t.yN with
 |true=>rw [mN] at h;simp at h;exact ⟨cs,h,ha⟩
 |false=>
  rw [mN] at h;simp at h;subst h;cases mO with
  |nil=>exact ha.elim
  |cons c r=>
   cases r with
   |nil=>exact ha.1
   |cons=>exact ha.2.elim
theorem BB: ∀{rs:List RV} {vs:List Value} {A:List (List Nat→Option Nat)} (n:Nat),nR S w rs vs A→A.length=(lK rs n).2.length∧
 ∀(g':GM) (m':Mem),(∀j ch,(lK rs n).2[j]? =some ch→lk (n+j) m'=some ch)→(∀j o,A[j]? =some o→g'.f (n+j)=o)→
  bB (fun (t:Bool×List aA) v=>CV g' m' S w t.1 t.2 v) (lK rs n).1 vs∧Laid g' m' S w n (lK rs n).2 A
 |[],[],A,n,h=>by
  have:A=[]:=h;subst this;exact ⟨rfl,fun _ _ _ _=>⟨trivial,rfl,fun j ch hj=>by simp [lK] at hj⟩⟩
 |r::rs,v::vs,A,n,⟨A1,A2,e,h1,h2⟩=>by
  subst e;have head: ∃p:List aA×List Chunk,p=(if r.fresh then cn r.t r.x n else (il r.t r.x,[]))∧A1.length=p.2.length∧
   ∀(g':GM) (m':Mem),(∀j ch,p.2[j]? =some ch→lk (n+j) m'=some ch)→(∀j o,A1[j]? =some o→g'.f (n+j)=o)→CV g' m' S w r.t.yN p.1 v∧Laid g' m' S w n p.2 A1:=by
   unfold zg at h1;split at h1;rename_i hf;obtain ⟨cs,hv,ho⟩:=h1;refine ⟨cn r.t r.x n,by rw [if_pos hf],by rw [fy,dh.uq _ ho],fun g' m' hm hg=> ?_⟩;obtain ⟨p1,q1⟩:=pS r.t n ho g' m' hm hg;exact ⟨Ep hv p1,q1⟩;rename_i hf;obtain ⟨hF,cs,hv,hr⟩:=h1;subst hF;refine ⟨(il r.t r.x,[]),by rw [if_neg hf],rfl,fun g' m' hm hg=>⟨Ep hv (lG r.t hr),rfl,fun j ch hj=>by simp at hj⟩⟩
  obtain ⟨p,hp,l1,k1⟩:=head;obtain ⟨l2,k2⟩:=BB (n+p.2.length) h2;have e2:(lK (r::rs) n).2=p.2++(lK rs (n+p.2.length)).2:=by rw [hp];rfl
  have e1:(lK (r::rs) n).1=(r.t.yN,p.1)::(lK rs (n+p.2.length)).1:=by rw [hp];rfl
  refine ⟨by rw [e2];simp [l1,l2],fun g' m' hm hg=> ?_⟩;rw [e2] at hm⊢;rw [e1];obtain ⟨p1,q1⟩:=k1 g' m' (fun j ch hj=>hm j ch (by
   rw [List.getElem?_append_left (List.getElem?_eq_some_iff.1 hj).1];exact hj)) (fun j o hj=>hg j o (by
   rw [List.getElem?_append_left (List.getElem?_eq_some_iff.1 hj).1];exact hj))
  obtain ⟨p2,q2⟩:=k2 g' m' (fun j ch hj=>by
   rw [Nat.add_assoc];refine hm _ ch ?_;rw [List.getElem?_append_right (by omega)];simpa using hj) (fun j o hj=>by
   rw [Nat.add_assoc];refine hg _ o ?_;rw [List.getElem?_append_right (by omega),l1];simpa using hj)
  exact ⟨⟨p1,p2⟩,q1.app q2⟩
 |[],_::_,_,_,h=>h.elim
 |_::_,[],_,_,h=>h.elim
theorem NM {g':GM}{m':Mem}{l:List (Bool×List aA)}{vs:List Value}{v:Value}(h:bB (fun (t:Bool×List aA) v=>CV g' m' S w t.1 t.2 v) l vs)(hv:H5 vs v):VR g' m' S w (Jo l) v:=by
 match l,vs with
 |[],[]=>exact ⟨[],hv,trivial⟩
 |[(true,cs)],[u]=>
  have hv:v=u:=hv;subst hv;exact h.1
 |[(false,[c])],[u]=>
  have hv:v=u:=hv;subst hv;exact h.1
 |[(false,[])],[u]=>exact h.1.elim
 |[(false,_::_::_)],[u]=>exact h.1.elim
 |(b1,c1)::t2::ts,u1::u2::us=>
  have e:Jo ((b1,c1)::t2::ts)= .HM ((b1,c1)::t2::ts):=by
   cases b1<;>rcases c1 with _|⟨x,_|⟨y,ys⟩⟩<;>rfl
  rw [e];exact ⟨u1::u2::us,hv,h⟩
 |[],_::_=>exact h.elim
 |[_],[]=>exact h.elim
 |[_],_::_::_=>exact h.2.elim
 |_::_::_,[]=>exact h.elim
 |_::_::_,[_]=>exact h.2.elim
end
end Go.Ide
namespace Go.Ide
section
variable {g:GM} {m:Mem} {S S2:Nat→Prop} {w:World}
theorem pT (hm:lj g m S w)(hS: ∀b,S b→S2 b){mA mB m2:Mem}(hR:i9 g m m2 S2 w)(hA:mB=[]∨mB=m)(Jp: ∀c cs b,lk c mB=some (.box cs)→g c=some b→S2 b):
 ∀{ms:List Mode} {vs:List aE} {vals:List Value} {as:List Arg} {ks:List Nat} {up:Mem} {outs:List TD},(mA=m∨j7 ms=true)→
  dc mA mB m2 ms vs=some as→dB m ms vs=some ks→dJ ms vs outs=some up→bB (VR g m S w) vs vals→
  ∃Fs:List (List (List Nat→Option Nat)),rD S2 w as vals Fs∧kg g m ks Fs.flatten∧
   (∀(w':World) (SO SU:Nat→Prop),(∀b arr,dy w b arr→ ∃aG,dy w' b aG∧aG.size=arr.size)→(fC ms=true∨j7 ms=true∨ ∀b,SO b→SU b)→jd SO w' as vals Fs outs→up.map Prod.fst=ks∧ox g m SU w' up)∧
   (∀b,wA b as Fs→ ∃k p t xs,g.f k p=some b∧lk k m=some (.seq t xs)∧(k,Chunk.gone)∈up)
 |[],[],vals,as,ks,up,outs,_,h1,h2,h3,h4=>by
  cases vals with
  |cons=>exact h4.elim
  |nil=>
   simp only [dc] at h1;injection h1 with h1;subst h1;simp only [dB] at h2;injection h2 with h2;subst h2;cases outs with
   |cons=>simp [dJ] at h3
   |nil=>
    simp only [dJ] at h3;injection h3 with h3;subst h3;exact ⟨[],trivial,kg.nil,fun _ _ _ _ _ _=>⟨rfl,fun p hp=>by simp at hp⟩,fun b hb=>by simp [wA] at hb⟩
 |md::ms,v::vs,[],as,ks,up,outs,_,h1,h2,h3,h4=>h4.elim
 |md::ms,v::vs,u::vals,as,ks,up,outs,D5,h1,h2,h3,h4=>by
  have other: ∀(QB: ∀t,md≠ .own t) (Gp: ∀t,md≠ .mv t),∃Fs:List (List (List Nat→Option Nat)),rD S2 w as (u::vals) Fs∧kg g m ks Fs.flatten∧
   (∀(w':World) (SO SU:Nat→Prop),(∀b arr,dy w b arr→ ∃aG,dy w' b aG∧aG.size=arr.size)→(fC (md::ms)=true∨j7 (md::ms)=true∨ ∀b,SO b→SU b)→jd SO w' as (u::vals) Fs outs→up.map Prod.fst=ks∧ox g m SU w' up)∧
   (∀b,wA b as Fs→ ∃k p t xs,g.f k p=some b∧lk k m=some (.seq t xs)∧(k,Chunk.gone)∈up):=by
   intro QB Gp;have e1:dc mA mB m2 (md::ms) (v::vs)=(match pd mB m2 md v,dc mA mB m2 ms vs with|some a,some as=>some (a::as)|_,_=>none):=by
    cases md<;>first|rfl|exact absurd rfl (QB _)|exact absurd rfl (Gp _)
   have e2:dB m (md::ms) (v::vs)=dB m ms vs:=by cases md<;>first|rfl|exact absurd rfl (QB _)|exact absurd rfl (Gp _)
   have e3:dJ (md::ms) (v::vs) outs=dJ ms vs outs:=by cases md<;>first|rfl|exact absurd rfl (QB _)|exact absurd rfl (Gp _)
   have e4:fC (md::ms)=fC ms:=by cases md<;>first|rfl|exact absurd rfl (QB _)|exact absurd rfl (Gp _)
   have e5:j7 (md::ms)=j7 ms:=by cases md<;>first|rfl|exact absurd rfl (QB _)|exact absurd rfl (Gp _)
   rw [e1] at h1;rw [e2] at h2;rw [e3] at h3;split at h1;rename_i a Tx ha has;injection h1 with h1;subst h1;obtain ⟨Fs,k1,k2,k5,k6⟩:=pT hm hS hR hA Jp (by rw [←e5];exact D5) has h2 h3 h4.2;have NN:Jn S2 w a u []∧(∀t x,a≠ .own t x)∧(∀t x,a≠ .mv t x):=by
    have hv:=h4.1;have au: ∀t,md= .au t→Jn S2 w a u []∧(∀t x,a≠ .own t x)∧(∀t x,a≠ .mv t x):=by
     intro t e;subst e;have ha:iK m2 (.au t) v=some a:=ha;simp only [iK] at ha;split at ha;rename_i x hx;injection ha with ha;subst ha;obtain ⟨cs,q1,q2⟩:=pO hS hR hx hv;exact ⟨⟨rfl,cs,q1,q2⟩,(fun _ _ e=>by cases e),fun _ _ e=>by cases e⟩;cases ha
    have ipc: ∀t t' x off,iK m2 (.gO t) (.one (.ip t' x off))=some a→VR g m S w (.one (.ip t' x off)) u→Jn S2 w a u []∧(∀t x,a≠ .own t x)∧(∀t x,a≠ .mv t x):=by
     intro t t' x off ha hv;simp only [iK] at ha;split at ha;rename_i y hy;injection ha with ha;subst ha;obtain ⟨ad,es,e,hs,br,cJ⟩:=hv;have bN:bB (CR g m S w) (il t' x) es:=lG t' cJ;obtain ⟨v1,v2,e2,r1,r2⟩:=jr hS hR t hy ((bN.drop off).take t.size);have:v2=[]:=by cases v2 with|nil=>rfl|cons=>exact r2.elim
     subst this;refine ⟨⟨rfl,ad.add off,v1,e,by rw [gW];exact hS _ hs,fun j q hq=> ?_,r1⟩,(fun _ _ e=>by cases e),fun _ _ e=>by cases e⟩;rw [add_add];rw [List.append_nil] at e2;rw [←e2,List.getElem?_take] at hq;split at hq;exact br _ q (by simpa using hq);cases hq;cases ha
    cases md with
    |own t=>exact absurd rfl (QB t)
    |mv t=>exact absurd rfl (Gp t)
    |nl=>
     cases v with
     |one c=>
      cases c with
      |ar=>
       simp only [pd,iK] at ha;injection ha with ha;subst ha;exact ⟨⟨rfl,hv⟩,(fun _ _ e=>by cases e),fun _ _ e=>by cases e⟩
      |_=>simp [pd,iK] at ha
     |_=>simp [pd,iK] at ha
    |au t=>exact au t rfl
    |fn=>
     cases v with
     |one c=>
      cases c with
      |fn f=>
       simp only [pd,iK] at ha;injection ha with ha;subst ha;exact ⟨⟨rfl,hv⟩,(fun _ _ e=>by cases e),fun _ _ e=>by cases e⟩
      |_=>simp [pd,iK] at ha
     |_=>simp [pd,iK] at ha
    |nM t=>
     cases v with
     |one c=>
      cases c with
      |nM f t' x=>
       simp only [pd,iK] at ha;split at ha;rename_i e;subst e;injection ha with ha;subst ha;obtain ⟨ad,es,e,hs,br,cJ⟩:=hv;exact ⟨⟨rfl,ad,es,e,hS _ hs,br,bS.keep (fun b hb=>⟨hS b hb,rfl⟩) _ es x cJ⟩,(fun _ _ e=>by cases e),fun _ _ e=>by cases e⟩;cases ha
      |_=>simp [pd,iK] at ha
     |_=>simp [pd,iK] at ha
    |gO t=>
     cases v with
     |one c=>
      cases c with
      |ip t' x off=>exact ipc t t' x off ha hv
      |ptr c off=>
       simp only [pd] at ha;split at ha;rename_i cs hl;split at ha;rename_i y hy;injection ha with ha;subst ha;obtain ⟨_,b,hg,e⟩:=hv;have TW:lk c m=some (.box cs):=by
        rcases hA with hA|hA
        rw [hA] at hl;simp [gI] at hl;rw [←hA];exact hl
       obtain ⟨b',arr,j8,dx,bN⟩:=hm c _ TW;rw [show g.f c []=some b from hg] at j8;injection j8 with j8;subst j8;obtain ⟨v1,v2,e2,r1,r2⟩:=jr hS hR t hy ((bN.drop off).take t.size);have:v2=[]:=by cases v2 with|nil=>rfl|cons=>exact r2.elim
       subst this;refine ⟨⟨rfl,⟨b,off,none⟩,v1,e,Jp c cs b hl hg,fun j q hq=> ?_,r1⟩,(fun _ _ e=>by cases e),fun _ _ e=>by cases e⟩;rw [bY,dx.cell];rw [List.append_nil] at e2;rw [←e2,List.getElem?_take] at hq;split at hq;simpa using hq;cases hq;cases ha;cases ha
      |_=>simp [pd,iK] at ha
     |_=>simp [pd,iK] at ha
   refine ⟨[]::Fs,⟨NN.1,k1⟩,by simpa using k2,fun w' SO SU fG hf ho=> ?_,fun b hb=> ?_⟩;refine k5 w' SO SU fG (by rw [e4,e5] at hf;exact hf) ?_;cases a with
   |own t x=>exact absurd rfl (NN.2.1 t x)
   |mv t x=>exact absurd rfl (NN.2.2 t x)
   |au t x=>exact ho
   |gO t x=>exact ho
   |fn f=>exact ho
   |nM f t x=>exact ho
   |nl=>exact ho
   refine k6 b ?_;cases a with
   |mv t x=>exact absurd rfl (NN.2.2 t x)
   |_=>exact hb
   cases h1
  cases md with
  |au t=>exact other (fun _ e=>by cases e) (fun _ e=>by cases e)
  |gO t=>exact other (fun _ e=>by cases e) (fun _ e=>by cases e)
  |fn=>exact other (fun _ e=>by cases e) (fun _ e=>by cases e)
  |nM t=>exact other (fun _ e=>by cases e) (fun _ e=>by cases e)
  |nl=>exact other (fun _ e=>by cases e) (fun _ e=>by cases e)
  |mv t=>
   have TX:mA=m:=by
    rcases D5 with D5|D5
    exact D5;cases D5
   simp only [dc] at h1;split at h1;rename_i a Tx ha has;injection h1 with h1;subst h1;simp only [iK] at ha;split at ha;rename_i x hx;rw [TX] at hx;injection ha with ha;subst ha;simp only [dB] at h2;split at h2;rename_i Te TU Gq dU;injection h2 with h2;subst h2;simp only [dJ] at h3;split at h3;rename_i aaz u2 zi TY;rw [pf t _ Gq] at zi;injection zi with zi;injection zi with zi _;subst zi;injection h3 with h3;subst h3;obtain ⟨Fs,k1,k2,k5,k6⟩:=pT hm hS hR hA Jp (.inl TX) has dU TY h4.2;have ns: ∃vcs,dO t vcs u∧bB (CR g m S w) v.cells vcs∧impl m t v.cells=some (x,[]):=by
    have hv:=h4.1;unfold mr at hx;split at hx;rename_i c mN;split at hx;rename_i y hy;injection hx with hx;subst hx;exact ⟨[u],by simp [dO,mN],⟨hv,trivial⟩,hy⟩;cases hx;rename_i cs mN;split at hx;rename_i y hy;injection hx with hx;subst hx;obtain ⟨Tf,e,kI⟩:=hv;exact ⟨Tf,by simp [dO,mN,e],kI,hy⟩;cases hx;cases hx
   obtain ⟨vcs,hval,bN,himp⟩:=ns;obtain ⟨v1,v2,F1,e1,o1,a1,q1,s1,p1,n1⟩:=CJ hm hS t himp Gq bN;have:v2=[]:=by cases v2 with|nil=>rfl|cons=>exact a1.elim
   subst this;rw [List.append_nil] at e1;subst e1;have A5:=p1;refine ⟨F1::Fs,⟨⟨vcs,hval,o1⟩,k1⟩,by simpa using s1.app k2,fun w' SO SU fG hf ho=> ?_,fun b hb=> ?_⟩;have hf:fC ms=true∨j7 ms=true∨ ∀b,SO b→SU b:=by
    rcases hf with hf|hf|hf
    exact .inl hf;cases hf;exact .inr (.inr hf)
   obtain ⟨g3,g4⟩:=k5 w' SO SU fG hf ho;refine ⟨by simp [g3,List.map_map,Function.comp_def],fun p hp=> ?_⟩;rcases List.mem_append.1 hp with hp|hp
   obtain ⟨k,hk,rfl⟩:=List.mem_map.1 hp;obtain ⟨t',cE,fe⟩:=A5 k hk;exact ⟨t',cE,fe,.inl rfl⟩;exact g4 p hp;rcases hb with ⟨γ,hγ,p,hp⟩|hb
   obtain ⟨k,hk,p,t',cE,q1,q2⟩:=s1.dy hγ hp;exact ⟨k,p,t',cE,q1,q2,List.mem_append.2 (.inl (List.mem_map.2 ⟨k,hk,rfl⟩))⟩;obtain ⟨k,p,t',cE,q1,q2,q3⟩:=k6 b hb;exact ⟨k,p,t',cE,q1,q2,List.mem_append.2 (.inr q3)⟩;cases h3;cases h2;cases ha;cases h1
  |own t=>
   have TX:mA=m:=by
    rcases D5 with D5|D5
    exact D5;cases D5
   simp only [dc] at h1;split at h1;rename_i a Tx ha has;injection h1 with h1;subst h1;simp only [iK] at ha;split at ha;rename_i x hx;rw [TX] at hx;injection ha with ha;subst ha;simp only [dB] at h2;split at h2;rename_i Te TU Gq dU;injection h2 with h2;subst h2;cases outs with
   |nil=>simp [dJ] at h3
   |cons o outs=>
    simp only [dJ] at h3;split at h3;rename_i ht;split at h3;rename_i u1 u2 WC TY;injection h3 with h3;subst h3;obtain ⟨Fs,k1,k2,k5,k6⟩:=pT hm hS hR hA Jp (.inl TX) has dU TY h4.2;have ns: ∃vcs,dO t vcs u∧bB (CR g m S w) v.cells vcs∧impl m t v.cells=some (x,[]):=by
     have hv:=h4.1;unfold mr at hx;split at hx;rename_i c mN;split at hx;rename_i y hy;injection hx with hx;subst hx;exact ⟨[u],by simp [dO,mN],⟨hv,trivial⟩,hy⟩;cases hx;rename_i cs mN;split at hx;rename_i y hy;injection hx with hx;subst hx;obtain ⟨Tf,e,kI⟩:=hv;exact ⟨Tf,by simp [dO,mN,e],kI,hy⟩;cases hx;cases hx
    obtain ⟨vcs,hval,bN,himp⟩:=ns;obtain ⟨v1,v2,F1,e1,o1,a1,q1,s1,p1,n1⟩:=CJ hm hS t himp Gq bN;have:v2=[]:=by cases v2 with|nil=>rfl|cons=>exact a1.elim
    subst this;rw [List.append_nil] at e1;subst e1;refine ⟨F1::Fs,⟨⟨vcs,hval,o1⟩,k1⟩,by simpa using s1.app k2,fun w' SO SU fG hf ho=> ?_,fun b hb=> ?_⟩;have hf:(t.lb=true∨ ∀b,SO b→SU b)∧(fC ms=true∨j7 ms=true∨ ∀b,SO b→SU b):=by
     rcases hf with hf|hf|hf
     have hf:t.lb=true∧fC ms=true:=by simpa [fC] using hf
     exact ⟨.inl hf.1,.inl hf.2⟩;cases hf;exact ⟨.inr hf,.inr (.inr hf)⟩
    obtain ⟨⟨WD,oy,BC,WE,WG⟩,xx⟩:=ho;have Ns:oy=vcs:=by
     unfold dO at hval BC;split at hval;rename_i mN;rw [if_pos mN] at BC;rw [hval] at BC;simpa using BC.symm;rename_i mN;rw [if_neg mN] at BC;rw [hval,BC]
    subst Ns;obtain ⟨g1,g2,_⟩:=n1 w' SO SU _ _ _ fG hf.1 WC WE WG;obtain ⟨g3,g4⟩:=k5 w' SO SU fG hf.2 xx;refine ⟨by simp [g1,g3],fun p hp=> ?_⟩;rcases List.mem_append.1 hp with hp|hp
    exact g2 p hp;exact g4 p hp;obtain ⟨k,p,t',cE,q1,q2,q3⟩:=k6 b hb;exact ⟨k,p,t',cE,q1,q2,List.mem_append.2 (.inr q3)⟩;cases h3;cases h3
   cases h2;cases ha;cases h1
 |[],_::_,_,_,_,_,_,_,h1,_,_,_=>by simp [dc] at h1
 |md::_,[],_,_,_,_,_,_,h1,_,_,_=>by cases md<;>simp [dc] at h1
end
end Go.Ide
namespace Go.Ide
theorem nI.mono {g:GM}{m:Mem}{S S':Nat→Prop}{w:World}(h: ∀b,S b→S' b):nI g g m m S S' w w:=
 ⟨⟨fun b hb=>⟨h b hb,rfl⟩,fun _ hc=>⟨hc,rfl⟩,fun _ _ xs _ hl=>⟨xs,hl,rfl⟩,fun _ _ _ _ arr _ _ _ hb=>⟨arr,hb,rfl⟩⟩,fun _ _=>rfl,
  fun _ _ xs _ hl=>⟨xs,hl,cl.refl _ _,fun _ _ _ arr _ hb=>⟨arr,hb,rfl⟩⟩⟩
section
variable {S S':Nat→Prop} {w w':World}
theorem gw.mono (h: ∀b,S b→S' b){t:Ty}{cs:List Value}{xs:List t.D}{A:List (List Nat→Option Nat)}(hr:gw S w t cs xs A):gw S' w t cs xs A:=by
 rcases hr with hr|⟨v,γ,eA,e,b,cap,arr,k1,k2,k3,k4,k5,k6,k7,k8⟩
 exact .inl hr;exact .inr ⟨v,γ,eA,e,b,cap,arr,k1,k2,k3,k4,k5,k6,k7,k8.keep (fun b hb=>⟨h b hb,rfl⟩) fun _ _ _=>rfl⟩
theorem dh.mono (h: ∀b,S b→S' b): ∀(t:Ty) {cs:List Value} {x:t.D} {A:List (List Nat→Option Nat)},dh S w t cs x A→dh S' w t cs x A
 | .int _,_,_,_,hr=>hr
 | .aX _,_,_,_,hr=>hr
 | .bool,_,_,_,hr=>hr
 | .str,_,_,_,hr=>hr
 | .pair a b,_,_,_,⟨c1,c2,F1,F2,e1,e2,h1,h2⟩=>⟨c1,c2,F1,F2,e1,e2,dh.mono h a h1,dh.mono h b h2⟩
 | .st t,_,_,_,hr=>dh.mono h t (cs:=_) hr
 | .sl t,_,_,_,hr=>gw.mono h hr
 | .bx t,_,_,_,⟨γ,b,arr,eA,e,h0,h1,h2⟩=>⟨γ,b,arr,eA,e,h0,h1,h2.keep (fun b hb=>⟨h b hb,rfl⟩) fun _ _ _=>rfl⟩
 | .own t,_,_,_,hr=>gw.mono h hr
theorem gw.flat {t:Ty}(hf:t.iZ=true){cs:List Value}{xs:List t.D}{A:List (List Nat→Option Nat)}(hr:gw S w t cs xs A):gw S' w t cs xs A:=by
 rcases hr with hr|⟨v,γ,eA,e,b,cap,arr,k1,k2,k3,k4,k5,k6,k7,k8⟩
 exact .inl hr;exact .inr ⟨v,γ,eA,e,b,cap,arr,k1,k2,k3,k4,k5,k6,k7,k8.iZ hf⟩
theorem dh.lb: ∀(t:Ty) {cs:List Value} {x:t.D} {A:List (List Nat→Option Nat)},t.lb=true→dh S w t cs x A→dh S' w t cs x A
 | .int _,_,_,_,_,hr=>hr
 | .aX _,_,_,_,_,hr=>hr
 | .bool,_,_,_,_,hr=>hr
 | .str,_,_,_,_,hr=>hr
 | .pair a b,_,_,_,hf,⟨c1,c2,F1,F2,e1,e2,h1,h2⟩=>by
  simp only [Ty.lb,Bool.and_eq_true] at hf;exact ⟨c1,c2,F1,F2,e1,e2,dh.lb a hf.1 h1,dh.lb b hf.2 h2⟩
 | .st t,_,_,_,hf,hr=>dh.lb t (cs:=_) hf hr
 | .sl t,_,_,_,hf,hr=>gw.flat hf hr
 | .bx t,_,_,_,hf,⟨γ,b,arr,eA,e,h0,h1,h2⟩=>⟨γ,b,arr,eA,e,h0,h1,h2.iZ hf⟩
 | .own t,_,_,_,hf,hr=>gw.flat hf hr
theorem nR.mono (h: ∀b,S b→S' b): ∀{rs:List RV} {vs:List Value} {A:List (List Nat→Option Nat)},nR S w rs vs A→nR S' w rs vs A
 |[],[],_,hr=>hr
 |r::rs,v::vs,_,⟨F1,F2,e,h1,h2⟩=>by
  refine ⟨F1,F2,e,?_,nR.mono h h2⟩;unfold zg at h1⊢;split at h1;rename_i hf;rw [if_pos hf];obtain ⟨cs,k1,k2⟩:=h1;exact ⟨cs,k1,dh.mono h _ k2⟩;rename_i hf;rw [if_neg hf];obtain ⟨k0,cs,k1,k2⟩:=h1;exact ⟨k0,cs,k1,bS.keep (fun b hb=>⟨h b hb,rfl⟩) _ _ _ k2⟩
 |[],_::_,_,hr=>hr.elim
 |_::_,[],_,hr=>hr.elim
theorem nR.alone: ∀{rs:List RV} {vs:List Value} {A:List (List Nat→Option Nat)},rs.all RV.u6=true→nR S w rs vs A→nR S' w rs vs A
 |[],[],_,_,hr=>hr
 |r::rs,v::vs,_,ho,⟨F1,F2,e,h1,h2⟩=>by
  simp only [List.all_cons,Bool.and_eq_true] at ho;refine ⟨F1,F2,e,?_,nR.alone ho.2 h2⟩;have TZ:=ho.1;unfold RV.u6 at TZ;unfold zg at h1⊢;split at h1;rename_i hf;rw [if_pos hf] at TZ⊢;obtain ⟨cs,k1,k2⟩:=h1;exact ⟨cs,k1,dh.lb _ TZ k2⟩;rename_i hf;rw [if_neg hf] at TZ⊢;obtain ⟨k0,cs,k1,k2⟩:=h1;exact ⟨k0,cs,k1,bS.flat _ TZ k2⟩
 |[],_::_,_,_,hr=>hr.elim
 |_::_,[],_,_,hr=>hr.elim
end
theorem mD {α:Type}: ∀{l:List (Nat×α)} {k:Nat} {v:α},lk k l=some v→(k,v)∈l
 |[],_,_,h=>by simp [gI] at h
 |(k',v')::l,k,v,h=>by
  rw [aS] at h;split at h;rename_i e;subst e;injection h with h;subst h;simp
  exact List.mem_cons_of_mem _ (mD h)
theorem zj {α:Type}: ∀{l:List (Nat×α)} {k:Nat} {v:α},(l.map Prod.fst).Nodup→(k,v)∈l→lk k l=some v
 |[],_,_,_,h=>by simp at h
 |(k',v')::l,k,v,hn,h=>by
  simp only [List.map_cons,List.nodup_cons] at hn;rw [aS];rcases List.mem_cons.1 h with h|h
  injection h with h1 h2;rw [if_pos h1,h2];have:k≠k':=fun e=>hn.1 (by rw [←e];exact List.mem_map.2 ⟨(k,v),h,rfl⟩);rw [if_neg this];exact zj hn.2 h
theorem H8 {α:Type}: ∀{l:List (Nat×α)} {k:Nat},lk k l=none→k ∉ l.map Prod.fst
 |[],_,_=>by simp
 |(k',v')::l,k,h=>by
  rw [aS] at h;split at h;cases h;rename_i e;simp only [List.map_cons,List.mem_cons,not_or];exact ⟨e,H8 h⟩
theorem js: ∀{l:List Nat},mw l=true→l.Nodup
 |[],_=>by simp
 |a::l,h=>by
  simp only [mw,Bool.and_eq_true,List.all_eq_true,Bool.not_eq_true'] at h;refine List.nodup_cons.2 ⟨fun hm=> ?_,js h.2⟩;have:=h.1 a hm;rw [show Nat.beq a a=true from Nat.beq_refl a] at this;cases this
section
variable {cx:Cx} {g:GM} {st:St} {a:Act} {w w':World}
theorem qD.at {A:List (List Nat→Option Nat)}(h:qD A){i j:Nat}{γ γ':List Nat→Option Nat}{p q:List Nat}{b:Nat}(hi:A[i]? =some γ)(hj:A[j]? =some γ')(hp:γ p=some b)(hq:γ' q=some b):i=j∧p=q:=by
 have cq: ∀(i j:Nat) (γ γ':List Nat→Option Nat) (p q:List Nat),A[i]? =some γ→A[j]? =some γ'→γ p=some b→γ' q=some b→ ¬i<j:=fun i j γ γ' p q hi hj hp hq hl=>by
  obtain ⟨T1,e1⟩:=List.getElem?_eq_some_iff.1 hi;obtain ⟨NO,e2⟩:=List.getElem?_eq_some_iff.1 hj;exact List.pairwise_iff_getElem.1 h.1 i j T1 NO hl p q b (by rw [e1];exact hp) (by rw [e2];exact hq)
 have e:i=j:=by
  rcases Nat.lt_trichotomy i j with hl|e|hl
  exact absurd hl (cq i j γ γ' p q hi hj hp hq);exact e;exact absurd hl (cq j i γ' γ q p hj hi hq hp)
 subst e;rw [hi] at hj;injection hj with hj;subst hj;exact ⟨rfl,h.2 γ (List.mem_of_getElem? hi) p q b hp hq⟩
theorem pK.call {rs:List RV}{up:Mem}{ks F':List Nat}{M:Nat→Prop}{F:List Nat}{D4:List (List Nat→Option Nat)}{vs:List Value}{v:Value}{e:ca}{SX:Nat→Prop}(h:dw cx g st a w)(hw:fH st.mem e.new)(he:e=⟨Jo (lK rs st.nx).1,bG st.nx (lK rs st.nx).2,up,e.cond⟩)(hk:bK F w w')(hF: ∀b,b∈F→ ∃k,k∈ks∧ ∃p t xs,g.f k p=some b∧lk k st.mem=some (.seq t xs))(o5:up.map Prod.fst=ks)(hu:ox g st.mem SX w' up)(jL:zf D4 F')(hn:qD D4)(nt: ∀b,b∈F'→(w.heap.size≤b∨M b)∧b<w'.heap.size)(hM: ∀b,M b→b∈F∧ ∃k p t xs,g.f k p=some b∧lk k st.mem=some (.seq t xs)∧lk k up=some .gone)(hSX: ∀b,SX b→b<w'.heap.size∧(b<cx.w0.heap.size→cx.S b)∧ ¬Live g st.mem b∧b ∉ F')(hr:nR SX w' rs vs D4)(hv:H5 vs v):pK cx st a e v w':=by
 obtain ⟨mQ,T2⟩:=BB st.nx hr;let o7:=(lK rs st.nx).2;let g':GM:=⟨fun k=>if st.nx≤k then (match D4[k - st.nx]? with|some o=>o|none=>g.f k) else g.f k⟩;have vl: ∀j,j<o7.length→lk (st.nx+j) st.mem=none:=fun j hj=>by
  have CA:(st.nx+j,o7[j])∈e.new:=by
   rw [he];exact mD (by rw [dP,if_pos (by omega),show st.nx+j - st.nx=j from by omega];exact List.getElem?_eq_getElem hj)
  exact hw _ CA
 let m':Mem:=up++bG st.nx o7++st.mem;have hold: ∀k,lk k st.mem≠none→st.nx≤k→o7.length≤k - st.nx:=fun k jq hle=>by
  rcases Nat.lt_or_ge (k - st.nx) o7.length with cq|pv
  exact absurd (by have:=vl _ cq;rwa [show st.nx+(k - st.nx)=k from by omega] at this) jq;exact pv
 have qG: ∀k,lk k st.mem≠none→g'.f k=g.f k:=fun k jq=>by
  show (if st.nx≤k then _ else _)=_;by_cases hle:st.nx≤k;rw [if_pos hle,List.getElem?_eq_none (by rw [mQ];exact hold k jq hle)];rw [if_neg hle]
 have oz: ∀j o,D4[j]? =some o→g'.f (st.nx+j)=o:=fun j o hj=>by
  show (if st.nx≤st.nx+j then _ else _)=_;rw [if_pos (by omega),show st.nx+j - st.nx=j from by omega,hj]
 have Gr: ∀k ch,lk k up=some ch→ ∃t xs,lk k st.mem=some (.seq t xs):=fun k ch hk=>by
  obtain ⟨t,xs,h1,_⟩:=hu _ (mD hk);exact ⟨t,xs,h1⟩
 have CK: ∀j ch,o7[j]? =some ch→lk (st.nx+j) m'=some ch:=fun j ch hj=>by
  show lk _ (up++bG st.nx o7++st.mem)=_;have h1:lk (st.nx+j) up=none:=by
   cases hx:lk (st.nx+j) up with
   |none=>rfl
   |some c0=>
    obtain ⟨t,xs,h1⟩:=Gr _ _ hx;rw [vl j (List.getElem?_eq_some_iff.1 hj).1] at h1;cases h1
  rw [bQ,bQ,h1,dP,if_pos (by omega),show st.nx+j - st.nx=j from by omega,hj];rfl
 have wB: ∀k ch,lk k st.mem=some ch→lk k up=none→lk k m'=some ch:=fun k ch hk KH=>by
  show lk _ (up++bG st.nx o7++st.mem)=_;have WH:lk k (bG st.nx o7)=none:=by
   rw [dP];by_cases hle:st.nx≤k;rw [if_pos hle];exact List.getElem?_eq_none (hold k (by rw [hk];simp) hle);rw [if_neg hle]
  rw [bQ,bQ,KH,WH,hk];rfl
 have wC: ∀k ch,lk k m'=some ch→lk k st.mem=none→ ∃j,k=st.nx+j∧o7[j]? =some ch:=fun k ch hk vh=>by
  have hk:lk k (up++bG st.nx o7++st.mem)=some ch:=hk;have KH:lk k up=none:=by
   cases hx:lk k up with
   |none=>rfl
   |some c0=>
    obtain ⟨t,xs,h1⟩:=Gr _ _ hx;rw [h1] at vh;cases vh
  rw [bQ,bQ,KH,dP,vh] at hk;by_cases hle:st.nx≤k;rw [if_pos hle] at hk;refine ⟨k - st.nx,by omega,?_⟩;cases hx:o7[k - st.nx]? with
  |none=>rw [hx] at hk;simp at hk
  |some c0=>rw [hx] at hk;simpa using hk
  rw [if_neg hle] at hk;simp at hk
 obtain ⟨KD,zk⟩:=T2 g' m' CK oz;have KP: ∀(j:Nat) (γ:List Nat→Option Nat) (p:List Nat) (b:Nat),D4[j]? =some γ→γ p=some b→b∈F':=fun j γ p b hj hp=>(jL b).2 ⟨γ,List.mem_of_getElem? hj,p,hp⟩;have PE: ∀k p ch,lk k m'=some ch→ch.owns p→(∃c0,lk k st.mem=some c0∧c0.owns p)∨(lk k st.mem=none∧ ∃j o,k=st.nx+j∧D4[j]? =some o):=fun k p ch hk hn=>by
  cases ho:lk k st.mem with
  |none=>
   obtain ⟨j,e,hj⟩:=wC k ch hk ho;obtain ⟨_,o,xx,_⟩:=zk.chunk j ch hj;exact .inr ⟨rfl,j,o,e,xx⟩
  |some c0=>
   left;refine ⟨c0,rfl,?_⟩;cases hx:lk k up with
   |none=>rw [wB k c0 ho hx] at hk;injection hk with hk;rw [hk];exact hn
   |some c1=>
    obtain ⟨t,xs,h1⟩:=Gr _ _ hx;rw [h1] at ho;injection ho with ho;rw [←ho];trivial
 have dN: ∀b,SX b→cx.safe g' m' w' b:=fun b hb=>by
  obtain ⟨h1,h2,h3,h4⟩:=hSX b hb;refine ⟨h1,h2,?_⟩;rintro ⟨k,p,ch,gP,Cr,j8⟩;rcases PE k p ch gP Cr with ⟨c0,ho,Ek⟩|⟨_,j,o,e,hj⟩
  exact h3 ⟨k,p,c0,ho,Ek,by rw [←qG k (by rw [ho];simp)];exact j8⟩;subst e;rw [oz j o hj] at j8;exact h4 (KP j o p b hj j8)
 have t:AY cx g g' st.mem m' w w' F:=by
  refine ⟨hk,fun b hb=> ?_,qG,fun k ch ho=> ?_,fun k ch ho gP=> ?_⟩;obtain ⟨k,_,p,t,xs,h1,h2⟩:=hF b hb;exact ⟨k,p,_,h2,trivial,h1⟩;cases hx:lk k up with
  |none=>
   refine .inl ⟨wB k ch ho hx,fun p b hn H9 Ks=> ?_⟩;obtain ⟨k',gP,p',t,xs,h1,h2⟩:=hF b Ks;have:=(h.lz k k' p p' ch _ b ho hn h2 trivial H9 h1).1;subst this;rw [←o5] at gP;exact H8 hx gP
  |some c1=>
   obtain ⟨t,xs,h1,h2⟩:=hu _ (mD hx);simp only at h1 h2;rw [ho] at h1;injection h1 with h1;subst h1;rcases h2 with h2|⟨cE,h2,h3,h4⟩
   subst h2;refine .inr (.inl ?_);show lk _ (up++bG st.nx o7++st.mem)=_;rw [bQ,bQ,hx];rfl;subst h2;refine .inr (.inr ⟨by simp,.seq t cE,?_,by simp,fun _ _=>trivial,fun t0 VK e=> ?_,fun t0 VK e=> ?_,fun p b arr _ _ hb=>hk.sz b arr hb,?_⟩);show lk _ (up++bG st.nx o7++st.mem)=_;rw [bQ,bQ,hx];rfl;obtain ⟨e1,e2⟩:=tb e;subst e1;subst e2;exact ⟨xs,.inl rfl,h3.1⟩;injection e with e1 e2;subst e1;have e2:=eq_of_heq e2;subst e2;exact ⟨xs,rfl,h3⟩;rw [qG k (by rw [ho];simp)];unfold kd;cases qp:g.f k [] with
   |none=>rw [qp] at h4;exact h4
   |some b=>
    rw [qp] at h4;obtain ⟨arr,k1,k2⟩:=h4;exact ⟨arr,k1,k2.keep (fun b hb=>⟨dN b hb,rfl⟩) fun _ _ _=>rfl⟩
  obtain ⟨j,e,hj⟩:=wC k ch gP ho;subst e;obtain ⟨hng,o,Jq,cY⟩:=zk.chunk j ch hj;refine ⟨?_,fun p b _ H9=> ?_⟩;rw [oz j o Jq];exact kd.stays (nI.mono dN) (fun _ _ _ _=>rfl) cY;rw [oz j o Jq] at H9;have Ks:=KP j o p b Jq H9;have ur:(w.heap.size≤b∨b∈F)∧ ∀k' p' c0 jM,lk k' st.mem=some c0→c0.owns p'→g.f k' p'=some b→lk k' m'=some jM→jM≠ .gone→False:=by
   rcases (nt b Ks).1 with pv|hMb
   exact ⟨.inl pv,fun k' p' c0 jM D6 Ek u9 _ _=>by have:=h.lt k' p' c0 b D6 Ek u9;omega⟩;obtain ⟨WI,km,pm,tm,xm,q1,q2,q3⟩:=hM b hMb;refine ⟨.inr WI,fun k' p' c0 jM D6 Ek u9 dU ld=> ?_⟩;have:=(h.lz k' km p' pm c0 _ b D6 Ek q2 trivial u9 q1).1;subst this;have dU:lk k' (up++bG st.nx o7++st.mem)=some jM:=dU;rw [bQ,bQ,q3] at dU;have dU:some Chunk.gone=some jM:=dU;injection dU with dU;exact ld dU.symm
  refine ⟨ur.1,(nt b Ks).2,fun k' p' jM dU ld u9=> ?_⟩;rcases PE k' p' jM dU ld with ⟨c0,D6,Ek⟩|⟨_,j2,o2,e2,Gn⟩
  exact (ur.2 k' p' c0 jM D6 Ek (by rw [←qG k' (by rw [D6];simp)];exact u9) dU (Chunk.HN ld)).elim;subst e2;rw [oz j2 o2 Gn] at u9;obtain ⟨e1,e2⟩:=hn.at Gn Jq u9 H9;exact ⟨by rw [e1],e2⟩
 have hs:=h.AZ (nx':=st.nx+(bG st.nx o7).length) t;refine ⟨g',?_,?_⟩;rw [he];exact hs;rw [he];exact VR.stays (nI.mono dN) (NM KD hv)
theorem xB {ms:List Mode}{rs:List RV}{outs:List TD}{f:FuncId}{vs:List aE}{vals:List Value}{e:ca}(h:dw cx g st a w)(hw:fH st.mem e.new)(he:zh cx.P st.mem st.nx ms rs outs f vs=some e)(hc:bH e.cond)(hv:bB (VR g st.mem (cx.safe g st.mem w) w) vs vals):H6 cx.P f∧Calls cx.P f vals.toArray w fun en w'=> ∃v,en= .returned v∧pK cx st a e v w':=by
 unfold zh at he;split at he;rename_i ks up HQ o5;split at he;rename_i as has;cases hb:(ks.isEmpty&&j7 ms) with
 |false=>rw [hb] at he;cases he
 |true=>
  rw [hb] at he;simp only [cond_true] at he;simp only [Bool.and_eq_true,List.isEmpty_iff] at hb;injection he with he;obtain ⟨sY,D5⟩:=hb;subst sY;have FU:CallOK cx.P f as rs outs:=by rw [←he] at hc;exact hc.1
  obtain ⟨Fs,k1,k2,k5,k6⟩:=pT (mA:=[]) (mB:=[]) (m2:=[]) (S2:=cx.safe g st.mem w) h.mem (fun _ h=>h) i9.nil (.inl rfl) (fun c cs b hl=>by simp [gI] at hl) (.inr D5) has HQ o5 hv;have VL: ∀γ,γ∈Fs.flatten→ ∀p,γ p=none:=fun γ hγ p=>by
   cases hp:γ p with
   |none=>rfl
   |some b=>obtain ⟨k,hk,_⟩:=k2.dy hγ hp;simp at hk
  have hB:zf Fs.flatten []:=fun b=>⟨fun h=>by simp at h,fun ⟨γ,hγ,p,hp⟩=>by rw [VL γ hγ p] at hp;cases hp⟩;refine ⟨FU.1,(FU.2 w (cx.safe g st.mem w) vals Fs [] hB (k2.inj h.NK (by simp)) (fun b hb=>⟨hb.1,by simp⟩) (by simp) k1 h.Ql).mono ?_⟩;rintro en w' ⟨v,A',F',e1,jL,hn,⟨us,T3,T4⟩,nt,eO,Er⟩;refine ⟨v,e1,?_⟩;obtain ⟨u1,u2⟩:=k5 w' _ (kL (cx.safe g st.mem w) w w' F') eO.sz (.inr (.inl D5)) Er;refine pK.call (SX:=kL (cx.safe g st.mem w) w w' F') (ks:=[]) (up:=up) h hw (by rw [←he]) eO (by simp) u1 u2 jL hn nt (fun b hb=>by obtain ⟨γ,hγ,p,hp⟩:=wA.sub hb;rw [VL γ hγ p] at hp;cases hp) (fun b hb=> ?_) T3 T4;obtain ⟨h1,h2,h3⟩:=hb;refine ⟨h1,fun cq=> ?_,?_,h3⟩;exact (h2 (Nat.lt_of_lt_of_le cq h.keep.size)).2.1 cq;rintro ⟨k,p,ch,q1,q2,q3⟩;exact (h2 (h.lt k p ch b q1 q2 q3)).2.2 ⟨k,p,ch,q1,q2,q3⟩
 cases A6:mw ks with
 |false=>rw [A6] at he;cases he
 |true=>
  rw [A6] at he;simp only [cond_true] at he;have NP:=js A6;cases hb:(rs.all RV.u6&&fC ms) with
  |true=>
   rw [hb] at he;simp only [cond_true] at he;simp only [Bool.and_eq_true] at hb;obtain ⟨QC,Ia⟩:=hb;split at he;rename_i as has;injection he with he;have FU:CallOK cx.P f as rs outs:=by rw [←he] at hc;exact hc.1
   let S2:Nat→Prop:=fun b=>b<w.heap.size∧ ∀c p,c∈ks→g.f c p=some b→ ∀t xs,lk c st.mem=some (.seq t xs)→False;have WJ: ∀(k:Nat) (l:List Nat),k ∉ l→lk k ((l.map fun k=>(k,Chunk.gone))++st.mem)=lk k st.mem:=by
    intro k l;induction l with
    |nil=>intro _;rfl
    |cons q l ih=>
     intro hk;simp only [List.mem_cons,not_or] at hk;simp only [List.map_cons,List.cons_append];rw [aS,if_neg hk.1];exact ih hk.2
   have T5: ∀(k:Nat) (l:List Nat),k∈l→lk k ((l.map fun k=>(k,Chunk.gone))++st.mem)=some .gone:=by
    intro k l;induction l with
    |nil=>intro hk;simp at hk
    |cons q l ih=>
     intro hk;simp only [List.map_cons,List.cons_append];rw [aS];by_cases e:k=q;rw [if_pos e];rw [if_neg e];exact ih (by simpa [e] using hk)
   have hR:i9 g st.mem ((ks.map fun k=>(k,Chunk.gone))++st.mem) S2 w:=by
    intro k t xs hl;by_cases hk:k∈ks;rw [T5 k ks hk] at hl;cases hl;rw [WJ k ks hk] at hl;refine ⟨hl,?_⟩;have WK: ∀p b,g.f k p=some b→S2 b:=fun p b hg=>⟨h.lt k p _ b hl trivial hg,fun c q hc Jm t' cE fe=>by
     have:=(h.lz k c p q _ _ b hl trivial fe trivial hg Jm).1;subst this;exact hk hc⟩
    refine ⟨WK,?_⟩;have cY:=h.mem k _ hl;unfold kd at cY;cases hg:g.f k [] with
    |none=>rw [show g k=none from hg];rw [hg] at cY;exact cY
    |some b=>
     rw [show g k=some b from hg];rw [hg] at cY;obtain ⟨arr,q1,q2⟩:=cY;exact ⟨arr,q1,q2.keep (fun b' ke=>⟨⟨ke.1,fun c p hc Jm t' cE fe=>ke.2.2 ⟨c,p,_,fe,trivial,Jm⟩⟩,rfl⟩) fun _ _ _=>rfl⟩
   obtain ⟨Fs,k1,k2,k5,k6⟩:=pT (mA:=st.mem) (mB:=st.mem) (m2:=(ks.map fun k=>(k,Chunk.gone))++st.mem) (S2:=S2) h.mem (fun b hb=>⟨hb.1,fun c p hc Jm t' cE fe=>hb.2.2 ⟨c,p,_,fe,trivial,Jm⟩⟩) hR (.inr rfl)
    (fun c cs b hl hg=>⟨h.ND hl (by simp) hg,fun c' p' Pz WL t' cE fe=>by
     have:=(h.lz c c' [] p' _ _ b hl trivial fe trivial hg WL).1;subst this;rw [hl] at fe;cases fe⟩) (.inl rfl) has HQ o5 hv
   have WM:qD Fs.flatten:=k2.inj h.NK NP;obtain ⟨F,hB⟩:=m4 (n:=w.heap.size) (A:=Fs.flatten) (fun γ hγ p b hp=>by
    obtain ⟨k,_,p',t,xs,q1,q2⟩:=k2.dy hγ hp;exact h.lt k p' _ b q2 trivial q1)
   have Nt: ∀b,b∈F→ ∃k,k∈ks∧ ∃p t xs,g.f k p=some b∧lk k st.mem=some (.seq t xs):=fun b hb=>by
    obtain ⟨γ,hγ,p,hp⟩:=(hB b).1 hb;exact k2.dy hγ hp
   refine ⟨FU.1,(FU.2 w S2 vals Fs F hB WM (fun b hb=>⟨hb.1,fun Ks=> ?_⟩) (fun b Ks=> ?_) k1 (Cp.mono (fun b hb=>⟨⟨hb.1,fun c p _ Jm t' cE fe=>hb.2.2 ⟨c,p,_,fe,trivial,Jm⟩⟩,rfl⟩) h.Ql)).mono ?_⟩;obtain ⟨c,h1,p,t,xs,h2,h3⟩:=Nt b Ks;exact hb.2 c p h1 h2 t xs h3;obtain ⟨c,h1,p,t,xs,h2,h3⟩:=Nt b Ks;exact h.lt c p _ b h3 trivial h2;rintro en w' ⟨v,A',F',e1,jL,hn,⟨us,T3,T4⟩,nt,eO,Er⟩;refine ⟨v,e1,?_⟩;obtain ⟨u1,u2⟩:=k5 w' _ (fun b=>b<w'.heap.size∧(b<cx.w0.heap.size→cx.S b)∧ ¬Live g st.mem b∧b ∉ F') eO.sz (.inl Ia) Er;exact pK.call (SX:=fun b=>b<w'.heap.size∧(b<cx.w0.heap.size→cx.S b)∧ ¬Live g st.mem b∧b ∉ F') (ks:=ks) (up:=up) h hw (by rw [←he]) eO Nt u1 u2 jL hn nt (fun b hb=>⟨(hB b).2 (wA.sub hb),by
    obtain ⟨k,p,t,xs,q1,q2,q3⟩:=k6 b hb;exact ⟨k,p,t,xs,q1,q2,zj (by rw [u1];exact NP) q3⟩⟩) (fun b hb=>hb) (nR.alone QC T3) T4
   cases he
  |false=>
   rw [hb] at he;simp only [cond_false] at he;split at he;rename_i as has;injection he with he;have FU:CallOK cx.P f as rs outs:=by rw [←he] at hc;exact hc.1
   obtain ⟨Fs,k1,k2,k5,k6⟩:=pT (mA:=st.mem) (mB:=[]) (m2:=[]) (S2:=cx.safe g st.mem w) h.mem (fun _ h=>h) i9.nil (.inl rfl) (fun c cs b hl=>by simp [gI] at hl) (.inl rfl) has HQ o5 hv;have WM:qD Fs.flatten:=k2.inj h.NK NP;obtain ⟨F,hB⟩:=m4 (n:=w.heap.size) (A:=Fs.flatten) (fun γ hγ p b hp=>by
    obtain ⟨k,_,p',t,xs,q1,q2⟩:=k2.dy hγ hp;exact h.lt k p' _ b q2 trivial q1)
   have Nt: ∀b,b∈F→ ∃k,k∈ks∧ ∃p t xs,g.f k p=some b∧lk k st.mem=some (.seq t xs):=fun b hb=>by
    obtain ⟨γ,hγ,p,hp⟩:=(hB b).1 hb;exact k2.dy hγ hp
   refine ⟨FU.1,(FU.2 w (cx.safe g st.mem w) vals Fs F hB WM (fun b hb=>⟨hb.1,fun Ks=> ?_⟩) (fun b Ks=> ?_) k1 h.Ql).mono ?_⟩;obtain ⟨c,h1,p,t,xs,h2,h3⟩:=Nt b Ks;exact hb.2.2 ⟨c,p,_,h3,trivial,h2⟩;obtain ⟨c,h1,p,t,xs,h2,h3⟩:=Nt b Ks;exact h.lt c p _ b h3 trivial h2;rintro en w' ⟨v,A',F',e1,jL,hn,⟨us,T3,T4⟩,nt,eO,Er⟩;refine ⟨v,e1,?_⟩;obtain ⟨u1,u2⟩:=k5 w' _ (kL (cx.safe g st.mem w) w w' F') eO.sz (.inr (.inr fun _ h=>h)) Er;refine pK.call (SX:=kL (cx.safe g st.mem w) w w' F') (ks:=ks) (up:=up) h hw (by rw [←he]) eO Nt u1 u2 jL hn nt (fun b hb=>⟨(hB b).2 (wA.sub hb),by
    obtain ⟨k,p,t,xs,q1,q2,q3⟩:=k6 b hb;exact ⟨k,p,t,xs,q1,q2,zj (by rw [u1];exact NP) q3⟩⟩) (fun b hb=> ?_) T3 T4
   obtain ⟨h1,h2,h3⟩:=hb;refine ⟨h1,fun cq=> ?_,?_,h3⟩;exact (h2 (Nat.lt_of_lt_of_le cq h.keep.size)).2.1 cq;rintro ⟨k,p,ch,q1,q2,q3⟩;exact (h2 (h.lt k p ch b q1 q2 q3)).2.2 ⟨k,p,ch,q1,q2,q3⟩;cases he
 cases he
end
end Go.Ide
namespace Go.Ide
def Jr:FloatKind→Nat
 | .f32=>2143289344
 | .f64=>9221120237041090560
def av (op:BinOp)(k:FloatKind)(x y:Nat):Nat:=
 match floatBits op k x y with
 |some r=>bw k r
 |none=>Jr k
def A7 (k:FloatKind)(x:Nat):Nat:=bw k (Op.negFloat k x)
def eg (k:FloatKind)(n:Int):Nat:=bw k (k.nearest n)
def pz (k:FloatKind)(x y:Nat):Bool:=k.format.order x y==some .eq
def aX (k:FloatKind)(x y:Nat):Bool:=k.format.order x y==some .lt
def vm (k:FloatKind)(x y:Nat):Bool:=k.format.order x y==some .lt||k.format.order x y==some .eq
def qI (k:FloatKind)(x y:Nat):Bool:=k.format.order x y==some .gt
def rT (k:FloatKind)(x y:Nat):Bool:=k.format.order x y==some .gt||k.format.order x y==some .eq
def dC (s k:FloatKind)(x:Nat):Bool:=
 if s=k then true else match s.decode x with
 | .number sg m e=> !(k.decode (k.encode (.number sg m e))).isInfinity
 |_=>true
def bD (s k:FloatKind)(x:Nat):Nat:=
 if s=k then x else match s.decode x with
 | .nan _ _=>Jr k
 | .infinity sg=>bw k (k.encode (.infinity sg))
 | .number sg m e=>bw k (k.encode (.number sg m e))
theorem CL (b:Nat):bw .f32 b=if b%2147483648>2139095040 then 2143289344 else b:=rfl
theorem A8 (b:Nat):bw .f64 b=if b%9223372036854775808>9218868437227405312 then 9221120237041090560 else b:=rfl
theorem oA (k:FloatKind)(b:Nat):bw k b=b∨ ∃s t s' t',k.format.read b= .nan s t∧k.format.read (bw k b)= .nan s' t':=by
 cases k;rw [CL];by_cases h:b%2147483648>2139095040;rw [if_pos h];right;refine ⟨(b/2147483648%2==1),b%2147483648 - 2139095040,_,_,?_,rfl⟩;have e1:FloatKind.f32.format.signWeight=2147483648:=by decide
 have e2:FloatKind.f32.format.binade=8388608:=by decide
 have e3:FloatKind.f32.format.infRung=2139095040:=by decide
 unfold Ieee.Format.read;simp only [e1,e2,e3];rw [if_neg (by omega),if_neg (by omega),if_neg (by omega)];rw [if_neg h];exact .inl rfl;rw [A8];by_cases h:b%9223372036854775808>9218868437227405312;rw [if_pos h];right;refine ⟨(b/9223372036854775808%2==1),b%9223372036854775808 - 9218868437227405312,_,_,?_,rfl⟩;have e1:FloatKind.f64.format.signWeight=9223372036854775808:=by decide
 have e2:FloatKind.f64.format.binade=4503599627370496:=by decide
 have e3:FloatKind.f64.format.infRung=9218868437227405312:=by decide
 unfold Ieee.Format.read;simp only [e1,e2,e3];rw [if_neg (by omega),if_neg (by omega),if_neg (by omega)];rw [if_neg h];exact .inl rfl
theorem KQ {s:Bool}{t:Nat}{d:Ieee.Datum}:Ieee.Datum.sum (.nan s t) d=none:=by cases d<;>rfl
theorem KR {s:Bool}{t:Nat}{d:Ieee.Datum}:Ieee.Datum.sum d (.nan s t)=none:=by cases d<;>rfl
theorem Js {s:Bool}{t:Nat}{d:Ieee.Datum}:Ieee.Datum.product (.nan s t) d=none:=by cases d<;>rfl
theorem Jt {s:Bool}{t:Nat}{d:Ieee.Datum}:Ieee.Datum.product d (.nan s t)=none:=by cases d<;>rfl
theorem KS {n:Nat}{s:Bool}{t:Nat}{d:Ieee.Datum}:Ieee.Datum.quotient n (.nan s t) d=none:=by cases d<;>rfl
theorem KT {n:Nat}{s:Bool}{t:Nat}{d:Ieee.Datum}:Ieee.Datum.quotient n d (.nan s t)=none:=by cases d<;>rfl
theorem zm {s:Bool}{t:Nat}{d:Ieee.Datum}:Ieee.Datum.order (.nan s t) d=none:=by cases d<;>rfl
theorem zn {s:Bool}{t:Nat}{d:Ieee.Datum}:Ieee.Datum.order d (.nan s t)=none:=by cases d<;>rfl
theorem yd (op:BinOp)(k:FloatKind)(x y:Nat):floatBits op k (bw k x) (bw k y)=floatBits op k x y:=by
 have h1: ∀x y,floatBits op k (bw k x) y=floatBits op k x y:=by
  intro x y;rcases oA k x with h|⟨s,t,s',t',q1,q2⟩
  rw [h];unfold floatBits;cases op<;>simp only [Ieee.Format.add,Ieee.Format.sub,Ieee.Format.mul,Ieee.Format.div,q1,q2,KQ,Js,KS]
 have h2: ∀x y,floatBits op k x (bw k y)=floatBits op k x y:=by
  intro x y;rcases oA k y with h|⟨s,t,s',t',q1,q2⟩
  rw [h];unfold floatBits;cases op<;>simp only [Ieee.Format.add,Ieee.Format.sub,Ieee.Format.mul,Ieee.Format.div,q1,q2,KR,Jt,KT,Ieee.Datum.opposite]
 rw [h1,h2]
theorem xC (k:FloatKind)(x y:Nat):k.format.order (bw k x) (bw k y)=k.format.order x y:=by
 have h1: ∀x y,k.format.order (bw k x) y=k.format.order x y:=by
  intro x y;rcases oA k x with h|⟨s,t,s',t',q1,q2⟩
  rw [h];unfold Ieee.Format.order;rw [q1,q2,zm,zm]
 have h2: ∀x y,k.format.order x (bw k y)=k.format.order x y:=by
  intro x y;rcases oA k y with h|⟨s,t,s',t',q1,q2⟩
  rw [h];unfold Ieee.Format.order;rw [q1,q2,zn,zn]
 rw [h1,h2]
theorem Ju (k:FloatKind)(b:Nat):bw k (Op.negFloat k (bw k b))=bw k (Op.negFloat k b):=by
 cases k;have e: ∀b,Op.negFloat .f32 b=b^^^2147483648:=fun b=>rfl;have hm: ∀b,(b^^^2147483648)%2147483648=b%2147483648:=fun b=>by
  have:=Nat.xor_mod_two_pow (a:=b) (b:=2147483648) (n:=31);simpa using this
 simp only [e];by_cases h:b%2147483648>2139095040;have h1:bw .f32 b=2143289344:=by rw [CL,if_pos h]
 have h2:bw .f32 (b^^^2147483648)=2143289344:=by rw [CL,hm,if_pos h]
 rw [h1,h2];decide;have h1:bw .f32 b=b:=by rw [CL,if_neg h]
 rw [h1];have e: ∀b,Op.negFloat .f64 b=b^^^9223372036854775808:=fun b=>rfl;have hm: ∀b,(b^^^9223372036854775808)%9223372036854775808=b%9223372036854775808:=fun b=>by
  have:=Nat.xor_mod_two_pow (a:=b) (b:=9223372036854775808) (n:=63);simpa using this
 simp only [e];by_cases h:b%9223372036854775808>9218868437227405312;have h1:bw .f64 b=9221120237041090560:=by rw [A8,if_pos h]
 have h2:bw .f64 (b^^^9223372036854775808)=9221120237041090560:=by rw [A8,hm,if_pos h]
 rw [h1,h2];decide;have h1:bw .f64 b=b:=by rw [A8,if_neg h]
 rw [h1]
theorem NQ (k:FloatKind)(x y t:Nat):bw k (Question.cut (.nanBits k x y) t)=Jr k:=by
 cases k;have e:Question.cut (.nanBits .f32 x y) t=(t%2)*2147483648+2139095040+1+(t/2)%8388607:=rfl;have h1:=Nat.mod_lt t (show 0<2 by decide);have h2:=Nat.mod_lt (t/2) (show 0<8388607 by decide);rw [e,CL];generalize t%2=p at h1;generalize t/2%8388607=q at h2;rw [if_pos (by omega)];rfl;have e:Question.cut (.nanBits .f64 x y) t=(t%2)*9223372036854775808+9218868437227405312+1+(t/2)%4503599627370495:=rfl;have h1:=Nat.mod_lt t (show 0<2 by decide);have h2:=Nat.mod_lt (t/2) (show 0<4503599627370495 by decide);rw [e,A8];generalize t%2=p at h1;generalize t/2%4503599627370495=q at h2;rw [if_pos (by omega)];rfl
theorem KU (k:FloatKind)(x t:Nat):bw k (Question.cut (.nanConv k x) t)=Jr k:=by
 cases k;have e:Question.cut (.nanConv .f32 x) t=(t%2)*2147483648+2139095040+1+(t/2)%8388607:=rfl;have h1:=Nat.mod_lt t (show 0<2 by decide);have h2:=Nat.mod_lt (t/2) (show 0<8388607 by decide);rw [e,CL];generalize t%2=p at h1;generalize t/2%8388607=q at h2;rw [if_pos (by omega)];rfl;have e:Question.cut (.nanConv .f64 x) t=(t%2)*9223372036854775808+9218868437227405312+1+(t/2)%4503599627370495:=rfl;have h1:=Nat.mod_lt t (show 0<2 by decide);have h2:=Nat.mod_lt (t/2) (show 0<4503599627370495 by decide);rw [e,A8];generalize t%2=p at h1;generalize t/2%4503599627370495=q at h2;rw [if_pos (by omega)];rfl
theorem Es (s k:FloatKind)(b:Nat)(h:s≠k):dC s k (bw s b)=dC s k b∧bD s k (bw s b)=bD s k b:=by
 rcases oA s b with e|⟨sg,t,sg',t',h1,h2⟩
 rw [e];exact ⟨rfl,rfl⟩;have h1:s.decode b= .nan sg t:=h1;have h2:s.decode (bw s b)= .nan sg' t':=h2;unfold dC bD;rw [if_neg h,if_neg h,if_neg h,if_neg h,h1,h2];exact ⟨rfl,rfl⟩
theorem QD (q kk:Nat)(h1:q≤1149)(h2:kk<9007199254740992):min (q*4503599627370496+kk) 9218868437227405312<9218868437227405312:=by omega
theorem oB (x:Nat):dC .f32 .f64 x=true:=by
 unfold dC;rw [if_neg (by decide)];split;rename_i sg m e hd;have hd:Ieee.single.read x= .number sg m e:=hd;have hm:m<16777216∧ -149≤e∧e≤104:=by
  have e1:Ieee.single.signWeight=2147483648:=by decide
  have e2:Ieee.single.binade=8388608:=by decide
  have e3:Ieee.single.infRung=2139095040:=by decide
  have e4:Ieee.single.leastPlace= -149:=by decide
  unfold Ieee.Format.read at hd;simp only [e1,e2,e3,e4] at hd;split at hd;injection hd with _ h2 h3;omega;split at hd;injection hd with _ h2 h3;have:=Nat.mod_lt (x%2147483648) (show 0<8388608 by decide);have h4:x%2147483648/8388608<255:=by omega
  omega;split at hd<;>cases hd
 have m5:(FloatKind.f64.decode (FloatKind.f64.encode (.number sg m e))).isInfinity=false:=by
  have e1:Ieee.double.signWeight=9223372036854775808:=by decide
  have e2:Ieee.double.binade=4503599627370496:=by decide
  have e3:Ieee.double.infRung=9218868437227405312:=by decide
  have e4:Ieee.double.leastPlace= -1074:=by decide
  have hw: ∃r,r<9218868437227405312∧FloatKind.f64.encode (.number sg m e)=Ieee.double.word sg r:=by
   show∃r,_∧Ieee.double.nearest sg m e=_;unfold Ieee.Format.nearest;by_cases h0:m=0;rw [if_pos h0];exact ⟨0,by decide,rfl⟩;rw [if_neg h0];refine ⟨_,?_,rfl⟩;have hl:m.log2≤23:=by
    have:m.log2<24:=(Nat.log2_lt h0).2 (by omega);omega
   have hfb:Ieee.double.fractionBits=52:=rfl;have Py:max (e+(m.log2:Int) - ((Ieee.double.fractionBits:Nat):Int)) Ieee.double.leastPlace=e+(m.log2:Int) - 52:=by
    rw [e4,hfb];omega
   rw [Py,e2,e3,e4];have Et:(e+(m.log2:Int) - 52 - e).toNat=0:=by omega
   have o5:(e - (e+(m.log2:Int) - 52)).toNat=52 - m.log2:=by omega
   rw [Et,o5];have WN:Ieee.Toward.even.cut sg (m<<<(52 - m.log2)) 0=m<<<(52 - m.log2):=by
    unfold Ieee.Toward.cut;simp [Nat.mod_one]
   rw [WN];have hk:m<<<(52 - m.log2)<9007199254740992:=by
    rw [Nat.shiftLeft_eq];have h2:m<2^(m.log2+1):=Nat.lt_log2_self;have h3:m*2^(52 - m.log2)<2^(m.log2+1)*2^(52 - m.log2):=(Nat.mul_lt_mul_right (Nat.two_pow_pos _)).2 h2;rw [←Nat.pow_add,show m.log2+1+(52 - m.log2)=53 from by omega] at h3;exact h3
   exact QD _ _ (by omega) hk
  obtain ⟨r,hr,hw⟩:=hw;rw [hw];show (Ieee.double.read (Ieee.double.word sg r)).isInfinity=false;have zc:Ieee.double.word sg r%9223372036854775808=r:=by
   unfold Ieee.Format.word;cases sg with
   |true=>simp only [if_true,e1];omega
   |false=>simp only [Bool.false_eq_true,if_false];omega
  unfold Ieee.Format.read;simp only [e1,e2,e3,zc];split;rfl
  first|rfl|(rw [if_pos hr];rfl)
 rw [m5];rfl;rfl
def Ib:BinOp→Bool
 | .add=>true
 | .sub=>true
 | .mul=>true
 | .quo=>true
 |_=>false
def KV (op:BinOp)(k:FloatKind)(x y:Nat):Option ca:=
 match op with
 | .eql=>bZ (.one (.aq .bool (pz k x y)))
 | .neq=>bZ (.one (.aq .bool (!pz k x y)))
 | .lss=>bZ (.one (.aq .bool (aX k x y)))
 | .leq=>bZ (.one (.aq .bool (vm k x y)))
 | .gtr=>bZ (.one (.aq .bool (qI k x y)))
 | .geq=>bZ (.one (.aq .bool (rT k x y)))
 |_=>none
def KW (P:Program)(cs ds:List aA):List Field→Option Bool
 |[]=>some true
 |f::r=>match P.underlying f.type,cs[f.offset]?,ds[f.offset]?,KW P cs ds r with
  |some (.int _),some (.aq (.int k) a),some (.aq (.int k') b),some e=>bif f.name=="_" then none else if k=k' then some ((a==b)&&e) else none
  |_,_,_,_=>none
def og (P:Program)(T:TypeId)(op:BinOp)(cs ds:List aA):Option ca:=
 match P.underlying T with
 |some (.struct fs)=>bif P.stoodInHeld T||P.eqGuardType P.depth T then none else
  (match op,KW P cs ds fs.toList with
  | .eql,some b=>bZ (.one (.aq .bool b))
  | .neq,some b=>bZ (.one (.aq .bool (!b)))
  |_,_=>none)
 |_=>none
def BD (P:Program)(T:TypeId)(op:BinOp)(x y:aE):Option ca:=
 match x,y with
 | .one (.aq (.aX k) a),.one (.aq (.aX k') b)=>if k=k' then (if Ib op then bZ (.one (.aq (.aX k) (av op k a b))) else KV op k a b) else none
 | .agg cs,.agg ds=>og P T op cs ds
 |x,y=>Ji P T op x y
def NR (op:UnOp)(x:aE):Option ca:=
 match op,x with
 | .neg,.one (.aq (.aX k) b)=>bZ (.one (.aq (.aX k) (A7 k b)))
 |op,x=>VE op x
def dr (P:Program)(T:TypeId):Bool:=
 match P.underlying T with
 |some (.slice e)=>(match P.underlying e with
  |some (.int .u8)=>true
  |_=>false)
 |_=>false
def eB (s:List UInt8):List Int:=s.map fun b=>((b.toNat:Nat):Int)
def uu (l:List Int):List UInt8:=l.map fun n=>UInt8.ofNat n.toNat
def VM (mx:Bool)(k:FloatKind)(a b:Nat):Nat:=
 match k.format.order a b with
 |some .lt=>bif mx then b else a
 |some .gt=>bif mx then a else b
 |_=>if (k.decode a).neg=mx then b else a
def VN (mx:Bool)(x y:aE):Option ca:=
 match x,y with
 | .one (.aq (.aX k) a),.one (.aq (.aX k') b)=>if k=k' then gM (.one (.aq (.aX k) (VM mx k a b))) [(k.format.order a b).isSome=true] else none
 |_,_=>none
def oh (P:Program)(m:Mem)(nx:Nat)(T U:TypeId)(x:aE):Option ca:=
 match P.underlying T,P.underlying U,x with
 |some _,some (.float k),.one (.aq (.aX s) b)=>gM (.one (.aq (.aX k) (bD s k b))) [dC s k b=true]
 |some _,some (.float k),.one (.aq (.int _) n)=>bZ (.one (.aq (.aX k) (eg k n)))
 |some .string,some (.slice _),.one (.aq .str s)=>bif dr P U then some ⟨.one (.all nx),[(nx,.seq (.int .u8) (eB s))],[],[List.length s≤bO]⟩ else none
 |some (.slice _),some (.slice _),.one (.all c)=>bif Nat.beq T U&&dr P T then (match lk c m with
  |some (.seq t xs)=>if t= .int .u8 then some ⟨.one (.all c),[],[(c,.seq t xs)],[0<List.length xs]⟩ else none
  |_=>none) else none
 |some (.slice _),some .string,x=>bif dr P T&&nJ m x then (match mr m (.sl (.int .u8)) x with
  |some l=>bZ (.one (.aq .str (uu l)))
  |none=>none) else none
 |_,_,x=>yQ P T U x
def pU (P:Program)(m:Mem)(nx:Nat)(T T':TypeId)(s x:aE):Option ca:=
 match P.underlying T,P.underlying T',x with
 |some (.slice e),some .string,.one (.aq .str y)=>(match P.info? e with
  |some i=>bif (dr P T&&Nat.beq i.size 1)&&(Nat.ble i.bytes 32768&&i.zero.isSome)&&(i.zero.map fun z=>Nat.beq z.cells.size 1).getD false then
   (match nO m (.int .u8) s with
   |some (xs,up)=>some ⟨.one (.all nx),[(nx,.seq (.int .u8) (xs++eB y))],up,[List.length xs+List.length y≤bO]⟩
   |none=>none) else none
  |none=>none)
 |_,_,_=>none
def CM (P:Program)(T:TypeId)(x:aE)(lo hi mx:Option aE):Option ca:=
 match P.underlying T,x with
 |some (.slice e),.one (.aq (.sl t) xs)=>(match Pv lo,hi,mx with
  |some l,some (.one (.aq (.int _) h)),some (.one (.aq (.int _) q))=>bif dq P e==some t.size then gM (.one (.aq (.sl t) (cut xs l h))) [(0:Int)≤l∧l≤h∧h≤q∧q≤((List.length xs:Nat):Int)] else none
  |_,_,_=>none)
 |_,_=>none
section
variable {P:Program} {g:GM} {m:Mem} {S:Nat→Prop} {cx:Cx} {st:St} {a:Act} {w:World}
theorem pg {k:FloatKind}{n:Nat}{v:Value}(h:CR g m S w (.aq (.aX k) n) v): ∃b,v= .float k b∧bw k b=n:=by
 obtain ⟨b,e,hb⟩:=(h: ∃b,[v]=[Value.float k b]∧bw k b=n);exact ⟨b,by simpa using e,hb⟩
theorem nT {k:FloatKind}{b n:Nat}(h:bw k b=n):VR g m S w (.one (.aq (.aX k) n)) (.float k b):=⟨b,rfl,h⟩
theorem kf.drew {s:Sem Value}{e:ca}{v:aE}{r:Value}(h:dw cx g st a w)(he:e.new=[]∧e.mu=[]∧e.val=v)(hr:s.run cx.P w= .ok r w.drew)(hv: ∀g m S w,VR g m S w v r):kf cx st a w s e:=by
 refine ⟨r,w.drew,hr,g,?_,?_⟩;rw [he.1,he.2.1];exact h.AZ (G:=[]) ⟨bK.drew _ _,fun b hb=>(by simp at hb),fun _ _=>rfl,fun k ch hk=> .inl ⟨hk,fun _ b _ _ hb=>by simp at hb⟩,fun k ch hk gP=>by
  change lk k st.mem=some ch at gP;rw [hk] at gP;cases gP⟩
 rw [he.2.2];exact hv _ _ _ _
theorem uv {P:Program}{g:GM}{m:Mem}{S:Nat→Prop}{w w':World}{d:Nat}{cs ds:List aA}{us vs:List Value}(hu:bB (CR g m S w) cs us)(hv:bB (CR g m S w) ds vs):
 ∀(fs:List Field) (b:Bool),KW P cs ds fs=some b→(Op.eqFields (d+1) us.toArray vs.toArray fs).run P w'= .ok b w'
 |[],b,h=>by
  unfold KW at h;injection h with h;subst h;rfl
 |f::r,b,h=>by
  unfold KW at h;split at h
  ·rename_i k k1 x k2 y e hT hc hd he;cases hn:f.name=="_" with
   |true=>rw [hn] at h;cases h
   |false=>
    rw [hn] at h;simp only [cond_false] at h;split at h
    case isFalse=>cases h
    rename_i hk;subst hk;injection h with h;subst h;have Cr:f.name≠"_":=by
     intro hh;rw [hh] at hn;simp at hn
    obtain ⟨u,WC,TY⟩:=hu.get _ _ hc;obtain ⟨v,hv1,ov⟩:=hv.get _ _ hd;have e1:u= .int k1 x:=eL (g:=g) (m:=m) (S:=S) (w:=w) TY;have e2:v= .int k1 y:=eL (g:=g) (m:=m) (S:=S) (w:=w) ov;subst e1;subst e2;have p1:(part f.type us.toArray f.offset).run P w'= .ok (.int k1 x) w':=by simp [part,isAgg,run_underlying hT,WC]
    have p2:(part f.type vs.toArray f.offset).run P w'= .ok (.int k1 y) w':=by simp [part,isAgg,run_underlying hT,hv1]
    have p3:=run_equalIn_int w' d f.type k1 k x y hT;unfold Op.eqFields;rw [if_pos Cr];simp only [Sem.run_bind,p1,p2,p3,Result.andThen_ok];cases Zy:(x==y) with
    |true=>simpa using uv hu hv r e he
    |false=>simp
  cases h
theorem ye {P:Program}{g:GM}{m:Mem}{S:Nat→Prop}{w:World}{op:BinOp}{T:TypeId}{cs ds:List aA}{e:ca}{xa ya:Value}(h:og P T op cs ds=some e)(hx:VR g m S w (.agg cs) xa)(hy:VR g m S w (.agg ds) ya):
 aQ P g m S w (binOp op T xa ya) e:=by
 obtain ⟨us,rfl,hu⟩:=hx;obtain ⟨vs,rfl,hv⟩:=hy;unfold og at h;split at h;rename_i fs hT;cases hg:P.stoodInHeld T with
 |true=>rw [hg] at h;cases h
 |false=>
  cases hq:P.eqGuardType P.depth T with
  |true=>rw [hg,hq] at h;cases h
  |false=>
   rw [hg,hq] at h;simp only [Bool.or_self,cond_false] at h;have hf:Program.fieldsOf P T=fs:=by unfold Program.fieldsOf;rw [hT]
   split at h;rename_i b hb;have:=uv (w':=w) (d:=9998) hu hv _ _ hb;refine aQ.mk (aH h) (r:= .bool b) ?_ rfl;rw [run_eql_struct,show (10000:Nat)=9999+1 from rfl,run_equalIn_agg w 9999 T _ _ (by rw [hf];exact hT) hg,hf,this];rfl;rename_i b hb;have:=uv (w':=w) (d:=9998) hu hv _ _ hb;refine aQ.mk (aH h) (r:= .bool (!b)) ?_ rfl;rw [run_neq_struct,show (10000:Nat)=9999+1 from rfl,run_equalIn_agg w 9999 T _ _ (by rw [hf];exact hT) hg,hf,this];rfl;cases h
 cases h
theorem yf {P:Program}{w:World}{op:BinOp}{T:TypeId}{cs ds:List aA}{e:ca}{x y:Operand}{us vs:Array Value}(h:og P T op cs ds=some e):(eqGuard op T x y (.agg us) (.agg vs)).run P w= .ok () w:=by
 unfold og at h;split at h;cases hq:P.eqGuardType P.depth T with
 |true=>rw [hq] at h;simp only [Bool.or_true,cond_true] at h;cases h
 |false=>exact run_eqGuard_agg w op T x y us vs hq
 cases h
theorem Eu {op:BinOp}{x y:aE}{e:ca}{T:TypeId}{xa ya:Value}(hs:dw cx g st a w)(h:BD cx.P T op x y=some e)(hc:bH e.cond)(hx:VR g st.mem (cx.safe g st.mem w) w x xa)(hy:VR g st.mem (cx.safe g st.mem w) w y ya):
 kf cx st a w (binOp op T xa ya) e:=by
 unfold BD at h;split at h;rename_i k n k' n';obtain ⟨b,rfl,hb⟩:=pg (g:=g) (m:=st.mem) (S:=cx.safe g st.mem w) (w:=w) hx;obtain ⟨b',rfl,ke⟩:=pg (g:=g) (m:=st.mem) (S:=cx.safe g st.mem w) (w:=w) hy;split at h;rename_i hk;subst hk;split at h;rename_i ha;have hf:floatBits op k n n'=floatBits op k b b':=by rw [←hb,←ke];exact yd op k b b'
 have he:=aH h;unfold av at he;rw [hf] at he;cases hr:floatBits op k b b' with
 |some r=>
  rw [hr] at he;exact aQ.runs hs (aQ.mk he (run_float_arith w op T k b b' r hr) (nT rfl))
 |none=>
  rw [hr] at he;have hn:(binOp op T (.float k b) (.float k b')).run cx.P w= .ok (.float k (Question.cut (.nanBits k b b') (w.tape w.drawn (.nanBits k b b')))) w.drew:=by
   unfold floatBits at hr;cases op<;>simp only [Ib,Bool.false_eq_true] at ha<;>simp only at hr<;>simp [binOp,Op.floatArith,hr,Question.forced]
  exact kf.drew hs he hn fun g m S w=>nT (NQ k b b' _)
 have ho:k.format.order n n'=k.format.order b b':=by rw [←hb,←ke];exact xC k b b'
 have hg:aQ cx.P g st.mem (cx.safe g st.mem w) w (binOp op T (.float k b) (.float k b')) e:=by
  unfold KV at h;split at h;exact aQ.mk (aH h) (r:= .bool (pz k n n')) (by simp [binOp,Op.floatCmp,pz,ho]) rfl;exact aQ.mk (aH h) (r:= .bool (!pz k n n')) (by simp [binOp,Op.floatCmp,pz,ho,bne]) rfl;exact aQ.mk (aH h) (r:= .bool (aX k n n')) (by simp [binOp,Op.floatCmp,aX,ho]) rfl;exact aQ.mk (aH h) (r:= .bool (vm k n n')) (by simp [binOp,Op.floatCmp,vm,ho]) rfl;exact aQ.mk (aH h) (r:= .bool (qI k n n')) (by simp [binOp,Op.floatCmp,qI,ho]) rfl;exact aQ.mk (aH h) (r:= .bool (rT k n n')) (by simp [binOp,Op.floatCmp,rT,ho]) rfl;cases h
 exact aQ.runs hs hg;cases h;exact aQ.runs hs (ye h hx hy);exact aQ.runs hs (Gc h hc hx hy)
theorem Gs {op:UnOp}{x:aE}{e:ca}{xa:Value}(h:NR op x=some e)(hx:VR g m S w x xa):aQ P g m S w (Op.unary op xa) e:=by
 unfold NR at h;split at h;rename_i k n;obtain ⟨b,rfl,hb⟩:=pg (g:=g) (m:=m) (S:=S) (w:=w) hx;refine aQ.mk (aH h) (r:= .float k (Op.negFloat k b)) (by simp [Op.unary]) (nT ?_);unfold A7;rw [←hb,Ju];exact Jk h hx
theorem sd {T:TypeId}(h:dr P T=true): ∃e,P.underlying T=some (.slice e)∧P.underlying e=some (.int .u8):=by
 unfold dr at h;split at h;rename_i e h1;split at h;rename_i h2;exact ⟨e,h1,h2⟩;cases h;cases h
theorem Jv {S':Nat→Prop}{w':World}{s:List UInt8}{arr:Array Value}(h: ∀j (hj:j<s.length),arr[j]? =some (.int .u8 ((s[j].toNat:Nat):Int))):Eb S' w' (.int .u8) (eB s) arr:=by
 intro i hi;have nr:i<s.length:=by simpa [eB] using hi
 refine ⟨[.int .u8 ((s[i].toNat:Nat):Int)],fun j u hj=> ?_,?_⟩;cases j with
 |zero=>
  simp only [List.getElem?_cons_zero,Option.some.injEq] at hj;subst hj;simp only [Ty.size,Nat.mul_one,Nat.add_zero];exact h i nr
 |succ j=>simp at hj
 show [Value.int .u8 ((s[i].toNat:Nat):Int)]=[Value.int .u8 ((eB s)[i])];simp [eB]
theorem xD (w:World)(b n:Nat){arr:Array Value}{T:TypeId}{lo hi:Nat}(h:w.heap[b]? =some (.cells arr T (lo,hi))):
 (w.freeze ⟨b,n,none⟩ 1).heap[b]? =some (.cells arr T (if lo==hi then (n,n+1) else (min lo n,max hi (n+1)))):=by
 simp [World.freeze,Array.getElem?_modify,h]
theorem vn (w:World)(b n q:Nat)(hq:q≠b):(w.freeze ⟨b,n,none⟩ 1).heap[q]? =w.heap[q]? :=by
 simp [World.freeze,Array.getElem?_modify,Ne.symm hq]
theorem qJ {w:World}{b:Nat}{arr:Array Value}(h:dy w b arr):dy (w.freeze ⟨b,arr.size,none⟩ 1) b arr:=by
 obtain ⟨T,lo,hi,h,hf⟩:=h;by_cases e:lo=hi;subst e;exact ⟨T,arr.size,arr.size+1,by rw [xD w b arr.size h];simp,.inr (Nat.le_refl _)⟩;exact ⟨T,min lo arr.size,max hi (arr.size+1),by rw [xD w b arr.size h,if_neg (by simpa using e)],.inr (by omega)⟩
theorem Ev {w:World}{b:Nat}{arr:Array Value}(h:dy w b arr):bK [b] w (w.freeze ⟨b,arr.size,none⟩ 1):=by
 have qt:(w.freeze ⟨b,arr.size,none⟩ 1).os=w.os∧(w.freeze ⟨b,arr.size,none⟩ 1).tape=w.tape∧(w.freeze ⟨b,arr.size,none⟩ 1).output=w.output∧(w.freeze ⟨b,arr.size,none⟩ 1).heap.size=w.heap.size:=by
  unfold World.freeze;split<;>simp
 refine ⟨qt.1,qt.2.1,qt.2.2.1,by rw [qt.2.2.2];exact Nat.le_refl _,fun q _ hq=>vn w b arr.size q (by simpa using hq),fun q aG hb=> ?_⟩;by_cases e:q=b;subst e;have:=hb.eq h;subst this;exact ⟨aG,qJ h,rfl⟩;exact ⟨aG,hb.keep (vn w b arr.size q e),rfl⟩
theorem BE {mx:Bool}{x y:aE}{e:ca}{xa ya:Value}{Ts:Array TypeId}{T:TypeId}{S:Nat→Prop}{m:Mem}{P:Program}(h:VN mx x y=some e)(hc:bH e.cond)(hx:VR g m S w x xa)(hy:VR g m S w y ya):aQ P g m S w (bif mx then Builtin.max_ Ts T #[xa,ya] else Builtin.min_ Ts T #[xa,ya]) e:=by
 unfold VN at h;split at h;rename_i k a k' b;split at h;rename_i hk;subst hk;obtain ⟨x,rfl,ha⟩:=pg (g:=g) (m:=m) (S:=S) (w:=w) hx;obtain ⟨y,rfl,hb⟩:=pg (g:=g) (m:=m) (S:=S) (w:=w) hy;obtain ⟨he,pb⟩:=cK h;rw [pb] at hc;have ho:(k.format.order a b).isSome=true:=hc.1;have Zy:a=x∧b=y:=by
  rw [←ha,←hb,xC] at ho;constructor;rcases oA k x with h|⟨s,t,s',t',q1,q2⟩
  rw [←ha,h];unfold Ieee.Format.order at ho;rw [q1,zm] at ho;cases ho;rcases oA k y with h|⟨s,t,s',t',q1,q2⟩
  rw [←hb,h];unfold Ieee.Format.order at ho;rw [q1,zn] at ho;cases ho
 obtain ⟨rfl,rfl⟩:=Zy;refine aQ.mk he (r:= .float k (VM mx k a b)) ?_ (nT ?_);unfold VM;cases hq:k.format.order a b with
 |none=>rw [hq] at ho;cases ho
 |some o=>
  cases mx<;>cases o<;>cases hn:(k.decode a).neg<;>simp [Builtin.max_,Builtin.max2,Builtin.min_,Builtin.min2,hq,hn]
 unfold VM;split;cases mx<;>assumption;cases mx<;>assumption;split<;>assumption;cases h;cases h
theorem yg {T U:TypeId}{x:aE}{e:ca}{xa:Value}(hs:dw cx g st a w)(hw:fH st.mem e.new)(h:oh cx.P st.mem st.nx T U x=some e)(hc:bH e.cond)(hx:VR g st.mem (cx.safe g st.mem w) w x xa):kf cx st a w (convert T U xa) e:=by
 unfold oh at h;split at h;rename_i u k s n h1 h2;obtain ⟨b,rfl,hb⟩:=pg (g:=g) (m:=st.mem) (S:=cx.safe g st.mem w) (w:=w) hx;obtain ⟨he,pb⟩:=cK h;rw [pb] at hc;have ja:dC s k n=true:=hc.1;by_cases PF:s=k;subst PF;have e1:bD s s n=n:=by unfold bD;rw [if_pos rfl]
 rw [e1] at he;refine aQ.runs hs (aQ.mk he (r:= .float s b) (run_convert_float_float w T U s s b b (by rw [h1];rfl) h2 (by simp [floatToFloatBits])) (nT hb));have WO:=Es s k b PF;rw [hb] at WO;rw [WO.2] at he;rw [WO.1] at ja;unfold dC at ja;unfold bD at he;rw [if_neg PF] at ja he;cases hd:s.decode b with
 |nan sg t=>
  rw [hd] at he;have hn:(convert T U (.float s b)).run cx.P w= .ok (.float k (Question.cut (.nanConv k b) (w.tape w.drawn (.nanConv k b)))) w.drew:=by
   cases u<;>simp [convert,run_underlying h1,run_underlying h2,Conv.floatToFloat,PF,hd,Question.forced]
  exact kf.drew hs he hn fun g m S w=>nT (KU k b _)
 |infinity sg=>
  rw [hd] at he;exact aQ.runs hs (aQ.mk he (run_convert_float_float w T U s k b _ (by rw [h1];rfl) h2 (by simp [floatToFloatBits,PF,hd])) (nT rfl))
 |number sg mm ee=>
  rw [hd] at he ja;have ja:(k.decode (k.encode (.number sg mm ee))).isInfinity=false:=by simpa using ja
  exact aQ.runs hs (aQ.mk he (run_convert_float_float w T U s k b _ (by rw [h1];rfl) h2 (by simp [floatToFloatBits,PF,hd,ja])) (nT rfl))
 rename_i u k kk n h1 h2;have:=eL (g:=g) (m:=st.mem) (S:=cx.safe g st.mem w) (w:=w) hx;subst this;exact aQ.runs hs (aQ.mk (aH h) (r:= .float k (k.nearest n)) (by cases u<;>simp [convert,run_underlying h1,run_underlying h2,Conv.intToFloat]) (nT rfl));rename_i el s h1 h2;cases hb:dr cx.P U with
 |false=>simp [hb] at h
 |true=>
  rw [hb] at h;simp only [cond_true] at h;injection h with h;subst h;obtain ⟨e1,k1,k2⟩:=sd hb;have NJ:=mP (g:=g) (m:=st.mem) (S:=cx.safe g st.mem w) (w:=w) hx;subst NJ;have hlen:s.length≤bO:=hc.1;unfold bO at hlen;have kJ:=Lib.run_convert_string_bytes (P:=cx.P) w T U e1 ⟨s.toArray⟩ h1 k1 k2;have fG:(⟨s.toArray⟩:ByteArray).size=s.length:=by simp [ByteArray.size]
  rw [fG] at kJ;have pv:=grownCap_ge w s.length 0 e1;have Kp:=grownCap_le_maxLen w s.length 0 e1 (by unfold maxLen;omega);refine ⟨_,_,kJ,?_⟩;have nt:=Lib.bytesWorld_at_new w e1 ⟨s.toArray⟩;have Ns:(Lib.bytesCells w e1 ⟨s.toArray⟩).size=grownCap w s.length 0 e1:=by
   simp [Lib.bytesCells,fG];omega
  have dx:dy (Lib.bytesWorld w e1 ⟨s.toArray⟩) w.heap.size (Lib.bytesCells w e1 ⟨s.toArray⟩):=
   ⟨_,_,_,nt,.inr (Nat.le_refl _)⟩
  have hold: ∀j,j<w.heap.size→(Lib.bytesWorld w e1 ⟨s.toArray⟩).heap[j]? =w.heap[j]? :=fun j hj=>Lib.bytesWorld_at_old w e1 ⟨s.toArray⟩ j hj;have eO:bK [] w (Lib.bytesWorld w e1 ⟨s.toArray⟩):=by
   have qt: ∀(w:World) (a:Addr) (n:Nat),(w.freeze a n).os=w.os∧(w.freeze a n).tape=w.tape∧(w.freeze a n).output=w.output:=by
    intro w a n;unfold World.freeze;split<;>exact ⟨rfl,rfl,rfl⟩
   have hf:=qt (w.drew.alloc (.cells (Lib.bytesCells w e1 ⟨s.toArray⟩) e1)) ⟨w.heap.size,(Lib.bytesCells w e1 ⟨s.toArray⟩).size,none⟩ 1;exact ⟨hf.1,hf.2.1,hf.2.2,by rw [Lib.bytesWorld_size];omega,fun b hb _=>hold b hb,fun b arr hb=>⟨arr,hb.keep (hold b hb.lt),rfl⟩⟩
  refine pK.newAt (G:=[]) (up:=[]) (gk:=some w.heap.size) hs hw ⟨rfl,rfl,rfl⟩ (.inl rfl) eO (.inl rfl) (fun b hb=>by injection hb with hb;left;omega) (fun b hb=>by injection hb with hb;subst hb;exact dx.lt) (fun S' hS=>⟨_,dx,?_⟩) ?_;refine fA.pq rfl (Jv fun j hj=> ?_);simp [Lib.bytesCells,hj,Array.getElem?_append];exact ⟨_,_,by simp [eB],by simp [eB];exact pv,dx,by rw [Ns];simp [Ty.size],Kp⟩
 rename_i el1 el2 c h1 h2;cases hb:(Nat.beq T U&&dr cx.P T) with
 |false=>rw [hb] at h;cases h
 |true=>
  rw [hb] at h;simp only [cond_true] at h;simp only [Bool.and_eq_true] at hb;have hTU:=bL hb.1;subst hTU;obtain ⟨e1,k1,k2⟩:=sd hb.2;split at h;rename_i t xs hl;split at h;rename_i ht;injection h with h;subst h;have Jw:0<List.length xs:=hc.1;have cY:=hs.mem c _ hl;have bN:=hx.2.2 t xs (.inl hl);unfold jl at bN;unfold kd at cY;cases hg:g.f c [] with
  |none=>
   rw [hg] at cY;have:xs=[]:=cY;subst this;simp at Jw
  |some b=>
   rw [show g c=some b from hg] at bN;rw [hg] at cY;obtain ⟨arr,jL,iJ⟩:=cY;obtain ⟨cap,aG,e2,q1,q2,q3,q4⟩:=bN;have:=q2.eq jL;subst this;subst e2;have QE:=jL;obtain ⟨T0,lo,hi,hh,_⟩:=QE;have uW:w.shape? b=some (T0,aG.size):=by
    simp [World.shape?,hh]
   clear hh;have kJ:(convert T T (.slice (some ⟨b,0,none⟩) (List.length xs) cap)).run cx.P w= .ok (.slice (some ⟨b,0,none⟩) (List.length xs) cap) (w.freeze ⟨b,aG.size,none⟩ 1):=by
    simp [convert,run_underlying k1,run_underlying k2,markStringish,uW]
   subst ht;refine ⟨_,_,kJ,g,?_,?_⟩;have q:KK g st w (w.freeze ⟨b,aG.size,none⟩ 1) c b [] (.seq (.int .u8) xs) (.seq (.int .u8) xs):=
    ⟨hl,trivial,hg,Ev jL,⟨aG,aG,jL,qJ jL,rfl⟩,fun _ _=>trivial,by simp,fun t' cE e=>⟨cE,e,rfl⟩,fun t' cE e=>⟨cE,e,cl.refl _ _⟩⟩
   refine dw.Tb hs q ?_;unfold kd;rw [hg];exact ⟨aG,qJ jL,.pq rfl fun i hi=>by
    obtain ⟨es,r1,r2⟩:=iJ.Jh rfl i hi;exact ⟨es,r1,r2⟩⟩
   refine ⟨by simp [aS],rfl,fun t' cE fe=> ?_⟩;have A3:lk c ((c,Chunk.seq (.int .u8) xs)::st.mem)=some (.seq (.int .u8) xs):=by rw [aS,if_pos rfl]
   have fe:=dM.toSeq A3 fe;rw [A3] at fe;injection fe with fe;injection fe with ht2 QF;subst ht2;have QF:=eq_of_heq QF;subst QF;unfold jl;rw [show g c=some b from hg];exact ⟨cap,aG,rfl,q1,qJ jL,q3,q4⟩
  cases h;cases h
 rename_i x0 _ _ _ el h1 h2;cases hb:(dr cx.P T&&nJ st.mem x0) with
 |false=>rw [hb] at h;cases h
 |true=>
  rw [hb] at h;simp only [cond_true] at h;simp only [Bool.and_eq_true] at hb;obtain ⟨hb,KI⟩:=hb;split at h;rename_i l hl;obtain ⟨e1,k1,k2⟩:=sd hb;rw [k1] at h1;injection h1 with h1;injection h1 with h1;subst h1;obtain ⟨news,By⟩:=CB hs.mem hl KI rfl hx;obtain ⟨ax,yc,ex,Qv⟩:=By.val;subst ex;refine aQ.runs hs (aQ.mk (aH h) (r:= .string ⟨(uu l).toArray⟩) ?_ rfl);have T7:news=l.map (Value.int .u8):=by
   refine List.ext_getElem? fun j=> ?_;have T8:news.length=l.length:=by have:=By.len;simpa [Ty.size] using this
   rcases Nat.lt_or_ge j l.length with hj|hj
   obtain ⟨es,q1,q2⟩:=By.Jh j hj;have q2:es=[Value.int .u8 l[j]]:=q2;have:=q1 0 (by simp [Ty.size]);simp only [Ty.size,Nat.mul_one,Nat.add_zero,q2,List.getElem?_cons_zero] at this;have e3:(List.map (Value.int .u8) l)[j]? =some (.int .u8 l[j]):=by
    rw [List.getElem?_map,List.getElem?_eq_getElem hj];rfl
   rw [e3,this];rw [List.getElem?_eq_none (by omega),List.getElem?_eq_none (by simp;omega)]
  rw [run_convert_bytes_string w T U e1 ax l.length yc k1 k2 h2];have vd: ∀(l:List Int) (r:ByteArray),l.foldl (fun r n=>r.push (UInt8.ofNat n.toNat)) r=⟨r.data++(uu l).toArray⟩:=by
   intro l;induction l with
   |nil=>intro r;simp [uu]
   |cons n l ih=>intro r;rw [List.foldl_cons,ih];simp [uu,ByteArray.push]
  rcases Qv with h0|⟨ad,rfl,br⟩
  have:l=[]:=List.eq_nil_of_length_eq_zero h0;subst this;cases ax with
  |none=>simp [Conv.bytesToString,uu];rfl
  |some ad=>simp [Conv.bytesToString,uu,loadCells,loadCellsFrom];rfl
  have hl:=run_loadCells_list (P:=cx.P) w ad (l.map (Value.int .u8)) (fun j v hj=>br j v (by rw [T7];exact hj));simp only [List.length_map] at hl;rw [run_bytesToString w ad l.length yc _ hl,vd];simp;cases h
 exact aQ.runs hs (yZ h hx)
theorem qK {w:World}{y:List UInt8}{n:Nat}(hn:n=y.length)(size:Nat):(Builtin.firstCells size n (.string ⟨y.toArray⟩)).run P w= .ok ((eB y).map (Value.int .u8)).toArray w:=by
 subst hn;have e:(⟨y.toArray⟩:ByteArray).extract 0 y.length=⟨y.toArray⟩:=by
  apply ByteArray.ext;simp
 simp only [Builtin.firstCells,e,Sem.run_pure];simp [eB]
theorem A9 {t u ty e:TypeId}{i:TypeInfo}{z:Value}(ht:P.underlying t=some (.slice e))(hu:P.underlying u=some .string)(hi:P.info? e=some i)(hz:i.zero=some z){base:Option Addr}{n cap:Nat}{j9:List Value}(mi:j9.length=n*i.size)(ho:n=0∨ ∃ad,base=some ad∧ ∀j v,j9[j]? =some v→w.cell? (ad.add j)=some v){y:List UInt8}(hg:cap<n+y.length)(hb:(n+y.length)*i.bytes≤140737488355328)(h63:n+y.length≤9223372036854775807):
 (Builtin.append_ #[t,u] ty #[.slice base n cap,.string ⟨y.toArray⟩]).run P w=
  .ok (.slice (some ⟨w.heap.size,0,none⟩) (n+y.length) (grownCap w (n+y.length) cap e))
   (w.drew.alloc (.cells (j9.toArray++((eB y).map (Value.int .u8)).toArray++Builtin.zeroCells z.cells (grownCap w (n+y.length) cap e - (n+y.length))) e)):=by
 have lI: ¬(n+y.length≤cap):=by omega
 have KF: ¬(9223372036854775807<((n:Int)+(y.length:Int))):=by omega
 have Zr:=growslice_fits (old:=cap) hg hb;have KG: ¬(281474976710656<Builtin.nextslicecap (n+y.length) cap*i.bytes):=by omega
 have hf:=qK (P:=P) (w:=w.drew) (y:=y) (n:=y.length) rfl i.size;have TG:=eN (P:=P) (w:=w.drew) (len:=n) (cap:=cap) mi ho;have fG:(⟨y.toArray⟩:ByteArray).size=y.length:=by simp [ByteArray.size]
 simp [Builtin.append_,run_underlying ht,run_underlying hu,sizeOf,typeInfo,zeroValue,hi,hz,Builtin.lenOf,fG,lI,KF,KG,Question.forced,hf,TG,newRow,grownCap]
 congr 2
 apply Array.ext';simp [List.append_assoc]
theorem Ba {t u ty e:TypeId}{i:TypeInfo}(ht:P.underlying t=some (.slice e))(hu:P.underlying u=some .string)(hi:P.info? e=some i)(T9:i.size=1){b n cap:Nat}{arr:Array Value}(hb:dy w b arr){y:List UInt8}(lI:n+y.length≤cap)(iU:(n+y.length)*i.size≤arr.size):
 ∃w' aG,(Builtin.append_ #[t,u] ty #[.slice (some ⟨b,0,none⟩) n cap,.string ⟨y.toArray⟩]).run P w= .ok (.slice (some ⟨b,0,none⟩) (n+y.length) cap) w'∧dy w' b aG∧
  aG.toList=arr.toList.take (n*i.size)++(eB y).map (Value.int .u8)++arr.toList.drop (n*i.size+y.length)∧bK [b] w w'∧w'.heap.size=w.heap.size:=by
 have hf:=qK (P:=P) (w:=w) (y:=y) (n:=y.length) rfl i.size;have fG:(⟨y.toArray⟩:ByteArray).size=y.length:=by simp [ByteArray.size]
 have hl:((eB y).map (Value.int .u8)).length=y.length:=by simp [eB]
 obtain ⟨w',aG,e,k1,k2,k3,k4⟩:=fI (P:=P) ((eB y).map (Value.int .u8)) (n*i.size) 0 w arr hb (by rw [hl,Nat.add_zero,T9];rw [T9] at iU;omega) (fun v hv=>by
  obtain ⟨x,_,rfl⟩:=List.mem_map.1 hv;rfl)
 rw [hl] at k2;refine ⟨w',aG,?_,k1,by simpa using k2,k3,k4⟩;have ha:(⟨b,0,none⟩:Addr).add (n*i.size)=⟨b,n*i.size,none⟩:=by rw [bY];simp
 simp [Builtin.append_,run_underlying ht,run_underlying hu,sizeOf,typeInfo,hi,Builtin.lenOf,fG,lI,hf,ha,e]
theorem Bb {t u ty e:TypeId}{i:TypeInfo}(ht:P.underlying t=some (.slice e))(hu:P.underlying u=some .string)(hi:P.info? e=some i){base:Option Addr}:
 (Builtin.append_ #[t,u] ty #[.slice base 0 0,.string ⟨#[]⟩]).run P w= .ok (.slice base 0 0) w:=by
 have hf:=qK (P:=P) (w:=w) (y:=[]) (n:=0) rfl i.size;have fG:(⟨#[]⟩:ByteArray).size=0:=rfl;have hf:(Builtin.firstCells i.size 0 (.string ⟨#[]⟩)).run P w= .ok #[] w:=hf;cases base<;>simp [Builtin.append_,run_underlying ht,run_underlying hu,sizeOf,typeInfo,hi,Builtin.lenOf,fG,hf,storeCells]
theorem zo {S':Nat→Prop}{w':World}{y:List UInt8}:fB S' w' (.int .u8) (eB y) ((eB y).map (Value.int .u8)):=fun i hi=>by
 refine ⟨[.int .u8 (eB y)[i]],fun j hj=> ?_,rfl⟩;have:j=0:=by simpa [Ty.size] using hj
 subst this;simp [Ty.size,hi]
theorem zp {T T':TypeId}{ty:TypeId}{s x:aE}{e:ca}{sv xv:Value}(h:dw cx g st a w)(hw:fH st.mem e.new)(he:pU cx.P st.mem st.nx T T' s x=some e)(hc:bH e.cond)(hs:VR g st.mem (cx.safe g st.mem w) w s sv)(hx:VR g st.mem (cx.safe g st.mem w) w x xv):kf cx st a w (Builtin.append_ #[T,T'] ty #[sv,xv]) e:=by
 unfold pU at he;split at he;rename_i el y hu Kr;have NS:=mP (g:=g) (m:=st.mem) (S:=cx.safe g st.mem w) (w:=w) hx;subst NS;split at he;rename_i i hi;cases hb:((dr cx.P T&&Nat.beq i.size 1)&&(Nat.ble i.bytes 32768&&i.zero.isSome)&&(i.zero.map fun z=>Nat.beq z.cells.size 1).getD false) with
 |false=>simp [hb] at he
 |true=>
  rw [hb] at he;simp only [cond_true] at he;simp only [Bool.and_eq_true] at hb;obtain ⟨⟨⟨hT,fG⟩,Ej,TN⟩,HZ⟩:=hb;have fG:=bL fG;have Ej:=iT Ej;obtain ⟨z,hz⟩:=Option.isSome_iff_exists.1 TN;rw [hz] at HZ;have HZ:z.cells.size=1:=bL (by simpa using HZ);split at he;rename_i xs up zd;injection he with he;subst he;have hlen:xs.length+y.length≤bO:=hc.1;unfold bO at hlen;obtain ⟨o5,Wu⟩:=Ei h.mem zd rfl hs;have uk:(xs.length+y.length)*i.bytes≤140737488355328:=by
   calc (xs.length+y.length)*i.bytes≤4294967296*32768:=Nat.mul_le_mul hlen Ej
    _=140737488355328:=by decide
  have Pt:(eB y).length=y.length:=by simp [eB]
  have wi:((eB y).map (Value.int .u8)).length=y.length:=by simp [eB]
  have grow: ∀(base:Option Addr) (cap:Nat) (j9:List Value),j9.length=xs.length*i.size→(xs.length=0∨ ∃ad,base=some ad∧ ∀j v,j9[j]? =some v→w.cell? (ad.add j)=some v)→
   fB (cx.safe g st.mem w) w (.int .u8) xs j9→cap<xs.length+y.length→(up=[]∨ ∃c ua,up=[(c,.gone)]∧lk c st.mem=some ua∧ua≠ .gone)→
   kf cx st a w (Builtin.append_ #[T,T'] ty #[.slice base xs.length cap,.string ⟨y.toArray⟩]) ⟨.one (.all st.nx),[(st.nx,.seq (.int .u8) (xs++eB y))],up,[List.length xs+List.length y≤bO]⟩:=by
   intro base cap j9 CD ho iJ cq o5;have pv:=grownCap_ge w (xs.length+y.length) cap el;have Kp:=grownCap_le_maxLen w (xs.length+y.length) cap el (by unfold maxLen;omega);have hr:=A9 (P:=cx.P) (ty:=ty) hu Kr hi hz CD ho cq uk (by omega);have eO:bK [] w (w.drew.alloc (.cells (j9.toArray++((eB y).map (Value.int .u8)).toArray++Builtin.zeroCells z.cells (grownCap w (xs.length+y.length) cap el - (xs.length+y.length))) el)):=
    (bK.drew [] w).trans (bK.alloc _ _ _)
   have dx:=dy.new w.drew (j9.toArray++((eB y).map (Value.int .u8)).toArray++Builtin.zeroCells z.cells (grownCap w (xs.length+y.length) cap el - (xs.length+y.length))) el;refine ⟨_,_,hr,?_⟩;refine pK.newAt (G:=[]) (gk:=some w.heap.size) h hw ⟨rfl,rfl,rfl⟩ o5 eO (.inl rfl) (fun b hb=>by injection hb with hb;left;omega) (fun b hb=>by injection hb with hb;subst hb;exact dx.lt) (fun S' hS=>⟨_,dx,?_⟩) ?_;refine fA.pq rfl (fB.toR ?_);simp only [Array.toList_append];have h1:fB S' (w.drew.alloc (.cells (j9.toArray++((eB y).map (Value.int .u8)).toArray++Builtin.zeroCells z.cells (grownCap w (xs.length+y.length) cap el - (xs.length+y.length))) el)) (.int .u8) xs j9:=fun i hi=>by
    obtain ⟨es,k1,k2⟩:=iJ i hi;exact ⟨es,k1,bS.keep hS _ es _ k2⟩
   exact fB.app h1 (by rw [CD,fG];rfl) zo (by rw [wi,Pt];simp [Ty.size]);refine ⟨grownCap w (xs.length+y.length) cap el,_,?_,by rw [List.length_append,Pt];exact pv,dx,?_,Kp⟩;rw [List.length_append,Pt];simp only [Array.size_append,List.size_toArray,size_zeroCells,HZ,CD,wi,fG,Ty.size];omega
  rcases Wu with ⟨VH,ab,eb⟩|⟨c,ch,b,cap,arr,e1,e2,e3,e4,e5,uj,dx,iU,Cu,iJ⟩
  subst eb;subst VH;by_cases hy:y.length=0;have FY:y=[]:=List.eq_nil_of_length_eq_zero hy;subst FY;refine ⟨_,_,Bb (P:=cx.P) hu Kr hi,?_⟩;exact pK.newAt (G:=[]) (gk:=none) h hw ⟨rfl,rfl,rfl⟩ o5 (bK.refl _ _) (.inl rfl) (fun b hb=>by cases hb) (fun b hb=>by cases hb) (fun S' hS=>rfl) ⟨ab,rfl⟩;exact grow ab 0 [] (by simp) (.inl rfl) (fun i hi=>by simp at hi) (by simp;omega) o5;subst e5;by_cases lI:xs.length+y.length≤cap;have rZ:(xs.length+y.length)*i.size≤arr.size:=by
   rw [fG];have:cap*(Ty.int .u8).size≤arr.size:=iU;simp only [Ty.size] at this;omega
  obtain ⟨w',aG,hr,ke,fe,gP,eI⟩:=Ba (P:=cx.P) (ty:=ty) hu Kr hi fG dx lI rZ;refine ⟨_,_,hr,?_⟩;refine pK.newAt (G:=[b]) (gk:=some b) h hw ⟨rfl,rfl,rfl⟩ o5 gP (.inr ⟨c,b,ch,e1,e2,e3,e4,rfl⟩) (fun b' o6=>by injection o6 with o6;subst o6;right;simp) (fun b' o6=>by injection o6 with o6;subst o6;exact ke.lt) (fun S' hS=>⟨aG,ke,?_⟩) ?_;refine fA.pq rfl (fB.toR ?_);rw [fe,fG];have h1:fB S' w' (.int .u8) xs (arr.toList.take (xs.length*1)):=fun i hi=>by
   obtain ⟨es,k1,k2⟩:=iJ i hi;exact ⟨es,k1,bS.keep hS _ es _ k2⟩
  refine fB.app h1 ?_ zo (by rw [wi,Pt];simp [Ty.size]);rw [fG] at rZ;simp [Ty.size];omega;refine ⟨cap,aG,by rw [List.length_append,Pt],by rw [List.length_append,Pt];exact lI,ke,?_,Cu⟩;have:aG.size=arr.size:=by
   rw [←Array.length_toList,fe];rw [fG] at rZ⊢;simp only [List.length_append,List.length_take,List.length_drop,wi,Array.length_toList];omega
  rw [this];exact iU;have hle:xs.length*1≤arr.size:=by
   have:cap*(Ty.int .u8).size≤arr.size:=iU;simp only [Ty.size] at this;omega
  exact grow _ cap (arr.toList.take (xs.length*1)) (by rw [fG];simp;omega) (.inr ⟨_,rfl,fun j v hj=>by
   rw [bY,dx.cell];rw [List.getElem?_take] at hj;split at hj;simpa using hj;cases hj⟩) iJ (by omega) o5
  cases he
 cases he;cases he
theorem Ew {lv:Option Value}{l h q:Int}{k1 k2:IntKind}{len cap:Nat}(hl:(lv=none∧l=0)∨ ∃k,lv=some (.int k l))(h0:0≤l)(h1:l≤h)(h2:h≤q)(h3:q≤(cap:Int)):
 (Instr.sliceBounds true len cap lv (some (.int k1 h)) (some (.int k2 q))).run P w= .ok (l.toNat,h.toNat,q.toNat) w:=by
 have e1:0≤q:=by omega
 have e2:0≤h:=by omega
 have e3:h≤((q.toNat:Nat):Int):=by omega
 have e4:l≤((h.toNat:Nat):Int):=by omega
 have e5:h≤max q 0:=by omega
 have e6:l≤max h 0:=by omega
 rcases hl with ⟨rfl,rfl⟩|⟨k,rfl⟩
 simp [Instr.sliceBounds,Instr.sliceBound,asIntOf,e1,e2,h3,e5];simp [Instr.sliceBounds,Instr.sliceBound,asIntOf,h0,e1,e2,h3,e5,e6]
theorem Bc {T:TypeId}{x:aE}{lo hi mx:Option aE}{e:ca}{xa:Value}{lv hv qv:Option Value}(h:CM P T x lo hi mx=some e)(hc:bH e.cond)(hx:VR g m S w x xa)(mi:OR g m S w lo lv)(pr:OR g m S w hi hv)(Kp:OR g m S w mx qv):aQ P g m S w (Instr.sliceAt T xa lv hv qv) e:=by
 unfold CM at h;split at h;rename_i el t xs hu;split at h;rename_i l k2 h' k q hl;cases hb:(dq P el==some t.size) with
 |false=>simp [hb] at h
 |true=>
  rw [hb] at h;simp only [cond_true] at h;have hs:dq P el=some t.size:=by simpa using hb
  obtain ⟨he,pb⟩:=cK h;rw [pb] at hc;obtain ⟨⟨h0,h1,h2,h3⟩,_⟩:=hc;have h0:(0:Int)≤(l:Int):=h0;have h1: @LE.le Int _ l h':=h1;have h2: @LE.le Int _ h' q:=h2;have h3: @LE.le Int _ q ((List.length xs:Nat):Int):=h3;have fe:=sU hl mi;obtain ⟨a,cap,e1,uj,oZ⟩:=(hx:bS S w (.sl t) [xa] xs);have NJ:xa= .slice a (List.length xs) cap:=by simpa using e1
  subst NJ;cases qv with
  |none=>exact Kp.elim
  |some qv=>
   cases hv with
   |none=>exact pr.elim
   |some hv=>
    have hq:=eL (g:=g) (m:=m) (S:=S) (w:=w) Kp;subst hq;have hh:=eL (g:=g) (m:=m) (S:=S) (w:=w) pr;subst hh;have kJ:=Ew (P:=P) (w:=w) (k1:=k2) (k2:=k) (len:=List.length xs) (cap:=cap) fe h0 h1 h2 (by omega);refine aQ.mk he (r:= .slice (if q.toNat=l.toNat then a else a.map (·.add (l.toNat*t.size))) (h'.toNat - l.toNat) (q.toNat - l.toNat)) ?_ ?_;simp [Instr.sliceAt,Instr.slice,run_underlying hu,kJ,cL hs];have hlen:List.length (cut xs l h')=h'.toNat - l.toNat:=by unfold cut;simp;omega
    refine ⟨(if q.toNat=l.toNat then a else a.map (·.add (l.toNat*t.size))),q.toNat - l.toNat,by rw [hlen],by rw [hlen];omega,fun j hj=> ?_⟩;rw [hlen] at hj;obtain ⟨ad,es,ea,hS,br,cJ⟩:=oZ (l.toNat+j) (by omega);subst ea;rw [if_neg (by omega)];refine ⟨ad.add (l.toNat*t.size),es,rfl,by rw [gW];exact hS,fun k u hu=> ?_,?_⟩;rw [add_add,←Nat.add_assoc,←Nat.add_mul];exact br k u hu;rw [HW (by omega) (by omega)];exact cJ
 cases h;cases h
end
end Go.Ide
namespace Go.Ide
def qL (P:Program)(nx:Nat)(T:TypeId)(t:Ty)(len:Nat)(parts:List (Nat×aE)):Option ca:=
 match P.underlying T with
 |some (.slice e)=>bif (dq P e==some t.size&&(((P.info? e).bind (·.zero)).map fun z=>Nat.beq z.cells.size t.size)==some true)&&(Nat.beq parts.length len&&Nat.ble (len*t.size) 65536) then
  (match wo t 0 parts with
  |some xs=>some ⟨.one (.aq (.sl t) xs),[],[],[]⟩
  |none=>none) else none
 |_=>none
section
variable {cx:Cx} {g:GM} {st:St} {a:Act} {w w':World}
theorem pK.au {t:Ty}{xs:List t.D}{arr:Array Value}{el:TypeId}{e:ca}(h:dw cx g st a w)(he:e.new=[]∧e.mu=[]∧e.val= .one (.aq (.sl t) xs))(iJ:fB (cx.safe g st.mem w) w t xs arr.toList):
 pK cx st a e (.slice (some ⟨w.heap.size,0,none⟩) xs.length xs.length) (w.alloc (.cells arr el)):=by
 refine ⟨g,?_,?_⟩;rw [he.1,he.2.1];exact h.grow (bK.alloc _ _ _);rw [he.1,he.2.1,he.2.2];have xA:(w.alloc (.cells arr el)).heap.size=w.heap.size+1:=by simp
 have dN: ∀b,cx.safe g st.mem w b→cx.safe g st.mem (w.alloc (.cells arr el)) b:=fun b ⟨h1,h2,h3⟩=>⟨by rw [xA];omega,h2,h3⟩;have nt:cx.safe g st.mem (w.alloc (.cells arr el)) w.heap.size:=by
  refine ⟨by rw [xA];omega,fun hb=> ?_,?_⟩;have:=h.keep.size;omega;rintro ⟨k,p,ch,hk,hn,hg⟩;have:=h.lt k p ch _ hk hn hg;omega
 refine ⟨some ⟨w.heap.size,0,none⟩,xs.length,rfl,Nat.le_refl _,fun i hi=> ?_⟩;obtain ⟨es,k1,k2⟩:=iJ.toR i hi;refine ⟨⟨w.heap.size,0,none⟩,es,rfl,nt,fun j v hj=> ?_,bS.keep (fun b hb=>⟨dN b hb,RowKit.Below.heap_alloc w _ b hb.1⟩) t es _ k2⟩;rw [bY,(dy.new w arr el).cell];simpa using k1 j v hj
theorem uw {T:TypeId}{t:Ty}{len:Nat}{parts:List (Nat×aE)}{vparts:Array (Nat×Value)}{e:ca}(h:dw cx g st a w)(he:qL cx.P st.nx T t len parts=some e)(hp:bB (fun (p:Nat×aE) (q:Nat×Value)=>p.1=q.1∧VR g st.mem (cx.safe g st.mem w) w p.2 q.2) parts vparts.toList):kf cx st a w (Instr.buildSlice T len vparts) e:=by
 unfold qL at he;split at he;rename_i el hu;cases hb:((dq cx.P el==some t.size&&(((cx.P.info? el).bind (·.zero)).map fun z=>Nat.beq z.cells.size t.size)==some true)&&(Nat.beq parts.length len&&Nat.ble (len*t.size) 65536)) with
 |false=>rw [hb] at he;cases he
 |true=>
  rw [hb] at he;simp only [cond_true] at he;simp only [Bool.and_eq_true,beq_iff_eq] at hb;obtain ⟨⟨hs,hz⟩,hn,KJ⟩:=hb;have hn:=bL hn;have KJ:=iT KJ;subst hn;split at he;rename_i xs hx;injection he with he;subst he;cases hi:cx.P.info? el with
  |none=>simp [dq,hi] at hs
  |some i=>
   rw [hi] at hz;simp only [Option.bind_some] at hz;cases ze:i.zero with
   |none=>simp [ze] at hz
   |some z=>
    rw [ze] at hz;have hz:Nat.beq z.cells.size t.size=true:=by simpa using hz
    have hz:=bL hz;let base:Array Value:=(Array.range (parts.length*t.size)).map fun k=>(if parts.length*t.size=0 then #[] else z.cells)[k%(if parts.length*t.size=0 then #[] else z.cells).size]!;have S9:base.size=parts.length*t.size:=by simp [base]
    obtain ⟨aG,news,e1,e2,e3,e4,e5⟩:=um (g:=g) (m:=st.mem) (S:=cx.safe g st.mem w) (w:=w) (arr:=base) hx hp (by rw [S9,Nat.zero_add];exact Nat.le_refl _);have kJ:(Instr.buildSlice T parts.length vparts).run cx.P w= .ok (.slice (some ⟨w.heap.size,0,none⟩) parts.length parts.length) (w.alloc (.cells aG el)):=by
     have Gi: ¬(16777216<parts.length*t.size):=by omega
     by_cases h0:parts.length*t.size=0;have H2:Instr.fill (fun j=>some (j*t.size,t.size)) ((Array.range (parts.length*t.size)).map fun k=>(#[]:Array Value)[k%(#[]:Array Value).size]!) vparts.toList=some aG:=by
      have:=e1;simp only [base,h0,if_true] at this;rw [h0];exact this
     simp only [Instr.buildSlice,Sem.run_bind,run_underlying hu,Result.andThen_ok,cL hs];simp [h0,Gi] at H2⊢;simp [H2,newRow];have H2:Instr.fill (fun j=>some (j*t.size,t.size)) ((Array.range (parts.length*t.size)).map fun k=>z.cells[k%z.cells.size]!) vparts.toList=some aG:=by
      have:=e1;simp only [base,h0,if_false] at this;exact this
     simp only [Instr.buildSlice,Sem.run_bind,run_underlying hu,Result.andThen_ok,cL hs];simp [h0,Gi,zeroValue,typeInfo,hi,ze] at H2⊢;simp [H2,newRow]
    refine ⟨_,_,kJ,?_⟩;have hlen:aG.toList=news:=by
     rw [e5,←e4];simp only [Nat.zero_mul,Nat.zero_add,List.take_zero,List.nil_append];rw [List.drop_of_length_le (by rw [Array.length_toList,S9];exact Nat.le_refl _)];simp
    rw [e4];exact pK.au h ⟨rfl,rfl,rfl⟩ (by rw [hlen];exact e3)
  cases he
 cases he
end
def NT:List Bool→List RV→List RV
 |true::fs,r::rs=>⟨false,r.t.er,D0 r.x⟩::NT fs rs
 |false::fs,r::rs=>r::NT fs rs
 |[],rs=>rs
 |_,[]=>[]
theorem gw.rep {S S':Nat→Prop}{w:World}(hS: ∀b,S b→S' b){t:Ty}{cs:List Value}{xs:List t.D}{A:List (List Nat→Option Nat)}(hA: ∀γ,γ∈A→ ∀p b,γ p=some b→S' b)(h:gw S w t cs xs A):bS S' w (.sl t) cs xs:=by
 rcases h with ⟨_,rfl,a,e⟩|⟨v,γ,eA,e,b,cap,arr,h0,ev,h1,h2,h3,h4,h5,h6⟩
 exact ⟨a,0,e,Nat.le_refl _,fun i hi=>by simp at hi⟩;subst e;subst ev;have hγ: ∀p b,γ p=some b→S' b:=hA γ (by rw [eA];simp);refine ⟨some ⟨b,0,none⟩,cap,rfl,h1,fun i hi=> ?_⟩;obtain ⟨es,k1,k2⟩:=h6.data hS hγ i hi;refine ⟨⟨b,0,none⟩,es,rfl,hγ [] b h0,fun j v hj=> ?_,k2⟩;rw [bY,h3.cell];simpa using k1 j v hj
theorem dh.rep {S S':Nat→Prop}{w:World}(hS: ∀b,S b→S' b): ∀(t:Ty) {cs:List Value} {x:t.D} {A:List (List Nat→Option Nat)},(∀γ,γ∈A→ ∀p b,γ p=some b→S' b)→dh S w t cs x A→bS S' w t cs x
 | .int _,_,_,_,_,h=>h.2
 | .aX _,_,_,_,_,h=>h.2
 | .bool,_,_,_,_,h=>h.2
 | .str,_,_,_,_,h=>h.2
 | .pair a b,_,_,_,hA,⟨c1,c2,A1,A2,e,eA,h1,h2⟩=>by
  subst e;subst eA;exact ⟨c1,c2,rfl,dh.rep hS a (fun γ hγ=>hA γ (List.mem_append.2 (.inl hγ))) h1,dh.rep hS b (fun γ hγ=>hA γ (List.mem_append.2 (.inr hγ))) h2⟩
 | .st t,_,_,_,hA,h=>dh.rep hS t (cs:=_) hA h
 | .sl t,_,_,_,hA,h=>gw.rep hS hA h
 | .bx t,_,xs,_,hA,⟨γ,b,arr,eA,e,h0,h1,h2⟩=>by
  subst e;have hγ: ∀p b,γ p=some b→S' b:=hA γ (by rw [eA];simp);refine ⟨⟨b,0,none⟩,rfl,fun i hi=> ?_⟩;obtain ⟨es,k1,k2⟩:=h2.data hS hγ i hi;refine ⟨es,hγ [] b h0,fun j v hj=> ?_,k2⟩;rw [bY,h1.cell];simpa using k1 j v hj
 | .own t,_,_,_,hA,h=>gw.rep hS hA h
theorem zg.cases {S:Nat→Prop}{w:World}{r:RV}{v:Value}{F:List (List Nat→Option Nat)}(h:zg S w r v F):(r.fresh=true∧ ∃cs,dO r.t cs v∧dh S w r.t cs r.x F)∨(r.fresh=false∧F=[]∧ ∃cs,dO r.t cs v∧bS S w r.t cs r.x):=by
 unfold zg at h;cases hf:r.fresh with
 |true=>rw [hf] at h;exact .inl ⟨rfl,h⟩
 |false=>rw [hf] at h;exact .inr ⟨rfl,h⟩
theorem zg.fr {S:Nat→Prop}{w:World}{r:RV}{v:Value}{F:List (List Nat→Option Nat)}(hf:r.fresh=true)(h: ∃cs,dO r.t cs v∧dh S w r.t cs r.x F):zg S w r v F:=by
 unfold zg;rw [hf];exact h
theorem zg.im {S:Nat→Prop}{w:World}{r:RV}{v:Value}(hf:r.fresh=false)(h: ∃cs,dO r.t cs v∧bS S w r.t cs r.x):zg S w r v []:=by
 unfold zg;rw [hf];exact ⟨rfl,h⟩
theorem zg.up {S S':Nat→Prop}{w:World}(hS: ∀b,S b→S' b){r:RV}{v:Value}{F:List (List Nat→Option Nat)}(h:zg S w r v F):zg S' w r v F:=by
 rcases h.cases with ⟨hf,cs,h1,h2⟩|⟨hf,rfl,cs,h1,h2⟩
 exact zg.fr hf ⟨cs,h1,dh.mono hS _ h2⟩;exact zg.im hf ⟨cs,h1,bS.keep (fun b hb=>⟨hS b hb,rfl⟩) _ _ _ h2⟩
theorem nR.up {S S':Nat→Prop}{w:World}(hS: ∀b,S b→S' b): ∀{rs:List RV} {vs:List Value} {F:List (List Nat→Option Nat)},nR S w rs vs F→nR S' w rs vs F
 |[],[],_,h=>h
 |_::_,_::_,_,⟨F1,F2,e,h1,h2⟩=>⟨F1,F2,e,h1.up hS,nR.up hS h2⟩
 |[],_::_,_,h=>h.elim
 |_::_,[],_,h=>h.elim
def Ua (A A':List (List Nat→Option Nat))(b:Nat):Prop:=(∃γ,γ∈A∧ ∃p,γ p=some b)∧ ¬ ∃γ,γ∈A'∧ ∃p,γ p=some b
theorem qD.app {A1 A2:List (List Nat→Option Nat)}(h:qD (A1++A2)):qD A1∧qD A2∧ ∀γ γ' p q b,γ∈A1→γ'∈A2→γ p=some b→γ' q=some b→False:=by
 obtain ⟨h1,h2⟩:=h;obtain ⟨k1,k2,k3⟩:=List.pairwise_append.1 h1;exact ⟨⟨k1,fun γ hγ=>h2 γ (List.mem_append.2 (.inl hγ))⟩,⟨k2,fun γ hγ=>h2 γ (List.mem_append.2 (.inr hγ))⟩,fun γ γ' p q b m1 m2 e1 e2=>k3 γ m1 γ' m2 p q b e1 e2⟩
theorem Ey {t:Ty}{cs:List Value}{v:Value}(h:dO t cs v):dO t.er cs v:=by
 cases t<;>exact h
theorem nR.Ub {w:World}: ∀{fs:List Bool} {rs:List RV} {vs:List Value} {A:List (List Nat→Option Nat)} {S:Nat→Prop},nR S w rs vs A→qD A→ ∃A',A'.Sublist A∧ ∀S':Nat→Prop,(∀b,S b→S' b)→(∀b,Ua A A' b→S' b)→nR S' w (NT fs rs) vs A':=by
 intro fs;induction fs with
 |nil=>
  intro rs vs A S h _;exact ⟨A,List.Sublist.refl _,fun S' hS _=>by cases rs<;>exact nR.up hS h⟩
 |cons f fs ih=>
  intro rs vs A S h A6;cases rs with
  |nil=>cases f<;>exact ⟨A,List.Sublist.refl _,fun S' hS _=>nR.up hS h⟩
  |cons r rs=>
   cases vs with
   |nil=>exact h.elim
   |cons v vs=>
    obtain ⟨A1,A2,e,h1,h2⟩:=h;subst e;obtain ⟨yt,ld,Uc⟩:=A6.app;obtain ⟨A',hs,hk⟩:=ih h2 ld;cases f with
    |true=>
     refine ⟨A',hs.trans (List.sublist_append_right _ _),fun S' hS hF=>⟨[],A',rfl,?_,hk S' hS fun b ⟨⟨γ,hγ,p,hp⟩,hn⟩=>hF b ⟨⟨γ,List.mem_append.2 (.inr hγ),p,hp⟩,hn⟩⟩⟩;rcases h1.cases with ⟨_,cs,q1,q2⟩|⟨_,_,cs,q1,q2⟩
     exact zg.im (r:=⟨false,r.t.er,D0 r.x⟩) rfl ⟨cs,Ey q1,qA _ _ _ (dh.rep hS r.t (fun γ hγ p b hp=>hF b ⟨⟨γ,List.mem_append.2 (.inl hγ),p,hp⟩,fun ⟨γ',QG,q,hq⟩=>Uc γ γ' p q b hγ (hs.subset QG) hp hq⟩) q2)⟩;exact zg.im (r:=⟨false,r.t.er,D0 r.x⟩) rfl ⟨cs,Ey q1,qA _ _ _ (bS.keep (fun b hb=>⟨hS b hb,rfl⟩) r.t cs _ q2)⟩
    |false=>
     refine ⟨A1++A',(List.Sublist.refl A1).append hs,fun S' hS hF=>⟨A1,A',rfl,h1.up hS,hk S' hS fun b ⟨⟨γ,hγ,p,hp⟩,hn⟩=>hF b ⟨⟨γ,List.mem_append.2 (.inr hγ),p,hp⟩,fun ⟨γ',QG,q,hq⟩=> ?_⟩⟩⟩;rcases List.mem_append.1 QG with hm|hm
     exact Uc γ' γ q p b hm hγ hq hp;exact hn ⟨γ',hm,q,hq⟩
theorem jd.up {S S':Nat→Prop}{w:World}(hS: ∀b,S b→S' b): ∀{as:List Arg} {vs:List Value} {Fs:List (List (List Nat→Option Nat))} {os:List TD},jd S w as vs Fs os→jd S' w as vs Fs os
 |[],[],[],[],h=>h
 | .own t x::as,v::vs,F::Fs,o::os,⟨⟨e,cs,h1,h2,h3⟩,h⟩=>⟨⟨e,cs,h1,dh.mono hS t h2,h3⟩,jd.up hS h⟩
 | .au _ _::as,_::vs,_::Fs,os,h=>jd.up (as:=as) (vs:=vs) (Fs:=Fs) (os:=os) hS h
 | .gO _ _::as,_::vs,_::Fs,os,h=>jd.up (as:=as) (vs:=vs) (Fs:=Fs) (os:=os) hS h
 | .fn _::as,_::vs,_::Fs,os,h=>jd.up (as:=as) (vs:=vs) (Fs:=Fs) (os:=os) hS h
 | .nM _ _ _::as,_::vs,_::Fs,os,h=>jd.up (as:=as) (vs:=vs) (Fs:=Fs) (os:=os) hS h
 | .mv _ _::as,_::vs,_::Fs,os,h=>jd.up (as:=as) (vs:=vs) (Fs:=Fs) (os:=os) hS h
 | .nl::as,_::vs,_::Fs,os,h=>jd.up (as:=as) (vs:=vs) (Fs:=Fs) (os:=os) hS h
 |[],[],[],_::_,h=>h.elim
 |[],[],_::_,_,h=>h.elim
 |[],_::_,_,_,h=>h.elim
 | .own _ _::_,[],_,_,h=>h.elim
 | .own _ _::_,_::_,[],_,h=>h.elim
 | .own _ _::_,_::_,_::_,[],h=>h.elim
 | .au _ _::_,[],_,_,h=>h.elim
 | .au _ _::_,_::_,[],_,h=>h.elim
 | .gO _ _::_,[],_,_,h=>h.elim
 | .gO _ _::_,_::_,[],_,h=>h.elim
 | .fn _::_,[],_,_,h=>h.elim
 | .nM _ _ _::_,[],_,_,h=>h.elim
 | .fn _::_,_::_,[],_,h=>h.elim
 | .nM _ _ _::_,_::_,[],_,h=>h.elim
 | .mv _ _::_,[],_,_,h=>h.elim
 | .mv _ _::_,_::_,[],_,h=>h.elim
 | .nl::_,[],_,_,h=>h.elim
 | .nl::_,_::_,[],_,h=>h.elim
def Jx:List Arg→Bool
 |[]=>true
 | .mv _ _::_=>false
 |_::as=>Jx as
theorem wA.none {b:Nat}: ∀{as:List Arg} {Fs:List (List (List Nat→Option Nat))},Jx as=true→ ¬wA b as Fs
 |[],_,_,h=>by simp [wA] at h
 |_::_,[],_,h=>by simp [wA] at h
 |a::as,F::Fs,h,hb=>by
  cases a with
  |mv t x=>cases h
  |_=>exact wA.none (as:=as) (Fs:=Fs) h hb
theorem CallOK.Ub {P:Program}{f:FuncId}{args:List Arg}{rs:List RV}{outs:List TD}(fs:List Bool)(hm:Jx args=true)(h:CallOK P f args rs outs):CallOK P f args (NT fs rs) outs:=by
 refine ⟨h.1,fun w S vals As F hB hI h1 h3 h4 WQ=>(h.2 w S vals As F hB hI h1 h3 h4 WQ).mono fun e w' ⟨v,A,F',e1,jL,A6,⟨vs,hr,hv⟩,hF,hk,ho⟩=> ?_⟩;obtain ⟨A',hs,WR⟩:=hr.Ub (fs:=fs) A6;obtain ⟨F2,WS⟩:=m4 (n:=w'.heap.size) (A:=A') (fun γ hγ p b hp=>(hF b ((jL b).2 ⟨γ,hs.subset hγ,p,hp⟩)).2);have Ez: ∀b,b∈F2→b∈F':=fun b hb=>by
  obtain ⟨γ,hγ,hp⟩:=(WS b).1 hb;exact (jL b).2 ⟨γ,hs.subset hγ,hp⟩
 have PG: ∀b,kL S w w' F' b→kL S w w' F2 b:=fun b ⟨q1,q2,q3⟩=>⟨q1,q2,fun hm=>q3 (Ez b hm)⟩;refine ⟨v,A',F2,e1,WS,⟨A6.1.sublist hs,fun γ hγ=>A6.2 γ (hs.subset hγ)⟩,⟨vs,WR _ PG fun b ⟨hb,hn⟩=> ?_,hv⟩,fun b hb=>hF b (Ez b hb),hk,ho.up PG⟩;have ke:=(jL b).2 hb;exact ⟨(hF b ke).2,fun cq=>by
  rcases (hF b ke).1 with q|q
  omega;exact absurd q (wA.none hm),fun hm=>hn ((WS b).1 hm)⟩
end Go.Ide
namespace Go.Ide
def zq (P:Program)(nx:Nat)(T T':TypeId)(t:Ty)(s x:aE):Option ca:=
 match P.underlying T,P.underlying T',s,x with
 |some (.slice e),some (.int _),.one .ar,.one (.aq (.int _) n)=>(match P.info? e,HP P e t with
  |some i,some z=>bif Nat.beq i.size t.size&&Nat.ble i.bytes 32768 then
   some ⟨.one (.all nx),[(nx,.seq t (List.replicate (Int.toNat n) z))],[],[(0:Int)≤n∧n≤4294967296]⟩ else none
  |_,_=>none)
 |_,_,_,_=>none
section
variable {cx:Cx} {g:GM} {st:St} {a:Act} {w:World} {P:Program}
theorem Be {t u ty e:TypeId}{i:TypeInfo}{z:Value}{ku k:IntKind}(ht:P.underlying t=some (.slice e))(hu:P.underlying u=some (.int ku))(hi:P.info? e=some i)(hz:i.zero=some z){base:Option Addr}{n:Nat}(hn:0<n)(fG:0<i.size)(hle:n≤4294967296)(Ej:i.bytes≤32768):
 (Builtin.append_ #[t,u] ty #[.slice base 0 0,.int k (n:Int)]).run P w=
  .ok (.slice (some ⟨w.heap.size,0,none⟩) n (grownCap w n 0 e))
   (w.drew.alloc (.cells (Builtin.zeroCells z.cells n++Builtin.zeroCells z.cells (grownCap w n 0 e - n)) e)):=by
 have hb:n*i.bytes≤140737488355328:=by
  calc n*i.bytes≤4294967296*32768:=Nat.mul_le_mul hle Ej
   _=140737488355328:=by decide
 have wl:IntKind.i64.wrap (n:Int)=n:=by rw [IntKind.wrap_i64];omega
 have n0: ¬((n:Int)<0):=by omega
 have o6: ¬(281474976710656<(n:Int)*(i.bytes:Int)):=by
  rw [←Int.natCast_mul];omega
 have lI: ¬(n≤0):=by omega
 have QH: ¬(n=0):=by omega
 have KF: ¬(9223372036854775807<(n:Int)):=by omega
 have Zr:=growslice_fits (old:=0) (by omega) hb;have KG: ¬(281474976710656<Builtin.nextslicecap n 0*i.bytes):=by omega
 have jq: ¬(n=0∨i.size=0):=by omega
 have Jy: ¬(n*i.size=0):=by rw [Nat.mul_eq_zero];exact jq
 have TG:(Builtin.firstCells i.size 0 (.slice base 0 0)).run P w.drew= .ok #[] w.drew:=by
  cases base<;>simp [Builtin.firstCells,loadCells,loadCellsFrom]
 simp [Builtin.append_,run_underlying ht,run_underlying hu,sizeOf,typeInfo,zeroValue,hi,hz,asInt,asIntOf,wl,n0,o6,QH,KF,KG,jq,Jy,Question.forced,TG,newRow,grownCap]
theorem Bf {t u ty e:TypeId}{i:TypeInfo}{ku k:IntKind}(ht:P.underlying t=some (.slice e))(hu:P.underlying u=some (.int ku))(hi:P.info? e=some i){base:Option Addr}:
 (Builtin.append_ #[t,u] ty #[.slice base 0 0,.int k 0]).run P w= .ok (.slice base 0 0) w:=by
 have wl:IntKind.i64.wrap 0=0:=by rw [IntKind.wrap_i64];omega
 cases base<;>simp [Builtin.append_,run_underlying ht,run_underlying hu,sizeOf,typeInfo,hi,asInt,asIntOf,wl,storeCells]
theorem zr {T T':TypeId}{ty:TypeId}{t:Ty}{s x:aE}{e:ca}{sv xv:Value}(h:dw cx g st a w)(hw:fH st.mem e.new)(he:zq cx.P st.nx T T' t s x=some e)(hc:bH e.cond)(hs:VR g st.mem (cx.safe g st.mem w) w s sv)(hx:VR g st.mem (cx.safe g st.mem w) w x xv):kf cx st a w (Builtin.append_ #[T,T'] ty #[sv,xv]) e:=by
 unfold zq at he;split at he;rename_i el ku k n hu Kr;have NS:=eL (g:=g) (m:=st.mem) (S:=cx.safe g st.mem w) (w:=w) hx;subst NS;obtain ⟨ab,QI⟩:=hs;subst QI;split at he;rename_i i z0 hi tT;cases hb:(Nat.beq i.size t.size&&Nat.ble i.bytes 32768) with
 |false=>simp [hb] at he
 |true=>
  rw [hb] at he;simp only [cond_true] at he;simp only [Bool.and_eq_true] at hb;have fG:=bL hb.1;have Ej:=iT hb.2;injection he with he;subst he;obtain ⟨⟨h0,h1⟩,_⟩:=hc;obtain ⟨q,rfl⟩:=Int.eq_ofNat_of_zero_le (show (0:Int)≤n from h0);have hq:q≤4294967296:=by have:((q:Nat):Int)≤4294967296:=h1;omega
  unfold HP at tT;rw [hi] at tT;cases ze:i.zero with
  |none=>simp [ze] at tT
  |some z=>
   simp only [ze] at tT;have cJ: ∀(S':Nat→Prop) (w':World) (γ:List Nat→Option Nat),(∀p,γ p=none)→cX S' w' t γ 0 z.cells.toList z0:=fun S' w' γ hγ=>by
    split at tT;rename_i pQ;obtain ⟨cs,hval,cJ⟩:=pO (g:=⟨fun _ _=>none⟩) (m:=[]) (S:=S') (S2:=S') (fun _ h=>h) i9.nil tT (yr (w:=w') z);rw [sb hval cJ];exact cX.rU t pQ cJ;split at tT;rename_i ja;split at tT;rename_i x hx;injection tT with tT;subst tT;obtain ⟨v1,v2,e,h1,h2⟩:=pR (g:=⟨fun _ _=>none⟩) (m:=[]) (S:=S') (w:=w') (γ:=γ) (o:=0) t hx (ou z ja) hγ;have:v2=[]:=by cases v2 with|nil=>rfl|cons=>exact h2.elim
    subst this;rw [List.append_nil] at e;rw [e];exact h1;cases tT;cases tT
   have vj:z.cells.size=t.size:=by rw [←Array.length_toList];exact cX.len t (cJ (fun _=>True) w (fun _=>none) (fun _=>rfl))
   have Zu:=t.size_pos;simp only [Int.toNat_natCast];by_cases WT:q=0;subst WT;refine ⟨_,_,Bf (P:=cx.P) hu Kr hi,?_⟩;exact pK.newAt (G:=[]) (up:=[]) (gk:=none) h hw ⟨rfl,rfl,rfl⟩ (.inl rfl) (bK.refl _ _) (.inl rfl) (fun b hb=>by cases hb) (fun b hb=>by cases hb) (fun S' hS=>rfl) ⟨ab,rfl⟩;have pv:=grownCap_ge w q 0 el;have Kp:=grownCap_le_maxLen w q 0 el (by unfold maxLen;omega);refine ⟨_,_,Be (P:=cx.P) hu Kr hi ze (by omega) (by omega) hq Ej,?_⟩;have dx:=dy.new w.drew (Builtin.zeroCells z.cells q++Builtin.zeroCells z.cells (grownCap w q 0 el - q)) el;refine pK.newAt (G:=[]) (up:=[]) (gk:=some w.heap.size) h hw ⟨rfl,rfl,rfl⟩ (.inl rfl) ((bK.drew [] w).trans (bK.alloc _ _ _)) (.inl rfl) (fun b hb=>by injection hb with hb;left;omega) (fun b hb=>by injection hb with hb;subst hb;exact dx.lt) (fun S' hS=>⟨_,dx,?_⟩) ?_;intro i' nr;simp only [List.length_replicate] at nr;refine ⟨z.cells.toList,fun j u hj=> ?_,?_⟩;have FR:j<t.size:=by rw [←vj,←Array.length_toList];exact (List.getElem?_eq_some_iff.1 hj).1
   have cq:i'*t.size+j<q*t.size:=by
    have:(i'+1)*t.size≤q*t.size:=Nat.mul_le_mul_right _ (by omega);rw [Nat.add_mul] at this;omega
   have zc:(i'*t.size+j)%t.size=j:=by rw [Nat.add_comm,Nat.mul_comm,Nat.add_mul_mod_self_left];exact Nat.mod_eq_of_lt FR
   rw [Array.getElem?_append_left (by rw [size_zeroCells,vj];exact cq)];have Zz:j<z.cells.size:=by rw [vj];exact FR
   simp only [Builtin.zeroCells,vj,Array.getElem?_map,Array.getElem?_range,cq,if_true,Option.map_some,zc];rw [getElem!_pos z.cells j Zz,←Array.getElem?_eq_getElem Zz,←Array.getElem?_toList];exact hj;simp only [List.getElem_replicate];exact cJ _ _ _ (fun p=>rfl);refine ⟨grownCap w q 0 el,_,by simp,by simpa using pv,dx,?_,Kp⟩;simp only [Array.size_append,size_zeroCells,vj,←Nat.add_mul];exact Nat.mul_le_mul_right _ (by omega)
 cases he;cases he
end
end Go.Ide
namespace Go.Ide
theorem bB.Gt {α β:Type}{R:α→β→Prop}: ∀{as:List α} {bs:List β},as.length=bs.length→(∀(j:Nat) (a:α) (b:β),as[j]? =some a→bs[j]? =some b→R a b)→bB R as bs
 |[],[],_,_=>trivial
 |a::as,b::bs,hl,h=>⟨h 0 a b rfl rfl,bB.Gt (by simpa using hl) fun j a' b' h1 h2=>h (j+1) a' b' (by simpa using h1) (by simpa using h2)⟩
 |[],_::_,hl,_=>by simp at hl
 |_::_,[],hl,_=>by simp at hl
theorem bB.imp_mem {α β:Type}{R R':α→β→Prop}: ∀{as:List α} {bs:List β},(∀a,a∈as→ ∀b,R a b→R' a b)→bB R as bs→bB R' as bs
 |[],[],_,_=>trivial
 |a::as,b::bs,h,hr=>⟨h a (by simp) b hr.1,bB.imp_mem (fun a' WU=>h a' (List.mem_cons_of_mem _ WU)) hr.2⟩
 |[],_::_,_,hr=>hr.elim
 |_::_,[],_,hr=>hr.elim
theorem vo: ∀(l:List Chunk) (n:Nat),(bG n l).map Prod.fst=List.range' n l.length
 |[],_=>rfl
 |_::r,n=>by simp [bG,vo r (n+1),List.range'_succ]
theorem pW: ∀(t:Ty) (x:t.D) (n o:Nat),(eK t x n).2.length=(bX t o).length
 | .pair a b,x,n,o=>by simp only [eK,bX,List.length_append,pW a _ _ o,pW b _ _ (o+a.size)]
 | .st t,x,n,o=>pW t x n o
 | .own _,_,_,_=>rfl
 | .int _,_,_,_=>rfl
 | .aX _,_,_,_=>rfl
 | .bool,_,_,_=>rfl
 | .str,_,_,_=>rfl
 | .sl _,_,_,_=>rfl
 | .bx _,_,_,_=>rfl
theorem kh: ∀(t:Ty) (o q:Nat),q∈bX t o→o≤q∧q<o+t.size
 | .pair a b,o,q,h=>by
  rcases List.mem_append.1 (show q∈bX a o++bX b (o+a.size) from h) with h|h
  have:=kh a o q h;simp only [Ty.size];omega;have:=kh b (o+a.size) q h;simp only [Ty.size];omega
 | .st t,o,q,h=>kh t o q h
 | .own _,o,q,h=>by simp [bX] at h;subst h;simp [Ty.size]
 | .int _,_,_,h=>by simp [bX] at h
 | .aX _,_,_,h=>by simp [bX] at h
 | .bool,_,_,h=>by simp [bX] at h
 | .str,_,_,h=>by simp [bX] at h
 | .sl _,_,_,h=>by simp [bX] at h
 | .bx _,_,_,h=>by simp [bX] at h
theorem mR: ∀(t:Ty) (o:Nat),(bX t o).Nodup
 | .pair a b,o=>by
  show (bX a o++bX b (o+a.size)).Nodup;rw [List.nodup_append];refine ⟨mR a o,mR b _,fun q hq q' FT e=> ?_⟩;have:=kh a o q hq;have:=kh b (o+a.size) q' FT;omega
 | .st t,o=>mR t o
 | .own _,o=>by simp [bX]
 | .int _,_=>by simp [bX]
 | .aX _,_=>by simp [bX]
 | .bool,_=>by simp [bX]
 | .str,_=>by simp [bX]
 | .sl _,_=>by simp [bX]
 | .bx _,_=>by simp [bX]
section
variable {S:Nat→Prop} {w:World}
theorem th: ∀(t:Ty) {γ:List Nat→Option Nat} {o:Nat} {cs:List Value} {x:t.D} (n:Nat),cX S w t γ o cs x→ ∀(g':GM) (m':Mem),(∀j ch,(eK t x n).2[j]? =some ch→lk (n+j) m'=some ch)→
 (∀j q,(bX t o)[j]? =some q→g'.f (n+j)=fun p=>γ (q::p))→
 bB (CR g' m' S w) (eK t x n).1 cs∧ ∀j ch,(eK t x n).2[j]? =some ch→(∃t' cE,ch= .seq t' cE)∧kd g' m' S w (g'.f (n+j)) ch
 | .pair a b,γ,o,_,x,n,⟨c1,c2,e,h1,h2⟩=>by
  subst e;intro g' m' hm hg;have la:=pW a x.1 n o;obtain ⟨p1,q1⟩:=th a n h1 g' m' (fun j ch hj=>hm j ch (by
   simp only [eK];rw [List.getElem?_append_left (List.getElem?_eq_some_iff.1 hj).1];exact hj)) (fun j q hj=>hg j q (by
   show (bX a o++bX b (o+a.size))[j]? =_;rw [List.getElem?_append_left (List.getElem?_eq_some_iff.1 hj).1];exact hj))
  obtain ⟨p2,q2⟩:=th b (n+(eK a x.1 n).2.length) h2 g' m' (fun j ch hj=>by
   rw [Nat.add_assoc];refine hm _ ch ?_;simp only [eK];rw [List.getElem?_append_right (by omega)];simpa using hj) (fun j q hj=>by
   rw [Nat.add_assoc];refine hg _ q ?_;show (bX a o++bX b (o+a.size))[_]? =_;rw [List.getElem?_append_right (by omega),la];simpa using hj)
  refine ⟨p1.append p2,fun j ch hj=> ?_⟩;simp only [eK] at hj;by_cases cq:j<(eK a x.1 n).2.length;rw [List.getElem?_append_left cq] at hj;exact q1 j ch hj;rw [List.getElem?_append_right (by omega)] at hj;have:=q2 _ ch hj;rw [Nat.add_assoc,show (eK a x.1 n).2.length+(j - (eK a x.1 n).2.length)=j from by omega] at this;exact this
 | .st t,γ,o,cs,x,n,h=>th t (o:=o) (cs:=cs) (x:=x) n h
 | .own t,γ,o,cs,xs,n,⟨v,e,ha,hr⟩=>by
  subst e;intro g' m' hm hg;have hl:=hm 0 _ rfl;have nq:=hg 0 o rfl;rw [Nat.add_zero] at hl nq;have h0:g' n=γ [o]:=congrFun nq [];refine ⟨⟨⟨by rw [hl];simp,ha.one,fun t' cE fe=> ?_⟩,trivial⟩,fun j ch hj=> ?_⟩;have e:=dM.toSeq hl fe;rw [hl] at e;injection e with e;injection e with e1 e2;subst e1;have e2:=eq_of_heq e2;subst e2;rw [h0];exact ha;have:j=0:=by
   have:=(List.getElem?_eq_some_iff.1 hj).1;simp [eK] at this;exact this
  subst this;simp [eK] at hj;subst hj;refine ⟨⟨t,xs,rfl⟩,?_⟩;rw [Nat.add_zero,nq];unfold kd;cases hγ:γ [o] with
  |none=>rw [hγ] at hr;simp only [hγ];exact List.eq_nil_of_length_eq_zero hr
  |some b=>rw [hγ] at hr;obtain ⟨arr,hb,hi⟩:=hr;simp only [hγ];exact ⟨arr,hb,hi⟩
 | .int k,_,_,cs,x,n,h=>fun g' m' _ _=>by
  have h:cs=[.int k x]:=h;subst h;exact ⟨⟨rfl,trivial⟩,fun j ch hj=>by simp [eK] at hj⟩
 | .aX k,_,_,cs,x,n,h=>fun g' m' _ _=>by
  obtain ⟨b,e,h⟩:=(h: ∃b,cs=[Value.float k b]∧bw k b=x);subst e;exact ⟨⟨⟨b,rfl,h⟩,trivial⟩,fun j ch hj=>by simp [eK] at hj⟩
 | .bool,_,_,cs,x,n,h=>fun g' m' _ _=>by
  have h:cs=[.bool x]:=h;subst h;exact ⟨⟨rfl,trivial⟩,fun j ch hj=>by simp [eK] at hj⟩
 | .str,_,_,cs,x,n,h=>fun g' m' _ _=>by
  have h:cs=[.string ⟨x.toArray⟩]:=h;subst h;exact ⟨⟨rfl,trivial⟩,fun j ch hj=>by simp [eK] at hj⟩
 | .sl t,_,_,cs,x,n,h=>fun g' m' _ _=>by
  have hl:=bS.len (.sl t) cs x h;have h:bS S w (.sl t) cs x:=h
  match cs,hl,h with
  |[v],_,h=>exact ⟨⟨h,trivial⟩,fun j ch hj=>by simp [eK] at hj⟩
 | .bx t,_,_,cs,x,n,h=>fun g' m' _ _=>by
  have hl:=bS.len (.bx t) cs x h;have h:bS S w (.bx t) cs x:=h
  match cs,hl,h with
  |[v],_,h=>exact ⟨⟨h,trivial⟩,fun j ch hj=>by simp [eK] at hj⟩
end
def Bg (c i nx:Nat)(t:Ty)(xs:List t.D):Mem:=
 [(c,.rB t xs i (eK t (xs.getD i t.gd) nx).1 ((bG nx (eK t (xs.getD i t.gd) nx).2).map Prod.fst))]
def tU (i nx:Nat)(t:Ty)(xs:List t.D):Mem:=bG nx (eK t (xs.getD i t.gd) nx).2
section
variable {cx:Cx} {g:GM} {st:St} {a:Act} {w:World}
theorem dw.KX {c i:Nat}{t:Ty}{xs:List t.D}(h:dw cx g st a w)(hl:lk c st.mem=some (.seq t xs))(hi:i<xs.length)(hw:fH st.mem (tU i st.nx t xs)):
 ∃g',dw cx g' (st.my (Bg c i st.nx t xs++tU i st.nx t xs++st.mem) (st.nx+(tU i st.nx t xs).length)) a w∧
  nI g g' st.mem (Bg c i st.nx t xs++tU i st.nx t xs++st.mem) (cx.safe g st.mem w) (cx.safe g' (Bg c i st.nx t xs++tU i st.nx t xs++st.mem) w) w w:=by
 let o7:=(eK t (xs.getD i t.gd) st.nx).2;let KY:=bX t 0;have mQ:o7.length=KY.length:=pW t _ _ 0;let g':GM:=⟨fun k=>if st.nx≤k then (match KY[k - st.nx]? with|some q=>fun p=>g.f c (i::q::p)|none=>g.f k) else g.f k⟩;have vl: ∀j,j<o7.length→lk (st.nx+j) st.mem=none:=fun j hj=>by
  have CA:(st.nx+j,o7[j])∈tU i st.nx t xs:=
   mD (by show lk _ (bG st.nx o7)=_;rw [dP,if_pos (by omega),show st.nx+j - st.nx=j from by omega];exact List.getElem?_eq_getElem hj)
  exact hw _ CA
 let m':Mem:=Bg c i st.nx t xs++tU i st.nx t xs++st.mem;have hold: ∀k,lk k st.mem≠none→st.nx≤k→o7.length≤k - st.nx:=fun k jq hle=>by
  rcases Nat.lt_or_ge (k - st.nx) o7.length with cq|pv
  exact absurd (by have:=vl _ cq;rwa [show st.nx+(k - st.nx)=k from by omega] at this) jq;exact pv
 have qG: ∀k,lk k st.mem≠none→g'.f k=g.f k:=fun k jq=>by
  show (if st.nx≤k then _ else _)=_;by_cases hle:st.nx≤k;rw [if_pos hle,List.getElem?_eq_none (by rw [←mQ];exact hold k jq hle)];rw [if_neg hle]
 have oz: ∀j q,KY[j]? =some q→g'.f (st.nx+j)=fun p=>g.f c (i::q::p):=fun j q hj=>by
  show (if st.nx≤st.nx+j then _ else _)=_;rw [if_pos (by omega),show st.nx+j - st.nx=j from by omega,hj]
 have QJ:lk c st.mem≠none:=by rw [hl];simp
 have Ud:lk c m'=some (.rB t xs i (eK t (xs.getD i t.gd) st.nx).1 ((bG st.nx o7).map Prod.fst)):=by
  show lk c (_++_++_)=_;rw [bQ,bQ];show (((lk c [(c,_)]).or _).or _)=_;rw [aS,if_pos rfl];rfl
 have CK: ∀j ch,o7[j]? =some ch→lk (st.nx+j) m'=some ch:=fun j ch hj=>by
  have jq:st.nx+j≠c:=fun e=>QJ (by rw [←e];exact vl j (List.getElem?_eq_some_iff.1 hj).1);show lk _ (_++_++_)=_;rw [bQ,bQ];show (((lk _ [(c,_)]).or (lk _ (bG st.nx o7))).or _)=_;rw [aS,if_neg jq,gI,dP,if_pos (by omega),show st.nx+j - st.nx=j from by omega,hj];rfl
 have wB: ∀k,k≠c→lk k st.mem≠none→lk k m'=lk k st.mem:=fun k hk jq=>by
  have WH:lk k (bG st.nx o7)=none:=by
   rw [dP];by_cases hle:st.nx≤k;rw [if_pos hle];exact List.getElem?_eq_none (hold k jq hle);rw [if_neg hle]
  show lk _ (_++_++_)=_;rw [bQ,bQ];show (((lk _ [(c,_)]).or (lk _ (bG st.nx o7))).or _)=_;rw [aS,if_neg hk,gI,WH];simp
 have wC: ∀k ch,lk k m'=some ch→lk k st.mem=none→ ∃j,k=st.nx+j∧o7[j]? =some ch:=fun k ch hk vh=>by
  have jq:k≠c:=fun e=>QJ (by rw [←e];exact vh);have hk:lk k (Bg c i st.nx t xs++tU i st.nx t xs++st.mem)=some ch:=hk;rw [bQ,bQ] at hk;have hk:(((lk k [(c,_)]).or (lk k (bG st.nx o7))).or (lk k st.mem))=some ch:=hk;rw [aS,if_neg jq,gI,dP,vh] at hk;by_cases hle:st.nx≤k;rw [if_pos hle] at hk;refine ⟨k - st.nx,by omega,?_⟩;cases hx:o7[k - st.nx]? with
  |none=>rw [hx] at hk;simp at hk
  |some c0=>rw [hx] at hk;simpa using hk
  rw [if_neg hle] at hk;simp at hk
 have QK: ∀j ch,o7[j]? =some ch→ ∃q,KY[j]? =some q:=fun j ch hj=>
  ⟨KY[j]'(by rw [←mQ];exact (List.getElem?_eq_some_iff.1 hj).1),List.getElem?_eq_getElem _⟩
 have dN: ∀b,cx.safe g st.mem w b→cx.safe g' m' w b:=fun b ⟨h1,h2,h3⟩=>by
  refine ⟨h1,h2,?_⟩;rintro ⟨k,p,ch,hk,hn,hg⟩;cases ho:lk k st.mem with
  |none=>
   obtain ⟨j,e,hj⟩:=wC k ch hk ho;subst e;obtain ⟨q,hq⟩:=QK j ch hj;rw [oz j q hq] at hg;exact h3 ⟨c,_,_,hl,trivial,hg⟩
  |some c0=>
   rw [qG k (by rw [ho];simp)] at hg;by_cases e:k=c;subst e;exact h3 ⟨k,p,_,hl,trivial,hg⟩;rw [wB k e (by rw [ho];simp),ho] at hk;injection hk with hk;exact h3 ⟨k,p,c0,ho,by rw [hk];exact hn,hg⟩
 obtain ⟨G,hG⟩:=m4 (n:=w.heap.size) (A:=[fun p=>g.f c (i::p)]) (fun γ hγ p b hp=>by
  simp at hγ;subst hγ;exact h.lt c _ _ b hl trivial hp)
 have WV: ∀b,b∈G↔ ∃p,g.f c (i::p)=some b:=fun b=>by rw [hG b];simp
 have cY:=h.mem c _ hl;unfold kd at cY;cases Jm:g.f c [] with
 |none=>rw [Jm] at cY;have hn:xs=[]:=cY;subst hn;simp at hi
 |some bc=>
 rw [Jm] at cY;obtain ⟨arr,dx,iJ⟩:=cY;obtain ⟨D3,wy,Kq,Td⟩:=iJ.at_ hi;obtain ⟨ns,WW⟩:=th t st.nx (cX.keep (fun b hb=>⟨dN b hb,rfl⟩) t (fun _ _ _=>rfl) Td) g' m' CK (fun j q hj=>oz j q hj);have T:AY cx g g' st.mem m' w w G:=by
  refine ⟨bK.refl _ _,fun b hb=> ?_,qG,fun k ch ho=> ?_,fun k ch ho gP=> ?_⟩;obtain ⟨p,hp⟩:=(WV b).1 hb;exact ⟨c,_,_,hl,trivial,hp⟩;by_cases e:k=c;subst e;rw [hl] at ho;injection ho with ho;subst ho;refine .inr (.inr ⟨by simp,_,Ud,by simp,fun _ _=>trivial,fun t0 VK e=> ?_,fun t0 VK e=>(by cases e),fun p b arr _ _ hb=>⟨arr,hb,rfl⟩,?_⟩);rcases e with e|⟨_,_,_,e⟩
  cases e;injection e with e1 e2;subst e1;have e2:=eq_of_heq e2;subst e2;exact ⟨xs,.inl rfl,rfl⟩;rw [qG k QJ];refine ⟨bB.Gt (by rw [List.length_map,rE];exact mQ.symm) fun j q k' hq gP=> ?_,bc,arr,Jm,dx,hi,fun j hj jq=> ?_,D3,wy,Kq,ns⟩;have Tg:j<o7.length:=by rw [mQ];exact (List.getElem?_eq_some_iff.1 hq).1
  rw [vo,List.getElem?_range' Tg] at gP;injection gP with gP;have gP:k'=st.nx+j:=by omega
  subst gP;exact ⟨by rw [CK j _ (List.getElem?_eq_getElem Tg)];simp,oz j q hq⟩;obtain ⟨es,k1,k2⟩:=iJ j hj;exact ⟨es,k1,cX.keep (fun b hb=>⟨dN b hb,rfl⟩) t (fun _ _ _=>rfl) k2⟩;refine .inl ⟨by rw [wB k e (by rw [ho];simp)];exact ho,fun p b hn H9 hbG=> ?_⟩;obtain ⟨p',hp'⟩:=(WV b).1 hbG;exact e (h.lz k c p _ _ _ b ho hn hl trivial H9 hp').1;obtain ⟨j,e,hj⟩:=wC k ch gP ho;subst e;obtain ⟨q,hq⟩:=QK j ch hj;refine ⟨(WW j ch hj).2,fun p b _ H9=> ?_⟩;rw [oz j q hq] at H9;refine ⟨.inr ((WV b).2 ⟨_,H9⟩),h.lt c _ _ b hl trivial H9,fun k' p' jM dU ld u9=> ?_⟩;cases D6:lk k' st.mem with
  |none=>
   obtain ⟨j2,e2,Gn⟩:=wC k' jM dU D6;subst e2;obtain ⟨q2,yu⟩:=QK j2 jM Gn;rw [oz j2 q2 yu] at u9;have:=(h.lz c c _ _ _ _ b hl trivial hl trivial u9 H9).2;injection this with _ this;injection this with e1 e2;subst e1;have WX:j2=j:=by
    obtain ⟨l1,q1⟩:=List.getElem?_eq_some_iff.1 yu;obtain ⟨l2,q2'⟩:=List.getElem?_eq_some_iff.1 hq;exact (List.getElem_inj (mR t 0)).1 (q1.trans q2'.symm)
   exact ⟨by rw [WX],e2⟩
  |some c0=>
   exfalso;rw [qG k' (by rw [D6];simp)] at u9;by_cases e:k'=c;subst e;rw [Ud] at dU;injection dU with dU;subst dU;have:=(h.lz k' k' _ _ _ _ b hl trivial hl trivial u9 H9).2;exact ld q p this (List.mem_of_getElem? hq);rw [wB k' e (by rw [D6];simp),D6] at dU;injection dU with dU;subst dU;exact e (h.lz k' c _ _ _ _ b D6 ld hl trivial u9 H9).1
 exact ⟨g',h.AZ T,T.stays⟩
end
end Go.Ide
namespace Go.Ide
def QL (j:Nat):List Nat→Bool
 |[]=>false
 |a::l=>Nat.beq j a||QL j l
theorem yw {j:Nat}: ∀{l:List Nat},QL j l=true↔j∈l
 |[]=>by simp [QL]
 |a::l=>by simp [QL,yw (l:=l)]
def dX:List aA→List Nat
 |[]=>[]
 | .all k::r=>k::dX r
 |_::r=>dX r
theorem nU: ∀{cs:List aA} {q k:Nat},cs[q]? =some (.all k)→k∈dX cs
 |[],q,k,h=>by simp at h
 |c::cs,0,k,h=>by simp at h;subst h;simp [dX]
 |c::cs,q+1,k,h=>by
  have:=nU (cs:=cs) (q:=q) (k:=k) (by simpa using h);cases c<;>simp [dX,this]
theorem vp: ∀{cs:List aA} {p q k:Nat},(dX cs).Nodup→cs[p]? =some (.all k)→cs[q]? =some (.all k)→p=q
 |[],p,q,k,_,h,_=>by simp at h
 |c::cs,0,0,k,_,_,_=>rfl
 |c::cs,0,q+1,k,hn,h1,h2=>by
  simp at h1;subst h1;simp only [dX,List.nodup_cons] at hn;exact absurd (nU (by simpa using h2)) hn.1
 |c::cs,p+1,0,k,hn,h1,h2=>by
  simp at h2;subst h2;simp only [dX,List.nodup_cons] at hn;exact absurd (nU (by simpa using h1)) hn.1
 |c::cs,p+1,q+1,k,hn,h1,h2=>by
  have Cr:(dX cs).Nodup:=by cases c<;>simp [dX] at hn<;>first|exact hn|exact hn.2
  have h1:cs[p]? =some (.all k):=by simpa using h1
  have h2:cs[q]? =some (.all k):=by simpa using h2
  rw [vp Cr h1 h2]
theorem vq: ∀(a b:List aA),dX (a++b)=dX a++dX b
 |[],_=>rfl
 |c::a,b=>by cases c<;>simp [dX,vq a b]
section
variable {m:Mem}
theorem xE: ∀(t:Ty) {cs r:List aA} {x:t.D} {ls:List Nat},mj m t cs=some ((x,ls),r)→ ∃c1,cs=c1++r∧c1.length=t.size∧ls=dX c1∧ ∀k∈ls,∃t' cE,lk k m=some (.seq t' cE):=by
 have rP: ∀(t:Ty) (ht:t.size=1) (hf: ∀c x,eu [] t c=some x→dX [c]=[]) {cs r:List aA} {x:t.D} {ls:List Nat},(cW [] t cs).map (fun p=>((p.1,([]:List Nat)),p.2))=some ((x,ls),r)→ ∃c1,cs=c1++r∧c1.length=t.size∧ls=dX c1∧ ∀k∈ls,∃t' cE,lk k m=some (.seq t' cE):=by
  intro t ht hf cs r x ls h;cases cs with
  |nil=>simp [cW] at h
  |cons c cs=>
   simp only [cW] at h;cases hd:eu [] t c with
   |none=>rw [hd] at h;simp at h
   |some y=>
    rw [hd] at h;simp at h;obtain ⟨⟨rfl,rfl⟩,rfl⟩:=h;exact ⟨[c],rfl,by simp [ht],(hf c y hd).symm,by simp⟩
 have BF: ∀(t:Ty) c x,eu [] t c=some x→dX [c]=[]:=by
  intro t c x h;cases c<;>first|rfl|skip
  rename_i k;cases t<;>simp [eu,gI] at h
 intro t;induction t with
 |int k=>intro cs r x ls h;exact rP _ rfl (BF _) h
 |aX k=>intro cs r x ls h;exact rP _ rfl (BF _) h
 |bool=>intro cs r x ls h;exact rP _ rfl (BF _) h
 |str=>intro cs r x ls h;exact rP _ rfl (BF _) h
 |sl t _=>intro cs r x ls h;exact rP _ rfl (BF _) h
 |bx t _=>intro cs r x ls h;exact rP _ rfl (BF _) h
 |st t ih=>intro cs r x ls h;exact ih h
 |pair a b Qz QA=>
  intro cs r x ls h;simp only [mj] at h;split at h;rename_i y k1 r1 h1;split at h;rename_i z k2 r2 h2;injection h with h;injection h with h3 h4;injection h3 with h5 h6;subst h4;subst h6;obtain ⟨c1,e1,l1,q1,s1⟩:=Qz h1;obtain ⟨c2,e2,l2,q2,s2⟩:=QA h2;refine ⟨c1++c2,by rw [e1,e2,List.append_assoc],by simp [Ty.size,l1,l2],by rw [vq,q1,q2],fun k hk=> ?_⟩;rcases List.mem_append.1 hk with hk|hk
  exact s1 k hk;exact s2 k hk;cases h;cases h
 |own t _=>
  intro cs r x ls h;simp only [mj] at h;split at h;injection h with h;injection h with h3 h4;injection h3 with h5 h6;subst h4;subst h6;exact ⟨[.ar],rfl,rfl,rfl,by simp⟩;rename_i c r';split at h;rename_i e xs hl;split at h;injection h with h;injection h with h3 h4;injection h3 with h5 h6;subst h4;subst h6;exact ⟨[.all c],rfl,rfl,rfl,fun k hk=>by simp at hk;subst hk;exact ⟨_,_,hl⟩⟩;cases h;cases h;cases h
variable {g:GM} {S S2:Nat→Prop} {w:World}
theorem Jz (hm:lj g m S w)(hS: ∀b,S b→S2 b): ∀(t:Ty) {γ:List Nat→Option Nat} {o:Nat} {cs r:List aA} {x:t.D} {ls:List Nat} {vs:List Value},mj m t cs=some ((x,ls),r)→bB (CR g m S w) cs vs→
 (∀q,o+q∈bX t o→ ∀k,cs[q]? =some (.all k)→ ∀p,γ ((o+q)::p)=g.f k p)→(∀q,o+q∈bX t o→cs[q]? =some .ar→γ [o+q]=none)→
 ∃v1 v2,vs=v1++v2∧cX S2 w t γ o v1 x∧bB (CR g m S w) r v2:=by
 have rP: ∀(t:Ty) (hp: ∀(γ:List Nat→Option Nat) (o:Nat) (cs:List Value) (x:t.D),bS S2 w t cs x→cX S2 w t γ o cs x) {γ:List Nat→Option Nat} {o:Nat} {cs r:List aA} {x:t.D} {ls:List Nat} {vs:List Value},
  (cW [] t cs).map (fun p=>((p.1,([]:List Nat)),p.2))=some ((x,ls),r)→bB (CR g m S w) cs vs→ ∃v1 v2,vs=v1++v2∧cX S2 w t γ o v1 x∧bB (CR g m S w) r v2:=by
  intro t hp γ o cs r x ls vs h hr;cases cs with
  |nil=>simp [cW] at h
  |cons c cs=>
   cases vs with
   |nil=>exact hr.elim
   |cons v vs=>
    simp only [cW] at h;cases hd:eu [] t c with
    |none=>rw [hd] at h;simp at h
    |some y=>
     rw [hd] at h;simp at h;obtain ⟨⟨rfl,rfl⟩,rfl⟩:=h;exact ⟨[v],vs,rfl,hp γ o _ _ (rX hS i9.nil hd hr.1),hr.2⟩
 intro t;induction t with
 |int k=>intro γ o cs r x ls vs h hr _ _;exact rP (.int k) (fun _ _ _ _ h=>h) h hr
 |aX k=>intro γ o cs r x ls vs h hr _ _;exact rP (.aX k) (fun _ _ _ _ h=>h) h hr
 |bool=>intro γ o cs r x ls vs h hr _ _;exact rP (.bool) (fun _ _ _ _ h=>h) h hr
 |str=>intro γ o cs r x ls vs h hr _ _;exact rP (.str) (fun _ _ _ _ h=>h) h hr
 |sl t _=>intro γ o cs r x ls vs h hr _ _;exact rP (.sl t) (fun _ _ _ _ h=>h) h hr
 |bx t _=>intro γ o cs r x ls vs h hr _ _;exact rP (.bx t) (fun _ _ _ _ h=>h) h hr
 |st t ih=>intro γ o cs r x ls vs h hr h1 h2;exact ih h hr h1 h2
 |pair a b Qz QA=>
  intro γ o cs r x ls vs h hr hγ JA;simp only [mj] at h;split at h;rename_i y k1 r1 h1;split at h;rename_i z k2 r2 h2;injection h with h;injection h with h3 h4;injection h3 with h5 h6;subst h4;subst h5;obtain ⟨c1,e1,l1,_,_⟩:=xE a h1;obtain ⟨v1,v2,rfl,p1,q1⟩:=Qz (γ:=γ) (o:=o) h1 hr (fun q hq k hk p=>hγ q (List.mem_append.2 (.inl hq)) k hk p) (fun q hq hk=>JA q (List.mem_append.2 (.inl hq)) hk);obtain ⟨v3,v4,rfl,p2,q2⟩:=QA (γ:=γ) (o:=o+a.size) h2 q1 (fun q hq k hk p=>by
   have:=hγ (a.size+q) (List.mem_append.2 (.inr (by rw [←Nat.add_assoc];exact hq))) k (by rw [e1,List.getElem?_append_right (by omega),l1,Nat.add_sub_cancel_left];exact hk) p;rw [Nat.add_assoc];exact this) (fun q hq hk=>by
   have:=JA (a.size+q) (List.mem_append.2 (.inr (by rw [←Nat.add_assoc];exact hq))) (by rw [e1,List.getElem?_append_right (by omega),l1,Nat.add_sub_cancel_left];exact hk);rw [Nat.add_assoc];exact this)
  exact ⟨v1++v3,v4,by simp,⟨v1,v3,rfl,p1,p2⟩,q2⟩;cases h;cases h
 |own t _=>
  intro γ o cs r x ls vs h hr hγ JA;simp only [mj] at h;have se:o+0∈bX (.own t) o:=by simp [bX]
  split at h;injection h with h;injection h with h3 h4;injection h3 with h5 h6;subst h4;subst h5;cases vs with
  |nil=>exact hr.elim
  |cons v vs=>
   have h0:=JA 0 se rfl;rw [Nat.add_zero] at h0;obtain ⟨a,ha⟩:=hr.1;subst ha;refine ⟨[_],vs,rfl,⟨_,rfl,?_,?_⟩,hr.2⟩;rw [h0];exact ⟨a,rfl⟩;rw [h0];rfl
  rename_i c r';split at h;rename_i e xs hl;split at h;rename_i he;subst he;injection h with h;injection h with h3 h4;injection h3 with h5 h6;subst h4;subst h5;cases vs with
  |nil=>exact hr.elim
  |cons v vs=>
   have h0:=hγ 0 se c rfl;rw [Nat.add_zero] at h0;have hv:=hr.1.2.2 e xs (.inl hl);have cY:=hm c _ hl;unfold kd at cY;have VG:γ [o]=g.f c []:=h0 [];refine ⟨[v],vs,rfl,⟨v,rfl,?_,?_⟩,hr.2⟩;rw [VG];exact hv;rw [VG];cases hg:g.f c [] with
   |none=>rw [hg] at cY;have cY:xs=[]:=cY;show List.length xs=0;rw [cY];rfl
   |some b=>
    rw [hg] at cY;obtain ⟨arr,hb,iJ⟩:=cY;refine ⟨arr,hb,fun i hi=> ?_⟩;obtain ⟨es,k1,k2⟩:=iJ i hi;refine ⟨es,k1,?_⟩;have:(fun p=>γ (o::i::p))=fun p=>g.f c (i::p):=funext fun p=>h0 (i::p);rw [this];exact cX.keep (fun b hb=>⟨hS b hb,rfl⟩) e (fun _ _ _=>rfl) k2
  cases h;cases h;cases h
theorem EA {k:Nat}{m:Mem}: ∀{ls:List Nat},lk k ((ls.map fun k=>(k,Chunk.gone))++m)=if k∈ls then some .gone else lk k m
 |[]=>by simp
 |q::ls=>by
  simp only [List.map_cons,List.cons_append];rw [aS,EA (ls:=ls)];by_cases e:k=q;subst e;simp;rw [if_neg e];simp [e]
end
end Go.Ide
namespace Go.Ide
def zt (m:Mem)(nx:Nat):aE→Option (Mem×Mem×Prop)
 | .one (.iy c i sz _)=>match lk c m with
  |some (.seq t xs)=>bif Nat.beq sz t.size then some (Bg c i nx t xs,tU i nx t xs,i<xs.length) else none
  |_=>none
 |_=>none
def CN (P:Program)(m:Mem)(nx:Nat)(T:TypeId)(v:aE):Option ca:=
 match zt m nx v with
 |some (u,n,p)=>(match pN P (u++n++m) T v with
  |some e=>some ⟨e.val,n,u,[p]⟩
  |none=>none)
 |none=>none
def yx (P:Program)(m:Mem)(nx:Nat)(T:TypeId)(v x:aE):Option ca:=
 match zt m nx v with
 |some (u,n,p)=>(match qy P (u++n++m) T v x with
  |some e=>some ⟨.jk,n,e.mu++u,[p]⟩
  |none=>none)
 |none=>none
theorem zu {m:Mem}{nx:Nat}{v:aE}{u n:Mem}{p:Prop}(h:zt m nx v=some (u,n,p)):
 ∃c i sz off t xs,v= .one (.iy c i sz off)∧lk c m=some (.seq t xs)∧u=Bg c i nx t xs∧n=tU i nx t xs∧p=(i<xs.length):=by
 unfold zt at h;split at h;rename_i c i sz off;split at h;rename_i t xs hl;cases hb:Nat.beq sz t.size with
 |false=>rw [hb] at h;cases h
 |true=>
  rw [hb] at h;simp only [cond_true] at h;injection h with h;injection h with h1 h;injection h with h2 h3;exact ⟨c,i,sz,off,t,xs,rfl,hl,h1.symm,h2.symm,h3.symm⟩
 cases h;cases h
theorem Ic {c i nx:Nat}{t:Ty}{xs:List t.D}{l:Mem}: ∃cs ks,lk c (Bg c i nx t xs++l)=some (.rB t xs i cs ks):=by
 refine ⟨(eK t (xs.getD i t.gd) nx).1,(bG nx (eK t (xs.getD i t.gd) nx).2).map Prod.fst,?_⟩;show lk c ((c,_)::l)=_;rw [aS,if_pos rfl]
theorem Gu {P:Program}{m:Mem}{T:TypeId}{c i sz off:Nat}{t:Ty}{xs:List t.D}{cs:List aA}{ks:List Nat}{e:ca}(hl:lk c m=some (.rB t xs i cs ks))(h:pN P m T (.one (.iy c i sz off))=some e):bH e.cond:=by
 unfold pN at h;split at h;rename_i c' i' Ie dY n ag ha hs hag;injection ha with ha;injection ha with e1 e2 e3 e4;subst e1;subst e2;subst e3;subst e4;rw [hl] at h;simp only at h;cases hb:(Nat.ble (off+n) t.size&&Nat.beq sz t.size) with
 |false=>rw [hb] at h;cases h
 |true=>
  rw [hb] at h;simp only [cond_true] at h;split at h;obtain ⟨_,hc⟩:=cK h;rw [hc];exact ⟨by simp,trivial⟩;cases h
 rename_i e1 _ _;cases e1;rename_i D5 _ _ _ e1 _ _;injection e1 with e1;subst e1;simp [nN] at h;cases h
theorem EB {P:Program}{m:Mem}{T:TypeId}{c i sz off:Nat}{t:Ty}{xs:List t.D}{cs:List aA}{ks:List Nat}{x:aE}{e:ca}(hl:lk c m=some (.rB t xs i cs ks))(h:qy P m T (.one (.iy c i sz off)) x=some e):bH e.cond∧e.new=[]∧e.val= .jk:=by
 unfold qy at h;split at h;rename_i e1 _;cases e1;rename_i c' i' Ie dY n ha hs;injection ha with ha;injection ha with e1 e2 e3 e4;subst e1;subst e2;subst e3;subst e4;rw [hl] at h;simp only at h;cases hb:((Nat.beq x.cells.length n&&Nat.ble (off+n) t.size)&&(Nat.beq sz t.size&&x.ok)) with
 |false=>rw [hb] at h;cases h
 |true=>
  rw [hb] at h;simp only [cond_true] at h;injection h with h;subst h;exact ⟨⟨by simp,trivial⟩,rfl,rfl⟩
 rename_i e1 _;cases e1;cases h
section
variable {cx:Cx} {g:GM} {st:St} {a:Act} {w:World}
theorem CO {T:TypeId}{v:aE}{e:ca}{va:Value}(h:dw cx g st a w)(hw:fH st.mem e.new)(he:CN cx.P st.mem st.nx T v=some e)(hc:bH e.cond)(hr:VR g st.mem (cx.safe g st.mem w) w v va):kf cx st a w (Instr.loadAt T va) e:=by
 unfold CN at he;split at he;rename_i u n p hp;split at he;rename_i e1 zk;injection he with he;subst he;obtain ⟨c,i,sz,off,t,xs,rfl,hl,rfl,rfl,rfl⟩:=zu hp;obtain ⟨g',hs,mN⟩:=h.KX hl hc.1 hw;obtain ⟨cs,ks,sW⟩:=Ic (c:=c) (i:=i) (nx:=st.nx) (t:=t) (xs:=xs) (l:=tU i st.nx t xs++st.mem);rw [←List.append_assoc] at sW;obtain ⟨_,_,r,h3,h4⟩:=rY hs.mem zk (Gu sW zk) (VR.stays mN hr);exact ⟨r,w,h3,g',hs,h4⟩;cases he;cases he
theorem Bh {T:TypeId}{x v:aE}{e:ca}{xa va:Value}(h:dw cx g st a w)(hw:fH st.mem e.new)(he:yx cx.P st.mem st.nx T x v=some e)(hc:bH e.cond)(hx:VR g st.mem (cx.safe g st.mem w) w x xa)(hv:VR g st.mem (cx.safe g st.mem w) w v va):El cx st a w (Instr.storeAt T xa va) e:=by
 unfold yx at he;split at he;rename_i u n p hp;split at he;rename_i e1 zk;injection he with he;subst he;obtain ⟨c,i,sz,off,t,xs,rfl,hl,rfl,rfl,rfl⟩:=zu hp;obtain ⟨g',hs,mN⟩:=h.KX hl hc.1 hw;obtain ⟨cs,ks,sW⟩:=Ic (c:=c) (i:=i) (nx:=st.nx) (t:=t) (xs:=xs) (l:=tU i st.nx t xs++st.mem);rw [←List.append_assoc] at sW;obtain ⟨q1,q2,q3⟩:=EB sW zk;obtain ⟨w',kJ,g2,EC,_⟩:=vk hs zk q1 (VR.stays mN hx) (VR.stays mN hv);refine ⟨w',kJ,g2,?_,trivial⟩;rw [q2] at EC;have EC:dw cx g2 (st.my (e1.mu++[]++(Bg c i st.nx t xs++tU i st.nx t xs++st.mem)) (st.nx+(tU i st.nx t xs).length+0)) a w':=EC;rw [List.append_nil] at EC;show dw cx g2 (st.my ((e1.mu++Bg c i st.nx t xs)++tU i st.nx t xs++st.mem) (st.nx+(tU i st.nx t xs).length)) a w';rw [List.append_assoc,List.append_assoc];rw [List.append_assoc] at EC;exact EC;cases he;cases he
def Hint.xF:Hint→Bool
 | .rB=>true
 |_=>false
def si (P:Program)(m:Mem)(nx:Nat)(h:Hint)(T:TypeId)(v:aE):Option ca:=bif h.xF then CN P m nx T v else pN P m T v
def ti (P:Program)(m:Mem)(nx:Nat)(h:Hint)(T:TypeId)(v x:aE):Option ca:=bif h.xF then yx P m nx T v x else qy P m T v x
theorem CP {hh:Hint}{T:TypeId}{v:aE}{e:ca}{va:Value}(h:dw cx g st a w)(hw:fH st.mem e.new)(he:si cx.P st.mem st.nx hh T v=some e)(hc:bH e.cond)(hr:VR g st.mem (cx.safe g st.mem w) w v va):kf cx st a w (Instr.loadAt T va) e:=by
 unfold si at he;cases hb:hh.xF with
 |true=>rw [hb] at he;exact CO h hw he hc hr
 |false=>rw [hb] at he;exact (rY h.mem he hc hr).runs h
theorem Bi {hh:Hint}{T:TypeId}{x v:aE}{e:ca}{xa va:Value}(h:dw cx g st a w)(hw:fH st.mem e.new)(he:ti cx.P st.mem st.nx hh T x v=some e)(hc:bH e.cond)(hx:VR g st.mem (cx.safe g st.mem w) w x xa)(hv:VR g st.mem (cx.safe g st.mem w) w v va):El cx st a w (Instr.storeAt T xa va) e:=by
 unfold ti at he;cases hb:hh.xF with
 |true=>rw [hb] at he;exact Bh h hw he hc hx hv
 |false=>rw [hb] at he;exact vk h he hc hx hv
end
end Go.Ide
namespace Go.Ide
def BG (m:Mem):aE→Option (Nat×Nat×Nat)
 | .one (.all c)=>(match lk c m with
  |some (.seq _ xs)=>some (c,0,xs.length)
  |_=>none)
 | .one (.ref c off len)=>some (c,off,len)
 |_=>none
def BH (P:Program)(m:Mem)(T:TypeId)(x y:aE):Option ca:=
 match P.underlying T,BG m x with
 |some (.slice e),some (c,off,len)=>(match lk c m with
  |some (.seq t xs)=>bif (dq P e==some t.size&&t.top)&&nJ m y then
   (match mr m (.sl t) y with
   |some ys=>some ⟨.one (.aq (.int .i64) ((Nat.min (List.length ys) len:Nat):Int)),[],[(c,.seq t (xs.take off++(List.take (Nat.min (List.length ys) len) ys:List t.D)++xs.drop (off+Nat.min (List.length ys) len)))],[]⟩
   |none=>none) else none
  |_=>none)
 |_,_=>none
section
variable {g:GM} {m:Mem} {S:Nat→Prop} {w:World}
theorem fB.drop {t:Ty}{xs:List t.D}{l:List Value}{n:Nat}(h:fB S w t xs l):fB S w t (xs.drop n) (l.drop (n*t.size)):=fun i hi=>by
 simp only [List.length_drop] at hi;obtain ⟨es,h1,h2⟩:=h (n+i) (by omega);refine ⟨es,fun j hj=> ?_,by rw [List.getElem_drop];exact h2⟩;rw [List.getElem?_drop,←Nat.add_assoc,←Nat.add_mul];exact h1 j hj
theorem JB (hm:lj g m S w){x:aE}{xa:Value}{c off len:Nat}{t:Ty}{xs:List t.D}(h:BG m x=some (c,off,len))(hl:lk c m=some (.seq t xs))(hx:VR g m S w x xa):
 off+len≤xs.length∧ ∃a cap,xa= .slice a len cap∧(len=0∨ ∃b arr,g.f c []=some b∧a=some ⟨b,off*t.size,none⟩∧dy w b arr∧(off+len)*t.size≤arr.size):=by
 unfold BG at h;split at h;rename_i c';split at h;rename_i t' cE fe;injection h with h;injection h with h1 h;injection h with h2 h3;subst h1;subst h2;rw [hl] at fe;injection fe with fe;injection fe with e1 e2;subst e1;have e2:=eq_of_heq e2;subst e2;subst h3;have hv:=hx.2.2 t xs (.inl hl);refine ⟨by omega,?_⟩;unfold jl at hv;cases hg:g c' with
 |none=>
  rw [hg] at hv;obtain ⟨a,ha⟩:=hv;have cY:=hm c' _ hl;unfold kd at cY;rw [show g.f c' []=none from hg] at cY;have cY:xs=[]:=cY;exact ⟨a,0,by rw [ha,cY];rfl,.inl (by rw [cY];rfl)⟩
 |some b=>
  rw [hg] at hv;obtain ⟨cap,arr,e,k1,k2,k3,_⟩:=hv;refine ⟨_,cap,e,.inr ⟨b,arr,hg,by rw [Nat.zero_mul],k2,?_⟩⟩;rw [Nat.zero_add];exact Nat.le_trans (Nat.mul_le_mul_right _ k1) k3
 cases h;rename_i c' dY JC;injection h with h;injection h with h1 h;injection h with h2 h3;subst h1;subst h2;subst h3;obtain ⟨hle,hv⟩:=hx.2.2 t xs (.inl hl);refine ⟨hle,?_⟩;rcases hv with ⟨h0,_,a,ha⟩|⟨b,cap,arr,hg,e,k1,k2,k3,_⟩
 exact ⟨a,0,by rw [ha,h0],.inl h0⟩;exact ⟨_,cap,e,.inr ⟨b,arr,hg,rfl,k2,Nat.le_trans (Nat.mul_le_mul_right _ (by omega)) k3⟩⟩;cases h
end
section
variable {cx:Cx} {g:GM} {st:St} {a:Act} {w:World}
theorem ED {T T' ty:TypeId}{x y:aE}{e:ca}{xa ya:Value}(h:dw cx g st a w)(he:BH cx.P st.mem T x y=some e)(hx:VR g st.mem (cx.safe g st.mem w) w x xa)(hy:VR g st.mem (cx.safe g st.mem w) w y ya):kf cx st a w (Builtin.copy_ #[T,T'] ty #[xa,ya]) e:=by
 unfold BH at he;split at he;rename_i el c off len hu hd;split at he;rename_i t xs hl;cases hb:((dq cx.P el==some t.size&&t.top)&&nJ st.mem y) with
 |false=>rw [hb] at he;cases he
 |true=>
  rw [hb] at he;simp only [cond_true] at he;simp only [Bool.and_eq_true,beq_iff_eq] at hb;obtain ⟨⟨fG,pQ⟩,KI⟩:=hb;split at he;rename_i ys WY;injection he with he;subst he;obtain ⟨hle,da,Ue,rfl,CQ⟩:=JB h.mem hd hl hx;obtain ⟨news,By⟩:=CB h.mem WY KI pQ hy;obtain ⟨sa,QM,rfl,WZ⟩:=By.val;have yt:Nat.min (List.length ys) len≤List.length ys:=Nat.min_le_left _ _;have ld:Nat.min (List.length ys) len≤len:=Nat.min_le_right _ _;generalize wE:Nat.min (List.length ys) len=n at yt ld⊢;have wi:(news.take (n*t.size)).length=n*t.size:=by
   rw [List.length_take,By.len];exact Nat.min_eq_left (Nat.mul_le_mul_right _ yt)
  have W0:=eN (P:=cx.P) (w:=w) (size:=t.size) (n:=n) (a:=sa) (len:=List.length ys) (cap:=QM) wi (by
   rcases WZ with h0|⟨ad,e,hc⟩
   exact .inl (by omega);exact .inr ⟨ad,e,fun j v hj=>by
    rw [List.getElem?_take] at hj;split at hj;exact hc j v hj;cases hj⟩)
  have xA:(sizeOf el).run cx.P w= .ok t.size w:=cL fG;rcases CQ with h0|⟨b,arr,hg,rfl,dx,iU⟩
  have Ek:n=0:=by omega
  have kJ:(Builtin.copy_ #[T,T'] ty #[.slice da len Ue,.slice sa (List.length ys) QM]).run cx.P w= .ok (.int .i64 ((n:Nat):Int)) w:=by
   have mN: ∀ad:Addr,(storeCells ad (news.take (n*t.size)).toArray.toList).run cx.P w= .ok () w:=fun ad=>by
    rw [Ek];simp [storeCells]
   cases da with
   |none=>simp [Builtin.copy_,run_underlying hu,Builtin.lenOf,wE,xA,W0,goInt]
   |some ad=>simp [Builtin.copy_,run_underlying hu,Builtin.lenOf,wE,xA,W0,mN ad,goInt]
  refine ⟨_,w,kJ,g,?_,rfl⟩;have Ig:(xs.take off++(List.take n ys:List t.D)++xs.drop (off+n))=xs:=by
   rw [Ek];simp
  show dw cx g (st.my ([(c,Chunk.seq t (xs.take off++(List.take n ys:List t.D)++xs.drop (off+n)))]++[]++st.mem) (st.nx+0)) a w;rw [Ig];have sW: ∀k,lk k ([(c,Chunk.seq t xs)]++[]++st.mem)=lk k st.mem:=fun k=>by
   show lk k ((c,_)::st.mem)=_;rw [aS];by_cases e:k=c;subst e;rw [if_pos rfl,hl];rw [if_neg e]
  exact h.AZ (G:=[]) ⟨bK.refl _ _,fun b hb=>(by simp at hb),fun _ _=>rfl,fun k ch hk=> .inl ⟨(sW k).trans hk,fun _ b _ _ hb=>by simp at hb⟩,fun k ch hk gP=>by
   rw [sW,hk] at gP;cases gP⟩
  have PH:off*t.size+0+(news.take (n*t.size)).length≤arr.size:=by
   rw [wi,Nat.add_zero,←Nat.add_mul];exact Nat.le_trans (Nat.mul_le_mul_right _ (by omega)) iU
  have Uf:=fB.oq By.Jh By.len;obtain ⟨w',aG,mN,k1,k2,k3,k4⟩:=fI (P:=cx.P) (news.take (n*t.size)) (off*t.size) 0 w arr dx PH (fun v hv=>Uf v (List.mem_of_mem_take hv));rw [Nat.add_zero,wi] at k2;have kJ:(Builtin.copy_ #[T,T'] ty #[.slice (some ⟨b,off*t.size,none⟩) len Ue,.slice sa (List.length ys) QM]).run cx.P w= .ok (.int .i64 ((n:Nat):Int)) w':=by
   have aaM:(storeCells ⟨b,off*t.size,none⟩ (news.take (n*t.size)).toArray.toList).run cx.P w= .ok () w':=mN;simp [Builtin.copy_,run_underlying hu,Builtin.lenOf,wE,xA,W0,mN,goInt]
  have PI:(xs.take off++(List.take n ys:List t.D)++xs.drop (off+n)).length=xs.length:=by
   simp only [List.length_append,List.length_take,List.length_drop];omega
  have Qw:aG.size=arr.size:=by
   rw [←Array.length_toList,k2];simp only [List.length_append,wi,List.length_take,List.length_drop,Array.length_toList];rw [wi] at PH;omega
  have q:KK g st w w' c b [] (.seq t xs) (.seq t (xs.take off++(List.take n ys:List t.D)++xs.drop (off+n))):=
   ⟨hl,trivial,hg,k3,⟨arr,aG,dx,k1,Qw⟩,fun _ _=>trivial,by simp,fun t' cE e=>by
    obtain ⟨e,e2⟩:=tb e;subst e;subst e2;exact ⟨xs,.inl rfl,PI.symm⟩,fun t' cE e=>by
    injection e with e1 e2;subst e1;have e2:=eq_of_heq e2;subst e2;exact ⟨xs,rfl,cl.top pQ PI.symm⟩⟩
  refine ⟨_,w',kJ,g,?_,rfl⟩;refine h.Tb q ?_;have cY:=h.mem c _ hl;unfold kd at cY⊢;rw [hg] at cY⊢;obtain ⟨xZ,Qx,iJ⟩:=cY;have:=Qx.eq dx;subst this;have dN:=(q.stays (cx:=cx)).safe;have hL:fB (cx.safe g st.mem w) w t xs xZ.toList:=(iJ.Jh pQ).toL;refine ⟨aG,k1,.pq pQ (fB.toR ?_)⟩;rw [k2];have keep: ∀{zs:List t.D} {l:List Value},fB (cx.safe g st.mem w) w t zs l→fB (cx.safe g ((c,Chunk.seq t (xs.take off++(List.take n ys:List t.D)++xs.drop (off+n)))::st.mem) w') w' t zs l:=fun hz i hi=>by
   obtain ⟨es,e1,e2⟩:=hz i hi;exact ⟨es,e1,bS.keep dN t es _ e2⟩
  have Ug:(xZ.toList.take (off*t.size)).length=(xs.take off).length*t.size:=by
   rw [List.length_take,List.length_take,Array.length_toList,Nat.min_eq_left (show off≤xs.length by omega),Nat.min_eq_left];exact Nat.le_trans (Nat.mul_le_mul_right _ (by omega)) iU
  have hA:=fB.app (rest:=[]) (keep (hL.take (n:=off) (by omega))) Ug (keep (By.Jh.take (n:=n) yt)) (by rw [wi,List.length_take,Nat.min_eq_left yt]);rw [List.append_nil] at hA;have W1:(xZ.toList.take (off*t.size)++news.take (n*t.size)).length=(xs.take off++(List.take n ys:List t.D)).length*t.size:=by
   rw [List.length_append,List.length_append,Ug,wi,Nat.add_mul,List.length_take (l:=ys),Nat.min_eq_left yt]
  have W2:fB (cx.safe g st.mem w) w t (xs.drop (off+n)) (xZ.toList.drop (off*t.size+n*t.size)):=by
   rw [←Nat.add_mul];exact hL.drop
  intro i hi;by_cases cq:i<(xs.take off++(List.take n ys:List t.D)).length;obtain ⟨es,e1,e2⟩:=hA i cq;refine ⟨es,fun j hj=> ?_,by rw [List.getElem_append_left cq];exact e2⟩;have hm:(i+1)*t.size≤(xs.take off++(List.take n ys:List t.D)).length*t.size:=Nat.mul_le_mul_right _ (by omega);rw [Nat.add_mul] at hm;rw [List.getElem?_append_left (by rw [W1];omega)];exact e1 j hj;have W3:i - (xs.take off++(List.take n ys:List t.D)).length<(xs.drop (off+n)).length:=by
   rw [List.length_append] at hi;omega
  obtain ⟨es,e1,e2⟩:=keep W2 _ W3;refine ⟨es,fun j hj=> ?_,by rw [List.getElem_append_right (by omega)];exact e2⟩;obtain ⟨d,hd⟩: ∃d,i=(xs.take off++(List.take n ys:List t.D)).length+d:=⟨_,(Nat.add_sub_cancel' (by omega)).symm⟩;rw [hd,Nat.add_sub_cancel_left] at e1;rw [hd,Nat.add_mul,List.getElem?_append_right (by rw [W1];omega),W1];rw [show∀A B:Nat,A+B+j - A=B+j from fun A B=>by omega];exact e1 j hj;cases he
 cases he;cases he
end
end Go.Ide
namespace Go.Ide
def BI (P:Program)(m:Mem)(nx:Nat)(T T':TypeId)(t:Ty)(s x:aE):Option ca:=
 match P.underlying T,s,x with
 |some (.slice e),.one s,.one (.all c2)=>(match P.info? e,lk c2 m with
  |some i,some (.seq t2 ys)=>bif ((Nat.beq T T'&&Nat.beq i.size t.size)&&(Nat.ble i.bytes 32768&&i.zero.isSome))&&(i.zero.map fun z=>Nat.beq z.cells.size t.size).getD false then
   (if h:t2=t then (match s with
    | .ar=>some ⟨.one (.all nx),[(nx,.seq t ([]++cG (a:= .sl t2) (b:= .sl t) (congrArg Ty.sl h) ys))],[(c2,.gone)],[0+List.length ys≤bO]⟩
    | .all c=>(match lk c m with
     |some (.seq t1 xs)=>if h1:t1=t then (bif !(Nat.beq c c2) then
      some ⟨.one (.all nx),[(nx,.seq t ((show List t.D from cG (a:= .sl t1) (b:= .sl t) (congrArg Ty.sl h1) xs)++cG (a:= .sl t2) (b:= .sl t) (congrArg Ty.sl h) ys))],[(c,.gone),(c2,.gone)],[List.length xs+List.length ys≤bO]⟩ else none) else none
     |_=>none)
    |_=>none) else none) else none
  |_,_=>none)
 |_,_,_=>none
def pX (P:Program)(m:Mem)(nx:Nat)(T T':TypeId)(t:Ty)(s x:aE):Option ca:=
 bif t.top then sO P m nx T T' t s x else BI P m nx T T' t s x
def tj (P:Program)(m:Mem)(nx:Nat)(T:TypeId)(t:Ty)(len:Nat)(parts:List (Nat×aE)):Option ca:=
 match P.underlying T,parts with
 |some (.slice e),[(0,v)]=>bif (dq P e==some t.size&&(((P.info? e).bind (·.zero)).map fun z=>Nat.beq z.cells.size t.size)==some true)&&(Nat.beq len 1&&Nat.ble t.size 65536)&&v.ok then
  (match mj m t v.cells with
  |some ((x,ks),[])=>bif mw ks then some ⟨.one (.all nx),[(nx,.seq t [x])],ks.map fun k=>(k,.gone),[]⟩ else none
  |_=>none) else none
 |_,_=>none
def tk (P:Program)(m:Mem)(nx:Nat)(T:TypeId)(t:Ty)(len:Nat)(parts:List (Nat×aE)):Option ca:=
 bif t.top then rW P nx T t len parts else tj P m nx T t len parts
section
variable {S S':Nat→Prop} {w w':World}
theorem cX.oq: ∀(t:Ty) {γ:List Nat→Option Nat} {o:Nat} {cs:List Value} {x:t.D},cX S w t γ o cs x→ ∀v∈cs,v.oneCell'=true
 | .own t,γ,o,cs,xs,⟨v,e,ha,_⟩=>by
  subst e;intro u hu;simp only [List.mem_singleton] at hu;subst hu;unfold jl at ha;split at ha;obtain ⟨a,rfl⟩:=ha;rfl;obtain ⟨cap,arr,rfl,_⟩:=ha;rfl
 | .pair a b,γ,o,cs,x,⟨c1,c2,e,h1,h2⟩=>by
  subst e;intro u hu;rcases List.mem_append.1 hu with hu|hu
  exact cX.oq a h1 u hu;exact cX.oq b h2 u hu
 | .st t,γ,o,cs,x,hr=>cX.oq t (o:=o) (cs:=cs) (x:=x) hr
 | .int k,_,_,cs,x,hr=>bS.oq (.int k) hr
 | .aX k,_,_,cs,x,hr=>bS.oq (.aX k) hr
 | .bool,_,_,cs,x,hr=>bS.oq .bool hr
 | .str,_,_,cs,x,hr=>bS.oq .str hr
 | .sl t,_,_,cs,x,hr=>bS.oq (.sl t) hr
 | .bx t,_,_,cs,x,hr=>bS.oq (.bx t) hr
theorem fA.oq {γ:List Nat→Option Nat}{t:Ty}{xs:List t.D}{arr:Array Value}(h:fA S w γ t xs arr){k:Nat}{u:Value}(hk:k<xs.length*t.size)(hu:arr[k]? =some u):u.oneCell'=true:=by
 have fG:=t.size_pos;have hi:k/t.size<xs.length:=Nat.div_lt_of_lt_mul (by rw [Nat.mul_comm];omega);obtain ⟨es,h1,h2⟩:=h (k/t.size) hi;have hj:k%t.size<es.length:=by rw [cX.len t h2];exact Nat.mod_lt _ fG
 have h3:=h1 (k%t.size) _ (List.getElem?_eq_getElem hj);have dU:k/t.size*t.size+k%t.size=k:=by rw [Nat.mul_comm];exact Nat.div_add_mod k t.size
 rw [dU,hu] at h3;injection h3 with h3;rw [h3];exact cX.oq t h2 _ (List.getElem_mem hj)
theorem fA.nil {γ:List Nat→Option Nat}{t:Ty}{arr:Array Value}:fA S w γ t ([]:List t.D) arr:=fun i hi=>by simp at hi
theorem fA.glue {γ γ1 γ2:List Nat→Option Nat}{t:Ty}{xs ys:List t.D}{arr1 qx aG:Array Value}(h1:fA S w γ1 t xs arr1)(h2:fA S w γ2 t ys qx)(k: ∀b,S b→S' b∧w'.heap[b]? =w.heap[b]?)(e1: ∀i p,i<xs.length→γ (i::p)=γ1 (i::p))(e2: ∀i p,γ ((xs.length+i)::p)=γ2 (i::p))(q1: ∀i p b,γ1 (i::p)=some b→w'.heap[b]? =w.heap[b]?)(q2: ∀i p b,γ2 (i::p)=some b→w'.heap[b]? =w.heap[b]?)(a1: ∀j v,j<xs.length*t.size→arr1[j]? =some v→aG[j]? =some v)(a2: ∀j v,j<ys.length*t.size→qx[j]? =some v→aG[xs.length*t.size+j]? =some v):fA S' w' γ t (xs++ys) aG:=by
 intro i hi;by_cases hx:i<xs.length;obtain ⟨es,k1,k2⟩:=h1 i hx;refine ⟨es,fun j v hv=>a1 _ v ?_ (k1 j v hv),?_⟩;have hj:j<t.size:=by rw [←cX.len t k2];exact (List.getElem?_eq_some_iff.1 hv).1
 have:(i+1)*t.size≤xs.length*t.size:=Nat.mul_le_mul_right _ hx;rw [Nat.succ_mul] at this;omega;rw [List.getElem_append_left hx,show (fun p=>γ (i::p))=fun p=>γ1 (i::p) from funext fun p=>e1 i p hx];exact cX.keep k t (fun p b hp=>q1 i p b hp) k2;obtain ⟨j0,rfl⟩: ∃j0,i=xs.length+j0:=⟨i - xs.length,by omega⟩;have hy:j0<ys.length:=by rw [List.length_append] at hi;omega
 obtain ⟨es,k1,k2⟩:=h2 j0 hy;refine ⟨es,fun j v hv=> ?_,?_⟩;have hj:j<t.size:=by rw [←cX.len t k2];exact (List.getElem?_eq_some_iff.1 hv).1
 have:(j0+1)*t.size≤ys.length*t.size:=Nat.mul_le_mul_right _ hy;rw [Nat.succ_mul] at this;have:=a2 _ v (by omega) (k1 j v hv);rw [Nat.add_mul,Nat.add_assoc];exact this;rw [List.getElem_append_right (by omega),show (fun p=>γ ((xs.length+j0)::p))=fun p=>γ2 (j0::p) from funext fun p=>e2 j0 p];simp only [Nat.add_sub_cancel_left];exact cX.keep k t (fun p b hp=>q2 j0 p b hp) k2
end
section
variable {cx:Cx} {g:GM} {st:St} {a:Act} {w w':World}
def W4 (o:Option Nat)(n:Nat)(γ1 γ2:List Nat→Option Nat):List Nat→Option Nat
 |[]=>o
 |i::p=>if i<n then γ1 (i::p) else γ2 ((i - n)::p)
def vr (g:GM)(m up:Mem)(γ:List Nat→Option Nat):Prop:= ∀p b,γ p=some b→ ∃c q ua,lk c up=some .gone∧lk c m=some ua∧ua.owns q∧g.f c q=some b
def W5 (w':World)(t:Ty)(xs ys:List t.D)(arr1 qx:Array Value):Option Nat→Prop
 |none=>xs++ys=[]
 |some b=> ∃aG,dy w' b aG∧(∀j v,j<xs.length*t.size→arr1[j]? =some v→aG[j]? =some v)∧(∀j v,j<ys.length*t.size→qx[j]? =some v→aG[xs.length*t.size+j]? =some v)
theorem pK.glue {e:ca}{up:Mem}{t:Ty}{xs ys:List t.D}{γ1 γ2:List Nat→Option Nat}{o:Option Nat}{val:Value}{F0:List Nat}{arr1 qx:Array Value}(h:dw cx g st a w)(hw:fH st.mem e.new)(he:e.new=[(st.nx,.seq t (xs++ys))]∧e.mu=up∧e.val= .one (.all st.nx))(o5:CC st.mem up)(h1:vr g st.mem up γ1)(h2:vr g st.mem up γ2)(i1: ∀p q b,γ1 p=some b→γ1 q=some b→p=q)(i2: ∀p q b,γ2 p=some b→γ2 q=some b→p=q)(dj: ∀p q b,γ1 p=some b→γ2 q=some b→False)(ho: ∀b,o=some b→γ1 []=some b∨(w.heap.size≤b∧b<w'.heap.size))(hk:bK F0 w w')(hF: ∀b∈F0,γ1 []=some b∧o=some b)(e1:fA (cx.safe g st.mem w) w γ1 t xs arr1)(e2:fA (cx.safe g st.mem w) w γ2 t ys qx)(hb:W5 w' t xs ys arr1 qx o)(hv:jl o w' t.size (xs++ys).length val):pK cx st a e val w':=by
 classical
 have qt:lk st.nx st.mem=none:=hw (st.nx,.seq t (xs++ys)) (by rw [he.1];simp);have Uh: ∀p b,γ1 p=some b→b<w.heap.size:=fun p b hp=>by
  obtain ⟨c,q,ua,_,q2,q3,q4⟩:=h1 p b hp;exact h.lt c q ua b q2 q3 q4
 have W6: ∀p b,γ2 p=some b→b<w.heap.size:=fun p b hp=>by
  obtain ⟨c,q,ua,_,q2,q3,q4⟩:=h2 p b hp;exact h.lt c q ua b q2 q3 q4
 let γ:=W4 o xs.length γ1 γ2;have sj: ∀i p b,γ (i::p)=some b→(i<xs.length∧γ1 (i::p)=some b)∨(xs.length≤i∧γ2 ((i - xs.length)::p)=some b):=fun i p b hp=>by
  have hp:(if i<xs.length then γ1 (i::p) else γ2 ((i - xs.length)::p))=some b:=hp;split at hp;exact .inl ⟨by assumption,hp⟩;exact .inr ⟨by omega,hp⟩
 let G:=(List.range w.heap.size).filter fun b=>decide (∃p,γ p=some b);have Th: ∀b,b∈G↔b<w.heap.size∧ ∃p,γ p=some b:=fun b=>by simp [G]
 have hFG: ∀b,b∈F0→b∈G:=fun b hb=>(Th b).2 ⟨Uh _ b (hF b hb).1,[],(hF b hb).2⟩;have W7:bK G w w':=⟨hk.os,hk.tape,hk.output,hk.size,fun b hb hn=>hk.block b hb fun hf=>hn (hFG b hf),hk.sz⟩;have VO: ∀b,b<w.heap.size→b ∉ F0→w'.heap[b]? =w.heap[b]? :=hk.block;obtain ⟨g',nq,hs⟩:=h.newAt (ch:= .seq t (xs++ys)) (γ:=γ) qt o5 W7 (fun b hb=>by
  obtain ⟨cq,p,hp⟩:=(Th b).1 hb;cases p with
  |nil=>
   rcases ho b hp with hx|hx
   exact h1 _ b hx;omega
  |cons i p=>
   rcases sj i p b hp with ⟨_,hx⟩|⟨_,hx⟩
   exact h1 _ b hx;exact h2 _ b hx)
  (fun p b hp=>by
   have cq:b<w'.heap.size:=by
    cases p with
    |nil=>
     rcases ho b hp with hx|hx
     exact Nat.lt_of_lt_of_le (Uh _ b hx) hk.size;exact hx.2
    |cons i p=>
     rcases sj i p b hp with ⟨_,hx⟩|⟨_,hx⟩
     exact Nat.lt_of_lt_of_le (Uh _ b hx) hk.size;exact Nat.lt_of_lt_of_le (W6 _ b hx) hk.size
   refine ⟨cq,?_⟩;by_cases hb:b<w.heap.size;exact .inr ((Th b).2 ⟨hb,p,hp⟩);exact .inl (by omega))
  (fun p q b hp hq=>by
   have key: ∀i r,γ (i::r)=some b→o=some b→False:=fun i r hr ZA=>by
    rcases sj i r b hr with ⟨_,hx⟩|⟨_,hx⟩
    rcases ho b ZA with hy|hy
    cases i1 _ _ b hx hy;have:=Uh _ b hx;omega;rcases ho b ZA with hy|hy
    exact dj _ _ b hy hx;have:=W6 _ b hx;omega
   cases p with
   |nil=>
    cases q with
    |nil=>rfl
    |cons j q=>exact (key j q hq hp).elim
   |cons i p=>
    cases q with
    |nil=>exact (key i p hp hq).elim
    |cons j q=>
     rcases sj i p b hp with ⟨l1,hx⟩|⟨l1,hx⟩
     rcases sj j q b hq with ⟨l2,hy⟩|⟨l2,hy⟩
     exact i1 _ _ b hx hy;exact (dj _ _ b hx hy).elim;rcases sj j q b hq with ⟨l2,hy⟩|⟨l2,hy⟩
     exact (dj _ _ b hy hx).elim;have:=i2 _ _ b hx hy;injection this with a1 a2;rw [a2,show i=j from by omega])
  (fun g' m' S' hS=>by
   show kd g' m' S' w' γ (.seq t (xs++ys));unfold kd;have JA:γ []=o:=rfl;rw [JA];cases D6:o with
   |none=>rw [D6] at hb;show xs++ys=[];exact hb
   |some b=>
    rw [D6] at hb;obtain ⟨aG,rQ,o6,m6⟩:=hb;refine ⟨aG,rQ,fA.glue e1 e2 hS (fun i p hi=>if_pos hi) (fun i p=> ?_) (fun i p b' hp=>VO b' (Uh _ b' hp) fun hf=> ?_) (fun i p b' hp=>VO b' (W6 _ b' hp) fun hf=> ?_) o6 m6⟩;show (if xs.length+i<xs.length then γ1 ((xs.length+i)::p) else γ2 ((xs.length+i - xs.length)::p))=_;rw [if_neg (by omega),Nat.add_sub_cancel_left];cases i1 _ _ b' hp (hF b' hf).1;exact dj _ _ b' (hF b' hf).1 hp)
 refine ⟨g',?_,?_⟩;rw [he.1,he.2.1];exact hs;rw [he.1,he.2.1,he.2.2];have hl:lk st.nx (up++[(st.nx,.seq t (xs++ys))]++st.mem)=some (.seq t (xs++ys)):=by
  rw [List.append_assoc,bQ];cases hu:lk st.nx up with
  |none=>simp [aS]
  |some c0=>exact absurd qt (o5.lk hu).2
 refine ⟨by rw [hl];simp,?_,fun t' cE fe=> ?_⟩;unfold jl at hv;cases o with
 |none=>obtain ⟨a,rfl⟩:=hv;rfl
 |some b=>obtain ⟨cap,arr,rfl,_⟩:=hv;rfl
 have fe:=dM.toSeq hl fe;rw [hl] at fe;injection fe with fe;injection fe with ht ve;subst ht;have ve:=eq_of_heq ve;subst ve;rw [show g' st.nx=o from by show g'.f st.nx []=o;rw [nq];rfl];exact hv
theorem Ih (h:dw cx g st a w){c:Nat}{t:Ty}{xs:List t.D}{v:Value}(hl:lk c st.mem=some (.seq t xs))(hr:CR g st.mem (cx.safe g st.mem w) w (.all c) v):
 (xs=[]∧g.f c []=none∧ ∃ab,v= .slice ab 0 0)∨ ∃b cap arr,g.f c []=some b∧v= .slice (some ⟨b,0,none⟩) xs.length cap∧xs.length≤cap∧dy w b arr∧cap*t.size≤arr.size∧cap≤maxLen∧fA (cx.safe g st.mem w) w (g.f c) t xs arr:=by
 have cY:=h.mem c _ hl;unfold kd at cY;have hv:=hr.2.2 t xs (.inl hl);cases hg:g.f c [] with
 |none=>
  rw [hg] at cY;have hv:jl (g.f c []) w t.size xs.length v:=hv;rw [hg] at hv;exact .inl ⟨cY,rfl,hv⟩
 |some b=>
  rw [hg] at cY;have hv:jl (g.f c []) w t.size xs.length v:=hv;rw [hg] at hv;obtain ⟨arr,hb,iJ⟩:=cY;obtain ⟨cap,aG,e,q1,q2,q3,q4⟩:=hv;have:=dy.eq hb q2;subst this;exact .inr ⟨b,cap,arr,rfl,e,q1,hb,q3,q4,iJ⟩
theorem KZ (h:dw cx g st a w){c:Nat}{t:Ty}{xs:List t.D}{v:Value}(hl:lk c st.mem=some (.seq t xs))(hr:CR g st.mem (cx.safe g st.mem w) w (.all c) v):
 ∃(ax:Option Addr) (yc:Nat) (news:List Value) (arr:Array Value),v= .slice ax xs.length yc∧news.length=xs.length*t.size∧(xs.length=0∨ ∃ad,ax=some ad∧ ∀j u,news[j]? =some u→w.cell? (ad.add j)=some u)∧
  fA (cx.safe g st.mem w) w (g.f c) t xs arr∧(∀j u,j<xs.length*t.size→arr[j]? =some u→news[j]? =some u)∧ ∀u∈news,u.oneCell'=true:=by
 rcases Ih h hl hr with ⟨rfl,_,ab,rfl⟩|⟨b,cap,arr,hg,rfl,hn,hb,iU,_,iJ⟩
 exact ⟨ab,0,[],#[],rfl,by simp,.inl rfl,fA.nil,fun j u hj=>by simp at hj,fun u hu=>by simp at hu⟩;have hle:xs.length*t.size≤arr.size:=Nat.le_trans (Nat.mul_le_mul_right _ hn) iU;refine ⟨_,cap,arr.toList.take (xs.length*t.size),arr,rfl,by simp;omega,.inr ⟨_,rfl,fun j u hu=> ?_⟩,iJ,fun j u hj hu=> ?_,fun u hu=> ?_⟩;rw [bY,Nat.zero_add,hb.cell];rw [List.getElem?_take] at hu;split at hu;simpa using hu;cases hu;rw [List.getElem?_take,if_pos hj];simpa using hu;obtain ⟨k,hk,e⟩:=List.getElem_of_mem hu;have dU:k<xs.length*t.size:=by simp at hk;omega
 refine iJ.oq dU ?_;rw [←e,List.getElem_take,Array.getElem_toList,Array.getElem?_eq_getElem]
theorem wF (h:dw cx g st a w){c:Nat}{t:Ty}{xs:List t.D}{up:Mem}(hl:lk c st.mem=some (.seq t xs))(hu:lk c up=some .gone):vr g st.mem up (g.f c):=
 fun p _ hp=>⟨c,p,_,hu,hl,trivial,hp⟩
theorem EE {T T':TypeId}{ty:TypeId}{t:Ty}{s x:aE}{e:ca}{sv xv:Value}(h:dw cx g st a w)(hw:fH st.mem e.new)(he:BI cx.P st.mem st.nx T T' t s x=some e)(hc:bH e.cond)(hs:VR g st.mem (cx.safe g st.mem w) w s sv)(hx:VR g st.mem (cx.safe g st.mem w) w x xv):kf cx st a w (Builtin.append_ #[T,T'] ty #[sv,xv]) e:=by
 unfold BI at he;split at he;rename_i el s c2 hu;split at he;rename_i i t2 ys hi A3;cases hb:(((Nat.beq T T'&&Nat.beq i.size t.size)&&(Nat.ble i.bytes 32768&&i.zero.isSome))&&(i.zero.map fun z=>Nat.beq z.cells.size t.size).getD false) with
 |false=>rw [hb] at he;cases he
 |true=>
  rw [hb] at he;simp only [cond_true] at he;simp only [Bool.and_eq_true] at hb;obtain ⟨⟨⟨hT,fG⟩,Ej,TN⟩,HZ⟩:=hb;have hT:=bL hT;subst hT;have fG:=bL fG;have Ej:=iT Ej;obtain ⟨z,hz⟩:=Option.isSome_iff_exists.1 TN;rw [hz] at HZ;have HZ:z.cells.size=t.size:=bL (by simpa using HZ);split at he;rename_i ht;subst ht;obtain ⟨ax,yc,news,qx,rfl,wi,Qv,Ii,ld,W8⟩:=KZ h A3 hx;have QN:news.length=ys.length*i.size:=by rw [fG];exact wi
  have grow: ∀(base:Option Addr) (cap:Nat) (xs:List t2.D) (γ1:List Nat→Option Nat) (arr1:Array Value) (j9:List Value) (up:Mem) (cond:List Prop),xs.length+ys.length≤4294967296→j9.length=xs.length*i.size→(xs.length=0∨ ∃ad,base=some ad∧ ∀j v,j9[j]? =some v→w.cell? (ad.add j)=some v)→
   (∀j v,j<xs.length*t2.size→arr1[j]? =some v→j9[j]? =some v)→fA (cx.safe g st.mem w) w γ1 t2 xs arr1→CC st.mem up→vr g st.mem up γ1→vr g st.mem up (g.f c2)→
   (∀p q b,γ1 p=some b→γ1 q=some b→p=q)→(∀p q b,γ1 p=some b→g.f c2 q=some b→False)→cap<xs.length+ys.length→fH st.mem [(st.nx,Chunk.seq t2 (xs++ys))]→
   kf cx st a w (Builtin.append_ #[T,T] ty #[.slice base xs.length cap,.slice ax ys.length yc]) ⟨.one (.all st.nx),[(st.nx,.seq t2 (xs++ys))],up,cond⟩:=by
   intro base cap xs γ1 arr1 j9 up cond hlen CD ho hcp Ui o5 PD KN T1 NU cq hw;have uk:(xs.length+ys.length)*i.bytes≤140737488355328:=by
    calc (xs.length+ys.length)*i.bytes≤4294967296*32768:=Nat.mul_le_mul hlen Ej
     _=140737488355328:=by decide
   have pv:=grownCap_ge w (xs.length+ys.length) cap el;have Kp:=grownCap_le_maxLen w (xs.length+ys.length) cap el (by unfold maxLen;omega);have hr:=vf (P:=cx.P) (ty:=ty) (c:=yc) hu hi hz CD ho QN Qv cq uk (by omega);have eO:bK [] w (w.drew.alloc (.cells (j9.toArray++news.toArray++Builtin.zeroCells z.cells (grownCap w (xs.length+ys.length) cap el - (xs.length+ys.length))) el)):=
    (bK.drew [] w).trans (bK.alloc _ _ _)
   have dx:=dy.new w.drew (j9.toArray++news.toArray++Builtin.zeroCells z.cells (grownCap w (xs.length+ys.length) cap el - (xs.length+ys.length))) el;rw [fG] at CD;refine ⟨_,_,hr,?_⟩;refine pK.glue (o:=some w.heap.size) (F0:=[]) h hw ⟨rfl,rfl,rfl⟩ o5 PD KN T1 (fun p q b hp hq=>(h.lz c2 c2 p q _ _ b A3 trivial A3 trivial hp hq).2) NU (fun b hb=> ?_) eO (fun b hb=>by simp at hb) Ui Ii ⟨_,dx,fun j v hj hv=> ?_,fun j v hj hv=> ?_⟩ ?_;injection hb with hb;subst hb;exact .inr ⟨Nat.le_refl _,dx.lt⟩;have:=hcp j v hj hv;rw [Array.append_assoc,Array.getElem?_append_left (by simp;omega)];simpa using this;have:=ld j v hj hv;rw [Array.append_assoc,Array.getElem?_append_right (by simp;omega),Array.getElem?_append_left (by simp;omega)];simpa [CD] using this;refine ⟨grownCap w (xs.length+ys.length) cap el,_,?_,by rw [List.length_append];exact pv,dx,?_,Kp⟩;rw [List.length_append];simp only [Array.size_append,List.size_toArray,size_zeroCells,HZ,CD,wi,←Nat.add_mul];exact Nat.mul_le_mul_right _ (by omega)
  split at he;injection he with he;subst he;have hlen:ys.length≤4294967296:=by have:=hc.1;unfold bO at this;omega
  have o5:CC st.mem [(c2,Chunk.gone)]:=fun p hp=>by simp at hp;subst hp;exact ⟨rfl,by rw [A3];simp⟩
  have VP:vr g st.mem [(c2,Chunk.gone)] (fun _=>none):=fun p b hp=>by cases hp
  have KN:vr g st.mem [(c2,Chunk.gone)] (g.f c2):=wF h A3 (by simp [aS]);obtain ⟨ab,rfl⟩:=(show∃a,sv= .slice a 0 0 from hs);by_cases hy:ys.length=0;have FY:ys=[]:=List.eq_nil_of_length_eq_zero hy;subst FY;refine ⟨_,_,qC (P:=cx.P) hu hi,?_⟩;exact pK.glue (t:=t2) (xs:=[]) (ys:=[]) (o:=none) (F0:=[]) (γ1:=fun _=>none) (arr1:= #[]) h hw ⟨rfl,rfl,rfl⟩ o5 VP KN (fun _ _ _ hp=>by cases hp) (fun p q b hp hq=>(h.lz c2 c2 p q _ _ b A3 trivial A3 trivial hp hq).2) (fun _ _ _ hp=>by cases hp) (fun b hb=>by cases hb) (bK.refl _ _) (fun b hb=>by simp at hb) fA.nil Ii rfl ⟨ab,rfl⟩;exact grow ab 0 [] (fun _=>none) #[] [] _ _ (by simpa using hlen) (by simp) (.inl rfl) (fun j v hj=>by simp at hj) fA.nil o5 VP KN (fun _ _ _ hp=>by cases hp) (fun _ _ _ hp=>by cases hp) (by simp;omega) hw;rename_i c;split at he;rename_i t1 xs Nr;split at he;rename_i ht1;subst ht1;cases FU:(!(Nat.beq c c2)) with
  |false=>rw [FU] at he;cases he
  |true=>
   rw [FU] at he;simp only [cond_true] at he;injection he with he;subst he;have hw:fH st.mem [(st.nx,Chunk.seq t1 (xs++ys))]:=hw;show kf cx st a w _ (⟨.one (.all st.nx),[(st.nx,.seq t1 (xs++ys))],[(c,.gone),(c2,.gone)],[List.length xs+List.length ys≤bO]⟩:ca);have jq:c≠c2:=fun e=>by subst e;simp at FU
   have hlen:xs.length+ys.length≤4294967296:=hc.1;have o5:CC st.mem [(c,Chunk.gone),(c2,Chunk.gone)]:=fun p hp=>by
    simp at hp;rcases hp with rfl|rfl
    exact ⟨rfl,by rw [Nr];simp⟩;exact ⟨rfl,by rw [A3];simp⟩
   have PD:vr g st.mem [(c,Chunk.gone),(c2,Chunk.gone)] (g.f c):=wF h Nr (by simp [aS]);have KN:vr g st.mem [(c,Chunk.gone),(c2,Chunk.gone)] (g.f c2):=wF h A3 (by rw [aS,if_neg (fun e=>jq e.symm)];simp [aS]);have NO: ∀p q b,g.f c p=some b→g.f c q=some b→p=q:=fun p q b hp hq=>(h.lz c c p q _ _ b Nr trivial Nr trivial hp hq).2;have Gn: ∀p q b,g.f c2 p=some b→g.f c2 q=some b→p=q:=fun p q b hp hq=>(h.lz c2 c2 p q _ _ b A3 trivial A3 trivial hp hq).2;have NU: ∀p q b,g.f c p=some b→g.f c2 q=some b→False:=fun p q b hp hq=>jq (h.lz c c2 p q _ _ b Nr trivial A3 trivial hp hq).1;rcases Ih h Nr hs with ⟨rfl,hg,ab,rfl⟩|⟨b,cap,arr,hg,rfl,hn,dx,iU,Cu,iJ⟩
   by_cases hy:ys.length=0;have FY:ys=[]:=List.eq_nil_of_length_eq_zero hy;subst FY;refine ⟨_,_,qC (P:=cx.P) hu hi,?_⟩;exact pK.glue (t:=t1) (xs:=[]) (ys:=[]) (o:=none) (F0:=[]) (γ1:=g.f c) (arr1:= #[]) h hw ⟨rfl,rfl,rfl⟩ o5 PD KN NO Gn NU (fun b hb=>by cases hb) (bK.refl _ _) (fun b hb=>by simp at hb) fA.nil Ii rfl ⟨ab,rfl⟩;exact grow ab 0 [] (g.f c) #[] [] _ _ hlen (by simp) (.inl rfl) (fun j v hj=>by simp at hj) fA.nil o5 PD KN NO NU (Nat.lt_of_lt_of_eq (Nat.pos_of_ne_zero hy) (Nat.zero_add _).symm) hw;have hle:xs.length*t1.size≤arr.size:=Nat.le_trans (Nat.mul_le_mul_right _ hn) iU;by_cases lI:xs.length+ys.length≤cap;have rZ:(xs.length+ys.length)*i.size≤arr.size:=by rw [fG];exact Nat.le_trans (Nat.mul_le_mul_right _ lI) iU
   obtain ⟨w',aG,hr,ke,fe,gP,eI⟩:=vg (P:=cx.P) (ty:=ty) hu hi dx (c:=yc) QN Qv W8 lI rZ;refine ⟨_,_,hr,?_⟩;have br: ∀k,aG[k]? =(arr.toList.take (xs.length*i.size)++news++arr.toList.drop (xs.length*i.size+news.length))[k]? :=fun k=>by rw [←fe,Array.getElem?_toList]
   have htk:(arr.toList.take (xs.length*t1.size)).length=xs.length*t1.size:=by simp;omega
   rw [fG] at br;refine pK.glue (o:=some b) (F0:=[b]) h hw ⟨rfl,rfl,rfl⟩ o5 PD KN NO Gn NU (fun b' o6=>by injection o6 with o6;subst o6;exact .inl hg) gP (fun b' o6=>by simp at o6;subst o6;exact ⟨hg,rfl⟩) iJ Ii ⟨aG,ke,fun j v hj hv=> ?_,fun j v hj hv=> ?_⟩ ?_;rw [br,List.append_assoc,List.getElem?_append_left (by omega),List.getElem?_take,if_pos hj];simpa using hv;rw [br,List.append_assoc,List.getElem?_append_right (by omega),htk,Nat.add_sub_cancel_left,List.getElem?_append_left (by omega)];exact ld j v hj hv;refine ⟨cap,aG,by rw [List.length_append],by rw [List.length_append];exact lI,ke,?_,Cu⟩;have:aG.size=arr.size:=by
    rw [←Array.length_toList,fe];simp;rw [fG] at rZ QN⊢;rw [Nat.add_mul] at rZ;omega
   omega;refine grow _ cap xs (g.f c) arr (arr.toList.take (xs.length*t1.size)) _ _ hlen (by rw [fG];simp;omega) (.inr ⟨_,rfl,fun j v hv=> ?_⟩) (fun j v hj hv=> ?_) iJ o5 PD KN NO NU (by omega) hw;rw [bY,Nat.zero_add,dx.cell];rw [List.getElem?_take] at hv;split at hv;simpa using hv;cases hv;rw [List.getElem?_take,if_pos hj];simpa using hv
  cases he;cases he;cases he;cases he
 cases he;cases he
def W9 (g:GM)(b:Nat)(cells:List aA):List Nat→Option Nat
 |[]=>some b
 |i::o::r=>if i=0 then (match cells[o]? with
  |some (.all k)=>g.f k r
  |_=>none) else none
 |_=>none
theorem Bj {T:TypeId}{t:Ty}{len:Nat}{parts:List (Nat×aE)}{vparts:Array (Nat×Value)}{e:ca}(h:dw cx g st a w)(hw:fH st.mem e.new)(he:tj cx.P st.mem st.nx T t len parts=some e)(hp:bB (fun (p:Nat×aE) (q:Nat×Value)=>p.1=q.1∧VR g st.mem (cx.safe g st.mem w) w p.2 q.2) parts vparts.toList):kf cx st a w (Instr.buildSlice T len vparts) e:=by
 classical
 unfold tj at he;split at he;rename_i el v hu;cases hb:((dq cx.P el==some t.size&&(((cx.P.info? el).bind (·.zero)).map fun z=>Nat.beq z.cells.size t.size)==some true)&&(Nat.beq len 1&&Nat.ble t.size 65536)&&v.ok) with
 |false=>rw [hb] at he;cases he
 |true=>
  rw [hb] at he;simp only [cond_true] at he;simp only [Bool.and_eq_true,beq_iff_eq] at hb;obtain ⟨⟨⟨hs,hz⟩,hn,KJ⟩,ja⟩:=hb;have hn:=bL hn;have KJ:=iT KJ;subst hn;split at he;rename_i x ks VQ;cases A6:mw ks with
  |false=>rw [A6] at he;cases he
  |true=>
   rw [A6] at he;simp only [cond_true] at he;injection he with he;subst he;have A6:=js A6;obtain ⟨va,hvp,hva⟩: ∃va,vparts.toList=[(0,va)]∧VR g st.mem (cx.safe g st.mem w) w v va:=by
    cases hq:vparts.toList with
    |nil=>rw [hq] at hp;exact hp.elim
    |cons q r=>
     rw [hq] at hp;obtain ⟨⟨h1,h2⟩,h3⟩:=hp;cases r with
     |nil=>
      obtain ⟨j,va⟩:=q;have h1:0=j:=h1;subst h1;exact ⟨va,rfl,h2⟩
     |cons=>exact h3.elim
   have qt:lk st.nx st.mem=none:=hw (st.nx,.seq t [x]) (by simp);obtain ⟨vs,kI,bN⟩:=jN ja hva;obtain ⟨c1,Ns,HY,Uj,A5⟩:=xE t VQ;rw [List.append_nil] at Ns;have rN:va.cells.size=t.size:=by rw [←Array.length_toList,kI,←bN.length,Ns,HY]
   cases hi:cx.P.info? el with
   |none=>simp [dq,hi] at hs
   |some i=>
    rw [hi] at hz;simp only [Option.bind_some] at hz;cases ze:i.zero with
    |none=>simp [ze] at hz
    |some z=>
     rw [ze] at hz;have hz:Nat.beq z.cells.size t.size=true:=by simpa using hz
     have hz:=bL hz;have ZB:=t.size_pos;let base:Array Value:=(Array.range t.size).map fun k=>z.cells[k%z.cells.size]!;have S9:base.size=t.size:=by simp [base]
     let aG:Array Value:=va.cells.zipIdx.foldl (fun cs (p:Value×Nat)=>cs.setIfInBounds (0+p.2) p.1) base;have vd:aG.toList=va.cells.toList:=by
      have:=sV 0 va.cells.toList 0 base (by rw [Array.length_toList];omega);show (va.cells.zipIdx.foldl (fun cs (p:Value×Nat)=>cs.setIfInBounds (0+p.2) p.1) base).toList=_;rw [←Array.foldl_toList,Array.toList_zipIdx];have h2:base.toList.drop (0+va.cells.toList.length)=[]:=List.drop_of_length_le (by rw [Array.length_toList,Array.length_toList];omega);refine this.trans ?_;rw [h2];simp
     have kJ:(Instr.buildSlice T 1 vparts).run cx.P w= .ok (.slice (some ⟨w.heap.size,0,none⟩) 1 1) (w.alloc (.cells aG el)):=by
      have Gi: ¬(16777216<t.size):=by omega
      have h0: ¬(t.size=0):=by omega
      have e1:Instr.fill (fun j=>some (j*t.size,t.size)) base vparts.toList=some aG:=by
       rw [hvp];simp only [Instr.fill];rw [if_neg (by simp;omega)];simp [aG]
      have H2:Instr.fill (fun j=>some (j*t.size,t.size)) ((Array.range (1*t.size)).map fun k=>z.cells[k%z.cells.size]!) vparts.toList=some aG:=by
       rw [Nat.one_mul];exact e1
      simp only [Instr.buildSlice,Sem.run_bind,run_underlying hu,Result.andThen_ok,cL hs];simp [h0,Gi,zeroValue,typeInfo,hi,ze] at H2⊢;simp [H2,newRow]
     refine ⟨_,_,kJ,?_⟩;have dx:=dy.new w aG el;have eO:bK [] w (w.alloc (.cells aG el)):=bK.alloc _ _ _;let γ:=W9 g w.heap.size v.cells;let up:Mem:=ks.map fun k=>(k,Chunk.gone);have Xa: ∀k,k∈ks→lk k up=some .gone:=fun k hk=>by
      have:=EA (k:=k) (m:=[]) (ls:=ks);rw [List.append_nil,if_pos hk] at this;exact this
     have o5:CC st.mem up:=fun p hp=>by
      obtain ⟨k,hk,rfl⟩:=List.mem_map.1 hp;obtain ⟨t',cE,e1⟩:=A5 k hk;exact ⟨rfl,by rw [e1];simp⟩
     have sj: ∀i p b,γ (i::p)=some b→i=0∧ ∃o r k,p=o::r∧v.cells[o]? =some (.all k)∧g.f k r=some b:=fun i p b hp=>by
      cases p with
      |nil=>cases hp
      |cons o r=>
       have hp:(if i=0 then (match v.cells[o]? with
        |some (.all k)=>g.f k r
        |_=>none) else none)=some b:=hp
       split at hp;rename_i hi;split at hp;rename_i k hk;exact ⟨hi,o,r,k,rfl,hk,hp⟩;cases hp;cases hp
     have CA: ∀(o k:Nat),v.cells[o]? =some (aA.all k)→k∈ks:=fun o k hk=>by
      rw [Uj];rw [Ns] at hk;exact nU hk
     have cq: ∀i p b,γ (i::p)=some b→b<w.heap.size:=fun i p b hp=>by
      obtain ⟨_,o,r,k,_,hk,hg⟩:=sj i p b hp;obtain ⟨t',cE,e1⟩:=A5 k (CA o k hk);exact h.lt k r _ b e1 trivial hg
     let G:=(List.range w.heap.size).filter fun b=>decide (∃p,γ p=some b);have Th: ∀b,b∈G↔b<w.heap.size∧ ∃p,γ p=some b:=fun b=>by simp [G]
     have W7:bK G w (w.alloc (.cells aG el)):=⟨eO.os,eO.tape,eO.output,eO.size,fun b hb _=>eO.block b hb (by simp),eO.sz⟩;obtain ⟨g',nq,K1⟩:=h.newAt (ch:= .seq t [x]) (γ:=γ) qt o5 W7 (fun b hb=>by
      obtain ⟨hl,p,hp⟩:=(Th b).1 hb;cases p with
      |nil=>
       have hp:some w.heap.size=some b:=hp;injection hp with hp;omega
      |cons i p=>
       obtain ⟨_,o,r,k,_,hk,hg⟩:=sj i p b hp;have vb:=CA o k hk;obtain ⟨t',cE,e1⟩:=A5 k vb;exact ⟨k,r,_,Xa k vb,e1,trivial,hg⟩)
      (fun p b hp=>by
       cases p with
       |nil=>
        have hp:some w.heap.size=some b:=hp;injection hp with hp;subst hp;exact ⟨dx.lt,.inl (Nat.le_refl _)⟩
       |cons i p=>
        have:=cq i p b hp;exact ⟨Nat.lt_of_lt_of_le this eO.size,.inr ((Th b).2 ⟨this,_,hp⟩)⟩)
      (fun p q b hp hq=>by
       cases p with
       |nil=>
        cases q with
        |nil=>rfl
        |cons j q=>
         have hp:some w.heap.size=some b:=hp;injection hp with hp;have:=cq j q b hq;omega
       |cons i p=>
        cases q with
        |nil=>
         have hq:some w.heap.size=some b:=hq;injection hq with hq;have:=cq i p b hp;omega
        |cons j q=>
         obtain ⟨e1,o,r,k,rfl,hk,hg⟩:=sj i p b hp;obtain ⟨e2,o',r',k',rfl,gP,j8⟩:=sj j q b hq;obtain ⟨t1,VS,f1⟩:=A5 k (CA o k hk);obtain ⟨t2,xs2,f2⟩:=A5 k' (CA o' k' gP);obtain ⟨g1,g2⟩:=h.lz k k' r r' _ _ b f1 trivial f2 trivial hg j8;subst g1 g2 e1 e2;have:o=o':=vp (cs:=v.cells) (by rw [Ns,←Uj];exact A6) hk gP;rw [this])
      (fun g' m' S' hS=>by
       show kd g' m' S' (w.alloc (.cells aG el)) γ (.seq t [x]);refine ⟨aG,dx,fun q hq=> ?_⟩;have WT:q=0:=by simp at hq;exact hq
       subst WT;obtain ⟨v1,v2,ev,oZ,ov⟩:=Jz h.mem (S2:=cx.safe g st.mem w) (fun _ hb=>hb) t (γ:=fun p=>γ (0::p)) (o:=0) VQ bN (fun q hq k hk p=>by
        show (if 0=0 then (match v.cells[0+q]? with
         |some (.all k)=>g.f k p
         |_=>none) else none)=_
        rw [if_pos rfl,Nat.zero_add,hk]) (fun q hq hk=>by
        show (if 0=0 then (match v.cells[0+q]? with
         |some (.all k)=>g.f k []
         |_=>none) else none)=_
        rw [if_pos rfl,Nat.zero_add,hk])
       have:v2=[]:=by cases v2 with|nil=>rfl|cons=>exact ov.elim
       subst this;rw [List.append_nil] at ev;subst ev;refine ⟨vs,fun j u hu=> ?_,cX.keep hS t (fun p b hp=>eO.block b (cq _ _ b hp) (by simp)) oZ⟩;rw [Nat.zero_mul,Nat.zero_add,←Array.getElem?_toList,vd,kI];exact hu)
     refine ⟨g',K1,?_⟩;have hl:lk st.nx (up++[(st.nx,.seq t [x])]++st.mem)=some (.seq t [x]):=by
      rw [List.append_assoc,bQ];cases hq:lk st.nx up with
      |none=>simp [aS]
      |some c0=>exact absurd qt (o5.lk hq).2
     refine ⟨by rw [hl];simp,rfl,fun t' cE fe=> ?_⟩;have fe:=dM.toSeq hl fe;rw [hl] at fe;injection fe with fe;injection fe with ht ve;subst ht;have ve:=eq_of_heq ve;subst ve;rw [show g' st.nx=some w.heap.size from by show g'.f st.nx []=_;rw [nq];rfl];refine ⟨1,aG,rfl,Nat.le_refl _,dx,?_,by unfold maxLen;omega⟩;rw [←Array.length_toList,vd,Array.length_toList,rN];omega
  cases he
 cases he
theorem zv {T T':TypeId}{ty:TypeId}{t:Ty}{s x:aE}{e:ca}{sv xv:Value}(h:dw cx g st a w)(hw:fH st.mem e.new)(he:pX cx.P st.mem st.nx T T' t s x=some e)(hc:bH e.cond)(hs:VR g st.mem (cx.safe g st.mem w) w s sv)(hx:VR g st.mem (cx.safe g st.mem w) w x xv):kf cx st a w (Builtin.append_ #[T,T'] ty #[sv,xv]) e:=by
 unfold pX at he;cases ht:t.top with
 |true=>rw [ht] at he;exact A4 h hw he hc hs hx
 |false=>rw [ht] at he;exact EE h hw he hc hs hx
theorem Bk {T:TypeId}{t:Ty}{len:Nat}{parts:List (Nat×aE)}{vparts:Array (Nat×Value)}{e:ca}(h:dw cx g st a w)(hw:fH st.mem e.new)(he:tk cx.P st.mem st.nx T t len parts=some e)(hp:bB (fun (p:Nat×aE) (q:Nat×Value)=>p.1=q.1∧VR g st.mem (cx.safe g st.mem w) w p.2 q.2) parts vparts.toList):kf cx st a w (Instr.buildSlice T len vparts) e:=by
 unfold tk at he;cases ht:t.top with
 |true=>rw [ht] at he;exact vi h hw he hp
 |false=>rw [ht] at he;exact Bj h hw he hp
end
end Go.Ide
namespace Go.Ide
def NV (fr:Fr):List Operand→Option (List aE)
 |[]=>some []
 |x::r=>match ev fr x,NV fr r with
  |some v,some l=>some (v::l)
  |_,_=>none
def Nu (fr:Fr):Option Operand→Option (Option aE)
 |none=>some none
 |some x=>match ev fr x with
  |some v=>some (some v)
  |none=>none
def EF (P:Program)(m:Mem)(T:TypeId)(x:aE):Option ca:=
 match P.underlying T,x with
 |some .string,.one (.aq .str _)=>ug m x
 |some (.slice _),.one (.aq (.sl _) _)=>ug m x
 |some (.slice _),.one (.all _)=>ug m x
 |some (.slice _),.one (.ref _ _ _)=>ug m x
 |some (.slice _),.one (.row _ _ _)=>ug m x
 |some (.slice _),.one .ar=>ug m x
 |_,_=>none
def CS (P:Program)(T:TypeId)(x i:aE):Option ca:=
 match P.underlying T,x,i with
 |some .string,.one (.aq .str s),.one (.aq (.int _) n)=>
  gM (.one (.aq (.int .u8) ((((List.getD s (Int.toNat n) 0:UInt8).toNat:Nat)):Int))) [(0:Int)≤n∧n<((List.length s:Nat):Int)]
 |_,_,_=>none
def QO (x:aE):Option ca:=
 match x with
 | .one (.ptr c off)=>bZ (.one (.ptr c off))
 | .one (.ip t y off)=>bZ (.one (.ip t y off))
 | .one (.iy c i sz off)=>bZ (.one (.iy c i sz off))
 | .one (.AW c i o j sz off)=>bZ (.one (.AW c i o j sz off))
 |_=>none
def pY (P:Program)(fr:Fr)(m:Mem)(nx:Nat)(h:Hint)(b:Builtin)(args:List Operand)(ts:List TypeId):Option ca:=
 match b,args,ts with
 | .len,[x],[T]=>(match ev fr x with
  |some v=>EF P m T v
  |none=>none)
 | .append,[s,x],[T,T']=>(match h,ev fr s,ev fr x with
  | .ty t,some sv,some xv=>pX P m nx T T' t sv xv
  | .no,some sv,some xv=>pU P m nx T T' sv xv
  | .Wm t,some sv,some xv=>zq P nx T T' t sv xv
  |_,_,_=>none)
 | .min,[x,y],_=>(match ev fr x,ev fr y with
  |some xv,some yv=>(match VN false xv yv with
   |some e=>some e
   |none=>Qp xv yv)
  |_,_=>none)
 | .max,[x,y],_=>(match ev fr x,ev fr y with
  |some xv,some yv=>(match VN true xv yv with
   |some e=>some e
   |none=>Qq xv yv)
  |_,_=>none)
 | .copy,[x,y],[T,_]=>(match ev fr x,ev fr y with
  |some xv,some yv=>BH P m T xv yv
  |_,_=>none)
 | .cap,[x],[T]=>(match ev fr x,P.underlying T with
  |some (.one .ar),some (.slice _)=>bZ (.one (.aq (.int .i64) (0:Int)))
  |_,_=>none)
 |_,_,_=>none
def Uk (f:FuncId)(vs:List aE):Option ca:=
 match vs with
 |[.one (.ip t x 0)]=>bZ (.one (.nM f t x))
 |_=>none
def tn (P:Program)(k:FuncId)(fk:FloatKind)(ik:IntKind):Prop:=
 ∀(b:Nat) (w:World),(callFunc k #[.float fk b]).run P w= .ok (.value (.int ik b)) w
def yy (P:Program)(fr:Fr)(m:Mem)(nx:Nat)(h:Hint)(o:Oper):Option ca:=
 match o.op with
 | .move x=>(match ev fr x with
  |some v=>bZ v
  |none=>none)
 | .assign x=>(match ev fr x with
  |some v=>bZ v
  |none=>none)
 | .pick c x y=>(match h with
  | .tv b=>(match ev fr c,ev fr (if b then x else y) with
   |some cv,some v=>Kx b cv v v
   |_,_=>none)
  |_=>none)
 | .alloc T=>(match h with
  | .ty t=>Cy P nx T t
  |_=>FZ P nx T)
 | .box _ x=>(match ev fr x with
  |some v=>(match h with
   | .ty t=>KE nx t v
   |_=>NF nx v)
  |none=>none)
 | .build T parts=>(match AX fr parts.toList with
  |some vs=>F3 P T vs
  |none=>none)
 | .buildSlice T len parts=>(match h,AX fr parts.toList with
  | .ty t,some vs=>tk P m nx T t len vs
  | .Wm t,some vs=>qL P nx T t len vs
  | .no,some vs=>F4 P T len vs
  |_,_=>none)
 | .load T x=>(match ev fr x with
  |some v=>si P m nx h T v
  |none=>none)
 | .store T x y=>(match ev fr x,ev fr y with
  |some xv,some yv=>ti P m nx h T xv yv
  |_,_=>none)
 | .nilCheck x=>(match ev fr x with
  |some v=>QO v
  |none=>none)
 | .binOp op T x y _=>(match ev fr x,ev fr y with
  |some xv,some yv=>BD P T op xv yv
  |_,_=>none)
 | .unOp op _ x=>(match ev fr x with
  |some v=>NR op v
  |none=>none)
 | .convert T U x=>(match ev fr x with
  |some v=>oh P m nx T U v
  |none=>none)
 | .makeSlice T l c=>(match h,ev fr l,ev fr c with
  | .ty t,some lv,some cv=>uh P nx T t lv cv
  |_,_,_=>none)
 | .slice T x lo hi none=>(match ev fr x,Nu fr lo,Nu fr hi with
  |some v,some l,some h=>ui P m T v l h
  |_,_,_=>none)
 | .slice T x lo hi (some q)=>(match ev fr x,Nu fr lo,Nu fr hi,ev fr q with
  |some v,some l,some h,some r=>CM P T v l h (some r)
  |_,_,_,_=>none)
 | .fieldAddr T x f=>(match ev fr x with
  |some v=>qz P T v f
  |none=>none)
 | .indexAddr T x i=>(match ev fr x,ev fr i with
  |some v,some j=>kH P m T v j
  |_,_=>none)
 | .index T x i=>(match ev fr x,ev fr i with
  |some v,some j=>CS P T v j
  |_,_=>none)
 | .extract x i=>(match ev fr x with
  |some v=>u7 v i
  |none=>none)
 | .makeFunc (.func f) first captured=>(match NV fr captured.toList with
  |some vs=>bif first.isEmpty then Uk f vs else none
  |none=>none)
 | .call c=>(match c.callee with
  | .builtin b=>pY P fr m nx h b c.args.toList c.argTypes.toList
  | .value f=>(match h,ev fr f,NV fr c.args.toList with
   | .call ms rs outs,some (.one (.fn k)),some vs=>zh P m nx ms rs outs k vs
   | .call ms rs outs,some (.one (.nM k t x)),some vs=>zh P m nx ms rs outs k (vs++[.one (.ip t x 0)])
   | .no,some (.one (.fn k)),some [.one (.aq (.aX fk) n)]=>(match P.underlying o.type with
    |some (.int ik)=>gM (.one (.aq (.int ik) ((n:Nat):Int))) [tn P k fk ik,n≠Jr fk]
    |_=>none)
   |_,_,_=>none)
  |_=>none)
 |_=>none
section
variable {cx:Cx} {g:GM} {st:St} {a:Act} {w:World}
theorem zw (h:dw cx g st a w): ∀{xs:List Operand} {vs:List aE},NV st.fr xs=some vs→bB (VR g st.mem (cx.safe g st.mem w) w) vs (xs.map a.eval)
 |[],vs,he=>by simp only [NV] at he;injection he with he;subst he;trivial
 |x::xs,vs,he=>by
  simp only [NV] at he;split at he;rename_i v l hv hl;injection he with he;subst he;exact ⟨ck h hv,zw h hl⟩;cases he
theorem CT (h:dw cx g st a w){x:Option Operand}{v:Option aE}(he:Nu st.fr x=some v):OR g st.mem (cx.safe g st.mem w) w v (x.map a.eval):=by
 cases x with
 |none=>simp only [Nu] at he;injection he with he;subst he;trivial
 |some x=>
  simp only [Nu] at he;split at he;rename_i u hu;injection he with he;subst he;exact ck h hu;cases he
theorem zx (h:dw cx g st a w): ∀{xs:List (Nat×Operand)} {vs:List (Nat×aE)},AX st.fr xs=some vs→
 bB (fun (p:Nat×aE) (q:Nat×Value)=>p.1=q.1∧VR g st.mem (cx.safe g st.mem w) w p.2 q.2) vs (xs.map fun (i,x)=>(i,a.eval x))
 |[],vs,he=>by simp only [AX] at he;injection he with he;subst he;trivial
 |(i,x)::xs,vs,he=>by
  simp only [AX] at he;split at he;rename_i v l hv hl;injection he with he;subst he;exact ⟨⟨rfl,ck h hv⟩,zx h hl⟩;cases he
def vt (cx:Cx)(st:St)(a:Act)(w:World)(o:Oper)(e:ca):Prop:=
 (∃val w',(execOp a.eval o).run cx.P w= .ok (.value val) w'∧pK cx st a e val w')∨
 (∃w',(execOp a.eval o).run cx.P w= .ok .skip w'∧pK cx st a e undef w')∨
 (∃f args,(execOp a.eval o).run cx.P w= .ok (.enter f args) w∧Calls cx.P f args w fun en w'=> ∃v,en= .returned v∧pK cx st a e v w')
theorem vt.wp {o:Oper}{e:ca}{K:Act→World→Prop}{Q:Exit→Act→World→Prop}(h:vt cx st a w o e)(hk: ∀val w',pK cx st a e val w'→K (a.put o.dst val) w'):o.wp cx.P a w K Q:=by
 unfold Oper.wp;rcases h with ⟨val,w',h1,h2⟩|⟨w',h1,h2⟩|⟨f,args,h1,h2⟩
 rw [h1];exact hk val w' h2;rw [h1];exact hk undef w' h2;rw [h1];exact h2.mono fun en w' ⟨v,e1,hd⟩=>by subst e1;exact hk v w' hd
theorem kf.lA {o:Oper}{e:ca}{s:Sem Value}(h:kf cx st a w s e)(he:execOp a.eval o=(do pure (.value (←s)))):vt cx st a w o e:=by
 obtain ⟨val,w',h1,h2⟩:=h;exact .inl ⟨val,w',by rw [he];simp [h1],h2⟩
theorem El.lA {o:Oper}{e:ca}{s:Sem Unit}(h:El cx st a w s e)(he:execOp a.eval o=(do s;pure .skip)):vt cx st a w o e:=by
 obtain ⟨w',h1,h2⟩:=h;exact .inr (.inl ⟨w',by rw [he];simp [h1],h2⟩)
theorem vt.pure {o:Oper}{e:ca}{v:aE}{val:Value}(h:dw cx g st a w)(he:execOp a.eval o=Pure.pure (.value val))(hp:e.new=[]∧e.mu=[]∧e.val=v)(hv:VR g st.mem (cx.safe g st.mem w) w v val):vt cx st a w o e:=by
 refine .inl ⟨val,w,by rw [he];rfl,g,?_,?_⟩;rw [hp.1,hp.2.1];exact h;rw [hp.1,hp.2.1,hp.2.2];exact hv
def K2 (u:Value):Prop:=(∃k n,u= .int k n)∨(∃s,u= .string s)∨(∃b,u= .bool b)
theorem EG {P:Program}{op:BinOp}{T:TypeId}{x y:Operand}{k:FloatKind}{b:Nat}{v:Value}:(eqGuard op T x y (.float k b) v).run P w= .ok () w:=by
 cases op<;>cases v<;>rfl
theorem EH {P:Program}{op:BinOp}{T:TypeId}{x y:Operand}{u v:Value}(h:K2 u):(eqGuard op T x y u v).run P w= .ok () w:=by
 rcases h with ⟨k,n,rfl⟩|⟨s,rfl⟩|⟨b,rfl⟩<;>cases op<;>cases v<;>rfl
theorem JD {op:BinOp}{T:TypeId}{x y:aE}{e:ca}{u:Value}(he:Ji cx.P T op x y=some e)(hx:VR g st.mem (cx.safe g st.mem w) w x u):K2 u:=by
 unfold Ji at he;split at he;exact .inl ⟨_,_,eL (g:=g) (m:=st.mem) (S:=cx.safe g st.mem w) (w:=w) hx⟩;exact .inr (.inl ⟨_,mP (g:=g) (m:=st.mem) (S:=cx.safe g st.mem w) (w:=w) hx⟩);exact .inr (.inr ⟨_,ot (g:=g) (m:=st.mem) (S:=cx.safe g st.mem w) (w:=w) hx⟩);cases he
theorem EI {op:BinOp}{T:TypeId}{x y:aE}{xo yo:Operand}{e:ca}{u v:Value}{w':World}(he:BD cx.P T op x y=some e)(hx:VR g st.mem (cx.safe g st.mem w) w x u)(hy:VR g st.mem (cx.safe g st.mem w) w y v):(eqGuard op T xo yo u v).run cx.P w'= .ok () w':=by
 unfold BD at he;split at he;obtain ⟨b,e,_⟩:=pg (g:=g) (m:=st.mem) (S:=cx.safe g st.mem w) (w:=w) hx;rw [e];exact EG;obtain ⟨us,rfl,_⟩:=hx;obtain ⟨vs,rfl,_⟩:=hy;exact yf he;exact EH (JD he hx)
theorem CU {P:Program}{m:Mem}{S:Nat→Prop}{T:TypeId}{x i:aE}{e:ca}{xa ia:Value}(h:CS P T x i=some e)(hc:bH e.cond)(hx:VR g m S w x xa)(hi:VR g m S w i ia):aQ P g m S w (Instr.index T xa ia) e:=by
 unfold CS at h;split at h;rename_i s k n hu;obtain ⟨he,pb⟩:=cK h;rw [pb] at hc;obtain ⟨⟨h0,h1⟩,_⟩:=hc;have e1:=mP (g:=g) (m:=m) (S:=S) (w:=w) hx;have e2:=eL (g:=g) (m:=m) (S:=S) (w:=w) hi;subst e1;subst e2;have cq:Int.toNat n<List.length s:=toNat_lt h0 h1;refine aQ.mk he (r:= .int .u8 ((((List.getD s (Int.toNat n) 0:UInt8).toNat:Nat)):Int)) ?_ rfl;have fG:Int.toNat n<(⟨List.toArray s⟩:ByteArray).size:=by simpa [ByteArray.size] using cq
 have NW:(⟨List.toArray s⟩:ByteArray)[Int.toNat n]? =some (List.getD s (Int.toNat n) 0):=by
  rw [getElem?_pos (⟨List.toArray s⟩:ByteArray) (Int.toNat n) fG]
  congr 1
  rw [getD_eq cq];rfl
 have h0':(0:Int)≤n:=h0;simp only [Instr.index,Sem.run_bind,run_underlying hu,Result.andThen_ok,asIntOf,Sem.run_pure];rw [if_pos h0',NW];rfl;cases h
theorem QP {g:GM}{m:Mem}{S:Nat→Prop}{w:World}{k:FuncId}{t:Ty}{x:t.D}{v:Value}{ad:Addr}(h:CR g m S w (.nM k t x) v)(e:v= .func (.func k) #[] #[.pointer (some ad)]):bB (VR g m S w) [.one (.ip t x 0)] [.pointer (some ad)]:=by
 obtain ⟨ad',es,e',hs,br,cJ⟩:=h;rw [e] at e';injection e' with _ _ e';injection e' with e';injection e' with e' _;injection e' with e';injection e' with e';subst e';have e2:ad.add 0=ad:=by simp [Addr.add]
 exact ⟨⟨ad,es,by rw [e2],hs,br,cJ⟩,trivial⟩
theorem K3 {α:Type}(f:α→Value)(xs:Array α)(v:Value):xs.map f++ #[v]=(xs.toList.map f++[v]).toArray:=by
 apply Array.ext';simp
theorem BJ {h:Hint}{o:Oper}{e:ca}(hs:dw cx g st a w)(hw:fH st.mem e.new)(he:yy cx.P st.fr st.mem st.nx h o=some e)(hc:bH e.cond):vt cx st a w o e:=by
 unfold yy at he;split at he
 ·rename_i x ho;split at he
  ·rename_i v hv;exact vt.pure hs (by simp only [execOp,ho]) (aH he) (ck hs hv)
  ·cases he
 ·rename_i x ho;split at he
  ·rename_i v hv;exact vt.pure hs (by simp only [execOp,ho]) (aH he) (ck hs hv)
  ·cases he
 ·rename_i c x y ho;split at he
  ·rename_i b;split at he
   ·rename_i cv v KD hv;unfold Kx at he;split at he
    ·rename_i t;obtain ⟨hp,pb⟩:=cK he;rw [pb] at hc;have ht:t=b:=hc.1;have e1:=ot (g:=g) (m:=st.mem) (S:=cx.safe g st.mem w) (w:=w) (ck hs KD);have yz:=ck hs hv;refine .inl ⟨a.eval (if b then x else y),w,?_,g,?_,?_⟩
     ·simp only [execOp,ho,e1,asBool];rw [ht];cases b<;>rfl
     ·rw [hp.1,hp.2.1];exact hs
     ·rw [hp.1,hp.2.1,hp.2.2];cases b<;>exact yz
    ·cases he
   ·cases he
  ·cases he
 ·rename_i T ho;split at he
  ·exact (A0 hs hw he).lA (by simp only [execOp,ho])
  ·exact (Cw hs hw he).lA (by simp only [execOp,ho])
 ·rename_i T x ho;split at he
  ·rename_i v hv;split at he
   ·exact (Eh (T:=T) hs hw he (ck hs hv)).lA (by simp only [execOp,ho])
   ·exact (Gh (T:=T) hs hw he (ck hs hv)).lA (by simp only [execOp,ho])
  ·cases he
 ·rename_i T parts ho;split at he
  ·rename_i vs kI;have:=Cv (P:=cx.P) (g:=g) (m:=st.mem) (S:=cx.safe g st.mem w) (w:=w) (vparts:=parts.map fun (i,x)=>(i,a.eval x)) he (by simpa using zx hs kI);exact (this.runs hs).lA (by simp only [execOp,ho])
  ·cases he
 ·rename_i T len parts ho;split at he
  ·rename_i t vs kI;have:=Bk (vparts:=parts.map fun (i,x)=>(i,a.eval x)) hs hw he (by simpa using zx hs kI);exact this.lA (by simp only [execOp,ho])
  ·rename_i t vs kI;have:=uw (vparts:=parts.map fun (i,x)=>(i,a.eval x)) hs he (by simpa using zx hs kI);exact this.lA (by simp only [execOp,ho])
  ·rename_i vs kI;have:=CF (vparts:=parts.map fun (i,x)=>(i,a.eval x)) hs he (by simpa using zx hs kI);exact this.lA (by simp only [execOp,ho])
  ·cases he
 ·rename_i T x ho;split at he
  ·rename_i v hv;exact (CP hs hw he hc (ck hs hv)).lA (by simp only [execOp,ho])
  ·cases he
 ·rename_i T x y ho;split at he
  ·rename_i xv yv hx hy;exact (Bi hs hw he hc (ck hs hx) (ck hs hy)).lA (by simp only [execOp,ho])
  ·cases he
 ·rename_i x ho;split at he
  ·rename_i v hv;have yz:=ck hs hv;unfold QO at he;split at he
   ·obtain ⟨_,b,_,e1⟩:=yz;exact vt.pure hs (by simp [execOp,ho,e1];rfl) (aH he) (by rw [←e1];exact ck hs hv)
   ·obtain ⟨ad,es,e1,_⟩:=yz;exact vt.pure hs (by simp [execOp,ho,e1];rfl) (aH he) (by rw [←e1];exact ck hs hv)
   ·obtain ⟨_,b,_,e1⟩:=yz;exact vt.pure hs (by simp [execOp,ho,e1];rfl) (aH he) (by rw [←e1];exact ck hs hv)
   ·obtain ⟨_,b,e1,_⟩:=yz;exact vt.pure hs (by simp [execOp,ho,e1];rfl) (aH he) (by rw [←e1];exact ck hs hv)
   ·cases he
  ·cases he
 ·rename_i op T x y T' ho;split at he
  ·rename_i xv yv hx hy;obtain ⟨r,w',k3,k4⟩:=Eu hs he hc (ck hs hx) (ck hs hy);refine .inl ⟨r,w',?_,k4⟩;have hg:=EI (xo:=x) (yo:=y) (w':=w) he (ck hs hx) (ck hs hy);simp only [execOp,ho,Sem.run_bind,hg,Result.andThen_ok,k3,Sem.run_pure]
  ·cases he
 ·rename_i op T x ho;split at he
  ·rename_i v hv;exact ((Gs he (ck hs hv)).runs hs).lA (by simp only [execOp,ho])
  ·cases he
 ·rename_i T U x ho;split at he
  ·rename_i v hv;exact (yg hs hw he hc (ck hs hv)).lA (by simp only [execOp,ho])
  ·cases he
 ·rename_i T l c ho;split at he
  ·rename_i t lv cv hl KD;exact (wz hs hw he hc (ck hs hl) (ck hs KD)).lA (by simp only [execOp,ho])
  ·cases he
 ·rename_i T x lo hi ho;split at he
  ·rename_i v l h' hv hl hh;exact ((Ct hs.mem he hc (ck hs hv) (CT hs hl) (CT hs hh)).runs hs).lA (by simp only [execOp,ho];rfl)
  ·cases he
 ·rename_i T x lo hi q ho;split at he
  ·rename_i v l h' r hv hl hh hq;exact ((Bc he hc (ck hs hv) (CT hs hl) (CT hs hh) (mx:=some r) (qv:=some (a.eval q)) (ck hs hq)).runs hs).lA (by simp only [execOp,ho];rfl)
  ·cases he
 ·rename_i T x f ho;split at he
  ·rename_i v hv;exact ((wv he (ck hs hv)).runs hs).lA (by simp only [execOp,ho])
  ·cases he
 ·rename_i T x i ho;split at he
  ·rename_i v j hv hj;exact ((wu hs.mem he hc (ck hs hv) (ck hs hj)).runs hs).lA (by simp only [execOp,ho])
  ·cases he
 ·rename_i T x i ho;split at he
  ·rename_i v j hv hj;exact ((CU he hc (ck hs hv) (ck hs hj)).runs hs).lA (by simp only [execOp,ho])
  ·cases he
 ·rename_i x i ho;split at he
  ·rename_i v hv;exact ((za he (ck hs hv)).runs hs).lA (by simp only [execOp,ho])
  ·cases he
 ·rename_i f first captured ho
  split at he
  ·rename_i vs kI;cases Xb:first.isEmpty with
   |false=>rw [Xb] at he;cases he
   |true=>
    rw [Xb] at he;simp only [cond_true] at he;have VP:first= #[]:=by simpa using Xb
    subst VP;unfold Uk at he;split at he
    ·rename_i t x;have bN:=zw hs kI;have uj:captured.map a.eval=(captured.toList.map a.eval).toArray:=by apply Array.ext';rw [Array.toList_map]
     cases rN:captured.toList.map a.eval with
     |nil=>rw [rN] at bN;exact bN.elim
     |cons u r=>
      rw [rN] at bN;cases r with
      |cons=>exact bN.2.elim
      |nil=>
       obtain ⟨ad,es,e1,Ul,br,cJ⟩:=bN.1;have e2:ad.add 0=ad:=by simp [Addr.add]
       rw [e2] at e1;exact vt.pure hs (val:= .func (.func f) #[] (captured.map a.eval)) (by simp [execOp,ho,Instr.makeFunc]) (aH he) ⟨ad,es,by rw [uj,rN,e1],Ul,br,cJ⟩
    ·cases he
  ·cases he
 ·rename_i c ho;split at he
  ·rename_i b hb;have yi: ∀(consts:Array Bool),resolve a.eval c o.type=pure {target:= .builtin b c.argTypes o.type (c.args.map fun| .const _=>true|_=>false),args:=c.args.map a.eval}:=fun _=>by
    unfold resolve;rw [hb];rfl
   have nK: ∀l,c.args.toList=l→c.args.map a.eval=(l.map a.eval).toArray:=fun l hl=>by
    subst hl;apply Array.ext';rw [Array.toList_map]
   have JE: ∀l,c.argTypes.toList=l→c.argTypes=l.toArray:=fun l hl=>by subst hl;rfl
   unfold pY at he;split at he
   ·rename_i x T mQ NX;split at he
    ·rename_i v hv;have yz:=ck hs hv;have hg:aQ cx.P g st.mem (cx.safe g st.mem w) w (Builtin.len_ #[T] o.type #[a.eval x]) e:=by
      unfold EF at he;split at he
      ·rename_i s hu;refine mz (T:=T) hs.mem (by simp [Ga,hu]) he yz rfl (fun _ _=>hu) (fun a' n c' e'=> ?_);have:=mP (g:=g) (m:=st.mem) (S:=cx.safe g st.mem w) (w:=w) yz;rw [this] at e';cases e'
      ·rename_i el t xs hu;refine mz (T:=T) hs.mem (by simp [Ga,hu]) he yz rfl (fun s e'=> ?_) (fun _ _ _ _=>⟨el,hu⟩);obtain ⟨a',cap,e1,_⟩:=yz;have e1:a.eval x= .slice a' (List.length xs) cap:=by simpa using e1
       rw [e1] at e';cases e'
      ·rename_i el c' hu;refine mz (T:=T) hs.mem (by simp [Ga,hu]) he yz rfl (fun s e'=> ?_) (fun _ _ _ _=>⟨el,hu⟩);have sq: ∀t xs,dM st.mem c' t xs→False:=fun t xs hl=>by
        have hx:=yz.2.2 t xs hl;unfold jl at hx;cases hg:g c' with
        |none=>rw [hg] at hx;obtain ⟨a',ha⟩:=hx;rw [ha] at e';cases e'
        |some b=>rw [hg] at hx;obtain ⟨cap,arr,ha,_⟩:=hx;rw [ha] at e';cases e'
       unfold ug at he;simp only at he;split at he
       ·rename_i t xs hl;exact (sq t xs (.inl hl)).elim
       ·rename_i t xs i cs ks hl;exact (sq t xs (.inr ⟨i,cs,ks,hl⟩)).elim
       ·cases he
      ·rename_i el c' off len hu;refine mz (T:=T) hs.mem (by simp [Ga,hu]) he yz rfl (fun s e'=> ?_) (fun _ _ _ _=>⟨el,hu⟩);unfold ug at he;simp only at he;split at he
       ·rename_i t xs hl;obtain ⟨_,hx⟩:=yz.2.2 t xs (.inl hl);rcases hx with ⟨_,_,a',ha⟩|⟨b,cap,arr,_,ha,_⟩
        ·rw [ha] at e';cases e'
        ·rw [ha] at e';cases e'
       ·cases he
      ·rename_i el c' i o hu;refine mz (T:=T) hs.mem (by simp [Ga,hu]) he yz rfl (fun s e'=> ?_) (fun _ _ _ _=>⟨el,hu⟩);unfold ug at he;simp only at he;split at he
       ·rename_i t xs hl;split at he
        ·rename_i e2 ys F8;have hx:=(yz.2.2 t xs hl).2 e2 ys F8;unfold jl at hx;cases hg:g.f c' [i,o] with
         |none=>rw [hg] at hx;obtain ⟨a',ha⟩:=hx;rw [ha] at e';cases e'
         |some b=>rw [hg] at hx;obtain ⟨cap,arr,ha,_⟩:=hx;rw [ha] at e';cases e'
        ·cases he
       ·cases he
      ·rename_i el hu;refine mz (T:=T) hs.mem (by simp [Ga,hu]) he yz rfl (fun s e'=> ?_) (fun _ _ _ _=>⟨el,hu⟩);obtain ⟨a',ha⟩:=yz;rw [ha] at e';cases e'
      ·cases he
     refine (hg.runs hs).lA ?_;simp only [execOp,ho,yi #[],nK _ mQ,JE _ NX];rfl
    ·cases he
   ·rename_i s x T T' mQ NX;split at he
    ·rename_i t sv xv QI NS;refine (zv (ty:=o.type) hs hw he hc (ck hs QI) (ck hs NS)).lA ?_;simp only [execOp,ho,yi #[],nK _ mQ,JE _ NX];rfl
    ·rename_i sv xv QI NS;refine (zp (ty:=o.type) hs hw he hc (ck hs QI) (ck hs NS)).lA ?_;simp only [execOp,ho,yi #[],nK _ mQ,JE _ NX];rfl
    ·rename_i t sv xv QI NS;refine (zr (ty:=o.type) hs hw he hc (ck hs QI) (ck hs NS)).lA ?_;simp only [execOp,ho,yi #[],nK _ mQ,JE _ NX];rfl
    ·cases he
   ·rename_i x y _ mQ;split at he
    ·rename_i xv yv hx hy;split at he
     ·rename_i e' hf;injection he with he;subst he;refine ((BE (Ts:=c.argTypes) (T:=o.type) hf hc (ck hs hx) (ck hs hy)).runs hs).lA ?_;simp only [execOp,ho,yi #[],nK _ mQ];rfl
     ·refine ((Gf (Ts:=c.argTypes) (T:=o.type) he (ck hs hx) (ck hs hy)).runs hs).lA ?_;simp only [execOp,ho,yi #[],nK _ mQ];rfl
    ·cases he
   ·rename_i x y _ mQ;split at he
    ·rename_i xv yv hx hy;split at he
     ·rename_i e' hf;injection he with he;subst he;refine ((BE (Ts:=c.argTypes) (T:=o.type) hf hc (ck hs hx) (ck hs hy)).runs hs).lA ?_;simp only [execOp,ho,yi #[],nK _ mQ];rfl
     ·refine ((Gg (Ts:=c.argTypes) (T:=o.type) he (ck hs hx) (ck hs hy)).runs hs).lA ?_;simp only [execOp,ho,yi #[],nK _ mQ];rfl
    ·cases he
   ·rename_i x y T T' mQ NX;split at he
    ·rename_i xv yv hx hy;refine (ED (T':=T') (ty:=o.type) hs he (ck hs hx) (ck hs hy)).lA ?_;simp only [execOp,ho,yi #[],nK _ mQ,JE _ NX];rfl
    ·cases he
   ·rename_i x T mQ NX;split at he
    ·rename_i el hv hu;obtain ⟨ad,e1⟩:=ck hs hv;have hg:aQ cx.P g st.mem (cx.safe g st.mem w) w (Builtin.cap_ #[T] o.type #[a.eval x]) e:=by
      refine aQ.mk (aH he) (r:= .int .i64 0) ?_ rfl;rw [e1];simp [Builtin.cap_,run_underlying hu,goInt]
     refine (hg.runs hs).lA ?_;simp only [execOp,ho,yi #[],nK _ mQ,JE _ NX];rfl
    ·cases he
   ·cases he
  ·rename_i f hf;split at he
   ·rename_i ms rs outs k vs hk kI;have QR:a.eval f= .func (.func k) #[] #[]:=ck hs hk;obtain ⟨⟨fn,c1,c2,c3⟩,Gv⟩:=xB hs hw he hc (zw hs kI);refine .inr (.inr ⟨k,(c.args.toList.map a.eval).toArray,?_,Gv⟩);have nK:c.args.map a.eval=(c.args.toList.map a.eval).toArray:=by apply Array.ext';rw [Array.toList_map]
    simp only [execOp,ho,resolve,hf,QR,Deferred.ofValue,Sem.run_bind,Sem.run_pure,Result.andThen_ok,invoke,callFunc,run_program,c1];simp only [c2,c3,nK];simp
   ·rename_i ms rs outs k t x vs hk kI;obtain ⟨ad,es,QR,Ul,br,cJ⟩:=ck hs hk;have Um:bB (VR g st.mem (cx.safe g st.mem w) w) (vs++[.one (.ip t x 0)]) (c.args.toList.map a.eval++[.pointer (some ad)]):=
     bB.append (zw hs kI) (QP ⟨ad,es,QR,Ul,br,cJ⟩ QR)
    obtain ⟨⟨fn,c1,c2,c3⟩,Gv⟩:=xB hs hw he hc Um;refine .inr (.inr ⟨k,(c.args.toList.map a.eval++[Value.pointer (some ad)]).toArray,?_,Gv⟩);have nK:c.args.map a.eval++ #[Value.pointer (some ad)]=(c.args.toList.map a.eval++[Value.pointer (some ad)]).toArray:=K3 a.eval c.args _;simp only [execOp,ho,resolve,hf,QR,Deferred.ofValue,Sem.run_bind,Sem.run_pure,Result.andThen_ok,invoke,callFunc,run_program,c1];simp only [c2,c3,Array.empty_append,nK];simp
   ·rename_i k fk n hk kI;split at he
    ·rename_i ik hu;have QR:a.eval f= .func (.func k) #[] #[]:=ck hs hk;have Um:bB (VR g st.mem (cx.safe g st.mem w) w) [.one (.aq (.aX fk) n)] (c.args.toList.map a.eval):=zw hs kI;have nK:c.args.map a.eval=(c.args.toList.map a.eval).toArray:=by apply Array.ext';rw [Array.toList_map]
     generalize c.args.toList.map a.eval=vals at*
     match vals,Um with
     |[xa],Um=>
      obtain ⟨b,rfl,hb⟩:=pg (g:=g) (m:=st.mem) (S:=cx.safe g st.mem w) (w:=w) Um.1;obtain ⟨hp,pb⟩:=cK he;rw [pb] at hc;have Xc:tn cx.P k fk ik:=hc.1;have jq:n≠Jr fk:=hc.2.1;have ZC:b=n:=by
       cases fk with
       |f32=>
        rw [CL] at hb;split at hb
        ·exact absurd hb.symm jq
        ·exact hb
       |f64=>
        rw [A8] at hb;split at hb
        ·exact absurd hb.symm jq
        ·exact hb
      subst ZC;refine .inl ⟨.int ik b,w,?_,g,?_,?_⟩
      ·simp only [execOp,ho,resolve,hf,QR,Deferred.ofValue,Sem.run_bind,Sem.run_pure,Result.andThen_ok,invoke,nK];simpa using Xc b w
      ·rw [hp.1,hp.2.1];exact hs
      ·rw [hp.1,hp.2.1,hp.2.2];exact rfl
    ·cases he
   ·cases he
  ·cases he
 ·cases he
end
end Go.Ide
namespace Go.Ide
structure OH where
 tv:Option Bool
 h:Hint
def NY (N:Nat):Option Tmp→Bool
 |some t=>Nat.blt t N
 |none=>true
def St.app (st:St)(d:Option Tmp)(e:ca):St:=(st.my (e.mu++e.new++st.mem) (st.nx+e.new.length)).put d e.val
def vu (all:List Oper)(j:Nat):Option Tmp:=(all[j]?).bind (·.dst)
def ux (m:Mem):Mem→Bool
 |[]=>true
 |p::l=>(match lk p.1 m with
  |some _=>false
  |none=>true)&&ux m l
theorem sk {m:Mem}: ∀{l:Mem},ux m l=true→fH m l
 |[],_,p,hp=>by simp at hp
 |q::l,h,p,hp=>by
  simp only [ux,Bool.and_eq_true] at h;rcases List.mem_cons.1 hp with e|hp
  subst e;cases hx:lk p.1 m with
  |none=>rfl
  |some c=>rw [hx] at h;cases h.1
  exact sk h.2 p hp
def pA (P:Program)(all:List Oper)(o:Oper)(r:OH)(fr:Fr)(m:Mem)(nx:Nat):Option (ca×List Prop):=
 match o.guard with
 |none=>(match yy P fr m nx r.h o with
  |some e=>some (e,e.cond)
  |none=>none)
 |some (j,want)=>(match r.tv,(vu all j).bind (fun t=>lk t fr) with
  |some tv,some (.one (.aq .bool b))=>bif tv==want then
   (match yy P fr m nx r.h o with
   |some e=>some (e,(b=tv)::e.cond)
   |none=>none) else some (⟨.FQ,[],[],[]⟩,[b=tv])
  |none,some .FQ=>some (⟨.FQ,[],[],[]⟩,[])
  |_,_=>none)
def Ij (P:Program)(N:Nat)(all:List Oper)(o:Oper)(r:OH)(st:St):Option (St×List Prop):=
 match pA P all o r st.fr st.mem st.nx with
 |some (e,cs)=>bif NY N o.dst&&ux st.mem e.new then some (st.app o.dst e,cs) else none
 |none=>none
def tV (P:Program)(N:Nat)(all:List Oper):List Oper→List OH→St→Option (St×List Prop)
 |[],_,st=>some (st,[])
 |o::os,r::rs,st=>(match Ij P N all o r st with
  |some (st1,c1)=>(match tV P N all os rs st1 with
   |some (Un,c2)=>some (Un,c1++c2)
   |none=>none)
  |none=>none)
 |_::_,[],_=>none
section
variable {cx:Cx} {g:GM} {st:St} {a:Act} {w:World}
theorem K4 {N:Nat}{d:Option Tmp}(h:NY N d=true): ∀t,d=some t→t<N:=by
 intro t e;subst e;exact Nat.lt_of_succ_le (by simpa [NY,Nat.blt] using h)
theorem pK.ZD {e:ca}{val:Value}{w':World}(h:pK cx st a e val w'){d:Option Tmp}(hd: ∀t,d=some t→t<cx.N): ∃g',dw cx g' (st.app d e) (a.put d val) w':=by
 obtain ⟨g',h1,h2⟩:=h;exact ⟨g',h1.put h2 d hd⟩
theorem JF {all:List Oper}{j:Nat}{b:Bool}(h:dw cx g st a w)(hg:(vu all j).bind (fun t=>lk t st.fr)=some (.one (.aq .bool b))):yielded all.toArray a.tmps j=some b:=by
 unfold vu at hg;unfold yielded;cases ho:all[j]? with
 |none=>simp [ho] at hg
 |some o=>
  rw [ho] at hg;simp only [Option.bind_some] at hg;cases hd:o.dst with
  |none=>simp [hd] at hg
  |some t=>
   rw [hd] at hg;simp only [Option.bind_some] at hg;have hv:=h.fr t _ hg;have hb:a.tmps.getD t undef= .bool b:=ot (g:=g) (m:=st.mem) (S:=cx.safe g st.mem w) (w:=w) hv;have cq:t<a.tmps.size:=by
    rcases Nat.lt_or_ge t a.tmps.size with cq|pv
    exact cq;rw [Array.getD_eq_getD_getElem?,Array.getElem?_eq_none pv] at hb;cases hb
   simp only [List.getElem?_toArray,ho,Option.bind_some,hd];rw [Array.getD_eq_getD_getElem?,Array.getElem?_eq_getElem cq] at hb;rw [Array.getElem?_eq_getElem cq];simp only [Option.getD_some] at hb;rw [hb]
theorem JG {all:List Oper}{j:Nat}(h:dw cx g st a w)(hg:(vu all j).bind (fun t=>lk t st.fr)=some .FQ):yielded all.toArray a.tmps j=none:=by
 unfold vu at hg;unfold yielded;cases ho:all[j]? with
 |none=>simp [ho] at hg
 |some o=>
  rw [ho] at hg;simp only [Option.bind_some] at hg;cases hd:o.dst with
  |none=>simp [hd] at hg
  |some t=>
   rw [hd] at hg;simp only [Option.bind_some] at hg;have hv:a.tmps.getD t undef=undef:=h.fr t _ hg;simp only [List.getElem?_toArray,ho,Option.bind_some,hd];rcases Nat.lt_or_ge t a.tmps.size with cq|pv
   rw [Array.getD_eq_getD_getElem?,Array.getElem?_eq_getElem cq] at hv;rw [Array.getElem?_eq_getElem cq];simp only [Option.getD_some] at hv;rw [hv];rfl;rw [Array.getElem?_eq_none pv]
theorem zy {all:List Oper}{o:Oper}{r:OH}{e:ca}{cs:List Prop}{Q:Exit→Act→World→Prop}{K:Act→World→Prop}(h:dw cx g st a w)(he:pA cx.P all o r st.fr st.mem st.nx=some (e,cs))(hw:fH st.mem e.new)(hd:NY cx.N o.dst=true)(hc:bH cs)(hk: ∀g' a' w',dw cx g' (st.app o.dst e) a' w'→K a' w'):if Region.wanted o (yielded all.toArray a.tmps) then o.wp cx.P a w K Q else K (a.put o.dst undef) w:=by
 have hd:=K4 hd;unfold pA at he;split at he;rename_i hg;split at he;rename_i e' hi;injection he with he;injection he with e1 e2;subst e1;subst e2;simp only [Region.wanted,hg,if_true];refine (BJ h hw hi hc).wp fun val w' QS=> ?_;obtain ⟨g',hs⟩:=QS.ZD hd;exact hk g' _ _ hs;cases he;rename_i j want hg;split at he;rename_i tv b Xd hb;have hy:=JF h hb;cases gX:(tv==want) with
 |true=>
  rw [gX] at he;simp only [cond_true] at he;split at he;rename_i e' hi;injection he with he;injection he with e1 e2;subst e1;subst e2;have QT:b=tv:=hc.1;have QU:Region.wanted o (yielded all.toArray a.tmps)=true:=by
   simp only [Region.wanted,hg,hy,QT];simpa using gX
  rw [if_pos QU];refine (BJ h hw hi hc.2).wp fun val w' QS=> ?_;obtain ⟨g',hs⟩:=QS.ZD hd;exact hk g' _ _ hs;cases he
 |false=>
  rw [gX] at he;simp only [cond_false] at he;injection he with he;injection he with e1 e2;subst e1;subst e2;have QT:b=tv:=hc.1;have QU: ¬Region.wanted o (yielded all.toArray a.tmps)=true:=by
   simp only [Region.wanted,hg,hy,QT];simpa using gX
  rw [if_neg QU];exact hk g _ _ (h.put (v:= .FQ) rfl o.dst hd)
 rename_i Xd hb;injection he with he;injection he with e1 e2;subst e1;subst e2;have QU: ¬Region.wanted o (yielded all.toArray a.tmps)=true:=by
  simp [Region.wanted,hg,JG h hb]
 rw [if_neg QU];exact hk g _ _ (h.put (v:= .FQ) rfl o.dst hd);cases he
theorem xG {all:List Oper}{o:Oper}{r:OH}{st':St}{cs:List Prop}{Q:Exit→Act→World→Prop}{K:Act→World→Prop}(h:dw cx g st a w)(he:Ij cx.P cx.N all o r st=some (st',cs))(hc:bH cs)(hk: ∀g' a' w',dw cx g' st' a' w'→K a' w'):if Region.wanted o (yielded all.toArray a.tmps) then o.wp cx.P a w K Q else K (a.put o.dst undef) w:=by
 unfold Ij at he;split at he;rename_i e oy hi;cases hd:(NY cx.N o.dst&&ux st.mem e.new) with
 |false=>rw [hd] at he;cases he
 |true=>
  rw [hd] at he;simp only [cond_true] at he;simp only [Bool.and_eq_true] at hd;injection he with he;injection he with e1 e2;subst e1;subst e2;exact zy h hi (sk hd.2) hd.1 hc hk
 cases he
theorem uy {all:List Oper}{Q:Exit→Act→World→Prop}: ∀{os:List Oper} {rs:List OH} {st st':St} {cs:List Prop} {g:GM} {a:Act} {w:World},
 dw cx g st a w→tV cx.P cx.N all os rs st=some (st',cs)→bH cs→(∀g' a' w',dw cx g' st' a' w'→Q .normal a' w')→wpList cx.P all.toArray Q os a w
 |[],rs,st,st',cs,g,a,w,h,he,hc,hk=>by
  have he:some (st,[])=some (st',cs):=by cases rs<;>exact he
  injection he with he;injection he with e1 e2;subst e1;exact hk g a w h
 |o::os,[],st,st',cs,g,a,w,h,he,hc,hk=>by cases he
 |o::os,r::rs,st,st',cs,g,a,w,h,he,hc,hk=>by
  simp only [tV] at he;split at he;rename_i st1 c1 h1;split at he;rename_i Un c2 h2;injection he with he;injection he with e1 e2;subst e1;subst e2;obtain ⟨HY,eV⟩:=hc.append;refine wpList_step fun K hK=> ?_;exact xG h h1 HY fun g' a' w' hs=>hK a' w' (uy hs h2 eV hk);cases he;cases he
def HT (cx:Cx)(st:St)(c:Code)(Q:Exit→St→Prop):Prop:=
 ∀g a w,dw cx g st a w→c.wp cx.P (fun e a' w'=> ∃st' g',Q e st'∧dw cx g' st' a' w') a w
variable {Q Q':Exit→St→Prop} {c x y:Code}
theorem HT.mono (h:HT cx st c Q)(hq: ∀e s,Q e s→Q' e s):HT cx st c Q':=
 fun g a w hs=>wp_mono (h g a w hs) fun e _ _ ⟨s,g',h1,h2⟩=>⟨s,g',hq e s h1,h2⟩
theorem HT.region {id:Nat}{ops:List Oper}{rs:List OH}{st':St}{cs:List Prop}(he:tV cx.P cx.N ops ops rs st=some (st',cs))(hc:bH cs)(hq:Q .normal st'):HT cx st (.region id ops.toArray false) Q:=
 fun g a w hs=>wp_region_lit (uy hs he hc fun g' _ _ eI=>⟨st',g',hq,eI⟩)
theorem HT.skip (hq:Q .normal st):HT cx st .skip Q:=fun g _ _ hs=>wp_skip ⟨st,g,hq,hs⟩
theorem HT.exit {id:Nat}(hq:Q (.exit id) st):HT cx st (.exit id) Q:=fun g _ _ hs=>wp_exit ⟨st,g,hq,hs⟩
theorem HT.ret (hq:Q .ret st):HT cx st .ret Q:=fun g _ _ hs=>wp_ret ⟨st,g,hq,hs⟩
def EJ (cx:Cx)(y:Code)(Q:Exit→St→Prop):Exit→St→Prop
 | .normal,s=>HT cx s y Q
 |e,s=>Q e s
theorem HT.seq (h:HT cx st x (EJ cx y Q)):HT cx st (.seq x y) Q:=fun g a w hs=>by
 refine wp_seq (wp_mono (h g a w hs) fun e a' w' ⟨s,g',h1,h2⟩=> ?_);cases e with
 |normal=>exact h1 g' a' w' h2
 |_=>exact ⟨s,g',h1,h2⟩
theorem HT.cond {o:Operand}{b:Bool}(he:ev st.fr o=some (.one (.aq .bool b)))(h1:b=true→HT cx st x Q)(h2:b=false→HT cx st y Q):HT cx st (.cond o x y) Q:=fun g a w hs=>
 wp_cond_split (ot (g:=g) (m:=st.mem) (S:=cx.safe g st.mem w) (w:=w) (ck hs he)) (fun e=>h1 e g a w hs) (fun e=>h2 e g a w hs)
def zA (id:Nat)(Q:Exit→St→Prop):Exit→St→Prop
 | .exit Xe,s=>if Xe=id then Q .normal s else Q (.exit Xe) s
 |e,s=>Q e s
theorem HT.block {id:Nat}(h:HT cx st c (zA id Q)):HT cx st (.block id c) Q:=fun g a w hs=>by
 refine wp_block (wp_mono (h g a w hs) fun e a' w' ⟨s,g',h1,h2⟩=> ?_);cases e with
 |exit Xe=>
  simp only [Exit.inBlock,zA] at h1⊢;split;rename_i e;rw [if_pos e] at h1;exact ⟨s,g',h1,h2⟩;rename_i e;rw [if_neg e] at h1;exact ⟨s,g',h1,h2⟩
 |_=>exact ⟨s,g',h1,h2⟩
def BK (J:St→Prop)(Q:Exit→St→Prop):Exit→St→Prop
 | .normal,s=>J s
 |e,s=>Q e s
theorem HT.loop {α:Type}{I:Nat→α→Prop}{S:α→St}{n:Nat}{s:α}(h0:I n s)(hz: ∀s,¬I 0 s)(round: ∀n s,I (n+1) s→HT cx (S s) c (BK (fun st'=> ∃s',st'=S s'∧I n s') Q)):HT cx (S s) (.loop c) Q:=fun g a w hs=>by
 let J:Nat→Act→World→Prop:=fun n a w=> ∃s g,I n s∧dw cx g (S s) a w;have hex: ∀a w,(∃n,J n a w)→ ∃n,J n a w∧ ∀k,J k a w→n≤k:=by
  intro a w ⟨n,hn⟩;induction n using Nat.strongRecOn with
  |_ n ih=>
   by_cases h: ∃k,k<n∧J k a w;obtain ⟨k,hk,hj⟩:=h;exact ih k hk hj;exact ⟨n,hn,fun k hk=>Nat.le_of_not_lt fun cq=>h ⟨k,cq,hk⟩⟩
 let μ:Act→World→Nat:=fun a w=> @dite Nat (∃n,J n a w) (Classical.propDecidable _) (fun h=>Classical.choose (hex a w h)) (fun _=>0);have hμ: ∀a w n,J n a w→J (μ a w) a w∧μ a w≤n:=by
  intro a w n hn;have hx: ∃n,J n a w:=⟨n,hn⟩;have e:μ a w=Classical.choose (hex a w hx):=dif_pos hx;have:=Classical.choose_spec (hex a w hx);rw [e];exact ⟨this.1,this.2 n hn⟩
 refine wp_loop (fun a w=> ∃n,J n a w) μ ⟨n,s,g,h0,hs⟩ fun a w ⟨n,hn⟩=> ?_;obtain ⟨⟨s,g,hI,hs⟩,_⟩:=hμ a w n hn;cases hm:μ a w with
 |zero=>rw [hm] at hI;exact absurd hI (hz s)
 |succ k=>
  rw [hm] at hI;refine wp_mono (round k s hI g a w hs) fun e a' w' ⟨st',g',h1,h2⟩=> ?_;cases e with
  |normal=>
   obtain ⟨s',e,ZE⟩:=h1;subst e;have:=hμ a' w' k ⟨s',g',ZE,h2⟩;exact ⟨⟨k,s',g',ZE,h2⟩,by omega⟩
  |_=>exact ⟨st',g',h1,h2⟩
end
end Go.Ide
namespace Go.Ide
theorem zB {ch:List (Nat×Nat)}: ∀{k k':Nat},lk k ch=some k'→k'∈ch.map Prod.snd:=fun h=>List.mem_map.2 ⟨_,mD h,rfl⟩
def inv (ch:List (Nat×Nat)):List (Nat×Nat):=ch.map fun p=>(p.2,p.1)
theorem oC: ∀{ch:List (Nat×Nat)} {k k':Nat},(ch.map Prod.fst).Nodup→(ch.map Prod.snd).Nodup→(lk k ch=some k'↔lk k' (inv ch)=some k)
 |[],k,k',_,_=>by simp [inv,gI]
 |(a,b)::ch,k,k',h1,h2=>by
  simp only [List.map_cons,List.nodup_cons] at h1 h2;simp only [inv,List.map_cons];rw [aS,aS];have ih:=oC (ch:=ch) (k:=k) (k':=k') h1.2 h2.2;by_cases hk:k=a;subst hk;rw [if_pos rfl];by_cases gP:k'=b;subst gP;simp;rw [if_neg gP];constructor;intro e;injection e with e;exact absurd e.symm gP
  intro e;have:=ih.2 e;exact absurd (List.mem_map.2 ⟨_,mD this,rfl⟩) h1.1;rw [if_neg hk];by_cases gP:k'=b;subst gP;rw [if_pos rfl];constructor;intro e;exact absurd (zB e) h2.1;intro e;injection e with e;exact absurd e.symm hk
  rw [if_neg gP];exact ih
end Go.Ide
