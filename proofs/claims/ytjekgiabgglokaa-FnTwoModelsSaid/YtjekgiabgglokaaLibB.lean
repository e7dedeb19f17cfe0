import Derived.Test.YtjekgiabgglokaaLibA
import Derived.Laws.FloatArith
import Derived.Lib.ConvBytes
import Derived.Laws.BytesString
import Derived.Laws.Externs
set_option linter.unusedVariables false
set_option linter.unusedSimpArgs false
set_option linter.unusedSectionVars false
namespace Go.Ide
section
variable {g:GM} {m:Mem} {S S2:Nat→Prop} {w:World}
theorem gw.len {t:Ty}{cs:List Value}{xs:List t.D}{A:List (List Nat→Option Nat)}(h:gw S w t cs xs A):cs.length=1:=by
 rcases h with ⟨_,_,a,e⟩|⟨v,γ,_,e,_⟩<;>subst e<;>rfl
theorem du.len: ∀(t:Ty) {cs:List Value} {x:t.D} {A:List (List Nat→Option Nat)},du S w t cs x A→cs.length=t.size
 | .int _,_,_,_,h=>bO.len _ _ _ h.2
 | .aW _,_,_,_,h=>bO.len _ _ _ h.2
 | .bool,_,_,_,h=>bO.len _ _ _ h.2
 | .str,_,_,_,h=>bO.len _ _ _ h.2
 | .pair a b,_,_,_,⟨c1,c2,A1,A2,e,_,h1,h2⟩=>by subst e;simp [Ty.size,du.len a h1,du.len b h2]
 | .st t,_,_,_,h=>du.len t (cs:=_) h
 | .sl t,_,_,_,h=>gw.len h
 | .bx t,_,_,_,⟨_,_,_,_,e,_⟩=>by subst e;rfl
 | .own t,_,_,_,h=>gw.len h
theorem gw.tD {t:Ty}{cs:List Value}{xs:List t.D}{A:List (List Nat→Option Nat)}(h:gw S w t cs xs A):A.length=1:=by
 rcases h with ⟨e,_⟩|⟨v,γ,e,_⟩<;>subst e<;>rfl
def Ty.Bn:Ty→Nat
 | .pair a b=>a.Bn+b.Bn
 | .st t=>t.Bn
 | .sl _=>1
 | .bx _=>1
 | .own _=>1
 |_=>0
theorem du.tD: ∀(t:Ty) {cs:List Value} {x:t.D} {A:List (List Nat→Option Nat)},du S w t cs x A→A.length=t.Bn
 | .int _,_,_,_,h=>by rw [h.1];rfl
 | .aW _,_,_,_,h=>by rw [h.1];rfl
 | .bool,_,_,_,h=>by rw [h.1];rfl
 | .str,_,_,_,h=>by rw [h.1];rfl
 | .pair a b,_,_,_,⟨c1,c2,A1,A2,_,e,h1,h2⟩=>by subst e;simp [Ty.Bn,du.tD a h1,du.tD b h2]
 | .st t,_,_,_,h=>du.tD t (cs:=_) h
 | .sl t,_,_,_,h=>gw.tD h
 | .bx t,_,_,_,⟨_,_,_,e,_⟩=>by subst e;rfl
 | .own t,_,_,_,h=>gw.tD h
theorem bO.flat {w':World}: ∀(t:Ty) {cs:List Value} {x:t.D},t.flat=true→bO S w t cs x→bO S2 w' t cs x
 | .int _,_,_,_,h=>h
 | .aW _,_,_,_,h=>h
 | .bool,_,_,_,h=>h
 | .str,_,_,_,h=>h
 | .sl _,_,_,hf,_=>by cases hf
 | .bx _,_,_,hf,_=>by cases hf
 | .own _,_,_,hf,_=>by cases hf
 | .pair a b,_,_,hf,⟨c1,c2,e,h1,h2⟩=>by
  simp only [Ty.flat,Bool.and_eq_true] at hf;exact ⟨c1,c2,e,bO.flat a hf.1 h1,bO.flat b hf.2 h2⟩
 | .st t,_,_,hf,h=>bO.flat t (cs:=_) hf h
theorem cW.iY: ∀(t:Ty) {γ:List Nat→Option Nat} {o:Nat} {cs:List Value} {x:t.D},t.iY=true→cW S w t γ o cs x→cW S2 w t γ o cs x
 | .own t,γ,o,cs,xs,hf,⟨v,e,ha,hr⟩=>by
  refine ⟨v,e,ha,?_⟩;cases hg:γ [o] with
  |none=>rw [hg] at hr;exact hr
  |some b=>
   rw [hg] at hr;obtain ⟨arr,hb,hi⟩:=hr;exact ⟨arr,hb,fun i hl=>let ⟨es,h1,h2⟩:=hi i hl;⟨es,h1,cW.iY t hf h2⟩⟩
 | .pair a b,γ,o,cs,x,hf,⟨c1,c2,e,h1,h2⟩=>by
  simp only [Ty.iY,Bool.and_eq_true] at hf;exact ⟨c1,c2,e,cW.iY a hf.1 h1,cW.iY b hf.2 h2⟩
 | .st t,γ,o,cs,x,hf,hr=>cW.iY t (o:=o) (cs:=cs) (x:=x) hf hr
 | .int k,_,_,cs,x,_,hr=>hr
 | .aW k,_,_,cs,x,_,hr=>hr
 | .bool,_,_,cs,x,_,hr=>hr
 | .str,_,_,cs,x,_,hr=>hr
 | .sl t,_,_,cs,x,hf,hr=>by cases hf
 | .bx t,_,_,cs,x,hf,hr=>by cases hf
theorem fm.iY {γ:List Nat→Option Nat}{t:Ty}{xs:List t.D}{arr:Array Value}(hf:t.iY=true)(h:fm S w γ t xs arr):fm S2 w γ t xs arr:=
 fun i hi=>let ⟨es,h1,h2⟩:=h i hi;⟨es,h1,cW.iY t hf h2⟩
theorem sw: ∀(t:Ty) (x:t.D) (o:Nat),t.top=true→eP t x o=none
 | .int _,_,_,_=>rfl
 | .aW _,_,_,_=>rfl
 | .bool,_,_,_=>rfl
 | .str,_,_,_=>rfl
 | .sl _,_,_,_=>rfl
 | .bx _,_,_,_=>rfl
 | .own _,_,_,h=>by cases h
 | .pair a b,x,o,h=>by
  simp only [Ty.top,Bool.and_eq_true] at h;simp only [eP];cases Nat.blt o a.size with
  |true=>exact sw a _ _ h.1
  |false=>exact sw b _ _ h.2
 | .st t,x,o,h=>sw t x o h
theorem cy.top {t:Ty}(h:t.top=true){xs cK:List t.D}(hl:xs.length=cK.length):cy t xs cK:=
 ⟨hl,fun i o e vq hs=>by rw [sw t _ _ h] at hs;cases hs⟩
structure TI (g:GM)(m:Mem)(w:World):Prop where
 inj: ∀k k' p p' ch ji b,lk k m=some ch→ch.owns p→lk k' m=some ji→ji.owns p'→g.f k p=some b→g.f k' p'=some b→k=k'∧p=p'
 lt: ∀k p ch b,lk k m=some ch→ch.owns p→g.f k p=some b→b<w.heap.size
theorem cX.NL {cx:Cx}{st:St}{a:Act}(h:cX cx g st a w):TI g st.mem w:=⟨h.jU,h.lt⟩
theorem pY.nil:pY []:=⟨List.Pairwise.nil,fun γ h=>by simp at h⟩
theorem yC.nil:yC [] []:=fun b=>by simp
theorem mI {n:Nat}{A:List (List Nat→Option Nat)}(h: ∀γ,γ∈A→ ∀p b,γ p=some b→b<n): ∃F,yC A F:=by
 classical
 refine ⟨(List.range n).filter fun b=>decide (∃γ,γ∈A∧ ∃p,γ p=some b),fun b=> ?_⟩;rw [List.mem_filter];simp only [List.mem_range,decide_eq_true_eq];exact ⟨fun h=>h.2,fun hp=>⟨let ⟨γ,hγ,p,e⟩:=hp;h γ hγ p b e,hp⟩⟩
def gof (g:GM):Option Nat→List Nat→Option Nat
 |some k=>g.f k
 |none=>fun _=>none
def j9 (g:GM)(m:Mem)(ks:List Nat)(A:List (List Nat→Option Nat)):Prop:=
 ∃l:List (Option Nat),A=l.map (gof g)∧(l.filterMap id).Sublist ks∧ ∀k,some k∈l→ ∃t xs,lk k m=some (.seq t xs)
theorem j9.nil {ks:List Nat}:j9 g m ks []:=⟨[],rfl,List.nil_sublist _,fun k h=>by simp at h⟩
theorem j9.app {S5 Ps:List Nat}{A1 A2:List (List Nat→Option Nat)}(h1:j9 g m S5 A1)(h2:j9 g m Ps A2):j9 g m (S5++Ps) (A1++A2):=by
 obtain ⟨l1,e1,s1,p1⟩:=h1;obtain ⟨l2,e2,s2,p2⟩:=h2;refine ⟨l1++l2,by rw [e1,e2,List.map_append],by rw [List.filterMap_append];exact s1.append s2,fun k hk=> ?_⟩;rcases List.mem_append.1 hk with hk|hk
 exact p1 k hk;exact p2 k hk
theorem j9.inj (hI:TI g m w){ks:List Nat}{A:List (List Nat→Option Nat)}(h:j9 g m ks A)(hn:ks.Nodup):pY A:=by
 obtain ⟨l,e,hs,hp⟩:=h;subst e;have hn:=hs.nodup hn;constructor;rw [List.pairwise_map];have:=List.pairwise_filterMap.1 hn;refine this.imp_of_mem fun {o o'} ho vx hr p q b h1 h2=> ?_;cases o with
 |none=>cases h1
 |some k=>
  cases o' with
  |none=>cases h2
  |some k'=>
   obtain ⟨t,xs,l1⟩:=hp k ho;obtain ⟨t',cK,l2⟩:=hp k' vx;exact hr k rfl k' rfl (hI.inj k k' p q _ _ b l1 trivial l2 trivial h1 h2).1
 intro γ hγ p q b h1 h2;obtain ⟨o,ho,rfl⟩:=List.mem_map.1 hγ;cases o with
 |none=>cases h1
 |some k=>
  obtain ⟨t,xs,l1⟩:=hp k ho;exact (hI.inj k k p q _ _ b l1 trivial l1 trivial h1 h2).2
theorem j9.dc {ks:List Nat}{A:List (List Nat→Option Nat)}(h:j9 g m ks A){γ:List Nat→Option Nat}(hγ:γ∈A){p:List Nat}{b:Nat}(hb:γ p=some b): ∃k,k∈ks∧ ∃p t xs,g.f k p=some b∧lk k m=some (.seq t xs):=by
 obtain ⟨l,e,hs,hp⟩:=h;subst e;obtain ⟨o,ho,rfl⟩:=List.mem_map.1 hγ;cases o with
 |none=>cases hb
 |some k=>
  obtain ⟨t,xs,l1⟩:=hp k ho;exact ⟨k,hs.subset (List.mem_filterMap.2 ⟨some k,ho,rfl⟩),p,t,xs,hb,l1⟩
def nT (g:GM)(m:Mem)(SU:Nat→Prop)(w':World)(u:Mem):Prop:=
 ∀p∈u,∃t xs,lk p.1 m=some (.seq t xs)∧(p.2= .gone∨ ∃cK,p.2= .seq t cK∧cy t xs cK∧
  (match g.f p.1 [] with|none=>cK=[]|some b=> ∃arr,dc w' b arr∧fm SU w' (g.f p.1) t cK arr))
theorem nT.nil {SU:Nat→Prop}{w':World}:nT g m SU w' []:=fun p hp=>by simp at hp
theorem nT.app {SU:Nat→Prop}{w':World}{u1 u2:Mem}(h1:nT g m SU w' u1)(h2:nT g m SU w' u2):nT g m SU w' (u1++u2):=fun p hp=>by
 rcases List.mem_append.1 hp with hp|hp
 exact h1 p hp;exact h2 p hp
theorem Kq (hm:kY g m S w)(hS: ∀b,S b→S2 b){c:Nat}{t:Ty}{xs:List t.D}(hl:lk c m=some (.seq t xs)){v:Value}(hv:CR g m S w (.all c) v):
 ∃A,gw S2 w t [v] xs A∧j9 g m [c] A∧ ∀(w':World) (SO SU:Nat→Prop) (cK:List t.D),(∀b arr,dc w b arr→ ∃aG,dc w' b aG∧aG.size=arr.size)→(t.iY=true∨ ∀b,SO b→SU b)→gw SO w' t [v] cK A→cy t xs cK→nT g m SU w' [(c,.seq t cK)]:=by
 have hx:=hv.2.2 t xs (.inl hl);have cH:=hm c _ hl;unfold gL at hx;unfold jf at cH;have TJ: ∀cK,xs=[]→cy t xs cK→cK=[]:=fun cK h h'=>List.eq_nil_of_length_eq_zero (by rw [←h'.1,h];rfl);cases hg:g.f c [] with
 |none=>
  rw [show g c=none from hg] at hx;rw [hg] at cH;obtain ⟨a,ha⟩:=hx;have cH:xs=[]:=cH;refine ⟨[fun _=>none],.inl ⟨rfl,cH,a,by rw [ha]⟩,⟨[none],rfl,by simp,by simp⟩,fun w' SO SU cK eK hf ho vr p hp=> ?_⟩;simp at hp;subst hp;refine ⟨t,xs,hl,.inr ⟨cK,rfl,vr,?_⟩⟩;simp only [hg];exact TJ cK cH vr
 |some b=>
  rw [show g c=some b from hg] at hx;rw [hg] at cH;obtain ⟨cap,arr,e1,k1,k2,k3,k4⟩:=hx;obtain ⟨aG,jS,nf⟩:=cH;have:=k2.eq jS;subst this;subst e1;by_cases tz:cap=0;subst tz;have uq:xs=[]:=List.eq_nil_of_length_eq_zero (by omega);refine ⟨[fun _=>none],.inl ⟨rfl,uq,_,by rw [uq];rfl⟩,⟨[none],rfl,by simp,by simp⟩,fun w' SO SU cK eK hf ho vr p hp=> ?_⟩;simp at hp;subst hp;have IN:=TJ cK uq vr;refine ⟨t,xs,hl,.inr ⟨cK,rfl,vr,?_⟩⟩;simp only [hg];obtain ⟨aG,q1,_⟩:=eK b arr k2;exact ⟨aG,q1,by rw [IN];exact fun i hi=>by simp at hi⟩;refine ⟨[g.f c],.inr ⟨_,g.f c,rfl,rfl,b,cap,arr,hg,rfl,k1,by omega,k2,k3,k4,nf.keep (fun b hb=>⟨hS b hb,rfl⟩) (fun _ _ _=>rfl)⟩,⟨[some c],rfl,by simp,fun k hk=>by simp at hk;subst hk;exact ⟨t,xs,hl⟩⟩,fun w' SO SU cK eK hf ho vr p hp=> ?_⟩;simp at hp;subst hp;refine ⟨t,xs,hl,.inr ⟨cK,rfl,vr,?_⟩⟩;rcases ho with ⟨e,_⟩|⟨v',γ,e,e2,b2,abP,lP,h0,_,_,_,q3,_,_,q6⟩
  injection e with e;rw [e] at hg;cases hg;injection e with e;subst e;simp only [h0];refine ⟨lP,q3,?_⟩;rcases hf with hf|hf
  exact q6.iY hf;exact q6.keep (fun b hb=>⟨hf b hb,rfl⟩) fun _ _ _=>rfl
theorem NM (hm:kY g m S w)(hS: ∀b,S b→S2 b){c sz:Nat}{t:Ty}{xs:List t.D}(hl:lk c m=some (.seq t xs)){v:Value}(hv:CR g m S w (.dI c 0 sz 0) v):
 ∃A,Bm S2 w t [v] xs A∧j9 g m [c] A∧ ∀(w':World) (SO SU:Nat→Prop) (cK:List t.D),(t.iY=true∨ ∀b,SO b→SU b)→Bm SO w' t [v] cK A→cy t xs cK→nT g m SU w' [(c,.seq t cK)]:=by
 obtain ⟨_,b,hg,ev⟩:=hv;have cH:=hm c _ hl;unfold jf at cH;have hg:g.f c []=some b:=hg;rw [hg] at cH;obtain ⟨arr,hb,nf⟩:=cH;refine ⟨[g.f c],⟨g.f c,b,arr,rfl,by rw [ev];simp,hg,hb,nf.keep (fun b hb=>⟨hS b hb,rfl⟩) fun _ _ _=>rfl⟩,⟨[some c],rfl,by simp,fun k hk=>by simp at hk;subst hk;exact ⟨t,xs,hl⟩⟩,fun w' SO SU cK hf ho vr p hp=> ?_⟩;simp at hp;subst hp;refine ⟨t,xs,hl,.inr ⟨cK,rfl,vr,?_⟩⟩;obtain ⟨γ,b2,lP,e1,_,h0,q3,q6⟩:=ho;injection e1 with e1;subst e1;simp only [h0];refine ⟨lP,q3,?_⟩;rcases hf with hf|hf
 exact q6.iY hf;exact q6.keep (fun b hb=>⟨hf b hb,rfl⟩) fun _ _ _=>rfl
theorem Cl (hm:kY g m S w)(hS: ∀b,S b→S2 b): ∀(t:Ty) {l9:List aA} {x:t.D} {r r':List aA} {ks:List Nat} {vs:List Value},
 impl m t l9=some (x,r)→dJ m t l9=some (ks,r')→bC (CR g m S w) l9 vs→
 ∃v1 v2 A,vs=v1++v2∧du S2 w t v1 x A∧bC (CR g m S w) r v2∧r'=r∧j9 g m ks A∧(∀k∈ks,∃t xs,lk k m=some (.seq t xs))∧
  ∀(w':World) (SO SU:Nat→Prop) (x':t.D) (u:Mem) (HZ:List aA),(∀b arr,dc w b arr→ ∃aG,dc w' b aG∧aG.size=arr.size)→(t.kW=true∨ ∀b,SO b→SU b)→nS t l9 x'=some (u,HZ)→du SO w' t v1 x' A→tC t x x'→
   u.map Prod.fst=ks∧nT g m SU w' u∧HZ=r:=by
 have qJ: ∀(t:Ty) (hp: ∀cs x A,A=[]∧bO S2 w t cs x→du S2 w t cs x A) (hu: ∀l9 x' u HZ,nS t l9 x'=some (u,HZ)→(match l9 with| .aw _ _::r=>some (([]:Mem),r)|_=>none)=some (u,HZ))
  {l9:List aA} {x:t.D} {r r':List aA} {ks:List Nat} {vs:List Value},
  c9 m t l9=some (x,r)→(match l9 with| .aw _ _::r=>some ([],r)|_=>none)=some (ks,r')→bC (CR g m S w) l9 vs→
  ∃v1 v2 A,vs=v1++v2∧du S2 w t v1 x A∧bC (CR g m S w) r v2∧r'=r∧j9 g m ks A∧(∀k∈ks,∃t xs,lk k m=some (.seq t xs))∧
  ∀(w':World) (SO SU:Nat→Prop) (x':t.D) (u:Mem) (HZ:List aA),(∀b arr,dc w b arr→ ∃aG,dc w' b aG∧aG.size=arr.size)→(t.kW=true∨ ∀b,SO b→SU b)→nS t l9 x'=some (u,HZ)→du SO w' t v1 x' A→tC t x x'→
   u.map Prod.fst=ks∧nT g m SU w' u∧HZ=r:=by
  intro t hp hu l9 x r r' ks vs h1 h2 h3;split at h2;rename_i t' y r0;injection h2 with h2;injection h2 with e1 e2;subst e1;subst e2;cases vs with
  |nil=>exact h3.elim
  |cons v vs=>
   simp only [c9] at h1;split at h1;rename_i z hz;injection h1 with h1;injection h1 with e1 e2;subst e1;subst e2;refine ⟨[v],vs,[],rfl,hp _ _ _ ⟨rfl,?_⟩,h3.2,rfl,j9.nil,by simp,fun w' SO SU x' u HZ _ _ h _ _=> ?_⟩;refine qS (m0:=[]) hS iZ.nil (c:= .aw t' y) ?_ h3.1;simp only [eE] at hz⊢;exact hz;have:=hu _ _ _ _ h;simp at this;obtain ⟨e1,e2⟩:=this;subst e1;subst e2;exact ⟨rfl,nT.nil,rfl⟩;cases h1
  cases h2
 intro t;induction t with
 |int k=>intro l9 x r r' ks vs h1 h2 h3;exact qJ (.int k) (fun _ _ _ h=>h) (fun _ _ _ _ h=>h) h1 h2 h3
 |aW k=>intro l9 x r r' ks vs h1 h2 h3;exact qJ (.aW k) (fun _ _ _ h=>h) (fun _ _ _ _ h=>h) h1 h2 h3
 |bool=>intro l9 x r r' ks vs h1 h2 h3;exact qJ .bool (fun _ _ _ h=>h) (fun _ _ _ _ h=>h) h1 h2 h3
 |str=>intro l9 x r r' ks vs h1 h2 h3;exact qJ .str (fun _ _ _ h=>h) (fun _ _ _ _ h=>h) h1 h2 h3
 |st t ih=>intro l9 x r r' ks vs h1 h2 h3;exact ih h1 h2 h3
 |pair a b Qo Qp=>
  intro l9 x r r' ks vs h1 h2 h3;simp only [impl] at h1;simp only [dJ] at h2;split at h1;rename_i y r1 e1;split at h1;rename_i z r2 e2;injection h1 with h1;injection h1 with k1 k2;subst k1;subst k2;split at h2;rename_i S5 r3 e3;split at h2;rename_i Ps r4 e4;injection h2 with h2;injection h2 with k3 k4;subst k3;subst k4;obtain ⟨v1,v2,A1,rfl,o1,a1,q1,s1,p1,n1⟩:=Qo e1 e3 h3;subst q1;obtain ⟨v3,v4,A2,rfl,o2,a2,q2,s2,p2,n2⟩:=Qp e2 e4 a1;refine ⟨v1++v3,v4,A1++A2,by simp,⟨v1,v3,_,_,rfl,rfl,o1,o2⟩,a2,q2,s1.app s2,fun k hk=> ?_,fun w' SO SU x' u HZ eK hf hu ho vr=> ?_⟩;rcases List.mem_append.1 hk with hk|hk
  exact p1 k hk;exact p2 k hk;simp only [nS] at hu;have Pt:a.kW=true∨ ∀b,SO b→SU b:=hf.imp_left fun hf=>by simp only [Ty.kW,Bool.and_eq_true] at hf;exact hf.1
  have Kr:b.kW=true∨ ∀b,SO b→SU b:=hf.imp_left fun hf=>by simp only [Ty.kW,Bool.and_eq_true] at hf;exact hf.2
  split at hu;rename_i u1 r5 e5;split at hu;rename_i u2 r6 e6;injection hu with hu;injection hu with k5 k6;subst k5;subst k6;obtain ⟨c1,c2,B1,B2,ec,eA,o3,o4⟩:=ho;obtain ⟨rfl,rfl⟩:=List.append_inj ec (by rw [du.len a o1,du.len a o3]);obtain ⟨rfl,rfl⟩:=List.append_inj eA (by rw [du.tD a o1,du.tD a o3]);obtain ⟨g1,g2,g3⟩:=n1 w' SO SU x'.1 u1 r5 eK Pt e5 o3 vr.1;subst g3;obtain ⟨g4,g5,g6⟩:=n2 w' SO SU x'.2 u2 r6 eK Kr e6 o4 vr.2;exact ⟨by simp [g1,g4],g2.app g5,g6⟩;cases hu;cases hu;cases h2;cases h2;cases h1;cases h1
 |sl t ih=>
  intro l9 x r r' ks vs h1 h2 h3;simp only [dJ] at h2;split at h2;rename_i c r0;cases vs with
  |nil=>exact h3.elim
  |cons v vs=>
   simp only [impl,c9] at h1;split at h1;rename_i z hz;injection h1 with h1;injection h1 with e1 e2;subst e1;subst e2;simp only [eE] at hz;split at hz;rename_i e' xs hl;rw [hl] at h2;simp only at h2;split at h2;rename_i he;subst he;injection h2 with h2;injection h2 with e1 e2;subst e1;subst e2;rw [dif_pos rfl] at hz;injection hz with hz;subst hz;obtain ⟨A,f1,f2,f3⟩:=Kq hm hS hl h3.1;refine ⟨[v],vs,A,rfl,f1,h3.2,rfl,f2,fun k hk=>by simp at hk;subst hk;exact ⟨_,_,hl⟩,fun w' SO SU x' u HZ eK hf hu ho vr=> ?_⟩;simp only [nS] at hu;injection hu with hu;injection hu with e1 e2;subst e1;subst e2;exact ⟨rfl,f3 w' SO SU x' eK hf ho vr,rfl⟩;cases h2;cases hz;cases h1
  rename_i r0;injection h2 with h2;injection h2 with e1 e2;subst e1;subst e2;cases vs with
  |nil=>exact h3.elim
  |cons v vs=>
   simp only [impl,c9,eE] at h1;injection h1 with h1;injection h1 with e1 e2;subst e1;subst e2;obtain ⟨a,ha⟩:=h3.1;subst ha;refine ⟨[.slice a 0 0],vs,[fun _=>none],rfl,.inl ⟨rfl,rfl,a,rfl⟩,h3.2,rfl,⟨[none],rfl,by simp,by simp⟩,by simp,fun w' SO SU x' u HZ eK hf hu ho vr=> ?_⟩;simp only [nS] at hu;injection hu with hu;injection hu with e1 e2;subst e1;subst e2;exact ⟨rfl,nT.nil,rfl⟩
  cases h2
 |own t ih=>
  intro l9 x r r' ks vs h1 h2 h3;simp only [dJ] at h2;split at h2;simp [impl,c9,eE] at h1;simp [impl,c9,eE] at h1;cases h2
 |bx t ih=>
  intro l9 x r r' ks vs h1 h2 h3;simp only [dJ] at h2;split at h2;rename_i c i sz off r0;cases vs with
  |nil=>exact h3.elim
  |cons v vs=>
   simp only [impl,c9] at h1;split at h1;rename_i z hz;injection h1 with h1;injection h1 with e1 e2;subst e1;subst e2;simp only [eE] at hz;split at hz;rename_i e' xs hl;rw [hl] at h2;simp only at h2;split at h2;rename_i he;subst he;injection h2 with h2;injection h2 with e1 e2;subst e1;subst e2;rw [dif_pos rfl] at hz;cases hb:(Nat.beq i 0&&(Nat.beq off 0&&Nat.beq sz e'.size)) with
   |false=>rw [hb] at hz;cases hz
   |true=>
    rw [hb] at hz;simp only [cond_true] at hz;injection hz with hz;subst hz;simp only [Bool.and_eq_true] at hb;have hi:=Nat.eq_of_beq_eq_true hb.1;have ho:=Nat.eq_of_beq_eq_true hb.2.1;subst hi;subst ho;obtain ⟨A,f1,f2,f3⟩:=NM hm hS hl h3.1;refine ⟨[v],vs,A,rfl,f1,h3.2,rfl,f2,fun k hk=>by simp at hk;subst hk;exact ⟨_,_,hl⟩,fun w' SO SU x' u HZ eK hf hu ho vr=> ?_⟩;simp only [nS] at hu;injection hu with hu;injection hu with e1 e2;subst e1;subst e2;exact ⟨rfl,f3 w' SO SU x' hf ho vr,rfl⟩
   cases h2;cases hz;cases h1
  cases h2
theorem oD {m:Mem}: ∀(t:Ty) (cs:List aA) {p:List Nat×List aA},dJ m t cs=some p→lp t cs=some p
 | .int _,_,_,h=>h
 | .aW _,_,_,h=>h
 | .bool,_,_,h=>h
 | .str,_,_,h=>h
 | .sl t,cs,p,h=>by
  simp only [dJ] at h;simp only [lp];split at h;split at h;split at h;exact h;cases h;cases h;exact h;cases h
 | .own t,cs,p,h=>by
  simp only [dJ] at h;simp only [lp];split at h;split at h;split at h;exact h;cases h;cases h;exact h;cases h
 | .bx t,cs,p,h=>by
  simp only [dJ] at h;simp only [lp];split at h;split at h;split at h;exact h;cases h;cases h;cases h
 | .st t,cs,p,h=>oD t cs h
 | .pair a b,cs,p,h=>by
  simp only [dJ] at h;simp only [lp];split at h;rename_i x r e1;rw [oD a cs e1];simp only;split at h;rename_i y r' e2;rw [oD b r e2];exact h;cases h;cases h
end
end Go.Ide
namespace Go.Ide
theorem dU: ∀(l:List Chunk) (n k:Nat),lk k (bI n l)=if n≤k then l[k - n]? else none
 |[],n,k=>by simp [bI,gE]
 |c::r,n,k=>by
  simp only [bI];rw [aL,dU r (n+1) k];by_cases h:k=n;subst h;simp;rw [if_neg h];by_cases hle:n≤k;rw [if_pos hle,if_pos (by omega),show k - n=(k - (n+1))+1 from by omega];simp;rw [if_neg hle,if_neg (by omega)]
theorem qD: ∀(l:List Chunk) (n:Nat),(bI n l).length=l.length
 |[],_=>rfl
 |_::r,n=>by simp [bI,qD r (n+1)]
structure Laid (g':GM)(m':Mem)(S':Nat→Prop)(w:World)(n:Nat)(ov:List Chunk)(DK:List (List Nat→Option Nat)):Prop where
 len:DK.length=ov.length
 chunk: ∀(j:Nat) (ch:Chunk),ov[j]? =some ch→ch≠ .gone∧ ∃o,DK[j]? =some o∧jf g' m' S' w o ch
theorem Laid.app {g':GM}{m':Mem}{S':Nat→Prop}{w:World}{n n':Nat}{c1 c2:List Chunk}{a1 a2:List (List Nat→Option Nat)}(h1:Laid g' m' S' w n c1 a1)(h2:Laid g' m' S' w n' c2 a2):
 Laid g' m' S' w n (c1++c2) (a1++a2):=by
 refine ⟨by simp [h1.len,h2.len],fun j ch hj=> ?_⟩;by_cases cp:j<c1.length;rw [List.getElem?_append_left cp] at hj;rw [List.getElem?_append_left (by rw [h1.len];exact cp)];exact h1.chunk j ch hj;rw [List.getElem?_append_right (by omega)] at hj;rw [List.getElem?_append_right (by rw [h1.len];omega),h1.len];exact h2.chunk _ ch hj
section
variable {S:Nat→Prop} {w:World}
theorem D6 {t:Ty}{cs:List Value}{xs:List t.D}{A:List (List Nat→Option Nat)}(n:Nat)(h:gw S w t cs xs A):
 ∀(g':GM) (m':Mem),(∀j ch,[Chunk.seq t xs][j]? =some ch→lk (n+j) m'=some ch)→(∀j o,A[j]? =some o→g'.f (n+j)=o)→
  bC (CR g' m' S w) [.all n] cs∧Laid g' m' S w n [.seq t xs] A:=by
 rcases h with ⟨eA,hx,a,e⟩|⟨v,γ,eA,e,b,cap,arr,h0,ev,h1,h2,h3,h4,h5,h6⟩
 subst eA;subst e;subst hx;intro g' m' hm hg;have hl:=hm 0 _ rfl;have mS:=hg 0 _ rfl;rw [Nat.add_zero] at hl mS;refine ⟨⟨⟨by rw [hl];simp,rfl,fun t' cK fb=> ?_⟩,trivial⟩,rfl,fun j ch hj=> ?_⟩;have:g' n=none:=congrFun mS [];have e:=dF.toSeq hl fb;rw [hl] at e;injection e with e;injection e with e1 e2;subst e1;have e2:=eq_of_heq e2;subst e2;rw [this];exact ⟨a,rfl⟩;have:j=0:=by
  have:=(List.getElem?_eq_some_iff.1 hj).1;simp at this;exact this
 subst this;simp at hj;subst hj;exact ⟨by simp,_,rfl,rfl⟩;subst eA;subst e;subst ev;intro g' m' hm hg;have hl:=hm 0 _ rfl;have mS:=hg 0 _ rfl;rw [Nat.add_zero] at hl mS;refine ⟨⟨⟨by rw [hl];simp,rfl,fun t' cK fb=> ?_⟩,trivial⟩,rfl,fun j ch hj=> ?_⟩;have e:=dF.toSeq hl fb;rw [hl] at e;injection e with e;injection e with e1 e2;subst e1;have e2:=eq_of_heq e2;subst e2;have:g' n=some b:=(congrFun mS []).trans h0;rw [this];exact ⟨cap,arr,rfl,h1,h3,h4,h5⟩;have:j=0:=by
  have:=(List.getElem?_eq_some_iff.1 hj).1;simp at this;exact this
 subst this;simp at hj;subst hj;refine ⟨by simp,γ,rfl,?_⟩;unfold jf;rw [h0];exact ⟨arr,h3,h6⟩
theorem Ks {t:Ty}{cs:List Value}{xs:List t.D}{A:List (List Nat→Option Nat)}(n:Nat)(h:Bm S w t cs xs A):
 ∀(g':GM) (m':Mem),(∀j ch,[Chunk.seq t xs][j]? =some ch→lk (n+j) m'=some ch)→(∀j o,A[j]? =some o→g'.f (n+j)=o)→
  bC (CR g' m' S w) [.dI n 0 t.size 0] cs∧Laid g' m' S w n [.seq t xs] A:=by
 obtain ⟨γ,b,arr,eA,e,h0,h3,h6⟩:=h;subst eA;subst e;intro g' m' hm hg;have hl:=hm 0 _ rfl;have mS:=hg 0 _ rfl;rw [Nat.add_zero] at hl mS;refine ⟨⟨⟨by rw [hl];simp,b,(congrFun mS []).trans h0,by simp⟩,trivial⟩,rfl,fun j ch hj=> ?_⟩;have:j=0:=by
  have:=(List.getElem?_eq_some_iff.1 hj).1;simp at this;exact this
 subst this;simp at hj;subst hj;refine ⟨by simp,γ,rfl,?_⟩;unfold jf;rw [h0];exact ⟨arr,h3,h6⟩
theorem fj: ∀(t:Ty) (x:t.D) (n:Nat),(cA t x n).2.length=t.Bn
 | .int _,_,_=>rfl
 | .aW _,_,_=>rfl
 | .bool,_,_=>rfl
 | .str,_,_=>rfl
 | .sl _,_,_=>rfl
 | .bx _,_,_=>rfl
 | .own _,_,_=>rfl
 | .st t,x,n=>fj t x n
 | .pair a b,x,n=>by simp only [cA,List.length_append,fj a,fj b];rfl
theorem ph: ∀(t:Ty) {cs:List Value} {x:t.D} {A:List (List Nat→Option Nat)} (n:Nat),du S w t cs x A→
 ∀(g':GM) (m':Mem),(∀j ch,(cA t x n).2[j]? =some ch→lk (n+j) m'=some ch)→(∀j o,A[j]? =some o→g'.f (n+j)=o)→
  bC (CR g' m' S w) (cA t x n).1 cs∧Laid g' m' S w n (cA t x n).2 A
 | .int _,_,_,_,n,⟨hF,h⟩=>by
  subst hF;subst h;exact fun g' m' _ _=>⟨⟨rfl,trivial⟩,rfl,fun j ch hj=>by simp [cA] at hj⟩
 | .aW _,_,_,_,n,⟨hF,b,e,h⟩=>by
  subst hF;subst e;exact fun g' m' _ _=>⟨⟨⟨b,rfl,h⟩,trivial⟩,rfl,fun j ch hj=>by simp [cA] at hj⟩
 | .bool,_,_,_,n,⟨hF,h⟩=>by
  subst hF;subst h;exact fun g' m' _ _=>⟨⟨rfl,trivial⟩,rfl,fun j ch hj=>by simp [cA] at hj⟩
 | .str,_,_,_,n,⟨hF,h⟩=>by
  subst hF;subst h;exact fun g' m' _ _=>⟨⟨rfl,trivial⟩,rfl,fun j ch hj=>by simp [cA] at hj⟩
 | .st t,_,_,_,n,h=>ph t (cs:=_) n h
 | .pair a b,_,x,_,n,⟨c1,c2,A1,A2,e1,e2,h1,h2⟩=>by
  subst e1;subst e2;intro g' m' hm hg;have l1:A1.length=(cA a x.1 n).2.length:=by rw [fj,du.tD a h1]
  obtain ⟨p1,q1⟩:=ph a n h1 g' m' (fun j ch hj=>hm j ch (by
   simp only [cA];rw [List.getElem?_append_left (List.getElem?_eq_some_iff.1 hj).1];exact hj)) (fun j o hj=>hg j o (by
   rw [List.getElem?_append_left (List.getElem?_eq_some_iff.1 hj).1];exact hj))
  obtain ⟨p2,q2⟩:=ph b (n+(cA a x.1 n).2.length) h2 g' m' (fun j ch hj=>by
   rw [Nat.add_assoc];refine hm _ ch ?_;simp only [cA];rw [List.getElem?_append_right (by omega)];simpa using hj) (fun j o hj=>by
   rw [Nat.add_assoc];refine hg _ o ?_;rw [List.getElem?_append_right (by omega),l1];simpa using hj)
  exact ⟨p1.append p2,q1.app q2⟩
 | .sl t,_,xs,_,n,h=>D6 n h
 | .bx t,_,xs,_,n,h=>Ks n h
 | .own t,_,xs,_,n,h=>D6 n h
theorem D7 {g':GM}{m':Mem}{t:Ty}{cs:List Value}{l9:List aA}{v:Value}(h:dT t cs v)(ha:bC (CR g' m' S w) l9 cs):CV g' m' S w t.ye l9 v:=by
 unfold dT at h;unfold CV;cases kF:t.ye with
 |true=>rw [kF] at h;simp at h;exact ⟨cs,h,ha⟩
 |false=>
  rw [kF] at h;simp at h;subst h;cases l9 with
  |nil=>exact ha.elim
  |cons c r=>
   cases r with
   |nil=>exact ha.1
   |cons=>exact ha.2.elim
theorem Bo: ∀{rs:List RV} {vs:List Value} {A:List (List Nat→Option Nat)} (n:Nat),nv S w rs vs A→A.length=(lz rs n).2.length∧
 ∀(g':GM) (m':Mem),(∀j ch,(lz rs n).2[j]? =some ch→lk (n+j) m'=some ch)→(∀j o,A[j]? =some o→g'.f (n+j)=o)→
  bC (fun (t:Bool×List aA) v=>CV g' m' S w t.1 t.2 v) (lz rs n).1 vs∧Laid g' m' S w n (lz rs n).2 A
 |[],[],A,n,h=>by
  have:A=[]:=h;subst this;exact ⟨rfl,fun _ _ _ _=>⟨trivial,rfl,fun j ch hj=>by simp [lz] at hj⟩⟩
 |r::rs,v::vs,A,n,⟨A1,A2,e,h1,h2⟩=>by
  subst e;have head: ∃p:List aA×List Chunk,p=(if r.fresh then cA r.t r.x n else (ib r.t r.x,[]))∧A1.length=p.2.length∧
   ∀(g':GM) (m':Mem),(∀j ch,p.2[j]? =some ch→lk (n+j) m'=some ch)→(∀j o,A1[j]? =some o→g'.f (n+j)=o)→CV g' m' S w r.t.ye p.1 v∧Laid g' m' S w n p.2 A1:=by
   unfold yD at h1;split at h1;rename_i hf;obtain ⟨cs,hv,ho⟩:=h1;refine ⟨cA r.t r.x n,by rw [if_pos hf],by rw [fj,du.tD _ ho],fun g' m' hm hg=> ?_⟩;obtain ⟨p1,q1⟩:=ph r.t n ho g' m' hm hg;exact ⟨D7 hv p1,q1⟩;rename_i hf;obtain ⟨hF,cs,hv,hr⟩:=h1;subst hF;refine ⟨(ib r.t r.x,[]),by rw [if_neg hf],rfl,fun g' m' hm hg=>⟨D7 hv (lq r.t hr),rfl,fun j ch hj=>by simp at hj⟩⟩
  obtain ⟨p,hp,l1,k1⟩:=head;obtain ⟨l2,k2⟩:=Bo (n+p.2.length) h2;have e2:(lz (r::rs) n).2=p.2++(lz rs (n+p.2.length)).2:=by rw [hp];rfl
  have e1:(lz (r::rs) n).1=(r.t.ye,p.1)::(lz rs (n+p.2.length)).1:=by rw [hp];rfl
  refine ⟨by rw [e2];simp [l1,l2],fun g' m' hm hg=> ?_⟩;rw [e2] at hm⊢;rw [e1];obtain ⟨p1,q1⟩:=k1 g' m' (fun j ch hj=>hm j ch (by
   rw [List.getElem?_append_left (List.getElem?_eq_some_iff.1 hj).1];exact hj)) (fun j o hj=>hg j o (by
   rw [List.getElem?_append_left (List.getElem?_eq_some_iff.1 hj).1];exact hj))
  obtain ⟨p2,q2⟩:=k2 g' m' (fun j ch hj=>by
   rw [Nat.add_assoc];refine hm _ ch ?_;rw [List.getElem?_append_right (by omega)];simpa using hj) (fun j o hj=>by
   rw [Nat.add_assoc];refine hg _ o ?_;rw [List.getElem?_append_right (by omega),l1];simpa using hj)
  exact ⟨⟨p1,p2⟩,q1.app q2⟩
 |[],_::_,_,_,h=>h.elim
 |_::_,[],_,_,h=>h.elim
theorem NN {g':GM}{m':Mem}{l:List (Bool×List aA)}{vs:List Value}{v:Value}(h:bC (fun (t:Bool×List aA) v=>CV g' m' S w t.1 t.2 v) l vs)(hv:HY vs v):VR g' m' S w (IT l) v:=by
 match l,vs with
 |[],[]=>exact ⟨[],hv,trivial⟩
 |[(true,cs)],[u]=>
  have hv:v=u:=hv;subst hv;exact h.1
 |[(false,[c])],[u]=>
  have hv:v=u:=hv;subst hv;exact h.1
 |[(false,[])],[u]=>exact h.1.elim
 |[(false,_::_::_)],[u]=>exact h.1.elim
 |(b1,c1)::t2::ts,u1::u2::us=>
  have e:IT ((b1,c1)::t2::ts)= .FE ((b1,c1)::t2::ts):=by
   cases b1<;>rcases c1 with _|⟨x,_|⟨y,ys⟩⟩<;>rfl
  rw [e];exact ⟨u1::u2::us,hv,h⟩
 |[],_::_=>exact h.elim
 |[_],[]=>exact h.elim
 |[_],_::_::_=>exact h.2.elim
 |_::_::_,[]=>exact h.elim
 |_::_::_,[_]=>exact h.2.elim
end
end Go.Ide
namespace Go.Ide
section
variable {g:GM} {m:Mem} {S S2:Nat→Prop} {w:World}
theorem pj (hm:kY g m S w)(hS: ∀b,S b→S2 b){mA mB m2:Mem}(hR:iZ g m m2 S2 w)(hA:mB=[]∨mB=m)(IU: ∀c cs b,lk c mB=some (.box cs)→g c=some b→S2 b):
 ∀{ms:List Mode} {vs:List aD} {vals:List Value} {as:List Arg} {ks:List Nat} {up:Mem} {outs:List TD},(mA=m∨jR ms=true)→
  dn mA mB m2 ms vs=some as→dK m ms vs=some ks→dQ ms vs outs=some up→bC (VR g m S w) vs vals→
  ∃Fs:List (List (List Nat→Option Nat)),qC S2 w as vals Fs∧j9 g m ks Fs.flatten∧
   (∀(w':World) (SO SU:Nat→Prop),(∀b arr,dc w b arr→ ∃aG,dc w' b aG∧aG.size=arr.size)→(ft ms=true∨jR ms=true∨ ∀b,SO b→SU b)→i4 SO w' as vals Fs outs→up.map Prod.fst=ks∧nT g m SU w' up)∧
   (∀b,vE b as Fs→ ∃k p t xs,g.f k p=some b∧lk k m=some (.seq t xs)∧(k,Chunk.gone)∈up)
 |[],[],vals,as,ks,up,outs,_,h1,h2,h3,h4=>by
  cases vals with
  |cons=>exact h4.elim
  |nil=>
   simp only [dn] at h1;injection h1 with h1;subst h1;simp only [dK] at h2;injection h2 with h2;subst h2;cases outs with
   |cons=>simp [dQ] at h3
   |nil=>
    simp only [dQ] at h3;injection h3 with h3;subst h3;exact ⟨[],trivial,j9.nil,fun _ _ _ _ _ _=>⟨rfl,fun p hp=>by simp at hp⟩,fun b hb=>by simp [vE] at hb⟩
 |md::ms,v::vs,[],as,ks,up,outs,_,h1,h2,h3,h4=>h4.elim
 |md::ms,v::vs,u::vals,as,ks,up,outs,DL,h1,h2,h3,h4=>by
  have other: ∀(Qq: ∀t,md≠ .own t) (F9: ∀t,md≠ .mv t),∃Fs:List (List (List Nat→Option Nat)),qC S2 w as (u::vals) Fs∧j9 g m ks Fs.flatten∧
   (∀(w':World) (SO SU:Nat→Prop),(∀b arr,dc w b arr→ ∃aG,dc w' b aG∧aG.size=arr.size)→(ft (md::ms)=true∨jR (md::ms)=true∨ ∀b,SO b→SU b)→i4 SO w' as (u::vals) Fs outs→up.map Prod.fst=ks∧nT g m SU w' up)∧
   (∀b,vE b as Fs→ ∃k p t xs,g.f k p=some b∧lk k m=some (.seq t xs)∧(k,Chunk.gone)∈up):=by
   intro Qq F9;have e1:dn mA mB m2 (md::ms) (v::vs)=(match ox mB m2 md v,dn mA mB m2 ms vs with|some a,some as=>some (a::as)|_,_=>none):=by
    cases md<;>first|rfl|exact absurd rfl (Qq _)|exact absurd rfl (F9 _)
   have e2:dK m (md::ms) (v::vs)=dK m ms vs:=by cases md<;>first|rfl|exact absurd rfl (Qq _)|exact absurd rfl (F9 _)
   have e3:dQ (md::ms) (v::vs) outs=dQ ms vs outs:=by cases md<;>first|rfl|exact absurd rfl (Qq _)|exact absurd rfl (F9 _)
   have e4:ft (md::ms)=ft ms:=by cases md<;>first|rfl|exact absurd rfl (Qq _)|exact absurd rfl (F9 _)
   have e5:jR (md::ms)=jR ms:=by cases md<;>first|rfl|exact absurd rfl (Qq _)|exact absurd rfl (F9 _)
   rw [e1] at h1;rw [e2] at h2;rw [e3] at h3;split at h1;rename_i a To ha has;injection h1 with h1;subst h1;obtain ⟨Fs,k1,k2,k5,k6⟩:=pj hm hS hR hA IU (by rw [←e5];exact DL) has h2 h3 h4.2;have NO:IS S2 w a u []∧(∀t x,a≠ .own t x)∧(∀t x,a≠ .mv t x):=by
    have hv:=h4.1;have an: ∀t,md= .an t→IS S2 w a u []∧(∀t x,a≠ .own t x)∧(∀t x,a≠ .mv t x):=by
     intro t e;subst e;have ha:iH m2 (.an t) v=some a:=ha;simp only [iH] at ha;split at ha;rename_i x hx;injection ha with ha;subst ha;obtain ⟨cs,q1,q2⟩:=pb hS hR hx hv;exact ⟨⟨rfl,cs,q1,q2⟩,(fun _ _ e=>by cases e),fun _ _ e=>by cases e⟩;cases ha
    have ipc: ∀t t' x off,iH m2 (.jk t) (.one (.ip t' x off))=some a→VR g m S w (.one (.ip t' x off)) u→IS S2 w a u []∧(∀t x,a≠ .own t x)∧(∀t x,a≠ .mv t x):=by
     intro t t' x off ha hv;simp only [iH] at ha;split at ha;rename_i y hy;injection ha with ha;subst ha;obtain ⟨ad,es,e,hs,bA,cN⟩:=hv;have bF:bC (CR g m S w) (ib t' x) es:=lq t' cN;obtain ⟨v1,v2,e2,r1,r2⟩:=jm hS hR t hy ((bF.drop off).take t.size);have:v2=[]:=by cases v2 with|nil=>rfl|cons=>exact r2.elim
     subst this;refine ⟨⟨rfl,ad.add off,v1,e,by rw [gV];exact hS _ hs,fun j q hq=> ?_,r1⟩,(fun _ _ e=>by cases e),fun _ _ e=>by cases e⟩;rw [add_add];rw [List.append_nil] at e2;rw [←e2,List.getElem?_take] at hq;split at hq;exact bA _ q (by simpa using hq);cases hq;cases ha
    cases md with
    |own t=>exact absurd rfl (Qq t)
    |mv t=>exact absurd rfl (F9 t)
    |nl=>
     cases v with
     |one c=>
      cases c with
      |al=>
       simp only [ox,iH] at ha;injection ha with ha;subst ha;exact ⟨⟨rfl,hv⟩,(fun _ _ e=>by cases e),fun _ _ e=>by cases e⟩
      |_=>simp [ox,iH] at ha
     |_=>simp [ox,iH] at ha
    |an t=>exact an t rfl
    |fn=>
     cases v with
     |one c=>
      cases c with
      |fn f=>
       simp only [ox,iH] at ha;injection ha with ha;subst ha;exact ⟨⟨rfl,hv⟩,(fun _ _ e=>by cases e),fun _ _ e=>by cases e⟩
      |_=>simp [ox,iH] at ha
     |_=>simp [ox,iH] at ha
    |nr t=>
     cases v with
     |one c=>
      cases c with
      |nr f t' x=>
       simp only [ox,iH] at ha;split at ha;rename_i e;subst e;injection ha with ha;subst ha;obtain ⟨ad,es,e,hs,bA,cN⟩:=hv;exact ⟨⟨rfl,ad,es,e,hS _ hs,bA,bO.keep (fun b hb=>⟨hS b hb,rfl⟩) _ es x cN⟩,(fun _ _ e=>by cases e),fun _ _ e=>by cases e⟩;cases ha
      |_=>simp [ox,iH] at ha
     |_=>simp [ox,iH] at ha
    |jk t=>
     cases v with
     |one c=>
      cases c with
      |ip t' x off=>exact ipc t t' x off ha hv
      |ptr c off=>
       simp only [ox] at ha;split at ha;rename_i cs hl;split at ha;rename_i y hy;injection ha with ha;subst ha;obtain ⟨_,b,hg,e⟩:=hv;have TK:lk c m=some (.box cs):=by
        rcases hA with hA|hA
        rw [hA] at hl;simp [gE] at hl;rw [←hA];exact hl
       obtain ⟨b',arr,jl,de,bF⟩:=hm c _ TK;rw [show g.f c []=some b from hg] at jl;injection jl with jl;subst jl;obtain ⟨v1,v2,e2,r1,r2⟩:=jm hS hR t hy ((bF.drop off).take t.size);have:v2=[]:=by cases v2 with|nil=>rfl|cons=>exact r2.elim
       subst this;refine ⟨⟨rfl,⟨b,off,none⟩,v1,e,IU c cs b hl hg,fun j q hq=> ?_,r1⟩,(fun _ _ e=>by cases e),fun _ _ e=>by cases e⟩;rw [bP,de.cell];rw [List.append_nil] at e2;rw [←e2,List.getElem?_take] at hq;split at hq;simpa using hq;cases hq;cases ha;cases ha
      |_=>simp [ox,iH] at ha
     |_=>simp [ox,iH] at ha
   refine ⟨[]::Fs,⟨NO.1,k1⟩,by simpa using k2,fun w' SO SU eK hf ho=> ?_,fun b hb=> ?_⟩;refine k5 w' SO SU eK (by rw [e4,e5] at hf;exact hf) ?_;cases a with
   |own t x=>exact absurd rfl (NO.2.1 t x)
   |mv t x=>exact absurd rfl (NO.2.2 t x)
   |an t x=>exact ho
   |jk t x=>exact ho
   |fn f=>exact ho
   |nr f t x=>exact ho
   |nl=>exact ho
   refine k6 b ?_;cases a with
   |mv t x=>exact absurd rfl (NO.2.2 t x)
   |_=>exact hb
   cases h1
  cases md with
  |an t=>exact other (fun _ e=>by cases e) (fun _ e=>by cases e)
  |jk t=>exact other (fun _ e=>by cases e) (fun _ e=>by cases e)
  |fn=>exact other (fun _ e=>by cases e) (fun _ e=>by cases e)
  |nr t=>exact other (fun _ e=>by cases e) (fun _ e=>by cases e)
  |nl=>exact other (fun _ e=>by cases e) (fun _ e=>by cases e)
  |mv t=>
   have TL:mA=m:=by
    rcases DL with DL|DL
    exact DL;cases DL
   simp only [dn] at h1;split at h1;rename_i a To ha has;injection h1 with h1;subst h1;simp only [iH] at ha;split at ha;rename_i x hx;rw [TL] at hx;injection ha with ha;subst ha;simp only [dK] at h2;split at h2;rename_i S5 Ps DM fi;injection h2 with h2;subst h2;simp only [dQ] at h3;split at h3;rename_i abS u2 tb TM;rw [oD t _ DM] at tb;injection tb with tb;injection tb with tb _;subst tb;injection h3 with h3;subst h3;obtain ⟨Fs,k1,k2,k5,k6⟩:=pj hm hS hR hA IU (.inl TL) has fi TM h4.2;have mT: ∃vcs,dT t vcs u∧bC (CR g m S w) v.cells vcs∧impl m t v.cells=some (x,[]):=by
    have hv:=h4.1;unfold lZ at hx;split at hx;rename_i c kF;split at hx;rename_i y hy;injection hx with hx;subst hx;exact ⟨[u],by simp [dT,kF],⟨hv,trivial⟩,hy⟩;cases hx;rename_i cs kF;split at hx;rename_i y hy;injection hx with hx;subst hx;obtain ⟨S6,e,kG⟩:=hv;exact ⟨S6,by simp [dT,kF,e],kG,hy⟩;cases hx;cases hx
   obtain ⟨vcs,hval,bF,himp⟩:=mT;obtain ⟨v1,v2,F1,e1,o1,a1,q1,s1,p1,n1⟩:=Cl hm hS t himp DM bF;have:v2=[]:=by cases v2 with|nil=>rfl|cons=>exact a1.elim
   subst this;rw [List.append_nil] at e1;subst e1;have AI:=p1;refine ⟨F1::Fs,⟨⟨vcs,hval,o1⟩,k1⟩,by simpa using s1.app k2,fun w' SO SU eK hf ho=> ?_,fun b hb=> ?_⟩;have hf:ft ms=true∨jR ms=true∨ ∀b,SO b→SU b:=by
    rcases hf with hf|hf|hf
    exact .inl hf;cases hf;exact .inr (.inr hf)
   obtain ⟨g3,g4⟩:=k5 w' SO SU eK hf ho;refine ⟨by simp [g3,List.map_map,Function.comp_def],fun p hp=> ?_⟩;rcases List.mem_append.1 hp with hp|hp
   obtain ⟨k,hk,rfl⟩:=List.mem_map.1 hp;obtain ⟨t',cK,fb⟩:=AI k hk;exact ⟨t',cK,fb,.inl rfl⟩;exact g4 p hp;rcases hb with ⟨γ,hγ,p,hp⟩|hb
   obtain ⟨k,hk,p,t',cK,q1,q2⟩:=s1.dc hγ hp;exact ⟨k,p,t',cK,q1,q2,List.mem_append.2 (.inl (List.mem_map.2 ⟨k,hk,rfl⟩))⟩;obtain ⟨k,p,t',cK,q1,q2,q3⟩:=k6 b hb;exact ⟨k,p,t',cK,q1,q2,List.mem_append.2 (.inr q3)⟩;cases h3;cases h2;cases ha;cases h1
  |own t=>
   have TL:mA=m:=by
    rcases DL with DL|DL
    exact DL;cases DL
   simp only [dn] at h1;split at h1;rename_i a To ha has;injection h1 with h1;subst h1;simp only [iH] at ha;split at ha;rename_i x hx;rw [TL] at hx;injection ha with ha;subst ha;simp only [dK] at h2;split at h2;rename_i S5 Ps DM fi;injection h2 with h2;subst h2;cases outs with
   |nil=>simp [dQ] at h3
   |cons o outs=>
    simp only [dQ] at h3;split at h3;rename_i ht;split at h3;rename_i u1 u2 Xc TM;injection h3 with h3;subst h3;obtain ⟨Fs,k1,k2,k5,k6⟩:=pj hm hS hR hA IU (.inl TL) has fi TM h4.2;have mT: ∃vcs,dT t vcs u∧bC (CR g m S w) v.cells vcs∧impl m t v.cells=some (x,[]):=by
     have hv:=h4.1;unfold lZ at hx;split at hx;rename_i c kF;split at hx;rename_i y hy;injection hx with hx;subst hx;exact ⟨[u],by simp [dT,kF],⟨hv,trivial⟩,hy⟩;cases hx;rename_i cs kF;split at hx;rename_i y hy;injection hx with hx;subst hx;obtain ⟨S6,e,kG⟩:=hv;exact ⟨S6,by simp [dT,kF,e],kG,hy⟩;cases hx;cases hx
    obtain ⟨vcs,hval,bF,himp⟩:=mT;obtain ⟨v1,v2,F1,e1,o1,a1,q1,s1,p1,n1⟩:=Cl hm hS t himp DM bF;have:v2=[]:=by cases v2 with|nil=>rfl|cons=>exact a1.elim
    subst this;rw [List.append_nil] at e1;subst e1;refine ⟨F1::Fs,⟨⟨vcs,hval,o1⟩,k1⟩,by simpa using s1.app k2,fun w' SO SU eK hf ho=> ?_,fun b hb=> ?_⟩;have hf:(t.kW=true∨ ∀b,SO b→SU b)∧(ft ms=true∨jR ms=true∨ ∀b,SO b→SU b):=by
     rcases hf with hf|hf|hf
     have hf:t.kW=true∧ft ms=true:=by simpa [ft] using hf
     exact ⟨.inl hf.1,.inl hf.2⟩;cases hf;exact ⟨.inr hf,.inr (.inr hf)⟩
    obtain ⟨⟨Xd,nU,Bp,Xe,Xf⟩,vx⟩:=ho;have Nm:nU=vcs:=by
     unfold dT at hval Bp;split at hval;rename_i kF;rw [if_pos kF] at Bp;rw [hval] at Bp;simpa using Bp.symm;rename_i kF;rw [if_neg kF] at Bp;rw [hval,Bp]
    subst Nm;obtain ⟨g1,g2,_⟩:=n1 w' SO SU _ _ _ eK hf.1 Xc Xe Xf;obtain ⟨g3,g4⟩:=k5 w' SO SU eK hf.2 vx;refine ⟨by simp [g1,g3],fun p hp=> ?_⟩;rcases List.mem_append.1 hp with hp|hp
    exact g2 p hp;exact g4 p hp;obtain ⟨k,p,t',cK,q1,q2,q3⟩:=k6 b hb;exact ⟨k,p,t',cK,q1,q2,List.mem_append.2 (.inr q3)⟩;cases h3;cases h3
   cases h2;cases ha;cases h1
 |[],_::_,_,_,_,_,_,_,h1,_,_,_=>by simp [dn] at h1
 |md::_,[],_,_,_,_,_,_,h1,_,_,_=>by cases md<;>simp [dn] at h1
end
end Go.Ide
namespace Go.Ide
theorem na.mono {g:GM}{m:Mem}{S S':Nat→Prop}{w:World}(h: ∀b,S b→S' b):na g g m m S S' w w:=
 ⟨⟨fun b hb=>⟨h b hb,rfl⟩,fun _ hc=>⟨hc,rfl⟩,fun _ _ xs _ hl=>⟨xs,hl,rfl⟩,fun _ _ _ _ arr _ _ _ hb=>⟨arr,hb,rfl⟩⟩,fun _ _=>rfl,
  fun _ _ xs _ hl=>⟨xs,hl,cy.refl _ _,fun _ _ _ arr _ hb=>⟨arr,hb,rfl⟩⟩⟩
section
variable {S S':Nat→Prop} {w w':World}
theorem gw.mono (h: ∀b,S b→S' b){t:Ty}{cs:List Value}{xs:List t.D}{A:List (List Nat→Option Nat)}(hr:gw S w t cs xs A):gw S' w t cs xs A:=by
 rcases hr with hr|⟨v,γ,eA,e,b,cap,arr,k1,k2,k3,k4,k5,k6,k7,k8⟩
 exact .inl hr;exact .inr ⟨v,γ,eA,e,b,cap,arr,k1,k2,k3,k4,k5,k6,k7,k8.keep (fun b hb=>⟨h b hb,rfl⟩) fun _ _ _=>rfl⟩
theorem du.mono (h: ∀b,S b→S' b): ∀(t:Ty) {cs:List Value} {x:t.D} {A:List (List Nat→Option Nat)},du S w t cs x A→du S' w t cs x A
 | .int _,_,_,_,hr=>hr
 | .aW _,_,_,_,hr=>hr
 | .bool,_,_,_,hr=>hr
 | .str,_,_,_,hr=>hr
 | .pair a b,_,_,_,⟨c1,c2,F1,F2,e1,e2,h1,h2⟩=>⟨c1,c2,F1,F2,e1,e2,du.mono h a h1,du.mono h b h2⟩
 | .st t,_,_,_,hr=>du.mono h t (cs:=_) hr
 | .sl t,_,_,_,hr=>gw.mono h hr
 | .bx t,_,_,_,⟨γ,b,arr,eA,e,h0,h1,h2⟩=>⟨γ,b,arr,eA,e,h0,h1,h2.keep (fun b hb=>⟨h b hb,rfl⟩) fun _ _ _=>rfl⟩
 | .own t,_,_,_,hr=>gw.mono h hr
theorem gw.flat {t:Ty}(hf:t.iY=true){cs:List Value}{xs:List t.D}{A:List (List Nat→Option Nat)}(hr:gw S w t cs xs A):gw S' w t cs xs A:=by
 rcases hr with hr|⟨v,γ,eA,e,b,cap,arr,k1,k2,k3,k4,k5,k6,k7,k8⟩
 exact .inl hr;exact .inr ⟨v,γ,eA,e,b,cap,arr,k1,k2,k3,k4,k5,k6,k7,k8.iY hf⟩
theorem du.kW: ∀(t:Ty) {cs:List Value} {x:t.D} {A:List (List Nat→Option Nat)},t.kW=true→du S w t cs x A→du S' w t cs x A
 | .int _,_,_,_,_,hr=>hr
 | .aW _,_,_,_,_,hr=>hr
 | .bool,_,_,_,_,hr=>hr
 | .str,_,_,_,_,hr=>hr
 | .pair a b,_,_,_,hf,⟨c1,c2,F1,F2,e1,e2,h1,h2⟩=>by
  simp only [Ty.kW,Bool.and_eq_true] at hf;exact ⟨c1,c2,F1,F2,e1,e2,du.kW a hf.1 h1,du.kW b hf.2 h2⟩
 | .st t,_,_,_,hf,hr=>du.kW t (cs:=_) hf hr
 | .sl t,_,_,_,hf,hr=>gw.flat hf hr
 | .bx t,_,_,_,hf,⟨γ,b,arr,eA,e,h0,h1,h2⟩=>⟨γ,b,arr,eA,e,h0,h1,h2.iY hf⟩
 | .own t,_,_,_,hf,hr=>gw.flat hf hr
theorem nv.mono (h: ∀b,S b→S' b): ∀{rs:List RV} {vs:List Value} {A:List (List Nat→Option Nat)},nv S w rs vs A→nv S' w rs vs A
 |[],[],_,hr=>hr
 |r::rs,v::vs,_,⟨F1,F2,e,h1,h2⟩=>by
  refine ⟨F1,F2,e,?_,nv.mono h h2⟩;unfold yD at h1⊢;split at h1;rename_i hf;rw [if_pos hf];obtain ⟨cs,k1,k2⟩:=h1;exact ⟨cs,k1,du.mono h _ k2⟩;rename_i hf;rw [if_neg hf];obtain ⟨k0,cs,k1,k2⟩:=h1;exact ⟨k0,cs,k1,bO.keep (fun b hb=>⟨h b hb,rfl⟩) _ _ _ k2⟩
 |[],_::_,_,hr=>hr.elim
 |_::_,[],_,hr=>hr.elim
theorem nv.alone: ∀{rs:List RV} {vs:List Value} {A:List (List Nat→Option Nat)},rs.all RV.uj=true→nv S w rs vs A→nv S' w rs vs A
 |[],[],_,_,hr=>hr
 |r::rs,v::vs,_,ho,⟨F1,F2,e,h1,h2⟩=>by
  simp only [List.all_cons,Bool.and_eq_true] at ho;refine ⟨F1,F2,e,?_,nv.alone ho.2 h2⟩;have TN:=ho.1;unfold RV.uj at TN;unfold yD at h1⊢;split at h1;rename_i hf;rw [if_pos hf] at TN⊢;obtain ⟨cs,k1,k2⟩:=h1;exact ⟨cs,k1,du.kW _ TN k2⟩;rename_i hf;rw [if_neg hf] at TN⊢;obtain ⟨k0,cs,k1,k2⟩:=h1;exact ⟨k0,cs,k1,bO.flat _ TN k2⟩
 |[],_::_,_,_,hr=>hr.elim
 |_::_,[],_,_,hr=>hr.elim
end
theorem kJ {α:Type}: ∀{l:List (Nat×α)} {k:Nat} {v:α},lk k l=some v→(k,v)∈l
 |[],_,_,h=>by simp [gE] at h
 |(k',v')::l,k,v,h=>by
  rw [aL] at h;split at h;rename_i e;subst e;injection h with h;subst h;simp
  exact List.mem_cons_of_mem _ (kJ h)
theorem yF {α:Type}: ∀{l:List (Nat×α)} {k:Nat} {v:α},(l.map Prod.fst).Nodup→(k,v)∈l→lk k l=some v
 |[],_,_,_,h=>by simp at h
 |(k',v')::l,k,v,hn,h=>by
  simp only [List.map_cons,List.nodup_cons] at hn;rw [aL];rcases List.mem_cons.1 h with h|h
  injection h with h1 h2;rw [if_pos h1,h2];have:k≠k':=fun e=>hn.1 (by rw [←e];exact List.mem_map.2 ⟨(k,v),h,rfl⟩);rw [if_neg this];exact yF hn.2 h
theorem H0 {α:Type}: ∀{l:List (Nat×α)} {k:Nat},lk k l=none→k ∉ l.map Prod.fst
 |[],_,_=>by simp
 |(k',v')::l,k,h=>by
  rw [aL] at h;split at h;cases h;rename_i e;simp only [List.map_cons,List.mem_cons,not_or];exact ⟨e,H0 h⟩
theorem jn: ∀{l:List Nat},l7 l=true→l.Nodup
 |[],_=>by simp
 |a::l,h=>by
  simp only [l7,Bool.and_eq_true,List.all_eq_true,Bool.not_eq_true'] at h;refine List.nodup_cons.2 ⟨fun hm=> ?_,jn h.2⟩;have:=h.1 a hm;rw [show Nat.beq a a=true from Nat.beq_refl a] at this;cases this
section
variable {cx:Cx} {g:GM} {st:St} {a:Act} {w w':World}
theorem pY.at {A:List (List Nat→Option Nat)}(h:pY A){i j:Nat}{γ γ':List Nat→Option Nat}{p q:List Nat}{b:Nat}(hi:A[i]? =some γ)(hj:A[j]? =some γ')(hp:γ p=some b)(hq:γ' q=some b):i=j∧p=q:=by
 have cp: ∀(i j:Nat) (γ γ':List Nat→Option Nat) (p q:List Nat),A[i]? =some γ→A[j]? =some γ'→γ p=some b→γ' q=some b→ ¬i<j:=fun i j γ γ' p q hi hj hp hq hl=>by
  obtain ⟨TO,e1⟩:=List.getElem?_eq_some_iff.1 hi;obtain ⟨S7,e2⟩:=List.getElem?_eq_some_iff.1 hj;exact List.pairwise_iff_getElem.1 h.1 i j TO S7 hl p q b (by rw [e1];exact hp) (by rw [e2];exact hq)
 have e:i=j:=by
  rcases Nat.lt_trichotomy i j with hl|e|hl
  exact absurd hl (cp i j γ γ' p q hi hj hp hq);exact e;exact absurd hl (cp j i γ' γ q p hj hi hq hp)
 subst e;rw [hi] at hj;injection hj with hj;subst hj;exact ⟨rfl,h.2 γ (List.mem_of_getElem? hi) p q b hp hq⟩
theorem oZ.call {rs:List RV}{up:Mem}{ks F':List Nat}{M:Nat→Prop}{F:List Nat}{DK:List (List Nat→Option Nat)}{vs:List Value}{v:Value}{e:cf}{SX:Nat→Prop}(h:cX cx g st a w)(hw:fE st.mem e.new)(he:e=⟨IT (lz rs st.nx).1,bI st.nx (lz rs st.nx).2,up,e.cond⟩)(hk:bJ F w w')(hF: ∀b,b∈F→ ∃k,k∈ks∧ ∃p t xs,g.f k p=some b∧lk k st.mem=some (.seq t xs))(ot:up.map Prod.fst=ks)(hu:nT g st.mem SX w' up)(jV:yC DK F')(hn:pY DK)(mV: ∀b,b∈F'→(w.heap.size≤b∨M b)∧b<w'.heap.size)(hM: ∀b,M b→b∈F∧ ∃k p t xs,g.f k p=some b∧lk k st.mem=some (.seq t xs)∧lk k up=some .gone)(hSX: ∀b,SX b→b<w'.heap.size∧(b<cx.w0.heap.size→cx.S b)∧ ¬Live g st.mem b∧b ∉ F')(hr:nv SX w' rs vs DK)(hv:HY vs v):oZ cx st a e v w':=by
 obtain ⟨my,TP⟩:=Bo st.nx hr;let ov:=(lz rs st.nx).2;let g':GM:=⟨fun k=>if st.nx≤k then (match DK[k - st.nx]? with|some o=>o|none=>g.f k) else g.f k⟩;have uA: ∀j,j<ov.length→lk (st.nx+j) st.mem=none:=fun j hj=>by
  have FG:(st.nx+j,ov[j])∈e.new:=by
   rw [he];exact kJ (by rw [dU,if_pos (by omega),show st.nx+j - st.nx=j from by omega];exact List.getElem?_eq_getElem hj)
  exact hw _ FG
 let m':Mem:=up++bI st.nx ov++st.mem;have hold: ∀k,lk k st.mem≠none→st.nx≤k→ov.length≤k - st.nx:=fun k jg hle=>by
  rcases Nat.lt_or_ge (k - st.nx) ov.length with cp|qU
  exact absurd (by have:=uA _ cp;rwa [show st.nx+(k - st.nx)=k from by omega] at this) jg;exact qU
 have pZ: ∀k,lk k st.mem≠none→g'.f k=g.f k:=fun k jg=>by
  show (if st.nx≤k then _ else _)=_;by_cases hle:st.nx≤k;rw [if_pos hle,List.getElem?_eq_none (by rw [my];exact hold k jg hle)];rw [if_neg hle]
 have nW: ∀j o,DK[j]? =some o→g'.f (st.nx+j)=o:=fun j o hj=>by
  show (if st.nx≤st.nx+j then _ else _)=_;rw [if_pos (by omega),show st.nx+j - st.nx=j from by omega,hj]
 have Ga: ∀k ch,lk k up=some ch→ ∃t xs,lk k st.mem=some (.seq t xs):=fun k ch hk=>by
  obtain ⟨t,xs,h1,_⟩:=hu _ (kJ hk);exact ⟨t,xs,h1⟩
 have Cm: ∀j ch,ov[j]? =some ch→lk (st.nx+j) m'=some ch:=fun j ch hj=>by
  show lk _ (up++bI st.nx ov++st.mem)=_;have h1:lk (st.nx+j) up=none:=by
   cases hx:lk (st.nx+j) up with
   |none=>rfl
   |some c0=>
    obtain ⟨t,xs,h1⟩:=Ga _ _ hx;rw [uA j (List.getElem?_eq_some_iff.1 hj).1] at h1;cases h1
  rw [bN,bN,h1,dU,if_pos (by omega),show st.nx+j - st.nx=j from by omega,hj];rfl
 have vG: ∀k ch,lk k st.mem=some ch→lk k up=none→lk k m'=some ch:=fun k ch hk Kk=>by
  show lk _ (up++bI st.nx ov++st.mem)=_;have Xg:lk k (bI st.nx ov)=none:=by
   rw [dU];by_cases hle:st.nx≤k;rw [if_pos hle];exact List.getElem?_eq_none (hold k (by rw [hk];simp) hle);rw [if_neg hle]
  rw [bN,bN,Kk,Xg,hk];rfl
 have vH: ∀k ch,lk k m'=some ch→lk k st.mem=none→ ∃j,k=st.nx+j∧ov[j]? =some ch:=fun k ch hk uw=>by
  have hk:lk k (up++bI st.nx ov++st.mem)=some ch:=hk;have Kk:lk k up=none:=by
   cases hx:lk k up with
   |none=>rfl
   |some c0=>
    obtain ⟨t,xs,h1⟩:=Ga _ _ hx;rw [h1] at uw;cases uw
  rw [bN,bN,Kk,dU,uw] at hk;by_cases hle:st.nx≤k;rw [if_pos hle] at hk;refine ⟨k - st.nx,by omega,?_⟩;cases hx:ov[k - st.nx]? with
  |none=>rw [hx] at hk;simp at hk
  |some c0=>rw [hx] at hk;simpa using hk
  rw [if_neg hle] at hk;simp at hk
 obtain ⟨Kg,yG⟩:=TP g' m' Cm nW;have Kt: ∀(j:Nat) (γ:List Nat→Option Nat) (p:List Nat) (b:Nat),DK[j]? =some γ→γ p=some b→b∈F':=fun j γ p b hj hp=>(jV b).2 ⟨γ,List.mem_of_getElem? hj,p,hp⟩;have Pu: ∀k p ch,lk k m'=some ch→ch.owns p→(∃c0,lk k st.mem=some c0∧c0.owns p)∨(lk k st.mem=none∧ ∃j o,k=st.nx+j∧DK[j]? =some o):=fun k p ch hk hn=>by
  cases ho:lk k st.mem with
  |none=>
   obtain ⟨j,e,hj⟩:=vH k ch hk ho;obtain ⟨_,o,vx,_⟩:=yG.chunk j ch hj;exact .inr ⟨rfl,j,o,e,vx⟩
  |some c0=>
   left;refine ⟨c0,rfl,?_⟩;cases hx:lk k up with
   |none=>rw [vG k c0 ho hx] at hk;injection hk with hk;rw [hk];exact hn
   |some c1=>
    obtain ⟨t,xs,h1⟩:=Ga _ _ hx;rw [h1] at ho;injection ho with ho;rw [←ho];trivial
 have di: ∀b,SX b→cx.safe g' m' w' b:=fun b hb=>by
  obtain ⟨h1,h2,h3,h4⟩:=hSX b hb;refine ⟨h1,h2,?_⟩;rintro ⟨k,p,ch,gM,xj,jl⟩;rcases Pu k p ch gM xj with ⟨c0,ho,DI⟩|⟨_,j,o,e,hj⟩
  exact h3 ⟨k,p,c0,ho,DI,by rw [←pZ k (by rw [ho];simp)];exact jl⟩;subst e;rw [nW j o hj] at jl;exact h4 (Kt j o p b hj jl)
 have t:AE cx g g' st.mem m' w w' F:=by
  refine ⟨hk,fun b hb=> ?_,pZ,fun k ch ho=> ?_,fun k ch ho gM=> ?_⟩;obtain ⟨k,_,p,t,xs,h1,h2⟩:=hF b hb;exact ⟨k,p,_,h2,trivial,h1⟩;cases hx:lk k up with
  |none=>
   refine .inl ⟨vG k ch ho hx,fun p b hn H2 H3=> ?_⟩;obtain ⟨k',gM,p',t,xs,h1,h2⟩:=hF b H3;have:=(h.jU k k' p p' ch _ b ho hn h2 trivial H2 h1).1;subst this;rw [←ot] at gM;exact H0 hx gM
  |some c1=>
   obtain ⟨t,xs,h1,h2⟩:=hu _ (kJ hx);simp only at h1 h2;rw [ho] at h1;injection h1 with h1;subst h1;rcases h2 with h2|⟨cK,h2,h3,h4⟩
   subst h2;refine .inr (.inl ?_);show lk _ (up++bI st.nx ov++st.mem)=_;rw [bN,bN,hx];rfl;subst h2;refine .inr (.inr ⟨by simp,.seq t cK,?_,by simp,fun _ _=>trivial,fun t0 Qr e=> ?_,fun t0 Qr e=> ?_,fun p b arr _ _ hb=>hk.sz b arr hb,?_⟩);show lk _ (up++bI st.nx ov++st.mem)=_;rw [bN,bN,hx];rfl;obtain ⟨e1,e2⟩:=si e;subst e1;subst e2;exact ⟨xs,.inl rfl,h3.1⟩;injection e with e1 e2;subst e1;have e2:=eq_of_heq e2;subst e2;exact ⟨xs,rfl,h3⟩;rw [pZ k (by rw [ho];simp)];unfold jf;cases pN:g.f k [] with
   |none=>rw [pN] at h4;exact h4
   |some b=>
    rw [pN] at h4;obtain ⟨arr,k1,k2⟩:=h4;exact ⟨arr,k1,k2.keep (fun b hb=>⟨di b hb,rfl⟩) fun _ _ _=>rfl⟩
  obtain ⟨j,e,hj⟩:=vH k ch gM ho;subst e;obtain ⟨hng,o,NP,cH⟩:=yG.chunk j ch hj;refine ⟨?_,fun p b _ H2=> ?_⟩;rw [nW j o NP];exact jf.stays (na.mono di) (fun _ _ _ _=>rfl) cH;rw [nW j o NP] at H2;have H3:=Kt j o p b NP H2;have yH:(w.heap.size≤b∨b∈F)∧ ∀k' p' c0 ji,lk k' st.mem=some c0→c0.owns p'→g.f k' p'=some b→lk k' m'=some ji→ji≠ .gone→False:=by
   rcases (mV b H3).1 with qU|hMb
   exact ⟨.inl qU,fun k' p' c0 ji DN DI wI _ _=>by have:=h.lt k' p' c0 b DN DI wI;omega⟩;obtain ⟨Xh,km,pm,tm,xm,q1,q2,q3⟩:=hM b hMb;refine ⟨.inr Xh,fun k' p' c0 ji DN DI wI fi qI=> ?_⟩;have:=(h.jU k' km p' pm c0 _ b DN DI q2 trivial wI q1).1;subst this;have fi:lk k' (up++bI st.nx ov++st.mem)=some ji:=fi;rw [bN,bN,q3] at fi;have fi:some Chunk.gone=some ji:=fi;injection fi with fi;exact qI fi.symm
  refine ⟨yH.1,(mV b H3).2,fun k' p' ji fi qI wI=> ?_⟩;rcases Pu k' p' ji fi qI with ⟨c0,DN,DI⟩|⟨_,j2,o2,e2,Ko⟩
  exact (yH.2 k' p' c0 ji DN DI (by rw [←pZ k' (by rw [DN];simp)];exact wI) fi (Chunk.HH qI)).elim;subst e2;rw [nW j2 o2 Ko] at wI;obtain ⟨e1,e2⟩:=hn.at Ko NP wI H2;exact ⟨by rw [e1],e2⟩
 have hs:=h.AF (nx':=st.nx+(bI st.nx ov).length) t;refine ⟨g',?_,?_⟩;rw [he];exact hs;rw [he];exact VR.stays (na.mono di) (NN Kg hv)
theorem wM {ms:List Mode}{rs:List RV}{outs:List TD}{f:FuncId}{vs:List aD}{vals:List Value}{e:cf}(h:cX cx g st a w)(hw:fE st.mem e.new)(he:yE cx.P st.mem st.nx ms rs outs f vs=some e)(hc:bB e.cond)(hv:bC (VR g st.mem (cx.safe g st.mem w) w) vs vals):Ck cx.P f∧Calls cx.P f vals.toArray w fun en w'=> ∃v,en= .returned v∧oZ cx st a e v w':=by
 unfold yE at he;split at he;rename_i ks up HK ot;split at he;rename_i as has;cases hb:(ks.isEmpty&&jR ms) with
 |false=>rw [hb] at he;cases he
 |true=>
  rw [hb] at he;simp only [cond_true] at he;simp only [Bool.and_eq_true,List.isEmpty_iff] at hb;injection he with he;obtain ⟨ou,DL⟩:=hb;subst ou;have H4:CallOK cx.P f as rs outs:=by rw [←he] at hc;exact hc.1
  obtain ⟨Fs,k1,k2,k5,k6⟩:=pj (mA:=[]) (mB:=[]) (m2:=[]) (S2:=cx.safe g st.mem w) h.mem (fun _ h=>h) iZ.nil (.inl rfl) (fun c cs b hl=>by simp [gE] at hl) (.inr DL) has HK ot hv;have Wc: ∀γ,γ∈Fs.flatten→ ∀p,γ p=none:=fun γ hγ p=>by
   cases hp:γ p with
   |none=>rfl
   |some b=>obtain ⟨k,hk,_⟩:=k2.dc hγ hp;simp at hk
  have hB:yC Fs.flatten []:=fun b=>⟨fun h=>by simp at h,fun ⟨γ,hγ,p,hp⟩=>by rw [Wc γ hγ p] at hp;cases hp⟩;refine ⟨H4.1,(H4.2 w (cx.safe g st.mem w) vals Fs [] hB (k2.inj h.NL (by simp)) (fun b hb=>⟨hb.1,by simp⟩) (by simp) k1 h.P8).mono ?_⟩;rintro en w' ⟨v,A',F',e1,jV,hn,⟨us,TQ,TR⟩,mV,eU,D8⟩;refine ⟨v,e1,?_⟩;obtain ⟨u1,u2⟩:=k5 w' _ (kI (cx.safe g st.mem w) w w' F') eU.sz (.inr (.inl DL)) D8;refine oZ.call (SX:=kI (cx.safe g st.mem w) w w' F') (ks:=[]) (up:=up) h hw (by rw [←he]) eU (by simp) u1 u2 jV hn mV (fun b hb=>by obtain ⟨γ,hγ,p,hp⟩:=vE.sub hb;rw [Wc γ hγ p] at hp;cases hp) (fun b hb=> ?_) TQ TR;obtain ⟨h1,h2,h3⟩:=hb;refine ⟨h1,fun cp=> ?_,?_,h3⟩;exact (h2 (Nat.lt_of_lt_of_le cp h.keep.size)).2.1 cp;rintro ⟨k,p,ch,q1,q2,q3⟩;exact (h2 (h.lt k p ch b q1 q2 q3)).2.2 ⟨k,p,ch,q1,q2,q3⟩
 cases xn:l7 ks with
 |false=>rw [xn] at he;cases he
 |true=>
  rw [xn] at he;simp only [cond_true] at he;have NQ:=jn xn;cases hb:(rs.all RV.uj&&ft ms) with
  |true=>
   rw [hb] at he;simp only [cond_true] at he;simp only [Bool.and_eq_true] at hb;obtain ⟨Qs,H5⟩:=hb;split at he;rename_i as has;injection he with he;have H4:CallOK cx.P f as rs outs:=by rw [←he] at hc;exact hc.1
   let S2:Nat→Prop:=fun b=>b<w.heap.size∧ ∀c p,c∈ks→g.f c p=some b→ ∀t xs,lk c st.mem=some (.seq t xs)→False;have Xi: ∀(k:Nat) (l:List Nat),k ∉ l→lk k ((l.map fun k=>(k,Chunk.gone))++st.mem)=lk k st.mem:=by
    intro k l;induction l with
    |nil=>intro _;rfl
    |cons q l ih=>
     intro hk;simp only [List.mem_cons,not_or] at hk;simp only [List.map_cons,List.cons_append];rw [aL,if_neg hk.1];exact ih hk.2
   have TT: ∀(k:Nat) (l:List Nat),k∈l→lk k ((l.map fun k=>(k,Chunk.gone))++st.mem)=some .gone:=by
    intro k l;induction l with
    |nil=>intro hk;simp at hk
    |cons q l ih=>
     intro hk;simp only [List.map_cons,List.cons_append];rw [aL];by_cases e:k=q;rw [if_pos e];rw [if_neg e];exact ih (by simpa [e] using hk)
   have hR:iZ g st.mem ((ks.map fun k=>(k,Chunk.gone))++st.mem) S2 w:=by
    intro k t xs hl;by_cases hk:k∈ks;rw [TT k ks hk] at hl;cases hl;rw [Xi k ks hk] at hl;refine ⟨hl,?_⟩;have Xj: ∀p b,g.f k p=some b→S2 b:=fun p b hg=>⟨h.lt k p _ b hl trivial hg,fun c q hc Au t' cK fb=>by
     have:=(h.jU k c p q _ _ b hl trivial fb trivial hg Au).1;subst this;exact hk hc⟩
    refine ⟨Xj,?_⟩;have cH:=h.mem k _ hl;unfold jf at cH;cases hg:g.f k [] with
    |none=>rw [show g k=none from hg];rw [hg] at cH;exact cH
    |some b=>
     rw [show g k=some b from hg];rw [hg] at cH;obtain ⟨arr,q1,q2⟩:=cH;exact ⟨arr,q1,q2.keep (fun b' jS=>⟨⟨jS.1,fun c p hc Au t' cK fb=>jS.2.2 ⟨c,p,_,fb,trivial,Au⟩⟩,rfl⟩) fun _ _ _=>rfl⟩
   obtain ⟨Fs,k1,k2,k5,k6⟩:=pj (mA:=st.mem) (mB:=st.mem) (m2:=(ks.map fun k=>(k,Chunk.gone))++st.mem) (S2:=S2) h.mem (fun b hb=>⟨hb.1,fun c p hc Au t' cK fb=>hb.2.2 ⟨c,p,_,fb,trivial,Au⟩⟩) hR (.inr rfl)
    (fun c cs b hl hg=>⟨h.NB hl (by simp) hg,fun c' p' Nk Xk t' cK fb=>by
     have:=(h.jU c c' [] p' _ _ b hl trivial fb trivial hg Xk).1;subst this;rw [hl] at fb;cases fb⟩) (.inl rfl) has HK ot hv
   have Xl:pY Fs.flatten:=k2.inj h.NL NQ;obtain ⟨F,hB⟩:=mI (n:=w.heap.size) (A:=Fs.flatten) (fun γ hγ p b hp=>by
    obtain ⟨k,_,p',t,xs,q1,q2⟩:=k2.dc hγ hp;exact h.lt k p' _ b q2 trivial q1)
   have Nn: ∀b,b∈F→ ∃k,k∈ks∧ ∃p t xs,g.f k p=some b∧lk k st.mem=some (.seq t xs):=fun b hb=>by
    obtain ⟨γ,hγ,p,hp⟩:=(hB b).1 hb;exact k2.dc hγ hp
   refine ⟨H4.1,(H4.2 w S2 vals Fs F hB Xl (fun b hb=>⟨hb.1,fun H3=> ?_⟩) (fun b H3=> ?_) k1 (BZ.mono (fun b hb=>⟨⟨hb.1,fun c p _ Au t' cK fb=>hb.2.2 ⟨c,p,_,fb,trivial,Au⟩⟩,rfl⟩) h.P8)).mono ?_⟩;obtain ⟨c,h1,p,t,xs,h2,h3⟩:=Nn b H3;exact hb.2 c p h1 h2 t xs h3;obtain ⟨c,h1,p,t,xs,h2,h3⟩:=Nn b H3;exact h.lt c p _ b h3 trivial h2;rintro en w' ⟨v,A',F',e1,jV,hn,⟨us,TQ,TR⟩,mV,eU,D8⟩;refine ⟨v,e1,?_⟩;obtain ⟨u1,u2⟩:=k5 w' _ (fun b=>b<w'.heap.size∧(b<cx.w0.heap.size→cx.S b)∧ ¬Live g st.mem b∧b ∉ F') eU.sz (.inl H5) D8;exact oZ.call (SX:=fun b=>b<w'.heap.size∧(b<cx.w0.heap.size→cx.S b)∧ ¬Live g st.mem b∧b ∉ F') (ks:=ks) (up:=up) h hw (by rw [←he]) eU Nn u1 u2 jV hn mV (fun b hb=>⟨(hB b).2 (vE.sub hb),by
    obtain ⟨k,p,t,xs,q1,q2,q3⟩:=k6 b hb;exact ⟨k,p,t,xs,q1,q2,yF (by rw [u1];exact NQ) q3⟩⟩) (fun b hb=>hb) (nv.alone Qs TQ) TR
   cases he
  |false=>
   rw [hb] at he;simp only [cond_false] at he;split at he;rename_i as has;injection he with he;have H4:CallOK cx.P f as rs outs:=by rw [←he] at hc;exact hc.1
   obtain ⟨Fs,k1,k2,k5,k6⟩:=pj (mA:=st.mem) (mB:=[]) (m2:=[]) (S2:=cx.safe g st.mem w) h.mem (fun _ h=>h) iZ.nil (.inl rfl) (fun c cs b hl=>by simp [gE] at hl) (.inl rfl) has HK ot hv;have Xl:pY Fs.flatten:=k2.inj h.NL NQ;obtain ⟨F,hB⟩:=mI (n:=w.heap.size) (A:=Fs.flatten) (fun γ hγ p b hp=>by
    obtain ⟨k,_,p',t,xs,q1,q2⟩:=k2.dc hγ hp;exact h.lt k p' _ b q2 trivial q1)
   have Nn: ∀b,b∈F→ ∃k,k∈ks∧ ∃p t xs,g.f k p=some b∧lk k st.mem=some (.seq t xs):=fun b hb=>by
    obtain ⟨γ,hγ,p,hp⟩:=(hB b).1 hb;exact k2.dc hγ hp
   refine ⟨H4.1,(H4.2 w (cx.safe g st.mem w) vals Fs F hB Xl (fun b hb=>⟨hb.1,fun H3=> ?_⟩) (fun b H3=> ?_) k1 h.P8).mono ?_⟩;obtain ⟨c,h1,p,t,xs,h2,h3⟩:=Nn b H3;exact hb.2.2 ⟨c,p,_,h3,trivial,h2⟩;obtain ⟨c,h1,p,t,xs,h2,h3⟩:=Nn b H3;exact h.lt c p _ b h3 trivial h2;rintro en w' ⟨v,A',F',e1,jV,hn,⟨us,TQ,TR⟩,mV,eU,D8⟩;refine ⟨v,e1,?_⟩;obtain ⟨u1,u2⟩:=k5 w' _ (kI (cx.safe g st.mem w) w w' F') eU.sz (.inr (.inr fun _ h=>h)) D8;refine oZ.call (SX:=kI (cx.safe g st.mem w) w w' F') (ks:=ks) (up:=up) h hw (by rw [←he]) eU Nn u1 u2 jV hn mV (fun b hb=>⟨(hB b).2 (vE.sub hb),by
    obtain ⟨k,p,t,xs,q1,q2,q3⟩:=k6 b hb;exact ⟨k,p,t,xs,q1,q2,yF (by rw [u1];exact NQ) q3⟩⟩) (fun b hb=> ?_) TQ TR
   obtain ⟨h1,h2,h3⟩:=hb;refine ⟨h1,fun cp=> ?_,?_,h3⟩;exact (h2 (Nat.lt_of_lt_of_le cp h.keep.size)).2.1 cp;rintro ⟨k,p,ch,q1,q2,q3⟩;exact (h2 (h.lt k p ch b q1 q2 q3)).2.2 ⟨k,p,ch,q1,q2,q3⟩;cases he
 cases he
end
end Go.Ide
namespace Go.Ide
def IV:FloatKind→Nat
 | .f32=>2143289344
 | .f64=>9221120237041090560
def aq (op:BinOp)(k:FloatKind)(x y:Nat):Nat:=
 match floatBits op k x y with
 |some r=>bz k r
 |none=>IV k
def tE (k:FloatKind)(x:Nat):Nat:=bz k (Op.negFloat k x)
def bK (k:FloatKind)(n:Int):Nat:=bz k (k.nearest n)
def tg (k:FloatKind)(x y:Nat):Bool:=k.format.order x y==some .eq
def aW (k:FloatKind)(x y:Nat):Bool:=k.format.order x y==some .lt
def pO (k:FloatKind)(x y:Nat):Bool:=k.format.order x y==some .lt||k.format.order x y==some .eq
def pP (k:FloatKind)(x y:Nat):Bool:=k.format.order x y==some .gt
def sx (k:FloatKind)(x y:Nat):Bool:=k.format.order x y==some .gt||k.format.order x y==some .eq
def ck (s k:FloatKind)(x:Nat):Bool:=
 if s=k then true else match s.decode x with
 | .number sg m e=> !(k.decode (k.encode (.number sg m e))).isInfinity
 |_=>true
def aS (s k:FloatKind)(x:Nat):Nat:=
 if s=k then x else match s.decode x with
 | .nan _ _=>IV k
 | .infinity sg=>bz k (k.encode (.infinity sg))
 | .number sg m e=>bz k (k.encode (.number sg m e))
theorem AJ (b:Nat):bz .f32 b=if b%2147483648>2139095040 then 2143289344 else b:=rfl
theorem Cn (b:Nat):bz .f64 b=if b%9223372036854775808>9218868437227405312 then 9221120237041090560 else b:=rfl
theorem nX (k:FloatKind)(b:Nat):bz k b=b∨ ∃s t s' t',k.format.read b= .nan s t∧k.format.read (bz k b)= .nan s' t':=by
 cases k;rw [AJ];by_cases h:b%2147483648>2139095040;rw [if_pos h];right;refine ⟨(b/2147483648%2==1),b%2147483648 - 2139095040,_,_,?_,rfl⟩;have e1:FloatKind.f32.format.signWeight=2147483648:=by decide
 have e2:FloatKind.f32.format.binade=8388608:=by decide
 have e3:FloatKind.f32.format.infRung=2139095040:=by decide
 unfold Ieee.Format.read;simp only [e1,e2,e3];rw [if_neg (by omega),if_neg (by omega),if_neg (by omega)];rw [if_neg h];exact .inl rfl;rw [Cn];by_cases h:b%9223372036854775808>9218868437227405312;rw [if_pos h];right;refine ⟨(b/9223372036854775808%2==1),b%9223372036854775808 - 9218868437227405312,_,_,?_,rfl⟩;have e1:FloatKind.f64.format.signWeight=9223372036854775808:=by decide
 have e2:FloatKind.f64.format.binade=4503599627370496:=by decide
 have e3:FloatKind.f64.format.infRung=9218868437227405312:=by decide
 unfold Ieee.Format.read;simp only [e1,e2,e3];rw [if_neg (by omega),if_neg (by omega),if_neg (by omega)];rw [if_neg h];exact .inl rfl
theorem Ku {s:Bool}{t:Nat}{d:Ieee.Datum}:Ieee.Datum.sum (.nan s t) d=none:=by cases d<;>rfl
theorem Kv {s:Bool}{t:Nat}{d:Ieee.Datum}:Ieee.Datum.sum d (.nan s t)=none:=by cases d<;>rfl
theorem IW {s:Bool}{t:Nat}{d:Ieee.Datum}:Ieee.Datum.product (.nan s t) d=none:=by cases d<;>rfl
theorem IX {s:Bool}{t:Nat}{d:Ieee.Datum}:Ieee.Datum.product d (.nan s t)=none:=by cases d<;>rfl
theorem Kw {n:Nat}{s:Bool}{t:Nat}{d:Ieee.Datum}:Ieee.Datum.quotient n (.nan s t) d=none:=by cases d<;>rfl
theorem Kx {n:Nat}{s:Bool}{t:Nat}{d:Ieee.Datum}:Ieee.Datum.quotient n d (.nan s t)=none:=by cases d<;>rfl
theorem yI {s:Bool}{t:Nat}{d:Ieee.Datum}:Ieee.Datum.order (.nan s t) d=none:=by cases d<;>rfl
theorem yJ {s:Bool}{t:Nat}{d:Ieee.Datum}:Ieee.Datum.order d (.nan s t)=none:=by cases d<;>rfl
theorem xp (op:BinOp)(k:FloatKind)(x y:Nat):floatBits op k (bz k x) (bz k y)=floatBits op k x y:=by
 have h1: ∀x y,floatBits op k (bz k x) y=floatBits op k x y:=by
  intro x y;rcases nX k x with h|⟨s,t,s',t',q1,q2⟩
  rw [h];unfold floatBits;cases op<;>simp only [Ieee.Format.add,Ieee.Format.sub,Ieee.Format.mul,Ieee.Format.div,q1,q2,Ku,IW,Kw]
 have h2: ∀x y,floatBits op k x (bz k y)=floatBits op k x y:=by
  intro x y;rcases nX k y with h|⟨s,t,s',t',q1,q2⟩
  rw [h];unfold floatBits;cases op<;>simp only [Ieee.Format.add,Ieee.Format.sub,Ieee.Format.mul,Ieee.Format.div,q1,q2,Kv,IX,Kx,Ieee.Datum.opposite]
 rw [h1,h2]
theorem wN (k:FloatKind)(x y:Nat):k.format.order (bz k x) (bz k y)=k.format.order x y:=by
 have h1: ∀x y,k.format.order (bz k x) y=k.format.order x y:=by
  intro x y;rcases nX k x with h|⟨s,t,s',t',q1,q2⟩
  rw [h];unfold Ieee.Format.order;rw [q1,q2,yI,yI]
 have h2: ∀x y,k.format.order x (bz k y)=k.format.order x y:=by
  intro x y;rcases nX k y with h|⟨s,t,s',t',q1,q2⟩
  rw [h];unfold Ieee.Format.order;rw [q1,q2,yJ,yJ]
 rw [h1,h2]
theorem IY (k:FloatKind)(b:Nat):bz k (Op.negFloat k (bz k b))=bz k (Op.negFloat k b):=by
 cases k;have e: ∀b,Op.negFloat .f32 b=b^^^2147483648:=fun b=>rfl;have hm: ∀b,(b^^^2147483648)%2147483648=b%2147483648:=fun b=>by
  have:=Nat.xor_mod_two_pow (a:=b) (b:=2147483648) (n:=31);simpa using this
 simp only [e];by_cases h:b%2147483648>2139095040;have h1:bz .f32 b=2143289344:=by rw [AJ,if_pos h]
 have h2:bz .f32 (b^^^2147483648)=2143289344:=by rw [AJ,hm,if_pos h]
 rw [h1,h2];decide;have h1:bz .f32 b=b:=by rw [AJ,if_neg h]
 rw [h1];have e: ∀b,Op.negFloat .f64 b=b^^^9223372036854775808:=fun b=>rfl;have hm: ∀b,(b^^^9223372036854775808)%9223372036854775808=b%9223372036854775808:=fun b=>by
  have:=Nat.xor_mod_two_pow (a:=b) (b:=9223372036854775808) (n:=63);simpa using this
 simp only [e];by_cases h:b%9223372036854775808>9218868437227405312;have h1:bz .f64 b=9221120237041090560:=by rw [Cn,if_pos h]
 have h2:bz .f64 (b^^^9223372036854775808)=9221120237041090560:=by rw [Cn,hm,if_pos h]
 rw [h1,h2];decide;have h1:bz .f64 b=b:=by rw [Cn,if_neg h]
 rw [h1]
theorem NR (k:FloatKind)(x y t:Nat):bz k (Question.cut (.nanBits k x y) t)=IV k:=by
 cases k;have e:Question.cut (.nanBits .f32 x y) t=(t%2)*2147483648+2139095040+1+(t/2)%8388607:=rfl;have h1:=Nat.mod_lt t (show 0<2 by decide);have h2:=Nat.mod_lt (t/2) (show 0<8388607 by decide);rw [e,AJ];generalize t%2=p at h1;generalize t/2%8388607=q at h2;rw [if_pos (by omega)];rfl;have e:Question.cut (.nanBits .f64 x y) t=(t%2)*9223372036854775808+9218868437227405312+1+(t/2)%4503599627370495:=rfl;have h1:=Nat.mod_lt t (show 0<2 by decide);have h2:=Nat.mod_lt (t/2) (show 0<4503599627370495 by decide);rw [e,Cn];generalize t%2=p at h1;generalize t/2%4503599627370495=q at h2;rw [if_pos (by omega)];rfl
theorem Ky (k:FloatKind)(x t:Nat):bz k (Question.cut (.nanConv k x) t)=IV k:=by
 cases k;have e:Question.cut (.nanConv .f32 x) t=(t%2)*2147483648+2139095040+1+(t/2)%8388607:=rfl;have h1:=Nat.mod_lt t (show 0<2 by decide);have h2:=Nat.mod_lt (t/2) (show 0<8388607 by decide);rw [e,AJ];generalize t%2=p at h1;generalize t/2%8388607=q at h2;rw [if_pos (by omega)];rfl;have e:Question.cut (.nanConv .f64 x) t=(t%2)*9223372036854775808+9218868437227405312+1+(t/2)%4503599627370495:=rfl;have h1:=Nat.mod_lt t (show 0<2 by decide);have h2:=Nat.mod_lt (t/2) (show 0<4503599627370495 by decide);rw [e,Cn];generalize t%2=p at h1;generalize t/2%4503599627370495=q at h2;rw [if_pos (by omega)];rfl
theorem D9 (s k:FloatKind)(b:Nat)(h:s≠k):ck s k (bz s b)=ck s k b∧aS s k (bz s b)=aS s k b:=by
 rcases nX s b with e|⟨sg,t,sg',t',h1,h2⟩
 rw [e];exact ⟨rfl,rfl⟩;have h1:s.decode b= .nan sg t:=h1;have h2:s.decode (bz s b)= .nan sg' t':=h2;unfold ck aS;rw [if_neg h,if_neg h,if_neg h,if_neg h,h1,h2];exact ⟨rfl,rfl⟩
theorem Qt (q kk:Nat)(h1:q≤1149)(h2:kk<9007199254740992):min (q*4503599627370496+kk) 9218868437227405312<9218868437227405312:=by omega
theorem db (x:Nat):ck .f32 .f64 x=true:=by
 unfold ck;rw [if_neg (by decide)];split;rename_i sg m e hd;have hd:Ieee.single.read x= .number sg m e:=hd;have hm:m<16777216∧ -149≤e∧e≤104:=by
  have e1:Ieee.single.signWeight=2147483648:=by decide
  have e2:Ieee.single.binade=8388608:=by decide
  have e3:Ieee.single.infRung=2139095040:=by decide
  have e4:Ieee.single.leastPlace= -149:=by decide
  unfold Ieee.Format.read at hd;simp only [e1,e2,e3,e4] at hd;split at hd;injection hd with _ h2 h3;omega;split at hd;injection hd with _ h2 h3;have:=Nat.mod_lt (x%2147483648) (show 0<8388608 by decide);have h4:x%2147483648/8388608<255:=by omega
  omega;split at hd<;>cases hd
 have lA:(FloatKind.f64.decode (FloatKind.f64.encode (.number sg m e))).isInfinity=false:=by
  have e1:Ieee.double.signWeight=9223372036854775808:=by decide
  have e2:Ieee.double.binade=4503599627370496:=by decide
  have e3:Ieee.double.infRung=9218868437227405312:=by decide
  have e4:Ieee.double.leastPlace= -1074:=by decide
  have hw: ∃r,r<9218868437227405312∧FloatKind.f64.encode (.number sg m e)=Ieee.double.word sg r:=by
   show∃r,_∧Ieee.double.nearest sg m e=_;unfold Ieee.Format.nearest;by_cases h0:m=0;rw [if_pos h0];exact ⟨0,by decide,rfl⟩;rw [if_neg h0];refine ⟨_,?_,rfl⟩;have hl:m.log2≤23:=by
    have:m.log2<24:=(Nat.log2_lt h0).2 (by omega);omega
   have hfb:Ieee.double.fractionBits=52:=rfl;have Qf:max (e+(m.log2:Int) - ((Ieee.double.fractionBits:Nat):Int)) Ieee.double.leastPlace=e+(m.log2:Int) - 52:=by
    rw [e4,hfb];omega
   rw [Qf,e2,e3,e4];have Ea:(e+(m.log2:Int) - 52 - e).toNat=0:=by omega
   have ot:(e - (e+(m.log2:Int) - 52)).toNat=52 - m.log2:=by omega
   rw [Ea,ot];have Xm:Ieee.Toward.even.cut sg (m<<<(52 - m.log2)) 0=m<<<(52 - m.log2):=by
    unfold Ieee.Toward.cut;simp [Nat.mod_one]
   rw [Xm];have hk:m<<<(52 - m.log2)<9007199254740992:=by
    rw [Nat.shiftLeft_eq];have h2:m<2^(m.log2+1):=Nat.lt_log2_self;have h3:m*2^(52 - m.log2)<2^(m.log2+1)*2^(52 - m.log2):=(Nat.mul_lt_mul_right (Nat.two_pow_pos _)).2 h2;rw [←Nat.pow_add,show m.log2+1+(52 - m.log2)=53 from by omega] at h3;exact h3
   exact Qt _ _ (by omega) hk
  obtain ⟨r,hr,hw⟩:=hw;rw [hw];show (Ieee.double.read (Ieee.double.word sg r)).isInfinity=false;have yz:Ieee.double.word sg r%9223372036854775808=r:=by
   unfold Ieee.Format.word;cases sg with
   |true=>simp only [if_true,e1];omega
   |false=>simp only [Bool.false_eq_true,if_false];omega
  unfold Ieee.Format.read;simp only [e1,e2,e3,yz];split;rfl
  first|rfl|(rw [if_pos hr];rfl)
 rw [lA];rfl;rfl
def H6:BinOp→Bool
 | .add=>true
 | .sub=>true
 | .mul=>true
 | .quo=>true
 |_=>false
def Kz (op:BinOp)(k:FloatKind)(x y:Nat):Option cf:=
 match op with
 | .eql=>ca (.one (.aw .bool (tg k x y)))
 | .neq=>ca (.one (.aw .bool (!tg k x y)))
 | .lss=>ca (.one (.aw .bool (aW k x y)))
 | .leq=>ca (.one (.aw .bool (pO k x y)))
 | .gtr=>ca (.one (.aw .bool (pP k x y)))
 | .geq=>ca (.one (.aw .bool (sx k x y)))
 |_=>none
def KA (P:Program)(cs ds:List aA):List Field→Option Bool
 |[]=>some true
 |f::r=>match P.underlying f.type,cs[f.offset]?,ds[f.offset]?,KA P cs ds r with
  |some (.int _),some (.aw (.int k) a),some (.aw (.int k') b),some e=>bif f.name=="_" then none else if k=k' then some ((a==b)&&e) else none
  |_,_,_,_=>none
def nI (P:Program)(T:TypeId)(op:BinOp)(cs ds:List aA):Option cf:=
 match P.underlying T with
 |some (.struct fs)=>bif P.stoodInHeld T||P.eqGuardType P.depth T then none else
  (match op,KA P cs ds fs.toList with
  | .eql,some b=>ca (.one (.aw .bool b))
  | .neq,some b=>ca (.one (.aw .bool (!b)))
  |_,_=>none)
 |_=>none
def Bq (P:Program)(T:TypeId)(op:BinOp)(x y:aD):Option cf:=
 match x,y with
 | .one (.aw (.aW k) a),.one (.aw (.aW k') b)=>if k=k' then (if H6 op then ca (.one (.aw (.aW k) (aq op k a b))) else Kz op k a b) else none
 | .agg cs,.agg ds=>nI P T op cs ds
 |x,y=>IM P T op x y
def NS (op:UnOp)(x:aD):Option cf:=
 match op,x with
 | .neg,.one (.aw (.aW k) b)=>ca (.one (.aw (.aW k) (tE k b)))
 |op,x=>V6 op x
def dy (P:Program)(T:TypeId):Bool:=
 match P.underlying T with
 |some (.slice e)=>(match P.underlying e with
  |some (.int .u8)=>true
  |_=>false)
 |_=>false
def eF (s:List UInt8):List Int:=s.map fun b=>((b.toNat:Nat):Int)
def tH (l:List Int):List UInt8:=l.map fun n=>UInt8.ofNat n.toNat
def KB (mx:Bool)(k:FloatKind)(a b:Nat):Nat:=
 match k.format.order a b with
 |some .lt=>bif mx then b else a
 |some .gt=>bif mx then a else b
 |_=>if (k.decode a).neg=mx then b else a
def Wd (mx:Bool)(x y:aD):Option cf:=
 match x,y with
 | .one (.aw (.aW k) a),.one (.aw (.aW k') b)=>if k=k' then gI (.one (.aw (.aW k) (KB mx k a b))) [(k.format.order a b).isSome=true] else none
 |_,_=>none
def nJ (P:Program)(m:Mem)(nx:Nat)(T U:TypeId)(x:aD):Option cf:=
 match P.underlying T,P.underlying U,x with
 |some _,some (.float k),.one (.aw (.aW s) b)=>gI (.one (.aw (.aW k) (aS s k b))) [ck s k b=true]
 |some _,some (.float k),.one (.aw (.int _) n)=>ca (.one (.aw (.aW k) (bK k n)))
 |some .string,some (.slice _),.one (.aw .str s)=>bif dy P U then some ⟨.one (.all nx),[(nx,.seq (.int .u8) (eF s))],[],[List.length s≤bg]⟩ else none
 |some (.slice _),some (.slice _),.one (.all c)=>bif Nat.beq T U&&dy P T then (match lk c m with
  |some (.seq t xs)=>if t= .int .u8 then some ⟨.one (.all c),[],[(c,.seq t xs)],[0<List.length xs]⟩ else none
  |_=>none) else none
 |some (.slice _),some .string,x=>bif dy P T&&nb m x then (match lZ m (.sl (.int .u8)) x with
  |some l=>ca (.one (.aw .str (tH l)))
  |none=>none) else none
 |_,_,x=>yi P T U x
def pn (P:Program)(m:Mem)(nx:Nat)(T T':TypeId)(s x:aD):Option cf:=
 match P.underlying T,P.underlying T',x with
 |some (.slice e),some .string,.one (.aw .str y)=>(match P.info? e with
  |some i=>bif (dy P T&&Nat.beq i.size 1)&&(Nat.ble i.bytes 32768&&i.zero.isSome)&&(i.zero.map fun z=>Nat.beq z.cells.size 1).getD false then
   (match nt m (.int .u8) s with
   |some (xs,up)=>some ⟨.one (.all nx),[(nx,.seq (.int .u8) (xs++eF y))],up,[List.length xs+List.length y≤bg]⟩
   |none=>none) else none
  |none=>none)
 |_,_,_=>none
def Co (P:Program)(T:TypeId)(x:aD)(lo hi mx:Option aD):Option cf:=
 match P.underlying T,x with
 |some (.slice e),.one (.aw (.sl t) xs)=>(match Po lo,hi,mx with
  |some l,some (.one (.aw (.int _) h)),some (.one (.aw (.int _) q))=>bif cY P e==some t.size then gI (.one (.aw (.sl t) (cut xs l h))) [(0:Int)≤l∧l≤h∧h≤q∧q≤((List.length xs:Nat):Int)] else none
  |_,_,_=>none)
 |_,_=>none
section
variable {P:Program} {g:GM} {m:Mem} {S:Nat→Prop} {cx:Cx} {st:St} {a:Act} {w:World}
theorem oE {k:FloatKind}{n:Nat}{v:Value}(h:CR g m S w (.aw (.aW k) n) v): ∃b,v= .float k b∧bz k b=n:=by
 obtain ⟨b,e,hb⟩:=(h: ∃b,[v]=[Value.float k b]∧bz k b=n);exact ⟨b,by simpa using e,hb⟩
theorem nw {k:FloatKind}{b n:Nat}(h:bz k b=n):VR g m S w (.one (.aw (.aW k) n)) (.float k b):=⟨b,rfl,h⟩
theorem j8.drew {s:Sem Value}{e:cf}{v:aD}{r:Value}(h:cX cx g st a w)(he:e.new=[]∧e.l6=[]∧e.val=v)(hr:s.run cx.P w= .ok r w.drew)(hv: ∀g m S w,VR g m S w v r):j8 cx st a w s e:=by
 refine ⟨r,w.drew,hr,g,?_,?_⟩;rw [he.1,he.2.1];exact h.AF (G:=[]) ⟨bJ.drew _ _,fun b hb=>(by simp at hb),fun _ _=>rfl,fun k ch hk=> .inl ⟨hk,fun _ b _ _ hb=>by simp at hb⟩,fun k ch hk gM=>by
  change lk k st.mem=some ch at gM;rw [hk] at gM;cases gM⟩
 rw [he.2.2];exact hv _ _ _ _
theorem tJ {P:Program}{g:GM}{m:Mem}{S:Nat→Prop}{w w':World}{d:Nat}{cs ds:List aA}{us vs:List Value}(hu:bC (CR g m S w) cs us)(hv:bC (CR g m S w) ds vs):
 ∀(fs:List Field) (b:Bool),KA P cs ds fs=some b→(Op.eqFields (d+1) us.toArray vs.toArray fs).run P w'= .ok b w'
 |[],b,h=>by
  unfold KA at h;injection h with h;subst h;rfl
 |f::r,b,h=>by
  unfold KA at h;split at h
  ·rename_i k k1 x k2 y e hT hc hd he;cases hn:f.name=="_" with
   |true=>rw [hn] at h;cases h
   |false=>
    rw [hn] at h;simp only [cond_false] at h;split at h
    case isFalse=>cases h
    rename_i hk;subst hk;injection h with h;subst h;have xj:f.name≠"_":=by
     intro hh;rw [hh] at hn;simp at hn
    obtain ⟨u,Xc,TM⟩:=hu.get _ _ hc;obtain ⟨v,hv1,mU⟩:=hv.get _ _ hd;have e1:u= .int k1 x:=eS (g:=g) (m:=m) (S:=S) (w:=w) TM;have e2:v= .int k1 y:=eS (g:=g) (m:=m) (S:=S) (w:=w) mU;subst e1;subst e2;have p1:(part f.type us.toArray f.offset).run P w'= .ok (.int k1 x) w':=by simp [part,isAgg,run_underlying hT,Xc]
    have p2:(part f.type vs.toArray f.offset).run P w'= .ok (.int k1 y) w':=by simp [part,isAgg,run_underlying hT,hv1]
    have p3:=run_equalIn_int w' d f.type k1 k x y hT;unfold Op.eqFields;rw [if_pos xj];simp only [Sem.run_bind,p1,p2,p3,Result.andThen_ok];cases hxy:(x==y) with
    |true=>simpa using tJ hu hv r e he
    |false=>simp
  cases h
theorem xq {P:Program}{g:GM}{m:Mem}{S:Nat→Prop}{w:World}{op:BinOp}{T:TypeId}{cs ds:List aA}{e:cf}{xa ya:Value}(h:nI P T op cs ds=some e)(hx:VR g m S w (.agg cs) xa)(hy:VR g m S w (.agg ds) ya):
 aP P g m S w (binOp op T xa ya) e:=by
 obtain ⟨us,rfl,hu⟩:=hx;obtain ⟨vs,rfl,hv⟩:=hy;unfold nI at h;split at h;rename_i fs hT;cases hg:P.stoodInHeld T with
 |true=>rw [hg] at h;cases h
 |false=>
  cases hq:P.eqGuardType P.depth T with
  |true=>rw [hg,hq] at h;cases h
  |false=>
   rw [hg,hq] at h;simp only [Bool.or_self,cond_false] at h;have hf:Program.fieldsOf P T=fs:=by unfold Program.fieldsOf;rw [hT]
   split at h;rename_i b hb;have:=tJ (w':=w) (d:=9998) hu hv _ _ hb;refine aP.mk (aJ h) (r:= .bool b) ?_ rfl;rw [run_eql_struct,show (10000:Nat)=9999+1 from rfl,run_equalIn_agg w 9999 T _ _ (by rw [hf];exact hT) hg,hf,this];rfl;rename_i b hb;have:=tJ (w':=w) (d:=9998) hu hv _ _ hb;refine aP.mk (aJ h) (r:= .bool (!b)) ?_ rfl;rw [run_neq_struct,show (10000:Nat)=9999+1 from rfl,run_equalIn_agg w 9999 T _ _ (by rw [hf];exact hT) hg,hf,this];rfl;cases h
 cases h
theorem xr {P:Program}{w:World}{op:BinOp}{T:TypeId}{cs ds:List aA}{e:cf}{x y:Operand}{us vs:Array Value}(h:nI P T op cs ds=some e):(eqGuard op T x y (.agg us) (.agg vs)).run P w= .ok () w:=by
 unfold nI at h;split at h;cases hq:P.eqGuardType P.depth T with
 |true=>rw [hq] at h;simp only [Bool.or_true,cond_true] at h;cases h
 |false=>exact run_eqGuard_agg w op T x y us vs hq
 cases h
theorem Eb {op:BinOp}{x y:aD}{e:cf}{T:TypeId}{xa ya:Value}(hs:cX cx g st a w)(h:Bq cx.P T op x y=some e)(hc:bB e.cond)(hx:VR g st.mem (cx.safe g st.mem w) w x xa)(hy:VR g st.mem (cx.safe g st.mem w) w y ya):
 j8 cx st a w (binOp op T xa ya) e:=by
 unfold Bq at h;split at h;rename_i k n k' n';obtain ⟨b,rfl,hb⟩:=oE (g:=g) (m:=st.mem) (S:=cx.safe g st.mem w) (w:=w) hx;obtain ⟨b',rfl,jS⟩:=oE (g:=g) (m:=st.mem) (S:=cx.safe g st.mem w) (w:=w) hy;split at h;rename_i hk;subst hk;split at h;rename_i ha;have hf:floatBits op k n n'=floatBits op k b b':=by rw [←hb,←jS];exact xp op k b b'
 have he:=aJ h;unfold aq at he;rw [hf] at he;cases hr:floatBits op k b b' with
 |some r=>
  rw [hr] at he;exact aP.runs hs (aP.mk he (run_float_arith w op T k b b' r hr) (nw rfl))
 |none=>
  rw [hr] at he;have hn:(binOp op T (.float k b) (.float k b')).run cx.P w= .ok (.float k (Question.cut (.nanBits k b b') (w.tape w.drawn (.nanBits k b b')))) w.drew:=by
   unfold floatBits at hr;cases op<;>simp only [H6,Bool.false_eq_true] at ha<;>simp only at hr<;>simp [binOp,Op.floatArith,hr,Question.forced]
  exact j8.drew hs he hn fun g m S w=>nw (NR k b b' _)
 have ho:k.format.order n n'=k.format.order b b':=by rw [←hb,←jS];exact wN k b b'
 have hg:aP cx.P g st.mem (cx.safe g st.mem w) w (binOp op T (.float k b) (.float k b')) e:=by
  unfold Kz at h;split at h;exact aP.mk (aJ h) (r:= .bool (tg k n n')) (by simp [binOp,Op.floatCmp,tg,ho]) rfl;exact aP.mk (aJ h) (r:= .bool (!tg k n n')) (by simp [binOp,Op.floatCmp,tg,ho,bne]) rfl;exact aP.mk (aJ h) (r:= .bool (aW k n n')) (by simp [binOp,Op.floatCmp,aW,ho]) rfl;exact aP.mk (aJ h) (r:= .bool (pO k n n')) (by simp [binOp,Op.floatCmp,pO,ho]) rfl;exact aP.mk (aJ h) (r:= .bool (pP k n n')) (by simp [binOp,Op.floatCmp,pP,ho]) rfl;exact aP.mk (aJ h) (r:= .bool (sx k n n')) (by simp [binOp,Op.floatCmp,sx,ho]) rfl;cases h
 exact aP.runs hs hg;cases h;exact aP.runs hs (xq h hx hy);exact aP.runs hs (FV h hc hx hy)
theorem Gb {op:UnOp}{x:aD}{e:cf}{xa:Value}(h:NS op x=some e)(hx:VR g m S w x xa):aP P g m S w (Op.unary op xa) e:=by
 unfold NS at h;split at h;rename_i k n;obtain ⟨b,rfl,hb⟩:=oE (g:=g) (m:=m) (S:=S) (w:=w) hx;refine aP.mk (aJ h) (r:= .float k (Op.negFloat k b)) (by simp [Op.unary]) (nw ?_);unfold tE;rw [←hb,IY];exact IP h hx
theorem qX {T:TypeId}(h:dy P T=true): ∃e,P.underlying T=some (.slice e)∧P.underlying e=some (.int .u8):=by
 unfold dy at h;split at h;rename_i e h1;split at h;rename_i h2;exact ⟨e,h1,h2⟩;cases h;cases h
theorem IZ {S':Nat→Prop}{w':World}{s:List UInt8}{arr:Array Value}(h: ∀j (hj:j<s.length),arr[j]? =some (.int .u8 ((s[j].toNat:Nat):Int))):DT S' w' (.int .u8) (eF s) arr:=by
 intro i hi;have xi:i<s.length:=by simpa [eF] using hi
 refine ⟨[.int .u8 ((s[i].toNat:Nat):Int)],fun j u hj=> ?_,?_⟩;cases j with
 |zero=>
  simp only [List.getElem?_cons_zero,Option.some.injEq] at hj;subst hj;simp only [Ty.size,Nat.mul_one,Nat.add_zero];exact h i xi
 |succ j=>simp at hj
 show [Value.int .u8 ((s[i].toNat:Nat):Int)]=[Value.int .u8 ((eF s)[i])];simp [eF]
theorem wO (w:World)(b n:Nat){arr:Array Value}{T:TypeId}{lo hi:Nat}(h:w.heap[b]? =some (.cells arr T (lo,hi))):
 (w.freeze ⟨b,n,none⟩ 1).heap[b]? =some (.cells arr T (if lo==hi then (n,n+1) else (min lo n,max hi (n+1)))):=by
 simp [World.freeze,Array.getElem?_modify,h]
theorem uB (w:World)(b n q:Nat)(hq:q≠b):(w.freeze ⟨b,n,none⟩ 1).heap[q]? =w.heap[q]? :=by
 simp [World.freeze,Array.getElem?_modify,Ne.symm hq]
theorem p6 {w:World}{b:Nat}{arr:Array Value}(h:dc w b arr):dc (w.freeze ⟨b,arr.size,none⟩ 1) b arr:=by
 obtain ⟨T,lo,hi,h,hf⟩:=h;by_cases e:lo=hi;subst e;exact ⟨T,arr.size,arr.size+1,by rw [wO w b arr.size h];simp,.inr (Nat.le_refl _)⟩;exact ⟨T,min lo arr.size,max hi (arr.size+1),by rw [wO w b arr.size h,if_neg (by simpa using e)],.inr (by omega)⟩
theorem Ec {w:World}{b:Nat}{arr:Array Value}(h:dc w b arr):bJ [b] w (w.freeze ⟨b,arr.size,none⟩ 1):=by
 have oq:(w.freeze ⟨b,arr.size,none⟩ 1).os=w.os∧(w.freeze ⟨b,arr.size,none⟩ 1).tape=w.tape∧(w.freeze ⟨b,arr.size,none⟩ 1).output=w.output∧(w.freeze ⟨b,arr.size,none⟩ 1).heap.size=w.heap.size:=by
  unfold World.freeze;split<;>simp
 refine ⟨oq.1,oq.2.1,oq.2.2.1,by rw [oq.2.2.2];exact Nat.le_refl _,fun q _ hq=>uB w b arr.size q (by simpa using hq),fun q aG hb=> ?_⟩;by_cases e:q=b;subst e;have:=hb.eq h;subst this;exact ⟨aG,p6 h,rfl⟩;exact ⟨aG,hb.keep (uB w b arr.size q e),rfl⟩
theorem Br {mx:Bool}{x y:aD}{e:cf}{xa ya:Value}{Ts:Array TypeId}{T:TypeId}{S:Nat→Prop}{m:Mem}{P:Program}(h:Wd mx x y=some e)(hc:bB e.cond)(hx:VR g m S w x xa)(hy:VR g m S w y ya):aP P g m S w (bif mx then Builtin.max_ Ts T #[xa,ya] else Builtin.min_ Ts T #[xa,ya]) e:=by
 unfold Wd at h;split at h;rename_i k a k' b;split at h;rename_i hk;subst hk;obtain ⟨x,rfl,ha⟩:=oE (g:=g) (m:=m) (S:=S) (w:=w) hx;obtain ⟨y,rfl,hb⟩:=oE (g:=g) (m:=m) (S:=S) (w:=w) hy;obtain ⟨he,ow⟩:=cO h;rw [ow] at hc;have ho:(k.format.order a b).isSome=true:=hc.1;have hxy:a=x∧b=y:=by
  rw [←ha,←hb,wN] at ho;constructor;rcases nX k x with h|⟨s,t,s',t',q1,q2⟩
  rw [←ha,h];unfold Ieee.Format.order at ho;rw [q1,yI] at ho;cases ho;rcases nX k y with h|⟨s,t,s',t',q1,q2⟩
  rw [←hb,h];unfold Ieee.Format.order at ho;rw [q1,yJ] at ho;cases ho
 obtain ⟨rfl,rfl⟩:=hxy;refine aP.mk he (r:= .float k (KB mx k a b)) ?_ (nw ?_);unfold KB;cases hq:k.format.order a b with
 |none=>rw [hq] at ho;cases ho
 |some o=>
  cases mx<;>cases o<;>cases hn:(k.decode a).neg<;>simp [Builtin.max_,Builtin.max2,Builtin.min_,Builtin.min2,hq,hn]
 unfold KB;split;cases mx<;>assumption;cases mx<;>assumption;split<;>assumption;cases h;cases h
theorem xt {T U:TypeId}{x:aD}{e:cf}{xa:Value}(hs:cX cx g st a w)(hw:fE st.mem e.new)(h:nJ cx.P st.mem st.nx T U x=some e)(hc:bB e.cond)(hx:VR g st.mem (cx.safe g st.mem w) w x xa):j8 cx st a w (convert T U xa) e:=by
 unfold nJ at h;split at h;rename_i u k s n h1 h2;obtain ⟨b,rfl,hb⟩:=oE (g:=g) (m:=st.mem) (S:=cx.safe g st.mem w) (w:=w) hx;obtain ⟨he,ow⟩:=cO h;rw [ow] at hc;have jT:ck s k n=true:=hc.1;by_cases No:s=k;subst No;have e1:aS s s n=n:=by unfold aS;rw [if_pos rfl]
 rw [e1] at he;refine aP.runs hs (aP.mk he (r:= .float s b) (run_convert_float_float w T U s s b b (by rw [h1];rfl) h2 (by simp [floatToFloatBits])) (nw hb));have Xn:=D9 s k b No;rw [hb] at Xn;rw [Xn.2] at he;rw [Xn.1] at jT;unfold ck at jT;unfold aS at he;rw [if_neg No] at jT he;cases hd:s.decode b with
 |nan sg t=>
  rw [hd] at he;have hn:(convert T U (.float s b)).run cx.P w= .ok (.float k (Question.cut (.nanConv k b) (w.tape w.drawn (.nanConv k b)))) w.drew:=by
   cases u<;>simp [convert,run_underlying h1,run_underlying h2,Conv.floatToFloat,No,hd,Question.forced]
  exact j8.drew hs he hn fun g m S w=>nw (Ky k b _)
 |infinity sg=>
  rw [hd] at he;exact aP.runs hs (aP.mk he (run_convert_float_float w T U s k b _ (by rw [h1];rfl) h2 (by simp [floatToFloatBits,No,hd])) (nw rfl))
 |number sg mm ee=>
  rw [hd] at he jT;have jT:(k.decode (k.encode (.number sg mm ee))).isInfinity=false:=by simpa using jT
  exact aP.runs hs (aP.mk he (run_convert_float_float w T U s k b _ (by rw [h1];rfl) h2 (by simp [floatToFloatBits,No,hd,jT])) (nw rfl))
 rename_i u k kk n h1 h2;have:=eS (g:=g) (m:=st.mem) (S:=cx.safe g st.mem w) (w:=w) hx;subst this;exact aP.runs hs (aP.mk (aJ h) (r:= .float k (k.nearest n)) (by cases u<;>simp [convert,run_underlying h1,run_underlying h2,Conv.intToFloat]) (nw rfl));rename_i el s h1 h2;cases hb:dy cx.P U with
 |false=>simp [hb] at h
 |true=>
  rw [hb] at h;simp only [cond_true] at h;injection h with h;subst h;obtain ⟨e1,k1,k2⟩:=qX hb;have NI:=mw (g:=g) (m:=st.mem) (S:=cx.safe g st.mem w) (w:=w) hx;subst NI;have hlen:s.length≤bg:=hc.1;unfold bg at hlen;have jX:=Lib.run_convert_string_bytes (P:=cx.P) w T U e1 ⟨s.toArray⟩ h1 k1 k2;have eK:(⟨s.toArray⟩:ByteArray).size=s.length:=by simp [ByteArray.size]
  rw [eK] at jX;have qU:=grownCap_ge w s.length 0 e1;have J1:=grownCap_le_maxLen w s.length 0 e1 (by unfold maxLen;omega);refine ⟨_,_,jX,?_⟩;have mV:=Lib.bytesWorld_at_new w e1 ⟨s.toArray⟩;have Nm:(Lib.bytesCells w e1 ⟨s.toArray⟩).size=grownCap w s.length 0 e1:=by
   simp [Lib.bytesCells,eK];omega
  have de:dc (Lib.bytesWorld w e1 ⟨s.toArray⟩) w.heap.size (Lib.bytesCells w e1 ⟨s.toArray⟩):=
   ⟨_,_,_,mV,.inr (Nat.le_refl _)⟩
  have hold: ∀j,j<w.heap.size→(Lib.bytesWorld w e1 ⟨s.toArray⟩).heap[j]? =w.heap[j]? :=fun j hj=>Lib.bytesWorld_at_old w e1 ⟨s.toArray⟩ j hj;have eU:bJ [] w (Lib.bytesWorld w e1 ⟨s.toArray⟩):=by
   have oq: ∀(w:World) (a:Addr) (n:Nat),(w.freeze a n).os=w.os∧(w.freeze a n).tape=w.tape∧(w.freeze a n).output=w.output:=by
    intro w a n;unfold World.freeze;split<;>exact ⟨rfl,rfl,rfl⟩
   have hf:=oq (w.drew.alloc (.cells (Lib.bytesCells w e1 ⟨s.toArray⟩) e1)) ⟨w.heap.size,(Lib.bytesCells w e1 ⟨s.toArray⟩).size,none⟩ 1;exact ⟨hf.1,hf.2.1,hf.2.2,by rw [Lib.bytesWorld_size];omega,fun b hb _=>hold b hb,fun b arr hb=>⟨arr,hb.keep (hold b hb.lt),rfl⟩⟩
  refine oZ.newAt (G:=[]) (up:=[]) (gk:=some w.heap.size) hs hw ⟨rfl,rfl,rfl⟩ (.inl rfl) eU (.inl rfl) (fun b hb=>by injection hb with hb;left;omega) (fun b hb=>by injection hb with hb;subst hb;exact de.lt) (fun S' hS=>⟨_,de,?_⟩) ?_;refine fm.oL rfl (IZ fun j hj=> ?_);simp [Lib.bytesCells,hj,Array.getElem?_append];exact ⟨_,_,by simp [eF],by simp [eF];exact qU,de,by rw [Nm];simp [Ty.size],J1⟩
 rename_i el1 el2 c h1 h2;cases hb:(Nat.beq T U&&dy cx.P T) with
 |false=>rw [hb] at h;cases h
 |true=>
  rw [hb] at h;simp only [cond_true] at h;simp only [Bool.and_eq_true] at hb;have hTU:=bG hb.1;subst hTU;obtain ⟨e1,k1,k2⟩:=qX hb.2;split at h;rename_i t xs hl;split at h;rename_i ht;injection h with h;subst h;have I0:0<List.length xs:=hc.1;have cH:=hs.mem c _ hl;have bF:=hx.2.2 t xs (.inl hl);unfold gL at bF;unfold jf at cH;cases hg:g.f c [] with
  |none=>
   rw [hg] at cH;have:xs=[]:=cH;subst this;simp at I0
  |some b=>
   rw [show g c=some b from hg] at bF;rw [hg] at cH;obtain ⟨arr,jV,gF⟩:=cH;obtain ⟨cap,aG,e2,q1,q2,q3,q4⟩:=bF;have:=q2.eq jV;subst this;subst e2;have Xo:=jV;obtain ⟨T0,lo,hi,hh,_⟩:=Xo;have vr:w.shape? b=some (T0,aG.size):=by
    simp [World.shape?,hh]
   clear hh;have jX:(convert T T (.slice (some ⟨b,0,none⟩) (List.length xs) cap)).run cx.P w= .ok (.slice (some ⟨b,0,none⟩) (List.length xs) cap) (w.freeze ⟨b,aG.size,none⟩ 1):=by
    simp [convert,run_underlying k1,run_underlying k2,markStringish,vr]
   subst ht;refine ⟨_,_,jX,g,?_,?_⟩;have q:Km g st w (w.freeze ⟨b,aG.size,none⟩ 1) c b [] (.seq (.int .u8) xs) (.seq (.int .u8) xs):=
    ⟨hl,trivial,hg,Ec jV,⟨aG,aG,jV,p6 jV,rfl⟩,fun _ _=>trivial,by simp,fun t' cK e=>⟨cK,e,rfl⟩,fun t' cK e=>⟨cK,e,cy.refl _ _⟩⟩
   refine cX.qN hs q ?_;unfold jf;rw [hg];exact ⟨aG,p6 jV,.oL rfl fun i hi=>by
    obtain ⟨es,r1,r2⟩:=gF.IL rfl i hi;exact ⟨es,r1,r2⟩⟩
   refine ⟨by simp [aL],rfl,fun t' cK fb=> ?_⟩;have Cd:lk c ((c,Chunk.seq (.int .u8) xs)::st.mem)=some (.seq (.int .u8) xs):=by rw [aL,if_pos rfl]
   have fb:=dF.toSeq Cd fb;rw [Cd] at fb;injection fb with fb;injection fb with ht2 Qu;subst ht2;have Qu:=eq_of_heq Qu;subst Qu;unfold gL;rw [show g c=some b from hg];exact ⟨cap,aG,rfl,q1,p6 jV,q3,q4⟩
  cases h;cases h
 rename_i x0 _ _ _ el h1 h2;cases hb:(dy cx.P T&&nb st.mem x0) with
 |false=>rw [hb] at h;cases h
 |true=>
  rw [hb] at h;simp only [cond_true] at h;simp only [Bool.and_eq_true] at hb;obtain ⟨hb,Kl⟩:=hb;split at h;rename_i l hl;obtain ⟨e1,k1,k2⟩:=qX hb;rw [k1] at h1;injection h1 with h1;injection h1 with h1;subst h1;obtain ⟨news,Bl⟩:=Ce hs.mem hl Kl rfl hx;obtain ⟨ax,xk,ex,Qj⟩:=Bl.val;subst ex;refine aP.runs hs (aP.mk (aJ h) (r:= .string ⟨(tH l).toArray⟩) ?_ rfl);have TU:news=l.map (Value.int .u8):=by
   refine List.ext_getElem? fun j=> ?_;have Xp:news.length=l.length:=by have:=Bl.len;simpa [Ty.size] using this
   rcases Nat.lt_or_ge j l.length with hj|hj
   obtain ⟨es,q1,q2⟩:=Bl.IL j hj;have q2:es=[Value.int .u8 l[j]]:=q2;have:=q1 0 (by simp [Ty.size]);simp only [Ty.size,Nat.mul_one,Nat.add_zero,q2,List.getElem?_cons_zero] at this;have e3:(List.map (Value.int .u8) l)[j]? =some (.int .u8 l[j]):=by
    rw [List.getElem?_map,List.getElem?_eq_getElem hj];rfl
   rw [e3,this];rw [List.getElem?_eq_none (by omega),List.getElem?_eq_none (by simp;omega)]
  rw [run_convert_bytes_string w T U e1 ax l.length xk k1 k2 h2];have uo: ∀(l:List Int) (r:ByteArray),l.foldl (fun r n=>r.push (UInt8.ofNat n.toNat)) r=⟨r.data++(tH l).toArray⟩:=by
   intro l;induction l with
   |nil=>intro r;simp [tH]
   |cons n l ih=>intro r;rw [List.foldl_cons,ih];simp [tH,ByteArray.push]
  rcases Qj with h0|⟨ad,rfl,bA⟩
  have:l=[]:=List.eq_nil_of_length_eq_zero h0;subst this;cases ax with
  |none=>simp [Conv.bytesToString,tH];rfl
  |some ad=>simp [Conv.bytesToString,tH,loadCells,loadCellsFrom];rfl
  have hl:=run_loadCells_list (P:=cx.P) w ad (l.map (Value.int .u8)) (fun j v hj=>bA j v (by rw [TU];exact hj));simp only [List.length_map] at hl;rw [run_bytesToString w ad l.length xk _ hl,uo];simp;cases h
 exact aP.runs hs (yx h hx)
theorem p8 {w:World}{y:List UInt8}{n:Nat}(hn:n=y.length)(size:Nat):(Builtin.firstCells size n (.string ⟨y.toArray⟩)).run P w= .ok ((eF y).map (Value.int .u8)).toArray w:=by
 subst hn;have e:(⟨y.toArray⟩:ByteArray).extract 0 y.length=⟨y.toArray⟩:=by
  apply ByteArray.ext;simp
 simp only [Builtin.firstCells,e,Sem.run_pure];simp [eF]
theorem AK {t u ty e:TypeId}{i:TypeInfo}{z:Value}(ht:P.underlying t=some (.slice e))(hu:P.underlying u=some .string)(hi:P.info? e=some i)(hz:i.zero=some z){base:Option Addr}{n cap:Nat}{jW:List Value}(pd:jW.length=n*i.size)(ho:n=0∨ ∃ad,base=some ad∧ ∀j v,jW[j]? =some v→w.cell? (ad.add j)=some v){y:List UInt8}(hg:cap<n+y.length)(hb:(n+y.length)*i.bytes≤140737488355328)(h63:n+y.length≤9223372036854775807):
 (Builtin.append_ #[t,u] ty #[.slice base n cap,.string ⟨y.toArray⟩]).run P w=
  .ok (.slice (some ⟨w.heap.size,0,none⟩) (n+y.length) (grownCap w (n+y.length) cap e))
   (w.drew.alloc (.cells (jW.toArray++((eF y).map (Value.int .u8)).toArray++Builtin.zeroCells z.cells (grownCap w (n+y.length) cap e - (n+y.length))) e)):=by
 have lu: ¬(n+y.length≤cap):=by omega
 have Ki: ¬(9223372036854775807<((n:Int)+(y.length:Int))):=by omega
 have h48:=growslice_fits (old:=cap) hg hb;have Kj: ¬(281474976710656<Builtin.nextslicecap (n+y.length) cap*i.bytes):=by omega
 have hf:=p8 (P:=P) (w:=w.drew) (y:=y) (n:=y.length) rfl i.size;have Tw:=eT (P:=P) (w:=w.drew) (len:=n) (cap:=cap) pd ho;have eK:(⟨y.toArray⟩:ByteArray).size=y.length:=by simp [ByteArray.size]
 simp [Builtin.append_,run_underlying ht,run_underlying hu,sizeOf,typeInfo,zeroValue,hi,hz,Builtin.lenOf,eK,lu,Ki,Kj,Question.forced,hf,Tw,newRow,grownCap]
 congr 2
 apply Array.ext';simp [List.append_assoc]
theorem AL {t u ty e:TypeId}{i:TypeInfo}(ht:P.underlying t=some (.slice e))(hu:P.underlying u=some .string)(hi:P.info? e=some i)(TV:i.size=1){b n cap:Nat}{arr:Array Value}(hb:dc w b arr){y:List UInt8}(lu:n+y.length≤cap)(iU:(n+y.length)*i.size≤arr.size):
 ∃w' aG,(Builtin.append_ #[t,u] ty #[.slice (some ⟨b,0,none⟩) n cap,.string ⟨y.toArray⟩]).run P w= .ok (.slice (some ⟨b,0,none⟩) (n+y.length) cap) w'∧dc w' b aG∧
  aG.toList=arr.toList.take (n*i.size)++(eF y).map (Value.int .u8)++arr.toList.drop (n*i.size+y.length)∧bJ [b] w w'∧w'.heap.size=w.heap.size:=by
 have hf:=p8 (P:=P) (w:=w) (y:=y) (n:=y.length) rfl i.size;have eK:(⟨y.toArray⟩:ByteArray).size=y.length:=by simp [ByteArray.size]
 have hl:((eF y).map (Value.int .u8)).length=y.length:=by simp [eF]
 obtain ⟨w',aG,e,k1,k2,k3,k4⟩:=fF (P:=P) ((eF y).map (Value.int .u8)) (n*i.size) 0 w arr hb (by rw [hl,Nat.add_zero,TV];rw [TV] at iU;omega) (fun v hv=>by
  obtain ⟨x,_,rfl⟩:=List.mem_map.1 hv;rfl)
 rw [hl] at k2;refine ⟨w',aG,?_,k1,by simpa using k2,k3,k4⟩;have ha:(⟨b,0,none⟩:Addr).add (n*i.size)=⟨b,n*i.size,none⟩:=by rw [bP];simp
 simp [Builtin.append_,run_underlying ht,run_underlying hu,sizeOf,typeInfo,hi,Builtin.lenOf,eK,lu,hf,ha,e]
theorem AM {t u ty e:TypeId}{i:TypeInfo}(ht:P.underlying t=some (.slice e))(hu:P.underlying u=some .string)(hi:P.info? e=some i){base:Option Addr}:
 (Builtin.append_ #[t,u] ty #[.slice base 0 0,.string ⟨#[]⟩]).run P w= .ok (.slice base 0 0) w:=by
 have hf:=p8 (P:=P) (w:=w) (y:=[]) (n:=0) rfl i.size;have eK:(⟨#[]⟩:ByteArray).size=0:=rfl;have hf:(Builtin.firstCells i.size 0 (.string ⟨#[]⟩)).run P w= .ok #[] w:=hf;cases base<;>simp [Builtin.append_,run_underlying ht,run_underlying hu,sizeOf,typeInfo,hi,Builtin.lenOf,eK,hf,storeCells]
theorem yK {S':Nat→Prop}{w':World}{y:List UInt8}:fo S' w' (.int .u8) (eF y) ((eF y).map (Value.int .u8)):=fun i hi=>by
 refine ⟨[.int .u8 (eF y)[i]],fun j hj=> ?_,rfl⟩;have:j=0:=by simpa [Ty.size] using hj
 subst this;simp [Ty.size,hi]
theorem yL {T T':TypeId}{ty:TypeId}{s x:aD}{e:cf}{sv xv:Value}(h:cX cx g st a w)(hw:fE st.mem e.new)(he:pn cx.P st.mem st.nx T T' s x=some e)(hc:bB e.cond)(hs:VR g st.mem (cx.safe g st.mem w) w s sv)(hx:VR g st.mem (cx.safe g st.mem w) w x xv):j8 cx st a w (Builtin.append_ #[T,T'] ty #[sv,xv]) e:=by
 unfold pn at he;split at he;rename_i el y hu J2;have NT:=mw (g:=g) (m:=st.mem) (S:=cx.safe g st.mem w) (w:=w) hx;subst NT;split at he;rename_i i hi;cases hb:((dy cx.P T&&Nat.beq i.size 1)&&(Nat.ble i.bytes 32768&&i.zero.isSome)&&(i.zero.map fun z=>Nat.beq z.cells.size 1).getD false) with
 |false=>simp [hb] at he
 |true=>
  rw [hb] at he;simp only [cond_true] at he;simp only [Bool.and_eq_true] at hb;obtain ⟨⟨⟨hT,eK⟩,D1,TC⟩,HS⟩:=hb;have eK:=bG eK;have D1:=iT D1;obtain ⟨z,hz⟩:=Option.isSome_iff_exists.1 TC;rw [hz] at HS;have HS:z.cells.size=1:=bG (by simpa using HS);split at he;rename_i xs up Bk;injection he with he;subst he;have hlen:xs.length+y.length≤bg:=hc.1;unfold bg at hlen;obtain ⟨ot,W3⟩:=D0 h.mem Bk rfl hs;have tA:(xs.length+y.length)*i.bytes≤140737488355328:=by
   calc (xs.length+y.length)*i.bytes≤4294967296*32768:=Nat.mul_le_mul hlen D1
    _=140737488355328:=by decide
  have Nj:(eF y).length=y.length:=by simp [eF]
  have vC:((eF y).map (Value.int .u8)).length=y.length:=by simp [eF]
  have grow: ∀(base:Option Addr) (cap:Nat) (jW:List Value),jW.length=xs.length*i.size→(xs.length=0∨ ∃ad,base=some ad∧ ∀j v,jW[j]? =some v→w.cell? (ad.add j)=some v)→
   fo (cx.safe g st.mem w) w (.int .u8) xs jW→cap<xs.length+y.length→(up=[]∨ ∃c oN,up=[(c,.gone)]∧lk c st.mem=some oN∧oN≠ .gone)→
   j8 cx st a w (Builtin.append_ #[T,T'] ty #[.slice base xs.length cap,.string ⟨y.toArray⟩]) ⟨.one (.all st.nx),[(st.nx,.seq (.int .u8) (xs++eF y))],up,[List.length xs+List.length y≤bg]⟩:=by
   intro base cap jW FH ho gF cp ot;have qU:=grownCap_ge w (xs.length+y.length) cap el;have J1:=grownCap_le_maxLen w (xs.length+y.length) cap el (by unfold maxLen;omega);have hr:=AK (P:=cx.P) (ty:=ty) hu J2 hi hz FH ho cp tA (by omega);have eU:bJ [] w (w.drew.alloc (.cells (jW.toArray++((eF y).map (Value.int .u8)).toArray++Builtin.zeroCells z.cells (grownCap w (xs.length+y.length) cap el - (xs.length+y.length))) el)):=
    (bJ.drew [] w).trans (bJ.alloc _ _ _)
   have de:=dc.new w.drew (jW.toArray++((eF y).map (Value.int .u8)).toArray++Builtin.zeroCells z.cells (grownCap w (xs.length+y.length) cap el - (xs.length+y.length))) el;refine ⟨_,_,hr,?_⟩;refine oZ.newAt (G:=[]) (gk:=some w.heap.size) h hw ⟨rfl,rfl,rfl⟩ ot eU (.inl rfl) (fun b hb=>by injection hb with hb;left;omega) (fun b hb=>by injection hb with hb;subst hb;exact de.lt) (fun S' hS=>⟨_,de,?_⟩) ?_;refine fm.oL rfl (fo.toR ?_);simp only [Array.toList_append];have h1:fo S' (w.drew.alloc (.cells (jW.toArray++((eF y).map (Value.int .u8)).toArray++Builtin.zeroCells z.cells (grownCap w (xs.length+y.length) cap el - (xs.length+y.length))) el)) (.int .u8) xs jW:=fun i hi=>by
    obtain ⟨es,k1,k2⟩:=gF i hi;exact ⟨es,k1,bO.keep hS _ es _ k2⟩
   exact fo.app h1 (by rw [FH,eK];rfl) yK (by rw [vC,Nj];simp [Ty.size]);refine ⟨grownCap w (xs.length+y.length) cap el,_,?_,by rw [List.length_append,Nj];exact qU,de,?_,J1⟩;rw [List.length_append,Nj];simp only [Array.size_append,List.size_toArray,size_zeroCells,HS,FH,vC,eK,Ty.size];omega
  rcases W3 with ⟨W4,ab,eb⟩|⟨c,ch,b,cap,arr,e1,e2,e3,e4,e5,tz,de,iU,FX,gF⟩
  subst eb;subst W4;by_cases hy:y.length=0;have NC:y=[]:=List.eq_nil_of_length_eq_zero hy;subst NC;refine ⟨_,_,AM (P:=cx.P) hu J2 hi,?_⟩;exact oZ.newAt (G:=[]) (gk:=none) h hw ⟨rfl,rfl,rfl⟩ ot (bJ.refl _ _) (.inl rfl) (fun b hb=>by cases hb) (fun b hb=>by cases hb) (fun S' hS=>rfl) ⟨ab,rfl⟩;exact grow ab 0 [] (by simp) (.inl rfl) (fun i hi=>by simp at hi) (by simp;omega) ot;subst e5;by_cases lu:xs.length+y.length≤cap;have qV:(xs.length+y.length)*i.size≤arr.size:=by
   rw [eK];have:cap*(Ty.int .u8).size≤arr.size:=iU;simp only [Ty.size] at this;omega
  obtain ⟨w',aG,hr,jS,fb,gM,hs'⟩:=AL (P:=cx.P) (ty:=ty) hu J2 hi eK de lu qV;refine ⟨_,_,hr,?_⟩;refine oZ.newAt (G:=[b]) (gk:=some b) h hw ⟨rfl,rfl,rfl⟩ ot gM (.inr ⟨c,b,ch,e1,e2,e3,e4,rfl⟩) (fun b' o5=>by injection o5 with o5;subst o5;right;simp) (fun b' o5=>by injection o5 with o5;subst o5;exact jS.lt) (fun S' hS=>⟨aG,jS,?_⟩) ?_;refine fm.oL rfl (fo.toR ?_);rw [fb,eK];have h1:fo S' w' (.int .u8) xs (arr.toList.take (xs.length*1)):=fun i hi=>by
   obtain ⟨es,k1,k2⟩:=gF i hi;exact ⟨es,k1,bO.keep hS _ es _ k2⟩
  refine fo.app h1 ?_ yK (by rw [vC,Nj];simp [Ty.size]);rw [eK] at qV;simp [Ty.size];omega;refine ⟨cap,aG,by rw [List.length_append,Nj],by rw [List.length_append,Nj];exact lu,jS,?_,FX⟩;have:aG.size=arr.size:=by
   rw [←Array.length_toList,fb];rw [eK] at qV⊢;simp only [List.length_append,List.length_take,List.length_drop,vC,Array.length_toList];omega
  rw [this];exact iU;have hle:xs.length*1≤arr.size:=by
   have:cap*(Ty.int .u8).size≤arr.size:=iU;simp only [Ty.size] at this;omega
  exact grow _ cap (arr.toList.take (xs.length*1)) (by rw [eK];simp;omega) (.inr ⟨_,rfl,fun j v hj=>by
   rw [bP,de.cell];rw [List.getElem?_take] at hj;split at hj;simpa using hj;cases hj⟩) gF (by omega) ot
  cases he
 cases he;cases he
theorem Ed {lv:Option Value}{l h q:Int}{k1 k2:IntKind}{len cap:Nat}(hl:(lv=none∧l=0)∨ ∃k,lv=some (.int k l))(h0:0≤l)(h1:l≤h)(h2:h≤q)(h3:q≤(cap:Int)):
 (Instr.sliceBounds true len cap lv (some (.int k1 h)) (some (.int k2 q))).run P w= .ok (l.toNat,h.toNat,q.toNat) w:=by
 have e1:0≤q:=by omega
 have e2:0≤h:=by omega
 have e3:h≤((q.toNat:Nat):Int):=by omega
 have e4:l≤((h.toNat:Nat):Int):=by omega
 have e5:h≤max q 0:=by omega
 have e6:l≤max h 0:=by omega
 rcases hl with ⟨rfl,rfl⟩|⟨k,rfl⟩
 simp [Instr.sliceBounds,Instr.sliceBound,asIntOf,e1,e2,h3,e5];simp [Instr.sliceBounds,Instr.sliceBound,asIntOf,h0,e1,e2,h3,e5,e6]
theorem AN {T:TypeId}{x:aD}{lo hi mx:Option aD}{e:cf}{xa:Value}{lv hv qv:Option Value}(h:Co P T x lo hi mx=some e)(hc:bB e.cond)(hx:VR g m S w x xa)(pd:OR g m S w lo lv)(ui:OR g m S w hi hv)(J1:OR g m S w mx qv):aP P g m S w (Instr.sliceAt T xa lv hv qv) e:=by
 unfold Co at h;split at h;rename_i el t xs hu;split at h;rename_i l k2 h' k q hl;cases hb:(cY P el==some t.size) with
 |false=>simp [hb] at h
 |true=>
  rw [hb] at h;simp only [cond_true] at h;have hs:cY P el=some t.size:=by simpa using hb
  obtain ⟨he,ow⟩:=cO h;rw [ow] at hc;obtain ⟨⟨h0,h1,h2,h3⟩,_⟩:=hc;have h0:(0:Int)≤(l:Int):=h0;have h1: @LE.le Int _ l h':=h1;have h2: @LE.le Int _ h' q:=h2;have h3: @LE.le Int _ q ((List.length xs:Nat):Int):=h3;have fb:=rX hl pd;obtain ⟨a,cap,e1,tz,nf⟩:=(hx:bO S w (.sl t) [xa] xs);have NI:xa= .slice a (List.length xs) cap:=by simpa using e1
  subst NI;cases qv with
  |none=>exact J1.elim
  |some qv=>
   cases hv with
   |none=>exact ui.elim
   |some hv=>
    have hq:=eS (g:=g) (m:=m) (S:=S) (w:=w) J1;subst hq;have hh:=eS (g:=g) (m:=m) (S:=S) (w:=w) ui;subst hh;have jX:=Ed (P:=P) (w:=w) (k1:=k2) (k2:=k) (len:=List.length xs) (cap:=cap) fb h0 h1 h2 (by omega);refine aP.mk he (r:= .slice (if q.toNat=l.toNat then a else a.map (·.add (l.toNat*t.size))) (h'.toNat - l.toNat) (q.toNat - l.toNat)) ?_ ?_;simp [Instr.sliceAt,Instr.slice,run_underlying hu,jX,cG hs];have hlen:List.length (cut xs l h')=h'.toNat - l.toNat:=by unfold cut;simp;omega
    refine ⟨(if q.toNat=l.toNat then a else a.map (·.add (l.toNat*t.size))),q.toNat - l.toNat,by rw [hlen],by rw [hlen];omega,fun j hj=> ?_⟩;rw [hlen] at hj;obtain ⟨ad,es,ea,hS,bA,cN⟩:=nf (l.toNat+j) (by omega);subst ea;rw [if_neg (by omega)];refine ⟨ad.add (l.toNat*t.size),es,rfl,by rw [gV];exact hS,fun k u hu=> ?_,?_⟩;rw [add_add,←Nat.add_assoc,←Nat.add_mul];exact bA k u hu;rw [HP (by omega) (by omega)];exact cN
 cases h;cases h
end
end Go.Ide
namespace Go.Ide
def qa (P:Program)(nx:Nat)(T:TypeId)(t:Ty)(len:Nat)(parts:List (Nat×aD)):Option cf:=
 match P.underlying T with
 |some (.slice e)=>bif (cY P e==some t.size&&(((P.info? e).bind (·.zero)).map fun z=>Nat.beq z.cells.size t.size)==some true)&&(Nat.beq parts.length len&&Nat.ble (len*t.size) 65536) then
  (match vw t 0 parts with
  |some xs=>some ⟨.one (.aw (.sl t) xs),[],[],[]⟩
  |none=>none) else none
 |_=>none
section
variable {cx:Cx} {g:GM} {st:St} {a:Act} {w w':World}
theorem oZ.an {t:Ty}{xs:List t.D}{arr:Array Value}{el:TypeId}{e:cf}(h:cX cx g st a w)(he:e.new=[]∧e.l6=[]∧e.val= .one (.aw (.sl t) xs))(gF:fo (cx.safe g st.mem w) w t xs arr.toList):
 oZ cx st a e (.slice (some ⟨w.heap.size,0,none⟩) xs.length xs.length) (w.alloc (.cells arr el)):=by
 refine ⟨g,?_,?_⟩;rw [he.1,he.2.1];exact h.grow (bJ.alloc _ _ _);rw [he.1,he.2.1,he.2.2];have wK:(w.alloc (.cells arr el)).heap.size=w.heap.size+1:=by simp
 have di: ∀b,cx.safe g st.mem w b→cx.safe g st.mem (w.alloc (.cells arr el)) b:=fun b ⟨h1,h2,h3⟩=>⟨by rw [wK];omega,h2,h3⟩;have mV:cx.safe g st.mem (w.alloc (.cells arr el)) w.heap.size:=by
  refine ⟨by rw [wK];omega,fun hb=> ?_,?_⟩;have:=h.keep.size;omega;rintro ⟨k,p,ch,hk,hn,hg⟩;have:=h.lt k p ch _ hk hn hg;omega
 refine ⟨some ⟨w.heap.size,0,none⟩,xs.length,rfl,Nat.le_refl _,fun i hi=> ?_⟩;obtain ⟨es,k1,k2⟩:=gF.toR i hi;refine ⟨⟨w.heap.size,0,none⟩,es,rfl,mV,fun j v hj=> ?_,bO.keep (fun b hb=>⟨di b hb,RowKit.Below.heap_alloc w _ b hb.1⟩) t es _ k2⟩;rw [bP,(dc.new w arr el).cell];simpa using k1 j v hj
theorem tK {T:TypeId}{t:Ty}{len:Nat}{parts:List (Nat×aD)}{vparts:Array (Nat×Value)}{e:cf}(h:cX cx g st a w)(he:qa cx.P st.nx T t len parts=some e)(hp:bC (fun (p:Nat×aD) (q:Nat×Value)=>p.1=q.1∧VR g st.mem (cx.safe g st.mem w) w p.2 q.2) parts vparts.toList):j8 cx st a w (Instr.buildSlice T len vparts) e:=by
 unfold qa at he;split at he;rename_i el hu;cases hb:((cY cx.P el==some t.size&&(((cx.P.info? el).bind (·.zero)).map fun z=>Nat.beq z.cells.size t.size)==some true)&&(Nat.beq parts.length len&&Nat.ble (len*t.size) 65536)) with
 |false=>rw [hb] at he;cases he
 |true=>
  rw [hb] at he;simp only [cond_true] at he;simp only [Bool.and_eq_true,beq_iff_eq] at hb;obtain ⟨⟨hs,hz⟩,hn,NJ⟩:=hb;have hn:=bG hn;have NJ:=iT NJ;subst hn;split at he;rename_i xs hx;injection he with he;subst he;cases hi:cx.P.info? el with
  |none=>simp [cY,hi] at hs
  |some i=>
   rw [hi] at hz;simp only [Option.bind_some] at hz;cases yA:i.zero with
   |none=>simp [yA] at hz
   |some z=>
    rw [yA] at hz;have hz:Nat.beq z.cells.size t.size=true:=by simpa using hz
    have hz:=bG hz;let base:Array Value:=(Array.range (parts.length*t.size)).map fun k=>(if parts.length*t.size=0 then #[] else z.cells)[k%(if parts.length*t.size=0 then #[] else z.cells).size]!;have S3:base.size=parts.length*t.size:=by simp [base]
    obtain ⟨aG,news,e1,e2,e3,e4,e5⟩:=tB (g:=g) (m:=st.mem) (S:=cx.safe g st.mem w) (w:=w) (arr:=base) hx hp (by rw [S3,Nat.zero_add];exact Nat.le_refl _);have jX:(Instr.buildSlice T parts.length vparts).run cx.P w= .ok (.slice (some ⟨w.heap.size,0,none⟩) parts.length parts.length) (w.alloc (.cells aG el)):=by
     have F4: ¬(16777216<parts.length*t.size):=by omega
     by_cases h0:parts.length*t.size=0;have HU:Instr.fill (fun j=>some (j*t.size,t.size)) ((Array.range (parts.length*t.size)).map fun k=>(#[]:Array Value)[k%(#[]:Array Value).size]!) vparts.toList=some aG:=by
      have:=e1;simp only [base,h0,if_true] at this;rw [h0];exact this
     simp only [Instr.buildSlice,Sem.run_bind,run_underlying hu,Result.andThen_ok,cG hs];simp [h0,F4] at HU⊢;simp [HU,newRow];have HU:Instr.fill (fun j=>some (j*t.size,t.size)) ((Array.range (parts.length*t.size)).map fun k=>z.cells[k%z.cells.size]!) vparts.toList=some aG:=by
      have:=e1;simp only [base,h0,if_false] at this;exact this
     simp only [Instr.buildSlice,Sem.run_bind,run_underlying hu,Result.andThen_ok,cG hs];simp [h0,F4,zeroValue,typeInfo,hi,yA] at HU⊢;simp [HU,newRow]
    refine ⟨_,_,jX,?_⟩;have hlen:aG.toList=news:=by
     rw [e5,←e4];simp only [Nat.zero_mul,Nat.zero_add,List.take_zero,List.nil_append];rw [List.drop_of_length_le (by rw [Array.length_toList,S3];exact Nat.le_refl _)];simp
    rw [e4];exact oZ.an h ⟨rfl,rfl,rfl⟩ (by rw [hlen];exact e3)
  cases he
 cases he
end
def NU:List Bool→List RV→List RV
 |true::fs,r::rs=>⟨false,r.t.er,DG r.x⟩::NU fs rs
 |false::fs,r::rs=>r::NU fs rs
 |[],rs=>rs
 |_,[]=>[]
theorem gw.rep {S S':Nat→Prop}{w:World}(hS: ∀b,S b→S' b){t:Ty}{cs:List Value}{xs:List t.D}{A:List (List Nat→Option Nat)}(hA: ∀γ,γ∈A→ ∀p b,γ p=some b→S' b)(h:gw S w t cs xs A):bO S' w (.sl t) cs xs:=by
 rcases h with ⟨_,rfl,a,e⟩|⟨v,γ,eA,e,b,cap,arr,h0,ev,h1,h2,h3,h4,h5,h6⟩
 exact ⟨a,0,e,Nat.le_refl _,fun i hi=>by simp at hi⟩;subst e;subst ev;have hγ: ∀p b,γ p=some b→S' b:=hA γ (by rw [eA];simp);refine ⟨some ⟨b,0,none⟩,cap,rfl,h1,fun i hi=> ?_⟩;obtain ⟨es,k1,k2⟩:=h6.data hS hγ i hi;refine ⟨⟨b,0,none⟩,es,rfl,hγ [] b h0,fun j v hj=> ?_,k2⟩;rw [bP,h3.cell];simpa using k1 j v hj
theorem du.rep {S S':Nat→Prop}{w:World}(hS: ∀b,S b→S' b): ∀(t:Ty) {cs:List Value} {x:t.D} {A:List (List Nat→Option Nat)},(∀γ,γ∈A→ ∀p b,γ p=some b→S' b)→du S w t cs x A→bO S' w t cs x
 | .int _,_,_,_,_,h=>h.2
 | .aW _,_,_,_,_,h=>h.2
 | .bool,_,_,_,_,h=>h.2
 | .str,_,_,_,_,h=>h.2
 | .pair a b,_,_,_,hA,⟨c1,c2,A1,A2,e,eA,h1,h2⟩=>by
  subst e;subst eA;exact ⟨c1,c2,rfl,du.rep hS a (fun γ hγ=>hA γ (List.mem_append.2 (.inl hγ))) h1,du.rep hS b (fun γ hγ=>hA γ (List.mem_append.2 (.inr hγ))) h2⟩
 | .st t,_,_,_,hA,h=>du.rep hS t (cs:=_) hA h
 | .sl t,_,_,_,hA,h=>gw.rep hS hA h
 | .bx t,_,xs,_,hA,⟨γ,b,arr,eA,e,h0,h1,h2⟩=>by
  subst e;have hγ: ∀p b,γ p=some b→S' b:=hA γ (by rw [eA];simp);refine ⟨⟨b,0,none⟩,rfl,fun i hi=> ?_⟩;obtain ⟨es,k1,k2⟩:=h2.data hS hγ i hi;refine ⟨es,hγ [] b h0,fun j v hj=> ?_,k2⟩;rw [bP,h1.cell];simpa using k1 j v hj
 | .own t,_,_,_,hA,h=>gw.rep hS hA h
theorem yD.cases {S:Nat→Prop}{w:World}{r:RV}{v:Value}{F:List (List Nat→Option Nat)}(h:yD S w r v F):(r.fresh=true∧ ∃cs,dT r.t cs v∧du S w r.t cs r.x F)∨(r.fresh=false∧F=[]∧ ∃cs,dT r.t cs v∧bO S w r.t cs r.x):=by
 unfold yD at h;cases hf:r.fresh with
 |true=>rw [hf] at h;exact .inl ⟨rfl,h⟩
 |false=>rw [hf] at h;exact .inr ⟨rfl,h⟩
theorem yD.fr {S:Nat→Prop}{w:World}{r:RV}{v:Value}{F:List (List Nat→Option Nat)}(hf:r.fresh=true)(h: ∃cs,dT r.t cs v∧du S w r.t cs r.x F):yD S w r v F:=by
 unfold yD;rw [hf];exact h
theorem yD.im {S:Nat→Prop}{w:World}{r:RV}{v:Value}(hf:r.fresh=false)(h: ∃cs,dT r.t cs v∧bO S w r.t cs r.x):yD S w r v []:=by
 unfold yD;rw [hf];exact ⟨rfl,h⟩
theorem yD.up {S S':Nat→Prop}{w:World}(hS: ∀b,S b→S' b){r:RV}{v:Value}{F:List (List Nat→Option Nat)}(h:yD S w r v F):yD S' w r v F:=by
 rcases h.cases with ⟨hf,cs,h1,h2⟩|⟨hf,rfl,cs,h1,h2⟩
 exact yD.fr hf ⟨cs,h1,du.mono hS _ h2⟩;exact yD.im hf ⟨cs,h1,bO.keep (fun b hb=>⟨hS b hb,rfl⟩) _ _ _ h2⟩
theorem nv.up {S S':Nat→Prop}{w:World}(hS: ∀b,S b→S' b): ∀{rs:List RV} {vs:List Value} {F:List (List Nat→Option Nat)},nv S w rs vs F→nv S' w rs vs F
 |[],[],_,h=>h
 |_::_,_::_,_,⟨F1,F2,e,h1,h2⟩=>⟨F1,F2,e,h1.up hS,nv.up hS h2⟩
 |[],_::_,_,h=>h.elim
 |_::_,[],_,h=>h.elim
def TW (A A':List (List Nat→Option Nat))(b:Nat):Prop:=(∃γ,γ∈A∧ ∃p,γ p=some b)∧ ¬ ∃γ,γ∈A'∧ ∃p,γ p=some b
theorem pY.app {A1 A2:List (List Nat→Option Nat)}(h:pY (A1++A2)):pY A1∧pY A2∧ ∀γ γ' p q b,γ∈A1→γ'∈A2→γ p=some b→γ' q=some b→False:=by
 obtain ⟨h1,h2⟩:=h;obtain ⟨k1,k2,k3⟩:=List.pairwise_append.1 h1;exact ⟨⟨k1,fun γ hγ=>h2 γ (List.mem_append.2 (.inl hγ))⟩,⟨k2,fun γ hγ=>h2 γ (List.mem_append.2 (.inr hγ))⟩,fun γ γ' p q b m1 m2 e1 e2=>k3 γ m1 γ' m2 p q b e1 e2⟩
theorem Ee {t:Ty}{cs:List Value}{v:Value}(h:dT t cs v):dT t.er cs v:=by
 cases t<;>exact h
theorem nv.We {w:World}: ∀{fs:List Bool} {rs:List RV} {vs:List Value} {A:List (List Nat→Option Nat)} {S:Nat→Prop},nv S w rs vs A→pY A→ ∃A',A'.Sublist A∧ ∀S':Nat→Prop,(∀b,S b→S' b)→(∀b,TW A A' b→S' b)→nv S' w (NU fs rs) vs A':=by
 intro fs;induction fs with
 |nil=>
  intro rs vs A S h _;exact ⟨A,List.Sublist.refl _,fun S' hS _=>by cases rs<;>exact nv.up hS h⟩
 |cons f fs ih=>
  intro rs vs A S h xn;cases rs with
  |nil=>cases f<;>exact ⟨A,List.Sublist.refl _,fun S' hS _=>nv.up hS h⟩
  |cons r rs=>
   cases vs with
   |nil=>exact h.elim
   |cons v vs=>
    obtain ⟨A1,A2,e,h1,h2⟩:=h;subst e;obtain ⟨Bj,qI,TX⟩:=xn.app;obtain ⟨A',hs,hk⟩:=ih h2 qI;cases f with
    |true=>
     refine ⟨A',hs.trans (List.sublist_append_right _ _),fun S' hS hF=>⟨[],A',rfl,?_,hk S' hS fun b ⟨⟨γ,hγ,p,hp⟩,hn⟩=>hF b ⟨⟨γ,List.mem_append.2 (.inr hγ),p,hp⟩,hn⟩⟩⟩;rcases h1.cases with ⟨_,cs,q1,q2⟩|⟨_,_,cs,q1,q2⟩
     exact yD.im (r:=⟨false,r.t.er,DG r.x⟩) rfl ⟨cs,Ee q1,pU _ _ _ (du.rep hS r.t (fun γ hγ p b hp=>hF b ⟨⟨γ,List.mem_append.2 (.inl hγ),p,hp⟩,fun ⟨γ',Qv,q,hq⟩=>TX γ γ' p q b hγ (hs.subset Qv) hp hq⟩) q2)⟩;exact yD.im (r:=⟨false,r.t.er,DG r.x⟩) rfl ⟨cs,Ee q1,pU _ _ _ (bO.keep (fun b hb=>⟨hS b hb,rfl⟩) r.t cs _ q2)⟩
    |false=>
     refine ⟨A1++A',(List.Sublist.refl A1).append hs,fun S' hS hF=>⟨A1,A',rfl,h1.up hS,hk S' hS fun b ⟨⟨γ,hγ,p,hp⟩,hn⟩=>hF b ⟨⟨γ,List.mem_append.2 (.inr hγ),p,hp⟩,fun ⟨γ',Qv,q,hq⟩=> ?_⟩⟩⟩;rcases List.mem_append.1 Qv with hm|hm
     exact TX γ' γ q p b hm hγ hq hp;exact hn ⟨γ',hm,q,hq⟩
theorem i4.up {S S':Nat→Prop}{w:World}(hS: ∀b,S b→S' b): ∀{as:List Arg} {vs:List Value} {Fs:List (List (List Nat→Option Nat))} {os:List TD},i4 S w as vs Fs os→i4 S' w as vs Fs os
 |[],[],[],[],h=>h
 | .own t x::as,v::vs,F::Fs,o::os,⟨⟨e,cs,h1,h2,h3⟩,h⟩=>⟨⟨e,cs,h1,du.mono hS t h2,h3⟩,i4.up hS h⟩
 | .an _ _::as,_::vs,_::Fs,os,h=>i4.up (as:=as) (vs:=vs) (Fs:=Fs) (os:=os) hS h
 | .jk _ _::as,_::vs,_::Fs,os,h=>i4.up (as:=as) (vs:=vs) (Fs:=Fs) (os:=os) hS h
 | .fn _::as,_::vs,_::Fs,os,h=>i4.up (as:=as) (vs:=vs) (Fs:=Fs) (os:=os) hS h
 | .nr _ _ _::as,_::vs,_::Fs,os,h=>i4.up (as:=as) (vs:=vs) (Fs:=Fs) (os:=os) hS h
 | .mv _ _::as,_::vs,_::Fs,os,h=>i4.up (as:=as) (vs:=vs) (Fs:=Fs) (os:=os) hS h
 | .nl::as,_::vs,_::Fs,os,h=>i4.up (as:=as) (vs:=vs) (Fs:=Fs) (os:=os) hS h
 |[],[],[],_::_,h=>h.elim
 |[],[],_::_,_,h=>h.elim
 |[],_::_,_,_,h=>h.elim
 | .own _ _::_,[],_,_,h=>h.elim
 | .own _ _::_,_::_,[],_,h=>h.elim
 | .own _ _::_,_::_,_::_,[],h=>h.elim
 | .an _ _::_,[],_,_,h=>h.elim
 | .an _ _::_,_::_,[],_,h=>h.elim
 | .jk _ _::_,[],_,_,h=>h.elim
 | .jk _ _::_,_::_,[],_,h=>h.elim
 | .fn _::_,[],_,_,h=>h.elim
 | .nr _ _ _::_,[],_,_,h=>h.elim
 | .fn _::_,_::_,[],_,h=>h.elim
 | .nr _ _ _::_,_::_,[],_,h=>h.elim
 | .mv _ _::_,[],_,_,h=>h.elim
 | .mv _ _::_,_::_,[],_,h=>h.elim
 | .nl::_,[],_,_,h=>h.elim
 | .nl::_,_::_,[],_,h=>h.elim
def I1:List Arg→Bool
 |[]=>true
 | .mv _ _::_=>false
 |_::as=>I1 as
theorem vE.none {b:Nat}: ∀{as:List Arg} {Fs:List (List (List Nat→Option Nat))},I1 as=true→ ¬vE b as Fs
 |[],_,_,h=>by simp [vE] at h
 |_::_,[],_,h=>by simp [vE] at h
 |a::as,F::Fs,h,hb=>by
  cases a with
  |mv t x=>cases h
  |_=>exact vE.none (as:=as) (Fs:=Fs) h hb
theorem CallOK.We {P:Program}{f:FuncId}{args:List Arg}{rs:List RV}{outs:List TD}(fs:List Bool)(hm:I1 args=true)(h:CallOK P f args rs outs):CallOK P f args (NU fs rs) outs:=by
 refine ⟨h.1,fun w S vals As F hB hI h1 h3 h4 Wf=>(h.2 w S vals As F hB hI h1 h3 h4 Wf).mono fun e w' ⟨v,A,F',e1,jV,xn,⟨vs,hr,hv⟩,hF,hk,ho⟩=> ?_⟩;obtain ⟨A',hs,Xq⟩:=hr.We (fs:=fs) xn;obtain ⟨F2,Pv⟩:=mI (n:=w'.heap.size) (A:=A') (fun γ hγ p b hp=>(hF b ((jV b).2 ⟨γ,hs.subset hγ,p,hp⟩)).2);have tL: ∀b,b∈F2→b∈F':=fun b hb=>by
  obtain ⟨γ,hγ,hp⟩:=(Pv b).1 hb;exact (jV b).2 ⟨γ,hs.subset hγ,hp⟩
 have Pw: ∀b,kI S w w' F' b→kI S w w' F2 b:=fun b ⟨q1,q2,q3⟩=>⟨q1,q2,fun hm=>q3 (tL b hm)⟩;refine ⟨v,A',F2,e1,Pv,⟨xn.1.sublist hs,fun γ hγ=>xn.2 γ (hs.subset hγ)⟩,⟨vs,Xq _ Pw fun b ⟨hb,hn⟩=> ?_,hv⟩,fun b hb=>hF b (tL b hb),hk,ho.up Pw⟩;have jS:=(jV b).2 hb;exact ⟨(hF b jS).2,fun cp=>by
  rcases (hF b jS).1 with q|q
  omega;exact absurd q (vE.none hm),fun hm=>hn ((Pv b).1 hm)⟩
end Go.Ide
namespace Go.Ide
def yM (P:Program)(nx:Nat)(T T':TypeId)(t:Ty)(s x:aD):Option cf:=
 match P.underlying T,P.underlying T',s,x with
 |some (.slice e),some (.int _),.one .al,.one (.aw (.int _) n)=>(match P.info? e,HJ P e t with
  |some i,some z=>bif Nat.beq i.size t.size&&Nat.ble i.bytes 32768 then
   some ⟨.one (.all nx),[(nx,.seq t (List.replicate (Int.toNat n) z))],[],[(0:Int)≤n∧n≤4294967296]⟩ else none
  |_,_=>none)
 |_,_,_,_=>none
section
variable {cx:Cx} {g:GM} {st:St} {a:Act} {w:World} {P:Program}
theorem AO {t u ty e:TypeId}{i:TypeInfo}{z:Value}{ku k:IntKind}(ht:P.underlying t=some (.slice e))(hu:P.underlying u=some (.int ku))(hi:P.info? e=some i)(hz:i.zero=some z){base:Option Addr}{n:Nat}(hn:0<n)(eK:0<i.size)(hle:n≤4294967296)(D1:i.bytes≤32768):
 (Builtin.append_ #[t,u] ty #[.slice base 0 0,.int k (n:Int)]).run P w=
  .ok (.slice (some ⟨w.heap.size,0,none⟩) n (grownCap w n 0 e))
   (w.drew.alloc (.cells (Builtin.zeroCells z.cells n++Builtin.zeroCells z.cells (grownCap w n 0 e - n)) e)):=by
 have hb:n*i.bytes≤140737488355328:=by
  calc n*i.bytes≤4294967296*32768:=Nat.mul_le_mul hle D1
   _=140737488355328:=by decide
 have wl:IntKind.i64.wrap (n:Int)=n:=by rw [IntKind.wrap_i64];omega
 have n0: ¬((n:Int)<0):=by omega
 have o5: ¬(281474976710656<(n:Int)*(i.bytes:Int)):=by
  rw [←Int.natCast_mul];omega
 have lu: ¬(n≤0):=by omega
 have Qw: ¬(n=0):=by omega
 have Ki: ¬(9223372036854775807<(n:Int)):=by omega
 have h48:=growslice_fits (old:=0) (by omega) hb;have Kj: ¬(281474976710656<Builtin.nextslicecap n 0*i.bytes):=by omega
 have jg: ¬(n=0∨i.size=0):=by omega
 have I2: ¬(n*i.size=0):=by rw [Nat.mul_eq_zero];exact jg
 have Tw:(Builtin.firstCells i.size 0 (.slice base 0 0)).run P w.drew= .ok #[] w.drew:=by
  cases base<;>simp [Builtin.firstCells,loadCells,loadCellsFrom]
 simp [Builtin.append_,run_underlying ht,run_underlying hu,sizeOf,typeInfo,zeroValue,hi,hz,asInt,asIntOf,wl,n0,o5,Qw,Ki,Kj,jg,I2,Question.forced,Tw,newRow,grownCap]
theorem AP {t u ty e:TypeId}{i:TypeInfo}{ku k:IntKind}(ht:P.underlying t=some (.slice e))(hu:P.underlying u=some (.int ku))(hi:P.info? e=some i){base:Option Addr}:
 (Builtin.append_ #[t,u] ty #[.slice base 0 0,.int k 0]).run P w= .ok (.slice base 0 0) w:=by
 have wl:IntKind.i64.wrap 0=0:=by rw [IntKind.wrap_i64];omega
 cases base<;>simp [Builtin.append_,run_underlying ht,run_underlying hu,sizeOf,typeInfo,hi,asInt,asIntOf,wl,storeCells]
theorem yN {T T':TypeId}{ty:TypeId}{t:Ty}{s x:aD}{e:cf}{sv xv:Value}(h:cX cx g st a w)(hw:fE st.mem e.new)(he:yM cx.P st.nx T T' t s x=some e)(hc:bB e.cond)(hs:VR g st.mem (cx.safe g st.mem w) w s sv)(hx:VR g st.mem (cx.safe g st.mem w) w x xv):j8 cx st a w (Builtin.append_ #[T,T'] ty #[sv,xv]) e:=by
 unfold yM at he;split at he;rename_i el ku k n hu J2;have NT:=eS (g:=g) (m:=st.mem) (S:=cx.safe g st.mem w) (w:=w) hx;subst NT;obtain ⟨ab,Qx⟩:=hs;subst Qx;split at he;rename_i i z0 hi ta;cases hb:(Nat.beq i.size t.size&&Nat.ble i.bytes 32768) with
 |false=>simp [hb] at he
 |true=>
  rw [hb] at he;simp only [cond_true] at he;simp only [Bool.and_eq_true] at hb;have eK:=bG hb.1;have D1:=iT hb.2;injection he with he;subst he;obtain ⟨⟨h0,h1⟩,_⟩:=hc;obtain ⟨q,rfl⟩:=Int.eq_ofNat_of_zero_le (show (0:Int)≤n from h0);have hq:q≤4294967296:=by have:((q:Nat):Int)≤4294967296:=h1;omega
  unfold HJ at ta;rw [hi] at ta;cases yA:i.zero with
  |none=>simp [yA] at ta
  |some z=>
   simp only [yA] at ta;have cN: ∀(S':Nat→Prop) (w':World) (γ:List Nat→Option Nat),(∀p,γ p=none)→cW S' w' t γ 0 z.cells.toList z0:=fun S' w' γ hγ=>by
    split at ta;rename_i pf;obtain ⟨cs,hval,cN⟩:=pb (g:=⟨fun _ _=>none⟩) (m:=[]) (S:=S') (S2:=S') (fun _ h=>h) iZ.nil ta (xJ (w:=w') z);rw [qW hval cN];exact cW.qP t pf cN;split at ta;rename_i jT;split at ta;rename_i x hx;injection ta with ta;subst ta;obtain ⟨v1,v2,e,h1,h2⟩:=pg (g:=⟨fun _ _=>none⟩) (m:=[]) (S:=S') (w:=w') (γ:=γ) (o:=0) t hx (nR z jT) hγ;have:v2=[]:=by cases v2 with|nil=>rfl|cons=>exact h2.elim
    subst this;rw [List.append_nil] at e;rw [e];exact h1;cases ta;cases ta
   have uy:z.cells.size=t.size:=by rw [←Array.length_toList];exact cW.len t (cN (fun _=>True) w (fun _=>none) (fun _=>rfl))
   have hzp:=t.size_pos;simp only [Int.toNat_natCast];by_cases Xr:q=0;subst Xr;refine ⟨_,_,AP (P:=cx.P) hu J2 hi,?_⟩;exact oZ.newAt (G:=[]) (up:=[]) (gk:=none) h hw ⟨rfl,rfl,rfl⟩ (.inl rfl) (bJ.refl _ _) (.inl rfl) (fun b hb=>by cases hb) (fun b hb=>by cases hb) (fun S' hS=>rfl) ⟨ab,rfl⟩;have qU:=grownCap_ge w q 0 el;have J1:=grownCap_le_maxLen w q 0 el (by unfold maxLen;omega);refine ⟨_,_,AO (P:=cx.P) hu J2 hi yA (by omega) (by omega) hq D1,?_⟩;have de:=dc.new w.drew (Builtin.zeroCells z.cells q++Builtin.zeroCells z.cells (grownCap w q 0 el - q)) el;refine oZ.newAt (G:=[]) (up:=[]) (gk:=some w.heap.size) h hw ⟨rfl,rfl,rfl⟩ (.inl rfl) ((bJ.drew [] w).trans (bJ.alloc _ _ _)) (.inl rfl) (fun b hb=>by injection hb with hb;left;omega) (fun b hb=>by injection hb with hb;subst hb;exact de.lt) (fun S' hS=>⟨_,de,?_⟩) ?_;intro i' xi;simp only [List.length_replicate] at xi;refine ⟨z.cells.toList,fun j u hj=> ?_,?_⟩;have J0:j<t.size:=by rw [←uy,←Array.length_toList];exact (List.getElem?_eq_some_iff.1 hj).1
   have cp:i'*t.size+j<q*t.size:=by
    have:(i'+1)*t.size≤q*t.size:=Nat.mul_le_mul_right _ (by omega);rw [Nat.add_mul] at this;omega
   have yz:(i'*t.size+j)%t.size=j:=by rw [Nat.add_comm,Nat.mul_comm,Nat.add_mul_mod_self_left];exact Nat.mod_eq_of_lt J0
   rw [Array.getElem?_append_left (by rw [size_zeroCells,uy];exact cp)];have hjz:j<z.cells.size:=by rw [uy];exact J0
   simp only [Builtin.zeroCells,uy,Array.getElem?_map,Array.getElem?_range,cp,if_true,Option.map_some,yz];rw [getElem!_pos z.cells j hjz,←Array.getElem?_eq_getElem hjz,←Array.getElem?_toList];exact hj;simp only [List.getElem_replicate];exact cN _ _ _ (fun p=>rfl);refine ⟨grownCap w q 0 el,_,by simp,by simpa using qU,de,?_,J1⟩;simp only [Array.size_append,size_zeroCells,uy,←Nat.add_mul];exact Nat.mul_le_mul_right _ (by omega)
 cases he;cases he
end
end Go.Ide
namespace Go.Ide
theorem bC.Cp {α β:Type}{R:α→β→Prop}: ∀{as:List α} {bs:List β},as.length=bs.length→(∀(j:Nat) (a:α) (b:β),as[j]? =some a→bs[j]? =some b→R a b)→bC R as bs
 |[],[],_,_=>trivial
 |a::as,b::bs,hl,h=>⟨h 0 a b rfl rfl,bC.Cp (by simpa using hl) fun j a' b' h1 h2=>h (j+1) a' b' (by simpa using h1) (by simpa using h2)⟩
 |[],_::_,hl,_=>by simp at hl
 |_::_,[],hl,_=>by simp at hl
theorem bC.imp_mem {α β:Type}{R R':α→β→Prop}: ∀{as:List α} {bs:List β},(∀a,a∈as→ ∀b,R a b→R' a b)→bC R as bs→bC R' as bs
 |[],[],_,_=>trivial
 |a::as,b::bs,h,hr=>⟨h a (by simp) b hr.1,bC.imp_mem (fun a' ha'=>h a' (List.mem_cons_of_mem _ ha')) hr.2⟩
 |[],_::_,_,hr=>hr.elim
 |_::_,[],_,hr=>hr.elim
theorem uC: ∀(l:List Chunk) (n:Nat),(bI n l).map Prod.fst=List.range' n l.length
 |[],_=>rfl
 |_::r,n=>by simp [bI,uC r (n+1),List.range'_succ]
theorem po: ∀(t:Ty) (x:t.D) (n o:Nat),(eQ t x n).2.length=(bU t o).length
 | .pair a b,x,n,o=>by simp only [eQ,bU,List.length_append,po a _ _ o,po b _ _ (o+a.size)]
 | .st t,x,n,o=>po t x n o
 | .own _,_,_,_=>rfl
 | .int _,_,_,_=>rfl
 | .aW _,_,_,_=>rfl
 | .bool,_,_,_=>rfl
 | .str,_,_,_=>rfl
 | .sl _,_,_,_=>rfl
 | .bx _,_,_,_=>rfl
theorem ka: ∀(t:Ty) (o q:Nat),q∈bU t o→o≤q∧q<o+t.size
 | .pair a b,o,q,h=>by
  rcases List.mem_append.1 (show q∈bU a o++bU b (o+a.size) from h) with h|h
  have:=ka a o q h;simp only [Ty.size];omega;have:=ka b (o+a.size) q h;simp only [Ty.size];omega
 | .st t,o,q,h=>ka t o q h
 | .own _,o,q,h=>by simp [bU] at h;subst h;simp [Ty.size]
 | .int _,_,_,h=>by simp [bU] at h
 | .aW _,_,_,h=>by simp [bU] at h
 | .bool,_,_,h=>by simp [bU] at h
 | .str,_,_,h=>by simp [bU] at h
 | .sl _,_,_,h=>by simp [bU] at h
 | .bx _,_,_,h=>by simp [bU] at h
theorem mz: ∀(t:Ty) (o:Nat),(bU t o).Nodup
 | .pair a b,o=>by
  show (bU a o++bU b (o+a.size)).Nodup;rw [List.nodup_append];refine ⟨mz a o,mz b _,fun q hq q' yB e=> ?_⟩;have:=ka a o q hq;have:=ka b (o+a.size) q' yB;omega
 | .st t,o=>mz t o
 | .own _,o=>by simp [bU]
 | .int _,_=>by simp [bU]
 | .aW _,_=>by simp [bU]
 | .bool,_=>by simp [bU]
 | .str,_=>by simp [bU]
 | .sl _,_=>by simp [bU]
 | .bx _,_=>by simp [bU]
section
variable {S:Nat→Prop} {w:World}
theorem sy: ∀(t:Ty) {γ:List Nat→Option Nat} {o:Nat} {cs:List Value} {x:t.D} (n:Nat),cW S w t γ o cs x→ ∀(g':GM) (m':Mem),(∀j ch,(eQ t x n).2[j]? =some ch→lk (n+j) m'=some ch)→
 (∀j q,(bU t o)[j]? =some q→g'.f (n+j)=fun p=>γ (q::p))→
 bC (CR g' m' S w) (eQ t x n).1 cs∧ ∀j ch,(eQ t x n).2[j]? =some ch→(∃t' cK,ch= .seq t' cK)∧jf g' m' S w (g'.f (n+j)) ch
 | .pair a b,γ,o,_,x,n,⟨c1,c2,e,h1,h2⟩=>by
  subst e;intro g' m' hm hg;have la:=po a x.1 n o;obtain ⟨p1,q1⟩:=sy a n h1 g' m' (fun j ch hj=>hm j ch (by
   simp only [eQ];rw [List.getElem?_append_left (List.getElem?_eq_some_iff.1 hj).1];exact hj)) (fun j q hj=>hg j q (by
   show (bU a o++bU b (o+a.size))[j]? =_;rw [List.getElem?_append_left (List.getElem?_eq_some_iff.1 hj).1];exact hj))
  obtain ⟨p2,q2⟩:=sy b (n+(eQ a x.1 n).2.length) h2 g' m' (fun j ch hj=>by
   rw [Nat.add_assoc];refine hm _ ch ?_;simp only [eQ];rw [List.getElem?_append_right (by omega)];simpa using hj) (fun j q hj=>by
   rw [Nat.add_assoc];refine hg _ q ?_;show (bU a o++bU b (o+a.size))[_]? =_;rw [List.getElem?_append_right (by omega),la];simpa using hj)
  refine ⟨p1.append p2,fun j ch hj=> ?_⟩;simp only [eQ] at hj;by_cases cp:j<(eQ a x.1 n).2.length;rw [List.getElem?_append_left cp] at hj;exact q1 j ch hj;rw [List.getElem?_append_right (by omega)] at hj;have:=q2 _ ch hj;rw [Nat.add_assoc,show (eQ a x.1 n).2.length+(j - (eQ a x.1 n).2.length)=j from by omega] at this;exact this
 | .st t,γ,o,cs,x,n,h=>sy t (o:=o) (cs:=cs) (x:=x) n h
 | .own t,γ,o,cs,xs,n,⟨v,e,ha,hr⟩=>by
  subst e;intro g' m' hm hg;have hl:=hm 0 _ rfl;have mS:=hg 0 o rfl;rw [Nat.add_zero] at hl mS;have h0:g' n=γ [o]:=congrFun mS [];refine ⟨⟨⟨by rw [hl];simp,ha.one,fun t' cK fb=> ?_⟩,trivial⟩,fun j ch hj=> ?_⟩;have e:=dF.toSeq hl fb;rw [hl] at e;injection e with e;injection e with e1 e2;subst e1;have e2:=eq_of_heq e2;subst e2;rw [h0];exact ha;have:j=0:=by
   have:=(List.getElem?_eq_some_iff.1 hj).1;simp [eQ] at this;exact this
  subst this;simp [eQ] at hj;subst hj;refine ⟨⟨t,xs,rfl⟩,?_⟩;rw [Nat.add_zero,mS];unfold jf;cases hγ:γ [o] with
  |none=>rw [hγ] at hr;simp only [hγ];exact List.eq_nil_of_length_eq_zero hr
  |some b=>rw [hγ] at hr;obtain ⟨arr,hb,hi⟩:=hr;simp only [hγ];exact ⟨arr,hb,hi⟩
 | .int k,_,_,cs,x,n,h=>fun g' m' _ _=>by
  have h:cs=[.int k x]:=h;subst h;exact ⟨⟨rfl,trivial⟩,fun j ch hj=>by simp [eQ] at hj⟩
 | .aW k,_,_,cs,x,n,h=>fun g' m' _ _=>by
  obtain ⟨b,e,h⟩:=(h: ∃b,cs=[Value.float k b]∧bz k b=x);subst e;exact ⟨⟨⟨b,rfl,h⟩,trivial⟩,fun j ch hj=>by simp [eQ] at hj⟩
 | .bool,_,_,cs,x,n,h=>fun g' m' _ _=>by
  have h:cs=[.bool x]:=h;subst h;exact ⟨⟨rfl,trivial⟩,fun j ch hj=>by simp [eQ] at hj⟩
 | .str,_,_,cs,x,n,h=>fun g' m' _ _=>by
  have h:cs=[.string ⟨x.toArray⟩]:=h;subst h;exact ⟨⟨rfl,trivial⟩,fun j ch hj=>by simp [eQ] at hj⟩
 | .sl t,_,_,cs,x,n,h=>fun g' m' _ _=>by
  have hl:=bO.len (.sl t) cs x h;have h:bO S w (.sl t) cs x:=h
  match cs,hl,h with
  |[v],_,h=>exact ⟨⟨h,trivial⟩,fun j ch hj=>by simp [eQ] at hj⟩
 | .bx t,_,_,cs,x,n,h=>fun g' m' _ _=>by
  have hl:=bO.len (.bx t) cs x h;have h:bO S w (.bx t) cs x:=h
  match cs,hl,h with
  |[v],_,h=>exact ⟨⟨h,trivial⟩,fun j ch hj=>by simp [eQ] at hj⟩
end
def AQ (c i nx:Nat)(t:Ty)(xs:List t.D):Mem:=
 [(c,.o8 t xs i (eQ t (xs.getD i t.ga) nx).1 ((bI nx (eQ t (xs.getD i t.ga) nx).2).map Prod.fst))]
def tc (i nx:Nat)(t:Ty)(xs:List t.D):Mem:=bI nx (eQ t (xs.getD i t.ga) nx).2
section
variable {cx:Cx} {g:GM} {st:St} {a:Act} {w:World}
theorem cX.KC {c i:Nat}{t:Ty}{xs:List t.D}(h:cX cx g st a w)(hl:lk c st.mem=some (.seq t xs))(hi:i<xs.length)(hw:fE st.mem (tc i st.nx t xs)):
 ∃g',cX cx g' (st.l8 (AQ c i st.nx t xs++tc i st.nx t xs++st.mem) (st.nx+(tc i st.nx t xs).length)) a w∧
  na g g' st.mem (AQ c i st.nx t xs++tc i st.nx t xs++st.mem) (cx.safe g st.mem w) (cx.safe g' (AQ c i st.nx t xs++tc i st.nx t xs++st.mem) w) w w:=by
 let ov:=(eQ t (xs.getD i t.ga) st.nx).2;let KD:=bU t 0;have my:ov.length=KD.length:=po t _ _ 0;let g':GM:=⟨fun k=>if st.nx≤k then (match KD[k - st.nx]? with|some q=>fun p=>g.f c (i::q::p)|none=>g.f k) else g.f k⟩;have uA: ∀j,j<ov.length→lk (st.nx+j) st.mem=none:=fun j hj=>by
  have FG:(st.nx+j,ov[j])∈tc i st.nx t xs:=
   kJ (by show lk _ (bI st.nx ov)=_;rw [dU,if_pos (by omega),show st.nx+j - st.nx=j from by omega];exact List.getElem?_eq_getElem hj)
  exact hw _ FG
 let m':Mem:=AQ c i st.nx t xs++tc i st.nx t xs++st.mem;have hold: ∀k,lk k st.mem≠none→st.nx≤k→ov.length≤k - st.nx:=fun k jg hle=>by
  rcases Nat.lt_or_ge (k - st.nx) ov.length with cp|qU
  exact absurd (by have:=uA _ cp;rwa [show st.nx+(k - st.nx)=k from by omega] at this) jg;exact qU
 have pZ: ∀k,lk k st.mem≠none→g'.f k=g.f k:=fun k jg=>by
  show (if st.nx≤k then _ else _)=_;by_cases hle:st.nx≤k;rw [if_pos hle,List.getElem?_eq_none (by rw [←my];exact hold k jg hle)];rw [if_neg hle]
 have nW: ∀j q,KD[j]? =some q→g'.f (st.nx+j)=fun p=>g.f c (i::q::p):=fun j q hj=>by
  show (if st.nx≤st.nx+j then _ else _)=_;rw [if_pos (by omega),show st.nx+j - st.nx=j from by omega,hj]
 have Qy:lk c st.mem≠none:=by rw [hl];simp
 have TY:lk c m'=some (.o8 t xs i (eQ t (xs.getD i t.ga) st.nx).1 ((bI st.nx ov).map Prod.fst)):=by
  show lk c (_++_++_)=_;rw [bN,bN];show (((lk c [(c,_)]).or _).or _)=_;rw [aL,if_pos rfl];rfl
 have Cm: ∀j ch,ov[j]? =some ch→lk (st.nx+j) m'=some ch:=fun j ch hj=>by
  have jg:st.nx+j≠c:=fun e=>Qy (by rw [←e];exact uA j (List.getElem?_eq_some_iff.1 hj).1);show lk _ (_++_++_)=_;rw [bN,bN];show (((lk _ [(c,_)]).or (lk _ (bI st.nx ov))).or _)=_;rw [aL,if_neg jg,gE,dU,if_pos (by omega),show st.nx+j - st.nx=j from by omega,hj];rfl
 have vG: ∀k,k≠c→lk k st.mem≠none→lk k m'=lk k st.mem:=fun k hk jg=>by
  have Xg:lk k (bI st.nx ov)=none:=by
   rw [dU];by_cases hle:st.nx≤k;rw [if_pos hle];exact List.getElem?_eq_none (hold k jg hle);rw [if_neg hle]
  show lk _ (_++_++_)=_;rw [bN,bN];show (((lk _ [(c,_)]).or (lk _ (bI st.nx ov))).or _)=_;rw [aL,if_neg hk,gE,Xg];simp
 have vH: ∀k ch,lk k m'=some ch→lk k st.mem=none→ ∃j,k=st.nx+j∧ov[j]? =some ch:=fun k ch hk uw=>by
  have jg:k≠c:=fun e=>Qy (by rw [←e];exact uw);have hk:lk k (AQ c i st.nx t xs++tc i st.nx t xs++st.mem)=some ch:=hk;rw [bN,bN] at hk;have hk:(((lk k [(c,_)]).or (lk k (bI st.nx ov))).or (lk k st.mem))=some ch:=hk;rw [aL,if_neg jg,gE,dU,uw] at hk;by_cases hle:st.nx≤k;rw [if_pos hle] at hk;refine ⟨k - st.nx,by omega,?_⟩;cases hx:ov[k - st.nx]? with
  |none=>rw [hx] at hk;simp at hk
  |some c0=>rw [hx] at hk;simpa using hk
  rw [if_neg hle] at hk;simp at hk
 have Qz: ∀j ch,ov[j]? =some ch→ ∃q,KD[j]? =some q:=fun j ch hj=>
  ⟨KD[j]'(by rw [←my];exact (List.getElem?_eq_some_iff.1 hj).1),List.getElem?_eq_getElem _⟩
 have di: ∀b,cx.safe g st.mem w b→cx.safe g' m' w b:=fun b ⟨h1,h2,h3⟩=>by
  refine ⟨h1,h2,?_⟩;rintro ⟨k,p,ch,hk,hn,hg⟩;cases ho:lk k st.mem with
  |none=>
   obtain ⟨j,e,hj⟩:=vH k ch hk ho;subst e;obtain ⟨q,hq⟩:=Qz j ch hj;rw [nW j q hq] at hg;exact h3 ⟨c,_,_,hl,trivial,hg⟩
  |some c0=>
   rw [pZ k (by rw [ho];simp)] at hg;by_cases e:k=c;subst e;exact h3 ⟨k,p,_,hl,trivial,hg⟩;rw [vG k e (by rw [ho];simp),ho] at hk;injection hk with hk;exact h3 ⟨k,p,c0,ho,by rw [hk];exact hn,hg⟩
 obtain ⟨G,hG⟩:=mI (n:=w.heap.size) (A:=[fun p=>g.f c (i::p)]) (fun γ hγ p b hp=>by
  simp at hγ;subst hγ;exact h.lt c _ _ b hl trivial hp)
 have Xs: ∀b,b∈G↔ ∃p,g.f c (i::p)=some b:=fun b=>by rw [hG b];simp
 have cH:=h.mem c _ hl;unfold jf at cH;cases Au:g.f c [] with
 |none=>rw [Au] at cH;have hn:xs=[]:=cH;subst hn;simp at hi
 |some bc=>
 rw [Au] at cH;obtain ⟨arr,de,gF⟩:=cH;obtain ⟨DJ,vB,HX,S4⟩:=gF.at_ hi;obtain ⟨mT,Xt⟩:=sy t st.nx (cW.keep (fun b hb=>⟨di b hb,rfl⟩) t (fun _ _ _=>rfl) S4) g' m' Cm (fun j q hj=>nW j q hj);have T:AE cx g g' st.mem m' w w G:=by
  refine ⟨bJ.refl _ _,fun b hb=> ?_,pZ,fun k ch ho=> ?_,fun k ch ho gM=> ?_⟩;obtain ⟨p,hp⟩:=(Xs b).1 hb;exact ⟨c,_,_,hl,trivial,hp⟩;by_cases e:k=c;subst e;rw [hl] at ho;injection ho with ho;subst ho;refine .inr (.inr ⟨by simp,_,TY,by simp,fun _ _=>trivial,fun t0 Qr e=> ?_,fun t0 Qr e=>(by cases e),fun p b arr _ _ hb=>⟨arr,hb,rfl⟩,?_⟩);rcases e with e|⟨_,_,_,e⟩
  cases e;injection e with e1 e2;subst e1;have e2:=eq_of_heq e2;subst e2;exact ⟨xs,.inl rfl,rfl⟩;rw [pZ k Qy];refine ⟨bC.Cp (by rw [List.length_map,qD];exact my.symm) fun j q k' hq gM=> ?_,bc,arr,Au,de,hi,fun j hj jg=> ?_,DJ,vB,HX,mT⟩;have NV:j<ov.length:=by rw [my];exact (List.getElem?_eq_some_iff.1 hq).1
  rw [uC,List.getElem?_range' NV] at gM;injection gM with gM;have gM:k'=st.nx+j:=by omega
  subst gM;exact ⟨by rw [Cm j _ (List.getElem?_eq_getElem NV)];simp,nW j q hq⟩;obtain ⟨es,k1,k2⟩:=gF j hj;exact ⟨es,k1,cW.keep (fun b hb=>⟨di b hb,rfl⟩) t (fun _ _ _=>rfl) k2⟩;refine .inl ⟨by rw [vG k e (by rw [ho];simp)];exact ho,fun p b hn H2 hbG=> ?_⟩;obtain ⟨p',hp'⟩:=(Xs b).1 hbG;exact e (h.jU k c p _ _ _ b ho hn hl trivial H2 hp').1;obtain ⟨j,e,hj⟩:=vH k ch gM ho;subst e;obtain ⟨q,hq⟩:=Qz j ch hj;refine ⟨(Xt j ch hj).2,fun p b _ H2=> ?_⟩;rw [nW j q hq] at H2;refine ⟨.inr ((Xs b).2 ⟨_,H2⟩),h.lt c _ _ b hl trivial H2,fun k' p' ji fi qI wI=> ?_⟩;cases DN:lk k' st.mem with
  |none=>
   obtain ⟨j2,e2,Ko⟩:=vH k' ji fi DN;subst e2;obtain ⟨q2,xu⟩:=Qz j2 ji Ko;rw [nW j2 q2 xu] at wI;have:=(h.jU c c _ _ _ _ b hl trivial hl trivial wI H2).2;injection this with _ this;injection this with e1 e2;subst e1;have Xu:j2=j:=by
    obtain ⟨l1,q1⟩:=List.getElem?_eq_some_iff.1 xu;obtain ⟨l2,q2'⟩:=List.getElem?_eq_some_iff.1 hq;exact (List.getElem_inj (mz t 0)).1 (q1.trans q2'.symm)
   exact ⟨by rw [Xu],e2⟩
  |some c0=>
   exfalso;rw [pZ k' (by rw [DN];simp)] at wI;by_cases e:k'=c;subst e;rw [TY] at fi;injection fi with fi;subst fi;have:=(h.jU k' k' _ _ _ _ b hl trivial hl trivial wI H2).2;exact qI q p this (List.mem_of_getElem? hq);rw [vG k' e (by rw [DN];simp),DN] at fi;injection fi with fi;subst fi;exact e (h.jU k' c _ _ _ _ b DN qI hl trivial wI H2).1
 exact ⟨g',h.AF T,T.stays⟩
end
end Go.Ide
namespace Go.Ide
def aD.lU:aD→Bool
 | .one c=> !c.wH
 | .agg cs=>cs.all fun c=> !c.wH
 | .FE ts=>ts.all fun t=>t.2.all fun c=> !c.wH
 | .DF=>true
 | .gv=>true
def Chunk.lU:Chunk→Bool
 | .box cs=>cs.all fun c=> !c.wH
 | .o8 _ _ _ cs _=>cs.all fun c=> !c.wH
 |_=>true
def Px (j:Nat):List Nat→Bool
 |[]=>false
 |a::l=>Nat.beq j a||Px j l
theorem uD {j:Nat}: ∀{l:List Nat},Px j l=true↔j∈l
 |[]=>by simp [Px]
 |a::l=>by simp [Px,uD (l:=l)]
def Py (c:Nat)(m:Mem):Bool:=m.all fun p=>match p.2 with
 | .o8 _ _ _ _ ks=>Nat.beq p.1 c|| !(Px c ks)
 |_=>true
def tN (fr:Fr):Fr:=fr.map fun p=>(p.1,bif p.2.lU then p.2 else .gv)
theorem yO: ∀(fr:Fr) (t:Nat),lk t (tN fr)=(lk t fr).map fun v=>bif v.lU then v else .gv
 |[],t=>rfl
 |(t',v)::fr,t=>by
  show lk t ((t',_)::tN fr)=_;rw [aL,aL,yO fr t];split<;>rfl
def eg:List aA→List Nat
 |[]=>[]
 | .all k::r=>k::eg r
 |_::r=>eg r
theorem nz: ∀{cs:List aA} {q k:Nat},cs[q]? =some (.all k)→k∈eg cs
 |[],q,k,h=>by simp at h
 |c::cs,0,k,h=>by simp at h;subst h;simp [eg]
 |c::cs,q+1,k,h=>by
  have:=nz (cs:=cs) (q:=q) (k:=k) (by simpa using h);cases c<;>simp [eg,this]
theorem uE: ∀{cs:List aA} {p q k:Nat},(eg cs).Nodup→cs[p]? =some (.all k)→cs[q]? =some (.all k)→p=q
 |[],p,q,k,_,h,_=>by simp at h
 |c::cs,0,0,k,_,_,_=>rfl
 |c::cs,0,q+1,k,hn,h1,h2=>by
  simp at h1;subst h1;simp only [eg,List.nodup_cons] at hn;exact absurd (nz (by simpa using h2)) hn.1
 |c::cs,p+1,0,k,hn,h1,h2=>by
  simp at h2;subst h2;simp only [eg,List.nodup_cons] at hn;exact absurd (nz (by simpa using h1)) hn.1
 |c::cs,p+1,q+1,k,hn,h1,h2=>by
  have xj:(eg cs).Nodup:=by cases c<;>simp [eg] at hn<;>first|exact hn|exact hn.2
  have h1:cs[p]? =some (.all k):=by simpa using h1
  have h2:cs[q]? =some (.all k):=by simpa using h2
  rw [uE xj h1 h2]
theorem uF: ∀(a b:List aA),eg (a++b)=eg a++eg b
 |[],_=>rfl
 |c::a,b=>by cases c<;>simp [eg,uF a b]
section
variable {m:Mem}
theorem wP: ∀(t:Ty) {cs r:List aA} {x:t.D} {ls:List Nat},lT m t cs=some ((x,ls),r)→ ∃c1,cs=c1++r∧c1.length=t.size∧ls=eg c1∧ ∀k∈ls,∃t' cK,lk k m=some (.seq t' cK):=by
 have qJ: ∀(t:Ty) (ht:t.size=1) (hf: ∀c x,eE [] t c=some x→eg [c]=[]) {cs r:List aA} {x:t.D} {ls:List Nat},(c9 [] t cs).map (fun p=>((p.1,([]:List Nat)),p.2))=some ((x,ls),r)→ ∃c1,cs=c1++r∧c1.length=t.size∧ls=eg c1∧ ∀k∈ls,∃t' cK,lk k m=some (.seq t' cK):=by
  intro t ht hf cs r x ls h;cases cs with
  |nil=>simp [c9] at h
  |cons c cs=>
   simp only [c9] at h;cases hd:eE [] t c with
   |none=>rw [hd] at h;simp at h
   |some y=>
    rw [hd] at h;simp at h;obtain ⟨⟨rfl,rfl⟩,rfl⟩:=h;exact ⟨[c],rfl,by simp [ht],(hf c y hd).symm,by simp⟩
 have Bs: ∀(t:Ty) c x,eE [] t c=some x→eg [c]=[]:=by
  intro t c x h;cases c<;>first|rfl|skip
  rename_i k;cases t<;>simp [eE,gE] at h
 intro t;induction t with
 |int k=>intro cs r x ls h;exact qJ _ rfl (Bs _) h
 |aW k=>intro cs r x ls h;exact qJ _ rfl (Bs _) h
 |bool=>intro cs r x ls h;exact qJ _ rfl (Bs _) h
 |str=>intro cs r x ls h;exact qJ _ rfl (Bs _) h
 |sl t _=>intro cs r x ls h;exact qJ _ rfl (Bs _) h
 |bx t _=>intro cs r x ls h;exact qJ _ rfl (Bs _) h
 |st t ih=>intro cs r x ls h;exact ih h
 |pair a b Qo Qp=>
  intro cs r x ls h;simp only [lT] at h;split at h;rename_i y k1 r1 h1;split at h;rename_i z k2 r2 h2;injection h with h;injection h with h3 h4;injection h3 with h5 h6;subst h4;subst h6;obtain ⟨c1,e1,l1,q1,s1⟩:=Qo h1;obtain ⟨c2,e2,l2,q2,s2⟩:=Qp h2;refine ⟨c1++c2,by rw [e1,e2,List.append_assoc],by simp [Ty.size,l1,l2],by rw [uF,q1,q2],fun k hk=> ?_⟩;rcases List.mem_append.1 hk with hk|hk
  exact s1 k hk;exact s2 k hk;cases h;cases h
 |own t _=>
  intro cs r x ls h;simp only [lT] at h;split at h;injection h with h;injection h with h3 h4;injection h3 with h5 h6;subst h4;subst h6;exact ⟨[.al],rfl,rfl,rfl,by simp⟩;rename_i c r';split at h;rename_i e xs hl;split at h;injection h with h;injection h with h3 h4;injection h3 with h5 h6;subst h4;subst h6;exact ⟨[.all c],rfl,rfl,rfl,fun k hk=>by simp at hk;subst hk;exact ⟨_,_,hl⟩⟩;cases h;cases h;cases h
variable {g:GM} {S S2:Nat→Prop} {w:World}
theorem I3 (hm:kY g m S w)(hS: ∀b,S b→S2 b): ∀(t:Ty) {γ:List Nat→Option Nat} {o:Nat} {cs r:List aA} {x:t.D} {ls:List Nat} {vs:List Value},lT m t cs=some ((x,ls),r)→bC (CR g m S w) cs vs→
 (∀q,o+q∈bU t o→ ∀k,cs[q]? =some (.all k)→ ∀p,γ ((o+q)::p)=g.f k p)→(∀q,o+q∈bU t o→cs[q]? =some .al→γ [o+q]=none)→
 ∃v1 v2,vs=v1++v2∧cW S2 w t γ o v1 x∧bC (CR g m S w) r v2:=by
 have qJ: ∀(t:Ty) (hp: ∀(γ:List Nat→Option Nat) (o:Nat) (cs:List Value) (x:t.D),bO S2 w t cs x→cW S2 w t γ o cs x) {γ:List Nat→Option Nat} {o:Nat} {cs r:List aA} {x:t.D} {ls:List Nat} {vs:List Value},
  (c9 [] t cs).map (fun p=>((p.1,([]:List Nat)),p.2))=some ((x,ls),r)→bC (CR g m S w) cs vs→ ∃v1 v2,vs=v1++v2∧cW S2 w t γ o v1 x∧bC (CR g m S w) r v2:=by
  intro t hp γ o cs r x ls vs h hr;cases cs with
  |nil=>simp [c9] at h
  |cons c cs=>
   cases vs with
   |nil=>exact hr.elim
   |cons v vs=>
    simp only [c9] at h;cases hd:eE [] t c with
    |none=>rw [hd] at h;simp at h
    |some y=>
     rw [hd] at h;simp at h;obtain ⟨⟨rfl,rfl⟩,rfl⟩:=h;exact ⟨[v],vs,rfl,hp γ o _ _ (qS hS iZ.nil hd hr.1),hr.2⟩
 intro t;induction t with
 |int k=>intro γ o cs r x ls vs h hr _ _;exact qJ (.int k) (fun _ _ _ _ h=>h) h hr
 |aW k=>intro γ o cs r x ls vs h hr _ _;exact qJ (.aW k) (fun _ _ _ _ h=>h) h hr
 |bool=>intro γ o cs r x ls vs h hr _ _;exact qJ (.bool) (fun _ _ _ _ h=>h) h hr
 |str=>intro γ o cs r x ls vs h hr _ _;exact qJ (.str) (fun _ _ _ _ h=>h) h hr
 |sl t _=>intro γ o cs r x ls vs h hr _ _;exact qJ (.sl t) (fun _ _ _ _ h=>h) h hr
 |bx t _=>intro γ o cs r x ls vs h hr _ _;exact qJ (.bx t) (fun _ _ _ _ h=>h) h hr
 |st t ih=>intro γ o cs r x ls vs h hr h1 h2;exact ih h hr h1 h2
 |pair a b Qo Qp=>
  intro γ o cs r x ls vs h hr hγ I4;simp only [lT] at h;split at h;rename_i y k1 r1 h1;split at h;rename_i z k2 r2 h2;injection h with h;injection h with h3 h4;injection h3 with h5 h6;subst h4;subst h5;obtain ⟨c1,e1,l1,_,_⟩:=wP a h1;obtain ⟨v1,v2,rfl,p1,q1⟩:=Qo (γ:=γ) (o:=o) h1 hr (fun q hq k hk p=>hγ q (List.mem_append.2 (.inl hq)) k hk p) (fun q hq hk=>I4 q (List.mem_append.2 (.inl hq)) hk);obtain ⟨v3,v4,rfl,p2,q2⟩:=Qp (γ:=γ) (o:=o+a.size) h2 q1 (fun q hq k hk p=>by
   have:=hγ (a.size+q) (List.mem_append.2 (.inr (by rw [←Nat.add_assoc];exact hq))) k (by rw [e1,List.getElem?_append_right (by omega),l1,Nat.add_sub_cancel_left];exact hk) p;rw [Nat.add_assoc];exact this) (fun q hq hk=>by
   have:=I4 (a.size+q) (List.mem_append.2 (.inr (by rw [←Nat.add_assoc];exact hq))) (by rw [e1,List.getElem?_append_right (by omega),l1,Nat.add_sub_cancel_left];exact hk);rw [Nat.add_assoc];exact this)
  exact ⟨v1++v3,v4,by simp,⟨v1,v3,rfl,p1,p2⟩,q2⟩;cases h;cases h
 |own t _=>
  intro γ o cs r x ls vs h hr hγ I4;simp only [lT] at h;have qY:o+0∈bU (.own t) o:=by simp [bU]
  split at h;injection h with h;injection h with h3 h4;injection h3 with h5 h6;subst h4;subst h5;cases vs with
  |nil=>exact hr.elim
  |cons v vs=>
   have h0:=I4 0 qY rfl;rw [Nat.add_zero] at h0;obtain ⟨a,ha⟩:=hr.1;subst ha;refine ⟨[_],vs,rfl,⟨_,rfl,?_,?_⟩,hr.2⟩;rw [h0];exact ⟨a,rfl⟩;rw [h0];rfl
  rename_i c r';split at h;rename_i e xs hl;split at h;rename_i he;subst he;injection h with h;injection h with h3 h4;injection h3 with h5 h6;subst h4;subst h5;cases vs with
  |nil=>exact hr.elim
  |cons v vs=>
   have h0:=hγ 0 qY c rfl;rw [Nat.add_zero] at h0;have hv:=hr.1.2.2 e xs (.inl hl);have cH:=hm c _ hl;unfold jf at cH;have V9:γ [o]=g.f c []:=h0 [];refine ⟨[v],vs,rfl,⟨v,rfl,?_,?_⟩,hr.2⟩;rw [V9];exact hv;rw [V9];cases hg:g.f c [] with
   |none=>rw [hg] at cH;have cH:xs=[]:=cH;show List.length xs=0;rw [cH];rfl
   |some b=>
    rw [hg] at cH;obtain ⟨arr,hb,gF⟩:=cH;refine ⟨arr,hb,fun i hi=> ?_⟩;obtain ⟨es,k1,k2⟩:=gF i hi;refine ⟨es,k1,?_⟩;have:(fun p=>γ (o::i::p))=fun p=>g.f c (i::p):=funext fun p=>h0 (i::p);rw [this];exact cW.keep (fun b hb=>⟨hS b hb,rfl⟩) e (fun _ _ _=>rfl) k2
  cases h;cases h;cases h
theorem CR.lU {g':GM}{m':Mem}{S':Nat→Prop}{w':World}(h:Stays0 g g' m m' S S' w w'){c:aA}(hn:(!c.wH)=true){v:Value}(hr:CR g m S w c v):CR g' m' S' w' c v:=
 CR.J9 h (by simpa using hn) hr
theorem VR.lU {g':GM}{m':Mem}{S':Nat→Prop}{w':World}(h:Stays0 g g' m m' S S' w w'): ∀{c:aD} (hn:c.lU=true) {v:Value},VR g m S w c v→VR g' m' S' w' c v
 | .one _,hn,_,hr=>CR.lU h hn hr
 | .agg cs,hn,_,⟨vs,e,hr⟩=>⟨vs,e,hr.imp_mem fun c hc _=>CR.lU h (List.all_eq_true.1 hn c hc)⟩
 | .FE ts,hn,_,⟨vs,e,hr⟩=>⟨vs,e,hr.imp_mem fun t ht v hc=>by
  have xj:=List.all_eq_true.1 hn t ht;unfold CV at hc⊢;split at hc;rename_i e2;obtain ⟨us,e',hu⟩:=hc;exact ⟨us,e',hu.imp_mem fun c hc _=>CR.lU h (List.all_eq_true.1 xj c hc)⟩;rename_i c e1 e2;rw [e2] at xj;exact CR.lU h (by simpa using xj) hc;exact hc.elim⟩
 | .DF,_,_,h=>h
 | .gv,_,_,_=>trivial
theorem cX.clean {cx:Cx}{st:St}{a:Act}(h:cX cx g st a w):cX cx g ⟨tN st.fr,st.mem,st.nx⟩ a w:=by
 refine ⟨h.defers,h.size,fun t v hl=> ?_,h.mem,h.jU,h.nO,h.lt,h.keep,h.own,h.gl⟩;have hl:lk t (tN st.fr)=some v:=hl;rw [yO] at hl;cases hx:lk t st.fr with
 |none=>rw [hx] at hl;cases hl
 |some u=>
  rw [hx] at hl;simp only [Option.map_some] at hl;injection hl with hl;subst hl;cases hn:u.lU with
  |true=>exact h.fr t u hx
  |false=>trivial
theorem Ef {k:Nat}{m:Mem}: ∀{ls:List Nat},lk k ((ls.map fun k=>(k,Chunk.gone))++m)=if k∈ls then some .gone else lk k m
 |[]=>by simp
 |q::ls=>by
  simp only [List.map_cons,List.cons_append];rw [aL,Ef (ls:=ls)];by_cases e:k=q;subst e;simp;rw [if_neg e];simp [e]
end
end Go.Ide
namespace Go.Ide
def yP (m:Mem)(nx:Nat):aD→Option (Mem×Mem×Prop)
 | .one (.dI c i sz _)=>match lk c m with
  |some (.seq t xs)=>bif Nat.beq sz t.size then some (AQ c i nx t xs,tc i nx t xs,i<xs.length) else none
  |_=>none
 |_=>none
def Cq (P:Program)(m:Mem)(nx:Nat)(T:TypeId)(v:aD):Option cf:=
 match yP m nx v with
 |some (u,n,p)=>(match pa P (u++n++m) T v with
  |some e=>some ⟨e.val,n,u,[p]⟩
  |none=>none)
 |none=>none
def xL (P:Program)(m:Mem)(nx:Nat)(T:TypeId)(v x:aD):Option cf:=
 match yP m nx v with
 |some (u,n,p)=>(match pS P (u++n++m) T v x with
  |some e=>some ⟨.gv,n,e.l6++u,[p]⟩
  |none=>none)
 |none=>none
theorem yQ {m:Mem}{nx:Nat}{v:aD}{u n:Mem}{p:Prop}(h:yP m nx v=some (u,n,p)):
 ∃c i sz off t xs,v= .one (.dI c i sz off)∧lk c m=some (.seq t xs)∧u=AQ c i nx t xs∧n=tc i nx t xs∧p=(i<xs.length):=by
 unfold yP at h;split at h;rename_i c i sz off;split at h;rename_i t xs hl;cases hb:Nat.beq sz t.size with
 |false=>rw [hb] at h;cases h
 |true=>
  rw [hb] at h;simp only [cond_true] at h;injection h with h;injection h with h1 h;injection h with h2 h3;exact ⟨c,i,sz,off,t,xs,rfl,hl,h1.symm,h2.symm,h3.symm⟩
 cases h;cases h
theorem H7 {c i nx:Nat}{t:Ty}{xs:List t.D}{l:Mem}: ∃cs ks,lk c (AQ c i nx t xs++l)=some (.o8 t xs i cs ks):=by
 refine ⟨(eQ t (xs.getD i t.ga) nx).1,(bI nx (eQ t (xs.getD i t.ga) nx).2).map Prod.fst,?_⟩;show lk c ((c,_)::l)=_;rw [aL,if_pos rfl]
theorem Gc {P:Program}{m:Mem}{T:TypeId}{c i sz off:Nat}{t:Ty}{xs:List t.D}{cs:List aA}{ks:List Nat}{e:cf}(hl:lk c m=some (.o8 t xs i cs ks))(h:pa P m T (.one (.dI c i sz off))=some e):bB e.cond:=by
 unfold pa at h;split at h;rename_i c' i' H8 ei n ag ha hs hag;injection ha with ha;injection ha with e1 e2 e3 e4;subst e1;subst e2;subst e3;subst e4;rw [hl] at h;simp only at h;cases hb:(Nat.ble (off+n) t.size&&Nat.beq sz t.size) with
 |false=>rw [hb] at h;cases h
 |true=>
  rw [hb] at h;simp only [cond_true] at h;split at h;obtain ⟨_,hc⟩:=cO h;rw [hc];exact ⟨by simp,trivial⟩;cases h
 rename_i e1 _ _;cases e1;rename_i DL _ _ _ e1 _ _;injection e1 with e1;subst e1;simp [ns] at h;cases h
theorem Eg {P:Program}{m:Mem}{T:TypeId}{c i sz off:Nat}{t:Ty}{xs:List t.D}{cs:List aA}{ks:List Nat}{x:aD}{e:cf}(hl:lk c m=some (.o8 t xs i cs ks))(h:pS P m T (.one (.dI c i sz off)) x=some e):bB e.cond∧e.new=[]∧e.val= .gv:=by
 unfold pS at h;split at h;rename_i e1 _;cases e1;rename_i c' i' H8 ei n ha hs;injection ha with ha;injection ha with e1 e2 e3 e4;subst e1;subst e2;subst e3;subst e4;rw [hl] at h;simp only at h;cases hb:((Nat.beq x.cells.length n&&Nat.ble (off+n) t.size)&&(Nat.beq sz t.size&&x.ok)) with
 |false=>rw [hb] at h;cases h
 |true=>
  rw [hb] at h;simp only [cond_true] at h;injection h with h;subst h;exact ⟨⟨by simp,trivial⟩,rfl,rfl⟩
 rename_i e1 _;cases e1;cases h
section
variable {cx:Cx} {g:GM} {st:St} {a:Act} {w:World}
theorem Cr {T:TypeId}{v:aD}{e:cf}{va:Value}(h:cX cx g st a w)(hw:fE st.mem e.new)(he:Cq cx.P st.mem st.nx T v=some e)(hc:bB e.cond)(hr:VR g st.mem (cx.safe g st.mem w) w v va):j8 cx st a w (Instr.loadAt T va) e:=by
 unfold Cq at he;split at he;rename_i u n p hp;split at he;rename_i e1 yG;injection he with he;subst he;obtain ⟨c,i,sz,off,t,xs,rfl,hl,rfl,rfl,rfl⟩:=yQ hp;obtain ⟨g',hs,kF⟩:=h.KC hl hc.1 hw;obtain ⟨cs,ks,rZ⟩:=H7 (c:=c) (i:=i) (nx:=st.nx) (t:=t) (xs:=xs) (l:=tc i st.nx t xs++st.mem);rw [←List.append_assoc] at rZ;obtain ⟨_,_,r,h3,h4⟩:=qT hs.mem yG (Gc rZ yG) (VR.stays kF hr);exact ⟨r,w,h3,g',hs,h4⟩;cases he;cases he
theorem AR {T:TypeId}{x v:aD}{e:cf}{xa va:Value}(h:cX cx g st a w)(hw:fE st.mem e.new)(he:xL cx.P st.mem st.nx T x v=some e)(hc:bB e.cond)(hx:VR g st.mem (cx.safe g st.mem w) w x xa)(hv:VR g st.mem (cx.safe g st.mem w) w v va):D3 cx st a w (Instr.storeAt T xa va) e:=by
 unfold xL at he;split at he;rename_i u n p hp;split at he;rename_i e1 yG;injection he with he;subst he;obtain ⟨c,i,sz,off,t,xs,rfl,hl,rfl,rfl,rfl⟩:=yQ hp;obtain ⟨g',hs,kF⟩:=h.KC hl hc.1 hw;obtain ⟨cs,ks,rZ⟩:=H7 (c:=c) (i:=i) (nx:=st.nx) (t:=t) (xs:=xs) (l:=tc i st.nx t xs++st.mem);rw [←List.append_assoc] at rZ;obtain ⟨q1,q2,q3⟩:=Eg rZ yG;obtain ⟨w',jX,g2,Cs,_⟩:=uz hs yG q1 (VR.stays kF hx) (VR.stays kF hv);refine ⟨w',jX,g2,?_,trivial⟩;rw [q2] at Cs;have Cs:cX cx g2 (st.l8 (e1.l6++[]++(AQ c i st.nx t xs++tc i st.nx t xs++st.mem)) (st.nx+(tc i st.nx t xs).length+0)) a w':=Cs;rw [List.append_nil] at Cs;show cX cx g2 (st.l8 ((e1.l6++AQ c i st.nx t xs)++tc i st.nx t xs++st.mem) (st.nx+(tc i st.nx t xs).length)) a w';rw [List.append_assoc,List.append_assoc];rw [List.append_assoc] at Cs;exact Cs;cases he;cases he
def Hint.wQ:Hint→Bool
 | .o8=>true
 |_=>false
def qZ (P:Program)(m:Mem)(nx:Nat)(h:Hint)(T:TypeId)(v:aD):Option cf:=bif h.wQ then Cq P m nx T v else pa P m T v
def sC (P:Program)(m:Mem)(nx:Nat)(h:Hint)(T:TypeId)(v x:aD):Option cf:=bif h.wQ then xL P m nx T v x else pS P m T v x
theorem Ct {hh:Hint}{T:TypeId}{v:aD}{e:cf}{va:Value}(h:cX cx g st a w)(hw:fE st.mem e.new)(he:qZ cx.P st.mem st.nx hh T v=some e)(hc:bB e.cond)(hr:VR g st.mem (cx.safe g st.mem w) w v va):j8 cx st a w (Instr.loadAt T va) e:=by
 unfold qZ at he;cases hb:hh.wQ with
 |true=>rw [hb] at he;exact Cr h hw he hc hr
 |false=>rw [hb] at he;exact (qT h.mem he hc hr).runs h
theorem AS {hh:Hint}{T:TypeId}{x v:aD}{e:cf}{xa va:Value}(h:cX cx g st a w)(hw:fE st.mem e.new)(he:sC cx.P st.mem st.nx hh T x v=some e)(hc:bB e.cond)(hx:VR g st.mem (cx.safe g st.mem w) w x xa)(hv:VR g st.mem (cx.safe g st.mem w) w v va):D3 cx st a w (Instr.storeAt T xa va) e:=by
 unfold sC at he;cases hb:hh.wQ with
 |true=>rw [hb] at he;exact AR h hw he hc hx hv
 |false=>rw [hb] at he;exact uz h he hc hx hv
end
end Go.Ide
namespace Go.Ide
def Bt (m:Mem):aD→Option (Nat×Nat×Nat)
 | .one (.all c)=>(match lk c m with
  |some (.seq _ xs)=>some (c,0,xs.length)
  |_=>none)
 | .one (.ref c off len)=>some (c,off,len)
 |_=>none
def Bu (P:Program)(m:Mem)(T:TypeId)(x y:aD):Option cf:=
 match P.underlying T,Bt m x with
 |some (.slice e),some (c,off,len)=>(match lk c m with
  |some (.seq t xs)=>bif (cY P e==some t.size&&t.top)&&nb m y then
   (match lZ m (.sl t) y with
   |some ys=>some ⟨.one (.aw (.int .i64) ((Nat.min (List.length ys) len:Nat):Int)),[],[(c,.seq t (xs.take off++(List.take (Nat.min (List.length ys) len) ys:List t.D)++xs.drop (off+Nat.min (List.length ys) len)))],[]⟩
   |none=>none) else none
  |_=>none)
 |_,_=>none
section
variable {g:GM} {m:Mem} {S:Nat→Prop} {w:World}
theorem fo.drop {t:Ty}{xs:List t.D}{l:List Value}{n:Nat}(h:fo S w t xs l):fo S w t (xs.drop n) (l.drop (n*t.size)):=fun i hi=>by
 simp only [List.length_drop] at hi;obtain ⟨es,h1,h2⟩:=h (n+i) (by omega);refine ⟨es,fun j hj=> ?_,by rw [List.getElem_drop];exact h2⟩;rw [List.getElem?_drop,←Nat.add_assoc,←Nat.add_mul];exact h1 j hj
theorem I5 (hm:kY g m S w){x:aD}{xa:Value}{c off len:Nat}{t:Ty}{xs:List t.D}(h:Bt m x=some (c,off,len))(hl:lk c m=some (.seq t xs))(hx:VR g m S w x xa):
 off+len≤xs.length∧ ∃a cap,xa= .slice a len cap∧(len=0∨ ∃b arr,g.f c []=some b∧a=some ⟨b,off*t.size,none⟩∧dc w b arr∧(off+len)*t.size≤arr.size):=by
 unfold Bt at h;split at h;rename_i c';split at h;rename_i t' cK fb;injection h with h;injection h with h1 h;injection h with h2 h3;subst h1;subst h2;rw [hl] at fb;injection fb with fb;injection fb with e1 e2;subst e1;have e2:=eq_of_heq e2;subst e2;subst h3;have hv:=hx.2.2 t xs (.inl hl);refine ⟨by omega,?_⟩;unfold gL at hv;cases hg:g c' with
 |none=>
  rw [hg] at hv;obtain ⟨a,ha⟩:=hv;have cH:=hm c' _ hl;unfold jf at cH;rw [show g.f c' []=none from hg] at cH;have cH:xs=[]:=cH;exact ⟨a,0,by rw [ha,cH];rfl,.inl (by rw [cH];rfl)⟩
 |some b=>
  rw [hg] at hv;obtain ⟨cap,arr,e,k1,k2,k3,_⟩:=hv;refine ⟨_,cap,e,.inr ⟨b,arr,hg,by rw [Nat.zero_mul],k2,?_⟩⟩;rw [Nat.zero_add];exact Nat.le_trans (Nat.mul_le_mul_right _ k1) k3
 cases h;rename_i c' ei I6;injection h with h;injection h with h1 h;injection h with h2 h3;subst h1;subst h2;subst h3;obtain ⟨hle,hv⟩:=hx.2.2 t xs (.inl hl);refine ⟨hle,?_⟩;rcases hv with ⟨h0,_,a,ha⟩|⟨b,cap,arr,hg,e,k1,k2,k3,_⟩
 exact ⟨a,0,by rw [ha,h0],.inl h0⟩;exact ⟨_,cap,e,.inr ⟨b,arr,hg,rfl,k2,Nat.le_trans (Nat.mul_le_mul_right _ (by omega)) k3⟩⟩;cases h
end
section
variable {cx:Cx} {g:GM} {st:St} {a:Act} {w:World}
theorem Eh {T T' ty:TypeId}{x y:aD}{e:cf}{xa ya:Value}(h:cX cx g st a w)(he:Bu cx.P st.mem T x y=some e)(hx:VR g st.mem (cx.safe g st.mem w) w x xa)(hy:VR g st.mem (cx.safe g st.mem w) w y ya):j8 cx st a w (Builtin.copy_ #[T,T'] ty #[xa,ya]) e:=by
 unfold Bu at he;split at he;rename_i el c off len hu hd;split at he;rename_i t xs hl;cases hb:((cY cx.P el==some t.size&&t.top)&&nb st.mem y) with
 |false=>rw [hb] at he;cases he
 |true=>
  rw [hb] at he;simp only [cond_true] at he;simp only [Bool.and_eq_true,beq_iff_eq] at hb;obtain ⟨⟨eK,pf⟩,Kl⟩:=hb;split at he;rename_i ys Xv;injection he with he;subst he;obtain ⟨hle,da,TZ,rfl,Cu⟩:=I5 h.mem hd hl hx;obtain ⟨news,Bl⟩:=Ce h.mem Xv Kl pf hy;obtain ⟨sa,QA,rfl,Xw⟩:=Bl.val;have Bj:Nat.min (List.length ys) len≤List.length ys:=Nat.min_le_left _ _;have qI:Nat.min (List.length ys) len≤len:=Nat.min_le_right _ _;generalize q8:Nat.min (List.length ys) len=n at Bj qI⊢;have vC:(news.take (n*t.size)).length=n*t.size:=by
   rw [List.length_take,Bl.len];exact Nat.min_eq_left (Nat.mul_le_mul_right _ Bj)
  have Xx:=eT (P:=cx.P) (w:=w) (size:=t.size) (n:=n) (a:=sa) (len:=List.length ys) (cap:=QA) vC (by
   rcases Xw with h0|⟨ad,e,hc⟩
   exact .inl (by omega);exact .inr ⟨ad,e,fun j v hj=>by
    rw [List.getElem?_take] at hj;split at hj;exact hc j v hj;cases hj⟩)
  have wK:(sizeOf el).run cx.P w= .ok t.size w:=cG eK;rcases Cu with h0|⟨b,arr,hg,rfl,de,iU⟩
  have DI:n=0:=by omega
  have jX:(Builtin.copy_ #[T,T'] ty #[.slice da len TZ,.slice sa (List.length ys) QA]).run cx.P w= .ok (.int .i64 ((n:Nat):Int)) w:=by
   have kF: ∀ad:Addr,(storeCells ad (news.take (n*t.size)).toArray.toList).run cx.P w= .ok () w:=fun ad=>by
    rw [DI];simp [storeCells]
   cases da with
   |none=>simp [Builtin.copy_,run_underlying hu,Builtin.lenOf,q8,wK,Xx,goInt]
   |some ad=>simp [Builtin.copy_,run_underlying hu,Builtin.lenOf,q8,wK,Xx,kF ad,goInt]
  refine ⟨_,w,jX,g,?_,rfl⟩;have H9:(xs.take off++(List.take n ys:List t.D)++xs.drop (off+n))=xs:=by
   rw [DI];simp
  show cX cx g (st.l8 ([(c,Chunk.seq t (xs.take off++(List.take n ys:List t.D)++xs.drop (off+n)))]++[]++st.mem) (st.nx+0)) a w;rw [H9];have rZ: ∀k,lk k ([(c,Chunk.seq t xs)]++[]++st.mem)=lk k st.mem:=fun k=>by
   show lk k ((c,_)::st.mem)=_;rw [aL];by_cases e:k=c;subst e;rw [if_pos rfl,hl];rw [if_neg e]
  exact h.AF (G:=[]) ⟨bJ.refl _ _,fun b hb=>(by simp at hb),fun _ _=>rfl,fun k ch hk=> .inl ⟨(rZ k).trans hk,fun _ b _ _ hb=>by simp at hb⟩,fun k ch hk gM=>by
   rw [rZ,hk] at gM;cases gM⟩
  have Pz:off*t.size+0+(news.take (n*t.size)).length≤arr.size:=by
   rw [vC,Nat.add_zero,←Nat.add_mul];exact Nat.le_trans (Nat.mul_le_mul_right _ (by omega)) iU
  have T1:=fo.nP Bl.IL Bl.len;obtain ⟨w',aG,kF,k1,k2,k3,k4⟩:=fF (P:=cx.P) (news.take (n*t.size)) (off*t.size) 0 w arr de Pz (fun v hv=>T1 v (List.mem_of_mem_take hv));rw [Nat.add_zero,vC] at k2;have jX:(Builtin.copy_ #[T,T'] ty #[.slice (some ⟨b,off*t.size,none⟩) len TZ,.slice sa (List.length ys) QA]).run cx.P w= .ok (.int .i64 ((n:Nat):Int)) w':=by
   have ab5:(storeCells ⟨b,off*t.size,none⟩ (news.take (n*t.size)).toArray.toList).run cx.P w= .ok () w':=kF;simp [Builtin.copy_,run_underlying hu,Builtin.lenOf,q8,wK,Xx,kF,goInt]
  have PA:(xs.take off++(List.take n ys:List t.D)++xs.drop (off+n)).length=xs.length:=by
   simp only [List.length_append,List.length_take,List.length_drop];omega
  have Qk:aG.size=arr.size:=by
   rw [←Array.length_toList,k2];simp only [List.length_append,vC,List.length_take,List.length_drop,Array.length_toList];rw [vC] at Pz;omega
  have q:Km g st w w' c b [] (.seq t xs) (.seq t (xs.take off++(List.take n ys:List t.D)++xs.drop (off+n))):=
   ⟨hl,trivial,hg,k3,⟨arr,aG,de,k1,Qk⟩,fun _ _=>trivial,by simp,fun t' cK e=>by
    obtain ⟨e,e2⟩:=si e;subst e;subst e2;exact ⟨xs,.inl rfl,PA.symm⟩,fun t' cK e=>by
    injection e with e1 e2;subst e1;have e2:=eq_of_heq e2;subst e2;exact ⟨xs,rfl,cy.top pf PA.symm⟩⟩
  refine ⟨_,w',jX,g,?_,rfl⟩;refine h.qN q ?_;have cH:=h.mem c _ hl;unfold jf at cH⊢;rw [hg] at cH⊢;obtain ⟨vv,wL,gF⟩:=cH;have:=wL.eq de;subst this;have di:=(q.stays (cx:=cx)).safe;have hL:fo (cx.safe g st.mem w) w t xs vv.toList:=(gF.IL pf).toL;refine ⟨aG,k1,.oL pf (fo.toR ?_)⟩;rw [k2];have keep: ∀{zs:List t.D} {l:List Value},fo (cx.safe g st.mem w) w t zs l→fo (cx.safe g ((c,Chunk.seq t (xs.take off++(List.take n ys:List t.D)++xs.drop (off+n)))::st.mem) w') w' t zs l:=fun hz i hi=>by
   obtain ⟨es,e1,e2⟩:=hz i hi;exact ⟨es,e1,bO.keep di t es _ e2⟩
  have T3:(vv.toList.take (off*t.size)).length=(xs.take off).length*t.size:=by
   rw [List.length_take,List.length_take,Array.length_toList,Nat.min_eq_left (show off≤xs.length by omega),Nat.min_eq_left];exact Nat.le_trans (Nat.mul_le_mul_right _ (by omega)) iU
  have hA:=fo.app (rest:=[]) (keep (hL.take (n:=off) (by omega))) T3 (keep (Bl.IL.take (n:=n) Bj)) (by rw [vC,List.length_take,Nat.min_eq_left Bj]);rw [List.append_nil] at hA;have Xy:(vv.toList.take (off*t.size)++news.take (n*t.size)).length=(xs.take off++(List.take n ys:List t.D)).length*t.size:=by
   rw [List.length_append,List.length_append,T3,vC,Nat.add_mul,List.length_take (l:=ys),Nat.min_eq_left Bj]
  have hdr:fo (cx.safe g st.mem w) w t (xs.drop (off+n)) (vv.toList.drop (off*t.size+n*t.size)):=by
   rw [←Nat.add_mul];exact hL.drop
  intro i hi;by_cases cp:i<(xs.take off++(List.take n ys:List t.D)).length;obtain ⟨es,e1,e2⟩:=hA i cp;refine ⟨es,fun j hj=> ?_,by rw [List.getElem_append_left cp];exact e2⟩;have hm:(i+1)*t.size≤(xs.take off++(List.take n ys:List t.D)).length*t.size:=Nat.mul_le_mul_right _ (by omega);rw [Nat.add_mul] at hm;rw [List.getElem?_append_left (by rw [Xy];omega)];exact e1 j hj;have Wg:i - (xs.take off++(List.take n ys:List t.D)).length<(xs.drop (off+n)).length:=by
   rw [List.length_append] at hi;omega
  obtain ⟨es,e1,e2⟩:=keep hdr _ Wg;refine ⟨es,fun j hj=> ?_,by rw [List.getElem_append_right (by omega)];exact e2⟩;obtain ⟨d,hd⟩: ∃d,i=(xs.take off++(List.take n ys:List t.D)).length+d:=⟨_,(Nat.add_sub_cancel' (by omega)).symm⟩;rw [hd,Nat.add_sub_cancel_left] at e1;rw [hd,Nat.add_mul,List.getElem?_append_right (by rw [Xy];omega),Xy];rw [show∀A B:Nat,A+B+j - A=B+j from fun A B=>by omega];exact e1 j hj;cases he
 cases he;cases he
end
end Go.Ide
namespace Go.Ide
def Bv (P:Program)(m:Mem)(nx:Nat)(T T':TypeId)(t:Ty)(s x:aD):Option cf:=
 match P.underlying T,s,x with
 |some (.slice e),.one s,.one (.all c2)=>(match P.info? e,lk c2 m with
  |some i,some (.seq t2 ys)=>bif ((Nat.beq T T'&&Nat.beq i.size t.size)&&(Nat.ble i.bytes 32768&&i.zero.isSome))&&(i.zero.map fun z=>Nat.beq z.cells.size t.size).getD false then
   (if h:t2=t then (match s with
    | .al=>some ⟨.one (.all nx),[(nx,.seq t ([]++cJ (a:= .sl t2) (b:= .sl t) (congrArg Ty.sl h) ys))],[(c2,.gone)],[0+List.length ys≤bg]⟩
    | .all c=>(match lk c m with
     |some (.seq t1 xs)=>if h1:t1=t then (bif !(Nat.beq c c2) then
      some ⟨.one (.all nx),[(nx,.seq t ((show List t.D from cJ (a:= .sl t1) (b:= .sl t) (congrArg Ty.sl h1) xs)++cJ (a:= .sl t2) (b:= .sl t) (congrArg Ty.sl h) ys))],[(c,.gone),(c2,.gone)],[List.length xs+List.length ys≤bg]⟩ else none) else none
     |_=>none)
    |_=>none) else none) else none
  |_,_=>none)
 |_,_,_=>none
def pq (P:Program)(m:Mem)(nx:Nat)(T T':TypeId)(t:Ty)(s x:aD):Option cf:=
 bif t.top then rQ P m nx T T' t s x else Bv P m nx T T' t s x
def sD (P:Program)(m:Mem)(nx:Nat)(T:TypeId)(t:Ty)(len:Nat)(parts:List (Nat×aD)):Option cf:=
 match P.underlying T,parts with
 |some (.slice e),[(0,v)]=>bif (cY P e==some t.size&&(((P.info? e).bind (·.zero)).map fun z=>Nat.beq z.cells.size t.size)==some true)&&(Nat.beq len 1&&Nat.ble t.size 65536)&&v.ok then
  (match lT m t v.cells with
  |some ((x,ks),[])=>bif l7 ks then some ⟨.one (.all nx),[(nx,.seq t [x])],ks.map fun k=>(k,.gone),[]⟩ else none
  |_=>none) else none
 |_,_=>none
def sE (P:Program)(m:Mem)(nx:Nat)(T:TypeId)(t:Ty)(len:Nat)(parts:List (Nat×aD)):Option cf:=
 bif t.top then qR P nx T t len parts else sD P m nx T t len parts
section
variable {S S':Nat→Prop} {w w':World}
theorem cW.nP: ∀(t:Ty) {γ:List Nat→Option Nat} {o:Nat} {cs:List Value} {x:t.D},cW S w t γ o cs x→ ∀v∈cs,v.oneCell'=true
 | .own t,γ,o,cs,xs,⟨v,e,ha,_⟩=>by
  subst e;intro u hu;simp only [List.mem_singleton] at hu;subst hu;unfold gL at ha;split at ha;obtain ⟨a,rfl⟩:=ha;rfl;obtain ⟨cap,arr,rfl,_⟩:=ha;rfl
 | .pair a b,γ,o,cs,x,⟨c1,c2,e,h1,h2⟩=>by
  subst e;intro u hu;rcases List.mem_append.1 hu with hu|hu
  exact cW.nP a h1 u hu;exact cW.nP b h2 u hu
 | .st t,γ,o,cs,x,hr=>cW.nP t (o:=o) (cs:=cs) (x:=x) hr
 | .int k,_,_,cs,x,hr=>bO.nP (.int k) hr
 | .aW k,_,_,cs,x,hr=>bO.nP (.aW k) hr
 | .bool,_,_,cs,x,hr=>bO.nP .bool hr
 | .str,_,_,cs,x,hr=>bO.nP .str hr
 | .sl t,_,_,cs,x,hr=>bO.nP (.sl t) hr
 | .bx t,_,_,cs,x,hr=>bO.nP (.bx t) hr
theorem fm.nP {γ:List Nat→Option Nat}{t:Ty}{xs:List t.D}{arr:Array Value}(h:fm S w γ t xs arr){k:Nat}{u:Value}(hk:k<xs.length*t.size)(hu:arr[k]? =some u):u.oneCell'=true:=by
 have eK:=t.size_pos;have hi:k/t.size<xs.length:=Nat.div_lt_of_lt_mul (by rw [Nat.mul_comm];omega);obtain ⟨es,h1,h2⟩:=h (k/t.size) hi;have hj:k%t.size<es.length:=by rw [cW.len t h2];exact Nat.mod_lt _ eK
 have h3:=h1 (k%t.size) _ (List.getElem?_eq_getElem hj);have fi:k/t.size*t.size+k%t.size=k:=by rw [Nat.mul_comm];exact Nat.div_add_mod k t.size
 rw [fi,hu] at h3;injection h3 with h3;rw [h3];exact cW.nP t h2 _ (List.getElem_mem hj)
theorem fm.nil {γ:List Nat→Option Nat}{t:Ty}{arr:Array Value}:fm S w γ t ([]:List t.D) arr:=fun i hi=>by simp at hi
theorem fm.glue {γ γ1 γ2:List Nat→Option Nat}{t:Ty}{xs ys:List t.D}{arr1 lP aG:Array Value}(h1:fm S w γ1 t xs arr1)(h2:fm S w γ2 t ys lP)(k: ∀b,S b→S' b∧w'.heap[b]? =w.heap[b]?)(e1: ∀i p,i<xs.length→γ (i::p)=γ1 (i::p))(e2: ∀i p,γ ((xs.length+i)::p)=γ2 (i::p))(q1: ∀i p b,γ1 (i::p)=some b→w'.heap[b]? =w.heap[b]?)(q2: ∀i p b,γ2 (i::p)=some b→w'.heap[b]? =w.heap[b]?)(a1: ∀j v,j<xs.length*t.size→arr1[j]? =some v→aG[j]? =some v)(a2: ∀j v,j<ys.length*t.size→lP[j]? =some v→aG[xs.length*t.size+j]? =some v):fm S' w' γ t (xs++ys) aG:=by
 intro i hi;by_cases hx:i<xs.length;obtain ⟨es,k1,k2⟩:=h1 i hx;refine ⟨es,fun j v hv=>a1 _ v ?_ (k1 j v hv),?_⟩;have hj:j<t.size:=by rw [←cW.len t k2];exact (List.getElem?_eq_some_iff.1 hv).1
 have:(i+1)*t.size≤xs.length*t.size:=Nat.mul_le_mul_right _ hx;rw [Nat.succ_mul] at this;omega;rw [List.getElem_append_left hx,show (fun p=>γ (i::p))=fun p=>γ1 (i::p) from funext fun p=>e1 i p hx];exact cW.keep k t (fun p b hp=>q1 i p b hp) k2;obtain ⟨j0,rfl⟩: ∃j0,i=xs.length+j0:=⟨i - xs.length,by omega⟩;have hy:j0<ys.length:=by rw [List.length_append] at hi;omega
 obtain ⟨es,k1,k2⟩:=h2 j0 hy;refine ⟨es,fun j v hv=> ?_,?_⟩;have hj:j<t.size:=by rw [←cW.len t k2];exact (List.getElem?_eq_some_iff.1 hv).1
 have:(j0+1)*t.size≤ys.length*t.size:=Nat.mul_le_mul_right _ hy;rw [Nat.succ_mul] at this;have:=a2 _ v (by omega) (k1 j v hv);rw [Nat.add_mul,Nat.add_assoc];exact this;rw [List.getElem_append_right (by omega),show (fun p=>γ ((xs.length+j0)::p))=fun p=>γ2 (j0::p) from funext fun p=>e2 j0 p];simp only [Nat.add_sub_cancel_left];exact cW.keep k t (fun p b hp=>q2 j0 p b hp) k2
end
section
variable {cx:Cx} {g:GM} {st:St} {a:Act} {w w':World}
def Xz (o:Option Nat)(n:Nat)(γ1 γ2:List Nat→Option Nat):List Nat→Option Nat
 |[]=>o
 |i::p=>if i<n then γ1 (i::p) else γ2 ((i - n)::p)
def uG (g:GM)(m up:Mem)(γ:List Nat→Option Nat):Prop:= ∀p b,γ p=some b→ ∃c q oN,lk c up=some .gone∧lk c m=some oN∧oN.owns q∧g.f c q=some b
def XA (w':World)(t:Ty)(xs ys:List t.D)(arr1 lP:Array Value):Option Nat→Prop
 |none=>xs++ys=[]
 |some b=> ∃aG,dc w' b aG∧(∀j v,j<xs.length*t.size→arr1[j]? =some v→aG[j]? =some v)∧(∀j v,j<ys.length*t.size→lP[j]? =some v→aG[xs.length*t.size+j]? =some v)
theorem oZ.glue {e:cf}{up:Mem}{t:Ty}{xs ys:List t.D}{γ1 γ2:List Nat→Option Nat}{o:Option Nat}{val:Value}{F0:List Nat}{arr1 lP:Array Value}(h:cX cx g st a w)(hw:fE st.mem e.new)(he:e.new=[(st.nx,.seq t (xs++ys))]∧e.l6=up∧e.val= .one (.all st.nx))(ot:Cf st.mem up)(h1:uG g st.mem up γ1)(h2:uG g st.mem up γ2)(i1: ∀p q b,γ1 p=some b→γ1 q=some b→p=q)(i2: ∀p q b,γ2 p=some b→γ2 q=some b→p=q)(dj: ∀p q b,γ1 p=some b→γ2 q=some b→False)(ho: ∀b,o=some b→γ1 []=some b∨(w.heap.size≤b∧b<w'.heap.size))(hk:bJ F0 w w')(hF: ∀b∈F0,γ1 []=some b∧o=some b)(e1:fm (cx.safe g st.mem w) w γ1 t xs arr1)(e2:fm (cx.safe g st.mem w) w γ2 t ys lP)(hb:XA w' t xs ys arr1 lP o)(hv:gL o w' t.size (xs++ys).length val):oZ cx st a e val w':=by
 classical
 have oq:lk st.nx st.mem=none:=hw (st.nx,.seq t (xs++ys)) (by rw [he.1];simp);have T4: ∀p b,γ1 p=some b→b<w.heap.size:=fun p b hp=>by
  obtain ⟨c,q,oN,_,q2,q3,q4⟩:=h1 p b hp;exact h.lt c q oN b q2 q3 q4
 have XB: ∀p b,γ2 p=some b→b<w.heap.size:=fun p b hp=>by
  obtain ⟨c,q,oN,_,q2,q3,q4⟩:=h2 p b hp;exact h.lt c q oN b q2 q3 q4
 let γ:=Xz o xs.length γ1 γ2;have ra: ∀i p b,γ (i::p)=some b→(i<xs.length∧γ1 (i::p)=some b)∨(xs.length≤i∧γ2 ((i - xs.length)::p)=some b):=fun i p b hp=>by
  have hp:(if i<xs.length then γ1 (i::p) else γ2 ((i - xs.length)::p))=some b:=hp;split at hp;exact .inl ⟨by assumption,hp⟩;exact .inr ⟨by omega,hp⟩
 let G:=(List.range w.heap.size).filter fun b=>decide (∃p,γ p=some b);have S8: ∀b,b∈G↔b<w.heap.size∧ ∃p,γ p=some b:=fun b=>by simp [G]
 have hFG: ∀b,b∈F0→b∈G:=fun b hb=>(S8 b).2 ⟨T4 _ b (hF b hb).1,[],(hF b hb).2⟩;have XC:bJ G w w':=⟨hk.os,hk.tape,hk.output,hk.size,fun b hb hn=>hk.block b hb fun hf=>hn (hFG b hf),hk.sz⟩;have hsm: ∀b,b<w.heap.size→b ∉ F0→w'.heap[b]? =w.heap[b]? :=hk.block;obtain ⟨g',mS,hs⟩:=h.newAt (ch:= .seq t (xs++ys)) (γ:=γ) oq ot XC (fun b hb=>by
  obtain ⟨cp,p,hp⟩:=(S8 b).1 hb;cases p with
  |nil=>
   rcases ho b hp with hx|hx
   exact h1 _ b hx;omega
  |cons i p=>
   rcases ra i p b hp with ⟨_,hx⟩|⟨_,hx⟩
   exact h1 _ b hx;exact h2 _ b hx)
  (fun p b hp=>by
   have cp:b<w'.heap.size:=by
    cases p with
    |nil=>
     rcases ho b hp with hx|hx
     exact Nat.lt_of_lt_of_le (T4 _ b hx) hk.size;exact hx.2
    |cons i p=>
     rcases ra i p b hp with ⟨_,hx⟩|⟨_,hx⟩
     exact Nat.lt_of_lt_of_le (T4 _ b hx) hk.size;exact Nat.lt_of_lt_of_le (XB _ b hx) hk.size
   refine ⟨cp,?_⟩;by_cases hb:b<w.heap.size;exact .inr ((S8 b).2 ⟨hb,p,hp⟩);exact .inl (by omega))
  (fun p q b hp hq=>by
   have key: ∀i r,γ (i::r)=some b→o=some b→False:=fun i r hr hob=>by
    rcases ra i r b hr with ⟨_,hx⟩|⟨_,hx⟩
    rcases ho b hob with hy|hy
    cases i1 _ _ b hx hy;have:=T4 _ b hx;omega;rcases ho b hob with hy|hy
    exact dj _ _ b hy hx;have:=XB _ b hx;omega
   cases p with
   |nil=>
    cases q with
    |nil=>rfl
    |cons j q=>exact (key j q hq hp).elim
   |cons i p=>
    cases q with
    |nil=>exact (key i p hp hq).elim
    |cons j q=>
     rcases ra i p b hp with ⟨l1,hx⟩|⟨l1,hx⟩
     rcases ra j q b hq with ⟨l2,hy⟩|⟨l2,hy⟩
     exact i1 _ _ b hx hy;exact (dj _ _ b hx hy).elim;rcases ra j q b hq with ⟨l2,hy⟩|⟨l2,hy⟩
     exact (dj _ _ b hy hx).elim;have:=i2 _ _ b hx hy;injection this with a1 a2;rw [a2,show i=j from by omega])
  (fun g' m' S' hS=>by
   show jf g' m' S' w' γ (.seq t (xs++ys));unfold jf;have I4:γ []=o:=rfl;rw [I4];cases DN:o with
   |none=>rw [DN] at hb;show xs++ys=[];exact hb
   |some b=>
    rw [DN] at hb;obtain ⟨aG,nA,o5,AT⟩:=hb;refine ⟨aG,nA,fm.glue e1 e2 hS (fun i p hi=>if_pos hi) (fun i p=> ?_) (fun i p b' hp=>hsm b' (T4 _ b' hp) fun hf=> ?_) (fun i p b' hp=>hsm b' (XB _ b' hp) fun hf=> ?_) o5 AT⟩;show (if xs.length+i<xs.length then γ1 ((xs.length+i)::p) else γ2 ((xs.length+i - xs.length)::p))=_;rw [if_neg (by omega),Nat.add_sub_cancel_left];cases i1 _ _ b' hp (hF b' hf).1;exact dj _ _ b' (hF b' hf).1 hp)
 refine ⟨g',?_,?_⟩;rw [he.1,he.2.1];exact hs;rw [he.1,he.2.1,he.2.2];have hl:lk st.nx (up++[(st.nx,.seq t (xs++ys))]++st.mem)=some (.seq t (xs++ys)):=by
  rw [List.append_assoc,bN];cases hu:lk st.nx up with
  |none=>simp [aL]
  |some c0=>exact absurd oq (ot.lk hu).2
 refine ⟨by rw [hl];simp,?_,fun t' cK fb=> ?_⟩;unfold gL at hv;cases o with
 |none=>obtain ⟨a,rfl⟩:=hv;rfl
 |some b=>obtain ⟨cap,arr,rfl,_⟩:=hv;rfl
 have fb:=dF.toSeq hl fb;rw [hl] at fb;injection fb with fb;injection fb with ht uq;subst ht;have uq:=eq_of_heq uq;subst uq;rw [show g' st.nx=o from by show g'.f st.nx []=o;rw [mS];rfl];exact hv
theorem Ia (h:cX cx g st a w){c:Nat}{t:Ty}{xs:List t.D}{v:Value}(hl:lk c st.mem=some (.seq t xs))(hr:CR g st.mem (cx.safe g st.mem w) w (.all c) v):
 (xs=[]∧g.f c []=none∧ ∃ab,v= .slice ab 0 0)∨ ∃b cap arr,g.f c []=some b∧v= .slice (some ⟨b,0,none⟩) xs.length cap∧xs.length≤cap∧dc w b arr∧cap*t.size≤arr.size∧cap≤maxLen∧fm (cx.safe g st.mem w) w (g.f c) t xs arr:=by
 have cH:=h.mem c _ hl;unfold jf at cH;have hv:=hr.2.2 t xs (.inl hl);cases hg:g.f c [] with
 |none=>
  rw [hg] at cH;have hv:gL (g.f c []) w t.size xs.length v:=hv;rw [hg] at hv;exact .inl ⟨cH,rfl,hv⟩
 |some b=>
  rw [hg] at cH;have hv:gL (g.f c []) w t.size xs.length v:=hv;rw [hg] at hv;obtain ⟨arr,hb,gF⟩:=cH;obtain ⟨cap,aG,e,q1,q2,q3,q4⟩:=hv;have:=dc.eq hb q2;subst this;exact .inr ⟨b,cap,arr,rfl,e,q1,hb,q3,q4,gF⟩
theorem KE (h:cX cx g st a w){c:Nat}{t:Ty}{xs:List t.D}{v:Value}(hl:lk c st.mem=some (.seq t xs))(hr:CR g st.mem (cx.safe g st.mem w) w (.all c) v):
 ∃(ax:Option Addr) (xk:Nat) (news:List Value) (arr:Array Value),v= .slice ax xs.length xk∧news.length=xs.length*t.size∧(xs.length=0∨ ∃ad,ax=some ad∧ ∀j u,news[j]? =some u→w.cell? (ad.add j)=some u)∧
  fm (cx.safe g st.mem w) w (g.f c) t xs arr∧(∀j u,j<xs.length*t.size→arr[j]? =some u→news[j]? =some u)∧ ∀u∈news,u.oneCell'=true:=by
 rcases Ia h hl hr with ⟨rfl,_,ab,rfl⟩|⟨b,cap,arr,hg,rfl,hn,hb,iU,_,gF⟩
 exact ⟨ab,0,[],#[],rfl,by simp,.inl rfl,fm.nil,fun j u hj=>by simp at hj,fun u hu=>by simp at hu⟩;have hle:xs.length*t.size≤arr.size:=Nat.le_trans (Nat.mul_le_mul_right _ hn) iU;refine ⟨_,cap,arr.toList.take (xs.length*t.size),arr,rfl,by simp;omega,.inr ⟨_,rfl,fun j u hu=> ?_⟩,gF,fun j u hj hu=> ?_,fun u hu=> ?_⟩;rw [bP,Nat.zero_add,hb.cell];rw [List.getElem?_take] at hu;split at hu;simpa using hu;cases hu;rw [List.getElem?_take,if_pos hj];simpa using hu;obtain ⟨k,hk,e⟩:=List.getElem_of_mem hu;have fi:k<xs.length*t.size:=by simp at hk;omega
 refine gF.nP fi ?_;rw [←e,List.getElem_take,Array.getElem_toList,Array.getElem?_eq_getElem]
theorem vI (h:cX cx g st a w){c:Nat}{t:Ty}{xs:List t.D}{up:Mem}(hl:lk c st.mem=some (.seq t xs))(hu:lk c up=some .gone):uG g st.mem up (g.f c):=
 fun p _ hp=>⟨c,p,_,hu,hl,trivial,hp⟩
theorem Ei {T T':TypeId}{ty:TypeId}{t:Ty}{s x:aD}{e:cf}{sv xv:Value}(h:cX cx g st a w)(hw:fE st.mem e.new)(he:Bv cx.P st.mem st.nx T T' t s x=some e)(hc:bB e.cond)(hs:VR g st.mem (cx.safe g st.mem w) w s sv)(hx:VR g st.mem (cx.safe g st.mem w) w x xv):j8 cx st a w (Builtin.append_ #[T,T'] ty #[sv,xv]) e:=by
 unfold Bv at he;split at he;rename_i el s c2 hu;split at he;rename_i i t2 ys hi Cd;cases hb:(((Nat.beq T T'&&Nat.beq i.size t.size)&&(Nat.ble i.bytes 32768&&i.zero.isSome))&&(i.zero.map fun z=>Nat.beq z.cells.size t.size).getD false) with
 |false=>rw [hb] at he;cases he
 |true=>
  rw [hb] at he;simp only [cond_true] at he;simp only [Bool.and_eq_true] at hb;obtain ⟨⟨⟨hT,eK⟩,D1,TC⟩,HS⟩:=hb;have hT:=bG hT;subst hT;have eK:=bG eK;have D1:=iT D1;obtain ⟨z,hz⟩:=Option.isSome_iff_exists.1 TC;rw [hz] at HS;have HS:z.cells.size=t.size:=bG (by simpa using HS);split at he;rename_i ht;subst ht;obtain ⟨ax,xk,news,lP,rfl,vC,Qj,Ib,qI,NW⟩:=KE h Cd hx;have QB:news.length=ys.length*i.size:=by rw [eK];exact vC
  have grow: ∀(base:Option Addr) (cap:Nat) (xs:List t2.D) (γ1:List Nat→Option Nat) (arr1:Array Value) (jW:List Value) (up:Mem) (cond:List Prop),xs.length+ys.length≤4294967296→jW.length=xs.length*i.size→(xs.length=0∨ ∃ad,base=some ad∧ ∀j v,jW[j]? =some v→w.cell? (ad.add j)=some v)→
   (∀j v,j<xs.length*t2.size→arr1[j]? =some v→jW[j]? =some v)→fm (cx.safe g st.mem w) w γ1 t2 xs arr1→Cf st.mem up→uG g st.mem up γ1→uG g st.mem up (g.f c2)→
   (∀p q b,γ1 p=some b→γ1 q=some b→p=q)→(∀p q b,γ1 p=some b→g.f c2 q=some b→False)→cap<xs.length+ys.length→fE st.mem [(st.nx,Chunk.seq t2 (xs++ys))]→
   j8 cx st a w (Builtin.append_ #[T,T] ty #[.slice base xs.length cap,.slice ax ys.length xk]) ⟨.one (.all st.nx),[(st.nx,.seq t2 (xs++ys))],up,cond⟩:=by
   intro base cap xs γ1 arr1 jW up cond hlen FH ho hcp T5 ot Pt Kr TO NX cp hw;have tA:(xs.length+ys.length)*i.bytes≤140737488355328:=by
    calc (xs.length+ys.length)*i.bytes≤4294967296*32768:=Nat.mul_le_mul hlen D1
     _=140737488355328:=by decide
   have qU:=grownCap_ge w (xs.length+ys.length) cap el;have J1:=grownCap_le_maxLen w (xs.length+ys.length) cap el (by unfold maxLen;omega);have hr:=uu (P:=cx.P) (ty:=ty) (c:=xk) hu hi hz FH ho QB Qj cp tA (by omega);have eU:bJ [] w (w.drew.alloc (.cells (jW.toArray++news.toArray++Builtin.zeroCells z.cells (grownCap w (xs.length+ys.length) cap el - (xs.length+ys.length))) el)):=
    (bJ.drew [] w).trans (bJ.alloc _ _ _)
   have de:=dc.new w.drew (jW.toArray++news.toArray++Builtin.zeroCells z.cells (grownCap w (xs.length+ys.length) cap el - (xs.length+ys.length))) el;rw [eK] at FH;refine ⟨_,_,hr,?_⟩;refine oZ.glue (o:=some w.heap.size) (F0:=[]) h hw ⟨rfl,rfl,rfl⟩ ot Pt Kr TO (fun p q b hp hq=>(h.jU c2 c2 p q _ _ b Cd trivial Cd trivial hp hq).2) NX (fun b hb=> ?_) eU (fun b hb=>by simp at hb) T5 Ib ⟨_,de,fun j v hj hv=> ?_,fun j v hj hv=> ?_⟩ ?_;injection hb with hb;subst hb;exact .inr ⟨Nat.le_refl _,de.lt⟩;have:=hcp j v hj hv;rw [Array.append_assoc,Array.getElem?_append_left (by simp;omega)];simpa using this;have:=qI j v hj hv;rw [Array.append_assoc,Array.getElem?_append_right (by simp;omega),Array.getElem?_append_left (by simp;omega)];simpa [FH] using this;refine ⟨grownCap w (xs.length+ys.length) cap el,_,?_,by rw [List.length_append];exact qU,de,?_,J1⟩;rw [List.length_append];simp only [Array.size_append,List.size_toArray,size_zeroCells,HS,FH,vC,←Nat.add_mul];exact Nat.mul_le_mul_right _ (by omega)
  split at he;injection he with he;subst he;have hlen:ys.length≤4294967296:=by have:=hc.1;unfold bg at this;omega
  have ot:Cf st.mem [(c2,Chunk.gone)]:=fun p hp=>by simp at hp;subst hp;exact ⟨rfl,by rw [Cd];simp⟩
  have Wh:uG g st.mem [(c2,Chunk.gone)] (fun _=>none):=fun p b hp=>by cases hp
  have Kr:uG g st.mem [(c2,Chunk.gone)] (g.f c2):=vI h Cd (by simp [aL]);obtain ⟨ab,rfl⟩:=(show∃a,sv= .slice a 0 0 from hs);by_cases hy:ys.length=0;have NC:ys=[]:=List.eq_nil_of_length_eq_zero hy;subst NC;refine ⟨_,_,pX (P:=cx.P) hu hi,?_⟩;exact oZ.glue (t:=t2) (xs:=[]) (ys:=[]) (o:=none) (F0:=[]) (γ1:=fun _=>none) (arr1:= #[]) h hw ⟨rfl,rfl,rfl⟩ ot Wh Kr (fun _ _ _ hp=>by cases hp) (fun p q b hp hq=>(h.jU c2 c2 p q _ _ b Cd trivial Cd trivial hp hq).2) (fun _ _ _ hp=>by cases hp) (fun b hb=>by cases hb) (bJ.refl _ _) (fun b hb=>by simp at hb) fm.nil Ib rfl ⟨ab,rfl⟩;exact grow ab 0 [] (fun _=>none) #[] [] _ _ (by simpa using hlen) (by simp) (.inl rfl) (fun j v hj=>by simp at hj) fm.nil ot Wh Kr (fun _ _ _ hp=>by cases hp) (fun _ _ _ hp=>by cases hp) (by simp;omega) hw;rename_i c;split at he;rename_i t1 xs Nl;split at he;rename_i ht1;subst ht1;cases H4:(!(Nat.beq c c2)) with
  |false=>rw [H4] at he;cases he
  |true=>
   rw [H4] at he;simp only [cond_true] at he;injection he with he;subst he;have hw:fE st.mem [(st.nx,Chunk.seq t1 (xs++ys))]:=hw;show j8 cx st a w _ (⟨.one (.all st.nx),[(st.nx,.seq t1 (xs++ys))],[(c,.gone),(c2,.gone)],[List.length xs+List.length ys≤bg]⟩:cf);have jg:c≠c2:=fun e=>by subst e;simp at H4
   have hlen:xs.length+ys.length≤4294967296:=hc.1;have ot:Cf st.mem [(c,Chunk.gone),(c2,Chunk.gone)]:=fun p hp=>by
    simp at hp;rcases hp with rfl|rfl
    exact ⟨rfl,by rw [Nl];simp⟩;exact ⟨rfl,by rw [Cd];simp⟩
   have Pt:uG g st.mem [(c,Chunk.gone),(c2,Chunk.gone)] (g.f c):=vI h Nl (by simp [aL]);have Kr:uG g st.mem [(c,Chunk.gone),(c2,Chunk.gone)] (g.f c2):=vI h Cd (by rw [aL,if_neg (fun e=>jg e.symm)];simp [aL]);have S7: ∀p q b,g.f c p=some b→g.f c q=some b→p=q:=fun p q b hp hq=>(h.jU c c p q _ _ b Nl trivial Nl trivial hp hq).2;have Ko: ∀p q b,g.f c2 p=some b→g.f c2 q=some b→p=q:=fun p q b hp hq=>(h.jU c2 c2 p q _ _ b Cd trivial Cd trivial hp hq).2;have NX: ∀p q b,g.f c p=some b→g.f c2 q=some b→False:=fun p q b hp hq=>jg (h.jU c c2 p q _ _ b Nl trivial Cd trivial hp hq).1;rcases Ia h Nl hs with ⟨rfl,hg,ab,rfl⟩|⟨b,cap,arr,hg,rfl,hn,de,iU,FX,gF⟩
   by_cases hy:ys.length=0;have NC:ys=[]:=List.eq_nil_of_length_eq_zero hy;subst NC;refine ⟨_,_,pX (P:=cx.P) hu hi,?_⟩;exact oZ.glue (t:=t1) (xs:=[]) (ys:=[]) (o:=none) (F0:=[]) (γ1:=g.f c) (arr1:= #[]) h hw ⟨rfl,rfl,rfl⟩ ot Pt Kr S7 Ko NX (fun b hb=>by cases hb) (bJ.refl _ _) (fun b hb=>by simp at hb) fm.nil Ib rfl ⟨ab,rfl⟩;exact grow ab 0 [] (g.f c) #[] [] _ _ hlen (by simp) (.inl rfl) (fun j v hj=>by simp at hj) fm.nil ot Pt Kr S7 NX (Nat.lt_of_lt_of_eq (Nat.pos_of_ne_zero hy) (Nat.zero_add _).symm) hw;have hle:xs.length*t1.size≤arr.size:=Nat.le_trans (Nat.mul_le_mul_right _ hn) iU;by_cases lu:xs.length+ys.length≤cap;have qV:(xs.length+ys.length)*i.size≤arr.size:=by rw [eK];exact Nat.le_trans (Nat.mul_le_mul_right _ lu) iU
   obtain ⟨w',aG,hr,jS,fb,gM,hs'⟩:=uv (P:=cx.P) (ty:=ty) hu hi de (c:=xk) QB Qj NW lu qV;refine ⟨_,_,hr,?_⟩;have bA: ∀k,aG[k]? =(arr.toList.take (xs.length*i.size)++news++arr.toList.drop (xs.length*i.size+news.length))[k]? :=fun k=>by rw [←fb,Array.getElem?_toList]
   have htk:(arr.toList.take (xs.length*t1.size)).length=xs.length*t1.size:=by simp;omega
   rw [eK] at bA;refine oZ.glue (o:=some b) (F0:=[b]) h hw ⟨rfl,rfl,rfl⟩ ot Pt Kr S7 Ko NX (fun b' o5=>by injection o5 with o5;subst o5;exact .inl hg) gM (fun b' o5=>by simp at o5;subst o5;exact ⟨hg,rfl⟩) gF Ib ⟨aG,jS,fun j v hj hv=> ?_,fun j v hj hv=> ?_⟩ ?_;rw [bA,List.append_assoc,List.getElem?_append_left (by omega),List.getElem?_take,if_pos hj];simpa using hv;rw [bA,List.append_assoc,List.getElem?_append_right (by omega),htk,Nat.add_sub_cancel_left,List.getElem?_append_left (by omega)];exact qI j v hj hv;refine ⟨cap,aG,by rw [List.length_append],by rw [List.length_append];exact lu,jS,?_,FX⟩;have:aG.size=arr.size:=by
    rw [←Array.length_toList,fb];simp;rw [eK] at qV QB⊢;rw [Nat.add_mul] at qV;omega
   omega;refine grow _ cap xs (g.f c) arr (arr.toList.take (xs.length*t1.size)) _ _ hlen (by rw [eK];simp;omega) (.inr ⟨_,rfl,fun j v hv=> ?_⟩) (fun j v hj hv=> ?_) gF ot Pt Kr S7 NX (by omega) hw;rw [bP,Nat.zero_add,de.cell];rw [List.getElem?_take] at hv;split at hv;simpa using hv;cases hv;rw [List.getElem?_take,if_pos hj];simpa using hv
  cases he;cases he;cases he;cases he
 cases he;cases he
def XD (g:GM)(b:Nat)(cells:List aA):List Nat→Option Nat
 |[]=>some b
 |i::o::r=>if i=0 then (match cells[o]? with
  |some (.all k)=>g.f k r
  |_=>none) else none
 |_=>none
theorem AU {T:TypeId}{t:Ty}{len:Nat}{parts:List (Nat×aD)}{vparts:Array (Nat×Value)}{e:cf}(h:cX cx g st a w)(hw:fE st.mem e.new)(he:sD cx.P st.mem st.nx T t len parts=some e)(hp:bC (fun (p:Nat×aD) (q:Nat×Value)=>p.1=q.1∧VR g st.mem (cx.safe g st.mem w) w p.2 q.2) parts vparts.toList):j8 cx st a w (Instr.buildSlice T len vparts) e:=by
 classical
 unfold sD at he;split at he;rename_i el v hu;cases hb:((cY cx.P el==some t.size&&(((cx.P.info? el).bind (·.zero)).map fun z=>Nat.beq z.cells.size t.size)==some true)&&(Nat.beq len 1&&Nat.ble t.size 65536)&&v.ok) with
 |false=>rw [hb] at he;cases he
 |true=>
  rw [hb] at he;simp only [cond_true] at he;simp only [Bool.and_eq_true,beq_iff_eq] at hb;obtain ⟨⟨⟨hs,hz⟩,hn,NJ⟩,jT⟩:=hb;have hn:=bG hn;have NJ:=iT NJ;subst hn;split at he;rename_i x ks Wi;cases xn:l7 ks with
  |false=>rw [xn] at he;cases he
  |true=>
   rw [xn] at he;simp only [cond_true] at he;injection he with he;subst he;have xn:=jn xn;obtain ⟨va,hvp,hva⟩: ∃va,vparts.toList=[(0,va)]∧VR g st.mem (cx.safe g st.mem w) w v va:=by
    cases hq:vparts.toList with
    |nil=>rw [hq] at hp;exact hp.elim
    |cons q r=>
     rw [hq] at hp;obtain ⟨⟨h1,h2⟩,h3⟩:=hp;cases r with
     |nil=>
      obtain ⟨j,va⟩:=q;have h1:0=j:=h1;subst h1;exact ⟨va,rfl,h2⟩
     |cons=>exact h3.elim
   have oq:lk st.nx st.mem=none:=hw (st.nx,.seq t [x]) (by simp);obtain ⟨vs,kG,bF⟩:=jB jT hva;obtain ⟨c1,Nm,Av,T7,AI⟩:=wP t Wi;rw [List.append_nil] at Nm;have ur:va.cells.size=t.size:=by rw [←Array.length_toList,kG,←bF.length,Nm,Av]
   cases hi:cx.P.info? el with
   |none=>simp [cY,hi] at hs
   |some i=>
    rw [hi] at hz;simp only [Option.bind_some] at hz;cases yA:i.zero with
    |none=>simp [yA] at hz
    |some z=>
     rw [yA] at hz;have hz:Nat.beq z.cells.size t.size=true:=by simpa using hz
     have hz:=bG hz;have htp:=t.size_pos;let base:Array Value:=(Array.range t.size).map fun k=>z.cells[k%z.cells.size]!;have S3:base.size=t.size:=by simp [base]
     let aG:Array Value:=va.cells.zipIdx.foldl (fun cs (p:Value×Nat)=>cs.setIfInBounds (0+p.2) p.1) base;have uo:aG.toList=va.cells.toList:=by
      have:=rY 0 va.cells.toList 0 base (by rw [Array.length_toList];omega);show (va.cells.zipIdx.foldl (fun cs (p:Value×Nat)=>cs.setIfInBounds (0+p.2) p.1) base).toList=_;rw [←Array.foldl_toList,Array.toList_zipIdx];have h2:base.toList.drop (0+va.cells.toList.length)=[]:=List.drop_of_length_le (by rw [Array.length_toList,Array.length_toList];omega);refine this.trans ?_;rw [h2];simp
     have jX:(Instr.buildSlice T 1 vparts).run cx.P w= .ok (.slice (some ⟨w.heap.size,0,none⟩) 1 1) (w.alloc (.cells aG el)):=by
      have F4: ¬(16777216<t.size):=by omega
      have h0: ¬(t.size=0):=by omega
      have e1:Instr.fill (fun j=>some (j*t.size,t.size)) base vparts.toList=some aG:=by
       rw [hvp];simp only [Instr.fill];rw [if_neg (by simp;omega)];simp [aG]
      have HU:Instr.fill (fun j=>some (j*t.size,t.size)) ((Array.range (1*t.size)).map fun k=>z.cells[k%z.cells.size]!) vparts.toList=some aG:=by
       rw [Nat.one_mul];exact e1
      simp only [Instr.buildSlice,Sem.run_bind,run_underlying hu,Result.andThen_ok,cG hs];simp [h0,F4,zeroValue,typeInfo,hi,yA] at HU⊢;simp [HU,newRow]
     refine ⟨_,_,jX,?_⟩;have de:=dc.new w aG el;have eU:bJ [] w (w.alloc (.cells aG el)):=bJ.alloc _ _ _;let γ:=XD g w.heap.size v.cells;let up:Mem:=ks.map fun k=>(k,Chunk.gone);have XE: ∀k,k∈ks→lk k up=some .gone:=fun k hk=>by
      have:=Ef (k:=k) (m:=[]) (ls:=ks);rw [List.append_nil,if_pos hk] at this;exact this
     have ot:Cf st.mem up:=fun p hp=>by
      obtain ⟨k,hk,rfl⟩:=List.mem_map.1 hp;obtain ⟨t',cK,e1⟩:=AI k hk;exact ⟨rfl,by rw [e1];simp⟩
     have ra: ∀i p b,γ (i::p)=some b→i=0∧ ∃o r k,p=o::r∧v.cells[o]? =some (.all k)∧g.f k r=some b:=fun i p b hp=>by
      cases p with
      |nil=>cases hp
      |cons o r=>
       have hp:(if i=0 then (match v.cells[o]? with
        |some (.all k)=>g.f k r
        |_=>none) else none)=some b:=hp
       split at hp;rename_i hi;split at hp;rename_i k hk;exact ⟨hi,o,r,k,rfl,hk,hp⟩;cases hp;cases hp
     have FG: ∀(o k:Nat),v.cells[o]? =some (aA.all k)→k∈ks:=fun o k hk=>by
      rw [T7];rw [Nm] at hk;exact nz hk
     have cp: ∀i p b,γ (i::p)=some b→b<w.heap.size:=fun i p b hp=>by
      obtain ⟨_,o,r,k,_,hk,hg⟩:=ra i p b hp;obtain ⟨t',cK,e1⟩:=AI k (FG o k hk);exact h.lt k r _ b e1 trivial hg
     let G:=(List.range w.heap.size).filter fun b=>decide (∃p,γ p=some b);have S8: ∀b,b∈G↔b<w.heap.size∧ ∃p,γ p=some b:=fun b=>by simp [G]
     have XC:bJ G w (w.alloc (.cells aG el)):=⟨eU.os,eU.tape,eU.output,eU.size,fun b hb _=>eU.block b hb (by simp),eU.sz⟩;obtain ⟨g',mS,KF⟩:=h.newAt (ch:= .seq t [x]) (γ:=γ) oq ot XC (fun b hb=>by
      obtain ⟨hl,p,hp⟩:=(S8 b).1 hb;cases p with
      |nil=>
       have hp:some w.heap.size=some b:=hp;injection hp with hp;omega
      |cons i p=>
       obtain ⟨_,o,r,k,_,hk,hg⟩:=ra i p b hp;have vy:=FG o k hk;obtain ⟨t',cK,e1⟩:=AI k vy;exact ⟨k,r,_,XE k vy,e1,trivial,hg⟩)
      (fun p b hp=>by
       cases p with
       |nil=>
        have hp:some w.heap.size=some b:=hp;injection hp with hp;subst hp;exact ⟨de.lt,.inl (Nat.le_refl _)⟩
       |cons i p=>
        have:=cp i p b hp;exact ⟨Nat.lt_of_lt_of_le this eU.size,.inr ((S8 b).2 ⟨this,_,hp⟩)⟩)
      (fun p q b hp hq=>by
       cases p with
       |nil=>
        cases q with
        |nil=>rfl
        |cons j q=>
         have hp:some w.heap.size=some b:=hp;injection hp with hp;have:=cp j q b hq;omega
       |cons i p=>
        cases q with
        |nil=>
         have hq:some w.heap.size=some b:=hq;injection hq with hq;have:=cp i p b hp;omega
        |cons j q=>
         obtain ⟨e1,o,r,k,rfl,hk,hg⟩:=ra i p b hp;obtain ⟨e2,o',r',k',rfl,gM,jl⟩:=ra j q b hq;obtain ⟨t1,Wj,f1⟩:=AI k (FG o k hk);obtain ⟨t2,xs2,f2⟩:=AI k' (FG o' k' gM);obtain ⟨g1,g2⟩:=h.jU k k' r r' _ _ b f1 trivial f2 trivial hg jl;subst g1 g2 e1 e2;have:o=o':=uE (cs:=v.cells) (by rw [Nm,←T7];exact xn) hk gM;rw [this])
      (fun g' m' S' hS=>by
       show jf g' m' S' (w.alloc (.cells aG el)) γ (.seq t [x]);refine ⟨aG,de,fun q hq=> ?_⟩;have Xr:q=0:=by simp at hq;exact hq
       subst Xr;obtain ⟨v1,v2,ev,nf,mU⟩:=I3 h.mem (S2:=cx.safe g st.mem w) (fun _ hb=>hb) t (γ:=fun p=>γ (0::p)) (o:=0) Wi bF (fun q hq k hk p=>by
        show (if 0=0 then (match v.cells[0+q]? with
         |some (.all k)=>g.f k p
         |_=>none) else none)=_
        rw [if_pos rfl,Nat.zero_add,hk]) (fun q hq hk=>by
        show (if 0=0 then (match v.cells[0+q]? with
         |some (.all k)=>g.f k []
         |_=>none) else none)=_
        rw [if_pos rfl,Nat.zero_add,hk])
       have:v2=[]:=by cases v2 with|nil=>rfl|cons=>exact mU.elim
       subst this;rw [List.append_nil] at ev;subst ev;refine ⟨vs,fun j u hu=> ?_,cW.keep hS t (fun p b hp=>eU.block b (cp _ _ b hp) (by simp)) nf⟩;rw [Nat.zero_mul,Nat.zero_add,←Array.getElem?_toList,uo,kG];exact hu)
     refine ⟨g',KF,?_⟩;have hl:lk st.nx (up++[(st.nx,.seq t [x])]++st.mem)=some (.seq t [x]):=by
      rw [List.append_assoc,bN];cases hq:lk st.nx up with
      |none=>simp [aL]
      |some c0=>exact absurd oq (ot.lk hq).2
     refine ⟨by rw [hl];simp,rfl,fun t' cK fb=> ?_⟩;have fb:=dF.toSeq hl fb;rw [hl] at fb;injection fb with fb;injection fb with ht uq;subst ht;have uq:=eq_of_heq uq;subst uq;rw [show g' st.nx=some w.heap.size from by show g'.f st.nx []=_;rw [mS];rfl];refine ⟨1,aG,rfl,Nat.le_refl _,de,?_,by unfold maxLen;omega⟩;rw [←Array.length_toList,uo,Array.length_toList,ur];omega
  cases he
 cases he
theorem yR {T T':TypeId}{ty:TypeId}{t:Ty}{s x:aD}{e:cf}{sv xv:Value}(h:cX cx g st a w)(hw:fE st.mem e.new)(he:pq cx.P st.mem st.nx T T' t s x=some e)(hc:bB e.cond)(hs:VR g st.mem (cx.safe g st.mem w) w s sv)(hx:VR g st.mem (cx.safe g st.mem w) w x xv):j8 cx st a w (Builtin.append_ #[T,T'] ty #[sv,xv]) e:=by
 unfold pq at he;cases ht:t.top with
 |true=>rw [ht] at he;exact AH h hw he hc hs hx
 |false=>rw [ht] at he;exact Ei h hw he hc hs hx
theorem AV {T:TypeId}{t:Ty}{len:Nat}{parts:List (Nat×aD)}{vparts:Array (Nat×Value)}{e:cf}(h:cX cx g st a w)(hw:fE st.mem e.new)(he:sE cx.P st.mem st.nx T t len parts=some e)(hp:bC (fun (p:Nat×aD) (q:Nat×Value)=>p.1=q.1∧VR g st.mem (cx.safe g st.mem w) w p.2 q.2) parts vparts.toList):j8 cx st a w (Instr.buildSlice T len vparts) e:=by
 unfold sE at he;cases ht:t.top with
 |true=>rw [ht] at he;exact ux h hw he hp
 |false=>rw [ht] at he;exact AU h hw he hp
end
end Go.Ide
namespace Go.Ide
def NY (fr:Fr):List Operand→Option (List aD)
 |[]=>some []
 |x::r=>match ev fr x,NY fr r with
  |some v,some l=>some (v::l)
  |_,_=>none
def Np (fr:Fr):Option Operand→Option (Option aD)
 |none=>some none
 |some x=>match ev fr x with
  |some v=>some (some v)
  |none=>none
def Ej (P:Program)(m:Mem)(T:TypeId)(x:aD):Option cf:=
 match P.underlying T,x with
 |some .string,.one (.aw .str _)=>tu m x
 |some (.slice _),.one (.aw (.sl _) _)=>tu m x
 |some (.slice _),.one (.all _)=>tu m x
 |some (.slice _),.one (.ref _ _ _)=>tu m x
 |some (.slice _),.one (.row _ _ _)=>tu m x
 |some (.slice _),.one .al=>tu m x
 |_,_=>none
def Cv (P:Program)(T:TypeId)(x i:aD):Option cf:=
 match P.underlying T,x,i with
 |some .string,.one (.aw .str s),.one (.aw (.int _) n)=>
  gI (.one (.aw (.int .u8) ((((List.getD s (Int.toNat n) 0:UInt8).toNat:Nat)):Int))) [(0:Int)≤n∧n<((List.length s:Nat):Int)]
 |_,_,_=>none
def QC (x:aD):Option cf:=
 match x with
 | .one (.ptr c off)=>ca (.one (.ptr c off))
 | .one (.ip t y off)=>ca (.one (.ip t y off))
 | .one (.dI c i sz off)=>ca (.one (.dI c i sz off))
 | .one (.AB c i o j sz off)=>ca (.one (.AB c i o j sz off))
 |_=>none
def pr (P:Program)(fr:Fr)(m:Mem)(nx:Nat)(h:Hint)(b:Builtin)(args:List Operand)(ts:List TypeId):Option cf:=
 match b,args,ts with
 | .len,[x],[T]=>(match ev fr x with
  |some v=>Ej P m T v
  |none=>none)
 | .append,[s,x],[T,T']=>(match h,ev fr s,ev fr x with
  | .ty t,some sv,some xv=>pq P m nx T T' t sv xv
  | .no,some sv,some xv=>pn P m nx T T' sv xv
  | .WU t,some sv,some xv=>yM P nx T T' t sv xv
  |_,_,_=>none)
 | .min,[x,y],_=>(match ev fr x,ev fr y with
  |some xv,some yv=>(match Wd false xv yv with
   |some e=>some e
   |none=>Qb xv yv)
  |_,_=>none)
 | .max,[x,y],_=>(match ev fr x,ev fr y with
  |some xv,some yv=>(match Wd true xv yv with
   |some e=>some e
   |none=>Qc xv yv)
  |_,_=>none)
 | .copy,[x,y],[T,_]=>(match ev fr x,ev fr y with
  |some xv,some yv=>Bu P m T xv yv
  |_,_=>none)
 | .cap,[x],[T]=>(match ev fr x,P.underlying T with
  |some (.one .al),some (.slice _)=>ca (.one (.aw (.int .i64) (0:Int)))
  |_,_=>none)
 |_,_,_=>none
def T8 (f:FuncId)(vs:List aD):Option cf:=
 match vs with
 |[.one (.ip t x 0)]=>ca (.one (.nr f t x))
 |_=>none
def xM (P:Program)(k:FuncId)(fk:FloatKind)(ik:IntKind):Prop:=
 ∀(b:Nat) (w:World),(callFunc k #[.float fk b]).run P w= .ok (.value (.int ik b)) w
def xN (P:Program)(fr:Fr)(m:Mem)(nx:Nat)(h:Hint)(o:Oper):Option cf:=
 match o.op with
 | .move x=>(match ev fr x with
  |some v=>ca v
  |none=>none)
 | .assign x=>(match ev fr x with
  |some v=>ca v
  |none=>none)
 | .pick c x y=>(match h with
  | .tv b=>(match ev fr c,ev fr (if b then x else y) with
   |some cv,some v=>Kb b cv v v
   |_,_=>none)
  |_=>none)
 | .alloc T=>(match h with
  | .ty t=>Cb P nx T t
  |_=>FM P nx T)
 | .box _ x=>(match ev fr x with
  |some v=>(match h with
   | .ty t=>Kh nx t v
   |_=>ND nx v)
  |none=>none)
 | .build T parts=>(match AD fr parts.toList with
  |some vs=>FN P T vs
  |none=>none)
 | .buildSlice T len parts=>(match h,AD fr parts.toList with
  | .ty t,some vs=>sE P m nx T t len vs
  | .WU t,some vs=>qa P nx T t len vs
  | .no,some vs=>FO P T len vs
  |_,_=>none)
 | .load T x=>(match ev fr x with
  |some v=>qZ P m nx h T v
  |none=>none)
 | .store T x y=>(match ev fr x,ev fr y with
  |some xv,some yv=>sC P m nx h T xv yv
  |_,_=>none)
 | .nilCheck x=>(match ev fr x with
  |some v=>QC v
  |none=>none)
 | .binOp op T x y _=>(match ev fr x,ev fr y with
  |some xv,some yv=>Bq P T op xv yv
  |_,_=>none)
 | .unOp op _ x=>(match ev fr x with
  |some v=>NS op v
  |none=>none)
 | .convert T U x=>(match ev fr x with
  |some v=>nJ P m nx T U v
  |none=>none)
 | .makeSlice T l c=>(match h,ev fr l,ev fr c with
  | .ty t,some lv,some cv=>tw P nx T t lv cv
  |_,_,_=>none)
 | .slice T x lo hi none=>(match ev fr x,Np fr lo,Np fr hi with
  |some v,some l,some h=>tx P m T v l h
  |_,_,_=>none)
 | .slice T x lo hi (some q)=>(match ev fr x,Np fr lo,Np fr hi,ev fr q with
  |some v,some l,some h,some r=>Co P T v l h (some r)
  |_,_,_,_=>none)
 | .fieldAddr T x f=>(match ev fr x with
  |some v=>pT P T v f
  |none=>none)
 | .indexAddr T x i=>(match ev fr x,ev fr i with
  |some v,some j=>kE P m T v j
  |_,_=>none)
 | .index T x i=>(match ev fr x,ev fr i with
  |some v,some j=>Cv P T v j
  |_,_=>none)
 | .extract x i=>(match ev fr x with
  |some v=>uk v i
  |none=>none)
 | .makeFunc (.func f) first captured=>(match NY fr captured.toList with
  |some vs=>bif first.isEmpty then T8 f vs else none
  |none=>none)
 | .call c=>(match c.callee with
  | .builtin b=>pr P fr m nx h b c.args.toList c.argTypes.toList
  | .value f=>(match h,ev fr f,NY fr c.args.toList with
   | .call ms rs outs,some (.one (.fn k)),some vs=>yE P m nx ms rs outs k vs
   | .call ms rs outs,some (.one (.nr k t x)),some vs=>yE P m nx ms rs outs k (vs++[.one (.ip t x 0)])
   | .no,some (.one (.fn k)),some [.one (.aw (.aW fk) n)]=>(match P.underlying o.type with
    |some (.int ik)=>gI (.one (.aw (.int ik) ((n:Nat):Int))) [xM P k fk ik,n≠IV fk]
    |_=>none)
   |_,_,_=>none)
  |_=>none)
 |_=>none
section
variable {cx:Cx} {g:GM} {st:St} {a:Act} {w:World}
theorem yS (h:cX cx g st a w): ∀{xs:List Operand} {vs:List aD},NY st.fr xs=some vs→bC (VR g st.mem (cx.safe g st.mem w) w) vs (xs.map a.eval)
 |[],vs,he=>by simp only [NY] at he;injection he with he;subst he;trivial
 |x::xs,vs,he=>by
  simp only [NY] at he;split at he;rename_i v l hv hl;injection he with he;subst he;exact ⟨cg h hv,yS h hl⟩;cases he
theorem Cw (h:cX cx g st a w){x:Option Operand}{v:Option aD}(he:Np st.fr x=some v):OR g st.mem (cx.safe g st.mem w) w v (x.map a.eval):=by
 cases x with
 |none=>simp only [Np] at he;injection he with he;subst he;trivial
 |some x=>
  simp only [Np] at he;split at he;rename_i u hu;injection he with he;subst he;exact cg h hu;cases he
theorem yT (h:cX cx g st a w): ∀{xs:List (Nat×Operand)} {vs:List (Nat×aD)},AD st.fr xs=some vs→
 bC (fun (p:Nat×aD) (q:Nat×Value)=>p.1=q.1∧VR g st.mem (cx.safe g st.mem w) w p.2 q.2) vs (xs.map fun (i,x)=>(i,a.eval x))
 |[],vs,he=>by simp only [AD] at he;injection he with he;subst he;trivial
 |(i,x)::xs,vs,he=>by
  simp only [AD] at he;split at he;rename_i v l hv hl;injection he with he;subst he;exact ⟨⟨rfl,cg h hv⟩,yT h hl⟩;cases he
def uH (cx:Cx)(st:St)(a:Act)(w:World)(o:Oper)(e:cf):Prop:=
 (∃val w',(execOp a.eval o).run cx.P w= .ok (.value val) w'∧oZ cx st a e val w')∨
 (∃w',(execOp a.eval o).run cx.P w= .ok .skip w'∧oZ cx st a e undef w')∨
 (∃f args,(execOp a.eval o).run cx.P w= .ok (.enter f args) w∧Calls cx.P f args w fun en w'=> ∃v,en= .returned v∧oZ cx st a e v w')
theorem uH.wp {o:Oper}{e:cf}{K:Act→World→Prop}{Q:Exit→Act→World→Prop}(h:uH cx st a w o e)(hk: ∀val w',oZ cx st a e val w'→K (a.put o.dst val) w'):o.wp cx.P a w K Q:=by
 unfold Oper.wp;rcases h with ⟨val,w',h1,h2⟩|⟨w',h1,h2⟩|⟨f,args,h1,h2⟩
 rw [h1];exact hk val w' h2;rw [h1];exact hk undef w' h2;rw [h1];exact h2.mono fun en w' ⟨v,e1,hd⟩=>by subst e1;exact hk v w' hd
theorem j8.lj {o:Oper}{e:cf}{s:Sem Value}(h:j8 cx st a w s e)(he:execOp a.eval o=(do pure (.value (←s)))):uH cx st a w o e:=by
 obtain ⟨val,w',h1,h2⟩:=h;exact .inl ⟨val,w',by rw [he];simp [h1],h2⟩
theorem D3.lj {o:Oper}{e:cf}{s:Sem Unit}(h:D3 cx st a w s e)(he:execOp a.eval o=(do s;pure .skip)):uH cx st a w o e:=by
 obtain ⟨w',h1,h2⟩:=h;exact .inr (.inl ⟨w',by rw [he];simp [h1],h2⟩)
theorem uH.pure {o:Oper}{e:cf}{v:aD}{val:Value}(h:cX cx g st a w)(he:execOp a.eval o=Pure.pure (.value val))(hp:e.new=[]∧e.l6=[]∧e.val=v)(hv:VR g st.mem (cx.safe g st.mem w) w v val):uH cx st a w o e:=by
 refine .inl ⟨val,w,by rw [he];rfl,g,?_,?_⟩;rw [hp.1,hp.2.1];exact h;rw [hp.1,hp.2.1,hp.2.2];exact hv
def KG (u:Value):Prop:=(∃k n,u= .int k n)∨(∃s,u= .string s)∨(∃b,u= .bool b)
theorem Ek {P:Program}{op:BinOp}{T:TypeId}{x y:Operand}{k:FloatKind}{b:Nat}{v:Value}:(eqGuard op T x y (.float k b) v).run P w= .ok () w:=by
 cases op<;>cases v<;>rfl
theorem El {P:Program}{op:BinOp}{T:TypeId}{x y:Operand}{u v:Value}(h:KG u):(eqGuard op T x y u v).run P w= .ok () w:=by
 rcases h with ⟨k,n,rfl⟩|⟨s,rfl⟩|⟨b,rfl⟩<;>cases op<;>cases v<;>rfl
theorem I7 {op:BinOp}{T:TypeId}{x y:aD}{e:cf}{u:Value}(he:IM cx.P T op x y=some e)(hx:VR g st.mem (cx.safe g st.mem w) w x u):KG u:=by
 unfold IM at he;split at he;exact .inl ⟨_,_,eS (g:=g) (m:=st.mem) (S:=cx.safe g st.mem w) (w:=w) hx⟩;exact .inr (.inl ⟨_,mw (g:=g) (m:=st.mem) (S:=cx.safe g st.mem w) (w:=w) hx⟩);exact .inr (.inr ⟨_,nQ (g:=g) (m:=st.mem) (S:=cx.safe g st.mem w) (w:=w) hx⟩);cases he
theorem Em {op:BinOp}{T:TypeId}{x y:aD}{xo yo:Operand}{e:cf}{u v:Value}{w':World}(he:Bq cx.P T op x y=some e)(hx:VR g st.mem (cx.safe g st.mem w) w x u)(hy:VR g st.mem (cx.safe g st.mem w) w y v):(eqGuard op T xo yo u v).run cx.P w'= .ok () w':=by
 unfold Bq at he;split at he;obtain ⟨b,e,_⟩:=oE (g:=g) (m:=st.mem) (S:=cx.safe g st.mem w) (w:=w) hx;rw [e];exact Ek;obtain ⟨us,rfl,_⟩:=hx;obtain ⟨vs,rfl,_⟩:=hy;exact xr he;exact El (I7 he hx)
theorem Cy {P:Program}{m:Mem}{S:Nat→Prop}{T:TypeId}{x i:aD}{e:cf}{xa ia:Value}(h:Cv P T x i=some e)(hc:bB e.cond)(hx:VR g m S w x xa)(hi:VR g m S w i ia):aP P g m S w (Instr.index T xa ia) e:=by
 unfold Cv at h;split at h;rename_i s k n hu;obtain ⟨he,ow⟩:=cO h;rw [ow] at hc;obtain ⟨⟨h0,h1⟩,_⟩:=hc;have e1:=mw (g:=g) (m:=m) (S:=S) (w:=w) hx;have e2:=eS (g:=g) (m:=m) (S:=S) (w:=w) hi;subst e1;subst e2;have cp:Int.toNat n<List.length s:=toNat_lt h0 h1;refine aP.mk he (r:= .int .u8 ((((List.getD s (Int.toNat n) 0:UInt8).toNat:Nat)):Int)) ?_ rfl;have eK:Int.toNat n<(⟨List.toArray s⟩:ByteArray).size:=by simpa [ByteArray.size] using cp
 have Gd:(⟨List.toArray s⟩:ByteArray)[Int.toNat n]? =some (List.getD s (Int.toNat n) 0):=by
  rw [getElem?_pos (⟨List.toArray s⟩:ByteArray) (Int.toNat n) eK]
  congr 1
  rw [getD_eq cp];rfl
 have h0':(0:Int)≤n:=h0;simp only [Instr.index,Sem.run_bind,run_underlying hu,Result.andThen_ok,asIntOf,Sem.run_pure];rw [if_pos h0',Gd];rfl;cases h
theorem QD {g:GM}{m:Mem}{S:Nat→Prop}{w:World}{k:FuncId}{t:Ty}{x:t.D}{v:Value}{ad:Addr}(h:CR g m S w (.nr k t x) v)(e:v= .func (.func k) #[] #[.pointer (some ad)]):bC (VR g m S w) [.one (.ip t x 0)] [.pointer (some ad)]:=by
 obtain ⟨ad',es,e',hs,bA,cN⟩:=h;rw [e] at e';injection e' with _ _ e';injection e' with e';injection e' with e' _;injection e' with e';injection e' with e';subst e';have e2:ad.add 0=ad:=by simp [Addr.add]
 exact ⟨⟨ad,es,by rw [e2],hs,bA,cN⟩,trivial⟩
theorem KH {α:Type}(f:α→Value)(xs:Array α)(v:Value):xs.map f++ #[v]=(xs.toList.map f++[v]).toArray:=by
 apply Array.ext';simp
theorem Bw {h:Hint}{o:Oper}{e:cf}(hs:cX cx g st a w)(hw:fE st.mem e.new)(he:xN cx.P st.fr st.mem st.nx h o=some e)(hc:bB e.cond):uH cx st a w o e:=by
 unfold xN at he;split at he
 ·rename_i x ho;split at he
  ·rename_i v hv;exact uH.pure hs (by simp only [execOp,ho]) (aJ he) (cg hs hv)
  ·cases he
 ·rename_i x ho;split at he
  ·rename_i v hv;exact uH.pure hs (by simp only [execOp,ho]) (aJ he) (cg hs hv)
  ·cases he
 ·rename_i c x y ho;split at he
  ·rename_i b;split at he
   ·rename_i cv v Kg hv;unfold Kb at he;split at he
    ·rename_i t;obtain ⟨hp,ow⟩:=cO he;rw [ow] at hc;have ht:t=b:=hc.1;have e1:=nQ (g:=g) (m:=st.mem) (S:=cx.safe g st.mem w) (w:=w) (cg hs Kg);have xO:=cg hs hv;refine .inl ⟨a.eval (if b then x else y),w,?_,g,?_,?_⟩
     ·simp only [execOp,ho,e1,asBool];rw [ht];cases b<;>rfl
     ·rw [hp.1,hp.2.1];exact hs
     ·rw [hp.1,hp.2.1,hp.2.2];cases b<;>exact xO
    ·cases he
   ·cases he
  ·cases he
 ·rename_i T ho;split at he
  ·exact (AG hs hw he).lj (by simp only [execOp,ho])
  ·exact (Ca hs hw he).lj (by simp only [execOp,ho])
 ·rename_i T x ho;split at he
  ·rename_i v hv;split at he
   ·exact (DZ (T:=T) hs hw he (cg hs hv)).lj (by simp only [execOp,ho])
   ·exact (F3 (T:=T) hs hw he (cg hs hv)).lj (by simp only [execOp,ho])
  ·cases he
 ·rename_i T parts ho;split at he
  ·rename_i vs kG;have:=B9 (P:=cx.P) (g:=g) (m:=st.mem) (S:=cx.safe g st.mem w) (w:=w) (vparts:=parts.map fun (i,x)=>(i,a.eval x)) he (by simpa using yT hs kG);exact (this.runs hs).lj (by simp only [execOp,ho])
  ·cases he
 ·rename_i T len parts ho;split at he
  ·rename_i t vs kG;have:=AV (vparts:=parts.map fun (i,x)=>(i,a.eval x)) hs hw he (by simpa using yT hs kG);exact this.lj (by simp only [execOp,ho])
  ·rename_i t vs kG;have:=tK (vparts:=parts.map fun (i,x)=>(i,a.eval x)) hs he (by simpa using yT hs kG);exact this.lj (by simp only [execOp,ho])
  ·rename_i vs kG;have:=Cg (vparts:=parts.map fun (i,x)=>(i,a.eval x)) hs he (by simpa using yT hs kG);exact this.lj (by simp only [execOp,ho])
  ·cases he
 ·rename_i T x ho;split at he
  ·rename_i v hv;exact (Ct hs hw he hc (cg hs hv)).lj (by simp only [execOp,ho])
  ·cases he
 ·rename_i T x y ho;split at he
  ·rename_i xv yv hx hy;exact (AS hs hw he hc (cg hs hx) (cg hs hy)).lj (by simp only [execOp,ho])
  ·cases he
 ·rename_i x ho;split at he
  ·rename_i v hv;have xO:=cg hs hv;unfold QC at he;split at he
   ·obtain ⟨_,b,_,e1⟩:=xO;exact uH.pure hs (by simp [execOp,ho,e1];rfl) (aJ he) (by rw [←e1];exact cg hs hv)
   ·obtain ⟨ad,es,e1,_⟩:=xO;exact uH.pure hs (by simp [execOp,ho,e1];rfl) (aJ he) (by rw [←e1];exact cg hs hv)
   ·obtain ⟨_,b,_,e1⟩:=xO;exact uH.pure hs (by simp [execOp,ho,e1];rfl) (aJ he) (by rw [←e1];exact cg hs hv)
   ·obtain ⟨_,b,e1,_⟩:=xO;exact uH.pure hs (by simp [execOp,ho,e1];rfl) (aJ he) (by rw [←e1];exact cg hs hv)
   ·cases he
  ·cases he
 ·rename_i op T x y T' ho;split at he
  ·rename_i xv yv hx hy;obtain ⟨r,w',k3,k4⟩:=Eb hs he hc (cg hs hx) (cg hs hy);refine .inl ⟨r,w',?_,k4⟩;have hg:=Em (xo:=x) (yo:=y) (w':=w) he (cg hs hx) (cg hs hy);simp only [execOp,ho,Sem.run_bind,hg,Result.andThen_ok,k3,Sem.run_pure]
  ·cases he
 ·rename_i op T x ho;split at he
  ·rename_i v hv;exact ((Gb he (cg hs hv)).runs hs).lj (by simp only [execOp,ho])
  ·cases he
 ·rename_i T U x ho;split at he
  ·rename_i v hv;exact (xt hs hw he hc (cg hs hv)).lj (by simp only [execOp,ho])
  ·cases he
 ·rename_i T l c ho;split at he
  ·rename_i t lv cv hl Kg;exact (vD hs hw he hc (cg hs hl) (cg hs Kg)).lj (by simp only [execOp,ho])
  ·cases he
 ·rename_i T x lo hi ho;split at he
  ·rename_i v l h' hv hl hh;exact ((B8 hs.mem he hc (cg hs hv) (Cw hs hl) (Cw hs hh)).runs hs).lj (by simp only [execOp,ho];rfl)
  ·cases he
 ·rename_i T x lo hi q ho;split at he
  ·rename_i v l h' r hv hl hh hq;exact ((AN he hc (cg hs hv) (Cw hs hl) (Cw hs hh) (mx:=some r) (qv:=some (a.eval q)) (cg hs hq)).runs hs).lj (by simp only [execOp,ho];rfl)
  ·cases he
 ·rename_i T x f ho;split at he
  ·rename_i v hv;exact ((vA he (cg hs hv)).runs hs).lj (by simp only [execOp,ho])
  ·cases he
 ·rename_i T x i ho;split at he
  ·rename_i v j hv hj;exact ((vz hs.mem he hc (cg hs hv) (cg hs hj)).runs hs).lj (by simp only [execOp,ho])
  ·cases he
 ·rename_i T x i ho;split at he
  ·rename_i v j hv hj;exact ((Cy he hc (cg hs hv) (cg hs hj)).runs hs).lj (by simp only [execOp,ho])
  ·cases he
 ·rename_i x i ho;split at he
  ·rename_i v hv;exact ((yy he (cg hs hv)).runs hs).lj (by simp only [execOp,ho])
  ·cases he
 ·rename_i f first captured ho
  split at he
  ·rename_i vs kG;cases XF:first.isEmpty with
   |false=>rw [XF] at he;cases he
   |true=>
    rw [XF] at he;simp only [cond_true] at he;have Wh:first= #[]:=by simpa using XF
    subst Wh;unfold T8 at he;split at he
    ·rename_i t x;have bF:=yS hs kG;have tz:captured.map a.eval=(captured.toList.map a.eval).toArray:=by apply Array.ext';rw [Array.toList_map]
     cases ur:captured.toList.map a.eval with
     |nil=>rw [ur] at bF;exact bF.elim
     |cons u r=>
      rw [ur] at bF;cases r with
      |cons=>exact bF.2.elim
      |nil=>
       obtain ⟨ad,es,e1,DO,bA,cN⟩:=bF.1;have e2:ad.add 0=ad:=by simp [Addr.add]
       rw [e2] at e1;exact uH.pure hs (val:= .func (.func f) #[] (captured.map a.eval)) (by simp [execOp,ho,Instr.makeFunc]) (aJ he) ⟨ad,es,by rw [tz,ur,e1],DO,bA,cN⟩
    ·cases he
  ·cases he
 ·rename_i c ho;split at he
  ·rename_i b hb;have xw: ∀(consts:Array Bool),resolve a.eval c o.type=pure {target:= .builtin b c.argTypes o.type (c.args.map fun| .const _=>true|_=>false),args:=c.args.map a.eval}:=fun _=>by
    unfold resolve;rw [hb];rfl
   have nh: ∀l,c.args.toList=l→c.args.map a.eval=(l.map a.eval).toArray:=fun l hl=>by
    subst hl;apply Array.ext';rw [Array.toList_map]
   have I8: ∀l,c.argTypes.toList=l→c.argTypes=l.toArray:=fun l hl=>by subst hl;rfl
   unfold pr at he;split at he
   ·rename_i x T my NZ;split at he
    ·rename_i v hv;have xO:=cg hs hv;have hg:aP cx.P g st.mem (cx.safe g st.mem w) w (Builtin.len_ #[T] o.type #[a.eval x]) e:=by
      unfold Ej at he;split at he
      ·rename_i s hu;refine ma (T:=T) hs.mem (by simp [FT,hu]) he xO rfl (fun _ _=>hu) (fun a' n c' e'=> ?_);have:=mw (g:=g) (m:=st.mem) (S:=cx.safe g st.mem w) (w:=w) xO;rw [this] at e';cases e'
      ·rename_i el t xs hu;refine ma (T:=T) hs.mem (by simp [FT,hu]) he xO rfl (fun s e'=> ?_) (fun _ _ _ _=>⟨el,hu⟩);obtain ⟨a',cap,e1,_⟩:=xO;have e1:a.eval x= .slice a' (List.length xs) cap:=by simpa using e1
       rw [e1] at e';cases e'
      ·rename_i el c' hu;refine ma (T:=T) hs.mem (by simp [FT,hu]) he xO rfl (fun s e'=> ?_) (fun _ _ _ _=>⟨el,hu⟩);have sq: ∀t xs,dF st.mem c' t xs→False:=fun t xs hl=>by
        have hx:=xO.2.2 t xs hl;unfold gL at hx;cases hg:g c' with
        |none=>rw [hg] at hx;obtain ⟨a',ha⟩:=hx;rw [ha] at e';cases e'
        |some b=>rw [hg] at hx;obtain ⟨cap,arr,ha,_⟩:=hx;rw [ha] at e';cases e'
       unfold tu at he;simp only at he;split at he
       ·rename_i t xs hl;exact (sq t xs (.inl hl)).elim
       ·rename_i t xs i cs ks hl;exact (sq t xs (.inr ⟨i,cs,ks,hl⟩)).elim
       ·cases he
      ·rename_i el c' off len hu;refine ma (T:=T) hs.mem (by simp [FT,hu]) he xO rfl (fun s e'=> ?_) (fun _ _ _ _=>⟨el,hu⟩);unfold tu at he;simp only at he;split at he
       ·rename_i t xs hl;obtain ⟨_,hx⟩:=xO.2.2 t xs (.inl hl);rcases hx with ⟨_,_,a',ha⟩|⟨b,cap,arr,_,ha,_⟩
        ·rw [ha] at e';cases e'
        ·rw [ha] at e';cases e'
       ·cases he
      ·rename_i el c' i o hu;refine ma (T:=T) hs.mem (by simp [FT,hu]) he xO rfl (fun s e'=> ?_) (fun _ _ _ _=>⟨el,hu⟩);unfold tu at he;simp only at he;split at he
       ·rename_i t xs hl;split at he
        ·rename_i e2 ys DH;have hx:=(xO.2.2 t xs hl).2 e2 ys DH;unfold gL at hx;cases hg:g.f c' [i,o] with
         |none=>rw [hg] at hx;obtain ⟨a',ha⟩:=hx;rw [ha] at e';cases e'
         |some b=>rw [hg] at hx;obtain ⟨cap,arr,ha,_⟩:=hx;rw [ha] at e';cases e'
        ·cases he
       ·cases he
      ·rename_i el hu;refine ma (T:=T) hs.mem (by simp [FT,hu]) he xO rfl (fun s e'=> ?_) (fun _ _ _ _=>⟨el,hu⟩);obtain ⟨a',ha⟩:=xO;rw [ha] at e';cases e'
      ·cases he
     refine (hg.runs hs).lj ?_;simp only [execOp,ho,xw #[],nh _ my,I8 _ NZ];rfl
    ·cases he
   ·rename_i s x T T' my NZ;split at he
    ·rename_i t sv xv Qx NT;refine (yR (ty:=o.type) hs hw he hc (cg hs Qx) (cg hs NT)).lj ?_;simp only [execOp,ho,xw #[],nh _ my,I8 _ NZ];rfl
    ·rename_i sv xv Qx NT;refine (yL (ty:=o.type) hs hw he hc (cg hs Qx) (cg hs NT)).lj ?_;simp only [execOp,ho,xw #[],nh _ my,I8 _ NZ];rfl
    ·rename_i t sv xv Qx NT;refine (yN (ty:=o.type) hs hw he hc (cg hs Qx) (cg hs NT)).lj ?_;simp only [execOp,ho,xw #[],nh _ my,I8 _ NZ];rfl
    ·cases he
   ·rename_i x y _ my;split at he
    ·rename_i xv yv hx hy;split at he
     ·rename_i e' hf;injection he with he;subst he;refine ((Br (Ts:=c.argTypes) (T:=o.type) hf hc (cg hs hx) (cg hs hy)).runs hs).lj ?_;simp only [execOp,ho,xw #[],nh _ my];rfl
     ·refine ((FY (Ts:=c.argTypes) (T:=o.type) he (cg hs hx) (cg hs hy)).runs hs).lj ?_;simp only [execOp,ho,xw #[],nh _ my];rfl
    ·cases he
   ·rename_i x y _ my;split at he
    ·rename_i xv yv hx hy;split at he
     ·rename_i e' hf;injection he with he;subst he;refine ((Br (Ts:=c.argTypes) (T:=o.type) hf hc (cg hs hx) (cg hs hy)).runs hs).lj ?_;simp only [execOp,ho,xw #[],nh _ my];rfl
     ·refine ((FZ (Ts:=c.argTypes) (T:=o.type) he (cg hs hx) (cg hs hy)).runs hs).lj ?_;simp only [execOp,ho,xw #[],nh _ my];rfl
    ·cases he
   ·rename_i x y T T' my NZ;split at he
    ·rename_i xv yv hx hy;refine (Eh (T':=T') (ty:=o.type) hs he (cg hs hx) (cg hs hy)).lj ?_;simp only [execOp,ho,xw #[],nh _ my,I8 _ NZ];rfl
    ·cases he
   ·rename_i x T my NZ;split at he
    ·rename_i el hv hu;obtain ⟨ad,e1⟩:=cg hs hv;have hg:aP cx.P g st.mem (cx.safe g st.mem w) w (Builtin.cap_ #[T] o.type #[a.eval x]) e:=by
      refine aP.mk (aJ he) (r:= .int .i64 0) ?_ rfl;rw [e1];simp [Builtin.cap_,run_underlying hu,goInt]
     refine (hg.runs hs).lj ?_;simp only [execOp,ho,xw #[],nh _ my,I8 _ NZ];rfl
    ·cases he
   ·cases he
  ·rename_i f hf;split at he
   ·rename_i ms rs outs k vs hk kG;have QE:a.eval f= .func (.func k) #[] #[]:=cg hs hk;obtain ⟨⟨fn,c1,c2,c3⟩,Ge⟩:=wM hs hw he hc (yS hs kG);refine .inr (.inr ⟨k,(c.args.toList.map a.eval).toArray,?_,Ge⟩);have nh:c.args.map a.eval=(c.args.toList.map a.eval).toArray:=by apply Array.ext';rw [Array.toList_map]
    simp only [execOp,ho,resolve,hf,QE,Deferred.ofValue,Sem.run_bind,Sem.run_pure,Result.andThen_ok,invoke,callFunc,run_program,c1];simp only [c2,c3,nh];simp
   ·rename_i ms rs outs k t x vs hk kG;obtain ⟨ad,es,QE,DO,bA,cN⟩:=cg hs hk;have T9:bC (VR g st.mem (cx.safe g st.mem w) w) (vs++[.one (.ip t x 0)]) (c.args.toList.map a.eval++[.pointer (some ad)]):=
     bC.append (yS hs kG) (QD ⟨ad,es,QE,DO,bA,cN⟩ QE)
    obtain ⟨⟨fn,c1,c2,c3⟩,Ge⟩:=wM hs hw he hc T9;refine .inr (.inr ⟨k,(c.args.toList.map a.eval++[Value.pointer (some ad)]).toArray,?_,Ge⟩);have nh:c.args.map a.eval++ #[Value.pointer (some ad)]=(c.args.toList.map a.eval++[Value.pointer (some ad)]).toArray:=KH a.eval c.args _;simp only [execOp,ho,resolve,hf,QE,Deferred.ofValue,Sem.run_bind,Sem.run_pure,Result.andThen_ok,invoke,callFunc,run_program,c1];simp only [c2,c3,Array.empty_append,nh];simp
   ·rename_i k fk n hk kG;split at he
    ·rename_i ik hu;have QE:a.eval f= .func (.func k) #[] #[]:=cg hs hk;have T9:bC (VR g st.mem (cx.safe g st.mem w) w) [.one (.aw (.aW fk) n)] (c.args.toList.map a.eval):=yS hs kG;have nh:c.args.map a.eval=(c.args.toList.map a.eval).toArray:=by apply Array.ext';rw [Array.toList_map]
     generalize c.args.toList.map a.eval=vals at*
     match vals,T9 with
     |[xa],T9=>
      obtain ⟨b,rfl,hb⟩:=oE (g:=g) (m:=st.mem) (S:=cx.safe g st.mem w) (w:=w) T9.1;obtain ⟨hp,ow⟩:=cO he;rw [ow] at hc;have XG:xM cx.P k fk ik:=hc.1;have jg:n≠IV fk:=hc.2.1;have hbn:b=n:=by
       cases fk with
       |f32=>
        rw [AJ] at hb;split at hb
        ·exact absurd hb.symm jg
        ·exact hb
       |f64=>
        rw [Cn] at hb;split at hb
        ·exact absurd hb.symm jg
        ·exact hb
      subst hbn;refine .inl ⟨.int ik b,w,?_,g,?_,?_⟩
      ·simp only [execOp,ho,resolve,hf,QE,Deferred.ofValue,Sem.run_bind,Sem.run_pure,Result.andThen_ok,invoke,nh];simpa using XG b w
      ·rw [hp.1,hp.2.1];exact hs
      ·rw [hp.1,hp.2.1,hp.2.2];exact rfl
    ·cases he
   ·cases he
  ·cases he
 ·cases he
end
end Go.Ide
