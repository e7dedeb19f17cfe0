import Derived.Test.YtjnkhcgmgkhnaaaGreatDoorLibA
import Derived.Laws.FloatArith
import Derived.Lib.ConvBytes
import Derived.Laws.BytesString
import Derived.Laws.Externs
set_option linter.unusedVariables false
set_option linter.unusedSimpArgs false
set_option linter.unusedSectionVars false
namespace Go.Ide
section
variable {g:GM} {m:Mem} {S S2:Nat→Prop} {w:World}
theorem eI.len {t:Ty}{cs:List Value}{xs:List t.D}{A:List (List Nat→Option Nat)}(h:eI S w t cs xs A):cs.length=1:=by
 rcases h with ⟨_,_,a,e⟩|⟨v,γ,_,e,_⟩<;>subst e<;>rfl
theorem cy.len: ∀(t:Ty) {cs:List Value} {x:t.D} {A:List (List Nat→Option Nat)},cy S w t cs x A→cs.length=t.size
 | .int _,_,_,_,h=>aR.len _ _ _ h.2
 | .cD _,_,_,_,h=>aR.len _ _ _ h.2
 | .bool,_,_,_,h=>aR.len _ _ _ h.2
 | .str,_,_,_,h=>aR.len _ _ _ h.2
 | .cl _ _,_,_,_,h=>aR.len _ _ _ h.2
 | .pair a b,_,_,_,⟨c1,c2,A1,A2,e,_,h1,h2⟩=>by subst e;simp [Ty.size,cy.len a h1,cy.len b h2]
 | .st t,_,_,_,h=>cy.len t (cs:=_) h
 | .sl t,_,_,_,h=>eI.len h
 | .bx t,_,_,_,⟨_,_,_,_,e,_⟩=>by subst e;rfl
 | .own t,_,_,_,h=>eI.len h
theorem eI.rQ {t:Ty}{cs:List Value}{xs:List t.D}{A:List (List Nat→Option Nat)}(h:eI S w t cs xs A):A.length=1:=by
 rcases h with ⟨e,_⟩|⟨v,γ,e,_⟩<;>subst e<;>rfl
def Ty.yM:Ty→Nat
 | .pair a b=>a.yM+b.yM
 | .st t=>t.yM
 | .sl _=>1
 | .bx _=>1
 | .own _=>1
 |_=>0
theorem cy.rQ: ∀(t:Ty) {cs:List Value} {x:t.D} {A:List (List Nat→Option Nat)},cy S w t cs x A→A.length=t.yM
 | .int _,_,_,_,h=>by rw [h.1];rfl
 | .cD _,_,_,_,h=>by rw [h.1];rfl
 | .bool,_,_,_,h=>by rw [h.1];rfl
 | .str,_,_,_,h=>by rw [h.1];rfl
 | .cl _ _,_,_,_,h=>by rw [h.1];rfl
 | .pair a b,_,_,_,⟨c1,c2,A1,A2,_,e,h1,h2⟩=>by subst e;simp [Ty.yM,cy.rQ a h1,cy.rQ b h2]
 | .st t,_,_,_,h=>cy.rQ t (cs:=_) h
 | .sl t,_,_,_,h=>eI.rQ h
 | .bx t,_,_,_,⟨_,_,_,e,_⟩=>by subst e;rfl
 | .own t,_,_,_,h=>eI.rQ h
theorem aR.flat {w':World}: ∀(t:Ty) {cs:List Value} {x:t.D},t.flat=true→aR S w t cs x→aR S2 w' t cs x
 | .int _,_,_,_,h=>h
 | .cD _,_,_,_,h=>h
 | .bool,_,_,_,h=>h
 | .str,_,_,_,h=>h
 | .sl _,_,_,hf,_=>by cases hf
 | .bx _,_,_,hf,_=>by cases hf
 | .cl _ _,_,_,hf,_=>by cases hf
 | .own _,_,_,hf,_=>by cases hf
 | .pair a b,_,_,hf,⟨c1,c2,e,h1,h2⟩=>by
  simp only [Ty.flat,Bool.and_eq_true] at hf;exact ⟨c1,c2,e,aR.flat a hf.1 h1,aR.flat b hf.2 h2⟩
 | .st t,_,_,hf,h=>aR.flat t (cs:=_) hf h
theorem cf.gJ: ∀(t:Ty) {γ:List Nat→Option Nat} {o:Nat} {cs:List Value} {x:t.D},t.gJ=true→cf S w t γ o cs x→cf S2 w t γ o cs x
 | .own t,γ,o,cs,xs,hf,⟨v,e,ha,hr⟩=>by
  refine ⟨v,e,ha,?_⟩;cases hg:γ [o] with
  |none=>rw [hg] at hr;exact hr
  |some b=>
   rw [hg] at hr;obtain ⟨arr,hb,hi⟩:=hr;exact ⟨arr,hb,fun i hl=>let ⟨es,h1,h2⟩:=hi i hl;⟨es,h1,cf.gJ t hf h2⟩⟩
 | .pair a b,γ,o,cs,x,hf,⟨c1,c2,e,h1,h2⟩=>by
  simp only [Ty.gJ,Bool.and_eq_true] at hf;exact ⟨c1,c2,e,cf.gJ a hf.1 h1,cf.gJ b hf.2 h2⟩
 | .st t,γ,o,cs,x,hf,hr=>cf.gJ t (o:=o) (cs:=cs) (x:=x) hf hr
 | .int k,_,_,cs,x,_,hr=>hr
 | .cD k,_,_,cs,x,_,hr=>hr
 | .bool,_,_,cs,x,_,hr=>hr
 | .str,_,_,cs,x,_,hr=>hr
 | .sl t,_,_,cs,x,hf,hr=>by cases hf
 | .bx t,_,_,cs,x,hf,hr=>by cases hf
 | .cl f t,_,_,cs,x,hf,hr=>by cases hf
theorem dw.gJ {γ:List Nat→Option Nat}{t:Ty}{xs:List t.D}{arr:Array Value}(hf:t.gJ=true)(h:dw S w γ t xs arr):dw S2 w γ t xs arr:=
 fun i hi=>let ⟨es,h1,h2⟩:=h i hi;⟨es,h1,cf.gJ t hf h2⟩
theorem qM: ∀(t:Ty) (x:t.D) (o:Nat),t.top=true→cW t x o=none
 | .int _,_,_,_=>rfl
 | .cD _,_,_,_=>rfl
 | .bool,_,_,_=>rfl
 | .str,_,_,_=>rfl
 | .sl _,_,_,_=>rfl
 | .bx _,_,_,_=>rfl
 | .cl _ _,_,_,_=>rfl
 | .own _,_,_,h=>by cases h
 | .pair a b,x,o,h=>by
  simp only [Ty.top,Bool.and_eq_true] at h;simp only [cW];cases Nat.blt o a.size with
  |true=>exact qM a _ _ h.1
  |false=>exact qM b _ _ h.2
 | .st t,x,o,h=>qM t x o h
theorem bu.top {t:Ty}(h:t.top=true){xs bF:List t.D}(hl:xs.length=bF.length):bu t xs bF:=
 ⟨hl,fun i o e sD hs=>by rw [qM t _ _ h] at hs;cases hs⟩
structure RM (g:GM)(m:Mem)(w:World):Prop where
 inj: ∀k k' p p' ch gV b,lk k m=some ch→ch.owns p→lk k' m=some gV→gV.owns p'→g.f k p=some b→g.f k' p'=some b→k=k'∧p=p'
 lt: ∀k p ch b,lk k m=some ch→ch.owns p→g.f k p=some b→b<w.heap.size
theorem bD.Lu {cx:Cx}{st:St}{a:Act}(h:bD cx g st a w):RM g st.mem w:=⟨h.eH,h.lt⟩
theorem ox.nil:ox []:=⟨List.Pairwise.nil,fun γ h=>by simp at h⟩
theorem vd.nil:vd [] []:=fun b=>by simp
theorem lB {n:Nat}{A:List (List Nat→Option Nat)}(h: ∀γ,γ∈A→ ∀p b,γ p=some b→b<n): ∃F,vd A F:=by
 classical
 refine ⟨(List.range n).filter fun b=>decide (∃γ,γ∈A∧ ∃p,γ p=some b),fun b=> ?_⟩;rw [List.mem_filter];simp only [List.mem_range,decide_eq_true_eq];exact ⟨fun h=>h.2,fun hp=>⟨let ⟨γ,hγ,p,e⟩:=hp;h γ hγ p b e,hp⟩⟩
def YE (g:GM):Option Nat→List Nat→Option Nat
 |some k=>g.f k
 |none=>fun _=>none
def jl (g:GM)(m:Mem)(ks:List Nat)(A:List (List Nat→Option Nat)):Prop:=
 ∃l:List (Option Nat),A=l.map (YE g)∧(l.filterMap id).Sublist ks∧ ∀k,some k∈l→ ∃t xs,lk k m=some (.seq t xs)
theorem jl.nil {ks:List Nat}:jl g m ks []:=⟨[],rfl,List.nil_sublist _,fun k h=>by simp at h⟩
theorem jl.app {QW RN:List Nat}{A1 A2:List (List Nat→Option Nat)}(h1:jl g m QW A1)(h2:jl g m RN A2):jl g m (QW++RN) (A1++A2):=by
 obtain ⟨l1,e1,s1,p1⟩:=h1;obtain ⟨l2,e2,s2,p2⟩:=h2;refine ⟨l1++l2,by rw [e1,e2,List.map_append],by rw [List.filterMap_append];exact s1.append s2,fun k hk=> ?_⟩;rcases List.mem_append.1 hk with hk|hk
 exact p1 k hk;exact p2 k hk
theorem jl.inj (hI:RM g m w){ks:List Nat}{A:List (List Nat→Option Nat)}(h:jl g m ks A)(hn:ks.Nodup):ox A:=by
 obtain ⟨l,e,hs,hp⟩:=h;subst e;have hn:=hs.nodup hn;constructor;rw [List.pairwise_map];have:=List.pairwise_filterMap.1 hn;refine this.imp_of_mem fun {o o'} ho uE hr p q b h1 h2=> ?_;cases o with
 |none=>cases h1
 |some k=>
  cases o' with
  |none=>cases h2
  |some k'=>
   obtain ⟨t,xs,l1⟩:=hp k ho;obtain ⟨t',bF,l2⟩:=hp k' uE;exact hr k rfl k' rfl (hI.inj k k' p q _ _ b l1 trivial l2 trivial h1 h2).1
 intro γ hγ p q b h1 h2;obtain ⟨o,ho,rfl⟩:=List.mem_map.1 hγ;cases o with
 |none=>cases h1
 |some k=>
  obtain ⟨t,xs,l1⟩:=hp k ho;exact (hI.inj k k p q _ _ b l1 trivial l1 trivial h1 h2).2
theorem jl.cg {ks:List Nat}{A:List (List Nat→Option Nat)}(h:jl g m ks A){γ:List Nat→Option Nat}(hγ:γ∈A){p:List Nat}{b:Nat}(hb:γ p=some b): ∃k,k∈ks∧ ∃p t xs,g.f k p=some b∧lk k m=some (.seq t xs):=by
 obtain ⟨l,e,hs,hp⟩:=h;subst e;obtain ⟨o,ho,rfl⟩:=List.mem_map.1 hγ;cases o with
 |none=>cases hb
 |some k=>
  obtain ⟨t,xs,l1⟩:=hp k ho;exact ⟨k,hs.subset (List.mem_filterMap.2 ⟨some k,ho,rfl⟩),p,t,xs,hb,l1⟩
def mI (g:GM)(m:Mem)(SU:Nat→Prop)(w':World)(u:Mem):Prop:=
 ∀p∈u,∃t xs,lk p.1 m=some (.seq t xs)∧(p.2= .gone∨ ∃bF,p.2= .seq t bF∧bu t xs bF∧
  (match g.f p.1 [] with|none=>bF=[]|some b=> ∃arr,cg w' b arr∧dw SU w' (g.f p.1) t bF arr))
theorem mI.nil {SU:Nat→Prop}{w':World}:mI g m SU w' []:=fun p hp=>by simp at hp
theorem mI.app {SU:Nat→Prop}{w':World}{u1 u2:Mem}(h1:mI g m SU w' u1)(h2:mI g m SU w' u2):mI g m SU w' (u1++u2):=fun p hp=>by
 rcases List.mem_append.1 hp with hp|hp
 exact h1 p hp;exact h2 p hp
theorem H2 (hm:jk g m S w)(hS: ∀b,S b→S2 b){c:Nat}{t:Ty}{xs:List t.D}(hl:lk c m=some (.seq t xs)){v:Value}(hv:CR g m S w (.all c) v):
 ∃A,eI S2 w t [v] xs A∧jl g m [c] A∧ ∀(w':World) (SO SU:Nat→Prop) (bF:List t.D),(∀b arr,cg w b arr→ ∃aA,cg w' b aA∧aA.size=arr.size)→(t.gJ=true∨ ∀b,SO b→SU b)→eI SO w' t [v] bF A→bu t xs bF→mI g m SU w' [(c,.seq t bF)]:=by
 have hx:=hv.2.2 t xs (.inl hl);have bK:=hm c _ hl;unfold gA at hx;unfold gU at bK;have RO: ∀bF,xs=[]→bu t xs bF→bF=[]:=fun bF h h'=>List.eq_nil_of_length_eq_zero (by rw [←h'.1,h];rfl);cases hg:g.f c [] with
 |none=>
  rw [show g c=none from hg] at hx;rw [hg] at bK;obtain ⟨a,ha⟩:=hx;have bK:xs=[]:=bK;refine ⟨[fun _=>none],.inl ⟨rfl,bK,a,by rw [ha]⟩,⟨[none],rfl,by simp,by simp⟩,fun w' SO SU bF cY hf ho hsh p hp=> ?_⟩;simp at hp;subst hp;refine ⟨t,xs,hl,.inr ⟨bF,rfl,hsh,?_⟩⟩;simp only [hg];exact RO bF bK hsh
 |some b=>
  rw [show g c=some b from hg] at hx;rw [hg] at bK;obtain ⟨cap,arr,e1,k1,k2,k3,k4⟩:=hx;obtain ⟨aA,iE,lr⟩:=bK;have:=k2.eq iE;subst this;subst e1;by_cases hcap:cap=0;subst hcap;have sP:xs=[]:=List.eq_nil_of_length_eq_zero (by omega);refine ⟨[fun _=>none],.inl ⟨rfl,sP,_,by rw [sP];rfl⟩,⟨[none],rfl,by simp,by simp⟩,fun w' SO SU bF cY hf ho hsh p hp=> ?_⟩;simp at hp;subst hp;have Gk:=RO bF sP hsh;refine ⟨t,xs,hl,.inr ⟨bF,rfl,hsh,?_⟩⟩;simp only [hg];obtain ⟨aA,q1,_⟩:=cY b arr k2;exact ⟨aA,q1,by rw [Gk];exact fun i hi=>by simp at hi⟩;refine ⟨[g.f c],.inr ⟨_,g.f c,rfl,rfl,b,cap,arr,hg,rfl,k1,by omega,k2,k3,k4,lr.ar (fun b hb=>⟨hS b hb,rfl⟩) (fun _ _ _=>rfl)⟩,⟨[some c],rfl,by simp,fun k hk=>by simp at hk;subst hk;exact ⟨t,xs,hl⟩⟩,fun w' SO SU bF cY hf ho hsh p hp=> ?_⟩;simp at hp;subst hp;refine ⟨t,xs,hl,.inr ⟨bF,rfl,hsh,?_⟩⟩;rcases ho with ⟨e,_⟩|⟨v',γ,e,e2,b2,YF,mc,h0,_,_,_,q3,_,_,q6⟩
  injection e with e;rw [e] at hg;cases hg;injection e with e;subst e;simp only [h0];refine ⟨mc,q3,?_⟩;rcases hf with hf|hf
  exact q6.gJ hf;exact q6.ar (fun b hb=>⟨hf b hb,rfl⟩) fun _ _ _=>rfl
theorem Lv (hm:jk g m S w)(hS: ∀b,S b→S2 b){c sz:Nat}{t:Ty}{xs:List t.D}(hl:lk c m=some (.seq t xs)){v:Value}(hv:CR g m S w (.bT c 0 sz 0) v):
 ∃A,yL S2 w t [v] xs A∧jl g m [c] A∧ ∀(w':World) (SO SU:Nat→Prop) (bF:List t.D),(t.gJ=true∨ ∀b,SO b→SU b)→yL SO w' t [v] bF A→bu t xs bF→mI g m SU w' [(c,.seq t bF)]:=by
 obtain ⟨_,b,hg,ev⟩:=hv;have bK:=hm c _ hl;unfold gU at bK;have hg:g.f c []=some b:=hg;rw [hg] at bK;obtain ⟨arr,hb,lr⟩:=bK;refine ⟨[g.f c],⟨g.f c,b,arr,rfl,by rw [ev];simp,hg,hb,lr.ar (fun b hb=>⟨hS b hb,rfl⟩) fun _ _ _=>rfl⟩,⟨[some c],rfl,by simp,fun k hk=>by simp at hk;subst hk;exact ⟨t,xs,hl⟩⟩,fun w' SO SU bF hf ho hsh p hp=> ?_⟩;simp at hp;subst hp;refine ⟨t,xs,hl,.inr ⟨bF,rfl,hsh,?_⟩⟩;obtain ⟨γ,b2,mc,e1,_,h0,q3,q6⟩:=ho;injection e1 with e1;subst e1;simp only [h0];refine ⟨mc,q3,?_⟩;rcases hf with hf|hf
 exact q6.gJ hf;exact q6.ar (fun b hb=>⟨hf b hb,rfl⟩) fun _ _ _=>rfl
theorem zL (hm:jk g m S w)(hS: ∀b,S b→S2 b): ∀(t:Ty) {kI:List aq} {x:t.D} {r r':List aq} {ks:List Nat} {vs:List Value},
 impl m t kI=some (x,r)→cJ m t kI=some (ks,r')→aK (CR g m S w) kI vs→
 ∃v1 v2 A,vs=v1++v2∧cy S2 w t v1 x A∧aK (CR g m S w) r v2∧r'=r∧jl g m ks A∧(∀k∈ks,∃t xs,lk k m=some (.seq t xs))∧
  ∀(w':World) (SO SU:Nat→Prop) (x':t.D) (u:Mem) (Fo:List aq),(∀b arr,cg w b arr→ ∃aA,cg w' b aA∧aA.size=arr.size)→(t.jL=true∨ ∀b,SO b→SU b)→mH t kI x'=some (u,Fo)→cy SO w' t v1 x' A→rP t x x'→
   u.map Prod.fst=ks∧mI g m SU w' u∧Fo=r:=by
 have nP: ∀(t:Ty) (hp: ∀cs x A,A=[]∧aR S2 w t cs x→cy S2 w t cs x A) (hu: ∀kI x' u Fo,mH t kI x'=some (u,Fo)→(match kI with| .aB _ _::r=>some (([]:Mem),r)|_=>none)=some (u,Fo))
  {kI:List aq} {x:t.D} {r r':List aq} {ks:List Nat} {vs:List Value},
  b9 m t kI=some (x,r)→(match kI with| .aB _ _::r=>some ([],r)|_=>none)=some (ks,r')→aK (CR g m S w) kI vs→
  ∃v1 v2 A,vs=v1++v2∧cy S2 w t v1 x A∧aK (CR g m S w) r v2∧r'=r∧jl g m ks A∧(∀k∈ks,∃t xs,lk k m=some (.seq t xs))∧
  ∀(w':World) (SO SU:Nat→Prop) (x':t.D) (u:Mem) (Fo:List aq),(∀b arr,cg w b arr→ ∃aA,cg w' b aA∧aA.size=arr.size)→(t.jL=true∨ ∀b,SO b→SU b)→mH t kI x'=some (u,Fo)→cy SO w' t v1 x' A→rP t x x'→
   u.map Prod.fst=ks∧mI g m SU w' u∧Fo=r:=by
  intro t hp hu kI x r r' ks vs h1 h2 h3;split at h2;rename_i t' y r0;injection h2 with h2;injection h2 with e1 e2;subst e1;subst e2;cases vs with
  |nil=>exact h3.elim
  |cons v vs=>
   simp only [b9] at h1;split at h1;rename_i z hz;injection h1 with h1;injection h1 with e1 e2;subst e1;subst e2;refine ⟨[v],vs,[],rfl,hp _ _ _ ⟨rfl,?_⟩,h3.2,rfl,jl.nil,by simp,fun w' SO SU x' u Fo _ _ h _ _=> ?_⟩;refine pP (m0:=[]) hS gr.nil (c:= .aB t' y) ?_ h3.1;simp only [cI] at hz⊢;exact hz;have:=hu _ _ _ _ h;simp at this;obtain ⟨e1,e2⟩:=this;subst e1;subst e2;exact ⟨rfl,mI.nil,rfl⟩;cases h1
  cases h2
 intro t;induction t with
 |int k=>intro kI x r r' ks vs h1 h2 h3;exact nP (.int k) (fun _ _ _ h=>h) (fun _ _ _ _ h=>h) h1 h2 h3
 |cD k=>intro kI x r r' ks vs h1 h2 h3;exact nP (.cD k) (fun _ _ _ h=>h) (fun _ _ _ _ h=>h) h1 h2 h3
 |bool=>intro kI x r r' ks vs h1 h2 h3;exact nP .bool (fun _ _ _ h=>h) (fun _ _ _ _ h=>h) h1 h2 h3
 |str=>intro kI x r r' ks vs h1 h2 h3;exact nP .str (fun _ _ _ h=>h) (fun _ _ _ _ h=>h) h1 h2 h3
 |cl f t _=>intro kI x r r' ks vs h1 h2 h3;exact nP (.cl f t) (fun _ _ _ h=>h) (fun _ _ _ _ h=>h) h1 h2 h3
 |st t ih=>intro kI x r r' ks vs h1 h2 h3;exact ih h1 h2 h3
 |pair a b Ob Lw=>
  intro kI x r r' ks vs h1 h2 h3;simp only [impl] at h1;simp only [cJ] at h2;split at h1;rename_i y r1 e1;split at h1;rename_i z r2 e2;injection h1 with h1;injection h1 with k1 k2;subst k1;subst k2;split at h2;rename_i QW r3 e3;split at h2;rename_i RN r4 e4;injection h2 with h2;injection h2 with k3 k4;subst k3;subst k4;obtain ⟨v1,v2,A1,rfl,o1,a1,q1,s1,p1,n1⟩:=Ob e1 e3 h3;subst q1;obtain ⟨v3,v4,A2,rfl,o2,a2,q2,s2,p2,n2⟩:=Lw e2 e4 a1;refine ⟨v1++v3,v4,A1++A2,by simp,⟨v1,v3,_,_,rfl,rfl,o1,o2⟩,a2,q2,s1.app s2,fun k hk=> ?_,fun w' SO SU x' u Fo cY hf hu ho hsh=> ?_⟩;rcases List.mem_append.1 hk with hk|hk
  exact p1 k hk;exact p2 k hk;simp only [mH] at hu;have M8:a.jL=true∨ ∀b,SO b→SU b:=hf.imp_left fun hf=>by simp only [Ty.jL,Bool.and_eq_true] at hf;exact hf.1
  have H3:b.jL=true∨ ∀b,SO b→SU b:=hf.imp_left fun hf=>by simp only [Ty.jL,Bool.and_eq_true] at hf;exact hf.2
  split at hu;rename_i u1 r5 e5;split at hu;rename_i u2 r6 e6;injection hu with hu;injection hu with k5 k6;subst k5;subst k6;obtain ⟨c1,c2,B1,B2,ec,eA,o3,o4⟩:=ho;obtain ⟨rfl,rfl⟩:=List.append_inj ec (by rw [cy.len a o1,cy.len a o3]);obtain ⟨rfl,rfl⟩:=List.append_inj eA (by rw [cy.rQ a o1,cy.rQ a o3]);obtain ⟨g1,g2,g3⟩:=n1 w' SO SU x'.1 u1 r5 cY M8 e5 o3 hsh.1;subst g3;obtain ⟨g4,g5,g6⟩:=n2 w' SO SU x'.2 u2 r6 cY H3 e6 o4 hsh.2;exact ⟨by simp [g1,g4],g2.app g5,g6⟩;cases hu;cases hu;cases h2;cases h2;cases h1;cases h1
 |sl t ih=>
  intro kI x r r' ks vs h1 h2 h3;simp only [cJ] at h2;split at h2;rename_i c r0;cases vs with
  |nil=>exact h3.elim
  |cons v vs=>
   simp only [impl,b9] at h1;split at h1;rename_i z hz;injection h1 with h1;injection h1 with e1 e2;subst e1;subst e2;simp only [cI] at hz;split at hz;rename_i e' xs hl;rw [hl] at h2;simp only at h2;split at h2;rename_i he;subst he;injection h2 with h2;injection h2 with e1 e2;subst e1;subst e2;rw [dif_pos rfl] at hz;injection hz with hz;subst hz;obtain ⟨A,f1,f2,f3⟩:=H2 hm hS hl h3.1;refine ⟨[v],vs,A,rfl,f1,h3.2,rfl,f2,fun k hk=>by simp at hk;subst hk;exact ⟨_,_,hl⟩,fun w' SO SU x' u Fo cY hf hu ho hsh=> ?_⟩;simp only [mH] at hu;injection hu with hu;injection hu with e1 e2;subst e1;subst e2;exact ⟨rfl,f3 w' SO SU x' cY hf ho hsh,rfl⟩;cases h2;cases hz;cases h1
  rename_i r0;injection h2 with h2;injection h2 with e1 e2;subst e1;subst e2;cases vs with
  |nil=>exact h3.elim
  |cons v vs=>
   simp only [impl,b9,cI] at h1;injection h1 with h1;injection h1 with e1 e2;subst e1;subst e2;obtain ⟨a,ha⟩:=h3.1;subst ha;refine ⟨[.slice a 0 0],vs,[fun _=>none],rfl,.inl ⟨rfl,rfl,a,rfl⟩,h3.2,rfl,⟨[none],rfl,by simp,by simp⟩,by simp,fun w' SO SU x' u Fo cY hf hu ho hsh=> ?_⟩;simp only [mH] at hu;injection hu with hu;injection hu with e1 e2;subst e1;subst e2;exact ⟨rfl,mI.nil,rfl⟩
  cases h2
 |own t ih=>
  intro kI x r r' ks vs h1 h2 h3;simp only [cJ] at h2;split at h2;simp [impl,b9,cI] at h1;simp [impl,b9,cI] at h1;cases h2
 |bx t ih=>
  intro kI x r r' ks vs h1 h2 h3;simp only [cJ] at h2;split at h2;rename_i c i sz off r0;cases vs with
  |nil=>exact h3.elim
  |cons v vs=>
   simp only [impl,b9] at h1;split at h1;rename_i z hz;injection h1 with h1;injection h1 with e1 e2;subst e1;subst e2;simp only [cI] at hz;split at hz;rename_i e' xs hl;rw [hl] at h2;simp only at h2;split at h2;rename_i he;subst he;injection h2 with h2;injection h2 with e1 e2;subst e1;subst e2;rw [dif_pos rfl] at hz;cases hb:(Nat.beq i 0&&(Nat.beq off 0&&Nat.beq sz e'.size)) with
   |false=>rw [hb] at hz;cases hz
   |true=>
    rw [hb] at hz;simp only [cond_true] at hz;injection hz with hz;subst hz;simp only [Bool.and_eq_true] at hb;have hi:=Nat.eq_of_beq_eq_true hb.1;have ho:=Nat.eq_of_beq_eq_true hb.2.1;subst hi;subst ho;obtain ⟨A,f1,f2,f3⟩:=Lv hm hS hl h3.1;refine ⟨[v],vs,A,rfl,f1,h3.2,rfl,f2,fun k hk=>by simp at hk;subst hk;exact ⟨_,_,hl⟩,fun w' SO SU x' u Fo cY hf hu ho hsh=> ?_⟩;simp only [mH] at hu;injection hu with hu;injection hu with e1 e2;subst e1;subst e2;exact ⟨rfl,f3 w' SO SU x' hf ho hsh,rfl⟩
   cases h2;cases hz;cases h1
  cases h2
theorem nA {m:Mem}: ∀(t:Ty) (cs:List aq) {p:List Nat×List aq},cJ m t cs=some p→jV t cs=some p
 | .int _,_,_,h=>h
 | .cD _,_,_,h=>h
 | .bool,_,_,h=>h
 | .str,_,_,h=>h
 | .cl _ _,_,_,h=>h
 | .sl t,cs,p,h=>by
  simp only [cJ] at h;simp only [jV];split at h;split at h;split at h;exact h;cases h;cases h;exact h;cases h
 | .own t,cs,p,h=>by
  simp only [cJ] at h;simp only [jV];split at h;split at h;split at h;exact h;cases h;cases h;exact h;cases h
 | .bx t,cs,p,h=>by
  simp only [cJ] at h;simp only [jV];split at h;split at h;split at h;exact h;cases h;cases h;cases h
 | .st t,cs,p,h=>nA t cs h
 | .pair a b,cs,p,h=>by
  simp only [cJ] at h;simp only [jV];split at h;rename_i x r e1;rw [nA a cs e1];simp only;split at h;rename_i y r' e2;rw [nA b r e2];exact h;cases h;cases h
end
end Go.Ide
namespace Go.Ide
theorem cT: ∀(l:List Chunk) (n k:Nat),lk k (aZ n l)=if n≤k then l[k - n]? else none
 |[],n,k=>by simp [aZ,eB]
 |c::r,n,k=>by
  simp only [aZ];rw [aw,cT r (n+1) k];by_cases h:k=n;subst h;simp;rw [if_neg h];by_cases hle:n≤k;rw [if_pos hle,if_pos (by omega),show k - n=(k - (n+1))+1 from by omega];simp;rw [if_neg hle,if_neg (by omega)]
theorem pE: ∀(l:List Chunk) (n:Nat),(aZ n l).length=l.length
 |[],_=>rfl
 |_::r,n=>by simp [aZ,pE r (n+1)]
structure Laid (g':GM)(m':Mem)(S':Nat→Prop)(w:World)(n:Nat)(ni:List Chunk)(A8:List (List Nat→Option Nat)):Prop where
 len:A8.length=ni.length
 chunk: ∀(j:Nat) (ch:Chunk),ni[j]? =some ch→ch≠ .gone∧ ∃o,A8[j]? =some o∧gU g' m' S' w o ch
theorem Laid.app {g':GM}{m':Mem}{S':Nat→Prop}{w:World}{n n':Nat}{c1 c2:List Chunk}{a1 a2:List (List Nat→Option Nat)}(h1:Laid g' m' S' w n c1 a1)(h2:Laid g' m' S' w n' c2 a2):
 Laid g' m' S' w n (c1++c2) (a1++a2):=by
 refine ⟨by simp [h1.len,h2.len],fun j ch hj=> ?_⟩;by_cases hlt:j<c1.length;rw [List.getElem?_append_left hlt] at hj;rw [List.getElem?_append_left (by rw [h1.len];exact hlt)];exact h1.chunk j ch hj;rw [List.getElem?_append_right (by omega)] at hj;rw [List.getElem?_append_right (by rw [h1.len];omega),h1.len];exact h2.chunk _ ch hj
section
variable {S:Nat→Prop} {w:World}
theorem Bm {t:Ty}{cs:List Value}{xs:List t.D}{A:List (List Nat→Option Nat)}(n:Nat)(h:eI S w t cs xs A):
 ∀(g':GM) (m':Mem),(∀j ch,[Chunk.seq t xs][j]? =some ch→lk (n+j) m'=some ch)→(∀j o,A[j]? =some o→g'.f (n+j)=o)→
  aK (CR g' m' S w) [.all n] cs∧Laid g' m' S w n [.seq t xs] A:=by
 rcases h with ⟨eA,hx,a,e⟩|⟨v,γ,eA,e,b,cap,arr,h0,ev,h1,h2,h3,h4,h5,h6⟩
 subst eA;subst e;subst hx;intro g' m' hm hg;have hl:=hm 0 _ rfl;have iF:=hg 0 _ rfl;rw [Nat.add_zero] at hl iF;refine ⟨⟨⟨by rw [hl];simp,rfl,fun t' bF dB=> ?_⟩,trivial⟩,rfl,fun j ch hj=> ?_⟩;have:g' n=none:=congrFun iF [];have e:=cz.toSeq hl dB;rw [hl] at e;injection e with e;injection e with e1 e2;subst e1;have e2:=eq_of_heq e2;subst e2;rw [this];exact ⟨a,rfl⟩;have:j=0:=by
  have:=(List.getElem?_eq_some_iff.1 hj).1;simp at this;exact this
 subst this;simp at hj;subst hj;exact ⟨by simp,_,rfl,rfl⟩;subst eA;subst e;subst ev;intro g' m' hm hg;have hl:=hm 0 _ rfl;have iF:=hg 0 _ rfl;rw [Nat.add_zero] at hl iF;refine ⟨⟨⟨by rw [hl];simp,rfl,fun t' bF dB=> ?_⟩,trivial⟩,rfl,fun j ch hj=> ?_⟩;have e:=cz.toSeq hl dB;rw [hl] at e;injection e with e;injection e with e1 e2;subst e1;have e2:=eq_of_heq e2;subst e2;have:g' n=some b:=(congrFun iF []).trans h0;rw [this];exact ⟨cap,arr,rfl,h1,h3,h4,h5⟩;have:j=0:=by
  have:=(List.getElem?_eq_some_iff.1 hj).1;simp at this;exact this
 subst this;simp at hj;subst hj;refine ⟨by simp,γ,rfl,?_⟩;unfold gU;rw [h0];exact ⟨arr,h3,h6⟩
theorem H4 {t:Ty}{cs:List Value}{xs:List t.D}{A:List (List Nat→Option Nat)}(n:Nat)(h:yL S w t cs xs A):
 ∀(g':GM) (m':Mem),(∀j ch,[Chunk.seq t xs][j]? =some ch→lk (n+j) m'=some ch)→(∀j o,A[j]? =some o→g'.f (n+j)=o)→
  aK (CR g' m' S w) [.bT n 0 t.size 0] cs∧Laid g' m' S w n [.seq t xs] A:=by
 obtain ⟨γ,b,arr,eA,e,h0,h3,h6⟩:=h;subst eA;subst e;intro g' m' hm hg;have hl:=hm 0 _ rfl;have iF:=hg 0 _ rfl;rw [Nat.add_zero] at hl iF;refine ⟨⟨⟨by rw [hl];simp,b,(congrFun iF []).trans h0,by simp⟩,trivial⟩,rfl,fun j ch hj=> ?_⟩;have:j=0:=by
  have:=(List.getElem?_eq_some_iff.1 hj).1;simp at this;exact this
 subst this;simp at hj;subst hj;refine ⟨by simp,γ,rfl,?_⟩;unfold gU;rw [h0];exact ⟨arr,h3,h6⟩
theorem dL: ∀(t:Ty) (x:t.D) (n:Nat),(bH t x n).2.length=t.yM
 | .int _,_,_=>rfl
 | .cD _,_,_=>rfl
 | .bool,_,_=>rfl
 | .str,_,_=>rfl
 | .sl _,_,_=>rfl
 | .bx _,_,_=>rfl
 | .cl _ _,_,_=>rfl
 | .own _,_,_=>rfl
 | .st t,x,n=>dL t x n
 | .pair a b,x,n=>by simp only [bH,List.length_append,dL a,dL b];rfl
theorem oy: ∀(t:Ty) {cs:List Value} {x:t.D} {A:List (List Nat→Option Nat)} (n:Nat),cy S w t cs x A→
 ∀(g':GM) (m':Mem),(∀j ch,(bH t x n).2[j]? =some ch→lk (n+j) m'=some ch)→(∀j o,A[j]? =some o→g'.f (n+j)=o)→
  aK (CR g' m' S w) (bH t x n).1 cs∧Laid g' m' S w n (bH t x n).2 A
 | .int _,_,_,_,n,⟨hF,h⟩=>by
  subst hF;subst h;exact fun g' m' _ _=>⟨⟨rfl,trivial⟩,rfl,fun j ch hj=>by simp [bH] at hj⟩
 | .cD _,_,_,_,n,⟨hF,b,e,h⟩=>by
  subst hF;subst e;exact fun g' m' _ _=>⟨⟨⟨b,rfl,h⟩,trivial⟩,rfl,fun j ch hj=>by simp [bH] at hj⟩
 | .bool,_,_,_,n,⟨hF,h⟩=>by
  subst hF;subst h;exact fun g' m' _ _=>⟨⟨rfl,trivial⟩,rfl,fun j ch hj=>by simp [bH] at hj⟩
 | .str,_,_,_,n,⟨hF,h⟩=>by
  subst hF;subst h;exact fun g' m' _ _=>⟨⟨rfl,trivial⟩,rfl,fun j ch hj=>by simp [bH] at hj⟩
 | .st t,_,_,_,n,h=>oy t (cs:=_) n h
 | .pair a b,_,x,_,n,⟨c1,c2,A1,A2,e1,e2,h1,h2⟩=>by
  subst e1;subst e2;intro g' m' hm hg;have l1:A1.length=(bH a x.1 n).2.length:=by rw [dL,cy.rQ a h1]
  obtain ⟨p1,q1⟩:=oy a n h1 g' m' (fun j ch hj=>hm j ch (by
   simp only [bH];rw [List.getElem?_append_left (List.getElem?_eq_some_iff.1 hj).1];exact hj)) (fun j o hj=>hg j o (by
   rw [List.getElem?_append_left (List.getElem?_eq_some_iff.1 hj).1];exact hj))
  obtain ⟨p2,q2⟩:=oy b (n+(bH a x.1 n).2.length) h2 g' m' (fun j ch hj=>by
   rw [Nat.add_assoc];refine hm _ ch ?_;simp only [bH];rw [List.getElem?_append_right (by omega)];simpa using hj) (fun j o hj=>by
   rw [Nat.add_assoc];refine hg _ o ?_;rw [List.getElem?_append_right (by omega),l1];simpa using hj)
  exact ⟨p1.append p2,q1.app q2⟩
 | .sl t,_,xs,_,n,h=>Bm n h
 | .bx t,_,xs,_,n,h=>H4 n h
 | .cl f t,_,_,_,n,⟨hF,vs,ps,e,h⟩=>by
  subst hF;subst e;exact fun g' m' _ _=>⟨⟨⟨vs,ps,rfl,h⟩,trivial⟩,rfl,fun j ch hj=>by simp [bH] at hj⟩
 | .own t,_,xs,_,n,h=>Bm n h
theorem Bo {g':GM}{m':Mem}{t:Ty}{cs:List Value}{kI:List aq}{v:Value}(h:cE t cs v)(ha:aK (CR g' m' S w) kI cs):CV g' m' S w t.rH kI v:=by
 unfold cE at h;unfold CV;cases hJ:t.rH with
 |true=>rw [hJ] at h;simp at h;exact ⟨cs,h,ha⟩
 |false=>
  rw [hJ] at h;simp at h;subst h;cases kI with
  |nil=>exact ha.elim
  |cons c r=>
   cases r with
   |nil=>exact ha.1
   |cons=>exact ha.2.elim
theorem yN: ∀{rs:List RV} {vs:List Value} {A:List (List Nat→Option Nat)} (n:Nat),lL S w rs vs A→A.length=(j5 rs n).2.length∧
 ∀(g':GM) (m':Mem),(∀j ch,(j5 rs n).2[j]? =some ch→lk (n+j) m'=some ch)→(∀j o,A[j]? =some o→g'.f (n+j)=o)→
  aK (fun (t:Bool×List aq) v=>CV g' m' S w t.1 t.2 v) (j5 rs n).1 vs∧Laid g' m' S w n (j5 rs n).2 A
 |[],[],A,n,h=>by
  have:A=[]:=h;subst this;exact ⟨rfl,fun _ _ _ _=>⟨trivial,rfl,fun j ch hj=>by simp [j5] at hj⟩⟩
 |r::rs,v::vs,A,n,⟨A1,A2,e,h1,h2⟩=>by
  subst e;have head: ∃p:List aq×List Chunk,p=(if r.fresh then bH r.t r.x n else (fx r.t r.x,[]))∧A1.length=p.2.length∧
   ∀(g':GM) (m':Mem),(∀j ch,p.2[j]? =some ch→lk (n+j) m'=some ch)→(∀j o,A1[j]? =some o→g'.f (n+j)=o)→CV g' m' S w r.t.rH p.1 v∧Laid g' m' S w n p.2 A1:=by
   unfold wc at h1;split at h1;rename_i hf;obtain ⟨cs,hv,ho⟩:=h1;refine ⟨bH r.t r.x n,by rw [if_pos hf],by rw [dL,cy.rQ _ ho],fun g' m' hm hg=> ?_⟩;obtain ⟨p1,q1⟩:=oy r.t n ho g' m' hm hg;exact ⟨Bo hv p1,q1⟩;rename_i hf;obtain ⟨hF,cs,hv,hr⟩:=h1;subst hF;refine ⟨(fx r.t r.x,[]),by rw [if_neg hf],rfl,fun g' m' hm hg=>⟨Bo hv (jY r.t hr),rfl,fun j ch hj=>by simp at hj⟩⟩
  obtain ⟨p,hp,l1,k1⟩:=head;obtain ⟨l2,k2⟩:=yN (n+p.2.length) h2;have e2:(j5 (r::rs) n).2=p.2++(j5 rs (n+p.2.length)).2:=by rw [hp];rfl
  have e1:(j5 (r::rs) n).1=(r.t.rH,p.1)::(j5 rs (n+p.2.length)).1:=by rw [hp];rfl
  refine ⟨by rw [e2];simp [l1,l2],fun g' m' hm hg=> ?_⟩;rw [e2] at hm⊢;rw [e1];obtain ⟨p1,q1⟩:=k1 g' m' (fun j ch hj=>hm j ch (by
   rw [List.getElem?_append_left (List.getElem?_eq_some_iff.1 hj).1];exact hj)) (fun j o hj=>hg j o (by
   rw [List.getElem?_append_left (List.getElem?_eq_some_iff.1 hj).1];exact hj))
  obtain ⟨p2,q2⟩:=k2 g' m' (fun j ch hj=>by
   rw [Nat.add_assoc];refine hm _ ch ?_;rw [List.getElem?_append_right (by omega)];simpa using hj) (fun j o hj=>by
   rw [Nat.add_assoc];refine hg _ o ?_;rw [List.getElem?_append_right (by omega),l1];simpa using hj)
  exact ⟨⟨p1,p2⟩,q1.app q2⟩
 |[],_::_,_,_,h=>h.elim
 |_::_,[],_,_,h=>h.elim
theorem Lx {g':GM}{m':Mem}{l:List (Bool×List aq)}{vs:List Value}{v:Value}(h:aK (fun (t:Bool×List aq) v=>CV g' m' S w t.1 t.2 v) l vs)(hv:Bl vs v):VR g' m' S w (Gq l) v:=by
 match l,vs with
 |[],[]=>exact ⟨[],hv,trivial⟩
 |[(true,cs)],[u]=>
  have hv:v=u:=hv;subst hv;exact h.1
 |[(false,[c])],[u]=>
  have hv:v=u:=hv;subst hv;exact h.1
 |[(false,[])],[u]=>exact h.1.elim
 |[(false,_::_::_)],[u]=>exact h.1.elim
 |(b1,c1)::t2::ts,u1::u2::us=>
  have e:Gq ((b1,c1)::t2::ts)= .zq ((b1,c1)::t2::ts):=by
   cases b1<;>rcases c1 with _|⟨x,_|⟨y,ys⟩⟩<;>rfl
  rw [e];exact ⟨u1::u2::us,hv,h⟩
 |[],_::_=>exact h.elim
 |[_],[]=>exact h.elim
 |[_],_::_::_=>exact h.2.elim
 |_::_::_,[]=>exact h.elim
 |_::_::_,[_]=>exact h.2.elim
end
end Go.Ide
namespace Go.Ide
section
variable {g:GM} {m:Mem} {S S2:Nat→Prop} {w:World}
theorem oz (hm:jk g m S w)(hS: ∀b,S b→S2 b){mA mB m2:Mem}(hR:gr g m m2 S2 w)(hA:mB=[]∨mB=m)(Gr: ∀c cs b,lk c mB=some (.box cs)→g c=some b→S2 b):
 ∀{ms:List Mode} {vs:List au} {vals:List Value} {as:List Arg} {ks:List Nat} {up:Mem} {outs:List TD},(mA=m∨iS ms=true)→
  ct mA mB m2 ms vs=some as→cK m ms vs=some ks→cP ms vs outs=some up→aK (VR g m S w) vs vals→
  ∃Fs:List (List (List Nat→Option Nat)),nz S2 w as vals Fs∧jl g m ks Fs.flatten∧
   (∀(w':World) (SO SU:Nat→Prop),(∀b arr,cg w b arr→ ∃aA,cg w' b aA∧aA.size=arr.size)→(dO ms=true∨iS ms=true∨ ∀b,SO b→SU b)→fV SO w' as vals Fs outs→up.map Prod.fst=ks∧mI g m SU w' up)∧
   (∀b,tQ b as Fs→ ∃k p t xs,g.f k p=some b∧lk k m=some (.seq t xs)∧(k,Chunk.gone)∈up)
 |[],[],vals,as,ks,up,outs,_,h1,h2,h3,h4=>by
  cases vals with
  |cons=>exact h4.elim
  |nil=>
   simp only [ct] at h1;injection h1 with h1;subst h1;simp only [cK] at h2;injection h2 with h2;subst h2;cases outs with
   |cons=>simp [cP] at h3
   |nil=>
    simp only [cP] at h3;injection h3 with h3;subst h3;exact ⟨[],trivial,jl.nil,fun _ _ _ _ _ _=>⟨rfl,fun p hp=>by simp at hp⟩,fun b hb=>by simp [tQ] at hb⟩
 |md::ms,v::vs,[],as,ks,up,outs,_,h1,h2,h3,h4=>h4.elim
 |md::ms,v::vs,u::vals,as,ks,up,outs,ve,h1,h2,h3,h4=>by
  have other: ∀(Oc: ∀t,md≠ .own t) (DC: ∀t,md≠ .mv t),∃Fs:List (List (List Nat→Option Nat)),nz S2 w as (u::vals) Fs∧jl g m ks Fs.flatten∧
   (∀(w':World) (SO SU:Nat→Prop),(∀b arr,cg w b arr→ ∃aA,cg w' b aA∧aA.size=arr.size)→(dO (md::ms)=true∨iS (md::ms)=true∨ ∀b,SO b→SU b)→fV SO w' as (u::vals) Fs outs→up.map Prod.fst=ks∧mI g m SU w' up)∧
   (∀b,tQ b as Fs→ ∃k p t xs,g.f k p=some b∧lk k m=some (.seq t xs)∧(k,Chunk.gone)∈up):=by
   intro Oc DC;have e1:ct mA mB m2 (md::ms) (v::vs)=(match np mB m2 md v,ct mA mB m2 ms vs with|some a,some as=>some (a::as)|_,_=>none):=by
    cases md<;>first|rfl|exact absurd rfl (Oc _)|exact absurd rfl (DC _)
   have e2:cK m (md::ms) (v::vs)=cK m ms vs:=by cases md<;>first|rfl|exact absurd rfl (Oc _)|exact absurd rfl (DC _)
   have e3:cP (md::ms) (v::vs) outs=cP ms vs outs:=by cases md<;>first|rfl|exact absurd rfl (Oc _)|exact absurd rfl (DC _)
   have e4:dO (md::ms)=dO ms:=by cases md<;>first|rfl|exact absurd rfl (Oc _)|exact absurd rfl (DC _)
   have e5:iS (md::ms)=iS ms:=by cases md<;>first|rfl|exact absurd rfl (Oc _)|exact absurd rfl (DC _)
   rw [e1] at h1;rw [e2] at h2;rw [e3] at h3;split at h1;rename_i a Rp ha has;injection h1 with h1;subst h1;obtain ⟨Fs,k1,k2,k5,k6⟩:=oz hm hS hR hA Gr (by rw [←e5];exact ve) has h2 h3 h4.2;have Ly:xZ S2 w a u []∧(∀t x,a≠ .own t x)∧(∀t x,a≠ .mv t x):=by
    have hv:=h4.1;have bl: ∀t,md= .bl t→xZ S2 w a u []∧(∀t x,a≠ .own t x)∧(∀t x,a≠ .mv t x):=by
     intro t e;subst e;have ha:gu m2 (.bl t) v=some a:=ha;simp only [gu] at ha;split at ha;rename_i x hx;injection ha with ha;subst ha;obtain ⟨cs,q1,q2⟩:=mF hS hR hx hv;exact ⟨⟨rfl,cs,q1,q2⟩,(fun _ _ e=>by cases e),fun _ _ e=>by cases e⟩;cases ha
    have yF: ∀t t' x off,gu m2 (.gW t) (.one (.ip t' x off))=some a→VR g m S w (.one (.ip t' x off)) u→xZ S2 w a u []∧(∀t x,a≠ .own t x)∧(∀t x,a≠ .mv t x):=by
     intro t t' x off ha hv;simp only [gu] at ha;split at ha;rename_i y hy;injection ha with ha;subst ha;obtain ⟨ad,es,e,hs,aM,bf⟩:=hv;have aP:aK (CR g m S w) (fx t' x) es:=jY t' bf;obtain ⟨v1,v2,e2,r1,r2⟩:=hH hS hR t hy ((aP.drop off).take t.size);have:v2=[]:=by cases v2 with|nil=>rfl|cons=>exact r2.elim
     subst this;refine ⟨⟨rfl,ad.add off,v1,e,by rw [dM];exact hS _ hs,fun j q hq=> ?_,r1⟩,(fun _ _ e=>by cases e),fun _ _ e=>by cases e⟩;rw [add_add];rw [List.append_nil] at e2;rw [←e2,List.getElem?_take] at hq;split at hq;exact aM _ q (by simpa using hq);cases hq;cases ha
    cases md with
    |own t=>exact absurd rfl (Oc t)
    |mv t=>exact absurd rfl (DC t)
    |nl=>
     cases v with
     |one c=>
      cases c with
      |az=>
       simp only [np,gu] at ha;injection ha with ha;subst ha;exact ⟨⟨rfl,hv⟩,(fun _ _ e=>by cases e),fun _ _ e=>by cases e⟩
      |_=>simp [np,gu] at ha
     |_=>simp [np,gu] at ha
    |bl t=>exact bl t rfl
    |fn=>
     cases v with
     |one c=>
      cases c with
      |fn f=>
       simp only [np,gu] at ha;injection ha with ha;subst ha;exact ⟨⟨rfl,hv⟩,(fun _ _ e=>by cases e),fun _ _ e=>by cases e⟩
      |_=>simp [np,gu] at ha
     |_=>simp [np,gu] at ha
    |lK t=>
     cases v with
     |one c=>
      cases c with
      |lK f t' x=>
       simp only [np,gu] at ha;split at ha;rename_i e;subst e;injection ha with ha;subst ha;obtain ⟨ad,es,e,hs,aM,bf⟩:=hv;exact ⟨⟨rfl,ad,es,e,hS _ hs,aM,aR.ar (fun b hb=>⟨hS b hb,rfl⟩) _ es x bf⟩,(fun _ _ e=>by cases e),fun _ _ e=>by cases e⟩;cases ha
      |_=>simp [np,gu] at ha
     |_=>simp [np,gu] at ha
    |gW t=>
     cases v with
     |one c=>
      cases c with
      |ip t' x off=>exact yF t t' x off ha hv
      |ptr c off=>
       simp only [np] at ha;split at ha;rename_i cs hl;split at ha;rename_i y hy;injection ha with ha;subst ha;obtain ⟨_,b,hg,e⟩:=hv;have XG:lk c m=some (.box cs):=by
        rcases hA with hA|hA
        rw [hA] at hl;simp [eB] at hl;rw [←hA];exact hl
       obtain ⟨b',arr,gb,cm,aP⟩:=hm c _ XG;rw [show g.f c []=some b from hg] at gb;injection gb with gb;subst gb;obtain ⟨v1,v2,e2,r1,r2⟩:=hH hS hR t hy ((aP.drop off).take t.size);have:v2=[]:=by cases v2 with|nil=>rfl|cons=>exact r2.elim
       subst this;refine ⟨⟨rfl,⟨b,off,none⟩,v1,e,Gr c cs b hl hg,fun j q hq=> ?_,r1⟩,(fun _ _ e=>by cases e),fun _ _ e=>by cases e⟩;rw [aX,cm.cell];rw [List.append_nil] at e2;rw [←e2,List.getElem?_take] at hq;split at hq;simpa using hq;cases hq;cases ha;cases ha
      |_=>simp [np,gu] at ha
     |_=>simp [np,gu] at ha
   refine ⟨[]::Fs,⟨Ly.1,k1⟩,by simpa using k2,fun w' SO SU cY hf ho=> ?_,fun b hb=> ?_⟩;refine k5 w' SO SU cY (by rw [e4,e5] at hf;exact hf) ?_;cases a with
   |own t x=>exact absurd rfl (Ly.2.1 t x)
   |mv t x=>exact absurd rfl (Ly.2.2 t x)
   |bl t x=>exact ho
   |gW t x=>exact ho
   |fn f=>exact ho
   |lK f t x=>exact ho
   |nl=>exact ho
   refine k6 b ?_;cases a with
   |mv t x=>exact absurd rfl (Ly.2.2 t x)
   |_=>exact hb
   cases h1
  cases md with
  |bl t=>exact other (fun _ e=>by cases e) (fun _ e=>by cases e)
  |gW t=>exact other (fun _ e=>by cases e) (fun _ e=>by cases e)
  |fn=>exact other (fun _ e=>by cases e) (fun _ e=>by cases e)
  |lK t=>exact other (fun _ e=>by cases e) (fun _ e=>by cases e)
  |nl=>exact other (fun _ e=>by cases e) (fun _ e=>by cases e)
  |mv t=>
   have RP:mA=m:=by
    rcases ve with ve|ve
    exact ve;cases ve
   simp only [ct] at h1;split at h1;rename_i a Rp ha has;injection h1 with h1;subst h1;simp only [gu] at ha;split at ha;rename_i x hx;rw [RP] at hx;injection ha with ha;subst ha;simp only [cK] at h2;split at h2;rename_i QW RN Gs fR;injection h2 with h2;subst h2;simp only [cP] at h3;split at h3;rename_i YG u2 we RQ;rw [nA t _ Gs] at we;injection we with we;injection we with we _;subst we;injection h3 with h3;subst h3;obtain ⟨Fs,k1,k2,k5,k6⟩:=oz hm hS hR hA Gr (.inl RP) has fR RQ h4.2;have iY: ∃vcs,cE t vcs u∧aK (CR g m S w) v.cells vcs∧impl m t v.cells=some (x,[]):=by
    have hv:=h4.1;unfold jA at hx;split at hx;rename_i c hJ;split at hx;rename_i y hy;injection hx with hx;subst hx;exact ⟨[u],by simp [cE,hJ],⟨hv,trivial⟩,hy⟩;cases hx;rename_i cs hJ;split at hx;rename_i y hy;injection hx with hx;subst hx;obtain ⟨Bp,e,gL⟩:=hv;exact ⟨Bp,by simp [cE,hJ,e],gL,hy⟩;cases hx;cases hx
   obtain ⟨vcs,hval,aP,himp⟩:=iY;obtain ⟨v1,v2,F1,e1,o1,a1,q1,s1,p1,n1⟩:=zL hm hS t himp Gs aP;have:v2=[]:=by cases v2 with|nil=>rfl|cons=>exact a1.elim
   subst this;rw [List.append_nil] at e1;subst e1;have yb:=p1;refine ⟨F1::Fs,⟨⟨vcs,hval,o1⟩,k1⟩,by simpa using s1.app k2,fun w' SO SU cY hf ho=> ?_,fun b hb=> ?_⟩;have hf:dO ms=true∨iS ms=true∨ ∀b,SO b→SU b:=by
    rcases hf with hf|hf|hf
    exact .inl hf;cases hf;exact .inr (.inr hf)
   obtain ⟨g3,g4⟩:=k5 w' SO SU cY hf ho;refine ⟨by simp [g3,List.map_map,Function.comp_def],fun p hp=> ?_⟩;rcases List.mem_append.1 hp with hp|hp
   obtain ⟨k,hk,rfl⟩:=List.mem_map.1 hp;obtain ⟨t',bF,dB⟩:=yb k hk;exact ⟨t',bF,dB,.inl rfl⟩;exact g4 p hp;rcases hb with ⟨γ,hγ,p,hp⟩|hb
   obtain ⟨k,hk,p,t',bF,q1,q2⟩:=s1.cg hγ hp;exact ⟨k,p,t',bF,q1,q2,List.mem_append.2 (.inl (List.mem_map.2 ⟨k,hk,rfl⟩))⟩;obtain ⟨k,p,t',bF,q1,q2,q3⟩:=k6 b hb;exact ⟨k,p,t',bF,q1,q2,List.mem_append.2 (.inr q3)⟩;cases h3;cases h2;cases ha;cases h1
  |own t=>
   have RP:mA=m:=by
    rcases ve with ve|ve
    exact ve;cases ve
   simp only [ct] at h1;split at h1;rename_i a Rp ha has;injection h1 with h1;subst h1;simp only [gu] at ha;split at ha;rename_i x hx;rw [RP] at hx;injection ha with ha;subst ha;simp only [cK] at h2;split at h2;rename_i QW RN Gs fR;injection h2 with h2;subst h2;cases outs with
   |nil=>simp [cP] at h3
   |cons o outs=>
    simp only [cP] at h3;split at h3;rename_i ht;split at h3;rename_i u1 u2 Vd RQ;injection h3 with h3;subst h3;obtain ⟨Fs,k1,k2,k5,k6⟩:=oz hm hS hR hA Gr (.inl RP) has fR RQ h4.2;have iY: ∃vcs,cE t vcs u∧aK (CR g m S w) v.cells vcs∧impl m t v.cells=some (x,[]):=by
     have hv:=h4.1;unfold jA at hx;split at hx;rename_i c hJ;split at hx;rename_i y hy;injection hx with hx;subst hx;exact ⟨[u],by simp [cE,hJ],⟨hv,trivial⟩,hy⟩;cases hx;rename_i cs hJ;split at hx;rename_i y hy;injection hx with hx;subst hx;obtain ⟨Bp,e,gL⟩:=hv;exact ⟨Bp,by simp [cE,hJ,e],gL,hy⟩;cases hx;cases hx
    obtain ⟨vcs,hval,aP,himp⟩:=iY;obtain ⟨v1,v2,F1,e1,o1,a1,q1,s1,p1,n1⟩:=zL hm hS t himp Gs aP;have:v2=[]:=by cases v2 with|nil=>rfl|cons=>exact a1.elim
    subst this;rw [List.append_nil] at e1;subst e1;refine ⟨F1::Fs,⟨⟨vcs,hval,o1⟩,k1⟩,by simpa using s1.app k2,fun w' SO SU cY hf ho=> ?_,fun b hb=> ?_⟩;have hf:(t.jL=true∨ ∀b,SO b→SU b)∧(dO ms=true∨iS ms=true∨ ∀b,SO b→SU b):=by
     rcases hf with hf|hf|hf
     have hf:t.jL=true∧dO ms=true:=by simpa [dO] using hf
     exact ⟨.inl hf.1,.inl hf.2⟩;cases hf;exact ⟨.inr hf,.inr (.inr hf)⟩
    obtain ⟨⟨RR,ky,yO,iI,Ve⟩,uE⟩:=ho;have hcs:ky=vcs:=by
     unfold cE at hval yO;split at hval;rename_i hJ;rw [if_pos hJ] at yO;rw [hval] at yO;simpa using yO.symm;rename_i hJ;rw [if_neg hJ] at yO;rw [hval,yO]
    subst hcs;obtain ⟨g1,g2,_⟩:=n1 w' SO SU _ _ _ cY hf.1 Vd iI Ve;obtain ⟨g3,g4⟩:=k5 w' SO SU cY hf.2 uE;refine ⟨by simp [g1,g3],fun p hp=> ?_⟩;rcases List.mem_append.1 hp with hp|hp
    exact g2 p hp;exact g4 p hp;obtain ⟨k,p,t',bF,q1,q2,q3⟩:=k6 b hb;exact ⟨k,p,t',bF,q1,q2,List.mem_append.2 (.inr q3)⟩;cases h3;cases h3
   cases h2;cases ha;cases h1
 |[],_::_,_,_,_,_,_,_,h1,_,_,_=>by simp [ct] at h1
 |md::_,[],_,_,_,_,_,_,h1,_,_,_=>by cases md<;>simp [ct] at h1
end
end Go.Ide
namespace Go.Ide
theorem gq.mono {g:GM}{m:Mem}{S S':Nat→Prop}{w:World}(h: ∀b,S b→S' b):gq g g m m S S' w w:=
 ⟨⟨fun b hb=>⟨h b hb,rfl⟩,fun _ hc=>⟨hc,rfl⟩,fun _ _ xs _ hl=>⟨xs,hl,rfl⟩,fun _ _ _ _ arr _ _ _ hb=>⟨arr,hb,rfl⟩⟩,fun _ _=>rfl,
  fun _ _ xs _ hl=>⟨xs,hl,bu.refl _ _,fun _ _ _ arr _ hb=>⟨arr,hb,rfl⟩⟩⟩
section
variable {S S':Nat→Prop} {w w':World}
theorem eI.mono (h: ∀b,S b→S' b){t:Ty}{cs:List Value}{xs:List t.D}{A:List (List Nat→Option Nat)}(hr:eI S w t cs xs A):eI S' w t cs xs A:=by
 rcases hr with hr|⟨v,γ,eA,e,b,cap,arr,k1,k2,k3,k4,k5,k6,k7,k8⟩
 exact .inl hr;exact .inr ⟨v,γ,eA,e,b,cap,arr,k1,k2,k3,k4,k5,k6,k7,k8.ar (fun b hb=>⟨h b hb,rfl⟩) fun _ _ _=>rfl⟩
theorem cy.mono (h: ∀b,S b→S' b): ∀(t:Ty) {cs:List Value} {x:t.D} {A:List (List Nat→Option Nat)},cy S w t cs x A→cy S' w t cs x A
 | .int _,_,_,_,hr=>hr
 | .cD _,_,_,_,hr=>hr
 | .bool,_,_,_,hr=>hr
 | .str,_,_,_,hr=>hr
 | .pair a b,_,_,_,⟨c1,c2,F1,F2,e1,e2,h1,h2⟩=>⟨c1,c2,F1,F2,e1,e2,cy.mono h a h1,cy.mono h b h2⟩
 | .st t,_,_,_,hr=>cy.mono h t (cs:=_) hr
 | .sl t,_,_,_,hr=>eI.mono h hr
 | .bx t,_,_,_,⟨γ,b,arr,eA,e,h0,h1,h2⟩=>⟨γ,b,arr,eA,e,h0,h1,h2.ar (fun b hb=>⟨h b hb,rfl⟩) fun _ _ _=>rfl⟩
 | .cl f t,cs,x,_,hr=>⟨hr.1,aR.ar (fun b hb=>⟨h b hb,rfl⟩) (.cl f t) cs x hr.2⟩
 | .own t,_,_,_,hr=>eI.mono h hr
theorem eI.flat {t:Ty}(hf:t.gJ=true){cs:List Value}{xs:List t.D}{A:List (List Nat→Option Nat)}(hr:eI S w t cs xs A):eI S' w t cs xs A:=by
 rcases hr with hr|⟨v,γ,eA,e,b,cap,arr,k1,k2,k3,k4,k5,k6,k7,k8⟩
 exact .inl hr;exact .inr ⟨v,γ,eA,e,b,cap,arr,k1,k2,k3,k4,k5,k6,k7,k8.gJ hf⟩
theorem cy.jL: ∀(t:Ty) {cs:List Value} {x:t.D} {A:List (List Nat→Option Nat)},t.jL=true→cy S w t cs x A→cy S' w t cs x A
 | .int _,_,_,_,_,hr=>hr
 | .cD _,_,_,_,_,hr=>hr
 | .bool,_,_,_,_,hr=>hr
 | .str,_,_,_,_,hr=>hr
 | .pair a b,_,_,_,hf,⟨c1,c2,F1,F2,e1,e2,h1,h2⟩=>by
  simp only [Ty.jL,Bool.and_eq_true] at hf;exact ⟨c1,c2,F1,F2,e1,e2,cy.jL a hf.1 h1,cy.jL b hf.2 h2⟩
 | .st t,_,_,_,hf,hr=>cy.jL t (cs:=_) hf hr
 | .sl t,_,_,_,hf,hr=>eI.flat hf hr
 | .bx t,_,_,_,hf,⟨γ,b,arr,eA,e,h0,h1,h2⟩=>⟨γ,b,arr,eA,e,h0,h1,h2.gJ hf⟩
 | .cl _ _,_,_,_,hf,_=>by cases hf
 | .own t,_,_,_,hf,hr=>eI.flat hf hr
theorem lL.mono (h: ∀b,S b→S' b): ∀{rs:List RV} {vs:List Value} {A:List (List Nat→Option Nat)},lL S w rs vs A→lL S' w rs vs A
 |[],[],_,hr=>hr
 |r::rs,v::vs,_,⟨F1,F2,e,h1,h2⟩=>by
  refine ⟨F1,F2,e,?_,lL.mono h h2⟩;unfold wc at h1⊢;split at h1;rename_i hf;rw [if_pos hf];obtain ⟨cs,k1,k2⟩:=h1;exact ⟨cs,k1,cy.mono h _ k2⟩;rename_i hf;rw [if_neg hf];obtain ⟨k0,cs,k1,k2⟩:=h1;exact ⟨k0,cs,k1,aR.ar (fun b hb=>⟨h b hb,rfl⟩) _ _ _ k2⟩
 |[],_::_,_,hr=>hr.elim
 |_::_,[],_,hr=>hr.elim
theorem lL.alone: ∀{rs:List RV} {vs:List Value} {A:List (List Nat→Option Nat)},rs.all RV.sI=true→lL S w rs vs A→lL S' w rs vs A
 |[],[],_,_,hr=>hr
 |r::rs,v::vs,_,ho,⟨F1,F2,e,h1,h2⟩=>by
  simp only [List.all_cons,Bool.and_eq_true] at ho;refine ⟨F1,F2,e,?_,lL.alone ho.2 h2⟩;have Od:=ho.1;unfold RV.sI at Od;unfold wc at h1⊢;split at h1;rename_i hf;rw [if_pos hf] at Od⊢;obtain ⟨cs,k1,k2⟩:=h1;exact ⟨cs,k1,cy.jL _ Od k2⟩;rename_i hf;rw [if_neg hf] at Od⊢;obtain ⟨k0,cs,k1,k2⟩:=h1;exact ⟨k0,cs,k1,aR.flat _ Od k2⟩
 |[],_::_,_,_,hr=>hr.elim
 |_::_,[],_,_,hr=>hr.elim
end
theorem kO {α:Type}: ∀{l:List (Nat×α)} {k:Nat} {v:α},lk k l=some v→(k,v)∈l
 |[],_,_,h=>by simp [eB] at h
 |(k',v')::l,k,v,h=>by
  rw [aw] at h;split at h;rename_i e;subst e;injection h with h;subst h;simp
  exact List.mem_cons_of_mem _ (kO h)
theorem wg {α:Type}: ∀{l:List (Nat×α)} {k:Nat} {v:α},(l.map Prod.fst).Nodup→(k,v)∈l→lk k l=some v
 |[],_,_,_,h=>by simp at h
 |(k',v')::l,k,v,hn,h=>by
  simp only [List.map_cons,List.nodup_cons] at hn;rw [aw];rcases List.mem_cons.1 h with h|h
  injection h with h1 h2;rw [if_pos h1,h2];have:k≠k':=fun e=>hn.1 (by rw [←e];exact List.mem_map.2 ⟨(k,v),h,rfl⟩);rw [if_neg this];exact wg hn.2 h
theorem Fp {α:Type}: ∀{l:List (Nat×α)} {k:Nat},lk k l=none→k ∉ l.map Prod.fst
 |[],_,_=>by simp
 |(k',v')::l,k,h=>by
  rw [aw] at h;split at h;cases h;rename_i e;simp only [List.map_cons,List.mem_cons,not_or];exact ⟨e,Fp h⟩
theorem fW: ∀{l:List Nat},iX l=true→l.Nodup
 |[],_=>by simp
 |a::l,h=>by
  simp only [iX,Bool.and_eq_true,List.all_eq_true,Bool.not_eq_true'] at h;refine List.nodup_cons.2 ⟨fun hm=> ?_,fW h.2⟩;have:=h.1 a hm;rw [show Nat.beq a a=true from Nat.beq_refl a] at this;cases this
section
variable {cx:Cx} {g:GM} {st:St} {a:Act} {w w':World}
theorem ox.at {A:List (List Nat→Option Nat)}(h:ox A){i j:Nat}{γ γ':List Nat→Option Nat}{p q:List Nat}{b:Nat}(hi:A[i]? =some γ)(hj:A[j]? =some γ')(hp:γ p=some b)(hq:γ' q=some b):i=j∧p=q:=by
 have hlt: ∀(i j:Nat) (γ γ':List Nat→Option Nat) (p q:List Nat),A[i]? =some γ→A[j]? =some γ'→γ p=some b→γ' q=some b→ ¬i<j:=fun i j γ γ' p q hi hj hp hq hl=>by
  obtain ⟨Vf,e1⟩:=List.getElem?_eq_some_iff.1 hi;obtain ⟨QX,e2⟩:=List.getElem?_eq_some_iff.1 hj;exact List.pairwise_iff_getElem.1 h.1 i j Vf QX hl p q b (by rw [e1];exact hp) (by rw [e2];exact hq)
 have e:i=j:=by
  rcases Nat.lt_trichotomy i j with hl|e|hl
  exact absurd hl (hlt i j γ γ' p q hi hj hp hq);exact e;exact absurd hl (hlt j i γ' γ q p hj hi hq hp)
 subst e;rw [hi] at hj;injection hj with hj;subst hj;exact ⟨rfl,h.2 γ (List.mem_of_getElem? hi) p q b hp hq⟩
theorem nk.call {rs:List RV}{up:Mem}{ks F':List Nat}{M:Nat→Prop}{F:List Nat}{A8:List (List Nat→Option Nat)}{vs:List Value}{v:Value}{e:bm}{SX:Nat→Prop}(h:bD cx g st a w)(hw:dK st.mem e.new)(he:e=⟨Gq (j5 rs st.nx).1,aZ st.nx (j5 rs st.nx).2,up,e.cond⟩)(hk:aH F w w')(hF: ∀b,b∈F→ ∃k,k∈ks∧ ∃p t xs,g.f k p=some b∧lk k st.mem=some (.seq t xs))(oe:up.map Prod.fst=ks)(hu:mI g st.mem SX w' up)(iT:vd A8 F')(hn:ox A8)(j6: ∀b,b∈F'→(w.heap.size≤b∨M b)∧b<w'.heap.size)(hM: ∀b,M b→b∈F∧ ∃k p t xs,g.f k p=some b∧lk k st.mem=some (.seq t xs)∧lk k up=some .gone)(YH: ∀b,SX b→b<w'.heap.size∧(b<cx.w0.heap.size→cx.S b)∧ ¬Live g st.mem b∧b ∉ F')(hr:lL SX w' rs vs A8)(hv:Bl vs v):nk cx st a e v w':=by
 obtain ⟨kD,RS⟩:=yN st.nx hr;let ni:=(j5 rs st.nx).2;let g':GM:=⟨fun k=>if st.nx≤k then (match A8[k - st.nx]? with|some o=>o|none=>g.f k) else g.f k⟩;have sW: ∀j,j<ni.length→lk (st.nx+j) st.mem=none:=fun j hj=>by
  have zA:(st.nx+j,ni[j])∈e.new:=by
   rw [he];exact kO (by rw [cT,if_pos (by omega),show st.nx+j - st.nx=j from by omega];exact List.getElem?_eq_getElem hj)
  exact hw _ zA
 let m':Mem:=up++aZ st.nx ni++st.mem;have hold: ∀k,lk k st.mem≠none→st.nx≤k→ni.length≤k - st.nx:=fun k cX hle=>by
  rcases Nat.lt_or_ge (k - st.nx) ni.length with hlt|pL
  exact absurd (by have:=sW _ hlt;rwa [show st.nx+(k - st.nx)=k from by omega] at this) cX;exact pL
 have oW: ∀k,lk k st.mem≠none→g'.f k=g.f k:=fun k cX=>by
  show (if st.nx≤k then _ else _)=_;by_cases hle:st.nx≤k;rw [if_pos hle,List.getElem?_eq_none (by rw [kD];exact hold k cX hle)];rw [if_neg hle]
 have mJ: ∀j o,A8[j]? =some o→g'.f (st.nx+j)=o:=fun j o hj=>by
  show (if st.nx≤st.nx+j then _ else _)=_;rw [if_pos (by omega),show st.nx+j - st.nx=j from by omega,hj]
 have DD: ∀k ch,lk k up=some ch→ ∃t xs,lk k st.mem=some (.seq t xs):=fun k ch hk=>by
  obtain ⟨t,xs,h1,_⟩:=hu _ (kO hk);exact ⟨t,xs,h1⟩
 have zM: ∀j ch,ni[j]? =some ch→lk (st.nx+j) m'=some ch:=fun j ch hj=>by
  show lk _ (up++aZ st.nx ni++st.mem)=_;have h1:lk (st.nx+j) up=none:=by
   cases hx:lk (st.nx+j) up with
   |none=>rfl
   |some c0=>
    obtain ⟨t,xs,h1⟩:=DD _ _ hx;rw [sW j (List.getElem?_eq_some_iff.1 hj).1] at h1;cases h1
  rw [a8,a8,h1,cT,if_pos (by omega),show st.nx+j - st.nx=j from by omega,hj];rfl
 have ua: ∀k ch,lk k st.mem=some ch→lk k up=none→lk k m'=some ch:=fun k ch hk HY=>by
  show lk _ (up++aZ st.nx ni++st.mem)=_;have Vg:lk k (aZ st.nx ni)=none:=by
   rw [cT];by_cases hle:st.nx≤k;rw [if_pos hle];exact List.getElem?_eq_none (hold k (by rw [hk];simp) hle);rw [if_neg hle]
  rw [a8,a8,HY,Vg,hk];rfl
 have ub: ∀k ch,lk k m'=some ch→lk k st.mem=none→ ∃j,k=st.nx+j∧ni[j]? =some ch:=fun k ch hk sS=>by
  have hk:lk k (up++aZ st.nx ni++st.mem)=some ch:=hk;have HY:lk k up=none:=by
   cases hx:lk k up with
   |none=>rfl
   |some c0=>
    obtain ⟨t,xs,h1⟩:=DD _ _ hx;rw [h1] at sS;cases sS
  rw [a8,a8,HY,cT,sS] at hk;by_cases hle:st.nx≤k;rw [if_pos hle] at hk;refine ⟨k - st.nx,by omega,?_⟩;cases hx:ni[k - st.nx]? with
  |none=>rw [hx] at hk;simp at hk
  |some c0=>rw [hx] at hk;simpa using hk
  rw [if_neg hle] at hk;simp at hk
 obtain ⟨HU,wh⟩:=RS g' m' zM mJ;have H5: ∀(j:Nat) (γ:List Nat→Option Nat) (p:List Nat) (b:Nat),A8[j]? =some γ→γ p=some b→b∈F':=fun j γ p b hj hp=>(iT b).2 ⟨γ,List.mem_of_getElem? hj,p,hp⟩;have M9: ∀k p ch,lk k m'=some ch→ch.owns p→(∃c0,lk k st.mem=some c0∧c0.owns p)∨(lk k st.mem=none∧ ∃j o,k=st.nx+j∧A8[j]? =some o):=fun k p ch hk hn=>by
  cases ho:lk k st.mem with
  |none=>
   obtain ⟨j,e,hj⟩:=ub k ch hk ho;obtain ⟨_,o,uE,_⟩:=wh.chunk j ch hj;exact .inr ⟨rfl,j,o,e,uE⟩
  |some c0=>
   left;refine ⟨c0,rfl,?_⟩;cases hx:lk k up with
   |none=>rw [ua k c0 ho hx] at hk;injection hk with hk;rw [hk];exact hn
   |some c1=>
    obtain ⟨t,xs,h1⟩:=DD _ _ hx;rw [h1] at ho;injection ho with ho;rw [←ho];trivial
 have bS: ∀b,SX b→cx.safe g' m' w' b:=fun b hb=>by
  obtain ⟨h1,h2,h3,h4⟩:=YH b hb;refine ⟨h1,h2,?_⟩;rintro ⟨k,p,ch,dS,xU,gb⟩;rcases M9 k p ch dS xU with ⟨c0,ho,zG⟩|⟨_,j,o,e,hj⟩
  exact h3 ⟨k,p,c0,ho,zG,by rw [←oW k (by rw [ho];simp)];exact gb⟩;subst e;rw [mJ j o hj] at gb;exact h4 (H5 j o p b hj gb)
 have t:u9 cx g g' st.mem m' w w' F:=by
  refine ⟨hk,fun b hb=> ?_,oW,fun k ch ho=> ?_,fun k ch ho dS=> ?_⟩;obtain ⟨k,_,p,t,xs,h1,h2⟩:=hF b hb;exact ⟨k,p,_,h2,trivial,h1⟩;cases hx:lk k up with
  |none=>
   refine .inl ⟨ua k ch ho hx,fun p b hn xP Hx=> ?_⟩;obtain ⟨k',dS,p',t,xs,h1,h2⟩:=hF b Hx;have:=(h.eH k k' p p' ch _ b ho hn h2 trivial xP h1).1;subst this;rw [←oe] at dS;exact Fp hx dS
  |some c1=>
   obtain ⟨t,xs,h1,h2⟩:=hu _ (kO hx);simp only at h1 h2;rw [ho] at h1;injection h1 with h1;subst h1;rcases h2 with h2|⟨bF,h2,h3,h4⟩
   subst h2;refine .inr (.inl ?_);show lk _ (up++aZ st.nx ni++st.mem)=_;rw [a8,a8,hx];rfl;subst h2;refine .inr (.inr ⟨by simp,.seq t bF,?_,by simp,fun _ _=>trivial,fun t0 Ue e=> ?_,fun t0 Ue e=> ?_,fun p b arr _ _ hb=>hk.sz b arr hb,?_⟩);show lk _ (up++aZ st.nx ni++st.mem)=_;rw [a8,a8,hx];rfl;obtain ⟨e1,e2⟩:=qH e;subst e1;subst e2;exact ⟨xs,.inl rfl,h3.1⟩;injection e with e1 e2;subst e1;have e2:=eq_of_heq e2;subst e2;exact ⟨xs,rfl,h3⟩;rw [oW k (by rw [ho];simp)];unfold gU;cases oO:g.f k [] with
   |none=>rw [oO] at h4;exact h4
   |some b=>
    rw [oO] at h4;obtain ⟨arr,k1,k2⟩:=h4;exact ⟨arr,k1,k2.ar (fun b hb=>⟨bS b hb,rfl⟩) fun _ _ _=>rfl⟩
  obtain ⟨j,e,hj⟩:=ub k ch dS ho;subst e;obtain ⟨hng,o,Oe,bK⟩:=wh.chunk j ch hj;refine ⟨?_,fun p b _ xP=> ?_⟩;rw [mJ j o Oe];exact gU.stays (gq.mono bS) (fun _ _ _ _=>rfl) bK;rw [mJ j o Oe] at xP;have Hx:=H5 j o p b Oe xP;have RT:(w.heap.size≤b∨b∈F)∧ ∀k' p' c0 gV,lk k' st.mem=some c0→c0.owns p'→g.f k' p'=some b→lk k' m'=some gV→gV≠ .gone→False:=by
   rcases (j6 b Hx).1 with pL|YI
   exact ⟨.inl pL,fun k' p' c0 gV DE zG sL _ _=>by have:=h.lt k' p' c0 b DE zG sL;omega⟩;obtain ⟨Vh,km,pm,tm,xm,q1,q2,q3⟩:=hM b YI;refine ⟨.inr Vh,fun k' p' c0 gV DE zG sL fR rk=> ?_⟩;have:=(h.eH k' km p' pm c0 _ b DE zG q2 trivial sL q1).1;subst this;have fR:lk k' (up++aZ st.nx ni++st.mem)=some gV:=fR;rw [a8,a8,q3] at fR;have fR:some Chunk.gone=some gV:=fR;injection fR with fR;exact rk fR.symm
  refine ⟨RT.1,(j6 b Hx).2,fun k' p' gV fR rk sL=> ?_⟩;rcases M9 k' p' gV fR rk with ⟨c0,DE,zG⟩|⟨_,j2,o2,e2,DB⟩
  exact (RT.2 k' p' c0 gV DE zG (by rw [←oW k' (by rw [DE];simp)];exact sL) fR (Chunk.nw rk)).elim;subst e2;rw [mJ j2 o2 DB] at sL;obtain ⟨e1,e2⟩:=hn.at DB Oe sL xP;exact ⟨by rw [e1],e2⟩
 have hs:=h.tV (nx':=st.nx+(aZ st.nx ni).length) t;refine ⟨g',?_,?_⟩;rw [he];exact hs;rw [he];exact VR.stays (gq.mono bS) (Lx HU hv)
theorem pU {ms:List Mode}{rs:List RV}{outs:List TD}{f:FuncId}{vs:List au}{vals:List Value}{e:bm}(h:bD cx g st a w)(hw:dK st.mem e.new)(he:uH cx.P st.mem st.nx ms rs outs f vs=some e)(hc:aS e.cond)(hv:aK (VR g st.mem (cx.safe g st.mem w) w) vs vals):j4 cx.P f∧Calls cx.P f vals.toArray w fun en w'=> ∃v,en= .returned v∧nk cx st a e v w':=by
 unfold uH at he;split at he;rename_i ks up E7 oe;split at he;rename_i as has;cases hb:(ks.isEmpty&&iS ms) with
 |false=>rw [hb] at he;cases he
 |true=>
  rw [hb] at he;simp only [cond_true] at he;simp only [Bool.and_eq_true,List.isEmpty_iff] at hb;injection he with he;obtain ⟨C9,ve⟩:=hb;subst C9;have Fq:CallOK cx.P f as rs outs:=by rw [←he] at hc;exact hc.1
  obtain ⟨Fs,k1,k2,k5,k6⟩:=oz (mA:=[]) (mB:=[]) (m2:=[]) (S2:=cx.safe g st.mem w) h.mem (fun _ h=>h) gr.nil (.inl rfl) (fun c cs b hl=>by simp [eB] at hl) (.inr ve) has E7 oe hv;have QY: ∀γ,γ∈Fs.flatten→ ∀p,γ p=none:=fun γ hγ p=>by
   cases hp:γ p with
   |none=>rfl
   |some b=>obtain ⟨k,hk,_⟩:=k2.cg hγ hp;simp at hk
  have hB:vd Fs.flatten []:=fun b=>⟨fun h=>by simp at h,fun ⟨γ,hγ,p,hp⟩=>by rw [QY γ hγ p] at hp;cases hp⟩;refine ⟨Fq.1,(Fq.2 w (cx.safe g st.mem w) vals Fs [] hB (k2.inj h.Lu (by simp)) (fun b hb=>⟨hb.1,by simp⟩) (by simp) k1 h.Lf).mono ?_⟩;rintro en w' ⟨v,A',F',e1,iT,hn,⟨us,RU,RW⟩,j6,df,Bq⟩;refine ⟨v,e1,?_⟩;obtain ⟨u1,u2⟩:=k5 w' _ (hZ (cx.safe g st.mem w) w w' F') df.sz (.inr (.inl ve)) Bq;refine nk.call (SX:=hZ (cx.safe g st.mem w) w w' F') (ks:=[]) (up:=up) h hw (by rw [←he]) df (by simp) u1 u2 iT hn j6 (fun b hb=>by obtain ⟨γ,hγ,p,hp⟩:=tQ.sub hb;rw [QY γ hγ p] at hp;cases hp) (fun b hb=> ?_) RU RW;obtain ⟨h1,h2,h3⟩:=hb;refine ⟨h1,fun hlt=> ?_,?_,h3⟩;exact (h2 (Nat.lt_of_lt_of_le hlt h.ar.size)).2.1 hlt;rintro ⟨k,p,ch,q1,q2,q3⟩;exact (h2 (h.lt k p ch b q1 q2 q3)).2.2 ⟨k,p,ch,q1,q2,q3⟩
 cases lJ:iX ks with
 |false=>rw [lJ] at he;cases he
 |true=>
  rw [lJ] at he;simp only [cond_true] at he;have Lz:=fW lJ;cases hb:(rs.all RV.sI&&dO ms) with
  |true=>
   rw [hb] at he;simp only [cond_true] at he;simp only [Bool.and_eq_true] at hb;obtain ⟨Of,Ft⟩:=hb;split at he;rename_i as has;injection he with he;have Fq:CallOK cx.P f as rs outs:=by rw [←he] at hc;exact hc.1
   let S2:Nat→Prop:=fun b=>b<w.heap.size∧ ∀c p,c∈ks→g.f c p=some b→ ∀t xs,lk c st.mem=some (.seq t xs)→False;have Vi: ∀(k:Nat) (l:List Nat),k ∉ l→lk k ((l.map fun k=>(k,Chunk.gone))++st.mem)=lk k st.mem:=by
    intro k l;induction l with
    |nil=>intro _;rfl
    |cons q l ih=>
     intro hk;simp only [List.mem_cons,not_or] at hk;simp only [List.map_cons,List.cons_append];rw [aw,if_neg hk.1];exact ih hk.2
   have RX: ∀(k:Nat) (l:List Nat),k∈l→lk k ((l.map fun k=>(k,Chunk.gone))++st.mem)=some .gone:=by
    intro k l;induction l with
    |nil=>intro hk;simp at hk
    |cons q l ih=>
     intro hk;simp only [List.map_cons,List.cons_append];rw [aw];by_cases e:k=q;rw [if_pos e];rw [if_neg e];exact ih (by simpa [e] using hk)
   have hR:gr g st.mem ((ks.map fun k=>(k,Chunk.gone))++st.mem) S2 w:=by
    intro k t xs hl;by_cases hk:k∈ks;rw [RX k ks hk] at hl;cases hl;rw [Vi k ks hk] at hl;refine ⟨hl,?_⟩;have RY: ∀p b,g.f k p=some b→S2 b:=fun p b hg=>⟨h.lt k p _ b hl trivial hg,fun c q hc rA t' bF dB=>by
     have:=(h.eH k c p q _ _ b hl trivial dB trivial hg rA).1;subst this;exact hk hc⟩
    refine ⟨RY,?_⟩;have bK:=h.mem k _ hl;unfold gU at bK;cases hg:g.f k [] with
    |none=>rw [show g k=none from hg];rw [hg] at bK;exact bK
    |some b=>
     rw [show g k=some b from hg];rw [hg] at bK;obtain ⟨arr,q1,q2⟩:=bK;exact ⟨arr,q1,q2.ar (fun b' iE=>⟨⟨iE.1,fun c p hc rA t' bF dB=>iE.2.2 ⟨c,p,_,dB,trivial,rA⟩⟩,rfl⟩) fun _ _ _=>rfl⟩
   obtain ⟨Fs,k1,k2,k5,k6⟩:=oz (mA:=st.mem) (mB:=st.mem) (m2:=(ks.map fun k=>(k,Chunk.gone))++st.mem) (S2:=S2) h.mem (fun b hb=>⟨hb.1,fun c p hc rA t' bF dB=>hb.2.2 ⟨c,p,_,dB,trivial,rA⟩⟩) hR (.inr rfl)
    (fun c cs b hl hg=>⟨h.Lg hl (by simp) hg,fun c' p' Bc yc t' bF dB=>by
     have:=(h.eH c c' [] p' _ _ b hl trivial dB trivial hg yc).1;subst this;rw [hl] at dB;cases dB⟩) (.inl rfl) has E7 oe hv
   have Vj:ox Fs.flatten:=k2.inj h.Lu Lz;obtain ⟨F,hB⟩:=lB (n:=w.heap.size) (A:=Fs.flatten) (fun γ hγ p b hp=>by
    obtain ⟨k,_,p',t,xs,q1,q2⟩:=k2.cg hγ hp;exact h.lt k p' _ b q2 trivial q1)
   have K0: ∀b,b∈F→ ∃k,k∈ks∧ ∃p t xs,g.f k p=some b∧lk k st.mem=some (.seq t xs):=fun b hb=>by
    obtain ⟨γ,hγ,p,hp⟩:=(hB b).1 hb;exact k2.cg hγ hp
   refine ⟨Fq.1,(Fq.2 w S2 vals Fs F hB Vj (fun b hb=>⟨hb.1,fun Hx=> ?_⟩) (fun b Hx=> ?_) k1 (Glob.mono (fun b hb=>⟨⟨hb.1,fun c p _ rA t' bF dB=>hb.2.2 ⟨c,p,_,dB,trivial,rA⟩⟩,rfl⟩) h.Lf)).mono ?_⟩;obtain ⟨c,h1,p,t,xs,h2,h3⟩:=K0 b Hx;exact hb.2 c p h1 h2 t xs h3;obtain ⟨c,h1,p,t,xs,h2,h3⟩:=K0 b Hx;exact h.lt c p _ b h3 trivial h2;rintro en w' ⟨v,A',F',e1,iT,hn,⟨us,RU,RW⟩,j6,df,Bq⟩;refine ⟨v,e1,?_⟩;obtain ⟨u1,u2⟩:=k5 w' _ (fun b=>b<w'.heap.size∧(b<cx.w0.heap.size→cx.S b)∧ ¬Live g st.mem b∧b ∉ F') df.sz (.inl Ft) Bq;exact nk.call (SX:=fun b=>b<w'.heap.size∧(b<cx.w0.heap.size→cx.S b)∧ ¬Live g st.mem b∧b ∉ F') (ks:=ks) (up:=up) h hw (by rw [←he]) df K0 u1 u2 iT hn j6 (fun b hb=>⟨(hB b).2 (tQ.sub hb),by
    obtain ⟨k,p,t,xs,q1,q2,q3⟩:=k6 b hb;exact ⟨k,p,t,xs,q1,q2,wg (by rw [u1];exact Lz) q3⟩⟩) (fun b hb=>hb) (lL.alone Of RU) RW
   cases he
  |false=>
   rw [hb] at he;simp only [cond_false] at he;split at he;rename_i as has;injection he with he;have Fq:CallOK cx.P f as rs outs:=by rw [←he] at hc;exact hc.1
   obtain ⟨Fs,k1,k2,k5,k6⟩:=oz (mA:=st.mem) (mB:=[]) (m2:=[]) (S2:=cx.safe g st.mem w) h.mem (fun _ h=>h) gr.nil (.inl rfl) (fun c cs b hl=>by simp [eB] at hl) (.inl rfl) has E7 oe hv;have Vj:ox Fs.flatten:=k2.inj h.Lu Lz;obtain ⟨F,hB⟩:=lB (n:=w.heap.size) (A:=Fs.flatten) (fun γ hγ p b hp=>by
    obtain ⟨k,_,p',t,xs,q1,q2⟩:=k2.cg hγ hp;exact h.lt k p' _ b q2 trivial q1)
   have K0: ∀b,b∈F→ ∃k,k∈ks∧ ∃p t xs,g.f k p=some b∧lk k st.mem=some (.seq t xs):=fun b hb=>by
    obtain ⟨γ,hγ,p,hp⟩:=(hB b).1 hb;exact k2.cg hγ hp
   refine ⟨Fq.1,(Fq.2 w (cx.safe g st.mem w) vals Fs F hB Vj (fun b hb=>⟨hb.1,fun Hx=> ?_⟩) (fun b Hx=> ?_) k1 h.Lf).mono ?_⟩;obtain ⟨c,h1,p,t,xs,h2,h3⟩:=K0 b Hx;exact hb.2.2 ⟨c,p,_,h3,trivial,h2⟩;obtain ⟨c,h1,p,t,xs,h2,h3⟩:=K0 b Hx;exact h.lt c p _ b h3 trivial h2;rintro en w' ⟨v,A',F',e1,iT,hn,⟨us,RU,RW⟩,j6,df,Bq⟩;refine ⟨v,e1,?_⟩;obtain ⟨u1,u2⟩:=k5 w' _ (hZ (cx.safe g st.mem w) w w' F') df.sz (.inr (.inr fun _ h=>h)) Bq;refine nk.call (SX:=hZ (cx.safe g st.mem w) w w' F') (ks:=ks) (up:=up) h hw (by rw [←he]) df K0 u1 u2 iT hn j6 (fun b hb=>⟨(hB b).2 (tQ.sub hb),by
    obtain ⟨k,p,t,xs,q1,q2,q3⟩:=k6 b hb;exact ⟨k,p,t,xs,q1,q2,wg (by rw [u1];exact Lz) q3⟩⟩) (fun b hb=> ?_) RU RW
   obtain ⟨h1,h2,h3⟩:=hb;refine ⟨h1,fun hlt=> ?_,?_,h3⟩;exact (h2 (Nat.lt_of_lt_of_le hlt h.ar.size)).2.1 hlt;rintro ⟨k,p,ch,q1,q2,q3⟩;exact (h2 (h.lt k p ch b q1 q2 q3)).2.2 ⟨k,p,ch,q1,q2,q3⟩;cases he
 cases he
end
end Go.Ide
namespace Go.Ide
def Gt:FloatKind→Nat
 | .f32=>2143289344
 | .f64=>9221120237041090560
def XH (op:BinOp)(k:FloatKind)(x y:Nat):Nat:=
 match floatBits op k x y with
 |some r=>bO k r
 |none=>Gt k
def RZ (k:FloatKind)(x:Nat):Nat:=bO k (Op.negFloat k x)
def Og (k:FloatKind)(n:Int):Nat:=bO k (k.nearest n)
def QZ (k:FloatKind)(x y:Nat):Bool:=k.format.order x y==some .eq
def cD (k:FloatKind)(x y:Nat):Bool:=k.format.order x y==some .lt
def Vk (k:FloatKind)(x y:Nat):Bool:=k.format.order x y==some .lt||k.format.order x y==some .eq
def Vl (k:FloatKind)(x y:Nat):Bool:=k.format.order x y==some .gt
def Vm (k:FloatKind)(x y:Nat):Bool:=k.format.order x y==some .gt||k.format.order x y==some .eq
def qN (s k:FloatKind)(x:Nat):Bool:=
 if s=k then true else match s.decode x with
 | .number sg m e=> !(k.decode (k.encode (.number sg m e))).isInfinity
 |_=>true
def wi (s k:FloatKind)(x:Nat):Nat:=
 if s=k then x else match s.decode x with
 | .nan _ _=>Gt k
 | .infinity sg=>bO k (k.encode (.infinity sg))
 | .number sg m e=>bO k (k.encode (.number sg m e))
theorem DF (b:Nat):bO .f32 b=if b%2147483648>2139095040 then 2143289344 else b:=rfl
theorem DG (b:Nat):bO .f64 b=if b%9223372036854775808>9218868437227405312 then 9221120237041090560 else b:=rfl
theorem mL (k:FloatKind)(b:Nat):bO k b=b∨ ∃s t s' t',k.format.read b= .nan s t∧k.format.read (bO k b)= .nan s' t':=by
 cases k;rw [DF];by_cases h:b%2147483648>2139095040;rw [if_pos h];right;refine ⟨(b/2147483648%2==1),b%2147483648 - 2139095040,_,_,?_,rfl⟩;have e1:FloatKind.f32.format.signWeight=2147483648:=by decide
 have e2:FloatKind.f32.format.binade=8388608:=by decide
 have e3:FloatKind.f32.format.infRung=2139095040:=by decide
 unfold Ieee.Format.read;simp only [e1,e2,e3];rw [if_neg (by omega),if_neg (by omega),if_neg (by omega)];rw [if_neg h];exact .inl rfl;rw [DG];by_cases h:b%9223372036854775808>9218868437227405312;rw [if_pos h];right;refine ⟨(b/9223372036854775808%2==1),b%9223372036854775808 - 9218868437227405312,_,_,?_,rfl⟩;have e1:FloatKind.f64.format.signWeight=9223372036854775808:=by decide
 have e2:FloatKind.f64.format.binade=4503599627370496:=by decide
 have e3:FloatKind.f64.format.infRung=9218868437227405312:=by decide
 unfold Ieee.Format.read;simp only [e1,e2,e3];rw [if_neg (by omega),if_neg (by omega),if_neg (by omega)];rw [if_neg h];exact .inl rfl
theorem H6 {s:Bool}{t:Nat}{d:Ieee.Datum}:Ieee.Datum.sum (.nan s t) d=none:=by cases d<;>rfl
theorem H7 {s:Bool}{t:Nat}{d:Ieee.Datum}:Ieee.Datum.sum d (.nan s t)=none:=by cases d<;>rfl
theorem Gu {s:Bool}{t:Nat}{d:Ieee.Datum}:Ieee.Datum.product (.nan s t) d=none:=by cases d<;>rfl
theorem Gv {s:Bool}{t:Nat}{d:Ieee.Datum}:Ieee.Datum.product d (.nan s t)=none:=by cases d<;>rfl
theorem H8 {n:Nat}{s:Bool}{t:Nat}{d:Ieee.Datum}:Ieee.Datum.quotient n (.nan s t) d=none:=by cases d<;>rfl
theorem H9 {n:Nat}{s:Bool}{t:Nat}{d:Ieee.Datum}:Ieee.Datum.quotient n d (.nan s t)=none:=by cases d<;>rfl
theorem wj {s:Bool}{t:Nat}{d:Ieee.Datum}:Ieee.Datum.order (.nan s t) d=none:=by cases d<;>rfl
theorem wk {s:Bool}{t:Nat}{d:Ieee.Datum}:Ieee.Datum.order d (.nan s t)=none:=by cases d<;>rfl
theorem vf (op:BinOp)(k:FloatKind)(x y:Nat):floatBits op k (bO k x) (bO k y)=floatBits op k x y:=by
 have h1: ∀x y,floatBits op k (bO k x) y=floatBits op k x y:=by
  intro x y;rcases mL k x with h|⟨s,t,s',t',q1,q2⟩
  rw [h];unfold floatBits;cases op<;>simp only [Ieee.Format.add,Ieee.Format.sub,Ieee.Format.mul,Ieee.Format.div,q1,q2,H6,Gu,H8]
 have h2: ∀x y,floatBits op k x (bO k y)=floatBits op k x y:=by
  intro x y;rcases mL k y with h|⟨s,t,s',t',q1,q2⟩
  rw [h];unfold floatBits;cases op<;>simp only [Ieee.Format.add,Ieee.Format.sub,Ieee.Format.mul,Ieee.Format.div,q1,q2,H7,Gv,H9,Ieee.Datum.opposite]
 rw [h1,h2]
theorem uI (k:FloatKind)(x y:Nat):k.format.order (bO k x) (bO k y)=k.format.order x y:=by
 have h1: ∀x y,k.format.order (bO k x) y=k.format.order x y:=by
  intro x y;rcases mL k x with h|⟨s,t,s',t',q1,q2⟩
  rw [h];unfold Ieee.Format.order;rw [q1,q2,wj,wj]
 have h2: ∀x y,k.format.order x (bO k y)=k.format.order x y:=by
  intro x y;rcases mL k y with h|⟨s,t,s',t',q1,q2⟩
  rw [h];unfold Ieee.Format.order;rw [q1,q2,wk,wk]
 rw [h1,h2]
theorem Gw (k:FloatKind)(b:Nat):bO k (Op.negFloat k (bO k b))=bO k (Op.negFloat k b):=by
 cases k;have e: ∀b,Op.negFloat .f32 b=b^^^2147483648:=fun b=>rfl;have hm: ∀b,(b^^^2147483648)%2147483648=b%2147483648:=fun b=>by
  have:=Nat.xor_mod_two_pow (a:=b) (b:=2147483648) (n:=31);simpa using this
 simp only [e];by_cases h:b%2147483648>2139095040;have h1:bO .f32 b=2143289344:=by rw [DF,if_pos h]
 have h2:bO .f32 (b^^^2147483648)=2143289344:=by rw [DF,hm,if_pos h]
 rw [h1,h2];decide;have h1:bO .f32 b=b:=by rw [DF,if_neg h]
 rw [h1];have e: ∀b,Op.negFloat .f64 b=b^^^9223372036854775808:=fun b=>rfl;have hm: ∀b,(b^^^9223372036854775808)%9223372036854775808=b%9223372036854775808:=fun b=>by
  have:=Nat.xor_mod_two_pow (a:=b) (b:=9223372036854775808) (n:=63);simpa using this
 simp only [e];by_cases h:b%9223372036854775808>9218868437227405312;have h1:bO .f64 b=9221120237041090560:=by rw [DG,if_pos h]
 have h2:bO .f64 (b^^^9223372036854775808)=9221120237041090560:=by rw [DG,hm,if_pos h]
 rw [h1,h2];decide;have h1:bO .f64 b=b:=by rw [DG,if_neg h]
 rw [h1]
theorem LA (k:FloatKind)(x y t:Nat):bO k (Question.cut (.nanBits k x y) t)=Gt k:=by
 cases k;have e:Question.cut (.nanBits .f32 x y) t=(t%2)*2147483648+2139095040+1+(t/2)%8388607:=rfl;have h1:=Nat.mod_lt t (show 0<2 by decide);have h2:=Nat.mod_lt (t/2) (show 0<8388607 by decide);rw [e,DF];generalize t%2=p at h1;generalize t/2%8388607=q at h2;rw [if_pos (by omega)];rfl;have e:Question.cut (.nanBits .f64 x y) t=(t%2)*9223372036854775808+9218868437227405312+1+(t/2)%4503599627370495:=rfl;have h1:=Nat.mod_lt t (show 0<2 by decide);have h2:=Nat.mod_lt (t/2) (show 0<4503599627370495 by decide);rw [e,DG];generalize t%2=p at h1;generalize t/2%4503599627370495=q at h2;rw [if_pos (by omega)];rfl
theorem Ia (k:FloatKind)(x t:Nat):bO k (Question.cut (.nanConv k x) t)=Gt k:=by
 cases k;have e:Question.cut (.nanConv .f32 x) t=(t%2)*2147483648+2139095040+1+(t/2)%8388607:=rfl;have h1:=Nat.mod_lt t (show 0<2 by decide);have h2:=Nat.mod_lt (t/2) (show 0<8388607 by decide);rw [e,DF];generalize t%2=p at h1;generalize t/2%8388607=q at h2;rw [if_pos (by omega)];rfl;have e:Question.cut (.nanConv .f64 x) t=(t%2)*9223372036854775808+9218868437227405312+1+(t/2)%4503599627370495:=rfl;have h1:=Nat.mod_lt t (show 0<2 by decide);have h2:=Nat.mod_lt (t/2) (show 0<4503599627370495 by decide);rw [e,DG];generalize t%2=p at h1;generalize t/2%4503599627370495=q at h2;rw [if_pos (by omega)];rfl
theorem Br (s k:FloatKind)(b:Nat)(h:s≠k):qN s k (bO s b)=qN s k b∧wi s k (bO s b)=wi s k b:=by
 rcases mL s b with e|⟨sg,t,YJ,t',h1,h2⟩
 rw [e];exact ⟨rfl,rfl⟩;have h1:s.decode b= .nan sg t:=h1;have h2:s.decode (bO s b)= .nan YJ t':=h2;unfold qN wi;rw [if_neg h,if_neg h,if_neg h,if_neg h,h1,h2];exact ⟨rfl,rfl⟩
def Fu:BinOp→Bool
 | .add=>true
 | .sub=>true
 | .mul=>true
 | .quo=>true
 |_=>false
def Ib (op:BinOp)(k:FloatKind)(x y:Nat):Option bm:=
 match op with
 | .eql=>bn (.one (.aB .bool (QZ k x y)))
 | .neq=>bn (.one (.aB .bool (!QZ k x y)))
 | .lss=>bn (.one (.aB .bool (cD k x y)))
 | .leq=>bn (.one (.aB .bool (Vk k x y)))
 | .gtr=>bn (.one (.aB .bool (Vl k x y)))
 | .geq=>bn (.one (.aB .bool (Vm k x y)))
 |_=>none
def Ic (P:Program)(cs ds:List aq):List Field→Option Bool
 |[]=>some true
 |f::r=>match P.underlying f.type,cs[f.offset]?,ds[f.offset]?,Ic P cs ds r with
  |some (.int _),some (.aB (.int k) a),some (.aB (.int k') b),some e=>bif f.name=="_" then none else if k=k' then some ((a==b)&&e) else none
  |_,_,_,_=>none
def mu (P:Program)(T:TypeId)(op:BinOp)(cs ds:List aq):Option bm:=
 match P.underlying T with
 |some (.struct fs)=>bif P.stoodInHeld T||P.eqGuardType P.depth T then none else
  (match op,Ic P cs ds fs.toList with
  | .eql,some b=>bn (.one (.aB .bool b))
  | .neq,some b=>bn (.one (.aB .bool (!b)))
  |_,_=>none)
 |_=>none
def yP (P:Program)(T:TypeId)(op:BinOp)(x y:au):Option bm:=
 match x,y with
 | .one (.aB (.cD k) a),.one (.aB (.cD k') b)=>if k=k' then (if Fu op then bn (.one (.aB (.cD k) (XH op k a b))) else Ib op k a b) else none
 | .agg cs,.agg ds=>mu P T op cs ds
 |x,y=>Gj P T op x y
def LB (op:UnOp)(x:au):Option bm:=
 match op,x with
 | .neg,.one (.aB (.cD k) b)=>bn (.one (.aB (.cD k) (RZ k b)))
 |op,x=>Ua op x
def cA (P:Program)(T:TypeId):Bool:=
 match P.underlying T with
 |some (.slice e)=>(match P.underlying e with
  |some (.int .u8)=>true
  |_=>false)
 |_=>false
def bG (s:List UInt8):List Int:=s.map fun b=>((b.toNat:Nat):Int)
def rR (l:List Int):List UInt8:=l.map fun n=>UInt8.ofNat n.toNat
def Uf (mx:Bool)(k:FloatKind)(a b:Nat):Nat:=
 match k.format.order a b with
 |some .lt=>bif mx then b else a
 |some .gt=>bif mx then a else b
 |_=>if (k.decode a).neg=mx then b else a
def Ug (mx:Bool)(x y:au):Option bm:=
 match x,y with
 | .one (.aB (.cD k) a),.one (.aB (.cD k') b)=>if k=k' then fj (.one (.aB (.cD k) (Uf mx k a b))) [(k.format.order a b).isSome=true] else none
 |_,_=>none
def mw (P:Program)(m:Mem)(nx:Nat)(T U:TypeId)(x:au):Option bm:=
 match P.underlying T,P.underlying U,x with
 |some _,some (.float k),.one (.aB (.cD s) b)=>fj (.one (.aB (.cD k) (wi s k b))) [qN s k b=true]
 |some _,some (.float k),.one (.aB (.int _) n)=>bn (.one (.aB (.cD k) (Og k n)))
 |some .string,some (.slice _),.one (.aB .str s)=>bif cA P U then some ⟨.one (.all nx),[(nx,.seq (.int .u8) (bG s))],[],[List.length s≤av]⟩ else none
 |some (.slice _),some (.slice _),.one (.all c)=>bif Nat.beq T U&&cA P T then (match lk c m with
  |some (.seq t xs)=>if t= .int .u8 then some ⟨.one (.all c),[],[(c,.seq t xs)],[0<List.length xs]⟩ else none
  |_=>none) else none
 |some (.slice _),some .string,x=>bif cA P T&&lY m x then (match jA m (.sl (.int .u8)) x with
  |some l=>bn (.one (.aB .str (rR l)))
  |none=>none) else none
 |_,_,x=>vP P T U x
def oA (P:Program)(m:Mem)(nx:Nat)(T T':TypeId)(s x:au):Option bm:=
 match P.underlying T,P.underlying T',x with
 |some (.slice e),some .string,.one (.aB .str y)=>(match P.info? e with
  |some i=>bif (cA P T&&Nat.beq i.size 1)&&(Nat.ble i.bytes 32768&&i.zero.isSome)&&(i.zero.map fun z=>Nat.beq z.cells.size 1).getD false then
   (match mg m (.int .u8) s with
   |some (xs,up)=>some ⟨.one (.all nx),[(nx,.seq (.int .u8) (xs++bG y))],up,[List.length xs+List.length y≤av]⟩
   |none=>none) else none
  |none=>none)
 |_,_,_=>none
def zN (P:Program)(T:TypeId)(x:au)(lo hi mx:Option au):Option bm:=
 match P.underlying T,x with
 |some (.slice e),.one (.aB (.sl t) xs)=>(match M4 lo,hi,mx with
  |some l,some (.one (.aB (.int _) h)),some (.one (.aB (.int _) q))=>bif cc P e==some t.size then fj (.one (.aB (.sl t) (cut xs l h))) [(0:Int)≤l∧l≤h∧h≤q∧q≤((List.length xs:Nat):Int)] else none
  |_,_,_=>none)
 |_,_=>none
section
variable {P:Program} {g:GM} {m:Mem} {S:Nat→Prop} {cx:Cx} {st:St} {a:Act} {w:World}
theorem nB {k:FloatKind}{n:Nat}{v:Value}(h:CR g m S w (.aB (.cD k) n) v): ∃b,v= .float k b∧bO k b=n:=by
 obtain ⟨b,e,hb⟩:=(h: ∃b,[v]=[Value.float k b]∧bO k b=n);exact ⟨b,by simpa using e,hb⟩
theorem mj {k:FloatKind}{b n:Nat}(h:bO k b=n):VR g m S w (.one (.aB (.cD k) n)) (.float k b):=⟨b,rfl,h⟩
theorem gd.drew {s:Sem Value}{e:bm}{v:au}{r:Value}(h:bD cx g st a w)(he:e.new=[]∧e.jU=[]∧e.val=v)(hr:s.run cx.P w= .ok r w.drew)(hv: ∀g m S w,VR g m S w v r):gd cx st a w s e:=by
 refine ⟨r,w.drew,hr,g,?_,?_⟩;rw [he.1,he.2.1];exact h.tV (G:=[]) ⟨aH.drew _ _,fun b hb=>(by simp at hb),fun _ _=>rfl,fun k ch hk=> .inl ⟨hk,fun _ b _ _ hb=>by simp at hb⟩,fun k ch hk dS=>by
  change lk k st.mem=some ch at dS;rw [hk] at dS;cases dS⟩
 rw [he.2.2];exact hv _ _ _ _
theorem rS {P:Program}{g:GM}{m:Mem}{S:Nat→Prop}{w w':World}{d:Nat}{cs ds:List aq}{us vs:List Value}(hu:aK (CR g m S w) cs us)(hv:aK (CR g m S w) ds vs):
 ∀(fs:List Field) (b:Bool),Ic P cs ds fs=some b→(Op.eqFields (d+1) us.toArray vs.toArray fs).run P w'= .ok b w'
 |[],b,h=>by
  unfold Ic at h;injection h with h;subst h;rfl
 |f::r,b,h=>by
  unfold Ic at h;split at h
  ·rename_i k k1 x k2 y e hT hc hd he;cases hn:f.name=="_" with
   |true=>rw [hn] at h;cases h
   |false=>
    rw [hn] at h;simp only [cond_false] at h;split at h
    case isFalse=>cases h
    rename_i hk;subst hk;injection h with h;subst h;have xU:f.name≠"_":=by
     intro hh;rw [hh] at hn;simp at hn
    obtain ⟨u,Vd,RQ⟩:=hu.get _ _ hc;obtain ⟨v,R0,Oa⟩:=hv.get _ _ hd;have e1:u= .int k1 x:=dx (g:=g) (m:=m) (S:=S) (w:=w) RQ;have e2:v= .int k1 y:=dx (g:=g) (m:=m) (S:=S) (w:=w) Oa;subst e1;subst e2;have p1:(part f.type us.toArray f.offset).run P w'= .ok (.int k1 x) w':=by simp [part,isAgg,run_underlying hT,Vd]
    have p2:(part f.type vs.toArray f.offset).run P w'= .ok (.int k1 y) w':=by simp [part,isAgg,run_underlying hT,R0]
    have p3:=run_equalIn_int w' d f.type k1 k x y hT;unfold Op.eqFields;rw [if_pos xU];simp only [Sem.run_bind,p1,p2,p3,Result.andThen_ok];cases XI:(x==y) with
    |true=>simpa using rS hu hv r e he
    |false=>simp
  cases h
theorem vg {P:Program}{g:GM}{m:Mem}{S:Nat→Prop}{w:World}{op:BinOp}{T:TypeId}{cs ds:List aq}{e:bm}{xa ya:Value}(h:mu P T op cs ds=some e)(hx:VR g m S w (.agg cs) xa)(hy:VR g m S w (.agg ds) ya):
 aG P g m S w (binOp op T xa ya) e:=by
 obtain ⟨us,rfl,hu⟩:=hx;obtain ⟨vs,rfl,hv⟩:=hy;unfold mu at h;split at h;rename_i fs hT;cases hg:P.stoodInHeld T with
 |true=>rw [hg] at h;cases h
 |false=>
  cases hq:P.eqGuardType P.depth T with
  |true=>rw [hg,hq] at h;cases h
  |false=>
   rw [hg,hq] at h;simp only [Bool.or_self,cond_false] at h;have hf:Program.fieldsOf P T=fs:=by unfold Program.fieldsOf;rw [hT]
   split at h;rename_i b hb;have:=rS (w':=w) (d:=9998) hu hv _ _ hb;refine aG.mk (aC h) (r:= .bool b) ?_ rfl;rw [run_eql_struct,show (10000:Nat)=9999+1 from rfl,run_equalIn_agg w 9999 T _ _ (by rw [hf];exact hT) hg,hf,this];rfl;rename_i b hb;have:=rS (w':=w) (d:=9998) hu hv _ _ hb;refine aG.mk (aC h) (r:= .bool (!b)) ?_ rfl;rw [run_neq_struct,show (10000:Nat)=9999+1 from rfl,run_equalIn_agg w 9999 T _ _ (by rw [hf];exact hT) hg,hf,this];rfl;cases h
 cases h
theorem vh {P:Program}{w:World}{op:BinOp}{T:TypeId}{cs ds:List aq}{e:bm}{x y:Operand}{us vs:Array Value}(h:mu P T op cs ds=some e):(eqGuard op T x y (.agg us) (.agg vs)).run P w= .ok () w:=by
 unfold mu at h;split at h;cases hq:P.eqGuardType P.depth T with
 |true=>rw [hq] at h;simp only [Bool.or_true,cond_true] at h;cases h
 |false=>exact run_eqGuard_agg w op T x y us vs hq
 cases h
theorem Bt {op:BinOp}{x y:au}{e:bm}{T:TypeId}{xa ya:Value}(hs:bD cx g st a w)(h:yP cx.P T op x y=some e)(hc:aS e.cond)(hx:VR g st.mem (cx.safe g st.mem w) w x xa)(hy:VR g st.mem (cx.safe g st.mem w) w y ya):
 gd cx st a w (binOp op T xa ya) e:=by
 unfold yP at h;split at h;rename_i k n k' n';obtain ⟨b,rfl,hb⟩:=nB (g:=g) (m:=st.mem) (S:=cx.safe g st.mem w) (w:=w) hx;obtain ⟨b',rfl,iE⟩:=nB (g:=g) (m:=st.mem) (S:=cx.safe g st.mem w) (w:=w) hy;split at h;rename_i hk;subst hk;split at h;rename_i ha;have hf:floatBits op k n n'=floatBits op k b b':=by rw [←hb,←iE];exact vf op k b b'
 have he:=aC h;unfold XH at he;rw [hf] at he;cases hr:floatBits op k b b' with
 |some r=>
  rw [hr] at he;exact aG.runs hs (aG.mk he (run_float_arith w op T k b b' r hr) (mj rfl))
 |none=>
  rw [hr] at he;have hn:(binOp op T (.float k b) (.float k b')).run cx.P w= .ok (.float k (Question.cut (.nanBits k b b') (w.tape w.drawn (.nanBits k b b')))) w.drew:=by
   unfold floatBits at hr;cases op<;>simp only [Fu,Bool.false_eq_true] at ha<;>simp only at hr<;>simp [binOp,Op.floatArith,hr,Question.forced]
  exact gd.drew hs he hn fun g m S w=>mj (LA k b b' _)
 have ho:k.format.order n n'=k.format.order b b':=by rw [←hb,←iE];exact uI k b b'
 have hg:aG cx.P g st.mem (cx.safe g st.mem w) w (binOp op T (.float k b) (.float k b')) e:=by
  unfold Ib at h;split at h;exact aG.mk (aC h) (r:= .bool (QZ k n n')) (by simp [binOp,Op.floatCmp,QZ,ho]) rfl;exact aG.mk (aC h) (r:= .bool (!QZ k n n')) (by simp [binOp,Op.floatCmp,QZ,ho,bne]) rfl;exact aG.mk (aC h) (r:= .bool (cD k n n')) (by simp [binOp,Op.floatCmp,cD,ho]) rfl;exact aG.mk (aC h) (r:= .bool (Vk k n n')) (by simp [binOp,Op.floatCmp,Vk,ho]) rfl;exact aG.mk (aC h) (r:= .bool (Vl k n n')) (by simp [binOp,Op.floatCmp,Vl,ho]) rfl;exact aG.mk (aC h) (r:= .bool (Vm k n n')) (by simp [binOp,Op.floatCmp,Vm,ho]) rfl;cases h
 exact aG.runs hs hg;cases h;exact aG.runs hs (vg h hx hy);exact aG.runs hs (Dp h hc hx hy)
theorem DH {op:UnOp}{x:au}{e:bm}{xa:Value}(h:LB op x=some e)(hx:VR g m S w x xa):aG P g m S w (Op.unary op xa) e:=by
 unfold LB at h;split at h;rename_i k n;obtain ⟨b,rfl,hb⟩:=nB (g:=g) (m:=m) (S:=S) (w:=w) hx;refine aG.mk (aC h) (r:= .float k (Op.negFloat k b)) (by simp [Op.unary]) (mj ?_);unfold RZ;rw [←hb,Gw];exact Gl h hx
theorem pW {T:TypeId}(h:cA P T=true): ∃e,P.underlying T=some (.slice e)∧P.underlying e=some (.int .u8):=by
 unfold cA at h;split at h;rename_i e h1;split at h;rename_i h2;exact ⟨e,h1,h2⟩;cases h;cases h
theorem Gx {S':Nat→Prop}{w':World}{s:List UInt8}{arr:Array Value}(h: ∀j (hj:j<s.length),arr[j]? =some (.int .u8 ((s[j].toNat:Nat):Int))):Ba S' w' (.int .u8) (bG s) arr:=by
 intro i hi;have vw:i<s.length:=by simpa [bG] using hi
 refine ⟨[.int .u8 ((s[i].toNat:Nat):Int)],fun j u hj=> ?_,?_⟩;cases j with
 |zero=>
  simp only [List.getElem?_cons_zero,Option.some.injEq] at hj;subst hj;simp only [Ty.size,Nat.mul_one,Nat.add_zero];exact h i vw
 |succ j=>simp at hj
 show [Value.int .u8 ((s[i].toNat:Nat):Int)]=[Value.int .u8 ((bG s)[i])];simp [bG]
theorem uJ (w:World)(b n:Nat){arr:Array Value}{T:TypeId}{lo hi:Nat}(h:w.heap[b]? =some (.cells arr T (lo,hi))):
 (w.freeze ⟨b,n,none⟩ 1).heap[b]? =some (.cells arr T (if lo==hi then (n,n+1) else (min lo n,max hi (n+1)))):=by
 simp [World.freeze,Array.getElem?_modify,h]
theorem sX (w:World)(b n q:Nat)(hq:q≠b):(w.freeze ⟨b,n,none⟩ 1).heap[q]? =w.heap[q]? :=by
 simp [World.freeze,Array.getElem?_modify,Ne.symm hq]
theorem oX {w:World}{b:Nat}{arr:Array Value}(h:cg w b arr):cg (w.freeze ⟨b,arr.size,none⟩ 1) b arr:=by
 obtain ⟨T,lo,hi,h,hf⟩:=h;by_cases e:lo=hi;subst e;exact ⟨T,arr.size,arr.size+1,by rw [uJ w b arr.size h];simp,.inr (Nat.le_refl _)⟩;exact ⟨T,min lo arr.size,max hi (arr.size+1),by rw [uJ w b arr.size h,if_neg (by simpa using e)],.inr (by omega)⟩
theorem Bu {w:World}{b:Nat}{arr:Array Value}(h:cg w b arr):aH [b] w (w.freeze ⟨b,arr.size,none⟩ 1):=by
 have jW:(w.freeze ⟨b,arr.size,none⟩ 1).os=w.os∧(w.freeze ⟨b,arr.size,none⟩ 1).tape=w.tape∧(w.freeze ⟨b,arr.size,none⟩ 1).output=w.output∧(w.freeze ⟨b,arr.size,none⟩ 1).heap.size=w.heap.size:=by
  unfold World.freeze;split<;>simp
 refine ⟨jW.1,jW.2.1,jW.2.2.1,by rw [jW.2.2.2];exact Nat.le_refl _,fun q _ hq=>sX w b arr.size q (by simpa using hq),fun q aA hb=> ?_⟩;by_cases e:q=b;subst e;have:=hb.eq h;subst this;exact ⟨aA,oX h,rfl⟩;exact ⟨aA,hb.ar (sX w b arr.size q e),rfl⟩
theorem yQ {mx:Bool}{x y:au}{e:bm}{xa ya:Value}{Ts:Array TypeId}{T:TypeId}{S:Nat→Prop}{m:Mem}{P:Program}(h:Ug mx x y=some e)(hc:aS e.cond)(hx:VR g m S w x xa)(hy:VR g m S w y ya):aG P g m S w (bif mx then Builtin.max_ Ts T #[xa,ya] else Builtin.min_ Ts T #[xa,ya]) e:=by
 unfold Ug at h;split at h;rename_i k a k' b;split at h;rename_i hk;subst hk;obtain ⟨x,rfl,ha⟩:=nB (g:=g) (m:=m) (S:=S) (w:=w) hx;obtain ⟨y,rfl,hb⟩:=nB (g:=g) (m:=m) (S:=S) (w:=w) hy;obtain ⟨he,lZ⟩:=bU h;rw [lZ] at hc;have ho:(k.format.order a b).isSome=true:=hc.1;have XI:a=x∧b=y:=by
  rw [←ha,←hb,uI] at ho;constructor;rcases mL k x with h|⟨s,t,s',t',q1,q2⟩
  rw [←ha,h];unfold Ieee.Format.order at ho;rw [q1,wj] at ho;cases ho;rcases mL k y with h|⟨s,t,s',t',q1,q2⟩
  rw [←hb,h];unfold Ieee.Format.order at ho;rw [q1,wk] at ho;cases ho
 obtain ⟨rfl,rfl⟩:=XI;refine aG.mk he (r:= .float k (Uf mx k a b)) ?_ (mj ?_);unfold Uf;cases hq:k.format.order a b with
 |none=>rw [hq] at ho;cases ho
 |some o=>
  cases mx<;>cases o<;>cases hn:(k.decode a).neg<;>simp [Builtin.max_,Builtin.max2,Builtin.min_,Builtin.min2,hq,hn]
 unfold Uf;split;cases mx<;>assumption;cases mx<;>assumption;split<;>assumption;cases h;cases h
theorem vi {T U:TypeId}{x:au}{e:bm}{xa:Value}(hs:bD cx g st a w)(hw:dK st.mem e.new)(h:mw cx.P st.mem st.nx T U x=some e)(hc:aS e.cond)(hx:VR g st.mem (cx.safe g st.mem w) w x xa):gd cx st a w (convert T U xa) e:=by
 unfold mw at h;split at h;rename_i u k s n h1 h2;obtain ⟨b,rfl,hb⟩:=nB (g:=g) (m:=st.mem) (S:=cx.safe g st.mem w) (w:=w) hx;obtain ⟨he,lZ⟩:=bU h;rw [lZ] at hc;have jz:qN s k n=true:=hc.1;by_cases Q0:s=k;subst Q0;have e1:wi s s n=n:=by unfold wi;rw [if_pos rfl]
 rw [e1] at he;refine aG.runs hs (aG.mk he (r:= .float s b) (run_convert_float_float w T U s s b b (by rw [h1];rfl) h2 (by simp [floatToFloatBits])) (mj hb));have Vn:=Br s k b Q0;rw [hb] at Vn;rw [Vn.2] at he;rw [Vn.1] at jz;unfold qN at jz;unfold wi at he;rw [if_neg Q0] at jz he;cases hd:s.decode b with
 |nan sg t=>
  rw [hd] at he;have hn:(convert T U (.float s b)).run cx.P w= .ok (.float k (Question.cut (.nanConv k b) (w.tape w.drawn (.nanConv k b)))) w.drew:=by
   cases u<;>simp [convert,run_underlying h1,run_underlying h2,Conv.floatToFloat,Q0,hd,Question.forced]
  exact gd.drew hs he hn fun g m S w=>mj (Ia k b _)
 |infinity sg=>
  rw [hd] at he;exact aG.runs hs (aG.mk he (run_convert_float_float w T U s k b _ (by rw [h1];rfl) h2 (by simp [floatToFloatBits,Q0,hd])) (mj rfl))
 |number sg mm ee=>
  rw [hd] at he jz;have jz:(k.decode (k.encode (.number sg mm ee))).isInfinity=false:=by simpa using jz
  exact aG.runs hs (aG.mk he (run_convert_float_float w T U s k b _ (by rw [h1];rfl) h2 (by simp [floatToFloatBits,Q0,hd,jz])) (mj rfl))
 rename_i u k kk n h1 h2;have:=dx (g:=g) (m:=st.mem) (S:=cx.safe g st.mem w) (w:=w) hx;subst this;exact aG.runs hs (aG.mk (aC h) (r:= .float k (k.nearest n)) (by cases u<;>simp [convert,run_underlying h1,run_underlying h2,Conv.intToFloat]) (mj rfl));rename_i el s h1 h2;cases hb:cA cx.P U with
 |false=>simp [hb] at h
 |true=>
  rw [hb] at h;simp only [cond_true] at h;injection h with h;subst h;obtain ⟨e1,k1,k2⟩:=pW hb;have Ln:=jZ (g:=g) (m:=st.mem) (S:=cx.safe g st.mem w) (w:=w) hx;subst Ln;have hlen:s.length≤av:=hc.1;unfold av at hlen;have fS:=Lib.run_convert_string_bytes (P:=cx.P) w T U e1 ⟨s.toArray⟩ h1 k1 k2;have cY:(⟨s.toArray⟩:ByteArray).size=s.length:=by simp [ByteArray.size]
  rw [cY] at fS;have pL:=grownCap_ge w s.length 0 e1;have Fi:=grownCap_le_maxLen w s.length 0 e1 (by unfold maxLen;omega);refine ⟨_,_,fS,?_⟩;have j6:=Lib.bytesWorld_at_new w e1 ⟨s.toArray⟩;have hcs:(Lib.bytesCells w e1 ⟨s.toArray⟩).size=grownCap w s.length 0 e1:=by
   simp [Lib.bytesCells,cY];omega
  have cm:cg (Lib.bytesWorld w e1 ⟨s.toArray⟩) w.heap.size (Lib.bytesCells w e1 ⟨s.toArray⟩):=
   ⟨_,_,_,j6,.inr (Nat.le_refl _)⟩
  have hold: ∀j,j<w.heap.size→(Lib.bytesWorld w e1 ⟨s.toArray⟩).heap[j]? =w.heap[j]? :=fun j hj=>Lib.bytesWorld_at_old w e1 ⟨s.toArray⟩ j hj;have df:aH [] w (Lib.bytesWorld w e1 ⟨s.toArray⟩):=by
   have jW: ∀(w:World) (a:Addr) (n:Nat),(w.freeze a n).os=w.os∧(w.freeze a n).tape=w.tape∧(w.freeze a n).output=w.output:=by
    intro w a n;unfold World.freeze;split<;>exact ⟨rfl,rfl,rfl⟩
   have hf:=jW (w.drew.alloc (.cells (Lib.bytesCells w e1 ⟨s.toArray⟩) e1)) ⟨w.heap.size,(Lib.bytesCells w e1 ⟨s.toArray⟩).size,none⟩ 1;exact ⟨hf.1,hf.2.1,hf.2.2,by rw [Lib.bytesWorld_size];omega,fun b hb _=>hold b hb,fun b arr hb=>⟨arr,hb.ar (hold b hb.lt),rfl⟩⟩
  refine nk.newAt (G:=[]) (up:=[]) (gk:=some w.heap.size) hs hw ⟨rfl,rfl,rfl⟩ (.inl rfl) df (.inl rfl) (fun b hb=>by injection hb with hb;left;omega) (fun b hb=>by injection hb with hb;subst hb;exact cm.lt) (fun S' hS=>⟨_,cm,?_⟩) ?_;refine dw.kH rfl (Gx fun j hj=> ?_);simp [Lib.bytesCells,hj,Array.getElem?_append];exact ⟨_,_,by simp [bG],by simp [bG];exact pL,cm,by rw [hcs];simp [Ty.size],Fi⟩
 rename_i el1 el2 c h1 h2;cases hb:(Nat.beq T U&&cA cx.P T) with
 |false=>rw [hb] at h;cases h
 |true=>
  rw [hb] at h;simp only [cond_true] at h;simp only [Bool.and_eq_true] at hb;have YK:=aO hb.1;subst YK;obtain ⟨e1,k1,k2⟩:=pW hb.2;split at h;rename_i t xs hl;split at h;rename_i ht;injection h with h;subst h;have Ie:0<List.length xs:=hc.1;have bK:=hs.mem c _ hl;have aP:=hx.2.2 t xs (.inl hl);unfold gA at aP;unfold gU at bK;cases hg:g.f c [] with
  |none=>
   rw [hg] at bK;have:xs=[]:=bK;subst this;simp at Ie
  |some b=>
   rw [show g c=some b from hg] at aP;rw [hg] at bK;obtain ⟨arr,iT,fA⟩:=bK;obtain ⟨cap,aA,e2,q1,q2,q3,q4⟩:=aP;have:=q2.eq iT;subst this;subst e2;have Vo:=iT;obtain ⟨T0,lo,hi,hh,_⟩:=Vo;have hsh:w.shape? b=some (T0,aA.size):=by
    simp [World.shape?,hh]
   clear hh;have fS:(convert T T (.slice (some ⟨b,0,none⟩) (List.length xs) cap)).run cx.P w= .ok (.slice (some ⟨b,0,none⟩) (List.length xs) cap) (w.freeze ⟨b,aA.size,none⟩ 1):=by
    simp [convert,run_underlying k1,run_underlying k2,markStringish,hsh]
   subst ht;refine ⟨_,_,fS,g,?_,?_⟩;have q:H0 g st w (w.freeze ⟨b,aA.size,none⟩ 1) c b [] (.seq (.int .u8) xs) (.seq (.int .u8) xs):=
    ⟨hl,trivial,hg,Bu iT,⟨aA,aA,iT,oX iT,rfl⟩,fun _ _=>trivial,by simp,fun t' bF e=>⟨bF,e,rfl⟩,fun t' bF e=>⟨bF,e,bu.refl _ _⟩⟩
   refine bD.N8 hs q ?_;unfold gU;rw [hg];exact ⟨aA,oX iT,.kH rfl fun i hi=>by
    obtain ⟨es,r1,r2⟩:=fA.Gi rfl i hi;exact ⟨es,r1,r2⟩⟩
   refine ⟨by simp [aw],rfl,fun t' bF dB=> ?_⟩;have A4:lk c ((c,Chunk.seq (.int .u8) xs)::st.mem)=some (.seq (.int .u8) xs):=by rw [aw,if_pos rfl]
   have dB:=cz.toSeq A4 dB;rw [A4] at dB;injection dB with dB;injection dB with Vp Oh;subst Vp;have Oh:=eq_of_heq Oh;subst Oh;unfold gA;rw [show g c=some b from hg];exact ⟨cap,aA,rfl,q1,oX iT,q3,q4⟩
  cases h;cases h
 rename_i x0 _ _ _ el h1 h2;cases hb:(cA cx.P T&&lY st.mem x0) with
 |false=>rw [hb] at h;cases h
 |true=>
  rw [hb] at h;simp only [cond_true] at h;simp only [Bool.and_eq_true] at hb;obtain ⟨hb,HZ⟩:=hb;split at h;rename_i l hl;obtain ⟨e1,k1,k2⟩:=pW hb;rw [k1] at h1;injection h1 with h1;injection h1 with h1;subst h1;obtain ⟨news,A6⟩:=zB hs.mem hl HZ rfl hx;obtain ⟨ax,vb,ex,Hw⟩:=A6.val;subst ex;refine aG.runs hs (aG.mk (aC h) (r:= .string ⟨(rR l).toArray⟩) ?_ rfl);have R1:news=l.map (Value.int .u8):=by
   refine List.ext_getElem? fun j=> ?_;have hln:news.length=l.length:=by have:=A6.len;simpa [Ty.size] using this
   rcases Nat.lt_or_ge j l.length with hj|hj
   obtain ⟨es,q1,q2⟩:=A6.Gi j hj;have q2:es=[Value.int .u8 l[j]]:=q2;have:=q1 0 (by simp [Ty.size]);simp only [Ty.size,Nat.mul_one,Nat.add_zero,q2,List.getElem?_cons_zero] at this;have e3:(List.map (Value.int .u8) l)[j]? =some (.int .u8 l[j]):=by
    rw [List.getElem?_map,List.getElem?_eq_getElem hj];rfl
   rw [e3,this];rw [List.getElem?_eq_none (by omega),List.getElem?_eq_none (by simp;omega)]
  rw [run_convert_bytes_string w T U e1 ax l.length vb k1 k2 h2];have pR: ∀(l:List Int) (r:ByteArray),l.foldl (fun r n=>r.push (UInt8.ofNat n.toNat)) r=⟨r.data++(rR l).toArray⟩:=by
   intro l;induction l with
   |nil=>intro r;simp [rR]
   |cons n l ih=>intro r;rw [List.foldl_cons,ih];simp [rR,ByteArray.push]
  rcases Hw with h0|⟨ad,rfl,aM⟩
  have:l=[]:=List.eq_nil_of_length_eq_zero h0;subst this;cases ax with
  |none=>simp [Conv.bytesToString,rR];rfl
  |some ad=>simp [Conv.bytesToString,rR,loadCells,loadCellsFrom];rfl
  have hl:=run_loadCells_list (P:=cx.P) w ad (l.map (Value.int .u8)) (fun j v hj=>aM j v (by rw [R1];exact hj));simp only [List.length_map] at hl;rw [run_bytesToString w ad l.length vb _ hl,pR];simp;cases h
 exact aG.runs hs (wa h hx)
theorem ml {w:World}{y:List UInt8}{n:Nat}(hn:n=y.length)(size:Nat):(Builtin.firstCells size n (.string ⟨y.toArray⟩)).run P w= .ok ((bG y).map (Value.int .u8)).toArray w:=by
 subst hn;have e:(⟨y.toArray⟩:ByteArray).extract 0 y.length=⟨y.toArray⟩:=by
  apply ByteArray.ext;simp
 simp only [Builtin.firstCells,e,Sem.run_pure];simp [bG]
theorem rB {t u ty e:TypeId}{i:TypeInfo}{z:Value}(ht:P.underlying t=some (.slice e))(hu:P.underlying u=some .string)(hi:P.info? e=some i)(hz:i.zero=some z){base:Option Addr}{n cap:Nat}{olds:List Value}(HP:olds.length=n*i.size)(ho:n=0∨ ∃ad,base=some ad∧ ∀j v,olds[j]? =some v→w.cell? (ad.add j)=some v){y:List UInt8}(hg:cap<n+y.length)(hb:(n+y.length)*i.bytes≤140737488355328)(YC:n+y.length≤9223372036854775807):
 (Builtin.append_ #[t,u] ty #[.slice base n cap,.string ⟨y.toArray⟩]).run P w=
  .ok (.slice (some ⟨w.heap.size,0,none⟩) (n+y.length) (grownCap w (n+y.length) cap e))
   (w.drew.alloc (.cells (olds.toArray++((bG y).map (Value.int .u8)).toArray++Builtin.zeroCells z.cells (grownCap w (n+y.length) cap e - (n+y.length))) e)):=by
 have iU: ¬(n+y.length≤cap):=by omega
 have HW: ¬(9223372036854775807<((n:Int)+(y.length:Int))):=by omega
 have Xz:=growslice_fits (old:=cap) hg hb;have HX: ¬(281474976710656<Builtin.nextslicecap (n+y.length) cap*i.bytes):=by omega
 have hf:=ml (P:=P) (w:=w.drew) (y:=y) (n:=y.length) rfl i.size;have Rw:=dy (P:=P) (w:=w.drew) (len:=n) (cap:=cap) HP ho;have cY:(⟨y.toArray⟩:ByteArray).size=y.length:=by simp [ByteArray.size]
 simp [Builtin.append_,run_underlying ht,run_underlying hu,sizeOf,typeInfo,zeroValue,hi,hz,Builtin.lenOf,cY,iU,HW,HX,Question.forced,hf,Rw,newRow,grownCap]
 congr 2
 apply Array.ext';simp [List.append_assoc]
theorem yd {t u ty e:TypeId}{i:TypeInfo}(ht:P.underlying t=some (.slice e))(hu:P.underlying u=some .string)(hi:P.info? e=some i)(R2:i.size=1){b n cap:Nat}{arr:Array Value}(hb:cg w b arr){y:List UInt8}(iU:n+y.length≤cap)(gC:(n+y.length)*i.size≤arr.size):
 ∃w' aA,(Builtin.append_ #[t,u] ty #[.slice (some ⟨b,0,none⟩) n cap,.string ⟨y.toArray⟩]).run P w= .ok (.slice (some ⟨b,0,none⟩) (n+y.length) cap) w'∧cg w' b aA∧
  aA.toList=arr.toList.take (n*i.size)++(bG y).map (Value.int .u8)++arr.toList.drop (n*i.size+y.length)∧aH [b] w w'∧w'.heap.size=w.heap.size:=by
 have hf:=ml (P:=P) (w:=w) (y:=y) (n:=y.length) rfl i.size;have cY:(⟨y.toArray⟩:ByteArray).size=y.length:=by simp [ByteArray.size]
 have hl:((bG y).map (Value.int .u8)).length=y.length:=by simp [bG]
 obtain ⟨w',aA,e,k1,k2,k3,k4⟩:=dU (P:=P) ((bG y).map (Value.int .u8)) (n*i.size) 0 w arr hb (by rw [hl,Nat.add_zero,R2];rw [R2] at gC;omega) (fun v hv=>by
  obtain ⟨x,_,rfl⟩:=List.mem_map.1 hv;rfl)
 rw [hl] at k2;refine ⟨w',aA,?_,k1,by simpa using k2,k3,k4⟩;have ha:(⟨b,0,none⟩:Addr).add (n*i.size)=⟨b,n*i.size,none⟩:=by rw [aX];simp
 simp [Builtin.append_,run_underlying ht,run_underlying hu,sizeOf,typeInfo,hi,Builtin.lenOf,cY,iU,hf,ha,e]
theorem rC {t u ty e:TypeId}{i:TypeInfo}(ht:P.underlying t=some (.slice e))(hu:P.underlying u=some .string)(hi:P.info? e=some i){base:Option Addr}:
 (Builtin.append_ #[t,u] ty #[.slice base 0 0,.string ⟨#[]⟩]).run P w= .ok (.slice base 0 0) w:=by
 have hf:=ml (P:=P) (w:=w) (y:=[]) (n:=0) rfl i.size;have cY:(⟨#[]⟩:ByteArray).size=0:=rfl;have hf:(Builtin.firstCells i.size 0 (.string ⟨#[]⟩)).run P w= .ok #[] w:=hf;cases base<;>simp [Builtin.append_,run_underlying ht,run_underlying hu,sizeOf,typeInfo,hi,Builtin.lenOf,cY,hf,storeCells]
theorem wm {S':Nat→Prop}{w':World}{y:List UInt8}:dN S' w' (.int .u8) (bG y) ((bG y).map (Value.int .u8)):=fun i hi=>by
 refine ⟨[.int .u8 (bG y)[i]],fun j hj=> ?_,rfl⟩;have:j=0:=by simpa [Ty.size] using hj
 subst this;simp [Ty.size,hi]
theorem wo {T T':TypeId}{ty:TypeId}{s x:au}{e:bm}{sv xv:Value}(h:bD cx g st a w)(hw:dK st.mem e.new)(he:oA cx.P st.mem st.nx T T' s x=some e)(hc:aS e.cond)(hs:VR g st.mem (cx.safe g st.mem w) w s sv)(hx:VR g st.mem (cx.safe g st.mem w) w x xv):gd cx st a w (Builtin.append_ #[T,T'] ty #[sv,xv]) e:=by
 unfold oA at he;split at he;rename_i el y hu Fm;have LD:=jZ (g:=g) (m:=st.mem) (S:=cx.safe g st.mem w) (w:=w) hx;subst LD;split at he;rename_i i hi;cases hb:((cA cx.P T&&Nat.beq i.size 1)&&(Nat.ble i.bytes 32768&&i.zero.isSome)&&(i.zero.map fun z=>Nat.beq z.cells.size 1).getD false) with
 |false=>simp [hb] at he
 |true=>
  rw [hb] at he;simp only [cond_true] at he;simp only [Bool.and_eq_true] at hb;obtain ⟨⟨⟨hT,cY⟩,xX,RD⟩,Fg⟩:=hb;have cY:=aO cY;have xX:=gB xX;obtain ⟨z,hz⟩:=Option.isSome_iff_exists.1 RD;rw [hz] at Fg;have Fg:z.cells.size=1:=aO (by simpa using Fg);split at he;rename_i xs up yK;injection he with he;subst he;have hlen:xs.length+y.length≤av:=hc.1;unfold av at hlen;obtain ⟨oe,U6⟩:=Bh h.mem yK rfl hs;have rN:(xs.length+y.length)*i.bytes≤140737488355328:=by
   calc (xs.length+y.length)*i.bytes≤4294967296*32768:=Nat.mul_le_mul hlen xX
    _=140737488355328:=by decide
  have KX:(bG y).length=y.length:=by simp [bG]
  have xY:((bG y).map (Value.int .u8)).length=y.length:=by simp [bG]
  have grow: ∀(base:Option Addr) (cap:Nat) (olds:List Value),olds.length=xs.length*i.size→(xs.length=0∨ ∃ad,base=some ad∧ ∀j v,olds[j]? =some v→w.cell? (ad.add j)=some v)→
   dN (cx.safe g st.mem w) w (.int .u8) xs olds→cap<xs.length+y.length→(up=[]∨ ∃c lA,up=[(c,.gone)]∧lk c st.mem=some lA∧lA≠ .gone)→
   gd cx st a w (Builtin.append_ #[T,T'] ty #[.slice base xs.length cap,.string ⟨y.toArray⟩]) ⟨.one (.all st.nx),[(st.nx,.seq (.int .u8) (xs++bG y))],up,[List.length xs+List.length y≤av]⟩:=by
   intro base cap olds Fh ho fA hlt oe;have pL:=grownCap_ge w (xs.length+y.length) cap el;have Fi:=grownCap_le_maxLen w (xs.length+y.length) cap el (by unfold maxLen;omega);have hr:=rB (P:=cx.P) (ty:=ty) hu Fm hi hz Fh ho hlt rN (by omega);have df:aH [] w (w.drew.alloc (.cells (olds.toArray++((bG y).map (Value.int .u8)).toArray++Builtin.zeroCells z.cells (grownCap w (xs.length+y.length) cap el - (xs.length+y.length))) el)):=
    (aH.drew [] w).trans (aH.alloc _ _ _)
   have cm:=cg.new w.drew (olds.toArray++((bG y).map (Value.int .u8)).toArray++Builtin.zeroCells z.cells (grownCap w (xs.length+y.length) cap el - (xs.length+y.length))) el;refine ⟨_,_,hr,?_⟩;refine nk.newAt (G:=[]) (gk:=some w.heap.size) h hw ⟨rfl,rfl,rfl⟩ oe df (.inl rfl) (fun b hb=>by injection hb with hb;left;omega) (fun b hb=>by injection hb with hb;subst hb;exact cm.lt) (fun S' hS=>⟨_,cm,?_⟩) ?_;refine dw.kH rfl (dN.toR ?_);simp only [Array.toList_append];have h1:dN S' (w.drew.alloc (.cells (olds.toArray++((bG y).map (Value.int .u8)).toArray++Builtin.zeroCells z.cells (grownCap w (xs.length+y.length) cap el - (xs.length+y.length))) el)) (.int .u8) xs olds:=fun i hi=>by
    obtain ⟨es,k1,k2⟩:=fA i hi;exact ⟨es,k1,aR.ar hS _ es _ k2⟩
   exact dN.app h1 (by rw [Fh,cY];rfl) wm (by rw [xY,KX];simp [Ty.size]);refine ⟨grownCap w (xs.length+y.length) cap el,_,?_,by rw [List.length_append,KX];exact pL,cm,?_,Fi⟩;rw [List.length_append,KX];simp only [Array.size_append,List.size_toArray,size_zeroCells,Fg,Fh,xY,cY,Ty.size];omega
  rcases U6 with ⟨RE,ab,eb⟩|⟨c,ch,b,cap,arr,e1,e2,e3,e4,e5,hcap,cm,gC,zu,fA⟩
  subst eb;subst RE;by_cases hy:y.length=0;have Lh:y=[]:=List.eq_nil_of_length_eq_zero hy;subst Lh;refine ⟨_,_,rC (P:=cx.P) hu Fm hi,?_⟩;exact nk.newAt (G:=[]) (gk:=none) h hw ⟨rfl,rfl,rfl⟩ oe (aH.refl _ _) (.inl rfl) (fun b hb=>by cases hb) (fun b hb=>by cases hb) (fun S' hS=>rfl) ⟨ab,rfl⟩;exact grow ab 0 [] (by simp) (.inl rfl) (fun i hi=>by simp at hi) (by simp;omega) oe;subst e5;by_cases iU:xs.length+y.length≤cap;have pS:(xs.length+y.length)*i.size≤arr.size:=by
   rw [cY];have:cap*(Ty.int .u8).size≤arr.size:=gC;simp only [Ty.size] at this;omega
  obtain ⟨w',aA,hr,iE,dB,dS,db⟩:=yd (P:=cx.P) (ty:=ty) hu Fm hi cY cm iU pS;refine ⟨_,_,hr,?_⟩;refine nk.newAt (G:=[b]) (gk:=some b) h hw ⟨rfl,rfl,rfl⟩ oe dS (.inr ⟨c,b,ch,e1,e2,e3,e4,rfl⟩) (fun b' oP=>by injection oP with oP;subst oP;right;simp) (fun b' oP=>by injection oP with oP;subst oP;exact iE.lt) (fun S' hS=>⟨aA,iE,?_⟩) ?_;refine dw.kH rfl (dN.toR ?_);rw [dB,cY];have h1:dN S' w' (.int .u8) xs (arr.toList.take (xs.length*1)):=fun i hi=>by
   obtain ⟨es,k1,k2⟩:=fA i hi;exact ⟨es,k1,aR.ar hS _ es _ k2⟩
  refine dN.app h1 ?_ wm (by rw [xY,KX];simp [Ty.size]);rw [cY] at pS;simp [Ty.size];omega;refine ⟨cap,aA,by rw [List.length_append,KX],by rw [List.length_append,KX];exact iU,iE,?_,zu⟩;have:aA.size=arr.size:=by
   rw [←Array.length_toList,dB];rw [cY] at pS⊢;simp only [List.length_append,List.length_take,List.length_drop,xY,Array.length_toList];omega
  rw [this];exact gC;have hle:xs.length*1≤arr.size:=by
   have:cap*(Ty.int .u8).size≤arr.size:=gC;simp only [Ty.size] at this;omega
  exact grow _ cap (arr.toList.take (xs.length*1)) (by rw [cY];simp;omega) (.inr ⟨_,rfl,fun j v hj=>by
   rw [aX,cm.cell];rw [List.getElem?_take] at hj;split at hj;simpa using hj;cases hj⟩) fA (by omega) oe
  cases he
 cases he;cases he
theorem Bv {lv:Option Value}{l h q:Int}{k1 k2:IntKind}{len cap:Nat}(hl:(lv=none∧l=0)∨ ∃k,lv=some (.int k l))(h0:0≤l)(h1:l≤h)(h2:h≤q)(h3:q≤(cap:Int)):
 (Instr.sliceBounds true len cap lv (some (.int k1 h)) (some (.int k2 q))).run P w= .ok (l.toNat,h.toNat,q.toNat) w:=by
 have e1:0≤q:=by omega
 have e2:0≤h:=by omega
 have e3:h≤((q.toNat:Nat):Int):=by omega
 have e4:l≤((h.toNat:Nat):Int):=by omega
 have e5:h≤max q 0:=by omega
 have e6:l≤max h 0:=by omega
 rcases hl with ⟨rfl,rfl⟩|⟨k,rfl⟩
 simp [Instr.sliceBounds,Instr.sliceBound,asIntOf,e1,e2,h3,e5];simp [Instr.sliceBounds,Instr.sliceBound,asIntOf,h0,e1,e2,h3,e5,e6]
theorem ye {T:TypeId}{x:au}{lo hi mx:Option au}{e:bm}{xa:Value}{lv hv qv:Option Value}(h:zN P T x lo hi mx=some e)(hc:aS e.cond)(hx:VR g m S w x xa)(HP:OR g m S w lo lv)(HQ:OR g m S w hi hv)(Fi:OR g m S w mx qv):aG P g m S w (Instr.sliceAt T xa lv hv qv) e:=by
 unfold zN at h;split at h;rename_i el t xs hu;split at h;rename_i l k2 h' k q hl;cases hb:(cc P el==some t.size) with
 |false=>simp [hb] at h
 |true=>
  rw [hb] at h;simp only [cond_true] at h;have hs:cc P el=some t.size:=by simpa using hb
  obtain ⟨he,lZ⟩:=bU h;rw [lZ] at hc;obtain ⟨⟨h0,h1,h2,h3⟩,_⟩:=hc;have h0:(0:Int)≤(l:Int):=h0;have h1: @LE.le Int _ l h':=h1;have h2: @LE.le Int _ h' q:=h2;have h3: @LE.le Int _ q ((List.length xs:Nat):Int):=h3;have dB:=qD hl HP;obtain ⟨a,cap,e1,hcap,lr⟩:=(hx:aR S w (.sl t) [xa] xs);have Ln:xa= .slice a (List.length xs) cap:=by simpa using e1
  subst Ln;cases qv with
  |none=>exact Fi.elim
  |some qv=>
   cases hv with
   |none=>exact HQ.elim
   |some hv=>
    have hq:=dx (g:=g) (m:=m) (S:=S) (w:=w) Fi;subst hq;have hh:=dx (g:=g) (m:=m) (S:=S) (w:=w) HQ;subst hh;have fS:=Bv (P:=P) (w:=w) (k1:=k2) (k2:=k) (len:=List.length xs) (cap:=cap) dB h0 h1 h2 (by omega);refine aG.mk he (r:= .slice (if q.toNat=l.toNat then a else a.map (·.add (l.toNat*t.size))) (h'.toNat - l.toNat) (q.toNat - l.toNat)) ?_ ?_;simp [Instr.sliceAt,Instr.slice,run_underlying hu,fS,bw hs];have hlen:List.length (cut xs l h')=h'.toNat - l.toNat:=by unfold cut;simp;omega
    refine ⟨(if q.toNat=l.toNat then a else a.map (·.add (l.toNat*t.size))),q.toNat - l.toNat,by rw [hlen],by rw [hlen];omega,fun j hj=> ?_⟩;rw [hlen] at hj;obtain ⟨ad,es,ea,hS,aM,bf⟩:=lr (l.toNat+j) (by omega);subst ea;rw [if_neg (by omega)];refine ⟨ad.add (l.toNat*t.size),es,rfl,by rw [dM];exact hS,fun k u hu=> ?_,?_⟩;rw [add_add,←Nat.add_assoc,←Nat.add_mul];exact aM k u hu;rw [Fc (by omega) (by omega)];exact bf
 cases h;cases h
end
end Go.Ide
namespace Go.Ide
def oY (P:Program)(nx:Nat)(T:TypeId)(t:Ty)(len:Nat)(parts:List (Nat×au)):Option bm:=
 match P.underlying T with
 |some (.slice e)=>bif (cc P e==some t.size&&(((P.info? e).bind (·.zero)).map fun z=>Nat.beq z.cells.size t.size)==some true)&&(Nat.beq parts.length len&&Nat.ble (len*t.size) 65536) then
  (match tU t 0 parts with
  |some xs=>some ⟨.one (.aB (.sl t) xs),[],[],[]⟩
  |none=>none) else none
 |_=>none
section
variable {cx:Cx} {g:GM} {st:St} {a:Act} {w w':World}
theorem nk.bl {t:Ty}{xs:List t.D}{arr:Array Value}{el:TypeId}{e:bm}(h:bD cx g st a w)(he:e.new=[]∧e.jU=[]∧e.val= .one (.aB (.sl t) xs))(fA:dN (cx.safe g st.mem w) w t xs arr.toList):
 nk cx st a e (.slice (some ⟨w.heap.size,0,none⟩) xs.length xs.length) (w.alloc (.cells arr el)):=by
 refine ⟨g,?_,?_⟩;rw [he.1,he.2.1];exact h.grow (aH.alloc _ _ _);rw [he.1,he.2.1,he.2.2];have uG:(w.alloc (.cells arr el)).heap.size=w.heap.size+1:=by simp
 have bS: ∀b,cx.safe g st.mem w b→cx.safe g st.mem (w.alloc (.cells arr el)) b:=fun b ⟨h1,h2,h3⟩=>⟨by rw [uG];omega,h2,h3⟩;have j6:cx.safe g st.mem (w.alloc (.cells arr el)) w.heap.size:=by
  refine ⟨by rw [uG];omega,fun hb=> ?_,?_⟩;have:=h.ar.size;omega;rintro ⟨k,p,ch,hk,hn,hg⟩;have:=h.lt k p ch _ hk hn hg;omega
 refine ⟨some ⟨w.heap.size,0,none⟩,xs.length,rfl,Nat.le_refl _,fun i hi=> ?_⟩;obtain ⟨es,k1,k2⟩:=fA.toR i hi;refine ⟨⟨w.heap.size,0,none⟩,es,rfl,j6,fun j v hj=> ?_,aR.ar (fun b hb=>⟨bS b hb,RowKit.Below.heap_alloc w _ b hb.1⟩) t es _ k2⟩;rw [aX,(cg.new w arr el).cell];simpa using k1 j v hj
theorem rT {T:TypeId}{t:Ty}{len:Nat}{parts:List (Nat×au)}{vparts:Array (Nat×Value)}{e:bm}(h:bD cx g st a w)(he:oY cx.P st.nx T t len parts=some e)(hp:aK (fun (p:Nat×au) (q:Nat×Value)=>p.1=q.1∧VR g st.mem (cx.safe g st.mem w) w p.2 q.2) parts vparts.toList):gd cx st a w (Instr.buildSlice T len vparts) e:=by
 unfold oY at he;split at he;rename_i el hu;cases hb:((cc cx.P el==some t.size&&(((cx.P.info? el).bind (·.zero)).map fun z=>Nat.beq z.cells.size t.size)==some true)&&(Nat.beq parts.length len&&Nat.ble (len*t.size) 65536)) with
 |false=>rw [hb] at he;cases he
 |true=>
  rw [hb] at he;simp only [cond_true] at he;simp only [Bool.and_eq_true,beq_iff_eq] at hb;obtain ⟨⟨hs,hz⟩,hn,Lq⟩:=hb;have hn:=aO hn;have Lq:=gB Lq;subst hn;split at he;rename_i xs hx;injection he with he;subst he;cases hi:cx.P.info? el with
  |none=>simp [cc,hi] at hs
  |some i=>
   rw [hi] at hz;simp only [Option.bind_some] at hz;cases zE:i.zero with
   |none=>simp [zE] at hz
   |some z=>
    rw [zE] at hz;have hz:Nat.beq z.cells.size t.size=true:=by simpa using hz
    have hz:=aO hz;let base:Array Value:=(Array.range (parts.length*t.size)).map fun k=>(if parts.length*t.size=0 then #[] else z.cells)[k%(if parts.length*t.size=0 then #[] else z.cells).size]!;have QS:base.size=parts.length*t.size:=by simp [base]
    obtain ⟨aA,news,e1,e2,e3,e4,e5⟩:=rO (g:=g) (m:=st.mem) (S:=cx.safe g st.mem w) (w:=w) (arr:=base) hx hp (by rw [QS,Nat.zero_add];exact Nat.le_refl _);have fS:(Instr.buildSlice T parts.length vparts).run cx.P w= .ok (.slice (some ⟨w.heap.size,0,none⟩) parts.length parts.length) (w.alloc (.cells aA el)):=by
     have Dv: ¬(16777216<parts.length*t.size):=by omega
     by_cases h0:parts.length*t.size=0;have Fj:Instr.fill (fun j=>some (j*t.size,t.size)) ((Array.range (parts.length*t.size)).map fun k=>(#[]:Array Value)[k%(#[]:Array Value).size]!) vparts.toList=some aA:=by
      have:=e1;simp only [base,h0,if_true] at this;rw [h0];exact this
     simp only [Instr.buildSlice,Sem.run_bind,run_underlying hu,Result.andThen_ok,bw hs];simp [h0,Dv] at Fj⊢;simp [Fj,newRow];have Fj:Instr.fill (fun j=>some (j*t.size,t.size)) ((Array.range (parts.length*t.size)).map fun k=>z.cells[k%z.cells.size]!) vparts.toList=some aA:=by
      have:=e1;simp only [base,h0,if_false] at this;exact this
     simp only [Instr.buildSlice,Sem.run_bind,run_underlying hu,Result.andThen_ok,bw hs];simp [h0,Dv,zeroValue,typeInfo,hi,zE] at Fj⊢;simp [Fj,newRow]
    refine ⟨_,_,fS,?_⟩;have hlen:aA.toList=news:=by
     rw [e5,←e4];simp only [Nat.zero_mul,Nat.zero_add,List.take_zero,List.nil_append];rw [List.drop_of_length_le (by rw [Array.length_toList,QS];exact Nat.le_refl _)];simp
    rw [e4];exact nk.bl h ⟨rfl,rfl,rfl⟩ (by rw [hlen];exact e3)
  cases he
 cases he
end
def LF:List Bool→List RV→List RV
 |true::fs,r::rs=>⟨false,r.t.er,A0 r.x⟩::LF fs rs
 |false::fs,r::rs=>r::LF fs rs
 |[],rs=>rs
 |_,[]=>[]
theorem eI.rep {S S':Nat→Prop}{w:World}(hS: ∀b,S b→S' b){t:Ty}{cs:List Value}{xs:List t.D}{A:List (List Nat→Option Nat)}(hA: ∀γ,γ∈A→ ∀p b,γ p=some b→S' b)(h:eI S w t cs xs A):aR S' w (.sl t) cs xs:=by
 rcases h with ⟨_,rfl,a,e⟩|⟨v,γ,eA,e,b,cap,arr,h0,ev,h1,h2,h3,h4,h5,h6⟩
 exact ⟨a,0,e,Nat.le_refl _,fun i hi=>by simp at hi⟩;subst e;subst ev;have hγ: ∀p b,γ p=some b→S' b:=hA γ (by rw [eA];simp);refine ⟨some ⟨b,0,none⟩,cap,rfl,h1,fun i hi=> ?_⟩;obtain ⟨es,k1,k2⟩:=h6.data hS hγ i hi;refine ⟨⟨b,0,none⟩,es,rfl,hγ [] b h0,fun j v hj=> ?_,k2⟩;rw [aX,h3.cell];simpa using k1 j v hj
theorem cy.rep {S S':Nat→Prop}{w:World}(hS: ∀b,S b→S' b): ∀(t:Ty) {cs:List Value} {x:t.D} {A:List (List Nat→Option Nat)},(∀γ,γ∈A→ ∀p b,γ p=some b→S' b)→cy S w t cs x A→aR S' w t cs x
 | .int _,_,_,_,_,h=>h.2
 | .cD _,_,_,_,_,h=>h.2
 | .bool,_,_,_,_,h=>h.2
 | .str,_,_,_,_,h=>h.2
 | .pair a b,_,_,_,hA,⟨c1,c2,A1,A2,e,eA,h1,h2⟩=>by
  subst e;subst eA;exact ⟨c1,c2,rfl,cy.rep hS a (fun γ hγ=>hA γ (List.mem_append.2 (.inl hγ))) h1,cy.rep hS b (fun γ hγ=>hA γ (List.mem_append.2 (.inr hγ))) h2⟩
 | .st t,_,_,_,hA,h=>cy.rep hS t (cs:=_) hA h
 | .sl t,_,_,_,hA,h=>eI.rep hS hA h
 | .bx t,_,xs,_,hA,⟨γ,b,arr,eA,e,h0,h1,h2⟩=>by
  subst e;have hγ: ∀p b,γ p=some b→S' b:=hA γ (by rw [eA];simp);refine ⟨⟨b,0,none⟩,rfl,fun i hi=> ?_⟩;obtain ⟨es,k1,k2⟩:=h2.data hS hγ i hi;refine ⟨es,hγ [] b h0,fun j v hj=> ?_,k2⟩;rw [aX,h1.cell];simpa using k1 j v hj
 | .own t,_,_,_,hA,h=>eI.rep hS hA h
 | .cl f t,cs,x,_,_,h=>aR.ar (fun b hb=>⟨hS b hb,rfl⟩) (.cl f t) cs x h.2
theorem wc.cases {S:Nat→Prop}{w:World}{r:RV}{v:Value}{F:List (List Nat→Option Nat)}(h:wc S w r v F):(r.fresh=true∧ ∃cs,cE r.t cs v∧cy S w r.t cs r.x F)∨(r.fresh=false∧F=[]∧ ∃cs,cE r.t cs v∧aR S w r.t cs r.x):=by
 unfold wc at h;cases hf:r.fresh with
 |true=>rw [hf] at h;exact .inl ⟨rfl,h⟩
 |false=>rw [hf] at h;exact .inr ⟨rfl,h⟩
theorem wc.fr {S:Nat→Prop}{w:World}{r:RV}{v:Value}{F:List (List Nat→Option Nat)}(hf:r.fresh=true)(h: ∃cs,cE r.t cs v∧cy S w r.t cs r.x F):wc S w r v F:=by
 unfold wc;rw [hf];exact h
theorem wc.im {S:Nat→Prop}{w:World}{r:RV}{v:Value}(hf:r.fresh=false)(h: ∃cs,cE r.t cs v∧aR S w r.t cs r.x):wc S w r v []:=by
 unfold wc;rw [hf];exact ⟨rfl,h⟩
theorem wc.up {S S':Nat→Prop}{w:World}(hS: ∀b,S b→S' b){r:RV}{v:Value}{F:List (List Nat→Option Nat)}(h:wc S w r v F):wc S' w r v F:=by
 rcases h.cases with ⟨hf,cs,h1,h2⟩|⟨hf,rfl,cs,h1,h2⟩
 exact wc.fr hf ⟨cs,h1,cy.mono hS _ h2⟩;exact wc.im hf ⟨cs,h1,aR.ar (fun b hb=>⟨hS b hb,rfl⟩) _ _ _ h2⟩
theorem lL.up {S S':Nat→Prop}{w:World}(hS: ∀b,S b→S' b): ∀{rs:List RV} {vs:List Value} {F:List (List Nat→Option Nat)},lL S w rs vs F→lL S' w rs vs F
 |[],[],_,h=>h
 |_::_,_::_,_,⟨F1,F2,e,h1,h2⟩=>⟨F1,F2,e,h1.up hS,lL.up hS h2⟩
 |[],_::_,_,h=>h.elim
 |_::_,[],_,h=>h.elim
def R3 (A A':List (List Nat→Option Nat))(b:Nat):Prop:=(∃γ,γ∈A∧ ∃p,γ p=some b)∧ ¬ ∃γ,γ∈A'∧ ∃p,γ p=some b
theorem ox.app {A1 A2:List (List Nat→Option Nat)}(h:ox (A1++A2)):ox A1∧ox A2∧ ∀γ γ' p q b,γ∈A1→γ'∈A2→γ p=some b→γ' q=some b→False:=by
 obtain ⟨h1,h2⟩:=h;obtain ⟨k1,k2,k3⟩:=List.pairwise_append.1 h1;exact ⟨⟨k1,fun γ hγ=>h2 γ (List.mem_append.2 (.inl hγ))⟩,⟨k2,fun γ hγ=>h2 γ (List.mem_append.2 (.inr hγ))⟩,fun γ γ' p q b m1 m2 e1 e2=>k3 γ m1 γ' m2 p q b e1 e2⟩
theorem Bw {t:Ty}{cs:List Value}{v:Value}(h:cE t cs v):cE t.er cs v:=by
 cases t<;>exact h
theorem lL.xQ {w:World}: ∀{fs:List Bool} {rs:List RV} {vs:List Value} {A:List (List Nat→Option Nat)} {S:Nat→Prop},lL S w rs vs A→ox A→ ∃A',A'.Sublist A∧ ∀S':Nat→Prop,(∀b,S b→S' b)→(∀b,R3 A A' b→S' b)→lL S' w (LF fs rs) vs A':=by
 intro fs;induction fs with
 |nil=>
  intro rs vs A S h _;exact ⟨A,List.Sublist.refl _,fun S' hS _=>by cases rs<;>exact lL.up hS h⟩
 |cons f fs ih=>
  intro rs vs A S h lJ;cases rs with
  |nil=>cases f<;>exact ⟨A,List.Sublist.refl _,fun S' hS _=>lL.up hS h⟩
  |cons r rs=>
   cases vs with
   |nil=>exact h.elim
   |cons v vs=>
    obtain ⟨A1,A2,e,h1,h2⟩:=h;subst e;obtain ⟨hn1,rk,R4⟩:=lJ.app;obtain ⟨A',hs,hk⟩:=ih h2 rk;cases f with
    |true=>
     refine ⟨A',hs.trans (List.sublist_append_right _ _),fun S' hS hF=>⟨[],A',rfl,?_,hk S' hS fun b ⟨⟨γ,hγ,p,hp⟩,hn⟩=>hF b ⟨⟨γ,List.mem_append.2 (.inr hγ),p,hp⟩,hn⟩⟩⟩;rcases h1.cases with ⟨_,cs,q1,q2⟩|⟨_,_,cs,q1,q2⟩
     exact wc.im (r:=⟨false,r.t.er,A0 r.x⟩) rfl ⟨cs,Bw q1,oS _ _ _ (cy.rep hS r.t (fun γ hγ p b hp=>hF b ⟨⟨γ,List.mem_append.2 (.inl hγ),p,hp⟩,fun ⟨γ',Oi,q,hq⟩=>R4 γ γ' p q b hγ (hs.subset Oi) hp hq⟩) q2)⟩;exact wc.im (r:=⟨false,r.t.er,A0 r.x⟩) rfl ⟨cs,Bw q1,oS _ _ _ (aR.ar (fun b hb=>⟨hS b hb,rfl⟩) r.t cs _ q2)⟩
    |false=>
     refine ⟨A1++A',(List.Sublist.refl A1).append hs,fun S' hS hF=>⟨A1,A',rfl,h1.up hS,hk S' hS fun b ⟨⟨γ,hγ,p,hp⟩,hn⟩=>hF b ⟨⟨γ,List.mem_append.2 (.inr hγ),p,hp⟩,fun ⟨γ',Oi,q,hq⟩=> ?_⟩⟩⟩;rcases List.mem_append.1 Oi with hm|hm
     exact R4 γ' γ q p b hm hγ hq hp;exact hn ⟨γ',hm,q,hq⟩
theorem fV.up {S S':Nat→Prop}{w:World}(hS: ∀b,S b→S' b): ∀{as:List Arg} {vs:List Value} {Fs:List (List (List Nat→Option Nat))} {os:List TD},fV S w as vs Fs os→fV S' w as vs Fs os
 |[],[],[],[],h=>h
 | .own t x::as,v::vs,F::Fs,o::os,⟨⟨e,cs,h1,h2,h3⟩,h⟩=>⟨⟨e,cs,h1,cy.mono hS t h2,h3⟩,fV.up hS h⟩
 | .bl _ _::as,_::vs,_::Fs,os,h=>fV.up (as:=as) (vs:=vs) (Fs:=Fs) (os:=os) hS h
 | .gW _ _::as,_::vs,_::Fs,os,h=>fV.up (as:=as) (vs:=vs) (Fs:=Fs) (os:=os) hS h
 | .fn _::as,_::vs,_::Fs,os,h=>fV.up (as:=as) (vs:=vs) (Fs:=Fs) (os:=os) hS h
 | .lK _ _ _::as,_::vs,_::Fs,os,h=>fV.up (as:=as) (vs:=vs) (Fs:=Fs) (os:=os) hS h
 | .mv _ _::as,_::vs,_::Fs,os,h=>fV.up (as:=as) (vs:=vs) (Fs:=Fs) (os:=os) hS h
 | .nl::as,_::vs,_::Fs,os,h=>fV.up (as:=as) (vs:=vs) (Fs:=Fs) (os:=os) hS h
 |[],[],[],_::_,h=>h.elim
 |[],[],_::_,_,h=>h.elim
 |[],_::_,_,_,h=>h.elim
 | .own _ _::_,[],_,_,h=>h.elim
 | .own _ _::_,_::_,[],_,h=>h.elim
 | .own _ _::_,_::_,_::_,[],h=>h.elim
 | .bl _ _::_,[],_,_,h=>h.elim
 | .bl _ _::_,_::_,[],_,h=>h.elim
 | .gW _ _::_,[],_,_,h=>h.elim
 | .gW _ _::_,_::_,[],_,h=>h.elim
 | .fn _::_,[],_,_,h=>h.elim
 | .lK _ _ _::_,[],_,_,h=>h.elim
 | .fn _::_,_::_,[],_,h=>h.elim
 | .lK _ _ _::_,_::_,[],_,h=>h.elim
 | .mv _ _::_,[],_,_,h=>h.elim
 | .mv _ _::_,_::_,[],_,h=>h.elim
 | .nl::_,[],_,_,h=>h.elim
 | .nl::_,_::_,[],_,h=>h.elim
def Bx:List Arg→Bool
 |[]=>true
 | .mv _ _::_=>false
 |_::as=>Bx as
theorem tQ.none {b:Nat}: ∀{as:List Arg} {Fs:List (List (List Nat→Option Nat))},Bx as=true→ ¬tQ b as Fs
 |[],_,_,h=>by simp [tQ] at h
 |_::_,[],_,h=>by simp [tQ] at h
 |a::as,F::Fs,h,hb=>by
  cases a with
  |mv t x=>cases h
  |_=>exact tQ.none (as:=as) (Fs:=Fs) h hb
theorem CallOK.xQ {P:Program}{f:FuncId}{args:List Arg}{rs:List RV}{outs:List TD}(fs:List Bool)(hm:Bx args=true)(h:CallOK P f args rs outs):CallOK P f args (LF fs rs) outs:=by
 refine ⟨h.1,fun w S vals As F hB hI h1 h3 h4 hgl=>(h.2 w S vals As F hB hI h1 h3 h4 hgl).mono fun e w' ⟨v,A,F',e1,iT,lJ,⟨vs,hr,hv⟩,hF,hk,ho⟩=> ?_⟩;obtain ⟨A',hs,Uh⟩:=hr.xQ (fs:=fs) lJ;obtain ⟨F2,Vq⟩:=lB (n:=w'.heap.size) (A:=A') (fun γ hγ p b hp=>(hF b ((iT b).2 ⟨γ,hs.subset hγ,p,hp⟩)).2);have Gy: ∀b,b∈F2→b∈F':=fun b hb=>by
  obtain ⟨γ,hγ,hp⟩:=(Vq b).1 hb;exact (iT b).2 ⟨γ,hs.subset hγ,hp⟩
 have Na: ∀b,hZ S w w' F' b→hZ S w w' F2 b:=fun b ⟨q1,q2,q3⟩=>⟨q1,q2,fun hm=>q3 (Gy b hm)⟩;refine ⟨v,A',F2,e1,Vq,⟨lJ.1.sublist hs,fun γ hγ=>lJ.2 γ (hs.subset hγ)⟩,⟨vs,Uh _ Na fun b ⟨hb,hn⟩=> ?_,hv⟩,fun b hb=>hF b (Gy b hb),hk,ho.up Na⟩;have iE:=(iT b).2 hb;exact ⟨(hF b iE).2,fun hlt=>by
  rcases (hF b iE).1 with q|q
  omega;exact absurd q (tQ.none hm),fun hm=>hn ((Vq b).1 hm)⟩
end Go.Ide
namespace Go.Ide
def wq (P:Program)(nx:Nat)(T T':TypeId)(t:Ty)(s x:au):Option bm:=
 match P.underlying T,P.underlying T',s,x with
 |some (.slice e),some (.int _),.one .az,.one (.aB (.int _) n)=>(match P.info? e,E6 P e t with
  |some i,some z=>bif Nat.beq i.size t.size&&Nat.ble i.bytes 32768 then
   some ⟨.one (.all nx),[(nx,.seq t (List.replicate (Int.toNat n) z))],[],[(0:Int)≤n∧n≤4294967296]⟩ else none
  |_,_=>none)
 |_,_,_,_=>none
section
variable {cx:Cx} {g:GM} {st:St} {a:Act} {w:World} {P:Program}
theorem yf {t u ty e:TypeId}{i:TypeInfo}{z:Value}{ku k:IntKind}(ht:P.underlying t=some (.slice e))(hu:P.underlying u=some (.int ku))(hi:P.info? e=some i)(hz:i.zero=some z){base:Option Addr}{n:Nat}(hn:0<n)(cY:0<i.size)(hle:n≤4294967296)(xX:i.bytes≤32768):
 (Builtin.append_ #[t,u] ty #[.slice base 0 0,.int k (n:Int)]).run P w=
  .ok (.slice (some ⟨w.heap.size,0,none⟩) n (grownCap w n 0 e))
   (w.drew.alloc (.cells (Builtin.zeroCells z.cells n++Builtin.zeroCells z.cells (grownCap w n 0 e - n)) e)):=by
 have hb:n*i.bytes≤140737488355328:=by
  calc n*i.bytes≤4294967296*32768:=Nat.mul_le_mul hle xX
   _=140737488355328:=by decide
 have wl:IntKind.i64.wrap (n:Int)=n:=by rw [IntKind.wrap_i64];omega
 have n0: ¬((n:Int)<0):=by omega
 have oP: ¬(281474976710656<(n:Int)*(i.bytes:Int)):=by
  rw [←Int.natCast_mul];omega
 have iU: ¬(n≤0):=by omega
 have Ig: ¬(n=0):=by omega
 have HW: ¬(9223372036854775807<(n:Int)):=by omega
 have Xz:=growslice_fits (old:=0) (by omega) hb;have HX: ¬(281474976710656<Builtin.nextslicecap n 0*i.bytes):=by omega
 have cX: ¬(n=0∨i.size=0):=by omega
 have By: ¬(n*i.size=0):=by rw [Nat.mul_eq_zero];exact cX
 have Rw:(Builtin.firstCells i.size 0 (.slice base 0 0)).run P w.drew= .ok #[] w.drew:=by
  cases base<;>simp [Builtin.firstCells,loadCells,loadCellsFrom]
 simp [Builtin.append_,run_underlying ht,run_underlying hu,sizeOf,typeInfo,zeroValue,hi,hz,asInt,asIntOf,wl,n0,oP,Ig,HW,HX,cX,By,Question.forced,Rw,newRow,grownCap]
theorem yg {t u ty e:TypeId}{i:TypeInfo}{ku k:IntKind}(ht:P.underlying t=some (.slice e))(hu:P.underlying u=some (.int ku))(hi:P.info? e=some i){base:Option Addr}:
 (Builtin.append_ #[t,u] ty #[.slice base 0 0,.int k 0]).run P w= .ok (.slice base 0 0) w:=by
 have wl:IntKind.i64.wrap 0=0:=by rw [IntKind.wrap_i64];omega
 cases base<;>simp [Builtin.append_,run_underlying ht,run_underlying hu,sizeOf,typeInfo,hi,asInt,asIntOf,wl,storeCells]
theorem wu {T T':TypeId}{ty:TypeId}{t:Ty}{s x:au}{e:bm}{sv xv:Value}(h:bD cx g st a w)(hw:dK st.mem e.new)(he:wq cx.P st.nx T T' t s x=some e)(hc:aS e.cond)(hs:VR g st.mem (cx.safe g st.mem w) w s sv)(hx:VR g st.mem (cx.safe g st.mem w) w x xv):gd cx st a w (Builtin.append_ #[T,T'] ty #[sv,xv]) e:=by
 unfold wq at he;split at he;rename_i el ku k n hu Fm;have LD:=dx (g:=g) (m:=st.mem) (S:=cx.safe g st.mem w) (w:=w) hx;subst LD;obtain ⟨ab,Oj⟩:=hs;subst Oj;split at he;rename_i i z0 hi pG;cases hb:(Nat.beq i.size t.size&&Nat.ble i.bytes 32768) with
 |false=>simp [hb] at he
 |true=>
  rw [hb] at he;simp only [cond_true] at he;simp only [Bool.and_eq_true] at hb;have cY:=aO hb.1;have xX:=gB hb.2;injection he with he;subst he;obtain ⟨⟨h0,h1⟩,_⟩:=hc;obtain ⟨q,rfl⟩:=Int.eq_ofNat_of_zero_le (show (0:Int)≤n from h0);have hq:q≤4294967296:=by have:((q:Nat):Int)≤4294967296:=h1;omega
  unfold E6 at pG;rw [hi] at pG;cases zE:i.zero with
  |none=>simp [zE] at pG
  |some z=>
   simp only [zE] at pG;have bf: ∀(S':Nat→Prop) (w':World) (γ:List Nat→Option Nat),(∀p,γ p=none)→cf S' w' t γ 0 z.cells.toList z0:=fun S' w' γ hγ=>by
    split at pG;rename_i nm;obtain ⟨cs,hval,bf⟩:=mF (g:=⟨fun _ _=>none⟩) (m:=[]) (S:=S') (S2:=S') (fun _ h=>h) gr.nil pG (sM (w:=w') z);rw [pT hval bf];exact cf.pN t nm bf;split at pG;rename_i jz;split at pG;rename_i x hx;injection pG with pG;subst pG;obtain ⟨v1,v2,e,h1,h2⟩:=ow (g:=⟨fun _ _=>none⟩) (m:=[]) (S:=S') (w:=w') (γ:=γ) (o:=0) t hx (kK z jz) hγ;have:v2=[]:=by cases v2 with|nil=>rfl|cons=>exact h2.elim
    subst this;rw [List.append_nil] at e;rw [e];exact h1;cases pG;cases pG
   have sU:z.cells.size=t.size:=by rw [←Array.length_toList];exact cf.len t (bf (fun _=>True) w (fun _=>none) (fun _=>rfl))
   have XB:=t.size_pos;simp only [Int.toNat_natCast];by_cases Vr:q=0;subst Vr;refine ⟨_,_,yg (P:=cx.P) hu Fm hi,?_⟩;exact nk.newAt (G:=[]) (up:=[]) (gk:=none) h hw ⟨rfl,rfl,rfl⟩ (.inl rfl) (aH.refl _ _) (.inl rfl) (fun b hb=>by cases hb) (fun b hb=>by cases hb) (fun S' hS=>rfl) ⟨ab,rfl⟩;have pL:=grownCap_ge w q 0 el;have Fi:=grownCap_le_maxLen w q 0 el (by unfold maxLen;omega);refine ⟨_,_,yf (P:=cx.P) hu Fm hi zE (by omega) (by omega) hq xX,?_⟩;have cm:=cg.new w.drew (Builtin.zeroCells z.cells q++Builtin.zeroCells z.cells (grownCap w q 0 el - q)) el;refine nk.newAt (G:=[]) (up:=[]) (gk:=some w.heap.size) h hw ⟨rfl,rfl,rfl⟩ (.inl rfl) ((aH.drew [] w).trans (aH.alloc _ _ _)) (.inl rfl) (fun b hb=>by injection hb with hb;left;omega) (fun b hb=>by injection hb with hb;subst hb;exact cm.lt) (fun S' hS=>⟨_,cm,?_⟩) ?_;intro i' vw;simp only [List.length_replicate] at vw;refine ⟨z.cells.toList,fun j u hj=> ?_,?_⟩;have Fe:j<t.size:=by rw [←sU,←Array.length_toList];exact (List.getElem?_eq_some_iff.1 hj).1
   have hlt:i'*t.size+j<q*t.size:=by
    have:(i'+1)*t.size≤q*t.size:=Nat.mul_le_mul_right _ (by omega);rw [Nat.add_mul] at this;omega
   have Gn:(i'*t.size+j)%t.size=j:=by rw [Nat.add_comm,Nat.mul_comm,Nat.add_mul_mod_self_left];exact Nat.mod_eq_of_lt Fe
   rw [Array.getElem?_append_left (by rw [size_zeroCells,sU];exact hlt)];have XJ:j<z.cells.size:=by rw [sU];exact Fe
   simp only [Builtin.zeroCells,sU,Array.getElem?_map,Array.getElem?_range,hlt,if_true,Option.map_some,Gn];rw [getElem!_pos z.cells j XJ,←Array.getElem?_eq_getElem XJ,←Array.getElem?_toList];exact hj;simp only [List.getElem_replicate];exact bf _ _ _ (fun p=>rfl);refine ⟨grownCap w q 0 el,_,by simp,by simpa using pL,cm,?_,Fi⟩;simp only [Array.size_append,size_zeroCells,sU,←Nat.add_mul];exact Nat.mul_le_mul_right _ (by omega)
 cases he;cases he
end
end Go.Ide
namespace Go.Ide
theorem aK.DI {α β:Type}{R:α→β→Prop}: ∀{as:List α} {bs:List β},as.length=bs.length→(∀(j:Nat) (a:α) (b:β),as[j]? =some a→bs[j]? =some b→R a b)→aK R as bs
 |[],[],_,_=>trivial
 |a::as,b::bs,hl,h=>⟨h 0 a b rfl rfl,aK.DI (by simpa using hl) fun j a' b' h1 h2=>h (j+1) a' b' (by simpa using h1) (by simpa using h2)⟩
 |[],_::_,hl,_=>by simp at hl
 |_::_,[],hl,_=>by simp at hl
theorem aK.imp_mem {α β:Type}{R R':α→β→Prop}: ∀{as:List α} {bs:List β},(∀a,a∈as→ ∀b,R a b→R' a b)→aK R as bs→aK R' as bs
 |[],[],_,_=>trivial
 |a::as,b::bs,h,hr=>⟨h a (by simp) b hr.1,aK.imp_mem (fun a' YL=>h a' (List.mem_cons_of_mem _ YL)) hr.2⟩
 |[],_::_,_,hr=>hr.elim
 |_::_,[],_,hr=>hr.elim
theorem sY: ∀(l:List Chunk) (n:Nat),(aZ n l).map Prod.fst=List.range' n l.length
 |[],_=>rfl
 |_::r,n=>by simp [aZ,sY r (n+1),List.range'_succ]
theorem oB: ∀(t:Ty) (x:t.D) (n o:Nat),(dn t x n).2.length=(bh t o).length
 | .pair a b,x,n,o=>by simp only [dn,bh,List.length_append,oB a _ _ o,oB b _ _ (o+a.size)]
 | .st t,x,n,o=>oB t x n o
 | .own _,_,_,_=>rfl
 | .int _,_,_,_=>rfl
 | .cD _,_,_,_=>rfl
 | .bool,_,_,_=>rfl
 | .str,_,_,_=>rfl
 | .sl _,_,_,_=>rfl
 | .bx _,_,_,_=>rfl
 | .cl _ _,_,_,_=>rfl
theorem jm: ∀(t:Ty) (o q:Nat),q∈bh t o→o≤q∧q<o+t.size
 | .pair a b,o,q,h=>by
  rcases List.mem_append.1 (show q∈bh a o++bh b (o+a.size) from h) with h|h
  have:=jm a o q h;simp only [Ty.size];omega;have:=jm b (o+a.size) q h;simp only [Ty.size];omega
 | .st t,o,q,h=>jm t o q h
 | .own _,o,q,h=>by simp [bh] at h;subst h;simp [Ty.size]
 | .int _,_,_,h=>by simp [bh] at h
 | .cD _,_,_,h=>by simp [bh] at h
 | .bool,_,_,h=>by simp [bh] at h
 | .str,_,_,h=>by simp [bh] at h
 | .sl _,_,_,h=>by simp [bh] at h
 | .bx _,_,_,h=>by simp [bh] at h
 | .cl _ _,_,_,h=>by simp [bh] at h
theorem lu: ∀(t:Ty) (o:Nat),(bh t o).Nodup
 | .pair a b,o=>by
  show (bh a o++bh b (o+a.size)).Nodup;rw [List.nodup_append];refine ⟨lu a o,lu b _,fun q hq q' QU e=> ?_⟩;have:=jm a o q hq;have:=jm b (o+a.size) q' QU;omega
 | .st t,o=>lu t o
 | .own _,o=>by simp [bh]
 | .int _,_=>by simp [bh]
 | .cD _,_=>by simp [bh]
 | .bool,_=>by simp [bh]
 | .str,_=>by simp [bh]
 | .sl _,_=>by simp [bh]
 | .bx _,_=>by simp [bh]
 | .cl _ _,_=>by simp [bh]
section
variable {S:Nat→Prop} {w:World}
theorem qO: ∀(t:Ty) {γ:List Nat→Option Nat} {o:Nat} {cs:List Value} {x:t.D} (n:Nat),cf S w t γ o cs x→ ∀(g':GM) (m':Mem),(∀j ch,(dn t x n).2[j]? =some ch→lk (n+j) m'=some ch)→
 (∀j q,(bh t o)[j]? =some q→g'.f (n+j)=fun p=>γ (q::p))→
 aK (CR g' m' S w) (dn t x n).1 cs∧ ∀j ch,(dn t x n).2[j]? =some ch→(∃t' bF,ch= .seq t' bF)∧gU g' m' S w (g'.f (n+j)) ch
 | .pair a b,γ,o,_,x,n,⟨c1,c2,e,h1,h2⟩=>by
  subst e;intro g' m' hm hg;have la:=oB a x.1 n o;obtain ⟨p1,q1⟩:=qO a n h1 g' m' (fun j ch hj=>hm j ch (by
   simp only [dn];rw [List.getElem?_append_left (List.getElem?_eq_some_iff.1 hj).1];exact hj)) (fun j q hj=>hg j q (by
   show (bh a o++bh b (o+a.size))[j]? =_;rw [List.getElem?_append_left (List.getElem?_eq_some_iff.1 hj).1];exact hj))
  obtain ⟨p2,q2⟩:=qO b (n+(dn a x.1 n).2.length) h2 g' m' (fun j ch hj=>by
   rw [Nat.add_assoc];refine hm _ ch ?_;simp only [dn];rw [List.getElem?_append_right (by omega)];simpa using hj) (fun j q hj=>by
   rw [Nat.add_assoc];refine hg _ q ?_;show (bh a o++bh b (o+a.size))[_]? =_;rw [List.getElem?_append_right (by omega),la];simpa using hj)
  refine ⟨p1.append p2,fun j ch hj=> ?_⟩;simp only [dn] at hj;by_cases hlt:j<(dn a x.1 n).2.length;rw [List.getElem?_append_left hlt] at hj;exact q1 j ch hj;rw [List.getElem?_append_right (by omega)] at hj;have:=q2 _ ch hj;rw [Nat.add_assoc,show (dn a x.1 n).2.length+(j - (dn a x.1 n).2.length)=j from by omega] at this;exact this
 | .st t,γ,o,cs,x,n,h=>qO t (o:=o) (cs:=cs) (x:=x) n h
 | .own t,γ,o,cs,xs,n,⟨v,e,ha,hr⟩=>by
  subst e;intro g' m' hm hg;have hl:=hm 0 _ rfl;have iF:=hg 0 o rfl;rw [Nat.add_zero] at hl iF;have h0:g' n=γ [o]:=congrFun iF [];refine ⟨⟨⟨by rw [hl];simp,ha.one,fun t' bF dB=> ?_⟩,trivial⟩,fun j ch hj=> ?_⟩;have e:=cz.toSeq hl dB;rw [hl] at e;injection e with e;injection e with e1 e2;subst e1;have e2:=eq_of_heq e2;subst e2;rw [h0];exact ha;have:j=0:=by
   have:=(List.getElem?_eq_some_iff.1 hj).1;simp [dn] at this;exact this
  subst this;simp [dn] at hj;subst hj;refine ⟨⟨t,xs,rfl⟩,?_⟩;rw [Nat.add_zero,iF];unfold gU;cases hγ:γ [o] with
  |none=>rw [hγ] at hr;simp only [hγ];exact List.eq_nil_of_length_eq_zero hr
  |some b=>rw [hγ] at hr;obtain ⟨arr,hb,hi⟩:=hr;simp only [hγ];exact ⟨arr,hb,hi⟩
 | .int k,_,_,cs,x,n,h=>fun g' m' _ _=>by
  have h:cs=[.int k x]:=h;subst h;exact ⟨⟨rfl,trivial⟩,fun j ch hj=>by simp [dn] at hj⟩
 | .cD k,_,_,cs,x,n,h=>fun g' m' _ _=>by
  obtain ⟨b,e,h⟩:=(h: ∃b,cs=[Value.float k b]∧bO k b=x);subst e;exact ⟨⟨⟨b,rfl,h⟩,trivial⟩,fun j ch hj=>by simp [dn] at hj⟩
 | .bool,_,_,cs,x,n,h=>fun g' m' _ _=>by
  have h:cs=[.bool x]:=h;subst h;exact ⟨⟨rfl,trivial⟩,fun j ch hj=>by simp [dn] at hj⟩
 | .str,_,_,cs,x,n,h=>fun g' m' _ _=>by
  have h:cs=[.string ⟨x.toArray⟩]:=h;subst h;exact ⟨⟨rfl,trivial⟩,fun j ch hj=>by simp [dn] at hj⟩
 | .sl t,_,_,cs,x,n,h=>fun g' m' _ _=>by
  have hl:=aR.len (.sl t) cs x h;have h:aR S w (.sl t) cs x:=h
  match cs,hl,h with
  |[v],_,h=>exact ⟨⟨h,trivial⟩,fun j ch hj=>by simp [dn] at hj⟩
 | .bx t,_,_,cs,x,n,h=>fun g' m' _ _=>by
  have hl:=aR.len (.bx t) cs x h;have h:aR S w (.bx t) cs x:=h
  match cs,hl,h with
  |[v],_,h=>exact ⟨⟨h,trivial⟩,fun j ch hj=>by simp [dn] at hj⟩
 | .cl f t,_,_,cs,x,n,h=>fun g' m' _ _=>by
  have hl:=aR.len (.cl f t) cs x h;have h:aR S w (.cl f t) cs x:=h
  match cs,hl,h with
  |[v],_,h=>exact ⟨⟨h,trivial⟩,fun j ch hj=>by simp [dn] at hj⟩
end
def yh (c i nx:Nat)(t:Ty)(xs:List t.D):Mem:=
 [(c,.nu t xs i (dn t (xs.getD i t.dH) nx).1 ((aZ nx (dn t (xs.getD i t.dH) nx).2).map Prod.fst))]
def rm (i nx:Nat)(t:Ty)(xs:List t.D):Mem:=aZ nx (dn t (xs.getD i t.dH) nx).2
section
variable {cx:Cx} {g:GM} {st:St} {a:Act} {w:World}
theorem bD.Ih {c i:Nat}{t:Ty}{xs:List t.D}(h:bD cx g st a w)(hl:lk c st.mem=some (.seq t xs))(hi:i<xs.length)(hw:dK st.mem (rm i st.nx t xs)):
 ∃g',bD cx g' (st.gZ (yh c i st.nx t xs++rm i st.nx t xs++st.mem) (st.nx+(rm i st.nx t xs).length)) a w∧
  gq g g' st.mem (yh c i st.nx t xs++rm i st.nx t xs++st.mem) (cx.safe g st.mem w) (cx.safe g' (yh c i st.nx t xs++rm i st.nx t xs++st.mem) w) w w:=by
 let ni:=(dn t (xs.getD i t.dH) st.nx).2;let Ii:=bh t 0;have kD:ni.length=Ii.length:=oB t _ _ 0;let g':GM:=⟨fun k=>if st.nx≤k then (match Ii[k - st.nx]? with|some q=>fun p=>g.f c (i::q::p)|none=>g.f k) else g.f k⟩;have sW: ∀j,j<ni.length→lk (st.nx+j) st.mem=none:=fun j hj=>by
  have zA:(st.nx+j,ni[j])∈rm i st.nx t xs:=
   kO (by show lk _ (aZ st.nx ni)=_;rw [cT,if_pos (by omega),show st.nx+j - st.nx=j from by omega];exact List.getElem?_eq_getElem hj)
  exact hw _ zA
 let m':Mem:=yh c i st.nx t xs++rm i st.nx t xs++st.mem;have hold: ∀k,lk k st.mem≠none→st.nx≤k→ni.length≤k - st.nx:=fun k cX hle=>by
  rcases Nat.lt_or_ge (k - st.nx) ni.length with hlt|pL
  exact absurd (by have:=sW _ hlt;rwa [show st.nx+(k - st.nx)=k from by omega] at this) cX;exact pL
 have oW: ∀k,lk k st.mem≠none→g'.f k=g.f k:=fun k cX=>by
  show (if st.nx≤k then _ else _)=_;by_cases hle:st.nx≤k;rw [if_pos hle,List.getElem?_eq_none (by rw [←kD];exact hold k cX hle)];rw [if_neg hle]
 have mJ: ∀j q,Ii[j]? =some q→g'.f (st.nx+j)=fun p=>g.f c (i::q::p):=fun j q hj=>by
  show (if st.nx≤st.nx+j then _ else _)=_;rw [if_pos (by omega),show st.nx+j - st.nx=j from by omega,hj]
 have Ok:lk c st.mem≠none:=by rw [hl];simp
 have R5:lk c m'=some (.nu t xs i (dn t (xs.getD i t.dH) st.nx).1 ((aZ st.nx ni).map Prod.fst)):=by
  show lk c (_++_++_)=_;rw [a8,a8];show (((lk c [(c,_)]).or _).or _)=_;rw [aw,if_pos rfl];rfl
 have zM: ∀j ch,ni[j]? =some ch→lk (st.nx+j) m'=some ch:=fun j ch hj=>by
  have cX:st.nx+j≠c:=fun e=>Ok (by rw [←e];exact sW j (List.getElem?_eq_some_iff.1 hj).1);show lk _ (_++_++_)=_;rw [a8,a8];show (((lk _ [(c,_)]).or (lk _ (aZ st.nx ni))).or _)=_;rw [aw,if_neg cX,eB,cT,if_pos (by omega),show st.nx+j - st.nx=j from by omega,hj];rfl
 have ua: ∀k,k≠c→lk k st.mem≠none→lk k m'=lk k st.mem:=fun k hk cX=>by
  have Vg:lk k (aZ st.nx ni)=none:=by
   rw [cT];by_cases hle:st.nx≤k;rw [if_pos hle];exact List.getElem?_eq_none (hold k cX hle);rw [if_neg hle]
  show lk _ (_++_++_)=_;rw [a8,a8];show (((lk _ [(c,_)]).or (lk _ (aZ st.nx ni))).or _)=_;rw [aw,if_neg hk,eB,Vg];simp
 have ub: ∀k ch,lk k m'=some ch→lk k st.mem=none→ ∃j,k=st.nx+j∧ni[j]? =some ch:=fun k ch hk sS=>by
  have cX:k≠c:=fun e=>Ok (by rw [←e];exact sS);have hk:lk k (yh c i st.nx t xs++rm i st.nx t xs++st.mem)=some ch:=hk;rw [a8,a8] at hk;have hk:(((lk k [(c,_)]).or (lk k (aZ st.nx ni))).or (lk k st.mem))=some ch:=hk;rw [aw,if_neg cX,eB,cT,sS] at hk;by_cases hle:st.nx≤k;rw [if_pos hle] at hk;refine ⟨k - st.nx,by omega,?_⟩;cases hx:ni[k - st.nx]? with
  |none=>rw [hx] at hk;simp at hk
  |some c0=>rw [hx] at hk;simpa using hk
  rw [if_neg hle] at hk;simp at hk
 have Ol: ∀j ch,ni[j]? =some ch→ ∃q,Ii[j]? =some q:=fun j ch hj=>
  ⟨Ii[j]'(by rw [←kD];exact (List.getElem?_eq_some_iff.1 hj).1),List.getElem?_eq_getElem _⟩
 have bS: ∀b,cx.safe g st.mem w b→cx.safe g' m' w b:=fun b ⟨h1,h2,h3⟩=>by
  refine ⟨h1,h2,?_⟩;rintro ⟨k,p,ch,hk,hn,hg⟩;cases ho:lk k st.mem with
  |none=>
   obtain ⟨j,e,hj⟩:=ub k ch hk ho;subst e;obtain ⟨q,hq⟩:=Ol j ch hj;rw [mJ j q hq] at hg;exact h3 ⟨c,_,_,hl,trivial,hg⟩
  |some c0=>
   rw [oW k (by rw [ho];simp)] at hg;by_cases e:k=c;subst e;exact h3 ⟨k,p,_,hl,trivial,hg⟩;rw [ua k e (by rw [ho];simp),ho] at hk;injection hk with hk;exact h3 ⟨k,p,c0,ho,by rw [hk];exact hn,hg⟩
 obtain ⟨G,hG⟩:=lB (n:=w.heap.size) (A:=[fun p=>g.f c (i::p)]) (fun γ hγ p b hp=>by
  simp at hγ;subst hγ;exact h.lt c _ _ b hl trivial hp)
 have Vs: ∀b,b∈G↔ ∃p,g.f c (i::p)=some b:=fun b=>by rw [hG b];simp
 have bK:=h.mem c _ hl;unfold gU at bK;cases rA:g.f c [] with
 |none=>rw [rA] at bK;have hn:xs=[]:=bK;subst hn;simp at hi
 |some bc=>
 rw [rA] at bK;obtain ⟨arr,cm,fA⟩:=bK;obtain ⟨A7,tP,zJ,KZ⟩:=fA.at_ hi;obtain ⟨iY,Vt⟩:=qO t st.nx (cf.ar (fun b hb=>⟨bS b hb,rfl⟩) t (fun _ _ _=>rfl) KZ) g' m' zM (fun j q hj=>mJ j q hj);have T:u9 cx g g' st.mem m' w w G:=by
  refine ⟨aH.refl _ _,fun b hb=> ?_,oW,fun k ch ho=> ?_,fun k ch ho dS=> ?_⟩;obtain ⟨p,hp⟩:=(Vs b).1 hb;exact ⟨c,_,_,hl,trivial,hp⟩;by_cases e:k=c;subst e;rw [hl] at ho;injection ho with ho;subst ho;refine .inr (.inr ⟨by simp,_,R5,by simp,fun _ _=>trivial,fun t0 Ue e=> ?_,fun t0 Ue e=>(by cases e),fun p b arr _ _ hb=>⟨arr,hb,rfl⟩,?_⟩);rcases e with e|⟨_,_,_,e⟩
  cases e;injection e with e1 e2;subst e1;have e2:=eq_of_heq e2;subst e2;exact ⟨xs,.inl rfl,rfl⟩;rw [oW k Ok];refine ⟨aK.DI (by rw [List.length_map,pE];exact kD.symm) fun j q k' hq dS=> ?_,bc,arr,rA,cm,hi,fun j hj cX=> ?_,A7,tP,zJ,iY⟩;have Q1:j<ni.length:=by rw [kD];exact (List.getElem?_eq_some_iff.1 hq).1
  rw [sY,List.getElem?_range' Q1] at dS;injection dS with dS;have dS:k'=st.nx+j:=by omega
  subst dS;exact ⟨by rw [zM j _ (List.getElem?_eq_getElem Q1)];simp,mJ j q hq⟩;obtain ⟨es,k1,k2⟩:=fA j hj;exact ⟨es,k1,cf.ar (fun b hb=>⟨bS b hb,rfl⟩) t (fun _ _ _=>rfl) k2⟩;refine .inl ⟨by rw [ua k e (by rw [ho];simp)];exact ho,fun p b hn xP YM=> ?_⟩;obtain ⟨p',YN⟩:=(Vs b).1 YM;exact e (h.eH k c p _ _ _ b ho hn hl trivial xP YN).1;obtain ⟨j,e,hj⟩:=ub k ch dS ho;subst e;obtain ⟨q,hq⟩:=Ol j ch hj;refine ⟨(Vt j ch hj).2,fun p b _ xP=> ?_⟩;rw [mJ j q hq] at xP;refine ⟨.inr ((Vs b).2 ⟨_,xP⟩),h.lt c _ _ b hl trivial xP,fun k' p' gV fR rk sL=> ?_⟩;cases DE:lk k' st.mem with
  |none=>
   obtain ⟨j2,e2,DB⟩:=ub k' gV fR DE;subst e2;obtain ⟨q2,Hy⟩:=Ol j2 gV DB;rw [mJ j2 q2 Hy] at sL;have:=(h.eH c c _ _ _ _ b hl trivial hl trivial sL xP).2;injection this with _ this;injection this with e1 e2;subst e1;have Vu:j2=j:=by
    obtain ⟨l1,q1⟩:=List.getElem?_eq_some_iff.1 Hy;obtain ⟨l2,YO⟩:=List.getElem?_eq_some_iff.1 hq;exact (List.getElem_inj (lu t 0)).1 (q1.trans YO.symm)
   exact ⟨by rw [Vu],e2⟩
  |some c0=>
   exfalso;rw [oW k' (by rw [DE];simp)] at sL;by_cases e:k'=c;subst e;rw [R5] at fR;injection fR with fR;subst fR;have:=(h.eH k' k' _ _ _ _ b hl trivial hl trivial sL xP).2;exact rk q p this (List.mem_of_getElem? hq);rw [ua k' e (by rw [DE];simp),DE] at fR;injection fR with fR;subst fR;exact e (h.eH k' c _ _ _ _ b DE rk hl trivial sL xP).1
 exact ⟨g',h.tV T,T.stays⟩
end
end Go.Ide
namespace Go.Ide
def Om (j:Nat):List Nat→Bool
 |[]=>false
 |a::l=>Nat.beq j a||Om j l
theorem vy {j:Nat}: ∀{l:List Nat},Om j l=true↔j∈l
 |[]=>by simp [Om]
 |a::l=>by simp [Om,vy (l:=l)]
def cZ:List aq→List Nat
 |[]=>[]
 | .all k::r=>k::cZ r
 |_::r=>cZ r
theorem mn: ∀{cs:List aq} {q k:Nat},cs[q]? =some (.all k)→k∈cZ cs
 |[],q,k,h=>by simp at h
 |c::cs,0,k,h=>by simp at h;subst h;simp [cZ]
 |c::cs,q+1,k,h=>by
  have:=mn (cs:=cs) (q:=q) (k:=k) (by simpa using h);cases c<;>simp [cZ,this]
theorem sZ: ∀{cs:List aq} {p q k:Nat},(cZ cs).Nodup→cs[p]? =some (.all k)→cs[q]? =some (.all k)→p=q
 |[],p,q,k,_,h,_=>by simp at h
 |c::cs,0,0,k,_,_,_=>rfl
 |c::cs,0,q+1,k,hn,h1,h2=>by
  simp at h1;subst h1;simp only [cZ,List.nodup_cons] at hn;exact absurd (mn (by simpa using h2)) hn.1
 |c::cs,p+1,0,k,hn,h1,h2=>by
  simp at h2;subst h2;simp only [cZ,List.nodup_cons] at hn;exact absurd (mn (by simpa using h1)) hn.1
 |c::cs,p+1,q+1,k,hn,h1,h2=>by
  have xU:(cZ cs).Nodup:=by cases c<;>simp [cZ] at hn<;>first|exact hn|exact hn.2
  have h1:cs[p]? =some (.all k):=by simpa using h1
  have h2:cs[q]? =some (.all k):=by simpa using h2
  rw [sZ xU h1 h2]
theorem tc: ∀(a b:List aq),cZ (a++b)=cZ a++cZ b
 |[],_=>rfl
 |c::a,b=>by cases c<;>simp [cZ,tc a b]
section
variable {m:Mem}
theorem uK: ∀(t:Ty) {cs r:List aq} {x:t.D} {ls:List Nat},kC m t cs=some ((x,ls),r)→ ∃c1,cs=c1++r∧c1.length=t.size∧ls=cZ c1∧ ∀k∈ls,∃t' bF,lk k m=some (.seq t' bF):=by
 have nP: ∀(t:Ty) (ht:t.size=1) (hf: ∀c x,cI [] t c=some x→cZ [c]=[]) {cs r:List aq} {x:t.D} {ls:List Nat},(b9 [] t cs).map (fun p=>((p.1,([]:List Nat)),p.2))=some ((x,ls),r)→ ∃c1,cs=c1++r∧c1.length=t.size∧ls=cZ c1∧ ∀k∈ls,∃t' bF,lk k m=some (.seq t' bF):=by
  intro t ht hf cs r x ls h;cases cs with
  |nil=>simp [b9] at h
  |cons c cs=>
   simp only [b9] at h;cases hd:cI [] t c with
   |none=>rw [hd] at h;simp at h
   |some y=>
    rw [hd] at h;simp at h;obtain ⟨⟨rfl,rfl⟩,rfl⟩:=h;exact ⟨[c],rfl,by simp [ht],(hf c y hd).symm,by simp⟩
 have wv: ∀(t:Ty) c x,cI [] t c=some x→cZ [c]=[]:=by
  intro t c x h;cases c<;>first|rfl|skip
  rename_i k;cases t<;>simp [cI,eB] at h
 intro t;induction t with
 |int k=>intro cs r x ls h;exact nP _ rfl (wv _) h
 |cD k=>intro cs r x ls h;exact nP _ rfl (wv _) h
 |bool=>intro cs r x ls h;exact nP _ rfl (wv _) h
 |str=>intro cs r x ls h;exact nP _ rfl (wv _) h
 |sl t _=>intro cs r x ls h;exact nP _ rfl (wv _) h
 |bx t _=>intro cs r x ls h;exact nP _ rfl (wv _) h
 |cl f t _=>intro cs r x ls h;exact nP _ rfl (wv _) h
 |st t ih=>intro cs r x ls h;exact ih h
 |pair a b Ob Lw=>
  intro cs r x ls h;simp only [kC] at h;split at h;rename_i y k1 r1 h1;split at h;rename_i z k2 r2 h2;injection h with h;injection h with h3 h4;injection h3 with h5 h6;subst h4;subst h6;obtain ⟨c1,e1,l1,q1,s1⟩:=Ob h1;obtain ⟨c2,e2,l2,q2,s2⟩:=Lw h2;refine ⟨c1++c2,by rw [e1,e2,List.append_assoc],by simp [Ty.size,l1,l2],by rw [tc,q1,q2],fun k hk=> ?_⟩;rcases List.mem_append.1 hk with hk|hk
  exact s1 k hk;exact s2 k hk;cases h;cases h
 |own t _=>
  intro cs r x ls h;simp only [kC] at h;split at h;injection h with h;injection h with h3 h4;injection h3 with h5 h6;subst h4;subst h6;exact ⟨[.az],rfl,rfl,rfl,by simp⟩;rename_i c r';split at h;rename_i e xs hl;split at h;injection h with h;injection h with h3 h4;injection h3 with h5 h6;subst h4;subst h6;exact ⟨[.all c],rfl,rfl,rfl,fun k hk=>by simp at hk;subst hk;exact ⟨_,_,hl⟩⟩;cases h;cases h;cases h
variable {g:GM} {S S2:Nat→Prop} {w:World}
theorem Gz (hm:jk g m S w)(hS: ∀b,S b→S2 b): ∀(t:Ty) {γ:List Nat→Option Nat} {o:Nat} {cs r:List aq} {x:t.D} {ls:List Nat} {vs:List Value},kC m t cs=some ((x,ls),r)→aK (CR g m S w) cs vs→
 (∀q,o+q∈bh t o→ ∀k,cs[q]? =some (.all k)→ ∀p,γ ((o+q)::p)=g.f k p)→(∀q,o+q∈bh t o→cs[q]? =some .az→γ [o+q]=none)→
 ∃v1 v2,vs=v1++v2∧cf S2 w t γ o v1 x∧aK (CR g m S w) r v2:=by
 have nP: ∀(t:Ty) (hp: ∀(γ:List Nat→Option Nat) (o:Nat) (cs:List Value) (x:t.D),aR S2 w t cs x→cf S2 w t γ o cs x) {γ:List Nat→Option Nat} {o:Nat} {cs r:List aq} {x:t.D} {ls:List Nat} {vs:List Value},
  (b9 [] t cs).map (fun p=>((p.1,([]:List Nat)),p.2))=some ((x,ls),r)→aK (CR g m S w) cs vs→ ∃v1 v2,vs=v1++v2∧cf S2 w t γ o v1 x∧aK (CR g m S w) r v2:=by
  intro t hp γ o cs r x ls vs h hr;cases cs with
  |nil=>simp [b9] at h
  |cons c cs=>
   cases vs with
   |nil=>exact hr.elim
   |cons v vs=>
    simp only [b9] at h;cases hd:cI [] t c with
    |none=>rw [hd] at h;simp at h
    |some y=>
     rw [hd] at h;simp at h;obtain ⟨⟨rfl,rfl⟩,rfl⟩:=h;exact ⟨[v],vs,rfl,hp γ o _ _ (pP hS gr.nil hd hr.1),hr.2⟩
 intro t;induction t with
 |int k=>intro γ o cs r x ls vs h hr _ _;exact nP (.int k) (fun _ _ _ _ h=>h) h hr
 |cD k=>intro γ o cs r x ls vs h hr _ _;exact nP (.cD k) (fun _ _ _ _ h=>h) h hr
 |bool=>intro γ o cs r x ls vs h hr _ _;exact nP (.bool) (fun _ _ _ _ h=>h) h hr
 |str=>intro γ o cs r x ls vs h hr _ _;exact nP (.str) (fun _ _ _ _ h=>h) h hr
 |sl t _=>intro γ o cs r x ls vs h hr _ _;exact nP (.sl t) (fun _ _ _ _ h=>h) h hr
 |bx t _=>intro γ o cs r x ls vs h hr _ _;exact nP (.bx t) (fun _ _ _ _ h=>h) h hr
 |cl f t _=>intro γ o cs r x ls vs h hr _ _;exact nP (.cl f t) (fun _ _ _ _ h=>h) h hr
 |st t ih=>intro γ o cs r x ls vs h hr h1 h2;exact ih h hr h1 h2
 |pair a b Ob Lw=>
  intro γ o cs r x ls vs h hr hγ Bz;simp only [kC] at h;split at h;rename_i y k1 r1 h1;split at h;rename_i z k2 r2 h2;injection h with h;injection h with h3 h4;injection h3 with h5 h6;subst h4;subst h5;obtain ⟨c1,e1,l1,_,_⟩:=uK a h1;obtain ⟨v1,v2,rfl,p1,q1⟩:=Ob (γ:=γ) (o:=o) h1 hr (fun q hq k hk p=>hγ q (List.mem_append.2 (.inl hq)) k hk p) (fun q hq hk=>Bz q (List.mem_append.2 (.inl hq)) hk);obtain ⟨v3,v4,rfl,p2,q2⟩:=Lw (γ:=γ) (o:=o+a.size) h2 q1 (fun q hq k hk p=>by
   have:=hγ (a.size+q) (List.mem_append.2 (.inr (by rw [←Nat.add_assoc];exact hq))) k (by rw [e1,List.getElem?_append_right (by omega),l1,Nat.add_sub_cancel_left];exact hk) p;rw [Nat.add_assoc];exact this) (fun q hq hk=>by
   have:=Bz (a.size+q) (List.mem_append.2 (.inr (by rw [←Nat.add_assoc];exact hq))) (by rw [e1,List.getElem?_append_right (by omega),l1,Nat.add_sub_cancel_left];exact hk);rw [Nat.add_assoc];exact this)
  exact ⟨v1++v3,v4,by simp,⟨v1,v3,rfl,p1,p2⟩,q2⟩;cases h;cases h
 |own t _=>
  intro γ o cs r x ls vs h hr hγ Bz;simp only [kC] at h;have oZ:o+0∈bh (.own t) o:=by simp [bh]
  split at h;injection h with h;injection h with h3 h4;injection h3 with h5 h6;subst h4;subst h5;cases vs with
  |nil=>exact hr.elim
  |cons v vs=>
   have h0:=Bz 0 oZ rfl;rw [Nat.add_zero] at h0;obtain ⟨a,ha⟩:=hr.1;subst ha;refine ⟨[_],vs,rfl,⟨_,rfl,?_,?_⟩,hr.2⟩;rw [h0];exact ⟨a,rfl⟩;rw [h0];rfl
  rename_i c r';split at h;rename_i e xs hl;split at h;rename_i he;subst he;injection h with h;injection h with h3 h4;injection h3 with h5 h6;subst h4;subst h5;cases vs with
  |nil=>exact hr.elim
  |cons v vs=>
   have h0:=hγ 0 oZ c rfl;rw [Nat.add_zero] at h0;have hv:=hr.1.2.2 e xs (.inl hl);have bK:=hm c _ hl;unfold gU at bK;have Ub:γ [o]=g.f c []:=h0 [];refine ⟨[v],vs,rfl,⟨v,rfl,?_,?_⟩,hr.2⟩;rw [Ub];exact hv;rw [Ub];cases hg:g.f c [] with
   |none=>rw [hg] at bK;have bK:xs=[]:=bK;show List.length xs=0;rw [bK];rfl
   |some b=>
    rw [hg] at bK;obtain ⟨arr,hb,fA⟩:=bK;refine ⟨arr,hb,fun i hi=> ?_⟩;obtain ⟨es,k1,k2⟩:=fA i hi;refine ⟨es,k1,?_⟩;have:(fun p=>γ (o::i::p))=fun p=>g.f c (i::p):=funext fun p=>h0 (i::p);rw [this];exact cf.ar (fun b hb=>⟨hS b hb,rfl⟩) e (fun _ _ _=>rfl) k2
  cases h;cases h;cases h
theorem BA {k:Nat}{m:Mem}: ∀{ls:List Nat},lk k ((ls.map fun k=>(k,Chunk.gone))++m)=if k∈ls then some .gone else lk k m
 |[]=>by simp
 |q::ls=>by
  simp only [List.map_cons,List.cons_append];rw [aw,BA (ls:=ls)];by_cases e:k=q;subst e;simp;rw [if_neg e];simp [e]
end
end Go.Ide
namespace Go.Ide
def wx (m:Mem)(nx:Nat):au→Option (Mem×Mem×Prop)
 | .one (.bT c i sz _)=>match lk c m with
  |some (.seq t xs)=>bif Nat.beq sz t.size then some (yh c i nx t xs,rm i nx t xs,i<xs.length) else none
  |_=>none
 |_=>none
def zO (P:Program)(m:Mem)(nx:Nat)(T:TypeId)(v:au):Option bm:=
 match wx m nx v with
 |some (u,n,p)=>(match oq P (u++n++m) T v with
  |some e=>some ⟨e.val,n,u,[p]⟩
  |none=>none)
 |none=>none
def vz (P:Program)(m:Mem)(nx:Nat)(T:TypeId)(v x:au):Option bm:=
 match wx m nx v with
 |some (u,n,p)=>(match oQ P (u++n++m) T v x with
  |some e=>some ⟨.cV,n,e.jU++u,[p]⟩
  |none=>none)
 |none=>none
theorem wy {m:Mem}{nx:Nat}{v:au}{u n:Mem}{p:Prop}(h:wx m nx v=some (u,n,p)):
 ∃c i sz off t xs,v= .one (.bT c i sz off)∧lk c m=some (.seq t xs)∧u=yh c i nx t xs∧n=rm i nx t xs∧p=(i<xs.length):=by
 unfold wx at h;split at h;rename_i c i sz off;split at h;rename_i t xs hl;cases hb:Nat.beq sz t.size with
 |false=>rw [hb] at h;cases h
 |true=>
  rw [hb] at h;simp only [cond_true] at h;injection h with h;injection h with h1 h;injection h with h2 h3;exact ⟨c,i,sz,off,t,xs,rfl,hl,h1.symm,h2.symm,h3.symm⟩
 cases h;cases h
theorem Fv {c i nx:Nat}{t:Ty}{xs:List t.D}{l:Mem}: ∃cs ks,lk c (yh c i nx t xs++l)=some (.nu t xs i cs ks):=by
 refine ⟨(dn t (xs.getD i t.dH) nx).1,(aZ nx (dn t (xs.getD i t.dH) nx).2).map Prod.fst,?_⟩;show lk c ((c,_)::l)=_;rw [aw,if_pos rfl]
theorem DJ {P:Program}{m:Mem}{T:TypeId}{c i sz off:Nat}{t:Ty}{xs:List t.D}{cs:List aq}{ks:List Nat}{e:bm}(hl:lk c m=some (.nu t xs i cs ks))(h:oq P m T (.one (.bT c i sz off))=some e):aS e.cond:=by
 unfold oq at h;split at h;rename_i c' i' Fw c8 n ag ha hs XK;injection ha with ha;injection ha with e1 e2 e3 e4;subst e1;subst e2;subst e3;subst e4;rw [hl] at h;simp only at h;cases hb:(Nat.ble (off+n) t.size&&Nat.beq sz t.size) with
 |false=>rw [hb] at h;cases h
 |true=>
  rw [hb] at h;simp only [cond_true] at h;split at h;obtain ⟨_,hc⟩:=bU h;rw [hc];exact ⟨by simp,trivial⟩;cases h
 rename_i e1 _ _;cases e1;rename_i ve _ _ _ e1 _ _;injection e1 with e1;subst e1;simp [mf] at h;cases h
theorem BB {P:Program}{m:Mem}{T:TypeId}{c i sz off:Nat}{t:Ty}{xs:List t.D}{cs:List aq}{ks:List Nat}{x:au}{e:bm}(hl:lk c m=some (.nu t xs i cs ks))(h:oQ P m T (.one (.bT c i sz off)) x=some e):aS e.cond∧e.new=[]∧e.val= .cV:=by
 unfold oQ at h;split at h;rename_i e1 _;cases e1;rename_i c' i' Fw c8 n ha hs;injection ha with ha;injection ha with e1 e2 e3 e4;subst e1;subst e2;subst e3;subst e4;rw [hl] at h;simp only at h;cases hb:((Nat.beq x.cells.length n&&Nat.ble (off+n) t.size)&&(Nat.beq sz t.size&&x.ok)) with
 |false=>rw [hb] at h;cases h
 |true=>
  rw [hb] at h;simp only [cond_true] at h;injection h with h;subst h;exact ⟨⟨by simp,trivial⟩,rfl,rfl⟩
 rename_i e1 _;cases e1;cases h
section
variable {cx:Cx} {g:GM} {st:St} {a:Act} {w:World}
theorem zP {T:TypeId}{v:au}{e:bm}{va:Value}(h:bD cx g st a w)(hw:dK st.mem e.new)(he:zO cx.P st.mem st.nx T v=some e)(hc:aS e.cond)(hr:VR g st.mem (cx.safe g st.mem w) w v va):gd cx st a w (Instr.loadAt T va) e:=by
 unfold zO at he;split at he;rename_i u n p hp;split at he;rename_i e1 wh;injection he with he;subst he;obtain ⟨c,i,sz,off,t,xs,rfl,hl,rfl,rfl,rfl⟩:=wy hp;obtain ⟨g',hs,hJ⟩:=h.Ih hl hc.1 hw;obtain ⟨cs,ks,l0⟩:=Fv (c:=c) (i:=i) (nx:=st.nx) (t:=t) (xs:=xs) (l:=rm i st.nx t xs++st.mem);rw [←List.append_assoc] at l0;obtain ⟨_,_,r,h3,h4⟩:=pQ hs.mem wh (DJ l0 wh) (VR.stays hJ hr);exact ⟨r,w,h3,g',hs,h4⟩;cases he;cases he
theorem yi {T:TypeId}{x v:au}{e:bm}{xa va:Value}(h:bD cx g st a w)(hw:dK st.mem e.new)(he:vz cx.P st.mem st.nx T x v=some e)(hc:aS e.cond)(hx:VR g st.mem (cx.safe g st.mem w) w x xa)(hv:VR g st.mem (cx.safe g st.mem w) w v va):Bi cx st a w (Instr.storeAt T xa va) e:=by
 unfold vz at he;split at he;rename_i u n p hp;split at he;rename_i e1 wh;injection he with he;subst he;obtain ⟨c,i,sz,off,t,xs,rfl,hl,rfl,rfl,rfl⟩:=wy hp;obtain ⟨g',hs,hJ⟩:=h.Ih hl hc.1 hw;obtain ⟨cs,ks,l0⟩:=Fv (c:=c) (i:=i) (nx:=st.nx) (t:=t) (xs:=xs) (l:=rm i st.nx t xs++st.mem);rw [←List.append_assoc] at l0;obtain ⟨q1,q2,q3⟩:=BB l0 wh;obtain ⟨w',fS,g2,yj,_⟩:=sV hs wh q1 (VR.stays hJ hx) (VR.stays hJ hv);refine ⟨w',fS,g2,?_,trivial⟩;rw [q2] at yj;have yj:bD cx g2 (st.gZ (e1.jU++[]++(yh c i st.nx t xs++rm i st.nx t xs++st.mem)) (st.nx+(rm i st.nx t xs).length+0)) a w':=yj;rw [List.append_nil] at yj;show bD cx g2 (st.gZ ((e1.jU++yh c i st.nx t xs)++rm i st.nx t xs++st.mem) (st.nx+(rm i st.nx t xs).length)) a w';rw [List.append_assoc,List.append_assoc];rw [List.append_assoc] at yj;exact yj;cases he;cases he
def Hint.uL:Hint→Bool
 | .nu=>true
 |_=>false
def pX (P:Program)(m:Mem)(nx:Nat)(h:Hint)(T:TypeId)(v:au):Option bm:=bif h.uL then zO P m nx T v else oq P m T v
def qP (P:Program)(m:Mem)(nx:Nat)(h:Hint)(T:TypeId)(v x:au):Option bm:=bif h.uL then vz P m nx T v x else oQ P m T v x
theorem zQ {hh:Hint}{T:TypeId}{v:au}{e:bm}{va:Value}(h:bD cx g st a w)(hw:dK st.mem e.new)(he:pX cx.P st.mem st.nx hh T v=some e)(hc:aS e.cond)(hr:VR g st.mem (cx.safe g st.mem w) w v va):gd cx st a w (Instr.loadAt T va) e:=by
 unfold pX at he;cases hb:hh.uL with
 |true=>rw [hb] at he;exact zP h hw he hc hr
 |false=>rw [hb] at he;exact (pQ h.mem he hc hr).runs h
theorem yk {hh:Hint}{T:TypeId}{x v:au}{e:bm}{xa va:Value}(h:bD cx g st a w)(hw:dK st.mem e.new)(he:qP cx.P st.mem st.nx hh T x v=some e)(hc:aS e.cond)(hx:VR g st.mem (cx.safe g st.mem w) w x xa)(hv:VR g st.mem (cx.safe g st.mem w) w v va):Bi cx st a w (Instr.storeAt T xa va) e:=by
 unfold qP at he;cases hb:hh.uL with
 |true=>rw [hb] at he;exact yi h hw he hc hx hv
 |false=>rw [hb] at he;exact sV h he hc hx hv
end
end Go.Ide
namespace Go.Ide
def yR (m:Mem):au→Option (Nat×Nat×Nat)
 | .one (.all c)=>(match lk c m with
  |some (.seq _ xs)=>some (c,0,xs.length)
  |_=>none)
 | .one (.ref c off len)=>some (c,off,len)
 |_=>none
def yS (P:Program)(m:Mem)(T:TypeId)(x y:au):Option bm:=
 match P.underlying T,yR m x with
 |some (.slice e),some (c,off,len)=>(match lk c m with
  |some (.seq t xs)=>bif (cc P e==some t.size&&t.top)&&lY m y then
   (match jA m (.sl t) y with
   |some ys=>some ⟨.one (.aB (.int .i64) ((Nat.min (List.length ys) len:Nat):Int)),[],[(c,.seq t (xs.take off++(List.take (Nat.min (List.length ys) len) ys:List t.D)++xs.drop (off+Nat.min (List.length ys) len)))],[]⟩
   |none=>none) else none
  |_=>none)
 |_,_=>none
section
variable {g:GM} {m:Mem} {S:Nat→Prop} {w:World}
theorem dN.drop {t:Ty}{xs:List t.D}{l:List Value}{n:Nat}(h:dN S w t xs l):dN S w t (xs.drop n) (l.drop (n*t.size)):=fun i hi=>by
 simp only [List.length_drop] at hi;obtain ⟨es,h1,h2⟩:=h (n+i) (by omega);refine ⟨es,fun j hj=> ?_,by rw [List.getElem_drop];exact h2⟩;rw [List.getElem?_drop,←Nat.add_assoc,←Nat.add_mul];exact h1 j hj
theorem GA (hm:jk g m S w){x:au}{xa:Value}{c off len:Nat}{t:Ty}{xs:List t.D}(h:yR m x=some (c,off,len))(hl:lk c m=some (.seq t xs))(hx:VR g m S w x xa):
 off+len≤xs.length∧ ∃a cap,xa= .slice a len cap∧(len=0∨ ∃b arr,g.f c []=some b∧a=some ⟨b,off*t.size,none⟩∧cg w b arr∧(off+len)*t.size≤arr.size):=by
 unfold yR at h;split at h;rename_i c';split at h;rename_i t' bF dB;injection h with h;injection h with h1 h;injection h with h2 h3;subst h1;subst h2;rw [hl] at dB;injection dB with dB;injection dB with e1 e2;subst e1;have e2:=eq_of_heq e2;subst e2;subst h3;have hv:=hx.2.2 t xs (.inl hl);refine ⟨by omega,?_⟩;unfold gA at hv;cases hg:g c' with
 |none=>
  rw [hg] at hv;obtain ⟨a,ha⟩:=hv;have bK:=hm c' _ hl;unfold gU at bK;rw [show g.f c' []=none from hg] at bK;have bK:xs=[]:=bK;exact ⟨a,0,by rw [ha,bK];rfl,.inl (by rw [bK];rfl)⟩
 |some b=>
  rw [hg] at hv;obtain ⟨cap,arr,e,k1,k2,k3,_⟩:=hv;refine ⟨_,cap,e,.inr ⟨b,arr,hg,by rw [Nat.zero_mul],k2,?_⟩⟩;rw [Nat.zero_add];exact Nat.le_trans (Nat.mul_le_mul_right _ k1) k3
 cases h;rename_i c' c8 GB;injection h with h;injection h with h1 h;injection h with h2 h3;subst h1;subst h2;subst h3;obtain ⟨hle,hv⟩:=hx.2.2 t xs (.inl hl);refine ⟨hle,?_⟩;rcases hv with ⟨h0,_,a,ha⟩|⟨b,cap,arr,hg,e,k1,k2,k3,_⟩
 exact ⟨a,0,by rw [ha,h0],.inl h0⟩;exact ⟨_,cap,e,.inr ⟨b,arr,hg,rfl,k2,Nat.le_trans (Nat.mul_le_mul_right _ (by omega)) k3⟩⟩;cases h
end
section
variable {cx:Cx} {g:GM} {st:St} {a:Act} {w:World}
theorem BC {T T' ty:TypeId}{x y:au}{e:bm}{xa ya:Value}(h:bD cx g st a w)(he:yS cx.P st.mem T x y=some e)(hx:VR g st.mem (cx.safe g st.mem w) w x xa)(hy:VR g st.mem (cx.safe g st.mem w) w y ya):gd cx st a w (Builtin.copy_ #[T,T'] ty #[xa,ya]) e:=by
 unfold yS at he;split at he;rename_i el c off len hu hd;split at he;rename_i t xs hl;cases hb:((cc cx.P el==some t.size&&t.top)&&lY st.mem y) with
 |false=>rw [hb] at he;cases he
 |true=>
  rw [hb] at he;simp only [cond_true] at he;simp only [Bool.and_eq_true,beq_iff_eq] at hb;obtain ⟨⟨cY,nm⟩,HZ⟩:=hb;split at he;rename_i ys Vv;injection he with he;subst he;obtain ⟨hle,da,R6,rfl,zR⟩:=GA h.mem hd hl hx;obtain ⟨news,A6⟩:=zB h.mem Vv HZ nm hy;obtain ⟨sa,On,rfl,YP⟩:=A6.val;have hn1:Nat.min (List.length ys) len≤List.length ys:=Nat.min_le_left _ _;have rk:Nat.min (List.length ys) len≤len:=Nat.min_le_right _ _;generalize uc:Nat.min (List.length ys) len=n at hn1 rk⊢;have xY:(news.take (n*t.size)).length=n*t.size:=by
   rw [List.length_take,A6.len];exact Nat.min_eq_left (Nat.mul_le_mul_right _ hn1)
  have Vw:=dy (P:=cx.P) (w:=w) (size:=t.size) (n:=n) (a:=sa) (len:=List.length ys) (cap:=On) xY (by
   rcases YP with h0|⟨ad,e,hc⟩
   exact .inl (by omega);exact .inr ⟨ad,e,fun j v hj=>by
    rw [List.getElem?_take] at hj;split at hj;exact hc j v hj;cases hj⟩)
  have uG:(sizeOf el).run cx.P w= .ok t.size w:=bw cY;rcases zR with h0|⟨b,arr,hg,rfl,cm,gC⟩
  have zG:n=0:=by omega
  have fS:(Builtin.copy_ #[T,T'] ty #[.slice da len R6,.slice sa (List.length ys) On]).run cx.P w= .ok (.int .i64 ((n:Nat):Int)) w:=by
   have hJ: ∀ad:Addr,(storeCells ad (news.take (n*t.size)).toArray.toList).run cx.P w= .ok () w:=fun ad=>by
    rw [zG];simp [storeCells]
   cases da with
   |none=>simp [Builtin.copy_,run_underlying hu,Builtin.lenOf,uc,uG,Vw,goInt]
   |some ad=>simp [Builtin.copy_,run_underlying hu,Builtin.lenOf,uc,uG,Vw,hJ ad,goInt]
  refine ⟨_,w,fS,g,?_,rfl⟩;have tf:(xs.take off++(List.take n ys:List t.D)++xs.drop (off+n))=xs:=by
   rw [zG];simp
  show bD cx g (st.gZ ([(c,Chunk.seq t (xs.take off++(List.take n ys:List t.D)++xs.drop (off+n)))]++[]++st.mem) (st.nx+0)) a w;rw [tf];have l0: ∀k,lk k ([(c,Chunk.seq t xs)]++[]++st.mem)=lk k st.mem:=fun k=>by
   show lk k ((c,_)::st.mem)=_;rw [aw];by_cases e:k=c;subst e;rw [if_pos rfl,hl];rw [if_neg e]
  exact h.tV (G:=[]) ⟨aH.refl _ _,fun b hb=>(by simp at hb),fun _ _=>rfl,fun k ch hk=> .inl ⟨(l0 k).trans hk,fun _ b _ _ hb=>by simp at hb⟩,fun k ch hk dS=>by
   rw [l0,hk] at dS;cases dS⟩
  have Nb:off*t.size+0+(news.take (n*t.size)).length≤arr.size:=by
   rw [xY,Nat.add_zero,←Nat.add_mul];exact Nat.le_trans (Nat.mul_le_mul_right _ (by omega)) gC
  have R7:=dN.mi A6.Gi A6.len;obtain ⟨w',aA,hJ,k1,k2,k3,k4⟩:=dU (P:=cx.P) (news.take (n*t.size)) (off*t.size) 0 w arr cm Nb (fun v hv=>R7 v (List.mem_of_mem_take hv));rw [Nat.add_zero,xY] at k2;have fS:(Builtin.copy_ #[T,T'] ty #[.slice (some ⟨b,off*t.size,none⟩) len R6,.slice sa (List.length ys) On]).run cx.P w= .ok (.int .i64 ((n:Nat):Int)) w':=by
   have YQ:(storeCells ⟨b,off*t.size,none⟩ (news.take (n*t.size)).toArray.toList).run cx.P w= .ok () w':=hJ;simp [Builtin.copy_,run_underlying hu,Builtin.lenOf,uc,uG,Vw,hJ,goInt]
  have Nc:(xs.take off++(List.take n ys:List t.D)++xs.drop (off+n)).length=xs.length:=by
   simp only [List.length_append,List.length_take,List.length_drop];omega
  have N7:aA.size=arr.size:=by
   rw [←Array.length_toList,k2];simp only [List.length_append,xY,List.length_take,List.length_drop,Array.length_toList];rw [xY] at Nb;omega
  have q:H0 g st w w' c b [] (.seq t xs) (.seq t (xs.take off++(List.take n ys:List t.D)++xs.drop (off+n))):=
   ⟨hl,trivial,hg,k3,⟨arr,aA,cm,k1,N7⟩,fun _ _=>trivial,by simp,fun t' bF e=>by
    obtain ⟨e,e2⟩:=qH e;subst e;subst e2;exact ⟨xs,.inl rfl,Nc.symm⟩,fun t' bF e=>by
    injection e with e1 e2;subst e1;have e2:=eq_of_heq e2;subst e2;exact ⟨xs,rfl,bu.top nm Nc.symm⟩⟩
  refine ⟨_,w',fS,g,?_,rfl⟩;refine h.N8 q ?_;have bK:=h.mem c _ hl;unfold gU at bK⊢;rw [hg] at bK⊢;obtain ⟨sH,Lr,fA⟩:=bK;have:=Lr.eq cm;subst this;have bS:=(q.stays (cx:=cx)).safe;have hL:dN (cx.safe g st.mem w) w t xs sH.toList:=(fA.Gi nm).toL;refine ⟨aA,k1,.kH nm (dN.toR ?_)⟩;rw [k2];have ar: ∀{zs:List t.D} {l:List Value},dN (cx.safe g st.mem w) w t zs l→dN (cx.safe g ((c,Chunk.seq t (xs.take off++(List.take n ys:List t.D)++xs.drop (off+n)))::st.mem) w') w' t zs l:=fun hz i hi=>by
   obtain ⟨es,e1,e2⟩:=hz i hi;exact ⟨es,e1,aR.ar bS t es _ e2⟩
  have Oo:(sH.toList.take (off*t.size)).length=(xs.take off).length*t.size:=by
   rw [List.length_take,List.length_take,Array.length_toList,Nat.min_eq_left (show off≤xs.length by omega),Nat.min_eq_left];exact Nat.le_trans (Nat.mul_le_mul_right _ (by omega)) gC
  have hA:=dN.app (rest:=[]) (ar (hL.take (n:=off) (by omega))) Oo (ar (A6.Gi.take (n:=n) hn1)) (by rw [xY,List.length_take,Nat.min_eq_left hn1]);rw [List.append_nil] at hA;have Vx:(sH.toList.take (off*t.size)++news.take (n*t.size)).length=(xs.take off++(List.take n ys:List t.D)).length*t.size:=by
   rw [List.length_append,List.length_append,Oo,xY,Nat.add_mul,List.length_take (l:=ys),Nat.min_eq_left hn1]
  have YR:dN (cx.safe g st.mem w) w t (xs.drop (off+n)) (sH.toList.drop (off*t.size+n*t.size)):=by
   rw [←Nat.add_mul];exact hL.drop
  intro i hi;by_cases hlt:i<(xs.take off++(List.take n ys:List t.D)).length;obtain ⟨es,e1,e2⟩:=hA i hlt;refine ⟨es,fun j hj=> ?_,by rw [List.getElem_append_left hlt];exact e2⟩;have hm:(i+1)*t.size≤(xs.take off++(List.take n ys:List t.D)).length*t.size:=Nat.mul_le_mul_right _ (by omega);rw [Nat.add_mul] at hm;rw [List.getElem?_append_left (by rw [Vx];omega)];exact e1 j hj;have Q2:i - (xs.take off++(List.take n ys:List t.D)).length<(xs.drop (off+n)).length:=by
   rw [List.length_append] at hi;omega
  obtain ⟨es,e1,e2⟩:=ar YR _ Q2;refine ⟨es,fun j hj=> ?_,by rw [List.getElem_append_right (by omega)];exact e2⟩;obtain ⟨d,hd⟩: ∃d,i=(xs.take off++(List.take n ys:List t.D)).length+d:=⟨_,(Nat.add_sub_cancel' (by omega)).symm⟩;rw [hd,Nat.add_sub_cancel_left] at e1;rw [hd,Nat.add_mul,List.getElem?_append_right (by rw [Vx];omega),Vx];rw [show∀A B:Nat,A+B+j - A=B+j from fun A B=>by omega];exact e1 j hj;cases he
 cases he;cases he
end
end Go.Ide
namespace Go.Ide
def yT (P:Program)(m:Mem)(nx:Nat)(T T':TypeId)(t:Ty)(s x:au):Option bm:=
 match P.underlying T,s,x with
 |some (.slice e),.one s,.one (.all c2)=>(match P.info? e,lk c2 m with
  |some i,some (.seq t2 ys)=>bif ((Nat.beq T T'&&Nat.beq i.size t.size)&&(Nat.ble i.bytes 32768&&i.zero.isSome))&&(i.zero.map fun z=>Nat.beq z.cells.size t.size).getD false then
   (if h:t2=t then (match s with
    | .az=>some ⟨.one (.all nx),[(nx,.seq t ([]++bA (a:= .sl t2) (b:= .sl t) (congrArg Ty.sl h) ys))],[(c2,.gone)],[0+List.length ys≤av]⟩
    | .all c=>(match lk c m with
     |some (.seq t1 xs)=>if h1:t1=t then (bif !(Nat.beq c c2) then
      some ⟨.one (.all nx),[(nx,.seq t ((show List t.D from bA (a:= .sl t1) (b:= .sl t) (congrArg Ty.sl h1) xs)++bA (a:= .sl t2) (b:= .sl t) (congrArg Ty.sl h) ys))],[(c,.gone),(c2,.gone)],[List.length xs+List.length ys≤av]⟩ else none) else none
     |_=>none)
    |_=>none) else none) else none
  |_,_=>none)
 |_,_,_=>none
def oC (P:Program)(m:Mem)(nx:Nat)(T T':TypeId)(t:Ty)(s x:au):Option bm:=
 bif t.top then qz P m nx T T' t s x else yT P m nx T T' t s x
def qQ (P:Program)(m:Mem)(nx:Nat)(T:TypeId)(t:Ty)(len:Nat)(parts:List (Nat×au)):Option bm:=
 match P.underlying T,parts with
 |some (.slice e),[(0,v)]=>bif (cc P e==some t.size&&(((P.info? e).bind (·.zero)).map fun z=>Nat.beq z.cells.size t.size)==some true)&&(Nat.beq len 1&&Nat.ble t.size 65536)&&v.ok then
  (match kC m t v.cells with
  |some ((x,ks),[])=>bif iX ks then some ⟨.one (.all nx),[(nx,.seq t [x])],ks.map fun k=>(k,.gone),[]⟩ else none
  |_=>none) else none
 |_,_=>none
def qR (P:Program)(m:Mem)(nx:Nat)(T:TypeId)(t:Ty)(len:Nat)(parts:List (Nat×au)):Option bm:=
 bif t.top then pO P nx T t len parts else qQ P m nx T t len parts
section
variable {S S':Nat→Prop} {w w':World}
theorem cf.mi: ∀(t:Ty) {γ:List Nat→Option Nat} {o:Nat} {cs:List Value} {x:t.D},cf S w t γ o cs x→ ∀v∈cs,v.oneCell'=true
 | .own t,γ,o,cs,xs,⟨v,e,ha,_⟩=>by
  subst e;intro u hu;simp only [List.mem_singleton] at hu;subst hu;unfold gA at ha;split at ha;obtain ⟨a,rfl⟩:=ha;rfl;obtain ⟨cap,arr,rfl,_⟩:=ha;rfl
 | .pair a b,γ,o,cs,x,⟨c1,c2,e,h1,h2⟩=>by
  subst e;intro u hu;rcases List.mem_append.1 hu with hu|hu
  exact cf.mi a h1 u hu;exact cf.mi b h2 u hu
 | .st t,γ,o,cs,x,hr=>cf.mi t (o:=o) (cs:=cs) (x:=x) hr
 | .int k,_,_,cs,x,hr=>aR.mi (.int k) hr
 | .cD k,_,_,cs,x,hr=>aR.mi (.cD k) hr
 | .bool,_,_,cs,x,hr=>aR.mi .bool hr
 | .str,_,_,cs,x,hr=>aR.mi .str hr
 | .sl t,_,_,cs,x,hr=>aR.mi (.sl t) hr
 | .bx t,_,_,cs,x,hr=>aR.mi (.bx t) hr
 | .cl f t,_,_,cs,x,hr=>aR.mi (.cl f t) hr
theorem dw.mi {γ:List Nat→Option Nat}{t:Ty}{xs:List t.D}{arr:Array Value}(h:dw S w γ t xs arr){k:Nat}{u:Value}(hk:k<xs.length*t.size)(hu:arr[k]? =some u):u.oneCell'=true:=by
 have cY:=t.size_pos;have hi:k/t.size<xs.length:=Nat.div_lt_of_lt_mul (by rw [Nat.mul_comm];omega);obtain ⟨es,h1,h2⟩:=h (k/t.size) hi;have hj:k%t.size<es.length:=by rw [cf.len t h2];exact Nat.mod_lt _ cY
 have h3:=h1 (k%t.size) _ (List.getElem?_eq_getElem hj);have fR:k/t.size*t.size+k%t.size=k:=by rw [Nat.mul_comm];exact Nat.div_add_mod k t.size
 rw [fR,hu] at h3;injection h3 with h3;rw [h3];exact cf.mi t h2 _ (List.getElem_mem hj)
theorem dw.nil {γ:List Nat→Option Nat}{t:Ty}{arr:Array Value}:dw S w γ t ([]:List t.D) arr:=fun i hi=>by simp at hi
theorem dw.glue {γ γ1 γ2:List Nat→Option Nat}{t:Ty}{xs ys:List t.D}{arr1 mc aA:Array Value}(h1:dw S w γ1 t xs arr1)(h2:dw S w γ2 t ys mc)(k: ∀b,S b→S' b∧w'.heap[b]? =w.heap[b]?)(e1: ∀i p,i<xs.length→γ (i::p)=γ1 (i::p))(e2: ∀i p,γ ((xs.length+i)::p)=γ2 (i::p))(q1: ∀i p b,γ1 (i::p)=some b→w'.heap[b]? =w.heap[b]?)(q2: ∀i p b,γ2 (i::p)=some b→w'.heap[b]? =w.heap[b]?)(a1: ∀j v,j<xs.length*t.size→arr1[j]? =some v→aA[j]? =some v)(a2: ∀j v,j<ys.length*t.size→mc[j]? =some v→aA[xs.length*t.size+j]? =some v):dw S' w' γ t (xs++ys) aA:=by
 intro i hi;by_cases hx:i<xs.length;obtain ⟨es,k1,k2⟩:=h1 i hx;refine ⟨es,fun j v hv=>a1 _ v ?_ (k1 j v hv),?_⟩;have hj:j<t.size:=by rw [←cf.len t k2];exact (List.getElem?_eq_some_iff.1 hv).1
 have:(i+1)*t.size≤xs.length*t.size:=Nat.mul_le_mul_right _ hx;rw [Nat.succ_mul] at this;omega;rw [List.getElem_append_left hx,show (fun p=>γ (i::p))=fun p=>γ1 (i::p) from funext fun p=>e1 i p hx];exact cf.ar k t (fun p b hp=>q1 i p b hp) k2;obtain ⟨j0,rfl⟩: ∃j0,i=xs.length+j0:=⟨i - xs.length,by omega⟩;have hy:j0<ys.length:=by rw [List.length_append] at hi;omega
 obtain ⟨es,k1,k2⟩:=h2 j0 hy;refine ⟨es,fun j v hv=> ?_,?_⟩;have hj:j<t.size:=by rw [←cf.len t k2];exact (List.getElem?_eq_some_iff.1 hv).1
 have:(j0+1)*t.size≤ys.length*t.size:=Nat.mul_le_mul_right _ hy;rw [Nat.succ_mul] at this;have:=a2 _ v (by omega) (k1 j v hv);rw [Nat.add_mul,Nat.add_assoc];exact this;rw [List.getElem_append_right (by omega),show (fun p=>γ ((xs.length+j0)::p))=fun p=>γ2 (j0::p) from funext fun p=>e2 j0 p];simp only [Nat.add_sub_cancel_left];exact cf.ar k t (fun p b hp=>q2 j0 p b hp) k2
end
section
variable {cx:Cx} {g:GM} {st:St} {a:Act} {w w':World}
def Vy (o:Option Nat)(n:Nat)(γ1 γ2:List Nat→Option Nat):List Nat→Option Nat
 |[]=>o
 |i::p=>if i<n then γ1 (i::p) else γ2 ((i - n)::p)
def tg (g:GM)(m up:Mem)(γ:List Nat→Option Nat):Prop:= ∀p b,γ p=some b→ ∃c q lA,lk c up=some .gone∧lk c m=some lA∧lA.owns q∧g.f c q=some b
def Vz (w':World)(t:Ty)(xs ys:List t.D)(arr1 mc:Array Value):Option Nat→Prop
 |none=>xs++ys=[]
 |some b=> ∃aA,cg w' b aA∧(∀j v,j<xs.length*t.size→arr1[j]? =some v→aA[j]? =some v)∧(∀j v,j<ys.length*t.size→mc[j]? =some v→aA[xs.length*t.size+j]? =some v)
theorem nk.glue {e:bm}{up:Mem}{t:Ty}{xs ys:List t.D}{γ1 γ2:List Nat→Option Nat}{o:Option Nat}{val:Value}{F0:List Nat}{arr1 mc:Array Value}(h:bD cx g st a w)(hw:dK st.mem e.new)(he:e.new=[(st.nx,.seq t (xs++ys))]∧e.jU=up∧e.val= .one (.all st.nx))(oe:zC st.mem up)(h1:tg g st.mem up γ1)(h2:tg g st.mem up γ2)(i1: ∀p q b,γ1 p=some b→γ1 q=some b→p=q)(i2: ∀p q b,γ2 p=some b→γ2 q=some b→p=q)(dj: ∀p q b,γ1 p=some b→γ2 q=some b→False)(ho: ∀b,o=some b→γ1 []=some b∨(w.heap.size≤b∧b<w'.heap.size))(hk:aH F0 w w')(hF: ∀b∈F0,γ1 []=some b∧o=some b)(e1:dw (cx.safe g st.mem w) w γ1 t xs arr1)(e2:dw (cx.safe g st.mem w) w γ2 t ys mc)(hb:Vz w' t xs ys arr1 mc o)(hv:gA o w' t.size (xs++ys).length val):nk cx st a e val w':=by
 classical
 have jW:lk st.nx st.mem=none:=hw (st.nx,.seq t (xs++ys)) (by rw [he.1];simp);have R8: ∀p b,γ1 p=some b→b<w.heap.size:=fun p b hp=>by
  obtain ⟨c,q,lA,_,q2,q3,q4⟩:=h1 p b hp;exact h.lt c q lA b q2 q3 q4
 have VA: ∀p b,γ2 p=some b→b<w.heap.size:=fun p b hp=>by
  obtain ⟨c,q,lA,_,q2,q3,q4⟩:=h2 p b hp;exact h.lt c q lA b q2 q3 q4
 let γ:=Vy o xs.length γ1 γ2;have pY: ∀i p b,γ (i::p)=some b→(i<xs.length∧γ1 (i::p)=some b)∨(xs.length≤i∧γ2 ((i - xs.length)::p)=some b):=fun i p b hp=>by
  have hp:(if i<xs.length then γ1 (i::p) else γ2 ((i - xs.length)::p))=some b:=hp;split at hp;exact .inl ⟨by assumption,hp⟩;exact .inr ⟨by omega,hp⟩
 let G:=(List.range w.heap.size).filter fun b=>decide (∃p,γ p=some b);have Nd: ∀b,b∈G↔b<w.heap.size∧ ∃p,γ p=some b:=fun b=>by simp [G]
 have YS: ∀b,b∈F0→b∈G:=fun b hb=>(Nd b).2 ⟨R8 _ b (hF b hb).1,[],(hF b hb).2⟩;have VB:aH G w w':=⟨hk.os,hk.tape,hk.output,hk.size,fun b hb hn=>hk.block b hb fun hf=>hn (YS b hf),hk.sz⟩;have XL: ∀b,b<w.heap.size→b ∉ F0→w'.heap[b]? =w.heap[b]? :=hk.block;obtain ⟨g',iF,hs⟩:=h.newAt (ch:= .seq t (xs++ys)) (γ:=γ) jW oe VB (fun b hb=>by
  obtain ⟨hlt,p,hp⟩:=(Nd b).1 hb;cases p with
  |nil=>
   rcases ho b hp with hx|hx
   exact h1 _ b hx;omega
  |cons i p=>
   rcases pY i p b hp with ⟨_,hx⟩|⟨_,hx⟩
   exact h1 _ b hx;exact h2 _ b hx)
  (fun p b hp=>by
   have hlt:b<w'.heap.size:=by
    cases p with
    |nil=>
     rcases ho b hp with hx|hx
     exact Nat.lt_of_lt_of_le (R8 _ b hx) hk.size;exact hx.2
    |cons i p=>
     rcases pY i p b hp with ⟨_,hx⟩|⟨_,hx⟩
     exact Nat.lt_of_lt_of_le (R8 _ b hx) hk.size;exact Nat.lt_of_lt_of_le (VA _ b hx) hk.size
   refine ⟨hlt,?_⟩;by_cases hb:b<w.heap.size;exact .inr ((Nd b).2 ⟨hb,p,hp⟩);exact .inl (by omega))
  (fun p q b hp hq=>by
   have key: ∀i r,γ (i::r)=some b→o=some b→False:=fun i r hr Q3=>by
    rcases pY i r b hr with ⟨_,hx⟩|⟨_,hx⟩
    rcases ho b Q3 with hy|hy
    cases i1 _ _ b hx hy;have:=R8 _ b hx;omega;rcases ho b Q3 with hy|hy
    exact dj _ _ b hy hx;have:=VA _ b hx;omega
   cases p with
   |nil=>
    cases q with
    |nil=>rfl
    |cons j q=>exact (key j q hq hp).elim
   |cons i p=>
    cases q with
    |nil=>exact (key i p hp hq).elim
    |cons j q=>
     rcases pY i p b hp with ⟨l1,hx⟩|⟨l1,hx⟩
     rcases pY j q b hq with ⟨l2,hy⟩|⟨l2,hy⟩
     exact i1 _ _ b hx hy;exact (dj _ _ b hx hy).elim;rcases pY j q b hq with ⟨l2,hy⟩|⟨l2,hy⟩
     exact (dj _ _ b hy hx).elim;have:=i2 _ _ b hx hy;injection this with a1 a2;rw [a2,show i=j from by omega])
  (fun g' m' S' hS=>by
   show gU g' m' S' w' γ (.seq t (xs++ys));unfold gU;have Bz:γ []=o:=rfl;rw [Bz];cases DE:o with
   |none=>rw [DE] at hb;show xs++ys=[];exact hb
   |some b=>
    rw [DE] at hb;obtain ⟨aA,tR,oP,pZ⟩:=hb;refine ⟨aA,tR,dw.glue e1 e2 hS (fun i p hi=>if_pos hi) (fun i p=> ?_) (fun i p b' hp=>XL b' (R8 _ b' hp) fun hf=> ?_) (fun i p b' hp=>XL b' (VA _ b' hp) fun hf=> ?_) oP pZ⟩;show (if xs.length+i<xs.length then γ1 ((xs.length+i)::p) else γ2 ((xs.length+i - xs.length)::p))=_;rw [if_neg (by omega),Nat.add_sub_cancel_left];cases i1 _ _ b' hp (hF b' hf).1;exact dj _ _ b' (hF b' hf).1 hp)
 refine ⟨g',?_,?_⟩;rw [he.1,he.2.1];exact hs;rw [he.1,he.2.1,he.2.2];have hl:lk st.nx (up++[(st.nx,.seq t (xs++ys))]++st.mem)=some (.seq t (xs++ys)):=by
  rw [List.append_assoc,a8];cases hu:lk st.nx up with
  |none=>simp [aw]
  |some c0=>exact absurd jW (oe.lk hu).2
 refine ⟨by rw [hl];simp,?_,fun t' bF dB=> ?_⟩;unfold gA at hv;cases o with
 |none=>obtain ⟨a,rfl⟩:=hv;rfl
 |some b=>obtain ⟨cap,arr,rfl,_⟩:=hv;rfl
 have dB:=cz.toSeq hl dB;rw [hl] at dB;injection dB with dB;injection dB with ht sP;subst ht;have sP:=eq_of_heq sP;subst sP;rw [show g' st.nx=o from by show g'.f st.nx []=o;rw [iF];rfl];exact hv
theorem Fx (h:bD cx g st a w){c:Nat}{t:Ty}{xs:List t.D}{v:Value}(hl:lk c st.mem=some (.seq t xs))(hr:CR g st.mem (cx.safe g st.mem w) w (.all c) v):
 (xs=[]∧g.f c []=none∧ ∃ab,v= .slice ab 0 0)∨ ∃b cap arr,g.f c []=some b∧v= .slice (some ⟨b,0,none⟩) xs.length cap∧xs.length≤cap∧cg w b arr∧cap*t.size≤arr.size∧cap≤maxLen∧dw (cx.safe g st.mem w) w (g.f c) t xs arr:=by
 have bK:=h.mem c _ hl;unfold gU at bK;have hv:=hr.2.2 t xs (.inl hl);cases hg:g.f c [] with
 |none=>
  rw [hg] at bK;have hv:gA (g.f c []) w t.size xs.length v:=hv;rw [hg] at hv;exact .inl ⟨bK,rfl,hv⟩
 |some b=>
  rw [hg] at bK;have hv:gA (g.f c []) w t.size xs.length v:=hv;rw [hg] at hv;obtain ⟨arr,hb,fA⟩:=bK;obtain ⟨cap,aA,e,q1,q2,q3,q4⟩:=hv;have:=cg.eq hb q2;subst this;exact .inr ⟨b,cap,arr,rfl,e,q1,hb,q3,q4,fA⟩
theorem Ij (h:bD cx g st a w){c:Nat}{t:Ty}{xs:List t.D}{v:Value}(hl:lk c st.mem=some (.seq t xs))(hr:CR g st.mem (cx.safe g st.mem w) w (.all c) v):
 ∃(ax:Option Addr) (vb:Nat) (news:List Value) (arr:Array Value),v= .slice ax xs.length vb∧news.length=xs.length*t.size∧(xs.length=0∨ ∃ad,ax=some ad∧ ∀j u,news[j]? =some u→w.cell? (ad.add j)=some u)∧
  dw (cx.safe g st.mem w) w (g.f c) t xs arr∧(∀j u,j<xs.length*t.size→arr[j]? =some u→news[j]? =some u)∧ ∀u∈news,u.oneCell'=true:=by
 rcases Fx h hl hr with ⟨rfl,_,ab,rfl⟩|⟨b,cap,arr,hg,rfl,hn,hb,gC,_,fA⟩
 exact ⟨ab,0,[],#[],rfl,by simp,.inl rfl,dw.nil,fun j u hj=>by simp at hj,fun u hu=>by simp at hu⟩;have hle:xs.length*t.size≤arr.size:=Nat.le_trans (Nat.mul_le_mul_right _ hn) gC;refine ⟨_,cap,arr.toList.take (xs.length*t.size),arr,rfl,by simp;omega,.inr ⟨_,rfl,fun j u hu=> ?_⟩,fA,fun j u hj hu=> ?_,fun u hu=> ?_⟩;rw [aX,Nat.zero_add,hb.cell];rw [List.getElem?_take] at hu;split at hu;simpa using hu;cases hu;rw [List.getElem?_take,if_pos hj];simpa using hu;obtain ⟨k,hk,e⟩:=List.getElem_of_mem hu;have fR:k<xs.length*t.size:=by simp at hk;omega
 refine fA.mi fR ?_;rw [←e,List.getElem_take,Array.getElem_toList,Array.getElem?_eq_getElem]
theorem ud (h:bD cx g st a w){c:Nat}{t:Ty}{xs:List t.D}{up:Mem}(hl:lk c st.mem=some (.seq t xs))(hu:lk c up=some .gone):tg g st.mem up (g.f c):=
 fun p _ hp=>⟨c,p,_,hu,hl,trivial,hp⟩
theorem BD {T T':TypeId}{ty:TypeId}{t:Ty}{s x:au}{e:bm}{sv xv:Value}(h:bD cx g st a w)(hw:dK st.mem e.new)(he:yT cx.P st.mem st.nx T T' t s x=some e)(hc:aS e.cond)(hs:VR g st.mem (cx.safe g st.mem w) w s sv)(hx:VR g st.mem (cx.safe g st.mem w) w x xv):gd cx st a w (Builtin.append_ #[T,T'] ty #[sv,xv]) e:=by
 unfold yT at he;split at he;rename_i el s c2 hu;split at he;rename_i i t2 ys hi A4;cases hb:(((Nat.beq T T'&&Nat.beq i.size t.size)&&(Nat.ble i.bytes 32768&&i.zero.isSome))&&(i.zero.map fun z=>Nat.beq z.cells.size t.size).getD false) with
 |false=>rw [hb] at he;cases he
 |true=>
  rw [hb] at he;simp only [cond_true] at he;simp only [Bool.and_eq_true] at hb;obtain ⟨⟨⟨hT,cY⟩,xX,RD⟩,Fg⟩:=hb;have hT:=aO hT;subst hT;have cY:=aO cY;have xX:=gB xX;obtain ⟨z,hz⟩:=Option.isSome_iff_exists.1 RD;rw [hz] at Fg;have Fg:z.cells.size=t.size:=aO (by simpa using Fg);split at he;rename_i ht;subst ht;obtain ⟨ax,vb,news,mc,rfl,xY,Hw,Fy,rk,VC⟩:=Ij h A4 hx;have Oq:news.length=ys.length*i.size:=by rw [cY];exact xY
  have grow: ∀(base:Option Addr) (cap:Nat) (xs:List t2.D) (γ1:List Nat→Option Nat) (arr1:Array Value) (olds:List Value) (up:Mem) (cond:List Prop),xs.length+ys.length≤4294967296→olds.length=xs.length*i.size→(xs.length=0∨ ∃ad,base=some ad∧ ∀j v,olds[j]? =some v→w.cell? (ad.add j)=some v)→
   (∀j v,j<xs.length*t2.size→arr1[j]? =some v→olds[j]? =some v)→dw (cx.safe g st.mem w) w γ1 t2 xs arr1→zC st.mem up→tg g st.mem up γ1→tg g st.mem up (g.f c2)→
   (∀p q b,γ1 p=some b→γ1 q=some b→p=q)→(∀p q b,γ1 p=some b→g.f c2 q=some b→False)→cap<xs.length+ys.length→dK st.mem [(st.nx,Chunk.seq t2 (xs++ys))]→
   gd cx st a w (Builtin.append_ #[T,T] ty #[.slice base xs.length cap,.slice ax ys.length vb]) ⟨.one (.all st.nx),[(st.nx,.seq t2 (xs++ys))],up,cond⟩:=by
   intro base cap xs γ1 arr1 olds up cond hlen Fh ho YT R9 oe M8 H3 Vf LG hlt hw;have rN:(xs.length+ys.length)*i.bytes≤140737488355328:=by
    calc (xs.length+ys.length)*i.bytes≤4294967296*32768:=Nat.mul_le_mul hlen xX
     _=140737488355328:=by decide
   have pL:=grownCap_ge w (xs.length+ys.length) cap el;have Fi:=grownCap_le_maxLen w (xs.length+ys.length) cap el (by unfold maxLen;omega);have hr:=sQ (P:=cx.P) (ty:=ty) (c:=vb) hu hi hz Fh ho Oq Hw hlt rN (by omega);have df:aH [] w (w.drew.alloc (.cells (olds.toArray++news.toArray++Builtin.zeroCells z.cells (grownCap w (xs.length+ys.length) cap el - (xs.length+ys.length))) el)):=
    (aH.drew [] w).trans (aH.alloc _ _ _)
   have cm:=cg.new w.drew (olds.toArray++news.toArray++Builtin.zeroCells z.cells (grownCap w (xs.length+ys.length) cap el - (xs.length+ys.length))) el;rw [cY] at Fh;refine ⟨_,_,hr,?_⟩;refine nk.glue (o:=some w.heap.size) (F0:=[]) h hw ⟨rfl,rfl,rfl⟩ oe M8 H3 Vf (fun p q b hp hq=>(h.eH c2 c2 p q _ _ b A4 trivial A4 trivial hp hq).2) LG (fun b hb=> ?_) df (fun b hb=>by simp at hb) R9 Fy ⟨_,cm,fun j v hj hv=> ?_,fun j v hj hv=> ?_⟩ ?_;injection hb with hb;subst hb;exact .inr ⟨Nat.le_refl _,cm.lt⟩;have:=YT j v hj hv;rw [Array.append_assoc,Array.getElem?_append_left (by simp;omega)];simpa using this;have:=rk j v hj hv;rw [Array.append_assoc,Array.getElem?_append_right (by simp;omega),Array.getElem?_append_left (by simp;omega)];simpa [Fh] using this;refine ⟨grownCap w (xs.length+ys.length) cap el,_,?_,by rw [List.length_append];exact pL,cm,?_,Fi⟩;rw [List.length_append];simp only [Array.size_append,List.size_toArray,size_zeroCells,Fg,Fh,xY,←Nat.add_mul];exact Nat.mul_le_mul_right _ (by omega)
  split at he;injection he with he;subst he;have hlen:ys.length≤4294967296:=by have:=hc.1;unfold av at this;omega
  have oe:zC st.mem [(c2,Chunk.gone)]:=fun p hp=>by simp at hp;subst hp;exact ⟨rfl,by rw [A4];simp⟩
  have Ui:tg g st.mem [(c2,Chunk.gone)] (fun _=>none):=fun p b hp=>by cases hp
  have H3:tg g st.mem [(c2,Chunk.gone)] (g.f c2):=ud h A4 (by simp [aw]);obtain ⟨ab,rfl⟩:=(show∃a,sv= .slice a 0 0 from hs);by_cases hy:ys.length=0;have Lh:ys=[]:=List.eq_nil_of_length_eq_zero hy;subst Lh;refine ⟨_,_,oU (P:=cx.P) hu hi,?_⟩;exact nk.glue (t:=t2) (xs:=[]) (ys:=[]) (o:=none) (F0:=[]) (γ1:=fun _=>none) (arr1:= #[]) h hw ⟨rfl,rfl,rfl⟩ oe Ui H3 (fun _ _ _ hp=>by cases hp) (fun p q b hp hq=>(h.eH c2 c2 p q _ _ b A4 trivial A4 trivial hp hq).2) (fun _ _ _ hp=>by cases hp) (fun b hb=>by cases hb) (aH.refl _ _) (fun b hb=>by simp at hb) dw.nil Fy rfl ⟨ab,rfl⟩;exact grow ab 0 [] (fun _=>none) #[] [] _ _ (by simpa using hlen) (by simp) (.inl rfl) (fun j v hj=>by simp at hj) dw.nil oe Ui H3 (fun _ _ _ hp=>by cases hp) (fun _ _ _ hp=>by cases hp) (by simp;omega) hw;rename_i c;split at he;rename_i t1 xs KY;split at he;rename_i Ot;subst Ot;cases Fq:(!(Nat.beq c c2)) with
  |false=>rw [Fq] at he;cases he
  |true=>
   rw [Fq] at he;simp only [cond_true] at he;injection he with he;subst he;have hw:dK st.mem [(st.nx,Chunk.seq t1 (xs++ys))]:=hw;show gd cx st a w _ (⟨.one (.all st.nx),[(st.nx,.seq t1 (xs++ys))],[(c,.gone),(c2,.gone)],[List.length xs+List.length ys≤av]⟩:bm);have cX:c≠c2:=fun e=>by subst e;simp at Fq
   have hlen:xs.length+ys.length≤4294967296:=hc.1;have oe:zC st.mem [(c,Chunk.gone),(c2,Chunk.gone)]:=fun p hp=>by
    simp at hp;rcases hp with rfl|rfl
    exact ⟨rfl,by rw [KY];simp⟩;exact ⟨rfl,by rw [A4];simp⟩
   have M8:tg g st.mem [(c,Chunk.gone),(c2,Chunk.gone)] (g.f c):=ud h KY (by simp [aw]);have H3:tg g st.mem [(c,Chunk.gone),(c2,Chunk.gone)] (g.f c2):=ud h A4 (by rw [aw,if_neg (fun e=>cX e.symm)];simp [aw]);have QX: ∀p q b,g.f c p=some b→g.f c q=some b→p=q:=fun p q b hp hq=>(h.eH c c p q _ _ b KY trivial KY trivial hp hq).2;have DB: ∀p q b,g.f c2 p=some b→g.f c2 q=some b→p=q:=fun p q b hp hq=>(h.eH c2 c2 p q _ _ b A4 trivial A4 trivial hp hq).2;have LG: ∀p q b,g.f c p=some b→g.f c2 q=some b→False:=fun p q b hp hq=>cX (h.eH c c2 p q _ _ b KY trivial A4 trivial hp hq).1;rcases Fx h KY hs with ⟨rfl,hg,ab,rfl⟩|⟨b,cap,arr,hg,rfl,hn,cm,gC,zu,fA⟩
   by_cases hy:ys.length=0;have Lh:ys=[]:=List.eq_nil_of_length_eq_zero hy;subst Lh;refine ⟨_,_,oU (P:=cx.P) hu hi,?_⟩;exact nk.glue (t:=t1) (xs:=[]) (ys:=[]) (o:=none) (F0:=[]) (γ1:=g.f c) (arr1:= #[]) h hw ⟨rfl,rfl,rfl⟩ oe M8 H3 QX DB LG (fun b hb=>by cases hb) (aH.refl _ _) (fun b hb=>by simp at hb) dw.nil Fy rfl ⟨ab,rfl⟩;exact grow ab 0 [] (g.f c) #[] [] _ _ hlen (by simp) (.inl rfl) (fun j v hj=>by simp at hj) dw.nil oe M8 H3 QX LG (Nat.lt_of_lt_of_eq (Nat.pos_of_ne_zero hy) (Nat.zero_add _).symm) hw;have hle:xs.length*t1.size≤arr.size:=Nat.le_trans (Nat.mul_le_mul_right _ hn) gC;by_cases iU:xs.length+ys.length≤cap;have pS:(xs.length+ys.length)*i.size≤arr.size:=by rw [cY];exact Nat.le_trans (Nat.mul_le_mul_right _ iU) gC
   obtain ⟨w',aA,hr,iE,dB,dS,db⟩:=sR (P:=cx.P) (ty:=ty) hu hi cm (c:=vb) Oq Hw VC iU pS;refine ⟨_,_,hr,?_⟩;have aM: ∀k,aA[k]? =(arr.toList.take (xs.length*i.size)++news++arr.toList.drop (xs.length*i.size+news.length))[k]? :=fun k=>by rw [←dB,Array.getElem?_toList]
   have Nf:(arr.toList.take (xs.length*t1.size)).length=xs.length*t1.size:=by simp;omega
   rw [cY] at aM;refine nk.glue (o:=some b) (F0:=[b]) h hw ⟨rfl,rfl,rfl⟩ oe M8 H3 QX DB LG (fun b' oP=>by injection oP with oP;subst oP;exact .inl hg) dS (fun b' oP=>by simp at oP;subst oP;exact ⟨hg,rfl⟩) fA Fy ⟨aA,iE,fun j v hj hv=> ?_,fun j v hj hv=> ?_⟩ ?_;rw [aM,List.append_assoc,List.getElem?_append_left (by omega),List.getElem?_take,if_pos hj];simpa using hv;rw [aM,List.append_assoc,List.getElem?_append_right (by omega),Nf,Nat.add_sub_cancel_left,List.getElem?_append_left (by omega)];exact rk j v hj hv;refine ⟨cap,aA,by rw [List.length_append],by rw [List.length_append];exact iU,iE,?_,zu⟩;have:aA.size=arr.size:=by
    rw [←Array.length_toList,dB];simp;rw [cY] at pS Oq⊢;rw [Nat.add_mul] at pS;omega
   omega;refine grow _ cap xs (g.f c) arr (arr.toList.take (xs.length*t1.size)) _ _ hlen (by rw [cY];simp;omega) (.inr ⟨_,rfl,fun j v hv=> ?_⟩) (fun j v hj hv=> ?_) fA oe M8 H3 QX LG (by omega) hw;rw [aX,Nat.zero_add,cm.cell];rw [List.getElem?_take] at hv;split at hv;simpa using hv;cases hv;rw [List.getElem?_take,if_pos hj];simpa using hv
  cases he;cases he;cases he;cases he
 cases he;cases he
def VD (g:GM)(b:Nat)(cells:List aq):List Nat→Option Nat
 |[]=>some b
 |i::o::r=>if i=0 then (match cells[o]? with
  |some (.all k)=>g.f k r
  |_=>none) else none
 |_=>none
theorem yl {T:TypeId}{t:Ty}{len:Nat}{parts:List (Nat×au)}{vparts:Array (Nat×Value)}{e:bm}(h:bD cx g st a w)(hw:dK st.mem e.new)(he:qQ cx.P st.mem st.nx T t len parts=some e)(hp:aK (fun (p:Nat×au) (q:Nat×Value)=>p.1=q.1∧VR g st.mem (cx.safe g st.mem w) w p.2 q.2) parts vparts.toList):gd cx st a w (Instr.buildSlice T len vparts) e:=by
 classical
 unfold qQ at he;split at he;rename_i el v hu;cases hb:((cc cx.P el==some t.size&&(((cx.P.info? el).bind (·.zero)).map fun z=>Nat.beq z.cells.size t.size)==some true)&&(Nat.beq len 1&&Nat.ble t.size 65536)&&v.ok) with
 |false=>rw [hb] at he;cases he
 |true=>
  rw [hb] at he;simp only [cond_true] at he;simp only [Bool.and_eq_true,beq_iff_eq] at hb;obtain ⟨⟨⟨hs,hz⟩,hn,Lq⟩,jz⟩:=hb;have hn:=aO hn;have Lq:=gB Lq;subst hn;split at he;rename_i x ks Uj;cases lJ:iX ks with
  |false=>rw [lJ] at he;cases he
  |true=>
   rw [lJ] at he;simp only [cond_true] at he;injection he with he;subst he;have lJ:=fW lJ;obtain ⟨va,YU,YV⟩: ∃va,vparts.toList=[(0,va)]∧VR g st.mem (cx.safe g st.mem w) w v va:=by
    cases hq:vparts.toList with
    |nil=>rw [hq] at hp;exact hp.elim
    |cons q r=>
     rw [hq] at hp;obtain ⟨⟨h1,h2⟩,h3⟩:=hp;cases r with
     |nil=>
      obtain ⟨j,va⟩:=q;have h1:0=j:=h1;subst h1;exact ⟨va,rfl,h2⟩
     |cons=>exact h3.elim
   have jW:lk st.nx st.mem=none:=hw (st.nx,.seq t [x]) (by simp);obtain ⟨vs,gL,aP⟩:=iG jz YV;obtain ⟨c1,hcs,A5,Sa,yb⟩:=uK t Uj;rw [List.append_nil] at hcs;have ma:va.cells.size=t.size:=by rw [←Array.length_toList,gL,←aP.length,hcs,A5]
   cases hi:cx.P.info? el with
   |none=>simp [cc,hi] at hs
   |some i=>
    rw [hi] at hz;simp only [Option.bind_some] at hz;cases zE:i.zero with
    |none=>simp [zE] at hz
    |some z=>
     rw [zE] at hz;have hz:Nat.beq z.cells.size t.size=true:=by simpa using hz
     have hz:=aO hz;have XM:=t.size_pos;let base:Array Value:=(Array.range t.size).map fun k=>z.cells[k%z.cells.size]!;have QS:base.size=t.size:=by simp [base]
     let aA:Array Value:=va.cells.zipIdx.foldl (fun cs (p:Value×Nat)=>cs.setIfInBounds (0+p.2) p.1) base;have pR:aA.toList=va.cells.toList:=by
      have:=qE 0 va.cells.toList 0 base (by rw [Array.length_toList];omega);show (va.cells.zipIdx.foldl (fun cs (p:Value×Nat)=>cs.setIfInBounds (0+p.2) p.1) base).toList=_;rw [←Array.foldl_toList,Array.toList_zipIdx];have h2:base.toList.drop (0+va.cells.toList.length)=[]:=List.drop_of_length_le (by rw [Array.length_toList,Array.length_toList];omega);refine this.trans ?_;rw [h2];simp
     have fS:(Instr.buildSlice T 1 vparts).run cx.P w= .ok (.slice (some ⟨w.heap.size,0,none⟩) 1 1) (w.alloc (.cells aA el)):=by
      have Dv: ¬(16777216<t.size):=by omega
      have h0: ¬(t.size=0):=by omega
      have e1:Instr.fill (fun j=>some (j*t.size,t.size)) base vparts.toList=some aA:=by
       rw [YU];simp only [Instr.fill];rw [if_neg (by simp;omega)];simp [aA]
      have Fj:Instr.fill (fun j=>some (j*t.size,t.size)) ((Array.range (1*t.size)).map fun k=>z.cells[k%z.cells.size]!) vparts.toList=some aA:=by
       rw [Nat.one_mul];exact e1
      simp only [Instr.buildSlice,Sem.run_bind,run_underlying hu,Result.andThen_ok,bw hs];simp [h0,Dv,zeroValue,typeInfo,hi,zE] at Fj⊢;simp [Fj,newRow]
     refine ⟨_,_,fS,?_⟩;have cm:=cg.new w aA el;have df:aH [] w (w.alloc (.cells aA el)):=aH.alloc _ _ _;let γ:=VD g w.heap.size v.cells;let up:Mem:=ks.map fun k=>(k,Chunk.gone);have VE: ∀k,k∈ks→lk k up=some .gone:=fun k hk=>by
      have:=BA (k:=k) (m:=[]) (ls:=ks);rw [List.append_nil,if_pos hk] at this;exact this
     have oe:zC st.mem up:=fun p hp=>by
      obtain ⟨k,hk,rfl⟩:=List.mem_map.1 hp;obtain ⟨t',bF,e1⟩:=yb k hk;exact ⟨rfl,by rw [e1];simp⟩
     have pY: ∀i p b,γ (i::p)=some b→i=0∧ ∃o r k,p=o::r∧v.cells[o]? =some (.all k)∧g.f k r=some b:=fun i p b hp=>by
      cases p with
      |nil=>cases hp
      |cons o r=>
       have hp:(if i=0 then (match v.cells[o]? with
        |some (.all k)=>g.f k r
        |_=>none) else none)=some b:=hp
       split at hp;rename_i hi;split at hp;rename_i k hk;exact ⟨hi,o,r,k,rfl,hk,hp⟩;cases hp;cases hp
     have zA: ∀(o k:Nat),v.cells[o]? =some (aq.all k)→k∈ks:=fun o k hk=>by
      rw [Sa];rw [hcs] at hk;exact mn hk
     have hlt: ∀i p b,γ (i::p)=some b→b<w.heap.size:=fun i p b hp=>by
      obtain ⟨_,o,r,k,_,hk,hg⟩:=pY i p b hp;obtain ⟨t',bF,e1⟩:=yb k (zA o k hk);exact h.lt k r _ b e1 trivial hg
     let G:=(List.range w.heap.size).filter fun b=>decide (∃p,γ p=some b);have Nd: ∀b,b∈G↔b<w.heap.size∧ ∃p,γ p=some b:=fun b=>by simp [G]
     have VB:aH G w (w.alloc (.cells aA el)):=⟨df.os,df.tape,df.output,df.size,fun b hb _=>df.block b hb (by simp),df.sz⟩;obtain ⟨g',iF,DL⟩:=h.newAt (ch:= .seq t [x]) (γ:=γ) jW oe VB (fun b hb=>by
      obtain ⟨hl,p,hp⟩:=(Nd b).1 hb;cases p with
      |nil=>
       have hp:some w.heap.size=some b:=hp;injection hp with hp;omega
      |cons i p=>
       obtain ⟨_,o,r,k,_,hk,hg⟩:=pY i p b hp;have od:=zA o k hk;obtain ⟨t',bF,e1⟩:=yb k od;exact ⟨k,r,_,VE k od,e1,trivial,hg⟩)
      (fun p b hp=>by
       cases p with
       |nil=>
        have hp:some w.heap.size=some b:=hp;injection hp with hp;subst hp;exact ⟨cm.lt,.inl (Nat.le_refl _)⟩
       |cons i p=>
        have:=hlt i p b hp;exact ⟨Nat.lt_of_lt_of_le this df.size,.inr ((Nd b).2 ⟨this,_,hp⟩)⟩)
      (fun p q b hp hq=>by
       cases p with
       |nil=>
        cases q with
        |nil=>rfl
        |cons j q=>
         have hp:some w.heap.size=some b:=hp;injection hp with hp;have:=hlt j q b hq;omega
       |cons i p=>
        cases q with
        |nil=>
         have hq:some w.heap.size=some b:=hq;injection hq with hq;have:=hlt i p b hp;omega
        |cons j q=>
         obtain ⟨e1,o,r,k,rfl,hk,hg⟩:=pY i p b hp;obtain ⟨e2,o',r',k',rfl,dS,gb⟩:=pY j q b hq;obtain ⟨t1,Uk,f1⟩:=yb k (zA o k hk);obtain ⟨t2,xs2,f2⟩:=yb k' (zA o' k' dS);obtain ⟨g1,g2⟩:=h.eH k k' r r' _ _ b f1 trivial f2 trivial hg gb;subst g1 g2 e1 e2;have:o=o':=sZ (cs:=v.cells) (by rw [hcs,←Sa];exact lJ) hk dS;rw [this])
      (fun g' m' S' hS=>by
       show gU g' m' S' (w.alloc (.cells aA el)) γ (.seq t [x]);refine ⟨aA,cm,fun q hq=> ?_⟩;have Vr:q=0:=by simp at hq;exact hq
       subst Vr;obtain ⟨v1,v2,ev,lr,Oa⟩:=Gz h.mem (S2:=cx.safe g st.mem w) (fun _ hb=>hb) t (γ:=fun p=>γ (0::p)) (o:=0) Uj aP (fun q hq k hk p=>by
        show (if 0=0 then (match v.cells[0+q]? with
         |some (.all k)=>g.f k p
         |_=>none) else none)=_
        rw [if_pos rfl,Nat.zero_add,hk]) (fun q hq hk=>by
        show (if 0=0 then (match v.cells[0+q]? with
         |some (.all k)=>g.f k []
         |_=>none) else none)=_
        rw [if_pos rfl,Nat.zero_add,hk])
       have:v2=[]:=by cases v2 with|nil=>rfl|cons=>exact Oa.elim
       subst this;rw [List.append_nil] at ev;subst ev;refine ⟨vs,fun j u hu=> ?_,cf.ar hS t (fun p b hp=>df.block b (hlt _ _ b hp) (by simp)) lr⟩;rw [Nat.zero_mul,Nat.zero_add,←Array.getElem?_toList,pR,gL];exact hu)
     refine ⟨g',DL,?_⟩;have hl:lk st.nx (up++[(st.nx,.seq t [x])]++st.mem)=some (.seq t [x]):=by
      rw [List.append_assoc,a8];cases hq:lk st.nx up with
      |none=>simp [aw]
      |some c0=>exact absurd jW (oe.lk hq).2
     refine ⟨by rw [hl];simp,rfl,fun t' bF dB=> ?_⟩;have dB:=cz.toSeq hl dB;rw [hl] at dB;injection dB with dB;injection dB with ht sP;subst ht;have sP:=eq_of_heq sP;subst sP;rw [show g' st.nx=some w.heap.size from by show g'.f st.nx []=_;rw [iF];rfl];refine ⟨1,aA,rfl,Nat.le_refl _,cm,?_,by unfold maxLen;omega⟩;rw [←Array.length_toList,pR,Array.length_toList,ma];omega
  cases he
 cases he
theorem wz {T T':TypeId}{ty:TypeId}{t:Ty}{s x:au}{e:bm}{sv xv:Value}(h:bD cx g st a w)(hw:dK st.mem e.new)(he:oC cx.P st.mem st.nx T T' t s x=some e)(hc:aS e.cond)(hs:VR g st.mem (cx.safe g st.mem w) w s sv)(hx:VR g st.mem (cx.safe g st.mem w) w x xv):gd cx st a w (Builtin.append_ #[T,T'] ty #[sv,xv]) e:=by
 unfold oC at he;cases ht:t.top with
 |true=>rw [ht] at he;exact xW h hw he hc hs hx
 |false=>rw [ht] at he;exact BD h hw he hc hs hx
theorem ym {T:TypeId}{t:Ty}{len:Nat}{parts:List (Nat×au)}{vparts:Array (Nat×Value)}{e:bm}(h:bD cx g st a w)(hw:dK st.mem e.new)(he:qR cx.P st.mem st.nx T t len parts=some e)(hp:aK (fun (p:Nat×au) (q:Nat×Value)=>p.1=q.1∧VR g st.mem (cx.safe g st.mem w) w p.2 q.2) parts vparts.toList):gd cx st a w (Instr.buildSlice T len vparts) e:=by
 unfold qR at he;cases ht:t.top with
 |true=>rw [ht] at he;exact sT h hw he hp
 |false=>rw [ht] at he;exact yl h hw he hp
end
end Go.Ide
namespace Go.Ide
def Ik (fr:Fr):List Operand→Option (List au)
 |[]=>some []
 |x::r=>match ev fr x,Ik fr r with
  |some v,some l=>some (v::l)
  |_,_=>none
def K1 (fr:Fr):Option Operand→Option (Option au)
 |none=>some none
 |some x=>match ev fr x with
  |some v=>some (some v)
  |none=>none
def BE (P:Program)(m:Mem)(T:TypeId)(x:au):Option bm:=
 match P.underlying T,x with
 |some .string,.one (.aB .str _)=>rJ m x
 |some (.slice _),.one (.aB (.sl _) _)=>rJ m x
 |some (.slice _),.one (.all _)=>rJ m x
 |some (.slice _),.one (.ref _ _ _)=>rJ m x
 |some (.slice _),.one (.row _ _ _)=>rJ m x
 |some (.slice _),.one .az=>rJ m x
 |_,_=>none
def zS (P:Program)(T:TypeId)(x i:au):Option bm:=
 match P.underlying T,x,i with
 |some .string,.one (.aB .str s),.one (.aB (.int _) n)=>
  fj (.one (.aB (.int .u8) ((((List.getD s (Int.toNat n) 0:UInt8).toNat:Nat)):Int))) [(0:Int)≤n∧n<((List.length s:Nat):Int)]
 |_,_,_=>none
def Ou (x:au):Option bm:=
 match x with
 | .one (.ptr c off)=>bn (.one (.ptr c off))
 | .one (.ip t y off)=>bn (.one (.ip t y off))
 | .one (.bT c i sz off)=>bn (.one (.bT c i sz off))
 | .one (.xS c i o j sz off)=>bn (.one (.xS c i o j sz off))
 |_=>none
def oD (P:Program)(fr:Fr)(m:Mem)(nx:Nat)(h:Hint)(b:Builtin)(args:List Operand)(ts:List TypeId):Option bm:=
 match b,args,ts with
 | .len,[x],[T]=>(match ev fr x with
  |some v=>BE P m T v
  |none=>none)
 | .append,[s,x],[T,T']=>(match h,ev fr s,ev fr x with
  | .ty t,some sv,some xv=>oC P m nx T T' t sv xv
  | .no,some sv,some xv=>oA P m nx T T' sv xv
  | .Rs t,some sv,some xv=>wq P nx T T' t sv xv
  |_,_,_=>none)
 | .min,[x,y],_=>(match ev fr x,ev fr y with
  |some xv,some yv=>(match Ug false xv yv with
   |some e=>some e
   |none=>N1 xv yv)
  |_,_=>none)
 | .max,[x,y],_=>(match ev fr x,ev fr y with
  |some xv,some yv=>(match Ug true xv yv with
   |some e=>some e
   |none=>N2 xv yv)
  |_,_=>none)
 | .copy,[x,y],[T,_]=>(match ev fr x,ev fr y with
  |some xv,some yv=>yS P m T xv yv
  |_,_=>none)
 | .cap,[x],[T]=>(match ev fr x,P.underlying T with
  |some (.one .az),some (.slice _)=>bn (.one (.aB (.int .i64) (0:Int)))
  |_,_=>none)
 |_,_,_=>none
def Sb (f:FuncId)(vs:List au):Option bm:=
 match vs with
 |[.one (.ip t x 0)]=>bn (.one (.lK f t x))
 |_=>none
def Ty.ue:Ty→Bool
 | .pair _ _=>true
 |_=>false
def LH:List au→Option TD
 |[]=>none
 | .one (.ip t x 0)::r=>(match r with
  |[]=>bif t.ue then none else some ⟨t,x⟩
  |_=>(match LH r with
   |some d=>some ⟨.pair t d.t,(x,d.x)⟩
   |none=>none))
 |_=>none
def XN (f:FuncId)(vs:List au):Option bm:=
 match LH vs with
 |some d=>bn (.one (.aB (.cl f d.t) d.x))
 |none=>none
def GC:(t:Ty)→t.D→List au
 | .pair a b,x=> .one (.ip a x.1 0)::GC b x.2
 |t,x=>[.one (.ip t x 0)]
def Fz (P:Program)(k:FuncId)(fk:FloatKind)(ik:IntKind):Prop:=
 ∀(b:Nat) (w:World),(callFunc k #[.float fk b]).run P w= .ok (.value (.int ik b)) w
def vA (P:Program)(fr:Fr)(m:Mem)(nx:Nat)(h:Hint)(o:Oper):Option bm:=
 match o.op with
 | .move x=>(match ev fr x with
  |some v=>bn v
  |none=>none)
 | .assign x=>(match ev fr x with
  |some v=>bn v
  |none=>none)
 | .pick c x y=>(match ev fr c with
  |some (.one (.aB .bool b))=>(match ev fr (bif b then x else y) with
   |some v=>bn v
   |none=>none)
  |_=>none)
 | .alloc T=>(match h with
  | .ty t=>zy P nx T t
  |_=>Df P nx T)
 | .box _ x=>(match ev fr x with
  |some v=>(match h with
   | .ty t=>HV nx t v
   |_=>Li nx v)
  |none=>none)
 | .build T parts=>(match xO fr parts.toList with
  |some vs=>Dg P T vs
  |none=>none)
 | .buildSlice T len parts=>(match h,xO fr parts.toList with
  | .ty t,some vs=>qR P m nx T t len vs
  | .Rs t,some vs=>oY P nx T t len vs
  | .no,some vs=>Dh P T len vs
  |_,_=>none)
 | .load T x=>(match ev fr x with
  |some v=>pX P m nx h T v
  |none=>none)
 | .store T x y=>(match ev fr x,ev fr y with
  |some xv,some yv=>qP P m nx h T xv yv
  |_,_=>none)
 | .nilCheck x=>(match ev fr x with
  |some v=>Ou v
  |none=>none)
 | .binOp op T x y _=>(match ev fr x,ev fr y with
  |some xv,some yv=>yP P T op xv yv
  |_,_=>none)
 | .unOp op _ x=>(match ev fr x with
  |some v=>LB op v
  |none=>none)
 | .convert T U x=>(match ev fr x with
  |some v=>mw P m nx T U v
  |none=>none)
 | .makeSlice T l c=>(match h,ev fr l,ev fr c with
  | .ty t,some lv,some cv=>rK P nx T t lv cv
  |_,_,_=>none)
 | .slice T x lo hi none=>(match ev fr x,K1 fr lo,K1 fr hi with
  |some v,some l,some h=>rL P m T v l h
  |_,_,_=>none)
 | .slice T x lo hi (some q)=>(match ev fr x,K1 fr lo,K1 fr hi,ev fr q with
  |some v,some l,some h,some r=>zN P T v l h (some r)
  |_,_,_,_=>none)
 | .fieldAddr T x f=>(match ev fr x with
  |some v=>oR P T v f
  |none=>none)
 | .indexAddr T x i=>(match ev fr x,ev fr i with
  |some v,some j=>gY P m T v j
  |_,_=>none)
 | .index T x i=>(match ev fr x,ev fr i with
  |some v,some j=>zS P T v j
  |_,_=>none)
 | .extract x i=>(match ev fr x with
  |some v=>sK v i
  |none=>none)
 | .makeFunc (.func f) first captured=>(match Ik fr captured.toList with
  |some vs=>bif first.isEmpty then (match h with
   | .nu=>XN f vs
   |_=>Sb f vs) else none
  |none=>none)
 | .call c=>(match c.callee with
  | .builtin b=>oD P fr m nx h b c.args.toList c.argTypes.toList
  | .value f=>(match h,ev fr f,Ik fr c.args.toList with
   | .call ms rs outs,some (.one (.fn k)),some vs=>uH P m nx ms rs outs k vs
   | .call ms rs outs,some (.one (.lK k t x)),some vs=>uH P m nx ms rs outs k (vs++[.one (.ip t x 0)])
   | .call ms rs outs,some (.one (.aB (.cl k t) x)),some vs=>uH P m nx ms rs outs k (vs++GC t x)
   | .no,some (.one (.fn k)),some [.one (.aB (.cD fk) n)]=>(match P.underlying o.type with
    |some (.int ik)=>fj (.one (.aB (.int ik) ((n:Nat):Int))) [Fz P k fk ik,n≠Gt fk]
    |_=>none)
   |_,_,_=>none)
  |_=>none)
 |_=>none
section
variable {cx:Cx} {g:GM} {st:St} {a:Act} {w:World}
theorem o7 (h:bD cx g st a w): ∀{xs:List Operand} {vs:List au},Ik st.fr xs=some vs→aK (VR g st.mem (cx.safe g st.mem w) w) vs (xs.map a.eval)
 |[],vs,he=>by simp only [Ik] at he;injection he with he;subst he;trivial
 |x::xs,vs,he=>by
  simp only [Ik] at he;split at he;rename_i v l hv hl;injection he with he;subst he;exact ⟨ba h hv,o7 h hl⟩;cases he
theorem zT (h:bD cx g st a w){x:Option Operand}{v:Option au}(he:K1 st.fr x=some v):OR g st.mem (cx.safe g st.mem w) w v (x.map a.eval):=by
 cases x with
 |none=>simp only [K1] at he;injection he with he;subst he;trivial
 |some x=>
  simp only [K1] at he;split at he;rename_i u hu;injection he with he;subst he;exact ba h hu;cases he
theorem uf (h:bD cx g st a w): ∀{xs:List (Nat×Operand)} {vs:List (Nat×au)},xO st.fr xs=some vs→
 aK (fun (p:Nat×au) (q:Nat×Value)=>p.1=q.1∧VR g st.mem (cx.safe g st.mem w) w p.2 q.2) vs (xs.map fun (i,x)=>(i,a.eval x))
 |[],vs,he=>by simp only [xO] at he;injection he with he;subst he;trivial
 |(i,x)::xs,vs,he=>by
  simp only [xO] at he;split at he;rename_i v l hv hl;injection he with he;subst he;exact ⟨⟨rfl,ba h hv⟩,uf h hl⟩;cases he
def p9 (cx:Cx)(st:St)(a:Act)(w:World)(o:Oper)(e:bm):Prop:=
 (∃val w',(execOp a.eval o).run cx.P w= .ok (.value val) w'∧nk cx st a e val w')∨
 (∃w',(execOp a.eval o).run cx.P w= .ok .skip w'∧nk cx st a e undef w')∨
 (∃f args,(execOp a.eval o).run cx.P w= .ok (.enter f args) w∧Calls cx.P f args w fun en w'=> ∃v,en= .returned v∧nk cx st a e v w')
theorem p9.wp {o:Oper}{e:bm}{K:Act→World→Prop}{Q:Exit→Act→World→Prop}(h:p9 cx st a w o e)(hk: ∀val w',nk cx st a e val w'→K (a.put o.dst val) w'):o.wp cx.P a w K Q:=by
 unfold Oper.wp;rcases h with ⟨val,w',h1,h2⟩|⟨w',h1,h2⟩|⟨f,args,h1,h2⟩
 rw [h1];exact hk val w' h2;rw [h1];exact hk undef w' h2;rw [h1];exact h2.mono fun en w' ⟨v,e1,hd⟩=>by subst e1;exact hk v w' hd
theorem gd.fT {o:Oper}{e:bm}{s:Sem Value}(h:gd cx st a w s e)(he:execOp a.eval o=(do pure (.value (←s)))):p9 cx st a w o e:=by
 obtain ⟨val,w',h1,h2⟩:=h;exact .inl ⟨val,w',by rw [he];simp [h1],h2⟩
theorem Bi.fT {o:Oper}{e:bm}{s:Sem Unit}(h:Bi cx st a w s e)(he:execOp a.eval o=(do s;pure .skip)):p9 cx st a w o e:=by
 obtain ⟨w',h1,h2⟩:=h;exact .inr (.inl ⟨w',by rw [he];simp [h1],h2⟩)
theorem p9.pure {o:Oper}{e:bm}{v:au}{val:Value}(h:bD cx g st a w)(he:execOp a.eval o=Pure.pure (.value val))(hp:e.new=[]∧e.jU=[]∧e.val=v)(hv:VR g st.mem (cx.safe g st.mem w) w v val):p9 cx st a w o e:=by
 refine .inl ⟨val,w,by rw [he];rfl,g,?_,?_⟩;rw [hp.1,hp.2.1];exact h;rw [hp.1,hp.2.1,hp.2.2];exact hv
def Il (u:Value):Prop:=(∃k n,u= .int k n)∨(∃s,u= .string s)∨(∃b,u= .bool b)
theorem BF {P:Program}{op:BinOp}{T:TypeId}{x y:Operand}{k:FloatKind}{b:Nat}{v:Value}:(eqGuard op T x y (.float k b) v).run P w= .ok () w:=by
 cases op<;>cases v<;>rfl
theorem BG {P:Program}{op:BinOp}{T:TypeId}{x y:Operand}{u v:Value}(h:Il u):(eqGuard op T x y u v).run P w= .ok () w:=by
 rcases h with ⟨k,n,rfl⟩|⟨s,rfl⟩|⟨b,rfl⟩<;>cases op<;>cases v<;>rfl
theorem GD {op:BinOp}{T:TypeId}{x y:au}{e:bm}{u:Value}(he:Gj cx.P T op x y=some e)(hx:VR g st.mem (cx.safe g st.mem w) w x u):Il u:=by
 unfold Gj at he;split at he;exact .inl ⟨_,_,dx (g:=g) (m:=st.mem) (S:=cx.safe g st.mem w) (w:=w) hx⟩;exact .inr (.inl ⟨_,jZ (g:=g) (m:=st.mem) (S:=cx.safe g st.mem w) (w:=w) hx⟩);exact .inr (.inr ⟨_,mG (g:=g) (m:=st.mem) (S:=cx.safe g st.mem w) (w:=w) hx⟩);cases he
theorem BH {op:BinOp}{T:TypeId}{x y:au}{xo yo:Operand}{e:bm}{u v:Value}{w':World}(he:yP cx.P T op x y=some e)(hx:VR g st.mem (cx.safe g st.mem w) w x u)(hy:VR g st.mem (cx.safe g st.mem w) w y v):(eqGuard op T xo yo u v).run cx.P w'= .ok () w':=by
 unfold yP at he;split at he;obtain ⟨b,e,_⟩:=nB (g:=g) (m:=st.mem) (S:=cx.safe g st.mem w) (w:=w) hx;rw [e];exact BF;obtain ⟨us,rfl,_⟩:=hx;obtain ⟨vs,rfl,_⟩:=hy;exact vh he;exact BG (GD he hx)
theorem zU {P:Program}{m:Mem}{S:Nat→Prop}{T:TypeId}{x i:au}{e:bm}{xa ia:Value}(h:zS P T x i=some e)(hc:aS e.cond)(hx:VR g m S w x xa)(hi:VR g m S w i ia):aG P g m S w (Instr.index T xa ia) e:=by
 unfold zS at h;split at h;rename_i s k n hu;obtain ⟨he,lZ⟩:=bU h;rw [lZ] at hc;obtain ⟨⟨h0,h1⟩,_⟩:=hc;have e1:=jZ (g:=g) (m:=m) (S:=S) (w:=w) hx;have e2:=dx (g:=g) (m:=m) (S:=S) (w:=w) hi;subst e1;subst e2;have hlt:Int.toNat n<List.length s:=toNat_lt h0 h1;refine aG.mk he (r:= .int .u8 ((((List.getD s (Int.toNat n) 0:UInt8).toNat:Nat)):Int)) ?_ rfl;have cY:Int.toNat n<(⟨List.toArray s⟩:ByteArray).size:=by simpa [ByteArray.size] using hlt
 have VF:(⟨List.toArray s⟩:ByteArray)[Int.toNat n]? =some (List.getD s (Int.toNat n) 0):=by
  rw [getElem?_pos (⟨List.toArray s⟩:ByteArray) (Int.toNat n) cY]
  congr 1
  rw [getD_eq hlt];rfl
 have YW:(0:Int)≤n:=h0;simp only [Instr.index,Sem.run_bind,run_underlying hu,Result.andThen_ok,asIntOf,Sem.run_pure];rw [if_pos YW,VF];rfl;cases h
theorem Ov {g:GM}{m:Mem}{S:Nat→Prop}{w:World}{k:FuncId}{t:Ty}{x:t.D}{v:Value}{ad:Addr}(h:CR g m S w (.lK k t x) v)(e:v= .func (.func k) #[] #[.pointer (some ad)]):aK (VR g m S w) [.one (.ip t x 0)] [.pointer (some ad)]:=by
 obtain ⟨De,es,e',hs,aM,bf⟩:=h;rw [e] at e';injection e' with _ _ e';injection e' with e';injection e' with e' _;injection e' with e';injection e' with e';subst e';have e2:ad.add 0=ad:=by simp [Addr.add]
 exact ⟨⟨ad,es,by rw [e2],hs,aM,bf⟩,trivial⟩
theorem Ty.wA {t:Ty}(h:t.ue=false):t.rj=[t.size]:=by cases t<;>first|rfl|cases h
theorem BI {t:Ty}{x:t.D}(h:t.ue=false):GC t x=[.one (.ip t x 0)]:=by cases t<;>first|rfl|cases h
theorem BJ {g:GM}{m:Mem}{S:Nat→Prop}{w:World}: ∀{vs:List au} {d:TD} {ps:List Value},LH vs=some d→aK (VR g m S w) vs ps→ ∃us,aR S w d.t us d.x∧nv S w d.t.rj us ps
 |[],d,_,h,_=>by cases h
 |_::_,_,[],_,hr=>hr.elim
 |v::r,d,p::ps,h,hr=>by
  unfold LH at h;split at h;cases h;rename_i t x r' heq;injection heq with h1 h2;subst h1 h2;obtain ⟨ad,es,e,hs,hc,bf⟩:=hr.1;have e2:ad.add 0=ad:=by simp [Addr.add]
  rw [e2] at e;have hl:=aR.len t es x bf;split at h;rename_i cX;cases hp:t.ue with
  |true=>rw [hp] at h;cases h
  |false=>
   rw [hp] at h;simp only [cond_false] at h;injection h with h;subst h
   match ps,hr.2 with
   |[],_=>
    refine ⟨es,bf,?_⟩;rw [Ty.wA hp];exact ⟨⟨ad,e,hs,fun j u hj=>hc j u (by rw [List.take_of_length_le (Nat.le_of_eq hl)] at hj;exact hj)⟩,trivial⟩
  split at h;rename_i d' hd;injection h with h;subst h;obtain ⟨us,k1,k2⟩:=BJ hd hr.2;refine ⟨es++us,⟨es,us,rfl,bf,k1⟩,⟨ad,e,hs,fun j u hj=>hc j u ?_⟩,?_⟩;rw [List.take_append_of_le_length (by omega),List.take_of_length_le (by omega)] at hj;exact hj;rw [←hl,List.drop_left];exact k2;cases h;cases h
theorem Im {g:GM}{m:Mem}{S:Nat→Prop}{w:World}: ∀(t:Ty) {x:t.D} {us ps:List Value},aR S w t us x→nv S w t.rj us ps→aK (VR g m S w) (GC t x) ps:=by
 intro t;cases hp:t.ue with
 |false=>
  intro x us ps hr h;rw [Ty.wA hp] at h;rw [BI hp]
  match ps,h with
  |[p],⟨⟨ad,e1,hs,hc⟩,_⟩=>
   exact ⟨⟨ad,us,by rw [e1];simp [Addr.add],hs,fun j u hj=>hc j u (by rw [List.take_of_length_le (Nat.le_of_eq (aR.len t us x hr))];exact hj),hr⟩,trivial⟩
 |true=>
  induction t with
  |pair a b _ Lw=>
   intro x us ps hr h;obtain ⟨c1,c2,e,h1,h2⟩:=hr;subst e;have hl:=aR.len a c1 _ h1
   match ps,h with
   |p::ps,⟨⟨ad,e1,hs,hc⟩,hr⟩=>
    refine ⟨⟨ad,c1,by rw [e1];simp [Addr.add],hs,fun j u hj=>hc j u ?_,h1⟩,?_⟩;rw [List.take_append_of_le_length (by omega),List.take_of_length_le (by omega)];exact hj;rw [←hl,List.drop_left] at hr;cases hb:b.ue with
    |true=>exact Lw hb h2 hr
    |false=>
     rw [Ty.wA hb] at hr;show aK (VR g m S w) (GC b x.2) ps;rw [BI hb]
     match ps,hr with
     |[p],⟨⟨ad,e1,hs,hc⟩,_⟩=>
      exact ⟨⟨ad,c2,by rw [e1];simp [Addr.add],hs,fun j u hj=>hc j u (by rw [List.take_of_length_le (Nat.le_of_eq (aR.len b c2 _ h2))];exact hj),h2⟩,trivial⟩
  |_=>cases hp
theorem Io {α:Type}(f:α→Value)(xs:Array α)(v:Value):xs.map f++ #[v]=(xs.toList.map f++[v]).toArray:=by
 apply Array.ext';simp
theorem yU {h:Hint}{o:Oper}{e:bm}(hs:bD cx g st a w)(hw:dK st.mem e.new)(he:vA cx.P st.fr st.mem st.nx h o=some e)(hc:aS e.cond):p9 cx st a w o e:=by
 unfold vA at he;split at he
 ·rename_i x ho;split at he
  ·rename_i v hv;exact p9.pure hs (by simp only [execOp,ho]) (aC he) (ba hs hv)
  ·cases he
 ·rename_i x ho;split at he
  ·rename_i v hv;exact p9.pure hs (by simp only [execOp,ho]) (aC he) (ba hs hv)
  ·cases he
 ·rename_i c x y ho;split at he
  ·rename_i b HU;split at he
   ·rename_i v hv;have e1:=mG (g:=g) (m:=st.mem) (S:=cx.safe g st.mem w) (w:=w) (ba hs HU);exact p9.pure hs (by simp only [execOp,ho,e1,asBool];cases b<;>rfl) (aC he) (ba hs hv)
   ·cases he
  ·cases he
 ·rename_i T ho;split at he
  ·exact (xV hs hw he).fT (by simp only [execOp,ho])
  ·exact (zx hs hw he).fT (by simp only [execOp,ho])
 ·rename_i T x ho;split at he
  ·rename_i v hv;split at he
   ·exact (Bg (T:=T) hs hw he (ba hs hv)).fT (by simp only [execOp,ho])
   ·exact (Du (T:=T) hs hw he (ba hs hv)).fT (by simp only [execOp,ho])
  ·cases he
 ·rename_i T parts ho;split at he
  ·rename_i vs gL;have:=zw (P:=cx.P) (g:=g) (m:=st.mem) (S:=cx.safe g st.mem w) (w:=w) (vparts:=parts.map fun (i,x)=>(i,a.eval x)) he (by simpa using uf hs gL);exact (this.runs hs).fT (by simp only [execOp,ho])
  ·cases he
 ·rename_i T len parts ho;split at he
  ·rename_i t vs gL;have:=ym (vparts:=parts.map fun (i,x)=>(i,a.eval x)) hs hw he (by simpa using uf hs gL);exact this.fT (by simp only [execOp,ho])
  ·rename_i t vs gL;have:=rT (vparts:=parts.map fun (i,x)=>(i,a.eval x)) hs he (by simpa using uf hs gL);exact this.fT (by simp only [execOp,ho])
  ·rename_i vs gL;have:=zF (vparts:=parts.map fun (i,x)=>(i,a.eval x)) hs he (by simpa using uf hs gL);exact this.fT (by simp only [execOp,ho])
  ·cases he
 ·rename_i T x ho;split at he
  ·rename_i v hv;exact (zQ hs hw he hc (ba hs hv)).fT (by simp only [execOp,ho])
  ·cases he
 ·rename_i T x y ho;split at he
  ·rename_i xv yv hx hy;exact (yk hs hw he hc (ba hs hx) (ba hs hy)).fT (by simp only [execOp,ho])
  ·cases he
 ·rename_i x ho;split at he
  ·rename_i v hv;have xR:=ba hs hv;unfold Ou at he;split at he
   ·obtain ⟨_,b,_,e1⟩:=xR;exact p9.pure hs (by simp [execOp,ho,e1];rfl) (aC he) (by rw [←e1];exact ba hs hv)
   ·obtain ⟨ad,es,e1,_⟩:=xR;exact p9.pure hs (by simp [execOp,ho,e1];rfl) (aC he) (by rw [←e1];exact ba hs hv)
   ·obtain ⟨_,b,_,e1⟩:=xR;exact p9.pure hs (by simp [execOp,ho,e1];rfl) (aC he) (by rw [←e1];exact ba hs hv)
   ·obtain ⟨_,b,e1,_⟩:=xR;exact p9.pure hs (by simp [execOp,ho,e1];rfl) (aC he) (by rw [←e1];exact ba hs hv)
   ·cases he
  ·cases he
 ·rename_i op T x y T' ho;split at he
  ·rename_i xv yv hx hy;obtain ⟨r,w',k3,k4⟩:=Bt hs he hc (ba hs hx) (ba hs hy);refine .inl ⟨r,w',?_,k4⟩;have hg:=BH (xo:=x) (yo:=y) (w':=w) he (ba hs hx) (ba hs hy);simp only [execOp,ho,Sem.run_bind,hg,Result.andThen_ok,k3,Sem.run_pure]
  ·cases he
 ·rename_i op T x ho;split at he
  ·rename_i v hv;exact ((DH he (ba hs hv)).runs hs).fT (by simp only [execOp,ho])
  ·cases he
 ·rename_i T U x ho;split at he
  ·rename_i v hv;exact (vi hs hw he hc (ba hs hv)).fT (by simp only [execOp,ho])
  ·cases he
 ·rename_i T l c ho;split at he
  ·rename_i t lv cv hl HU;exact (tZ hs hw he hc (ba hs hl) (ba hs HU)).fT (by simp only [execOp,ho])
  ·cases he
 ·rename_i T x lo hi ho;split at he
  ·rename_i v l h' hv hl hh;exact ((zt hs.mem he hc (ba hs hv) (zT hs hl) (zT hs hh)).runs hs).fT (by simp only [execOp,ho];rfl)
  ·cases he
 ·rename_i T x lo hi q ho;split at he
  ·rename_i v l h' r hv hl hh hq;exact ((ye he hc (ba hs hv) (zT hs hl) (zT hs hh) (mx:=some r) (qv:=some (a.eval q)) (ba hs hq)).runs hs).fT (by simp only [execOp,ho];rfl)
  ·cases he
 ·rename_i T x f ho;split at he
  ·rename_i v hv;exact ((tY he (ba hs hv)).runs hs).fT (by simp only [execOp,ho])
  ·cases he
 ·rename_i T x i ho;split at he
  ·rename_i v j hv hj;exact ((sN hs.mem he hc (ba hs hv) (ba hs hj)).runs hs).fT (by simp only [execOp,ho])
  ·cases he
 ·rename_i T x i ho;split at he
  ·rename_i v j hv hj;exact ((zU he hc (ba hs hv) (ba hs hj)).runs hs).fT (by simp only [execOp,ho])
  ·cases he
 ·rename_i x i ho;split at he
  ·rename_i v hv;exact ((wb he (ba hs hv)).runs hs).fT (by simp only [execOp,ho])
  ·cases he
 ·rename_i f first captured ho
  split at he
  ·rename_i vs gL;cases VG:first.isEmpty with
   |false=>rw [VG] at he;cases he
   |true=>
    rw [VG] at he;simp only [cond_true] at he;have Ui:first= #[]:=by simpa using VG
    subst Ui;split at he
    ·have aP:=o7 hs gL;have hcap:captured.map a.eval=(captured.toList.map a.eval).toArray:=by apply Array.ext';rw [Array.toList_map]
     unfold XN at he;split at he
     ·rename_i d hd;obtain ⟨us,k1,k2⟩:=BJ hd aP;exact p9.pure hs (val:= .func (.func f) #[] (captured.map a.eval)) (by simp [execOp,ho,Instr.makeFunc]) (aC he) ⟨us,_,by rw [hcap],k1,k2⟩
     ·cases he
    unfold Sb at he;split at he
    ·rename_i t x;have aP:=o7 hs gL;have hcap:captured.map a.eval=(captured.toList.map a.eval).toArray:=by apply Array.ext';rw [Array.toList_map]
     cases ma:captured.toList.map a.eval with
     |nil=>rw [ma] at aP;exact aP.elim
     |cons u r=>
      rw [ma] at aP;cases r with
      |cons=>exact aP.2.elim
      |nil=>
       obtain ⟨ad,es,e1,zW,aM,bf⟩:=aP.1;have e2:ad.add 0=ad:=by simp [Addr.add]
       rw [e2] at e1;exact p9.pure hs (val:= .func (.func f) #[] (captured.map a.eval)) (by simp [execOp,ho,Instr.makeFunc]) (aC he) ⟨ad,es,by rw [hcap,ma,e1],zW,aM,bf⟩
    ·cases he
  ·cases he
 ·rename_i c ho;split at he
  ·rename_i b hb;have rn: ∀(consts:Array Bool),resolve a.eval c o.type=pure {target:= .builtin b c.argTypes o.type (c.args.map fun| .const _=>true|_=>false),args:=c.args.map a.eval}:=fun _=>by
    unfold resolve;rw [hb];rfl
   have eJ: ∀l,c.args.toList=l→c.args.map a.eval=(l.map a.eval).toArray:=fun l hl=>by
    subst hl;apply Array.ext';rw [Array.toList_map]
   have GF: ∀l,c.argTypes.toList=l→c.argTypes=l.toArray:=fun l hl=>by subst hl;rfl
   unfold oD at he;split at he
   ·rename_i x T kD LI;split at he
    ·rename_i v hv;have xR:=ba hs hv;have hg:aG cx.P g st.mem (cx.safe g st.mem w) w (Builtin.len_ #[T] o.type #[a.eval x]) e:=by
      unfold BE at he;split at he
      ·rename_i s hu;refine kJ (T:=T) hs.mem (by simp [Dm,hu]) he xR rfl (fun _ _=>hu) (fun a' n c' e'=> ?_);have:=jZ (g:=g) (m:=st.mem) (S:=cx.safe g st.mem w) (w:=w) xR;rw [this] at e';cases e'
      ·rename_i el t xs hu;refine kJ (T:=T) hs.mem (by simp [Dm,hu]) he xR rfl (fun s e'=> ?_) (fun _ _ _ _=>⟨el,hu⟩);obtain ⟨a',cap,e1,_⟩:=xR;have e1:a.eval x= .slice a' (List.length xs) cap:=by simpa using e1
       rw [e1] at e';cases e'
      ·rename_i el c' hu;refine kJ (T:=T) hs.mem (by simp [Dm,hu]) he xR rfl (fun s e'=> ?_) (fun _ _ _ _=>⟨el,hu⟩);have sq: ∀t xs,cz st.mem c' t xs→False:=fun t xs hl=>by
        have hx:=xR.2.2 t xs hl;unfold gA at hx;cases hg:g c' with
        |none=>rw [hg] at hx;obtain ⟨a',ha⟩:=hx;rw [ha] at e';cases e'
        |some b=>rw [hg] at hx;obtain ⟨cap,arr,ha,_⟩:=hx;rw [ha] at e';cases e'
       unfold rJ at he;simp only at he;split at he
       ·rename_i t xs hl;exact (sq t xs (.inl hl)).elim
       ·rename_i t xs i cs ks hl;exact (sq t xs (.inr ⟨i,cs,ks,hl⟩)).elim
       ·cases he
      ·rename_i el c' off len hu;refine kJ (T:=T) hs.mem (by simp [Dm,hu]) he xR rfl (fun s e'=> ?_) (fun _ _ _ _=>⟨el,hu⟩);unfold rJ at he;simp only at he;split at he
       ·rename_i t xs hl;obtain ⟨_,hx⟩:=xR.2.2 t xs (.inl hl);rcases hx with ⟨_,_,a',ha⟩|⟨b,cap,arr,_,ha,_⟩
        ·rw [ha] at e';cases e'
        ·rw [ha] at e';cases e'
       ·cases he
      ·rename_i el c' i o hu;refine kJ (T:=T) hs.mem (by simp [Dm,hu]) he xR rfl (fun s e'=> ?_) (fun _ _ _ _=>⟨el,hu⟩);unfold rJ at he;simp only at he;split at he
       ·rename_i t xs hl;split at he
        ·rename_i e2 ys Fb;have hx:=(xR.2.2 t xs hl).2 e2 ys Fb;unfold gA at hx;cases hg:g.f c' [i,o] with
         |none=>rw [hg] at hx;obtain ⟨a',ha⟩:=hx;rw [ha] at e';cases e'
         |some b=>rw [hg] at hx;obtain ⟨cap,arr,ha,_⟩:=hx;rw [ha] at e';cases e'
        ·cases he
       ·cases he
      ·rename_i el hu;refine kJ (T:=T) hs.mem (by simp [Dm,hu]) he xR rfl (fun s e'=> ?_) (fun _ _ _ _=>⟨el,hu⟩);obtain ⟨a',ha⟩:=xR;rw [ha] at e';cases e'
      ·cases he
     refine (hg.runs hs).fT ?_;simp only [execOp,ho,rn #[],eJ _ kD,GF _ LI];rfl
    ·cases he
   ·rename_i s x T T' kD LI;split at he
    ·rename_i t sv xv Oj LD;refine (wz (ty:=o.type) hs hw he hc (ba hs Oj) (ba hs LD)).fT ?_;simp only [execOp,ho,rn #[],eJ _ kD,GF _ LI];rfl
    ·rename_i sv xv Oj LD;refine (wo (ty:=o.type) hs hw he hc (ba hs Oj) (ba hs LD)).fT ?_;simp only [execOp,ho,rn #[],eJ _ kD,GF _ LI];rfl
    ·rename_i t sv xv Oj LD;refine (wu (ty:=o.type) hs hw he hc (ba hs Oj) (ba hs LD)).fT ?_;simp only [execOp,ho,rn #[],eJ _ kD,GF _ LI];rfl
    ·cases he
   ·rename_i x y _ kD;split at he
    ·rename_i xv yv hx hy;split at he
     ·rename_i e' hf;injection he with he;subst he;refine ((yQ (Ts:=c.argTypes) (T:=o.type) hf hc (ba hs hx) (ba hs hy)).runs hs).fT ?_;simp only [execOp,ho,rn #[],eJ _ kD];rfl
     ·refine ((Dr (Ts:=c.argTypes) (T:=o.type) he (ba hs hx) (ba hs hy)).runs hs).fT ?_;simp only [execOp,ho,rn #[],eJ _ kD];rfl
    ·cases he
   ·rename_i x y _ kD;split at he
    ·rename_i xv yv hx hy;split at he
     ·rename_i e' hf;injection he with he;subst he;refine ((yQ (Ts:=c.argTypes) (T:=o.type) hf hc (ba hs hx) (ba hs hy)).runs hs).fT ?_;simp only [execOp,ho,rn #[],eJ _ kD];rfl
     ·refine ((Dt (Ts:=c.argTypes) (T:=o.type) he (ba hs hx) (ba hs hy)).runs hs).fT ?_;simp only [execOp,ho,rn #[],eJ _ kD];rfl
    ·cases he
   ·rename_i x y T T' kD LI;split at he
    ·rename_i xv yv hx hy;refine (BC (T':=T') (ty:=o.type) hs he (ba hs hx) (ba hs hy)).fT ?_;simp only [execOp,ho,rn #[],eJ _ kD,GF _ LI];rfl
    ·cases he
   ·rename_i x T kD LI;split at he
    ·rename_i el hv hu;obtain ⟨ad,e1⟩:=ba hs hv;have hg:aG cx.P g st.mem (cx.safe g st.mem w) w (Builtin.cap_ #[T] o.type #[a.eval x]) e:=by
      refine aG.mk (aC he) (r:= .int .i64 0) ?_ rfl;rw [e1];simp [Builtin.cap_,run_underlying hu,goInt]
     refine (hg.runs hs).fT ?_;simp only [execOp,ho,rn #[],eJ _ kD,GF _ LI];rfl
    ·cases he
   ·cases he
  ·rename_i f hf;split at he
   ·rename_i ms rs outs k vs hk gL;have vB:a.eval f= .func (.func k) #[] #[]:=ba hs hk;obtain ⟨⟨fn,c1,c2,c3⟩,wB⟩:=pU hs hw he hc (o7 hs gL);refine .inr (.inr ⟨k,(c.args.toList.map a.eval).toArray,?_,wB⟩);have eJ:c.args.map a.eval=(c.args.toList.map a.eval).toArray:=by apply Array.ext';rw [Array.toList_map]
    simp only [execOp,ho,resolve,hf,vB,Deferred.ofValue,Sem.run_bind,Sem.run_pure,Result.andThen_ok,invoke,callFunc,run_program,c1];simp only [c2,c3,eJ];simp
   ·rename_i ms rs outs k t x vs hk gL;obtain ⟨ad,es,vB,zW,aM,bf⟩:=ba hs hk;have Ow:aK (VR g st.mem (cx.safe g st.mem w) w) (vs++[.one (.ip t x 0)]) (c.args.toList.map a.eval++[.pointer (some ad)]):=
     aK.append (o7 hs gL) (Ov ⟨ad,es,vB,zW,aM,bf⟩ vB)
    obtain ⟨⟨fn,c1,c2,c3⟩,wB⟩:=pU hs hw he hc Ow;refine .inr (.inr ⟨k,(c.args.toList.map a.eval++[Value.pointer (some ad)]).toArray,?_,wB⟩);have eJ:c.args.map a.eval++ #[Value.pointer (some ad)]=(c.args.toList.map a.eval++[Value.pointer (some ad)]).toArray:=Io a.eval c.args _;simp only [execOp,ho,resolve,hf,vB,Deferred.ofValue,Sem.run_bind,Sem.run_pure,Result.andThen_ok,invoke,callFunc,run_program,c1];simp only [c2,c3,Array.empty_append,eJ];simp
   ·rename_i ms rs outs k t x vs hk gL;obtain ⟨us,ps,vB,bf,VH⟩:=ba hs hk;have vB:a.eval f= .func (.func k) #[] ps.toArray:=by simpa using vB
    have Ow:aK (VR g st.mem (cx.safe g st.mem w) w) (vs++GC t x) (c.args.toList.map a.eval++ps):=
     aK.append (o7 hs gL) (Im t bf VH)
    obtain ⟨⟨fn,c1,c2,c3⟩,wB⟩:=pU hs hw he hc Ow;refine .inr (.inr ⟨k,(c.args.toList.map a.eval++ps).toArray,?_,wB⟩);have eJ:c.args.map a.eval++ps.toArray=(c.args.toList.map a.eval++ps).toArray:=by apply Array.ext';simp
    simp only [execOp,ho,resolve,hf,vB,Deferred.ofValue,Sem.run_bind,Sem.run_pure,Result.andThen_ok,invoke,callFunc,run_program,c1];simp only [c2,c3,Array.empty_append,eJ];simp
   ·rename_i k fk n hk gL;split at he
    ·rename_i ik hu;have vB:a.eval f= .func (.func k) #[] #[]:=ba hs hk;have Ow:aK (VR g st.mem (cx.safe g st.mem w) w) [.one (.aB (.cD fk) n)] (c.args.toList.map a.eval):=o7 hs gL;have eJ:c.args.map a.eval=(c.args.toList.map a.eval).toArray:=by apply Array.ext';rw [Array.toList_map]
     generalize c.args.toList.map a.eval=vals at*
     match vals,Ow with
     |[xa],Ow=>
      obtain ⟨b,rfl,hb⟩:=nB (g:=g) (m:=st.mem) (S:=cx.safe g st.mem w) (w:=w) Ow.1;obtain ⟨hp,lZ⟩:=bU he;rw [lZ] at hc;have VI:Fz cx.P k fk ik:=hc.1;have cX:n≠Gt fk:=hc.2.1;have YX:b=n:=by
       cases fk with
       |f32=>
        rw [DF] at hb;split at hb
        ·exact absurd hb.symm cX
        ·exact hb
       |f64=>
        rw [DG] at hb;split at hb
        ·exact absurd hb.symm cX
        ·exact hb
      subst YX;refine .inl ⟨.int ik b,w,?_,g,?_,?_⟩
      ·simp only [execOp,ho,resolve,hf,vB,Deferred.ofValue,Sem.run_bind,Sem.run_pure,Result.andThen_ok,invoke,eJ];simpa using VI b w
      ·rw [hp.1,hp.2.1];exact hs
      ·rw [hp.1,hp.2.1,hp.2.2];exact rfl
    ·cases he
   ·cases he
  ·cases he
 ·cases he
end
end Go.Ide
