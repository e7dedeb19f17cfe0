import Derived.Test.YtjnkhcgmgkhnaaaGreatDoorLibA
import Derived.Laws.FloatArith
import Derived.Lib.ConvBytes
import Derived.Laws.BytesString
import Derived.Laws.Externs
set_option linter.all false
open Array renaming length_toList→Ω,getElem?_toList→ϥ,getElem?_eq_getElem→aal,getElem?_modify→aa5,ext'→aa9,toList_map→abb,getElem?_append_left→abz,range→aci,size_append→adL,append_assoc→afy,empty_append→afz
open Bool renaming and_eq_true→κ
open ByteArray renaming size→abF
open Go renaming Value→π,World→Ε,TypeId→Ι,Program→Ο,Oper→Ϥ,FloatKind→aad,Operand→aah,FuncId→aaF,IntKind→aaK,BinOp→acQ,TypeInfo→adK
open Go.Addr renaming add→ab3
open Go.Builtin renaming append_→Ϟ,zeroCells→Ϧ,firstCells→aaO,lenOf→abg,copy_→ab5,min_→acY,max_→aeG,nextslicecap→aeS,min2→agy,cap_→agB
open Go.Conv renaming bytesToString→afG
open Go.Deferred renaming ofValue→aa3
open Go.Ide.Ty renaming size→aao
open Go.Ide.VR renaming stays→ad4
open Go.Ide.bR renaming runs→acR
open Go.Ide.bU renaming alloc→acA,refl→adn,drew→agx
open Go.Ide.cn renaming bJ→abE,len→abV,nJ→afD
open Go.Ide.dA renaming new→aer
open Go.Ide.dH renaming toSeq→ad3
open Go.Ide.dw renaming bJ→agv,len→ahh
open Go.Ide.iz renaming nil→agd
open Go.Ide.ph renaming newAt→ad5
open Go.Instr renaming buildSlice→Ϲ,sliceBounds→aa2,fill→abj,sliceAt→acX,sliceBound→ac7,loadAt→adf,storeAt→adM,makeFunc→agA,index→aho
open Go.IntKind renaming wrap_i64→afx
open Go.Lib renaming bytesCells→ab1,bytesWorld→adU
open Go.Op renaming negFloat→acT,floatCmp→acU
open Go.Program renaming fieldsOf→afw
open Go.Question renaming cut→abr,forced→acS
open Go.Result renaming andThen_ok→ϋ
open Go.RowKit.Below renaming heap_alloc→aar
open Go.Sem renaming run_bind→Ϛ,run_pure→ϵ
open Go.World renaming freeze→adN
open Ieee renaming Datum→ab8
open Ieee.Datum renaming quotient→aeA,product→aeI,order→ae1,sum→afn
open Ieee.Format renaming order→ack,read→aeU,add→ae2,sub→ae3,mul→ae4,div→ae5
open Int renaming toNat→δ
open List renaming getD→ε,length→ζ,length_append→ξ,getElem?_eq_some_iff→ω,getElem?_eq_getElem→Γ,getElem?_append_right→Κ,mem_append→Λ,getElem?_append_left→Ν,append_assoc→ό,mem_cons_of_mem→ύ,length_take→ώ,getElem?_take→ϒ,mem_cons→ϖ,take→ϛ,length_map→Ϝ,mem_map→Ϣ,append_nil→ϲ,take_of_length_le→ϳ,length_drop→϶,eq_nil_of_length_eq_zero→ϸ,map_cons→aaa,getElem?_eq_none→aab,mem_of_getElem?→aaN,nodup_cons→aba,range→abD,size_toArray→abG,take_append_of_le_length→acp,cons_append→ade,toArray→aef,getElem_append_right→aez,getElem_append_left→aeH,getElem?_cons_zero→aeT,drop_of_length_le→aeZ,append_inj→agz,drop_left→agO
open List.Sublist renaming refl→adh
open Nat renaming le_refl→ς,beq→Β,mul_le_mul_right→Τ,zero_add→Ψ,add_mul→ϓ,lt_of_lt_of_le→ϕ,add_assoc→Ϡ,ble→ϩ,le_trans→ϫ,add_zero→Ϭ,lt_or_ge→aam,min_eq_left→aas,mul_comm→aaB,add_sub_cancel_left→aaG,mul_le_mul→aaZ,zero_mul→abf,min→abh,mod_lt→abq,eq_of_beq_eq_true→aby,mul_one→adT,le_of_eq→aff,xor_mod_two_pow→afE,succ_mul→agf
open Option renaming bind_some→η,isSome_iff_exists→abH
open Option.some renaming injEq→ahn
open Prod renaming fst→aav
open UInt8 renaming ofNat→afF
namespace Go.Ide
section
variable {g:GM} {m:Mem} {S S2:Nat->Prop} {w:Ε}
theorem ga.len {t:Ty}{cs:List π}{xs:List t.D}{A:List (List Nat->Option Nat)}(h:ga S w t cs xs A):cs.length=1:=by
 rcases h with ⟨_,_,a,e⟩|⟨v,γ,_,e,_⟩<;>subst e<;>rfl
theorem dG.len: ∀(t:Ty) {cs:List π} {x:t.D} {A:List (List Nat->Option Nat)},dG S w t cs x A->cs.length=t.size
 | .int _,_,_,_,h=>abV _ _ _ h.2
 | .dP _,_,_,_,h=>abV _ _ _ h.2
 | .bool,_,_,_,h=>abV _ _ _ h.2
 | .str,_,_,_,h=>abV _ _ _ h.2
 | .cl _ _,_,_,_,h=>abV _ _ _ h.2
 | .pair a b,_,_,_,⟨p,r,I,J,e,_,j,o⟩=>by subst e;simp [aao,dG.len a j,dG.len b o]
 | .st t,_,_,_,h=>dG.len t (cs:=_) h
 | .sl t,_,_,_,h=>ga.len h
 | .bx t,_,_,_,⟨_,_,_,_,e,_⟩=>by subst e;rfl
 | .own t,_,_,_,h=>ga.len h
theorem ga.tA {t:Ty}{cs:List π}{xs:List t.D}{A:List (List Nat->Option Nat)}(h:ga S w t cs xs A):A.length=1:=by
 rcases h with ⟨e,_⟩|⟨v,γ,e,_⟩<;>subst e<;>rfl
def Ty.zX:Ty->Nat
 | .pair a b=>a.zX+b.zX
 | .st t=>t.zX
 | .sl _=>1
 | .bx _=>1
 | .own _=>1
 |_=>0
theorem dG.tA: ∀(t:Ty) {cs:List π} {x:t.D} {A:List (List Nat->Option Nat)},dG S w t cs x A->A.length=t.zX
 | .int _,_,_,_,h=>by rw [h.1];rfl
 | .dP _,_,_,_,h=>by rw [h.1];rfl
 | .bool,_,_,_,h=>by rw [h.1];rfl
 | .str,_,_,_,h=>by rw [h.1];rfl
 | .cl _ _,_,_,_,h=>by rw [h.1];rfl
 | .pair a b,_,_,_,⟨p,r,I,J,_,e,j,o⟩=>by subst e;simp [Ty.zX,dG.tA a j,dG.tA b o]
 | .st t,_,_,_,h=>dG.tA t (cs:=_) h
 | .sl t,_,_,_,h=>ga.tA h
 | .bx t,_,_,_,⟨_,_,_,e,_⟩=>by subst e;rfl
 | .own t,_,_,_,h=>ga.tA h
theorem cn.flat {w':Ε}: ∀(t:Ty) {cs:List π} {x:t.D},t.flat=true->cn S w t cs x->cn S2 w' t cs x
 | .int _,_,_,_,h=>h
 | .dP _,_,_,_,h=>h
 | .bool,_,_,_,h=>h
 | .str,_,_,_,h=>h
 | .sl _,_,_,j,_=>by cases j
 | .bx _,_,_,j,_=>by cases j
 | .cl _ _,_,_,j,_=>by cases j
 | .own _,_,_,j,_=>by cases j
 | .pair a b,_,_,j,⟨o,p,e,r,I⟩=>by
  simp only [Ty.flat,κ] at j;exact ⟨o,p,e,cn.flat a j.1 r,cn.flat b j.2 I⟩
 | .st t,_,_,j,h=>cn.flat t (cs:=_) j h
theorem dw.jl: ∀(t:Ty) {γ:List Nat->Option Nat} {o:Nat} {cs:List π} {x:t.D},t.jl=true->dw S w t γ o cs x->dw S2 w t γ o cs x
 | .own t,γ,o,cs,xs,p,⟨v,e,R,j⟩=>by
  refine ⟨v,e,R,?_⟩;cases J:γ [o] with
  |none=>rw [J] at j;exact j
  |some b=>
   rw [J] at j;obtain ⟨arr,T,U⟩:=j;exact ⟨arr,T,λi hl=>let ⟨es,r,I⟩:=U i hl;⟨es,r,dw.jl t p I⟩⟩
 | .pair a b,γ,o,cs,x,p,⟨c1,c2,e,r,I⟩=>by
  simp only [Ty.jl,κ] at p;exact ⟨c1,c2,e,dw.jl a p.1 r,dw.jl b p.2 I⟩
 | .st t,γ,o,cs,x,p,j=>dw.jl t (o:=o) (cs:=cs) (x:=x) p j
 | .int k,_,_,cs,x,_,j=>j
 | .dP k,_,_,cs,x,_,j=>j
 | .bool,_,_,cs,x,_,j=>j
 | .str,_,_,cs,x,_,j=>j
 | .sl t,_,_,cs,x,p,j=>by cases p
 | .bx t,_,_,cs,x,p,j=>by cases p
 | .cl f t,_,_,cs,x,p,j=>by cases p
theorem eU.jl {γ:List Nat->Option Nat}{t:Ty}{xs:List t.D}{arr:Array π}(j:t.jl=true)(h:eU S w γ t xs arr):eU S2 w γ t xs arr:=
 λi o=>let ⟨es,p,r⟩:=h i o;⟨es,p,dw.jl t j r⟩
theorem sy: ∀(t:Ty) (x:t.D) (o:Nat),t.top=true->ep t x o=none
 | .int _,_,_,_=>rfl
 | .dP _,_,_,_=>rfl
 | .bool,_,_,_=>rfl
 | .str,_,_,_=>rfl
 | .sl _,_,_,_=>rfl
 | .bx _,_,_,_=>rfl
 | .cl _ _,_,_,_=>rfl
 | .own _,_,_,h=>by cases h
 | .pair a b,x,o,h=>by
  simp only [Ty.top,κ] at h;simp only [ep];cases Nat.blt o a.size with
  |true=>exact sy a _ _ h.1
  |false=>exact sy b _ _ h.2
 | .st t,x,o,h=>sy t x o h
theorem cL.top {t:Ty}(h:t.top=true){xs j:List t.D}(r:xs.length=j.length):cL t xs j:=
 ⟨r,λi o e I p=>by rw [sy t _ _ h] at p;cases p⟩
structure Ss (g:GM)(m:Mem)(w:Ε):Prop where
 inj: ∀k k' p p' ch pL b,lk k m=some ch->ch.owns p->lk k' m=some pL->pL.owns p'->g.f k p=some b->g.f k' p'=some b->k=k'/\p=p'
 lt: ∀k p ch b,lk k m=some ch->ch.owns p->g.f k p=some b->b<w.heap.size
theorem cT.LF {cx:Cx}{st:St}{a:Act}(h:cT cx g st a w):Ss g st.mem w:=⟨h.fY,h.lt⟩
theorem pM.nil:pM []:=⟨List.Pairwise.nil,λγ h=>by simp at h⟩
theorem vi.nil:vi [] []:=λb=>by simp
theorem nz {n:Nat}{A:List (List Nat->Option Nat)}(h: ∀γ,γ∈A-> ∀p b,γ p=some b->b<n): ∃F,vi A F:=by
 classical
 refine ⟨(abD n).filter λb=>decide (∃γ,γ∈A/\ ∃p,γ p=some b),λb=> ?_⟩;rw [List.mem_filter];simp only [List.mem_range,decide_eq_true_eq];exact ⟨λh=>h.2,λhp=>⟨let ⟨γ,j,p,e⟩:=hp;h γ j p b e,hp⟩⟩
def Z1 (g:GM):Option Nat->List Nat->Option Nat
 |some k=>g.f k
 |none=>λ_=>none
def ki (g:GM)(m:Mem)(ks:List Nat)(A:List (List Nat->Option Nat)):Prop:=
 ∃l:List (Option Nat),A=l.map (Z1 g)/\(l.filterMap id).Sublist ks/\ ∀k,some k∈l-> ∃t j,lk k m=some (.seq t j)
theorem ki.nil {ks:List Nat}:ki g m ks []:=⟨[],rfl,List.nil_sublist _,λk h=>by simp at h⟩
theorem ki.app {j o:List Nat}{r t:List (List Nat->Option Nat)}(I:ki g m j r)(J:ki g m o t):ki g m (j++o) (r++t):=by
 obtain ⟨R,T,U,p1⟩:=I;obtain ⟨l2,e2,s2,p2⟩:=J;refine ⟨R++l2,by rw [T,e2,List.map_append],by rw [List.filterMap_append];exact U.append s2,λk p=> ?_⟩;rcases Λ.1 p with p|p
 exact p1 k p;exact p2 k p
theorem ki.inj (hI:Ss g m w){ks:List Nat}{A:List (List Nat->Option Nat)}(h:ki g m ks A)(J:ks.Nodup):pM A:=by
 obtain ⟨l,e,hs,hp⟩:=h;subst e;have J:=hs.nodup J;constructor;rw [List.pairwise_map];have:=List.pairwise_filterMap.1 J;refine this.imp_of_mem λ {o o'} R T hr p q b j r=> ?_;cases o with
 |none=>cases j
 |some k=>
  cases o' with
  |none=>cases r
  |some U=>
   obtain ⟨t,xs,I⟩:=hp k R;obtain ⟨t',iy,l2⟩:=hp U T;exact hr k rfl U rfl (hI.inj k U p q _ _ b I trivial l2 trivial j r).1
 intro γ aa p q b j r;obtain ⟨o,R,rfl⟩:=Ϣ.1 aa;cases o with
 |none=>cases j
 |some k=>
  obtain ⟨t,xs,I⟩:=hp k R;exact (hI.inj k k p q _ _ b I trivial I trivial j r).2
theorem ki.dA {ks:List Nat}{A:List (List Nat->Option Nat)}(h:ki g m ks A){γ:List Nat->Option Nat}(j:γ∈A){p:List Nat}{b:Nat}(r:γ p=some b): ∃k,k∈ks/\ ∃p t xs,g.f k p=some b/\lk k m=some (.seq t xs):=by
 obtain ⟨l,e,J,hp⟩:=h;subst e;obtain ⟨o,I,rfl⟩:=Ϣ.1 j;cases o with
 |none=>cases r
 |some k=>
  obtain ⟨t,xs,R⟩:=hp k I;exact ⟨k,J.subset (List.mem_filterMap.2 ⟨some k,I,rfl⟩),p,t,xs,r,R⟩
def oP (g:GM)(m:Mem)(r:Nat->Prop)(w':Ε)(u:Mem):Prop:=
 ∀p∈u,∃t o,lk p.1 m=some (.seq t o)/\(p.2= .gone\/ ∃j,p.2= .seq t j/\cL t o j/\
  (match g.f p.1 [] with|none=>j=[]|some b=> ∃arr,dA w' b arr/\eU r w' (g.f p.1) t j arr))
theorem oP.nil {j:Nat->Prop}{w':Ε}:oP g m j w' []:=λp hp=>by simp at hp
theorem oP.app {j:Nat->Prop}{w':Ε}{o r:Mem}(t:oP g m j w' o)(I:oP g m j w' r):oP g m j w' (o++r):=λp hp=>by
 rcases Λ.1 hp with hp|hp
 exact t p hp;exact I p hp
theorem IE (hm:kh g m S w)(hS: ∀b,S b->S2 b){c:Nat}{t:Ty}{xs:List t.D}(hl:lk c m=some (.seq t xs)){v:π}(hv:CR g m S w (.all c) v):
 ∃A,ga S2 w t [v] xs A/\ki g m [c] A/\ ∀(w':Ε) (SO SU:Nat->Prop) (j:List t.D),(∀b arr,dA w b arr-> ∃o,dA w' b o/\o.size=arr.size)->(t.jl=true\/ ∀b,SO b->SU b)->ga SO w' t [v] j A->cL t xs j->oP g m SU w' [(c,.seq t j)]:=by
 have hx:=hv.2.2 t xs (.inl hl);have r:=hm c _ hl;unfold jb at hx;unfold jk at r;have R: ∀j,xs=[]->cL t xs j->j=[]:=λj h h'=>ϸ (by rw [<-h'.1,h];rfl);cases J:g.f c [] with
 |none=>
  rw [show g c=none from J] at hx;rw [J] at r;obtain ⟨a,ha⟩:=hx;have r:xs=[]:=r;refine ⟨[λ_=>none],.inl ⟨rfl,r,a,by rw [ha]⟩,⟨[none],rfl,by simp,by simp⟩,λw' SO SU j T U ho I p hp=> ?_⟩;simp at hp;subst hp;refine ⟨t,xs,hl,.inr ⟨j,rfl,I,?_⟩⟩;simp only [J];exact R j r I
 |some b=>
  rw [show g c=some b from J] at hx;rw [J] at r;obtain ⟨cap,arr,e1,k1,k2,k3,k4⟩:=hx;obtain ⟨o,rj,sh⟩:=r;have:=k2.eq rj;subst this;subst e1;by_cases hcap:cap=0;subst hcap;have aa:xs=[]:=ϸ (by omega);refine ⟨[λ_=>none],.inl ⟨rfl,aa,_,by rw [aa];rfl⟩,⟨[none],rfl,by simp,by simp⟩,λw' SO SU j T U ho I p hp=> ?_⟩;simp at hp;subst hp;have LA:=R j aa I;refine ⟨t,xs,hl,.inr ⟨j,rfl,I,?_⟩⟩;simp only [J];obtain ⟨o,q1,_⟩:=T b arr k2;exact ⟨o,q1,by rw [LA];exact λi hi=>by simp at hi⟩;refine ⟨[g.f c],.inr ⟨_,g.f c,rfl,rfl,b,cap,arr,J,rfl,k1,by omega,k2,k3,k4,sh.bJ (λb hb=>⟨hS b hb,rfl⟩) (λ_ _ _=>rfl)⟩,⟨[some c],rfl,by simp,λk hk=>by simp at hk;subst hk;exact ⟨t,xs,hl⟩⟩,λw' SO SU j T U ho I p hp=> ?_⟩;simp at hp;subst hp;refine ⟨t,xs,hl,.inr ⟨j,rfl,I,?_⟩⟩;rcases ho with ⟨e,_⟩|⟨v',γ,e,e2,b2,Z2,D9,h0,_,_,_,q3,_,_,q6⟩
  injection e with e;rw [e] at J;cases J;injection e with e;subst e;simp only [h0];refine ⟨D9,q3,?_⟩;rcases U with U|U
  exact q6.jl U;exact q6.bJ (λb hb=>⟨U b hb,rfl⟩) λ_ _ _=>rfl
theorem LG (hm:kh g m S w)(hS: ∀b,S b->S2 b){c sz:Nat}{t:Ty}{xs:List t.D}(T:lk c m=some (.seq t xs)){v:π}(hv:CR g m S w (.dn c 0 sz 0) v):
 ∃A,zU S2 w t [v] xs A/\ki g m [c] A/\ ∀(w':Ε) (U SU:Nat->Prop) (j:List t.D),(t.jl=true\/ ∀b,U b->SU b)->zU U w' t [v] j A->cL t xs j->oP g m SU w' [(c,.seq t j)]:=by
 obtain ⟨_,b,R,ev⟩:=hv;have o:=hm c _ T;unfold jk at o;have R:g.f c []=some b:=R;rw [R] at o;obtain ⟨arr,r,sh⟩:=o;refine ⟨[g.f c],⟨g.f c,b,arr,rfl,by rw [ev];simp,R,r,sh.bJ (λb r=>⟨hS b r,rfl⟩) λ_ _ _=>rfl⟩,⟨[some c],rfl,by simp,λk hk=>by simp at hk;subst hk;exact ⟨t,xs,T⟩⟩,λw' U SU j I ho hsh p hp=> ?_⟩;simp at hp;subst hp;refine ⟨t,xs,T,.inr ⟨j,rfl,hsh,?_⟩⟩;obtain ⟨γ,b2,J,e1,_,h0,q3,q6⟩:=ho;injection e1 with e1;subst e1;simp only [h0];refine ⟨J,q3,?_⟩;rcases I with I|I
 exact q6.jl I;exact q6.bJ (λb r=>⟨I b r,rfl⟩) λ_ _ _=>rfl
theorem AP (hm:kh g m S w)(hS: ∀b,S b->S2 b): ∀(t:Ty) {p:List bI} {x:t.D} {r r':List bI} {ks:List Nat} {vs:List π},
 impl m t p=some (x,r)->dU m t p=some (ks,r')->cc (CR g m S w) p vs->
 ∃v1 v2 A,vs=v1++v2/\dG S2 w t v1 x A/\cc (CR g m S w) r v2/\r'=r/\ki g m ks A/\(∀k∈ks,∃t xs,lk k m=some (.seq t xs))/\
  ∀(w':Ε) (SO SU:Nat->Prop) (x':t.D) (u:Mem) (J:List bI),(∀b arr,dA w b arr-> ∃eB,dA w' b eB/\eB.size=arr.size)->(t.kX=true\/ ∀b,SO b->SU b)->oO t p x'=some (u,J)->dG SO w' t v1 x' A->tz t x x'->
   u.map aav=ks/\oP g m SU w' u/\J=r:=by
 have IF: ∀(t:Ty) (hp: ∀cs x A,A=[]/\cn S2 w t cs x->dG S2 w t cs x A) (R: ∀p x' u J,oO t p x'=some (u,J)->(match p with| .bG _ _::r=>some (([]:Mem),r)|_=>none)=some (u,J))
  {p:List bI} {x:t.D} {r r':List bI} {ks:List Nat} {vs:List π},
  du m t p=some (x,r)->(match p with| .bG _ _::r=>some ([],r)|_=>none)=some (ks,r')->cc (CR g m S w) p vs->
  ∃v1 v2 A,vs=v1++v2/\dG S2 w t v1 x A/\cc (CR g m S w) r v2/\r'=r/\ki g m ks A/\(∀k∈ks,∃t xs,lk k m=some (.seq t xs))/\
  ∀(w':Ε) (SO SU:Nat->Prop) (x':t.D) (u:Mem) (J:List bI),(∀b arr,dA w b arr-> ∃eB,dA w' b eB/\eB.size=arr.size)->(t.kX=true\/ ∀b,SO b->SU b)->oO t p x'=some (u,J)->dG SO w' t v1 x' A->tz t x x'->
   u.map aav=ks/\oP g m SU w' u/\J=r:=by
  intro t hp R p x r r' ks vs o j I;split at j;rename_i t' y r0;injection j with j;injection j with T U;subst T;subst U;cases vs with
  |nil=>exact I.elim
  |cons v vs=>
   simp only [du] at o;split at o;rename_i z hz;injection o with o;injection o with T U;subst T;subst U;refine ⟨[v],vs,[],rfl,hp _ _ _ ⟨rfl,?_⟩,I.2,rfl,ki.nil,by simp,λw' SO SU x' u J _ _ h _ _=> ?_⟩;refine rC (m0:=[]) hS agd (c:= .bG t' y) ?_ I.1;simp only [dT] at hz⊢;exact hz;have:=R _ _ _ _ h;simp at this;obtain ⟨T,U⟩:=this;subst T;subst U;exact ⟨rfl,oP.nil,rfl⟩;cases o
  cases j
 intro t;induction t with
 |int k=>intro p x r r' ks vs o j I;exact IF (.int k) (λ_ _ _ h=>h) (λ_ _ _ _ h=>h) o j I
 |dP k=>intro p x r r' ks vs o j I;exact IF (.dP k) (λ_ _ _ h=>h) (λ_ _ _ _ h=>h) o j I
 |bool=>intro p x r r' ks vs o j I;exact IF .bool (λ_ _ _ h=>h) (λ_ _ _ _ h=>h) o j I
 |str=>intro p x r r' ks vs o j I;exact IF .str (λ_ _ _ h=>h) (λ_ _ _ _ h=>h) o j I
 |cl f t _=>intro p x r r' ks vs o j I;exact IF (.cl f t) (λ_ _ _ h=>h) (λ_ _ _ _ h=>h) o j I
 |st t ih=>intro p x r r' ks vs o j I;exact ih o j I
 |pair a b OY OZ=>
  intro p x r r' ks vs o j I;simp only [impl] at o;simp only [dU] at j;split at o;rename_i y r1 T;split at o;rename_i z r2 U;injection o with o;injection o with k1 k2;subst k1;subst k2;split at j;rename_i YV r3 e3;split at j;rename_i YW r4 e4;injection j with j;injection j with k3 k4;subst k3;subst k4;obtain ⟨v1,v2,A1,rfl,o1,a1,q1,s1,p1,n1⟩:=OY T e3 I;subst q1;obtain ⟨v3,v4,A2,rfl,o2,a2,q2,s2,p2,n2⟩:=OZ U e4 a1;refine ⟨v1++v3,v4,A1++A2,by simp,⟨v1,v3,_,_,rfl,rfl,o1,o2⟩,a2,q2,s1.app s2,λk hk=> ?_,λw' SO SU x' u J nK hf R ho hsh=> ?_⟩;rcases Λ.1 hk with hk|hk
  exact p1 k hk;exact p2 k hk;simp only [oO] at R;have NS:a.kX=true\/ ∀b,SO b->SU b:=hf.imp_left λhf=>by simp only [Ty.kX,κ] at hf;exact hf.1
  have Z3:b.kX=true\/ ∀b,SO b->SU b:=hf.imp_left λhf=>by simp only [Ty.kX,κ] at hf;exact hf.2
  split at R;rename_i u1 r5 e5;split at R;rename_i u2 r6 e6;injection R with R;injection R with k5 k6;subst k5;subst k6;obtain ⟨c1,c2,B1,B2,ec,eA,o3,o4⟩:=ho;obtain ⟨rfl,rfl⟩:=agz ec (by rw [dG.len a o1,dG.len a o3]);obtain ⟨rfl,rfl⟩:=agz eA (by rw [dG.tA a o1,dG.tA a o3]);obtain ⟨g1,g2,g3⟩:=n1 w' SO SU x'.1 u1 r5 nK NS e5 o3 hsh.1;subst g3;obtain ⟨g4,g5,g6⟩:=n2 w' SO SU x'.2 u2 r6 nK Z3 e6 o4 hsh.2;exact ⟨by simp [g1,g4],g2.app g5,g6⟩;cases R;cases R;cases j;cases j;cases o;cases o
 |sl t ih=>
  intro p x r r' ks vs o j I;simp only [dU] at j;split at j;rename_i c r0;cases vs with
  |nil=>exact I.elim
  |cons v vs=>
   simp only [impl,du] at o;split at o;rename_i z hz;injection o with o;injection o with T U;subst T;subst U;simp only [dT] at hz;split at hz;rename_i e' xs hl;rw [hl] at j;simp only at j;split at j;rename_i he;subst he;injection j with j;injection j with T U;subst T;subst U;rw [dif_pos rfl] at hz;injection hz with hz;subst hz;obtain ⟨A,f1,f2,f3⟩:=IE hm hS hl I.1;refine ⟨[v],vs,A,rfl,f1,I.2,rfl,f2,λk hk=>by simp at hk;subst hk;exact ⟨_,_,hl⟩,λw' SO SU x' u J nK hf R ho hsh=> ?_⟩;simp only [oO] at R;injection R with R;injection R with T U;subst T;subst U;exact ⟨rfl,f3 w' SO SU x' nK hf ho hsh,rfl⟩;cases j;cases hz;cases o
  rename_i r0;injection j with j;injection j with T U;subst T;subst U;cases vs with
  |nil=>exact I.elim
  |cons v vs=>
   simp only [impl,du,dT] at o;injection o with o;injection o with T U;subst T;subst U;obtain ⟨a,ha⟩:=I.1;subst ha;refine ⟨[.slice a 0 0],vs,[λ_=>none],rfl,.inl ⟨rfl,rfl,a,rfl⟩,I.2,rfl,⟨[none],rfl,by simp,by simp⟩,by simp,λw' SO SU x' u J nK hf R ho hsh=> ?_⟩;simp only [oO] at R;injection R with R;injection R with T U;subst T;subst U;exact ⟨rfl,oP.nil,rfl⟩
  cases j
 |own t ih=>
  intro p x r r' ks vs o j I;simp only [dU] at j;split at j;simp [impl,du,dT] at o;simp [impl,du,dT] at o;cases j
 |bx t ih=>
  intro p x r r' ks vs o j I;simp only [dU] at j;split at j;rename_i c i sz off r0;cases vs with
  |nil=>exact I.elim
  |cons v vs=>
   simp only [impl,du] at o;split at o;rename_i z hz;injection o with o;injection o with T U;subst T;subst U;simp only [dT] at hz;split at hz;rename_i e' xs hl;rw [hl] at j;simp only at j;split at j;rename_i he;subst he;injection j with j;injection j with T U;subst T;subst U;rw [dif_pos rfl] at hz;cases hb:(Β i 0&&(Β off 0&&Β sz e'.size)) with
   |false=>rw [hb] at hz;cases hz
   |true=>
    rw [hb] at hz;simp only [cond_true] at hz;injection hz with hz;subst hz;simp only [κ] at hb;have hi:=aby hb.1;have ho:=aby hb.2.1;subst hi;subst ho;obtain ⟨A,f1,f2,f3⟩:=LG hm hS hl I.1;refine ⟨[v],vs,A,rfl,f1,I.2,rfl,f2,λk hk=>by simp at hk;subst hk;exact ⟨_,_,hl⟩,λw' SO SU x' u J nK hf R ho hsh=> ?_⟩;simp only [oO] at R;injection R with R;injection R with T U;subst T;subst U;exact ⟨rfl,f3 w' SO SU x' hf ho hsh,rfl⟩
   cases j;cases hz;cases o
  cases j
theorem pw {m:Mem}: ∀(t:Ty) (cs:List bI) {p:List Nat×List bI},dU m t cs=some p->lu t cs=some p
 | .int _,_,_,h=>h
 | .dP _,_,_,h=>h
 | .bool,_,_,h=>h
 | .str,_,_,h=>h
 | .cl _ _,_,_,h=>h
 | .sl t,cs,p,h=>by
  simp only [dU] at h;simp only [lu];split at h;split at h;split at h;exact h;cases h;cases h;exact h;cases h
 | .own t,cs,p,h=>by
  simp only [dU] at h;simp only [lu];split at h;split at h;split at h;exact h;cases h;cases h;exact h;cases h
 | .bx t,cs,p,h=>by
  simp only [dU] at h;simp only [lu];split at h;split at h;split at h;exact h;cases h;cases h;cases h
 | .st t,cs,p,h=>pw t cs h
 | .pair a b,cs,p,h=>by
  simp only [dU] at h;simp only [lu];split at h;rename_i x r j;rw [pw a cs j];simp only;split at h;rename_i y I o;rw [pw b r o];exact h;cases h;cases h
end
end Go.Ide
namespace Go.Ide
theorem eh: ∀(l:List Chunk) (n k:Nat),lk k (cD n l)=if n<=k then l[k - n]? else none
 |[],n,k=>by simp [cD,fR]
 |c::r,n,k=>by
  simp only [cD];rw [bO,eh r (n+1) k];by_cases h:k=n;subst h;simp;rw [if_neg h];by_cases j:n<=k;rw [if_pos j,if_pos (by omega),show k - n=(k - (n+1))+1 from by omega];simp;rw [if_neg j,if_neg (by omega)]
theorem rm: ∀(l:List Chunk) (n:Nat),(cD n l).length=l.length
 |[],_=>rfl
 |_::r,n=>by simp [cD,rm r (n+1)]
structure Laid (g':GM)(m':Mem)(S':Nat->Prop)(w:Ε)(n:Nat)(YX:List Chunk)(Cb:List (List Nat->Option Nat)):Prop where
 len:Cb.length=YX.length
 chunk: ∀(j:Nat) (ch:Chunk),YX[j]? =some ch->ch≠ .gone/\ ∃o,Cb[j]? =some o/\jk g' m' S' w o ch
theorem Laid.app {g':GM}{m':Mem}{S':Nat->Prop}{w:Ε}{n R:Nat}{t c2:List Chunk}{a1 a2:List (List Nat->Option Nat)}(o:Laid g' m' S' w n t a1)(I:Laid g' m' S' w R c2 a2):
 Laid g' m' S' w n (t++c2) (a1++a2):=by
 refine ⟨by simp [o.len,I.len],λj J r=> ?_⟩;by_cases p:j<t.length;rw [Ν p] at r;rw [Ν (by rw [o.len];exact p)];exact o.chunk j J r;rw [Κ (by omega)] at r;rw [Κ (by rw [o.len];omega),o.len];exact I.chunk _ J r
section
variable {S:Nat->Prop} {w:Ε}
theorem Cp {t:Ty}{cs:List π}{xs:List t.D}{A:List (List Nat->Option Nat)}(n:Nat)(h:ga S w t cs xs A):
 ∀(g':GM) (m':Mem),(∀j ch,[Chunk.seq t xs][j]? =some ch->lk (n+j) m'=some ch)->(∀j o,A[j]? =some o->g'.f (n+j)=o)->
  cc (CR g' m' S w) [.all n] cs/\Laid g' m' S w n [.seq t xs] A:=by
 rcases h with ⟨T,hx,a,e⟩|⟨v,γ,T,e,b,cap,arr,h0,ev,h1,h2,h3,h4,h5,h6⟩
 subst T;subst e;subst hx;intro g' m' U hg;have r:=U 0 _ rfl;have p:=hg 0 _ rfl;rw [Ϭ] at r p;refine ⟨⟨⟨by rw [r];simp,rfl,λt' iy I=> ?_⟩,trivial⟩,rfl,λj ch J=> ?_⟩;have:g' n=none:=congrFun p [];have e:=ad3 r I;rw [r] at e;injection e with e;injection e with e1 R;subst e1;have R:=eq_of_heq R;subst R;rw [this];exact ⟨a,rfl⟩;have:j=0:=by
  have:=(ω.1 J).1;simp at this;exact this
 subst this;simp at J;subst J;exact ⟨by simp,_,rfl,rfl⟩;subst T;subst e;subst ev;intro g' m' U hg;have r:=U 0 _ rfl;have p:=hg 0 _ rfl;rw [Ϭ] at r p;refine ⟨⟨⟨by rw [r];simp,rfl,λt' iy I=> ?_⟩,trivial⟩,rfl,λj ch J=> ?_⟩;have e:=ad3 r I;rw [r] at e;injection e with e;injection e with e1 R;subst e1;have R:=eq_of_heq R;subst R;have:g' n=some b:=(congrFun p []).trans h0;rw [this];exact ⟨cap,arr,rfl,h1,h3,h4,h5⟩;have:j=0:=by
  have:=(ω.1 J).1;simp at this;exact this
 subst this;simp at J;subst J;refine ⟨by simp,γ,rfl,?_⟩;unfold jk;rw [h0];exact ⟨arr,h3,h6⟩
theorem IG {t:Ty}{cs:List π}{xs:List t.D}{A:List (List Nat->Option Nat)}(n:Nat)(h:zU S w t cs xs A):
 ∀(g':GM) (m':Mem),(∀j ch,[Chunk.seq t xs][j]? =some ch->lk (n+j) m'=some ch)->(∀j o,A[j]? =some o->g'.f (n+j)=o)->
  cc (CR g' m' S w) [.dn n 0 t.size 0] cs/\Laid g' m' S w n [.seq t xs] A:=by
 obtain ⟨γ,b,arr,R,e,I,T,U⟩:=h;subst R;subst e;intro g' m' hm hg;have J:=hm 0 _ rfl;have p:=hg 0 _ rfl;rw [Ϭ] at J p;refine ⟨⟨⟨by rw [J];simp,b,(congrFun p []).trans I,by simp⟩,trivial⟩,rfl,λj ch r=> ?_⟩;have:j=0:=by
  have:=(ω.1 r).1;simp at this;exact this
 subst this;simp at r;subst r;refine ⟨by simp,γ,rfl,?_⟩;unfold jk;rw [I];exact ⟨arr,T,U⟩
theorem fx: ∀(t:Ty) (x:t.D) (n:Nat),(cZ t x n).2.length=t.zX
 | .int _,_,_=>rfl
 | .dP _,_,_=>rfl
 | .bool,_,_=>rfl
 | .str,_,_=>rfl
 | .sl _,_,_=>rfl
 | .bx _,_,_=>rfl
 | .cl _ _,_,_=>rfl
 | .own _,_,_=>rfl
 | .st t,x,n=>fx t x n
 | .pair a b,x,n=>by simp only [cZ,ξ,fx a,fx b];rfl
theorem qb: ∀(t:Ty) {cs:List π} {x:t.D} {A:List (List Nat->Option Nat)} (n:Nat),dG S w t cs x A->
 ∀(g':GM) (m':Mem),(∀j ch,(cZ t x n).2[j]? =some ch->lk (n+j) m'=some ch)->(∀j o,A[j]? =some o->g'.f (n+j)=o)->
  cc (CR g' m' S w) (cZ t x n).1 cs/\Laid g' m' S w n (cZ t x n).2 A
 | .int _,_,_,_,n,⟨r,h⟩=>by
  subst r;subst h;exact λg' m' _ _=>⟨⟨rfl,trivial⟩,rfl,λj ch p=>by simp [cZ] at p⟩
 | .dP _,_,_,_,n,⟨r,b,e,h⟩=>by
  subst r;subst e;exact λg' m' _ _=>⟨⟨⟨b,rfl,h⟩,trivial⟩,rfl,λj ch p=>by simp [cZ] at p⟩
 | .bool,_,_,_,n,⟨r,h⟩=>by
  subst r;subst h;exact λg' m' _ _=>⟨⟨rfl,trivial⟩,rfl,λj ch p=>by simp [cZ] at p⟩
 | .str,_,_,_,n,⟨r,h⟩=>by
  subst r;subst h;exact λg' m' _ _=>⟨⟨rfl,trivial⟩,rfl,λj ch p=>by simp [cZ] at p⟩
 | .st t,_,_,_,n,h=>qb t (cs:=_) n h
 | .pair a b,_,x,_,n,⟨c1,c2,U,A2,e1,e2,I,h2⟩=>by
  subst e1;subst e2;intro g' m' J R;have l1:U.length=(cZ a x.1 n).2.length:=by rw [fx,dG.tA a I]
  obtain ⟨p1,q1⟩:=qb a n I g' m' (λj ch p=>J j ch (by
   simp only [cZ];rw [Ν (ω.1 p).1];exact p)) (λj o p=>R j o (by
   rw [Ν (ω.1 p).1];exact p))
  obtain ⟨p2,q2⟩:=qb b (n+(cZ a x.1 n).2.length) h2 g' m' (λj ch p=>by
   rw [Ϡ];refine J _ ch ?_;simp only [cZ];rw [Κ (by omega)];simpa using p) (λj o p=>by
   rw [Ϡ];refine R _ o ?_;rw [Κ (by omega),l1];simpa using p)
  exact ⟨p1.append p2,q1.app q2⟩
 | .sl t,_,T,_,n,h=>Cp n h
 | .bx t,_,T,_,n,h=>IG n h
 | .cl f t,_,_,_,n,⟨r,vs,ps,e,h⟩=>by
  subst r;subst e;exact λg' m' _ _=>⟨⟨⟨vs,ps,rfl,h⟩,trivial⟩,rfl,λj ch p=>by simp [cZ] at p⟩
 | .own t,_,T,_,n,h=>Cp n h
theorem Cq {g':GM}{m':Mem}{t:Ty}{cs:List π}{j:List bI}{v:π}(h:dQ t cs v)(p:cc (CR g' m' S w) j cs):CV g' m' S w t.sS j v:=by
 unfold dQ at h;unfold CV;cases o:t.sS with
 |true=>rw [o] at h;simp at h;exact ⟨cs,h,p⟩
 |false=>
  rw [o] at h;simp at h;subst h;cases j with
  |nil=>exact p.elim
  |cons c r=>
   cases r with
   |nil=>exact p.1
   |cons=>exact p.2.elim
theorem zY: ∀{rs:List RV} {vs:List π} {A:List (List Nat->Option Nat)} (n:Nat),nw S w rs vs A->A.length=(lC rs n).2.length/\
 ∀(g':GM) (m':Mem),(∀j ch,(lC rs n).2[j]? =some ch->lk (n+j) m'=some ch)->(∀j o,A[j]? =some o->g'.f (n+j)=o)->
  cc (λ(t:Bool×List bI) v=>CV g' m' S w t.1 t.2 v) (lC rs n).1 vs/\Laid g' m' S w n (lC rs n).2 A
 |[],[],A,n,h=>by
  have:A=[]:=h;subst this;exact ⟨rfl,λ_ _ _ _=>⟨trivial,rfl,λj ch I=>by simp [lC] at I⟩⟩
 |r::rs,v::vs,A,n,⟨U,A2,e,T,h2⟩=>by
  subst e;have head: ∃p:List bI×List Chunk,p=(if r.fresh then cZ r.t r.x n else (gT r.t r.x,[]))/\U.length=p.2.length/\
   ∀(g':GM) (m':Mem),(∀j ch,p.2[j]? =some ch->lk (n+j) m'=some ch)->(∀j o,U[j]? =some o->g'.f (n+j)=o)->CV g' m' S w r.t.sS p.1 v/\Laid g' m' S w n p.2 U:=by
   unfold wB at T;split at T;rename_i hf;obtain ⟨cs,hv,ho⟩:=T;refine ⟨cZ r.t r.x n,by rw [if_pos hf],by rw [fx,dG.tA _ ho],λg' m' J R=> ?_⟩;obtain ⟨p1,q1⟩:=qb r.t n ho g' m' J R;exact ⟨Cq hv p1,q1⟩;rename_i hf;obtain ⟨hF,cs,hv,hr⟩:=T;subst hF;refine ⟨(gT r.t r.x,[]),by rw [if_neg hf],rfl,λg' m' J R=>⟨Cq hv (ly r.t hr),rfl,λj ch I=>by simp at I⟩⟩
  obtain ⟨p,hp,l1,k1⟩:=head;obtain ⟨l2,k2⟩:=zY (n+p.2.length) h2;have e2:(lC (r::rs) n).2=p.2++(lC rs (n+p.2.length)).2:=by rw [hp];rfl
  have e1:(lC (r::rs) n).1=(r.t.sS,p.1)::(lC rs (n+p.2.length)).1:=by rw [hp];rfl
  refine ⟨by rw [e2];simp [l1,l2],λg' m' J R=> ?_⟩;rw [e2] at J⊢;rw [e1];obtain ⟨p1,q1⟩:=k1 g' m' (λj ch I=>J j ch (by
   rw [Ν (ω.1 I).1];exact I)) (λj o I=>R j o (by
   rw [Ν (ω.1 I).1];exact I))
  obtain ⟨p2,q2⟩:=k2 g' m' (λj ch I=>by
   rw [Ϡ];refine J _ ch ?_;rw [Κ (by omega)];simpa using I) (λj o I=>by
   rw [Ϡ];refine R _ o ?_;rw [Κ (by omega),l1];simpa using I)
  exact ⟨⟨p1,p2⟩,q1.app q2⟩
 |[],_::_,_,_,h=>h.elim
 |_::_,[],_,_,h=>h.elim
theorem LH {g':GM}{m':Mem}{l:List (Bool×List bI)}{vs:List π}{v:π}(h:cc (λ(t:Bool×List bI) v=>CV g' m' S w t.1 t.2 v) l vs)(j:zW vs v):VR g' m' S w (Hh l) v:=by
 match l,vs with
 |[],[]=>exact ⟨[],j,trivial⟩
 |[(true,cs)],[u]=>
  have j:v=u:=j;subst j;exact h.1
 |[(false,[c])],[u]=>
  have j:v=u:=j;subst j;exact h.1
 |[(false,[])],[u]=>exact h.1.elim
 |[(false,_::_::_)],[u]=>exact h.1.elim
 |(o,p)::r::I,J::R::T=>
  have e:Hh ((o,p)::r::I)= .AA ((o,p)::r::I):=by
   cases o<;>rcases p with _|⟨x,_|⟨y,U⟩⟩<;>rfl
  rw [e];exact ⟨J::R::T,j,h⟩
 |[],_::_=>exact h.elim
 |[_],[]=>exact h.elim
 |[_],_::_::_=>exact h.2.elim
 |_::_::_,[]=>exact h.elim
 |_::_::_,[_]=>exact h.2.elim
end
end Go.Ide
namespace Go.Ide
section
variable {g:GM} {m:Mem} {S S2:Nat->Prop} {w:Ε}
theorem qc (hm:kh g m S w)(hS: ∀b,S b->S2 b){mA mB m2:Mem}(hR:iz g m m2 S2 w)(hA:mB=[]\/mB=m)(Hi: ∀c cs b,lk c mB=some (.box cs)->g c=some b->S2 b):
 ∀{ms:List Mode} {vs:List bK} {vals:List π} {asx:List Arg} {ks:List Nat} {up:Mem} {outs:List TD},(mA=m\/j3 ms=true)->
  dD mA mB m2 ms vs=some asx->dW m ms vs=some ks->ed ms vs outs=some up->cc (VR g m S w) vs vals->
  ∃Fs:List (List (List Nat->Option Nat)),oN S2 w asx vals Fs/\ki g m ks Fs.flatten/\
   (∀(w':Ε) (SO SU:Nat->Prop),(∀b arr,dA w b arr-> ∃eB,dA w' b eB/\eB.size=arr.size)->(fA ms=true\/j3 ms=true\/ ∀b,SO b->SU b)->iA SO w' asx vals Fs outs->up.map aav=ks/\oP g m SU w' up)/\
   (∀b,um b asx Fs-> ∃k p t xs,g.f k p=some b/\lk k m=some (.seq t xs)/\(k,Chunk.gone)∈up)
 |[],[],vals,asx,ks,up,outs,_,J,h2,U,h4=>by
  cases vals with
  |cons=>exact h4.elim
  |nil=>
   simp only [dD] at J;injection J with J;subst J;simp only [dW] at h2;injection h2 with h2;subst h2;cases outs with
   |cons=>simp [ed] at U
   |nil=>
    simp only [ed] at U;injection U with U;subst U;exact ⟨[],trivial,ki.nil,λ_ _ _ _ _ _=>⟨rfl,λp hp=>by simp at hp⟩,λb hb=>by simp [um] at hb⟩
 |md::ms,v::vs,[],asx,ks,up,outs,_,J,h2,U,h4=>h4.elim
 |md::ms,v::vs,u::vals,asx,ks,up,outs,aa,J,h2,U,h4=>by
  have other: ∀(O0: ∀t,md≠ .own t) (ab: ∀t,md≠ .mv t),∃Fs:List (List (List Nat->Option Nat)),oN S2 w asx (u::vals) Fs/\ki g m ks Fs.flatten/\
   (∀(w':Ε) (SO SU:Nat->Prop),(∀b arr,dA w b arr-> ∃eB,dA w' b eB/\eB.size=arr.size)->(fA (md::ms)=true\/j3 (md::ms)=true\/ ∀b,SO b->SU b)->iA SO w' asx (u::vals) Fs outs->up.map aav=ks/\oP g m SU w' up)/\
   (∀b,um b asx Fs-> ∃k p t xs,g.f k p=some b/\lk k m=some (.seq t xs)/\(k,Chunk.gone)∈up):=by
   intro O0 ab;have e1:dD mA mB m2 (md::ms) (v::vs)=(match pj mB m2 md v,dD mA mB m2 ms vs with|some a,some asx=>some (a::asx)|_,_=>none):=by
    cases md<;>first|rfl|exact absurd rfl (O0 _)|exact absurd rfl (ab _)
   have e2:dW m (md::ms) (v::vs)=dW m ms vs:=by cases md<;>first|rfl|exact absurd rfl (O0 _)|exact absurd rfl (ab _)
   have e3:ed (md::ms) (v::vs) outs=ed ms vs outs:=by cases md<;>first|rfl|exact absurd rfl (O0 _)|exact absurd rfl (ab _)
   have e4:fA (md::ms)=fA ms:=by cases md<;>first|rfl|exact absurd rfl (O0 _)|exact absurd rfl (ab _)
   have e5:j3 (md::ms)=j3 ms:=by cases md<;>first|rfl|exact absurd rfl (O0 _)|exact absurd rfl (ab _)
   rw [e1] at J;rw [e2] at h2;rw [e3] at U;split at J;rename_i a Su r has;injection J with J;subst J;obtain ⟨Fs,k1,k2,k5,k6⟩:=qc hm hS hR hA Hi (by rw [<-e5];exact aa) has h2 U h4.2;have LI:xB S2 w a u []/\(∀t x,a≠ .own t x)/\(∀t x,a≠ .mv t x):=by
    have hv:=h4.1;have bZ: ∀t,md= .bZ t->xB S2 w a u []/\(∀t x,a≠ .own t x)/\(∀t x,a≠ .mv t x):=by
     intro t e;subst e;have r:iP m2 (.bZ t) v=some a:=r;simp only [iP] at r;split at r;rename_i x I;injection r with r;subst r;obtain ⟨cs,q1,q2⟩:=nu hS hR I hv;exact ⟨⟨rfl,cs,q1,q2⟩,(λ_ _ e=>by cases e),λ_ _ e=>by cases e⟩;cases r
    have zP: ∀t t' x off,iP m2 (.fZ t) (.one (.ip t' x off))=some a->VR g m S w (.one (.ip t' x off)) u->xB S2 w a u []/\(∀t x,a≠ .own t x)/\(∀t x,a≠ .mv t x):=by
     intro t t' x off r hv;simp only [iP] at r;split at r;rename_i y hy;injection r with r;subst r;obtain ⟨ad,es,e,hs,fC,kK⟩:=hv;have ae:cc (CR g m S w) (gT t' x) es:=ly t' kK;obtain ⟨v1,v2,e2,r1,r2⟩:=jB hS hR t hy ((ae.drop off).take t.size);have:v2=[]:=by cases v2 with|nil=>rfl|cons=>exact r2.elim
     subst this;refine ⟨⟨rfl,ad.add off,v1,e,by rw [fy];exact hS _ hs,λj q hq=> ?_,r1⟩,(λ_ _ e=>by cases e),λ_ _ e=>by cases e⟩;rw [add_add];rw [ϲ] at e2;rw [<-e2,ϒ] at hq;split at hq;exact fC _ q (by simpa using hq);cases hq;cases r
    cases md with
    |own t=>exact absurd rfl (O0 t)
    |mv t=>exact absurd rfl (ab t)
    |nl=>
     cases v with
     |one c=>
      cases c with
      |bH=>
       simp only [pj,iP] at r;injection r with r;subst r;exact ⟨⟨rfl,hv⟩,(λ_ _ e=>by cases e),λ_ _ e=>by cases e⟩
      |_=>simp [pj,iP] at r
     |_=>simp [pj,iP] at r
    |bZ t=>exact bZ t rfl
    |fn=>
     cases v with
     |one c=>
      cases c with
      |fn f=>
       simp only [pj,iP] at r;injection r with r;subst r;exact ⟨⟨rfl,hv⟩,(λ_ _ e=>by cases e),λ_ _ e=>by cases e⟩
      |_=>simp [pj,iP] at r
     |_=>simp [pj,iP] at r
    |ji t=>
     cases v with
     |one c=>
      cases c with
      |ji f t' x=>
       simp only [pj,iP] at r;split at r;rename_i e;subst e;injection r with r;subst r;obtain ⟨ad,es,e,hs,fC,kK⟩:=hv;exact ⟨⟨rfl,ad,es,e,hS _ hs,fC,abE (λb hb=>⟨hS b hb,rfl⟩) _ es x kK⟩,(λ_ _ e=>by cases e),λ_ _ e=>by cases e⟩;cases r
      |_=>simp [pj,iP] at r
     |_=>simp [pj,iP] at r
    |fZ t=>
     cases v with
     |one c=>
      cases c with
      |ip t' x off=>exact zP t t' x off r hv
      |ptr c off=>
       simp only [pj] at r;split at r;rename_i cs hl;split at r;rename_i y hy;injection r with r;subst r;obtain ⟨_,b,hg,e⟩:=hv;have YY:lk c m=some (.box cs):=by
        rcases hA with hA|hA
        rw [hA] at hl;simp [fR] at hl;rw [<-hA];exact hl
       obtain ⟨b',arr,oE,hblk,ae⟩:=hm c _ YY;rw [show g.f c []=some b from hg] at oE;injection oE with oE;subst oE;obtain ⟨v1,v2,e2,r1,r2⟩:=jB hS hR t hy ((ae.drop off).take t.size);have:v2=[]:=by cases v2 with|nil=>rfl|cons=>exact r2.elim
       subst this;refine ⟨⟨rfl,⟨b,off,none⟩,v1,e,Hi c cs b hl hg,λj q hq=> ?_,r1⟩,(λ_ _ e=>by cases e),λ_ _ e=>by cases e⟩;rw [cw,hblk.cell];rw [ϲ] at e2;rw [<-e2,ϒ] at hq;split at hq;simpa using hq;cases hq;cases r;cases r
      |_=>simp [pj,iP] at r
     |_=>simp [pj,iP] at r
   refine ⟨[]::Fs,⟨LI.1,k1⟩,by simpa using k2,λw' SO SU nK R ho=> ?_,λb hb=> ?_⟩;refine k5 w' SO SU nK (by rw [e4,e5] at R;exact R) ?_;cases a with
   |own t x=>exact absurd rfl (LI.2.1 t x)
   |mv t x=>exact absurd rfl (LI.2.2 t x)
   |bZ t x=>exact ho
   |fZ t x=>exact ho
   |fn f=>exact ho
   |ji f t x=>exact ho
   |nl=>exact ho
   refine k6 b ?_;cases a with
   |mv t x=>exact absurd rfl (LI.2.2 t x)
   |_=>exact hb
   cases J
  cases md with
  |bZ t=>exact other (λ_ e=>by cases e) (λ_ e=>by cases e)
  |fZ t=>exact other (λ_ e=>by cases e) (λ_ e=>by cases e)
  |fn=>exact other (λ_ e=>by cases e) (λ_ e=>by cases e)
  |ji t=>exact other (λ_ e=>by cases e) (λ_ e=>by cases e)
  |nl=>exact other (λ_ e=>by cases e) (λ_ e=>by cases e)
  |mv t=>
   have Sv:mA=m:=by
    rcases aa with aa|aa
    exact aa;cases aa
   simp only [dD] at J;split at J;rename_i a Su r has;injection J with J;subst J;simp only [iP] at r;split at r;rename_i x I;rw [Sv] at I;injection r with r;subst r;simp only [dW] at h2;split at h2;rename_i YV YW Hj sY;injection h2 with h2;subst h2;simp only [ed] at U;split at U;rename_i Z4 u2 Hk VL;rw [pw t _ Hj] at Hk;injection Hk with Hk;injection Hk with Hk _;subst Hk;injection U with U;subst U;obtain ⟨Fs,k1,k2,k5,k6⟩:=qc hm hS hR hA Hi (.inl Sv) has sY VL h4.2;have tB: ∃ah,dQ t ah u/\cc (CR g m S w) v.cells ah/\impl m t v.cells=some (x,[]):=by
    have hv:=h4.1;unfold kf at I;split at I;rename_i c af;split at I;rename_i y hy;injection I with I;subst I;exact ⟨[u],by simp [dQ,af],⟨hv,trivial⟩,hy⟩;cases I;rename_i cs af;split at I;rename_i y hy;injection I with I;subst I;obtain ⟨Hl,e,sT⟩:=hv;exact ⟨Hl,by simp [dQ,af,e],sT,hy⟩;cases I;cases I
   obtain ⟨ah,ag,ae,himp⟩:=tB;obtain ⟨v1,v2,F1,e1,o1,a1,q1,s1,p1,n1⟩:=AP hm hS t himp Hj ae;have:v2=[]:=by cases v2 with|nil=>rfl|cons=>exact a1.elim
   subst this;rw [ϲ] at e1;subst e1;have LJ:=p1;refine ⟨F1::Fs,⟨⟨ah,ag,o1⟩,k1⟩,by simpa using s1.app k2,λw' SO SU nK R ho=> ?_,λb hb=> ?_⟩;have R:fA ms=true\/j3 ms=true\/ ∀b,SO b->SU b:=by
    rcases R with R|R|R
    exact .inl R;cases R;exact .inr (.inr R)
   obtain ⟨g3,g4⟩:=k5 w' SO SU nK R ho;refine ⟨by simp [g3,List.map_map,Function.comp_def],λp hp=> ?_⟩;rcases Λ.1 hp with hp|hp
   obtain ⟨k,hk,rfl⟩:=Ϣ.1 hp;obtain ⟨t',iy,tu⟩:=LJ k hk;exact ⟨t',iy,tu,.inl rfl⟩;exact g4 p hp;rcases hb with ⟨γ,hγ,p,hp⟩|hb
   obtain ⟨k,hk,p,t',iy,q1,q2⟩:=s1.dA hγ hp;exact ⟨k,p,t',iy,q1,q2,Λ.2 (.inl (Ϣ.2 ⟨k,hk,rfl⟩))⟩;obtain ⟨k,p,t',iy,q1,q2,q3⟩:=k6 b hb;exact ⟨k,p,t',iy,q1,q2,Λ.2 (.inr q3)⟩;cases U;cases h2;cases r;cases J
  |own t=>
   have Sv:mA=m:=by
    rcases aa with aa|aa
    exact aa;cases aa
   simp only [dD] at J;split at J;rename_i a Su r has;injection J with J;subst J;simp only [iP] at r;split at r;rename_i x I;rw [Sv] at I;injection r with r;subst r;simp only [dW] at h2;split at h2;rename_i YV YW Hj sY;injection h2 with h2;subst h2;cases outs with
   |nil=>simp [ed] at U
   |cons o outs=>
    simp only [ed] at U;split at U;rename_i ht;split at U;rename_i u1 u2 Z5 VL;injection U with U;subst U;obtain ⟨Fs,k1,k2,k5,k6⟩:=qc hm hS hR hA Hi (.inl Sv) has sY VL h4.2;have tB: ∃ah,dQ t ah u/\cc (CR g m S w) v.cells ah/\impl m t v.cells=some (x,[]):=by
     have hv:=h4.1;unfold kf at I;split at I;rename_i c af;split at I;rename_i y hy;injection I with I;subst I;exact ⟨[u],by simp [dQ,af],⟨hv,trivial⟩,hy⟩;cases I;rename_i cs af;split at I;rename_i y hy;injection I with I;subst I;obtain ⟨Hl,e,sT⟩:=hv;exact ⟨Hl,by simp [dQ,af,e],sT,hy⟩;cases I;cases I
    obtain ⟨ah,ag,ae,himp⟩:=tB;obtain ⟨v1,v2,F1,e1,o1,a1,q1,s1,p1,n1⟩:=AP hm hS t himp Hj ae;have:v2=[]:=by cases v2 with|nil=>rfl|cons=>exact a1.elim
    subst this;rw [ϲ] at e1;subst e1;refine ⟨F1::Fs,⟨⟨ah,ag,o1⟩,k1⟩,by simpa using s1.app k2,λw' SO SU nK R ho=> ?_,λb hb=> ?_⟩;have R:(t.kX=true\/ ∀b,SO b->SU b)/\(fA ms=true\/j3 ms=true\/ ∀b,SO b->SU b):=by
     rcases R with R|R|R
     have R:t.kX=true/\fA ms=true:=by simpa [fA] using R
     exact ⟨.inl R.1,.inl R.2⟩;cases R;exact ⟨.inr R,.inr (.inr R)⟩
    obtain ⟨⟨VM,Cc,T,IH,VN⟩,NT⟩:=ho;have hcs:Cc=ah:=by
     unfold dQ at ag T;split at ag;rename_i af;rw [if_pos af] at T;rw [ag] at T;simpa using T.symm;rename_i af;rw [if_neg af] at T;rw [ag,T]
    subst hcs;obtain ⟨g1,g2,_⟩:=n1 w' SO SU _ _ _ nK R.1 Z5 IH VN;obtain ⟨g3,g4⟩:=k5 w' SO SU nK R.2 NT;refine ⟨by simp [g1,g3],λp hp=> ?_⟩;rcases Λ.1 hp with hp|hp
    exact g2 p hp;exact g4 p hp;obtain ⟨k,p,t',iy,q1,q2,q3⟩:=k6 b hb;exact ⟨k,p,t',iy,q1,q2,Λ.2 (.inr q3)⟩;cases U;cases U
   cases h2;cases r;cases J
 |[],_::_,_,_,_,_,_,_,J,_,_,_=>by simp [dD] at J
 |md::_,[],_,_,_,_,_,_,J,_,_,_=>by cases md<;>simp [dD] at J
end
end Go.Ide
namespace Go.Ide
theorem iO.mono {g:GM}{m:Mem}{S S':Nat->Prop}{w:Ε}(h: ∀b,S b->S' b):iO g g m m S S' w w:=
 ⟨⟨λb j=>⟨h b j,rfl⟩,λ_ r=>⟨r,rfl⟩,λ_ _ o _ p=>⟨o,p,rfl⟩,λ_ _ _ _ arr _ _ _ j=>⟨arr,j,rfl⟩⟩,λ_ _=>rfl,
  λ_ _ o _ p=>⟨o,p,cL.refl _ _,λ_ _ _ arr _ j=>⟨arr,j,rfl⟩⟩⟩
section
variable {S S':Nat->Prop} {w w':Ε}
theorem ga.mono (h: ∀b,S b->S' b){t:Ty}{cs:List π}{xs:List t.D}{A:List (List Nat->Option Nat)}(j:ga S w t cs xs A):ga S' w t cs xs A:=by
 rcases j with j|⟨v,γ,o,e,b,cap,arr,p,r,I,J,R,T,U,k8⟩
 exact .inl j;exact .inr ⟨v,γ,o,e,b,cap,arr,p,r,I,J,R,T,U,k8.bJ (λb hb=>⟨h b hb,rfl⟩) λ_ _ _=>rfl⟩
theorem dG.mono (h: ∀b,S b->S' b): ∀(t:Ty) {cs:List π} {x:t.D} {A:List (List Nat->Option Nat)},dG S w t cs x A->dG S' w t cs x A
 | .int _,_,_,_,j=>j
 | .dP _,_,_,_,j=>j
 | .bool,_,_,_,j=>j
 | .str,_,_,_,j=>j
 | .pair a b,_,_,_,⟨I,J,R,T,U,e2,o,p⟩=>⟨I,J,R,T,U,e2,dG.mono h a o,dG.mono h b p⟩
 | .st t,_,_,_,j=>dG.mono h t (cs:=_) j
 | .sl t,_,_,_,j=>ga.mono h j
 | .bx t,_,_,_,⟨γ,b,arr,eA,e,h0,o,p⟩=>⟨γ,b,arr,eA,e,h0,o,p.bJ (λb r=>⟨h b r,rfl⟩) λ_ _ _=>rfl⟩
 | .cl f t,cs,x,_,j=>⟨j.1,abE (λb r=>⟨h b r,rfl⟩) (.cl f t) cs x j.2⟩
 | .own t,_,_,_,j=>ga.mono h j
theorem ga.flat {t:Ty}(o:t.jl=true){cs:List π}{xs:List t.D}{A:List (List Nat->Option Nat)}(j:ga S w t cs xs A):ga S' w t cs xs A:=by
 rcases j with j|⟨v,γ,p,e,b,cap,arr,r,I,J,R,T,U,k7,k8⟩
 exact .inl j;exact .inr ⟨v,γ,p,e,b,cap,arr,r,I,J,R,T,U,k7,k8.jl o⟩
theorem dG.kX: ∀(t:Ty) {cs:List π} {x:t.D} {A:List (List Nat->Option Nat)},t.kX=true->dG S w t cs x A->dG S' w t cs x A
 | .int _,_,_,_,_,j=>j
 | .dP _,_,_,_,_,j=>j
 | .bool,_,_,_,_,j=>j
 | .str,_,_,_,_,j=>j
 | .pair a b,_,_,_,o,⟨I,J,R,T,U,e2,p,r⟩=>by
  simp only [Ty.kX,κ] at o;exact ⟨I,J,R,T,U,e2,dG.kX a o.1 p,dG.kX b o.2 r⟩
 | .st t,_,_,_,o,j=>dG.kX t (cs:=_) o j
 | .sl t,_,_,_,o,j=>ga.flat o j
 | .bx t,_,_,_,o,⟨γ,b,arr,eA,e,h0,p,r⟩=>⟨γ,b,arr,eA,e,h0,p,r.jl o⟩
 | .cl _ _,_,_,_,o,_=>by cases o
 | .own t,_,_,_,o,j=>ga.flat o j
theorem nw.mono (h: ∀b,S b->S' b): ∀{rs:List RV} {vs:List π} {A:List (List Nat->Option Nat)},nw S w rs vs A->nw S' w rs vs A
 |[],[],_,j=>j
 |r::rs,v::vs,_,⟨J,R,e,o,T⟩=>by
  refine ⟨J,R,e,?_,nw.mono h T⟩;unfold wB at o⊢;split at o;rename_i p;rw [if_pos p];obtain ⟨cs,t,I⟩:=o;exact ⟨cs,t,dG.mono h _ I⟩;rename_i p;rw [if_neg p];obtain ⟨U,cs,t,I⟩:=o;exact ⟨U,cs,t,abE (λb hb=>⟨h b hb,rfl⟩) _ _ _ I⟩
 |[],_::_,_,j=>j.elim
 |_::_,[],_,j=>j.elim
theorem nw.alone: ∀{rs:List RV} {vs:List π} {A:List (List Nat->Option Nat)},rs.all RV.tW=true->nw S w rs vs A->nw S' w rs vs A
 |[],[],_,_,o=>o
 |r::rs,v::vs,_,t,⟨T,U,e,p,h2⟩=>by
  simp only [List.all_cons,κ] at t;refine ⟨T,U,e,?_,nw.alone t.2 h2⟩;have j:=t.1;unfold RV.tW at j;unfold wB at p⊢;split at p;rename_i I;rw [if_pos I] at j⊢;obtain ⟨cs,J,R⟩:=p;exact ⟨cs,J,dG.kX _ j R⟩;rename_i I;rw [if_neg I] at j⊢;obtain ⟨k0,cs,J,R⟩:=p;exact ⟨k0,cs,J,cn.flat _ j R⟩
 |[],_::_,_,_,o=>o.elim
 |_::_,[],_,_,o=>o.elim
end
theorem mD {α:Type}: ∀{l:List (Nat×α)} {k:Nat} {v:α},lk k l=some v->(k,v)∈l
 |[],_,_,h=>by simp [fR] at h
 |(j,o)::l,k,v,h=>by
  rw [bO] at h;split at h;rename_i e;subst e;injection h with h;subst h;simp
  exact ύ _ (mD h)
theorem xC {α:Type}: ∀{l:List (Nat×α)} {k:Nat} {v:α},(l.map aav).Nodup->(k,v)∈l->lk k l=some v
 |[],_,_,_,h=>by simp at h
 |(o,t)::l,k,v,j,h=>by
  simp only [aaa,aba] at j;rw [bO];rcases ϖ.1 h with h|h
  injection h with p r;rw [if_pos p,r];have:k≠o:=λe=>j.1 (by rw [<-e];exact Ϣ.2 ⟨(k,v),h,rfl⟩);rw [if_neg this];exact xC j.2 h
theorem Gb {α:Type}: ∀{l:List (Nat×α)} {k:Nat},lk k l=none->k ∉ l.map aav
 |[],_,_=>by simp
 |(j,o)::l,k,h=>by
  rw [bO] at h;split at h;cases h;rename_i e;simp only [aaa,ϖ,not_or];exact ⟨e,Gb h⟩
theorem iB: ∀{l:List Nat},j7 l=true->l.Nodup
 |[],_=>by simp
 |a::l,h=>by
  simp only [j7,κ,List.all_eq_true,Bool.not_eq_true'] at h;refine aba.2 ⟨λj=> ?_,iB h.2⟩;have:=h.1 a j;rw [show Β a a=true from Nat.beq_refl a] at this;cases this
section
variable {cx:Cx} {g:GM} {st:St} {a:Act} {w w':Ε}
theorem pM.at {A:List (List Nat->Option Nat)}(h:pM A){i j:Nat}{γ o:List Nat->Option Nat}{p q:List Nat}{b:Nat}(t:A[i]? =some γ)(r:A[j]? =some o)(hp:γ p=some b)(I:o q=some b):i=j/\p=q:=by
 have J: ∀(i j:Nat) (γ o:List Nat->Option Nat) (p q:List Nat),A[i]? =some γ->A[j]? =some o->γ p=some b->o q=some b-> ¬i<j:=λi j γ o p q t r hp I R=>by
  obtain ⟨T,e1⟩:=ω.1 t;obtain ⟨U,e2⟩:=ω.1 r;exact List.pairwise_iff_getElem.1 h.1 i j T U R p q b (by rw [e1];exact hp) (by rw [e2];exact I)
 have e:i=j:=by
  rcases Nat.lt_trichotomy i j with R|e|R
  exact absurd R (J i j γ o p q t r hp I);exact e;exact absurd R (J j i o γ q p r t I hp)
 subst e;rw [t] at r;injection r with r;subst r;exact ⟨rfl,h.2 γ (aaN t) p q b hp I⟩
theorem ph.call {rs:List RV}{up:Mem}{ks F':List Nat}{M:Nat->Prop}{F:List Nat}{Cb:List (List Nat->Option Nat)}{vs:List π}{v:π}{e:cO}{SX:Nat->Prop}(h:cT cx g st a w)(hw:fw st.mem e.new)(he:e=⟨Hh (lC rs st.nx).1,cD st.nx (lC rs st.nx).2,up,e.cond⟩)(R:bU F w w')(hF: ∀b,b∈F-> ∃k,k∈ks/\ ∃p t xs,g.f k p=some b/\lk k st.mem=some (.seq t xs))(ui:up.map aav=ks)(hu:oP g st.mem SX w' up)(pt:vi Cb F')(hn:pM Cb)(Hm: ∀b,b∈F'->(w.heap.size<=b\/M b)/\b<w'.heap.size)(hM: ∀b,M b->b∈F/\ ∃k p t xs,g.f k p=some b/\lk k st.mem=some (.seq t xs)/\lk k up=some .gone)(Z6: ∀b,SX b->b<w'.heap.size/\(b<cx.w0.heap.size->cx.S b)/\ ¬Live g st.mem b/\b ∉ F')(hr:nw SX w' rs vs Cb)(hv:zW vs v):ph cx st a e v w':=by
 obtain ⟨qF,Sw⟩:=zY st.nx hr;let r:=(lC rs st.nx).2;let g':GM:=⟨λk=>if st.nx<=k then (match Cb[k - st.nx]? with|some o=>o|none=>g.f k) else g.f k⟩;have uo: ∀j,j<r.length->lk (st.nx+j) st.mem=none:=λj hj=>by
  have Cr:(st.nx+j,r[j])∈e.new:=by
   rw [he];exact mD (by rw [eh,if_pos (by omega),show st.nx+j - st.nx=j from by omega];exact Γ hj)
  exact hw _ Cr
 let m':Mem:=up++cD st.nx r++st.mem;have hold: ∀k,lk k st.mem≠none->st.nx<=k->r.length<=k - st.nx:=λk iH U=>by
  rcases aam (k - st.nx) r.length with hlt|wQ
  exact absurd (by have:=uo _ hlt;rwa [show st.nx+(k - st.nx)=k from by omega] at this) iH;exact wQ
 have T: ∀k,lk k st.mem≠none->g'.f k=g.f k:=λk iH=>by
  show (if st.nx<=k then _ else _)=_;by_cases U:st.nx<=k;rw [if_pos U,aab (by rw [qF];exact hold k iH U)];rw [if_neg U]
 have I: ∀j o,Cb[j]? =some o->g'.f (st.nx+j)=o:=λj o hj=>by
  show (if st.nx<=st.nx+j then _ else _)=_;rw [if_pos (by omega),show st.nx+j - st.nx=j from by omega,hj]
 have Et: ∀k J,lk k up=some J-> ∃t xs,lk k st.mem=some (.seq t xs):=λk J R=>by
  obtain ⟨t,xs,h1,_⟩:=hu _ (mD R);exact ⟨t,xs,h1⟩
 have AQ: ∀j J,r[j]? =some J->lk (st.nx+j) m'=some J:=λj J hj=>by
  show lk _ (up++cD st.nx r++st.mem)=_;have h1:lk (st.nx+j) up=none:=by
   cases hx:lk (st.nx+j) up with
   |none=>rfl
   |some c0=>
    obtain ⟨t,xs,h1⟩:=Et _ _ hx;rw [uo j (ω.1 hj).1] at h1;cases h1
  rw [cF,cF,h1,eh,if_pos (by omega),show st.nx+j - st.nx=j from by omega,hj];rfl
 have vj: ∀k J,lk k st.mem=some J->lk k up=none->lk k m'=some J:=λk J R IA=>by
  show lk _ (up++cD st.nx r++st.mem)=_;have VO:lk k (cD st.nx r)=none:=by
   rw [eh];by_cases U:st.nx<=k;rw [if_pos U];exact aab (hold k (by rw [R];simp) U);rw [if_neg U]
  rw [cF,cF,IA,VO,R];rfl
 have vk: ∀k J,lk k m'=some J->lk k st.mem=none-> ∃j,k=st.nx+j/\r[j]? =some J:=λk J R zZ=>by
  have R:lk k (up++cD st.nx r++st.mem)=some J:=R;have IA:lk k up=none:=by
   cases hx:lk k up with
   |none=>rfl
   |some c0=>
    obtain ⟨t,xs,h1⟩:=Et _ _ hx;rw [h1] at zZ;cases zZ
  rw [cF,cF,IA,eh,zZ] at R;by_cases U:st.nx<=k;rw [if_pos U] at R;refine ⟨k - st.nx,by omega,?_⟩;cases hx:r[k - st.nx]? with
  |none=>rw [hx] at R;simp at R
  |some c0=>rw [hx] at R;simpa using R
  rw [if_neg U] at R;simp at R
 obtain ⟨OW,UL⟩:=Sw g' m' AQ I;have II: ∀(j:Nat) (γ:List Nat->Option Nat) (p:List Nat) (b:Nat),Cb[j]? =some γ->γ p=some b->b∈F':=λj γ p b hj hp=>(pt b).2 ⟨γ,aaN hj,p,hp⟩;have NU: ∀k p J,lk k m'=some J->J.owns p->(∃c0,lk k st.mem=some c0/\c0.owns p)\/(lk k st.mem=none/\ ∃j o,k=st.nx+j/\Cb[j]? =some o):=λk p J R hn=>by
  cases ho:lk k st.mem with
  |none=>
   obtain ⟨j,e,hj⟩:=vk k J R ho;obtain ⟨_,o,NT,_⟩:=UL.chunk j J hj;exact .inr ⟨rfl,j,o,e,NT⟩
  |some c0=>
   left;refine ⟨c0,rfl,?_⟩;cases hx:lk k up with
   |none=>rw [vj k c0 ho hx] at R;injection R with R;rw [R];exact hn
   |some c1=>
    obtain ⟨t,xs,h1⟩:=Et _ _ hx;rw [h1] at ho;injection ho with ho;rw [<-ho];trivial
 have nY: ∀b,SX b->cx.safe g' m' w' b:=λb hb=>by
  obtain ⟨h1,h2,h3,h4⟩:=Z6 b hb;refine ⟨h1,h2,?_⟩;rintro ⟨k,p,J,oF,Iu,oE⟩;rcases NU k p J oF Iu with ⟨c0,ho,Cs⟩|⟨_,j,o,e,hj⟩
  exact h3 ⟨k,p,c0,ho,Cs,by rw [<-T k (by rw [ho];simp)];exact oE⟩;subst e;rw [I j o hj] at oE;exact h4 (II j o p b hj oE)
 have t:wA cx g g' st.mem m' w w' F:=by
  refine ⟨R,λb hb=> ?_,T,λk J ho=> ?_,λk J ho oF=> ?_⟩;obtain ⟨k,_,p,t,xs,h1,h2⟩:=hF b hb;exact ⟨k,p,_,h2,trivial,h1⟩;cases hx:lk k up with
  |none=>
   refine .inl ⟨vj k J ho hx,λp b hn Ct Gc=> ?_⟩;obtain ⟨k',oF,p',t,xs,h1,h2⟩:=hF b Gc;have:=(h.fY k k' p p' J _ b ho hn h2 trivial Ct h1).1;subst this;rw [<-ui] at oF;exact Gb hx oF
  |some c1=>
   obtain ⟨t,xs,h1,h2⟩:=hu _ (mD hx);simp only at h1 h2;rw [ho] at h1;injection h1 with h1;subst h1;rcases h2 with h2|⟨iy,h2,h3,h4⟩
   subst h2;refine .inr (.inl ?_);show lk _ (up++cD st.nx r++st.mem)=_;rw [cF,cF,hx];rfl;subst h2;refine .inr (.inr ⟨by simp,.seq t iy,?_,by simp,λ_ _=>trivial,λt0 UM e=> ?_,λt0 UM e=> ?_,λp b arr _ _ hb=>R.sz b arr hb,?_⟩);show lk _ (up++cD st.nx r++st.mem)=_;rw [cF,cF,hx];rfl;obtain ⟨e1,e2⟩:=qa e;subst e1;subst e2;exact ⟨xs,.inl rfl,h3.1⟩;injection e with e1 e2;subst e1;have e2:=eq_of_heq e2;subst e2;exact ⟨xs,rfl,h3⟩;rw [T k (by rw [ho];simp)];unfold jk;cases NK:g.f k [] with
   |none=>rw [NK] at h4;exact h4
   |some b=>
    rw [NK] at h4;obtain ⟨arr,k1,k2⟩:=h4;exact ⟨arr,k1,k2.bJ (λb hb=>⟨nY b hb,rfl⟩) λ_ _ _=>rfl⟩
  obtain ⟨j,e,hj⟩:=vk k J oF ho;subst e;obtain ⟨hng,o,O1,jm⟩:=UL.chunk j J hj;refine ⟨?_,λp b _ Ct=> ?_⟩;rw [I j o O1];exact jk.stays (iO.mono nY) (λ_ _ _ _=>rfl) jm;rw [I j o O1] at Ct;have Gc:=II j o p b O1 Ct;have Sx:(w.heap.size<=b\/b∈F)/\ ∀k' p' c0 pL,lk k' st.mem=some c0->c0.owns p'->g.f k' p'=some b->lk k' m'=some pL->pL≠ .gone->False:=by
   rcases (Hm b Gc).1 with wQ|Z7
   exact ⟨.inl wQ,λk' p' c0 pL Eu Cs AR _ _=>by have:=h.lt k' p' c0 b Eu Cs AR;omega⟩;obtain ⟨VP,km,pm,tm,xm,q1,q2,q3⟩:=hM b Z7;refine ⟨.inr VP,λk' p' c0 pL Eu Cs AR aa sU=> ?_⟩;have:=(h.fY k' km p' pm c0 _ b Eu Cs q2 trivial AR q1).1;subst this;have aa:lk k' (up++cD st.nx r++st.mem)=some pL:=aa;rw [cF,cF,q3] at aa;have aa:some Chunk.gone=some pL:=aa;injection aa with aa;exact sU aa.symm
  refine ⟨Sx.1,(Hm b Gc).2,λk' p' pL aa sU AR=> ?_⟩;rcases NU k' p' pL aa sU with ⟨c0,Eu,Cs⟩|⟨_,j2,o2,e2,Hf⟩
  exact (Sx.2 k' p' c0 pL Eu Cs (by rw [<-T k' (by rw [Eu];simp)];exact AR) aa (Chunk.pq sU)).elim;subst e2;rw [I j2 o2 Hf] at AR;obtain ⟨e1,e2⟩:=hn.at Hf O1 AR Ct;exact ⟨by rw [e1],e2⟩
 have hs:=h.ua (nx':=st.nx+(cD st.nx r).length) t;refine ⟨g',?_,?_⟩;rw [he];exact hs;rw [he];exact ad4 (iO.mono nY) (LH OW hv)
theorem rF {ms:List Mode}{rs:List RV}{outs:List TD}{f:aaF}{vs:List bK}{vals:List π}{e:cO}(h:cT cx g st a w)(hw:fw st.mem e.new)(r:vP cx.P st.mem st.nx ms rs outs f vs=some e)(hc:cp e.cond)(hv:cc (VR g st.mem (cx.safe g st.mem w) w) vs vals):kx cx.P f/\Calls cx.P f vals.toArray w λen w'=> ∃v,en= .returned v/\ph cx st a e v w':=by
 unfold vP at r;split at r;rename_i ks up FY ui;split at r;rename_i asx has;cases j:(ks.isEmpty&&j3 ms) with
 |false=>rw [j] at r;cases r
 |true=>
  rw [j] at r;simp only [cond_true] at r;simp only [κ,List.isEmpty_iff] at j;injection r with r;obtain ⟨NN,Gd⟩:=j;subst NN;have T:CallOK cx.P f asx rs outs:=by rw [<-r] at hc;exact hc.1
  obtain ⟨Fs,k1,k2,k5,k6⟩:=qc (mA:=[]) (mB:=[]) (m2:=[]) (S2:=cx.safe g st.mem w) h.mem (λ_ h=>h) agd (.inl rfl) (λc cs b hl=>by simp [fR] at hl) (.inr Gd) has FY ui hv;have RH: ∀γ,γ∈Fs.flatten-> ∀p,γ p=none:=λγ I p=>by
   cases hp:γ p with
   |none=>rfl
   |some b=>obtain ⟨k,hk,_⟩:=k2.dA I hp;simp at hk
  have hB:vi Fs.flatten []:=λb=>⟨λh=>by simp at h,λ⟨γ,I,p,hp⟩=>by rw [RH γ I p] at hp;cases hp⟩;refine ⟨T.1,(T.2 w (cx.safe g st.mem w) vals Fs [] hB (k2.inj h.LF (by simp)) (λb j=>⟨j.1,by simp⟩) (by simp) k1 h.Ls).mono ?_⟩;rintro en w' ⟨v,A',F',e1,pt,hn,⟨us,Sy,Sz⟩,U,o,J⟩;refine ⟨v,e1,?_⟩;obtain ⟨u1,u2⟩:=k5 w' _ (je (cx.safe g st.mem w) w w' F') o.sz (.inr (.inl Gd)) J;refine ph.call (SX:=je (cx.safe g st.mem w) w w' F') (ks:=[]) (up:=up) h hw (by rw [<-r]) o (by simp) u1 u2 pt hn U (λb j=>by obtain ⟨γ,I,p,hp⟩:=um.sub j;rw [RH γ I p] at hp;cases hp) (λb j=> ?_) Sy Sz;obtain ⟨h1,h2,h3⟩:=j;refine ⟨h1,λhlt=> ?_,?_,h3⟩;exact (h2 (ϕ hlt h.bJ.size)).2.1 hlt;rintro ⟨k,p,ch,q1,q2,q3⟩;exact (h2 (h.lt k p ch b q1 q2 q3)).2.2 ⟨k,p,ch,q1,q2,q3⟩
 cases uq:j7 ks with
 |false=>rw [uq] at r;cases r
 |true=>
  rw [uq] at r;simp only [cond_true] at r;have LK:=iB uq;cases j:(rs.all RV.tW&&fA ms) with
  |true=>
   rw [j] at r;simp only [cond_true] at r;simp only [κ] at j;obtain ⟨O2,SA⟩:=j;split at r;rename_i asx has;injection r with r;have T:CallOK cx.P f asx rs outs:=by rw [<-r] at hc;exact hc.1
   let S2:Nat->Prop:=λb=>b<w.heap.size/\ ∀c p,c∈ks->g.f c p=some b-> ∀t xs,lk c st.mem=some (.seq t xs)->False;have VQ: ∀(k:Nat) (l:List Nat),k ∉ l->lk k ((l.map λk=>(k,Chunk.gone))++st.mem)=lk k st.mem:=by
    intro k l;induction l with
    |nil=>intro _;rfl
    |cons q l ih=>
     intro hk;simp only [ϖ,not_or] at hk;simp only [aaa,ade];rw [bO,if_neg hk.1];exact ih hk.2
   have SB: ∀(k:Nat) (l:List Nat),k∈l->lk k ((l.map λk=>(k,Chunk.gone))++st.mem)=some .gone:=by
    intro k l;induction l with
    |nil=>intro hk;simp at hk
    |cons q l ih=>
     intro hk;simp only [aaa,ade];rw [bO];by_cases e:k=q;rw [if_pos e];rw [if_neg e];exact ih (by simpa [e] using hk)
   have hR:iz g st.mem ((ks.map λk=>(k,Chunk.gone))++st.mem) S2 w:=by
    intro k t xs hl;by_cases hk:k∈ks;rw [SB k ks hk] at hl;cases hl;rw [VQ k ks hk] at hl;refine ⟨hl,?_⟩;have SC: ∀p b,g.f k p=some b->S2 b:=λp b hg=>⟨h.lt k p _ b hl trivial hg,λc q hc Cu t' iy R=>by
     have:=(h.fY k c p q _ _ b hl trivial R trivial hg Cu).1;subst this;exact hk hc⟩
    refine ⟨SC,?_⟩;have jm:=h.mem k _ hl;unfold jk at jm;cases hg:g.f k [] with
    |none=>rw [show g k=none from hg];rw [hg] at jm;exact jm
    |some b=>
     rw [show g k=some b from hg];rw [hg] at jm;obtain ⟨arr,q1,q2⟩:=jm;exact ⟨arr,q1,q2.bJ (λb' rj=>⟨⟨rj.1,λc p hc Cu t' iy R=>rj.2.2 ⟨c,p,_,R,trivial,Cu⟩⟩,rfl⟩) λ_ _ _=>rfl⟩
   obtain ⟨Fs,k1,k2,k5,k6⟩:=qc (mA:=st.mem) (mB:=st.mem) (m2:=(ks.map λk=>(k,Chunk.gone))++st.mem) (S2:=S2) h.mem (λb j=>⟨j.1,λc p hc Cu t' iy R=>j.2.2 ⟨c,p,_,R,trivial,Cu⟩⟩) hR (.inr rfl)
    (λc cs b hl hg=>⟨h.Lt hl (by simp) hg,λc' p' Is VS t' iy R=>by
     have:=(h.fY c c' [] p' _ _ b hl trivial R trivial hg VS).1;subst this;rw [hl] at R;cases R⟩) (.inl rfl) has FY ui hv
   have VT:pM Fs.flatten:=k2.inj h.LF LK;obtain ⟨F,hB⟩:=nz (n:=w.heap.size) (A:=Fs.flatten) (λγ I p b hp=>by
    obtain ⟨k,_,p',t,xs,q1,q2⟩:=k2.dA I hp;exact h.lt k p' _ b q2 trivial q1)
   have Lk: ∀b,b∈F-> ∃k,k∈ks/\ ∃p t xs,g.f k p=some b/\lk k st.mem=some (.seq t xs):=λb j=>by
    obtain ⟨γ,I,p,hp⟩:=(hB b).1 j;exact k2.dA I hp
   refine ⟨T.1,(T.2 w S2 vals Fs F hB VT (λb j=>⟨j.1,λGc=> ?_⟩) (λb Gc=> ?_) k1 (Glob.mono (λb j=>⟨⟨j.1,λc p _ Cu t' iy R=>j.2.2 ⟨c,p,_,R,trivial,Cu⟩⟩,rfl⟩) h.Ls)).mono ?_⟩;obtain ⟨c,h1,p,t,xs,h2,h3⟩:=Lk b Gc;exact j.2 c p h1 h2 t xs h3;obtain ⟨c,h1,p,t,xs,h2,h3⟩:=Lk b Gc;exact h.lt c p _ b h3 trivial h2;rintro en w' ⟨v,A',F',e1,pt,hn,⟨us,Sy,Sz⟩,U,o,J⟩;refine ⟨v,e1,?_⟩;obtain ⟨u1,u2⟩:=k5 w' _ (λb=>b<w'.heap.size/\(b<cx.w0.heap.size->cx.S b)/\ ¬Live g st.mem b/\b ∉ F') o.sz (.inl SA) J;exact ph.call (SX:=λb=>b<w'.heap.size/\(b<cx.w0.heap.size->cx.S b)/\ ¬Live g st.mem b/\b ∉ F') (ks:=ks) (up:=up) h hw (by rw [<-r]) o Lk u1 u2 pt hn U (λb j=>⟨(hB b).2 (um.sub j),by
    obtain ⟨k,p,t,xs,q1,q2,q3⟩:=k6 b j;exact ⟨k,p,t,xs,q1,q2,xC (by rw [u1];exact LK) q3⟩⟩) (λb j=>j) (nw.alone O2 Sy) Sz
   cases r
  |false=>
   rw [j] at r;simp only [cond_false] at r;split at r;rename_i asx has;injection r with r;have T:CallOK cx.P f asx rs outs:=by rw [<-r] at hc;exact hc.1
   obtain ⟨Fs,k1,k2,k5,k6⟩:=qc (mA:=st.mem) (mB:=[]) (m2:=[]) (S2:=cx.safe g st.mem w) h.mem (λ_ h=>h) agd (.inl rfl) (λc cs b hl=>by simp [fR] at hl) (.inl rfl) has FY ui hv;have VT:pM Fs.flatten:=k2.inj h.LF LK;obtain ⟨F,hB⟩:=nz (n:=w.heap.size) (A:=Fs.flatten) (λγ I p b hp=>by
    obtain ⟨k,_,p',t,xs,q1,q2⟩:=k2.dA I hp;exact h.lt k p' _ b q2 trivial q1)
   have Lk: ∀b,b∈F-> ∃k,k∈ks/\ ∃p t xs,g.f k p=some b/\lk k st.mem=some (.seq t xs):=λb j=>by
    obtain ⟨γ,I,p,hp⟩:=(hB b).1 j;exact k2.dA I hp
   refine ⟨T.1,(T.2 w (cx.safe g st.mem w) vals Fs F hB VT (λb j=>⟨j.1,λGc=> ?_⟩) (λb Gc=> ?_) k1 h.Ls).mono ?_⟩;obtain ⟨c,h1,p,t,xs,h2,h3⟩:=Lk b Gc;exact j.2.2 ⟨c,p,_,h3,trivial,h2⟩;obtain ⟨c,h1,p,t,xs,h2,h3⟩:=Lk b Gc;exact h.lt c p _ b h3 trivial h2;rintro en w' ⟨v,A',F',e1,pt,hn,⟨us,Sy,Sz⟩,U,o,J⟩;refine ⟨v,e1,?_⟩;obtain ⟨u1,u2⟩:=k5 w' _ (je (cx.safe g st.mem w) w w' F') o.sz (.inr (.inr λ_ h=>h)) J;refine ph.call (SX:=je (cx.safe g st.mem w) w w' F') (ks:=ks) (up:=up) h hw (by rw [<-r]) o Lk u1 u2 pt hn U (λb j=>⟨(hB b).2 (um.sub j),by
    obtain ⟨k,p,t,xs,q1,q2,q3⟩:=k6 b j;exact ⟨k,p,t,xs,q1,q2,xC (by rw [u1];exact LK) q3⟩⟩) (λb j=> ?_) Sy Sz
   obtain ⟨h1,h2,h3⟩:=j;refine ⟨h1,λhlt=> ?_,?_,h3⟩;exact (h2 (ϕ hlt h.bJ.size)).2.1 hlt;rintro ⟨k,p,ch,q1,q2,q3⟩;exact (h2 (h.lt k p ch b q1 q2 q3)).2.2 ⟨k,p,ch,q1,q2,q3⟩;cases r
 cases r
end
end Go.Ide
namespace Go.Ide
def Hn:aad->Nat
 | .f32=>2143289344
 | .f64=>9221120237041090560
def YZ (op:acQ)(k:aad)(x y:Nat):Nat:=
 match floatBits op k x y with
 |some r=>di k r
 |none=>Hn k
def SD (k:aad)(x:Nat):Nat:=di k (acT k x)
def O3 (k:aad)(n:Int):Nat:=di k (k.nearest n)
def RI (k:aad)(x y:Nat):Bool:=k.format.order x y==some .eq
def dP (k:aad)(x y:Nat):Bool:=k.format.order x y==some .lt
def VU (k:aad)(x y:Nat):Bool:=k.format.order x y==some .lt||k.format.order x y==some .eq
def VV (k:aad)(x y:Nat):Bool:=k.format.order x y==some .gt
def VW (k:aad)(x y:Nat):Bool:=k.format.order x y==some .gt||k.format.order x y==some .eq
def sA (s k:aad)(x:Nat):Bool:=
 if s=k then true else match s.decode x with
 | .number j m e=> !(k.decode (k.encode (.number j m e))).isInfinity
 |_=>true
def xD (s k:aad)(x:Nat):Nat:=
 if s=k then x else match s.decode x with
 | .nan _ _=>Hn k
 | .infinity j=>di k (k.encode (.infinity j))
 | .number j m e=>di k (k.encode (.number j m e))
theorem Ev (b:Nat):di .f32 b=if b%2147483648>2139095040 then 2143289344 else b:=rfl
theorem Ew (b:Nat):di .f64 b=if b%9223372036854775808>9218868437227405312 then 9221120237041090560 else b:=rfl
theorem oQ (k:aad)(b:Nat):di k b=b\/ ∃s t r I,k.format.read b= .nan s t/\k.format.read (di k b)= .nan r I:=by
 cases k;rw [Ev];by_cases h:b%2147483648>2139095040;rw [if_pos h];right;refine ⟨(b/2147483648%2==1),b%2147483648 - 2139095040,_,_,?_,rfl⟩;have j:FloatKind.f32.format.signWeight=2147483648:=by decide
 have o:FloatKind.f32.format.binade=8388608:=by decide
 have p:FloatKind.f32.format.infRung=2139095040:=by decide
 unfold aeU;simp only [j,o,p];rw [if_neg (by omega),if_neg (by omega),if_neg (by omega)];rw [if_neg h];exact .inl rfl;rw [Ew];by_cases h:b%9223372036854775808>9218868437227405312;rw [if_pos h];right;refine ⟨(b/9223372036854775808%2==1),b%9223372036854775808 - 9218868437227405312,_,_,?_,rfl⟩;have j:FloatKind.f64.format.signWeight=9223372036854775808:=by decide
 have o:FloatKind.f64.format.binade=4503599627370496:=by decide
 have p:FloatKind.f64.format.infRung=9218868437227405312:=by decide
 unfold aeU;simp only [j,o,p];rw [if_neg (by omega),if_neg (by omega),if_neg (by omega)];rw [if_neg h];exact .inl rfl
theorem IJ {s:Bool}{t:Nat}{d:ab8}:afn (.nan s t) d=none:=by cases d<;>rfl
theorem IK {s:Bool}{t:Nat}{d:ab8}:afn d (.nan s t)=none:=by cases d<;>rfl
theorem Ho {s:Bool}{t:Nat}{d:ab8}:aeI (.nan s t) d=none:=by cases d<;>rfl
theorem Hp {s:Bool}{t:Nat}{d:ab8}:aeI d (.nan s t)=none:=by cases d<;>rfl
theorem IL {n:Nat}{s:Bool}{t:Nat}{d:ab8}:aeA n (.nan s t) d=none:=by cases d<;>rfl
theorem IM {n:Nat}{s:Bool}{t:Nat}{d:ab8}:aeA n d (.nan s t)=none:=by cases d<;>rfl
theorem xE {s:Bool}{t:Nat}{d:ab8}:ae1 (.nan s t) d=none:=by cases d<;>rfl
theorem xF {s:Bool}{t:Nat}{d:ab8}:ae1 d (.nan s t)=none:=by cases d<;>rfl
theorem wC (op:acQ)(k:aad)(x y:Nat):floatBits op k (di k x) (di k y)=floatBits op k x y:=by
 have o: ∀x y,floatBits op k (di k x) y=floatBits op k x y:=by
  intro x y;rcases oQ k x with h|⟨s,t,p,r,q1,j⟩
  rw [h];unfold floatBits;cases op<;>simp only [ae2,ae3,ae4,ae5,q1,j,IJ,Ho,IL]
 have I: ∀x y,floatBits op k x (di k y)=floatBits op k x y:=by
  intro x y;rcases oQ k y with h|⟨s,t,p,r,q1,j⟩
  rw [h];unfold floatBits;cases op<;>simp only [ae2,ae3,ae4,ae5,q1,j,IK,Hp,IM,Ieee.Datum.opposite]
 rw [o,I]
theorem vQ (k:aad)(x y:Nat):k.format.order (di k x) (di k y)=k.format.order x y:=by
 have o: ∀x y,k.format.order (di k x) y=k.format.order x y:=by
  intro x y;rcases oQ k x with h|⟨s,t,p,r,q1,j⟩
  rw [h];unfold ack;rw [q1,j,xE,xE]
 have I: ∀x y,k.format.order x (di k y)=k.format.order x y:=by
  intro x y;rcases oQ k y with h|⟨s,t,p,r,q1,j⟩
  rw [h];unfold ack;rw [q1,j,xF,xF]
 rw [o,I]
theorem Hq (k:aad)(b:Nat):di k (acT k (di k b))=di k (acT k b):=by
 cases k;have e: ∀b,acT .f32 b=b^^^2147483648:=λb=>rfl;have o: ∀b,(b^^^2147483648)%2147483648=b%2147483648:=λb=>by
  have:=afE (a:=b) (b:=2147483648) (n:=31);simpa using this
 simp only [e];by_cases h:b%2147483648>2139095040;have j:di .f32 b=2143289344:=by rw [Ev,if_pos h]
 have p:di .f32 (b^^^2147483648)=2143289344:=by rw [Ev,o,if_pos h]
 rw [j,p];decide;have j:di .f32 b=b:=by rw [Ev,if_neg h]
 rw [j];have e: ∀b,acT .f64 b=b^^^9223372036854775808:=λb=>rfl;have o: ∀b,(b^^^9223372036854775808)%9223372036854775808=b%9223372036854775808:=λb=>by
  have:=afE (a:=b) (b:=9223372036854775808) (n:=63);simpa using this
 simp only [e];by_cases h:b%9223372036854775808>9218868437227405312;have j:di .f64 b=9221120237041090560:=by rw [Ew,if_pos h]
 have p:di .f64 (b^^^9223372036854775808)=9221120237041090560:=by rw [Ew,o,if_pos h]
 rw [j,p];decide;have j:di .f64 b=b:=by rw [Ew,if_neg h]
 rw [j]
theorem LL (k:aad)(x y t:Nat):di k (abr (.nanBits k x y) t)=Hn k:=by
 cases k;have e:abr (.nanBits .f32 x y) t=(t%2)*2147483648+2139095040+1+(t/2)%8388607:=rfl;have j:=abq t (show 0<2 by decide);have o:=abq (t/2) (show 0<8388607 by decide);rw [e,Ev];generalize t%2=p at j;generalize t/2%8388607=q at o;rw [if_pos (by omega)];rfl;have e:abr (.nanBits .f64 x y) t=(t%2)*9223372036854775808+9218868437227405312+1+(t/2)%4503599627370495:=rfl;have j:=abq t (show 0<2 by decide);have o:=abq (t/2) (show 0<4503599627370495 by decide);rw [e,Ew];generalize t%2=p at j;generalize t/2%4503599627370495=q at o;rw [if_pos (by omega)];rfl
theorem IN (k:aad)(x t:Nat):di k (abr (.nanConv k x) t)=Hn k:=by
 cases k;have e:abr (.nanConv .f32 x) t=(t%2)*2147483648+2139095040+1+(t/2)%8388607:=rfl;have j:=abq t (show 0<2 by decide);have o:=abq (t/2) (show 0<8388607 by decide);rw [e,Ev];generalize t%2=p at j;generalize t/2%8388607=q at o;rw [if_pos (by omega)];rfl;have e:abr (.nanConv .f64 x) t=(t%2)*9223372036854775808+9218868437227405312+1+(t/2)%4503599627370495:=rfl;have j:=abq t (show 0<2 by decide);have o:=abq (t/2) (show 0<4503599627370495 by decide);rw [e,Ew];generalize t%2=p at j;generalize t/2%4503599627370495=q at o;rw [if_pos (by omega)];rfl
theorem Cv (s k:aad)(b:Nat)(h:s≠k):sA s k (di s b)=sA s k b/\xD s k (di s b)=xD s k b:=by
 rcases oQ s b with e|⟨r,t,j,I,o,p⟩
 rw [e];exact ⟨rfl,rfl⟩;have o:s.decode b= .nan r t:=o;have p:s.decode (di s b)= .nan j I:=p;unfold sA xD;rw [if_neg h,if_neg h,if_neg h,if_neg h,o,p];exact ⟨rfl,rfl⟩
def Ge:acQ->Bool
 | .add=>true
 | .sub=>true
 | .mul=>true
 | .quo=>true
 |_=>false
def IP (op:acQ)(k:aad)(x y:Nat):Option cO:=
 match op with
 | .eql=>cM (.one (.bG .bool (RI k x y)))
 | .neq=>cM (.one (.bG .bool (!RI k x y)))
 | .lss=>cM (.one (.bG .bool (dP k x y)))
 | .leq=>cM (.one (.bG .bool (VU k x y)))
 | .gtr=>cM (.one (.bG .bool (VV k x y)))
 | .geq=>cM (.one (.bG .bool (VW k x y)))
 |_=>none
def IQ (P:Ο)(cs j:List bI):List Field->Option Bool
 |[]=>some true
 |f::r=>match P.underlying f.type,cs[f.offset]?,j[f.offset]?,IQ P cs j r with
  |some (.int _),some (.bG (.int k) a),some (.bG (.int o) b),some e=>bif f.name=="_" then none else if k=o then some ((a==b)&&e) else none
  |_,_,_,_=>none
def oG (P:Ο)(T:Ι)(op:acQ)(cs j:List bI):Option cO:=
 match P.underlying T with
 |some (.struct o)=>bif P.stoodInHeld T||P.eqGuardType P.depth T then none else
  (match op,IQ P cs j o.toList with
  | .eql,some b=>cM (.one (.bG .bool b))
  | .neq,some b=>cM (.one (.bG .bool (!b)))
  |_,_=>none)
 |_=>none
def z6 (P:Ο)(T:Ι)(op:acQ)(x y:bK):Option cO:=
 match x,y with
 | .one (.bG (.dP k) a),.one (.bG (.dP j) b)=>if k=j then (if Ge op then cM (.one (.bG (.dP k) (YZ op k a b))) else IP op k a b) else none
 | .agg cs,.agg o=>oG P T op cs o
 |x,y=>Hb P T op x y
def LM (op:UnOp)(x:bK):Option cO:=
 match op,x with
 | .neg,.one (.bG (.dP k) b)=>cM (.one (.bG (.dP k) (SD k b)))
 |op,x=>UG op x
def dK (P:Ο)(T:Ι):Bool:=
 match P.underlying T with
 |some (.slice e)=>(match P.underlying e with
  |some (.int .u8)=>true
  |_=>false)
 |_=>false
def cY (s:List UInt8):List Int:=s.map λb=>((b.toNat:Nat):Int)
def gy (l:List Int):List UInt8:=l.map λn=>afF n.toNat
def UN (mx:Bool)(k:aad)(a b:Nat):Nat:=
 match k.format.order a b with
 |some .lt=>bif mx then b else a
 |some .gt=>bif mx then a else b
 |_=>if (k.decode a).neg=mx then b else a
def UO (mx:Bool)(x y:bK):Option cO:=
 match x,y with
 | .one (.bG (.dP k) a),.one (.bG (.dP j) b)=>if k=j then fQ (.one (.bG (.dP k) (UN mx k a b))) [(k.format.order a b).isSome=true] else none
 |_,_=>none
def oI (P:Ο)(m:Mem)(nx:Nat)(T U:Ι)(x:bK):Option cO:=
 match P.underlying T,P.underlying U,x with
 |some _,some (.float k),.one (.bG (.dP s) b)=>fQ (.one (.bG (.dP k) (xD s k b))) [sA s k b=true]
 |some _,some (.float k),.one (.bG (.int _) n)=>cM (.one (.bG (.dP k) (O3 k n)))
 |some .string,some (.slice _),.one (.bG .str s)=>bif dK P U then some ⟨.one (.all nx),[(nx,.seq (.int .u8) (cY s))],[],[ζ s<=bD]⟩ else none
 |some (.slice _),some (.slice _),.one (.all c)=>bif Β T U&&dK P T then (match lk c m with
  |some (.seq t j)=>if t= .int .u8 then some ⟨.one (.all c),[],[(c,.seq t j)],[0<ζ j]⟩ else none
  |_=>none) else none
 |some (.slice _),some .string,x=>bif dK P T&&nX m x then (match kf m (.sl (.int .u8)) x with
  |some l=>cM (.one (.bG .str (gy l)))
  |none=>none) else none
 |_,_,x=>xh P T U x
def qd (P:Ο)(m:Mem)(nx:Nat)(T T':Ι)(s x:bK):Option cO:=
 match P.underlying T,P.underlying T',x with
 |some (.slice e),some .string,.one (.bG .str y)=>(match P.info? e with
  |some i=>bif (dK P T&&Β i.size 1)&&(ϩ i.bytes 32768&&i.zero.isSome)&&(i.zero.map λz=>Β z.cells.size 1).getD false then
   (match oh m (.int .u8) s with
   |some (j,up)=>some ⟨.one (.all nx),[(nx,.seq (.int .u8) (j++cY y))],up,[ζ j+ζ y<=bD]⟩
   |none=>none) else none
  |none=>none)
 |_,_,_=>none
def AS (P:Ο)(T:Ι)(x:bK)(o p mx:Option bK):Option cO:=
 match P.underlying T,x with
 |some (.slice e),.one (.bG (.sl t) j)=>(match NI o,p,mx with
  |some l,some (.one (.bG (.int _) h)),some (.one (.bG (.int _) q))=>bif dm P e==some t.size then fQ (.one (.bG (.sl t) (cut j l h))) [(0:Int)<=l/\l<=h/\h<=q/\q<=((ζ j:Nat):Int)] else none
  |_,_,_=>none)
 |_,_=>none
section
variable {P:Ο} {g:GM} {m:Mem} {S:Nat->Prop} {cx:Cx} {st:St} {a:Act} {w:Ε}
theorem px {k:aad}{n:Nat}{v:π}(h:CR g m S w (.bG (.dP k) n) v): ∃b,v= .float k b/\di k b=n:=by
 obtain ⟨b,e,j⟩:=(h: ∃b,[v]=[Value.float k b]/\di k b=n);exact ⟨b,by simpa using e,j⟩
theorem om {k:aad}{b n:Nat}(h:di k b=n):VR g m S w (.one (.bG (.dP k) n)) (.float k b):=⟨b,rfl,h⟩
theorem gG.drew {s:Sem π}{e:cO}{v:bK}{r:π}(h:cT cx g st a w)(o:e.new=[]/\e.lq=[]/\e.val=v)(J:s.run cx.P w= .ok r w.drew)(R: ∀g m S w,VR g m S w v r):gG cx st a w s e:=by
 refine ⟨r,w.drew,J,g,?_,?_⟩;rw [o.1,o.2.1];exact h.ua (G:=[]) ⟨agx _ _,λb p=>(by simp at p),λ_ _=>rfl,λk I t=> .inl ⟨t,λ_ b _ _ p=>by simp at p⟩,λk I t j=>by
  change lk k st.mem=some I at j;rw [t] at j;cases j⟩
 rw [o.2.2];exact R _ _ _ _
theorem tC {P:Ο}{g:GM}{m:Mem}{S:Nat->Prop}{w w':Ε}{d:Nat}{cs U:List bI}{p vs:List π}(hu:cc (CR g m S w) cs p)(hv:cc (CR g m S w) U vs):
 ∀(fs:List Field) (b:Bool),IQ P cs U fs=some b->(Op.eqFields (d+1) p.toArray vs.toArray fs).run P w'= .ok b w'
 |[],b,h=>by
  unfold IQ at h;injection h with h;subst h;rfl
 |f::r,b,h=>by
  unfold IQ at h;split at h
  ·rename_i k j x k2 y e hT hc hd he;cases o:f.name=="_" with
   |true=>rw [o] at h;cases h
   |false=>
    rw [o] at h;simp only [cond_false] at h;split at h
    case isFalse=>cases h
    rename_i hk;subst hk;injection h with h;subst h;have t:f.name≠"_":=by
     intro hh;rw [hh] at o;simp at o
    obtain ⟨u,I,J⟩:=hu.get _ _ hc;obtain ⟨v,R,T⟩:=hv.get _ _ hd;have e1:u= .int j x:=dV (g:=g) (m:=m) (S:=S) (w:=w) J;have e2:v= .int j y:=dV (g:=g) (m:=m) (S:=S) (w:=w) T;subst e1;subst e2;have p1:(part f.type p.toArray f.offset).run P w'= .ok (.int j x) w':=by simp [part,isAgg,run_underlying hT,I]
    have p2:(part f.type vs.toArray f.offset).run P w'= .ok (.int j y) w':=by simp [part,isAgg,run_underlying hT,R]
    have p3:=run_equalIn_int w' d f.type j k x y hT;unfold Op.eqFields;rw [if_pos t];simp only [Ϛ,p1,p2,p3,ϋ];cases hxy:(x==y) with
    |true=>simpa using tC hu hv r e he
    |false=>simp
  cases h
theorem wD {P:Ο}{g:GM}{m:Mem}{S:Nat->Prop}{w:Ε}{op:acQ}{T:Ι}{cs t:List bI}{e:cO}{I J:π}(h:oG P T op cs t=some e)(hx:VR g m S w (.agg cs) I)(hy:VR g m S w (.agg t) J):
 bR P g m S w (binOp op T I J) e:=by
 obtain ⟨us,rfl,R⟩:=hx;obtain ⟨vs,rfl,U⟩:=hy;unfold oG at h;split at h;rename_i fs hT;cases j:P.stoodInHeld T with
 |true=>rw [j] at h;cases h
 |false=>
  cases hq:P.eqGuardType P.depth T with
  |true=>rw [j,hq] at h;cases h
  |false=>
   rw [j,hq] at h;simp only [Bool.or_self,cond_false] at h;have o:afw P T=fs:=by unfold afw;rw [hT]
   split at h;rename_i b p;have:=tC (w':=w) (d:=9998) R U _ _ p;refine bR.mk (bP h) (r:= .bool b) ?_ rfl;rw [run_eql_struct,show (10000:Nat)=9999+1 from rfl,run_equalIn_agg w 9999 T _ _ (by rw [o];exact hT) j,o,this];rfl;rename_i b p;have:=tC (w':=w) (d:=9998) R U _ _ p;refine bR.mk (bP h) (r:= .bool (!b)) ?_ rfl;rw [run_neq_struct,show (10000:Nat)=9999+1 from rfl,run_equalIn_agg w 9999 T _ _ (by rw [o];exact hT) j,o,this];rfl;cases h
 cases h
theorem wE {P:Ο}{w:Ε}{op:acQ}{T:Ι}{cs p:List bI}{e:cO}{x y:aah}{j vs:Array π}(h:oG P T op cs p=some e):(eqGuard op T x y (.agg j) (.agg vs)).run P w= .ok () w:=by
 unfold oG at h;split at h;cases o:P.eqGuardType P.depth T with
 |true=>rw [o] at h;simp only [Bool.or_true,cond_true] at h;cases h
 |false=>exact run_eqGuard_agg w op T x y j vs o
 cases h
theorem Cw {op:acQ}{x y:bK}{e:cO}{T:Ι}{xa ya:π}(J:cT cx g st a w)(h:z6 cx.P T op x y=some e)(hc:cp e.cond)(U:VR g st.mem (cx.safe g st.mem w) w x xa)(hy:VR g st.mem (cx.safe g st.mem w) w y ya):
 gG cx st a w (binOp op T xa ya) e:=by
 unfold z6 at h;split at h;rename_i k n k' o;obtain ⟨b,rfl,hb⟩:=px (g:=g) (m:=st.mem) (S:=cx.safe g st.mem w) (w:=w) U;obtain ⟨j,rfl,R⟩:=px (g:=g) (m:=st.mem) (S:=cx.safe g st.mem w) (w:=w) hy;split at h;rename_i hk;subst hk;split at h;rename_i ha;have hf:floatBits op k n o=floatBits op k b j:=by rw [<-hb,<-R];exact wC op k b j
 have p:=bP h;unfold YZ at p;rw [hf] at p;cases t:floatBits op k b j with
 |some r=>
  rw [t] at p;exact acR J (bR.mk p (run_float_arith w op T k b j r t) (om rfl))
 |none=>
  rw [t] at p;have hn:(binOp op T (.float k b) (.float k j)).run cx.P w= .ok (.float k (abr (.nanBits k b j) (w.tape w.drawn (.nanBits k b j)))) w.drew:=by
   unfold floatBits at t;cases op<;>simp only [Ge,Bool.false_eq_true] at ha<;>simp only at t<;>simp [binOp,Op.floatArith,t,acS]
  exact gG.drew J p hn λg m S w=>om (LL k b j _)
 have I:k.format.order n o=k.format.order b j:=by rw [<-hb,<-R];exact vQ k b j
 have hg:bR cx.P g st.mem (cx.safe g st.mem w) w (binOp op T (.float k b) (.float k j)) e:=by
  unfold IP at h;split at h;exact bR.mk (bP h) (r:= .bool (RI k n o)) (by simp [binOp,acU,RI,I]) rfl;exact bR.mk (bP h) (r:= .bool (!RI k n o)) (by simp [binOp,acU,RI,I,bne]) rfl;exact bR.mk (bP h) (r:= .bool (dP k n o)) (by simp [binOp,acU,dP,I]) rfl;exact bR.mk (bP h) (r:= .bool (VU k n o)) (by simp [binOp,acU,VU,I]) rfl;exact bR.mk (bP h) (r:= .bool (VV k n o)) (by simp [binOp,acU,VV,I]) rfl;exact bR.mk (bP h) (r:= .bool (VW k n o)) (by simp [binOp,acU,VW,I]) rfl;cases h
 exact acR J hg;cases h;exact acR J (wD h U hy);exact acR J (Ee h hc U hy)
theorem Ex {op:UnOp}{x:bK}{e:cO}{j:π}(h:LM op x=some e)(o:VR g m S w x j):bR P g m S w (Op.unary op j) e:=by
 unfold LM at h;split at h;rename_i k n;obtain ⟨b,rfl,p⟩:=px (g:=g) (m:=m) (S:=S) (w:=w) o;refine bR.mk (bP h) (r:= .float k (acT k b)) (by simp [Op.unary]) (om ?_);unfold SD;rw [<-p,Hq];exact Hd h o
theorem rG {T:Ι}(h:dK P T=true): ∃e,P.underlying T=some (.slice e)/\P.underlying e=some (.int .u8):=by
 unfold dK at h;split at h;rename_i e j;split at h;rename_i o;exact ⟨e,j,o⟩;cases h;cases h
theorem Hr {S':Nat->Prop}{w':Ε}{s:List UInt8}{arr:Array π}(h: ∀j (o:j<s.length),arr[j]? =some (.int .u8 ((s[j].toNat:Nat):Int))):Cf S' w' (.int .u8) (cY s) arr:=by
 intro i r;have p:i<s.length:=by simpa [cY] using r
 refine ⟨[.int .u8 ((s[i].toNat:Nat):Int)],λj u o=> ?_,?_⟩;cases j with
 |zero=>
  simp only [aeT,ahn] at o;subst o;simp only [aao,adT,Ϭ];exact h i p
 |succ j=>simp at o
 show [Value.int .u8 ((s[i].toNat:Nat):Int)]=[Value.int .u8 ((cY s)[i])];simp [cY]
theorem vR (w:Ε)(b n:Nat){arr:Array π}{T:Ι}{j o:Nat}(h:w.heap[b]? =some (.cells arr T (j,o))):
 (w.freeze ⟨b,n,none⟩ 1).heap[b]? =some (.cells arr T (if j==o then (n,n+1) else (min j n,max o (n+1)))):=by
 simp [adN,aa5,h]
theorem ur (w:Ε)(b n q:Nat)(j:q≠b):(w.freeze ⟨b,n,none⟩ 1).heap[q]? =w.heap[q]? :=by
 simp [adN,aa5,Ne.symm j]
theorem qG {w:Ε}{b:Nat}{arr:Array π}(h:dA w b arr):dA (w.freeze ⟨b,arr.size,none⟩ 1) b arr:=by
 obtain ⟨T,j,o,h,p⟩:=h;by_cases e:j=o;subst e;exact ⟨T,arr.size,arr.size+1,by rw [vR w b arr.size h];simp,.inr (ς _)⟩;exact ⟨T,min j arr.size,max o (arr.size+1),by rw [vR w b arr.size h,if_neg (by simpa using e)],.inr (by omega)⟩
theorem Cy {w:Ε}{b:Nat}{arr:Array π}(h:dA w b arr):bU [b] w (w.freeze ⟨b,arr.size,none⟩ 1):=by
 have j:(w.freeze ⟨b,arr.size,none⟩ 1).os=w.os/\(w.freeze ⟨b,arr.size,none⟩ 1).tape=w.tape/\(w.freeze ⟨b,arr.size,none⟩ 1).output=w.output/\(w.freeze ⟨b,arr.size,none⟩ 1).heap.size=w.heap.size:=by
  unfold adN;split<;>simp
 refine ⟨j.1,j.2.1,j.2.2.1,by rw [j.2.2.2];exact ς _,λq _ r=>ur w b arr.size q (by simpa using r),λq o p=> ?_⟩;by_cases e:q=b;subst e;have:=p.eq h;subst this;exact ⟨o,qG h,rfl⟩;exact ⟨o,p.bJ (ur w b arr.size q e),rfl⟩
theorem z7 {mx:Bool}{x y:bK}{e:cO}{p I:π}{Ts:Array Ι}{T:Ι}{S:Nat->Prop}{m:Mem}{P:Ο}(h:UO mx x y=some e)(U:cp e.cond)(hx:VR g m S w x p)(hy:VR g m S w y I):bR P g m S w (bif mx then aeG Ts T #[p,I] else acY Ts T #[p,I]) e:=by
 unfold UO at h;split at h;rename_i k a k' b;split at h;rename_i hk;subst hk;obtain ⟨x,rfl,ha⟩:=px (g:=g) (m:=m) (S:=S) (w:=w) hx;obtain ⟨y,rfl,hb⟩:=px (g:=g) (m:=m) (S:=S) (w:=w) hy;obtain ⟨he,J⟩:=dd h;rw [J] at U;have j:(k.format.order a b).isSome=true:=U.1;have R:a=x/\b=y:=by
  rw [<-ha,<-hb,vQ] at j;constructor;rcases oQ k x with h|⟨s,t,s',t',q1,q2⟩
  rw [<-ha,h];unfold ack at j;rw [q1,xE] at j;cases j;rcases oQ k y with h|⟨s,t,s',t',q1,q2⟩
  rw [<-hb,h];unfold ack at j;rw [q1,xF] at j;cases j
 obtain ⟨rfl,rfl⟩:=R;refine bR.mk he (r:= .float k (UN mx k a b)) ?_ (om ?_);unfold UN;cases hq:k.format.order a b with
 |none=>rw [hq] at j;cases j
 |some o=>
  cases mx<;>cases o<;>cases hn:(k.decode a).neg<;>simp [aeG,Builtin.max2,acY,agy,hq,hn]
 unfold UN;split;cases mx<;>assumption;cases mx<;>assumption;split<;>assumption;cases h;cases h
theorem wF {T U:Ι}{x:bK}{e:cO}{xa:π}(hs:cT cx g st a w)(hw:fw st.mem e.new)(h:oI cx.P st.mem st.nx T U x=some e)(hc:cp e.cond)(hx:VR g st.mem (cx.safe g st.mem w) w x xa):gG cx st a w (convert T U xa) e:=by
 unfold oI at h;split at h;rename_i u k s n J h2;obtain ⟨b,rfl,o⟩:=px (g:=g) (m:=st.mem) (S:=cx.safe g st.mem w) (w:=w) hx;obtain ⟨he,Hc⟩:=dd h;rw [Hc] at hc;have R:sA s k n=true:=hc.1;by_cases ae:s=k;subst ae;have I:xD s s n=n:=by unfold xD;rw [if_pos rfl]
 rw [I] at he;refine acR hs (bR.mk he (r:= .float s b) (run_convert_float_float w T U s s b b (by rw [J];rfl) h2 (by simp [floatToFloatBits])) (om o));have SE:=Cv s k b ae;rw [o] at SE;rw [SE.2] at he;rw [SE.1] at R;unfold sA at R;unfold xD at he;rw [if_neg ae] at R he;cases hd:s.decode b with
 |nan sg t=>
  rw [hd] at he;have hn:(convert T U (.float s b)).run cx.P w= .ok (.float k (abr (.nanConv k b) (w.tape w.drawn (.nanConv k b)))) w.drew:=by
   cases u<;>simp [convert,run_underlying J,run_underlying h2,Conv.floatToFloat,ae,hd,acS]
  exact gG.drew hs he hn λg m S w=>om (IN k b _)
 |infinity sg=>
  rw [hd] at he;exact acR hs (bR.mk he (run_convert_float_float w T U s k b _ (by rw [J];rfl) h2 (by simp [floatToFloatBits,ae,hd])) (om rfl))
 |number sg mm ee=>
  rw [hd] at he R;have R:(k.decode (k.encode (.number sg mm ee))).isInfinity=false:=by simpa using R
  exact acR hs (bR.mk he (run_convert_float_float w T U s k b _ (by rw [J];rfl) h2 (by simp [floatToFloatBits,ae,hd,R])) (om rfl))
 rename_i u k kk n J h2;have:=dV (g:=g) (m:=st.mem) (S:=cx.safe g st.mem w) (w:=w) hx;subst this;exact acR hs (bR.mk (bP h) (r:= .float k (k.nearest n)) (by cases u<;>simp [convert,run_underlying J,run_underlying h2,Conv.intToFloat]) (om rfl));rename_i el s J h2;cases o:dK cx.P U with
 |false=>simp [o] at h
 |true=>
  rw [o] at h;simp only [cond_true] at h;injection h with h;subst h;obtain ⟨I,k1,k2⟩:=rG o;have Lz:=lz (g:=g) (m:=st.mem) (S:=cx.safe g st.mem w) (w:=w) hx;subst Lz;have hlen:s.length<=bD:=hc.1;unfold bD at hlen;have ab:=Lib.run_convert_string_bytes (P:=cx.P) w T U I ⟨s.toArray⟩ J k1 k2;have nK:(⟨s.toArray⟩:ByteArray).size=s.length:=by simp [abF]
  rw [nK] at ab;have wQ:=grownCap_ge w s.length 0 I;have IC:=grownCap_le_maxLen w s.length 0 I (by unfold maxLen;omega);refine ⟨_,_,ab,?_⟩;have Hm:=Lib.bytesWorld_at_new w I ⟨s.toArray⟩;have hcs:(ab1 w I ⟨s.toArray⟩).size=grownCap w s.length 0 I:=by
   simp [ab1,nK];omega
  have hblk:dA (adU w I ⟨s.toArray⟩) w.heap.size (ab1 w I ⟨s.toArray⟩):=
   ⟨_,_,_,Hm,.inr (ς _)⟩
  have hold: ∀j,j<w.heap.size->(adU w I ⟨s.toArray⟩).heap[j]? =w.heap[j]? :=λj hj=>Lib.bytesWorld_at_old w I ⟨s.toArray⟩ j hj;have xz:bU [] w (adU w I ⟨s.toArray⟩):=by
   have ub: ∀(w:Ε) (a:Addr) (n:Nat),(w.freeze a n).os=w.os/\(w.freeze a n).tape=w.tape/\(w.freeze a n).output=w.output:=by
    intro w a n;unfold adN;split<;>exact ⟨rfl,rfl,rfl⟩
   have hf:=ub (w.drew.alloc (.cells (ab1 w I ⟨s.toArray⟩) I)) ⟨w.heap.size,(ab1 w I ⟨s.toArray⟩).size,none⟩ 1;exact ⟨hf.1,hf.2.1,hf.2.2,by rw [Lib.bytesWorld_size];omega,λb o _=>hold b o,λb arr o=>⟨arr,o.bJ (hold b o.lt),rfl⟩⟩
  refine ad5 (G:=[]) (up:=[]) (gk:=some w.heap.size) hs hw ⟨rfl,rfl,rfl⟩ (.inl rfl) xz (.inl rfl) (λb o=>by injection o with o;left;omega) (λb o=>by injection o with o;subst o;exact hblk.lt) (λS' hS=>⟨_,hblk,?_⟩) ?_;refine eU.lr rfl (Hr λj hj=> ?_);simp [ab1,hj,Array.getElem?_append];exact ⟨_,_,by simp [cY],by simp [cY];exact wQ,hblk,by rw [hcs];simp [aao],IC⟩
 rename_i el1 el2 c J h2;cases o:(Β T U&&dK cx.P T) with
 |false=>rw [o] at h;cases h
 |true=>
  rw [o] at h;simp only [cond_true] at h;simp only [κ] at o;have Z8:=cg o.1;subst Z8;obtain ⟨I,k1,k2⟩:=rG o.2;split at h;rename_i t xs hl;split at h;rename_i ht;injection h with h;subst h;have IS:0<ζ xs:=hc.1;have jm:=hs.mem c _ hl;have gF:=hx.2.2 t xs (.inl hl);unfold jb at gF;unfold jk at jm;cases hg:g.f c [] with
  |none=>
   rw [hg] at jm;have:xs=[]:=jm;subst this;simp at IS
  |some b=>
   rw [show g c=some b from hg] at gF;rw [hg] at jm;obtain ⟨arr,aa,mq⟩:=jm;obtain ⟨cap,p,e2,q1,q2,q3,q4⟩:=gF;have:=q2.eq aa;subst this;subst e2;have VX:=aa;obtain ⟨T0,lo,hi,hh,_⟩:=VX;have hsh:w.shape? b=some (T0,p.size):=by
    simp [World.shape?,hh]
   clear hh;have ab:(convert T T (.slice (some ⟨b,0,none⟩) (ζ xs) cap)).run cx.P w= .ok (.slice (some ⟨b,0,none⟩) (ζ xs) cap) (w.freeze ⟨b,p.size,none⟩ 1):=by
    simp [convert,run_underlying k1,run_underlying k2,markStringish,hsh]
   subst ht;refine ⟨_,_,ab,g,?_,?_⟩;have q:Ip g st w (w.freeze ⟨b,p.size,none⟩ 1) c b [] (.seq (.int .u8) xs) (.seq (.int .u8) xs):=
    ⟨hl,trivial,hg,Cy aa,⟨p,p,aa,qG aa,rfl⟩,λ_ _=>trivial,by simp,λt' iy e=>⟨iy,e,rfl⟩,λt' iy e=>⟨iy,e,cL.refl _ _⟩⟩
   refine cT.NP hs q ?_;unfold jk;rw [hg];exact ⟨p,qG aa,.lr rfl λi hi=>by
    obtain ⟨es,r1,r2⟩:=mq.FX rfl i hi;exact ⟨es,r1,r2⟩⟩
   refine ⟨by simp [bO],rfl,λt' iy af=> ?_⟩;have Vy:lk c ((c,Chunk.seq (.int .u8) xs)::st.mem)=some (.seq (.int .u8) xs):=by rw [bO,if_pos rfl]
   have af:=ad3 Vy af;rw [Vy] at af;injection af with af;injection af with VY O4;subst VY;have O4:=eq_of_heq O4;subst O4;unfold jb;rw [show g c=some b from hg];exact ⟨cap,p,rfl,q1,qG aa,q3,q4⟩
  cases h;cases h
 rename_i x0 _ _ _ el J h2;cases o:(dK cx.P T&&nX st.mem x0) with
 |false=>rw [o] at h;cases h
 |true=>
  rw [o] at h;simp only [cond_true] at h;simp only [κ] at o;obtain ⟨o,IB⟩:=o;split at h;rename_i l hl;obtain ⟨I,k1,k2⟩:=rG o;rw [k1] at J;injection J with J;injection J with J;subst J;obtain ⟨news,VZ⟩:=AJ hs.mem hl IB rfl hx;obtain ⟨ax,zj,ex,LB⟩:=VZ.val;subst ex;refine acR hs (bR.mk (bP h) (r:= .string ⟨(gy l).toArray⟩) ?_ rfl);have SF:news=l.map (Value.int .u8):=by
   refine List.ext_getElem? λj=> ?_;have RJ:news.length=l.length:=by have:=VZ.len;simpa [aao] using this
   rcases aam j l.length with hj|hj
   obtain ⟨es,q1,q2⟩:=VZ.FX j hj;have q2:es=[Value.int .u8 l[j]]:=q2;have:=q1 0 (by simp [aao]);simp only [aao,adT,Ϭ,q2,aeT] at this;have e3:(List.map (Value.int .u8) l)[j]? =some (.int .u8 l[j]):=by
    rw [List.getElem?_map,Γ hj];rfl
   rw [e3,this];rw [aab (by omega),aab (by simp;omega)]
  rw [run_convert_bytes_string w T U I ax l.length zj k1 k2 h2];have z8: ∀(l:List Int) (r:ByteArray),l.foldl (λr n=>r.push (afF n.toNat)) r=⟨r.data++(gy l).toArray⟩:=by
   intro l;induction l with
   |nil=>intro r;simp [gy]
   |cons n l ih=>intro r;rw [List.foldl_cons,ih];simp [gy,ByteArray.push]
  rcases LB with h0|⟨ad,rfl,fC⟩
  have:l=[]:=ϸ h0;subst this;cases ax with
  |none=>simp [afG,gy];rfl
  |some ad=>simp [afG,gy,loadCells,loadCellsFrom];rfl
  have hl:=run_loadCells_list (P:=cx.P) w ad (l.map (Value.int .u8)) (λj v hj=>fC j v (by rw [SF];exact hj));simp only [Ϝ] at hl;rw [run_bytesToString w ad l.length zj _ hl,z8];simp;cases h
 exact acR hs (xu h hx)
theorem oo {w:Ε}{y:List UInt8}{n:Nat}(j:n=y.length)(size:Nat):(aaO size n (.string ⟨y.toArray⟩)).run P w= .ok ((cY y).map (Value.int .u8)).toArray w:=by
 subst j;have e:(⟨y.toArray⟩:ByteArray).extract 0 y.length=⟨y.toArray⟩:=by
  apply ByteArray.ext;simp
 simp only [aaO,e,ϵ];simp [cY]
theorem tb {t u ty e:Ι}{i:adK}{z:π}(ht:P.underlying t=some (.slice e))(U:P.underlying u=some .string)(hi:P.info? e=some i)(hz:i.zero=some z){base:Option Addr}{n cap:Nat}{olds:List π}(I:olds.length=n*i.size)(ho:n=0\/ ∃T,base=some T/\ ∀j v,olds[j]? =some v->w.cell? (T.add j)=some v){y:List UInt8}(hg:cap<n+y.length)(hb:(n+y.length)*i.bytes<=140737488355328)(Z0:n+y.length<=9223372036854775807):
 (Ϟ #[t,u] ty #[.slice base n cap,.string ⟨y.toArray⟩]).run P w=
  .ok (.slice (some ⟨w.heap.size,0,none⟩) (n+y.length) (grownCap w (n+y.length) cap e))
   (w.drew.alloc (.cells (olds.toArray++((cY y).map (Value.int .u8)).toArray++Ϧ z.cells (grownCap w (n+y.length) cap e - (n+y.length))) e)):=by
 have o: ¬(n+y.length<=cap):=by omega
 have p: ¬(9223372036854775807<((n:Int)+(y.length:Int))):=by omega
 have YQ:=growslice_fits (old:=cap) hg hb;have r: ¬(281474976710656<aeS (n+y.length) cap*i.bytes):=by omega
 have hf:=oo (P:=P) (w:=w.drew) (y:=y) (n:=y.length) rfl i.size;have J:=eV (P:=P) (w:=w.drew) (len:=n) (cap:=cap) I ho;have R:(⟨y.toArray⟩:ByteArray).size=y.length:=by simp [abF]
 simp [Ϟ,run_underlying ht,run_underlying U,sizeOf,typeInfo,zeroValue,hi,hz,abg,R,o,p,r,acS,hf,J,newRow,grownCap]
 congr 2
 apply aa9;simp [ό]
theorem zm {t u ty e:Ι}{i:adK}(ht:P.underlying t=some (.slice e))(T:P.underlying u=some .string)(U:P.info? e=some i)(o:i.size=1){b n cap:Nat}{arr:Array π}(hb:dA w b arr){y:List UInt8}(p:n+y.length<=cap)(r:(n+y.length)*i.size<=arr.size):
 ∃w' j,(Ϟ #[t,u] ty #[.slice (some ⟨b,0,none⟩) n cap,.string ⟨y.toArray⟩]).run P w= .ok (.slice (some ⟨b,0,none⟩) (n+y.length) cap) w'/\dA w' b j/\
  j.toList=arr.toList.take (n*i.size)++(cY y).map (Value.int .u8)++arr.toList.drop (n*i.size+y.length)/\bU [b] w w'/\w'.heap.size=w.heap.size:=by
 have hf:=oo (P:=P) (w:=w) (y:=y) (n:=y.length) rfl i.size;have I:(⟨y.toArray⟩:ByteArray).size=y.length:=by simp [abF]
 have J:((cY y).map (Value.int .u8)).length=y.length:=by simp [cY]
 obtain ⟨w',j,e,k1,R,k3,k4⟩:=eC (P:=P) ((cY y).map (Value.int .u8)) (n*i.size) 0 w arr hb (by rw [J,Ϭ,o];rw [o] at r;omega) (λv hv=>by
  obtain ⟨x,_,rfl⟩:=Ϣ.1 hv;rfl)
 rw [J] at R;refine ⟨w',j,?_,k1,by simpa using R,k3,k4⟩;have ha:(⟨b,0,none⟩:Addr).add (n*i.size)=⟨b,n*i.size,none⟩:=by rw [cw];simp
 simp [Ϟ,run_underlying ht,run_underlying T,sizeOf,typeInfo,U,abg,I,p,hf,ha,e]
theorem tc {t u ty e:Ι}{i:adK}(ht:P.underlying t=some (.slice e))(p:P.underlying u=some .string)(r:P.info? e=some i){base:Option Addr}:
 (Ϟ #[t,u] ty #[.slice base 0 0,.string ⟨#[]⟩]).run P w= .ok (.slice base 0 0) w:=by
 have j:=oo (P:=P) (w:=w) (y:=[]) (n:=0) rfl i.size;have o:(⟨#[]⟩:ByteArray).size=0:=rfl;have j:(aaO i.size 0 (.string ⟨#[]⟩)).run P w= .ok #[] w:=j;cases base<;>simp [Ϟ,run_underlying ht,run_underlying p,sizeOf,typeInfo,r,abg,o,j,storeCells]
theorem xG {S':Nat->Prop}{w':Ε}{y:List UInt8}:eu S' w' (.int .u8) (cY y) ((cY y).map (Value.int .u8)):=λi o=>by
 refine ⟨[.int .u8 (cY y)[i]],λj p=> ?_,rfl⟩;have:j=0:=by simpa [aao] using p
 subst this;simp [aao,o]
theorem xH {T T':Ι}{ty:Ι}{s x:bK}{e:cO}{sv xv:π}(h:cT cx g st a w)(hw:fw st.mem e.new)(he:qd cx.P st.mem st.nx T T' s x=some e)(hc:cp e.cond)(hs:VR g st.mem (cx.safe g st.mem w) w s sv)(hx:VR g st.mem (cx.safe g st.mem w) w x xv):gG cx st a w (Ϟ #[T,T'] ty #[sv,xv]) e:=by
 unfold qd at he;split at he;rename_i el y hu Hg;have LO:=lz (g:=g) (m:=st.mem) (S:=cx.safe g st.mem w) (w:=w) hx;subst LO;split at he;rename_i i hi;cases I:((dK cx.P T&&Β i.size 1)&&(ϩ i.bytes 32768&&i.zero.isSome)&&(i.zero.map λz=>Β z.cells.size 1).getD false) with
 |false=>simp [I] at he
 |true=>
  rw [I] at he;simp only [cond_true] at he;simp only [κ] at I;obtain ⟨⟨⟨hT,r⟩,Ck,Sj⟩,F7⟩:=I;have r:=cg r;have Ck:=jd Ck;obtain ⟨z,hz⟩:=abH.1 Sj;rw [hz] at F7;have F7:z.cells.size=1:=cg (by simpa using F7);split at he;rename_i o up zS;injection he with he;subst he;have hlen:o.length+y.length<=bD:=hc.1;unfold bD at hlen;obtain ⟨ui,VD⟩:=Cj h.mem zS rfl hs;have xy:(o.length+y.length)*i.bytes<=140737488355328:=by
   calc (o.length+y.length)*i.bytes<=4294967296*32768:=aaZ hlen Ck
    _=140737488355328:=by decide
  have NV:(cY y).length=y.length:=by simp [cY]
  have D1:((cY y).map (Value.int .u8)).length=y.length:=by simp [cY]
  have grow: ∀(base:Option Addr) (cap:Nat) (p:List π),p.length=o.length*i.size->(o.length=0\/ ∃ad,base=some ad/\ ∀j v,p[j]? =some v->w.cell? (ad.add j)=some v)->
   eu (cx.safe g st.mem w) w (.int .u8) o p->cap<o.length+y.length->(up=[]\/ ∃c LD,up=[(c,.gone)]/\lk c st.mem=some LD/\LD≠ .gone)->
   gG cx st a w (Ϟ #[T,T'] ty #[.slice base o.length cap,.string ⟨y.toArray⟩]) ⟨.one (.all st.nx),[(st.nx,.seq (.int .u8) (o++cY y))],up,[ζ o+ζ y<=bD]⟩:=by
   intro base cap p F8 ho U hlt ui;have wQ:=grownCap_ge w (o.length+y.length) cap el;have IC:=grownCap_le_maxLen w (o.length+y.length) cap el (by unfold maxLen;omega);have hr:=tb (P:=cx.P) (ty:=ty) hu Hg hi hz F8 ho hlt xy (by omega);have xz:bU [] w (w.drew.alloc (.cells (p.toArray++((cY y).map (Value.int .u8)).toArray++Ϧ z.cells (grownCap w (o.length+y.length) cap el - (o.length+y.length))) el)):=
    (agx [] w).trans (acA _ _ _)
   have t:=aer w.drew (p.toArray++((cY y).map (Value.int .u8)).toArray++Ϧ z.cells (grownCap w (o.length+y.length) cap el - (o.length+y.length))) el;refine ⟨_,_,hr,?_⟩;refine ad5 (G:=[]) (gk:=some w.heap.size) h hw ⟨rfl,rfl,rfl⟩ ui xz (.inl rfl) (λb I=>by injection I with I;left;omega) (λb I=>by injection I with I;subst I;exact t.lt) (λS' hS=>⟨_,t,?_⟩) ?_;refine eU.lr rfl (eu.toR ?_);simp only [Array.toList_append];have h1:eu S' (w.drew.alloc (.cells (p.toArray++((cY y).map (Value.int .u8)).toArray++Ϧ z.cells (grownCap w (o.length+y.length) cap el - (o.length+y.length))) el)) (.int .u8) o p:=λi hi=>by
    obtain ⟨es,k1,k2⟩:=U i hi;exact ⟨es,k1,abE hS _ es _ k2⟩
   exact eu.app h1 (by rw [F8,r];rfl) xG (by rw [D1,NV];simp [aao]);refine ⟨grownCap w (o.length+y.length) cap el,_,?_,by rw [ξ,NV];exact wQ,t,?_,IC⟩;rw [ξ,NV];simp only [adL,abG,size_zeroCells,F7,F8,D1,r,aao];omega
  rcases VD with ⟨Sk,ab,eb⟩|⟨c,ch,b,cap,arr,e1,e2,e3,e4,e5,hcap,t,lj,AE,U⟩
  subst eb;subst Sk;by_cases hy:y.length=0;have OT:y=[]:=ϸ hy;subst OT;refine ⟨_,_,tc (P:=cx.P) hu Hg hi,?_⟩;exact ad5 (G:=[]) (gk:=none) h hw ⟨rfl,rfl,rfl⟩ ui (adn _ _) (.inl rfl) (λb I=>by cases I) (λb I=>by cases I) (λS' hS=>rfl) ⟨ab,rfl⟩;exact grow ab 0 [] (by simp) (.inl rfl) (λi hi=>by simp at hi) (by simp;omega) ui;subst e5;by_cases sZ:o.length+y.length<=cap;have J:(o.length+y.length)*i.size<=arr.size:=by
   rw [r];have:cap*(Ty.int .u8).size<=arr.size:=lj;simp only [aao] at this;omega
  obtain ⟨w',eB,hr,rj,tu,oF,qD⟩:=zm (P:=cx.P) (ty:=ty) hu Hg hi r t sZ J;refine ⟨_,_,hr,?_⟩;refine ad5 (G:=[b]) (gk:=some b) h hw ⟨rfl,rfl,rfl⟩ ui oF (.inr ⟨c,b,ch,e1,e2,e3,e4,rfl⟩) (λb' R=>by injection R with R;subst R;right;simp) (λb' R=>by injection R with R;subst R;exact rj.lt) (λS' hS=>⟨eB,rj,?_⟩) ?_;refine eU.lr rfl (eu.toR ?_);rw [tu,r];have h1:eu S' w' (.int .u8) o (arr.toList.take (o.length*1)):=λi hi=>by
   obtain ⟨es,k1,k2⟩:=U i hi;exact ⟨es,k1,abE hS _ es _ k2⟩
  refine eu.app h1 ?_ xG (by rw [D1,NV];simp [aao]);rw [r] at J;simp [aao];omega;refine ⟨cap,eB,by rw [ξ,NV],by rw [ξ,NV];exact sZ,rj,?_,AE⟩;have:eB.size=arr.size:=by
   rw [<-Ω,tu];rw [r] at J⊢;simp only [ξ,ώ,϶,D1,Ω];omega
  rw [this];exact lj;have hle:o.length*1<=arr.size:=by
   have:cap*(Ty.int .u8).size<=arr.size:=lj;simp only [aao] at this;omega
  exact grow _ cap (arr.toList.take (o.length*1)) (by rw [r];simp;omega) (.inr ⟨_,rfl,λj v hj=>by
   rw [cw,t.cell];rw [ϒ] at hj;split at hj;simpa using hj;cases hj⟩) U (by omega) ui
  cases he
 cases he;cases he
theorem Cz {j:Option π}{l h q:Int}{k1 k2:aaK}{len cap:Nat}(I:(j=none/\l=0)\/ ∃k,j=some (.int k l))(J:0<=l)(T:l<=h)(U:h<=q)(o:q<=(cap:Int)):
 (aa2 true len cap j (some (.int k1 h)) (some (.int k2 q))).run P w= .ok (l.toNat,h.toNat,q.toNat) w:=by
 have p:0<=q:=by omega
 have r:0<=h:=by omega
 have e3:h<=((q.toNat:Nat):Int):=by omega
 have e4:l<=((h.toNat:Nat):Int):=by omega
 have t:h<=max q 0:=by omega
 have R:l<=max h 0:=by omega
 rcases I with ⟨rfl,rfl⟩|⟨k,rfl⟩
 simp [aa2,ac7,asIntOf,p,r,o,t];simp [aa2,ac7,asIntOf,J,p,r,o,t,R]
theorem zn {T:Ι}{x:bK}{lo hi mx:Option bK}{e:cO}{xa:π}{lv hv qv:Option π}(h:AS P T x lo hi mx=some e)(hc:cp e.cond)(hx:VR g m S w x xa)(OP:OR g m S w lo lv)(I:OR g m S w hi hv)(J:OR g m S w mx qv):bR P g m S w (acX T xa lv hv qv) e:=by
 unfold AS at h;split at h;rename_i el t R hu;split at h;rename_i l k2 U k q hl;cases hb:(dm P el==some t.size) with
 |false=>simp [hb] at h
 |true=>
  rw [hb] at h;simp only [cond_true] at h;have hs:dm P el=some t.size:=by simpa using hb
  obtain ⟨he,Hc⟩:=dd h;rw [Hc] at hc;obtain ⟨⟨h0,h1,h2,h3⟩,_⟩:=hc;have h0:(0:Int)<=(l:Int):=h0;have h1: @LE.le Int _ l U:=h1;have h2: @LE.le Int _ U q:=h2;have h3: @LE.le Int _ q ((ζ R:Nat):Int):=h3;have tu:=si hl OP;obtain ⟨a,cap,e1,hcap,sh⟩:=(hx:cn S w (.sl t) [xa] R);have Lz:xa= .slice a (ζ R) cap:=by simpa using e1
  subst Lz;cases qv with
  |none=>exact J.elim
  |some qv=>
   cases hv with
   |none=>exact I.elim
   |some hv=>
    have hq:=dV (g:=g) (m:=m) (S:=S) (w:=w) J;subst hq;have hh:=dV (g:=g) (m:=m) (S:=S) (w:=w) I;subst hh;have aa:=Cz (P:=P) (w:=w) (k1:=k2) (k2:=k) (len:=ζ R) (cap:=cap) tu h0 h1 h2 (by omega);refine bR.mk he (r:= .slice (if q.toNat=l.toNat then a else a.map (·.add (l.toNat*t.size))) (U.toNat - l.toNat) (q.toNat - l.toNat)) ?_ ?_;simp [acX,Instr.slice,run_underlying hu,aa,cN hs];have o:ζ (cut R l U)=U.toNat - l.toNat:=by unfold cut;simp;omega
    refine ⟨(if q.toNat=l.toNat then a else a.map (·.add (l.toNat*t.size))),q.toNat - l.toNat,by rw [o],by rw [o];omega,λj hj=> ?_⟩;rw [o] at hj;obtain ⟨ad,es,ea,hS,p,ab⟩:=sh (l.toNat+j) (by omega);subst ea;rw [if_neg (by omega)];refine ⟨ad.add (l.toNat*t.size),es,rfl,by rw [fy];exact hS,λk u hu=> ?_,?_⟩;rw [add_add,<-Ϡ,<-ϓ];exact p k u hu;rw [F5 (by omega) (by omega)];exact ab
 cases h;cases h
end
end Go.Ide
namespace Go.Ide
def qH (P:Ο)(nx:Nat)(T:Ι)(t:Ty)(len:Nat)(parts:List (Nat×bK)):Option cO:=
 match P.underlying T with
 |some (.slice e)=>bif (dm P e==some t.size&&(((P.info? e).bind (·.zero)).map λz=>Β z.cells.size t.size)==some true)&&(Β parts.length len&&ϩ (len*t.size) 65536) then
  (match vd t 0 parts with
  |some j=>some ⟨.one (.bG (.sl t) j),[],[],[]⟩
  |none=>none) else none
 |_=>none
section
variable {cx:Cx} {g:GM} {st:St} {a:Act} {w w':Ε}
theorem ph.bZ {t:Ty}{xs:List t.D}{arr:Array π}{el:Ι}{e:cO}(h:cT cx g st a w)(I:e.new=[]/\e.lq=[]/\e.val= .one (.bG (.sl t) xs))(J:eu (cx.safe g st.mem w) w t xs arr.toList):
 ph cx st a e (.slice (some ⟨w.heap.size,0,none⟩) xs.length xs.length) (w.alloc (.cells arr el)):=by
 refine ⟨g,?_,?_⟩;rw [I.1,I.2.1];exact h.grow (acA _ _ _);rw [I.1,I.2.1,I.2.2];have o:(w.alloc (.cells arr el)).heap.size=w.heap.size+1:=by simp
 have r: ∀b,cx.safe g st.mem w b->cx.safe g st.mem (w.alloc (.cells arr el)) b:=λb ⟨h1,U,h3⟩=>⟨by rw [o];omega,U,h3⟩;have R:cx.safe g st.mem (w.alloc (.cells arr el)) w.heap.size:=by
  refine ⟨by rw [o];omega,λT=> ?_,?_⟩;have:=h.bJ.size;omega;rintro ⟨k,p,ch,hk,hn,hg⟩;have:=h.lt k p ch _ hk hn hg;omega
 refine ⟨some ⟨w.heap.size,0,none⟩,xs.length,rfl,ς _,λi hi=> ?_⟩;obtain ⟨es,k1,k2⟩:=J.toR i hi;refine ⟨⟨w.heap.size,0,none⟩,es,rfl,R,λj v hj=> ?_,abE (λb T=>⟨r b T,aar w _ b T.1⟩) t es _ k2⟩;rw [cw,(aer w arr el).cell];simpa using k1 j v hj
theorem tD {T:Ι}{t:Ty}{len:Nat}{parts:List (Nat×bK)}{vparts:Array (Nat×π)}{e:cO}(h:cT cx g st a w)(r:qH cx.P st.nx T t len parts=some e)(hp:cc (λ(p:Nat×bK) (q:Nat×π)=>p.1=q.1/\VR g st.mem (cx.safe g st.mem w) w p.2 q.2) parts vparts.toList):gG cx st a w (Ϲ T len vparts) e:=by
 unfold qH at r;split at r;rename_i el hu;cases hb:((dm cx.P el==some t.size&&(((cx.P.info? el).bind (·.zero)).map λz=>Β z.cells.size t.size)==some true)&&(Β parts.length len&&ϩ (len*t.size) 65536)) with
 |false=>rw [hb] at r;cases r
 |true=>
  rw [hb] at r;simp only [cond_true] at r;simp only [κ,beq_iff_eq] at hb;obtain ⟨⟨hs,J⟩,hn,aa⟩:=hb;have hn:=cg hn;have aa:=jd aa;subst hn;split at r;rename_i xs hx;injection r with r;subst r;cases hi:cx.P.info? el with
  |none=>simp [dm,hi] at hs
  |some i=>
   rw [hi] at J;simp only [η] at J;cases U:i.zero with
   |none=>simp [U] at J
   |some z=>
    rw [U] at J;have J:Β z.cells.size t.size=true:=by simpa using J
    have J:=cg J;let base:Array π:=(aci (parts.length*t.size)).map λk=>(if parts.length*t.size=0 then #[] else z.cells)[k%(if parts.length*t.size=0 then #[] else z.cells).size]!;have ab:base.size=parts.length*t.size:=by simp [base]
    obtain ⟨o,ad,e1,e2,e3,e4,e5⟩:=tw (g:=g) (m:=st.mem) (S:=cx.safe g st.mem w) (w:=w) (arr:=base) hx hp (by rw [ab,Ψ];exact ς _);have ae:(Ϲ T parts.length vparts).run cx.P w= .ok (.slice (some ⟨w.heap.size,0,none⟩) parts.length parts.length) (w.alloc (.cells o el)):=by
     have R: ¬(16777216<parts.length*t.size):=by omega
     by_cases h0:parts.length*t.size=0;have I:abj (λj=>some (j*t.size,t.size)) ((aci (parts.length*t.size)).map λk=>(#[]:Array π)[k%(#[]:Array π).size]!) vparts.toList=some o:=by
      have:=e1;simp only [base,h0,if_true] at this;rw [h0];exact this
     simp only [Ϲ,Ϛ,run_underlying hu,ϋ,cN hs];simp [h0,R] at I⊢;simp [I,newRow];have I:abj (λj=>some (j*t.size,t.size)) ((aci (parts.length*t.size)).map λk=>z.cells[k%z.cells.size]!) vparts.toList=some o:=by
      have:=e1;simp only [base,h0,if_false] at this;exact this
     simp only [Ϲ,Ϛ,run_underlying hu,ϋ,cN hs];simp [h0,R,zeroValue,typeInfo,hi,U] at I⊢;simp [I,newRow]
    refine ⟨_,_,ae,?_⟩;have hlen:o.toList=ad:=by
     rw [e5,<-e4];simp only [abf,Ψ,List.take_zero,List.nil_append];rw [aeZ (by rw [Ω,ab];exact ς _)];simp
    rw [e4];exact ph.bZ h ⟨rfl,rfl,rfl⟩ (by rw [hlen];exact e3)
  cases r
 cases r
end
def LP:List Bool->List RV->List RV
 |true::j,r::rs=>⟨false,r.t.er,B9 r.x⟩::LP j rs
 |false::j,r::rs=>r::LP j rs
 |[],rs=>rs
 |_,[]=>[]
theorem ga.rep {S S':Nat->Prop}{w:Ε}(I: ∀b,S b->S' b){t:Ty}{cs:List π}{xs:List t.D}{A:List (List Nat->Option Nat)}(J: ∀γ,γ∈A-> ∀p b,γ p=some b->S' b)(h:ga S w t cs xs A):cn S' w (.sl t) cs xs:=by
 rcases h with ⟨_,rfl,a,e⟩|⟨v,γ,R,e,b,cap,arr,T,ev,U,h2,h3,h4,h5,h6⟩
 exact ⟨a,0,e,ς _,λi r=>by simp at r⟩;subst e;subst ev;have o: ∀p b,γ p=some b->S' b:=J γ (by rw [R];simp);refine ⟨some ⟨b,0,none⟩,cap,rfl,U,λi r=> ?_⟩;obtain ⟨es,k1,k2⟩:=h6.data I o i r;refine ⟨⟨b,0,none⟩,es,rfl,o [] b T,λj v hj=> ?_,k2⟩;rw [cw,h3.cell];simpa using k1 j v hj
theorem dG.rep {S S':Nat->Prop}{w:Ε}(I: ∀b,S b->S' b): ∀(t:Ty) {cs:List π} {x:t.D} {A:List (List Nat->Option Nat)},(∀γ,γ∈A-> ∀p b,γ p=some b->S' b)->dG S w t cs x A->cn S' w t cs x
 | .int _,_,_,_,_,h=>h.2
 | .dP _,_,_,_,_,h=>h.2
 | .bool,_,_,_,_,h=>h.2
 | .str,_,_,_,_,h=>h.2
 | .pair a b,_,_,_,r,⟨U,c2,A1,A2,e,J,R,T⟩=>by
  subst e;subst J;exact ⟨U,c2,rfl,dG.rep I a (λγ o=>r γ (Λ.2 (.inl o))) R,dG.rep I b (λγ o=>r γ (Λ.2 (.inr o))) T⟩
 | .st t,_,_,_,r,h=>dG.rep I t (cs:=_) r h
 | .sl t,_,_,_,r,h=>ga.rep I r h
 | .bx t,_,xs,_,r,⟨γ,b,arr,J,e,h0,R,T⟩=>by
  subst e;have o: ∀p b,γ p=some b->S' b:=r γ (by rw [J];simp);refine ⟨⟨b,0,none⟩,rfl,λi hi=> ?_⟩;obtain ⟨es,k1,k2⟩:=T.data I o i hi;refine ⟨es,o [] b h0,λj v hj=> ?_,k2⟩;rw [cw,R.cell];simpa using k1 j v hj
 | .own t,_,_,_,r,h=>ga.rep I r h
 | .cl f t,cs,x,_,_,h=>abE (λb hb=>⟨I b hb,rfl⟩) (.cl f t) cs x h.2
theorem wB.cases {S:Nat->Prop}{w:Ε}{r:RV}{v:π}{F:List (List Nat->Option Nat)}(h:wB S w r v F):(r.fresh=true/\ ∃cs,dQ r.t cs v/\dG S w r.t cs r.x F)\/(r.fresh=false/\F=[]/\ ∃cs,dQ r.t cs v/\cn S w r.t cs r.x):=by
 unfold wB at h;cases j:r.fresh with
 |true=>rw [j] at h;exact .inl ⟨rfl,h⟩
 |false=>rw [j] at h;exact .inr ⟨rfl,h⟩
theorem wB.fr {S:Nat->Prop}{w:Ε}{r:RV}{v:π}{F:List (List Nat->Option Nat)}(j:r.fresh=true)(h: ∃cs,dQ r.t cs v/\dG S w r.t cs r.x F):wB S w r v F:=by
 unfold wB;rw [j];exact h
theorem wB.im {S:Nat->Prop}{w:Ε}{r:RV}{v:π}(j:r.fresh=false)(h: ∃cs,dQ r.t cs v/\cn S w r.t cs r.x):wB S w r v []:=by
 unfold wB;rw [j];exact ⟨rfl,h⟩
theorem wB.up {S S':Nat->Prop}{w:Ε}(t: ∀b,S b->S' b){r:RV}{v:π}{F:List (List Nat->Option Nat)}(h:wB S w r v F):wB S' w r v F:=by
 rcases h.cases with ⟨j,cs,o,p⟩|⟨j,rfl,cs,o,p⟩
 exact wB.fr j ⟨cs,o,dG.mono t _ p⟩;exact wB.im j ⟨cs,o,abE (λb I=>⟨t b I,rfl⟩) _ _ _ p⟩
theorem nw.up {S S':Nat->Prop}{w:Ε}(j: ∀b,S b->S' b): ∀{rs:List RV} {vs:List π} {F:List (List Nat->Option Nat)},nw S w rs vs F->nw S' w rs vs F
 |[],[],_,h=>h
 |_::_,_::_,_,⟨o,p,e,r,t⟩=>⟨o,p,e,r.up j,nw.up j t⟩
 |[],_::_,_,h=>h.elim
 |_::_,[],_,h=>h.elim
def SG (A j:List (List Nat->Option Nat))(b:Nat):Prop:=(∃γ,γ∈A/\ ∃p,γ p=some b)/\ ¬ ∃γ,γ∈j/\ ∃p,γ p=some b
theorem pM.app {r t:List (List Nat->Option Nat)}(h:pM (r++t)):pM r/\pM t/\ ∀γ j p q b,γ∈r->j∈t->γ p=some b->j q=some b->False:=by
 obtain ⟨J,I⟩:=h;obtain ⟨R,T,U⟩:=List.pairwise_append.1 J;exact ⟨⟨R,λγ o=>I γ (Λ.2 (.inl o))⟩,⟨T,λγ o=>I γ (Λ.2 (.inr o))⟩,λγ j p q b m1 m2 e1 e2=>U γ m1 j m2 p q b e1 e2⟩
theorem CA {t:Ty}{cs:List π}{v:π}(h:dQ t cs v):dQ t.er cs v:=by
 cases t<;>exact h
theorem nw.rn {w:Ε}: ∀{fs:List Bool} {rs:List RV} {vs:List π} {A:List (List Nat->Option Nat)} {S:Nat->Prop},nw S w rs vs A->pM A-> ∃R,R.Sublist A/\ ∀S':Nat->Prop,(∀b,S b->S' b)->(∀b,SG A R b->S' b)->nw S' w (LP fs rs) vs R:=by
 intro fs;induction fs with
 |nil=>
  intro rs vs A S h _;exact ⟨A,adh _,λS' I _=>by cases rs<;>exact nw.up I h⟩
 |cons f fs ih=>
  intro rs vs A S h uq;cases rs with
  |nil=>cases f<;>exact ⟨A,adh _,λS' I _=>nw.up I h⟩
  |cons r rs=>
   cases vs with
   |nil=>exact h.elim
   |cons v vs=>
    obtain ⟨A1,A2,e,h1,h2⟩:=h;subst e;obtain ⟨hn1,sU,T⟩:=uq.app;obtain ⟨R,hs,hk⟩:=ih h2 sU;cases f with
    |true=>
     refine ⟨R,hs.trans (List.sublist_append_right _ _),λS' I U=>⟨[],R,rfl,?_,hk S' I λb ⟨⟨γ,j,p,hp⟩,hn⟩=>U b ⟨⟨γ,Λ.2 (.inr j),p,hp⟩,hn⟩⟩⟩;rcases h1.cases with ⟨_,cs,q1,q2⟩|⟨_,_,cs,q1,q2⟩
     exact wB.im (r:=⟨false,r.t.er,B9 r.x⟩) rfl ⟨cs,CA q1,qz _ _ _ (dG.rep I r.t (λγ j p b hp=>U b ⟨⟨γ,Λ.2 (.inl j),p,hp⟩,λ⟨J,o,q,hq⟩=>T γ J p q b j (hs.subset o) hp hq⟩) q2)⟩;exact wB.im (r:=⟨false,r.t.er,B9 r.x⟩) rfl ⟨cs,CA q1,qz _ _ _ (abE (λb hb=>⟨I b hb,rfl⟩) r.t cs _ q2)⟩
    |false=>
     refine ⟨A1++R,(adh A1).append hs,λS' I U=>⟨A1,R,rfl,h1.up I,hk S' I λb ⟨⟨γ,j,p,hp⟩,hn⟩=>U b ⟨⟨γ,Λ.2 (.inr j),p,hp⟩,λ⟨J,o,q,hq⟩=> ?_⟩⟩⟩;rcases Λ.1 o with hm|hm
     exact T J γ q p b hm j hq hp;exact hn ⟨J,hm,q,hq⟩
theorem iA.up {S S':Nat->Prop}{w:Ε}(j: ∀b,S b->S' b): ∀{asx:List Arg} {vs:List π} {Fs:List (List (List Nat->Option Nat))} {os:List TD},iA S w asx vs Fs os->iA S' w asx vs Fs os
 |[],[],[],[],h=>h
 | .own t x::asx,v::vs,F::Fs,o::os,⟨⟨e,cs,p,r,I⟩,h⟩=>⟨⟨e,cs,p,dG.mono j t r,I⟩,iA.up j h⟩
 | .bZ _ _::asx,_::vs,_::Fs,os,h=>iA.up (asx:=asx) (vs:=vs) (Fs:=Fs) (os:=os) j h
 | .fZ _ _::asx,_::vs,_::Fs,os,h=>iA.up (asx:=asx) (vs:=vs) (Fs:=Fs) (os:=os) j h
 | .fn _::asx,_::vs,_::Fs,os,h=>iA.up (asx:=asx) (vs:=vs) (Fs:=Fs) (os:=os) j h
 | .ji _ _ _::asx,_::vs,_::Fs,os,h=>iA.up (asx:=asx) (vs:=vs) (Fs:=Fs) (os:=os) j h
 | .mv _ _::asx,_::vs,_::Fs,os,h=>iA.up (asx:=asx) (vs:=vs) (Fs:=Fs) (os:=os) j h
 | .nl::asx,_::vs,_::Fs,os,h=>iA.up (asx:=asx) (vs:=vs) (Fs:=Fs) (os:=os) j h
 |[],[],[],_::_,h=>h.elim
 |[],[],_::_,_,h=>h.elim
 |[],_::_,_,_,h=>h.elim
 | .own _ _::_,[],_,_,h=>h.elim
 | .own _ _::_,_::_,[],_,h=>h.elim
 | .own _ _::_,_::_,_::_,[],h=>h.elim
 | .bZ _ _::_,[],_,_,h=>h.elim
 | .bZ _ _::_,_::_,[],_,h=>h.elim
 | .fZ _ _::_,[],_,_,h=>h.elim
 | .fZ _ _::_,_::_,[],_,h=>h.elim
 | .fn _::_,[],_,_,h=>h.elim
 | .ji _ _ _::_,[],_,_,h=>h.elim
 | .fn _::_,_::_,[],_,h=>h.elim
 | .ji _ _ _::_,_::_,[],_,h=>h.elim
 | .mv _ _::_,[],_,_,h=>h.elim
 | .mv _ _::_,_::_,[],_,h=>h.elim
 | .nl::_,[],_,_,h=>h.elim
 | .nl::_,_::_,[],_,h=>h.elim
def CB:List Arg->Bool
 |[]=>true
 | .mv _ _::_=>false
 |_::j=>CB j
theorem um.none {b:Nat}: ∀{asx:List Arg} {Fs:List (List (List Nat->Option Nat))},CB asx=true-> ¬um b asx Fs
 |[],_,_,h=>by simp [um] at h
 |_::_,[],_,h=>by simp [um] at h
 |a::asx,F::Fs,h,j=>by
  cases a with
  |mv t x=>cases h
  |_=>exact um.none (asx:=asx) (Fs:=Fs) h j
theorem CallOK.rn {P:Ο}{f:aaF}{args:List Arg}{rs:List RV}{outs:List TD}(fs:List Bool)(R:CB args=true)(h:CallOK P f args rs outs):CallOK P f args (LP fs rs) outs:=by
 refine ⟨h.1,λw S vals As F hB hI h1 h3 h4 hgl=>(h.2 w S vals As F hB hI h1 h3 h4 hgl).mono λe w' ⟨v,A,F',e1,t,I,⟨vs,hr,hv⟩,hF,hk,ho⟩=> ?_⟩;obtain ⟨A',hs,UP⟩:=hr.rn (fs:=fs) I;obtain ⟨F2,J⟩:=nz (n:=w'.heap.size) (A:=A') (λγ j p b hp=>(hF b ((t b).2 ⟨γ,hs.subset j,p,hp⟩)).2);have r: ∀b,b∈F2->b∈F':=λb T=>by
  obtain ⟨γ,j,hp⟩:=(J b).1 T;exact (t b).2 ⟨γ,hs.subset j,hp⟩
 have o: ∀b,je S w w' F' b->je S w w' F2 b:=λb ⟨q1,q2,q3⟩=>⟨q1,q2,λR=>q3 (r b R)⟩;refine ⟨v,A',F2,e1,J,⟨I.1.sublist hs,λγ j=>I.2 γ (hs.subset j)⟩,⟨vs,UP _ o λb ⟨T,hn⟩=> ?_,hv⟩,λb T=>hF b (r b T),hk,ho.up o⟩;have U:=(t b).2 T;exact ⟨(hF b U).2,λhlt=>by
  rcases (hF b U).1 with q|q
  omega;exact absurd q (um.none R),λR=>hn ((J b).1 R)⟩
end Go.Ide
namespace Go.Ide
def xI (P:Ο)(nx:Nat)(T T':Ι)(t:Ty)(s x:bK):Option cO:=
 match P.underlying T,P.underlying T',s,x with
 |some (.slice e),some (.int _),.one .bH,.one (.bG (.int _) n)=>(match P.info? e,tY P e t with
  |some i,some z=>bif Β i.size t.size&&ϩ i.bytes 32768 then
   some ⟨.one (.all nx),[(nx,.seq t (List.replicate (δ n) z))],[],[(0:Int)<=n/\n<=4294967296]⟩ else none
  |_,_=>none)
 |_,_,_,_=>none
section
variable {cx:Cx} {g:GM} {st:St} {a:Act} {w:Ε} {P:Ο}
theorem zo {t u ty e:Ι}{i:adK}{z:π}{ku k:aaK}(ht:P.underlying t=some (.slice e))(hu:P.underlying u=some (.int ku))(hi:P.info? e=some i)(hz:i.zero=some z){base:Option Addr}{n:Nat}(hn:0<n)(nK:0<i.size)(J:n<=4294967296)(R:i.bytes<=32768):
 (Ϟ #[t,u] ty #[.slice base 0 0,.int k (n:Int)]).run P w=
  .ok (.slice (some ⟨w.heap.size,0,none⟩) n (grownCap w n 0 e))
   (w.drew.alloc (.cells (Ϧ z.cells n++Ϧ z.cells (grownCap w n 0 e - n)) e)):=by
 have hb:n*i.bytes<=140737488355328:=by
  calc n*i.bytes<=4294967296*32768:=aaZ J R
   _=140737488355328:=by decide
 have wl:IntKind.i64.wrap (n:Int)=n:=by rw [afx];omega
 have n0: ¬((n:Int)<0):=by omega
 have T: ¬(281474976710656<(n:Int)*(i.bytes:Int)):=by
  rw [<-Int.natCast_mul];omega
 have U: ¬(n<=0):=by omega
 have j: ¬(n=0):=by omega
 have o: ¬(9223372036854775807<(n:Int)):=by omega
 have YQ:=growslice_fits (old:=0) (by omega) hb;have p: ¬(281474976710656<aeS n 0*i.bytes):=by omega
 have r: ¬(n=0\/i.size=0):=by omega
 have I: ¬(n*i.size=0):=by rw [Nat.mul_eq_zero];exact r
 have aa:(aaO i.size 0 (.slice base 0 0)).run P w.drew= .ok #[] w.drew:=by
  cases base<;>simp [aaO,loadCells,loadCellsFrom]
 simp [Ϟ,run_underlying ht,run_underlying hu,sizeOf,typeInfo,zeroValue,hi,hz,asInt,asIntOf,wl,n0,T,j,o,p,r,I,acS,aa,newRow,grownCap]
theorem zp {t u ty e:Ι}{i:adK}{j k:aaK}(ht:P.underlying t=some (.slice e))(o:P.underlying u=some (.int j))(p:P.info? e=some i){base:Option Addr}:
 (Ϟ #[t,u] ty #[.slice base 0 0,.int k 0]).run P w= .ok (.slice base 0 0) w:=by
 have r:IntKind.i64.wrap 0=0:=by rw [afx];omega
 cases base<;>simp [Ϟ,run_underlying ht,run_underlying o,sizeOf,typeInfo,p,asInt,asIntOf,r,storeCells]
theorem xJ {T T':Ι}{ty:Ι}{t:Ty}{s x:bK}{e:cO}{sv xv:π}(h:cT cx g st a w)(hw:fw st.mem e.new)(U:xI cx.P st.nx T T' t s x=some e)(hc:cp e.cond)(hs:VR g st.mem (cx.safe g st.mem w) w s sv)(hx:VR g st.mem (cx.safe g st.mem w) w x xv):gG cx st a w (Ϟ #[T,T'] ty #[sv,xv]) e:=by
 unfold xI at U;split at U;rename_i el ku k n hu Hg;have LO:=dV (g:=g) (m:=st.mem) (S:=cx.safe g st.mem w) (w:=w) hx;subst LO;obtain ⟨ab,O5⟩:=hs;subst O5;split at U;rename_i i z0 hi r;cases R:(Β i.size t.size&&ϩ i.bytes 32768) with
 |false=>simp [R] at U
 |true=>
  rw [R] at U;simp only [cond_true] at U;simp only [κ] at R;have nK:=cg R.1;have Ck:=jd R.2;injection U with U;subst U;obtain ⟨⟨h0,h1⟩,_⟩:=hc;obtain ⟨q,rfl⟩:=Int.eq_ofNat_of_zero_le (show (0:Int)<=n from h0);have hq:q<=4294967296:=by have:((q:Nat):Int)<=4294967296:=h1;omega
  unfold tY at r;rw [hi] at r;cases ad:i.zero with
  |none=>simp [ad] at r
  |some z=>
   simp only [ad] at r;have J: ∀(S':Nat->Prop) (w':Ε) (γ:List Nat->Option Nat),(∀p,γ p=none)->dw S' w' t γ 0 z.cells.toList z0:=λS' w' γ hγ=>by
    split at r;rename_i rE;obtain ⟨cs,hval,J⟩:=nu (g:=⟨λ_ _=>none⟩) (m:=[]) (S:=S') (S2:=S') (λ_ h=>h) agd r (qA (w:=w') z);rw [pv hval J];exact dw.rA t rE J;split at r;rename_i zk;split at r;rename_i x hx;injection r with r;subst r;obtain ⟨v1,v2,e,h1,h2⟩:=pZ (g:=⟨λ_ _=>none⟩) (m:=[]) (S:=S') (w:=w') (γ:=γ) (o:=0) t hx (kL z zk) hγ;have:v2=[]:=by cases v2 with|nil=>rfl|cons=>exact h2.elim
    subst this;rw [ϲ] at e;rw [e];exact h1;cases r;cases r
   have I:z.cells.size=t.size:=by rw [<-Ω];exact ahh t (J (λ_=>True) w (λ_=>none) (λ_=>rfl))
   have YS:=t.size_pos;simp only [Int.toNat_natCast];by_cases V0:q=0;subst V0;refine ⟨_,_,zp (P:=cx.P) hu Hg hi,?_⟩;exact ad5 (G:=[]) (up:=[]) (gk:=none) h hw ⟨rfl,rfl,rfl⟩ (.inl rfl) (adn _ _) (.inl rfl) (λb R=>by cases R) (λb R=>by cases R) (λS' hS=>rfl) ⟨ab,rfl⟩;have wQ:=grownCap_ge w q 0 el;have IC:=grownCap_le_maxLen w q 0 el (by unfold maxLen;omega);refine ⟨_,_,zo (P:=cx.P) hu Hg hi ad (by omega) (by omega) hq Ck,?_⟩;have aa:=aer w.drew (Ϧ z.cells q++Ϧ z.cells (grownCap w q 0 el - q)) el;refine ad5 (G:=[]) (up:=[]) (gk:=some w.heap.size) h hw ⟨rfl,rfl,rfl⟩ (.inl rfl) ((agx [] w).trans (acA _ _ _)) (.inl rfl) (λb R=>by injection R with R;left;omega) (λb R=>by injection R with R;subst R;exact aa.lt) (λS' hS=>⟨_,aa,?_⟩) ?_;intro i' Ca;simp only [List.length_replicate] at Ca;refine ⟨z.cells.toList,λj u hj=> ?_,?_⟩;have NO:j<t.size:=by rw [<-I,<-Ω];exact (ω.1 hj).1
   have hlt:i'*t.size+j<q*t.size:=by
    have:(i'+1)*t.size<=q*t.size:=Τ _ (by omega);rw [ϓ] at this;omega
   have OQ:(i'*t.size+j)%t.size=j:=by rw [Nat.add_comm,aaB,Nat.add_mul_mod_self_left];exact Nat.mod_eq_of_lt NO
   rw [abz (by rw [size_zeroCells,I];exact hlt)];have Y0:j<z.cells.size:=by rw [I];exact NO
   simp only [Ϧ,I,Array.getElem?_map,Array.getElem?_range,hlt,if_true,Option.map_some,OQ];rw [getElem!_pos z.cells j Y0,<-aal Y0,<-ϥ];exact hj;simp only [List.getElem_replicate];exact J _ _ _ (λp=>rfl);refine ⟨grownCap w q 0 el,_,by simp,by simpa using wQ,aa,?_,IC⟩;simp only [adL,size_zeroCells,I,<-ϓ];exact Τ _ (by omega)
 cases U;cases U
end
end Go.Ide
namespace Go.Ide
theorem cc.Ey {α β:Type}{R:α->β->Prop}: ∀{asx:List α} {p:List β},asx.length=p.length->(∀(j:Nat) (a:α) (b:β),asx[j]? =some a->p[j]? =some b->R a b)->cc R asx p
 |[],[],_,_=>trivial
 |a::asx,b::p,o,h=>⟨h 0 a b rfl rfl,cc.Ey (by simpa using o) λj r t I J=>h (j+1) r t (by simpa using I) (by simpa using J)⟩
 |[],_::_,o,_=>by simp at o
 |_::_,[],o,_=>by simp at o
theorem cc.imp_mem {α β:Type}{R r:α->β->Prop}: ∀{asx:List α} {o:List β},(∀a,a∈asx-> ∀b,R a b->r a b)->cc R asx o->cc r asx o
 |[],[],_,_=>trivial
 |a::asx,b::o,h,j=>⟨h a (by simp) b j.1,cc.imp_mem (λt p=>h t (ύ _ p)) j.2⟩
 |[],_::_,_,j=>j.elim
 |_::_,[],_,j=>j.elim
theorem uu: ∀(l:List Chunk) (n:Nat),(cD n l).map aav=List.range' n l.length
 |[],_=>rfl
 |_::r,n=>by simp [cD,uu r (n+1),List.range'_succ]
theorem qe: ∀(t:Ty) (x:t.D) (n o:Nat),(eM t x n).2.length=(cK t o).length
 | .pair a b,x,n,o=>by simp only [eM,cK,ξ,qe a _ _ o,qe b _ _ (o+a.size)]
 | .st t,x,n,o=>qe t x n o
 | .own _,_,_,_=>rfl
 | .int _,_,_,_=>rfl
 | .dP _,_,_,_=>rfl
 | .bool,_,_,_=>rfl
 | .str,_,_,_=>rfl
 | .sl _,_,_,_=>rfl
 | .bx _,_,_,_=>rfl
 | .cl _ _,_,_,_=>rfl
theorem kj: ∀(t:Ty) (o q:Nat),q∈cK t o->o<=q/\q<o+t.size
 | .pair a b,o,q,h=>by
  rcases Λ.1 (show q∈cK a o++cK b (o+a.size) from h) with h|h
  have:=kj a o q h;simp only [aao];omega;have:=kj b (o+a.size) q h;simp only [aao];omega
 | .st t,o,q,h=>kj t o q h
 | .own _,o,q,h=>by simp [cK] at h;subst h;simp [aao]
 | .int _,_,_,h=>by simp [cK] at h
 | .dP _,_,_,h=>by simp [cK] at h
 | .bool,_,_,h=>by simp [cK] at h
 | .str,_,_,h=>by simp [cK] at h
 | .sl _,_,_,h=>by simp [cK] at h
 | .bx _,_,_,h=>by simp [cK] at h
 | .cl _ _,_,_,h=>by simp [cK] at h
theorem na: ∀(t:Ty) (o:Nat),(cK t o).Nodup
 | .pair a b,o=>by
  show (cK a o++cK b (o+a.size)).Nodup;rw [List.nodup_append];refine ⟨na a o,na b _,λq p r j e=> ?_⟩;have:=kj a o q p;have:=kj b (o+a.size) r j;omega
 | .st t,o=>na t o
 | .own _,o=>by simp [cK]
 | .int _,_=>by simp [cK]
 | .dP _,_=>by simp [cK]
 | .bool,_=>by simp [cK]
 | .str,_=>by simp [cK]
 | .sl _,_=>by simp [cK]
 | .bx _,_=>by simp [cK]
 | .cl _ _,_=>by simp [cK]
section
variable {S:Nat->Prop} {w:Ε}
theorem sB: ∀(t:Ty) {γ:List Nat->Option Nat} {o:Nat} {cs:List π} {x:t.D} (n:Nat),dw S w t γ o cs x-> ∀(g':GM) (m':Mem),(∀j ch,(eM t x n).2[j]? =some ch->lk (n+j) m'=some ch)->
 (∀j q,(cK t o)[j]? =some q->g'.f (n+j)=λp=>γ (q::p))->
 cc (CR g' m' S w) (eM t x n).1 cs/\ ∀j ch,(eM t x n).2[j]? =some ch->(∃t' T,ch= .seq t' T)/\jk g' m' S w (g'.f (n+j)) ch
 | .pair a b,γ,o,_,x,n,⟨c1,c2,e,h1,h2⟩=>by
  subst e;intro g' m' U hg;have la:=qe a x.1 n o;obtain ⟨p1,q1⟩:=sB a n h1 g' m' (λj ch r=>U j ch (by
   simp only [eM];rw [Ν (ω.1 r).1];exact r)) (λj q r=>hg j q (by
   show (cK a o++cK b (o+a.size))[j]? =_;rw [Ν (ω.1 r).1];exact r))
  obtain ⟨p2,q2⟩:=sB b (n+(eM a x.1 n).2.length) h2 g' m' (λj ch r=>by
   rw [Ϡ];refine U _ ch ?_;simp only [eM];rw [Κ (by omega)];simpa using r) (λj q r=>by
   rw [Ϡ];refine hg _ q ?_;show (cK a o++cK b (o+a.size))[_]? =_;rw [Κ (by omega),la];simpa using r)
  refine ⟨p1.append p2,λj ch r=> ?_⟩;simp only [eM] at r;by_cases hlt:j<(eM a x.1 n).2.length;rw [Ν hlt] at r;exact q1 j ch r;rw [Κ (by omega)] at r;have:=q2 _ ch r;rw [Ϡ,show (eM a x.1 n).2.length+(j - (eM a x.1 n).2.length)=j from by omega] at this;exact this
 | .st t,γ,o,cs,x,n,h=>sB t (o:=o) (cs:=cs) (x:=x) n h
 | .own t,γ,o,cs,xs,n,⟨v,e,ha,hr⟩=>by
  subst e;intro g' m' U hg;have I:=U 0 _ rfl;have R:=hg 0 o rfl;rw [Ϭ] at I R;have h0:g' n=γ [o]:=congrFun R [];refine ⟨⟨⟨by rw [I];simp,ha.one,λt' T tu=> ?_⟩,trivial⟩,λj ch r=> ?_⟩;have e:=ad3 I tu;rw [I] at e;injection e with e;injection e with e1 e2;subst e1;have e2:=eq_of_heq e2;subst e2;rw [h0];exact ha;have:j=0:=by
   have:=(ω.1 r).1;simp [eM] at this;exact this
  subst this;simp [eM] at r;subst r;refine ⟨⟨t,xs,rfl⟩,?_⟩;rw [Ϭ,R];unfold jk;cases J:γ [o] with
  |none=>rw [J] at hr;simp only [J];exact ϸ hr
  |some b=>rw [J] at hr;obtain ⟨arr,hb,hi⟩:=hr;simp only [J];exact ⟨arr,hb,hi⟩
 | .int k,_,_,cs,x,n,h=>λg' m' _ _=>by
  have h:cs=[.int k x]:=h;subst h;exact ⟨⟨rfl,trivial⟩,λj ch r=>by simp [eM] at r⟩
 | .dP k,_,_,cs,x,n,h=>λg' m' _ _=>by
  obtain ⟨b,e,h⟩:=(h: ∃b,cs=[Value.float k b]/\di k b=x);subst e;exact ⟨⟨⟨b,rfl,h⟩,trivial⟩,λj ch r=>by simp [eM] at r⟩
 | .bool,_,_,cs,x,n,h=>λg' m' _ _=>by
  have h:cs=[.bool x]:=h;subst h;exact ⟨⟨rfl,trivial⟩,λj ch r=>by simp [eM] at r⟩
 | .str,_,_,cs,x,n,h=>λg' m' _ _=>by
  have h:cs=[.string ⟨x.toArray⟩]:=h;subst h;exact ⟨⟨rfl,trivial⟩,λj ch r=>by simp [eM] at r⟩
 | .sl t,_,_,cs,x,n,h=>λg' m' _ _=>by
  have I:=abV (.sl t) cs x h;have h:cn S w (.sl t) cs x:=h
  match cs,I,h with
  |[v],_,h=>exact ⟨⟨h,trivial⟩,λj ch r=>by simp [eM] at r⟩
 | .bx t,_,_,cs,x,n,h=>λg' m' _ _=>by
  have I:=abV (.bx t) cs x h;have h:cn S w (.bx t) cs x:=h
  match cs,I,h with
  |[v],_,h=>exact ⟨⟨h,trivial⟩,λj ch r=>by simp [eM] at r⟩
 | .cl f t,_,_,cs,x,n,h=>λg' m' _ _=>by
  have I:=abV (.cl f t) cs x h;have h:cn S w (.cl f t) cs x:=h
  match cs,I,h with
  |[v],_,h=>exact ⟨⟨h,trivial⟩,λj ch r=>by simp [eM] at r⟩
end
def zq (c i nx:Nat)(t:Ty)(xs:List t.D):Mem:=
 [(c,.pg t xs i (eM t (xs.getD i t.fm) nx).1 ((cD nx (eM t (xs.getD i t.fm) nx).2).map aav))]
def sV (i nx:Nat)(t:Ty)(xs:List t.D):Mem:=cD nx (eM t (xs.getD i t.fm) nx).2
section
variable {cx:Cx} {g:GM} {st:St} {a:Act} {w:Ε}
theorem cT.IT {c i:Nat}{t:Ty}{xs:List t.D}(h:cT cx g st a w)(hl:lk c st.mem=some (.seq t xs))(hi:i<xs.length)(hw:fw st.mem (sV i st.nx t xs)):
 ∃g',cT cx g' (st.jc (zq c i st.nx t xs++sV i st.nx t xs++st.mem) (st.nx+(sV i st.nx t xs).length)) a w/\
  iO g g' st.mem (zq c i st.nx t xs++sV i st.nx t xs++st.mem) (cx.safe g st.mem w) (cx.safe g' (zq c i st.nx t xs++sV i st.nx t xs++st.mem) w) w w:=by
 let o:=(eM t (xs.getD i t.fm) st.nx).2;let IU:=cK t 0;have qF:o.length=IU.length:=qe t _ _ 0;let g':GM:=⟨λk=>if st.nx<=k then (match IU[k - st.nx]? with|some q=>λp=>g.f c (i::q::p)|none=>g.f k) else g.f k⟩;have uo: ∀j,j<o.length->lk (st.nx+j) st.mem=none:=λj hj=>by
  have Cr:(st.nx+j,o[j])∈sV i st.nx t xs:=
   mD (by show lk _ (cD st.nx o)=_;rw [eh,if_pos (by omega),show st.nx+j - st.nx=j from by omega];exact Γ hj)
  exact hw _ Cr
 let m':Mem:=zq c i st.nx t xs++sV i st.nx t xs++st.mem;have hold: ∀k,lk k st.mem≠none->st.nx<=k->o.length<=k - st.nx:=λk R J=>by
  rcases aam (k - st.nx) o.length with hlt|wQ
  exact absurd (by have:=uo _ hlt;rwa [show st.nx+(k - st.nx)=k from by omega] at this) R;exact wQ
 have I: ∀k,lk k st.mem≠none->g'.f k=g.f k:=λk R=>by
  show (if st.nx<=k then _ else _)=_;by_cases J:st.nx<=k;rw [if_pos J,aab (by rw [<-qF];exact hold k R J)];rw [if_neg J]
 have r: ∀j q,IU[j]? =some q->g'.f (st.nx+j)=λp=>g.f c (i::q::p):=λj q hj=>by
  show (if st.nx<=st.nx+j then _ else _)=_;rw [if_pos (by omega),show st.nx+j - st.nx=j from by omega,hj]
 have O6:lk c st.mem≠none:=by rw [hl];simp
 have SH:lk c m'=some (.pg t xs i (eM t (xs.getD i t.fm) st.nx).1 ((cD st.nx o).map aav)):=by
  show lk c (_++_++_)=_;rw [cF,cF];show (((lk c [(c,_)]).or _).or _)=_;rw [bO,if_pos rfl];rfl
 have AQ: ∀j ch,o[j]? =some ch->lk (st.nx+j) m'=some ch:=λj ch hj=>by
  have R:st.nx+j≠c:=λe=>O6 (by rw [<-e];exact uo j (ω.1 hj).1);show lk _ (_++_++_)=_;rw [cF,cF];show (((lk _ [(c,_)]).or (lk _ (cD st.nx o))).or _)=_;rw [bO,if_neg R,fR,eh,if_pos (by omega),show st.nx+j - st.nx=j from by omega,hj];rfl
 have vj: ∀k,k≠c->lk k st.mem≠none->lk k m'=lk k st.mem:=λk U R=>by
  have VO:lk k (cD st.nx o)=none:=by
   rw [eh];by_cases J:st.nx<=k;rw [if_pos J];exact aab (hold k R J);rw [if_neg J]
  show lk _ (_++_++_)=_;rw [cF,cF];show (((lk _ [(c,_)]).or (lk _ (cD st.nx o))).or _)=_;rw [bO,if_neg U,fR,VO];simp
 have vk: ∀k ch,lk k m'=some ch->lk k st.mem=none-> ∃j,k=st.nx+j/\o[j]? =some ch:=λk ch U zZ=>by
  have R:k≠c:=λe=>O6 (by rw [<-e];exact zZ);have U:lk k (zq c i st.nx t xs++sV i st.nx t xs++st.mem)=some ch:=U;rw [cF,cF] at U;have U:(((lk k [(c,_)]).or (lk k (cD st.nx o))).or (lk k st.mem))=some ch:=U;rw [bO,if_neg R,fR,eh,zZ] at U;by_cases J:st.nx<=k;rw [if_pos J] at U;refine ⟨k - st.nx,by omega,?_⟩;cases hx:o[k - st.nx]? with
  |none=>rw [hx] at U;simp at U
  |some c0=>rw [hx] at U;simpa using U
  rw [if_neg J] at U;simp at U
 have O7: ∀j ch,o[j]? =some ch-> ∃q,IU[j]? =some q:=λj ch hj=>
  ⟨IU[j]'(by rw [<-qF];exact (ω.1 hj).1),Γ _⟩
 have nY: ∀b,cx.safe g st.mem w b->cx.safe g' m' w b:=λb ⟨h1,h2,h3⟩=>by
  refine ⟨h1,h2,?_⟩;rintro ⟨k,p,ch,U,hn,hg⟩;cases ho:lk k st.mem with
  |none=>
   obtain ⟨j,e,hj⟩:=vk k ch U ho;subst e;obtain ⟨q,hq⟩:=O7 j ch hj;rw [r j q hq] at hg;exact h3 ⟨c,_,_,hl,trivial,hg⟩
  |some c0=>
   rw [I k (by rw [ho];simp)] at hg;by_cases e:k=c;subst e;exact h3 ⟨k,p,_,hl,trivial,hg⟩;rw [vj k e (by rw [ho];simp),ho] at U;injection U with U;exact h3 ⟨k,p,c0,ho,by rw [U];exact hn,hg⟩
 obtain ⟨G,hG⟩:=nz (n:=w.heap.size) (A:=[λp=>g.f c (i::p)]) (λγ hγ p b hp=>by
  simp at hγ;subst hγ;exact h.lt c _ _ b hl trivial hp)
 have V1: ∀b,b∈G↔ ∃p,g.f c (i::p)=some b:=λb=>by rw [hG b];simp
 have jm:=h.mem c _ hl;unfold jk at jm;cases Cu:g.f c [] with
 |none=>rw [Cu] at jm;have hn:xs=[]:=jm;subst hn;simp at hi
 |some bc=>
 rw [Cu] at jm;obtain ⟨arr,hblk,mq⟩:=jm;obtain ⟨Iq,En,zT,Lj⟩:=mq.at_ hi;obtain ⟨tB,V2⟩:=sB t st.nx (agv (λb hb=>⟨nY b hb,rfl⟩) t (λ_ _ _=>rfl) Lj) g' m' AQ (λj q hj=>r j q hj);have T:wA cx g g' st.mem m' w w G:=by
  refine ⟨adn _ _,λb hb=> ?_,I,λk ch ho=> ?_,λk ch ho oF=> ?_⟩;obtain ⟨p,hp⟩:=(V1 b).1 hb;exact ⟨c,_,_,hl,trivial,hp⟩;by_cases e:k=c;subst e;rw [hl] at ho;injection ho with ho;subst ho;refine .inr (.inr ⟨by simp,_,SH,by simp,λ_ _=>trivial,λt0 UM e=> ?_,λt0 UM e=>(by cases e),λp b arr _ _ hb=>⟨arr,hb,rfl⟩,?_⟩);rcases e with e|⟨_,_,_,e⟩
  cases e;injection e with e1 e2;subst e1;have e2:=eq_of_heq e2;subst e2;exact ⟨xs,.inl rfl,rfl⟩;rw [I k O6];refine ⟨cc.Ey (by rw [Ϝ,rm];exact qF.symm) λj q k' hq oF=> ?_,bc,arr,Cu,hblk,hi,λj hj R=> ?_,Iq,En,zT,tB⟩;have NW:j<o.length:=by rw [qF];exact (ω.1 hq).1
  rw [uu,List.getElem?_range' NW] at oF;injection oF with oF;have oF:k'=st.nx+j:=by omega
  subst oF;exact ⟨by rw [AQ j _ (Γ NW)];simp,r j q hq⟩;obtain ⟨es,k1,k2⟩:=mq j hj;exact ⟨es,k1,agv (λb hb=>⟨nY b hb,rfl⟩) t (λ_ _ _=>rfl) k2⟩;refine .inl ⟨by rw [vj k e (by rw [ho];simp)];exact ho,λp b hn Ct Z9=> ?_⟩;obtain ⟨p',hp'⟩:=(V1 b).1 Z9;exact e (h.fY k c p _ _ _ b ho hn hl trivial Ct hp').1;obtain ⟨j,e,hj⟩:=vk k ch oF ho;subst e;obtain ⟨q,hq⟩:=O7 j ch hj;refine ⟨(V2 j ch hj).2,λp b _ Ct=> ?_⟩;rw [r j q hq] at Ct;refine ⟨.inr ((V1 b).2 ⟨_,Ct⟩),h.lt c _ _ b hl trivial Ct,λk' p' pL sY sU AR=> ?_⟩;cases Eu:lk k' st.mem with
  |none=>
   obtain ⟨j2,e2,Hf⟩:=vk k' pL sY Eu;subst e2;obtain ⟨q2,NY⟩:=O7 j2 pL Hf;rw [r j2 q2 NY] at AR;have:=(h.fY c c _ _ _ _ b hl trivial hl trivial AR Ct).2;injection this with _ this;injection this with e1 e2;subst e1;have V3:j2=j:=by
    obtain ⟨l1,q1⟩:=ω.1 NY;obtain ⟨l2,q2'⟩:=ω.1 hq;exact (List.getElem_inj (na t 0)).1 (q1.trans q2'.symm)
   exact ⟨by rw [V3],e2⟩
  |some c0=>
   exfalso;rw [I k' (by rw [Eu];simp)] at AR;by_cases e:k'=c;subst e;rw [SH] at sY;injection sY with sY;subst sY;have:=(h.fY k' k' _ _ _ _ b hl trivial hl trivial AR Ct).2;exact sU q p this (aaN hq);rw [vj k' e (by rw [Eu];simp),Eu] at sY;injection sY with sY;subst sY;exact e (h.fY k' c _ _ _ _ b Eu sU hl trivial AR Ct).1
 exact ⟨g',h.ua T,T.stays⟩
end
end Go.Ide
namespace Go.Ide
def O8 (j:Nat):List Nat->Bool
 |[]=>false
 |a::l=>Β j a||O8 j l
theorem wR {j:Nat}: ∀{l:List Nat},O8 j l=true↔j∈l
 |[]=>by simp [O8]
 |a::l=>by simp [O8,wR (l:=l)]
def ew:List bI->List Nat
 |[]=>[]
 | .all k::r=>k::ew r
 |_::r=>ew r
theorem oq: ∀{cs:List bI} {q k:Nat},cs[q]? =some (.all k)->k∈ew cs
 |[],q,k,h=>by simp at h
 |c::cs,0,k,h=>by simp at h;subst h;simp [ew]
 |c::cs,q+1,k,h=>by
  have:=oq (cs:=cs) (q:=q) (k:=k) (by simpa using h);cases c<;>simp [ew,this]
theorem uv: ∀{cs:List bI} {p q k:Nat},(ew cs).Nodup->cs[p]? =some (.all k)->cs[q]? =some (.all k)->p=q
 |[],p,q,k,_,h,_=>by simp at h
 |c::cs,0,0,k,_,_,_=>rfl
 |c::cs,0,q+1,k,j,o,r=>by
  simp at o;subst o;simp only [ew,aba] at j;exact absurd (oq (by simpa using r)) j.1
 |c::cs,p+1,0,k,j,o,r=>by
  simp at r;subst r;simp only [ew,aba] at j;exact absurd (oq (by simpa using o)) j.1
 |c::cs,p+1,q+1,k,j,o,r=>by
  have t:(ew cs).Nodup:=by cases c<;>simp [ew] at j<;>first|exact j|exact j.2
  have o:cs[p]? =some (.all k):=by simpa using o
  have r:cs[q]? =some (.all k):=by simpa using r
  rw [uv t o r]
theorem uw: ∀(a b:List bI),ew (a++b)=ew a++ew b
 |[],_=>rfl
 |c::a,b=>by cases c<;>simp [ew,uw a b]
section
variable {m:Mem}
theorem vS: ∀(t:Ty) {cs r:List bI} {x:t.D} {ls:List Nat},mr m t cs=some ((x,ls),r)-> ∃I,cs=I++r/\I.length=t.size/\ls=ew I/\ ∀k∈ls,∃t' R,lk k m=some (.seq t' R):=by
 have o: ∀(t:Ty) (ht:t.size=1) (hf: ∀c x,dT [] t c=some x->ew [c]=[]) {cs r:List bI} {x:t.D} {ls:List Nat},(du [] t cs).map (λp=>((p.1,([]:List Nat)),p.2))=some ((x,ls),r)-> ∃I,cs=I++r/\I.length=t.size/\ls=ew I/\ ∀k∈ls,∃t' R,lk k m=some (.seq t' R):=by
  intro t ht hf cs r x ls h;cases cs with
  |nil=>simp [du] at h
  |cons c cs=>
   simp only [du] at h;cases hd:dT [] t c with
   |none=>rw [hd] at h;simp at h
   |some y=>
    rw [hd] at h;simp at h;obtain ⟨⟨rfl,rfl⟩,rfl⟩:=h;exact ⟨[c],rfl,by simp [ht],(hf c y hd).symm,by simp⟩
 have j: ∀(t:Ty) c x,dT [] t c=some x->ew [c]=[]:=by
  intro t c x h;cases c<;>first|rfl|skip
  rename_i k;cases t<;>simp [dT,fR] at h
 intro t;induction t with
 |int k=>intro cs r x ls h;exact o _ rfl (j _) h
 |dP k=>intro cs r x ls h;exact o _ rfl (j _) h
 |bool=>intro cs r x ls h;exact o _ rfl (j _) h
 |str=>intro cs r x ls h;exact o _ rfl (j _) h
 |sl t _=>intro cs r x ls h;exact o _ rfl (j _) h
 |bx t _=>intro cs r x ls h;exact o _ rfl (j _) h
 |cl f t _=>intro cs r x ls h;exact o _ rfl (j _) h
 |st t ih=>intro cs r x ls h;exact ih h
 |pair a b OY OZ=>
  intro cs r x ls h;simp only [mr] at h;split at h;rename_i y k1 r1 h1;split at h;rename_i z k2 r2 h2;injection h with h;injection h with T U;injection T with h5 h6;subst U;subst h6;obtain ⟨I,e1,l1,q1,s1⟩:=OY h1;obtain ⟨c2,e2,l2,q2,s2⟩:=OZ h2;refine ⟨I++c2,by rw [e1,e2,ό],by simp [aao,l1,l2],by rw [uw,q1,q2],λk J=> ?_⟩;rcases Λ.1 J with J|J
  exact s1 k J;exact s2 k J;cases h;cases h
 |own t _=>
  intro cs r x ls h;simp only [mr] at h;split at h;injection h with h;injection h with T U;injection T with h5 h6;subst U;subst h6;exact ⟨[.bH],rfl,rfl,rfl,by simp⟩;rename_i c r';split at h;rename_i e xs hl;split at h;injection h with h;injection h with T U;injection T with h5 h6;subst U;subst h6;exact ⟨[.all c],rfl,rfl,rfl,λk J=>by simp at J;subst J;exact ⟨_,_,hl⟩⟩;cases h;cases h;cases h
variable {g:GM} {S S2:Nat->Prop} {w:Ε}
theorem Hs (hm:kh g m S w)(hS: ∀b,S b->S2 b): ∀(t:Ty) {γ:List Nat->Option Nat} {o:Nat} {cs r:List bI} {x:t.D} {ls:List Nat} {vs:List π},mr m t cs=some ((x,ls),r)->cc (CR g m S w) cs vs->
 (∀q,o+q∈cK t o-> ∀k,cs[q]? =some (.all k)-> ∀p,γ ((o+q)::p)=g.f k p)->(∀q,o+q∈cK t o->cs[q]? =some .bH->γ [o+q]=none)->
 ∃v1 v2,vs=v1++v2/\dw S2 w t γ o v1 x/\cc (CR g m S w) r v2:=by
 have I: ∀(t:Ty) (hp: ∀(γ:List Nat->Option Nat) (o:Nat) (cs:List π) (x:t.D),cn S2 w t cs x->dw S2 w t γ o cs x) {γ:List Nat->Option Nat} {o:Nat} {cs r:List bI} {x:t.D} {ls:List Nat} {vs:List π},
  (du [] t cs).map (λp=>((p.1,([]:List Nat)),p.2))=some ((x,ls),r)->cc (CR g m S w) cs vs-> ∃v1 v2,vs=v1++v2/\dw S2 w t γ o v1 x/\cc (CR g m S w) r v2:=by
  intro t hp γ o cs r x ls vs h j;cases cs with
  |nil=>simp [du] at h
  |cons c cs=>
   cases vs with
   |nil=>exact j.elim
   |cons v vs=>
    simp only [du] at h;cases hd:dT [] t c with
    |none=>rw [hd] at h;simp at h
    |some y=>
     rw [hd] at h;simp at h;obtain ⟨⟨rfl,rfl⟩,rfl⟩:=h;exact ⟨[v],vs,rfl,hp γ o _ _ (rC hS agd hd j.1),j.2⟩
 intro t;induction t with
 |int k=>intro γ o cs r x ls vs h j _ _;exact I (.int k) (λ_ _ _ _ h=>h) h j
 |dP k=>intro γ o cs r x ls vs h j _ _;exact I (.dP k) (λ_ _ _ _ h=>h) h j
 |bool=>intro γ o cs r x ls vs h j _ _;exact I (.bool) (λ_ _ _ _ h=>h) h j
 |str=>intro γ o cs r x ls vs h j _ _;exact I (.str) (λ_ _ _ _ h=>h) h j
 |sl t _=>intro γ o cs r x ls vs h j _ _;exact I (.sl t) (λ_ _ _ _ h=>h) h j
 |bx t _=>intro γ o cs r x ls vs h j _ _;exact I (.bx t) (λ_ _ _ _ h=>h) h j
 |cl f t _=>intro γ o cs r x ls vs h j _ _;exact I (.cl f t) (λ_ _ _ _ h=>h) h j
 |st t ih=>intro γ o cs r x ls vs h j h1 h2;exact ih h j h1 h2
 |pair a b OY OZ=>
  intro γ o cs r x ls vs h j T R;simp only [mr] at h;split at h;rename_i y k1 r1 h1;split at h;rename_i z k2 r2 h2;injection h with h;injection h with h3 h4;injection h3 with h5 h6;subst h4;subst h5;obtain ⟨c1,e1,l1,_,_⟩:=vS a h1;obtain ⟨v1,v2,rfl,p1,q1⟩:=OY (γ:=γ) (o:=o) h1 j (λq hq k hk p=>T q (Λ.2 (.inl hq)) k hk p) (λq hq hk=>R q (Λ.2 (.inl hq)) hk);obtain ⟨v3,v4,rfl,p2,q2⟩:=OZ (γ:=γ) (o:=o+a.size) h2 q1 (λq hq k hk p=>by
   have:=T (a.size+q) (Λ.2 (.inr (by rw [<-Ϡ];exact hq))) k (by rw [e1,Κ (by omega),l1,aaG];exact hk) p;rw [Ϡ];exact this) (λq hq hk=>by
   have:=R (a.size+q) (Λ.2 (.inr (by rw [<-Ϡ];exact hq))) (by rw [e1,Κ (by omega),l1,aaG];exact hk);rw [Ϡ];exact this)
  exact ⟨v1++v3,v4,by simp,⟨v1,v3,rfl,p1,p2⟩,q2⟩;cases h;cases h
 |own t _=>
  intro γ o cs r x ls vs h j T R;simp only [mr] at h;have U:o+0∈cK (.own t) o:=by simp [cK]
  split at h;injection h with h;injection h with h3 h4;injection h3 with h5 h6;subst h4;subst h5;cases vs with
  |nil=>exact j.elim
  |cons v vs=>
   have h0:=R 0 U rfl;rw [Ϭ] at h0;obtain ⟨a,ha⟩:=j.1;subst ha;refine ⟨[_],vs,rfl,⟨_,rfl,?_,?_⟩,j.2⟩;rw [h0];exact ⟨a,rfl⟩;rw [h0];rfl
  rename_i c r';split at h;rename_i e xs hl;split at h;rename_i he;subst he;injection h with h;injection h with h3 h4;injection h3 with h5 h6;subst h4;subst h5;cases vs with
  |nil=>exact j.elim
  |cons v vs=>
   have h0:=T 0 U c rfl;rw [Ϭ] at h0;have hv:=j.1.2.2 e xs (.inl hl);have J:=hm c _ hl;unfold jk at J;have UH:γ [o]=g.f c []:=h0 [];refine ⟨[v],vs,rfl,⟨v,rfl,?_,?_⟩,j.2⟩;rw [UH];exact hv;rw [UH];cases hg:g.f c [] with
   |none=>rw [hg] at J;have J:xs=[]:=J;show ζ xs=0;rw [J];rfl
   |some b=>
    rw [hg] at J;obtain ⟨arr,hb,mq⟩:=J;refine ⟨arr,hb,λi hi=> ?_⟩;obtain ⟨es,k1,k2⟩:=mq i hi;refine ⟨es,k1,?_⟩;have:(λp=>γ (o::i::p))=λp=>g.f c (i::p):=funext λp=>h0 (i::p);rw [this];exact agv (λb hb=>⟨hS b hb,rfl⟩) e (λ_ _ _=>rfl) k2
  cases h;cases h;cases h
theorem CC {k:Nat}{m:Mem}: ∀{ls:List Nat},lk k ((ls.map λk=>(k,Chunk.gone))++m)=if k∈ls then some .gone else lk k m
 |[]=>by simp
 |q::ls=>by
  simp only [aaa,ade];rw [bO,CC (ls:=ls)];by_cases e:k=q;subst e;simp;rw [if_neg e];simp [e]
end
end Go.Ide
namespace Go.Ide
def xK (m:Mem)(nx:Nat):bK->Option (Mem×Mem×Prop)
 | .one (.dn c i o _)=>match lk c m with
  |some (.seq t j)=>bif Β o t.size then some (zq c i nx t j,sV i nx t j,i<j.length) else none
  |_=>none
 |_=>none
def AT (P:Ο)(m:Mem)(nx:Nat)(T:Ι)(v:bK):Option cO:=
 match xK m nx v with
 |some (u,n,p)=>(match pU P (u++n++m) T v with
  |some e=>some ⟨e.val,n,u,[p]⟩
  |none=>none)
 |none=>none
def wS (P:Ο)(m:Mem)(nx:Nat)(T:Ι)(v x:bK):Option cO:=
 match xK m nx v with
 |some (u,n,p)=>(match qx P (u++n++m) T v x with
  |some e=>some ⟨.dS,n,e.lq++u,[p]⟩
  |none=>none)
 |none=>none
theorem xL {m:Mem}{nx:Nat}{v:bK}{u n:Mem}{p:Prop}(h:xK m nx v=some (u,n,p)):
 ∃c i sz off t xs,v= .one (.dn c i sz off)/\lk c m=some (.seq t xs)/\u=zq c i nx t xs/\n=sV i nx t xs/\p=(i<xs.length):=by
 unfold xK at h;split at h;rename_i c i sz off;split at h;rename_i t xs o;cases j:Β sz t.size with
 |false=>rw [j] at h;cases h
 |true=>
  rw [j] at h;simp only [cond_true] at h;injection h with h;injection h with r h;injection h with I J;exact ⟨c,i,sz,off,t,xs,rfl,o,r.symm,I.symm,J.symm⟩
 cases h;cases h
theorem Gf {c i nx:Nat}{t:Ty}{xs:List t.D}{l:Mem}: ∃cs ks,lk c (zq c i nx t xs++l)=some (.pg t xs i cs ks):=by
 refine ⟨(eM t (xs.getD i t.fm) nx).1,(cD nx (eM t (xs.getD i t.fm) nx).2).map aav,?_⟩;show lk c ((c,_)::l)=_;rw [bO,if_pos rfl]
theorem Ez {P:Ο}{m:Mem}{T:Ι}{c i sz off:Nat}{t:Ty}{xs:List t.D}{cs:List bI}{ks:List Nat}{e:cO}(I:lk c m=some (.pg t xs i cs ks))(h:pU P m T (.one (.dn c i sz off))=some e):cp e.cond:=by
 unfold pU at h;split at h;rename_i c' i' J p n ag o hs R;injection o with o;injection o with j U e3 e4;subst j;subst U;subst e3;subst e4;rw [I] at h;simp only at h;cases r:(ϩ (off+n) t.size&&Β sz t.size) with
 |false=>rw [r] at h;cases h
 |true=>
  rw [r] at h;simp only [cond_true] at h;split at h;obtain ⟨_,hc⟩:=dd h;rw [hc];exact ⟨by simp,trivial⟩;cases h
 rename_i j _ _;cases j;rename_i Gd _ _ _ j _ _;injection j with j;subst j;simp [og] at h;cases h
theorem CD {P:Ο}{m:Mem}{T:Ι}{c i sz off:Nat}{t:Ty}{xs:List t.D}{cs:List bI}{ks:List Nat}{x:bK}{e:cO}(I:lk c m=some (.pg t xs i cs ks))(h:qx P m T (.one (.dn c i sz off)) x=some e):cp e.cond/\e.new=[]/\e.val= .dS:=by
 unfold qx at h;split at h;rename_i j _;cases j;rename_i c' i' J p n o hs;injection o with o;injection o with j R U e4;subst j;subst R;subst U;subst e4;rw [I] at h;simp only at h;cases r:((Β x.cells.length n&&ϩ (off+n) t.size)&&(Β sz t.size&&x.ok)) with
 |false=>rw [r] at h;cases h
 |true=>
  rw [r] at h;simp only [cond_true] at h;injection h with h;subst h;exact ⟨⟨by simp,trivial⟩,rfl,rfl⟩
 rename_i j _;cases j;cases h
section
variable {cx:Cx} {g:GM} {st:St} {a:Act} {w:Ε}
theorem AU {T:Ι}{v:bK}{e:cO}{R:π}(h:cT cx g st a w)(hw:fw st.mem e.new)(j:AT cx.P st.mem st.nx T v=some e)(hc:cp e.cond)(hr:VR g st.mem (cx.safe g st.mem w) w v R):gG cx st a w (adf T R) e:=by
 unfold AT at j;split at j;rename_i u n p hp;split at j;rename_i e1 o;injection j with j;subst j;obtain ⟨c,i,sz,off,t,xs,rfl,hl,rfl,rfl,rfl⟩:=xL hp;obtain ⟨g',U,J⟩:=h.IT hl hc.1 hw;obtain ⟨cs,ks,I⟩:=Gf (c:=c) (i:=i) (nx:=st.nx) (t:=t) (xs:=xs) (l:=sV i st.nx t xs++st.mem);rw [<-ό] at I;obtain ⟨_,_,r,h3,h4⟩:=rD U.mem o (Ez I o) (ad4 J hr);exact ⟨r,w,h3,g',U,h4⟩;cases j;cases j
theorem zr {T:Ι}{x v:bK}{e:cO}{xa va:π}(h:cT cx g st a w)(hw:fw st.mem e.new)(o:wS cx.P st.mem st.nx T x v=some e)(hc:cp e.cond)(hx:VR g st.mem (cx.safe g st.mem w) w x xa)(hv:VR g st.mem (cx.safe g st.mem w) w v va):Cl cx st a w (adM T xa va) e:=by
 unfold wS at o;split at o;rename_i u n p hp;split at o;rename_i e1 r;injection o with o;subst o;obtain ⟨c,i,sz,off,t,xs,rfl,hl,rfl,rfl,rfl⟩:=xL hp;obtain ⟨g',hs,I⟩:=h.IT hl hc.1 hw;obtain ⟨cs,ks,J⟩:=Gf (c:=c) (i:=i) (nx:=st.nx) (t:=t) (xs:=xs) (l:=sV i st.nx t xs++st.mem);rw [<-ό] at J;obtain ⟨q1,q2,q3⟩:=CD J r;obtain ⟨w',R,U,j,_⟩:=uk hs r q1 (ad4 I hx) (ad4 I hv);refine ⟨w',R,U,?_,trivial⟩;rw [q2] at j;have j:cT cx U (st.jc (e1.lq++[]++(zq c i st.nx t xs++sV i st.nx t xs++st.mem)) (st.nx+(sV i st.nx t xs).length+0)) a w':=j;rw [ϲ] at j;show cT cx U (st.jc ((e1.lq++zq c i st.nx t xs)++sV i st.nx t xs++st.mem) (st.nx+(sV i st.nx t xs).length)) a w';rw [ό,ό];rw [ό] at j;exact j;cases o;cases o
def Hint.vT:Hint->Bool
 | .pg=>true
 |_=>false
def rH (P:Ο)(m:Mem)(nx:Nat)(h:Hint)(T:Ι)(v:bK):Option cO:=bif h.vT then AT P m nx T v else pU P m T v
def sC (P:Ο)(m:Mem)(nx:Nat)(h:Hint)(T:Ι)(v x:bK):Option cO:=bif h.vT then wS P m nx T v x else qx P m T v x
theorem AV {o:Hint}{T:Ι}{v:bK}{e:cO}{p:π}(h:cT cx g st a w)(J:fw st.mem e.new)(j:rH cx.P st.mem st.nx o T v=some e)(r:cp e.cond)(t:VR g st.mem (cx.safe g st.mem w) w v p):gG cx st a w (adf T p) e:=by
 unfold rH at j;cases I:o.vT with
 |true=>rw [I] at j;exact AU h J j r t
 |false=>rw [I] at j;exact (rD h.mem j r t).runs h
theorem zt {o:Hint}{T:Ι}{x v:bK}{e:cO}{p r:π}(h:cT cx g st a w)(U:fw st.mem e.new)(j:sC cx.P st.mem st.nx o T x v=some e)(t:cp e.cond)(I:VR g st.mem (cx.safe g st.mem w) w x p)(J:VR g st.mem (cx.safe g st.mem w) w v r):Cl cx st a w (adM T p r) e:=by
 unfold sC at j;cases R:o.vT with
 |true=>rw [R] at j;exact zr h U j t I J
 |false=>rw [R] at j;exact uk h j t I J
end
end Go.Ide
namespace Go.Ide
def Aa (m:Mem):bK->Option (Nat×Nat×Nat)
 | .one (.all c)=>(match lk c m with
  |some (.seq _ j)=>some (c,0,j.length)
  |_=>none)
 | .one (.ref c off len)=>some (c,off,len)
 |_=>none
def Ab (P:Ο)(m:Mem)(T:Ι)(x y:bK):Option cO:=
 match P.underlying T,Aa m x with
 |some (.slice e),some (c,off,len)=>(match lk c m with
  |some (.seq t o)=>bif (dm P e==some t.size&&t.top)&&nX m y then
   (match kf m (.sl t) y with
   |some j=>some ⟨.one (.bG (.int .i64) ((abh (ζ j) len:Nat):Int)),[],[(c,.seq t (o.take off++(ϛ (abh (ζ j) len) j:List t.D)++o.drop (off+abh (ζ j) len)))],[]⟩
   |none=>none) else none
  |_=>none)
 |_,_=>none
section
variable {g:GM} {m:Mem} {S:Nat->Prop} {w:Ε}
theorem eu.drop {t:Ty}{xs:List t.D}{l:List π}{n:Nat}(h:eu S w t xs l):eu S w t (xs.drop n) (l.drop (n*t.size)):=λi o=>by
 simp only [϶] at o;obtain ⟨es,p,r⟩:=h (n+i) (by omega);refine ⟨es,λj I=> ?_,by rw [List.getElem_drop];exact r⟩;rw [List.getElem?_drop,<-Ϡ,<-ϓ];exact p j I
theorem Ac (hm:kh g m S w){x:bK}{xa:π}{c off len:Nat}{t:Ty}{xs:List t.D}(h:Aa m x=some (c,off,len))(I:lk c m=some (.seq t xs))(hx:VR g m S w x xa):
 off+len<=xs.length/\ ∃a cap,xa= .slice a len cap/\(len=0\/ ∃b arr,g.f c []=some b/\a=some ⟨b,off*t.size,none⟩/\dA w b arr/\(off+len)*t.size<=arr.size):=by
 unfold Aa at h;split at h;rename_i J;split at h;rename_i t' iy o;injection h with h;injection h with R h;injection h with T U;subst R;subst T;rw [I] at o;injection o with o;injection o with e1 e2;subst e1;have e2:=eq_of_heq e2;subst e2;subst U;have p:=hx.2.2 t xs (.inl I);refine ⟨by omega,?_⟩;unfold jb at p;cases r:g J with
 |none=>
  rw [r] at p;obtain ⟨a,ha⟩:=p;have j:=hm J _ I;unfold jk at j;rw [show g.f J []=none from r] at j;have j:xs=[]:=j;exact ⟨a,0,by rw [ha,j];rfl,.inl (by rw [j];rfl)⟩
 |some b=>
  rw [r] at p;obtain ⟨cap,arr,e,k1,k2,k3,_⟩:=p;refine ⟨_,cap,e,.inr ⟨b,arr,r,by rw [abf],k2,?_⟩⟩;rw [Ψ];exact ϫ (Τ _ k1) k3
 cases h;rename_i J CF V4;injection h with h;injection h with R h;injection h with T U;subst R;subst T;subst U;obtain ⟨hle,p⟩:=hx.2.2 t xs (.inl I);refine ⟨hle,?_⟩;rcases p with ⟨h0,_,a,ha⟩|⟨b,cap,arr,r,e,k1,k2,k3,_⟩
 exact ⟨a,0,by rw [ha,h0],.inl h0⟩;exact ⟨_,cap,e,.inr ⟨b,arr,r,rfl,k2,ϫ (Τ _ (by omega)) k3⟩⟩;cases h
end
section
variable {cx:Cx} {g:GM} {st:St} {a:Act} {w:Ε}
theorem CG {T T' ty:Ι}{x y:bK}{e:cO}{xa ya:π}(h:cT cx g st a w)(R:Ab cx.P st.mem T x y=some e)(hx:VR g st.mem (cx.safe g st.mem w) w x xa)(hy:VR g st.mem (cx.safe g st.mem w) w y ya):gG cx st a w (ab5 #[T,T'] ty #[xa,ya]) e:=by
 unfold Ab at R;split at R;rename_i el c off len hu hd;split at R;rename_i t o hl;cases hb:((dm cx.P el==some t.size&&t.top)&&nX st.mem y) with
 |false=>rw [hb] at R;cases R
 |true=>
  rw [hb] at R;simp only [cond_true] at R;simp only [κ,beq_iff_eq] at hb;obtain ⟨⟨nK,U⟩,IB⟩:=hb;split at R;rename_i r hys;injection R with R;subst R;obtain ⟨hle,da,IV,rfl,xM⟩:=Ac h.mem hd hl hx;obtain ⟨p,aa⟩:=AJ h.mem hys IB U hy;obtain ⟨sa,ab,rfl,hsc⟩:=aa.val;have ae:abh (ζ r) len<=ζ r:=Nat.min_le_left _ _;have sU:abh (ζ r) len<=len:=Nat.min_le_right _ _;generalize af:abh (ζ r) len=n at ae sU⊢;have I:(p.take (n*t.size)).length=n*t.size:=by
   rw [ώ,aa.len];exact aas (Τ _ ae)
  have V5:=eV (P:=cx.P) (w:=w) (size:=t.size) (n:=n) (a:=sa) (len:=ζ r) (cap:=ab) I (by
   rcases hsc with h0|⟨ad,e,hc⟩
   exact .inl (by omega);exact .inr ⟨ad,e,λj v hj=>by
    rw [ϒ] at hj;split at hj;exact hc j v hj;cases hj⟩)
  have J:(sizeOf el).run cx.P w= .ok t.size w:=cN nK;rcases xM with h0|⟨b,arr,hg,rfl,ag,lj⟩
  have Cs:n=0:=by omega
  have ah:(ab5 #[T,T'] ty #[.slice da len IV,.slice sa (ζ r) ab]).run cx.P w= .ok (.int .i64 ((n:Nat):Int)) w:=by
   have uh: ∀ad:Addr,(storeCells ad (p.take (n*t.size)).toArray.toList).run cx.P w= .ok () w:=λad=>by
    rw [Cs];simp [storeCells]
   cases da with
   |none=>simp [ab5,run_underlying hu,abg,af,J,V5,goInt]
   |some ad=>simp [ab5,run_underlying hu,abg,af,J,V5,uh ad,goInt]
  refine ⟨_,w,ah,g,?_,rfl⟩;have rI:(o.take off++(ϛ n r:List t.D)++o.drop (off+n))=o:=by
   rw [Cs];simp
  show cT cx g (st.jc ([(c,Chunk.seq t (o.take off++(ϛ n r:List t.D)++o.drop (off+n)))]++[]++st.mem) (st.nx+0)) a w;rw [rI];have zd: ∀k,lk k ([(c,Chunk.seq t o)]++[]++st.mem)=lk k st.mem:=λk=>by
   show lk k ((c,_)::st.mem)=_;rw [bO];by_cases e:k=c;subst e;rw [if_pos rfl,hl];rw [if_neg e]
  exact h.ua (G:=[]) ⟨adn _ _,λb hb=>(by simp at hb),λ_ _=>rfl,λk ch hk=> .inl ⟨(zd k).trans hk,λ_ b _ _ hb=>by simp at hb⟩,λk ch hk oF=>by
   rw [zd,hk] at oF;cases oF⟩
  have ai:off*t.size+0+(p.take (n*t.size)).length<=arr.size:=by
   rw [I,Ϭ,<-ϓ];exact ϫ (Τ _ (by omega)) lj
  have IW:=eu.nJ aa.FX aa.len;obtain ⟨w',aj,uh,k1,k2,k3,k4⟩:=eC (P:=cx.P) (p.take (n*t.size)) (off*t.size) 0 w arr ag ai (λv hv=>IW v (List.mem_of_mem_take hv));rw [Ϭ,I] at k2;have ah:(ab5 #[T,T'] ty #[.slice (some ⟨b,off*t.size,none⟩) len IV,.slice sa (ζ r) ab]).run cx.P w= .ok (.int .i64 ((n:Nat):Int)) w':=by
   have aae:(storeCells ⟨b,off*t.size,none⟩ (p.take (n*t.size)).toArray.toList).run cx.P w= .ok () w':=uh;simp [ab5,run_underlying hu,abg,af,J,V5,uh,goInt]
  have ak:(o.take off++(ϛ n r:List t.D)++o.drop (off+n)).length=o.length:=by
   simp only [ξ,ώ,϶];omega
  have ID:aj.size=arr.size:=by
   rw [<-Ω,k2];simp only [ξ,I,ώ,϶,Ω];rw [I] at ai;omega
  have q:Ip g st w w' c b [] (.seq t o) (.seq t (o.take off++(ϛ n r:List t.D)++o.drop (off+n))):=
   ⟨hl,trivial,hg,k3,⟨arr,aj,ag,k1,ID⟩,λ_ _=>trivial,by simp,λt' iy e=>by
    obtain ⟨e,e2⟩:=qa e;subst e;subst e2;exact ⟨o,.inl rfl,ak.symm⟩,λt' iy e=>by
    injection e with e1 e2;subst e1;have e2:=eq_of_heq e2;subst e2;exact ⟨o,rfl,cL.top U ak.symm⟩⟩
  refine ⟨_,w',ah,g,?_,rfl⟩;refine h.NP q ?_;have jm:=h.mem c _ hl;unfold jk at jm⊢;rw [hg] at jm⊢;obtain ⟨qw,SI,mq⟩:=jm;have:=SI.eq ag;subst this;have nY:=(q.stays (cx:=cx)).safe;have hL:eu (cx.safe g st.mem w) w t o qw.toList:=(mq.FX U).toL;refine ⟨aj,k1,.lr U (eu.toR ?_)⟩;rw [k2];have bJ: ∀{zs:List t.D} {l:List π},eu (cx.safe g st.mem w) w t zs l->eu (cx.safe g ((c,Chunk.seq t (o.take off++(ϛ n r:List t.D)++o.drop (off+n)))::st.mem) w') w' t zs l:=λhz i hi=>by
   obtain ⟨es,e1,e2⟩:=hz i hi;exact ⟨es,e1,abE nY t es _ e2⟩
  have Ll:(qw.toList.take (off*t.size)).length=(o.take off).length*t.size:=by
   rw [ώ,ώ,Ω,aas (show off<=o.length by omega),aas];exact ϫ (Τ _ (by omega)) lj
  have hA:=eu.app (rest:=[]) (bJ (hL.take (n:=off) (by omega))) Ll (bJ (aa.FX.take (n:=n) ae)) (by rw [I,ώ,aas ae]);rw [ϲ] at hA;have O9:(qw.toList.take (off*t.size)++p.take (n*t.size)).length=(o.take off++(ϛ n r:List t.D)).length*t.size:=by
   rw [ξ,ξ,Ll,I,ϓ,ώ (l:=r),aas ae]
  have V6:eu (cx.safe g st.mem w) w t (o.drop (off+n)) (qw.toList.drop (off*t.size+n*t.size)):=by
   rw [<-ϓ];exact hL.drop
  intro i hi;by_cases hlt:i<(o.take off++(ϛ n r:List t.D)).length;obtain ⟨es,e1,e2⟩:=hA i hlt;refine ⟨es,λj hj=> ?_,by rw [aeH hlt];exact e2⟩;have hm:(i+1)*t.size<=(o.take off++(ϛ n r:List t.D)).length*t.size:=Τ _ (by omega);rw [ϓ] at hm;rw [Ν (by rw [O9];omega)];exact e1 j hj;have UQ:i - (o.take off++(ϛ n r:List t.D)).length<(o.drop (off+n)).length:=by
   rw [ξ] at hi;omega
  obtain ⟨es,e1,e2⟩:=bJ V6 _ UQ;refine ⟨es,λj hj=> ?_,by rw [aez (by omega)];exact e2⟩;obtain ⟨d,hd⟩: ∃d,i=(o.take off++(ϛ n r:List t.D)).length+d:=⟨_,(Nat.add_sub_cancel' (by omega)).symm⟩;rw [hd,aaG] at e1;rw [hd,ϓ,Κ (by rw [O9];omega),O9];rw [show∀A B:Nat,A+B+j - A=B+j from λA B=>by omega];exact e1 j hj;cases R
 cases R;cases R
end
end Go.Ide
namespace Go.Ide
def Ad (P:Ο)(m:Mem)(nx:Nat)(T T':Ι)(t:Ty)(s x:bK):Option cO:=
 match P.underlying T,s,x with
 |some (.slice e),.one s,.one (.all j)=>(match P.info? e,lk j m with
  |some i,some (.seq p o)=>bif ((Β T T'&&Β i.size t.size)&&(ϩ i.bytes 32768&&i.zero.isSome))&&(i.zero.map λz=>Β z.cells.size t.size).getD false then
   (if h:p=t then (match s with
    | .bH=>some ⟨.one (.all nx),[(nx,.seq t ([]++cR (a:= .sl p) (b:= .sl t) (congrArg Ty.sl h) o))],[(j,.gone)],[0+ζ o<=bD]⟩
    | .all c=>(match lk c m with
     |some (.seq r I)=>if J:r=t then (bif !(Β c j) then
      some ⟨.one (.all nx),[(nx,.seq t ((show List t.D from cR (a:= .sl r) (b:= .sl t) (congrArg Ty.sl J) I)++cR (a:= .sl p) (b:= .sl t) (congrArg Ty.sl h) o))],[(c,.gone),(j,.gone)],[ζ I+ζ o<=bD]⟩ else none) else none
     |_=>none)
    |_=>none) else none) else none
  |_,_=>none)
 |_,_,_=>none
def qf (P:Ο)(m:Mem)(nx:Nat)(T T':Ι)(t:Ty)(s x:bK):Option cO:=
 bif t.top then sb P m nx T T' t s x else Ad P m nx T T' t s x
def sD (P:Ο)(m:Mem)(nx:Nat)(T:Ι)(t:Ty)(len:Nat)(parts:List (Nat×bK)):Option cO:=
 match P.underlying T,parts with
 |some (.slice e),[(0,v)]=>bif (dm P e==some t.size&&(((P.info? e).bind (·.zero)).map λz=>Β z.cells.size t.size)==some true)&&(Β len 1&&ϩ t.size 65536)&&v.ok then
  (match mr m t v.cells with
  |some ((x,j),[])=>bif j7 j then some ⟨.one (.all nx),[(nx,.seq t [x])],j.map λk=>(k,.gone),[]⟩ else none
  |_=>none) else none
 |_,_=>none
def sE (P:Ο)(m:Mem)(nx:Nat)(T:Ι)(t:Ty)(len:Nat)(parts:List (Nat×bK)):Option cO:=
 bif t.top then rB P nx T t len parts else sD P m nx T t len parts
section
variable {S S':Nat->Prop} {w w':Ε}
theorem dw.nJ: ∀(t:Ty) {γ:List Nat->Option Nat} {o:Nat} {cs:List π} {x:t.D},dw S w t γ o cs x-> ∀v∈cs,v.oneCell'=true
 | .own t,γ,o,cs,R,⟨v,e,r,_⟩=>by
  subst e;intro u p;simp only [List.mem_singleton] at p;subst p;unfold jb at r;split at r;obtain ⟨a,rfl⟩:=r;rfl;obtain ⟨cap,arr,rfl,_⟩:=r;rfl
 | .pair a b,γ,o,cs,x,⟨T,U,e,I,J⟩=>by
  subst e;intro u p;rcases Λ.1 p with p|p
  exact dw.nJ a I u p;exact dw.nJ b J u p
 | .st t,γ,o,cs,x,j=>dw.nJ t (o:=o) (cs:=cs) (x:=x) j
 | .int k,_,_,cs,x,j=>afD (.int k) j
 | .dP k,_,_,cs,x,j=>afD (.dP k) j
 | .bool,_,_,cs,x,j=>afD .bool j
 | .str,_,_,cs,x,j=>afD .str j
 | .sl t,_,_,cs,x,j=>afD (.sl t) j
 | .bx t,_,_,cs,x,j=>afD (.bx t) j
 | .cl f t,_,_,cs,x,j=>afD (.cl f t) j
theorem eU.nJ {γ:List Nat->Option Nat}{t:Ty}{xs:List t.D}{arr:Array π}(h:eU S w γ t xs arr){k:Nat}{u:π}(U:k<xs.length*t.size)(J:arr[k]? =some u):u.oneCell'=true:=by
 have o:=t.size_pos;have R:k/t.size<xs.length:=Nat.div_lt_of_lt_mul (by rw [aaB];omega);obtain ⟨es,T,r⟩:=h (k/t.size) R;have I:k%t.size<es.length:=by rw [ahh t r];exact abq _ o
 have j:=T (k%t.size) _ (Γ I);have p:k/t.size*t.size+k%t.size=k:=by rw [aaB];exact Nat.div_add_mod k t.size
 rw [p,J] at j;injection j with j;rw [j];exact dw.nJ t r _ (List.getElem_mem I)
theorem eU.nil {γ:List Nat->Option Nat}{t:Ty}{arr:Array π}:eU S w γ t ([]:List t.D) arr:=λi j=>by simp at j
theorem eU.glue {γ γ1 r:List Nat->Option Nat}{t:Ty}{xs ys:List t.D}{arr1 J o:Array π}(h1:eU S w γ1 t xs arr1)(h2:eU S w r t ys J)(k: ∀b,S b->S' b/\w'.heap[b]? =w.heap[b]?)(e1: ∀i p,i<xs.length->γ (i::p)=γ1 (i::p))(e2: ∀i p,γ ((xs.length+i)::p)=r (i::p))(q1: ∀i p b,γ1 (i::p)=some b->w'.heap[b]? =w.heap[b]?)(q2: ∀i p b,r (i::p)=some b->w'.heap[b]? =w.heap[b]?)(a1: ∀j v,j<xs.length*t.size->arr1[j]? =some v->o[j]? =some v)(a2: ∀j v,j<ys.length*t.size->J[j]? =some v->o[xs.length*t.size+j]? =some v):eU S' w' γ t (xs++ys) o:=by
 intro i hi;by_cases U:i<xs.length;obtain ⟨es,k1,R⟩:=h1 i U;refine ⟨es,λj v T=>a1 _ v ?_ (k1 j v T),?_⟩;have hj:j<t.size:=by rw [<-ahh t R];exact (ω.1 T).1
 have:(i+1)*t.size<=xs.length*t.size:=Τ _ U;rw [agf] at this;omega;rw [aeH U,show (λp=>γ (i::p))=λp=>γ1 (i::p) from funext λp=>e1 i p U];exact agv k t (λp b hp=>q1 i p b hp) R;obtain ⟨I,rfl⟩: ∃I,i=xs.length+I:=⟨i - xs.length,by omega⟩;have hy:I<ys.length:=by rw [ξ] at hi;omega
 obtain ⟨es,k1,R⟩:=h2 I hy;refine ⟨es,λj v T=> ?_,?_⟩;have hj:j<t.size:=by rw [<-ahh t R];exact (ω.1 T).1
 have:(I+1)*t.size<=ys.length*t.size:=Τ _ hy;rw [agf] at this;have:=a2 _ v (by omega) (k1 j v T);rw [ϓ,Ϡ];exact this;rw [aez (by omega),show (λp=>γ ((xs.length+I)::p))=λp=>r (I::p) from funext λp=>e2 I p];simp only [aaG];exact agv k t (λp b hp=>q2 I p b hp) R
end
section
variable {cx:Cx} {g:GM} {st:St} {a:Act} {w w':Ε}
def V7 (o:Option Nat)(n:Nat)(γ1 j:List Nat->Option Nat):List Nat->Option Nat
 |[]=>o
 |i::p=>if i<n then γ1 (i::p) else j ((i - n)::p)
def ux (g:GM)(m up:Mem)(γ:List Nat->Option Nat):Prop:= ∀p b,γ p=some b-> ∃c q j,lk c up=some .gone/\lk c m=some j/\j.owns q/\g.f c q=some b
def V8 (w':Ε)(t:Ty)(xs ys:List t.D)(arr1 p:Array π):Option Nat->Prop
 |none=>xs++ys=[]
 |some b=> ∃o,dA w' b o/\(∀j v,j<xs.length*t.size->arr1[j]? =some v->o[j]? =some v)/\(∀j v,j<ys.length*t.size->p[j]? =some v->o[xs.length*t.size+j]? =some v)
theorem ph.glue {e:cO}{up:Mem}{t:Ty}{xs ys:List t.D}{γ1 R:List Nat->Option Nat}{o:Option Nat}{val:π}{F0:List Nat}{arr1 D9:Array π}(h:cT cx g st a w)(hw:fw st.mem e.new)(he:e.new=[(st.nx,.seq t (xs++ys))]/\e.lq=up/\e.val= .one (.all st.nx))(ui:AK st.mem up)(h1:ux g st.mem up γ1)(h2:ux g st.mem up R)(i1: ∀p q b,γ1 p=some b->γ1 q=some b->p=q)(i2: ∀p q b,R p=some b->R q=some b->p=q)(dj: ∀p q b,γ1 p=some b->R q=some b->False)(ho: ∀b,o=some b->γ1 []=some b\/(w.heap.size<=b/\b<w'.heap.size))(hk:bU F0 w w')(hF: ∀b∈F0,γ1 []=some b/\o=some b)(e1:eU (cx.safe g st.mem w) w γ1 t xs arr1)(e2:eU (cx.safe g st.mem w) w R t ys D9)(T:V8 w' t xs ys arr1 D9 o)(hv:jb o w' t.size (xs++ys).length val):ph cx st a e val w':=by
 classical
 have ub:lk st.nx st.mem=none:=hw (st.nx,.seq t (xs++ys)) (by rw [he.1];simp);have ab: ∀p b,γ1 p=some b->b<w.heap.size:=λp b hp=>by
  obtain ⟨c,q,LD,_,q2,q3,q4⟩:=h1 p b hp;exact h.lt c q LD b q2 q3 q4
 have V9: ∀p b,R p=some b->b<w.heap.size:=λp b hp=>by
  obtain ⟨c,q,LD,_,q2,q3,q4⟩:=h2 p b hp;exact h.lt c q LD b q2 q3 q4
 let γ:=V7 o xs.length γ1 R;have I: ∀i p b,γ (i::p)=some b->(i<xs.length/\γ1 (i::p)=some b)\/(xs.length<=i/\R ((i - xs.length)::p)=some b):=λi p b hp=>by
  have hp:(if i<xs.length then γ1 (i::p) else R ((i - xs.length)::p))=some b:=hp;split at hp;exact .inl ⟨by assumption,hp⟩;exact .inr ⟨by omega,hp⟩
 let G:=(abD w.heap.size).filter λb=>decide (∃p,γ p=some b);have NZ: ∀b,b∈G↔b<w.heap.size/\ ∃p,γ p=some b:=λb=>by simp [G]
 have hFG: ∀b,b∈F0->b∈G:=λb T=>(NZ b).2 ⟨ab _ b (hF b T).1,[],(hF b T).2⟩;have Wa:bU G w w':=⟨hk.os,hk.tape,hk.output,hk.size,λb T hn=>hk.block b T λhf=>hn (hFG b hf),hk.sz⟩;have Y1: ∀b,b<w.heap.size->b ∉ F0->w'.heap[b]? =w.heap[b]? :=hk.block;obtain ⟨g',Ej,hs⟩:=h.newAt (ch:= .seq t (xs++ys)) (γ:=γ) ub ui Wa (λb T=>by
  obtain ⟨hlt,p,hp⟩:=(NZ b).1 T;cases p with
  |nil=>
   rcases ho b hp with J|J
   exact h1 _ b J;omega
  |cons i p=>
   rcases I i p b hp with ⟨_,J⟩|⟨_,J⟩
   exact h1 _ b J;exact h2 _ b J)
  (λp b hp=>by
   have hlt:b<w'.heap.size:=by
    cases p with
    |nil=>
     rcases ho b hp with J|J
     exact ϕ (ab _ b J) hk.size;exact J.2
    |cons i p=>
     rcases I i p b hp with ⟨_,J⟩|⟨_,J⟩
     exact ϕ (ab _ b J) hk.size;exact ϕ (V9 _ b J) hk.size
   refine ⟨hlt,?_⟩;by_cases T:b<w.heap.size;exact .inr ((NZ b).2 ⟨T,p,hp⟩);exact .inl (by omega))
  (λp q b hp hq=>by
   have key: ∀i r,γ (i::r)=some b->o=some b->False:=λi r hr RL=>by
    rcases I i r b hr with ⟨_,J⟩|⟨_,J⟩
    rcases ho b RL with U|U
    cases i1 _ _ b J U;have:=ab _ b J;omega;rcases ho b RL with U|U
    exact dj _ _ b U J;have:=V9 _ b J;omega
   cases p with
   |nil=>
    cases q with
    |nil=>rfl
    |cons j q=>exact (key j q hq hp).elim
   |cons i p=>
    cases q with
    |nil=>exact (key i p hp hq).elim
    |cons j q=>
     rcases I i p b hp with ⟨l1,J⟩|⟨l1,J⟩
     rcases I j q b hq with ⟨l2,U⟩|⟨l2,U⟩
     exact i1 _ _ b J U;exact (dj _ _ b J U).elim;rcases I j q b hq with ⟨l2,U⟩|⟨l2,U⟩
     exact (dj _ _ b U J).elim;have:=i2 _ _ b J U;injection this with a1 a2;rw [a2,show i=j from by omega])
  (λg' m' S' hS=>by
   show jk g' m' S' w' γ (.seq t (xs++ys));unfold jk;have Pa:γ []=o:=rfl;rw [Pa];cases Eu:o with
   |none=>rw [Eu] at T;show xs++ys=[];exact T
   |some b=>
    rw [Eu] at T;obtain ⟨eB,Gg,s7,Ae⟩:=T;refine ⟨eB,Gg,eU.glue e1 e2 hS (λi p hi=>if_pos hi) (λi p=> ?_) (λi p b' hp=>Y1 b' (ab _ b' hp) λhf=> ?_) (λi p b' hp=>Y1 b' (V9 _ b' hp) λhf=> ?_) s7 Ae⟩;show (if xs.length+i<xs.length then γ1 ((xs.length+i)::p) else R ((xs.length+i - xs.length)::p))=_;rw [if_neg (by omega),aaG];cases i1 _ _ b' hp (hF b' hf).1;exact dj _ _ b' (hF b' hf).1 hp)
 refine ⟨g',?_,?_⟩;rw [he.1,he.2.1];exact hs;rw [he.1,he.2.1,he.2.2];have hl:lk st.nx (up++[(st.nx,.seq t (xs++ys))]++st.mem)=some (.seq t (xs++ys)):=by
  rw [ό,cF];cases hu:lk st.nx up with
  |none=>simp [bO]
  |some c0=>exact absurd ub (ui.lk hu).2
 refine ⟨by rw [hl];simp,?_,λt' iy aa=> ?_⟩;unfold jb at hv;cases o with
 |none=>obtain ⟨a,rfl⟩:=hv;rfl
 |some b=>obtain ⟨cap,arr,rfl,_⟩:=hv;rfl
 have aa:=ad3 hl aa;rw [hl] at aa;injection aa with aa;injection aa with ht LQ;subst ht;have LQ:=eq_of_heq LQ;subst LQ;rw [show g' st.nx=o from by show g'.f st.nx []=o;rw [Ej];rfl];exact hv
theorem Gh (h:cT cx g st a w){c:Nat}{t:Ty}{xs:List t.D}{v:π}(I:lk c st.mem=some (.seq t xs))(T:CR g st.mem (cx.safe g st.mem w) w (.all c) v):
 (xs=[]/\g.f c []=none/\ ∃U,v= .slice U 0 0)\/ ∃b cap arr,g.f c []=some b/\v= .slice (some ⟨b,0,none⟩) xs.length cap/\xs.length<=cap/\dA w b arr/\cap*t.size<=arr.size/\cap<=maxLen/\eU (cx.safe g st.mem w) w (g.f c) t xs arr:=by
 have j:=h.mem c _ I;unfold jk at j;have o:=T.2.2 t xs (.inl I);cases r:g.f c [] with
 |none=>
  rw [r] at j;have o:jb (g.f c []) w t.size xs.length v:=o;rw [r] at o;exact .inl ⟨j,rfl,o⟩
 |some b=>
  rw [r] at j;have o:jb (g.f c []) w t.size xs.length v:=o;rw [r] at o;obtain ⟨arr,J,p⟩:=j;obtain ⟨cap,R,e,q1,q2,q3,q4⟩:=o;have:=dA.eq J q2;subst this;exact .inr ⟨b,cap,arr,rfl,e,q1,J,q3,q4,p⟩
theorem IX (h:cT cx g st a w){c:Nat}{t:Ty}{xs:List t.D}{v:π}(hl:lk c st.mem=some (.seq t xs))(hr:CR g st.mem (cx.safe g st.mem w) w (.all c) v):
 ∃(U:Option Addr) (I:Nat) (o:List π) (arr:Array π),v= .slice U xs.length I/\o.length=xs.length*t.size/\(xs.length=0\/ ∃ad,U=some ad/\ ∀j u,o[j]? =some u->w.cell? (ad.add j)=some u)/\
  eU (cx.safe g st.mem w) w (g.f c) t xs arr/\(∀j u,j<xs.length*t.size->arr[j]? =some u->o[j]? =some u)/\ ∀u∈o,u.oneCell'=true:=by
 rcases Gh h hl hr with ⟨rfl,_,ab,rfl⟩|⟨b,cap,arr,hg,rfl,hn,hb,J,_,r⟩
 exact ⟨ab,0,[],#[],rfl,by simp,.inl rfl,eU.nil,λj u R=>by simp at R,λu p=>by simp at p⟩;have hle:xs.length*t.size<=arr.size:=ϫ (Τ _ hn) J;refine ⟨_,cap,arr.toList.take (xs.length*t.size),arr,rfl,by simp;omega,.inr ⟨_,rfl,λj u p=> ?_⟩,r,λj u R p=> ?_,λu p=> ?_⟩;rw [cw,Ψ,hb.cell];rw [ϒ] at p;split at p;simpa using p;cases p;rw [ϒ,if_pos R];simpa using p;obtain ⟨k,hk,e⟩:=List.getElem_of_mem p;have T:k<xs.length*t.size:=by simp at hk;omega
 refine r.nJ T ?_;rw [<-e,List.getElem_take,Array.getElem_toList,aal]
theorem vl (h:cT cx g st a w){c:Nat}{t:Ty}{xs:List t.D}{up:Mem}(j:lk c st.mem=some (.seq t xs))(o:lk c up=some .gone):ux g st.mem up (g.f c):=
 λp _ hp=>⟨c,p,_,o,j,trivial,hp⟩
theorem CH {T T':Ι}{ty:Ι}{t:Ty}{s x:bK}{e:cO}{sv xv:π}(h:cT cx g st a w)(hw:fw st.mem e.new)(r:Ad cx.P st.mem st.nx T T' t s x=some e)(hc:cp e.cond)(hs:VR g st.mem (cx.safe g st.mem w) w s sv)(hx:VR g st.mem (cx.safe g st.mem w) w x xv):gG cx st a w (Ϟ #[T,T'] ty #[sv,xv]) e:=by
 unfold Ad at r;split at r;rename_i el s J hu;split at r;rename_i i t2 ys hi I;cases hb:(((Β T T'&&Β i.size t.size)&&(ϩ i.bytes 32768&&i.zero.isSome))&&(i.zero.map λz=>Β z.cells.size t.size).getD false) with
 |false=>rw [hb] at r;cases r
 |true=>
  rw [hb] at r;simp only [cond_true] at r;simp only [κ] at hb;obtain ⟨⟨⟨hT,nK⟩,Ck,Sj⟩,F7⟩:=hb;have hT:=cg hT;subst hT;have nK:=cg nK;have Ck:=jd Ck;obtain ⟨z,hz⟩:=abH.1 Sj;rw [hz] at F7;have F7:z.cells.size=t.size:=cg (by simpa using F7);split at r;rename_i ht;subst ht;obtain ⟨ax,zj,news,D9,rfl,D1,LB,ae,sU,Wc⟩:=IX h I hx;have Pb:news.length=ys.length*i.size:=by rw [nK];exact D1
  have grow: ∀(base:Option Addr) (cap:Nat) (xs:List t2.D) (γ1:List Nat->Option Nat) (arr1:Array π) (R:List π) (up:Mem) (cond:List Prop),xs.length+ys.length<=4294967296->R.length=xs.length*i.size->(xs.length=0\/ ∃ad,base=some ad/\ ∀j v,R[j]? =some v->w.cell? (ad.add j)=some v)->
   (∀j v,j<xs.length*t2.size->arr1[j]? =some v->R[j]? =some v)->eU (cx.safe g st.mem w) w γ1 t2 xs arr1->AK st.mem up->ux g st.mem up γ1->ux g st.mem up (g.f J)->
   (∀p q b,γ1 p=some b->γ1 q=some b->p=q)->(∀p q b,γ1 p=some b->g.f J q=some b->False)->cap<xs.length+ys.length->fw st.mem [(st.nx,Chunk.seq t2 (xs++ys))]->
   gG cx st a w (Ϟ #[T,T] ty #[.slice base xs.length cap,.slice ax ys.length zj]) ⟨.one (.all st.nx),[(st.nx,.seq t2 (xs++ys))],up,cond⟩:=by
   intro base cap xs γ1 arr1 R up cond U F8 ho hcp SJ af NS ag hi1 LR hlt hw;have xy:(xs.length+ys.length)*i.bytes<=140737488355328:=by
    calc (xs.length+ys.length)*i.bytes<=4294967296*32768:=aaZ U Ck
     _=140737488355328:=by decide
   have wQ:=grownCap_ge w (xs.length+ys.length) cap el;have IC:=grownCap_le_maxLen w (xs.length+ys.length) cap el (by unfold maxLen;omega);have hr:=uf (P:=cx.P) (ty:=ty) (c:=zj) hu hi hz F8 ho Pb LB hlt xy (by omega);have xz:bU [] w (w.drew.alloc (.cells (R.toArray++news.toArray++Ϧ z.cells (grownCap w (xs.length+ys.length) cap el - (xs.length+ys.length))) el)):=
    (agx [] w).trans (acA _ _ _)
   have aa:=aer w.drew (R.toArray++news.toArray++Ϧ z.cells (grownCap w (xs.length+ys.length) cap el - (xs.length+ys.length))) el;rw [nK] at F8;refine ⟨_,_,hr,?_⟩;refine ph.glue (o:=some w.heap.size) (F0:=[]) h hw ⟨rfl,rfl,rfl⟩ af NS ag hi1 (λp q b hp hq=>(h.fY J J p q _ _ b I trivial I trivial hp hq).2) LR (λb hb=> ?_) xz (λb hb=>by simp at hb) SJ ae ⟨_,aa,λj v hj hv=> ?_,λj v hj hv=> ?_⟩ ?_;injection hb with hb;subst hb;exact .inr ⟨ς _,aa.lt⟩;have:=hcp j v hj hv;rw [afy,abz (by simp;omega)];simpa using this;have:=sU j v hj hv;rw [afy,Array.getElem?_append_right (by simp;omega),abz (by simp;omega)];simpa [F8] using this;refine ⟨grownCap w (xs.length+ys.length) cap el,_,?_,by rw [ξ];exact wQ,aa,?_,IC⟩;rw [ξ];simp only [adL,abG,size_zeroCells,F7,F8,D1,<-ϓ];exact Τ _ (by omega)
  split at r;injection r with r;subst r;have U:ys.length<=4294967296:=by have:=hc.1;unfold bD at this;omega
  have af:AK st.mem [(J,Chunk.gone)]:=λp hp=>by simp at hp;subst hp;exact ⟨rfl,by rw [I];simp⟩
  have UR:ux g st.mem [(J,Chunk.gone)] (λ_=>none):=λp b hp=>by cases hp
  have ag:ux g st.mem [(J,Chunk.gone)] (g.f J):=vl h I (by simp [bO]);obtain ⟨ab,rfl⟩:=(show∃a,sv= .slice a 0 0 from hs);by_cases hy:ys.length=0;have OT:ys=[]:=ϸ hy;subst OT;refine ⟨_,_,qC (P:=cx.P) hu hi,?_⟩;exact ph.glue (t:=t2) (xs:=[]) (ys:=[]) (o:=none) (F0:=[]) (γ1:=λ_=>none) (arr1:= #[]) h hw ⟨rfl,rfl,rfl⟩ af UR ag (λ_ _ _ hp=>by cases hp) (λp q b hp hq=>(h.fY J J p q _ _ b I trivial I trivial hp hq).2) (λ_ _ _ hp=>by cases hp) (λb hb=>by cases hb) (adn _ _) (λb hb=>by simp at hb) eU.nil ae rfl ⟨ab,rfl⟩;exact grow ab 0 [] (λ_=>none) #[] [] _ _ (by simpa using U) (by simp) (.inl rfl) (λj v hj=>by simp at hj) eU.nil af UR ag (λ_ _ _ hp=>by cases hp) (λ_ _ _ hp=>by cases hp) (by simp;omega) hw;rename_i c;split at r;rename_i t1 xs NM;split at r;rename_i Pc;subst Pc;cases SK:(!(Β c J)) with
  |false=>rw [SK] at r;cases r
  |true=>
   rw [SK] at r;simp only [cond_true] at r;injection r with r;subst r;have hw:fw st.mem [(st.nx,Chunk.seq t1 (xs++ys))]:=hw;show gG cx st a w _ (⟨.one (.all st.nx),[(st.nx,.seq t1 (xs++ys))],[(c,.gone),(J,.gone)],[ζ xs+ζ ys<=bD]⟩:cO);have iH:c≠J:=λe=>by subst e;simp at SK
   have U:xs.length+ys.length<=4294967296:=hc.1;have af:AK st.mem [(c,Chunk.gone),(J,Chunk.gone)]:=λp hp=>by
    simp at hp;rcases hp with rfl|rfl
    exact ⟨rfl,by rw [NM];simp⟩;exact ⟨rfl,by rw [I];simp⟩
   have NS:ux g st.mem [(c,Chunk.gone),(J,Chunk.gone)] (g.f c):=vl h NM (by simp [bO]);have ag:ux g st.mem [(c,Chunk.gone),(J,Chunk.gone)] (g.f J):=vl h I (by rw [bO,if_neg (λe=>iH e.symm)];simp [bO]);have US: ∀p q b,g.f c p=some b->g.f c q=some b->p=q:=λp q b hp hq=>(h.fY c c p q _ _ b NM trivial NM trivial hp hq).2;have Hf: ∀p q b,g.f J p=some b->g.f J q=some b->p=q:=λp q b hp hq=>(h.fY J J p q _ _ b I trivial I trivial hp hq).2;have LR: ∀p q b,g.f c p=some b->g.f J q=some b->False:=λp q b hp hq=>iH (h.fY c J p q _ _ b NM trivial I trivial hp hq).1;rcases Gh h NM hs with ⟨rfl,hg,ab,rfl⟩|⟨b,cap,arr,hg,rfl,hn,aa,lj,AE,mq⟩
   by_cases hy:ys.length=0;have OT:ys=[]:=ϸ hy;subst OT;refine ⟨_,_,qC (P:=cx.P) hu hi,?_⟩;exact ph.glue (t:=t1) (xs:=[]) (ys:=[]) (o:=none) (F0:=[]) (γ1:=g.f c) (arr1:= #[]) h hw ⟨rfl,rfl,rfl⟩ af NS ag US Hf LR (λb hb=>by cases hb) (adn _ _) (λb hb=>by simp at hb) eU.nil ae rfl ⟨ab,rfl⟩;exact grow ab 0 [] (g.f c) #[] [] _ _ U (by simp) (.inl rfl) (λj v hj=>by simp at hj) eU.nil af NS ag US LR (Nat.lt_of_lt_of_eq (Nat.pos_of_ne_zero hy) (Ψ _).symm) hw;have hle:xs.length*t1.size<=arr.size:=ϫ (Τ _ hn) lj;by_cases sZ:xs.length+ys.length<=cap;have xA:(xs.length+ys.length)*i.size<=arr.size:=by rw [nK];exact ϫ (Τ _ sZ) lj
   obtain ⟨w',eB,hr,rj,tu,oF,qD⟩:=ug (P:=cx.P) (ty:=ty) hu hi aa (c:=zj) Pb LB Wc sZ xA;refine ⟨_,_,hr,?_⟩;have fC: ∀k,eB[k]? =(arr.toList.take (xs.length*i.size)++news++arr.toList.drop (xs.length*i.size+news.length))[k]? :=λk=>by rw [<-tu,ϥ]
   have UT:(arr.toList.take (xs.length*t1.size)).length=xs.length*t1.size:=by simp;omega
   rw [nK] at fC;refine ph.glue (o:=some b) (F0:=[b]) h hw ⟨rfl,rfl,rfl⟩ af NS ag US Hf LR (λb' s7=>by injection s7 with s7;subst s7;exact .inl hg) oF (λb' s7=>by simp at s7;subst s7;exact ⟨hg,rfl⟩) mq ae ⟨eB,rj,λj v hj hv=> ?_,λj v hj hv=> ?_⟩ ?_;rw [fC,ό,Ν (by omega),ϒ,if_pos hj];simpa using hv;rw [fC,ό,Κ (by omega),UT,aaG,Ν (by omega)];exact sU j v hj hv;refine ⟨cap,eB,by rw [ξ],by rw [ξ];exact sZ,rj,?_,AE⟩;have:eB.size=arr.size:=by
    rw [<-Ω,tu];simp;rw [nK] at xA Pb⊢;rw [ϓ] at xA;omega
   omega;refine grow _ cap xs (g.f c) arr (arr.toList.take (xs.length*t1.size)) _ _ U (by rw [nK];simp;omega) (.inr ⟨_,rfl,λj v hv=> ?_⟩) (λj v hj hv=> ?_) mq af NS ag US LR (by omega) hw;rw [cw,Ψ,aa.cell];rw [ϒ] at hv;split at hv;simpa using hv;cases hv;rw [ϒ,if_pos hj];simpa using hv
  cases r;cases r;cases r;cases r
 cases r;cases r
def Wd (g:GM)(b:Nat)(cells:List bI):List Nat->Option Nat
 |[]=>some b
 |i::o::r=>if i=0 then (match cells[o]? with
  |some (.all k)=>g.f k r
  |_=>none) else none
 |_=>none
theorem zu {T:Ι}{t:Ty}{len:Nat}{parts:List (Nat×bK)}{vparts:Array (Nat×π)}{e:cO}(h:cT cx g st a w)(hw:fw st.mem e.new)(he:sD cx.P st.mem st.nx T t len parts=some e)(hp:cc (λ(p:Nat×bK) (q:Nat×π)=>p.1=q.1/\VR g st.mem (cx.safe g st.mem w) w p.2 q.2) parts vparts.toList):gG cx st a w (Ϲ T len vparts) e:=by
 classical
 unfold sD at he;split at he;rename_i el v hu;cases hb:((dm cx.P el==some t.size&&(((cx.P.info? el).bind (·.zero)).map λz=>Β z.cells.size t.size)==some true)&&(Β len 1&&ϩ t.size 65536)&&v.ok) with
 |false=>rw [hb] at he;cases he
 |true=>
  rw [hb] at he;simp only [cond_true] at he;simp only [κ,beq_iff_eq] at hb;obtain ⟨⟨⟨hs,hz⟩,hn,OU⟩,zk⟩:=hb;have hn:=cg hn;have OU:=jd OU;subst hn;split at he;rename_i x ks Y2;cases uq:j7 ks with
  |false=>rw [uq] at he;cases he
  |true=>
   rw [uq] at he;simp only [cond_true] at he;injection he with he;subst he;have uq:=iB uq;obtain ⟨va,hvp,hva⟩: ∃va,vparts.toList=[(0,va)]/\VR g st.mem (cx.safe g st.mem w) w v va:=by
    cases hq:vparts.toList with
    |nil=>rw [hq] at hp;exact hp.elim
    |cons q r=>
     rw [hq] at hp;obtain ⟨⟨h1,h2⟩,h3⟩:=hp;cases r with
     |nil=>
      obtain ⟨j,va⟩:=q;have h1:0=j:=h1;subst h1;exact ⟨va,rfl,h2⟩
     |cons=>exact h3.elim
   have ub:lk st.nx st.mem=none:=hw (st.nx,.seq t [x]) (by simp);obtain ⟨vs,sT,gF⟩:=jN zk hva;obtain ⟨c1,hcs,Pd,SL,aa⟩:=vS t Y2;rw [ϲ] at hcs;have nv:va.cells.size=t.size:=by rw [<-Ω,sT,<-gF.length,hcs,Pd]
   cases hi:cx.P.info? el with
   |none=>simp [dm,hi] at hs
   |some i=>
    rw [hi] at hz;simp only [η] at hz;cases OV:i.zero with
    |none=>simp [OV] at hz
    |some z=>
     rw [OV] at hz;have hz:Β z.cells.size t.size=true:=by simpa using hz
     have hz:=cg hz;have Y3:=t.size_pos;let base:Array π:=(aci t.size).map λk=>z.cells[k%z.cells.size]!;have VF:base.size=t.size:=by simp [base]
     let I:Array π:=va.cells.zipIdx.foldl (λcs (p:π×Nat)=>cs.setIfInBounds (0+p.2) p.1) base;have z8:I.toList=va.cells.toList:=by
      have:=sj 0 va.cells.toList 0 base (by rw [Ω];omega);show (va.cells.zipIdx.foldl (λcs (p:π×Nat)=>cs.setIfInBounds (0+p.2) p.1) base).toList=_;rw [<-Array.foldl_toList,Array.toList_zipIdx];have h2:base.toList.drop (0+va.cells.toList.length)=[]:=aeZ (by rw [Ω,Ω];omega);refine this.trans ?_;rw [h2];simp
     have vg:(Ϲ T 1 vparts).run cx.P w= .ok (.slice (some ⟨w.heap.size,0,none⟩) 1 1) (w.alloc (.cells I el)):=by
      have We: ¬(16777216<t.size):=by omega
      have h0: ¬(t.size=0):=by omega
      have e1:abj (λj=>some (j*t.size,t.size)) base vparts.toList=some I:=by
       rw [hvp];simp only [abj];rw [if_neg (by simp;omega)];simp [I]
      have Y4:abj (λj=>some (j*t.size,t.size)) ((aci (1*t.size)).map λk=>z.cells[k%z.cells.size]!) vparts.toList=some I:=by
       rw [Nat.one_mul];exact e1
      simp only [Ϲ,Ϛ,run_underlying hu,ϋ,cN hs];simp [h0,We,zeroValue,typeInfo,hi,OV] at Y4⊢;simp [Y4,newRow]
     refine ⟨_,_,vg,?_⟩;have hblk:=aer w I el;have J:bU [] w (w.alloc (.cells I el)):=acA _ _ _;let γ:=Wd g w.heap.size v.cells;let up:Mem:=ks.map λk=>(k,Chunk.gone);have Wf: ∀k,k∈ks->lk k up=some .gone:=λk R=>by
      have:=CC (k:=k) (m:=[]) (ls:=ks);rw [ϲ,if_pos R] at this;exact this
     have ui:AK st.mem up:=λp hp=>by
      obtain ⟨k,R,rfl⟩:=Ϣ.1 hp;obtain ⟨t',iy,e1⟩:=aa k R;exact ⟨rfl,by rw [e1];simp⟩
     have U: ∀i p b,γ (i::p)=some b->i=0/\ ∃o r k,p=o::r/\v.cells[o]? =some (.all k)/\g.f k r=some b:=λi p b hp=>by
      cases p with
      |nil=>cases hp
      |cons o r=>
       have hp:(if i=0 then (match v.cells[o]? with
        |some (.all k)=>g.f k r
        |_=>none) else none)=some b:=hp
       split at hp;rename_i hi;split at hp;rename_i k R;exact ⟨hi,o,r,k,rfl,R,hp⟩;cases hp;cases hp
     have Cr: ∀(o k:Nat),v.cells[o]? =some (bI.all k)->k∈ks:=λo k R=>by
      rw [SL];rw [hcs] at R;exact oq R
     have hlt: ∀i p b,γ (i::p)=some b->b<w.heap.size:=λi p b hp=>by
      obtain ⟨_,o,r,k,_,R,hg⟩:=U i p b hp;obtain ⟨t',iy,e1⟩:=aa k (Cr o k R);exact h.lt k r _ b e1 trivial hg
     let G:=(abD w.heap.size).filter λb=>decide (∃p,γ p=some b);have NZ: ∀b,b∈G↔b<w.heap.size/\ ∃p,γ p=some b:=λb=>by simp [G]
     have Wa:bU G w (w.alloc (.cells I el)):=⟨J.os,J.tape,J.output,J.size,λb hb _=>J.block b hb (by simp),J.sz⟩;obtain ⟨g',Ej,IY⟩:=h.newAt (ch:= .seq t [x]) (γ:=γ) ub ui Wa (λb hb=>by
      obtain ⟨hl,p,hp⟩:=(NZ b).1 hb;cases p with
      |nil=>
       have hp:some w.heap.size=some b:=hp;injection hp with hp;omega
      |cons i p=>
       obtain ⟨_,o,r,k,_,R,hg⟩:=U i p b hp;have D0:=Cr o k R;obtain ⟨t',iy,e1⟩:=aa k D0;exact ⟨k,r,_,Wf k D0,e1,trivial,hg⟩)
      (λp b hp=>by
       cases p with
       |nil=>
        have hp:some w.heap.size=some b:=hp;injection hp with hp;subst hp;exact ⟨hblk.lt,.inl (ς _)⟩
       |cons i p=>
        have:=hlt i p b hp;exact ⟨ϕ this J.size,.inr ((NZ b).2 ⟨this,_,hp⟩)⟩)
      (λp q b hp hq=>by
       cases p with
       |nil=>
        cases q with
        |nil=>rfl
        |cons j q=>
         have hp:some w.heap.size=some b:=hp;injection hp with hp;have:=hlt j q b hq;omega
       |cons i p=>
        cases q with
        |nil=>
         have hq:some w.heap.size=some b:=hq;injection hq with hq;have:=hlt i p b hp;omega
        |cons j q=>
         obtain ⟨e1,o,r,k,rfl,R,hg⟩:=U i p b hp;obtain ⟨e2,o',r',k',rfl,oF,oE⟩:=U j q b hq;obtain ⟨t1,UU,f1⟩:=aa k (Cr o k R);obtain ⟨t2,xs2,f2⟩:=aa k' (Cr o' k' oF);obtain ⟨g1,g2⟩:=h.fY k k' r r' _ _ b f1 trivial f2 trivial hg oE;subst g1 g2 e1 e2;have:o=o':=uv (cs:=v.cells) (by rw [hcs,<-SL];exact uq) R oF;rw [this])
      (λg' m' S' hS=>by
       show jk g' m' S' (w.alloc (.cells I el)) γ (.seq t [x]);refine ⟨I,hblk,λq hq=> ?_⟩;have V0:q=0:=by simp at hq;exact hq
       subst V0;obtain ⟨v1,v2,ev,sh,Sn⟩:=Hs h.mem (S2:=cx.safe g st.mem w) (λ_ hb=>hb) t (γ:=λp=>γ (0::p)) (o:=0) Y2 gF (λq hq k R p=>by
        show (if 0=0 then (match v.cells[0+q]? with
         |some (.all k)=>g.f k p
         |_=>none) else none)=_
        rw [if_pos rfl,Ψ,R]) (λq hq R=>by
        show (if 0=0 then (match v.cells[0+q]? with
         |some (.all k)=>g.f k []
         |_=>none) else none)=_
        rw [if_pos rfl,Ψ,R])
       have:v2=[]:=by cases v2 with|nil=>rfl|cons=>exact Sn.elim
       subst this;rw [ϲ] at ev;subst ev;refine ⟨vs,λj u hu=> ?_,agv hS t (λp b hp=>J.block b (hlt _ _ b hp) (by simp)) sh⟩;rw [abf,Ψ,<-ϥ,z8,sT];exact hu)
     refine ⟨g',IY,?_⟩;have hl:lk st.nx (up++[(st.nx,.seq t [x])]++st.mem)=some (.seq t [x]):=by
      rw [ό,cF];cases hq:lk st.nx up with
      |none=>simp [bO]
      |some c0=>exact absurd ub (ui.lk hq).2
     refine ⟨by rw [hl];simp,rfl,λt' iy tu=> ?_⟩;have tu:=ad3 hl tu;rw [hl] at tu;injection tu with tu;injection tu with ht LQ;subst ht;have LQ:=eq_of_heq LQ;subst LQ;rw [show g' st.nx=some w.heap.size from by show g'.f st.nx []=_;rw [Ej];rfl];refine ⟨1,I,rfl,ς _,hblk,?_,by unfold maxLen;omega⟩;rw [<-Ω,z8,Ω,nv];omega
  cases he
 cases he
theorem xN {T T':Ι}{ty:Ι}{t:Ty}{s x:bK}{e:cO}{o p:π}(h:cT cx g st a w)(r:fw st.mem e.new)(j:qf cx.P st.mem st.nx T T' t s x=some e)(I:cp e.cond)(J:VR g st.mem (cx.safe g st.mem w) w s o)(R:VR g st.mem (cx.safe g st.mem w) w x p):gG cx st a w (Ϟ #[T,T'] ty #[o,p]) e:=by
 unfold qf at j;cases ht:t.top with
 |true=>rw [ht] at j;exact zi h r j I J R
 |false=>rw [ht] at j;exact CH h r j I J R
theorem zw {T:Ι}{t:Ty}{len:Nat}{parts:List (Nat×bK)}{vparts:Array (Nat×π)}{e:cO}(h:cT cx g st a w)(o:fw st.mem e.new)(j:sE cx.P st.mem st.nx T t len parts=some e)(hp:cc (λ(p:Nat×bK) (q:Nat×π)=>p.1=q.1/\VR g st.mem (cx.safe g st.mem w) w p.2 q.2) parts vparts.toList):gG cx st a w (Ϲ T len vparts) e:=by
 unfold sE at j;cases ht:t.top with
 |true=>rw [ht] at j;exact uj h o j hp
 |false=>rw [ht] at j;exact zu h o j hp
end
end Go.Ide
namespace Go.Ide
def IZ (fr:Fr):List aah->Option (List bK)
 |[]=>some []
 |x::r=>match ev fr x,IZ fr r with
  |some v,some l=>some (v::l)
  |_,_=>none
def Lm (fr:Fr):Option aah->Option (Option bK)
 |none=>some none
 |some x=>match ev fr x with
  |some v=>some (some v)
  |none=>none
def CI (P:Ο)(m:Mem)(T:Ι)(x:bK):Option cO:=
 match P.underlying T,x with
 |some .string,.one (.bG .str _)=>tk m x
 |some (.slice _),.one (.bG (.sl _) _)=>tk m x
 |some (.slice _),.one (.all _)=>tk m x
 |some (.slice _),.one (.ref _ _ _)=>tk m x
 |some (.slice _),.one (.row _ _ _)=>tk m x
 |some (.slice _),.one .bH=>tk m x
 |_,_=>none
def AW (P:Ο)(T:Ι)(x i:bK):Option cO:=
 match P.underlying T,x,i with
 |some .string,.one (.bG .str s),.one (.bG (.int _) n)=>
  fQ (.one (.bG (.int .u8) ((((ε s (δ n) 0:UInt8).toNat:Nat)):Int))) [(0:Int)<=n/\n<((ζ s:Nat):Int)]
 |_,_,_=>none
def Pe (x:bK):Option cO:=
 match x with
 | .one (.ptr c off)=>cM (.one (.ptr c off))
 | .one (.ip t y off)=>cM (.one (.ip t y off))
 | .one (.dn c i p off)=>cM (.one (.dn c i p off))
 | .one (.zf c i o j p off)=>cM (.one (.zf c i o j p off))
 |_=>none
def I0 (x y z:bK):Option cO:=
 match x,y,z with
 | .one (.bG (.int k) a),.one (.bG (.int j) b),.one (.bG (.int o) c)=>if k=j/\k=o then cM (.one (.bG (.int k) (if c<(if b<a then b else a) then c else if b<a then b else a))) else none
 |_,_,_=>none
theorem CJ {P:Ο}{g:GM}{m:Mem}{S:Nat->Prop}{w:Ε}{x y z:bK}{e:cO}{j o p:π}{Ts:Array Ι}{T:Ι}(h:I0 x y z=some e)(t:VR g m S w x j)(I:VR g m S w y o)(J:VR g m S w z p):bR P g m S w (acY Ts T #[j,o,p]) e:=by
 unfold I0 at h;split at h;rename_i k a k' b k2 c;split at h;rename_i R;obtain ⟨rfl,rfl⟩:=R;have U:=dV (g:=g) (m:=m) (S:=S) (w:=w) t;have h2:=dV (g:=g) (m:=m) (S:=S) (w:=w) I;have h3:=dV (g:=g) (m:=m) (S:=S) (w:=w) J;subst U;subst h2;subst h3;refine bR.mk (bP h) (r:= .int k (if c<(if b<a then b else a) then c else if b<a then b else a)) ?_ rfl;by_cases q:b<a<;>simp [acY,agy,q];cases h;cases h
def qg (P:Ο)(fr:Fr)(m:Mem)(nx:Nat)(h:Hint)(b:Builtin)(args:List aah)(ts:List Ι):Option cO:=
 match b,args,ts with
 | .len,[x],[T]=>(match ev fr x with
  |some v=>CI P m T v
  |none=>none)
 | .append,[s,x],[T,r]=>(match h,ev fr s,ev fr x with
  | .ty t,some p,some j=>qf P m nx T r t p j
  | .no,some p,some j=>qd P m nx T r p j
  | .Io t,some p,some j=>xI P nx T r t p j
  |_,_,_=>none)
 | .min,[x,y],_=>(match ev fr x,ev fr y with
  |some j,some o=>(match UO false j o with
   |some e=>some e
   |none=>OJ j o)
  |_,_=>none)
 | .min,[x,y,z],_=>(match ev fr x,ev fr y,ev fr z with
  |some j,some o,some I=>I0 j o I
  |_,_,_=>none)
 | .max,[x,y],_=>(match ev fr x,ev fr y with
  |some j,some o=>(match UO true j o with
   |some e=>some e
   |none=>OL j o)
  |_,_=>none)
 | .copy,[x,y],[T,_]=>(match ev fr x,ev fr y with
  |some j,some o=>Ab P m T j o
  |_,_=>none)
 | .cap,[x],[T]=>(match ev fr x,P.underlying T with
  |some (.one .bH),some (.slice _)=>cM (.one (.bG (.int .i64) (0:Int)))
  |_,_=>none)
 |_,_,_=>none
def SM (f:aaF)(vs:List bK):Option cO:=
 match vs with
 |[.one (.ip t x 0)]=>cM (.one (.ji f t x))
 |_=>none
def Ty.vm:Ty->Bool
 | .pair _ _=>true
 |_=>false
def LS:List bK->Option TD
 |[]=>none
 | .one (.ip t x 0)::r=>(match r with
  |[]=>bif t.vm then none else some ⟨t,x⟩
  |_=>(match LS r with
   |some d=>some ⟨.pair t d.t,(x,d.x)⟩
   |none=>none))
 |_=>none
def Y5 (f:aaF)(vs:List bK):Option cO:=
 match LS vs with
 |some d=>cM (.one (.bG (.cl f d.t) d.x))
 |none=>none
def Ht:(t:Ty)->t.D->List bK
 | .pair a b,x=> .one (.ip a x.1 0)::Ht b x.2
 |t,x=>[.one (.ip t x 0)]
def Gi (P:Ο)(k:aaF)(j:aad)(o:aaK):Prop:=
 ∀(b:Nat) (w:Ε),(callFunc k #[.float j b]).run P w= .ok (.value (.int o b)) w
def wT (P:Ο)(fr:Fr)(m:Mem)(nx:Nat)(h:Hint)(o:Ϥ):Option cO:=
 match o.op with
 | .move x=>(match ev fr x with
  |some v=>cM v
  |none=>none)
 | .assign x=>(match ev fr x with
  |some v=>cM v
  |none=>none)
 | .pick c x y=>(match ev fr c with
  |some (.one (.bG .bool b))=>(match ev fr (bif b then x else y) with
   |some v=>cM v
   |none=>none)
  |_=>none)
 | .alloc T=>(match h with
  | .ty t=>AH P nx T t
  |_=>D5 P nx T)
 | .box _ x=>(match ev fr x with
  |some v=>(match h with
   | .ty t=>Iz nx t v
   |_=>Lu nx v)
  |none=>none)
 | .build T parts=>(match zc fr parts.toList with
  |some I=>D6 P T I
  |none=>none)
 | .buildSlice T len parts=>(match h,zc fr parts.toList with
  | .ty t,some I=>sE P m nx T t len I
  | .Io t,some I=>qH P nx T t len I
  | .no,some I=>D7 P T len I
  |_,_=>none)
 | .load T x=>(match ev fr x with
  |some v=>rH P m nx h T v
  |none=>none)
 | .store T x y=>(match ev fr x,ev fr y with
  |some xv,some yv=>sC P m nx h T xv yv
  |_,_=>none)
 | .nilCheck x=>(match ev fr x with
  |some v=>Pe v
  |none=>none)
 | .binOp op T x y _=>(match ev fr x,ev fr y with
  |some xv,some yv=>z6 P T op xv yv
  |_,_=>none)
 | .unOp op _ x=>(match ev fr x with
  |some v=>LM op v
  |none=>none)
 | .convert T U x=>(match ev fr x with
  |some v=>oI P m nx T U v
  |none=>none)
 | .makeSlice T l c=>(match h,ev fr l,ev fr c with
  | .ty t,some lv,some cv=>tl P nx T t lv cv
  |_,_,_=>none)
 | .slice T x lo hi none=>(match ev fr x,Lm fr lo,Lm fr hi with
  |some v,some l,some h=>tn P m T v l h
  |_,_,_=>none)
 | .slice T x lo hi (some q)=>(match ev fr x,Lm fr lo,Lm fr hi,ev fr q with
  |some v,some l,some h,some r=>AS P T v l h (some r)
  |_,_,_,_=>none)
 | .fieldAddr T x f=>(match ev fr x with
  |some v=>qy P T v f
  |none=>none)
 | .indexAddr T x i=>(match ev fr x,ev fr i with
  |some v,some j=>jA P m T v j
  |_,_=>none)
 | .index T x i=>(match ev fr x,ev fr i with
  |some v,some j=>AW P T v j
  |_,_=>none)
 | .extract x i=>(match ev fr x with
  |some v=>tZ v i
  |none=>none)
 | .makeFunc (.func f) first J=>(match IZ fr J.toList with
  |some I=>bif first.isEmpty then (match h with
   | .pg=>Y5 f I
   |_=>SM f I) else none
  |none=>none)
 | .call c=>(match c.callee with
  | .builtin b=>qg P fr m nx h b c.args.toList c.argTypes.toList
  | .value f=>(match h,ev fr f,IZ fr c.args.toList with
   | .call R rs p,some (.one (.fn k)),some I=>vP P m nx R rs p k I
   | .call R rs p,some (.one (.ji k t x)),some I=>vP P m nx R rs p k (I++[.one (.ip t x 0)])
   | .call R rs p,some (.one (.bG (.cl k t) x)),some I=>vP P m nx R rs p k (I++Ht t x)
   | .no,some (.one (.fn k)),some [.one (.bG (.dP fk) n)]=>(match P.underlying o.type with
    |some (.int ik)=>fQ (.one (.bG (.int ik) ((n:Nat):Int))) [Gi P k fk ik,n≠Hn fk]
    |_=>none)
   |_,_,_=>none)
  |_=>none)
 |_=>none
section
variable {cx:Cx} {g:GM} {st:St} {a:Act} {w:Ε}
theorem qI (h:cT cx g st a w): ∀{xs:List aah} {vs:List bK},IZ st.fr xs=some vs->cc (VR g st.mem (cx.safe g st.mem w) w) vs (xs.map a.eval)
 |[],vs,j=>by simp only [IZ] at j;injection j with j;subst j;trivial
 |x::xs,vs,j=>by
  simp only [IZ] at j;split at j;rename_i v l o p;injection j with j;subst j;exact ⟨cA h o,qI h p⟩;cases j
theorem AX (h:cT cx g st a w){x:Option aah}{v:Option bK}(j:Lm st.fr x=some v):OR g st.mem (cx.safe g st.mem w) w v (x.map a.eval):=by
 cases x with
 |none=>simp only [Lm] at j;injection j with j;subst j;trivial
 |some x=>
  simp only [Lm] at j;split at j;rename_i u o;injection j with j;subst j;exact cA h o;cases j
theorem vn (h:cT cx g st a w): ∀{xs:List (Nat×aah)} {vs:List (Nat×bK)},zc st.fr xs=some vs->
 cc (λ(p:Nat×bK) (q:Nat×π)=>p.1=q.1/\VR g st.mem (cx.safe g st.mem w) w p.2 q.2) vs (xs.map λ(i,x)=>(i,a.eval x))
 |[],vs,j=>by simp only [zc] at j;injection j with j;subst j;trivial
 |(i,x)::xs,vs,j=>by
  simp only [zc] at j;split at j;rename_i v l o r;injection j with j;subst j;exact ⟨⟨rfl,cA h o⟩,vn h r⟩;cases j
def rJ (cx:Cx)(st:St)(a:Act)(w:Ε)(o:Ϥ)(e:cO):Prop:=
 (∃val w',(execOp a.eval o).run cx.P w= .ok (.value val) w'/\ph cx st a e val w')\/
 (∃w',(execOp a.eval o).run cx.P w= .ok .skip w'/\ph cx st a e undef w')\/
 (∃f args,(execOp a.eval o).run cx.P w= .ok (.enter f args) w/\Calls cx.P f args w λj w'=> ∃v,j= .returned v/\ph cx st a e v w')
theorem rJ.wp {o:Ϥ}{e:cO}{K:Act->Ε->Prop}{Q:Exit->Act->Ε->Prop}(h:rJ cx st a w o e)(r: ∀val w',ph cx st a e val w'->K (a.put o.dst val) w'):o.wp cx.P a w K Q:=by
 unfold Oper.wp;rcases h with ⟨val,w',j,p⟩|⟨w',j,p⟩|⟨f,args,j,p⟩
 rw [j];exact r val w' p;rw [j];exact r undef w' p;rw [j];exact p.mono λJ w' ⟨v,t,I⟩=>by subst t;exact r v w' I
theorem gG.gz {o:Ϥ}{e:cO}{s:Sem π}(h:gG cx st a w s e)(j:execOp a.eval o=(do pure (.value (<-s)))):rJ cx st a w o e:=by
 obtain ⟨val,w',p,r⟩:=h;exact .inl ⟨val,w',by rw [j];simp [p],r⟩
theorem Cl.gz {o:Ϥ}{e:cO}{s:Sem Unit}(h:Cl cx st a w s e)(j:execOp a.eval o=(do s;pure .skip)):rJ cx st a w o e:=by
 obtain ⟨w',p,r⟩:=h;exact .inr (.inl ⟨w',by rw [j];simp [p],r⟩)
theorem rJ.pure {o:Ϥ}{e:cO}{v:bK}{val:π}(h:cT cx g st a w)(j:execOp a.eval o=Pure.pure (.value val))(hp:e.new=[]/\e.lq=[]/\e.val=v)(p:VR g st.mem (cx.safe g st.mem w) w v val):rJ cx st a w o e:=by
 refine .inl ⟨val,w,by rw [j];rfl,g,?_,?_⟩;rw [hp.1,hp.2.1];exact h;rw [hp.1,hp.2.1,hp.2.2];exact p
def I1 (u:π):Prop:=(∃k n,u= .int k n)\/(∃s,u= .string s)\/(∃b,u= .bool b)
theorem CK {P:Ο}{op:acQ}{T:Ι}{x y:aah}{k:aad}{b:Nat}{v:π}:(eqGuard op T x y (.float k b) v).run P w= .ok () w:=by
 cases op<;>cases v<;>rfl
theorem CL {P:Ο}{op:acQ}{T:Ι}{x y:aah}{u v:π}(h:I1 u):(eqGuard op T x y u v).run P w= .ok () w:=by
 rcases h with ⟨k,n,rfl⟩|⟨s,rfl⟩|⟨b,rfl⟩<;>cases op<;>cases v<;>rfl
theorem Hu {op:acQ}{T:Ι}{x y:bK}{e:cO}{u:π}(j:Hb cx.P T op x y=some e)(o:VR g st.mem (cx.safe g st.mem w) w x u):I1 u:=by
 unfold Hb at j;split at j;exact .inl ⟨_,_,dV (g:=g) (m:=st.mem) (S:=cx.safe g st.mem w) (w:=w) o⟩;exact .inr (.inl ⟨_,lz (g:=g) (m:=st.mem) (S:=cx.safe g st.mem w) (w:=w) o⟩);exact .inr (.inr ⟨_,oM (g:=g) (m:=st.mem) (S:=cx.safe g st.mem w) (w:=w) o⟩);cases j
theorem CM {op:acQ}{T:Ι}{x y:bK}{xo yo:aah}{e:cO}{u v:π}{w':Ε}(j:z6 cx.P T op x y=some e)(o:VR g st.mem (cx.safe g st.mem w) w x u)(p:VR g st.mem (cx.safe g st.mem w) w y v):(eqGuard op T xo yo u v).run cx.P w'= .ok () w':=by
 unfold z6 at j;split at j;obtain ⟨b,e,_⟩:=px (g:=g) (m:=st.mem) (S:=cx.safe g st.mem w) (w:=w) o;rw [e];exact CK;obtain ⟨r,rfl,_⟩:=o;obtain ⟨t,rfl,_⟩:=p;exact wE j;exact CL (Hu j o)
theorem AY {P:Ο}{m:Mem}{S:Nat->Prop}{T:Ι}{x i:bK}{e:cO}{J R:π}(h:AW P T x i=some e)(U:cp e.cond)(hx:VR g m S w x J)(hi:VR g m S w i R):bR P g m S w (aho T J R) e:=by
 unfold AW at h;split at h;rename_i s k n hu;obtain ⟨he,p⟩:=dd h;rw [p] at U;obtain ⟨⟨h0,h1⟩,_⟩:=U;have e1:=lz (g:=g) (m:=m) (S:=S) (w:=w) hx;have e2:=dV (g:=g) (m:=m) (S:=S) (w:=w) hi;subst e1;subst e2;have j:δ n<ζ s:=toNat_lt h0 h1;refine bR.mk he (r:= .int .u8 ((((ε s (δ n) 0:UInt8).toNat:Nat)):Int)) ?_ rfl;have t:δ n<(⟨aef s⟩:ByteArray).size:=by simpa [abF] using j
 have o:(⟨aef s⟩:ByteArray)[δ n]? =some (ε s (δ n) 0):=by
  rw [getElem?_pos (⟨aef s⟩:ByteArray) (δ n) t]
  congr 1
  rw [getD_eq j];rfl
 have I:(0:Int)<=n:=h0;simp only [aho,Ϛ,run_underlying hu,ϋ,asIntOf,ϵ];rw [if_pos I,o];rfl;cases h
theorem Pf {g:GM}{m:Mem}{S:Nat->Prop}{w:Ε}{k:aaF}{t:Ty}{x:t.D}{v:π}{p:Addr}(h:CR g m S w (.ji k t x) v)(e:v= .func (.func k) #[] #[.pointer (some p)]):cc (VR g m S w) [.one (.ip t x 0)] [.pointer (some p)]:=by
 obtain ⟨I,es,j,J,o,r⟩:=h;rw [e] at j;injection j with _ _ j;injection j with j;injection j with j _;injection j with j;injection j with j;subst j;have R:p.add 0=p:=by simp [ab3]
 exact ⟨⟨p,es,by rw [R],J,o,r⟩,trivial⟩
theorem Ty.xO {t:Ty}(h:t.vm=false):t.sR=[t.size]:=by cases t<;>first|rfl|cases h
theorem CN {t:Ty}{x:t.D}(h:t.vm=false):Ht t x=[.one (.ip t x 0)]:=by cases t<;>first|rfl|cases h
theorem CO {g:GM}{m:Mem}{S:Nat->Prop}{w:Ε}: ∀{vs:List bK} {d:TD} {ps:List π},LS vs=some d->cc (VR g m S w) vs ps-> ∃I,cn S w d.t I d.x/\po S w d.t.sR I ps
 |[],d,_,h,_=>by cases h
 |_::_,_,[],_,J=>J.elim
 |v::r,d,p::ps,h,J=>by
  unfold LS at h;split at h;cases h;rename_i t x r' heq;injection heq with h1 h2;subst h1 h2;obtain ⟨T,es,e,U,hc,o⟩:=J.1;have e2:T.add 0=T:=by simp [ab3]
  rw [e2] at e;have hl:=abV t es x o;split at h;rename_i iH;cases hp:t.vm with
  |true=>rw [hp] at h;cases h
  |false=>
   rw [hp] at h;simp only [cond_false] at h;injection h with h;subst h
   match ps,J.2 with
   |[],_=>
    refine ⟨es,o,?_⟩;rw [Ty.xO hp];exact ⟨⟨T,e,U,λj u R=>hc j u (by rw [ϳ (aff hl)] at R;exact R)⟩,trivial⟩
  split at h;rename_i d' hd;injection h with h;subst h;obtain ⟨I,k1,k2⟩:=CO hd J.2;refine ⟨es++I,⟨es,I,rfl,o,k1⟩,⟨T,e,U,λj u R=>hc j u ?_⟩,?_⟩;rw [acp (by omega),ϳ (by omega)] at R;exact R;rw [<-hl,agO];exact k2;cases h;cases h
theorem I2 {g:GM}{m:Mem}{S:Nat->Prop}{w:Ε}: ∀(t:Ty) {x:t.D} {r ps:List π},cn S w t r x->po S w t.sR r ps->cc (VR g m S w) (Ht t x) ps:=by
 intro t;cases hp:t.vm with
 |false=>
  intro x r ps o h;rw [Ty.xO hp] at h;rw [CN hp]
  match ps,h with
  |[p],⟨⟨I,J,R,T⟩,_⟩=>
   exact ⟨⟨I,r,by rw [J];simp [ab3],R,λj u U=>T j u (by rw [ϳ (aff (abV t r x o))];exact U),o⟩,trivial⟩
 |true=>
  induction t with
  |pair a b _ aa=>
   intro x r ps o h;obtain ⟨c1,c2,e,h1,h2⟩:=o;subst e;have hl:=abV a c1 _ h1
   match ps,h with
   |p::ps,⟨⟨I,J,R,T⟩,o⟩=>
    refine ⟨⟨I,c1,by rw [J];simp [ab3],R,λj u U=>T j u ?_,h1⟩,?_⟩;rw [acp (by omega),ϳ (by omega)];exact U;rw [<-hl,agO] at o;cases hb:b.vm with
    |true=>exact aa hb h2 o
    |false=>
     rw [Ty.xO hb] at o;show cc (VR g m S w) (Ht b x.2) ps;rw [CN hb]
     match ps,o with
     |[p],⟨⟨I,J,R,T⟩,_⟩=>
      exact ⟨⟨I,c2,by rw [J];simp [ab3],R,λj u U=>T j u (by rw [ϳ (aff (abV b c2 _ h2))];exact U),h2⟩,trivial⟩
  |_=>cases hp
theorem I3 {α:Type}(f:α->π)(xs:Array α)(v:π):xs.map f++ #[v]=(xs.toList.map f++[v]).toArray:=by
 apply aa9;simp
theorem Af {h:Hint}{o:Ϥ}{e:cO}(I:cT cx g st a w)(hw:fw st.mem e.new)(p:wT cx.P st.fr st.mem st.nx h o=some e)(hc:cp e.cond):rJ cx st a w o e:=by
 unfold wT at p;split at p
 ·rename_i x R;split at p
  ·rename_i v hv;exact rJ.pure I (by simp only [execOp,R]) (bP p) (cA I hv)
  ·cases p
 ·rename_i x R;split at p
  ·rename_i v hv;exact rJ.pure I (by simp only [execOp,R]) (bP p) (cA I hv)
  ·cases p
 ·rename_i c x y R;split at p
  ·rename_i b OW;split at p
   ·rename_i v hv;have e1:=oM (g:=g) (m:=st.mem) (S:=cx.safe g st.mem w) (w:=w) (cA I OW);exact rJ.pure I (by simp only [execOp,R,e1,asBool];cases b<;>rfl) (bP p) (cA I hv)
   ·cases p
  ·cases p
 ·rename_i T R;split at p
  ·exact (zh I hw p).gz (by simp only [execOp,R])
  ·exact (AG I hw p).gz (by simp only [execOp,R])
 ·rename_i T x R;split at p
  ·rename_i v hv;split at p
   ·exact (Ci (T:=T) I hw p (cA I hv)).gz (by simp only [execOp,R])
   ·exact (Ei (T:=T) I hw p (cA I hv)).gz (by simp only [execOp,R])
  ·cases p
 ·rename_i T parts R;split at p
  ·rename_i vs ab;have:=AF (P:=cx.P) (g:=g) (m:=st.mem) (S:=cx.safe g st.mem w) (w:=w) (vparts:=parts.map λ(i,x)=>(i,a.eval x)) p (by simpa using vn I ab);exact (this.runs I).gz (by simp only [execOp,R])
  ·cases p
 ·rename_i T len parts R;split at p
  ·rename_i t vs ab;have:=zw (vparts:=parts.map λ(i,x)=>(i,a.eval x)) I hw p (by simpa using vn I ab);exact this.gz (by simp only [execOp,R])
  ·rename_i t vs ab;have:=tD (vparts:=parts.map λ(i,x)=>(i,a.eval x)) I p (by simpa using vn I ab);exact this.gz (by simp only [execOp,R])
  ·rename_i vs ab;have:=AL (vparts:=parts.map λ(i,x)=>(i,a.eval x)) I p (by simpa using vn I ab);exact this.gz (by simp only [execOp,R])
  ·cases p
 ·rename_i T x R;split at p
  ·rename_i v hv;exact (AV I hw p hc (cA I hv)).gz (by simp only [execOp,R])
  ·cases p
 ·rename_i T x y R;split at p
  ·rename_i xv yv hx hy;exact (zt I hw p hc (cA I hx) (cA I hy)).gz (by simp only [execOp,R])
  ·cases p
 ·rename_i x R;split at p
  ·rename_i v hv;have CP:=cA I hv;unfold Pe at p;split at p
   ·obtain ⟨_,b,_,e1⟩:=CP;exact rJ.pure I (by simp [execOp,R,e1];rfl) (bP p) (by rw [<-e1];exact cA I hv)
   ·obtain ⟨ad,es,e1,_⟩:=CP;exact rJ.pure I (by simp [execOp,R,e1];rfl) (bP p) (by rw [<-e1];exact cA I hv)
   ·obtain ⟨_,b,_,e1⟩:=CP;exact rJ.pure I (by simp [execOp,R,e1];rfl) (bP p) (by rw [<-e1];exact cA I hv)
   ·obtain ⟨_,b,e1,_⟩:=CP;exact rJ.pure I (by simp [execOp,R,e1];rfl) (bP p) (by rw [<-e1];exact cA I hv)
   ·cases p
  ·cases p
 ·rename_i op T x y T' R;split at p
  ·rename_i xv yv hx hy;obtain ⟨r,w',k3,k4⟩:=Cw I p hc (cA I hx) (cA I hy);refine .inl ⟨r,w',?_,k4⟩;have hg:=CM (xo:=x) (yo:=y) (w':=w) p (cA I hx) (cA I hy);simp only [execOp,R,Ϛ,hg,ϋ,k3,ϵ]
  ·cases p
 ·rename_i op T x R;split at p
  ·rename_i v hv;exact ((Ex p (cA I hv)).runs I).gz (by simp only [execOp,R])
  ·cases p
 ·rename_i T U x R;split at p
  ·rename_i v hv;exact (wF I hw p hc (cA I hv)).gz (by simp only [execOp,R])
  ·cases p
 ·rename_i T l c R;split at p
  ·rename_i t lv cv hl OW;exact (vh I hw p hc (cA I hl) (cA I OW)).gz (by simp only [execOp,R])
  ·cases p
 ·rename_i T x lo hi R;split at p
  ·rename_i v l h' hv hl hh;exact ((AD I.mem p hc (cA I hv) (AX I hl) (AX I hh)).runs I).gz (by simp only [execOp,R];rfl)
  ·cases p
 ·rename_i T x lo hi q R;split at p
  ·rename_i v l h' r hv hl hh hq;exact ((zn p hc (cA I hv) (AX I hl) (AX I hh) (mx:=some r) (qv:=some (a.eval q)) (cA I hq)).runs I).gz (by simp only [execOp,R];rfl)
  ·cases p
 ·rename_i T x f R;split at p
  ·rename_i v hv;exact ((vf p (cA I hv)).runs I).gz (by simp only [execOp,R])
  ·cases p
 ·rename_i T x i R;split at p
  ·rename_i v j hv hj;exact ((uc I.mem p hc (cA I hv) (cA I hj)).runs I).gz (by simp only [execOp,R])
  ·cases p
 ·rename_i T x i R;split at p
  ·rename_i v j hv hj;exact ((AY p hc (cA I hv) (cA I hj)).runs I).gz (by simp only [execOp,R])
  ·cases p
 ·rename_i x i R;split at p
  ·rename_i v hv;exact ((xw p (cA I hv)).runs I).gz (by simp only [execOp,R])
  ·cases p
 ·rename_i f first aa R
  split at p
  ·rename_i vs ab;cases Wg:first.isEmpty with
   |false=>rw [Wg] at p;cases p
   |true=>
    rw [Wg] at p;simp only [cond_true] at p;have UR:first= #[]:=by simpa using Wg
    subst UR;split at p
    ·have gF:=qI I ab;have hcap:aa.map a.eval=(aa.toList.map a.eval).toArray:=by apply aa9;rw [abb]
     unfold Y5 at p;split at p
     ·rename_i d hd;obtain ⟨us,k1,k2⟩:=CO hd gF;exact rJ.pure I (val:= .func (.func f) #[] (aa.map a.eval)) (by simp [execOp,R,agA]) (bP p) ⟨us,_,by rw [hcap],k1,k2⟩
     ·cases p
    unfold SM at p;split at p
    ·rename_i t x;have gF:=qI I ab;have hcap:aa.map a.eval=(aa.toList.map a.eval).toArray:=by apply aa9;rw [abb]
     cases nv:aa.toList.map a.eval with
     |nil=>rw [nv] at gF;exact gF.elim
     |cons u r=>
      rw [nv] at gF;cases r with
      |cons=>exact gF.2.elim
      |nil=>
       obtain ⟨ad,es,e1,I4,fC,kK⟩:=gF.1;have e2:ad.add 0=ad:=by simp [ab3]
       rw [e2] at e1;exact rJ.pure I (val:= .func (.func f) #[] (aa.map a.eval)) (by simp [execOp,R,agA]) (bP p) ⟨ad,es,by rw [hcap,nv,e1],I4,fC,kK⟩
    ·cases p
  ·cases p
 ·rename_i c R;split at p
  ·rename_i b hb;have tE: ∀(consts:Array Bool),resolve a.eval c o.type=pure {target:= .builtin b c.argTypes o.type (c.args.map fun| .const _=>true|_=>false),args:=c.args.map a.eval}:=λ_=>by
    unfold resolve;rw [hb];rfl
   have J: ∀l,c.args.toList=l->c.args.map a.eval=(l.map a.eval).toArray:=λl hl=>by
    subst hl;apply aa9;rw [abb]
   have Hv: ∀l,c.argTypes.toList=l->c.argTypes=l.toArray:=λl hl=>by subst hl;rfl
   unfold qg at p;split at p
   ·rename_i x T qF LU;split at p
    ·rename_i v hv;have CP:=cA I hv;have hg:bR cx.P g st.mem (cx.safe g st.mem w) w (Builtin.len_ #[T] o.type #[a.eval x]) e:=by
      unfold CI at p;split at p
      ·rename_i s hu;refine mw (T:=T) I.mem (by simp [Ec,hu]) p CP rfl (λ_ _=>hu) (λa' n c' e'=> ?_);have:=lz (g:=g) (m:=st.mem) (S:=cx.safe g st.mem w) (w:=w) CP;rw [this] at e';cases e'
      ·rename_i el t xs hu;refine mw (T:=T) I.mem (by simp [Ec,hu]) p CP rfl (λs e'=> ?_) (λ_ _ _ _=>⟨el,hu⟩);obtain ⟨a',cap,e1,_⟩:=CP;have e1:a.eval x= .slice a' (ζ xs) cap:=by simpa using e1
       rw [e1] at e';cases e'
      ·rename_i el c' hu;refine mw (T:=T) I.mem (by simp [Ec,hu]) p CP rfl (λs e'=> ?_) (λ_ _ _ _=>⟨el,hu⟩);have sq: ∀t xs,dH st.mem c' t xs->False:=λt xs hl=>by
        have hx:=CP.2.2 t xs hl;unfold jb at hx;cases hg:g c' with
        |none=>rw [hg] at hx;obtain ⟨a',ha⟩:=hx;rw [ha] at e';cases e'
        |some b=>rw [hg] at hx;obtain ⟨cap,arr,ha,_⟩:=hx;rw [ha] at e';cases e'
       unfold tk at p;simp only at p;split at p
       ·rename_i t xs hl;exact (sq t xs (.inl hl)).elim
       ·rename_i t xs i cs ks hl;exact (sq t xs (.inr ⟨i,cs,ks,hl⟩)).elim
       ·cases p
      ·rename_i el c' off len hu;refine mw (T:=T) I.mem (by simp [Ec,hu]) p CP rfl (λs e'=> ?_) (λ_ _ _ _=>⟨el,hu⟩);unfold tk at p;simp only at p;split at p
       ·rename_i t xs hl;obtain ⟨_,hx⟩:=CP.2.2 t xs (.inl hl);rcases hx with ⟨_,_,a',ha⟩|⟨b,cap,arr,_,ha,_⟩
        ·rw [ha] at e';cases e'
        ·rw [ha] at e';cases e'
       ·cases p
      ·rename_i el c' i o hu;refine mw (T:=T) I.mem (by simp [Ec,hu]) p CP rfl (λs e'=> ?_) (λ_ _ _ _=>⟨el,hu⟩);unfold tk at p;simp only at p;split at p
       ·rename_i t xs hl;split at p
        ·rename_i e2 ys Li;have hx:=(CP.2.2 t xs hl).2 e2 ys Li;unfold jb at hx;cases hg:g.f c' [i,o] with
         |none=>rw [hg] at hx;obtain ⟨a',ha⟩:=hx;rw [ha] at e';cases e'
         |some b=>rw [hg] at hx;obtain ⟨cap,arr,ha,_⟩:=hx;rw [ha] at e';cases e'
        ·cases p
       ·cases p
      ·rename_i el hu;refine mw (T:=T) I.mem (by simp [Ec,hu]) p CP rfl (λs e'=> ?_) (λ_ _ _ _=>⟨el,hu⟩);obtain ⟨a',ha⟩:=CP;rw [ha] at e';cases e'
      ·cases p
     refine (hg.runs I).gz ?_;simp only [execOp,R,tE #[],J _ qF,Hv _ LU];rfl
    ·cases p
   ·rename_i s x T T' qF LU;split at p
    ·rename_i t sv xv O5 LO;refine (xN (ty:=o.type) I hw p hc (cA I O5) (cA I LO)).gz ?_;simp only [execOp,R,tE #[],J _ qF,Hv _ LU];rfl
    ·rename_i sv xv O5 LO;refine (xH (ty:=o.type) I hw p hc (cA I O5) (cA I LO)).gz ?_;simp only [execOp,R,tE #[],J _ qF,Hv _ LU];rfl
    ·rename_i t sv xv O5 LO;refine (xJ (ty:=o.type) I hw p hc (cA I O5) (cA I LO)).gz ?_;simp only [execOp,R,tE #[],J _ qF,Hv _ LU];rfl
    ·cases p
   ·rename_i x y _ qF;split at p
    ·rename_i xv yv hx hy;split at p
     ·rename_i e' hf;injection p with p;subst p;refine ((z7 (Ts:=c.argTypes) (T:=o.type) hf hc (cA I hx) (cA I hy)).runs I).gz ?_;simp only [execOp,R,tE #[],J _ qF];rfl
     ·refine ((Eg (Ts:=c.argTypes) (T:=o.type) p (cA I hx) (cA I hy)).runs I).gz ?_;simp only [execOp,R,tE #[],J _ qF];rfl
    ·cases p
   ·rename_i x y z _ qF;split at p
    ·rename_i xv yv zv hx hy hz;refine ((CJ (Ts:=c.argTypes) (T:=o.type) p (cA I hx) (cA I hy) (cA I hz)).runs I).gz ?_;simp only [execOp,R,tE #[],J _ qF];rfl
    ·cases p
   ·rename_i x y _ qF;split at p
    ·rename_i xv yv hx hy;split at p
     ·rename_i e' hf;injection p with p;subst p;refine ((z7 (Ts:=c.argTypes) (T:=o.type) hf hc (cA I hx) (cA I hy)).runs I).gz ?_;simp only [execOp,R,tE #[],J _ qF];rfl
     ·refine ((Eh (Ts:=c.argTypes) (T:=o.type) p (cA I hx) (cA I hy)).runs I).gz ?_;simp only [execOp,R,tE #[],J _ qF];rfl
    ·cases p
   ·rename_i x y T T' qF LU;split at p
    ·rename_i xv yv hx hy;refine (CG (T':=T') (ty:=o.type) I p (cA I hx) (cA I hy)).gz ?_;simp only [execOp,R,tE #[],J _ qF,Hv _ LU];rfl
    ·cases p
   ·rename_i x T qF LU;split at p
    ·rename_i el hv hu;obtain ⟨ad,e1⟩:=cA I hv;have hg:bR cx.P g st.mem (cx.safe g st.mem w) w (agB #[T] o.type #[a.eval x]) e:=by
      refine bR.mk (bP p) (r:= .int .i64 0) ?_ rfl;rw [e1];simp [agB,run_underlying hu,goInt]
     refine (hg.runs I).gz ?_;simp only [execOp,R,tE #[],J _ qF,Hv _ LU];rfl
    ·cases p
   ·cases p
  ·rename_i f hf;split at p
   ·rename_i ms rs outs k vs hk ab;have ze:a.eval f= .func (.func k) #[] #[]:=cA I hk;obtain ⟨⟨fn,c1,c2,c3⟩,xP⟩:=rF I hw p hc (qI I ab);refine .inr (.inr ⟨k,(c.args.toList.map a.eval).toArray,?_,xP⟩);have J:c.args.map a.eval=(c.args.toList.map a.eval).toArray:=by apply aa9;rw [abb]
    simp only [execOp,R,resolve,hf,ze,aa3,Ϛ,ϵ,ϋ,invoke,callFunc,run_program,c1];simp only [c2,c3,J];simp
   ·rename_i ms rs outs k t x vs hk ab;obtain ⟨ad,es,ze,I4,fC,kK⟩:=cA I hk;have Pg:cc (VR g st.mem (cx.safe g st.mem w) w) (vs++[.one (.ip t x 0)]) (c.args.toList.map a.eval++[.pointer (some ad)]):=
     cc.append (qI I ab) (Pf ⟨ad,es,ze,I4,fC,kK⟩ ze)
    obtain ⟨⟨fn,c1,c2,c3⟩,xP⟩:=rF I hw p hc Pg;refine .inr (.inr ⟨k,(c.args.toList.map a.eval++[Value.pointer (some ad)]).toArray,?_,xP⟩);have J:c.args.map a.eval++ #[Value.pointer (some ad)]=(c.args.toList.map a.eval++[Value.pointer (some ad)]).toArray:=I3 a.eval c.args _;simp only [execOp,R,resolve,hf,ze,aa3,Ϛ,ϵ,ϋ,invoke,callFunc,run_program,c1];simp only [c2,c3,afz,J];simp
   ·rename_i ms rs outs k t x vs hk ab;obtain ⟨us,ps,ze,kK,Wh⟩:=cA I hk;have ze:a.eval f= .func (.func k) #[] ps.toArray:=by simpa using ze
    have Pg:cc (VR g st.mem (cx.safe g st.mem w) w) (vs++Ht t x) (c.args.toList.map a.eval++ps):=
     cc.append (qI I ab) (I2 t kK Wh)
    obtain ⟨⟨fn,c1,c2,c3⟩,xP⟩:=rF I hw p hc Pg;refine .inr (.inr ⟨k,(c.args.toList.map a.eval++ps).toArray,?_,xP⟩);have J:c.args.map a.eval++ps.toArray=(c.args.toList.map a.eval++ps).toArray:=by apply aa9;simp
    simp only [execOp,R,resolve,hf,ze,aa3,Ϛ,ϵ,ϋ,invoke,callFunc,run_program,c1];simp only [c2,c3,afz,J];simp
   ·rename_i k fk n hk ab;split at p
    ·rename_i ik hu;have ze:a.eval f= .func (.func k) #[] #[]:=cA I hk;have Pg:cc (VR g st.mem (cx.safe g st.mem w) w) [.one (.bG (.dP fk) n)] (c.args.toList.map a.eval):=qI I ab;have J:c.args.map a.eval=(c.args.toList.map a.eval).toArray:=by apply aa9;rw [abb]
     generalize c.args.toList.map a.eval=vals at*
     match vals,Pg with
     |[xa],Pg=>
      obtain ⟨b,rfl,hb⟩:=px (g:=g) (m:=st.mem) (S:=cx.safe g st.mem w) (w:=w) Pg.1;obtain ⟨hp,Hc⟩:=dd p;rw [Hc] at hc;have Wi:Gi cx.P k fk ik:=hc.1;have iH:n≠Hn fk:=hc.2.1;have hbn:b=n:=by
       cases fk with
       |f32=>
        rw [Ev] at hb;split at hb
        ·exact absurd hb.symm iH
        ·exact hb
       |f64=>
        rw [Ew] at hb;split at hb
        ·exact absurd hb.symm iH
        ·exact hb
      subst hbn;refine .inl ⟨.int ik b,w,?_,g,?_,?_⟩
      ·simp only [execOp,R,resolve,hf,ze,aa3,Ϛ,ϵ,ϋ,invoke,J];simpa using Wi b w
      ·rw [hp.1,hp.2.1];exact I
      ·rw [hp.1,hp.2.1,hp.2.2];exact rfl
    ·cases p
   ·cases p
  ·cases p
 ·cases p
end
end Go.Ide
