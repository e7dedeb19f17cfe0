import Derived.Test.YtjnkhcgmgkhnaaaGreatDoorLibA
import Derived.Laws.FloatArith
import Derived.Lib.ConvBytes
import Derived.Laws.BytesString
import Derived.Laws.Externs
set_option linter.all false
open Array renaming length_toList→Ψ,getElem?_toList→ϥ,getElem?_eq_getElem→aak,getElem?_modify→aaP,ext'→aaU,toList_map→aaX,getElem?_append_left→abd,range→abT,size_append→adi,append_assoc→ae2,empty_append→ae3
open Bool renaming and_eq_true→κ
open ByteArray renaming size→abj
open Go renaming Value→ο,World→Ε,TypeId→Ι,Program→Ξ,Oper→Ϥ,FloatKind→aad,Operand→aah,IntKind→aaC,FuncId→aaE,BinOp→ach,TypeInfo→adh
open Go.Addr renaming add→abF
open Go.Builtin renaming append_→Ϛ,zeroCells→Ϧ,firstCells→aaH,lenOf→aaZ,copy_→abH,min_→acq,max_→ad9,nextslicecap→aen,min2→af6,cap_→af9
open Go.Conv renaming bytesToString→afa
open Go.Deferred renaming ofValue→aaN
open Go.Ide.Ty renaming size→aan
open Go.Ide.VR renaming stays→adz
open Go.Ide.bF renaming runs→aci
open Go.Ide.bJ renaming alloc→ab6,refl→acL,drew→af5
open Go.Ide.bT renaming bt→abi,len→abA,nt→ae8
open Go.Ide.de renaming bt→af3,len→agV
open Go.Ide.dm renaming new→adV
open Go.Ide.du renaming toSeq→ady
open Go.Ide.ij renaming nil→afM
open Go.Ide.oT renaming newAt→adA
open Go.Instr renaming buildSlice→Ϲ,sliceBounds→aaM,fill→aa1,sliceAt→acp,sliceBound→acv,loadAt→acE,storeAt→adj,makeFunc→af8,index→ag1
open Go.IntKind renaming wrap_i64→ae1
open Go.Lib renaming bytesCells→abC,bytesWorld→ado
open Go.Op renaming negFloat→ack,floatCmp→acm
open Go.Program renaming fieldsOf→ae0
open Go.Question renaming cut→aa8,forced→acj
open Go.Result renaming andThen_ok→ϋ
open Go.RowKit.Below renaming heap_alloc→aao
open Go.Sem renaming run_bind→Ϙ,run_pure→ϳ
open Go.World renaming freeze→adk
open Ieee renaming Datum→abK
open Ieee.Datum renaming quotient→ad2,product→aec,order→aev,sum→aeR
open Ieee.Format renaming order→abV,read→aep,add→aew,sub→aex,mul→aey,div→aez
open Int renaming toNat→δ
open List renaming getD→ε,length→ζ,getElem?_eq_some_iff→ψ,length_append→ω,getElem?_eq_getElem→Γ,getElem?_append_right→Κ,mem_append→Λ,getElem?_append_left→Μ,append_assoc→ό,getElem?_take→ϐ,mem_cons→ϒ,length_map→ϔ,length_take→ϙ,mem_cons_of_mem→ϛ,take→Ϝ,mem_map→ϟ,map_cons→ϱ,append_nil→ϴ,eq_nil_of_length_eq_zero→ϸ,length_drop→aab,getElem?_eq_none→aac,take_of_length_le→aaw,mem_of_getElem?→aaG,nodup_cons→aaV,range→abh,size_toArray→abk,take_append_of_le_length→ab1,cons_append→acD,toArray→adJ,getElem_append_right→ad1,getElem_append_left→aea,getElem?_cons_zero→aeo,drop_of_length_le→aet,append_inj→af7,drop_left→agp
open List.Sublist renaming refl→acG
open Nat renaming le_refl→φ,beq→Α,mul_le_mul_right→Ρ,zero_add→Υ,add_mul→ϑ,lt_of_lt_of_le→ϖ,add_assoc→Ϡ,le_trans→ϣ,add_zero→ϧ,ble→ϩ,min_eq_left→aav,mul_comm→aay,lt_or_ge→aaz,add_sub_cancel_left→aaA,mul_le_mul→aaB,zero_mul→aaY,min→aa0,mod_lt→aa7,eq_of_beq_eq_true→abc,mul_one→adn,le_of_eq→aeI,xor_mod_two_pow→ae9,succ_mul→afO
open Option renaming bind_some→η,isSome_iff_exists→abl
open Option.some renaming injEq→ag0
open Prod renaming fst→aas
open UInt8 renaming ofNat→aau
namespace Go.Ide
section
variable {g:GM} {m:Mem} {S S2:Nat->Prop} {w:Ε}
theorem fX.len {t:Ty}{cs:List ο}{xs:List t.D}{A:List (List Nat->Option Nat)}(h:fX S w t cs xs A):cs.length=1:=by
 rcases h with ⟨_,_,a,e⟩|⟨v,γ,_,e,_⟩<;>subst e<;>rfl
theorem dt.len: ∀(t:Ty) {cs:List ο} {x:t.D} {A:List (List Nat->Option Nat)},dt S w t cs x A->cs.length=t.size
 | .int _,_,_,_,h=>abA _ _ _ h.2
 | .dB _,_,_,_,h=>abA _ _ _ h.2
 | .bool,_,_,_,h=>abA _ _ _ h.2
 | .str,_,_,_,h=>abA _ _ _ h.2
 | .cl _ _,_,_,_,h=>abA _ _ _ h.2
 | .pair a b,_,_,_,⟨p,r,I,J,e,_,j,o⟩=>by subst e;simp [aan,dt.len a j,dt.len b o]
 | .st t,_,_,_,h=>dt.len t (cs:=_) h
 | .sl t,_,_,_,h=>fX.len h
 | .bx t,_,_,_,⟨_,_,_,_,e,_⟩=>by subst e;rfl
 | .own t,_,_,_,h=>fX.len h
theorem fX.sO {t:Ty}{cs:List ο}{xs:List t.D}{A:List (List Nat->Option Nat)}(h:fX S w t cs xs A):A.length=1:=by
 rcases h with ⟨e,_⟩|⟨v,γ,e,_⟩<;>subst e<;>rfl
def Ty.zy:Ty->Nat
 | .pair a b=>a.zy+b.zy
 | .st t=>t.zy
 | .sl _=>1
 | .bx _=>1
 | .own _=>1
 |_=>0
theorem dt.sO: ∀(t:Ty) {cs:List ο} {x:t.D} {A:List (List Nat->Option Nat)},dt S w t cs x A->A.length=t.zy
 | .int _,_,_,_,h=>by rw [h.1];rfl
 | .dB _,_,_,_,h=>by rw [h.1];rfl
 | .bool,_,_,_,h=>by rw [h.1];rfl
 | .str,_,_,_,h=>by rw [h.1];rfl
 | .cl _ _,_,_,_,h=>by rw [h.1];rfl
 | .pair a b,_,_,_,⟨p,r,I,J,_,e,j,o⟩=>by subst e;simp [Ty.zy,dt.sO a j,dt.sO b o]
 | .st t,_,_,_,h=>dt.sO t (cs:=_) h
 | .sl t,_,_,_,h=>fX.sO h
 | .bx t,_,_,_,⟨_,_,_,e,_⟩=>by subst e;rfl
 | .own t,_,_,_,h=>fX.sO h
theorem bT.flat {w':Ε}: ∀(t:Ty) {cs:List ο} {x:t.D},t.flat=true->bT S w t cs x->bT S2 w' t cs x
 | .int _,_,_,_,h=>h
 | .dB _,_,_,_,h=>h
 | .bool,_,_,_,h=>h
 | .str,_,_,_,h=>h
 | .sl _,_,_,j,_=>by cases j
 | .bx _,_,_,j,_=>by cases j
 | .cl _ _,_,_,j,_=>by cases j
 | .own _,_,_,j,_=>by cases j
 | .pair a b,_,_,j,⟨o,p,e,r,I⟩=>by
  simp only [Ty.flat,κ] at j;exact ⟨o,p,e,bT.flat a j.1 r,bT.flat b j.2 I⟩
 | .st t,_,_,j,h=>bT.flat t (cs:=_) j h
theorem de.jd: ∀(t:Ty) {γ:List Nat->Option Nat} {o:Nat} {cs:List ο} {x:t.D},t.jd=true->de S w t γ o cs x->de S2 w t γ o cs x
 | .own t,γ,o,cs,xs,p,⟨v,e,R,j⟩=>by
  refine ⟨v,e,R,?_⟩;cases J:γ [o] with
  |none=>rw [J] at j;exact j
  |some b=>
   rw [J] at j;obtain ⟨arr,T,U⟩:=j;exact ⟨arr,T,λi hl=>let ⟨es,r,I⟩:=U i hl;⟨es,r,de.jd t p I⟩⟩
 | .pair a b,γ,o,cs,x,p,⟨c1,c2,e,r,I⟩=>by
  simp only [Ty.jd,κ] at p;exact ⟨c1,c2,e,de.jd a p.1 r,de.jd b p.2 I⟩
 | .st t,γ,o,cs,x,p,j=>de.jd t (o:=o) (cs:=cs) (x:=x) p j
 | .int k,_,_,cs,x,_,j=>j
 | .dB k,_,_,cs,x,_,j=>j
 | .bool,_,_,cs,x,_,j=>j
 | .str,_,_,cs,x,_,j=>j
 | .sl t,_,_,cs,x,p,j=>by cases p
 | .bx t,_,_,cs,x,p,j=>by cases p
 | .cl f t,_,_,cs,x,p,j=>by cases p
theorem eI.jd {γ:List Nat->Option Nat}{t:Ty}{xs:List t.D}{arr:Array ο}(j:t.jd=true)(h:eI S w γ t xs arr):eI S2 w γ t xs arr:=
 λi o=>let ⟨es,p,r⟩:=h i o;⟨es,p,de.jd t j r⟩
theorem rO: ∀(t:Ty) (x:t.D) (o:Nat),t.top=true->dU t x o=none
 | .int _,_,_,_=>rfl
 | .dB _,_,_,_=>rfl
 | .bool,_,_,_=>rfl
 | .str,_,_,_=>rfl
 | .sl _,_,_,_=>rfl
 | .bx _,_,_,_=>rfl
 | .cl _ _,_,_,_=>rfl
 | .own _,_,_,h=>by cases h
 | .pair a b,x,o,h=>by
  simp only [Ty.top,κ] at h;simp only [dU];cases Nat.blt o a.size with
  |true=>exact rO a _ _ h.1
  |false=>exact rO b _ _ h.2
 | .st t,x,o,h=>rO t x o h
theorem cy.top {t:Ty}(h:t.top=true){xs j:List t.D}(r:xs.length=j.length):cy t xs j:=
 ⟨r,λi o e I p=>by rw [rO t _ _ h] at p;cases p⟩
structure Rq (g:GM)(m:Mem)(w:Ε):Prop where
 inj: ∀k k' p p' ch pq b,lk k m=some ch->ch.owns p->lk k' m=some pq->pq.owns p'->g.f k p=some b->g.f k' p'=some b->k=k'/\p=p'
 lt: ∀k p ch b,lk k m=some ch->ch.owns p->g.f k p=some b->b<w.heap.size
theorem cG.K9 {cx:Cx}{st:St}{a:Act}(h:cG cx g st a w):Rq g st.mem w:=⟨h.fV,h.lt⟩
theorem pr.nil:pr []:=⟨List.Pairwise.nil,λγ h=>by simp at h⟩
theorem uE.nil:uE [] []:=λb=>by simp
theorem na {n:Nat}{A:List (List Nat->Option Nat)}(h: ∀γ,γ∈A-> ∀p b,γ p=some b->b<n): ∃F,uE A F:=by
 classical
 refine ⟨(abh n).filter λb=>decide (∃γ,γ∈A/\ ∃p,γ p=some b),λb=> ?_⟩;rw [List.mem_filter];simp only [List.mem_range,decide_eq_true_eq];exact ⟨λh=>h.2,λhp=>⟨let ⟨γ,j,p,e⟩:=hp;h γ j p b e,hp⟩⟩
def YU (g:GM):Option Nat->List Nat->Option Nat
 |some k=>g.f k
 |none=>λ_=>none
def j7 (g:GM)(m:Mem)(ks:List Nat)(A:List (List Nat->Option Nat)):Prop:=
 ∃l:List (Option Nat),A=l.map (YU g)/\(l.filterMap id).Sublist ks/\ ∀k,some k∈l-> ∃t j,lk k m=some (.seq t j)
theorem j7.nil {ks:List Nat}:j7 g m ks []:=⟨[],rfl,List.nil_sublist _,λk h=>by simp at h⟩
theorem j7.app {j o:List Nat}{r t:List (List Nat->Option Nat)}(I:j7 g m j r)(J:j7 g m o t):j7 g m (j++o) (r++t):=by
 obtain ⟨R,T,U,p1⟩:=I;obtain ⟨l2,e2,s2,p2⟩:=J;refine ⟨R++l2,by rw [T,e2,List.map_append],by rw [List.filterMap_append];exact U.append s2,λk p=> ?_⟩;rcases Λ.1 p with p|p
 exact p1 k p;exact p2 k p
theorem j7.inj (hI:Rq g m w){ks:List Nat}{A:List (List Nat->Option Nat)}(h:j7 g m ks A)(J:ks.Nodup):pr A:=by
 obtain ⟨l,e,hs,hp⟩:=h;subst e;have J:=hs.nodup J;constructor;rw [List.pairwise_map];have:=List.pairwise_filterMap.1 J;refine this.imp_of_mem λ {o o'} R T hr p q b j r=> ?_;cases o with
 |none=>cases j
 |some k=>
  cases o' with
  |none=>cases r
  |some U=>
   obtain ⟨t,xs,I⟩:=hp k R;obtain ⟨t',ig,l2⟩:=hp U T;exact hr k rfl U rfl (hI.inj k U p q _ _ b I trivial l2 trivial j r).1
 intro γ aa p q b j r;obtain ⟨o,R,rfl⟩:=ϟ.1 aa;cases o with
 |none=>cases j
 |some k=>
  obtain ⟨t,xs,I⟩:=hp k R;exact (hI.inj k k p q _ _ b I trivial I trivial j r).2
theorem j7.dm {ks:List Nat}{A:List (List Nat->Option Nat)}(h:j7 g m ks A){γ:List Nat->Option Nat}(j:γ∈A){p:List Nat}{b:Nat}(r:γ p=some b): ∃k,k∈ks/\ ∃p t xs,g.f k p=some b/\lk k m=some (.seq t xs):=by
 obtain ⟨l,e,J,hp⟩:=h;subst e;obtain ⟨o,I,rfl⟩:=ϟ.1 j;cases o with
 |none=>cases r
 |some k=>
  obtain ⟨t,xs,R⟩:=hp k I;exact ⟨k,J.subset (List.mem_filterMap.2 ⟨some k,I,rfl⟩),p,t,xs,r,R⟩
def oy (g:GM)(m:Mem)(r:Nat->Prop)(w':Ε)(u:Mem):Prop:=
 ∀p∈u,∃t o,lk p.1 m=some (.seq t o)/\(p.2= .gone\/ ∃j,p.2= .seq t j/\cy t o j/\
  (match g.f p.1 [] with|none=>j=[]|some b=> ∃arr,dm w' b arr/\eI r w' (g.f p.1) t j arr))
theorem oy.nil {j:Nat->Prop}{w':Ε}:oy g m j w' []:=λp hp=>by simp at hp
theorem oy.app {j:Nat->Prop}{w':Ε}{o r:Mem}(t:oy g m j w' o)(I:oy g m j w' r):oy g m j w' (o++r):=λp hp=>by
 rcases Λ.1 hp with hp|hp
 exact t p hp;exact I p hp
theorem H3 (hm:j6 g m S w)(hS: ∀b,S b->S2 b){c:Nat}{t:Ty}{xs:List t.D}(hl:lk c m=some (.seq t xs)){v:ο}(hv:CR g m S w (.all c) v):
 ∃A,fX S2 w t [v] xs A/\j7 g m [c] A/\ ∀(w':Ε) (SO SU:Nat->Prop) (j:List t.D),(∀b arr,dm w b arr-> ∃o,dm w' b o/\o.size=arr.size)->(t.jd=true\/ ∀b,SO b->SU b)->fX SO w' t [v] j A->cy t xs j->oy g m SU w' [(c,.seq t j)]:=by
 have hx:=hv.2.2 t xs (.inl hl);have r:=hm c _ hl;unfold iS at hx;unfold jc at r;have R: ∀j,xs=[]->cy t xs j->j=[]:=λj h h'=>ϸ (by rw [<-h'.1,h];rfl);cases J:g.f c [] with
 |none=>
  rw [show g c=none from J] at hx;rw [J] at r;obtain ⟨a,ha⟩:=hx;have r:xs=[]:=r;refine ⟨[λ_=>none],.inl ⟨rfl,r,a,by rw [ha]⟩,⟨[none],rfl,by simp,by simp⟩,λw' SO SU j T U ho I p hp=> ?_⟩;simp at hp;subst hp;refine ⟨t,xs,hl,.inr ⟨j,rfl,I,?_⟩⟩;simp only [J];exact R j r I
 |some b=>
  rw [show g c=some b from J] at hx;rw [J] at r;obtain ⟨cap,arr,e1,k1,k2,k3,k4⟩:=hx;obtain ⟨o,qK,qU⟩:=r;have:=k2.eq qK;subst this;subst e1;by_cases hcap:cap=0;subst hcap;have aa:xs=[]:=ϸ (by omega);refine ⟨[λ_=>none],.inl ⟨rfl,aa,_,by rw [aa];rfl⟩,⟨[none],rfl,by simp,by simp⟩,λw' SO SU j T U ho I p hp=> ?_⟩;simp at hp;subst hp;have K5:=R j aa I;refine ⟨t,xs,hl,.inr ⟨j,rfl,I,?_⟩⟩;simp only [J];obtain ⟨o,q1,_⟩:=T b arr k2;exact ⟨o,q1,by rw [K5];exact λi hi=>by simp at hi⟩;refine ⟨[g.f c],.inr ⟨_,g.f c,rfl,rfl,b,cap,arr,J,rfl,k1,by omega,k2,k3,k4,qU.bt (λb hb=>⟨hS b hb,rfl⟩) (λ_ _ _=>rfl)⟩,⟨[some c],rfl,by simp,λk hk=>by simp at hk;subst hk;exact ⟨t,xs,hl⟩⟩,λw' SO SU j T U ho I p hp=> ?_⟩;simp at hp;subst hp;refine ⟨t,xs,hl,.inr ⟨j,rfl,I,?_⟩⟩;rcases ho with ⟨e,_⟩|⟨v',γ,e,e2,b2,YV,DH,h0,_,_,_,q3,_,_,q6⟩
  injection e with e;rw [e] at J;cases J;injection e with e;subst e;simp only [h0];refine ⟨DH,q3,?_⟩;rcases U with U|U
  exact q6.jd U;exact q6.bt (λb hb=>⟨U b hb,rfl⟩) λ_ _ _=>rfl
theorem La (hm:j6 g m S w)(hS: ∀b,S b->S2 b){c sz:Nat}{t:Ty}{xs:List t.D}(T:lk c m=some (.seq t xs)){v:ο}(hv:CR g m S w (.cZ c 0 sz 0) v):
 ∃A,zx S2 w t [v] xs A/\j7 g m [c] A/\ ∀(w':Ε) (U SU:Nat->Prop) (j:List t.D),(t.jd=true\/ ∀b,U b->SU b)->zx U w' t [v] j A->cy t xs j->oy g m SU w' [(c,.seq t j)]:=by
 obtain ⟨_,b,R,ev⟩:=hv;have o:=hm c _ T;unfold jc at o;have R:g.f c []=some b:=R;rw [R] at o;obtain ⟨arr,r,qU⟩:=o;refine ⟨[g.f c],⟨g.f c,b,arr,rfl,by rw [ev];simp,R,r,qU.bt (λb r=>⟨hS b r,rfl⟩) λ_ _ _=>rfl⟩,⟨[some c],rfl,by simp,λk hk=>by simp at hk;subst hk;exact ⟨t,xs,T⟩⟩,λw' U SU j I ho hsh p hp=> ?_⟩;simp at hp;subst hp;refine ⟨t,xs,T,.inr ⟨j,rfl,hsh,?_⟩⟩;obtain ⟨γ,b2,J,e1,_,h0,q3,q6⟩:=ho;injection e1 with e1;subst e1;simp only [h0];refine ⟨J,q3,?_⟩;rcases I with I|I
 exact q6.jd I;exact q6.bt (λb r=>⟨I b r,rfl⟩) λ_ _ _=>rfl
theorem Aq (hm:j6 g m S w)(hS: ∀b,S b->S2 b): ∀(t:Ty) {p:List bs} {x:t.D} {r r':List bs} {ks:List Nat} {vs:List ο},
 impl m t p=some (x,r)->dG m t p=some (ks,r')->bN (CR g m S w) p vs->
 ∃v1 v2 A,vs=v1++v2/\dt S2 w t v1 x A/\bN (CR g m S w) r v2/\r'=r/\j7 g m ks A/\(∀k∈ks,∃t xs,lk k m=some (.seq t xs))/\
  ∀(w':Ε) (SO SU:Nat->Prop) (x':t.D) (u:Mem) (J:List bs),(∀b arr,dm w b arr-> ∃dZ,dm w' b dZ/\dZ.size=arr.size)->(t.kM=true\/ ∀b,SO b->SU b)->ox t p x'=some (u,J)->dt SO w' t v1 x' A->sN t x x'->
   u.map aas=ks/\oy g m SU w' u/\J=r:=by
 have H4: ∀(t:Ty) (hp: ∀cs x A,A=[]/\bT S2 w t cs x->dt S2 w t cs x A) (R: ∀p x' u J,ox t p x'=some (u,J)->(match p with| .bp _ _::r=>some (([]:Mem),r)|_=>none)=some (u,J))
  {p:List bs} {x:t.D} {r r':List bs} {ks:List Nat} {vs:List ο},
  dc m t p=some (x,r)->(match p with| .bp _ _::r=>some ([],r)|_=>none)=some (ks,r')->bN (CR g m S w) p vs->
  ∃v1 v2 A,vs=v1++v2/\dt S2 w t v1 x A/\bN (CR g m S w) r v2/\r'=r/\j7 g m ks A/\(∀k∈ks,∃t xs,lk k m=some (.seq t xs))/\
  ∀(w':Ε) (SO SU:Nat->Prop) (x':t.D) (u:Mem) (J:List bs),(∀b arr,dm w b arr-> ∃dZ,dm w' b dZ/\dZ.size=arr.size)->(t.kM=true\/ ∀b,SO b->SU b)->ox t p x'=some (u,J)->dt SO w' t v1 x' A->sN t x x'->
   u.map aas=ks/\oy g m SU w' u/\J=r:=by
  intro t hp R p x r r' ks vs o j I;split at j;rename_i t' y r0;injection j with j;injection j with T U;subst T;subst U;cases vs with
  |nil=>exact I.elim
  |cons v vs=>
   simp only [dc] at o;split at o;rename_i z hz;injection o with o;injection o with T U;subst T;subst U;refine ⟨[v],vs,[],rfl,hp _ _ _ ⟨rfl,?_⟩,I.2,rfl,j7.nil,by simp,λw' SO SU x' u J _ _ h _ _=> ?_⟩;refine qS (m0:=[]) hS afM (c:= .bp t' y) ?_ I.1;simp only [dF] at hz⊢;exact hz;have:=R _ _ _ _ h;simp at this;obtain ⟨T,U⟩:=this;subst T;subst U;exact ⟨rfl,oy.nil,rfl⟩;cases o
  cases j
 intro t;induction t with
 |int k=>intro p x r r' ks vs o j I;exact H4 (.int k) (λ_ _ _ h=>h) (λ_ _ _ _ h=>h) o j I
 |dB k=>intro p x r r' ks vs o j I;exact H4 (.dB k) (λ_ _ _ h=>h) (λ_ _ _ _ h=>h) o j I
 |bool=>intro p x r r' ks vs o j I;exact H4 .bool (λ_ _ _ h=>h) (λ_ _ _ _ h=>h) o j I
 |str=>intro p x r r' ks vs o j I;exact H4 .str (λ_ _ _ h=>h) (λ_ _ _ _ h=>h) o j I
 |cl f t _=>intro p x r r' ks vs o j I;exact H4 (.cl f t) (λ_ _ _ h=>h) (λ_ _ _ _ h=>h) o j I
 |st t ih=>intro p x r r' ks vs o j I;exact ih o j I
 |pair a b Od Oe=>
  intro p x r r' ks vs o j I;simp only [impl] at o;simp only [dG] at j;split at o;rename_i y r1 T;split at o;rename_i z r2 U;injection o with o;injection o with k1 k2;subst k1;subst k2;split at j;rename_i XS r3 e3;split at j;rename_i XT r4 e4;injection j with j;injection j with k3 k4;subst k3;subst k4;obtain ⟨v1,v2,A1,rfl,o1,a1,q1,s1,p1,n1⟩:=Od T e3 I;subst q1;obtain ⟨v3,v4,A2,rfl,o2,a2,q2,s2,p2,n2⟩:=Oe U e4 a1;refine ⟨v1++v3,v4,A1++A2,by simp,⟨v1,v3,_,_,rfl,rfl,o1,o2⟩,a2,q2,s1.app s2,λk hk=> ?_,λw' SO SU x' u J nu hf R ho hsh=> ?_⟩;rcases Λ.1 hk with hk|hk
  exact p1 k hk;exact p2 k hk;simp only [ox] at R;have M8:a.kM=true\/ ∀b,SO b->SU b:=hf.imp_left λhf=>by simp only [Ty.kM,κ] at hf;exact hf.1
  have YW:b.kM=true\/ ∀b,SO b->SU b:=hf.imp_left λhf=>by simp only [Ty.kM,κ] at hf;exact hf.2
  split at R;rename_i u1 r5 e5;split at R;rename_i u2 r6 e6;injection R with R;injection R with k5 k6;subst k5;subst k6;obtain ⟨c1,c2,B1,B2,ec,eA,o3,o4⟩:=ho;obtain ⟨rfl,rfl⟩:=af7 ec (by rw [dt.len a o1,dt.len a o3]);obtain ⟨rfl,rfl⟩:=af7 eA (by rw [dt.sO a o1,dt.sO a o3]);obtain ⟨g1,g2,g3⟩:=n1 w' SO SU x'.1 u1 r5 nu M8 e5 o3 hsh.1;subst g3;obtain ⟨g4,g5,g6⟩:=n2 w' SO SU x'.2 u2 r6 nu YW e6 o4 hsh.2;exact ⟨by simp [g1,g4],g2.app g5,g6⟩;cases R;cases R;cases j;cases j;cases o;cases o
 |sl t ih=>
  intro p x r r' ks vs o j I;simp only [dG] at j;split at j;rename_i c r0;cases vs with
  |nil=>exact I.elim
  |cons v vs=>
   simp only [impl,dc] at o;split at o;rename_i z hz;injection o with o;injection o with T U;subst T;subst U;simp only [dF] at hz;split at hz;rename_i e' xs hl;rw [hl] at j;simp only at j;split at j;rename_i he;subst he;injection j with j;injection j with T U;subst T;subst U;rw [dif_pos rfl] at hz;injection hz with hz;subst hz;obtain ⟨A,f1,f2,f3⟩:=H3 hm hS hl I.1;refine ⟨[v],vs,A,rfl,f1,I.2,rfl,f2,λk hk=>by simp at hk;subst hk;exact ⟨_,_,hl⟩,λw' SO SU x' u J nu hf R ho hsh=> ?_⟩;simp only [ox] at R;injection R with R;injection R with T U;subst T;subst U;exact ⟨rfl,f3 w' SO SU x' nu hf ho hsh,rfl⟩;cases j;cases hz;cases o
  rename_i r0;injection j with j;injection j with T U;subst T;subst U;cases vs with
  |nil=>exact I.elim
  |cons v vs=>
   simp only [impl,dc,dF] at o;injection o with o;injection o with T U;subst T;subst U;obtain ⟨a,ha⟩:=I.1;subst ha;refine ⟨[.slice a 0 0],vs,[λ_=>none],rfl,.inl ⟨rfl,rfl,a,rfl⟩,I.2,rfl,⟨[none],rfl,by simp,by simp⟩,by simp,λw' SO SU x' u J nu hf R ho hsh=> ?_⟩;simp only [ox] at R;injection R with R;injection R with T U;subst T;subst U;exact ⟨rfl,oy.nil,rfl⟩
  cases j
 |own t ih=>
  intro p x r r' ks vs o j I;simp only [dG] at j;split at j;simp [impl,dc,dF] at o;simp [impl,dc,dF] at o;cases j
 |bx t ih=>
  intro p x r r' ks vs o j I;simp only [dG] at j;split at j;rename_i c i sz off r0;cases vs with
  |nil=>exact I.elim
  |cons v vs=>
   simp only [impl,dc] at o;split at o;rename_i z hz;injection o with o;injection o with T U;subst T;subst U;simp only [dF] at hz;split at hz;rename_i e' xs hl;rw [hl] at j;simp only at j;split at j;rename_i he;subst he;injection j with j;injection j with T U;subst T;subst U;rw [dif_pos rfl] at hz;cases hb:(Α i 0&&(Α off 0&&Α sz e'.size)) with
   |false=>rw [hb] at hz;cases hz
   |true=>
    rw [hb] at hz;simp only [cond_true] at hz;injection hz with hz;subst hz;simp only [κ] at hb;have hi:=abc hb.1;have ho:=abc hb.2.1;subst hi;subst ho;obtain ⟨A,f1,f2,f3⟩:=La hm hS hl I.1;refine ⟨[v],vs,A,rfl,f1,I.2,rfl,f2,λk hk=>by simp at hk;subst hk;exact ⟨_,_,hl⟩,λw' SO SU x' u J nu hf R ho hsh=> ?_⟩;simp only [ox] at R;injection R with R;injection R with T U;subst T;subst U;exact ⟨rfl,f3 w' SO SU x' hf ho hsh,rfl⟩
   cases j;cases hz;cases o
  cases j
theorem o8 {m:Mem}: ∀(t:Ty) (cs:List bs) {p:List Nat×List bs},dG m t cs=some p->lb t cs=some p
 | .int _,_,_,h=>h
 | .dB _,_,_,h=>h
 | .bool,_,_,h=>h
 | .str,_,_,h=>h
 | .cl _ _,_,_,h=>h
 | .sl t,cs,p,h=>by
  simp only [dG] at h;simp only [lb];split at h;split at h;split at h;exact h;cases h;cases h;exact h;cases h
 | .own t,cs,p,h=>by
  simp only [dG] at h;simp only [lb];split at h;split at h;split at h;exact h;cases h;cases h;exact h;cases h
 | .bx t,cs,p,h=>by
  simp only [dG] at h;simp only [lb];split at h;split at h;split at h;exact h;cases h;cases h;cases h
 | .st t,cs,p,h=>o8 t cs h
 | .pair a b,cs,p,h=>by
  simp only [dG] at h;simp only [lb];split at h;rename_i x r j;rw [o8 a cs j];simp only;split at h;rename_i y I o;rw [o8 b r o];exact h;cases h;cases h
end
end Go.Ide
namespace Go.Ide
theorem dR: ∀(l:List Chunk) (n k:Nat),lk k (cm n l)=if n<=k then l[k - n]? else none
 |[],n,k=>by simp [cm,fO]
 |c::r,n,k=>by
  simp only [cm];rw [bB,dR r (n+1) k];by_cases h:k=n;subst h;simp;rw [if_neg h];by_cases j:n<=k;rw [if_pos j,if_pos (by omega),show k - n=(k - (n+1))+1 from by omega];simp;rw [if_neg j,if_neg (by omega)]
theorem qL: ∀(l:List Chunk) (n:Nat),(cm n l).length=l.length
 |[],_=>rfl
 |_::r,n=>by simp [cm,qL r (n+1)]
structure Laid (g':GM)(m':Mem)(S':Nat->Prop)(w:Ε)(n:Nat)(XU:List Chunk)(BL:List (List Nat->Option Nat)):Prop where
 len:BL.length=XU.length
 chunk: ∀(j:Nat) (ch:Chunk),XU[j]? =some ch->ch≠ .gone/\ ∃o,BL[j]? =some o/\jc g' m' S' w o ch
theorem Laid.app {g':GM}{m':Mem}{S':Nat->Prop}{w:Ε}{n R:Nat}{t c2:List Chunk}{a1 a2:List (List Nat->Option Nat)}(o:Laid g' m' S' w n t a1)(I:Laid g' m' S' w R c2 a2):
 Laid g' m' S' w n (t++c2) (a1++a2):=by
 refine ⟨by simp [o.len,I.len],λj J r=> ?_⟩;by_cases p:j<t.length;rw [Μ p] at r;rw [Μ (by rw [o.len];exact p)];exact o.chunk j J r;rw [Κ (by omega)] at r;rw [Κ (by rw [o.len];omega),o.len];exact I.chunk _ J r
section
variable {S:Nat->Prop} {w:Ε}
theorem B0 {t:Ty}{cs:List ο}{xs:List t.D}{A:List (List Nat->Option Nat)}(n:Nat)(h:fX S w t cs xs A):
 ∀(g':GM) (m':Mem),(∀j ch,[Chunk.seq t xs][j]? =some ch->lk (n+j) m'=some ch)->(∀j o,A[j]? =some o->g'.f (n+j)=o)->
  bN (CR g' m' S w) [.all n] cs/\Laid g' m' S w n [.seq t xs] A:=by
 rcases h with ⟨T,hx,a,e⟩|⟨v,γ,T,e,b,cap,arr,h0,ev,h1,h2,h3,h4,h5,h6⟩
 subst T;subst e;subst hx;intro g' m' U hg;have r:=U 0 _ rfl;have p:=hg 0 _ rfl;rw [ϧ] at r p;refine ⟨⟨⟨by rw [r];simp,rfl,λt' ig I=> ?_⟩,trivial⟩,rfl,λj ch J=> ?_⟩;have:g' n=none:=congrFun p [];have e:=ady r I;rw [r] at e;injection e with e;injection e with e1 R;subst e1;have R:=eq_of_heq R;subst R;rw [this];exact ⟨a,rfl⟩;have:j=0:=by
  have:=(ψ.1 J).1;simp at this;exact this
 subst this;simp at J;subst J;exact ⟨by simp,_,rfl,rfl⟩;subst T;subst e;subst ev;intro g' m' U hg;have r:=U 0 _ rfl;have p:=hg 0 _ rfl;rw [ϧ] at r p;refine ⟨⟨⟨by rw [r];simp,rfl,λt' ig I=> ?_⟩,trivial⟩,rfl,λj ch J=> ?_⟩;have e:=ady r I;rw [r] at e;injection e with e;injection e with e1 R;subst e1;have R:=eq_of_heq R;subst R;have:g' n=some b:=(congrFun p []).trans h0;rw [this];exact ⟨cap,arr,rfl,h1,h3,h4,h5⟩;have:j=0:=by
  have:=(ψ.1 J).1;simp at this;exact this
 subst this;simp at J;subst J;refine ⟨by simp,γ,rfl,?_⟩;unfold jc;rw [h0];exact ⟨arr,h3,h6⟩
theorem H5 {t:Ty}{cs:List ο}{xs:List t.D}{A:List (List Nat->Option Nat)}(n:Nat)(h:zx S w t cs xs A):
 ∀(g':GM) (m':Mem),(∀j ch,[Chunk.seq t xs][j]? =some ch->lk (n+j) m'=some ch)->(∀j o,A[j]? =some o->g'.f (n+j)=o)->
  bN (CR g' m' S w) [.cZ n 0 t.size 0] cs/\Laid g' m' S w n [.seq t xs] A:=by
 obtain ⟨γ,b,arr,R,e,I,T,U⟩:=h;subst R;subst e;intro g' m' hm hg;have J:=hm 0 _ rfl;have p:=hg 0 _ rfl;rw [ϧ] at J p;refine ⟨⟨⟨by rw [J];simp,b,(congrFun p []).trans I,by simp⟩,trivial⟩,rfl,λj ch r=> ?_⟩;have:j=0:=by
  have:=(ψ.1 r).1;simp at this;exact this
 subst this;simp at r;subst r;refine ⟨by simp,γ,rfl,?_⟩;unfold jc;rw [I];exact ⟨arr,T,U⟩
theorem ff: ∀(t:Ty) (x:t.D) (n:Nat),(cN t x n).2.length=t.zy
 | .int _,_,_=>rfl
 | .dB _,_,_=>rfl
 | .bool,_,_=>rfl
 | .str,_,_=>rfl
 | .sl _,_,_=>rfl
 | .bx _,_,_=>rfl
 | .cl _ _,_,_=>rfl
 | .own _,_,_=>rfl
 | .st t,x,n=>ff t x n
 | .pair a b,x,n=>by simp only [cN,ω,ff a,ff b];rfl
theorem pH: ∀(t:Ty) {cs:List ο} {x:t.D} {A:List (List Nat->Option Nat)} (n:Nat),dt S w t cs x A->
 ∀(g':GM) (m':Mem),(∀j ch,(cN t x n).2[j]? =some ch->lk (n+j) m'=some ch)->(∀j o,A[j]? =some o->g'.f (n+j)=o)->
  bN (CR g' m' S w) (cN t x n).1 cs/\Laid g' m' S w n (cN t x n).2 A
 | .int _,_,_,_,n,⟨r,h⟩=>by
  subst r;subst h;exact λg' m' _ _=>⟨⟨rfl,trivial⟩,rfl,λj ch p=>by simp [cN] at p⟩
 | .dB _,_,_,_,n,⟨r,b,e,h⟩=>by
  subst r;subst e;exact λg' m' _ _=>⟨⟨⟨b,rfl,h⟩,trivial⟩,rfl,λj ch p=>by simp [cN] at p⟩
 | .bool,_,_,_,n,⟨r,h⟩=>by
  subst r;subst h;exact λg' m' _ _=>⟨⟨rfl,trivial⟩,rfl,λj ch p=>by simp [cN] at p⟩
 | .str,_,_,_,n,⟨r,h⟩=>by
  subst r;subst h;exact λg' m' _ _=>⟨⟨rfl,trivial⟩,rfl,λj ch p=>by simp [cN] at p⟩
 | .st t,_,_,_,n,h=>pH t (cs:=_) n h
 | .pair a b,_,x,_,n,⟨c1,c2,U,A2,e1,e2,I,h2⟩=>by
  subst e1;subst e2;intro g' m' J R;have l1:U.length=(cN a x.1 n).2.length:=by rw [ff,dt.sO a I]
  obtain ⟨p1,q1⟩:=pH a n I g' m' (λj ch p=>J j ch (by
   simp only [cN];rw [Μ (ψ.1 p).1];exact p)) (λj o p=>R j o (by
   rw [Μ (ψ.1 p).1];exact p))
  obtain ⟨p2,q2⟩:=pH b (n+(cN a x.1 n).2.length) h2 g' m' (λj ch p=>by
   rw [Ϡ];refine J _ ch ?_;simp only [cN];rw [Κ (by omega)];simpa using p) (λj o p=>by
   rw [Ϡ];refine R _ o ?_;rw [Κ (by omega),l1];simpa using p)
  exact ⟨p1.append p2,q1.app q2⟩
 | .sl t,_,T,_,n,h=>B0 n h
 | .bx t,_,T,_,n,h=>H5 n h
 | .cl f t,_,_,_,n,⟨r,vs,ps,e,h⟩=>by
  subst r;subst e;exact λg' m' _ _=>⟨⟨⟨vs,ps,rfl,h⟩,trivial⟩,rfl,λj ch p=>by simp [cN] at p⟩
 | .own t,_,T,_,n,h=>B0 n h
theorem B3 {g':GM}{m':Mem}{t:Ty}{cs:List ο}{j:List bs}{v:ο}(h:dC t cs v)(p:bN (CR g' m' S w) j cs):CV g' m' S w t.sk j v:=by
 unfold dC at h;unfold CV;cases o:t.sk with
 |true=>rw [o] at h;simp at h;exact ⟨cs,h,p⟩
 |false=>
  rw [o] at h;simp at h;subst h;cases j with
  |nil=>exact p.elim
  |cons c r=>
   cases r with
   |nil=>exact p.1
   |cons=>exact p.2.elim
theorem zz: ∀{rs:List RV} {vs:List ο} {A:List (List Nat->Option Nat)} (n:Nat),nv S w rs vs A->A.length=(lq rs n).2.length/\
 ∀(g':GM) (m':Mem),(∀j ch,(lq rs n).2[j]? =some ch->lk (n+j) m'=some ch)->(∀j o,A[j]? =some o->g'.f (n+j)=o)->
  bN (λ(t:Bool×List bs) v=>CV g' m' S w t.1 t.2 v) (lq rs n).1 vs/\Laid g' m' S w n (lq rs n).2 A
 |[],[],A,n,h=>by
  have:A=[]:=h;subst this;exact ⟨rfl,λ_ _ _ _=>⟨trivial,rfl,λj ch I=>by simp [lq] at I⟩⟩
 |r::rs,v::vs,A,n,⟨U,A2,e,T,h2⟩=>by
  subst e;have head: ∃p:List bs×List Chunk,p=(if r.fresh then cN r.t r.x n else (gE r.t r.x,[]))/\U.length=p.2.length/\
   ∀(g':GM) (m':Mem),(∀j ch,p.2[j]? =some ch->lk (n+j) m'=some ch)->(∀j o,U[j]? =some o->g'.f (n+j)=o)->CV g' m' S w r.t.sk p.1 v/\Laid g' m' S w n p.2 U:=by
   unfold wQ at T;split at T;rename_i hf;obtain ⟨cs,hv,ho⟩:=T;refine ⟨cN r.t r.x n,by rw [if_pos hf],by rw [ff,dt.sO _ ho],λg' m' J R=> ?_⟩;obtain ⟨p1,q1⟩:=pH r.t n ho g' m' J R;exact ⟨B3 hv p1,q1⟩;rename_i hf;obtain ⟨hF,cs,hv,hr⟩:=T;subst hF;refine ⟨(gE r.t r.x,[]),by rw [if_neg hf],rfl,λg' m' J R=>⟨B3 hv (lg r.t hr),rfl,λj ch I=>by simp at I⟩⟩
  obtain ⟨p,hp,l1,k1⟩:=head;obtain ⟨l2,k2⟩:=zz (n+p.2.length) h2;have e2:(lq (r::rs) n).2=p.2++(lq rs (n+p.2.length)).2:=by rw [hp];rfl
  have e1:(lq (r::rs) n).1=(r.t.sk,p.1)::(lq rs (n+p.2.length)).1:=by rw [hp];rfl
  refine ⟨by rw [e2];simp [l1,l2],λg' m' J R=> ?_⟩;rw [e2] at J⊢;rw [e1];obtain ⟨p1,q1⟩:=k1 g' m' (λj ch I=>J j ch (by
   rw [Μ (ψ.1 I).1];exact I)) (λj o I=>R j o (by
   rw [Μ (ψ.1 I).1];exact I))
  obtain ⟨p2,q2⟩:=k2 g' m' (λj ch I=>by
   rw [Ϡ];refine J _ ch ?_;rw [Κ (by omega)];simpa using I) (λj o I=>by
   rw [Ϡ];refine R _ o ?_;rw [Κ (by omega),l1];simpa using I)
  exact ⟨⟨p1,p2⟩,q1.app q2⟩
 |[],_::_,_,_,h=>h.elim
 |_::_,[],_,_,h=>h.elim
theorem Lb {g':GM}{m':Mem}{l:List (Bool×List bs)}{vs:List ο}{v:ο}(h:bN (λ(t:Bool×List bs) v=>CV g' m' S w t.1 t.2 v) l vs)(j:BZ vs v):VR g' m' S w (Gy l) v:=by
 match l,vs with
 |[],[]=>exact ⟨[],j,trivial⟩
 |[(true,cs)],[u]=>
  have j:v=u:=j;subst j;exact h.1
 |[(false,[c])],[u]=>
  have j:v=u:=j;subst j;exact h.1
 |[(false,[])],[u]=>exact h.1.elim
 |[(false,_::_::_)],[u]=>exact h.1.elim
 |(o,p)::r::I,J::R::T=>
  have e:Gy ((o,p)::r::I)= .Ab ((o,p)::r::I):=by
   cases o<;>rcases p with _|⟨x,_|⟨y,U⟩⟩<;>rfl
  rw [e];exact ⟨J::R::T,j,h⟩
 |[],_::_=>exact h.elim
 |[_],[]=>exact h.elim
 |[_],_::_::_=>exact h.2.elim
 |_::_::_,[]=>exact h.elim
 |_::_::_,[_]=>exact h.2.elim
end
end Go.Ide
namespace Go.Ide
section
variable {g:GM} {m:Mem} {S S2:Nat->Prop} {w:Ε}
theorem pI (hm:j6 g m S w)(hS: ∀b,S b->S2 b){mA mB m2:Mem}(hR:ij g m m2 S2 w)(hA:mB=[]\/mB=m)(Gz: ∀c cs b,lk c mB=some (.box cs)->g c=some b->S2 b):
 ∀{ms:List Mode} {vs:List bu} {vals:List ο} {asx:List Arg} {ks:List Nat} {up:Mem} {outs:List TD},(mA=m\/jU ms=true)->
  dp mA mB m2 ms vs=some asx->dI m ms vs=some ks->dO ms vs outs=some up->bN (VR g m S w) vs vals->
  ∃Fs:List (List (List Nat->Option Nat)),o7 S2 w asx vals Fs/\j7 g m ks Fs.flatten/\
   (∀(w':Ε) (SO SU:Nat->Prop),(∀b arr,dm w b arr-> ∃dZ,dm w' b dZ/\dZ.size=arr.size)->(fp ms=true\/jU ms=true\/ ∀b,SO b->SU b)->il SO w' asx vals Fs outs->up.map aas=ks/\oy g m SU w' up)/\
   (∀b,tO b asx Fs-> ∃k p t xs,g.f k p=some b/\lk k m=some (.seq t xs)/\(k,Chunk.gone)∈up)
 |[],[],vals,asx,ks,up,outs,_,J,h2,U,h4=>by
  cases vals with
  |cons=>exact h4.elim
  |nil=>
   simp only [dp] at J;injection J with J;subst J;simp only [dI] at h2;injection h2 with h2;subst h2;cases outs with
   |cons=>simp [dO] at U
   |nil=>
    simp only [dO] at U;injection U with U;subst U;exact ⟨[],trivial,j7.nil,λ_ _ _ _ _ _=>⟨rfl,λp hp=>by simp at hp⟩,λb hb=>by simp [tO] at hb⟩
 |md::ms,v::vs,[],asx,ks,up,outs,_,J,h2,U,h4=>h4.elim
 |md::ms,v::vs,u::vals,asx,ks,up,outs,aa,J,h2,U,h4=>by
  have other: ∀(Of: ∀t,md≠ .own t) (ab: ∀t,md≠ .mv t),∃Fs:List (List (List Nat->Option Nat)),o7 S2 w asx (u::vals) Fs/\j7 g m ks Fs.flatten/\
   (∀(w':Ε) (SO SU:Nat->Prop),(∀b arr,dm w b arr-> ∃dZ,dm w' b dZ/\dZ.size=arr.size)->(fp (md::ms)=true\/jU (md::ms)=true\/ ∀b,SO b->SU b)->il SO w' asx (u::vals) Fs outs->up.map aas=ks/\oy g m SU w' up)/\
   (∀b,tO b asx Fs-> ∃k p t xs,g.f k p=some b/\lk k m=some (.seq t xs)/\(k,Chunk.gone)∈up):=by
   intro Of ab;have e1:dp mA mB m2 (md::ms) (v::vs)=(match oU mB m2 md v,dp mA mB m2 ms vs with|some a,some asx=>some (a::asx)|_,_=>none):=by
    cases md<;>first|rfl|exact absurd rfl (Of _)|exact absurd rfl (ab _)
   have e2:dI m (md::ms) (v::vs)=dI m ms vs:=by cases md<;>first|rfl|exact absurd rfl (Of _)|exact absurd rfl (ab _)
   have e3:dO (md::ms) (v::vs) outs=dO ms vs outs:=by cases md<;>first|rfl|exact absurd rfl (Of _)|exact absurd rfl (ab _)
   have e4:fp (md::ms)=fp ms:=by cases md<;>first|rfl|exact absurd rfl (Of _)|exact absurd rfl (ab _)
   have e5:jU (md::ms)=jU ms:=by cases md<;>first|rfl|exact absurd rfl (Of _)|exact absurd rfl (ab _)
   rw [e1] at J;rw [e2] at h2;rw [e3] at U;split at J;rename_i a Rr r has;injection J with J;subst J;obtain ⟨Fs,k1,k2,k5,k6⟩:=pI hm hS hR hA Gz (by rw [<-e5];exact aa) has h2 U h4.2;have Lc:yP S2 w a u []/\(∀t x,a≠ .own t x)/\(∀t x,a≠ .mv t x):=by
    have hv:=h4.1;have bP: ∀t,md= .bP t->yP S2 w a u []/\(∀t x,a≠ .own t x)/\(∀t x,a≠ .mv t x):=by
     intro t e;subst e;have r:iI m2 (.bP t) v=some a:=r;simp only [iI] at r;split at r;rename_i x I;injection r with r;subst r;obtain ⟨cs,q1,q2⟩:=mY hS hR I hv;exact ⟨⟨rfl,cs,q1,q2⟩,(λ_ _ e=>by cases e),λ_ _ e=>by cases e⟩;cases r
    have zq: ∀t t' x off,iI m2 (.fW t) (.one (.ip t' x off))=some a->VR g m S w (.one (.ip t' x off)) u->yP S2 w a u []/\(∀t x,a≠ .own t x)/\(∀t x,a≠ .mv t x):=by
     intro t t' x off r hv;simp only [iI] at r;split at r;rename_i y hy;injection r with r;subst r;obtain ⟨ad,es,e,hs,gF,lh⟩:=hv;have ae:bN (CR g m S w) (gE t' x) es:=lg t' lh;obtain ⟨v1,v2,e2,r1,r2⟩:=ju hS hR t hy ((ae.drop off).take t.size);have:v2=[]:=by cases v2 with|nil=>rfl|cons=>exact r2.elim
     subst this;refine ⟨⟨rfl,ad.add off,v1,e,by rw [fm];exact hS _ hs,λj q hq=> ?_,r1⟩,(λ_ _ e=>by cases e),λ_ _ e=>by cases e⟩;rw [add_add];rw [ϴ] at e2;rw [<-e2,ϐ] at hq;split at hq;exact gF _ q (by simpa using hq);cases hq;cases r
    cases md with
    |own t=>exact absurd rfl (Of t)
    |mv t=>exact absurd rfl (ab t)
    |nl=>
     cases v with
     |one c=>
      cases c with
      |br=>
       simp only [oU,iI] at r;injection r with r;subst r;exact ⟨⟨rfl,hv⟩,(λ_ _ e=>by cases e),λ_ _ e=>by cases e⟩
      |_=>simp [oU,iI] at r
     |_=>simp [oU,iI] at r
    |bP t=>exact bP t rfl
    |fn=>
     cases v with
     |one c=>
      cases c with
      |fn f=>
       simp only [oU,iI] at r;injection r with r;subst r;exact ⟨⟨rfl,hv⟩,(λ_ _ e=>by cases e),λ_ _ e=>by cases e⟩
      |_=>simp [oU,iI] at r
     |_=>simp [oU,iI] at r
    |jb t=>
     cases v with
     |one c=>
      cases c with
      |jb f t' x=>
       simp only [oU,iI] at r;split at r;rename_i e;subst e;injection r with r;subst r;obtain ⟨ad,es,e,hs,gF,lh⟩:=hv;exact ⟨⟨rfl,ad,es,e,hS _ hs,gF,abi (λb hb=>⟨hS b hb,rfl⟩) _ es x lh⟩,(λ_ _ e=>by cases e),λ_ _ e=>by cases e⟩;cases r
      |_=>simp [oU,iI] at r
     |_=>simp [oU,iI] at r
    |fW t=>
     cases v with
     |one c=>
      cases c with
      |ip t' x off=>exact zq t t' x off r hv
      |ptr c off=>
       simp only [oU] at r;split at r;rename_i cs hl;split at r;rename_i y hy;injection r with r;subst r;obtain ⟨_,b,hg,e⟩:=hv;have XV:lk c m=some (.box cs):=by
        rcases hA with hA|hA
        rw [hA] at hl;simp [fO] at hl;rw [<-hA];exact hl
       obtain ⟨b',arr,om,hblk,ae⟩:=hm c _ XV;rw [show g.f c []=some b from hg] at om;injection om with om;subst om;obtain ⟨v1,v2,e2,r1,r2⟩:=ju hS hR t hy ((ae.drop off).take t.size);have:v2=[]:=by cases v2 with|nil=>rfl|cons=>exact r2.elim
       subst this;refine ⟨⟨rfl,⟨b,off,none⟩,v1,e,Gz c cs b hl hg,λj q hq=> ?_,r1⟩,(λ_ _ e=>by cases e),λ_ _ e=>by cases e⟩;rw [ca,hblk.cell];rw [ϴ] at e2;rw [<-e2,ϐ] at hq;split at hq;simpa using hq;cases hq;cases r;cases r
      |_=>simp [oU,iI] at r
     |_=>simp [oU,iI] at r
   refine ⟨[]::Fs,⟨Lc.1,k1⟩,by simpa using k2,λw' SO SU nu R ho=> ?_,λb hb=> ?_⟩;refine k5 w' SO SU nu (by rw [e4,e5] at R;exact R) ?_;cases a with
   |own t x=>exact absurd rfl (Lc.2.1 t x)
   |mv t x=>exact absurd rfl (Lc.2.2 t x)
   |bP t x=>exact ho
   |fW t x=>exact ho
   |fn f=>exact ho
   |jb f t x=>exact ho
   |nl=>exact ho
   refine k6 b ?_;cases a with
   |mv t x=>exact absurd rfl (Lc.2.2 t x)
   |_=>exact hb
   cases J
  cases md with
  |bP t=>exact other (λ_ e=>by cases e) (λ_ e=>by cases e)
  |fW t=>exact other (λ_ e=>by cases e) (λ_ e=>by cases e)
  |fn=>exact other (λ_ e=>by cases e) (λ_ e=>by cases e)
  |jb t=>exact other (λ_ e=>by cases e) (λ_ e=>by cases e)
  |nl=>exact other (λ_ e=>by cases e) (λ_ e=>by cases e)
  |mv t=>
   have Rs:mA=m:=by
    rcases aa with aa|aa
    exact aa;cases aa
   simp only [dp] at J;split at J;rename_i a Rr r has;injection J with J;subst J;simp only [iI] at r;split at r;rename_i x I;rw [Rs] at I;injection r with r;subst r;simp only [dI] at h2;split at h2;rename_i XS XT GA sy;injection h2 with h2;subst h2;simp only [dO] at U;split at U;rename_i YX u2 GC UR;rw [o8 t _ GA] at GC;injection GC with GC;injection GC with GC _;subst GC;injection U with U;subst U;obtain ⟨Fs,k1,k2,k5,k6⟩:=pI hm hS hR hA Gz (.inl Rs) has sy UR h4.2;have sP: ∃ah,dC t ah u/\bN (CR g m S w) v.cells ah/\impl m t v.cells=some (x,[]):=by
    have hv:=h4.1;unfold j5 at I;split at I;rename_i c af;split at I;rename_i y hy;injection I with I;subst I;exact ⟨[u],by simp [dC,af],⟨hv,trivial⟩,hy⟩;cases I;rename_i cs af;split at I;rename_i y hy;injection I with I;subst I;obtain ⟨GD,e,so⟩:=hv;exact ⟨GD,by simp [dC,af,e],so,hy⟩;cases I;cases I
   obtain ⟨ah,ag,ae,himp⟩:=sP;obtain ⟨v1,v2,F1,e1,o1,a1,q1,s1,p1,n1⟩:=Aq hm hS t himp GA ae;have:v2=[]:=by cases v2 with|nil=>rfl|cons=>exact a1.elim
   subst this;rw [ϴ] at e1;subst e1;have Ld:=p1;refine ⟨F1::Fs,⟨⟨ah,ag,o1⟩,k1⟩,by simpa using s1.app k2,λw' SO SU nu R ho=> ?_,λb hb=> ?_⟩;have R:fp ms=true\/jU ms=true\/ ∀b,SO b->SU b:=by
    rcases R with R|R|R
    exact .inl R;cases R;exact .inr (.inr R)
   obtain ⟨g3,g4⟩:=k5 w' SO SU nu R ho;refine ⟨by simp [g3,List.map_map,Function.comp_def],λp hp=> ?_⟩;rcases Λ.1 hp with hp|hp
   obtain ⟨k,hk,rfl⟩:=ϟ.1 hp;obtain ⟨t',ig,uA⟩:=Ld k hk;exact ⟨t',ig,uA,.inl rfl⟩;exact g4 p hp;rcases hb with ⟨γ,hγ,p,hp⟩|hb
   obtain ⟨k,hk,p,t',ig,q1,q2⟩:=s1.dm hγ hp;exact ⟨k,p,t',ig,q1,q2,Λ.2 (.inl (ϟ.2 ⟨k,hk,rfl⟩))⟩;obtain ⟨k,p,t',ig,q1,q2,q3⟩:=k6 b hb;exact ⟨k,p,t',ig,q1,q2,Λ.2 (.inr q3)⟩;cases U;cases h2;cases r;cases J
  |own t=>
   have Rs:mA=m:=by
    rcases aa with aa|aa
    exact aa;cases aa
   simp only [dp] at J;split at J;rename_i a Rr r has;injection J with J;subst J;simp only [iI] at r;split at r;rename_i x I;rw [Rs] at I;injection r with r;subst r;simp only [dI] at h2;split at h2;rename_i XS XT GA sy;injection h2 with h2;subst h2;cases outs with
   |nil=>simp [dO] at U
   |cons o outs=>
    simp only [dO] at U;split at U;rename_i ht;split at U;rename_i u1 u2 YY UR;injection U with U;subst U;obtain ⟨Fs,k1,k2,k5,k6⟩:=pI hm hS hR hA Gz (.inl Rs) has sy UR h4.2;have sP: ∃ah,dC t ah u/\bN (CR g m S w) v.cells ah/\impl m t v.cells=some (x,[]):=by
     have hv:=h4.1;unfold j5 at I;split at I;rename_i c af;split at I;rename_i y hy;injection I with I;subst I;exact ⟨[u],by simp [dC,af],⟨hv,trivial⟩,hy⟩;cases I;rename_i cs af;split at I;rename_i y hy;injection I with I;subst I;obtain ⟨GD,e,so⟩:=hv;exact ⟨GD,by simp [dC,af,e],so,hy⟩;cases I;cases I
    obtain ⟨ah,ag,ae,himp⟩:=sP;obtain ⟨v1,v2,F1,e1,o1,a1,q1,s1,p1,n1⟩:=Aq hm hS t himp GA ae;have:v2=[]:=by cases v2 with|nil=>rfl|cons=>exact a1.elim
    subst this;rw [ϴ] at e1;subst e1;refine ⟨F1::Fs,⟨⟨ah,ag,o1⟩,k1⟩,by simpa using s1.app k2,λw' SO SU nu R ho=> ?_,λb hb=> ?_⟩;have R:(t.kM=true\/ ∀b,SO b->SU b)/\(fp ms=true\/jU ms=true\/ ∀b,SO b->SU b):=by
     rcases R with R|R|R
     have R:t.kM=true/\fp ms=true:=by simpa [fp] using R
     exact ⟨.inl R.1,.inl R.2⟩;cases R;exact ⟨.inr R,.inr (.inr R)⟩
    obtain ⟨⟨US,BM,T,H6,UT⟩,M9⟩:=ho;have hcs:BM=ah:=by
     unfold dC at ag T;split at ag;rename_i af;rw [if_pos af] at T;rw [ag] at T;simpa using T.symm;rename_i af;rw [if_neg af] at T;rw [ag,T]
    subst hcs;obtain ⟨g1,g2,_⟩:=n1 w' SO SU _ _ _ nu R.1 YY H6 UT;obtain ⟨g3,g4⟩:=k5 w' SO SU nu R.2 M9;refine ⟨by simp [g1,g3],λp hp=> ?_⟩;rcases Λ.1 hp with hp|hp
    exact g2 p hp;exact g4 p hp;obtain ⟨k,p,t',ig,q1,q2,q3⟩:=k6 b hb;exact ⟨k,p,t',ig,q1,q2,Λ.2 (.inr q3)⟩;cases U;cases U
   cases h2;cases r;cases J
 |[],_::_,_,_,_,_,_,_,J,_,_,_=>by simp [dp] at J
 |md::_,[],_,_,_,_,_,_,J,_,_,_=>by cases md<;>simp [dp] at J
end
end Go.Ide
namespace Go.Ide
theorem iG.mono {g:GM}{m:Mem}{S S':Nat->Prop}{w:Ε}(h: ∀b,S b->S' b):iG g g m m S S' w w:=
 ⟨⟨λb j=>⟨h b j,rfl⟩,λ_ r=>⟨r,rfl⟩,λ_ _ o _ p=>⟨o,p,rfl⟩,λ_ _ _ _ arr _ _ _ j=>⟨arr,j,rfl⟩⟩,λ_ _=>rfl,
  λ_ _ o _ p=>⟨o,p,cy.refl _ _,λ_ _ _ arr _ j=>⟨arr,j,rfl⟩⟩⟩
section
variable {S S':Nat->Prop} {w w':Ε}
theorem fX.mono (h: ∀b,S b->S' b){t:Ty}{cs:List ο}{xs:List t.D}{A:List (List Nat->Option Nat)}(j:fX S w t cs xs A):fX S' w t cs xs A:=by
 rcases j with j|⟨v,γ,o,e,b,cap,arr,p,r,I,J,R,T,U,k8⟩
 exact .inl j;exact .inr ⟨v,γ,o,e,b,cap,arr,p,r,I,J,R,T,U,k8.bt (λb hb=>⟨h b hb,rfl⟩) λ_ _ _=>rfl⟩
theorem dt.mono (h: ∀b,S b->S' b): ∀(t:Ty) {cs:List ο} {x:t.D} {A:List (List Nat->Option Nat)},dt S w t cs x A->dt S' w t cs x A
 | .int _,_,_,_,j=>j
 | .dB _,_,_,_,j=>j
 | .bool,_,_,_,j=>j
 | .str,_,_,_,j=>j
 | .pair a b,_,_,_,⟨I,J,R,T,U,e2,o,p⟩=>⟨I,J,R,T,U,e2,dt.mono h a o,dt.mono h b p⟩
 | .st t,_,_,_,j=>dt.mono h t (cs:=_) j
 | .sl t,_,_,_,j=>fX.mono h j
 | .bx t,_,_,_,⟨γ,b,arr,eA,e,h0,o,p⟩=>⟨γ,b,arr,eA,e,h0,o,p.bt (λb r=>⟨h b r,rfl⟩) λ_ _ _=>rfl⟩
 | .cl f t,cs,x,_,j=>⟨j.1,abi (λb r=>⟨h b r,rfl⟩) (.cl f t) cs x j.2⟩
 | .own t,_,_,_,j=>fX.mono h j
theorem fX.flat {t:Ty}(o:t.jd=true){cs:List ο}{xs:List t.D}{A:List (List Nat->Option Nat)}(j:fX S w t cs xs A):fX S' w t cs xs A:=by
 rcases j with j|⟨v,γ,p,e,b,cap,arr,r,I,J,R,T,U,k7,k8⟩
 exact .inl j;exact .inr ⟨v,γ,p,e,b,cap,arr,r,I,J,R,T,U,k7,k8.jd o⟩
theorem dt.kM: ∀(t:Ty) {cs:List ο} {x:t.D} {A:List (List Nat->Option Nat)},t.kM=true->dt S w t cs x A->dt S' w t cs x A
 | .int _,_,_,_,_,j=>j
 | .dB _,_,_,_,_,j=>j
 | .bool,_,_,_,_,j=>j
 | .str,_,_,_,_,j=>j
 | .pair a b,_,_,_,o,⟨I,J,R,T,U,e2,p,r⟩=>by
  simp only [Ty.kM,κ] at o;exact ⟨I,J,R,T,U,e2,dt.kM a o.1 p,dt.kM b o.2 r⟩
 | .st t,_,_,_,o,j=>dt.kM t (cs:=_) o j
 | .sl t,_,_,_,o,j=>fX.flat o j
 | .bx t,_,_,_,o,⟨γ,b,arr,eA,e,h0,p,r⟩=>⟨γ,b,arr,eA,e,h0,p,r.jd o⟩
 | .cl _ _,_,_,_,o,_=>by cases o
 | .own t,_,_,_,o,j=>fX.flat o j
theorem nv.mono (h: ∀b,S b->S' b): ∀{rs:List RV} {vs:List ο} {A:List (List Nat->Option Nat)},nv S w rs vs A->nv S' w rs vs A
 |[],[],_,j=>j
 |r::rs,v::vs,_,⟨J,R,e,o,T⟩=>by
  refine ⟨J,R,e,?_,nv.mono h T⟩;unfold wQ at o⊢;split at o;rename_i p;rw [if_pos p];obtain ⟨cs,t,I⟩:=o;exact ⟨cs,t,dt.mono h _ I⟩;rename_i p;rw [if_neg p];obtain ⟨U,cs,t,I⟩:=o;exact ⟨U,cs,t,abi (λb hb=>⟨h b hb,rfl⟩) _ _ _ I⟩
 |[],_::_,_,j=>j.elim
 |_::_,[],_,j=>j.elim
theorem nv.alone: ∀{rs:List RV} {vs:List ο} {A:List (List Nat->Option Nat)},rs.all RV.tw=true->nv S w rs vs A->nv S' w rs vs A
 |[],[],_,_,o=>o
 |r::rs,v::vs,_,t,⟨T,U,e,p,h2⟩=>by
  simp only [List.all_cons,κ] at t;refine ⟨T,U,e,?_,nv.alone t.2 h2⟩;have j:=t.1;unfold RV.tw at j;unfold wQ at p⊢;split at p;rename_i I;rw [if_pos I] at j⊢;obtain ⟨cs,J,R⟩:=p;exact ⟨cs,J,dt.kM _ j R⟩;rename_i I;rw [if_neg I] at j⊢;obtain ⟨k0,cs,J,R⟩:=p;exact ⟨k0,cs,J,bT.flat _ j R⟩
 |[],_::_,_,_,o=>o.elim
 |_::_,[],_,_,o=>o.elim
end
theorem mh {α:Type}: ∀{l:List (Nat×α)} {k:Nat} {v:α},lk k l=some v->(k,v)∈l
 |[],_,_,h=>by simp [fO] at h
 |(j,o)::l,k,v,h=>by
  rw [bB] at h;split at h;rename_i e;subst e;injection h with h;subst h;simp
  exact ϛ _ (mh h)
theorem wR {α:Type}: ∀{l:List (Nat×α)} {k:Nat} {v:α},(l.map aas).Nodup->(k,v)∈l->lk k l=some v
 |[],_,_,_,h=>by simp at h
 |(o,t)::l,k,v,j,h=>by
  simp only [ϱ,aaV] at j;rw [bB];rcases ϒ.1 h with h|h
  injection h with p r;rw [if_pos p,r];have:k≠o:=λe=>j.1 (by rw [<-e];exact ϟ.2 ⟨(k,v),h,rfl⟩);rw [if_neg this];exact wR j.2 h
theorem FE {α:Type}: ∀{l:List (Nat×α)} {k:Nat},lk k l=none->k ∉ l.map aas
 |[],_,_=>by simp
 |(j,o)::l,k,h=>by
  rw [bB] at h;split at h;cases h;rename_i e;simp only [ϱ,ϒ,not_or];exact ⟨e,FE h⟩
theorem iq: ∀{l:List Nat},jX l=true->l.Nodup
 |[],_=>by simp
 |a::l,h=>by
  simp only [jX,κ,List.all_eq_true,Bool.not_eq_true'] at h;refine aaV.2 ⟨λj=> ?_,iq h.2⟩;have:=h.1 a j;rw [show Α a a=true from Nat.beq_refl a] at this;cases this
section
variable {cx:Cx} {g:GM} {st:St} {a:Act} {w w':Ε}
theorem pr.at {A:List (List Nat->Option Nat)}(h:pr A){i j:Nat}{γ o:List Nat->Option Nat}{p q:List Nat}{b:Nat}(t:A[i]? =some γ)(r:A[j]? =some o)(hp:γ p=some b)(I:o q=some b):i=j/\p=q:=by
 have J: ∀(i j:Nat) (γ o:List Nat->Option Nat) (p q:List Nat),A[i]? =some γ->A[j]? =some o->γ p=some b->o q=some b-> ¬i<j:=λi j γ o p q t r hp I R=>by
  obtain ⟨T,e1⟩:=ψ.1 t;obtain ⟨U,e2⟩:=ψ.1 r;exact List.pairwise_iff_getElem.1 h.1 i j T U R p q b (by rw [e1];exact hp) (by rw [e2];exact I)
 have e:i=j:=by
  rcases Nat.lt_trichotomy i j with R|e|R
  exact absurd R (J i j γ o p q t r hp I);exact e;exact absurd R (J j i o γ q p r t I hp)
 subst e;rw [t] at r;injection r with r;subst r;exact ⟨rfl,h.2 γ (aaG t) p q b hp I⟩
theorem oT.call {rs:List RV}{up:Mem}{ks F':List Nat}{M:Nat->Prop}{F:List Nat}{BL:List (List Nat->Option Nat)}{vs:List ο}{v:ο}{e:cB}{SX:Nat->Prop}(h:cG cx g st a w)(hw:fe st.mem e.new)(he:e=⟨Gy (lq rs st.nx).1,cm st.nx (lq rs st.nx).2,up,e.cond⟩)(R:bJ F w w')(hF: ∀b,b∈F-> ∃k,k∈ks/\ ∃p t xs,g.f k p=some b/\lk k st.mem=some (.seq t xs))(tL:up.map aas=ks)(hu:oy g st.mem SX w' up)(oY:uE BL F')(hn:pr BL)(GF: ∀b,b∈F'->(w.heap.size<=b\/M b)/\b<w'.heap.size)(hM: ∀b,M b->b∈F/\ ∃k p t xs,g.f k p=some b/\lk k st.mem=some (.seq t xs)/\lk k up=some .gone)(YZ: ∀b,SX b->b<w'.heap.size/\(b<cx.w0.heap.size->cx.S b)/\ ¬Live g st.mem b/\b ∉ F')(hr:nv SX w' rs vs BL)(hv:BZ vs v):oT cx st a e v w':=by
 obtain ⟨rN,Rt⟩:=zz st.nx hr;let r:=(lq rs st.nx).2;let g':GM:=⟨λk=>if st.nx<=k then (match BL[k - st.nx]? with|some o=>o|none=>g.f k) else g.f k⟩;have tP: ∀j,j<r.length->lk (st.nx+j) st.mem=none:=λj hj=>by
  have B4:(st.nx+j,r[j])∈e.new:=by
   rw [he];exact mh (by rw [dR,if_pos (by omega),show st.nx+j - st.nx=j from by omega];exact Γ hj)
  exact hw _ B4
 let m':Mem:=up++cm st.nx r++st.mem;have hold: ∀k,lk k st.mem≠none->st.nx<=k->r.length<=k - st.nx:=λk iH U=>by
  rcases aaz (k - st.nx) r.length with hlt|vZ
  exact absurd (by have:=tP _ hlt;rwa [show st.nx+(k - st.nx)=k from by omega] at this) iH;exact vZ
 have T: ∀k,lk k st.mem≠none->g'.f k=g.f k:=λk iH=>by
  show (if st.nx<=k then _ else _)=_;by_cases U:st.nx<=k;rw [if_pos U,aac (by rw [rN];exact hold k iH U)];rw [if_neg U]
 have I: ∀j o,BL[j]? =some o->g'.f (st.nx+j)=o:=λj o hj=>by
  show (if st.nx<=st.nx+j then _ else _)=_;rw [if_pos (by omega),show st.nx+j - st.nx=j from by omega,hj]
 have D2: ∀k J,lk k up=some J-> ∃t xs,lk k st.mem=some (.seq t xs):=λk J R=>by
  obtain ⟨t,xs,h1,_⟩:=hu _ (mh R);exact ⟨t,xs,h1⟩
 have Ar: ∀j J,r[j]? =some J->lk (st.nx+j) m'=some J:=λj J hj=>by
  show lk _ (up++cm st.nx r++st.mem)=_;have h1:lk (st.nx+j) up=none:=by
   cases hx:lk (st.nx+j) up with
   |none=>rfl
   |some c0=>
    obtain ⟨t,xs,h1⟩:=D2 _ _ hx;rw [tP j (ψ.1 hj).1] at h1;cases h1
  rw [cp,cp,h1,dR,if_pos (by omega),show st.nx+j - st.nx=j from by omega,hj];rfl
 have uF: ∀k J,lk k st.mem=some J->lk k up=none->lk k m'=some J:=λk J R HY=>by
  show lk _ (up++cm st.nx r++st.mem)=_;have UU:lk k (cm st.nx r)=none:=by
   rw [dR];by_cases U:st.nx<=k;rw [if_pos U];exact aac (hold k (by rw [R];simp) U);rw [if_neg U]
  rw [cp,cp,HY,UU,R];rfl
 have uG: ∀k J,lk k m'=some J->lk k st.mem=none-> ∃j,k=st.nx+j/\r[j]? =some J:=λk J R zA=>by
  have R:lk k (up++cm st.nx r++st.mem)=some J:=R;have HY:lk k up=none:=by
   cases hx:lk k up with
   |none=>rfl
   |some c0=>
    obtain ⟨t,xs,h1⟩:=D2 _ _ hx;rw [h1] at zA;cases zA
  rw [cp,cp,HY,dR,zA] at R;by_cases U:st.nx<=k;rw [if_pos U] at R;refine ⟨k - st.nx,by omega,?_⟩;cases hx:r[k - st.nx]? with
  |none=>rw [hx] at R;simp at R
  |some c0=>rw [hx] at R;simpa using R
  rw [if_neg U] at R;simp at R
 obtain ⟨Ob,TR⟩:=Rt g' m' Ar I;have H7: ∀(j:Nat) (γ:List Nat->Option Nat) (p:List Nat) (b:Nat),BL[j]? =some γ->γ p=some b->b∈F':=λj γ p b hj hp=>(oY b).2 ⟨γ,aaG hj,p,hp⟩;have Na: ∀k p J,lk k m'=some J->J.owns p->(∃c0,lk k st.mem=some c0/\c0.owns p)\/(lk k st.mem=none/\ ∃j o,k=st.nx+j/\BL[j]? =some o):=λk p J R hn=>by
  cases ho:lk k st.mem with
  |none=>
   obtain ⟨j,e,hj⟩:=uG k J R ho;obtain ⟨_,o,M9,_⟩:=TR.chunk j J hj;exact .inr ⟨rfl,j,o,e,M9⟩
  |some c0=>
   left;refine ⟨c0,rfl,?_⟩;cases hx:lk k up with
   |none=>rw [uF k c0 ho hx] at R;injection R with R;rw [R];exact hn
   |some c1=>
    obtain ⟨t,xs,h1⟩:=D2 _ _ hx;rw [h1] at ho;injection ho with ho;rw [<-ho];trivial
 have nK: ∀b,SX b->cx.safe g' m' w' b:=λb hb=>by
  obtain ⟨h1,h2,h3,h4⟩:=YZ b hb;refine ⟨h1,h2,?_⟩;rintro ⟨k,p,J,oo,N2,om⟩;rcases Na k p J oo N2 with ⟨c0,ho,B5⟩|⟨_,j,o,e,hj⟩
  exact h3 ⟨k,p,c0,ho,B5,by rw [<-T k (by rw [ho];simp)];exact om⟩;subst e;rw [I j o hj] at om;exact h4 (H7 j o p b hj om)
 have t:vL cx g g' st.mem m' w w' F:=by
  refine ⟨R,λb hb=> ?_,T,λk J ho=> ?_,λk J ho oo=> ?_⟩;obtain ⟨k,_,p,t,xs,h1,h2⟩:=hF b hb;exact ⟨k,p,_,h2,trivial,h1⟩;cases hx:lk k up with
  |none=>
   refine .inl ⟨uF k J ho hx,λp b hn B6 FF=> ?_⟩;obtain ⟨k',oo,p',t,xs,h1,h2⟩:=hF b FF;have:=(h.fV k k' p p' J _ b ho hn h2 trivial B6 h1).1;subst this;rw [<-tL] at oo;exact FE hx oo
  |some c1=>
   obtain ⟨t,xs,h1,h2⟩:=hu _ (mh hx);simp only at h1 h2;rw [ho] at h1;injection h1 with h1;subst h1;rcases h2 with h2|⟨ig,h2,h3,h4⟩
   subst h2;refine .inr (.inl ?_);show lk _ (up++cm st.nx r++st.mem)=_;rw [cp,cp,hx];rfl;subst h2;refine .inr (.inr ⟨by simp,.seq t ig,?_,by simp,λ_ _=>trivial,λt0 TS e=> ?_,λt0 TS e=> ?_,λp b arr _ _ hb=>R.sz b arr hb,?_⟩);show lk _ (up++cm st.nx r++st.mem)=_;rw [cp,cp,hx];rfl;obtain ⟨e1,e2⟩:=pG e;subst e1;subst e2;exact ⟨xs,.inl rfl,h3.1⟩;injection e with e1 e2;subst e1;have e2:=eq_of_heq e2;subst e2;exact ⟨xs,rfl,h3⟩;rw [T k (by rw [ho];simp)];unfold jc;cases MZ:g.f k [] with
   |none=>rw [MZ] at h4;exact h4
   |some b=>
    rw [MZ] at h4;obtain ⟨arr,k1,k2⟩:=h4;exact ⟨arr,k1,k2.bt (λb hb=>⟨nK b hb,rfl⟩) λ_ _ _=>rfl⟩
  obtain ⟨j,e,hj⟩:=uG k J oo ho;subst e;obtain ⟨hng,o,Og,je⟩:=TR.chunk j J hj;refine ⟨?_,λp b _ B6=> ?_⟩;rw [I j o Og];exact jc.stays (iG.mono nK) (λ_ _ _ _=>rfl) je;rw [I j o Og] at B6;have FF:=H7 j o p b Og B6;have Ru:(w.heap.size<=b\/b∈F)/\ ∀k' p' c0 pq,lk k' st.mem=some c0->c0.owns p'->g.f k' p'=some b->lk k' m'=some pq->pq≠ .gone->False:=by
   rcases (GF b FF).1 with vZ|Y0
   exact ⟨.inl vZ,λk' p' c0 pq D3 B5 Au _ _=>by have:=h.lt k' p' c0 b D3 B5 Au;omega⟩;obtain ⟨UW,km,pm,tm,xm,q1,q2,q3⟩:=hM b Y0;refine ⟨.inr UW,λk' p' c0 pq D3 B5 Au aa tl=> ?_⟩;have:=(h.fV k' km p' pm c0 _ b D3 B5 q2 trivial Au q1).1;subst this;have aa:lk k' (up++cm st.nx r++st.mem)=some pq:=aa;rw [cp,cp,q3] at aa;have aa:some Chunk.gone=some pq:=aa;injection aa with aa;exact tl aa.symm
  refine ⟨Ru.1,(GF b FF).2,λk' p' pq aa tl Au=> ?_⟩;rcases Na k' p' pq aa tl with ⟨c0,D3,B5⟩|⟨_,j2,o2,e2,Gw⟩
  exact (Ru.2 k' p' c0 pq D3 B5 (by rw [<-T k' (by rw [D3];simp)];exact Au) aa (Chunk.oW tl)).elim;subst e2;rw [I j2 o2 Gw] at Au;obtain ⟨e1,e2⟩:=hn.at Gw Og Au B6;exact ⟨by rw [e1],e2⟩
 have hs:=h.tC (nx':=st.nx+(cm st.nx r).length) t;refine ⟨g',?_,?_⟩;rw [he];exact hs;rw [he];exact adz (iG.mono nK) (Lb Ob hv)
theorem qW {ms:List Mode}{rs:List RV}{outs:List TD}{f:aaE}{vs:List bu}{vals:List ο}{e:cB}(h:cG cx g st a w)(hw:fe st.mem e.new)(r:vg cx.P st.mem st.nx ms rs outs f vs=some e)(hc:bU e.cond)(hv:bN (VR g st.mem (cx.safe g st.mem w) w) vs vals):kh cx.P f/\Calls cx.P f vals.toArray w λen w'=> ∃v,en= .returned v/\oT cx st a e v w':=by
 unfold vg at r;split at r;rename_i ks up Ft tL;split at r;rename_i asx has;cases j:(ks.isEmpty&&jU ms) with
 |false=>rw [j] at r;cases r
 |true=>
  rw [j] at r;simp only [cond_true] at r;simp only [κ,List.isEmpty_iff] at j;injection r with r;obtain ⟨M3,H8⟩:=j;subst M3;have T:CallOK cx.P f asx rs outs:=by rw [<-r] at hc;exact hc.1
  obtain ⟨Fs,k1,k2,k5,k6⟩:=pI (mA:=[]) (mB:=[]) (m2:=[]) (S2:=cx.safe g st.mem w) h.mem (λ_ h=>h) afM (.inl rfl) (λc cs b hl=>by simp [fO] at hl) (.inr H8) has Ft tL hv;have QM: ∀γ,γ∈Fs.flatten-> ∀p,γ p=none:=λγ I p=>by
   cases hp:γ p with
   |none=>rfl
   |some b=>obtain ⟨k,hk,_⟩:=k2.dm I hp;simp at hk
  have hB:uE Fs.flatten []:=λb=>⟨λh=>by simp at h,λ⟨γ,I,p,hp⟩=>by rw [QM γ I p] at hp;cases hp⟩;refine ⟨T.1,(T.2 w (cx.safe g st.mem w) vals Fs [] hB (k2.inj h.K9 (by simp)) (λb j=>⟨j.1,by simp⟩) (by simp) k1 h.KX).mono ?_⟩;rintro en w' ⟨v,A',F',e1,oY,hn,⟨us,Rv,Rw⟩,U,o,J⟩;refine ⟨v,e1,?_⟩;obtain ⟨u1,u2⟩:=k5 w' _ (iW (cx.safe g st.mem w) w w' F') o.sz (.inr (.inl H8)) J;refine oT.call (SX:=iW (cx.safe g st.mem w) w w' F') (ks:=[]) (up:=up) h hw (by rw [<-r]) o (by simp) u1 u2 oY hn U (λb j=>by obtain ⟨γ,I,p,hp⟩:=tO.sub j;rw [QM γ I p] at hp;cases hp) (λb j=> ?_) Rv Rw;obtain ⟨h1,h2,h3⟩:=j;refine ⟨h1,λhlt=> ?_,?_,h3⟩;exact (h2 (ϖ hlt h.bt.size)).2.1 hlt;rintro ⟨k,p,ch,q1,q2,q3⟩;exact (h2 (h.lt k p ch b q1 q2 q3)).2.2 ⟨k,p,ch,q1,q2,q3⟩
 cases tQ:jX ks with
 |false=>rw [tQ] at r;cases r
 |true=>
  rw [tQ] at r;simp only [cond_true] at r;have Lf:=iq tQ;cases j:(rs.all RV.tw&&fp ms) with
  |true=>
   rw [j] at r;simp only [cond_true] at r;simp only [κ] at j;obtain ⟨Oh,Rx⟩:=j;split at r;rename_i asx has;injection r with r;have T:CallOK cx.P f asx rs outs:=by rw [<-r] at hc;exact hc.1
   let S2:Nat->Prop:=λb=>b<w.heap.size/\ ∀c p,c∈ks->g.f c p=some b-> ∀t xs,lk c st.mem=some (.seq t xs)->False;have UX: ∀(k:Nat) (l:List Nat),k ∉ l->lk k ((l.map λk=>(k,Chunk.gone))++st.mem)=lk k st.mem:=by
    intro k l;induction l with
    |nil=>intro _;rfl
    |cons q l ih=>
     intro hk;simp only [ϒ,not_or] at hk;simp only [ϱ,acD];rw [bB,if_neg hk.1];exact ih hk.2
   have Ry: ∀(k:Nat) (l:List Nat),k∈l->lk k ((l.map λk=>(k,Chunk.gone))++st.mem)=some .gone:=by
    intro k l;induction l with
    |nil=>intro hk;simp at hk
    |cons q l ih=>
     intro hk;simp only [ϱ,acD];rw [bB];by_cases e:k=q;rw [if_pos e];rw [if_neg e];exact ih (by simpa [e] using hk)
   have hR:ij g st.mem ((ks.map λk=>(k,Chunk.gone))++st.mem) S2 w:=by
    intro k t xs hl;by_cases hk:k∈ks;rw [Ry k ks hk] at hl;cases hl;rw [UX k ks hk] at hl;refine ⟨hl,?_⟩;have Rz: ∀p b,g.f k p=some b->S2 b:=λp b hg=>⟨h.lt k p _ b hl trivial hg,λc q hc B7 t' ig R=>by
     have:=(h.fV k c p q _ _ b hl trivial R trivial hg B7).1;subst this;exact hk hc⟩
    refine ⟨Rz,?_⟩;have je:=h.mem k _ hl;unfold jc at je;cases hg:g.f k [] with
    |none=>rw [show g k=none from hg];rw [hg] at je;exact je
    |some b=>
     rw [show g k=some b from hg];rw [hg] at je;obtain ⟨arr,q1,q2⟩:=je;exact ⟨arr,q1,q2.bt (λb' qK=>⟨⟨qK.1,λc p hc B7 t' ig R=>qK.2.2 ⟨c,p,_,R,trivial,B7⟩⟩,rfl⟩) λ_ _ _=>rfl⟩
   obtain ⟨Fs,k1,k2,k5,k6⟩:=pI (mA:=st.mem) (mB:=st.mem) (m2:=(ks.map λk=>(k,Chunk.gone))++st.mem) (S2:=S2) h.mem (λb j=>⟨j.1,λc p hc B7 t' ig R=>j.2.2 ⟨c,p,_,R,trivial,B7⟩⟩) hR (.inr rfl)
    (λc cs b hl hg=>⟨h.KY hl (by simp) hg,λc' p' HQ UY t' ig R=>by
     have:=(h.fV c c' [] p' _ _ b hl trivial R trivial hg UY).1;subst this;rw [hl] at R;cases R⟩) (.inl rfl) has Ft tL hv
   have UZ:pr Fs.flatten:=k2.inj h.K9 Lf;obtain ⟨F,hB⟩:=na (n:=w.heap.size) (A:=Fs.flatten) (λγ I p b hp=>by
    obtain ⟨k,_,p',t,xs,q1,q2⟩:=k2.dm I hp;exact h.lt k p' _ b q2 trivial q1)
   have KQ: ∀b,b∈F-> ∃k,k∈ks/\ ∃p t xs,g.f k p=some b/\lk k st.mem=some (.seq t xs):=λb j=>by
    obtain ⟨γ,I,p,hp⟩:=(hB b).1 j;exact k2.dm I hp
   refine ⟨T.1,(T.2 w S2 vals Fs F hB UZ (λb j=>⟨j.1,λFF=> ?_⟩) (λb FF=> ?_) k1 (Glob.mono (λb j=>⟨⟨j.1,λc p _ B7 t' ig R=>j.2.2 ⟨c,p,_,R,trivial,B7⟩⟩,rfl⟩) h.KX)).mono ?_⟩;obtain ⟨c,h1,p,t,xs,h2,h3⟩:=KQ b FF;exact j.2 c p h1 h2 t xs h3;obtain ⟨c,h1,p,t,xs,h2,h3⟩:=KQ b FF;exact h.lt c p _ b h3 trivial h2;rintro en w' ⟨v,A',F',e1,oY,hn,⟨us,Rv,Rw⟩,U,o,J⟩;refine ⟨v,e1,?_⟩;obtain ⟨u1,u2⟩:=k5 w' _ (λb=>b<w'.heap.size/\(b<cx.w0.heap.size->cx.S b)/\ ¬Live g st.mem b/\b ∉ F') o.sz (.inl Rx) J;exact oT.call (SX:=λb=>b<w'.heap.size/\(b<cx.w0.heap.size->cx.S b)/\ ¬Live g st.mem b/\b ∉ F') (ks:=ks) (up:=up) h hw (by rw [<-r]) o KQ u1 u2 oY hn U (λb j=>⟨(hB b).2 (tO.sub j),by
    obtain ⟨k,p,t,xs,q1,q2,q3⟩:=k6 b j;exact ⟨k,p,t,xs,q1,q2,wR (by rw [u1];exact Lf) q3⟩⟩) (λb j=>j) (nv.alone Oh Rv) Rw
   cases r
  |false=>
   rw [j] at r;simp only [cond_false] at r;split at r;rename_i asx has;injection r with r;have T:CallOK cx.P f asx rs outs:=by rw [<-r] at hc;exact hc.1
   obtain ⟨Fs,k1,k2,k5,k6⟩:=pI (mA:=st.mem) (mB:=[]) (m2:=[]) (S2:=cx.safe g st.mem w) h.mem (λ_ h=>h) afM (.inl rfl) (λc cs b hl=>by simp [fO] at hl) (.inl rfl) has Ft tL hv;have UZ:pr Fs.flatten:=k2.inj h.K9 Lf;obtain ⟨F,hB⟩:=na (n:=w.heap.size) (A:=Fs.flatten) (λγ I p b hp=>by
    obtain ⟨k,_,p',t,xs,q1,q2⟩:=k2.dm I hp;exact h.lt k p' _ b q2 trivial q1)
   have KQ: ∀b,b∈F-> ∃k,k∈ks/\ ∃p t xs,g.f k p=some b/\lk k st.mem=some (.seq t xs):=λb j=>by
    obtain ⟨γ,I,p,hp⟩:=(hB b).1 j;exact k2.dm I hp
   refine ⟨T.1,(T.2 w (cx.safe g st.mem w) vals Fs F hB UZ (λb j=>⟨j.1,λFF=> ?_⟩) (λb FF=> ?_) k1 h.KX).mono ?_⟩;obtain ⟨c,h1,p,t,xs,h2,h3⟩:=KQ b FF;exact j.2.2 ⟨c,p,_,h3,trivial,h2⟩;obtain ⟨c,h1,p,t,xs,h2,h3⟩:=KQ b FF;exact h.lt c p _ b h3 trivial h2;rintro en w' ⟨v,A',F',e1,oY,hn,⟨us,Rv,Rw⟩,U,o,J⟩;refine ⟨v,e1,?_⟩;obtain ⟨u1,u2⟩:=k5 w' _ (iW (cx.safe g st.mem w) w w' F') o.sz (.inr (.inr λ_ h=>h)) J;refine oT.call (SX:=iW (cx.safe g st.mem w) w w' F') (ks:=ks) (up:=up) h hw (by rw [<-r]) o KQ u1 u2 oY hn U (λb j=>⟨(hB b).2 (tO.sub j),by
    obtain ⟨k,p,t,xs,q1,q2,q3⟩:=k6 b j;exact ⟨k,p,t,xs,q1,q2,wR (by rw [u1];exact Lf) q3⟩⟩) (λb j=> ?_) Rv Rw
   obtain ⟨h1,h2,h3⟩:=j;refine ⟨h1,λhlt=> ?_,?_,h3⟩;exact (h2 (ϖ hlt h.bt.size)).2.1 hlt;rintro ⟨k,p,ch,q1,q2,q3⟩;exact (h2 (h.lt k p ch b q1 q2 q3)).2.2 ⟨k,p,ch,q1,q2,q3⟩;cases r
 cases r
end
end Go.Ide
namespace Go.Ide
def GH:aad->Nat
 | .f32=>2143289344
 | .f64=>9221120237041090560
def XW (op:ach)(k:aad)(x y:Nat):Nat:=
 match floatBits op k x y with
 |some r=>cW k r
 |none=>GH k
def RA (k:aad)(x:Nat):Nat:=cW k (ack k x)
def Oi (k:aad)(n:Int):Nat:=cW k (k.nearest n)
def QN (k:aad)(x y:Nat):Bool:=k.format.order x y==some .eq
def dB (k:aad)(x y:Nat):Bool:=k.format.order x y==some .lt
def U0 (k:aad)(x y:Nat):Bool:=k.format.order x y==some .lt||k.format.order x y==some .eq
def U1 (k:aad)(x y:Nat):Bool:=k.format.order x y==some .gt
def U2 (k:aad)(x y:Nat):Bool:=k.format.order x y==some .gt||k.format.order x y==some .eq
def rP (s k:aad)(x:Nat):Bool:=
 if s=k then true else match s.decode x with
 | .number j m e=> !(k.decode (k.encode (.number j m e))).isInfinity
 |_=>true
def wS (s k:aad)(x:Nat):Nat:=
 if s=k then x else match s.decode x with
 | .nan _ _=>GH k
 | .infinity j=>cW k (k.encode (.infinity j))
 | .number j m e=>cW k (k.encode (.number j m e))
theorem D4 (b:Nat):cW .f32 b=if b%2147483648>2139095040 then 2143289344 else b:=rfl
theorem D5 (b:Nat):cW .f64 b=if b%9223372036854775808>9218868437227405312 then 9221120237041090560 else b:=rfl
theorem oz (k:aad)(b:Nat):cW k b=b\/ ∃s t r I,k.format.read b= .nan s t/\k.format.read (cW k b)= .nan r I:=by
 cases k;rw [D4];by_cases h:b%2147483648>2139095040;rw [if_pos h];right;refine ⟨(b/2147483648%2==1),b%2147483648 - 2139095040,_,_,?_,rfl⟩;have j:FloatKind.f32.format.signWeight=2147483648:=by decide
 have o:FloatKind.f32.format.binade=8388608:=by decide
 have p:FloatKind.f32.format.infRung=2139095040:=by decide
 unfold aep;simp only [j,o,p];rw [if_neg (by omega),if_neg (by omega),if_neg (by omega)];rw [if_neg h];exact .inl rfl;rw [D5];by_cases h:b%9223372036854775808>9218868437227405312;rw [if_pos h];right;refine ⟨(b/9223372036854775808%2==1),b%9223372036854775808 - 9218868437227405312,_,_,?_,rfl⟩;have j:FloatKind.f64.format.signWeight=9223372036854775808:=by decide
 have o:FloatKind.f64.format.binade=4503599627370496:=by decide
 have p:FloatKind.f64.format.infRung=9218868437227405312:=by decide
 unfold aep;simp only [j,o,p];rw [if_neg (by omega),if_neg (by omega),if_neg (by omega)];rw [if_neg h];exact .inl rfl
theorem H9 {s:Bool}{t:Nat}{d:abK}:aeR (.nan s t) d=none:=by cases d<;>rfl
theorem Ia {s:Bool}{t:Nat}{d:abK}:aeR d (.nan s t)=none:=by cases d<;>rfl
theorem GJ {s:Bool}{t:Nat}{d:abK}:aec (.nan s t) d=none:=by cases d<;>rfl
theorem GK {s:Bool}{t:Nat}{d:abK}:aec d (.nan s t)=none:=by cases d<;>rfl
theorem Ib {n:Nat}{s:Bool}{t:Nat}{d:abK}:ad2 n (.nan s t) d=none:=by cases d<;>rfl
theorem Ic {n:Nat}{s:Bool}{t:Nat}{d:abK}:ad2 n d (.nan s t)=none:=by cases d<;>rfl
theorem wT {s:Bool}{t:Nat}{d:abK}:aev (.nan s t) d=none:=by cases d<;>rfl
theorem wU {s:Bool}{t:Nat}{d:abK}:aev d (.nan s t)=none:=by cases d<;>rfl
theorem vM (op:ach)(k:aad)(x y:Nat):floatBits op k (cW k x) (cW k y)=floatBits op k x y:=by
 have o: ∀x y,floatBits op k (cW k x) y=floatBits op k x y:=by
  intro x y;rcases oz k x with h|⟨s,t,p,r,q1,j⟩
  rw [h];unfold floatBits;cases op<;>simp only [aew,aex,aey,aez,q1,j,H9,GJ,Ib]
 have I: ∀x y,floatBits op k x (cW k y)=floatBits op k x y:=by
  intro x y;rcases oz k y with h|⟨s,t,p,r,q1,j⟩
  rw [h];unfold floatBits;cases op<;>simp only [aew,aex,aey,aez,q1,j,Ia,GK,Ic,Ieee.Datum.opposite]
 rw [o,I]
theorem vh (k:aad)(x y:Nat):k.format.order (cW k x) (cW k y)=k.format.order x y:=by
 have o: ∀x y,k.format.order (cW k x) y=k.format.order x y:=by
  intro x y;rcases oz k x with h|⟨s,t,p,r,q1,j⟩
  rw [h];unfold abV;rw [q1,j,wT,wT]
 have I: ∀x y,k.format.order x (cW k y)=k.format.order x y:=by
  intro x y;rcases oz k y with h|⟨s,t,p,r,q1,j⟩
  rw [h];unfold abV;rw [q1,j,wU,wU]
 rw [o,I]
theorem GN (k:aad)(b:Nat):cW k (ack k (cW k b))=cW k (ack k b):=by
 cases k;have e: ∀b,ack .f32 b=b^^^2147483648:=λb=>rfl;have o: ∀b,(b^^^2147483648)%2147483648=b%2147483648:=λb=>by
  have:=ae9 (a:=b) (b:=2147483648) (n:=31);simpa using this
 simp only [e];by_cases h:b%2147483648>2139095040;have j:cW .f32 b=2143289344:=by rw [D4,if_pos h]
 have p:cW .f32 (b^^^2147483648)=2143289344:=by rw [D4,o,if_pos h]
 rw [j,p];decide;have j:cW .f32 b=b:=by rw [D4,if_neg h]
 rw [j];have e: ∀b,ack .f64 b=b^^^9223372036854775808:=λb=>rfl;have o: ∀b,(b^^^9223372036854775808)%9223372036854775808=b%9223372036854775808:=λb=>by
  have:=ae9 (a:=b) (b:=9223372036854775808) (n:=63);simpa using this
 simp only [e];by_cases h:b%9223372036854775808>9218868437227405312;have j:cW .f64 b=9221120237041090560:=by rw [D5,if_pos h]
 have p:cW .f64 (b^^^9223372036854775808)=9221120237041090560:=by rw [D5,o,if_pos h]
 rw [j,p];decide;have j:cW .f64 b=b:=by rw [D5,if_neg h]
 rw [j]
theorem Lg (k:aad)(x y t:Nat):cW k (aa8 (.nanBits k x y) t)=GH k:=by
 cases k;have e:aa8 (.nanBits .f32 x y) t=(t%2)*2147483648+2139095040+1+(t/2)%8388607:=rfl;have j:=aa7 t (show 0<2 by decide);have o:=aa7 (t/2) (show 0<8388607 by decide);rw [e,D4];generalize t%2=p at j;generalize t/2%8388607=q at o;rw [if_pos (by omega)];rfl;have e:aa8 (.nanBits .f64 x y) t=(t%2)*9223372036854775808+9218868437227405312+1+(t/2)%4503599627370495:=rfl;have j:=aa7 t (show 0<2 by decide);have o:=aa7 (t/2) (show 0<4503599627370495 by decide);rw [e,D5];generalize t%2=p at j;generalize t/2%4503599627370495=q at o;rw [if_pos (by omega)];rfl
theorem Ie (k:aad)(x t:Nat):cW k (aa8 (.nanConv k x) t)=GH k:=by
 cases k;have e:aa8 (.nanConv .f32 x) t=(t%2)*2147483648+2139095040+1+(t/2)%8388607:=rfl;have j:=aa7 t (show 0<2 by decide);have o:=aa7 (t/2) (show 0<8388607 by decide);rw [e,D4];generalize t%2=p at j;generalize t/2%8388607=q at o;rw [if_pos (by omega)];rfl;have e:aa8 (.nanConv .f64 x) t=(t%2)*9223372036854775808+9218868437227405312+1+(t/2)%4503599627370495:=rfl;have j:=aa7 t (show 0<2 by decide);have o:=aa7 (t/2) (show 0<4503599627370495 by decide);rw [e,D5];generalize t%2=p at j;generalize t/2%4503599627370495=q at o;rw [if_pos (by omega)];rfl
theorem B8 (s k:aad)(b:Nat)(h:s≠k):rP s k (cW s b)=rP s k b/\wS s k (cW s b)=wS s k b:=by
 rcases oz s b with e|⟨r,t,j,I,o,p⟩
 rw [e];exact ⟨rfl,rfl⟩;have o:s.decode b= .nan r t:=o;have p:s.decode (cW s b)= .nan j I:=p;unfold rP wS;rw [if_neg h,if_neg h,if_neg h,if_neg h,o,p];exact ⟨rfl,rfl⟩
def FG:ach->Bool
 | .add=>true
 | .sub=>true
 | .mul=>true
 | .quo=>true
 |_=>false
def Ig (op:ach)(k:aad)(x y:Nat):Option cB:=
 match op with
 | .eql=>cz (.one (.bp .bool (QN k x y)))
 | .neq=>cz (.one (.bp .bool (!QN k x y)))
 | .lss=>cz (.one (.bp .bool (dB k x y)))
 | .leq=>cz (.one (.bp .bool (U0 k x y)))
 | .gtr=>cz (.one (.bp .bool (U1 k x y)))
 | .geq=>cz (.one (.bp .bool (U2 k x y)))
 |_=>none
def Ih (P:Ξ)(cs j:List bs):List Field->Option Bool
 |[]=>some true
 |f::r=>match P.underlying f.type,cs[f.offset]?,j[f.offset]?,Ih P cs j r with
  |some (.int _),some (.bp (.int k) a),some (.bp (.int o) b),some e=>bif f.name=="_" then none else if k=o then some ((a==b)&&e) else none
  |_,_,_,_=>none
def oq (P:Ξ)(T:Ι)(op:ach)(cs j:List bs):Option cB:=
 match P.underlying T with
 |some (.struct o)=>bif P.stoodInHeld T||P.eqGuardType P.depth T then none else
  (match op,Ih P cs j o.toList with
  | .eql,some b=>cz (.one (.bp .bool b))
  | .neq,some b=>cz (.one (.bp .bool (!b)))
  |_,_=>none)
 |_=>none
def zB (P:Ξ)(T:Ι)(op:ach)(x y:bu):Option cB:=
 match x,y with
 | .one (.bp (.dB k) a),.one (.bp (.dB j) b)=>if k=j then (if FG op then cz (.one (.bp (.dB k) (XW op k a b))) else Ig op k a b) else none
 | .agg cs,.agg o=>oq P T op cs o
 |x,y=>Gs P T op x y
def Lh (op:UnOp)(x:bu):Option cB:=
 match op,x with
 | .neg,.one (.bp (.dB k) b)=>cz (.one (.bp (.dB k) (RA k b)))
 |op,x=>TL op x
def dw (P:Ξ)(T:Ι):Bool:=
 match P.underlying T with
 |some (.slice e)=>(match P.underlying e with
  |some (.int .u8)=>true
  |_=>false)
 |_=>false
def cM (s:List UInt8):List Int:=s.map λb=>((b.toNat:Nat):Int)
def lr (l:List Int):List UInt8:=l.map λn=>aau n.toNat
def TT (mx:Bool)(k:aad)(a b:Nat):Nat:=
 match k.format.order a b with
 |some .lt=>bif mx then b else a
 |some .gt=>bif mx then a else b
 |_=>if (k.decode a).neg=mx then b else a
def TU (mx:Bool)(x y:bu):Option cB:=
 match x,y with
 | .one (.bp (.dB k) a),.one (.bp (.dB j) b)=>if k=j then fL (.one (.bp (.dB k) (TT mx k a b))) [(k.format.order a b).isSome=true] else none
 |_,_=>none
def ot (P:Ξ)(m:Mem)(nx:Nat)(T U:Ι)(x:bu):Option cB:=
 match P.underlying T,P.underlying U,x with
 |some _,some (.float k),.one (.bp (.dB s) b)=>fL (.one (.bp (.dB k) (wS s k b))) [rP s k b=true]
 |some _,some (.float k),.one (.bp (.int _) n)=>cz (.one (.bp (.dB k) (Oi k n)))
 |some .string,some (.slice _),.one (.bp .str s)=>bif dw P U then some ⟨.one (.all nx),[(nx,.seq (.int .u8) (cM s))],[],[ζ s<=bl]⟩ else none
 |some (.slice _),some (.slice _),.one (.all c)=>bif Α T U&&dw P T then (match lk c m with
  |some (.seq t j)=>if t= .int .u8 then some ⟨.one (.all c),[],[(c,.seq t j)],[0<ζ j]⟩ else none
  |_=>none) else none
 |some (.slice _),some .string,x=>bif dw P T&&nJ m x then (match j5 m (.sl (.int .u8)) x with
  |some l=>cz (.one (.bp .str (lr l)))
  |none=>none) else none
 |_,_,x=>wB P T U x
def pJ (P:Ξ)(m:Mem)(nx:Nat)(T T':Ι)(s x:bu):Option cB:=
 match P.underlying T,P.underlying T',x with
 |some (.slice e),some .string,.one (.bp .str y)=>(match P.info? e with
  |some i=>bif (dw P T&&Α i.size 1)&&(ϩ i.bytes 32768&&i.zero.isSome)&&(i.zero.map λz=>Α z.cells.size 1).getD false then
   (match nR m (.int .u8) s with
   |some (j,up)=>some ⟨.one (.all nx),[(nx,.seq (.int .u8) (j++cM y))],up,[ζ j+ζ y<=bl]⟩
   |none=>none) else none
  |none=>none)
 |_,_,_=>none
def Av (P:Ξ)(T:Ι)(x:bu)(o p mx:Option bu):Option cB:=
 match P.underlying T,x with
 |some (.slice e),.one (.bp (.sl t) j)=>(match MX o,p,mx with
  |some l,some (.one (.bp (.int _) h)),some (.one (.bp (.int _) q))=>bif cX P e==some t.size then fL (.one (.bp (.sl t) (cut j l h))) [(0:Int)<=l/\l<=h/\h<=q/\q<=((ζ j:Nat):Int)] else none
  |_,_,_=>none)
 |_,_=>none
section
variable {P:Ξ} {g:GM} {m:Mem} {S:Nat->Prop} {cx:Cx} {st:St} {a:Act} {w:Ε}
theorem o9 {k:aad}{n:Nat}{v:ο}(h:CR g m S w (.bp (.dB k) n) v): ∃b,v= .float k b/\cW k b=n:=by
 obtain ⟨b,e,j⟩:=(h: ∃b,[v]=[Value.float k b]/\cW k b=n);exact ⟨b,by simpa using e,j⟩
theorem nT {k:aad}{b n:Nat}(h:cW k b=n):VR g m S w (.one (.bp (.dB k) n)) (.float k b):=⟨b,rfl,h⟩
theorem fP.drew {s:Sem ο}{e:cB}{v:bu}{r:ο}(h:cG cx g st a w)(o:e.new=[]/\e.kZ=[]/\e.val=v)(J:s.run cx.P w= .ok r w.drew)(R: ∀g m S w,VR g m S w v r):fP cx st a w s e:=by
 refine ⟨r,w.drew,J,g,?_,?_⟩;rw [o.1,o.2.1];exact h.tC (G:=[]) ⟨af5 _ _,λb p=>(by simp at p),λ_ _=>rfl,λk I t=> .inl ⟨t,λ_ b _ _ p=>by simp at p⟩,λk I t j=>by
  change lk k st.mem=some I at j;rw [t] at j;cases j⟩
 rw [o.2.2];exact R _ _ _ _
theorem sQ {P:Ξ}{g:GM}{m:Mem}{S:Nat->Prop}{w w':Ε}{d:Nat}{cs U:List bs}{p vs:List ο}(hu:bN (CR g m S w) cs p)(hv:bN (CR g m S w) U vs):
 ∀(fs:List Field) (b:Bool),Ih P cs U fs=some b->(Op.eqFields (d+1) p.toArray vs.toArray fs).run P w'= .ok b w'
 |[],b,h=>by
  unfold Ih at h;injection h with h;subst h;rfl
 |f::r,b,h=>by
  unfold Ih at h;split at h
  ·rename_i k j x k2 y e hT hc hd he;cases o:f.name=="_" with
   |true=>rw [o] at h;cases h
   |false=>
    rw [o] at h;simp only [cond_false] at h;split at h
    case isFalse=>cases h
    rename_i hk;subst hk;injection h with h;subst h;have t:f.name≠"_":=by
     intro hh;rw [hh] at o;simp at o
    obtain ⟨u,I,J⟩:=hu.get _ _ hc;obtain ⟨v,R,T⟩:=hv.get _ _ hd;have e1:u= .int j x:=dH (g:=g) (m:=m) (S:=S) (w:=w) J;have e2:v= .int j y:=dH (g:=g) (m:=m) (S:=S) (w:=w) T;subst e1;subst e2;have p1:(part f.type p.toArray f.offset).run P w'= .ok (.int j x) w':=by simp [part,isAgg,run_underlying hT,I]
    have p2:(part f.type vs.toArray f.offset).run P w'= .ok (.int j y) w':=by simp [part,isAgg,run_underlying hT,R]
    have p3:=run_equalIn_int w' d f.type j k x y hT;unfold Op.eqFields;rw [if_pos t];simp only [Ϙ,p1,p2,p3,ϋ];cases hxy:(x==y) with
    |true=>simpa using sQ hu hv r e he
    |false=>simp
  cases h
theorem vN {P:Ξ}{g:GM}{m:Mem}{S:Nat->Prop}{w:Ε}{op:ach}{T:Ι}{cs t:List bs}{e:cB}{I J:ο}(h:oq P T op cs t=some e)(hx:VR g m S w (.agg cs) I)(hy:VR g m S w (.agg t) J):
 bF P g m S w (binOp op T I J) e:=by
 obtain ⟨us,rfl,R⟩:=hx;obtain ⟨vs,rfl,U⟩:=hy;unfold oq at h;split at h;rename_i fs hT;cases j:P.stoodInHeld T with
 |true=>rw [j] at h;cases h
 |false=>
  cases hq:P.eqGuardType P.depth T with
  |true=>rw [j,hq] at h;cases h
  |false=>
   rw [j,hq] at h;simp only [Bool.or_self,cond_false] at h;have o:ae0 P T=fs:=by unfold ae0;rw [hT]
   split at h;rename_i b p;have:=sQ (w':=w) (d:=9998) R U _ _ p;refine bF.mk (bE h) (r:= .bool b) ?_ rfl;rw [run_eql_struct,show (10000:Nat)=9999+1 from rfl,run_equalIn_agg w 9999 T _ _ (by rw [o];exact hT) j,o,this];rfl;rename_i b p;have:=sQ (w':=w) (d:=9998) R U _ _ p;refine bF.mk (bE h) (r:= .bool (!b)) ?_ rfl;rw [run_neq_struct,show (10000:Nat)=9999+1 from rfl,run_equalIn_agg w 9999 T _ _ (by rw [o];exact hT) j,o,this];rfl;cases h
 cases h
theorem vO {P:Ξ}{w:Ε}{op:ach}{T:Ι}{cs p:List bs}{e:cB}{x y:aah}{j vs:Array ο}(h:oq P T op cs p=some e):(eqGuard op T x y (.agg j) (.agg vs)).run P w= .ok () w:=by
 unfold oq at h;split at h;cases o:P.eqGuardType P.depth T with
 |true=>rw [o] at h;simp only [Bool.or_true,cond_true] at h;cases h
 |false=>exact run_eqGuard_agg w op T x y j vs o
 cases h
theorem B9 {op:ach}{x y:bu}{e:cB}{T:Ι}{xa ya:ο}(J:cG cx g st a w)(h:zB cx.P T op x y=some e)(hc:bU e.cond)(U:VR g st.mem (cx.safe g st.mem w) w x xa)(hy:VR g st.mem (cx.safe g st.mem w) w y ya):
 fP cx st a w (binOp op T xa ya) e:=by
 unfold zB at h;split at h;rename_i k n k' o;obtain ⟨b,rfl,hb⟩:=o9 (g:=g) (m:=st.mem) (S:=cx.safe g st.mem w) (w:=w) U;obtain ⟨j,rfl,R⟩:=o9 (g:=g) (m:=st.mem) (S:=cx.safe g st.mem w) (w:=w) hy;split at h;rename_i hk;subst hk;split at h;rename_i ha;have hf:floatBits op k n o=floatBits op k b j:=by rw [<-hb,<-R];exact vM op k b j
 have p:=bE h;unfold XW at p;rw [hf] at p;cases t:floatBits op k b j with
 |some r=>
  rw [t] at p;exact aci J (bF.mk p (run_float_arith w op T k b j r t) (nT rfl))
 |none=>
  rw [t] at p;have hn:(binOp op T (.float k b) (.float k j)).run cx.P w= .ok (.float k (aa8 (.nanBits k b j) (w.tape w.drawn (.nanBits k b j)))) w.drew:=by
   unfold floatBits at t;cases op<;>simp only [FG,Bool.false_eq_true] at ha<;>simp only at t<;>simp [binOp,Op.floatArith,t,acj]
  exact fP.drew J p hn λg m S w=>nT (Lg k b j _)
 have I:k.format.order n o=k.format.order b j:=by rw [<-hb,<-R];exact vh k b j
 have hg:bF cx.P g st.mem (cx.safe g st.mem w) w (binOp op T (.float k b) (.float k j)) e:=by
  unfold Ig at h;split at h;exact bF.mk (bE h) (r:= .bool (QN k n o)) (by simp [binOp,acm,QN,I]) rfl;exact bF.mk (bE h) (r:= .bool (!QN k n o)) (by simp [binOp,acm,QN,I,bne]) rfl;exact bF.mk (bE h) (r:= .bool (dB k n o)) (by simp [binOp,acm,dB,I]) rfl;exact bF.mk (bE h) (r:= .bool (U0 k n o)) (by simp [binOp,acm,U0,I]) rfl;exact bF.mk (bE h) (r:= .bool (U1 k n o)) (by simp [binOp,acm,U1,I]) rfl;exact bF.mk (bE h) (r:= .bool (U2 k n o)) (by simp [binOp,acm,U2,I]) rfl;cases h
 exact aci J hg;cases h;exact aci J (vN h U hy);exact aci J (DN h hc U hy)
theorem D6 {op:UnOp}{x:bu}{e:cB}{j:ο}(h:Lh op x=some e)(o:VR g m S w x j):bF P g m S w (Op.unary op j) e:=by
 unfold Lh at h;split at h;rename_i k n;obtain ⟨b,rfl,p⟩:=o9 (g:=g) (m:=m) (S:=S) (w:=w) o;refine bF.mk (bE h) (r:= .float k (ack k b)) (by simp [Op.unary]) (nT ?_);unfold RA;rw [<-p,GN];exact Gu h o
theorem qX {T:Ι}(h:dw P T=true): ∃e,P.underlying T=some (.slice e)/\P.underlying e=some (.int .u8):=by
 unfold dw at h;split at h;rename_i e j;split at h;rename_i o;exact ⟨e,j,o⟩;cases h;cases h
theorem GO {S':Nat->Prop}{w':Ε}{s:List UInt8}{arr:Array ο}(h: ∀j (o:j<s.length),arr[j]? =some (.int .u8 ((s[j].toNat:Nat):Int))):BP S' w' (.int .u8) (cM s) arr:=by
 intro i r;have p:i<s.length:=by simpa [cM] using r
 refine ⟨[.int .u8 ((s[i].toNat:Nat):Int)],λj u o=> ?_,?_⟩;cases j with
 |zero=>
  simp only [aeo,ag0] at o;subst o;simp only [aan,adn,ϧ];exact h i p
 |succ j=>simp at o
 show [Value.int .u8 ((s[i].toNat:Nat):Int)]=[Value.int .u8 ((cM s)[i])];simp [cM]
theorem vi (w:Ε)(b n:Nat){arr:Array ο}{T:Ι}{j o:Nat}(h:w.heap[b]? =some (.cells arr T (j,o))):
 (w.freeze ⟨b,n,none⟩ 1).heap[b]? =some (.cells arr T (if j==o then (n,n+1) else (min j n,max o (n+1)))):=by
 simp [adk,aaP,h]
theorem tR (w:Ε)(b n q:Nat)(j:q≠b):(w.freeze ⟨b,n,none⟩ 1).heap[q]? =w.heap[q]? :=by
 simp [adk,aaP,Ne.symm j]
theorem qi {w:Ε}{b:Nat}{arr:Array ο}(h:dm w b arr):dm (w.freeze ⟨b,arr.size,none⟩ 1) b arr:=by
 obtain ⟨T,j,o,h,p⟩:=h;by_cases e:j=o;subst e;exact ⟨T,arr.size,arr.size+1,by rw [vi w b arr.size h];simp,.inr (φ _)⟩;exact ⟨T,min j arr.size,max o (arr.size+1),by rw [vi w b arr.size h,if_neg (by simpa using e)],.inr (by omega)⟩
theorem Ca {w:Ε}{b:Nat}{arr:Array ο}(h:dm w b arr):bJ [b] w (w.freeze ⟨b,arr.size,none⟩ 1):=by
 have j:(w.freeze ⟨b,arr.size,none⟩ 1).os=w.os/\(w.freeze ⟨b,arr.size,none⟩ 1).tape=w.tape/\(w.freeze ⟨b,arr.size,none⟩ 1).output=w.output/\(w.freeze ⟨b,arr.size,none⟩ 1).heap.size=w.heap.size:=by
  unfold adk;split<;>simp
 refine ⟨j.1,j.2.1,j.2.2.1,by rw [j.2.2.2];exact φ _,λq _ r=>tR w b arr.size q (by simpa using r),λq o p=> ?_⟩;by_cases e:q=b;subst e;have:=p.eq h;subst this;exact ⟨o,qi h,rfl⟩;exact ⟨o,p.bt (tR w b arr.size q e),rfl⟩
theorem zC {mx:Bool}{x y:bu}{e:cB}{p I:ο}{Ts:Array Ι}{T:Ι}{S:Nat->Prop}{m:Mem}{P:Ξ}(h:TU mx x y=some e)(U:bU e.cond)(hx:VR g m S w x p)(hy:VR g m S w y I):bF P g m S w (bif mx then ad9 Ts T #[p,I] else acq Ts T #[p,I]) e:=by
 unfold TU at h;split at h;rename_i k a k' b;split at h;rename_i hk;subst hk;obtain ⟨x,rfl,ha⟩:=o9 (g:=g) (m:=m) (S:=S) (w:=w) hx;obtain ⟨y,rfl,hb⟩:=o9 (g:=g) (m:=m) (S:=S) (w:=w) hy;obtain ⟨he,J⟩:=cT h;rw [J] at U;have j:(k.format.order a b).isSome=true:=U.1;have R:a=x/\b=y:=by
  rw [<-ha,<-hb,vh] at j;constructor;rcases oz k x with h|⟨s,t,s',t',q1,q2⟩
  rw [<-ha,h];unfold abV at j;rw [q1,wT] at j;cases j;rcases oz k y with h|⟨s,t,s',t',q1,q2⟩
  rw [<-hb,h];unfold abV at j;rw [q1,wU] at j;cases j
 obtain ⟨rfl,rfl⟩:=R;refine bF.mk he (r:= .float k (TT mx k a b)) ?_ (nT ?_);unfold TT;cases hq:k.format.order a b with
 |none=>rw [hq] at j;cases j
 |some o=>
  cases mx<;>cases o<;>cases hn:(k.decode a).neg<;>simp [ad9,Builtin.max2,acq,af6,hq,hn]
 unfold TT;split;cases mx<;>assumption;cases mx<;>assumption;split<;>assumption;cases h;cases h
theorem vP {T U:Ι}{x:bu}{e:cB}{xa:ο}(hs:cG cx g st a w)(hw:fe st.mem e.new)(h:ot cx.P st.mem st.nx T U x=some e)(hc:bU e.cond)(hx:VR g st.mem (cx.safe g st.mem w) w x xa):fP cx st a w (convert T U xa) e:=by
 unfold ot at h;split at h;rename_i u k s n J h2;obtain ⟨b,rfl,o⟩:=o9 (g:=g) (m:=st.mem) (S:=cx.safe g st.mem w) (w:=w) hx;obtain ⟨he,Gt⟩:=cT h;rw [Gt] at hc;have R:rP s k n=true:=hc.1;by_cases ae:s=k;subst ae;have I:wS s s n=n:=by unfold wS;rw [if_pos rfl]
 rw [I] at he;refine aci hs (bF.mk he (r:= .float s b) (run_convert_float_float w T U s s b b (by rw [J];rfl) h2 (by simp [floatToFloatBits])) (nT o));have Oj:=B8 s k b ae;rw [o] at Oj;rw [Oj.2] at he;rw [Oj.1] at R;unfold rP at R;unfold wS at he;rw [if_neg ae] at R he;cases hd:s.decode b with
 |nan sg t=>
  rw [hd] at he;have hn:(convert T U (.float s b)).run cx.P w= .ok (.float k (aa8 (.nanConv k b) (w.tape w.drawn (.nanConv k b)))) w.drew:=by
   cases u<;>simp [convert,run_underlying J,run_underlying h2,Conv.floatToFloat,ae,hd,acj]
  exact fP.drew hs he hn λg m S w=>nT (Ie k b _)
 |infinity sg=>
  rw [hd] at he;exact aci hs (bF.mk he (run_convert_float_float w T U s k b _ (by rw [J];rfl) h2 (by simp [floatToFloatBits,ae,hd])) (nT rfl))
 |number sg mm ee=>
  rw [hd] at he R;have R:(k.decode (k.encode (.number sg mm ee))).isInfinity=false:=by simpa using R
  exact aci hs (bF.mk he (run_convert_float_float w T U s k b _ (by rw [J];rfl) h2 (by simp [floatToFloatBits,ae,hd,R])) (nT rfl))
 rename_i u k kk n J h2;have:=dH (g:=g) (m:=st.mem) (S:=cx.safe g st.mem w) (w:=w) hx;subst this;exact aci hs (bF.mk (bE h) (r:= .float k (k.nearest n)) (by cases u<;>simp [convert,run_underlying J,run_underlying h2,Conv.intToFloat]) (nT rfl));rename_i el s J h2;cases o:dw cx.P U with
 |false=>simp [o] at h
 |true=>
  rw [o] at h;simp only [cond_true] at h;injection h with h;subst h;obtain ⟨I,k1,k2⟩:=qX o;have K4:=lj (g:=g) (m:=st.mem) (S:=cx.safe g st.mem w) (w:=w) hx;subst K4;have hlen:s.length<=bl:=hc.1;unfold bl at hlen;have ab:=Lib.run_convert_string_bytes (P:=cx.P) w T U I ⟨s.toArray⟩ J k1 k2;have nu:(⟨s.toArray⟩:ByteArray).size=s.length:=by simp [abj]
  rw [nu] at ab;have vZ:=grownCap_ge w s.length 0 I;have H0:=grownCap_le_maxLen w s.length 0 I (by unfold maxLen;omega);refine ⟨_,_,ab,?_⟩;have GF:=Lib.bytesWorld_at_new w I ⟨s.toArray⟩;have hcs:(abC w I ⟨s.toArray⟩).size=grownCap w s.length 0 I:=by
   simp [abC,nu];omega
  have hblk:dm (ado w I ⟨s.toArray⟩) w.heap.size (abC w I ⟨s.toArray⟩):=
   ⟨_,_,_,GF,.inr (φ _)⟩
  have hold: ∀j,j<w.heap.size->(ado w I ⟨s.toArray⟩).heap[j]? =w.heap[j]? :=λj hj=>Lib.bytesWorld_at_old w I ⟨s.toArray⟩ j hj;have wN:bJ [] w (ado w I ⟨s.toArray⟩):=by
   have tD: ∀(w:Ε) (a:Addr) (n:Nat),(w.freeze a n).os=w.os/\(w.freeze a n).tape=w.tape/\(w.freeze a n).output=w.output:=by
    intro w a n;unfold adk;split<;>exact ⟨rfl,rfl,rfl⟩
   have hf:=tD (w.drew.alloc (.cells (abC w I ⟨s.toArray⟩) I)) ⟨w.heap.size,(abC w I ⟨s.toArray⟩).size,none⟩ 1;exact ⟨hf.1,hf.2.1,hf.2.2,by rw [Lib.bytesWorld_size];omega,λb o _=>hold b o,λb arr o=>⟨arr,o.bt (hold b o.lt),rfl⟩⟩
  refine adA (G:=[]) (up:=[]) (gk:=some w.heap.size) hs hw ⟨rfl,rfl,rfl⟩ (.inl rfl) wN (.inl rfl) (λb o=>by injection o with o;left;omega) (λb o=>by injection o with o;subst o;exact hblk.lt) (λS' hS=>⟨_,hblk,?_⟩) ?_;refine eI.k9 rfl (GO λj hj=> ?_);simp [abC,hj,Array.getElem?_append];exact ⟨_,_,by simp [cM],by simp [cM];exact vZ,hblk,by rw [hcs];simp [aan],H0⟩
 rename_i el1 el2 c J h2;cases o:(Α T U&&dw cx.P T) with
 |false=>rw [o] at h;cases h
 |true=>
  rw [o] at h;simp only [cond_true] at h;simp only [κ] at o;have Y1:=bR o.1;subst Y1;obtain ⟨I,k1,k2⟩:=qX o.2;split at h;rename_i t xs hl;split at h;rename_i ht;injection h with h;subst h;have Ii:0<ζ xs:=hc.1;have je:=hs.mem c _ hl;have gx:=hx.2.2 t xs (.inl hl);unfold iS at gx;unfold jc at je;cases hg:g.f c [] with
  |none=>
   rw [hg] at je;have:xs=[]:=je;subst this;simp at Ii
  |some b=>
   rw [show g c=some b from hg] at gx;rw [hg] at je;obtain ⟨arr,aa,ma⟩:=je;obtain ⟨cap,p,e2,q1,q2,q3,q4⟩:=gx;have:=q2.eq aa;subst this;subst e2;have U3:=aa;obtain ⟨T0,lo,hi,hh,_⟩:=U3;have hsh:w.shape? b=some (T0,p.size):=by
    simp [World.shape?,hh]
   clear hh;have ab:(convert T T (.slice (some ⟨b,0,none⟩) (ζ xs) cap)).run cx.P w= .ok (.slice (some ⟨b,0,none⟩) (ζ xs) cap) (w.freeze ⟨b,p.size,none⟩ 1):=by
    simp [convert,run_underlying k1,run_underlying k2,markStringish,hsh]
   subst ht;refine ⟨_,_,ab,g,?_,?_⟩;have q:HN g st w (w.freeze ⟨b,p.size,none⟩ 1) c b [] (.seq (.int .u8) xs) (.seq (.int .u8) xs):=
    ⟨hl,trivial,hg,Ca aa,⟨p,p,aa,qi aa,rfl⟩,λ_ _=>trivial,by simp,λt' ig e=>⟨ig,e,rfl⟩,λt' ig e=>⟨ig,e,cy.refl _ _⟩⟩
   refine cG.M5 hs q ?_;unfold jc;rw [hg];exact ⟨p,qi aa,.k9 rfl λi hi=>by
    obtain ⟨es,r1,r2⟩:=ma.Fq rfl i hi;exact ⟨es,r1,r2⟩⟩
   refine ⟨by simp [bB],rfl,λt' ig af=> ?_⟩;have UE:lk c ((c,Chunk.seq (.int .u8) xs)::st.mem)=some (.seq (.int .u8) xs):=by rw [bB,if_pos rfl]
   have af:=ady UE af;rw [UE] at af;injection af with af;injection af with U4 Ol;subst U4;have Ol:=eq_of_heq Ol;subst Ol;unfold iS;rw [show g c=some b from hg];exact ⟨cap,p,rfl,q1,qi aa,q3,q4⟩
  cases h;cases h
 rename_i x0 _ _ _ el J h2;cases o:(dw cx.P T&&nJ st.mem x0) with
 |false=>rw [o] at h;cases h
 |true=>
  rw [o] at h;simp only [cond_true] at h;simp only [κ] at o;obtain ⟨o,HZ⟩:=o;split at h;rename_i l hl;obtain ⟨I,k1,k2⟩:=qX o;rw [k1] at J;injection J with J;injection J with J;subst J;obtain ⟨news,U5⟩:=Aj hs.mem hl HZ rfl hx;obtain ⟨ax,yO,ex,K7⟩:=U5.val;subst ex;refine aci hs (bF.mk (bE h) (r:= .string ⟨(lr l).toArray⟩) ?_ rfl);have RB:news=l.map (Value.int .u8):=by
   refine List.ext_getElem? λj=> ?_;have hln:news.length=l.length:=by have:=U5.len;simpa [aan] using this
   rcases aaz j l.length with hj|hj
   obtain ⟨es,q1,q2⟩:=U5.Fq j hj;have q2:es=[Value.int .u8 l[j]]:=q2;have:=q1 0 (by simp [aan]);simp only [aan,adn,ϧ,q2,aeo] at this;have e3:(List.map (Value.int .u8) l)[j]? =some (.int .u8 l[j]):=by
    rw [List.getElem?_map,Γ hj];rfl
   rw [e3,this];rw [aac (by omega),aac (by simp;omega)]
  rw [run_convert_bytes_string w T U I ax l.length yO k1 k2 h2];have zE: ∀(l:List Int) (r:ByteArray),l.foldl (λr n=>r.push (aau n.toNat)) r=⟨r.data++(lr l).toArray⟩:=by
   intro l;induction l with
   |nil=>intro r;simp [lr]
   |cons n l ih=>intro r;rw [List.foldl_cons,ih];simp [lr,ByteArray.push]
  rcases K7 with h0|⟨ad,rfl,gF⟩
  have:l=[]:=ϸ h0;subst this;cases ax with
  |none=>simp [afa,lr];rfl
  |some ad=>simp [afa,lr,loadCells,loadCellsFrom];rfl
  have hl:=run_loadCells_list (P:=cx.P) w ad (l.map (Value.int .u8)) (λj v hj=>gF j v (by rw [RB];exact hj));simp only [ϔ] at hl;rw [run_bytesToString w ad l.length yO _ hl,zE];simp;cases h
 exact aci hs (wK h hx)
theorem nU {w:Ε}{y:List UInt8}{n:Nat}(j:n=y.length)(size:Nat):(aaH size n (.string ⟨y.toArray⟩)).run P w= .ok ((cM y).map (Value.int .u8)).toArray w:=by
 subst j;have e:(⟨y.toArray⟩:ByteArray).extract 0 y.length=⟨y.toArray⟩:=by
  apply ByteArray.ext;simp
 simp only [aaH,e,ϳ];simp [cM]
theorem sB {t u ty e:Ι}{i:adh}{z:ο}(ht:P.underlying t=some (.slice e))(U:P.underlying u=some .string)(hi:P.info? e=some i)(hz:i.zero=some z){base:Option Addr}{n cap:Nat}{olds:List ο}(I:olds.length=n*i.size)(ho:n=0\/ ∃T,base=some T/\ ∀j v,olds[j]? =some v->w.cell? (T.add j)=some v){y:List UInt8}(hg:cap<n+y.length)(hb:(n+y.length)*i.bytes<=140737488355328)(YT:n+y.length<=9223372036854775807):
 (Ϛ #[t,u] ty #[.slice base n cap,.string ⟨y.toArray⟩]).run P w=
  .ok (.slice (some ⟨w.heap.size,0,none⟩) (n+y.length) (grownCap w (n+y.length) cap e))
   (w.drew.alloc (.cells (olds.toArray++((cM y).map (Value.int .u8)).toArray++Ϧ z.cells (grownCap w (n+y.length) cap e - (n+y.length))) e)):=by
 have o: ¬(n+y.length<=cap):=by omega
 have p: ¬(9223372036854775807<((n:Int)+(y.length:Int))):=by omega
 have XN:=growslice_fits (old:=cap) hg hb;have r: ¬(281474976710656<aen (n+y.length) cap*i.bytes):=by omega
 have hf:=nU (P:=P) (w:=w.drew) (y:=y) (n:=y.length) rfl i.size;have J:=eK (P:=P) (w:=w.drew) (len:=n) (cap:=cap) I ho;have R:(⟨y.toArray⟩:ByteArray).size=y.length:=by simp [abj]
 simp [Ϛ,run_underlying ht,run_underlying U,sizeOf,typeInfo,zeroValue,hi,hz,aaZ,R,o,p,r,acj,hf,J,newRow,grownCap]
 congr 2
 apply aaU;simp [ό]
theorem yQ {t u ty e:Ι}{i:adh}(ht:P.underlying t=some (.slice e))(T:P.underlying u=some .string)(U:P.info? e=some i)(o:i.size=1){b n cap:Nat}{arr:Array ο}(hb:dm w b arr){y:List UInt8}(p:n+y.length<=cap)(r:(n+y.length)*i.size<=arr.size):
 ∃w' j,(Ϛ #[t,u] ty #[.slice (some ⟨b,0,none⟩) n cap,.string ⟨y.toArray⟩]).run P w= .ok (.slice (some ⟨b,0,none⟩) (n+y.length) cap) w'/\dm w' b j/\
  j.toList=arr.toList.take (n*i.size)++(cM y).map (Value.int .u8)++arr.toList.drop (n*i.size+y.length)/\bJ [b] w w'/\w'.heap.size=w.heap.size:=by
 have hf:=nU (P:=P) (w:=w) (y:=y) (n:=y.length) rfl i.size;have I:(⟨y.toArray⟩:ByteArray).size=y.length:=by simp [abj]
 have J:((cM y).map (Value.int .u8)).length=y.length:=by simp [cM]
 obtain ⟨w',j,e,k1,R,k3,k4⟩:=ed (P:=P) ((cM y).map (Value.int .u8)) (n*i.size) 0 w arr hb (by rw [J,ϧ,o];rw [o] at r;omega) (λv hv=>by
  obtain ⟨x,_,rfl⟩:=ϟ.1 hv;rfl)
 rw [J] at R;refine ⟨w',j,?_,k1,by simpa using R,k3,k4⟩;have ha:(⟨b,0,none⟩:Addr).add (n*i.size)=⟨b,n*i.size,none⟩:=by rw [ca];simp
 simp [Ϛ,run_underlying ht,run_underlying T,sizeOf,typeInfo,U,aaZ,I,p,hf,ha,e]
theorem sC {t u ty e:Ι}{i:adh}(ht:P.underlying t=some (.slice e))(p:P.underlying u=some .string)(r:P.info? e=some i){base:Option Addr}:
 (Ϛ #[t,u] ty #[.slice base 0 0,.string ⟨#[]⟩]).run P w= .ok (.slice base 0 0) w:=by
 have j:=nU (P:=P) (w:=w) (y:=[]) (n:=0) rfl i.size;have o:(⟨#[]⟩:ByteArray).size=0:=rfl;have j:(aaH i.size 0 (.string ⟨#[]⟩)).run P w= .ok #[] w:=j;cases base<;>simp [Ϛ,run_underlying ht,run_underlying p,sizeOf,typeInfo,r,aaZ,o,j,storeCells]
theorem wV {S':Nat->Prop}{w':Ε}{y:List UInt8}:dV S' w' (.int .u8) (cM y) ((cM y).map (Value.int .u8)):=λi o=>by
 refine ⟨[.int .u8 (cM y)[i]],λj p=> ?_,rfl⟩;have:j=0:=by simpa [aan] using p
 subst this;simp [aan,o]
theorem wW {T T':Ι}{ty:Ι}{s x:bu}{e:cB}{sv xv:ο}(h:cG cx g st a w)(hw:fe st.mem e.new)(he:pJ cx.P st.mem st.nx T T' s x=some e)(hc:bU e.cond)(hs:VR g st.mem (cx.safe g st.mem w) w s sv)(hx:VR g st.mem (cx.safe g st.mem w) w x xv):fP cx st a w (Ϛ #[T,T'] ty #[sv,xv]) e:=by
 unfold pJ at he;split at he;rename_i el y hu Gx;have Li:=lj (g:=g) (m:=st.mem) (S:=cx.safe g st.mem w) (w:=w) hx;subst Li;split at he;rename_i i hi;cases I:((dw cx.P T&&Α i.size 1)&&(ϩ i.bytes 32768&&i.zero.isSome)&&(i.zero.map λz=>Α z.cells.size 1).getD false) with
 |false=>simp [I] at he
 |true=>
  rw [I] at he;simp only [cond_true] at he;simp only [κ] at I;obtain ⟨⟨⟨hT,r⟩,BU,Ri⟩,Fz⟩:=I;have r:=bR r;have BU:=iU BU;obtain ⟨z,hz⟩:=abl.1 Ri;rw [hz] at Fz;have Fz:z.cells.size=1:=bR (by simpa using Fz);split at he;rename_i o up zw;injection he with he;subst he;have hlen:o.length+y.length<=bl:=hc.1;unfold bl at hlen;obtain ⟨tL,UJ⟩:=BT h.mem zw rfl hs;have wM:(o.length+y.length)*i.bytes<=140737488355328:=by
   calc (o.length+y.length)*i.bytes<=4294967296*32768:=aaB hlen BU
    _=140737488355328:=by decide
  have Nb:(cM y).length=y.length:=by simp [cM]
  have FA:((cM y).map (Value.int .u8)).length=y.length:=by simp [cM]
  have grow: ∀(base:Option Addr) (cap:Nat) (p:List ο),p.length=o.length*i.size->(o.length=0\/ ∃ad,base=some ad/\ ∀j v,p[j]? =some v->w.cell? (ad.add j)=some v)->
   dV (cx.safe g st.mem w) w (.int .u8) o p->cap<o.length+y.length->(up=[]\/ ∃c K8,up=[(c,.gone)]/\lk c st.mem=some K8/\K8≠ .gone)->
   fP cx st a w (Ϛ #[T,T'] ty #[.slice base o.length cap,.string ⟨y.toArray⟩]) ⟨.one (.all st.nx),[(st.nx,.seq (.int .u8) (o++cM y))],up,[ζ o+ζ y<=bl]⟩:=by
   intro base cap p FB ho U hlt tL;have vZ:=grownCap_ge w (o.length+y.length) cap el;have H0:=grownCap_le_maxLen w (o.length+y.length) cap el (by unfold maxLen;omega);have hr:=sB (P:=cx.P) (ty:=ty) hu Gx hi hz FB ho hlt wM (by omega);have wN:bJ [] w (w.drew.alloc (.cells (p.toArray++((cM y).map (Value.int .u8)).toArray++Ϧ z.cells (grownCap w (o.length+y.length) cap el - (o.length+y.length))) el)):=
    (af5 [] w).trans (ab6 _ _ _)
   have t:=adV w.drew (p.toArray++((cM y).map (Value.int .u8)).toArray++Ϧ z.cells (grownCap w (o.length+y.length) cap el - (o.length+y.length))) el;refine ⟨_,_,hr,?_⟩;refine adA (G:=[]) (gk:=some w.heap.size) h hw ⟨rfl,rfl,rfl⟩ tL wN (.inl rfl) (λb I=>by injection I with I;left;omega) (λb I=>by injection I with I;subst I;exact t.lt) (λS' hS=>⟨_,t,?_⟩) ?_;refine eI.k9 rfl (dV.toR ?_);simp only [Array.toList_append];have h1:dV S' (w.drew.alloc (.cells (p.toArray++((cM y).map (Value.int .u8)).toArray++Ϧ z.cells (grownCap w (o.length+y.length) cap el - (o.length+y.length))) el)) (.int .u8) o p:=λi hi=>by
    obtain ⟨es,k1,k2⟩:=U i hi;exact ⟨es,k1,abi hS _ es _ k2⟩
   exact dV.app h1 (by rw [FB,r];rfl) wV (by rw [FA,Nb];simp [aan]);refine ⟨grownCap w (o.length+y.length) cap el,_,?_,by rw [ω,Nb];exact vZ,t,?_,H0⟩;rw [ω,Nb];simp only [adi,abk,size_zeroCells,Fz,FB,FA,r,aan];omega
  rcases UJ with ⟨Rj,ab,eb⟩|⟨c,ch,b,cap,arr,e1,e2,e3,e4,e5,hcap,t,kY,Ae,U⟩
  subst eb;subst Rj;by_cases hy:y.length=0;have N8:y=[]:=ϸ hy;subst N8;refine ⟨_,_,sC (P:=cx.P) hu Gx hi,?_⟩;exact adA (G:=[]) (gk:=none) h hw ⟨rfl,rfl,rfl⟩ tL (acL _ _) (.inl rfl) (λb I=>by cases I) (λb I=>by cases I) (λS' hS=>rfl) ⟨ab,rfl⟩;exact grow ab 0 [] (by simp) (.inl rfl) (λi hi=>by simp at hi) (by simp;omega) tL;subst e5;by_cases sA:o.length+y.length<=cap;have J:(o.length+y.length)*i.size<=arr.size:=by
   rw [r];have:cap*(Ty.int .u8).size<=arr.size:=kY;simp only [aan] at this;omega
  obtain ⟨w',dZ,hr,qK,uA,oo,qg⟩:=yQ (P:=cx.P) (ty:=ty) hu Gx hi r t sA J;refine ⟨_,_,hr,?_⟩;refine adA (G:=[b]) (gk:=some b) h hw ⟨rfl,rfl,rfl⟩ tL oo (.inr ⟨c,b,ch,e1,e2,e3,e4,rfl⟩) (λb' R=>by injection R with R;subst R;right;simp) (λb' R=>by injection R with R;subst R;exact qK.lt) (λS' hS=>⟨dZ,qK,?_⟩) ?_;refine eI.k9 rfl (dV.toR ?_);rw [uA,r];have h1:dV S' w' (.int .u8) o (arr.toList.take (o.length*1)):=λi hi=>by
   obtain ⟨es,k1,k2⟩:=U i hi;exact ⟨es,k1,abi hS _ es _ k2⟩
  refine dV.app h1 ?_ wV (by rw [FA,Nb];simp [aan]);rw [r] at J;simp [aan];omega;refine ⟨cap,dZ,by rw [ω,Nb],by rw [ω,Nb];exact sA,qK,?_,Ae⟩;have:dZ.size=arr.size:=by
   rw [<-Ψ,uA];rw [r] at J⊢;simp only [ω,ϙ,aab,FA,Ψ];omega
  rw [this];exact kY;have hle:o.length*1<=arr.size:=by
   have:cap*(Ty.int .u8).size<=arr.size:=kY;simp only [aan] at this;omega
  exact grow _ cap (arr.toList.take (o.length*1)) (by rw [r];simp;omega) (.inr ⟨_,rfl,λj v hj=>by
   rw [ca,t.cell];rw [ϐ] at hj;split at hj;simpa using hj;cases hj⟩) U (by omega) tL
  cases he
 cases he;cases he
theorem Cb {j:Option ο}{l h q:Int}{k1 k2:aaC}{len cap:Nat}(I:(j=none/\l=0)\/ ∃k,j=some (.int k l))(J:0<=l)(T:l<=h)(U:h<=q)(o:q<=(cap:Int)):
 (aaM true len cap j (some (.int k1 h)) (some (.int k2 q))).run P w= .ok (l.toNat,h.toNat,q.toNat) w:=by
 have p:0<=q:=by omega
 have r:0<=h:=by omega
 have e3:h<=((q.toNat:Nat):Int):=by omega
 have e4:l<=((h.toNat:Nat):Int):=by omega
 have t:h<=max q 0:=by omega
 have R:l<=max h 0:=by omega
 rcases I with ⟨rfl,rfl⟩|⟨k,rfl⟩
 simp [aaM,acv,asIntOf,p,r,o,t];simp [aaM,acv,asIntOf,J,p,r,o,t,R]
theorem yR {T:Ι}{x:bu}{lo hi mx:Option bu}{e:cB}{xa:ο}{lv hv qv:Option ο}(h:Av P T x lo hi mx=some e)(hc:bU e.cond)(hx:VR g m S w x xa)(N5:OR g m S w lo lv)(I:OR g m S w hi hv)(J:OR g m S w mx qv):bF P g m S w (acp T xa lv hv qv) e:=by
 unfold Av at h;split at h;rename_i el t R hu;split at h;rename_i l k2 U k q hl;cases hb:(cX P el==some t.size) with
 |false=>simp [hb] at h
 |true=>
  rw [hb] at h;simp only [cond_true] at h;have hs:cX P el=some t.size:=by simpa using hb
  obtain ⟨he,Gt⟩:=cT h;rw [Gt] at hc;obtain ⟨⟨h0,h1,h2,h3⟩,_⟩:=hc;have h0:(0:Int)<=(l:Int):=h0;have h1: @LE.le Int _ l U:=h1;have h2: @LE.le Int _ U q:=h2;have h3: @LE.le Int _ q ((ζ R:Nat):Int):=h3;have uA:=rF hl N5;obtain ⟨a,cap,e1,hcap,qU⟩:=(hx:bT S w (.sl t) [xa] R);have K4:xa= .slice a (ζ R) cap:=by simpa using e1
  subst K4;cases qv with
  |none=>exact J.elim
  |some qv=>
   cases hv with
   |none=>exact I.elim
   |some hv=>
    have hq:=dH (g:=g) (m:=m) (S:=S) (w:=w) J;subst hq;have hh:=dH (g:=g) (m:=m) (S:=S) (w:=w) I;subst hh;have aa:=Cb (P:=P) (w:=w) (k1:=k2) (k2:=k) (len:=ζ R) (cap:=cap) uA h0 h1 h2 (by omega);refine bF.mk he (r:= .slice (if q.toNat=l.toNat then a else a.map (·.add (l.toNat*t.size))) (U.toNat - l.toNat) (q.toNat - l.toNat)) ?_ ?_;simp [acp,Instr.slice,run_underlying hu,aa,cA hs];have o:ζ (cut R l U)=U.toNat - l.toNat:=by unfold cut;simp;omega
    refine ⟨(if q.toNat=l.toNat then a else a.map (·.add (l.toNat*t.size))),q.toNat - l.toNat,by rw [o],by rw [o];omega,λj hj=> ?_⟩;rw [o] at hj;obtain ⟨ad,es,ea,hS,p,ab⟩:=qU (l.toNat+j) (by omega);subst ea;rw [if_neg (by omega)];refine ⟨ad.add (l.toNat*t.size),es,rfl,by rw [fm];exact hS,λk u hu=> ?_,?_⟩;rw [add_add,<-Ϡ,<-ϑ];exact p k u hu;rw [Fx (by omega) (by omega)];exact ab
 cases h;cases h
end
end Go.Ide
namespace Go.Ide
def qj (P:Ξ)(nx:Nat)(T:Ι)(t:Ty)(len:Nat)(parts:List (Nat×bu)):Option cB:=
 match P.underlying T with
 |some (.slice e)=>bif (cX P e==some t.size&&(((P.info? e).bind (·.zero)).map λz=>Α z.cells.size t.size)==some true)&&(Α parts.length len&&ϩ (len*t.size) 65536) then
  (match uy t 0 parts with
  |some j=>some ⟨.one (.bp (.sl t) j),[],[],[]⟩
  |none=>none) else none
 |_=>none
section
variable {cx:Cx} {g:GM} {st:St} {a:Act} {w w':Ε}
theorem oT.bP {t:Ty}{xs:List t.D}{arr:Array ο}{el:Ι}{e:cB}(h:cG cx g st a w)(I:e.new=[]/\e.kZ=[]/\e.val= .one (.bp (.sl t) xs))(J:dV (cx.safe g st.mem w) w t xs arr.toList):
 oT cx st a e (.slice (some ⟨w.heap.size,0,none⟩) xs.length xs.length) (w.alloc (.cells arr el)):=by
 refine ⟨g,?_,?_⟩;rw [I.1,I.2.1];exact h.grow (ab6 _ _ _);rw [I.1,I.2.1,I.2.2];have o:(w.alloc (.cells arr el)).heap.size=w.heap.size+1:=by simp
 have r: ∀b,cx.safe g st.mem w b->cx.safe g st.mem (w.alloc (.cells arr el)) b:=λb ⟨h1,U,h3⟩=>⟨by rw [o];omega,U,h3⟩;have R:cx.safe g st.mem (w.alloc (.cells arr el)) w.heap.size:=by
  refine ⟨by rw [o];omega,λT=> ?_,?_⟩;have:=h.bt.size;omega;rintro ⟨k,p,ch,hk,hn,hg⟩;have:=h.lt k p ch _ hk hn hg;omega
 refine ⟨some ⟨w.heap.size,0,none⟩,xs.length,rfl,φ _,λi hi=> ?_⟩;obtain ⟨es,k1,k2⟩:=J.toR i hi;refine ⟨⟨w.heap.size,0,none⟩,es,rfl,R,λj v hj=> ?_,abi (λb T=>⟨r b T,aao w _ b T.1⟩) t es _ k2⟩;rw [ca,(adV w arr el).cell];simpa using k1 j v hj
theorem sR {T:Ι}{t:Ty}{len:Nat}{parts:List (Nat×bu)}{vparts:Array (Nat×ο)}{e:cB}(h:cG cx g st a w)(r:qj cx.P st.nx T t len parts=some e)(hp:bN (λ(p:Nat×bu) (q:Nat×ο)=>p.1=q.1/\VR g st.mem (cx.safe g st.mem w) w p.2 q.2) parts vparts.toList):fP cx st a w (Ϲ T len vparts) e:=by
 unfold qj at r;split at r;rename_i el hu;cases hb:((cX cx.P el==some t.size&&(((cx.P.info? el).bind (·.zero)).map λz=>Α z.cells.size t.size)==some true)&&(Α parts.length len&&ϩ (len*t.size) 65536)) with
 |false=>rw [hb] at r;cases r
 |true=>
  rw [hb] at r;simp only [cond_true] at r;simp only [κ,beq_iff_eq] at hb;obtain ⟨⟨hs,J⟩,hn,aa⟩:=hb;have hn:=bR hn;have aa:=iU aa;subst hn;split at r;rename_i xs hx;injection r with r;subst r;cases hi:cx.P.info? el with
  |none=>simp [cX,hi] at hs
  |some i=>
   rw [hi] at J;simp only [η] at J;cases U:i.zero with
   |none=>simp [U] at J
   |some z=>
    rw [U] at J;have J:Α z.cells.size t.size=true:=by simpa using J
    have J:=bR J;let base:Array ο:=(abT (parts.length*t.size)).map λk=>(if parts.length*t.size=0 then #[] else z.cells)[k%(if parts.length*t.size=0 then #[] else z.cells).size]!;have ab:base.size=parts.length*t.size:=by simp [base]
    obtain ⟨o,ad,e1,e2,e3,e4,e5⟩:=sM (g:=g) (m:=st.mem) (S:=cx.safe g st.mem w) (w:=w) (arr:=base) hx hp (by rw [ab,Υ];exact φ _);have ae:(Ϲ T parts.length vparts).run cx.P w= .ok (.slice (some ⟨w.heap.size,0,none⟩) parts.length parts.length) (w.alloc (.cells o el)):=by
     have R: ¬(16777216<parts.length*t.size):=by omega
     by_cases h0:parts.length*t.size=0;have I:aa1 (λj=>some (j*t.size,t.size)) ((abT (parts.length*t.size)).map λk=>(#[]:Array ο)[k%(#[]:Array ο).size]!) vparts.toList=some o:=by
      have:=e1;simp only [base,h0,if_true] at this;rw [h0];exact this
     simp only [Ϲ,Ϙ,run_underlying hu,ϋ,cA hs];simp [h0,R] at I⊢;simp [I,newRow];have I:aa1 (λj=>some (j*t.size,t.size)) ((abT (parts.length*t.size)).map λk=>z.cells[k%z.cells.size]!) vparts.toList=some o:=by
      have:=e1;simp only [base,h0,if_false] at this;exact this
     simp only [Ϲ,Ϙ,run_underlying hu,ϋ,cA hs];simp [h0,R,zeroValue,typeInfo,hi,U] at I⊢;simp [I,newRow]
    refine ⟨_,_,ae,?_⟩;have hlen:o.toList=ad:=by
     rw [e5,<-e4];simp only [aaY,Υ,List.take_zero,List.nil_append];rw [aet (by rw [Ψ,ab];exact φ _)];simp
    rw [e4];exact oT.bP h ⟨rfl,rfl,rfl⟩ (by rw [hlen];exact e3)
  cases r
 cases r
end
def Lj:List Bool->List RV->List RV
 |true::j,r::rs=>⟨false,r.t.er,BJ r.x⟩::Lj j rs
 |false::j,r::rs=>r::Lj j rs
 |[],rs=>rs
 |_,[]=>[]
theorem fX.rep {S S':Nat->Prop}{w:Ε}(I: ∀b,S b->S' b){t:Ty}{cs:List ο}{xs:List t.D}{A:List (List Nat->Option Nat)}(J: ∀γ,γ∈A-> ∀p b,γ p=some b->S' b)(h:fX S w t cs xs A):bT S' w (.sl t) cs xs:=by
 rcases h with ⟨_,rfl,a,e⟩|⟨v,γ,R,e,b,cap,arr,T,ev,U,h2,h3,h4,h5,h6⟩
 exact ⟨a,0,e,φ _,λi r=>by simp at r⟩;subst e;subst ev;have o: ∀p b,γ p=some b->S' b:=J γ (by rw [R];simp);refine ⟨some ⟨b,0,none⟩,cap,rfl,U,λi r=> ?_⟩;obtain ⟨es,k1,k2⟩:=h6.data I o i r;refine ⟨⟨b,0,none⟩,es,rfl,o [] b T,λj v hj=> ?_,k2⟩;rw [ca,h3.cell];simpa using k1 j v hj
theorem dt.rep {S S':Nat->Prop}{w:Ε}(I: ∀b,S b->S' b): ∀(t:Ty) {cs:List ο} {x:t.D} {A:List (List Nat->Option Nat)},(∀γ,γ∈A-> ∀p b,γ p=some b->S' b)->dt S w t cs x A->bT S' w t cs x
 | .int _,_,_,_,_,h=>h.2
 | .dB _,_,_,_,_,h=>h.2
 | .bool,_,_,_,_,h=>h.2
 | .str,_,_,_,_,h=>h.2
 | .pair a b,_,_,_,r,⟨U,c2,A1,A2,e,J,R,T⟩=>by
  subst e;subst J;exact ⟨U,c2,rfl,dt.rep I a (λγ o=>r γ (Λ.2 (.inl o))) R,dt.rep I b (λγ o=>r γ (Λ.2 (.inr o))) T⟩
 | .st t,_,_,_,r,h=>dt.rep I t (cs:=_) r h
 | .sl t,_,_,_,r,h=>fX.rep I r h
 | .bx t,_,xs,_,r,⟨γ,b,arr,J,e,h0,R,T⟩=>by
  subst e;have o: ∀p b,γ p=some b->S' b:=r γ (by rw [J];simp);refine ⟨⟨b,0,none⟩,rfl,λi hi=> ?_⟩;obtain ⟨es,k1,k2⟩:=T.data I o i hi;refine ⟨es,o [] b h0,λj v hj=> ?_,k2⟩;rw [ca,R.cell];simpa using k1 j v hj
 | .own t,_,_,_,r,h=>fX.rep I r h
 | .cl f t,cs,x,_,_,h=>abi (λb hb=>⟨I b hb,rfl⟩) (.cl f t) cs x h.2
theorem wQ.cases {S:Nat->Prop}{w:Ε}{r:RV}{v:ο}{F:List (List Nat->Option Nat)}(h:wQ S w r v F):(r.fresh=true/\ ∃cs,dC r.t cs v/\dt S w r.t cs r.x F)\/(r.fresh=false/\F=[]/\ ∃cs,dC r.t cs v/\bT S w r.t cs r.x):=by
 unfold wQ at h;cases j:r.fresh with
 |true=>rw [j] at h;exact .inl ⟨rfl,h⟩
 |false=>rw [j] at h;exact .inr ⟨rfl,h⟩
theorem wQ.fr {S:Nat->Prop}{w:Ε}{r:RV}{v:ο}{F:List (List Nat->Option Nat)}(j:r.fresh=true)(h: ∃cs,dC r.t cs v/\dt S w r.t cs r.x F):wQ S w r v F:=by
 unfold wQ;rw [j];exact h
theorem wQ.im {S:Nat->Prop}{w:Ε}{r:RV}{v:ο}(j:r.fresh=false)(h: ∃cs,dC r.t cs v/\bT S w r.t cs r.x):wQ S w r v []:=by
 unfold wQ;rw [j];exact ⟨rfl,h⟩
theorem wQ.up {S S':Nat->Prop}{w:Ε}(t: ∀b,S b->S' b){r:RV}{v:ο}{F:List (List Nat->Option Nat)}(h:wQ S w r v F):wQ S' w r v F:=by
 rcases h.cases with ⟨j,cs,o,p⟩|⟨j,rfl,cs,o,p⟩
 exact wQ.fr j ⟨cs,o,dt.mono t _ p⟩;exact wQ.im j ⟨cs,o,abi (λb I=>⟨t b I,rfl⟩) _ _ _ p⟩
theorem nv.up {S S':Nat->Prop}{w:Ε}(j: ∀b,S b->S' b): ∀{rs:List RV} {vs:List ο} {F:List (List Nat->Option Nat)},nv S w rs vs F->nv S' w rs vs F
 |[],[],_,h=>h
 |_::_,_::_,_,⟨o,p,e,r,t⟩=>⟨o,p,e,r.up j,nv.up j t⟩
 |[],_::_,_,h=>h.elim
 |_::_,[],_,h=>h.elim
def RC (A j:List (List Nat->Option Nat))(b:Nat):Prop:=(∃γ,γ∈A/\ ∃p,γ p=some b)/\ ¬ ∃γ,γ∈j/\ ∃p,γ p=some b
theorem pr.app {r t:List (List Nat->Option Nat)}(h:pr (r++t)):pr r/\pr t/\ ∀γ j p q b,γ∈r->j∈t->γ p=some b->j q=some b->False:=by
 obtain ⟨J,I⟩:=h;obtain ⟨R,T,U⟩:=List.pairwise_append.1 J;exact ⟨⟨R,λγ o=>I γ (Λ.2 (.inl o))⟩,⟨T,λγ o=>I γ (Λ.2 (.inr o))⟩,λγ j p q b m1 m2 e1 e2=>U γ m1 j m2 p q b e1 e2⟩
theorem Cc {t:Ty}{cs:List ο}{v:ο}(h:dC t cs v):dC t.er cs v:=by
 cases t<;>exact h
theorem nv.pX {w:Ε}: ∀{fs:List Bool} {rs:List RV} {vs:List ο} {A:List (List Nat->Option Nat)} {S:Nat->Prop},nv S w rs vs A->pr A-> ∃R,R.Sublist A/\ ∀S':Nat->Prop,(∀b,S b->S' b)->(∀b,RC A R b->S' b)->nv S' w (Lj fs rs) vs R:=by
 intro fs;induction fs with
 |nil=>
  intro rs vs A S h _;exact ⟨A,acG _,λS' I _=>by cases rs<;>exact nv.up I h⟩
 |cons f fs ih=>
  intro rs vs A S h tQ;cases rs with
  |nil=>cases f<;>exact ⟨A,acG _,λS' I _=>nv.up I h⟩
  |cons r rs=>
   cases vs with
   |nil=>exact h.elim
   |cons v vs=>
    obtain ⟨A1,A2,e,h1,h2⟩:=h;subst e;obtain ⟨hn1,tl,T⟩:=tQ.app;obtain ⟨R,hs,hk⟩:=ih h2 tl;cases f with
    |true=>
     refine ⟨R,hs.trans (List.sublist_append_right _ _),λS' I U=>⟨[],R,rfl,?_,hk S' I λb ⟨⟨γ,j,p,hp⟩,hn⟩=>U b ⟨⟨γ,Λ.2 (.inr j),p,hp⟩,hn⟩⟩⟩;rcases h1.cases with ⟨_,cs,q1,q2⟩|⟨_,_,cs,q1,q2⟩
     exact wQ.im (r:=⟨false,r.t.er,BJ r.x⟩) rfl ⟨cs,Cc q1,qc _ _ _ (dt.rep I r.t (λγ j p b hp=>U b ⟨⟨γ,Λ.2 (.inl j),p,hp⟩,λ⟨J,o,q,hq⟩=>T γ J p q b j (hs.subset o) hp hq⟩) q2)⟩;exact wQ.im (r:=⟨false,r.t.er,BJ r.x⟩) rfl ⟨cs,Cc q1,qc _ _ _ (abi (λb hb=>⟨I b hb,rfl⟩) r.t cs _ q2)⟩
    |false=>
     refine ⟨A1++R,(acG A1).append hs,λS' I U=>⟨A1,R,rfl,h1.up I,hk S' I λb ⟨⟨γ,j,p,hp⟩,hn⟩=>U b ⟨⟨γ,Λ.2 (.inr j),p,hp⟩,λ⟨J,o,q,hq⟩=> ?_⟩⟩⟩;rcases Λ.1 o with hm|hm
     exact T J γ q p b hm j hq hp;exact hn ⟨J,hm,q,hq⟩
theorem il.up {S S':Nat->Prop}{w:Ε}(j: ∀b,S b->S' b): ∀{asx:List Arg} {vs:List ο} {Fs:List (List (List Nat->Option Nat))} {os:List TD},il S w asx vs Fs os->il S' w asx vs Fs os
 |[],[],[],[],h=>h
 | .own t x::asx,v::vs,F::Fs,o::os,⟨⟨e,cs,p,r,I⟩,h⟩=>⟨⟨e,cs,p,dt.mono j t r,I⟩,il.up j h⟩
 | .bP _ _::asx,_::vs,_::Fs,os,h=>il.up (asx:=asx) (vs:=vs) (Fs:=Fs) (os:=os) j h
 | .fW _ _::asx,_::vs,_::Fs,os,h=>il.up (asx:=asx) (vs:=vs) (Fs:=Fs) (os:=os) j h
 | .fn _::asx,_::vs,_::Fs,os,h=>il.up (asx:=asx) (vs:=vs) (Fs:=Fs) (os:=os) j h
 | .jb _ _ _::asx,_::vs,_::Fs,os,h=>il.up (asx:=asx) (vs:=vs) (Fs:=Fs) (os:=os) j h
 | .mv _ _::asx,_::vs,_::Fs,os,h=>il.up (asx:=asx) (vs:=vs) (Fs:=Fs) (os:=os) j h
 | .nl::asx,_::vs,_::Fs,os,h=>il.up (asx:=asx) (vs:=vs) (Fs:=Fs) (os:=os) j h
 |[],[],[],_::_,h=>h.elim
 |[],[],_::_,_,h=>h.elim
 |[],_::_,_,_,h=>h.elim
 | .own _ _::_,[],_,_,h=>h.elim
 | .own _ _::_,_::_,[],_,h=>h.elim
 | .own _ _::_,_::_,_::_,[],h=>h.elim
 | .bP _ _::_,[],_,_,h=>h.elim
 | .bP _ _::_,_::_,[],_,h=>h.elim
 | .fW _ _::_,[],_,_,h=>h.elim
 | .fW _ _::_,_::_,[],_,h=>h.elim
 | .fn _::_,[],_,_,h=>h.elim
 | .jb _ _ _::_,[],_,_,h=>h.elim
 | .fn _::_,_::_,[],_,h=>h.elim
 | .jb _ _ _::_,_::_,[],_,h=>h.elim
 | .mv _ _::_,[],_,_,h=>h.elim
 | .mv _ _::_,_::_,[],_,h=>h.elim
 | .nl::_,[],_,_,h=>h.elim
 | .nl::_,_::_,[],_,h=>h.elim
def Cd:List Arg->Bool
 |[]=>true
 | .mv _ _::_=>false
 |_::j=>Cd j
theorem tO.none {b:Nat}: ∀{asx:List Arg} {Fs:List (List (List Nat->Option Nat))},Cd asx=true-> ¬tO b asx Fs
 |[],_,_,h=>by simp [tO] at h
 |_::_,[],_,h=>by simp [tO] at h
 |a::asx,F::Fs,h,j=>by
  cases a with
  |mv t x=>cases h
  |_=>exact tO.none (asx:=asx) (Fs:=Fs) h j
theorem CallOK.pX {P:Ξ}{f:aaE}{args:List Arg}{rs:List RV}{outs:List TD}(fs:List Bool)(R:Cd args=true)(h:CallOK P f args rs outs):CallOK P f args (Lj fs rs) outs:=by
 refine ⟨h.1,λw S vals As F hB hI h1 h3 h4 hgl=>(h.2 w S vals As F hB hI h1 h3 h4 hgl).mono λe w' ⟨v,A,F',e1,t,I,⟨vs,hr,hv⟩,hF,hk,ho⟩=> ?_⟩;obtain ⟨A',hs,TV⟩:=hr.pX (fs:=fs) I;obtain ⟨F2,J⟩:=na (n:=w'.heap.size) (A:=A') (λγ j p b hp=>(hF b ((t b).2 ⟨γ,hs.subset j,p,hp⟩)).2);have r: ∀b,b∈F2->b∈F':=λb T=>by
  obtain ⟨γ,j,hp⟩:=(J b).1 T;exact (t b).2 ⟨γ,hs.subset j,hp⟩
 have o: ∀b,iW S w w' F' b->iW S w w' F2 b:=λb ⟨q1,q2,q3⟩=>⟨q1,q2,λR=>q3 (r b R)⟩;refine ⟨v,A',F2,e1,J,⟨I.1.sublist hs,λγ j=>I.2 γ (hs.subset j)⟩,⟨vs,TV _ o λb ⟨T,hn⟩=> ?_,hv⟩,λb T=>hF b (r b T),hk,ho.up o⟩;have U:=(t b).2 T;exact ⟨(hF b U).2,λhlt=>by
  rcases (hF b U).1 with q|q
  omega;exact absurd q (tO.none R),λR=>hn ((J b).1 R)⟩
end Go.Ide
namespace Go.Ide
def wX (P:Ξ)(nx:Nat)(T T':Ι)(t:Ty)(s x:bu):Option cB:=
 match P.underlying T,P.underlying T',s,x with
 |some (.slice e),some (.int _),.one .br,.one (.bp (.int _) n)=>(match P.info? e,tA P e t with
  |some i,some z=>bif Α i.size t.size&&ϩ i.bytes 32768 then
   some ⟨.one (.all nx),[(nx,.seq t (List.replicate (δ n) z))],[],[(0:Int)<=n/\n<=4294967296]⟩ else none
  |_,_=>none)
 |_,_,_,_=>none
section
variable {cx:Cx} {g:GM} {st:St} {a:Act} {w:Ε} {P:Ξ}
theorem yS {t u ty e:Ι}{i:adh}{z:ο}{ku k:aaC}(ht:P.underlying t=some (.slice e))(hu:P.underlying u=some (.int ku))(hi:P.info? e=some i)(hz:i.zero=some z){base:Option Addr}{n:Nat}(hn:0<n)(nu:0<i.size)(J:n<=4294967296)(R:i.bytes<=32768):
 (Ϛ #[t,u] ty #[.slice base 0 0,.int k (n:Int)]).run P w=
  .ok (.slice (some ⟨w.heap.size,0,none⟩) n (grownCap w n 0 e))
   (w.drew.alloc (.cells (Ϧ z.cells n++Ϧ z.cells (grownCap w n 0 e - n)) e)):=by
 have hb:n*i.bytes<=140737488355328:=by
  calc n*i.bytes<=4294967296*32768:=aaB J R
   _=140737488355328:=by decide
 have wl:IntKind.i64.wrap (n:Int)=n:=by rw [ae1];omega
 have n0: ¬((n:Int)<0):=by omega
 have T: ¬(281474976710656<(n:Int)*(i.bytes:Int)):=by
  rw [<-Int.natCast_mul];omega
 have U: ¬(n<=0):=by omega
 have j: ¬(n=0):=by omega
 have o: ¬(9223372036854775807<(n:Int)):=by omega
 have XN:=growslice_fits (old:=0) (by omega) hb;have p: ¬(281474976710656<aen n 0*i.bytes):=by omega
 have r: ¬(n=0\/i.size=0):=by omega
 have I: ¬(n*i.size=0):=by rw [Nat.mul_eq_zero];exact r
 have aa:(aaH i.size 0 (.slice base 0 0)).run P w.drew= .ok #[] w.drew:=by
  cases base<;>simp [aaH,loadCells,loadCellsFrom]
 simp [Ϛ,run_underlying ht,run_underlying hu,sizeOf,typeInfo,zeroValue,hi,hz,asInt,asIntOf,wl,n0,T,j,o,p,r,I,acj,aa,newRow,grownCap]
theorem yT {t u ty e:Ι}{i:adh}{j k:aaC}(ht:P.underlying t=some (.slice e))(o:P.underlying u=some (.int j))(p:P.info? e=some i){base:Option Addr}:
 (Ϛ #[t,u] ty #[.slice base 0 0,.int k 0]).run P w= .ok (.slice base 0 0) w:=by
 have r:IntKind.i64.wrap 0=0:=by rw [ae1];omega
 cases base<;>simp [Ϛ,run_underlying ht,run_underlying o,sizeOf,typeInfo,p,asInt,asIntOf,r,storeCells]
theorem wY {T T':Ι}{ty:Ι}{t:Ty}{s x:bu}{e:cB}{sv xv:ο}(h:cG cx g st a w)(hw:fe st.mem e.new)(U:wX cx.P st.nx T T' t s x=some e)(hc:bU e.cond)(hs:VR g st.mem (cx.safe g st.mem w) w s sv)(hx:VR g st.mem (cx.safe g st.mem w) w x xv):fP cx st a w (Ϛ #[T,T'] ty #[sv,xv]) e:=by
 unfold wX at U;split at U;rename_i el ku k n hu Gx;have Li:=dH (g:=g) (m:=st.mem) (S:=cx.safe g st.mem w) (w:=w) hx;subst Li;obtain ⟨ab,Om⟩:=hs;subst Om;split at U;rename_i i z0 hi r;cases R:(Α i.size t.size&&ϩ i.bytes 32768) with
 |false=>simp [R] at U
 |true=>
  rw [R] at U;simp only [cond_true] at U;simp only [κ] at R;have nu:=bR R.1;have BU:=iU R.2;injection U with U;subst U;obtain ⟨⟨h0,h1⟩,_⟩:=hc;obtain ⟨q,rfl⟩:=Int.eq_ofNat_of_zero_le (show (0:Int)<=n from h0);have hq:q<=4294967296:=by have:((q:Nat):Int)<=4294967296:=h1;omega
  unfold tA at r;rw [hi] at r;cases ad:i.zero with
  |none=>simp [ad] at r
  |some z=>
   simp only [ad] at r;have J: ∀(S':Nat->Prop) (w':Ε) (γ:List Nat->Option Nat),(∀p,γ p=none)->de S' w' t γ 0 z.cells.toList z0:=λS' w' γ hγ=>by
    split at r;rename_i qV;obtain ⟨cs,hval,J⟩:=mY (g:=⟨λ_ _=>none⟩) (m:=[]) (S:=S') (S2:=S') (λ_ h=>h) afM r (qd (w:=w') z);rw [oZ hval J];exact de.qQ t qV J;split at r;rename_i Al;split at r;rename_i x hx;injection r with r;subst r;obtain ⟨v1,v2,e,h1,h2⟩:=pF (g:=⟨λ_ _=>none⟩) (m:=[]) (S:=S') (w:=w') (γ:=γ) (o:=0) t hx (ky z Al) hγ;have:v2=[]:=by cases v2 with|nil=>rfl|cons=>exact h2.elim
    subst this;rw [ϴ] at e;rw [e];exact h1;cases r;cases r
   have I:z.cells.size=t.size:=by rw [<-Ψ];exact agV t (J (λ_=>True) w (λ_=>none) (λ_=>rfl))
   have XP:=t.size_pos;simp only [Int.toNat_natCast];by_cases U6:q=0;subst U6;refine ⟨_,_,yT (P:=cx.P) hu Gx hi,?_⟩;exact adA (G:=[]) (up:=[]) (gk:=none) h hw ⟨rfl,rfl,rfl⟩ (.inl rfl) (acL _ _) (.inl rfl) (λb R=>by cases R) (λb R=>by cases R) (λS' hS=>rfl) ⟨ab,rfl⟩;have vZ:=grownCap_ge w q 0 el;have H0:=grownCap_le_maxLen w q 0 el (by unfold maxLen;omega);refine ⟨_,_,yS (P:=cx.P) hu Gx hi ad (by omega) (by omega) hq BU,?_⟩;have aa:=adV w.drew (Ϧ z.cells q++Ϧ z.cells (grownCap w q 0 el - q)) el;refine adA (G:=[]) (up:=[]) (gk:=some w.heap.size) h hw ⟨rfl,rfl,rfl⟩ (.inl rfl) ((af5 [] w).trans (ab6 _ _ _)) (.inl rfl) (λb R=>by injection R with R;left;omega) (λb R=>by injection R with R;subst R;exact aa.lt) (λS' hS=>⟨_,aa,?_⟩) ?_;intro i' BK;simp only [List.length_replicate] at BK;refine ⟨z.cells.toList,λj u hj=> ?_,?_⟩;have M4:j<t.size:=by rw [<-I,<-Ψ];exact (ψ.1 hj).1
   have hlt:i'*t.size+j<q*t.size:=by
    have:(i'+1)*t.size<=q*t.size:=Ρ _ (by omega);rw [ϑ] at this;omega
   have N6:(i'*t.size+j)%t.size=j:=by rw [Nat.add_comm,aay,Nat.add_mul_mod_self_left];exact Nat.mod_eq_of_lt M4
   rw [abd (by rw [size_zeroCells,I];exact hlt)];have XX:j<z.cells.size:=by rw [I];exact M4
   simp only [Ϧ,I,Array.getElem?_map,Array.getElem?_range,hlt,if_true,Option.map_some,N6];rw [getElem!_pos z.cells j XX,<-aak XX,<-ϥ];exact hj;simp only [List.getElem_replicate];exact J _ _ _ (λp=>rfl);refine ⟨grownCap w q 0 el,_,by simp,by simpa using vZ,aa,?_,H0⟩;simp only [adi,size_zeroCells,I,<-ϑ];exact Ρ _ (by omega)
 cases U;cases U
end
end Go.Ide
namespace Go.Ide
theorem bN.D7 {α β:Type}{R:α->β->Prop}: ∀{asx:List α} {p:List β},asx.length=p.length->(∀(j:Nat) (a:α) (b:β),asx[j]? =some a->p[j]? =some b->R a b)->bN R asx p
 |[],[],_,_=>trivial
 |a::asx,b::p,o,h=>⟨h 0 a b rfl rfl,bN.D7 (by simpa using o) λj r t I J=>h (j+1) r t (by simpa using I) (by simpa using J)⟩
 |[],_::_,o,_=>by simp at o
 |_::_,[],o,_=>by simp at o
theorem bN.imp_mem {α β:Type}{R r:α->β->Prop}: ∀{asx:List α} {o:List β},(∀a,a∈asx-> ∀b,R a b->r a b)->bN R asx o->bN r asx o
 |[],[],_,_=>trivial
 |a::asx,b::o,h,j=>⟨h a (by simp) b j.1,bN.imp_mem (λt p=>h t (ϛ _ p)) j.2⟩
 |[],_::_,_,j=>j.elim
 |_::_,[],_,j=>j.elim
theorem tS: ∀(l:List Chunk) (n:Nat),(cm n l).map aas=List.range' n l.length
 |[],_=>rfl
 |_::r,n=>by simp [cm,tS r (n+1),List.range'_succ]
theorem pK: ∀(t:Ty) (x:t.D) (n o:Nat),(eC t x n).2.length=(cw t o).length
 | .pair a b,x,n,o=>by simp only [eC,cw,ω,pK a _ _ o,pK b _ _ (o+a.size)]
 | .st t,x,n,o=>pK t x n o
 | .own _,_,_,_=>rfl
 | .int _,_,_,_=>rfl
 | .dB _,_,_,_=>rfl
 | .bool,_,_,_=>rfl
 | .str,_,_,_=>rfl
 | .sl _,_,_,_=>rfl
 | .bx _,_,_,_=>rfl
 | .cl _ _,_,_,_=>rfl
theorem j8: ∀(t:Ty) (o q:Nat),q∈cw t o->o<=q/\q<o+t.size
 | .pair a b,o,q,h=>by
  rcases Λ.1 (show q∈cw a o++cw b (o+a.size) from h) with h|h
  have:=j8 a o q h;simp only [aan];omega;have:=j8 b (o+a.size) q h;simp only [aan];omega
 | .st t,o,q,h=>j8 t o q h
 | .own _,o,q,h=>by simp [cw] at h;subst h;simp [aan]
 | .int _,_,_,h=>by simp [cw] at h
 | .dB _,_,_,h=>by simp [cw] at h
 | .bool,_,_,h=>by simp [cw] at h
 | .str,_,_,h=>by simp [cw] at h
 | .sl _,_,_,h=>by simp [cw] at h
 | .bx _,_,_,h=>by simp [cw] at h
 | .cl _ _,_,_,h=>by simp [cw] at h
theorem mO: ∀(t:Ty) (o:Nat),(cw t o).Nodup
 | .pair a b,o=>by
  show (cw a o++cw b (o+a.size)).Nodup;rw [List.nodup_append];refine ⟨mO a o,mO b _,λq p r j e=> ?_⟩;have:=j8 a o q p;have:=j8 b (o+a.size) r j;omega
 | .st t,o=>mO t o
 | .own _,o=>by simp [cw]
 | .int _,_=>by simp [cw]
 | .dB _,_=>by simp [cw]
 | .bool,_=>by simp [cw]
 | .str,_=>by simp [cw]
 | .sl _,_=>by simp [cw]
 | .bx _,_=>by simp [cw]
 | .cl _ _,_=>by simp [cw]
section
variable {S:Nat->Prop} {w:Ε}
theorem rQ: ∀(t:Ty) {γ:List Nat->Option Nat} {o:Nat} {cs:List ο} {x:t.D} (n:Nat),de S w t γ o cs x-> ∀(g':GM) (m':Mem),(∀j ch,(eC t x n).2[j]? =some ch->lk (n+j) m'=some ch)->
 (∀j q,(cw t o)[j]? =some q->g'.f (n+j)=λp=>γ (q::p))->
 bN (CR g' m' S w) (eC t x n).1 cs/\ ∀j ch,(eC t x n).2[j]? =some ch->(∃t' T,ch= .seq t' T)/\jc g' m' S w (g'.f (n+j)) ch
 | .pair a b,γ,o,_,x,n,⟨c1,c2,e,h1,h2⟩=>by
  subst e;intro g' m' U hg;have la:=pK a x.1 n o;obtain ⟨p1,q1⟩:=rQ a n h1 g' m' (λj ch r=>U j ch (by
   simp only [eC];rw [Μ (ψ.1 r).1];exact r)) (λj q r=>hg j q (by
   show (cw a o++cw b (o+a.size))[j]? =_;rw [Μ (ψ.1 r).1];exact r))
  obtain ⟨p2,q2⟩:=rQ b (n+(eC a x.1 n).2.length) h2 g' m' (λj ch r=>by
   rw [Ϡ];refine U _ ch ?_;simp only [eC];rw [Κ (by omega)];simpa using r) (λj q r=>by
   rw [Ϡ];refine hg _ q ?_;show (cw a o++cw b (o+a.size))[_]? =_;rw [Κ (by omega),la];simpa using r)
  refine ⟨p1.append p2,λj ch r=> ?_⟩;simp only [eC] at r;by_cases hlt:j<(eC a x.1 n).2.length;rw [Μ hlt] at r;exact q1 j ch r;rw [Κ (by omega)] at r;have:=q2 _ ch r;rw [Ϡ,show (eC a x.1 n).2.length+(j - (eC a x.1 n).2.length)=j from by omega] at this;exact this
 | .st t,γ,o,cs,x,n,h=>rQ t (o:=o) (cs:=cs) (x:=x) n h
 | .own t,γ,o,cs,xs,n,⟨v,e,ha,hr⟩=>by
  subst e;intro g' m' U hg;have I:=U 0 _ rfl;have R:=hg 0 o rfl;rw [ϧ] at I R;have h0:g' n=γ [o]:=congrFun R [];refine ⟨⟨⟨by rw [I];simp,ha.one,λt' T uA=> ?_⟩,trivial⟩,λj ch r=> ?_⟩;have e:=ady I uA;rw [I] at e;injection e with e;injection e with e1 e2;subst e1;have e2:=eq_of_heq e2;subst e2;rw [h0];exact ha;have:j=0:=by
   have:=(ψ.1 r).1;simp [eC] at this;exact this
  subst this;simp [eC] at r;subst r;refine ⟨⟨t,xs,rfl⟩,?_⟩;rw [ϧ,R];unfold jc;cases J:γ [o] with
  |none=>rw [J] at hr;simp only [J];exact ϸ hr
  |some b=>rw [J] at hr;obtain ⟨arr,hb,hi⟩:=hr;simp only [J];exact ⟨arr,hb,hi⟩
 | .int k,_,_,cs,x,n,h=>λg' m' _ _=>by
  have h:cs=[.int k x]:=h;subst h;exact ⟨⟨rfl,trivial⟩,λj ch r=>by simp [eC] at r⟩
 | .dB k,_,_,cs,x,n,h=>λg' m' _ _=>by
  obtain ⟨b,e,h⟩:=(h: ∃b,cs=[Value.float k b]/\cW k b=x);subst e;exact ⟨⟨⟨b,rfl,h⟩,trivial⟩,λj ch r=>by simp [eC] at r⟩
 | .bool,_,_,cs,x,n,h=>λg' m' _ _=>by
  have h:cs=[.bool x]:=h;subst h;exact ⟨⟨rfl,trivial⟩,λj ch r=>by simp [eC] at r⟩
 | .str,_,_,cs,x,n,h=>λg' m' _ _=>by
  have h:cs=[.string ⟨x.toArray⟩]:=h;subst h;exact ⟨⟨rfl,trivial⟩,λj ch r=>by simp [eC] at r⟩
 | .sl t,_,_,cs,x,n,h=>λg' m' _ _=>by
  have I:=abA (.sl t) cs x h;have h:bT S w (.sl t) cs x:=h
  match cs,I,h with
  |[v],_,h=>exact ⟨⟨h,trivial⟩,λj ch r=>by simp [eC] at r⟩
 | .bx t,_,_,cs,x,n,h=>λg' m' _ _=>by
  have I:=abA (.bx t) cs x h;have h:bT S w (.bx t) cs x:=h
  match cs,I,h with
  |[v],_,h=>exact ⟨⟨h,trivial⟩,λj ch r=>by simp [eC] at r⟩
 | .cl f t,_,_,cs,x,n,h=>λg' m' _ _=>by
  have I:=abA (.cl f t) cs x h;have h:bT S w (.cl f t) cs x:=h
  match cs,I,h with
  |[v],_,h=>exact ⟨⟨h,trivial⟩,λj ch r=>by simp [eC] at r⟩
end
def yU (c i nx:Nat)(t:Ty)(xs:List t.D):Mem:=
 [(c,.oS t xs i (eC t (xs.getD i t.eY) nx).1 ((cm nx (eC t (xs.getD i t.eY) nx).2).map aas))]
def sr (i nx:Nat)(t:Ty)(xs:List t.D):Mem:=cm nx (eC t (xs.getD i t.eY) nx).2
section
variable {cx:Cx} {g:GM} {st:St} {a:Act} {w:Ε}
theorem cG.Ij {c i:Nat}{t:Ty}{xs:List t.D}(h:cG cx g st a w)(hl:lk c st.mem=some (.seq t xs))(hi:i<xs.length)(hw:fe st.mem (sr i st.nx t xs)):
 ∃g',cG cx g' (st.iT (yU c i st.nx t xs++sr i st.nx t xs++st.mem) (st.nx+(sr i st.nx t xs).length)) a w/\
  iG g g' st.mem (yU c i st.nx t xs++sr i st.nx t xs++st.mem) (cx.safe g st.mem w) (cx.safe g' (yU c i st.nx t xs++sr i st.nx t xs++st.mem) w) w w:=by
 let o:=(eC t (xs.getD i t.eY) st.nx).2;let Ik:=cw t 0;have rN:o.length=Ik.length:=pK t _ _ 0;let g':GM:=⟨λk=>if st.nx<=k then (match Ik[k - st.nx]? with|some q=>λp=>g.f c (i::q::p)|none=>g.f k) else g.f k⟩;have tP: ∀j,j<o.length->lk (st.nx+j) st.mem=none:=λj hj=>by
  have B4:(st.nx+j,o[j])∈sr i st.nx t xs:=
   mh (by show lk _ (cm st.nx o)=_;rw [dR,if_pos (by omega),show st.nx+j - st.nx=j from by omega];exact Γ hj)
  exact hw _ B4
 let m':Mem:=yU c i st.nx t xs++sr i st.nx t xs++st.mem;have hold: ∀k,lk k st.mem≠none->st.nx<=k->o.length<=k - st.nx:=λk R J=>by
  rcases aaz (k - st.nx) o.length with hlt|vZ
  exact absurd (by have:=tP _ hlt;rwa [show st.nx+(k - st.nx)=k from by omega] at this) R;exact vZ
 have I: ∀k,lk k st.mem≠none->g'.f k=g.f k:=λk R=>by
  show (if st.nx<=k then _ else _)=_;by_cases J:st.nx<=k;rw [if_pos J,aac (by rw [<-rN];exact hold k R J)];rw [if_neg J]
 have r: ∀j q,Ik[j]? =some q->g'.f (st.nx+j)=λp=>g.f c (i::q::p):=λj q hj=>by
  show (if st.nx<=st.nx+j then _ else _)=_;rw [if_pos (by omega),show st.nx+j - st.nx=j from by omega,hj]
 have On:lk c st.mem≠none:=by rw [hl];simp
 have RD:lk c m'=some (.oS t xs i (eC t (xs.getD i t.eY) st.nx).1 ((cm st.nx o).map aas)):=by
  show lk c (_++_++_)=_;rw [cp,cp];show (((lk c [(c,_)]).or _).or _)=_;rw [bB,if_pos rfl];rfl
 have Ar: ∀j ch,o[j]? =some ch->lk (st.nx+j) m'=some ch:=λj ch hj=>by
  have R:st.nx+j≠c:=λe=>On (by rw [<-e];exact tP j (ψ.1 hj).1);show lk _ (_++_++_)=_;rw [cp,cp];show (((lk _ [(c,_)]).or (lk _ (cm st.nx o))).or _)=_;rw [bB,if_neg R,fO,dR,if_pos (by omega),show st.nx+j - st.nx=j from by omega,hj];rfl
 have uF: ∀k,k≠c->lk k st.mem≠none->lk k m'=lk k st.mem:=λk U R=>by
  have UU:lk k (cm st.nx o)=none:=by
   rw [dR];by_cases J:st.nx<=k;rw [if_pos J];exact aac (hold k R J);rw [if_neg J]
  show lk _ (_++_++_)=_;rw [cp,cp];show (((lk _ [(c,_)]).or (lk _ (cm st.nx o))).or _)=_;rw [bB,if_neg U,fO,UU];simp
 have uG: ∀k ch,lk k m'=some ch->lk k st.mem=none-> ∃j,k=st.nx+j/\o[j]? =some ch:=λk ch U zA=>by
  have R:k≠c:=λe=>On (by rw [<-e];exact zA);have U:lk k (yU c i st.nx t xs++sr i st.nx t xs++st.mem)=some ch:=U;rw [cp,cp] at U;have U:(((lk k [(c,_)]).or (lk k (cm st.nx o))).or (lk k st.mem))=some ch:=U;rw [bB,if_neg R,fO,dR,zA] at U;by_cases J:st.nx<=k;rw [if_pos J] at U;refine ⟨k - st.nx,by omega,?_⟩;cases hx:o[k - st.nx]? with
  |none=>rw [hx] at U;simp at U
  |some c0=>rw [hx] at U;simpa using U
  rw [if_neg J] at U;simp at U
 have Oo: ∀j ch,o[j]? =some ch-> ∃q,Ik[j]? =some q:=λj ch hj=>
  ⟨Ik[j]'(by rw [<-rN];exact (ψ.1 hj).1),Γ _⟩
 have nK: ∀b,cx.safe g st.mem w b->cx.safe g' m' w b:=λb ⟨h1,h2,h3⟩=>by
  refine ⟨h1,h2,?_⟩;rintro ⟨k,p,ch,U,hn,hg⟩;cases ho:lk k st.mem with
  |none=>
   obtain ⟨j,e,hj⟩:=uG k ch U ho;subst e;obtain ⟨q,hq⟩:=Oo j ch hj;rw [r j q hq] at hg;exact h3 ⟨c,_,_,hl,trivial,hg⟩
  |some c0=>
   rw [I k (by rw [ho];simp)] at hg;by_cases e:k=c;subst e;exact h3 ⟨k,p,_,hl,trivial,hg⟩;rw [uF k e (by rw [ho];simp),ho] at U;injection U with U;exact h3 ⟨k,p,c0,ho,by rw [U];exact hn,hg⟩
 obtain ⟨G,hG⟩:=na (n:=w.heap.size) (A:=[λp=>g.f c (i::p)]) (λγ hγ p b hp=>by
  simp at hγ;subst hγ;exact h.lt c _ _ b hl trivial hp)
 have U7: ∀b,b∈G↔ ∃p,g.f c (i::p)=some b:=λb=>by rw [hG b];simp
 have je:=h.mem c _ hl;unfold jc at je;cases B7:g.f c [] with
 |none=>rw [B7] at je;have hn:xs=[]:=je;subst hn;simp at hi
 |some bc=>
 rw [B7] at je;obtain ⟨arr,hblk,ma⟩:=je;obtain ⟨KO,DW,BX,KP⟩:=ma.at_ hi;obtain ⟨sP,U8⟩:=rQ t st.nx (af3 (λb hb=>⟨nK b hb,rfl⟩) t (λ_ _ _=>rfl) KP) g' m' Ar (λj q hj=>r j q hj);have T:vL cx g g' st.mem m' w w G:=by
  refine ⟨acL _ _,λb hb=> ?_,I,λk ch ho=> ?_,λk ch ho oo=> ?_⟩;obtain ⟨p,hp⟩:=(U7 b).1 hb;exact ⟨c,_,_,hl,trivial,hp⟩;by_cases e:k=c;subst e;rw [hl] at ho;injection ho with ho;subst ho;refine .inr (.inr ⟨by simp,_,RD,by simp,λ_ _=>trivial,λt0 TS e=> ?_,λt0 TS e=>(by cases e),λp b arr _ _ hb=>⟨arr,hb,rfl⟩,?_⟩);rcases e with e|⟨_,_,_,e⟩
  cases e;injection e with e1 e2;subst e1;have e2:=eq_of_heq e2;subst e2;exact ⟨xs,.inl rfl,rfl⟩;rw [I k On];refine ⟨bN.D7 (by rw [ϔ,qL];exact rN.symm) λj q k' hq oo=> ?_,bc,arr,B7,hblk,hi,λj hj R=> ?_,KO,DW,BX,sP⟩;have QO:j<o.length:=by rw [rN];exact (ψ.1 hq).1
  rw [tS,List.getElem?_range' QO] at oo;injection oo with oo;have oo:k'=st.nx+j:=by omega
  subst oo;exact ⟨by rw [Ar j _ (Γ QO)];simp,r j q hq⟩;obtain ⟨es,k1,k2⟩:=ma j hj;exact ⟨es,k1,af3 (λb hb=>⟨nK b hb,rfl⟩) t (λ_ _ _=>rfl) k2⟩;refine .inl ⟨by rw [uF k e (by rw [ho];simp)];exact ho,λp b hn B6 Y2=> ?_⟩;obtain ⟨p',Y3⟩:=(U7 b).1 Y2;exact e (h.fV k c p _ _ _ b ho hn hl trivial B6 Y3).1;obtain ⟨j,e,hj⟩:=uG k ch oo ho;subst e;obtain ⟨q,hq⟩:=Oo j ch hj;refine ⟨(U8 j ch hj).2,λp b _ B6=> ?_⟩;rw [r j q hq] at B6;refine ⟨.inr ((U7 b).2 ⟨_,B6⟩),h.lt c _ _ b hl trivial B6,λk' p' pq sy tl Au=> ?_⟩;cases D3:lk k' st.mem with
  |none=>
   obtain ⟨j2,e2,Gw⟩:=uG k' pq sy D3;subst e2;obtain ⟨q2,Nc⟩:=Oo j2 pq Gw;rw [r j2 q2 Nc] at Au;have:=(h.fV c c _ _ _ _ b hl trivial hl trivial Au B6).2;injection this with _ this;injection this with e1 e2;subst e1;have U9:j2=j:=by
    obtain ⟨l1,q1⟩:=ψ.1 Nc;obtain ⟨l2,Y4⟩:=ψ.1 hq;exact (List.getElem_inj (mO t 0)).1 (q1.trans Y4.symm)
   exact ⟨by rw [U9],e2⟩
  |some c0=>
   exfalso;rw [I k' (by rw [D3];simp)] at Au;by_cases e:k'=c;subst e;rw [RD] at sy;injection sy with sy;subst sy;have:=(h.fV k' k' _ _ _ _ b hl trivial hl trivial Au B6).2;exact tl q p this (aaG hq);rw [uF k' e (by rw [D3];simp),D3] at sy;injection sy with sy;subst sy;exact e (h.fV k' c _ _ _ _ b D3 tl hl trivial Au B6).1
 exact ⟨g',h.tC T,T.stays⟩
end
end Go.Ide
namespace Go.Ide
def Oq (j:Nat):List Nat->Bool
 |[]=>false
 |a::l=>Α j a||Oq j l
theorem wa {j:Nat}: ∀{l:List Nat},Oq j l=true↔j∈l
 |[]=>by simp [Oq]
 |a::l=>by simp [Oq,wa (l:=l)]
def dW:List bs->List Nat
 |[]=>[]
 | .all k::r=>k::dW r
 |_::r=>dW r
theorem nW: ∀{cs:List bs} {q k:Nat},cs[q]? =some (.all k)->k∈dW cs
 |[],q,k,h=>by simp at h
 |c::cs,0,k,h=>by simp at h;subst h;simp [dW]
 |c::cs,q+1,k,h=>by
  have:=nW (cs:=cs) (q:=q) (k:=k) (by simpa using h);cases c<;>simp [dW,this]
theorem tT: ∀{cs:List bs} {p q k:Nat},(dW cs).Nodup->cs[p]? =some (.all k)->cs[q]? =some (.all k)->p=q
 |[],p,q,k,_,h,_=>by simp at h
 |c::cs,0,0,k,_,_,_=>rfl
 |c::cs,0,q+1,k,j,o,r=>by
  simp at o;subst o;simp only [dW,aaV] at j;exact absurd (nW (by simpa using r)) j.1
 |c::cs,p+1,0,k,j,o,r=>by
  simp at r;subst r;simp only [dW,aaV] at j;exact absurd (nW (by simpa using o)) j.1
 |c::cs,p+1,q+1,k,j,o,r=>by
  have t:(dW cs).Nodup:=by cases c<;>simp [dW] at j<;>first|exact j|exact j.2
  have o:cs[p]? =some (.all k):=by simpa using o
  have r:cs[q]? =some (.all k):=by simpa using r
  rw [tT t o r]
theorem tU: ∀(a b:List bs),dW (a++b)=dW a++dW b
 |[],_=>rfl
 |c::a,b=>by cases c<;>simp [dW,tU a b]
section
variable {m:Mem}
theorem vj: ∀(t:Ty) {cs r:List bs} {x:t.D} {ls:List Nat},mb m t cs=some ((x,ls),r)-> ∃I,cs=I++r/\I.length=t.size/\ls=dW I/\ ∀k∈ls,∃t' R,lk k m=some (.seq t' R):=by
 have o: ∀(t:Ty) (ht:t.size=1) (hf: ∀c x,dF [] t c=some x->dW [c]=[]) {cs r:List bs} {x:t.D} {ls:List Nat},(dc [] t cs).map (λp=>((p.1,([]:List Nat)),p.2))=some ((x,ls),r)-> ∃I,cs=I++r/\I.length=t.size/\ls=dW I/\ ∀k∈ls,∃t' R,lk k m=some (.seq t' R):=by
  intro t ht hf cs r x ls h;cases cs with
  |nil=>simp [dc] at h
  |cons c cs=>
   simp only [dc] at h;cases hd:dF [] t c with
   |none=>rw [hd] at h;simp at h
   |some y=>
    rw [hd] at h;simp at h;obtain ⟨⟨rfl,rfl⟩,rfl⟩:=h;exact ⟨[c],rfl,by simp [ht],(hf c y hd).symm,by simp⟩
 have j: ∀(t:Ty) c x,dF [] t c=some x->dW [c]=[]:=by
  intro t c x h;cases c<;>first|rfl|skip
  rename_i k;cases t<;>simp [dF,fO] at h
 intro t;induction t with
 |int k=>intro cs r x ls h;exact o _ rfl (j _) h
 |dB k=>intro cs r x ls h;exact o _ rfl (j _) h
 |bool=>intro cs r x ls h;exact o _ rfl (j _) h
 |str=>intro cs r x ls h;exact o _ rfl (j _) h
 |sl t _=>intro cs r x ls h;exact o _ rfl (j _) h
 |bx t _=>intro cs r x ls h;exact o _ rfl (j _) h
 |cl f t _=>intro cs r x ls h;exact o _ rfl (j _) h
 |st t ih=>intro cs r x ls h;exact ih h
 |pair a b Od Oe=>
  intro cs r x ls h;simp only [mb] at h;split at h;rename_i y k1 r1 h1;split at h;rename_i z k2 r2 h2;injection h with h;injection h with T U;injection T with h5 h6;subst U;subst h6;obtain ⟨I,e1,l1,q1,s1⟩:=Od h1;obtain ⟨c2,e2,l2,q2,s2⟩:=Oe h2;refine ⟨I++c2,by rw [e1,e2,ό],by simp [aan,l1,l2],by rw [tU,q1,q2],λk J=> ?_⟩;rcases Λ.1 J with J|J
  exact s1 k J;exact s2 k J;cases h;cases h
 |own t _=>
  intro cs r x ls h;simp only [mb] at h;split at h;injection h with h;injection h with T U;injection T with h5 h6;subst U;subst h6;exact ⟨[.br],rfl,rfl,rfl,by simp⟩;rename_i c r';split at h;rename_i e xs hl;split at h;injection h with h;injection h with T U;injection T with h5 h6;subst U;subst h6;exact ⟨[.all c],rfl,rfl,rfl,λk J=>by simp at J;subst J;exact ⟨_,_,hl⟩⟩;cases h;cases h;cases h
variable {g:GM} {S S2:Nat->Prop} {w:Ε}
theorem GU (hm:j6 g m S w)(hS: ∀b,S b->S2 b): ∀(t:Ty) {γ:List Nat->Option Nat} {o:Nat} {cs r:List bs} {x:t.D} {ls:List Nat} {vs:List ο},mb m t cs=some ((x,ls),r)->bN (CR g m S w) cs vs->
 (∀q,o+q∈cw t o-> ∀k,cs[q]? =some (.all k)-> ∀p,γ ((o+q)::p)=g.f k p)->(∀q,o+q∈cw t o->cs[q]? =some .br->γ [o+q]=none)->
 ∃v1 v2,vs=v1++v2/\de S2 w t γ o v1 x/\bN (CR g m S w) r v2:=by
 have I: ∀(t:Ty) (hp: ∀(γ:List Nat->Option Nat) (o:Nat) (cs:List ο) (x:t.D),bT S2 w t cs x->de S2 w t γ o cs x) {γ:List Nat->Option Nat} {o:Nat} {cs r:List bs} {x:t.D} {ls:List Nat} {vs:List ο},
  (dc [] t cs).map (λp=>((p.1,([]:List Nat)),p.2))=some ((x,ls),r)->bN (CR g m S w) cs vs-> ∃v1 v2,vs=v1++v2/\de S2 w t γ o v1 x/\bN (CR g m S w) r v2:=by
  intro t hp γ o cs r x ls vs h j;cases cs with
  |nil=>simp [dc] at h
  |cons c cs=>
   cases vs with
   |nil=>exact j.elim
   |cons v vs=>
    simp only [dc] at h;cases hd:dF [] t c with
    |none=>rw [hd] at h;simp at h
    |some y=>
     rw [hd] at h;simp at h;obtain ⟨⟨rfl,rfl⟩,rfl⟩:=h;exact ⟨[v],vs,rfl,hp γ o _ _ (qS hS afM hd j.1),j.2⟩
 intro t;induction t with
 |int k=>intro γ o cs r x ls vs h j _ _;exact I (.int k) (λ_ _ _ _ h=>h) h j
 |dB k=>intro γ o cs r x ls vs h j _ _;exact I (.dB k) (λ_ _ _ _ h=>h) h j
 |bool=>intro γ o cs r x ls vs h j _ _;exact I (.bool) (λ_ _ _ _ h=>h) h j
 |str=>intro γ o cs r x ls vs h j _ _;exact I (.str) (λ_ _ _ _ h=>h) h j
 |sl t _=>intro γ o cs r x ls vs h j _ _;exact I (.sl t) (λ_ _ _ _ h=>h) h j
 |bx t _=>intro γ o cs r x ls vs h j _ _;exact I (.bx t) (λ_ _ _ _ h=>h) h j
 |cl f t _=>intro γ o cs r x ls vs h j _ _;exact I (.cl f t) (λ_ _ _ _ h=>h) h j
 |st t ih=>intro γ o cs r x ls vs h j h1 h2;exact ih h j h1 h2
 |pair a b Od Oe=>
  intro γ o cs r x ls vs h j T R;simp only [mb] at h;split at h;rename_i y k1 r1 h1;split at h;rename_i z k2 r2 h2;injection h with h;injection h with h3 h4;injection h3 with h5 h6;subst h4;subst h5;obtain ⟨c1,e1,l1,_,_⟩:=vj a h1;obtain ⟨v1,v2,rfl,p1,q1⟩:=Od (γ:=γ) (o:=o) h1 j (λq hq k hk p=>T q (Λ.2 (.inl hq)) k hk p) (λq hq hk=>R q (Λ.2 (.inl hq)) hk);obtain ⟨v3,v4,rfl,p2,q2⟩:=Oe (γ:=γ) (o:=o+a.size) h2 q1 (λq hq k hk p=>by
   have:=T (a.size+q) (Λ.2 (.inr (by rw [<-Ϡ];exact hq))) k (by rw [e1,Κ (by omega),l1,aaA];exact hk) p;rw [Ϡ];exact this) (λq hq hk=>by
   have:=R (a.size+q) (Λ.2 (.inr (by rw [<-Ϡ];exact hq))) (by rw [e1,Κ (by omega),l1,aaA];exact hk);rw [Ϡ];exact this)
  exact ⟨v1++v3,v4,by simp,⟨v1,v3,rfl,p1,p2⟩,q2⟩;cases h;cases h
 |own t _=>
  intro γ o cs r x ls vs h j T R;simp only [mb] at h;have U:o+0∈cw (.own t) o:=by simp [cw]
  split at h;injection h with h;injection h with h3 h4;injection h3 with h5 h6;subst h4;subst h5;cases vs with
  |nil=>exact j.elim
  |cons v vs=>
   have h0:=R 0 U rfl;rw [ϧ] at h0;obtain ⟨a,ha⟩:=j.1;subst ha;refine ⟨[_],vs,rfl,⟨_,rfl,?_,?_⟩,j.2⟩;rw [h0];exact ⟨a,rfl⟩;rw [h0];rfl
  rename_i c r';split at h;rename_i e xs hl;split at h;rename_i he;subst he;injection h with h;injection h with h3 h4;injection h3 with h5 h6;subst h4;subst h5;cases vs with
  |nil=>exact j.elim
  |cons v vs=>
   have h0:=T 0 U c rfl;rw [ϧ] at h0;have hv:=j.1.2.2 e xs (.inl hl);have J:=hm c _ hl;unfold jc at J;have TM:γ [o]=g.f c []:=h0 [];refine ⟨[v],vs,rfl,⟨v,rfl,?_,?_⟩,j.2⟩;rw [TM];exact hv;rw [TM];cases hg:g.f c [] with
   |none=>rw [hg] at J;have J:xs=[]:=J;show ζ xs=0;rw [J];rfl
   |some b=>
    rw [hg] at J;obtain ⟨arr,hb,ma⟩:=J;refine ⟨arr,hb,λi hi=> ?_⟩;obtain ⟨es,k1,k2⟩:=ma i hi;refine ⟨es,k1,?_⟩;have:(λp=>γ (o::i::p))=λp=>g.f c (i::p):=funext λp=>h0 (i::p);rw [this];exact af3 (λb hb=>⟨hS b hb,rfl⟩) e (λ_ _ _=>rfl) k2
  cases h;cases h;cases h
theorem Ce {k:Nat}{m:Mem}: ∀{ls:List Nat},lk k ((ls.map λk=>(k,Chunk.gone))++m)=if k∈ls then some .gone else lk k m
 |[]=>by simp
 |q::ls=>by
  simp only [ϱ,acD];rw [bB,Ce (ls:=ls)];by_cases e:k=q;subst e;simp;rw [if_neg e];simp [e]
end
end Go.Ide
namespace Go.Ide
def wZ (m:Mem)(nx:Nat):bu->Option (Mem×Mem×Prop)
 | .one (.cZ c i o _)=>match lk c m with
  |some (.seq t j)=>bif Α o t.size then some (yU c i nx t j,sr i nx t j,i<j.length) else none
  |_=>none
 |_=>none
def Aw (P:Ξ)(m:Mem)(nx:Nat)(T:Ι)(v:bu):Option cB:=
 match wZ m nx v with
 |some (u,n,p)=>(match pB P (u++n++m) T v with
  |some e=>some ⟨e.val,n,u,[p]⟩
  |none=>none)
 |none=>none
def wb (P:Ξ)(m:Mem)(nx:Nat)(T:Ι)(v x:bu):Option cB:=
 match wZ m nx v with
 |some (u,n,p)=>(match qa P (u++n++m) T v x with
  |some e=>some ⟨.dE,n,e.kZ++u,[p]⟩
  |none=>none)
 |none=>none
theorem w8 {m:Mem}{nx:Nat}{v:bu}{u n:Mem}{p:Prop}(h:wZ m nx v=some (u,n,p)):
 ∃c i sz off t xs,v= .one (.cZ c i sz off)/\lk c m=some (.seq t xs)/\u=yU c i nx t xs/\n=sr i nx t xs/\p=(i<xs.length):=by
 unfold wZ at h;split at h;rename_i c i sz off;split at h;rename_i t xs o;cases j:Α sz t.size with
 |false=>rw [j] at h;cases h
 |true=>
  rw [j] at h;simp only [cond_true] at h;injection h with h;injection h with r h;injection h with I J;exact ⟨c,i,sz,off,t,xs,rfl,o,r.symm,I.symm,J.symm⟩
 cases h;cases h
theorem FH {c i nx:Nat}{t:Ty}{xs:List t.D}{l:Mem}: ∃cs ks,lk c (yU c i nx t xs++l)=some (.oS t xs i cs ks):=by
 refine ⟨(eC t (xs.getD i t.eY) nx).1,(cm nx (eC t (xs.getD i t.eY) nx).2).map aas,?_⟩;show lk c ((c,_)::l)=_;rw [bB,if_pos rfl]
theorem D8 {P:Ξ}{m:Mem}{T:Ι}{c i sz off:Nat}{t:Ty}{xs:List t.D}{cs:List bs}{ks:List Nat}{e:cB}(I:lk c m=some (.oS t xs i cs ks))(h:pB P m T (.one (.cZ c i sz off))=some e):bU e.cond:=by
 unfold pB at h;split at h;rename_i c' i' J p n ag o hs R;injection o with o;injection o with j U e3 e4;subst j;subst U;subst e3;subst e4;rw [I] at h;simp only at h;cases r:(ϩ (off+n) t.size&&Α sz t.size) with
 |false=>rw [r] at h;cases h
 |true=>
  rw [r] at h;simp only [cond_true] at h;split at h;obtain ⟨_,hc⟩:=cT h;rw [hc];exact ⟨by simp,trivial⟩;cases h
 rename_i j _ _;cases j;rename_i H8 _ _ _ j _ _;injection j with j;subst j;simp [nQ] at h;cases h
theorem Cf {P:Ξ}{m:Mem}{T:Ι}{c i sz off:Nat}{t:Ty}{xs:List t.D}{cs:List bs}{ks:List Nat}{x:bu}{e:cB}(I:lk c m=some (.oS t xs i cs ks))(h:qa P m T (.one (.cZ c i sz off)) x=some e):bU e.cond/\e.new=[]/\e.val= .dE:=by
 unfold qa at h;split at h;rename_i j _;cases j;rename_i c' i' J p n o hs;injection o with o;injection o with j R U e4;subst j;subst R;subst U;subst e4;rw [I] at h;simp only at h;cases r:((Α x.cells.length n&&ϩ (off+n) t.size)&&(Α sz t.size&&x.ok)) with
 |false=>rw [r] at h;cases h
 |true=>
  rw [r] at h;simp only [cond_true] at h;injection h with h;subst h;exact ⟨⟨by simp,trivial⟩,rfl,rfl⟩
 rename_i j _;cases j;cases h
section
variable {cx:Cx} {g:GM} {st:St} {a:Act} {w:Ε}
theorem Ax {T:Ι}{v:bu}{e:cB}{R:ο}(h:cG cx g st a w)(hw:fe st.mem e.new)(j:Aw cx.P st.mem st.nx T v=some e)(hc:bU e.cond)(hr:VR g st.mem (cx.safe g st.mem w) w v R):fP cx st a w (acE T R) e:=by
 unfold Aw at j;split at j;rename_i u n p hp;split at j;rename_i e1 o;injection j with j;subst j;obtain ⟨c,i,sz,off,t,xs,rfl,hl,rfl,rfl,rfl⟩:=w8 hp;obtain ⟨g',U,J⟩:=h.Ij hl hc.1 hw;obtain ⟨cs,ks,I⟩:=FH (c:=c) (i:=i) (nx:=st.nx) (t:=t) (xs:=xs) (l:=sr i st.nx t xs++st.mem);rw [<-ό] at I;obtain ⟨_,_,r,h3,h4⟩:=qT U.mem o (D8 I o) (adz J hr);exact ⟨r,w,h3,g',U,h4⟩;cases j;cases j
theorem yV {T:Ι}{x v:bu}{e:cB}{xa va:ο}(h:cG cx g st a w)(hw:fe st.mem e.new)(o:wb cx.P st.mem st.nx T x v=some e)(hc:bU e.cond)(hx:VR g st.mem (cx.safe g st.mem w) w x xa)(hv:VR g st.mem (cx.safe g st.mem w) w v va):BV cx st a w (adj T xa va) e:=by
 unfold wb at o;split at o;rename_i u n p hp;split at o;rename_i e1 r;injection o with o;subst o;obtain ⟨c,i,sz,off,t,xs,rfl,hl,rfl,rfl,rfl⟩:=w8 hp;obtain ⟨g',hs,I⟩:=h.Ij hl hc.1 hw;obtain ⟨cs,ks,J⟩:=FH (c:=c) (i:=i) (nx:=st.nx) (t:=t) (xs:=xs) (l:=sr i st.nx t xs++st.mem);rw [<-ό] at J;obtain ⟨q1,q2,q3⟩:=Cf J r;obtain ⟨w',R,U,j,_⟩:=tN hs r q1 (adz I hx) (adz I hv);refine ⟨w',R,U,?_,trivial⟩;rw [q2] at j;have j:cG cx U (st.iT (e1.kZ++[]++(yU c i st.nx t xs++sr i st.nx t xs++st.mem)) (st.nx+(sr i st.nx t xs).length+0)) a w':=j;rw [ϴ] at j;show cG cx U (st.iT ((e1.kZ++yU c i st.nx t xs)++sr i st.nx t xs++st.mem) (st.nx+(sr i st.nx t xs).length)) a w';rw [ό,ό];rw [ό] at j;exact j;cases o;cases o
def Hint.vk:Hint->Bool
 | .oS=>true
 |_=>false
def qY (P:Ξ)(m:Mem)(nx:Nat)(h:Hint)(T:Ι)(v:bu):Option cB:=bif h.vk then Aw P m nx T v else pB P m T v
def rR (P:Ξ)(m:Mem)(nx:Nat)(h:Hint)(T:Ι)(v x:bu):Option cB:=bif h.vk then wb P m nx T v x else qa P m T v x
theorem Ay {o:Hint}{T:Ι}{v:bu}{e:cB}{p:ο}(h:cG cx g st a w)(J:fe st.mem e.new)(j:qY cx.P st.mem st.nx o T v=some e)(r:bU e.cond)(t:VR g st.mem (cx.safe g st.mem w) w v p):fP cx st a w (acE T p) e:=by
 unfold qY at j;cases I:o.vk with
 |true=>rw [I] at j;exact Ax h J j r t
 |false=>rw [I] at j;exact (qT h.mem j r t).runs h
theorem yW {o:Hint}{T:Ι}{x v:bu}{e:cB}{p r:ο}(h:cG cx g st a w)(U:fe st.mem e.new)(j:rR cx.P st.mem st.nx o T x v=some e)(t:bU e.cond)(I:VR g st.mem (cx.safe g st.mem w) w x p)(J:VR g st.mem (cx.safe g st.mem w) w v r):BV cx st a w (adj T p r) e:=by
 unfold rR at j;cases R:o.vk with
 |true=>rw [R] at j;exact yV h U j t I J
 |false=>rw [R] at j;exact tN h j t I J
end
end Go.Ide
namespace Go.Ide
def zF (m:Mem):bu->Option (Nat×Nat×Nat)
 | .one (.all c)=>(match lk c m with
  |some (.seq _ j)=>some (c,0,j.length)
  |_=>none)
 | .one (.ref c off len)=>some (c,off,len)
 |_=>none
def zG (P:Ξ)(m:Mem)(T:Ι)(x y:bu):Option cB:=
 match P.underlying T,zF m x with
 |some (.slice e),some (c,off,len)=>(match lk c m with
  |some (.seq t o)=>bif (cX P e==some t.size&&t.top)&&nJ m y then
   (match j5 m (.sl t) y with
   |some j=>some ⟨.one (.bp (.int .i64) ((aa0 (ζ j) len:Nat):Int)),[],[(c,.seq t (o.take off++(Ϝ (aa0 (ζ j) len) j:List t.D)++o.drop (off+aa0 (ζ j) len)))],[]⟩
   |none=>none) else none
  |_=>none)
 |_,_=>none
section
variable {g:GM} {m:Mem} {S:Nat->Prop} {w:Ε}
theorem dV.drop {t:Ty}{xs:List t.D}{l:List ο}{n:Nat}(h:dV S w t xs l):dV S w t (xs.drop n) (l.drop (n*t.size)):=λi o=>by
 simp only [aab] at o;obtain ⟨es,p,r⟩:=h (n+i) (by omega);refine ⟨es,λj I=> ?_,by rw [List.getElem_drop];exact r⟩;rw [List.getElem?_drop,<-Ϡ,<-ϑ];exact p j I
theorem zH (hm:j6 g m S w){x:bu}{xa:ο}{c off len:Nat}{t:Ty}{xs:List t.D}(h:zF m x=some (c,off,len))(I:lk c m=some (.seq t xs))(hx:VR g m S w x xa):
 off+len<=xs.length/\ ∃a cap,xa= .slice a len cap/\(len=0\/ ∃b arr,g.f c []=some b/\a=some ⟨b,off*t.size,none⟩/\dm w b arr/\(off+len)*t.size<=arr.size):=by
 unfold zF at h;split at h;rename_i J;split at h;rename_i t' ig o;injection h with h;injection h with R h;injection h with T U;subst R;subst T;rw [I] at o;injection o with o;injection o with e1 e2;subst e1;have e2:=eq_of_heq e2;subst e2;subst U;have p:=hx.2.2 t xs (.inl I);refine ⟨by omega,?_⟩;unfold iS at p;cases r:g J with
 |none=>
  rw [r] at p;obtain ⟨a,ha⟩:=p;have j:=hm J _ I;unfold jc at j;rw [show g.f J []=none from r] at j;have j:xs=[]:=j;exact ⟨a,0,by rw [ha,j];rfl,.inl (by rw [j];rfl)⟩
 |some b=>
  rw [r] at p;obtain ⟨cap,arr,e,k1,k2,k3,_⟩:=p;refine ⟨_,cap,e,.inr ⟨b,arr,r,by rw [aaY],k2,?_⟩⟩;rw [Υ];exact ϣ (Ρ _ k1) k3
 cases h;rename_i J Cg Va;injection h with h;injection h with R h;injection h with T U;subst R;subst T;subst U;obtain ⟨hle,p⟩:=hx.2.2 t xs (.inl I);refine ⟨hle,?_⟩;rcases p with ⟨h0,_,a,ha⟩|⟨b,cap,arr,r,e,k1,k2,k3,_⟩
 exact ⟨a,0,by rw [ha,h0],.inl h0⟩;exact ⟨_,cap,e,.inr ⟨b,arr,r,rfl,k2,ϣ (Ρ _ (by omega)) k3⟩⟩;cases h
end
section
variable {cx:Cx} {g:GM} {st:St} {a:Act} {w:Ε}
theorem Ch {T T' ty:Ι}{x y:bu}{e:cB}{xa ya:ο}(h:cG cx g st a w)(R:zG cx.P st.mem T x y=some e)(hx:VR g st.mem (cx.safe g st.mem w) w x xa)(hy:VR g st.mem (cx.safe g st.mem w) w y ya):fP cx st a w (abH #[T,T'] ty #[xa,ya]) e:=by
 unfold zG at R;split at R;rename_i el c off len hu hd;split at R;rename_i t o hl;cases hb:((cX cx.P el==some t.size&&t.top)&&nJ st.mem y) with
 |false=>rw [hb] at R;cases R
 |true=>
  rw [hb] at R;simp only [cond_true] at R;simp only [κ,beq_iff_eq] at hb;obtain ⟨⟨nu,U⟩,HZ⟩:=hb;split at R;rename_i r Y5;injection R with R;subst R;obtain ⟨hle,da,Il,rfl,w9⟩:=zH h.mem hd hl hx;obtain ⟨p,aa⟩:=Aj h.mem Y5 HZ U hy;obtain ⟨sa,ab,rfl,Y6⟩:=aa.val;have ae:aa0 (ζ r) len<=ζ r:=Nat.min_le_left _ _;have tl:aa0 (ζ r) len<=len:=Nat.min_le_right _ _;generalize af:aa0 (ζ r) len=n at ae tl⊢;have I:(p.take (n*t.size)).length=n*t.size:=by
   rw [ϙ,aa.len];exact aav (Ρ _ ae)
  have Vb:=eK (P:=cx.P) (w:=w) (size:=t.size) (n:=n) (a:=sa) (len:=ζ r) (cap:=ab) I (by
   rcases Y6 with h0|⟨ad,e,hc⟩
   exact .inl (by omega);exact .inr ⟨ad,e,λj v hj=>by
    rw [ϐ] at hj;split at hj;exact hc j v hj;cases hj⟩)
  have J:(sizeOf el).run cx.P w= .ok t.size w:=cA nu;rcases w9 with h0|⟨b,arr,hg,rfl,ag,kY⟩
  have B5:n=0:=by omega
  have ah:(abH #[T,T'] ty #[.slice da len Il,.slice sa (ζ r) ab]).run cx.P w= .ok (.int .i64 ((n:Nat):Int)) w:=by
   have tK: ∀ad:Addr,(storeCells ad (p.take (n*t.size)).toArray.toList).run cx.P w= .ok () w:=λad=>by
    rw [B5];simp [storeCells]
   cases da with
   |none=>simp [abH,run_underlying hu,aaZ,af,J,Vb,goInt]
   |some ad=>simp [abH,run_underlying hu,aaZ,af,J,Vb,tK ad,goInt]
  refine ⟨_,w,ah,g,?_,rfl⟩;have qZ:(o.take off++(Ϝ n r:List t.D)++o.drop (off+n))=o:=by
   rw [B5];simp
  show cG cx g (st.iT ([(c,Chunk.seq t (o.take off++(Ϝ n r:List t.D)++o.drop (off+n)))]++[]++st.mem) (st.nx+0)) a w;rw [qZ];have zu: ∀k,lk k ([(c,Chunk.seq t o)]++[]++st.mem)=lk k st.mem:=λk=>by
   show lk k ((c,_)::st.mem)=_;rw [bB];by_cases e:k=c;subst e;rw [if_pos rfl,hl];rw [if_neg e]
  exact h.tC (G:=[]) ⟨acL _ _,λb hb=>(by simp at hb),λ_ _=>rfl,λk ch hk=> .inl ⟨(zu k).trans hk,λ_ b _ _ hb=>by simp at hb⟩,λk ch hk oo=>by
   rw [zu,hk] at oo;cases oo⟩
  have ai:off*t.size+0+(p.take (n*t.size)).length<=arr.size:=by
   rw [I,ϧ,<-ϑ];exact ϣ (Ρ _ (by omega)) kY
  have Im:=dV.nt aa.Fq aa.len;obtain ⟨w',aj,tK,k1,k2,k3,k4⟩:=ed (P:=cx.P) (p.take (n*t.size)) (off*t.size) 0 w arr ag ai (λv hv=>Im v (List.mem_of_mem_take hv));rw [ϧ,I] at k2;have ah:(abH #[T,T'] ty #[.slice (some ⟨b,off*t.size,none⟩) len Il,.slice sa (ζ r) ab]).run cx.P w= .ok (.int .i64 ((n:Nat):Int)) w':=by
   have Y7:(storeCells ⟨b,off*t.size,none⟩ (p.take (n*t.size)).toArray.toList).run cx.P w= .ok () w':=tK;simp [abH,run_underlying hu,aaZ,af,J,Vb,tK,goInt]
  have ak:(o.take off++(Ϝ n r:List t.D)++o.drop (off+n)).length=o.length:=by
   simp only [ω,ϙ,aab];omega
  have H2:aj.size=arr.size:=by
   rw [<-Ψ,k2];simp only [ω,I,ϙ,aab,Ψ];rw [I] at ai;omega
  have q:HN g st w w' c b [] (.seq t o) (.seq t (o.take off++(Ϝ n r:List t.D)++o.drop (off+n))):=
   ⟨hl,trivial,hg,k3,⟨arr,aj,ag,k1,H2⟩,λ_ _=>trivial,by simp,λt' ig e=>by
    obtain ⟨e,e2⟩:=pG e;subst e;subst e2;exact ⟨o,.inl rfl,ak.symm⟩,λt' ig e=>by
    injection e with e1 e2;subst e1;have e2:=eq_of_heq e2;subst e2;exact ⟨o,rfl,cy.top U ak.symm⟩⟩
  refine ⟨_,w',ah,g,?_,rfl⟩;refine h.M5 q ?_;have je:=h.mem c _ hl;unfold jc at je⊢;rw [hg] at je⊢;obtain ⟨pZ,RE,ma⟩:=je;have:=RE.eq ag;subst this;have nK:=(q.stays (cx:=cx)).safe;have hL:dV (cx.safe g st.mem w) w t o pZ.toList:=(ma.Fq U).toL;refine ⟨aj,k1,.k9 U (dV.toR ?_)⟩;rw [k2];have bt: ∀{zs:List t.D} {l:List ο},dV (cx.safe g st.mem w) w t zs l->dV (cx.safe g ((c,Chunk.seq t (o.take off++(Ϝ n r:List t.D)++o.drop (off+n)))::st.mem) w') w' t zs l:=λhz i hi=>by
   obtain ⟨es,e1,e2⟩:=hz i hi;exact ⟨es,e1,abi nK t es _ e2⟩
  have KR:(pZ.toList.take (off*t.size)).length=(o.take off).length*t.size:=by
   rw [ϙ,ϙ,Ψ,aav (show off<=o.length by omega),aav];exact ϣ (Ρ _ (by omega)) kY
  have hA:=dV.app (rest:=[]) (bt (hL.take (n:=off) (by omega))) KR (bt (aa.Fq.take (n:=n) ae)) (by rw [I,ϙ,aav ae]);rw [ϴ] at hA;have Ot:(pZ.toList.take (off*t.size)++p.take (n*t.size)).length=(o.take off++(Ϝ n r:List t.D)).length*t.size:=by
   rw [ω,ω,KR,I,ϑ,ϙ (l:=r),aav ae]
  have Vc:dV (cx.safe g st.mem w) w t (o.drop (off+n)) (pZ.toList.drop (off*t.size+n*t.size)):=by
   rw [<-ϑ];exact hL.drop
  intro i hi;by_cases hlt:i<(o.take off++(Ϝ n r:List t.D)).length;obtain ⟨es,e1,e2⟩:=hA i hlt;refine ⟨es,λj hj=> ?_,by rw [aea hlt];exact e2⟩;have hm:(i+1)*t.size<=(o.take off++(Ϝ n r:List t.D)).length*t.size:=Ρ _ (by omega);rw [ϑ] at hm;rw [Μ (by rw [Ot];omega)];exact e1 j hj;have TW:i - (o.take off++(Ϝ n r:List t.D)).length<(o.drop (off+n)).length:=by
   rw [ω] at hi;omega
  obtain ⟨es,e1,e2⟩:=bt Vc _ TW;refine ⟨es,λj hj=> ?_,by rw [ad1 (by omega)];exact e2⟩;obtain ⟨d,hd⟩: ∃d,i=(o.take off++(Ϝ n r:List t.D)).length+d:=⟨_,(Nat.add_sub_cancel' (by omega)).symm⟩;rw [hd,aaA] at e1;rw [hd,ϑ,Κ (by rw [Ot];omega),Ot];rw [show∀A B:Nat,A+B+j - A=B+j from λA B=>by omega];exact e1 j hj;cases R
 cases R;cases R
end
end Go.Ide
namespace Go.Ide
def zI (P:Ξ)(m:Mem)(nx:Nat)(T T':Ι)(t:Ty)(s x:bu):Option cB:=
 match P.underlying T,s,x with
 |some (.slice e),.one s,.one (.all j)=>(match P.info? e,lk j m with
  |some i,some (.seq p o)=>bif ((Α T T'&&Α i.size t.size)&&(ϩ i.bytes 32768&&i.zero.isSome))&&(i.zero.map λz=>Α z.cells.size t.size).getD false then
   (if h:p=t then (match s with
    | .br=>some ⟨.one (.all nx),[(nx,.seq t ([]++cE (a:= .sl p) (b:= .sl t) (congrArg Ty.sl h) o))],[(j,.gone)],[0+ζ o<=bl]⟩
    | .all c=>(match lk c m with
     |some (.seq r I)=>if J:r=t then (bif !(Α c j) then
      some ⟨.one (.all nx),[(nx,.seq t ((show List t.D from cE (a:= .sl r) (b:= .sl t) (congrArg Ty.sl J) I)++cE (a:= .sl p) (b:= .sl t) (congrArg Ty.sl h) o))],[(c,.gone),(j,.gone)],[ζ I+ζ o<=bl]⟩ else none) else none
     |_=>none)
    |_=>none) else none) else none
  |_,_=>none)
 |_,_,_=>none
def pL (P:Ξ)(m:Mem)(nx:Nat)(T T':Ι)(t:Ty)(s x:bu):Option cB:=
 bif t.top then rB P m nx T T' t s x else zI P m nx T T' t s x
def rS (P:Ξ)(m:Mem)(nx:Nat)(T:Ι)(t:Ty)(len:Nat)(parts:List (Nat×bu)):Option cB:=
 match P.underlying T,parts with
 |some (.slice e),[(0,v)]=>bif (cX P e==some t.size&&(((P.info? e).bind (·.zero)).map λz=>Α z.cells.size t.size)==some true)&&(Α len 1&&ϩ t.size 65536)&&v.ok then
  (match mb m t v.cells with
  |some ((x,j),[])=>bif jX j then some ⟨.one (.all nx),[(nx,.seq t [x])],j.map λk=>(k,.gone),[]⟩ else none
  |_=>none) else none
 |_,_=>none
def rT (P:Ξ)(m:Mem)(nx:Nat)(T:Ι)(t:Ty)(len:Nat)(parts:List (Nat×bu)):Option cB:=
 bif t.top then qR P nx T t len parts else rS P m nx T t len parts
section
variable {S S':Nat->Prop} {w w':Ε}
theorem de.nt: ∀(t:Ty) {γ:List Nat->Option Nat} {o:Nat} {cs:List ο} {x:t.D},de S w t γ o cs x-> ∀v∈cs,v.oneCell'=true
 | .own t,γ,o,cs,R,⟨v,e,r,_⟩=>by
  subst e;intro u p;simp only [List.mem_singleton] at p;subst p;unfold iS at r;split at r;obtain ⟨a,rfl⟩:=r;rfl;obtain ⟨cap,arr,rfl,_⟩:=r;rfl
 | .pair a b,γ,o,cs,x,⟨T,U,e,I,J⟩=>by
  subst e;intro u p;rcases Λ.1 p with p|p
  exact de.nt a I u p;exact de.nt b J u p
 | .st t,γ,o,cs,x,j=>de.nt t (o:=o) (cs:=cs) (x:=x) j
 | .int k,_,_,cs,x,j=>ae8 (.int k) j
 | .dB k,_,_,cs,x,j=>ae8 (.dB k) j
 | .bool,_,_,cs,x,j=>ae8 .bool j
 | .str,_,_,cs,x,j=>ae8 .str j
 | .sl t,_,_,cs,x,j=>ae8 (.sl t) j
 | .bx t,_,_,cs,x,j=>ae8 (.bx t) j
 | .cl f t,_,_,cs,x,j=>ae8 (.cl f t) j
theorem eI.nt {γ:List Nat->Option Nat}{t:Ty}{xs:List t.D}{arr:Array ο}(h:eI S w γ t xs arr){k:Nat}{u:ο}(U:k<xs.length*t.size)(J:arr[k]? =some u):u.oneCell'=true:=by
 have o:=t.size_pos;have R:k/t.size<xs.length:=Nat.div_lt_of_lt_mul (by rw [aay];omega);obtain ⟨es,T,r⟩:=h (k/t.size) R;have I:k%t.size<es.length:=by rw [agV t r];exact aa7 _ o
 have j:=T (k%t.size) _ (Γ I);have p:k/t.size*t.size+k%t.size=k:=by rw [aay];exact Nat.div_add_mod k t.size
 rw [p,J] at j;injection j with j;rw [j];exact de.nt t r _ (List.getElem_mem I)
theorem eI.nil {γ:List Nat->Option Nat}{t:Ty}{arr:Array ο}:eI S w γ t ([]:List t.D) arr:=λi j=>by simp at j
theorem eI.glue {γ γ1 r:List Nat->Option Nat}{t:Ty}{xs ys:List t.D}{arr1 J o:Array ο}(h1:eI S w γ1 t xs arr1)(h2:eI S w r t ys J)(k: ∀b,S b->S' b/\w'.heap[b]? =w.heap[b]?)(e1: ∀i p,i<xs.length->γ (i::p)=γ1 (i::p))(e2: ∀i p,γ ((xs.length+i)::p)=r (i::p))(q1: ∀i p b,γ1 (i::p)=some b->w'.heap[b]? =w.heap[b]?)(q2: ∀i p b,r (i::p)=some b->w'.heap[b]? =w.heap[b]?)(a1: ∀j v,j<xs.length*t.size->arr1[j]? =some v->o[j]? =some v)(a2: ∀j v,j<ys.length*t.size->J[j]? =some v->o[xs.length*t.size+j]? =some v):eI S' w' γ t (xs++ys) o:=by
 intro i hi;by_cases U:i<xs.length;obtain ⟨es,k1,R⟩:=h1 i U;refine ⟨es,λj v T=>a1 _ v ?_ (k1 j v T),?_⟩;have hj:j<t.size:=by rw [<-agV t R];exact (ψ.1 T).1
 have:(i+1)*t.size<=xs.length*t.size:=Ρ _ U;rw [afO] at this;omega;rw [aea U,show (λp=>γ (i::p))=λp=>γ1 (i::p) from funext λp=>e1 i p U];exact af3 k t (λp b hp=>q1 i p b hp) R;obtain ⟨I,rfl⟩: ∃I,i=xs.length+I:=⟨i - xs.length,by omega⟩;have hy:I<ys.length:=by rw [ω] at hi;omega
 obtain ⟨es,k1,R⟩:=h2 I hy;refine ⟨es,λj v T=> ?_,?_⟩;have hj:j<t.size:=by rw [<-agV t R];exact (ψ.1 T).1
 have:(I+1)*t.size<=ys.length*t.size:=Ρ _ hy;rw [afO] at this;have:=a2 _ v (by omega) (k1 j v T);rw [ϑ,Ϡ];exact this;rw [ad1 (by omega),show (λp=>γ ((xs.length+I)::p))=λp=>r (I::p) from funext λp=>e2 I p];simp only [aaA];exact af3 k t (λp b hp=>q2 I p b hp) R
end
section
variable {cx:Cx} {g:GM} {st:St} {a:Act} {w w':Ε}
def Vd (o:Option Nat)(n:Nat)(γ1 j:List Nat->Option Nat):List Nat->Option Nat
 |[]=>o
 |i::p=>if i<n then γ1 (i::p) else j ((i - n)::p)
def tV (g:GM)(m up:Mem)(γ:List Nat->Option Nat):Prop:= ∀p b,γ p=some b-> ∃c q j,lk c up=some .gone/\lk c m=some j/\j.owns q/\g.f c q=some b
def Ve (w':Ε)(t:Ty)(xs ys:List t.D)(arr1 p:Array ο):Option Nat->Prop
 |none=>xs++ys=[]
 |some b=> ∃o,dm w' b o/\(∀j v,j<xs.length*t.size->arr1[j]? =some v->o[j]? =some v)/\(∀j v,j<ys.length*t.size->p[j]? =some v->o[xs.length*t.size+j]? =some v)
theorem oT.glue {e:cB}{up:Mem}{t:Ty}{xs ys:List t.D}{γ1 R:List Nat->Option Nat}{o:Option Nat}{val:ο}{F0:List Nat}{arr1 DH:Array ο}(h:cG cx g st a w)(hw:fe st.mem e.new)(he:e.new=[(st.nx,.seq t (xs++ys))]/\e.kZ=up/\e.val= .one (.all st.nx))(tL:Ak st.mem up)(h1:tV g st.mem up γ1)(h2:tV g st.mem up R)(i1: ∀p q b,γ1 p=some b->γ1 q=some b->p=q)(i2: ∀p q b,R p=some b->R q=some b->p=q)(dj: ∀p q b,γ1 p=some b->R q=some b->False)(ho: ∀b,o=some b->γ1 []=some b\/(w.heap.size<=b/\b<w'.heap.size))(hk:bJ F0 w w')(hF: ∀b∈F0,γ1 []=some b/\o=some b)(e1:eI (cx.safe g st.mem w) w γ1 t xs arr1)(e2:eI (cx.safe g st.mem w) w R t ys DH)(T:Ve w' t xs ys arr1 DH o)(hv:iS o w' t.size (xs++ys).length val):oT cx st a e val w':=by
 classical
 have tD:lk st.nx st.mem=none:=hw (st.nx,.seq t (xs++ys)) (by rw [he.1];simp);have ab: ∀p b,γ1 p=some b->b<w.heap.size:=λp b hp=>by
  obtain ⟨c,q,K8,_,q2,q3,q4⟩:=h1 p b hp;exact h.lt c q K8 b q2 q3 q4
 have Vf: ∀p b,R p=some b->b<w.heap.size:=λp b hp=>by
  obtain ⟨c,q,K8,_,q2,q3,q4⟩:=h2 p b hp;exact h.lt c q K8 b q2 q3 q4
 let γ:=Vd o xs.length γ1 R;have I: ∀i p b,γ (i::p)=some b->(i<xs.length/\γ1 (i::p)=some b)\/(xs.length<=i/\R ((i - xs.length)::p)=some b):=λi p b hp=>by
  have hp:(if i<xs.length then γ1 (i::p) else R ((i - xs.length)::p))=some b:=hp;split at hp;exact .inl ⟨by assumption,hp⟩;exact .inr ⟨by omega,hp⟩
 let G:=(abh w.heap.size).filter λb=>decide (∃p,γ p=some b);have Nd: ∀b,b∈G↔b<w.heap.size/\ ∃p,γ p=some b:=λb=>by simp [G]
 have Y8: ∀b,b∈F0->b∈G:=λb T=>(Nd b).2 ⟨ab _ b (hF b T).1,[],(hF b T).2⟩;have Vg:bJ G w w':=⟨hk.os,hk.tape,hk.output,hk.size,λb T hn=>hk.block b T λhf=>hn (Y8 b hf),hk.sz⟩;have XY: ∀b,b<w.heap.size->b ∉ F0->w'.heap[b]? =w.heap[b]? :=hk.block;obtain ⟨g',DS,hs⟩:=h.newAt (ch:= .seq t (xs++ys)) (γ:=γ) tD tL Vg (λb T=>by
  obtain ⟨hlt,p,hp⟩:=(Nd b).1 T;cases p with
  |nil=>
   rcases ho b hp with J|J
   exact h1 _ b J;omega
  |cons i p=>
   rcases I i p b hp with ⟨_,J⟩|⟨_,J⟩
   exact h1 _ b J;exact h2 _ b J)
  (λp b hp=>by
   have hlt:b<w'.heap.size:=by
    cases p with
    |nil=>
     rcases ho b hp with J|J
     exact ϖ (ab _ b J) hk.size;exact J.2
    |cons i p=>
     rcases I i p b hp with ⟨_,J⟩|⟨_,J⟩
     exact ϖ (ab _ b J) hk.size;exact ϖ (Vf _ b J) hk.size
   refine ⟨hlt,?_⟩;by_cases T:b<w.heap.size;exact .inr ((Nd b).2 ⟨T,p,hp⟩);exact .inl (by omega))
  (λp q b hp hq=>by
   have key: ∀i r,γ (i::r)=some b->o=some b->False:=λi r hr QP=>by
    rcases I i r b hr with ⟨_,J⟩|⟨_,J⟩
    rcases ho b QP with U|U
    cases i1 _ _ b J U;have:=ab _ b J;omega;rcases ho b QP with U|U
    exact dj _ _ b U J;have:=Vf _ b J;omega
   cases p with
   |nil=>
    cases q with
    |nil=>rfl
    |cons j q=>exact (key j q hq hp).elim
   |cons i p=>
    cases q with
    |nil=>exact (key i p hp hq).elim
    |cons j q=>
     rcases I i p b hp with ⟨l1,J⟩|⟨l1,J⟩
     rcases I j q b hq with ⟨l2,U⟩|⟨l2,U⟩
     exact i1 _ _ b J U;exact (dj _ _ b J U).elim;rcases I j q b hq with ⟨l2,U⟩|⟨l2,U⟩
     exact (dj _ _ b U J).elim;have:=i2 _ _ b J U;injection this with a1 a2;rw [a2,show i=j from by omega])
  (λg' m' S' hS=>by
   show jc g' m' S' w' γ (.seq t (xs++ys));unfold jc;have Ou:γ []=o:=rfl;rw [Ou];cases D3:o with
   |none=>rw [D3] at T;show xs++ys=[];exact T
   |some b=>
    rw [D3] at T;obtain ⟨dZ,Nf,wP,Az⟩:=T;refine ⟨dZ,Nf,eI.glue e1 e2 hS (λi p hi=>if_pos hi) (λi p=> ?_) (λi p b' hp=>XY b' (ab _ b' hp) λhf=> ?_) (λi p b' hp=>XY b' (Vf _ b' hp) λhf=> ?_) wP Az⟩;show (if xs.length+i<xs.length then γ1 ((xs.length+i)::p) else R ((xs.length+i - xs.length)::p))=_;rw [if_neg (by omega),aaA];cases i1 _ _ b' hp (hF b' hf).1;exact dj _ _ b' (hF b' hf).1 hp)
 refine ⟨g',?_,?_⟩;rw [he.1,he.2.1];exact hs;rw [he.1,he.2.1,he.2.2];have hl:lk st.nx (up++[(st.nx,.seq t (xs++ys))]++st.mem)=some (.seq t (xs++ys)):=by
  rw [ό,cp];cases hu:lk st.nx up with
  |none=>simp [bB]
  |some c0=>exact absurd tD (tL.lk hu).2
 refine ⟨by rw [hl];simp,?_,λt' ig aa=> ?_⟩;unfold iS at hv;cases o with
 |none=>obtain ⟨a,rfl⟩:=hv;rfl
 |some b=>obtain ⟨cap,arr,rfl,_⟩:=hv;rfl
 have aa:=ady hl aa;rw [hl] at aa;injection aa with aa;injection aa with ht Lk;subst ht;have Lk:=eq_of_heq Lk;subst Lk;rw [show g' st.nx=o from by show g'.f st.nx []=o;rw [DS];rfl];exact hv
theorem FI (h:cG cx g st a w){c:Nat}{t:Ty}{xs:List t.D}{v:ο}(I:lk c st.mem=some (.seq t xs))(T:CR g st.mem (cx.safe g st.mem w) w (.all c) v):
 (xs=[]/\g.f c []=none/\ ∃U,v= .slice U 0 0)\/ ∃b cap arr,g.f c []=some b/\v= .slice (some ⟨b,0,none⟩) xs.length cap/\xs.length<=cap/\dm w b arr/\cap*t.size<=arr.size/\cap<=maxLen/\eI (cx.safe g st.mem w) w (g.f c) t xs arr:=by
 have j:=h.mem c _ I;unfold jc at j;have o:=T.2.2 t xs (.inl I);cases r:g.f c [] with
 |none=>
  rw [r] at j;have o:iS (g.f c []) w t.size xs.length v:=o;rw [r] at o;exact .inl ⟨j,rfl,o⟩
 |some b=>
  rw [r] at j;have o:iS (g.f c []) w t.size xs.length v:=o;rw [r] at o;obtain ⟨arr,J,p⟩:=j;obtain ⟨cap,R,e,q1,q2,q3,q4⟩:=o;have:=dm.eq J q2;subst this;exact .inr ⟨b,cap,arr,rfl,e,q1,J,q3,q4,p⟩
theorem Io (h:cG cx g st a w){c:Nat}{t:Ty}{xs:List t.D}{v:ο}(hl:lk c st.mem=some (.seq t xs))(hr:CR g st.mem (cx.safe g st.mem w) w (.all c) v):
 ∃(U:Option Addr) (I:Nat) (o:List ο) (arr:Array ο),v= .slice U xs.length I/\o.length=xs.length*t.size/\(xs.length=0\/ ∃ad,U=some ad/\ ∀j u,o[j]? =some u->w.cell? (ad.add j)=some u)/\
  eI (cx.safe g st.mem w) w (g.f c) t xs arr/\(∀j u,j<xs.length*t.size->arr[j]? =some u->o[j]? =some u)/\ ∀u∈o,u.oneCell'=true:=by
 rcases FI h hl hr with ⟨rfl,_,ab,rfl⟩|⟨b,cap,arr,hg,rfl,hn,hb,J,_,r⟩
 exact ⟨ab,0,[],#[],rfl,by simp,.inl rfl,eI.nil,λj u R=>by simp at R,λu p=>by simp at p⟩;have hle:xs.length*t.size<=arr.size:=ϣ (Ρ _ hn) J;refine ⟨_,cap,arr.toList.take (xs.length*t.size),arr,rfl,by simp;omega,.inr ⟨_,rfl,λj u p=> ?_⟩,r,λj u R p=> ?_,λu p=> ?_⟩;rw [ca,Υ,hb.cell];rw [ϐ] at p;split at p;simpa using p;cases p;rw [ϐ,if_pos R];simpa using p;obtain ⟨k,hk,e⟩:=List.getElem_of_mem p;have T:k<xs.length*t.size:=by simp at hk;omega
 refine r.nt T ?_;rw [<-e,List.getElem_take,Array.getElem_toList,aak]
theorem uH (h:cG cx g st a w){c:Nat}{t:Ty}{xs:List t.D}{up:Mem}(j:lk c st.mem=some (.seq t xs))(o:lk c up=some .gone):tV g st.mem up (g.f c):=
 λp _ hp=>⟨c,p,_,o,j,trivial,hp⟩
theorem Ci {T T':Ι}{ty:Ι}{t:Ty}{s x:bu}{e:cB}{sv xv:ο}(h:cG cx g st a w)(hw:fe st.mem e.new)(r:zI cx.P st.mem st.nx T T' t s x=some e)(hc:bU e.cond)(hs:VR g st.mem (cx.safe g st.mem w) w s sv)(hx:VR g st.mem (cx.safe g st.mem w) w x xv):fP cx st a w (Ϛ #[T,T'] ty #[sv,xv]) e:=by
 unfold zI at r;split at r;rename_i el s J hu;split at r;rename_i i t2 ys hi I;cases hb:(((Α T T'&&Α i.size t.size)&&(ϩ i.bytes 32768&&i.zero.isSome))&&(i.zero.map λz=>Α z.cells.size t.size).getD false) with
 |false=>rw [hb] at r;cases r
 |true=>
  rw [hb] at r;simp only [cond_true] at r;simp only [κ] at hb;obtain ⟨⟨⟨hT,nu⟩,BU,Ri⟩,Fz⟩:=hb;have hT:=bR hT;subst hT;have nu:=bR nu;have BU:=iU BU;obtain ⟨z,hz⟩:=abl.1 Ri;rw [hz] at Fz;have Fz:z.cells.size=t.size:=bR (by simpa using Fz);split at r;rename_i ht;subst ht;obtain ⟨ax,yO,news,DH,rfl,FA,K7,ae,tl,Vh⟩:=Io h I hx;have Ov:news.length=ys.length*i.size:=by rw [nu];exact FA
  have grow: ∀(base:Option Addr) (cap:Nat) (xs:List t2.D) (γ1:List Nat->Option Nat) (arr1:Array ο) (R:List ο) (up:Mem) (cond:List Prop),xs.length+ys.length<=4294967296->R.length=xs.length*i.size->(xs.length=0\/ ∃ad,base=some ad/\ ∀j v,R[j]? =some v->w.cell? (ad.add j)=some v)->
   (∀j v,j<xs.length*t2.size->arr1[j]? =some v->R[j]? =some v)->eI (cx.safe g st.mem w) w γ1 t2 xs arr1->Ak st.mem up->tV g st.mem up γ1->tV g st.mem up (g.f J)->
   (∀p q b,γ1 p=some b->γ1 q=some b->p=q)->(∀p q b,γ1 p=some b->g.f J q=some b->False)->cap<xs.length+ys.length->fe st.mem [(st.nx,Chunk.seq t2 (xs++ys))]->
   fP cx st a w (Ϛ #[T,T] ty #[.slice base xs.length cap,.slice ax ys.length yO]) ⟨.one (.all st.nx),[(st.nx,.seq t2 (xs++ys))],up,cond⟩:=by
   intro base cap xs γ1 arr1 R up cond U FB ho Y9 RF af M8 ag Za Ll hlt hw;have wM:(xs.length+ys.length)*i.bytes<=140737488355328:=by
    calc (xs.length+ys.length)*i.bytes<=4294967296*32768:=aaB U BU
     _=140737488355328:=by decide
   have vZ:=grownCap_ge w (xs.length+ys.length) cap el;have H0:=grownCap_le_maxLen w (xs.length+ys.length) cap el (by unfold maxLen;omega);have hr:=tH (P:=cx.P) (ty:=ty) (c:=yO) hu hi hz FB ho Ov K7 hlt wM (by omega);have wN:bJ [] w (w.drew.alloc (.cells (R.toArray++news.toArray++Ϧ z.cells (grownCap w (xs.length+ys.length) cap el - (xs.length+ys.length))) el)):=
    (af5 [] w).trans (ab6 _ _ _)
   have aa:=adV w.drew (R.toArray++news.toArray++Ϧ z.cells (grownCap w (xs.length+ys.length) cap el - (xs.length+ys.length))) el;rw [nu] at FB;refine ⟨_,_,hr,?_⟩;refine oT.glue (o:=some w.heap.size) (F0:=[]) h hw ⟨rfl,rfl,rfl⟩ af M8 ag Za (λp q b hp hq=>(h.fV J J p q _ _ b I trivial I trivial hp hq).2) Ll (λb hb=> ?_) wN (λb hb=>by simp at hb) RF ae ⟨_,aa,λj v hj hv=> ?_,λj v hj hv=> ?_⟩ ?_;injection hb with hb;subst hb;exact .inr ⟨φ _,aa.lt⟩;have:=Y9 j v hj hv;rw [ae2,abd (by simp;omega)];simpa using this;have:=tl j v hj hv;rw [ae2,Array.getElem?_append_right (by simp;omega),abd (by simp;omega)];simpa [FB] using this;refine ⟨grownCap w (xs.length+ys.length) cap el,_,?_,by rw [ω];exact vZ,aa,?_,H0⟩;rw [ω];simp only [adi,abk,size_zeroCells,Fz,FB,FA,<-ϑ];exact Ρ _ (by omega)
  split at r;injection r with r;subst r;have U:ys.length<=4294967296:=by have:=hc.1;unfold bl at this;omega
  have af:Ak st.mem [(J,Chunk.gone)]:=λp hp=>by simp at hp;subst hp;exact ⟨rfl,by rw [I];simp⟩
  have TY:tV g st.mem [(J,Chunk.gone)] (λ_=>none):=λp b hp=>by cases hp
  have ag:tV g st.mem [(J,Chunk.gone)] (g.f J):=uH h I (by simp [bB]);obtain ⟨ab,rfl⟩:=(show∃a,sv= .slice a 0 0 from hs);by_cases hy:ys.length=0;have N8:ys=[]:=ϸ hy;subst N8;refine ⟨_,_,qf (P:=cx.P) hu hi,?_⟩;exact oT.glue (t:=t2) (xs:=[]) (ys:=[]) (o:=none) (F0:=[]) (γ1:=λ_=>none) (arr1:= #[]) h hw ⟨rfl,rfl,rfl⟩ af TY ag (λ_ _ _ hp=>by cases hp) (λp q b hp hq=>(h.fV J J p q _ _ b I trivial I trivial hp hq).2) (λ_ _ _ hp=>by cases hp) (λb hb=>by cases hb) (acL _ _) (λb hb=>by simp at hb) eI.nil ae rfl ⟨ab,rfl⟩;exact grow ab 0 [] (λ_=>none) #[] [] _ _ (by simpa using U) (by simp) (.inl rfl) (λj v hj=>by simp at hj) eI.nil af TY ag (λ_ _ _ hp=>by cases hp) (λ_ _ _ hp=>by cases hp) (by simp;omega) hw;rename_i c;split at r;rename_i t1 xs M1;split at r;rename_i Ow;subst Ow;cases RH:(!(Α c J)) with
  |false=>rw [RH] at r;cases r
  |true=>
   rw [RH] at r;simp only [cond_true] at r;injection r with r;subst r;have hw:fe st.mem [(st.nx,Chunk.seq t1 (xs++ys))]:=hw;show fP cx st a w _ (⟨.one (.all st.nx),[(st.nx,.seq t1 (xs++ys))],[(c,.gone),(J,.gone)],[ζ xs+ζ ys<=bl]⟩:cB);have iH:c≠J:=λe=>by subst e;simp at RH
   have U:xs.length+ys.length<=4294967296:=hc.1;have af:Ak st.mem [(c,Chunk.gone),(J,Chunk.gone)]:=λp hp=>by
    simp at hp;rcases hp with rfl|rfl
    exact ⟨rfl,by rw [M1];simp⟩;exact ⟨rfl,by rw [I];simp⟩
   have M8:tV g st.mem [(c,Chunk.gone),(J,Chunk.gone)] (g.f c):=uH h M1 (by simp [bB]);have ag:tV g st.mem [(c,Chunk.gone),(J,Chunk.gone)] (g.f J):=uH h I (by rw [bB,if_neg (λe=>iH e.symm)];simp [bB]);have TZ: ∀p q b,g.f c p=some b->g.f c q=some b->p=q:=λp q b hp hq=>(h.fV c c p q _ _ b M1 trivial M1 trivial hp hq).2;have Gw: ∀p q b,g.f J p=some b->g.f J q=some b->p=q:=λp q b hp hq=>(h.fV J J p q _ _ b I trivial I trivial hp hq).2;have Ll: ∀p q b,g.f c p=some b->g.f J q=some b->False:=λp q b hp hq=>iH (h.fV c J p q _ _ b M1 trivial I trivial hp hq).1;rcases FI h M1 hs with ⟨rfl,hg,ab,rfl⟩|⟨b,cap,arr,hg,rfl,hn,aa,kY,Ae,ma⟩
   by_cases hy:ys.length=0;have N8:ys=[]:=ϸ hy;subst N8;refine ⟨_,_,qf (P:=cx.P) hu hi,?_⟩;exact oT.glue (t:=t1) (xs:=[]) (ys:=[]) (o:=none) (F0:=[]) (γ1:=g.f c) (arr1:= #[]) h hw ⟨rfl,rfl,rfl⟩ af M8 ag TZ Gw Ll (λb hb=>by cases hb) (acL _ _) (λb hb=>by simp at hb) eI.nil ae rfl ⟨ab,rfl⟩;exact grow ab 0 [] (g.f c) #[] [] _ _ U (by simp) (.inl rfl) (λj v hj=>by simp at hj) eI.nil af M8 ag TZ Ll (Nat.lt_of_lt_of_eq (Nat.pos_of_ne_zero hy) (Υ _).symm) hw;have hle:xs.length*t1.size<=arr.size:=ϣ (Ρ _ hn) kY;by_cases sA:xs.length+ys.length<=cap;have wO:(xs.length+ys.length)*i.size<=arr.size:=by rw [nu];exact ϣ (Ρ _ sA) kY
   obtain ⟨w',dZ,hr,qK,uA,oo,qg⟩:=tJ (P:=cx.P) (ty:=ty) hu hi aa (c:=yO) Ov K7 Vh sA wO;refine ⟨_,_,hr,?_⟩;have gF: ∀k,dZ[k]? =(arr.toList.take (xs.length*i.size)++news++arr.toList.drop (xs.length*i.size+news.length))[k]? :=λk=>by rw [<-uA,ϥ]
   have T3:(arr.toList.take (xs.length*t1.size)).length=xs.length*t1.size:=by simp;omega
   rw [nu] at gF;refine oT.glue (o:=some b) (F0:=[b]) h hw ⟨rfl,rfl,rfl⟩ af M8 ag TZ Gw Ll (λb' wP=>by injection wP with wP;subst wP;exact .inl hg) oo (λb' wP=>by simp at wP;subst wP;exact ⟨hg,rfl⟩) ma ae ⟨dZ,qK,λj v hj hv=> ?_,λj v hj hv=> ?_⟩ ?_;rw [gF,ό,Μ (by omega),ϐ,if_pos hj];simpa using hv;rw [gF,ό,Κ (by omega),T3,aaA,Μ (by omega)];exact tl j v hj hv;refine ⟨cap,dZ,by rw [ω],by rw [ω];exact sA,qK,?_,Ae⟩;have:dZ.size=arr.size:=by
    rw [<-Ψ,uA];simp;rw [nu] at wO Ov⊢;rw [ϑ] at wO;omega
   omega;refine grow _ cap xs (g.f c) arr (arr.toList.take (xs.length*t1.size)) _ _ U (by rw [nu];simp;omega) (.inr ⟨_,rfl,λj v hv=> ?_⟩) (λj v hj hv=> ?_) ma af M8 ag TZ Ll (by omega) hw;rw [ca,Υ,aa.cell];rw [ϐ] at hv;split at hv;simpa using hv;cases hv;rw [ϐ,if_pos hj];simpa using hv
  cases r;cases r;cases r;cases r
 cases r;cases r
def Vi (g:GM)(b:Nat)(cells:List bs):List Nat->Option Nat
 |[]=>some b
 |i::o::r=>if i=0 then (match cells[o]? with
  |some (.all k)=>g.f k r
  |_=>none) else none
 |_=>none
theorem yX {T:Ι}{t:Ty}{len:Nat}{parts:List (Nat×bu)}{vparts:Array (Nat×ο)}{e:cB}(h:cG cx g st a w)(hw:fe st.mem e.new)(he:rS cx.P st.mem st.nx T t len parts=some e)(hp:bN (λ(p:Nat×bu) (q:Nat×ο)=>p.1=q.1/\VR g st.mem (cx.safe g st.mem w) w p.2 q.2) parts vparts.toList):fP cx st a w (Ϲ T len vparts) e:=by
 classical
 unfold rS at he;split at he;rename_i el v hu;cases hb:((cX cx.P el==some t.size&&(((cx.P.info? el).bind (·.zero)).map λz=>Α z.cells.size t.size)==some true)&&(Α len 1&&ϩ t.size 65536)&&v.ok) with
 |false=>rw [hb] at he;cases he
 |true=>
  rw [hb] at he;simp only [cond_true] at he;simp only [κ,beq_iff_eq] at hb;obtain ⟨⟨⟨hs,hz⟩,hn,N9⟩,Al⟩:=hb;have hn:=bR hn;have N9:=iU N9;subst hn;split at he;rename_i x ks XZ;cases tQ:jX ks with
  |false=>rw [tQ] at he;cases he
  |true=>
   rw [tQ] at he;simp only [cond_true] at he;injection he with he;subst he;have tQ:=iq tQ;obtain ⟨va,Zb,Zc⟩: ∃va,vparts.toList=[(0,va)]/\VR g st.mem (cx.safe g st.mem w) w v va:=by
    cases hq:vparts.toList with
    |nil=>rw [hq] at hp;exact hp.elim
    |cons q r=>
     rw [hq] at hp;obtain ⟨⟨h1,h2⟩,h3⟩:=hp;cases r with
     |nil=>
      obtain ⟨j,va⟩:=q;have h1:0=j:=h1;subst h1;exact ⟨va,rfl,h2⟩
     |cons=>exact h3.elim
   have tD:lk st.nx st.mem=none:=hw (st.nx,.seq t [x]) (by simp);obtain ⟨vs,so,gx⟩:=jH Al Zc;obtain ⟨c1,hcs,Ox,RI,aa⟩:=vj t XZ;rw [ϴ] at hcs;have mZ:va.cells.size=t.size:=by rw [<-Ψ,so,<-gx.length,hcs,Ox]
   cases hi:cx.P.info? el with
   |none=>simp [cX,hi] at hs
   |some i=>
    rw [hi] at hz;simp only [η] at hz;cases Oa:i.zero with
    |none=>simp [Oa] at hz
    |some z=>
     rw [Oa] at hz;have hz:Α z.cells.size t.size=true:=by simpa using hz
     have hz:=bR hz;have X0:=t.size_pos;let base:Array ο:=(abT t.size).map λk=>z.cells[k%z.cells.size]!;have UL:base.size=t.size:=by simp [base]
     let I:Array ο:=va.cells.zipIdx.foldl (λcs (p:ο×Nat)=>cs.setIfInBounds (0+p.2) p.1) base;have zE:I.toList=va.cells.toList:=by
      have:=rG 0 va.cells.toList 0 base (by rw [Ψ];omega);show (va.cells.zipIdx.foldl (λcs (p:ο×Nat)=>cs.setIfInBounds (0+p.2) p.1) base).toList=_;rw [<-Array.foldl_toList,Array.toList_zipIdx];have h2:base.toList.drop (0+va.cells.toList.length)=[]:=aet (by rw [Ψ,Ψ];omega);refine this.trans ?_;rw [h2];simp
     have uC:(Ϲ T 1 vparts).run cx.P w= .ok (.slice (some ⟨w.heap.size,0,none⟩) 1 1) (w.alloc (.cells I el)):=by
      have Vj: ¬(16777216<t.size):=by omega
      have h0: ¬(t.size=0):=by omega
      have e1:aa1 (λj=>some (j*t.size,t.size)) base vparts.toList=some I:=by
       rw [Zb];simp only [aa1];rw [if_neg (by simp;omega)];simp [I]
      have X1:aa1 (λj=>some (j*t.size,t.size)) ((abT (1*t.size)).map λk=>z.cells[k%z.cells.size]!) vparts.toList=some I:=by
       rw [Nat.one_mul];exact e1
      simp only [Ϲ,Ϙ,run_underlying hu,ϋ,cA hs];simp [h0,Vj,zeroValue,typeInfo,hi,Oa] at X1⊢;simp [X1,newRow]
     refine ⟨_,_,uC,?_⟩;have hblk:=adV w I el;have J:bJ [] w (w.alloc (.cells I el)):=ab6 _ _ _;let γ:=Vi g w.heap.size v.cells;let up:Mem:=ks.map λk=>(k,Chunk.gone);have Vk: ∀k,k∈ks->lk k up=some .gone:=λk R=>by
      have:=Ce (k:=k) (m:=[]) (ls:=ks);rw [ϴ,if_pos R] at this;exact this
     have tL:Ak st.mem up:=λp hp=>by
      obtain ⟨k,R,rfl⟩:=ϟ.1 hp;obtain ⟨t',ig,e1⟩:=aa k R;exact ⟨rfl,by rw [e1];simp⟩
     have U: ∀i p b,γ (i::p)=some b->i=0/\ ∃o r k,p=o::r/\v.cells[o]? =some (.all k)/\g.f k r=some b:=λi p b hp=>by
      cases p with
      |nil=>cases hp
      |cons o r=>
       have hp:(if i=0 then (match v.cells[o]? with
        |some (.all k)=>g.f k r
        |_=>none) else none)=some b:=hp
       split at hp;rename_i hi;split at hp;rename_i k R;exact ⟨hi,o,r,k,rfl,R,hp⟩;cases hp;cases hp
     have B4: ∀(o k:Nat),v.cells[o]? =some (bs.all k)->k∈ks:=λo k R=>by
      rw [RI];rw [hcs] at R;exact nW R
     have hlt: ∀i p b,γ (i::p)=some b->b<w.heap.size:=λi p b hp=>by
      obtain ⟨_,o,r,k,_,R,hg⟩:=U i p b hp;obtain ⟨t',ig,e1⟩:=aa k (B4 o k R);exact h.lt k r _ b e1 trivial hg
     let G:=(abh w.heap.size).filter λb=>decide (∃p,γ p=some b);have Nd: ∀b,b∈G↔b<w.heap.size/\ ∃p,γ p=some b:=λb=>by simp [G]
     have Vg:bJ G w (w.alloc (.cells I el)):=⟨J.os,J.tape,J.output,J.size,λb hb _=>J.block b hb (by simp),J.sz⟩;obtain ⟨g',DS,Ip⟩:=h.newAt (ch:= .seq t [x]) (γ:=γ) tD tL Vg (λb hb=>by
      obtain ⟨hl,p,hp⟩:=(Nd b).1 hb;cases p with
      |nil=>
       have hp:some w.heap.size=some b:=hp;injection hp with hp;omega
      |cons i p=>
       obtain ⟨_,o,r,k,_,R,hg⟩:=U i p b hp;have DA:=B4 o k R;obtain ⟨t',ig,e1⟩:=aa k DA;exact ⟨k,r,_,Vk k DA,e1,trivial,hg⟩)
      (λp b hp=>by
       cases p with
       |nil=>
        have hp:some w.heap.size=some b:=hp;injection hp with hp;subst hp;exact ⟨hblk.lt,.inl (φ _)⟩
       |cons i p=>
        have:=hlt i p b hp;exact ⟨ϖ this J.size,.inr ((Nd b).2 ⟨this,_,hp⟩)⟩)
      (λp q b hp hq=>by
       cases p with
       |nil=>
        cases q with
        |nil=>rfl
        |cons j q=>
         have hp:some w.heap.size=some b:=hp;injection hp with hp;have:=hlt j q b hq;omega
       |cons i p=>
        cases q with
        |nil=>
         have hq:some w.heap.size=some b:=hq;injection hq with hq;have:=hlt i p b hp;omega
        |cons j q=>
         obtain ⟨e1,o,r,k,rfl,R,hg⟩:=U i p b hp;obtain ⟨e2,o',r',k',rfl,oo,om⟩:=U j q b hq;obtain ⟨t1,T5,f1⟩:=aa k (B4 o k R);obtain ⟨t2,xs2,f2⟩:=aa k' (B4 o' k' oo);obtain ⟨g1,g2⟩:=h.fV k k' r r' _ _ b f1 trivial f2 trivial hg om;subst g1 g2 e1 e2;have:o=o':=tT (cs:=v.cells) (by rw [hcs,<-RI];exact tQ) R oo;rw [this])
      (λg' m' S' hS=>by
       show jc g' m' S' (w.alloc (.cells I el)) γ (.seq t [x]);refine ⟨I,hblk,λq hq=> ?_⟩;have U6:q=0:=by simp at hq;exact hq
       subst U6;obtain ⟨v1,v2,ev,qU,Rm⟩:=GU h.mem (S2:=cx.safe g st.mem w) (λ_ hb=>hb) t (γ:=λp=>γ (0::p)) (o:=0) XZ gx (λq hq k R p=>by
        show (if 0=0 then (match v.cells[0+q]? with
         |some (.all k)=>g.f k p
         |_=>none) else none)=_
        rw [if_pos rfl,Υ,R]) (λq hq R=>by
        show (if 0=0 then (match v.cells[0+q]? with
         |some (.all k)=>g.f k []
         |_=>none) else none)=_
        rw [if_pos rfl,Υ,R])
       have:v2=[]:=by cases v2 with|nil=>rfl|cons=>exact Rm.elim
       subst this;rw [ϴ] at ev;subst ev;refine ⟨vs,λj u hu=> ?_,af3 hS t (λp b hp=>J.block b (hlt _ _ b hp) (by simp)) qU⟩;rw [aaY,Υ,<-ϥ,zE,so];exact hu)
     refine ⟨g',Ip,?_⟩;have hl:lk st.nx (up++[(st.nx,.seq t [x])]++st.mem)=some (.seq t [x]):=by
      rw [ό,cp];cases hq:lk st.nx up with
      |none=>simp [bB]
      |some c0=>exact absurd tD (tL.lk hq).2
     refine ⟨by rw [hl];simp,rfl,λt' ig uA=> ?_⟩;have uA:=ady hl uA;rw [hl] at uA;injection uA with uA;injection uA with ht Lk;subst ht;have Lk:=eq_of_heq Lk;subst Lk;rw [show g' st.nx=some w.heap.size from by show g'.f st.nx []=_;rw [DS];rfl];refine ⟨1,I,rfl,φ _,hblk,?_,by unfold maxLen;omega⟩;rw [<-Ψ,zE,Ψ,mZ];omega
  cases he
 cases he
theorem xb {T T':Ι}{ty:Ι}{t:Ty}{s x:bu}{e:cB}{o p:ο}(h:cG cx g st a w)(r:fe st.mem e.new)(j:pL cx.P st.mem st.nx T T' t s x=some e)(I:bU e.cond)(J:VR g st.mem (cx.safe g st.mem w) w s o)(R:VR g st.mem (cx.safe g st.mem w) w x p):fP cx st a w (Ϛ #[T,T'] ty #[o,p]) e:=by
 unfold pL at j;cases ht:t.top with
 |true=>rw [ht] at j;exact yN h r j I J R
 |false=>rw [ht] at j;exact Ci h r j I J R
theorem yY {T:Ι}{t:Ty}{len:Nat}{parts:List (Nat×bu)}{vparts:Array (Nat×ο)}{e:cB}(h:cG cx g st a w)(o:fe st.mem e.new)(j:rT cx.P st.mem st.nx T t len parts=some e)(hp:bN (λ(p:Nat×bu) (q:Nat×ο)=>p.1=q.1/\VR g st.mem (cx.safe g st.mem w) w p.2 q.2) parts vparts.toList):fP cx st a w (Ϲ T len vparts) e:=by
 unfold rT at j;cases ht:t.top with
 |true=>rw [ht] at j;exact tM h o j hp
 |false=>rw [ht] at j;exact yX h o j hp
end
end Go.Ide
namespace Go.Ide
def Iq (fr:Fr):List aah->Option (List bu)
 |[]=>some []
 |x::r=>match ev fr x,Iq fr r with
  |some v,some l=>some (v::l)
  |_,_=>none
def KS (fr:Fr):Option aah->Option (Option bu)
 |none=>some none
 |some x=>match ev fr x with
  |some v=>some (some v)
  |none=>none
def Cj (P:Ξ)(m:Mem)(T:Ι)(x:bu):Option cB:=
 match P.underlying T,x with
 |some .string,.one (.bp .str _)=>sI m x
 |some (.slice _),.one (.bp (.sl _) _)=>sI m x
 |some (.slice _),.one (.all _)=>sI m x
 |some (.slice _),.one (.ref _ _ _)=>sI m x
 |some (.slice _),.one (.row _ _ _)=>sI m x
 |some (.slice _),.one .br=>sI m x
 |_,_=>none
def AA (P:Ξ)(T:Ι)(x i:bu):Option cB:=
 match P.underlying T,x,i with
 |some .string,.one (.bp .str s),.one (.bp (.int _) n)=>
  fL (.one (.bp (.int .u8) ((((ε s (δ n) 0:UInt8).toNat:Nat)):Int))) [(0:Int)<=n/\n<((ζ s:Nat):Int)]
 |_,_,_=>none
def Oy (x:bu):Option cB:=
 match x with
 | .one (.ptr c off)=>cz (.one (.ptr c off))
 | .one (.ip t y off)=>cz (.one (.ip t y off))
 | .one (.cZ c i p off)=>cz (.one (.cZ c i p off))
 | .one (.yK c i o j p off)=>cz (.one (.yK c i o j p off))
 |_=>none
def Ir (x y z:bu):Option cB:=
 match x,y,z with
 | .one (.bp (.int k) a),.one (.bp (.int j) b),.one (.bp (.int o) c)=>if k=j/\k=o then cz (.one (.bp (.int k) (if c<(if b<a then b else a) then c else if b<a then b else a))) else none
 |_,_,_=>none
theorem Ck {P:Ξ}{g:GM}{m:Mem}{S:Nat->Prop}{w:Ε}{x y z:bu}{e:cB}{j o p:ο}{Ts:Array Ι}{T:Ι}(h:Ir x y z=some e)(t:VR g m S w x j)(I:VR g m S w y o)(J:VR g m S w z p):bF P g m S w (acq Ts T #[j,o,p]) e:=by
 unfold Ir at h;split at h;rename_i k a k' b k2 c;split at h;rename_i R;obtain ⟨rfl,rfl⟩:=R;have U:=dH (g:=g) (m:=m) (S:=S) (w:=w) t;have h2:=dH (g:=g) (m:=m) (S:=S) (w:=w) I;have h3:=dH (g:=g) (m:=m) (S:=S) (w:=w) J;subst U;subst h2;subst h3;refine bF.mk (bE h) (r:= .int k (if c<(if b<a then b else a) then c else if b<a then b else a)) ?_ rfl;by_cases q:b<a<;>simp [acq,af6,q];cases h;cases h
def pM (P:Ξ)(fr:Fr)(m:Mem)(nx:Nat)(h:Hint)(b:Builtin)(args:List aah)(ts:List Ι):Option cB:=
 match b,args,ts with
 | .len,[x],[T]=>(match ev fr x with
  |some v=>Cj P m T v
  |none=>none)
 | .append,[s,x],[T,r]=>(match h,ev fr s,ev fr x with
  | .ty t,some p,some j=>pL P m nx T r t p j
  | .no,some p,some j=>pJ P m nx T r p j
  | .HM t,some p,some j=>wX P nx T r t p j
  |_,_,_=>none)
 | .min,[x,y],_=>(match ev fr x,ev fr y with
  |some j,some o=>(match TU false j o with
   |some e=>some e
   |none=>NZ j o)
  |_,_=>none)
 | .min,[x,y,z],_=>(match ev fr x,ev fr y,ev fr z with
  |some j,some o,some I=>Ir j o I
  |_,_,_=>none)
 | .max,[x,y],_=>(match ev fr x,ev fr y with
  |some j,some o=>(match TU true j o with
   |some e=>some e
   |none=>N0 j o)
  |_,_=>none)
 | .copy,[x,y],[T,_]=>(match ev fr x,ev fr y with
  |some j,some o=>zG P m T j o
  |_,_=>none)
 | .cap,[x],[T]=>(match ev fr x,P.underlying T with
  |some (.one .br),some (.slice _)=>cz (.one (.bp (.int .i64) (0:Int)))
  |_,_=>none)
 |_,_,_=>none
def RJ (f:aaE)(vs:List bu):Option cB:=
 match vs with
 |[.one (.ip t x 0)]=>cz (.one (.jb f t x))
 |_=>none
def Ty.uI:Ty->Bool
 | .pair _ _=>true
 |_=>false
def Lm:List bu->Option TD
 |[]=>none
 | .one (.ip t x 0)::r=>(match r with
  |[]=>bif t.uI then none else some ⟨t,x⟩
  |_=>(match Lm r with
   |some d=>some ⟨.pair t d.t,(x,d.x)⟩
   |none=>none))
 |_=>none
def X2 (f:aaE)(vs:List bu):Option cB:=
 match Lm vs with
 |some d=>cz (.one (.bp (.cl f d.t) d.x))
 |none=>none
def GV:(t:Ty)->t.D->List bu
 | .pair a b,x=> .one (.ip a x.1 0)::GV b x.2
 |t,x=>[.one (.ip t x 0)]
def FJ (P:Ξ)(k:aaE)(fk:aad)(j:aaC):Prop:=
 ∀(b:Nat) (w:Ε),(callFunc k #[.float fk b]).run P w= .ok (.value (.int j b)) w
def wc (P:Ξ)(fr:Fr)(m:Mem)(nx:Nat)(h:Hint)(o:Ϥ):Option cB:=
 match o.op with
 | .move x=>(match ev fr x with
  |some v=>cz v
  |none=>none)
 | .assign x=>(match ev fr x with
  |some v=>cz v
  |none=>none)
 | .pick c x y=>(match ev fr c with
  |some (.one (.bp .bool b))=>(match ev fr (bif b then x else y) with
   |some v=>cz v
   |none=>none)
  |_=>none)
 | .alloc T=>(match h with
  | .ty t=>Ah P nx T t
  |_=>DD P nx T)
 | .box _ x=>(match ev fr x with
  |some v=>(match h with
   | .ty t=>HX nx t v
   |_=>KZ nx v)
  |none=>none)
 | .build T parts=>(match yH fr parts.toList with
  |some I=>DE P T I
  |none=>none)
 | .buildSlice T len parts=>(match h,yH fr parts.toList with
  | .ty t,some I=>rT P m nx T t len I
  | .HM t,some I=>qj P nx T t len I
  | .no,some I=>DF P T len I
  |_,_=>none)
 | .load T x=>(match ev fr x with
  |some v=>qY P m nx h T v
  |none=>none)
 | .store T x y=>(match ev fr x,ev fr y with
  |some xv,some yv=>rR P m nx h T xv yv
  |_,_=>none)
 | .nilCheck x=>(match ev fr x with
  |some v=>Oy v
  |none=>none)
 | .binOp op T x y _=>(match ev fr x,ev fr y with
  |some xv,some yv=>zB P T op xv yv
  |_,_=>none)
 | .unOp op _ x=>(match ev fr x with
  |some v=>Lh op v
  |none=>none)
 | .convert T U x=>(match ev fr x with
  |some v=>ot P m nx T U v
  |none=>none)
 | .makeSlice T l c=>(match h,ev fr l,ev fr c with
  | .ty t,some lv,some cv=>sJ P nx T t lv cv
  |_,_,_=>none)
 | .slice T x lo hi none=>(match ev fr x,KS fr lo,KS fr hi with
  |some v,some l,some h=>sK P m T v l h
  |_,_,_=>none)
 | .slice T x lo hi (some q)=>(match ev fr x,KS fr lo,KS fr hi,ev fr q with
  |some v,some l,some h,some r=>Av P T v l h (some r)
  |_,_,_,_=>none)
 | .fieldAddr T x f=>(match ev fr x with
  |some v=>qb P T v f
  |none=>none)
 | .indexAddr T x i=>(match ev fr x,ev fr i with
  |some v,some j=>jt P m T v j
  |_,_=>none)
 | .index T x i=>(match ev fr x,ev fr i with
  |some v,some j=>AA P T v j
  |_,_=>none)
 | .extract x i=>(match ev fr x with
  |some v=>tB v i
  |none=>none)
 | .makeFunc (.func f) first J=>(match Iq fr J.toList with
  |some I=>bif first.isEmpty then (match h with
   | .oS=>X2 f I
   |_=>RJ f I) else none
  |none=>none)
 | .call c=>(match c.callee with
  | .builtin b=>pM P fr m nx h b c.args.toList c.argTypes.toList
  | .value f=>(match h,ev fr f,Iq fr c.args.toList with
   | .call R rs p,some (.one (.fn k)),some I=>vg P m nx R rs p k I
   | .call R rs p,some (.one (.jb k t x)),some I=>vg P m nx R rs p k (I++[.one (.ip t x 0)])
   | .call R rs p,some (.one (.bp (.cl k t) x)),some I=>vg P m nx R rs p k (I++GV t x)
   | .no,some (.one (.fn k)),some [.one (.bp (.dB fk) n)]=>(match P.underlying o.type with
    |some (.int ik)=>fL (.one (.bp (.int ik) ((n:Nat):Int))) [FJ P k fk ik,n≠GH fk]
    |_=>none)
   |_,_,_=>none)
  |_=>none)
 |_=>none
section
variable {cx:Cx} {g:GM} {st:St} {a:Act} {w:Ε}
theorem qk (h:cG cx g st a w): ∀{xs:List aah} {vs:List bu},Iq st.fr xs=some vs->bN (VR g st.mem (cx.safe g st.mem w) w) vs (xs.map a.eval)
 |[],vs,j=>by simp only [Iq] at j;injection j with j;subst j;trivial
 |x::xs,vs,j=>by
  simp only [Iq] at j;split at j;rename_i v l o p;injection j with j;subst j;exact ⟨cc h o,qk h p⟩;cases j
theorem AB (h:cG cx g st a w){x:Option aah}{v:Option bu}(j:KS st.fr x=some v):OR g st.mem (cx.safe g st.mem w) w v (x.map a.eval):=by
 cases x with
 |none=>simp only [KS] at j;injection j with j;subst j;trivial
 |some x=>
  simp only [KS] at j;split at j;rename_i u o;injection j with j;subst j;exact cc h o;cases j
theorem uJ (h:cG cx g st a w): ∀{xs:List (Nat×aah)} {vs:List (Nat×bu)},yH st.fr xs=some vs->
 bN (λ(p:Nat×bu) (q:Nat×ο)=>p.1=q.1/\VR g st.mem (cx.safe g st.mem w) w p.2 q.2) vs (xs.map λ(i,x)=>(i,a.eval x))
 |[],vs,j=>by simp only [yH] at j;injection j with j;subst j;trivial
 |(i,x)::xs,vs,j=>by
  simp only [yH] at j;split at j;rename_i v l o r;injection j with j;subst j;exact ⟨⟨rfl,cc h o⟩,uJ h r⟩;cases j
def q8 (cx:Cx)(st:St)(a:Act)(w:Ε)(o:Ϥ)(e:cB):Prop:=
 (∃val w',(execOp a.eval o).run cx.P w= .ok (.value val) w'/\oT cx st a e val w')\/
 (∃w',(execOp a.eval o).run cx.P w= .ok .skip w'/\oT cx st a e undef w')\/
 (∃f args,(execOp a.eval o).run cx.P w= .ok (.enter f args) w/\Calls cx.P f args w λj w'=> ∃v,j= .returned v/\oT cx st a e v w')
theorem q8.wp {o:Ϥ}{e:cB}{K:Act->Ε->Prop}{Q:Exit->Act->Ε->Prop}(h:q8 cx st a w o e)(r: ∀val w',oT cx st a e val w'->K (a.put o.dst val) w'):o.wp cx.P a w K Q:=by
 unfold Oper.wp;rcases h with ⟨val,w',j,p⟩|⟨w',j,p⟩|⟨f,args,j,p⟩
 rw [j];exact r val w' p;rw [j];exact r undef w' p;rw [j];exact p.mono λJ w' ⟨v,t,I⟩=>by subst t;exact r v w' I
theorem fP.gr {o:Ϥ}{e:cB}{s:Sem ο}(h:fP cx st a w s e)(j:execOp a.eval o=(do pure (.value (<-s)))):q8 cx st a w o e:=by
 obtain ⟨val,w',p,r⟩:=h;exact .inl ⟨val,w',by rw [j];simp [p],r⟩
theorem BV.gr {o:Ϥ}{e:cB}{s:Sem Unit}(h:BV cx st a w s e)(j:execOp a.eval o=(do s;pure .skip)):q8 cx st a w o e:=by
 obtain ⟨w',p,r⟩:=h;exact .inr (.inl ⟨w',by rw [j];simp [p],r⟩)
theorem q8.pure {o:Ϥ}{e:cB}{v:bu}{val:ο}(h:cG cx g st a w)(j:execOp a.eval o=Pure.pure (.value val))(hp:e.new=[]/\e.kZ=[]/\e.val=v)(p:VR g st.mem (cx.safe g st.mem w) w v val):q8 cx st a w o e:=by
 refine .inl ⟨val,w,by rw [j];rfl,g,?_,?_⟩;rw [hp.1,hp.2.1];exact h;rw [hp.1,hp.2.1,hp.2.2];exact p
def Is (u:ο):Prop:=(∃k n,u= .int k n)\/(∃s,u= .string s)\/(∃b,u= .bool b)
theorem Cl {P:Ξ}{op:ach}{T:Ι}{x y:aah}{k:aad}{b:Nat}{v:ο}:(eqGuard op T x y (.float k b) v).run P w= .ok () w:=by
 cases op<;>cases v<;>rfl
theorem Cm {P:Ξ}{op:ach}{T:Ι}{x y:aah}{u v:ο}(h:Is u):(eqGuard op T x y u v).run P w= .ok () w:=by
 rcases h with ⟨k,n,rfl⟩|⟨s,rfl⟩|⟨b,rfl⟩<;>cases op<;>cases v<;>rfl
theorem GW {op:ach}{T:Ι}{x y:bu}{e:cB}{u:ο}(j:Gs cx.P T op x y=some e)(o:VR g st.mem (cx.safe g st.mem w) w x u):Is u:=by
 unfold Gs at j;split at j;exact .inl ⟨_,_,dH (g:=g) (m:=st.mem) (S:=cx.safe g st.mem w) (w:=w) o⟩;exact .inr (.inl ⟨_,lj (g:=g) (m:=st.mem) (S:=cx.safe g st.mem w) (w:=w) o⟩);exact .inr (.inr ⟨_,ow (g:=g) (m:=st.mem) (S:=cx.safe g st.mem w) (w:=w) o⟩);cases j
theorem Cn {op:ach}{T:Ι}{x y:bu}{xo yo:aah}{e:cB}{u v:ο}{w':Ε}(j:zB cx.P T op x y=some e)(o:VR g st.mem (cx.safe g st.mem w) w x u)(p:VR g st.mem (cx.safe g st.mem w) w y v):(eqGuard op T xo yo u v).run cx.P w'= .ok () w':=by
 unfold zB at j;split at j;obtain ⟨b,e,_⟩:=o9 (g:=g) (m:=st.mem) (S:=cx.safe g st.mem w) (w:=w) o;rw [e];exact Cl;obtain ⟨r,rfl,_⟩:=o;obtain ⟨t,rfl,_⟩:=p;exact vO j;exact Cm (GW j o)
theorem AD {P:Ξ}{m:Mem}{S:Nat->Prop}{T:Ι}{x i:bu}{e:cB}{J R:ο}(h:AA P T x i=some e)(U:bU e.cond)(hx:VR g m S w x J)(hi:VR g m S w i R):bF P g m S w (ag1 T J R) e:=by
 unfold AA at h;split at h;rename_i s k n hu;obtain ⟨he,p⟩:=cT h;rw [p] at U;obtain ⟨⟨h0,h1⟩,_⟩:=U;have e1:=lj (g:=g) (m:=m) (S:=S) (w:=w) hx;have e2:=dH (g:=g) (m:=m) (S:=S) (w:=w) hi;subst e1;subst e2;have j:δ n<ζ s:=toNat_lt h0 h1;refine bF.mk he (r:= .int .u8 ((((ε s (δ n) 0:UInt8).toNat:Nat)):Int)) ?_ rfl;have t:δ n<(⟨adJ s⟩:ByteArray).size:=by simpa [abj] using j
 have o:(⟨adJ s⟩:ByteArray)[δ n]? =some (ε s (δ n) 0):=by
  rw [getElem?_pos (⟨adJ s⟩:ByteArray) (δ n) t]
  congr 1
  rw [getD_eq j];rfl
 have I:(0:Int)<=n:=h0;simp only [ag1,Ϙ,run_underlying hu,ϋ,asIntOf,ϳ];rw [if_pos I,o];rfl;cases h
theorem Oz {g:GM}{m:Mem}{S:Nat->Prop}{w:Ε}{k:aaE}{t:Ty}{x:t.D}{v:ο}{p:Addr}(h:CR g m S w (.jb k t x) v)(e:v= .func (.func k) #[] #[.pointer (some p)]):bN (VR g m S w) [.one (.ip t x 0)] [.pointer (some p)]:=by
 obtain ⟨I,es,j,J,o,r⟩:=h;rw [e] at j;injection j with _ _ j;injection j with j;injection j with j _;injection j with j;injection j with j;subst j;have R:p.add 0=p:=by simp [abF]
 exact ⟨⟨p,es,by rw [R],J,o,r⟩,trivial⟩
theorem Ty.xc {t:Ty}(h:t.uI=false):t.sj=[t.size]:=by cases t<;>first|rfl|cases h
theorem Co {t:Ty}{x:t.D}(h:t.uI=false):GV t x=[.one (.ip t x 0)]:=by cases t<;>first|rfl|cases h
theorem Cp {g:GM}{m:Mem}{S:Nat->Prop}{w:Ε}: ∀{vs:List bu} {d:TD} {ps:List ο},Lm vs=some d->bN (VR g m S w) vs ps-> ∃I,bT S w d.t I d.x/\oV S w d.t.sj I ps
 |[],d,_,h,_=>by cases h
 |_::_,_,[],_,J=>J.elim
 |v::r,d,p::ps,h,J=>by
  unfold Lm at h;split at h;cases h;rename_i t x r' heq;injection heq with h1 h2;subst h1 h2;obtain ⟨T,es,e,U,hc,o⟩:=J.1;have e2:T.add 0=T:=by simp [abF]
  rw [e2] at e;have hl:=abA t es x o;split at h;rename_i iH;cases hp:t.uI with
  |true=>rw [hp] at h;cases h
  |false=>
   rw [hp] at h;simp only [cond_false] at h;injection h with h;subst h
   match ps,J.2 with
   |[],_=>
    refine ⟨es,o,?_⟩;rw [Ty.xc hp];exact ⟨⟨T,e,U,λj u R=>hc j u (by rw [aaw (aeI hl)] at R;exact R)⟩,trivial⟩
  split at h;rename_i d' hd;injection h with h;subst h;obtain ⟨I,k1,k2⟩:=Cp hd J.2;refine ⟨es++I,⟨es,I,rfl,o,k1⟩,⟨T,e,U,λj u R=>hc j u ?_⟩,?_⟩;rw [ab1 (by omega),aaw (by omega)] at R;exact R;rw [<-hl,agp];exact k2;cases h;cases h
theorem It {g:GM}{m:Mem}{S:Nat->Prop}{w:Ε}: ∀(t:Ty) {x:t.D} {r ps:List ο},bT S w t r x->oV S w t.sj r ps->bN (VR g m S w) (GV t x) ps:=by
 intro t;cases hp:t.uI with
 |false=>
  intro x r ps o h;rw [Ty.xc hp] at h;rw [Co hp]
  match ps,h with
  |[p],⟨⟨I,J,R,T⟩,_⟩=>
   exact ⟨⟨I,r,by rw [J];simp [abF],R,λj u U=>T j u (by rw [aaw (aeI (abA t r x o))];exact U),o⟩,trivial⟩
 |true=>
  induction t with
  |pair a b _ aa=>
   intro x r ps o h;obtain ⟨c1,c2,e,h1,h2⟩:=o;subst e;have hl:=abA a c1 _ h1
   match ps,h with
   |p::ps,⟨⟨I,J,R,T⟩,o⟩=>
    refine ⟨⟨I,c1,by rw [J];simp [abF],R,λj u U=>T j u ?_,h1⟩,?_⟩;rw [ab1 (by omega),aaw (by omega)];exact U;rw [<-hl,agp] at o;cases hb:b.uI with
    |true=>exact aa hb h2 o
    |false=>
     rw [Ty.xc hb] at o;show bN (VR g m S w) (GV b x.2) ps;rw [Co hb]
     match ps,o with
     |[p],⟨⟨I,J,R,T⟩,_⟩=>
      exact ⟨⟨I,c2,by rw [J];simp [abF],R,λj u U=>T j u (by rw [aaw (aeI (abA b c2 _ h2))];exact U),h2⟩,trivial⟩
  |_=>cases hp
theorem Iu {α:Type}(f:α->ο)(xs:Array α)(v:ο):xs.map f++ #[v]=(xs.toList.map f++[v]).toArray:=by
 apply aaU;simp
theorem zJ {h:Hint}{o:Ϥ}{e:cB}(I:cG cx g st a w)(hw:fe st.mem e.new)(p:wc cx.P st.fr st.mem st.nx h o=some e)(hc:bU e.cond):q8 cx st a w o e:=by
 unfold wc at p;split at p
 ·rename_i x R;split at p
  ·rename_i v hv;exact q8.pure I (by simp only [execOp,R]) (bE p) (cc I hv)
  ·cases p
 ·rename_i x R;split at p
  ·rename_i v hv;exact q8.pure I (by simp only [execOp,R]) (bE p) (cc I hv)
  ·cases p
 ·rename_i c x y R;split at p
  ·rename_i b Ob;split at p
   ·rename_i v hv;have e1:=ow (g:=g) (m:=st.mem) (S:=cx.safe g st.mem w) (w:=w) (cc I Ob);exact q8.pure I (by simp only [execOp,R,e1,asBool];cases b<;>rfl) (bE p) (cc I hv)
   ·cases p
  ·cases p
 ·rename_i T R;split at p
  ·exact (yM I hw p).gr (by simp only [execOp,R])
  ·exact (Ag I hw p).gr (by simp only [execOp,R])
 ·rename_i T x R;split at p
  ·rename_i v hv;split at p
   ·exact (BS (T:=T) I hw p (cc I hv)).gr (by simp only [execOp,R])
   ·exact (DR (T:=T) I hw p (cc I hv)).gr (by simp only [execOp,R])
  ·cases p
 ·rename_i T parts R;split at p
  ·rename_i vs ab;have:=Af (P:=cx.P) (g:=g) (m:=st.mem) (S:=cx.safe g st.mem w) (w:=w) (vparts:=parts.map λ(i,x)=>(i,a.eval x)) p (by simpa using uJ I ab);exact (this.runs I).gr (by simp only [execOp,R])
  ·cases p
 ·rename_i T len parts R;split at p
  ·rename_i t vs ab;have:=yY (vparts:=parts.map λ(i,x)=>(i,a.eval x)) I hw p (by simpa using uJ I ab);exact this.gr (by simp only [execOp,R])
  ·rename_i t vs ab;have:=sR (vparts:=parts.map λ(i,x)=>(i,a.eval x)) I p (by simpa using uJ I ab);exact this.gr (by simp only [execOp,R])
  ·rename_i vs ab;have:=Am (vparts:=parts.map λ(i,x)=>(i,a.eval x)) I p (by simpa using uJ I ab);exact this.gr (by simp only [execOp,R])
  ·cases p
 ·rename_i T x R;split at p
  ·rename_i v hv;exact (Ay I hw p hc (cc I hv)).gr (by simp only [execOp,R])
  ·cases p
 ·rename_i T x y R;split at p
  ·rename_i xv yv hx hy;exact (yW I hw p hc (cc I hx) (cc I hy)).gr (by simp only [execOp,R])
  ·cases p
 ·rename_i x R;split at p
  ·rename_i v hv;have Cq:=cc I hv;unfold Oy at p;split at p
   ·obtain ⟨_,b,_,e1⟩:=Cq;exact q8.pure I (by simp [execOp,R,e1];rfl) (bE p) (by rw [<-e1];exact cc I hv)
   ·obtain ⟨ad,es,e1,_⟩:=Cq;exact q8.pure I (by simp [execOp,R,e1];rfl) (bE p) (by rw [<-e1];exact cc I hv)
   ·obtain ⟨_,b,_,e1⟩:=Cq;exact q8.pure I (by simp [execOp,R,e1];rfl) (bE p) (by rw [<-e1];exact cc I hv)
   ·obtain ⟨_,b,e1,_⟩:=Cq;exact q8.pure I (by simp [execOp,R,e1];rfl) (bE p) (by rw [<-e1];exact cc I hv)
   ·cases p
  ·cases p
 ·rename_i op T x y T' R;split at p
  ·rename_i xv yv hx hy;obtain ⟨r,w',k3,k4⟩:=B9 I p hc (cc I hx) (cc I hy);refine .inl ⟨r,w',?_,k4⟩;have hg:=Cn (xo:=x) (yo:=y) (w':=w) p (cc I hx) (cc I hy);simp only [execOp,R,Ϙ,hg,ϋ,k3,ϳ]
  ·cases p
 ·rename_i op T x R;split at p
  ·rename_i v hv;exact ((D6 p (cc I hv)).runs I).gr (by simp only [execOp,R])
  ·cases p
 ·rename_i T U x R;split at p
  ·rename_i v hv;exact (vP I hw p hc (cc I hv)).gr (by simp only [execOp,R])
  ·cases p
 ·rename_i T l c R;split at p
  ·rename_i t lv cv hl Ob;exact (uD I hw p hc (cc I hl) (cc I Ob)).gr (by simp only [execOp,R])
  ·cases p
 ·rename_i T x lo hi R;split at p
  ·rename_i v l h' hv hl hh;exact ((Ad I.mem p hc (cc I hv) (AB I hl) (AB I hh)).runs I).gr (by simp only [execOp,R];rfl)
  ·cases p
 ·rename_i T x lo hi q R;split at p
  ·rename_i v l h' r hv hl hh hq;exact ((yR p hc (cc I hv) (AB I hl) (AB I hh) (mx:=some r) (qv:=some (a.eval q)) (cc I hq)).runs I).gr (by simp only [execOp,R];rfl)
  ·cases p
 ·rename_i T x f R;split at p
  ·rename_i v hv;exact ((uB p (cc I hv)).runs I).gr (by simp only [execOp,R])
  ·cases p
 ·rename_i T x i R;split at p
  ·rename_i v j hv hj;exact ((tE I.mem p hc (cc I hv) (cc I hj)).runs I).gr (by simp only [execOp,R])
  ·cases p
 ·rename_i T x i R;split at p
  ·rename_i v j hv hj;exact ((AD p hc (cc I hv) (cc I hj)).runs I).gr (by simp only [execOp,R])
  ·cases p
 ·rename_i x i R;split at p
  ·rename_i v hv;exact ((wL p (cc I hv)).runs I).gr (by simp only [execOp,R])
  ·cases p
 ·rename_i f first aa R
  split at p
  ·rename_i vs ab;cases Vl:first.isEmpty with
   |false=>rw [Vl] at p;cases p
   |true=>
    rw [Vl] at p;simp only [cond_true] at p;have TY:first= #[]:=by simpa using Vl
    subst TY;split at p
    ·have gx:=qk I ab;have hcap:aa.map a.eval=(aa.toList.map a.eval).toArray:=by apply aaU;rw [aaX]
     unfold X2 at p;split at p
     ·rename_i d hd;obtain ⟨us,k1,k2⟩:=Cp hd gx;exact q8.pure I (val:= .func (.func f) #[] (aa.map a.eval)) (by simp [execOp,R,af8]) (bE p) ⟨us,_,by rw [hcap],k1,k2⟩
     ·cases p
    unfold RJ at p;split at p
    ·rename_i t x;have gx:=qk I ab;have hcap:aa.map a.eval=(aa.toList.map a.eval).toArray:=by apply aaU;rw [aaX]
     cases mZ:aa.toList.map a.eval with
     |nil=>rw [mZ] at gx;exact gx.elim
     |cons u r=>
      rw [mZ] at gx;cases r with
      |cons=>exact gx.2.elim
      |nil=>
       obtain ⟨ad,es,e1,Iv,gF,lh⟩:=gx.1;have e2:ad.add 0=ad:=by simp [abF]
       rw [e2] at e1;exact q8.pure I (val:= .func (.func f) #[] (aa.map a.eval)) (by simp [execOp,R,af8]) (bE p) ⟨ad,es,by rw [hcap,mZ,e1],Iv,gF,lh⟩
    ·cases p
  ·cases p
 ·rename_i c R;split at p
  ·rename_i b hb;have sS: ∀(consts:Array Bool),resolve a.eval c o.type=pure {target:= .builtin b c.argTypes o.type (c.args.map fun| .const _=>true|_=>false),args:=c.args.map a.eval}:=λ_=>by
    unfold resolve;rw [hb];rfl
   have J: ∀l,c.args.toList=l->c.args.map a.eval=(l.map a.eval).toArray:=λl hl=>by
    subst hl;apply aaU;rw [aaX]
   have GX: ∀l,c.argTypes.toList=l->c.argTypes=l.toArray:=λl hl=>by subst hl;rfl
   unfold pM at p;split at p
   ·rename_i x T rN Ln;split at p
    ·rename_i v hv;have Cq:=cc I hv;have hg:bF cx.P g st.mem (cx.safe g st.mem w) w (Builtin.len_ #[T] o.type #[a.eval x]) e:=by
      unfold Cj at p;split at p
      ·rename_i s hu;refine me (T:=T) I.mem (by simp [DL,hu]) p Cq rfl (λ_ _=>hu) (λa' n c' e'=> ?_);have:=lj (g:=g) (m:=st.mem) (S:=cx.safe g st.mem w) (w:=w) Cq;rw [this] at e';cases e'
      ·rename_i el t xs hu;refine me (T:=T) I.mem (by simp [DL,hu]) p Cq rfl (λs e'=> ?_) (λ_ _ _ _=>⟨el,hu⟩);obtain ⟨a',cap,e1,_⟩:=Cq;have e1:a.eval x= .slice a' (ζ xs) cap:=by simpa using e1
       rw [e1] at e';cases e'
      ·rename_i el c' hu;refine me (T:=T) I.mem (by simp [DL,hu]) p Cq rfl (λs e'=> ?_) (λ_ _ _ _=>⟨el,hu⟩);have sq: ∀t xs,du st.mem c' t xs->False:=λt xs hl=>by
        have hx:=Cq.2.2 t xs hl;unfold iS at hx;cases hg:g c' with
        |none=>rw [hg] at hx;obtain ⟨a',ha⟩:=hx;rw [ha] at e';cases e'
        |some b=>rw [hg] at hx;obtain ⟨cap,arr,ha,_⟩:=hx;rw [ha] at e';cases e'
       unfold sI at p;simp only at p;split at p
       ·rename_i t xs hl;exact (sq t xs (.inl hl)).elim
       ·rename_i t xs i cs ks hl;exact (sq t xs (.inr ⟨i,cs,ks,hl⟩)).elim
       ·cases p
      ·rename_i el c' off len hu;refine me (T:=T) I.mem (by simp [DL,hu]) p Cq rfl (λs e'=> ?_) (λ_ _ _ _=>⟨el,hu⟩);unfold sI at p;simp only at p;split at p
       ·rename_i t xs hl;obtain ⟨_,hx⟩:=Cq.2.2 t xs (.inl hl);rcases hx with ⟨_,_,a',ha⟩|⟨b,cap,arr,_,ha,_⟩
        ·rw [ha] at e';cases e'
        ·rw [ha] at e';cases e'
       ·cases p
      ·rename_i el c' i o hu;refine me (T:=T) I.mem (by simp [DL,hu]) p Cq rfl (λs e'=> ?_) (λ_ _ _ _=>⟨el,hu⟩);unfold sI at p;simp only at p;split at p
       ·rename_i t xs hl;split at p
        ·rename_i e2 ys KN;have hx:=(Cq.2.2 t xs hl).2 e2 ys KN;unfold iS at hx;cases hg:g.f c' [i,o] with
         |none=>rw [hg] at hx;obtain ⟨a',ha⟩:=hx;rw [ha] at e';cases e'
         |some b=>rw [hg] at hx;obtain ⟨cap,arr,ha,_⟩:=hx;rw [ha] at e';cases e'
        ·cases p
       ·cases p
      ·rename_i el hu;refine me (T:=T) I.mem (by simp [DL,hu]) p Cq rfl (λs e'=> ?_) (λ_ _ _ _=>⟨el,hu⟩);obtain ⟨a',ha⟩:=Cq;rw [ha] at e';cases e'
      ·cases p
     refine (hg.runs I).gr ?_;simp only [execOp,R,sS #[],J _ rN,GX _ Ln];rfl
    ·cases p
   ·rename_i s x T T' rN Ln;split at p
    ·rename_i t sv xv Om Li;refine (xb (ty:=o.type) I hw p hc (cc I Om) (cc I Li)).gr ?_;simp only [execOp,R,sS #[],J _ rN,GX _ Ln];rfl
    ·rename_i sv xv Om Li;refine (wW (ty:=o.type) I hw p hc (cc I Om) (cc I Li)).gr ?_;simp only [execOp,R,sS #[],J _ rN,GX _ Ln];rfl
    ·rename_i t sv xv Om Li;refine (wY (ty:=o.type) I hw p hc (cc I Om) (cc I Li)).gr ?_;simp only [execOp,R,sS #[],J _ rN,GX _ Ln];rfl
    ·cases p
   ·rename_i x y _ rN;split at p
    ·rename_i xv yv hx hy;split at p
     ·rename_i e' hf;injection p with p;subst p;refine ((zC (Ts:=c.argTypes) (T:=o.type) hf hc (cc I hx) (cc I hy)).runs I).gr ?_;simp only [execOp,R,sS #[],J _ rN];rfl
     ·refine ((DP (Ts:=c.argTypes) (T:=o.type) p (cc I hx) (cc I hy)).runs I).gr ?_;simp only [execOp,R,sS #[],J _ rN];rfl
    ·cases p
   ·rename_i x y z _ rN;split at p
    ·rename_i xv yv zv hx hy hz;refine ((Ck (Ts:=c.argTypes) (T:=o.type) p (cc I hx) (cc I hy) (cc I hz)).runs I).gr ?_;simp only [execOp,R,sS #[],J _ rN];rfl
    ·cases p
   ·rename_i x y _ rN;split at p
    ·rename_i xv yv hx hy;split at p
     ·rename_i e' hf;injection p with p;subst p;refine ((zC (Ts:=c.argTypes) (T:=o.type) hf hc (cc I hx) (cc I hy)).runs I).gr ?_;simp only [execOp,R,sS #[],J _ rN];rfl
     ·refine ((DQ (Ts:=c.argTypes) (T:=o.type) p (cc I hx) (cc I hy)).runs I).gr ?_;simp only [execOp,R,sS #[],J _ rN];rfl
    ·cases p
   ·rename_i x y T T' rN Ln;split at p
    ·rename_i xv yv hx hy;refine (Ch (T':=T') (ty:=o.type) I p (cc I hx) (cc I hy)).gr ?_;simp only [execOp,R,sS #[],J _ rN,GX _ Ln];rfl
    ·cases p
   ·rename_i x T rN Ln;split at p
    ·rename_i el hv hu;obtain ⟨ad,e1⟩:=cc I hv;have hg:bF cx.P g st.mem (cx.safe g st.mem w) w (af9 #[T] o.type #[a.eval x]) e:=by
      refine bF.mk (bE p) (r:= .int .i64 0) ?_ rfl;rw [e1];simp [af9,run_underlying hu,goInt]
     refine (hg.runs I).gr ?_;simp only [execOp,R,sS #[],J _ rN,GX _ Ln];rfl
    ·cases p
   ·cases p
  ·rename_i f hf;split at p
   ·rename_i ms rs outs k vs hk ab;have yI:a.eval f= .func (.func k) #[] #[]:=cc I hk;obtain ⟨⟨fn,c1,c2,c3⟩,xd⟩:=qW I hw p hc (qk I ab);refine .inr (.inr ⟨k,(c.args.toList.map a.eval).toArray,?_,xd⟩);have J:c.args.map a.eval=(c.args.toList.map a.eval).toArray:=by apply aaU;rw [aaX]
    simp only [execOp,R,resolve,hf,yI,aaN,Ϙ,ϳ,ϋ,invoke,callFunc,run_program,c1];simp only [c2,c3,J];simp
   ·rename_i ms rs outs k t x vs hk ab;obtain ⟨ad,es,yI,Iv,gF,lh⟩:=cc I hk;have OA:bN (VR g st.mem (cx.safe g st.mem w) w) (vs++[.one (.ip t x 0)]) (c.args.toList.map a.eval++[.pointer (some ad)]):=
     bN.append (qk I ab) (Oz ⟨ad,es,yI,Iv,gF,lh⟩ yI)
    obtain ⟨⟨fn,c1,c2,c3⟩,xd⟩:=qW I hw p hc OA;refine .inr (.inr ⟨k,(c.args.toList.map a.eval++[Value.pointer (some ad)]).toArray,?_,xd⟩);have J:c.args.map a.eval++ #[Value.pointer (some ad)]=(c.args.toList.map a.eval++[Value.pointer (some ad)]).toArray:=Iu a.eval c.args _;simp only [execOp,R,resolve,hf,yI,aaN,Ϙ,ϳ,ϋ,invoke,callFunc,run_program,c1];simp only [c2,c3,ae3,J];simp
   ·rename_i ms rs outs k t x vs hk ab;obtain ⟨us,ps,yI,lh,Vm⟩:=cc I hk;have yI:a.eval f= .func (.func k) #[] ps.toArray:=by simpa using yI
    have OA:bN (VR g st.mem (cx.safe g st.mem w) w) (vs++GV t x) (c.args.toList.map a.eval++ps):=
     bN.append (qk I ab) (It t lh Vm)
    obtain ⟨⟨fn,c1,c2,c3⟩,xd⟩:=qW I hw p hc OA;refine .inr (.inr ⟨k,(c.args.toList.map a.eval++ps).toArray,?_,xd⟩);have J:c.args.map a.eval++ps.toArray=(c.args.toList.map a.eval++ps).toArray:=by apply aaU;simp
    simp only [execOp,R,resolve,hf,yI,aaN,Ϙ,ϳ,ϋ,invoke,callFunc,run_program,c1];simp only [c2,c3,ae3,J];simp
   ·rename_i k fk n hk ab;split at p
    ·rename_i ik hu;have yI:a.eval f= .func (.func k) #[] #[]:=cc I hk;have OA:bN (VR g st.mem (cx.safe g st.mem w) w) [.one (.bp (.dB fk) n)] (c.args.toList.map a.eval):=qk I ab;have J:c.args.map a.eval=(c.args.toList.map a.eval).toArray:=by apply aaU;rw [aaX]
     generalize c.args.toList.map a.eval=vals at*
     match vals,OA with
     |[xa],OA=>
      obtain ⟨b,rfl,hb⟩:=o9 (g:=g) (m:=st.mem) (S:=cx.safe g st.mem w) (w:=w) OA.1;obtain ⟨hp,Gt⟩:=cT p;rw [Gt] at hc;have Vn:FJ cx.P k fk ik:=hc.1;have iH:n≠GH fk:=hc.2.1;have Zd:b=n:=by
       cases fk with
       |f32=>
        rw [D4] at hb;split at hb
        ·exact absurd hb.symm iH
        ·exact hb
       |f64=>
        rw [D5] at hb;split at hb
        ·exact absurd hb.symm iH
        ·exact hb
      subst Zd;refine .inl ⟨.int ik b,w,?_,g,?_,?_⟩
      ·simp only [execOp,R,resolve,hf,yI,aaN,Ϙ,ϳ,ϋ,invoke,J];simpa using Vn b w
      ·rw [hp.1,hp.2.1];exact I
      ·rw [hp.1,hp.2.1,hp.2.2];exact rfl
    ·cases p
   ·cases p
  ·cases p
 ·cases p
end
end Go.Ide
