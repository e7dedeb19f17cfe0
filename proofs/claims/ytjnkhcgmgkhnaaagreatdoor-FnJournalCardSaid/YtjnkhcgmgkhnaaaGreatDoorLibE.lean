import Derived.Test.YtjnkhcgmgkhnaaaGreatDoorJournalShelf
import Derived.Shelf.GgSortFunc.InsertionK
set_option linter.all false
open Array renaming getElem?_modify→aa5,getElem?_append_left→abz
open Go.Sort renaming grow→acG
open List renaming getElem?_eq_getElem→Γ,size_toArray→abG
open Option renaming map_some→afV
namespace Go.Ide
open Go.Sort Go.Proofs
abbrev T4:Ty:= .st (.pair (.int .i64) (.pair (.int .i64) (.pair (.int .i64) (.int .i64))))
def e4 (x:Int×Int×Int×Int):List Value:=[.int .i64 x.1,.int .i64 x.2.1,.int .i64 x.2.2.1,.int .i64 x.2.2.2]
theorem Xc {S:Nat->Prop}{w:World}{cs:List Value}{x:Int×Int×Int×Int}(h:cn S w T4 cs x):cs=e4 x:=by
 obtain ⟨t,c2,e,j,I,d2,J,o,R,T,U,p,r⟩:=h;have j:t=[.int .i64 x.1]:=j;have o:I=[.int .i64 x.2.1]:=o;have p:R=[.int .i64 x.2.2.1]:=p;have r:T=[.int .i64 x.2.2.2]:=r;subst j o p r U J e;rfl
theorem TA {S:Nat->Prop}{w:World}(x:Int×Int×Int×Int):cn S w T4 (e4 x) x:=
 ⟨[.int .i64 x.1],_,rfl,rfl,[.int .i64 x.2.1],_,rfl,rfl,[.int .i64 x.2.2.1],_,rfl,rfl,rfl⟩
theorem j6 (xs:List (Int×Int×Int×Int))(i j:Nat)(o:i<xs.length)(p:j<4):(flatK e4 4 xs.toArray)[i*4+j]! =(e4 xs[i])[j]! :=by
 rw [get_flatK _ _ _ _ (by rw [abG];omega),show (i*4+j)/4=i by omega,show (i*4+j)%4=j by omega,getElem!_pos xs.toArray i (by simpa using o)];simp
theorem Mr {P:Program}{f gc:FuncId}{xs ys:List (Int×Int×Int×Int)}(Pz:kx P f)(r:ys.length=xs.length)(Ze:xs.length<4611686018427387904)(h0:xs=[]-> ∀(p:Option Addr) (cap:Nat) (w:World),Calls P f #[.slice p 0 cap,.func (.func gc) #[] #[]] w λe w'=>e= .returned (.tuple #[])/\w'=w)(h1: ∀(b cap:Nat) (w:World),HoldsK e4 4 w b 0 xs.toArray->b<w.heap.size->Calls P f #[.slice (some ⟨b,0,none⟩) xs.toArray.size cap,.func (.func gc) #[] #[]] w λe w'=>e= .returned (.tuple #[])/\ ∃n os,w'=sortWorldK e4 4 w b 0 n ys.toArray os):
 CallOK P f [.own (.sl T4) xs,.fn gc] [] [⟨.sl T4,ys⟩]:=by
 refine ⟨Pz,λw S vals As F hB hI hS RM o hgl=> ?_⟩
 match vals,As,o with
 |v::v1::[],A::A1::[],o=>
  obtain ⟨⟨cs,k1,uB⟩,⟨e1,g1⟩,_⟩:=o;have k1:cs=[v]:=k1;subst g1 e1;have nil: ∀w',vi [] []/\pM ([]:List (List Nat->Option Nat))/\Es (je S w w' []) w' [] (.tuple #[]) []/\ ∀b,b∈([]:List Nat)->(w.heap.size<=b\/um b [.own (.sl T4) xs,.fn gc] [A,[]])/\b<w'.heap.size:=λw'=>
   ⟨λb=>by simp,⟨List.Pairwise.nil,λγ R=>by simp at R⟩,⟨[],rfl,rfl⟩,λb hb=>by simp at hb⟩
  rcases uB with ⟨eA,I,a,ea⟩|⟨u,γ,eA,hu,b,cap,arr,R,rfl,hl,zT,hb,nK,U8,sh⟩
  have I:xs=[]:=I;rw [k1] at ea;injection ea with ea;subst ea
  have hy:ys=[]:=List.eq_nil_of_length_eq_zero (by rw [r,I];rfl);refine (h0 I a 0 w).mono λe w' ⟨he,J⟩=> ?_;subst J;obtain ⟨n1,n2,n3,n4⟩:=nil w';exact ⟨_,[],[],he,n1,n2,n3,n4,bU.refl _ _,⟨rfl,_,k1,.inl ⟨eA,hy,a,k1⟩,cL.top rfl (show xs.length=ys.length from r.symm)⟩,trivial⟩;rw [k1] at hu;injection hu with hu;subst hu
  have hl:xs.length<=cap:=hl;have nK:cap*4<=arr.size:=nK;have fC: ∀i (hi:i<xs.length) j,j<4->arr[i*4+j]? =some (e4 xs[i])[j]! :=λi hi j hj=>by
   obtain ⟨es,q1,q2⟩:=sh i hi;have q2:cn S w T4 es xs[i]:=q2;have:=Xc q2;subst this;have q:=q1 j (e4 xs[i])[j]! (by rw [Γ (by show j<4;exact hj),getElem!_pos (e4 xs[i]) j (by show j<4;exact hj)]);exact q
  have hH:HoldsK e4 4 w b 0 xs.toArray:=λk hk=>by
   rw [size_flatK,abG] at hk;rw [Nat.zero_add];have e:k=k/4*4+k%4:=by omega
   have h4:=fC (k/4) (by omega) (k%4) (by omega);rw [<-e] at h4;have h5:=j6 xs (k/4) (k%4) (by omega) (by omega);rw [<-e] at h5;exact ⟨by rw [hb.cell,h4];show _=some (flatK e4 4 xs.toArray)[k]!;rw [h5],hb.OE (by omega)⟩
  obtain ⟨T,lo,Ca,t,ub⟩:=hb;have TB:b<w.heap.size:=(Array.getElem?_eq_some_iff.1 t).1;have hk:=h1 b cap w hH TB;rw [abG] at hk;have Gc:b∈F:=(hB b).2 ⟨γ,by rw [eA];simp,[],R⟩;refine hk.mono λe w' ⟨he,n,os,J⟩=> ?_;obtain ⟨n1,n2,n3,n4⟩:=nil w';generalize SQ:flatK e4 4 ys.toArray=fl at J;have hfs:fl.size=xs.length*4:=by rw [<-SQ,size_flatK,abG,r]
  have J:w'=acG (putRow id (Sort.ahead w n) b 0 fl) os:=by rw [J,<-SQ];rfl
  have U:w'.heap[b]? =some (.cells (putCells id 0 fl arr) T (lo,Ca)):=by
   rw [J];unfold acG putRow mapBlock;rw [abz (by simpa using TB)];simp only [heap_ahead,aa5,if_true,t,afV,onCells]
  have Ep: ∀x,x<w.heap.size->x≠b->w'.heap[x]? =w.heap[x]? :=λx hlt I=>by
   rw [J];unfold acG putRow mapBlock;rw [abz (by simpa using hlt)];simp only [heap_ahead,aa5];rw [if_neg λe=>I e.symm]
  have Tl:(putCells id 0 fl arr).size=arr.size:=by simp [putCells]
  have rj:dA w' b (putCells id 0 fl arr):=⟨T,lo,Ca,U,by rw [Tl];exact ub⟩;have TC:w.heap.size<=w'.heap.size:=by rw [J];unfold acG putRow mapBlock;simp
  refine ⟨_,[],[],he,n1,n2,n3,n4,⟨by rw [J];rfl,by rw [J];rfl,by rw [J];rfl,TC,λx I hxF=>Ep x I λe=>hxF (by rw [e];exact Gc),λx ax I=> ?_⟩,
   ⟨rfl,_,k1,.inr ⟨_,γ,eA,k1,b,cap,putCells id 0 fl arr,R,by rw [show (cR (rfl:Ty.sl T4=Ty.sl T4) ys:List _)=ys from rfl,r],(by show ys.length<=cap;omega),zT,rj,(by rw [Tl];exact nK),U8,λi hi=> ?_⟩,cL.top rfl (show xs.length=ys.length from r.symm)⟩,trivial⟩
  by_cases e:x=b;subst e;have:ax=arr:=by
   obtain ⟨T2,lo2,UQ,h2,_⟩:=I;rw [t] at h2;injection h2 with h2;injection h2 with h2;exact h2.symm
  subst this;exact ⟨_,rj,Tl⟩;exact ⟨ax,I.bJ (Ep x I.lt e),rfl⟩;have hi:i<ys.length:=hi;refine ⟨e4 ys[i],λj u hj=> ?_,TA ys[i]⟩;have Xd:j<4:=(List.getElem?_eq_some_iff.1 hj).1;have e:i*Ty.size T4+j=i*4+j:=rfl;rw [e];unfold putCells;rw [Array.getElem?_mapIdx,Array.getElem?_eq_getElem (by omega),afV,if_pos ⟨by omega,by omega⟩,Nat.sub_zero,<-SQ,id,j6 ys i j hi Xd,getElem!_pos (e4 ys[i]) j Xd];rw [Γ Xd] at hj;exact hj
 |[],[],o=>exact o.elim
 |[],_::_,o=>exact o.elim
 |_::_,[],o=>exact o.elim
 |[_],[_],o=>exact absurd o (by rintro ⟨_,h⟩;exact h.elim)
 |[_],_::_::_,o=>exact absurd o (by rintro ⟨_,h⟩;exact h.elim)
 |_::_::_,[_],o=>exact absurd o (by rintro ⟨_,h⟩;exact h.elim)
 |_::_::[],_::_::_::_,o=>exact absurd o (by rintro ⟨_,_,h⟩;exact h.elim)
 |_::_::_::_,_::_::[],o=>exact absurd o (by rintro ⟨_,_,h⟩;exact h.elim)
 |_::_::_::_,_::_::_::_,o=>exact absurd o (by rintro ⟨_,_,h⟩;exact h.elim)
end Go.Ide
