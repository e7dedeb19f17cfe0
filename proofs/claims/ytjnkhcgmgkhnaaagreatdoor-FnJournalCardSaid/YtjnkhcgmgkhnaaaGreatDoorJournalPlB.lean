import Derived.Test.YtjnkhcgmgkhnaaaGreatDoorJournalPlA
import Derived.Lib.SplitLaws
import Derived.Lib.ItoaLen
import Derived.Lib.CutLaws
import Derived.Lib.Join
import Derived.Lib.ParseIntBTie
set_option linter.all false
open Bool renaming and_eq_true→κ,not_true→ϔ,not_eq_true'→aag,not_false→acO,and_self→ac8
open Go renaming Found→afU
open Go.Lib renaming itoa→ϡ,contains→acL,cut→adB
open Go.Proofs.CS renaming inl→agt
open Go.Proofs.bu renaming some→ι,bind→χ,guard→Ζ,rounds→Ϸ
open Int renaming toNat→δ,toNat_natCast→Α,le_refl→Ϫ,toNat_of_nonneg→aai,ofNat_le→ahY,mul_one→ah4
open List renaming getD→ε,length→ζ,length_append→ξ,replicate→υ,getD_eq_getElem?_getD→ψ,getElem?_eq_getElem→Γ,length_cons→Η,getElem?_append_right→Κ,mem_append→Λ,length_nil→Χ,mem_singleton→ϊ,append_assoc→ό,mem_cons_of_mem→ύ,length_take→ώ,mem_cons→ϖ,length_replicate→ϗ,length_set→ϙ,take→ϛ,length_map→Ϝ,mem_map→Ϣ,append_nil→ϲ,take_of_length_le→ϳ,length_drop→϶,getElem?_eq_none→aab,take_length→aan,take_append_drop→aaC,getElem_of_mem→aaV,mem_or_eq_of_mem_set→aa4,map_append→aa6,range→abD,drop_eq_getElem_cons→abJ,eq_of_mem_replicate→abT,mem_range→ab7,mem_append_right→adj,mem_of_mem_take→ado,drop_eq_nil_of_le→adq,mem_append_left→adr,getElem_map→aes,take_left→aex,nodup_append→afW,take_append→agu,take_take→agZ
open Nat renaming le_refl→ς,mul_le_mul_right→Τ,le_of_ble_eq_true→ϑ,add_mul→ϓ,zero_le→ϟ,le_trans→ϫ,add_zero→Ϭ,lt_or_ge→aam,min_eq_left→aas,mul_comm→aaB,mul_le_mul→aaZ,mod_eq_of_lt→abk,div_eq_of_lt→aee,one_mul→aeg,mul_add_div→aep,mul_add_mod→aeq,one_le_two_pow→agc,sub_self→ahP
open Option renaming bind_some→η
namespace Go.Proofs
open Go.Ide Go.IntWalk
theorem yQ {n:Nat}(j:1<=n)(o:n<=64):lf (n:Int)=some (υ n (-1)):=by
 unfold lf;rw [yP j o];rfl
theorem BS {n:Nat}(j:1<=n)(o:n<=64):bu (λr=>r.length=n/\ ∀y∈r,-1<=y/\y<1099511627776) (lf (n:Int)):=
 ⟨_,yQ j o,ϗ,λy p=>by rw [abT p];omega⟩
def tP (n:Nat)(rs:List Q4)(p cs:List Int)(k:Nat):Prop:= ∃j:Nat->Nat,∀s,s<n->0<=cs.getD s 0->j s<k/\(0<=p.getD s 0/\p.getD s 0<bn rs)/\
 (0<=(rs.getD (p.getD s 0).toNat (0,0,0,0)).2.2.1->(0<=cs.getD (δ (rs.getD (p.getD s 0).toNat (0,0,0,0)).2.1) 0/\j (δ (rs.getD (p.getD s 0).toNat (0,0,0,0)).2.1)<j s)/\
  0<=cs.getD (δ (rs.getD (p.getD s 0).toNat (0,0,0,0)).2.2.1) 0/\j (δ (rs.getD (p.getD s 0).toNat (0,0,0,0)).2.2.1)<j s)
theorem yR {α:Type}{xs:List α}{i j:Nat}{v d:α}(o:i<xs.length):(xs.set i v).getD j d=if i=j then v else xs.getD j d:=by
 rw [ψ,ψ,List.getElem?_set];by_cases e:i=j;subst e;simp [o];simp [e]
theorem tP.set {n:Nat}{rs:List Q4}{p cs:List Int}{k k2 o:Nat}{b v:Int}(h:tP n rs p cs k)(hk:k<k2)(hp:o<p.length)(hc:o<cs.length)(hx:cs.getD o 0<0)(hb:0<=b/\b<bn rs)(R:0<=(rs.getD b.toNat (0,0,0,0)).2.2.1->(δ (rs.getD b.toNat (0,0,0,0)).2.1<n/\0<=cs.getD (δ (rs.getD b.toNat (0,0,0,0)).2.1) 0)/\δ (rs.getD b.toNat (0,0,0,0)).2.2.1<n/\0<=cs.getD (δ (rs.getD b.toNat (0,0,0,0)).2.2.1) 0):
 tP n rs (p.set o b) (cs.set o v) k2:=by
 obtain ⟨rk,T⟩:=h;have up: ∀j,0<=cs.getD j 0->o≠j/\(cs.set o v).getD j 0=cs.getD j 0:=λj hj=>by
  have e:o≠j:=λe=>by subst e;omega
  exact ⟨e,by rw [yR hc,if_neg e]⟩
 refine ⟨λs=>if s=o then k else rk s,λs hs h0=> ?_⟩;rw [yR hp];by_cases e:o=s;subst e;simp only [if_true,if_pos rfl];refine ⟨hk,hb,λq=> ?_⟩;obtain ⟨⟨I,r⟩,J,t⟩:=R q;obtain ⟨U,u2⟩:=up _ r;obtain ⟨u3,u4⟩:=up _ t;rw [u2,u4,if_neg (λe=>U e.symm),if_neg (λe=>u3 e.symm)];exact ⟨⟨r,(T _ I r).1⟩,t,(T _ J t).1⟩;rw [yR hc,if_neg e] at h0;obtain ⟨r1,r2,r3⟩:=T s hs h0;have e': ¬s=o:=λq=>e q.symm;simp only [if_neg e,if_neg e'];refine ⟨by omega,r2,λq=> ?_⟩;obtain ⟨⟨I,r⟩,J,t⟩:=r3 q;obtain ⟨U,u2⟩:=up _ I;obtain ⟨u3,u4⟩:=up _ J;rw [u2,u4,if_neg (λe=>U e.symm),if_neg (λe=>u3 e.symm)];exact ⟨⟨I,r⟩,J,t⟩
section
variable {n c:Nat} {rs:List Q4} (h:rU n c rs)
include h
def rf (n:Nat)(cs:List Int):Prop:=cs.length=n/\ ∀y∈cs,-1<=y/\y<1099511627776
theorem vG {cs:List Int}(j:rf n cs){i:Nat}: -1<=cs.getD i 0/\cs.getD i 0<1099511627776:=by
 by_cases o:i<cs.length;exact j.2 _ (cf o);rw [ψ,aab (by omega)];exact ⟨by decide,by decide⟩
theorem sP {r:Q4}(j:ra n c r):(0<=r.1/\r.1<(n:Int))/\(0<=r.2.2.1->(0<=r.2.1/\r.2.1<(n:Int))/\r.2.2.1<(n:Int)):=by
 obtain ⟨o,p,J,t,R,I⟩:=j;exact ⟨o,λq=>⟨⟨t,I q⟩,p.2⟩⟩
def BT (rs:List Q4)(cs:List Int)(b v:Int):Prop:=v<=1099511627776/\(b<0\/(0<=b/\b<bn rs/\0<=v/\v<1099511627776/\cs.getD (δ (rs.getD b.toNat (0,0,0,0)).1) 0<0/\
 (0<=(rs.getD b.toNat (0,0,0,0)).2.2.1->0<=cs.getD (δ (rs.getD b.toNat (0,0,0,0)).2.1) 0/\0<=cs.getD (δ (rs.getD b.toNat (0,0,0,0)).2.2.1) 0)))
theorem Rs {p cs:List Int}(U:rf n cs):bu (λr=>BT rs cs r.1 r.2) (rounds (gD ((n:Int),(c:Int),rs) (p,cs)) ((-1:Int),(1099511627776:Int),(0:Int))):=by
 have Uz:=h.rl;have nv:=U.1;refine Ϸ (λd s=>0<=s.2.2/\s.2.2<=bn rs/\d=(bn rs - s.2.2).toNat/\BT rs cs s.1 s.2.1) (λd s hs=> ?_) (n:=rs.length) ⟨Ϫ _,by simp [bn],by simp [bn],Ϫ _,.inl (by decide)⟩;obtain ⟨b,v,t⟩:=s;obtain ⟨R,b2,b3,J⟩:=hs;have R:0<=t:=R;have b3:d=(bn rs - t).toNat:=b3;have J:BT rs cs b v:=J;unfold gD;refine bu.bif (λe=> ?_) (λ_=>ι (.inr ⟨_,rfl,J⟩));have e:t<bn rs:=of_decide_eq_true e;have T:=oC h R e;obtain ⟨g1,g2⟩:=sP h T;obtain ⟨_,_,g3,_⟩:=T;have hw:bz .i64 t 1=t+1:=eX (by simp only [bn] at e;omega);simp only;refine χ (P:=λv=>BT rs cs v.1 v.2) (Ζ ⟨R,e⟩ ?_) λv hv=>ι (.inl ⟨d - 1,_,by omega,rfl,by rw [hw];show 0<=t+1;omega,by rw [hw];show t+1<=bn rs;omega,by rw [hw];show d - 1=(bn rs - (t+1)).toNat;omega,hv⟩);have ZQ: ∀x:Int,(0<=x->x<1099511627776->(rs.getD t.toNat (0,0,0,0)).1=(rs.getD t.toNat (0,0,0,0)).1):=λ_ _ _=>rfl;generalize hr:rs.getD t.toNat (0,0,0,0)=r at g1 g2 g3⊢;refine χ (P:=λq=>q=r.2.2.1) (ι rfl) λq27 h27=>χ (P:=λq=>q=r.2.2.2) (ι rfl) λq29 h29=> ?_;subst h27 h29;refine χ (P:=λw=>match w with| .inl o=>0<=o/\(0<=r.2.2.1->0<=cs.getD (δ r.2.1) 0/\0<=cs.getD (δ r.2.2.1) 0)| .inr z=>z=(b,v)) ?_ λw j=> ?_;refine bu.bif (λI=> ?_) (λI=>ι ⟨g3.1,λq=>absurd q (by have:=of_decide_eq_false I;omega)⟩);have I:0<=r.2.2.1:=of_decide_eq_true I;obtain ⟨g4,g5⟩:=g2 I;have k1:=vG h U (i:=δ r.2.1);have k2:=vG h U (i:=δ r.2.2.1);refine χ (P:=λb=>b=false->0<=cs.getD (δ r.2.1) 0/\0<=cs.getD (δ r.2.2.1) 0) (Ζ ⟨g4.1,by simp only [bn];omega⟩ (bu.bif (λ_=>ι λq=>by cases q) λq1=>Ζ ⟨I,by simp only [bn];omega⟩ (ι λq=>⟨by have:=of_decide_eq_false q1;omega,by have:=of_decide_eq_false q;omega⟩))) λv46 h46=> ?_;refine bu.bif (λ_=>ι rfl) λe3=>Ζ ⟨g4.1,by simp only [bn];omega⟩ (Ζ ⟨I,by simp only [bn];omega⟩ (ι ?_));have:=h46 e3;refine ⟨?_,λ_=>this⟩;show 0<=bz .i64 _ (bz .i64 _ _);rw [eX (a:=cs.getD (δ r.2.1) 0) (by omega),eX (by omega)];omega;cases w with
 |inr z=>
  have j:z=(b,v):=j;subst j;exact ι J
 |inl o=>
  obtain ⟨j,hw3⟩:=j;refine χ (P:=λb=>b=true->cs.getD (δ r.1) 0<0/\o<v) (Ζ ⟨g1.1,by simp only [bn];omega⟩ (bu.bif (λq1=>ι λq2=>⟨of_decide_eq_true q1,of_decide_eq_true q2⟩) λ_=>ι λq=>by cases q)) λYu h38=> ?_;refine bu.bif (λe4=>ι ?_) λ_=>ι J;obtain ⟨q1,q2⟩:=h38 e4;have q3:=J.1;exact ⟨by show o<=_;omega,.inr ⟨R,e,j,by show o<_;omega,by rw [hr];exact ⟨q1,hw3⟩⟩⟩
theorem wx:bu (λr=>rf n r.2/\r.1.length=n/\tP n rs r.1 r.2 n) (ez ((n:Int),(c:Int),rs)):=by
 have t:=h.n1;have sU:=h.n2;unfold ez;obtain ⟨_,e0,h3⟩:=BS t (show n<=64 by omega);rw [yQ t (by omega)] at e0;cases e0;rw [yQ t (by omega),η,η];refine χ (P:=λr=>rf n r.2/\r.1.length=n/\tP n rs r.1 r.2 n) ?_ λr hr=>ι hr;refine Ϸ (λ(d:Nat) (s:List Int×List Int)=>s.1.length=n/\rf n s.2/\d=s.2.countP (λx=>decide (x<0))/\tP n rs s.1 s.2 (n - d)) (λd s R=> ?_) (n:=(υ n (-1:Int)).countP (λx=>decide (x<0))) ⟨h3.1,h3,rfl,λ_=>0,λs R h0=>by
  have:(υ n (-1:Int)).getD s 0= -1:=abT (cf (by rw [ϗ];exact R));have h0:0<=(υ n (-1:Int)).getD s 0:=h0;omega⟩
 obtain ⟨p,cs⟩:=s;obtain ⟨s1,J,s3,s4⟩:=R;have s1:p.length=n:=s1;have s4:tP n rs p cs (n - d):=s4;have J:rf n cs:=J;have s3:d=cs.countP (λx=>decide (x<0)):=s3;unfold kt;refine χ (Rs h J) λr hr=> ?_;obtain ⟨b,v⟩:=r;refine bu.bif (λ_=>ι (.inr ⟨_,rfl,J,s1,let ⟨rk,hk⟩:=s4;⟨rk,λs R h0=>have:=hk s R h0;⟨by omega,this.2⟩⟩⟩)) λe=> ?_;have e: ¬b<0:=of_decide_eq_false e;rcases hr.2 with q|⟨q1,T,q3,q4,o,q6⟩
 exact absurd q e;have q1:0<=b:=q1;have T:b<bn rs:=T;have q3:0<=v:=q3;have q4:v<1099511627776:=q4;obtain ⟨g1,g2⟩:=sP h (oC h q1 T);have hl:=J.1;generalize ZR:δ (rs.getD b.toNat (0,0,0,0)).1=U at o;have j:U<cs.length:=by omega
 have SE:(cs.set U v).countP (λx=>decide (x<0))<d:=by
  have o:=o;rw [ψ,Γ j] at o;have o:cs[U]<0:=o;rw [List.countP_set j,if_pos (by simpa using o),if_neg (by simp;omega),s3];have:0<cs.countP (λx=>decide (x<0)):=List.countP_pos_iff.2 ⟨cs[U],List.getElem_mem j,by simpa using o⟩;omega
 have U1:d<=n:=by rw [s3,<-hl];exact List.countP_le_length
 simp only;refine Ζ ⟨q1,T⟩ (Ζ ⟨g1.1,by simp only [bn];omega⟩ (Ζ ⟨g1.1,by simp only [bn];omega⟩ (ι (.inl ⟨_,_,?_,rfl,?_,⟨?_,λy I=> ?_⟩,rfl,?_⟩))));exact SE;show (p.set _ _).length=n;rw [ϙ];exact s1;show (cs.set _ _).length=n;rw [ϙ];exact hl;rcases aa4 I with I|I
 exact J.2 y I;have I:y=v:=I;rw [I];exact ⟨by omega,q4⟩;refine s4.set (show n - d<n - (cs.set U v).countP (λx=>decide (x<0)) by omega) (by omega) j o ⟨q1,T⟩ λq=> ?_;obtain ⟨g4,g5⟩:=g2 q;obtain ⟨c1,c2⟩:=q6 q;exact ⟨⟨by omega,c1⟩,by omega,c2⟩
theorem DG {r:Q4}(j:ra n c r){cs:List Int}(t:cs.length=n):bu (λb=>b=true->True) (fI (r.1,r.2.1,r.2.2.1,r.2.2.2) cs):=by
 obtain ⟨_,o⟩:=sP h j;unfold fI;refine χ (P:=λ_=>True) (bu.bif (λ_=>ι trivial) λe=> ?_) λ_ _=>ι λ_=>trivial;have e: ¬r.2.2.1<0:=of_decide_eq_false e;obtain ⟨p,I⟩:=o (by omega);refine Ζ ⟨p.1,by simp only [bn];omega⟩ (bu.bif (λ_=>Ζ ⟨by show 0<=r.2.2.1;omega,by simp only [bn];omega⟩ (ι trivial)) λ_=>ι trivial)
theorem H7: ∃out,iu ((n:Int),(c:Int),rs)=some (out,true)/\dv out=true:=by
 have hn1:=h.n1;have sU:=h.n2;have Uz:=h.rl;obtain ⟨y4,e4,h4,_⟩:=wx h;have R:=h4.1;have u2: ∀q:List Bool,q.length=n->bu (λr=>r.length=n) (rounds (kd ((n:Int),(c:Int),rs) y4) ((0:Int),q)):=by
  intro q hq;refine Ϸ (CS (bn rs) (λv=>v.length=n)) (λd s p=> ?_) (n:=rs.length) ⟨Ϫ _,by simp [bn],by simp [bn],hq⟩;obtain ⟨t,q⟩:=s;have qD:=p;obtain ⟨o,b2,b3,I⟩:=p;have o:0<=t:=o;have I:q.length=n:=I;unfold kd;refine bu.bif (λe=> ?_) (λ_=>ι (.inr ⟨_,rfl,I⟩));have e:t<bn rs:=of_decide_eq_true e;have j:=oC h o e;obtain ⟨g1,g2⟩:=sP h j;simp only;generalize rs.getD t.toNat (0,0,0,0)=r at*;refine χ (P:=λv=>v.length=n) (Ζ ⟨o,e⟩ ?_) λv J=>ι (agt (by simp only [bn];omega) qD e J);refine χ (P:=λb=>b=true->0<=r.2.2.1) (Ζ ⟨g1.1,by simp only [bn];omega⟩ (bu.bif (λ_=>bu.bif (λe2=>χ (DG h j R) λy _=>ι λ_=>of_decide_eq_true e2) λ_=>ι λq=>by cases q) λ_=>ι λq=>by cases q)) λv50 T=> ?_;refine bu.bif (λe3=> ?_) λ_=>ι I;obtain ⟨g4,g5⟩:=g2 (T e3);exact Ζ ⟨g4.1,by simp only [bn];omega⟩ (Ζ ⟨T e3,by simp only [bn,ϙ];omega⟩ (ι (by rw [ϙ,ϙ];exact I)))
 obtain ⟨Oy,e10,YJ⟩:bu (λr=>r.length=n) (rounds (ke ((n:Int),(c:Int),rs) y4) ((0:Int),(υ n false).set (δ 0) true)):=by
  refine Ϸ (CS (n:Int) (λv=>v.length=n)) (λd s p=> ?_) (n:=n) ⟨Ϫ _,by show (0:Int)<=(n:Int);omega,by simp,by simp only [ϙ,ϗ]⟩;obtain ⟨t,q⟩:=s;unfold ke;refine bu.bif (λe=> ?_) (λ_=>ι (.inr ⟨_,rfl,p.2.2.2⟩));exact χ (u2 q p.2.2.2) λv J=>ι (agt (by omega) p (of_decide_eq_true e) J)
 obtain ⟨Oz,e13,h13,U⟩:bu (λr=>r.length<=16/\ ∀x∈r,-1000<=x/\x<=1000000) (rounds (ka ((n:Int),(c:Int),rs) y4 Oy) ((0:Int),([]:List Int))):=by
  refine Ϸ (λd s=>0<=s.1/\s.1<=bn rs/\d=(bn rs - s.1).toNat/\(s.2.length:Int)<=s.1/\ ∀x∈s.2,-1000<=x/\x<=1000000) (λd s p=> ?_) (n:=rs.length) ⟨Ϫ _,by simp [bn],by simp [bn],by simp,λ_ h=>by cases h⟩;obtain ⟨t,q⟩:=s;obtain ⟨o,b2,b3,I,b5⟩:=p;have o:0<=t:=o;have b2:t<=bn rs:=b2;have b3:d=(bn rs - t).toNat:=b3;have I:(q.length:Int)<=t:=I;unfold ka;refine bu.bif (λe=> ?_) (λ_=>ι (.inr ⟨_,rfl,by simp only [bn] at b2;show q.length<=16;omega,b5⟩));have e:t<bn rs:=of_decide_eq_true e;have j:=oC h o e;obtain ⟨g1,g2⟩:=sP h j;have e16:bn rs<=16:=by simp only [bn];omega
  have hw:bz .i64 t 1=t+1:=eX (by omega);simp only;generalize rs.getD t.toNat (0,0,0,0)=r at*;refine χ (P:=λv=>(v.length:Int)<=t+1/\ ∀x∈v,-1000<=x/\x<=1000000) (Ζ ⟨o,e⟩ ?_) λv J=>ι (.inl ⟨d - 1,_,by omega,rfl,by rw [hw];show 0<=t+1;omega,by rw [hw];show t+1<=bn rs;omega,by rw [hw];show d - 1=(bn rs - (t+1)).toNat;omega,by rw [hw];exact J.1,J.2⟩);refine χ (P:=λ_=>True) (Ζ ⟨g1.1,by simp only [bn];omega⟩ (bu.bif (λ_=>χ (DG h j R) λy _=>ι trivial) λ_=>ι trivial)) λv24 _=> ?_;refine bu.bif (λ_=>Ζ (by simp only [Η,Χ];unfold bD;omega) (ι ⟨by simp;omega,ix b5 (by omega)⟩)) λ_=>ι ⟨by omega,b5⟩
 refine ⟨Oz,?_,jZ U (by omega)⟩;unfold iu;simp only [h.valid,η,ϔ,cond_false,e4,Α];rw [guard_pos (by omega),guard_pos (by simp only [bn,ϗ];omega),e10,η,e13];rfl
end
section
variable {m c:Nat} {zs:List Q4} {ss es:List Int} (h:pk m c zs ss es)
include h
theorem G4: ∃o,k9 ((m:Int),(c:Int),zs,ss,es)=some (((m:Int),(c:Int),o,es,ss),true)/\pk m c o es ss:=by
 have hz:=h.zl;have I:=h.sl;have he:=h.el;have hm:=h.m2;obtain ⟨r,e,hr,T⟩:=eG (f:=jI zs) (λi s=>(((i:Nat):Int),s)) (λ_ s=>s.length=zs.length/\ ∀r∈s,wv m c r) (λr=>r.length=zs.length/\ ∀x∈r,wv m c x) (n:=zs.length) (λi s J I=>by
  obtain ⟨U,R⟩:=I;have p:i<s.length:=by omega
  have j:=R _ (cf (d:=(0,0,0,0)) p);unfold jI;simp only [show decide ((i:Int)<bn zs)=true from kn J,cond_true,guard_pos (show (0:Int)<=(i:Int)/\(i:Int)<bn s from ⟨by omega,by simp only [bn];omega⟩),Α];rw [guard_pos (by simp only [bn,ϙ];omega),ca J (show zs.length<=4294967296 by omega)];refine ⟨_,rfl,by rw [ϙ,ϙ];exact U,λx t=> ?_⟩;have hg: ∀y:Q4,(s.set i y).getD i (0,0,0,0)=y:=λy=>by
   rw [ψ,List.getElem?_set_self p];rfl
  rcases aa4 t with t|rfl
  rcases aa4 t with t|rfl
  exact R x t;exact ⟨j.2.1,j.2.1,j.2.2.1,j.2.2.2⟩;rw [hg];exact ⟨j.2.1,j.1,j.2.2.1,j.2.2.2⟩) (λs I=>by
  unfold jI;simp only [show decide (((zs.length:Nat):Int)<bn zs)=false from ky (ς _),cond_false];exact ⟨_,rfl,I⟩) zs.length 0 zs (by omega) ⟨rfl,h.zH⟩
 have e:rounds (jI zs) ((0:Int),zs)=some r:=e;refine ⟨r,?_,⟨h.m1,h.m2,h.c1,h.c2,by omega,T,h.el,h.sl,h.ev,h.sv⟩⟩;unfold k9;simp only [h.valid,η,ϔ,cond_false,dZ (show zs.length<=1000000 by omega),dZ (show es.length<=1000000 by omega),dZ (show ss.length<=1000000 by omega),e]
end
section
variable {m c:Nat} {nx:List Int} {es:List Bool} (h:dF m c nx es)
include h
theorem toI {s a:Int}(j:0<=s/\s<(m:Int))(o:0<=a/\a<(c:Int)):bu (λt=>0<=t/\t<(m:Int)) (cP ((m:Int),(c:Int),nx,es) s a):=by
 obtain ⟨t,e,ht⟩:=KL h (s:=s.toNat) (a:=a.toNat) (by omega) (by omega);rw [aai j.1,aai o.1] at e;exact ⟨_,e,by omega,by omega⟩
theorem FJ:bu (λr=>r.length=m) (lS ((m:Int),(c:Int),nx,es)):=by
 obtain ⟨h3,h4,h5,h6,h7,h8,h9,YJ⟩:=h.facts;have T:(υ m (0:Int)).length=m:=ϗ;have k1: ∀(J:Int×List Int),J.2.length=m-> ∀I:Int×(List ((cH .i64 4).D×Int))×List Int,0<=I.1->I.1<(m:Int)-> ∀q:List Int,q.length=5->bu (λr=>r.length=5) (rounds (lP ((m:Int),(c:Int),nx,es) J I) ((0:Int),q)):=by
  intro J U I i1 i2 q hq;refine Ϸ (CS (c:Int) (λv=>v.length=5)) (λd s j=> ?_) (n:=c) ⟨Ϫ _,by show (0:Int)<=(c:Int);omega,by simp,hq⟩;obtain ⟨t,q⟩:=s;have R:0<=t:=j.1;have p:q.length=5:=j.2.2.2;unfold lP;refine bu.bif (λe=> ?_) (λ_=>ι (.inr ⟨_,rfl,p⟩));have e:t<(c:Int):=of_decide_eq_true e;have hw:bz .i64 1 t=1+t:=eX (by omega);refine χ (toI h ⟨i1,i2⟩ ⟨R,e⟩) λy hy=> ?_;simp only [hw];exact Ζ ⟨hy.1,by simp only [bn];omega⟩ (Ζ ⟨by omega,by omega⟩ (Ζ (by omega) (ι (agt (by omega) j e (by rw [ϙ];exact p)))))
 have k2: ∀(J:Int×List Int),J.2.length=m-> ∀(ns:List ((cH .i64 4).D×Int)) (q:List Int),q.length=m->bu (λr=>r.length=m) (rounds (lQ ((m:Int),(c:Int),nx,es) J) ((0:Int),ns,q)):=by
  intro J U ns q hq;refine Ϸ (λd s=>CS (m:Int) (λv=>v.length=m) d (s.1,s.2.2)) (λd s j=> ?_) (n:=m) ⟨Ϫ _,by show (0:Int)<=(m:Int);omega,by simp,hq⟩;obtain ⟨t,ns,q⟩:=s;have j:CS (m:Int) (λv=>v.length=m) d (t,q):=j;have R:0<=t:=j.1;have p:q.length=m:=j.2.2.2;unfold lQ;refine bu.bif (λe=> ?_) (λ_=>ι (.inr ⟨_,rfl,p⟩));have e:t<(m:Int):=of_decide_eq_true e;refine Ζ ⟨R,by simp only [bn];omega⟩ (χ (k1 J U (t,ns,q) R e _ rfl) λr22 h22=>Ζ h22 ?_);refine χ (P:=λ_=>True) (bu.bif (λe2=>Ζ ?_ (ι trivial)) λ_=>ι trivial) λv _=>Ζ ⟨R,by simp only [bn];omega⟩ (ι (.inl ⟨d - 1,_,(j.next (by omega) e (by rw [ϙ];exact p) (v:=q.set (δ t) v.1)).2,rfl,(j.next (by omega) e (by rw [ϙ];exact p)).1⟩));simp only;generalize cr (t:=(.st (cH .i64 4))) (u:=tI) ns (j8 .i64 4 0 r22)=o at e2⊢;cases o with
  |none=>rfl
  |some _=>cases e2
 have k3: ∀q:List Int,q.length=m->bu (λr=>r.length=m) (rounds (lR ((m:Int),(c:Int),nx,es)) ((0:Int),q)):=by
  intro q hq;refine Ϸ (CS (m:Int) (λv=>v.length=m)) (λd s j=> ?_) (n:=m) ⟨Ϫ _,by show (0:Int)<=(m:Int);omega,by simp,hq⟩;obtain ⟨t,q⟩:=s;unfold lR;refine bu.bif (λe=> ?_) (λ_=>ι (.inr ⟨_,rfl,j.2.2.2⟩));simp only [Α];exact χ (k2 (t,q) j.2.2.2 [] _ T) λv hv=>ι (agt (by omega) j (of_decide_eq_true e) hv)
 unfold lS;simp only [Α];refine Ζ (by omega) (χ (P:=λr=>r.length=m) ?_ λr hr=>χ (k3 r hr) λv hv=>ι hv);refine Ϸ (CS (m:Int) (λv=>v.length=m)) (λd s j=> ?_) (n:=m) ⟨Ϫ _,by show (0:Int)<=(m:Int);omega,by simp,T⟩;obtain ⟨t,q⟩:=s;have R:0<=t:=j.1;have p:q.length=m:=j.2.2.2;unfold pE;simp only [bn,h8];refine bu.bif (λe=> ?_) (λ_=>ι (.inr ⟨_,rfl,p⟩));have e:t<(m:Int):=of_decide_eq_true e;exact χ (P:=λv=>v.length=m) (Ζ ⟨R,e⟩ (bu.bif (λ_=>Ζ ⟨R,by omega⟩ (ι (by rw [ϙ];exact p))) λ_=>ι p)) λv hv=>ι (agt (by omega) j e hv)
end
theorem DH {xs:List Int}{x:Int}(I:x∈xs)(hl:xs.length<=1000):bu (λr=>0<=r/\r<bn xs) (dY xs x):=by
 obtain ⟨j,J,R⟩:=aaV I;unfold dY;refine χ (P:=λr=> ∃i:Int,r= .inr i/\0<=i/\i<bn xs) ?_ λr T=> ?_;refine Ϸ (λd s=>0<=s/\s<=(j:Int)/\d=((j:Int) - s).toNat) (λd s U=> ?_) (n:=j) ⟨Ϫ _,by omega,by simp⟩;obtain ⟨p,b2,b3⟩:=U;unfold iG;refine bu.bif (λe=> ?_) (λe=> ?_);have e:s<bn xs:=of_decide_eq_true e;refine Ζ ⟨p,e⟩ (bu.bif (λ_=>ι (.inr ⟨_,rfl,s,rfl,p,e⟩)) λt=> ?_);have aa:s≠(j:Int):=by
  rintro rfl;rw [Α,ψ,Γ J,beq_eq_false_iff_ne] at t;exact t R.symm
 have o:bz .i64 s 1=s+1:=eX (by omega);exact ι (.inl ⟨d - 1,_,by omega,rfl,by rw [o];omega,by rw [o];omega,by rw [o];omega⟩);have e: ¬s<bn xs:=of_decide_eq_false e;simp only [bn] at e;omega;obtain ⟨i,rfl,hi⟩:=T;exact ι hi
theorem FK {ns:List (Int×Int)}{k v:Int}(h:cr (t:=tI) (u:=tI) ns k=some v): ∃p∈ns,p.2=v:=by
 induction ns with
 |nil=>cases h
 |cons p ns ih=>
  have h:(if yl tI p.1 k then some p.2 else cr (t:=tI) (u:=tI) ns k)=some v:=h;split at h;injection h with h;exact ⟨p,by simp,h⟩;obtain ⟨q,j,e⟩:=ih h;exact ⟨q,ύ _ j,e⟩
theorem FL {ns:List (Int×Int)}{k:Int}(h:cr (t:=tI) (u:=tI) ns k=none): ∀p∈ns,p.1≠k:=by
 induction ns with
 |nil=>intro p hp;cases hp
 |cons q ns ih=>
  have h:(if yl tI q.1 k then some q.2 else cr (t:=tI) (u:=tI) ns k)=none:=h;split at h;cases h;rename_i e;intro p hp;rcases ϖ.1 hp with rfl|hp
  intro q;exact e (by unfold yl;simpa using q);exact ih h p hp
structure afU (cl:List Int)(ns:List (Int×Int))(ls nx:List Int):Prop where
 n1: ∀p∈ns,0<=p.2/\p.2<bn ls
 n2: ∀x∈ls,∃p∈ns,p.1=x
 nd:ls.Nodup
 sub:ls ⊆ cl
 nx: ∀x∈nx,0<=x/\x<bn ls
section
variable {m c:Nat} {nx:List Int} {es:List Bool} (h:dF m c nx es) {cl:List Int} (nv:cl.length=m)
include h nv
theorem KQ {x a:Int}(p:x∈cl)(t:0<=a/\a<(c:Int)):bu (λy=>y∈cl) (ju x a cl ((m:Int),(c:Int),nx,es) cl):=by
 obtain ⟨J,R,_⟩:=h.facts;unfold ju gp;refine χ (χ (DH p (by omega)) λr I=>ι I) λT o=>χ (toI h ⟨o.1,by have:=o.2;simp only [bn] at this;omega⟩ t) λU j=>Ζ ⟨j.1,by simp only [bn];omega⟩ (ι (cf (by omega)))
theorem Ny {x:Int}(o:x∈cl):bu (λ_=>True) (jt x ((m:Int),(c:Int),nx,es) cl):=by
 obtain ⟨t,I,J,R,T,U,_⟩:=h.facts;unfold jt gp;exact χ (χ (DH o (by omega)) λr p=>ι p) λy1 j=>Ζ ⟨j.1,by have:=j.2;simp only [bn] at this⊢;omega⟩ (ι trivial)
theorem Rt {s1:Int×(List (Int×Int))×List Int×List Int×List Bool}{x:Int}(hx:ε s1.2.2.1 (δ s1.1) 0=x)(LB:x∈cl){ns:List (Int×Int)}{ls T:List Int}(hF:afU cl ns ls T)(hn:T.length<=1000):
 bu (λr=>afU cl r.1 r.2.1 r.2.2/\r.2.2.length=T.length+c/\ls.length<=r.2.1.length)
  (rounds (jg (c:Int) (cl,((m:Int),(c:Int),nx,es),cl) s1) ((0:Int),ns,ls,T)):=by
 obtain ⟨h3,h4,h5,h6,h7,h8,_⟩:=h.facts;refine Ϸ (λd s=>0<=s.1/\s.1<=(c:Int)/\d=((c:Int) - s.1).toNat/\afU cl s.2.1 s.2.2.1 s.2.2.2/\((s.2.2.2.length:Nat):Int)=(T.length:Int)+s.1/\ls.length<=s.2.2.1.length) (λd s hs=> ?_) (n:=c) ⟨Ϫ _,by show (0:Int)<=(c:Int);omega,by simp,hF,by simp,ς _⟩;obtain ⟨t,aa,j,R⟩:=s;obtain ⟨b1,b2,b3,J,b5,b6⟩:=hs;have b1:0<=t:=b1;have b3:d=((c:Int) - t).toNat:=b3;have J:afU cl aa j R:=J;have b5:((R.length:Nat):Int)=(T.length:Int)+t:=b5;have b6:ls.length<=j.length:=b6;have Vr:j.length<=m:=by rw [<-nv];exact J.nd.length_le_of_subset J.sub
 unfold jg;refine bu.bif (λe=> ?_) (λe=>ι (.inr ⟨_,rfl,J,?_,b6⟩));have e:t<(c:Int):=of_decide_eq_true e;have hw:bz .i64 t 1=t+1:=eX (by omega);rw [hx];refine χ (KQ h nv LB ⟨b1,e⟩) λy hy=> ?_;simp only;refine χ (P:=λv:Int×(List (Int×Int))×List Int=>afU cl v.2.1 v.2.2 R/\j.length<=v.2.2.length/\0<=v.1/\v.1<bn v.2.2) ?_ λv U=>Ζ (by simp only [Η,Χ];unfold bD;omega) (ι (.inl ⟨d - 1,_,by omega,rfl,by rw [hw];show 0<=t+1;omega,by rw [hw];show t+1<=(c:Int);omega,by rw [hw];show d - 1=((c:Int) - (t+1)).toNat;omega,⟨U.1.n1,U.1.n2,U.1.nd,U.1.sub,ix U.1.nx U.2.2⟩,by rw [hw];simp;omega,by have:=U.2.1;show ls.length<=v.2.2.length;omega⟩));generalize hf:cr (t:=tI) (u:=tI) aa y=o;cases o with
 |some w=>
  obtain ⟨p,hp,e3⟩:=FK hf;have h0:=J.n1 p hp;rw [e3] at h0;exact ι ⟨J,ς _,h0⟩
 |none=>
  have iH:y ∉ j:=λq=>by
   obtain ⟨p,hp,e3⟩:=J.n2 y q;exact FL hf p hp e3
  refine Ζ rfl (Ζ (by simp only [Η,Χ];unfold bD;omega) (ι ⟨⟨ix (λp hp=> ?_) ⟨by simp [bn],by simp [bn];omega⟩,λz I=> ?_,?_,λz I=> ?_,λz I=> ?_⟩,by simp,by simp [bn],by simp [bn];omega⟩));have:=J.n1 p hp;simp only [bn,ξ,Η,Χ] at this⊢;omega;rcases Λ.1 I with I|I
  obtain ⟨p,hp,e3⟩:=J.n2 z I;exact ⟨p,Λ.2 (.inl hp),e3⟩;simp only [ϊ] at I;subst I;exact ⟨(z,bn j),by simp,rfl⟩;show (j++[y]).Nodup;rw [afW];refine ⟨J.nd,by simp,λa ha b hb=> ?_⟩;simp only [ϊ] at hb;subst hb;rintro rfl;exact iH ha;rcases Λ.1 I with I|I
  exact J.sub I;simp only [ϊ] at I;subst I;exact hy;have:=J.nx z I;simp only [bn,ξ,Η,Χ] at this⊢;omega
 have e: ¬t<(c:Int):=of_decide_eq_false e;have b2:t<=(c:Int):=b2;show R.length=T.length+c;omega
theorem FM {a1:Int}(ha:a1∈cl): ∃(m':Nat) (o:List Int) (I:List Bool),fH (c:Int) a1 (cl,((m:Int),(c:Int),nx,es),cl) (((m:Int),(c:Int),nx,es),cl)=some (((m':Int),(c:Int),o,I),true)/\dF m' c o I:=by
 obtain ⟨h3,h4,h5,h6,h7,h8,_⟩:=h.facts;have D1:=h.nl;obtain ⟨r,e,hr⟩:bu (λr=> ∃(j o:List Int) (I:List Bool),r=Sum.inl (j,o,I)/\1<=j.length/\j.length<=m/\o.length=j.length*c/\I.length=j.length/\ ∀x∈o,0<=x/\x<bn j)
  (rounds (jh (c:Int) (cl,((m:Int),(c:Int),nx,es),cl) (((m:Int),(c:Int),nx,es),cl)) ((0:Int),(([]:List (Int×Int))++[(a1,(0:Int))]),([a1]:List Int),([]:List Int),([]:List Bool))):=by
  refine Ϸ (λd s=> ∃i:Nat,s.1=(i:Int)/\i<=s.2.2.1.length/\d=m - i/\afU cl s.2.1 s.2.2.1 s.2.2.2.1/\s.2.2.2.1.length=i*c/\s.2.2.2.2.length=i/\1<=s.2.2.1.length) (λd s hs=> ?_) (n:=m)
   ⟨0,rfl,ϟ _,rfl,⟨λp hp=>by
    have hp:p=(a1,0):=by simpa using hp
    subst hp;exact ⟨Ϫ _,by simp [bn]⟩,λx R=>⟨(a1,0),by simp,by
    have R:x=a1:=by simpa using R
    exact R.symm⟩,by simp,λx R=>by
    have R:x=a1:=by simpa using R
    subst R;exact ha,λx R=>by cases R⟩,by simp,rfl,by simp⟩
  obtain ⟨t,ns,j,o,I⟩:=s;obtain ⟨i,b1,b2,b3,T,b5,b6,b7⟩:=hs;have b1:t=(i:Int):=b1;subst b1;have b2:i<=j.length:=b2;have T:afU cl ns j o:=T;have b5:o.length=i*c:=b5;have b6:I.length=i:=b6;have b7:1<=j.length:=b7;have Vr:j.length<=m:=by rw [<-nv];exact T.nd.length_le_of_subset T.sub
  have ZS:i*c<=64*4:=aaZ (by omega) h6;unfold jh;refine bu.bif (λe=> ?_) (λe=> ?_);have e:(i:Int)<bn j:=of_decide_eq_true e;have e':i<j.length:=by simp only [bn] at e;omega
  have U:j.getD i 0∈cl:=T.sub (cf e');refine Ζ ⟨by omega,e⟩ ?_;simp only [Α];refine χ (Ny h nv U) λy _=>Ζ (by simp only [Η,Χ];unfold bD;omega) (χ (Rt h nv (s1:=((i:Int),ns,j,o,I)) rfl U T (by omega)) λv hv=> ?_);obtain ⟨ns',J,aa⟩:=v;obtain ⟨v1,v2,v3⟩:=hv;have v2:aa.length=o.length+c:=v2;have v3:j.length<=J.length:=v3;have ab0:J.length<=m:=by rw [<-nv];exact v1.nd.length_le_of_subset v1.sub
  refine bu.bif (λe2=> ?_) λ_=>ι (.inl ⟨m - (i+1),_,by omega,rfl,i+1,ca (n:=1000) (by omega) (by omega),by show i+1<=J.length;omega,rfl,v1,by show aa.length=(i+1)*c;rw [v2,b5,ϓ,aeg],by simp [b6],by show 1<=J.length;omega⟩);have e2:bn J>64:=of_decide_eq_true e2;simp only [bn] at e2;omega;have e: ¬(i:Int)<bn j:=of_decide_eq_false e;simp only [bn] at e;have:i=j.length:=by omega
  subst this;exact ι (.inr ⟨_,rfl,j,o,I,rfl,b7,Vr,b5,b6,T.nx⟩)
 obtain ⟨j,o,I,rfl,q1,q2,q3,q4,q5⟩:=hr;refine ⟨j.length,o,I,?_,?_,?_⟩;unfold fH;rw [e];rfl;exact q9 q1 (by omega) h5 h6 q3 q4 λi hi=>q5 _ (cf hi);rw [q3];have:j.length*c<=m*c:=Τ c q2;omega
end
theorem KR {m c:Nat}{nx:List Int}{es:List Bool}(h:dF m c nx es): ∃(m':Nat) (j:List Int) (o:List Bool),iU ((m:Int),(c:Int),nx,es)=some (((m':Int),(c:Int),j,o),true)/\dF m' c j o:=by
 obtain ⟨t,I,_⟩:=h.facts;obtain ⟨cl,e,nv⟩:=FJ h;obtain ⟨m',j,o,p,r⟩:=FM h nv (a1:=cl.getD 0 0) (cf (by omega));refine ⟨m',j,o,?_,r⟩;unfold iU;simp only [h.valid,η,ϔ,cond_false,e];rw [guard_pos (by simp only [bn];omega)];have p:fH (c:Int) (cl.getD (δ 0) 0) (cl,((m:Int),(c:Int),nx,es),cl) (((m:Int),(c:Int),nx,es),cl)=_:=p;rw [p];rfl
end Go.Proofs
namespace Go.Proofs
open Go.Ide Go.IntWalk
theorem bu.for_ {β ρ:Type}{f:Int×β->Option ((Int×β)⊕ρ)}{R:ρ->Prop}(n:Nat)(N:Nat->β->Prop)(T:n<=1000000)(step: ∀i v,i<n->N i v->bu (λx=> ∃j,x= .inl (((i+1:Nat):Int),j)/\N (i+1) j) (f ((i:Int),v)))(stop: ∀v,N n v->bu (λx=> ∃r,x= .inr r/\R r) (f ((n:Int),v))){v:β}(h:N 0 v):bu R (Go.Ide.rounds f ((0:Int),v)):=by
 refine Ϸ (λd s=> ∃(i:Nat) (v:β),s=((i:Int),v)/\i<=n/\d=n - i/\N i v) (λd s t=> ?_) (n:=n) ⟨0,v,rfl,ϟ _,rfl,h⟩;obtain ⟨i,v,rfl,U,rfl,o⟩:=t;by_cases p:i<n;obtain ⟨x,e,j,rfl,I⟩:=step i v p o;exact ⟨_,e,.inl ⟨n - (i+1),_,by omega,rfl,i+1,j,rfl,p,rfl,I⟩⟩;obtain rfl:i=n:=by omega
 obtain ⟨x,e,r,rfl,J⟩:=stop v o;exact ⟨_,e,.inr ⟨r,rfl,J⟩⟩
theorem bu.DI {β ρ:Type}{f:β×Int->Option ((β×Int)⊕ρ)}{R:ρ->Prop}(n:Nat)(N:Nat->β->Prop)(T:n<=1000000)(step: ∀i v,i<n->N i v->bu (λx=> ∃j,x= .inl (j,((i+1:Nat):Int))/\N (i+1) j) (f (v,(i:Int))))(stop: ∀v,N n v->bu (λx=> ∃r,x= .inr r/\R r) (f (v,(n:Int)))){v:β}(h:N 0 v):bu R (Go.Ide.rounds f (v,(0:Int))):=by
 refine Ϸ (λd s=> ∃(i:Nat) (v:β),s=(v,(i:Int))/\i<=n/\d=n - i/\N i v) (λd s t=> ?_) (n:=n) ⟨0,v,rfl,ϟ _,rfl,h⟩;obtain ⟨i,v,rfl,U,rfl,o⟩:=t;by_cases p:i<n;obtain ⟨x,e,j,rfl,I⟩:=step i v p o;exact ⟨_,e,.inl ⟨n - (i+1),_,by omega,rfl,i+1,j,rfl,p,rfl,I⟩⟩;obtain rfl:i=n:=by omega
 obtain ⟨x,e,r,rfl,J⟩:=stop v o;exact ⟨_,e,.inr ⟨r,rfl,J⟩⟩
abbrev DJ:=Int×Int×List (Int×Int×Int×Int)×List Int×List Int
structure mZ (d:DJ):Prop where
 z:d.2.2.1.length<=100000
 s:d.2.2.2.1.length<=100000
 e:d.2.2.2.2.length<=100000
theorem BU:mZ ((0:Int),(0:Int),([]:List (Int×Int×Int×Int)),([]:List Int),([]:List Int)):=⟨ϟ _,ϟ _,ϟ _⟩
theorem pk.short {m c:Nat}{zs:List Q4}{ss es:List Int}(h:pk m c zs ss es):mZ ((m:Int),(c:Int),zs,ss,es):=by
 have j:=h.zl;have o:=h.sl;have p:=h.el;have r:=h.m2;exact ⟨by show zs.length<=_;omega,by show ss.length<=_;omega,by show es.length<=_;omega⟩
theorem Aw (x y:Q4):bu (λ_=>True) (nE x y):=by
 unfold nE;cases (x.1==y.1)<;>cases (x.2.2.1==y.2.2.1)<;>exact ⟨_,rfl,trivial⟩
theorem DL {xs:List Q4}(h:xs.length<=1000):bu (λr=>r.length<=xs.length) (b9 xs):=by
 unfold b9;refine bu.bif (λ_=>ι (ς _)) λe=> ?_;have e: ¬bn xs<2:=of_decide_eq_false e;simp only [bn] at e;refine χ (P:=λr=>match r with| .inl _=>True| .inr l=>l.length<=xs.length) ?_ λr T=> ?_;refine Ϸ (λd s=> ∃k:Nat,s=(k:Int)/\1<=k/\k<=xs.length/\d=xs.length - k) (λd s p=> ?_) (n:=xs.length - 1) ⟨1,rfl,ς _,by omega,rfl⟩;obtain ⟨k,rfl,k1,k2,rfl⟩:=p;unfold cV;by_cases U:k<xs.length;have p:bW .i64 (k:Int) 1=((k - 1:Nat):Int):=by rw [gE (by omega)];omega
 simp only [show decide ((k:Int)<bn xs)=true from kn U,cond_true,guard_pos (eO U),p,guard_pos (eO (show k - 1<xs.length by omega)),ca U (show xs.length<=4294967296 by omega)];refine χ (Aw _ _) λy _=> ?_;refine bu.bif (λ_=> ?_) λ_=>ι (.inl ⟨xs.length - (k+1),_,by omega,rfl,k+1,rfl,by omega,by omega,rfl⟩);refine Ζ ⟨by omega,by simp only [bn];omega⟩ ?_;refine χ (P:=λr:Int×List Q4=>(∃q:Nat,r.1=(q:Int)/\q<=xs.length)/\r.2.length=xs.length) ?_ λr T=> ?_;refine Ϸ (λd s=> ∃q j:Nat,s.1=(q:Int)/\s.2.1=(j:Int)/\k+1+q<=j+k+k/\1<=j/\j<=xs.length - k/\d=xs.length - k - j/\s.2.2.length=xs.length) (λd s p=> ?_) (n:=xs.length - k - 1) ⟨k,1,rfl,rfl,by omega,ς _,by omega,rfl,rfl⟩;obtain ⟨q0,j0,zs⟩:=s;obtain ⟨q,j,o,I,J,h4,h5,h6,t⟩:=p;have o:q0=(q:Int):=o;have I:j0=(j:Int):=I;have t:zs.length=xs.length:=t;subst o I;unfold cU;simp only [bn,Α];refine bu.bif (λe2=> ?_) λ_=>ι (.inr ⟨_,rfl,⟨q,rfl,by omega⟩,t⟩);have e2:(j:Int)<((xs.length - k:Nat):Int):=of_decide_eq_true e2;have D3:bW .i64 (j:Int) 1=((j - 1:Nat):Int):=by rw [gE (by omega)];omega
 have hw:bz .i64 (j:Int) 1=((j+1:Nat):Int):=ca (n:=1000) (by omega) (by omega);have L9:bz .i64 (q:Int) 1=((q+1:Nat):Int):=ca (n:=2000) (by omega) (by omega);simp only [D3,hw,L9,Α];refine χ (P:=λv:Int×List Q4=>(∃R:Nat,v.1=(R:Int)/\k+1+R<=j+1+k+k)/\v.2.length=xs.length) ?_ λv hv=> ?_;refine Ζ ⟨by omega,e2⟩ (Ζ (by omega) (Ζ ⟨by omega,by omega⟩ (Ζ (by omega) (χ (Aw _ _) λy _=> ?_))));refine bu.bif (λ_=>Ζ ⟨by omega,by omega⟩ (ι ⟨⟨q+1,rfl,by omega⟩,by rw [ϙ];exact t⟩)) λ_=>ι ⟨⟨q,rfl,by omega⟩,t⟩;obtain ⟨⟨R,v1,v2⟩,v3⟩:=hv;exact ι (.inl ⟨xs.length - k - (j+1),_,by omega,rfl,R,j+1,v1,rfl,by omega,by omega,by omega,rfl,v3⟩);obtain ⟨⟨q,o,I⟩,J⟩:=T;obtain ⟨r1,r2⟩:=r;have o:r1=(q:Int):=o;have J:r2.length=xs.length:=J;subst o;simp only [bn,Α,J];refine Ζ ⟨by omega,by omega⟩ (χ (P:=λl=>l.length=xs.length) (ι (by simp;omega)) λl hl=>Ζ ⟨by omega,by omega⟩ (ι (.inr ⟨_,rfl,?_⟩)));show (ϛ q l).length<=xs.length;rw [ώ];omega;simp only [show decide ((k:Int)<bn xs)=false from ky (by omega),cond_false];exact ι (.inr ⟨_,rfl,trivial⟩);cases r with
 |inl u=>exact ι (ς _)
 |inr l=>exact ι T
theorem KS {xs:List Q4}(h:xs.length<=1000):bu (λr=>r.length<=xs.length) (sL xs):=by
 unfold sL slices_SortFunc;simp only [dZ (show xs.length<=1000000 by omega),η,guard_pos (show xs.length<4611686018427387904 by omega)];have j:(Vn xs).length=xs.length:=by unfold Vn;simp
 exact χ (DL (by omega)) λr o=>ι (by omega)
theorem tQ {d:DJ}(h:mZ d):bu (λr=>mZ r.1) (lb d):=by
 obtain ⟨s,l,zs,ss,es⟩:=d;obtain ⟨p,j,o⟩:=h;have p:zs.length<=100000:=p;have j:ss.length<=100000:=j;have o:es.length<=100000:=o;unfold lb;simp only [pI (show zs.length<=4294967296 by omega) (show ss.length<=4294967296 by omega) (show es.length<=4294967296 by omega),η,dZ (show ss.length<=1000000 by omega),dZ (show es.length<=1000000 by omega)];refine bu.bif (λ_=>ι BU) λe=> ?_;have t:zs.length<=128:=by
  simp only [Bool.not_eq_false'] at e;unfold mX at e;simp only [κ,aag,decide_eq_false_iff_not,bn] at e;have:=e.2.2.1;omega
 refine χ (KS (by omega)) λr I=>ι ⟨?_,j,o⟩;show r.length<=100000;omega
end Go.Proofs
namespace Go.Proofs
open Go.Ide Go.IntWalk
theorem H8 {zs:List Q4}(h:zs.length<=1000)(k:Int):bu (λr=>r.length=zs.length) (iJ zs k):=by
 unfold iJ;refine χ (P:=λr=>r.length=zs.length) (bu.for_ zs.length (λi v=>v.length=i) (by omega) (λi v j o=> ?_) (λv o=> ?_) rfl) λr p=>ι p;unfold jf;simp only [show decide ((i:Int)<bn zs)=true from kn j,cond_true,guard_pos (eO j),η,ca j (show zs.length<=4294967296 by omega)];rw [cu (by omega)];exact ι ⟨_,rfl,by simp [o]⟩;unfold jf;simp only [show decide (((zs.length:Nat):Int)<bn zs)=false from ky (ς _),cond_false];exact ι ⟨_,rfl,o⟩
theorem wy {d:DJ}(h:mZ d):bu (λr=>mZ r.1) (hU d):=by
 obtain ⟨s,l,zs,ss,es⟩:=d;have t:=h;obtain ⟨j,o,p⟩:=h;have j:zs.length<=100000:=j;have o:ss.length<=100000:=o;have p:es.length<=100000:=p;unfold hU;simp only [pI (show zs.length<=4294967296 by omega) (show ss.length<=4294967296 by omega) (show es.length<=4294967296 by omega),η];exact bu.bif (λ_=>ι BU) λ_=>ι t
section
variable {m c:Nat} {zs:List Q4} {ss es:List Int} (h:pk m c zs ss es)
include h
theorem BV:bu (λr=>mZ r.1) (nf ((m:Int),(c:Int),zs,ss,es)):=by
 have h1:=h.zl;have h2:=h.sl;have h3:=h.el;have h4:=h.m2;have R:=h.m1;unfold nf;simp only [h.valid,η,ϔ,cond_false];refine χ (H8 (by omega) 1) λy hy=> ?_;refine χ (P:=λr=>r.length<=100) (bu.for_ ss.length (λi v=>v.length<=y.length+i) (by omega) (λi v j o=> ?_) (λv o=> ?_) (ς _)) λr I=> ?_;unfold mO;simp only [show decide ((i:Int)<bn ss)=true from kn j,cond_true,guard_pos (eO j),ca j (show ss.length<=4294967296 by omega)];refine χ (P:=λq=>q.length<=y.length+(i+1)) (bu.bif (λ_=> ?_) λ_=>ι (by omega)) λq p=>ι ⟨q,rfl,p⟩;rw [cu (by omega)];exact ι (by simp;omega);unfold mO;simp only [show decide (((ss.length:Nat):Int)<bn ss)=false from ky (ς _),cond_false];exact ι ⟨_,rfl,by omega⟩;refine χ (P:=λq=>q.length<=200) (bu.for_ es.length (λi v=>v.length<=r.length+i) (by omega) (λi v j o=> ?_) (λv o=> ?_) (ς _)) λT U=> ?_;unfold mM;simp only [show decide ((i:Int)<bn es)=true from kn j,cond_true,guard_pos (eO j),ca j (show es.length<=4294967296 by omega)];refine χ (P:=λq=>q.length<=r.length+(i+1)) (bu.bif (λ_=> ?_) λ_=>ι (by omega)) λq p=>ι ⟨q,rfl,p⟩;rw [cu (by omega)];exact ι (by simp;omega);unfold mM;simp only [show decide (((es.length:Nat):Int)<bn es)=false from ky (ς _),cond_false];exact ι ⟨_,rfl,by omega⟩;refine χ (BS R (by omega)) λJ t=> ?_;have hl:=t.1;refine Ζ (by simp only [Η,Χ];unfold bD;omega) ?_;rw [dZ (by simp;omega),η];exact χ (wy ⟨by show T.length<=_;omega,by show ([0]++J).length<=_;simp;omega,by show ([0]++J).length<=_;simp;omega⟩) λr I=>ι I
theorem wz {fr:List Int}(hf:fr.length=m)(b:Bool):bu (λr=>r.length=m) (lL ((m:Int),(c:Int),zs,ss,es) fr b):=by
 have h1:=h.zl;have h4:=h.m2;have h5:=h.m1;have J:(υ m false).length=m:=ϗ;have inner: ∀q:List Bool,q.length=m->bu (λr=>r.length=m) (rounds (kD ((m:Int),(c:Int),zs,ss,es) b) ((0:Int),q)):=λq p=>by
  refine bu.for_ zs.length (λ_ v=>v.length=m) (by omega) (λi v o j=> ?_) (λv j=> ?_) p;obtain ⟨R,T,_⟩:=h.zH _ (cf (d:=(0,0,0,0)) o);unfold kD;simp only [show decide ((i:Int)<bn zs)=true from kn o,cond_true,guard_pos (eO o),η,Α,ca o (show zs.length<=4294967296 by omega)];generalize zs.getD i (0,0,0,0)=r at R T⊢;refine χ (P:=λq=>q.length=m) (χ (P:=λv:Int×Int=>(0<=v.1/\v.1<(m:Int))/\0<=v.2/\v.2<(m:Int)) (bu.bif (λ_=>ι ⟨T,R⟩) λ_=>ι ⟨R,T⟩) λab t=> ?_) λq p=>ι ⟨q,rfl,p⟩;refine Ζ ⟨t.2.1,by simp only [bn];omega⟩ (bu.bif (λ_=>ι (by rw [ϙ];exact j)) λ_=>Ζ ⟨t.1.1,by simp only [bn];omega⟩ (ι (by rw [ϙ];exact j)));unfold kD;simp only [show decide (((zs.length:Nat):Int)<bn zs)=false from ky (ς _),cond_false];exact ι ⟨_,rfl,j⟩
 unfold lL;refine Ζ ⟨by show 0<=(m:Int);omega,by show (m:Int)<=_;omega⟩ ?_;simp only [Α];refine χ (P:=λr=>r.length=m) (bu.for_ fr.length (λ_ v=>v.length=m) (by omega) (λi v o j=> ?_) (λv j=> ?_) J) λI U=>χ (P:=λr=>r.length=m) (bu.for_ I.length (λ_ v=>v.length=m) (by omega) (λi v o j=> ?_) (λv j=> ?_) U) λr7 aa=>ι aa;unfold nS;simp only [show decide ((i:Int)<bn fr)=true from kn o,cond_true,guard_pos (eO o),guard_pos (show (0:Int)<=(i:Int)/\(i:Int)<bn v from ⟨by omega,by simp only [bn];omega⟩),ca o (show fr.length<=4294967296 by omega)];exact ι ⟨_,rfl,by rw [ϙ];exact j⟩;unfold nS;simp only [show decide (((fr.length:Nat):Int)<bn fr)=false from ky (ς _),cond_false];exact ι ⟨_,rfl,j⟩;unfold nR;simp only [show decide ((i:Int)<bn I)=true from kn o,cond_true,ca o (show I.length<=4294967296 by omega)];exact χ (inner v j) λq p=>ι ⟨q,rfl,p⟩;unfold nR;simp only [show decide (((I.length:Nat):Int)<bn I)=false from ky (ς _),cond_false];exact ι ⟨_,rfl,j⟩
theorem FN:bu (λr=>mZ r.1) (pD ((m:Int),(c:Int),zs,ss,es)):=by
 have h1:=h.zl;have h2:=h.sl;have h3:=h.el;have h4:=h.m2;have h5:=h.m1;unfold pD;simp only [h.valid,η,ϔ,cond_false];refine χ (wz h h2 false) λy4 h4'=>χ (wz h h3 true) λy6 h6=>χ (BS h5 (by omega)) λt h8=> ?_;have hl:=h8.1;refine χ (P:=λr:List Int×Int×List Int×List Int=>r.1.length=m/\r.2.2.1.length<=m/\r.2.2.2.length<=m) (bu.for_ t.length (λi v=>v.1.length=m/\v.2.2.1.length<=i/\v.2.2.2.length<=i) (by omega) (λi v o p=> ?_) (λv p=> ?_) ⟨hl,ς _,ς _⟩) λj I=> ?_;obtain ⟨v1,v2,v3⟩:=p;unfold o6;simp only [show decide ((i:Int)<bn t)=true from kn o,cond_true,ca o (show t.length<=4294967296 by omega)];refine χ (P:=λq:List Int×Int×List Int×List Int=>q.1.length=m/\q.2.2.1.length<=i+1/\q.2.2.2.length<=i+1) (χ (P:=λ_=>True) (Ζ ⟨by omega,by simp only [bn];omega⟩ (bu.bif (λ_=>Ζ ⟨by omega,by simp only [bn];omega⟩ (ι trivial)) λ_=>ι trivial)) λv51 _=> ?_) λq J=>ι ⟨q,rfl,J⟩;refine bu.bif (λ_=> ?_) λ_=>ι ⟨v1,by show v.2.2.1.length<=_;omega,by show v.2.2.2.length<=_;omega⟩;refine Ζ ⟨by omega,by simp only [bn];omega⟩ (Ζ ⟨by omega,by simp only [bn];omega⟩ ?_);rw [cu (by omega)];refine Ζ ⟨by omega,by simp only [bn];omega⟩ ?_;rw [cu (by omega)];exact ι ⟨by rw [ϙ];exact v1,by simp;omega,by simp;omega⟩;unfold o6;simp only [show decide (((t.length:Nat):Int)<bn t)=false from ky (ς _),cond_false];exact ι ⟨_,rfl,p.1,by have:=p.2.1;show v.2.2.1.length<=m;omega,by have:=p.2.2;show v.2.2.2.length<=m;omega⟩;obtain ⟨n1,n2,n3⟩:=I;refine χ (P:=λr=>r.length<=100) (bu.for_ zs.length (λi v=>v.length<=i) (by omega) (λi v o p=> ?_) (λv p=> ?_) (ς _)) λR YK=> ?_;obtain ⟨a1,a2,_⟩:=h.zH _ (cf (d:=(0,0,0,0)) o);unfold oZ;simp only [show decide ((i:Int)<bn zs)=true from kn o,cond_true,guard_pos (eO o),η,Α,ca o (show zs.length<=4294967296 by omega)];have T:(0:Int)<=(zs.getD i (0,0,0,0)).1/\(zs.getD i (0,0,0,0)).1<bn j.1:=⟨a1.1,by simp only [bn];omega⟩;have U:(0:Int)<=(zs.getD i (0,0,0,0)).2.1/\(zs.getD i (0,0,0,0)).2.1<bn j.1:=⟨a2.1,by simp only [bn];omega⟩;refine χ (P:=λq=>q.length<=i+1) (χ (P:=λ_=>True) (Ζ T (bu.bif (λ_=>Ζ U (ι trivial)) λ_=>ι trivial)) λv32 _=> ?_) λq J=>ι ⟨q,rfl,J⟩;refine bu.bif (λ_=>Ζ T (Ζ U ?_)) λ_=>ι (by omega);rw [cu (by omega)];exact ι (by simp;omega);unfold oZ;simp only [show decide (((zs.length:Nat):Int)<bn zs)=false from ky (ς _),cond_false];exact ι ⟨_,rfl,by omega⟩;exact χ (tQ ⟨by show R.length<=_;omega,by show j.2.2.1.length<=_;omega,by show j.2.2.2.length<=_;omega⟩) λr hr=>ι hr
theorem sQ {a b:List Int}(t:a.length=m)(I:b.length=m):bu fg (eK a b):=by
 have J:=h.m2;unfold eK;refine χ (P:=fg) (bu.DI a.length (λ_ v=>fg v) (by omega) (λi v j o=> ?_) (λv o=> ?_) ⟨by decide,by decide⟩) λr p=>bu.bif (λ_=>ι ⟨by decide,by decide⟩) λ_=>ι p;unfold eF;simp only [show decide ((i:Int)<bn a)=true from kn j,cond_true,guard_pos (eO j),guard_pos (show (0:Int)<=(i:Int)/\(i:Int)<bn b from ⟨by omega,by simp only [bn];omega⟩),ca j (show a.length<=4294967296 by omega)];exact ι ⟨_,rfl,by split;exact rq _;exact o⟩;unfold eF;simp only [show decide (((a.length:Nat):Int)<bn a)=false from ky (ς _),cond_false];exact ι ⟨_,rfl,o⟩
theorem vH:bu (λr=>mZ r.1) (js ((m:Int),(c:Int),zs,ss,es)):=by
 have h1:=h.zl;have h2:=h.sl;have h3:=h.el;have h4:=h.m2;have h5:=h.m1;have b1: ∀(I:Int×List Q4×List Int) (j:List Int) (J:Int×List Q4) (q:List Q4),q.length<=10000->bu (λr=>r.length<=q.length+zs.length) (rounds (gj ((m:Int),(c:Int),zs,ss,es) I j J) ((0:Int),q)):=λI j J q hq=>by
  refine bu.for_ zs.length (λi v=>v.length<=q.length+i) (by omega) (λi v o p=> ?_) (λv p=> ?_) (ς _);unfold gj;simp only [show decide ((i:Int)<bn zs)=true from kn o,cond_true,guard_pos (eO o),η,ca o (show zs.length<=4294967296 by omega)];refine χ (P:=λr=>r.length<=q.length+(i+1)) (χ (P:=λ_=>True) (bu.bif (λ_=>bu.bif (λ_=>ι trivial) λ_=>ι trivial) λ_=>ι trivial) λv50 _=> ?_) λr t=>ι ⟨r,rfl,t⟩;refine bu.bif (λ_=> ?_) λ_=>ι (by omega);rw [cu (by omega)];exact ι (by simp;omega);unfold gj;simp only [show decide (((zs.length:Nat):Int)<bn zs)=false from ky (ς _),cond_false];exact ι ⟨_,rfl,p⟩
 have b2: ∀(I:Int×List Q4×List Int) (j:List Int) (q:List Q4),j.length=m->q.length<=5000->bu (λr=>r.length<=q.length+256) (rounds (gm ((m:Int),(c:Int),zs,ss,es) I j) ((0:Int),q)):=λI j q hy hq=>by
  refine bu.for_ j.length (λi v=>v.length<=q.length+16*i) (by omega) (λi v o p=> ?_) (λv p=> ?_) (ς _);unfold gm;simp only [show decide ((i:Int)<bn j)=true from kn o,cond_true,guard_pos (eO o),ca o (show j.length<=4294967296 by omega)];exact χ (b1 I j ((i:Int),v) v (by omega)) λr t=>ι ⟨r,rfl,by omega⟩;unfold gm;simp only [show decide (((j.length:Nat):Int)<bn j)=false from ky (ς _),cond_false];exact ι ⟨_,rfl,by show v.length<=_;omega⟩
 obtain ⟨y6,e6,h6⟩:=rb (xs:=es) (by omega);unfold js;simp only [h.valid,η,ϔ,cond_false,dZ (show ss.length<=1000000 by omega),e6];refine χ (P:=λr:List Q4×List Int=>r.1.length<=4096/\r.2.length<=16) (bu.for_ m (λi v=>v.1.length<=256*i/\v.2.length=i) (by omega) (λi v o p=> ?_) (λv p=> ?_) ⟨ς _,rfl⟩) λr t=> ?_;obtain ⟨v1,v2⟩:=p;obtain ⟨R,U,aa⟩:=vF (n:=m) h5 (by omega);obtain ⟨j,ab,T⟩:=uU h (cs:=R.set (δ (i:Int)) 0) (by rw [ϙ];exact aa);unfold jJ;simp only [kn o,cond_true,U,η,guard_pos (show (0:Int)<=(i:Int)/\(i:Int)<bn R from ⟨by omega,by simp only [bn];omega⟩),ab,ca o (show m<=4294967296 by omega)];refine χ (b2 ((i:Int),v) j v.1 T (by omega)) λad OU=>χ (sQ h T (by omega)) λXp _=> ?_;rw [cu (by omega)];exact ι ⟨_,rfl,by show ad.length<=_;omega,by simp;omega⟩;unfold jJ;simp only [ky (ς m),cond_false];exact ι ⟨_,rfl,by have:=p.1;show v.1.length<=_;omega,by have:=p.2;show v.2.length<=_;omega⟩;exact χ (tQ ⟨by have:=t.1;show r.1.length<=_;omega,by show ss.length<=_;omega,by have:=t.2;show r.2.length<=_;omega⟩) λr t=>ι t
end
end Go.Proofs
namespace Go.Proofs
open Go.Ide Go.IntWalk
abbrev vI:=Int×Int×List Int×List Bool
structure rh (d:vI):Prop where
 n:d.2.2.1.length<=100000
 e:d.2.2.2.length<=100000
abbrev yS:=Int×Int×List (Int×Int×Int×Int)
def tR (d:yS):Prop:=d.2.2.length<=100000
theorem uV {xs:List Int}(h:xs.length<=1000):bu (λ_=>True) (kr xs):=by
 unfold kr;refine χ (P:=λ_=>True) (bu.DI xs.length (λ_ _=>True) (by omega) (λi v j _=> ?_) (λv _=> ?_) trivial) λr _=>ι trivial;unfold mP;simp only [kn j,cond_true,guard_pos (eO j),ca j (show xs.length<=4294967296 by omega),guard_pos (Int.natCast_nonneg i)];exact χ (P:=λ_=>True) (bu.bif (λ_=>ι trivial) λ_=>ι trivial) λq _=>ι ⟨q,rfl,trivial⟩;unfold mP;simp only [ky (ς _),cond_false];exact ι ⟨_,rfl,trivial⟩
section
variable {m c:Nat} {zs:List Q4} {ss es:List Int} (h:pk m c zs ss es)
include h
theorem yT (x:Int):bu (λ_=>True) (nF ((m:Int),(c:Int),zs,ss,es) x):=by
 have t:=h.zl;have I:=h.m2;unfold nF;refine χ (P:=λ_=>True) (bu.DI m (λ_ _=>True) (by omega) (λi v j _=> ?_) (λv _=> ?_) trivial) λr _=>ι trivial;unfold o8;simp only [show decide ((i:Int)<(m:Int))=true from decide_eq_true (by omega),cond_true,ca j (show m<=4294967296 by omega)];refine χ (P:=λ_=>True) (bu.DI zs.length (λ_ _=>True) (by omega) (λi v j _=> ?_) (λv _=> ?_) trivial) λq _=>ι ⟨q,rfl,trivial⟩;obtain ⟨o,p,_⟩:=h.zH _ (cf (d:=(0,0,0,0)) j);unfold o7;simp only [kn j,cond_true,guard_pos (eO j),η,Α,ca j (show zs.length<=4294967296 by omega),guard_pos o.1,guard_pos p.1];exact χ (P:=λ_=>True) (χ (P:=λ_=>True) (bu.bif (λ_=>ι trivial) λ_=>ι trivial) λb _=>bu.bif (λ_=>ι trivial) λ_=>ι trivial) λq _=>ι ⟨q,rfl,trivial⟩;unfold o7;simp only [ky (ς _),cond_false];exact ι ⟨_,rfl,trivial⟩;unfold o8;simp only [show decide ((m:Int)<(m:Int))=false from decide_eq_false (by omega),cond_false];exact ι ⟨_,rfl,trivial⟩
theorem FO (x a:Int):bu (λ_=>True) (lO x a ((m:Int),(c:Int),zs,ss,es)):=by
 have r:=h.zl;have t:=h.m2;unfold lO;refine χ (P:=λ_=>True) (bu.DI zs.length (λ_ _=>True) (by omega) (λi v j _=> ?_) (λv _=> ?_) trivial) λq _=>χ (yT h q) λy _=>ι trivial;obtain ⟨o,p,_⟩:=h.zH _ (cf (d:=(0,0,0,0)) j);unfold lM;simp only [kn j,cond_true,guard_pos (eO j),η,Α,ca j (show zs.length<=4294967296 by omega),guard_pos o.1,guard_pos p.1];exact χ (P:=λ_=>True) (χ (P:=λ_=>True) (bu.bif (λ_=>ι trivial) λ_=>ι trivial) λb _=>bu.bif (λ_=>ι trivial) λ_=>ι trivial) λq _=>ι ⟨q,rfl,trivial⟩;unfold lM;simp only [ky (ς _),cond_false];exact ι ⟨_,rfl,trivial⟩
theorem zI (a1 a3:Int):bu (λr=>rh r.1) (bY (c:Int) a1 ((m:Int),(c:Int),zs,ss,es) a3):=by
 have h6:=h.c2;unfold bY;refine χ (P:=λr=> ∀x,r=Sum.inl x->x.1.length<=64/\x.2.1.length<=256/\x.2.2.length<=64) (Ϸ (λd s=> ∃i:Nat,s.1=(i:Int)/\i<=64/\d=65 - i/\s.2.2.1.length<=64/\s.2.2.2.1.length=i*c/\s.2.2.2.2.length=i) (λd s hs=> ?_) (n:=65) ⟨0,rfl,by omega,rfl,ϑ rfl,by simp,rfl⟩) λr hr=> ?_;obtain ⟨t,ns,p,I,pe⟩:=s;obtain ⟨i,J,b2,b3,R,T,U⟩:=hs;have J:t=(i:Int):=J;subst J;have R:p.length<=64:=R;have T:I.length=i*c:=T;have U:pe.length=i:=U;have ZS:i*c<=64*4:=aaZ b2 h6;unfold cS;refine bu.bif (λe=> ?_) (λe=> ?_);have e:(i:Int)<bn p:=of_decide_eq_true e;refine Ζ ⟨by omega,e⟩ ?_;refine χ (P:=λ_=>True) (ι trivial) λy _=>Ζ (by simp only [Η,Χ];unfold bD;omega) ?_;refine χ (P:=λr:List (Int×Int)×List Int×List Int=>r.2.2.length=I.length+c) (bu.for_ c (λi v=>v.2.1.length<=p.length+i/\v.2.2.length=I.length+i) (by omega) (λj v hj o=> ?_) (λv o=> ?_) ⟨ς _,rfl⟩) λv o=> ?_;obtain ⟨v1,v2⟩:=o;unfold cz;simp only [show decide ((j:Int)<(c:Int))=true from decide_eq_true (by omega),cond_true,ca hj (show c<=4294967296 by omega)];refine χ (FO h _ _) λR7 _=>χ (P:=λq:Int×List (Int×Int)×List Int=>q.2.2.length<=p.length+(j+1)) (bu.bif (λe=> ?_) λ_=>ι (by show v.2.1.length<=_;omega)) λq hq=>Ζ (by simp only [Η,Χ];unfold bD;omega) (ι ⟨_,rfl,hq,by simp;omega⟩);refine Ζ (by simpa using e) (Ζ (by simp only [Η,Χ];unfold bD;omega) (ι (by simp;omega)));unfold cz;simp only [show decide ((c:Int)<(c:Int))=false from decide_eq_false (by omega),cond_false];exact ι ⟨_,rfl,o.2⟩;refine bu.bif (λe=>ι (.inr ⟨_,rfl,λx hx=>by cases hx⟩)) λe2=>ι (.inl ⟨65 - (i+1),_,by omega,rfl,i+1,ca (n:=1000) (by omega) (by omega),by simp only [bn] at e;omega,rfl,?_,?_,by simp [U]⟩);have e2: ¬bn v.2.1>64:=of_decide_eq_false e2;simp only [bn] at e2;show v.2.1.length<=64;omega;show v.2.2.length=(i+1)*c;rw [o,T,ϓ,aeg];exact ι (.inr ⟨_,rfl,λx hx=>by
  obtain rfl:=Sum.inl.inj hx;exact ⟨R,by show I.length<=256;omega,by show pe.length<=64;omega⟩⟩)
 cases r with
 |inl x=>obtain ⟨x1,x2,x3⟩:=hr x rfl;exact ι ⟨by show x.2.1.length<=_;omega,by show x.2.2.length<=_;omega⟩
 |inr x=>exact ι ⟨ϟ _,ϟ _⟩
theorem DM:bu (λr=>rh r.1) (oz ((m:Int),(c:Int),zs,ss,es)):=by
 have t:=h.sl;have I:=h.el;have J:=h.m2;unfold oz;simp only [h.valid,η,ϔ,cond_false];exact χ (uV (by omega)) λy _=>χ (uV (by omega)) λj _=>χ (yT h j) λo _=>χ (zI h o y) λr p=>ι p
end
section
variable {m c:Nat} {nx:List Int} {es:List Bool} (h:dF m c nx es)
include h
theorem yU:bu (λr=>rh r.1) (kE ((m:Int),(c:Int),nx,es)):=by
 obtain ⟨p,t,I,J,R,T,_⟩:=h.facts;have U:=h.nl;unfold kE;simp only [h.valid,η,ϔ,cond_false,dZ (show nx.length<=1000000 by omega)];refine χ (P:=λr=>r.length<=64) (bu.for_ es.length (λi v=>v.length=i) (by omega) (λi v j o=> ?_) (λv o=> ?_) rfl) λr hr=>ι ⟨by show nx.length<=_;omega,by show r.length<=_;omega⟩;unfold kP;simp only [show decide ((i:Int)<bn es)=true from kn j,cond_true,guard_pos (eO j),ca j (show es.length<=4294967296 by omega)];rw [cu (by omega)];exact ι ⟨_,rfl,by simp [o]⟩;unfold kP;simp only [show decide (((es.length:Nat):Int)<bn es)=false from ky (ς _),cond_false];exact ι ⟨_,rfl,by omega⟩
theorem zJ:bu (λr=>tR r.1) (lW ((m:Int),(c:Int),nx,es)):=by
 obtain ⟨T,U,h5,h6,h7,h8,_⟩:=h.facts;unfold lW;simp only [h.valid,η,ϔ,cond_false];refine bu.bif (λ_=>ι (ϟ _)) λ_=> ?_;refine χ (P:=λr=>r.length<=1000) (bu.for_ m (λi v=>v.length<=8*i) (by omega) (λi v t I=> ?_) (λv I=> ?_) (ς _)) λr o=> ?_;unfold lV;simp only [show decide ((i:Int)<(m:Int))=true from decide_eq_true (by omega),cond_true,ca t (show m<=4294967296 by omega)];refine χ (P:=λr=>r.length<=8*(i+1)) (bu.for_ c (λj q=>q.length<=v.length+2*j) (by omega) (λj q J p=> ?_) (λq p=> ?_) (ς _)) λq p=>ι ⟨q,rfl,p⟩;unfold lU;simp only [show decide ((j:Int)<(c:Int))=true from decide_eq_true (by omega),cond_true,ca J (show c<=4294967296 by omega)];refine χ (P:=λr=>r.length<=v.length+2*(j+1)) (χ (toI h ⟨by omega,by omega⟩ ⟨by omega,by omega⟩) λy R=> ?_) λr o=>ι ⟨r,rfl,o⟩;refine Ζ (by simp only [Η,Χ];unfold bD;omega) (Ζ ⟨R.1,by simp only [bn];omega⟩ (bu.bif (λ_=>Ζ (by simp only [ξ,Η,Χ];unfold bD;omega) (ι (by simp;omega))) λ_=>ι (by simp;omega)));unfold lU;simp only [show decide ((c:Int)<(c:Int))=false from decide_eq_false (by omega),cond_false];exact ι ⟨_,rfl,by omega⟩;unfold lV;simp only [show decide ((m:Int)<(m:Int))=false from decide_eq_false (by omega),cond_false];exact ι ⟨_,rfl,by omega⟩;refine χ (P:=λq=>q.length<=2000) (bu.for_ c (λi v=>v.length<=r.length+i) (by omega) (λi v t I=> ?_) (λv I=> ?_) (ς _)) λq p=> ?_;unfold lT;simp only [show decide ((i:Int)<(c:Int))=true from decide_eq_true (by omega),cond_true,ca t (show c<=4294967296 by omega)];rw [cu (by omega)];exact ι ⟨_,rfl,by simp;omega⟩;unfold lT;simp only [show decide ((c:Int)<(c:Int))=false from decide_eq_false (by omega),cond_false];exact ι ⟨_,rfl,by omega⟩;unfold dC;simp only [pJ (show q.length<=4294967296 by omega),η];exact χ (P:=λr:yS×Bool=>tR r.1) (bu.bif (λ_=>ι (ϟ _)) λ_=>ι (by show q.length<=_;omega)) λr o=>ι o
end
end Go.Proofs
namespace Go.Proofs
open Go.Ide Go.IntWalk
def FP:List Int:=[1000,900,500,400,100,90,50,40,10,9,5,4,1]
def KT:List (List UInt8):=[[77],[67,77],[68],[67,68],[67],[88,67],[76],[88,76],[88],[73,88],[86],[73,86],[73]]
def H9:List Nat:=[4000,1000,900,500,400,100,90,50,40,10,9,5,4,1]
def Nz:List Nat:=[4,2,2,2,4,2,2,2,4,2,2,2,4]
theorem NA: ∀i:Fin 13,1<=FP.getD i.val 0/\FP.getD i.val 0<=1000/\(H9.getD i.val 0:Int)<=FP.getD i.val 0*(Nz.getD i.val 0:Int)/\(KT.getD i.val []).length*(Nz.getD i.val 0 - 1)<=3/\1<=Nz.getD i.val 0/\FP.getD i.val 0<=(H9.getD (i.val+1) 0:Int)/\ ∀b∈KT.getD i.val [],44<=b.toNat:=by decide+kernel
theorem Ru {i:Nat}(hi:i<13)(n0:Int)(t0 n:Int){t:List UInt8}{tt:List UInt8}(h0:0<=n)(h1:n<(H9.getD i 0:Int))(hn:n<=4000)(ht:t.length<=1000)(j: ∀b∈t,44<=b.toNat):
 bu (λr=>0<=r.1/\r.1<(H9.getD (i+1) 0:Int)/\r.1<=4000/\r.2.length<=t.length+3/\ ∀b∈r.2,44<=b.toNat) (rounds (nW FP KT (n0,tt,(i:Int))) (n,t)):=by
 obtain ⟨a1,a2,o,p,I,J,R⟩:=NA ⟨i,hi⟩;simp only at a1 a2 o p I J R;generalize hv:FP.getD i 0=v at a1 a2 o J;generalize hl:(KT.getD i [])=l at p R;generalize Nz.getD i 0=k at o p I;generalize H9.getD (i+1) 0=b at J⊢;refine Ϸ (λd s=>0<=s.1/\s.1<v*((d+1:Nat):Int)/\s.1<=4000/\s.2.length+l.length*d<=t.length+3/\ ∀b∈s.2,44<=b.toNat) (λd s hs=> ?_) (n:=k - 1) ⟨h0,?_,hn,by show t.length+l.length*(k - 1)<=_;omega,j⟩;obtain ⟨n,T⟩:=s;obtain ⟨U,b2,b4,b3,b5⟩:=hs;have U:0<=n:=U;have b4:n<=4000:=b4;have b2:n<v*((d+1:Nat):Int):=b2;have b3:T.length+l.length*d<=t.length+3:=b3;have e1:FP.getD (δ (i:Int)) 0=v:=hv;have e2:KT.getD (δ (i:Int)) []=l:=hl;unfold nW;simp only [e1,e2];refine bu.bif (λe=> ?_) λe=> ?_;have e:n>=v:=of_decide_eq_true e;obtain _|d:=d
 exfalso;have:v*((0+1:Nat):Int)=v:=ah4 v;omega;have e3:v*((d+1+1:Nat):Int)=v*((d+1:Nat):Int)+v:=by
  rw [show ((d+1+1:Nat):Int)=((d+1:Nat):Int)+1 from rfl,Int.mul_add,ah4]
 have e4:l.length*(d+1)=l.length*d+l.length:=Nat.mul_succ _ _;refine Ζ ⟨by omega,by show (i:Int)<13;omega⟩ (Ζ (by unfold bD;omega) (ι (.inl ⟨d,_,by omega,rfl,?_,?_,?_,?_,λb j=>(Λ.1 j).elim (b5 b) (R b)⟩)));show 0<=bW .i64 n v;rw [gE (by omega)];omega;show bW .i64 n v<_;rw [gE (by omega)];omega;show bW .i64 n v<=4000;rw [gE (by omega)];omega;show (T++l).length+l.length*d<=_;rw [ξ];omega;have e: ¬n>=v:=of_decide_eq_false e;exact ι (.inr ⟨_,rfl,U,by show n<_;omega,b4,by show T.length<=_;omega,b5⟩);show n<v*((k - 1+1:Nat):Int);rw [Nat.sub_add_cancel I];omega
theorem DN (n:Int):bu (λr=>r.1.length<=39/\ ∀b∈r.1,44<=b.toNat) (oA n):=by
 unfold oA;simp only [iY,η];refine bu.bif (λ_=>ι ⟨ϟ _,λb o=>by cases o⟩) λe=> ?_;have e:(decide (n>=1)&&decide (n<=3999))=true:=by simpa using e
 simp only [κ,decide_eq_true_eq] at e;refine χ (P:=λr=>r.length<=39/\ ∀b∈r,44<=b.toNat) ?_ λr j=>ι j;unfold qZ;simp only [η];refine χ (P:=λr=>r.length<=39/\ ∀b∈r,44<=b.toNat) (Ϸ (λd s=> ∃i:Nat,i<=13/\s.2.2=(i:Int)/\d=13 - i/\0<=s.1/\s.1<(H9.getD i 0:Int)/\s.1<=4000/\s.2.1.length<=3*i/\ ∀b∈s.2.1,44<=b.toNat) (λd s R=> ?_) (n:=13) ⟨0,by omega,rfl,rfl,by show 0<=n;omega,by show n<4000;omega,by show n<=4000;omega,ς _,λb o=>by cases o⟩) λr j=>ι j;obtain ⟨n,t,T⟩:=s;obtain ⟨i,b1,p,b3,U,b5,b7,I,J⟩:=R;have p:T=(i:Int):=p;subst p;have I:t.length<=3*i:=I;unfold rp;refine bu.bif (λe=> ?_) λe=>ι (.inr ⟨_,rfl,by show t.length<=39;omega,J⟩);have e:(i:Int)<13:=of_decide_eq_true e;refine Ζ ⟨by show 0<=(i:Int);omega,e⟩ (χ (Ru (i:=i) (by omega) n 0 n U b5 b7 (by omega) J) λr j=>ι (.inl ⟨13 - (i+1),_,by omega,rfl,i+1,by omega,ca (n:=1000) (by omega) (by omega),rfl,j.1,j.2.1,j.2.2.1,by have:=j.2.2.2.1;show r.2.length<=_;omega,j.2.2.2.2⟩))
def wJ (n:Nat)(r:List Int):Prop:=r.length=n/\ ∀x∈r,fg x
theorem wJ.set {n:Nat}{r:List Int}(h:wJ n r){i:Nat}{x:Int}(o:fg x):wJ n (r.set i x):=⟨by rw [ϙ];exact h.1,λy j=>by
 rcases aa4 j with j|rfl
 exact h.2 _ j;exact o⟩
theorem wJ.get {n:Nat}{r:List Int}(h:wJ n r)(i:Nat):fg (r.getD i 0):=by
 by_cases j:i<r.length;exact h.2 _ (cf j);rw [ψ,aab (by omega)];exact ⟨by decide,by decide⟩
theorem OC {x y:Int}(j:fg x)(o:fg y):fg (if x<y then x else y):=by split;exact j;exact o
theorem KU {a b:List UInt8}(ha:a.length<=48)(hb:b.length<=48)(x y z:Int):bu (λr=>r.length=a.length+1/\ ∀q∈r,wJ (b.length+1) q) (mj a b x y z):=by
 have R:bz .i64 (bn b) 1=((b.length+1:Nat):Int):=ca (n:=1000) (by omega) (by omega);have U:bz .i64 (bn a) 1=((a.length+1:Nat):Int):=ca (n:=1000) (by omega) (by omega);unfold mj;refine χ (P:=λr=>r.length=a.length+1/\ ∀q∈r,wJ (b.length+1) q) (bu.for_ (a.length+1) (λi v=>v.length=i/\ ∀q∈v,wJ (b.length+1) q) (by omega) (λi v hi T=> ?_) (λv T=> ?_) ⟨rfl,λq o=>by cases o⟩) λr t=>ι t;obtain ⟨v1,v2⟩:=T;have I: ∀k,k<v.length->wJ (b.length+1) (v.getD k []):=λk hk=>v2 _ (cf hk);unfold mi;simp only [R,U,show decide ((i:Int)<((a.length+1:Nat):Int))=true from decide_eq_true (by omega),cond_true,guard_pos (show (0:Int)<=((b.length+1:Nat):Int)/\((b.length+1:Nat):Int)<=4294967296 by omega),Α,ca hi (show a.length+1<=4294967296 by omega)];refine χ (P:=wJ (b.length+1)) (bu.for_ (b.length+1) (λ_ q=>wJ (b.length+1) q) (by omega) (λj q hj o=> ?_) (λq o=> ?_) ⟨ϗ,λx p=>by rw [(List.mem_replicate.1 p).2];exact ⟨by decide,by decide⟩⟩) λq o=> ?_;have hql:=o.1;have q1:(0:Int)<=(j:Int)/\(j:Int)<bn q:=⟨by omega,by simp only [bn];omega⟩;unfold mh;simp only [R,Α,show decide ((j:Int)<bn (υ (b.length+1) (0:Int)))=true from kn (by rw [ϗ];exact hj),cond_true,guard_pos q1,ca hj (show b.length+1<=4294967296 by omega)];refine χ (P:=wJ (b.length+1)) (bu.bif (λ_=>ι (o.set (rq _))) λJ=>bu.bif (λ_=>ι (o.set (rq _))) λe2=> ?_) λr t=>ι ⟨r,rfl,t⟩;have J:((i:Int)==0)=false:=J;have J: ¬(i:Int)=0:=by simpa using J
 have e2: ¬(j:Int)=0:=by simpa using e2
 have p1:bW .i64 (i:Int) 1=((i - 1:Nat):Int):=by rw [gE (by omega)];omega
 have p2:bW .i64 (j:Int) 1=((j - 1:Nat):Int):=by rw [gE (by omega)];omega
 have t:=I (i - 1) (by omega);have Uz:=t.1;have g1:(0:Int)<=((i - 1:Nat):Int)/\((i - 1:Nat):Int)<bn v:=⟨by omega,by simp only [bn];omega⟩;have g2:(0:Int)<=((j - 1:Nat):Int)/\((j - 1:Nat):Int)<bn (v.getD (i - 1) []):=⟨by omega,by simp only [bn];omega⟩;have g3:(0:Int)<=((i - 1:Nat):Int)/\((i - 1:Nat):Int)<bn a:=⟨by omega,by simp only [bn];omega⟩;have g4:(0:Int)<=((j - 1:Nat):Int)/\((j - 1:Nat):Int)<bn b:=⟨by omega,by simp only [bn];omega⟩;have g5:(0:Int)<=(j:Int)/\(j:Int)<bn (v.getD (i - 1) []):=⟨by omega,by simp only [bn];omega⟩;have g6:(0:Int)<=((j - 1:Nat):Int)/\((j - 1:Nat):Int)<bn q:=⟨by omega,by simp only [bn];omega⟩;simp only [p1,p2,guard_pos g1,Α,guard_pos g2,η,guard_pos g3,guard_pos g4,guard_pos g5,guard_pos g6];refine χ (P:=fg) (bu.bif (λ_=>ι (rq _)) λ_=>ι (t.get _)) λw hw=>ι (o.set (OC (rq _) (OC (rq _) hw)));unfold mh;simp only [R,Α,show decide (((b.length+1:Nat):Int)<bn (υ (b.length+1) (0:Int)))=false from ky (by rw [ϗ];omega),cond_false];exact ι ⟨_,rfl,o⟩;rw [cu (by omega)];exact ι ⟨_,rfl,by simp [v1],λx p=>by
  rcases Λ.1 p with p|p
  exact v2 x p;rw [ϊ.1 p];exact o⟩
 unfold mi;simp only [U,show decide (((a.length+1:Nat):Int)<((a.length+1:Nat):Int))=false from decide_eq_false (by omega),cond_false];exact ι ⟨_,rfl,T⟩
theorem BW (a b:List UInt8)(x y z:Int):bu (λr=>fg r.1) (nm a b x y z):=by
 unfold nm pH pQ;simp only [nI (show [x,y,z].length<=4294967296 by show 3<=_;omega),η];refine χ (P:=λr=>r=false->a.length<=48/\b.length<=48) (bu.bif (λ_=>ι (λe=>by cases e)) λe=>bu.bif (λ_=>ι (λe=>by cases e)) λo=>ι λ_=> ?_) λr j=> ?_;have e:bn a<=48:=by simpa using e
 have o:bn b<=48:=by simpa using o
 simp only [bn] at e o;omega;refine bu.bif (λ_=>ι ⟨by decide,by decide⟩) λe=> ?_;obtain ⟨t,I⟩:=j e;refine χ (KU t I x y z) λv p=> ?_;have j:=p.2 _ (cf (i:=a.length) (d:=[]) (by omega));have J:=j.1;have R:=p.1;refine Ζ ⟨by simp only [bn];omega,by simp only [bn];omega⟩ (Ζ ⟨by simp only [bn];omega,?_⟩ (ι (j.get _)));show ((b.length:Nat):Int)<(((v.getD a.length []).length:Nat):Int);omega
end Go.Proofs
namespace Go.Proofs
open Go.Ide Go.IntWalk
def yV (w:List Int):Prop:=w.length<=12/\ ∀x∈w,0<=x/\x<8
section
variable {m c:Nat} {zs:List Q4} {ss es:List Int} (h:pk m c zs ss es)
include h
theorem rV {xs:List Int}(j:xs.length=m):bu (λr=>r.length=m) (ft xs):=by
 obtain ⟨r,e,o⟩:=rb (xs:=xs) (by have:=h.m2;omega);exact ⟨r,e,by omega⟩
theorem DO {cs:List Int}(j:cs.length=m)(a:Int):bu (λr=>r.length=m) (mQ ((m:Int),(c:Int),zs,ss,es) cs a):=G3 h j a
theorem BX:bu (λr=>r.length=m) (ni ((m:Int),(c:Int),zs,ss,es)):=by
 have h1:=h.zl;have h4:=h.m2;have J:=h.el;unfold ni;refine χ (rV h J) λy R=>χ (P:=λr=>r.length=m) (bu.for_ y.length (λ_ v=>v.length=m) (by omega) (λi v I t=> ?_) (λv t=> ?_) R) λr T=>ι T;unfold mS;simp only [show decide ((i:Int)<bn y)=true from kn I,cond_true,ca I (show y.length<=4294967296 by omega)];refine χ (P:=λr=>r.length=m) (bu.for_ zs.length (λ_ v=>v.length=m) (by omega) (λj q p o=> ?_) (λq o=> ?_) t) λq o=>ι ⟨q,rfl,o⟩;obtain ⟨U,a2,_⟩:=h.zH _ (cf (d:=(0,0,0,0)) p);unfold mR;simp only [show decide ((j:Int)<bn zs)=true from kn p,cond_true,guard_pos (eO p),η,Α,ca p (show zs.length<=4294967296 by omega)];exact Ζ ⟨U.1,by simp only [bn];omega⟩ (Ζ ⟨a2.1,by simp only [bn];omega⟩ (ι ⟨_,rfl,by rw [ϙ];exact o⟩));unfold mR;simp only [show decide (((zs.length:Nat):Int)<bn zs)=false from ky (ς _),cond_false];exact ι ⟨_,rfl,o⟩;unfold mS;simp only [show decide (((y.length:Nat):Int)<bn y)=false from ky (ς _),cond_false];exact ι ⟨_,rfl,t⟩
theorem rW:bu (λr=>r.length=m) (fe ((m:Int),(c:Int),zs,ss,es)):=by
 unfold fe;exact χ (rV h h.sl) λy j=>χ (uU h j) λr o=>ι o
end
section
variable {m c:Nat} {zs:List Q4} {ss es:List Int} (h:pk m c zs ss es)
include h
theorem zK:bu (λr=>r.length<=13/\ ∀q∈r,q.length=m) (l7 ((m:Int),(c:Int),zs,ss,es)):=by
 have h1:=h.zl;have h4:=h.m2;have h5:=h.m1;have h6:=h.c2;obtain ⟨zs',e,hB⟩:=G4 h;unfold l7;rw [e,η];refine χ (rW hB) λy3 h3=>χ (P:=λr=>r.length<=13/\ ∀q∈r,q.length=m) (bu.for_ 12 (λi v=>v.length=i+1/\ ∀q∈v,q.length=m) (by omega) (λi v hi J=> ?_) (λv J=> ?_) ⟨rfl,λq o=>by rw [ϊ.1 o];exact h3⟩) λr R=>ι R;obtain ⟨v1,v2⟩:=J;obtain ⟨yu,T,U⟩:=vF (n:=m) h5 (by omega);have t:=v2 _ (cf (i:=i) (d:=[]) (by omega));unfold l6;simp only [show decide ((i:Int)<12)=true from decide_eq_true (by omega),cond_true,T,η,ca hi (show 12<=4294967296 by omega)];refine χ (P:=λr=>r.length=m) (bu.for_ c (λ_ q=>q.length=m) (by omega) (λj q hj o=> ?_) (λq o=> ?_) U) λq o=> ?_;unfold l5;simp only [show decide ((j:Int)<(c:Int))=true from decide_eq_true (by omega),cond_true,guard_pos (show (0:Int)<=(i:Int)/\(i:Int)<bn v from ⟨by omega,by simp only [bn];omega⟩),Α,ca hj (show c<=4294967296 by omega)];refine χ (DO hB t _) λp h23=>χ (P:=λr=>r.length=m) (bu.for_ p.length (λ_ q=>q.length=m) (by omega) (λk q hk o=> ?_) (λq o=> ?_) o) λr R=>ι ⟨r,rfl,R⟩;unfold l4;simp only [show decide ((k:Int)<bn p)=true from kn hk,cond_true,guard_pos (eO hk),guard_pos (show (0:Int)<=(k:Int)/\(k:Int)<bn q from ⟨by omega,by simp only [bn];omega⟩),ca hk (show p.length<=4294967296 by omega)];exact ι ⟨_,rfl,by rw [ϙ];exact o⟩;unfold l4;simp only [show decide (((p.length:Nat):Int)<bn p)=false from ky (ς _),cond_false];exact ι ⟨_,rfl,o⟩;unfold l5;simp only [show decide ((c:Int)<(c:Int))=false from decide_eq_false (by omega),cond_false];exact ι ⟨_,rfl,o⟩;rw [cu (by omega)];exact ι ⟨_,rfl,by simp [v1],λx I=>by
  rcases Λ.1 I with I|I
  exact v2 x I;rw [ϊ.1 I];exact o⟩
 unfold l6;simp only [show decide (((12:Nat):Int)<12)=false from rfl,cond_false];exact ι ⟨_,rfl,by omega,J.2⟩
theorem BY:bu (λr=>yV r.1/\fg r.2.1) (nj ((m:Int),(c:Int),zs,ss,es)):=by
 have h4:=h.m2;have h6:=h.c2;unfold nj;simp only [h.valid,η,ϔ,cond_false];refine χ (rV h h.sl) λy4 J=>χ (BX h) λy6 h6'=>χ (sQ h J h6') λy8 h8=>χ (zK h) λj YJ=> ?_;obtain ⟨r1,r2⟩:=YJ;refine χ (P:=λr=> -1<=r/\r<bn j) ?_ λI h12=>χ (P:=λr=>r=false->0<=I) (bu.bif (λ_=>ι (λe=>by cases e)) λ_=>ι (λe=>by simpa using e)) λv15 YK=>bu.bif (λ_=>ι ⟨⟨ϟ _,λx o=>by cases o⟩,⟨by decide,by decide⟩⟩) λe15=> ?_;unfold dI;refine χ (P:=λr=> ∀x,r=Sum.inr x->0<=x/\x<bn j) (Ϸ (λd s=> ∃i:Nat,s=(i:Int)/\i<=j.length/\d=j.length - i) (λd s R=> ?_) (n:=j.length) ⟨0,rfl,ϟ _,rfl⟩) λr p=> ?_;obtain ⟨i,rfl,U,b2⟩:=R;unfold fa;refine bu.bif (λe=> ?_) λe=>ι (.inr ⟨_,rfl,λx o=>by cases o⟩);have e:(i:Int)<bn j:=of_decide_eq_true e;have e':i<j.length:=by simp only [bn] at e;omega
 refine Ζ ⟨by omega,e⟩ (χ (P:=λ_=>True) ?_ λb _=>bu.bif (λ_=>ι (.inr ⟨_,rfl,λx o=>by cases o;exact ⟨by omega,e⟩⟩)) λ_=>ι (.inl ⟨j.length - (i+1),_,by omega,rfl,i+1,ca (n:=1000) (by omega) (by omega),by omega,rfl⟩));unfold nU;exact χ (sQ h J (r2 _ (cf e'))) λ_ _=>ι trivial;cases r with
 |inl x=>exact ι ⟨by omega,by simp only [bn];omega⟩
 |inr x=>exact ι ⟨by have:=(p x rfl).1;omega,(p x rfl).2⟩
 obtain ⟨k,hk⟩: ∃k:Nat,I=(k:Int):=⟨I.toNat,by have:=YK e15;omega⟩;subst hk;have hkl:k<j.length:=by have:=h12.2;simp only [bn] at this;omega
 refine χ (rW h) λTF YL=>χ (P:=yV) (Ϸ (λd (s:Int×List Int×List Int)=>s.1=(d:Int) - 1/\d<=k/\s.2.1.length+d<=12/\(∀x∈s.2.1,0<=x/\x<8)/\s.2.2.length=m) (λd s R=> ?_) (n:=k) ⟨by show bW .i64 (k:Int) 1=_;exact gE (by omega),ς _,by show 0+k<=12;omega,(λx o=>by cases o),YL⟩) λr p=>ι ⟨p,h8⟩;obtain ⟨t,w,cs⟩:=s;obtain ⟨U,b2,b3,b4,b5⟩:=R;have U:t=(d:Int) - 1:=U;subst U;have b3:w.length+d<=12:=b3;have b5:cs.length=m:=b5;unfold qo;refine bu.bif (λe=> ?_) λe=>ι (.inr ⟨_,rfl,by show w.length<=12;omega,b4⟩);have e:(d:Int) - 1>=0:=of_decide_eq_true e;refine χ (P:=λr=>r.1.length<=w.length+1/\(∀x∈r.1,0<=x/\x<8)/\r.2.length=m) (Ϸ (λf s=> ∃i:Nat,s=(i:Int)/\i<=c/\f=c - i) (λf s R=> ?_) (n:=c) ⟨0,rfl,ϟ _,rfl⟩) λr p=>ι (.inl ⟨d - 1,_,by omega,rfl,?_,by omega,by have:=p.1;show r.1.length+(d - 1)<=12;omega,p.2.1,p.2.2⟩);obtain ⟨i,rfl,p1,p2⟩:=R;unfold qn;refine bu.bif (λe2=> ?_) λ_=>ι (.inr ⟨_,rfl,Nat.le_succ _,b4,b5⟩);have e2:(i:Int)<(c:Int):=of_decide_eq_true e2;refine χ (DO h b5 _) λXC T=>Ζ ⟨e,by show (d:Int) - 1<_;simp only [bn];omega⟩ (χ (sQ h T (r2 _ (cf (by show ((d:Int) - 1).toNat<_;omega)))) λXh _=>bu.bif (λ_=> ?_) λ_=>ι (.inl ⟨c - (i+1),_,by omega,rfl,i+1,ca (n:=1000) (by omega) (by omega),by omega,rfl⟩));rw [cu (by show w.length<=_;omega)];exact ι (.inr ⟨_,rfl,by simp,λx o=>by
  rcases Λ.1 o with o|o
  exact b4 x o;rw [ϊ.1 o];omega,T⟩)
 show bW .i64 ((d:Int) - 1) 1=((d - 1:Nat):Int) - 1;rw [gE (by omega)];omega
end
end Go.Proofs
namespace Go.Proofs
open Go.Ide Go.IntWalk
noncomputable def KV (j:yS×List Int×List Int×Int->Option (List Int))(x:yS×List Int×List Int×Int):Option (List Int):=cJ j x.1 x.2.1 x.2.2.1 x.2.2.2
section
variable {n c:Nat} {rs:List Q4} (h:rU n c rs)
include h
theorem yW {p cs:List Int}{k:Nat}(hp:p.length=n)(U:cs.length=n){o:Nat->Nat}(I: ∀s,s<n->0<=cs.getD s 0->o s<k/\(0<=p.getD s 0/\p.getD s 0<bn rs)/\(0<=(rs.getD (p.getD s 0).toNat (0,0,0,0)).2.2.1->(0<=cs.getD (δ (rs.getD (p.getD s 0).toNat (0,0,0,0)).2.1) 0/\o (δ (rs.getD (p.getD s 0).toNat (0,0,0,0)).2.1)<o s)/\0<=cs.getD (δ (rs.getD (p.getD s 0).toNat (0,0,0,0)).2.2.1) 0/\o (δ (rs.getD (p.getD s 0).toNat (0,0,0,0)).2.2.1)<o s)):
 ∀(r:Nat) (s:Int),r<=8->0<=s->s<(n:Int)->0<=cs.getD s.toNat 0->o s.toNat<r-> ∃w:List Int,w.length<=2^r/\(∀x∈w,0<=x/\x<8)/\ ∀f,r<=f-> ∀out:List Int,out.length+2^r<=500000->
  wc KV f (((n:Int),(c:Int),rs),out,p,s)=some (out++w)
 |0,s,_,_,_,_,hk=>by omega
 |r+1,s,h8,h0,h1,h2,hk=>by
  have sU:=h.n2;have vt:=h.c2;obtain ⟨a1,⟨J,R⟩,a4⟩:=I s.toNat (by omega) h2;have t:=oC h J R;obtain ⟨g1,g2⟩:=sP h t;obtain ⟨_,_,_,g3,g4,_⟩:=t;have p8:2^r<=128:=Nat.pow_le_pow_right (i:=r) (n:=2) (by omega) (show r<=7 by omega);have p7:1<=2^r:=agc;have p9:2^(r+1)=2^r+2^r:=by rw [Nat.pow_succ];omega
  have hs:(0:Int)<=s/\s<bn p:=⟨h0,by simp only [bn];omega⟩;generalize hq:rs.getD (p.getD s.toNat 0).toNat (0,0,0,0)=q at g1 g2 g3 g4 a4;by_cases T:q.2.2.1<0;refine ⟨[q.2.1],agc,λx j=> ?_,λf hf out ho=> ?_⟩;rw [ϊ.1 j];have:=g4 T;omega;obtain _|f:=f
  omega;show cJ (wc KV f) _ _ _ _=_;unfold cJ;simp only [guard_pos hs,guard_pos (show (0:Int)<=p.getD s.toNat 0/\p.getD s.toNat 0<bn rs from ⟨J,R⟩),hq,η,decide_eq_true T,cond_true];rw [cu (by omega)];obtain ⟨⟨b1,b2⟩,b3,b4⟩:=a4 (by omega);obtain ⟨g5,g6⟩:=g2 (by omega);obtain ⟨w1,l1,v1,e1⟩:=yW hp U I r q.2.1 (by omega) g5.1 g5.2 b1 (by omega);obtain ⟨w2,l2,v2,e2⟩:=yW hp U I r q.2.2.1 (by omega) (by omega) g6 b3 (by omega);refine ⟨w1++w2,by rw [ξ,p9];omega,λx j=> ?_,λf hf out ho=> ?_⟩;rcases Λ.1 j with j|j
  exact v1 x j;exact v2 x j;obtain _|f:=f
  omega;show cJ (wc KV f) _ _ _ _=_;unfold cJ;simp only [guard_pos hs,guard_pos (show (0:Int)<=p.getD s.toNat 0/\p.getD s.toNat 0<bn rs from ⟨J,R⟩),hq,η,decide_eq_false T,cond_false];rw [e1 f (by omega) out (by omega),η,e2 f (by omega) (out++w1) (by rw [ξ];omega),η,ό]
theorem zL:bu (λr=>yV r.1/\fg r.2.1) (me ((n:Int),(c:Int),rs)):=by
 have I:=h.n1;have J:=h.n2;unfold me;simp only [h.valid,η,ϔ,cond_false];refine χ (wx h) λR T=> ?_;obtain ⟨U,j⟩:=R;obtain ⟨o,k2,rk,p⟩:=T;have o:rf n j:=o;have hl:=o.1;have t:yV []:=⟨ϟ _,λx hx=>by cases hx⟩;refine Ζ ⟨Ϫ _,by simp only [bn];omega⟩ (bu.bif (λ_=>ι ⟨t,⟨by decide,by decide⟩⟩) λe=> ?_);have e: ¬j.getD 0 0<0:=of_decide_eq_false e;obtain ⟨w,l1,v1,e1⟩:=yW h k2 hl p 8 0 (by omega) (by omega) (by omega) (by show 0<=j.getD 0 0;omega) (by have:=(p 0 (by omega) (show 0<=j.getD 0 0 by omega)).1;show rk 0<8;omega);have e2:fb ((n:Int),(c:Int),rs) [] U 0=some w:=by
  unfold fb;exact Di.2 ⟨8,λf hf=>e1 f hf [] (by decide)⟩
 rw [e2,η];refine bu.bif (λ_=>ι ⟨t,⟨by decide,by decide⟩⟩) λe=>ι ⟨⟨?_,v1⟩,?_⟩;have e: ¬bn w>12:=of_decide_eq_false e;simp only [bn] at e;show w.length<=12;omega;have:=vG h o (i:=0);exact ⟨by show _<=j.getD 0 0;omega,by show j.getD 0 0<=_;omega⟩
end
end Go.Proofs
namespace Go.Proofs
open Go.Ide Go.IntWalk
def LW (c:Nat)(w:List Int):Prop:= ∀x∈w,0<=x/\x<(c:Int)
theorem LW.nil {c:Nat}:LW c []:=λx j=>by cases j
theorem LW.snoc {c:Nat}{w:List Int}{a:Int}(h:LW c w)(o:0<=a/\a<(c:Int)):LW c (w++[a]):=λx j=>by
 rcases Λ.1 j with j|j
 exact h x j;rw [ϊ.1 j];exact o
theorem vJ {c:Nat}{nx w:List Int}{s:Nat}{a:Int}:cB c nx s (w++[a])=BH c nx (cB c nx s w) a:=by unfold cB;rw [List.foldl_append];rfl
section
variable {m c:Nat} {nx:List Int} {es:List Bool} (h:dF m c nx es)
include h
theorem YM {s:Nat}{a:Int}(j:s<m)(o:0<=a/\a<(c:Int)):cP ((m:Int),(c:Int),nx,es) (s:Int) a=some ((BH c nx s a:Nat):Int):=GX h.plain j (k:=a.toNat) (by omega) (by omega)
theorem goL {s:Nat}{a:Int}(j:s<m)(o:0<=a/\a<(c:Int)):BH c nx s a<m:=Ko h.plain j (k:=a.toNat) (by omega) (by omega)
theorem uW {w:List Int}(j:LW c w){s:Nat}(o:s<m):cB c nx s w<m:=by
 induction w generalizing s with
 |nil=>exact o
 |cons a w ih=>exact ih (λx p=>j x (ύ _ p)) (goL h o (j a (by simp)))
theorem vK {f:Int×Int->Option ((Int×Int)⊕Int)}{w:List Int}(t:LW c w)(hl:w.length<=1000){s:Nat}(I:s<m)(J: ∀(v:Int) (i:Nat),i<w.length->f (v,(i:Int))=(cP ((m:Int),(c:Int),nx,es) v (w.getD i 0)).bind λy=>some (.inl (y,((i+1:Nat):Int))))(T: ∀v:Int,f (v,(w.length:Int))=some (.inr v)):rounds f ((s:Int),(0:Int))=some ((cB c nx s w:Nat):Int):=by
 obtain ⟨r,e,U⟩:=bu.DI (f:=f) (R:=λr=>r=((cB c nx s w:Nat):Int)) w.length (λi v=>v=((cB c nx s (w.take i):Nat):Int)) (by omega) (λi v j o=>by
  subst o;have p:=t _ (cf (d:=0) j);rw [J _ _ j,YM h (uW h (λx p=>t x (ado p)) I) p,η];exact ι ⟨_,rfl,by rw [HS j]⟩) (λv o=>by
  subst o;rw [T,aan];exact ι ⟨_,rfl,rfl⟩) (v:=(s:Int)) rfl
 rw [e,U]
theorem FQ {w:List Int}(o:LW c w)(p:w.length<=1000):iK ((m:Int),(c:Int),nx,es) w=some ((cB c nx 0 w:Nat):Int):=by
 have:=h.facts.1;have e:=vK h (f:=ey ((m:Int),(c:Int),nx,es) w) o p (s:=0) (by omega) (λv i j=>by
  unfold ey;simp only [show decide ((i:Int)<bn w)=true from kn j,cond_true,guard_pos (eO j),Α,ca j (show w.length<=4294967296 by omega)]) (λv=>by
  unfold ey;simp only [show decide (((w.length:Nat):Int)<bn w)=false from ky (ς _),cond_false])
 have e:rounds (ey ((m:Int),(c:Int),nx,es) w) ((0:Int),(0:Int))=_:=e;unfold iK;rw [e];rfl
theorem KW {w:List Int}(o:LW c w)(p:w.length<=1000):fB ((m:Int),(c:Int),nx,es) w=some (es.getD (cB c nx 0 w) false):=by
 obtain ⟨t,I,J,R,T,U,_⟩:=h.facts;have e:=vK h (f:=c6 ((m:Int),(c:Int),nx,es) w) o p (s:=0) (by omega) (λv i j=>by
  unfold c6;simp only [show decide ((i:Int)<bn w)=true from kn j,cond_true,guard_pos (eO j),Α,ca j (show w.length<=4294967296 by omega)]) (λv=>by
  unfold c6;simp only [show decide (((w.length:Nat):Int)<bn w)=false from ky (ς _),cond_false])
 have e:rounds (c6 ((m:Int),(c:Int),nx,es) w) ((0:Int),(0:Int))=_:=e;have r:=uW h o (s:=0) (by omega);unfold fB;rw [e,η,guard_pos (by simp only [bn];omega)];rfl
end
abbrev yX:=Int×Int
theorem UA {ns:List (yX×Bool)}(o: ∀p∈ns,p.2=true)(k:Int×Int):cr (t:= .st (cH .i64 1)) (u:= .bool) ns k=some true\/(cr (t:= .st (cH .i64 1)) (u:= .bool) ns k=none/\ ∀p∈ns,p.1≠k):=by
 induction ns with
 |nil=>exact .inr ⟨rfl,λp hp=>by cases hp⟩
 |cons q ns ih=>
  have e:cr (t:= .st (cH .i64 1)) (u:= .bool) (q::ns) k=if (decide (q.1.1=k.1)&&decide (q.1.2=k.2))=true then some q.2 else cr (t:= .st (cH .i64 1)) (u:= .bool) ns k:=rfl
  by_cases j:(decide (q.1.1=k.1)&&decide (q.1.2=k.2))=true;exact .inl (e.trans ((if_pos j).trans (congrArg some (o q (by simp)))));rcases ih (λp hp=>o p (ύ _ hp)) with h|⟨h,r⟩
  exact .inl (e.trans ((if_neg j).trans h));refine .inr ⟨e.trans ((if_neg j).trans h),λp hp=> ?_⟩;rcases ϖ.1 hp with rfl|hp
  intro e;subst e;simp at j;exact r p hp
def uX:List (Int×Int):=(abD 64).flatMap λx:Nat=>(abD 64).map λy:Nat=>(Int.ofNat x,Int.ofNat y)
theorem BZ:uX.length=4096:=by decide+kernel
theorem B0 {x y:Int}(j:0<=x/\x<64)(o:0<=y/\y<64):(x,y)∈uX:=by
 unfold uX;rw [List.mem_flatMap];exact ⟨x.toNat,ab7.2 (by omega),Ϣ.2 ⟨y.toNat,ab7.2 (by omega),by show (((x.toNat:Nat):Int),((y.toNat:Nat):Int))=_;rw [aai j.1,aai o.1]⟩⟩
section
variable {m c n:Nat} {nx ny:List Int} {es et:List Bool} (h:dF m c nx es) (g:dF n c ny et)
include h g
structure QI (c:Nat)(nx ny:List Int)(q:List ((Int×Int)×List Int))(sn:List (yX×Bool)):Prop where
 sn:sn=q.map λe=>(e.1,true)
 nd:(q.map Prod.fst).Nodup
 el: ∀e∈q,e.2.length<=12/\LW c e.2/\e.1=(((cB c nx 0 e.2:Nat):Int),((cB c ny 0 e.2:Nat):Int))
theorem QI.len {q:List ((Int×Int)×List Int)}{r:List (yX×Bool)}(j:QI c nx ny q r):q.length<=4096:=by
 have J:=h.facts;have R:=g.facts;have:(q.map Prod.fst).length<=uX.length:=j.nd.length_le_of_subset λp hp=>by
  obtain ⟨e,t,rfl⟩:=Ϣ.1 hp;obtain ⟨_,o,I⟩:=j.el e t;have T:=uW h o (s:=0) (by omega);have U:=uW g o (s:=0) (by omega);rw [I];exact B0 (by omega) (by omega)
 rw [BZ,Ϝ] at this;exact this
omit h g in
theorem QI.add {q:List ((Int×Int)×List Int)}{r:List (yX×Bool)}(o:QI c nx ny q r){w:List Int}(t:w.length<=12)(I:LW c w)(J: ∀p∈r,p.1≠(((cB c nx 0 w:Nat):Int),((cB c ny 0 w:Nat):Int))):
 QI c nx ny (q++[((((cB c nx 0 w:Nat):Int),((cB c ny 0 w:Nat):Int)),w)]) (r++[((((cB c nx 0 w:Nat):Int),((cB c ny 0 w:Nat):Int)),true)]):=by
 refine ⟨by rw [o.sn,aa6];rfl,?_,λe j=> ?_⟩;rw [aa6,afW];refine ⟨o.nd,by simp,λa R b T=> ?_⟩;rw [ϊ.1 T];obtain ⟨e,j,rfl⟩:=Ϣ.1 R;exact J (e.1,true) (by rw [o.sn];exact Ϣ.2 ⟨e,j,rfl⟩);rcases Λ.1 j with j|j
 exact o.el e j;rw [ϊ.1 j];exact ⟨t,I,rfl⟩
theorem Ax:bu (λr=>r.1.length<=12/\LW c r.1/\(r.2=true->es.getD (cB c nx 0 r.1) false≠et.getD (cB c ny 0 r.1) false)) (iX ((m:Int),(c:Int),nx,es) ((n:Int),(c:Int),ny,et)):=by
 obtain ⟨h3,h4,h5,h6,h7,h8,_⟩:=h.facts;obtain ⟨g3,g4,g5,g6,g7,g8,_⟩:=g.facts;unfold iX;rw [η];refine χ (P:=λr=> ∀w,r=Sum.inr w->w.length<=12/\LW c w/\es.getD (cB c nx 0 w) false≠et.getD (cB c ny 0 w) false) (Ϸ (λd (s:Int×List ((Int×Int)×List Int)×List (yX×Bool))=> ∃i:Nat,s.1=(i:Int)/\i<=s.2.1.length/\d=4096 - i/\QI c nx ny s.2.1 s.2.2) (λd s hs=> ?_) (n:=4096) ⟨0,rfl,ϟ _,rfl,rfl,by simp,λe he=>by
  rw [ϊ.1 he];exact ⟨ϟ _,LW.nil,rfl⟩⟩) λr R=> ?_
 obtain ⟨t,q,sn⟩:=s;obtain ⟨i,b1,b2,b3,I⟩:=hs;obtain rfl:t=(i:Int):=b1;have I:QI c nx ny q sn:=I;have hql:=I.len h g;unfold pa;refine bu.bif (λe=> ?_) λe=>ι (.inr ⟨_,rfl,λw T=>by cases T⟩);have e:(i:Int)<bn q:=of_decide_eq_true e;have e':i<q.length:=by simp only [bn] at e;omega
 obtain ⟨p1,J,U⟩:=I.el _ (cf (d:=(((0:Int),(0:Int)),([]:List Int))) e');simp only [Α];generalize T:(q.getD i (((0:Int),(0:Int)),([]:List Int))).2=w at p1 J U;have w1:=uW h J (s:=0) (by omega);have w2:=uW g J (s:=0) (by omega);have k1:(q.getD i (((0:Int),(0:Int)),([]:List Int))).1.1=((cB c nx 0 w:Nat):Int):=by rw [U]
 have k2:(q.getD i (((0:Int),(0:Int)),([]:List Int))).1.2=((cB c ny 0 w:Nat):Int):=by rw [U]
 simp only [k1,k2,Α];refine χ (P:=λx:((List ((Int×Int)×List Int))×(List (yX×Bool)))⊕((Int×(List ((Int×Int)×List Int))×(List (yX×Bool)))⊕(Unit⊕List Int))=>match x with
  | .inl v=>QI c nx ny v.1 v.2/\q.length<=v.1.length
  | .inr z=> ∃w,z= .inr (.inr w)/\w.length<=12/\LW c w/\es.getD (cB c nx 0 w) false≠et.getD (cB c ny 0 w) false) (Ζ ⟨by omega,e⟩ (Ζ ⟨by omega,by simp only [bn];omega⟩ (Ζ ⟨by omega,by simp only [bn];omega⟩ (bu.bif (λe2=>ι ⟨w,rfl,p1,J,by simpa using e2⟩) λ_=>bu.bif (λ_=>ι ⟨I,ς _⟩) λe3=> ?_)))) λx hx=> ?_
 have e3: ¬bn w=12:=by simpa using e3
 simp only [bn] at e3;refine χ (P:=λv=>QI c nx ny v.1 v.2/\q.length<=v.1.length) (bu.for_ c (λ_ v=>QI c nx ny v.1 v.2/\q.length<=v.1.length) (by omega) (λj v hj o=> ?_) (λv o=> ?_) ⟨I,ς _⟩) λv o=>ι o;obtain ⟨v1,v2⟩:=o;have NQ:=v1.len h g;unfold kQ;simp only [show decide ((j:Int)<(c:Int))=true from decide_eq_true (by omega),cond_true,ca hj (show c<=4294967296 by omega),Α,k1,k2,T,YM h w1 (a:=(j:Int)) (by omega),YM g w2 (a:=(j:Int)) (by omega),η,<-vJ];have e4:j8 .i64 1 0 [((cB c nx 0 (w++[(j:Int)]):Nat):Int),((cB c ny 0 (w++[(j:Int)]):Nat):Int)]=((((cB c nx 0 (w++[(j:Int)]):Nat):Int),((cB c ny 0 (w++[(j:Int)]):Nat):Int)):Int×Int):=rfl;rw [e4];refine χ (P:=λv=>QI c nx ny v.1 v.2/\q.length<=v.1.length) ?_ λv o=>ι ⟨v,rfl,o⟩;rcases UA (ns:=v.2) (λp hp=>by
  rw [v1.sn] at hp;obtain ⟨_,_,rfl⟩:=Ϣ.1 hp;rfl) ((((cB c nx 0 (w++[(j:Int)]):Nat):Int),((cB c ny 0 (w++[(j:Int)]):Nat):Int))) with hf|⟨hf,hn⟩
 rw [hf];exact ι ⟨v1,v2⟩;rw [hf];refine Ζ rfl ?_;rw [dZ (by omega),η,cu (by omega),cu (by omega)];exact ι ⟨v1.add (by simp;omega) (J.snoc (by omega)) hn,by simp;omega⟩;unfold kQ;simp only [show decide ((c:Int)<(c:Int))=false from decide_eq_false (by omega),cond_false];exact ι ⟨_,rfl,o⟩;cases x with
 |inl v=>
  obtain ⟨v1,v2⟩:=hx;exact ι (.inl ⟨4096 - (i+1),_,by omega,rfl,i+1,ca (n:=100000) (by omega) (by omega),by show i+1<=v.1.length;omega,rfl,v1⟩)
 |inr z=>
  obtain ⟨w,rfl,hz⟩:=hx;exact ι (.inr ⟨_,rfl,λw' N1=>by cases N1;exact hz⟩)
 cases r with
 |inl x=>exact ι ⟨ϟ _,LW.nil,λe=>by cases e⟩
 |inr w=>exact ι ⟨(R w rfl).1,(R w rfl).2.1,λ_=>(R w rfl).2.2⟩
end
theorem zM {m c:Nat}{nx:List Int}{es:List Bool}(h:dF m c nx es):bu (λr=>yV r.1) (l8 ((m:Int),(c:Int),nx,es)):=by
 obtain ⟨J,R,o,p,T,U,_⟩:=h.facts;have t:(υ c (0:Int)).length=c:=ϗ;have g:dF 1 c (υ c 0) [false]:=⟨q9 (by omega) (by omega) o p (by omega) rfl λi hi=>by
  rw [abT (cf (d:=0) (show i<(υ c (0:Int)).length by omega))];omega,by omega⟩
 unfold l8;simp only [h.valid,η,ϔ,cond_false];refine Ζ ⟨by omega,by omega⟩ ?_;rw [Α];exact χ (Ax h g) λr j=>ι ⟨j.1,λx I=>by have:=j.2.1 x I;omega⟩
end Go.Proofs
namespace Go.Proofs
open Go.Ide Go.IntWalk
def rX (c:Nat)(nx:List Int)(es:List Bool)(s:Nat)(w:List Int):Bool:=es.getD (cB c nx s w) false
def DP (b:Bool):Int:=bif b then 49 else 48
def B3 (c:Nat)(nx:List Int)(es:List Bool)(T:List (List Int))(s:Nat):List UInt8:=gy (T.map λt=>DP (rX c nx es s t))
def eqv (c:Nat)(nx:List Int)(es:List Bool)(T:List (List Int))(s r:Nat):Prop:= ∀t∈T,rX c nx es s t=rX c nx es r t
theorem B4 {c:Nat}{nx:List Int}{es:List Bool}{T:List (List Int)}{s r:Nat}:B3 c nx es T s=B3 c nx es T r↔eqv c nx es T s r:=by
 unfold B3 gy eqv;induction T with
 |nil=>simp
 |cons t T ih=>
  simp only [List.map_cons,List.cons.injEq,ih,List.forall_mem_cons];refine and_congr_left λ_=> ?_;cases rX c nx es s t<;>cases rX c nx es r t<;>decide
theorem yY {ns:List (List UInt8×Int)}{k:List UInt8}{v:Int}(h:cr (t:= .str) (u:=tI) ns k=some v): ∃p∈ns,p.1=k/\p.2=v:=by
 induction ns with
 |nil=>cases h
 |cons p ns ih=>
  have h:(if yl .str p.1 k then some p.2 else cr (t:= .str) (u:=tI) ns k)=some v:=h;split at h;rename_i e;injection h with h;exact ⟨p,by simp,by unfold yl at e;simpa using e,h⟩;obtain ⟨q,j,e⟩:=ih h;exact ⟨q,ύ _ j,e⟩
theorem FR {ns:List (List UInt8×Int)}{k:List UInt8}(h:cr (t:= .str) (u:=tI) ns k=none): ∀p∈ns,p.1≠k:=by
 induction ns with
 |nil=>intro p hp;cases hp
 |cons q ns ih=>
  have h:(if yl .str q.1 k then some q.2 else cr (t:= .str) (u:=tI) ns k)=none:=h;split at h;cases h;rename_i e;intro p hp;rcases ϖ.1 hp with rfl|hp
  intro q;exact e (by unfold yl;simpa using q);exact ih h p hp
theorem KX {ns:List (List UInt8×Int)}{k:List UInt8}(h: ∀p∈ns,p.1≠k):cr (t:= .str) (u:=tI) ns k=none:=by
 cases e:cr (t:= .str) (u:=tI) ns k with
 |none=>rfl
 |some v=>obtain ⟨p,hp,j,_⟩:=yY e;exact absurd j (h p hp)
theorem Ia {xs ys:List Int}(h:xs.length<=1000000):bu (λb=>b=true->xs=ys) (cm xs ys):=by
 unfold cm;refine bu.bif (λ_=>ι λe=>by cases e) λe=> ?_;have e:bn xs=bn ys:=by simpa using e
 have o:xs.length=ys.length:=by simp only [bn] at e;omega
 refine χ (P:=λr=> ∀x,r=Sum.inl x->xs=ys) (Ϸ (λd s=> ∃i:Nat,s=(i:Int)/\i<=xs.length/\d=xs.length - i/\ ∀k,k<i->xs.getD k 0=ys.getD k 0) (λd s t=> ?_) (n:=xs.length) ⟨0,rfl,ϟ _,rfl,λk I=>by omega⟩) λr J=> ?_;obtain ⟨i,rfl,b1,b2,p⟩:=t;unfold de;refine bu.bif (λe=> ?_) λe=>ι (.inr ⟨_,rfl,λx _=> ?_⟩);have e:(i:Int)<bn xs:=of_decide_eq_true e;have o:i<xs.length:=by simp only [bn] at e;omega
 refine Ζ ⟨by omega,e⟩ (Ζ ⟨by omega,by simp only [bn];omega⟩ (bu.bif (λ_=>ι (.inr ⟨_,rfl,λx R=>by cases R⟩)) λT=>ι (.inl ⟨xs.length - (i+1),_,by omega,rfl,i+1,ca (n:=1000000) (by omega) (by omega),by omega,rfl,λk I=> ?_⟩)));by_cases j:k=i;subst j;simpa using T;exact p k (by omega);have e: ¬(i:Int)<bn xs:=of_decide_eq_false e;simp only [bn] at e;refine List.ext_getElem o λk U h2=> ?_;have:=p k (by omega);rwa [ψ,ψ,Γ U,Γ h2] at this;cases r with
 |inl x=>exact ι λ_=>J x rfl
 |inr x=>exact ι λe=>by cases e
def tj (c:Nat)(T:List (List Int)):Prop:= ∀t∈T,LW c t/\t.length<=12
section
variable {m c:Nat} {nx:List Int} {es:List Bool} (h:dF m c nx es)
include h
theorem Ay {w:List Int}(I:LW c w)(U:w.length<=1000){T:List (List Int)}(hT:tj c T)(hn:T.length<=10000):nH ((m:Int),(c:Int),nx,es) w T=some (B3 c nx es T (cB c nx 0 w)):=by
 obtain ⟨h3,h4,h5,h6,h7,h8,_⟩:=h.facts;have o:=uW h I (s:=0) (by omega);unfold nH;rw [FQ h I U,η];obtain ⟨r,e,rfl⟩:bu (λr=>r=T.map λt=>DP (rX c nx es (cB c nx 0 w) t)) (rounds (ma ((m:Int),(c:Int),nx,es) T ((cB c nx 0 w:Nat):Int)) ((0:Int),([]:List Int))):=by
  refine bu.for_ T.length (λi v=>v=(T.take i).map λt=>DP (rX c nx es (cB c nx 0 w) t)) (by omega) (λi v j p=> ?_) (λv p=> ?_) rfl;have aa:v.length<=10000:=by rw [p,Ϝ,ώ];omega
  obtain ⟨J,t2⟩:=hT _ (cf (d:=[]) j);have e:=vK h (f:=l9 ((m:Int),(c:Int),nx,es) T ((i:Int),v)) J (by omega) o (λv i j=>by
   unfold l9;simp only [Α];simp only [show decide ((i:Int)<bn _)=true from kn j,cond_true,guard_pos (eO j),ca j (show _<=4294967296 by omega)]) (λv=>by
   unfold l9;simp only [Α];simp only [show decide ((((T.getD i []).length:Nat):Int)<bn (T.getD i []))=false from ky (ς _),cond_false])
  have R:=uW h J o;unfold ma;simp only [show decide ((i:Int)<bn T)=true from kn j,cond_true,guard_pos (eO j),ca j (show T.length<=4294967296 by omega)];rw [e,η,guard_pos (show (0:Int)<=((cB c nx (cB c nx 0 w) (T.getD i []):Nat):Int)/\((cB c nx (cB c nx 0 w) (T.getD i []):Nat):Int)<bn es from ⟨by omega,by simp only [bn];omega⟩),cu (by omega),cu (by omega),Α];have hs:v++[DP (rX c nx es (cB c nx 0 w) (T.getD i []))]=(T.take (i+1)).map λt=>DP (rX c nx es (cB c nx 0 w) t):=by
   rw [gV j [],aa6,<-p];rfl
  refine χ (P:=λq=>q=v++[DP (rX c nx es (cB c nx 0 w) (T.getD i []))]) (bu.bif (λe=>ι ?_) λe=>ι ?_) λq hq=>ι ⟨q,rfl,by rw [hq,hs]⟩;unfold rX DP;rw [e];rfl;unfold rX DP;rw [e];rfl;unfold ma;simp only [show decide (((T.length:Nat):Int)<bn T)=false from ky (ς _),cond_false];exact ι ⟨_,rfl,by rw [p,aan]⟩
 rw [e];rfl
end
theorem j1 {α:Type}{xs:List α}{x d:α}{i:Nat}:(xs++[x]).getD i d=if i<xs.length then xs.getD i d else if i=xs.length then x else d:=by
 rw [ψ,ψ];by_cases h:i<xs.length;rw [if_pos h,List.getElem?_append_left h];rw [if_neg h,Κ (by omega)];by_cases e:i=xs.length;rw [if_pos e,e,ahP];rfl;rw [if_neg e,aab (by simp;omega)];rfl
structure WI (c:Nat)(nx:List Int)(es:List Bool)(T ws:List (List Int)):Prop where
 ne:1<=ws.length
 fst:ws.getD 0 []=[]
 lw: ∀w∈ws,LW c w/\w.length<=ws.length
 nd: ∀i j,i<ws.length->j<ws.length->eqv c nx es T (cB c nx 0 (ws.getD i [])) (cB c nx 0 (ws.getD j []))->i=j
theorem WI.len {m c:Nat}{nx:List Int}{es:List Bool}(h:dF m c nx es){T o:List (List Int)}(J:WI c nx es T o):o.length<=m:=by
 have h3:=h.facts.1;have:(o.map (cB c nx 0)).length<=(abD m).length:=by
  refine List.Nodup.length_le_of_subset ?_ λx R=> ?_;unfold List.Nodup;rw [List.pairwise_iff_getElem];intro i j p r U e;rw [Ϝ] at p r;rw [aes,aes] at e;have:=J.nd i j p r λt _=>by
   rw [ψ,ψ,Γ p,Γ r];show rX c nx es (cB c nx 0 o[i]) t=rX c nx es (cB c nx 0 o[j]) t;rw [e]
  omega;obtain ⟨w,I,rfl⟩:=Ϣ.1 R;exact ab7.2 (uW h (J.lw w I).1 (by omega))
 rwa [Ϝ,List.length_range] at this
theorem WI.snoc {c:Nat}{nx:List Int}{es:List Bool}{T o:List (List Int)}(J:WI c nx es T o){w:List Int}(hl:LW c w)(hn:w.length<=o.length+1)(hk: ∀i,i<o.length-> ¬eqv c nx es T (cB c nx 0 (o.getD i [])) (cB c nx 0 w)):WI c nx es T (o++[w]):=by
 have p:=J.ne;refine ⟨by simp,by rw [j1,if_pos (by omega)];exact J.fst,λx I=> ?_,λi j R U e=> ?_⟩;rw [ξ];rcases Λ.1 I with I|I
 have:=J.lw x I;exact ⟨this.1,by have:=this.2;simp;omega⟩;rw [ϊ.1 I];exact ⟨hl,hn⟩;rw [ξ] at R U;have R:i<o.length+1:=R;have U:j<o.length+1:=U;rw [j1,j1] at e;by_cases p:i<o.length;by_cases r:j<o.length;rw [if_pos p,if_pos r] at e;exact J.nd i j p r e;rw [if_pos p,if_neg r,if_pos (by omega)] at e;exact absurd e (hk i p);by_cases r:j<o.length;rw [if_neg p,if_pos (by omega),if_pos r] at e;exact absurd (λt ht=>(e t ht).symm) (hk j r);omega
structure OD (c:Nat)(nx:List Int)(es:List Bool)(T ws:List (List Int))(k:Nat)(ns:List (List UInt8×Int)):Prop where
 t1: ∀p∈ns,∃i,i<k/\p.1=B3 c nx es T (cB c nx 0 (ws.getD i []))/\p.2=(i:Int)
 t2: ∀i,i<k-> ∃p∈ns,p.1=B3 c nx es T (cB c nx 0 (ws.getD i []))
theorem OD.snoc {c:Nat}{nx:List Int}{es:List Bool}{T r:List (List Int)}{k:Nat}{ns:List (List UInt8×Int)}(h:OD c nx es T r k ns){vs:List (List Int)}(t: ∀i,i<k->vs.getD i []=r.getD i []):
 OD c nx es T vs (k+1) (ns++[(B3 c nx es T (cB c nx 0 (vs.getD k [])),(k:Int))]):=by
 refine ⟨λp hp=> ?_,λi J=> ?_⟩;rcases Λ.1 hp with hp|hp
 obtain ⟨i,j,o,I⟩:=h.t1 p hp;exact ⟨i,by omega,by rw [t i j];exact o,I⟩;rw [ϊ.1 hp];exact ⟨k,by omega,rfl,rfl⟩;by_cases e:i=k;subst e;exact ⟨_,adj _ (ϊ.2 rfl),rfl⟩;obtain ⟨p,j,o⟩:=h.t2 i (by omega);exact ⟨p,adr _ j,by rw [t i (by omega)];exact o⟩
end Go.Proofs
namespace Go.Proofs
open Go.Ide Go.IntWalk
def NX (c:Nat)(nx:List Int)(es:List Bool)(T o:List (List Int))(p:List Int):Prop:= ∀q,q<p.length->q/c<o.length/\ ∃j:Nat,p.getD q 0=(j:Int)/\j<o.length/\
 eqv c nx es T (BH c nx (cB c nx 0 (o.getD (q/c) [])) ((q%c:Nat):Int)) (cB c nx 0 (o.getD j []))
theorem NX.grow {c:Nat}{nx:List Int}{es:List Bool}{T o vs:List (List Int)}{p:List Int}(h:NX c nx es T o p)(hl:o.length<=vs.length)(r: ∀i,i<o.length->vs.getD i []=o.getD i []):NX c nx es T vs p:=λq t=>by
 obtain ⟨I,j,J,R,U⟩:=h q t;exact ⟨by omega,j,J,by omega,by rw [r _ I,r _ R];exact U⟩
theorem NX.snoc {c:Nat}{nx:List Int}{es:List Bool}{T o:List (List Int)}{p:List Int}{i a j:Nat}(h:NX c nx es T o p)(hl:p.length=i*c+a)(t:a<c)(J:i<o.length)(R:j<o.length)(U:eqv c nx es T (BH c nx (cB c nx 0 (o.getD i [])) (a:Int)) (cB c nx 0 (o.getD j []))):NX c nx es T o (p++[(j:Int)]):=λq r=>by
 rw [ξ] at r;have r:q<p.length+1:=r;by_cases e:q<p.length;rw [j1,if_pos e];exact h q e;have I:q=i*c+a:=by omega
 have d1:q/c=i:=by rw [I,aaB,aep (by omega),aee t,Ϭ]
 have d2:q%c=a:=by rw [I,aaB,aeq,abk t]
 rw [j1,if_neg e,if_pos (by omega),d1,d2];exact ⟨J,j,rfl,R,U⟩
section
variable {m c:Nat} {nx:List Int} {es:List Bool} (h:dF m c nx es)
include h
structure GR (c:Nat)(nx:List Int)(es:List Bool)(T ws:List (List Int))(r:List (List Int)×vI):Prop where
 ext: ∃ext,r.1=ws++ext
 wi:WI c nx es T r.1
 sm:r.2.1=((r.1.length:Nat):Int)
 sc:r.2.2.1=(c:Int)
 xx:NX c nx es T r.1 r.2.2.2.1
 nl:r.2.2.2.1.length=r.1.length*c
 el:r.2.2.2.2.length=r.1.length
 ee: ∀k,k<r.1.length->r.2.2.2.2.getD k false=es.getD (cB c nx 0 (r.1.getD k [])) false
theorem KY {T j:List (List Int)}(hT:tj c T)(I:T.length<=10000)(t:WI c nx es T j):bu (λns=>OD c nx es T j j.length ns) (rounds (jx ((m:Int),(c:Int),nx,es) j T) ((0:Int),([]:List (List UInt8×Int)))):=by
 obtain ⟨h3,h4,_⟩:=h.facts;have J:=t.len h;refine bu.for_ j.length (λi v=>OD c nx es T j i v) (by omega) (λi v o r=> ?_) (λv r=> ?_) ⟨λp hp=>(by cases hp),λi o=>by omega⟩;obtain ⟨R,l2⟩:=t.lw _ (cf (d:=[]) o);unfold jx;simp only [show decide ((i:Int)<bn j)=true from kn o,cond_true,guard_pos (eO o),ca o (show j.length<=4294967296 by omega),Α];rw [Ay h R (by omega) hT I,η];refine Ζ (KX λp hp=> ?_) (ι ⟨_,rfl,r.snoc λ_ _=>rfl⟩);obtain ⟨k,k1,U,_⟩:=r.t1 p hp;intro e;have:=t.nd k i (by omega) o (B4.1 (U.symm.trans e));omega;unfold jx;simp only [show decide (((j.length:Nat):Int)<bn j)=false from ky (ς _),cond_false];exact ι ⟨_,rfl,r⟩
structure GS (c:Nat)(nx:List Int)(es:List Bool)(T ws:List (List Int))(n:Nat)(v:List (List Int)×List (List UInt8×Int)×List Int):Prop where
 ext: ∃ext,v.1=ws++ext
 wi:WI c nx es T v.1
 Vs:OD c nx es T v.1 v.1.length v.2.1
 xx:NX c nx es T v.1 v.2.2
 nl:v.2.2.length=n
theorem Rv {T U:List (List Int)}(hT:tj c T)(hn:T.length<=10000){i:Nat}{ws0:List (List Int)}{ns0:List (List UInt8×Int)}{nq0:List Int}{pe:List Bool}{o:List (List Int)}{aa:List (List UInt8×Int)}{ab:List Int}(hs:GS c nx es T U (i*c) (o,aa,ab))(hi:i<o.length):
 bu (λv=>GS c nx es T U ((i+1)*c) v/\(∀k,k<o.length->v.1.getD k []=o.getD k [])/\o.length<=v.1.length) (rounds (jw ((m:Int),(c:Int),nx,es) T ((i:Int),ws0,ns0,nq0,pe)) ((0:Int),o,aa,ab)):=by
 obtain ⟨h3,h4,h5,h6,h7,h8,_⟩:=h.facts;refine bu.for_ c (λj v=>GS c nx es T U (i*c+j) v/\(∀k,k<o.length->v.1.getD k []=o.getD k [])/\o.length<=v.1.length) (by omega) (λj v hj hv=> ?_) (λv hv=> ?_) ⟨hs,λ_ _=>rfl,ς _⟩;obtain ⟨v1,v2,v3⟩:=hv;obtain ⟨vs,ns,nq⟩:=v;have v3:o.length<=vs.length:=v3;have I:i<vs.length:=by omega
 have NQ:vs.length<=m:=v1.wi.len h;have ZS:i*c<=64*4:=aaZ (by omega) h6;have ad:nq.length=i*c+j:=v1.nl;obtain ⟨l1,l2⟩:=v1.wi.lw _ (cf (d:=[]) I);have l1:LW c (vs.getD i []):=l1;have l2:(vs.getD i []).length<=vs.length:=l2;have l3:LW c (vs.getD i []++[(j:Int)]):=l1.snoc (by omega);unfold jw;simp only [show decide ((j:Int)<(c:Int))=true from decide_eq_true (by omega),cond_true,ca hj (show c<=4294967296 by omega),Α];refine Ζ ⟨by omega,by simp only [bn];omega⟩ ?_;rw [dZ (by omega),η];refine Ζ (by simp only [Η,Χ];unfold bD;omega) ?_;rw [Ay h l3 (by rw [ξ];show (vs.getD i []).length+1<=_;omega) hT hn,η,vJ];refine χ (P:=λq:Int×List (List Int)×List (List UInt8×Int)=>GS c nx es T U (i*c+(j+1)) (q.2.1,q.2.2,nq++[q.1])/\(∀k,k<o.length->q.2.1.getD k []=o.getD k [])/\o.length<=q.2.1.length) ?_ λq hq=>Ζ (by simp only [Η,Χ];unfold bD;omega) (ι ⟨_,rfl,hq⟩);cases hf:cr (t:= .str) (u:=tI) ns (B3 c nx es T (BH c nx (cB c nx 0 (vs.getD i [])) (j:Int))) with
 |some x=>
  obtain ⟨p,p1,p2,p3⟩:=yY hf;obtain ⟨k,k1,k2,k3⟩:=v1.Vs.t1 p p1;have J:x=(k:Int):=by rw [<-p3,k3]
  subst J;exact ι ⟨⟨v1.ext,v1.wi,v1.Vs,v1.xx.snoc ad hj I k1 (B4.1 (p2.symm.trans k2)),by show (nq++[_]).length=_;simp;omega⟩,v2,v3⟩
 |none=>
  have ae: ∀k,k<vs.length-> ¬eqv c nx es T (cB c nx 0 (vs.getD k [])) (BH c nx (cB c nx 0 (vs.getD i [])) (j:Int)):=λk J e=>by
   obtain ⟨p,p1,p2⟩:=v1.Vs.t2 k J;exact FR hf p p1 (p2.trans (B4.2 e))
  have R:cB c nx 0 (vs.getD i []++[(j:Int)])=BH c nx (cB c nx 0 (vs.getD i [])) (j:Int):=vJ;have hg: ∀k,k<vs.length->(vs++[vs.getD i []++[(j:Int)]]).getD k []=vs.getD k []:=λk J=>by rw [j1,if_pos J]
  have r:(vs++[vs.getD i []++[(j:Int)]]).getD vs.length []=vs.getD i []++[(j:Int)]:=by rw [j1,if_neg (by omega),if_pos rfl]
  have af:(vs++[vs.getD i []++[(j:Int)]]).length=vs.length+1:=by simp
  refine Ζ rfl (Ζ (by simp only [Η,Χ];unfold bD;omega) (ι ⟨⟨?_,v1.wi.snoc l3 (by rw [ξ];show (vs.getD i []).length+1<=vs.length+1;omega) (by rw [R];exact ae),?_,?_,by show (nq++[_]).length=_;simp;omega⟩,λk J=> ?_,by show o.length<=(vs++[_]).length;omega⟩));obtain ⟨ext,e⟩:=v1.ext;have e:vs=U++ext:=e;exact ⟨ext++[vs.getD i []++[(j:Int)]],by show vs++_=_;rw [<-ό,<-e]⟩;have:=v1.Vs.snoc (vs:=vs++[vs.getD i []++[(j:Int)]]) hg;have this:OD c nx es T (vs++[vs.getD i []++[(j:Int)]]) (vs.length+1) (ns++[(B3 c nx es T (cB c nx 0 ((vs++[vs.getD i []++[(j:Int)]]).getD vs.length [])),((vs.length:Nat):Int))]):=this;rw [r,R] at this;show OD c nx es T (vs++[_]) (vs++[vs.getD i []++[(j:Int)]]).length _;rw [af];exact this;exact (NX.grow (vs:=vs++[vs.getD i []++[(j:Int)]]) v1.xx (by show vs.length<=_;omega) hg).snoc ad hj (by omega) (j:=vs.length) (by omega) (by rw [r,hg i I,R];exact λ_ _=>rfl);show (vs++[_]).getD k []=_;rw [j1,if_pos (by omega)];exact v2 k J
 unfold jw;simp only [show decide ((c:Int)<(c:Int))=false from decide_eq_false (by omega),cond_false];exact ι ⟨_,rfl,by rw [ϓ,aeg];exact hv.1,hv.2⟩
theorem KZ {T p:List (List Int)}(hT:tj c T)(U:T.length<=10000)(hw:WI c nx es T p):bu (GR c nx es T p) (mb ((m:Int),(c:Int),nx,es) p T):=by
 obtain ⟨h3,h4,h5,h6,h7,h8,_⟩:=h.facts;unfold mb;refine χ (KY h hT U hw) λr3 J=> ?_;refine χ (P:=λr=>GR c nx es T p (r.1,((r.1.length:Nat):Int),(c:Int),r.2.1,r.2.2)) ?_ λr hr=>ι hr;refine Ϸ (λd (s:Int×List (List Int)×(List (List UInt8×Int))×List Int×List Bool)=> ∃i:Nat,s.1=(i:Int)/\i<=s.2.1.length/\d=m - i/\GS c nx es T p (i*c) (s.2.1,s.2.2.1,s.2.2.2.1)/\s.2.2.2.2.length=i/\ ∀k,k<i->s.2.2.2.2.getD k false=es.getD (cB c nx 0 (s.2.1.getD k [])) false) (λd s hs=> ?_) (n:=m)
  ⟨0,rfl,ϟ _,rfl,⟨⟨[],by simp⟩,hw,J,λq hq=>(by cases hq),by simp⟩,rfl,λk hk=>by omega⟩
 obtain ⟨t,j,ns,nq,pe⟩:=s;obtain ⟨i,b1,b2,b3,o,I,b6⟩:=hs;obtain rfl:t=(i:Int):=b1;have b2:i<=j.length:=b2;have I:pe.length=i:=I;have NQ:j.length<=m:=o.wi.len h;unfold pG;refine bu.bif (λe=> ?_) λe=> ?_;have e:(i:Int)<bn j:=of_decide_eq_true e;have e':i<j.length:=by simp only [bn] at e;omega
 obtain ⟨l1,l2⟩:=o.wi.lw _ (cf (d:=[]) e');have l2:(j.getD i []).length<=j.length:=l2;refine Ζ ⟨by omega,e⟩ ?_;simp only [Α];rw [KW h l1 (by show (j.getD i []).length<=_;omega),η];refine Ζ (by simp only [Η,Χ];unfold bD;omega) (χ (Rv h hT U o e') λv R=>ι (.inl ⟨m - (i+1),_,by omega,rfl,i+1,ca (n:=1000) (by omega) (by omega),by have:=R.2.2;show i+1<=v.1.length;omega,rfl,R.1,by simp [I],λk hk=> ?_⟩));show (pe++[_]).getD k false=es.getD (cB c nx 0 (v.1.getD k [])) false;rw [R.2.1 k (by omega),j1];by_cases ek:k<i;rw [if_pos (by omega)];exact b6 k ek;rw [if_neg (by omega),if_pos (by omega),show k=i by omega];have e: ¬(i:Int)<bn j:=of_decide_eq_false e;simp only [bn] at e;obtain rfl:i=j.length:=by omega
 exact ι (.inr ⟨_,rfl,o.ext,o.wi,rfl,rfl,o.xx,o.nl,I,b6⟩)
end
end Go.Proofs
namespace Go.Proofs
open Go.Ide Go.IntWalk
theorem B5 {T:List (List Int)}{x:List Int}(I: ∀t∈T,t.length<=12)(hn:T.length<=100000):bu (λb=>b=true->x∈T) (bX T x):=by
 unfold bX cE;refine χ (P:=λr=>0<=r->x∈T) (χ (P:=λr=> ∀v,r=Sum.inr v->x∈T) (Ϸ (λd s=> ∃i:Nat,s=(i:Int)/\i<=T.length/\d=T.length - i) (λd s J=> ?_) (n:=T.length) ⟨0,rfl,ϟ _,rfl⟩) λr j=> ?_) λr j=>ι λe=>j (by simpa using e);obtain ⟨i,rfl,b1,b2⟩:=J;unfold cX;refine bu.bif (λe=> ?_) λe=>ι (.inr ⟨_,rfl,λv R=>by cases R⟩);have e:(i:Int)<bn T:=of_decide_eq_true e;have U:i<T.length:=by simp only [bn] at e;omega
 have p:=cf (d:=[]) U;have:=I _ p;unfold mc;refine Ζ ⟨by omega,e⟩ (χ (χ (Ia (by show (T.getD i []).length<=_;omega)) λb o=>ι o) λb o=>bu.bif (λe2=>ι (.inr ⟨_,rfl,λv _=> ?_⟩)) λ_=>ι (.inl ⟨T.length - (i+1),_,by omega,rfl,i+1,ca (n:=1000000) (by omega) (by omega),by omega,rfl⟩));rw [<-o e2];exact p;cases r with
 |inl v=>exact ι λe=>absurd e (by decide)
 |inr v=>exact ι λ_=>j v rfl
theorem uY {α:Type}{xs:List α}{i:Nat}:cut xs (i:Int) (bn xs)=xs.drop i:=by
 unfold cut;simp only [bn,Α];rw [ϳ (by rw [϶];omega)]
theorem DQ {c:Nat}{T:List (List Int)}{y:List Int×Bool}(hT:tj c T)(R:LW c y.1)(hl:y.1.length<=12)(hn:T.length<=9000):
 bu (λv=>(∃j,v=T++j)/\tj c v/\v.length<=T.length+12/\ ∀k,k<y.1.length->y.1.drop k∈v) (rounds (iL y) ((0:Int),T)):=by
 refine bu.for_ y.1.length (λi v=>(∃j,v=T++j)/\tj c v/\v.length<=T.length+i/\ ∀k,k<i->y.1.drop k∈v) (by omega) (λi v I o=> ?_) (λv o=> ?_) ⟨⟨[],by simp⟩,hT,ς _,λk J=>by omega⟩;obtain ⟨⟨j,v1⟩,p,v3,v4⟩:=o;unfold iL;simp only [show decide ((i:Int)<bn y.1)=true from kn I,cond_true,guard_pos (show (0:Int)<=(i:Int)/\(i:Int)<=bn y.1 from ⟨by omega,by simp only [bn];omega⟩),ca I (show y.1.length<=4294967296 by omega),uY];refine χ (P:=λq=>(∃j,q=T++j)/\tj c q/\q.length<=T.length+(i+1)/\ ∀k,k<i+1->y.1.drop k∈q) (χ (B5 (λt ht=>(p t ht).2) (by omega)) λb U=>bu.bif (λ_=> ?_) λe=>ι ⟨⟨j,v1⟩,p,by omega,λk J=> ?_⟩) λq hq=>ι ⟨q,rfl,hq⟩;rw [cu (by omega)];refine ι ⟨⟨j++[y.1.drop i],by rw [v1,ό]⟩,λt ht=> ?_,by rw [ξ];show v.length+1<=_;omega,λk J=> ?_⟩;rcases Λ.1 ht with ht|ht
 exact p t ht;rw [ϊ.1 ht];exact ⟨λx hx=>R x (List.mem_of_mem_drop hx),by rw [϶];omega⟩;by_cases r:k<i;exact adr _ (v4 k r);rw [show k=i by omega];exact adj _ (ϊ.2 rfl);by_cases r:k<i;exact v4 k r;rw [show k=i by omega];exact U (by simpa using e);unfold iL;simp only [show decide (((y.1.length:Nat):Int)<bn y.1)=false from ky (ς _),cond_false];exact ι ⟨_,rfl,o.1,o.2.1,by omega,o.2.2.2⟩
def yZ (c:Nat)(nx:List Int)(es:List Bool)(T o:List (List Int)):Prop:= ∀k a,k<o.length->a<c-> ∃j,j<o.length/\eqv c nx es T (BH c nx (cB c nx 0 (o.getD k [])) (a:Int)) (cB c nx 0 (o.getD j []))
theorem GR.closed {c:Nat}{nx:List Int}{es:List Bool}{T t:List (List Int)}{r:List (List Int)×vI}(h:GR c nx es T t r):yZ c nx es T r.1:=λk a I o=>by
 have J:k*c+a<r.2.2.2.1.length:=by rw [h.nl];exact uP I o
 obtain ⟨_,j,_,R,p⟩:=h.xx _ J;have U:(k*c+a)/c=k:=by rw [aaB,aep (by omega),aee o,Ϭ]
 have d2:(k*c+a)%c=a:=by rw [aaB,aeq,abk o]
 rw [U,d2] at p;exact ⟨j,R,p⟩
theorem agree {c:Nat}{nx:List Int}{es:List Bool}{T p ws:List (List Int)}{r:List (List Int)×vI}(h:GR c nx es T ws r)(R: ∀t∈T,t∈p)(U:yZ c nx es p r.1):
 ∀(v:List Int) (j:Nat),LW c v->(∀i,i<=v.length->v.drop i∈p)->j<r.1.length->rX c nx es (cB c nx 0 (r.1.getD j [])) v=r.2.2.2.2.getD (cB c r.2.2.2.1 j v) false
 |[],j,_,_,o=>(h.ee j o).symm
 |a::v,j,hv,ht,o=>by
  have ha:=hv a (by simp);have hq:j*c+a.toNat<r.2.2.2.1.length:=by rw [h.nl];exact uP o (by omega)
  obtain ⟨_,k,k1,k2,k3⟩:=h.xx _ hq;have d1:(j*c+a.toNat)/c=j:=by rw [aaB,aep (by omega),aee (by omega),Ϭ]
  have d2:((j*c+a.toNat)%c:Nat)=a.toNat:=by rw [aaB,aeq,abk (by omega)]
  rw [d1,d2,aai ha.1] at k3;have I:BH c r.2.2.2.1 j a=k:=by unfold BH;rw [k1];rfl
  obtain ⟨k',q1,J⟩:=U j a.toNat o (by omega);rw [aai ha.1] at J;obtain rfl:k=k':=h.wi.nd k k' k2 q1 λt ht=>(k3 t ht).symm.trans (J t (R t ht));have e1:=J v (ht 1 (by simp));have e2:=agree h R U v k (λx hx=>hv x (ύ _ hx)) (λi hi=>ht (i+1) (by simpa using hi)) k2;show rX c nx es (BH c nx (cB c nx 0 (r.1.getD j [])) a) v=r.2.2.2.2.getD (cB c r.2.2.2.1 (BH c r.2.2.2.1 j a) v) false;rw [I,<-e2,e1]
section
variable {m c:Nat} {nx:List Int} {es:List Bool} (h:dF m c nx es)
include h
theorem Ib:bu (λr=>fg r.2.1) (kG ((m:Int),(c:Int),nx,es)):=by
 obtain ⟨h3,h4,h5,h6,h7,h8,_⟩:=h.facts;have D1:=h.nl;have z:fg 0:=⟨by decide,by decide⟩;unfold kG;simp only [h.valid,η,ϔ,cond_false];refine χ (P:=λr=>fg r.1) (Ϸ (λd (s:Int×List (List Int)×List (List Int))=>fg s.1/\WI c nx es s.2.2 s.2.1/\tj c s.2.2/\[]∈s.2.2/\d<=m+1/\s.2.2.length<=1+12*(m+1 - d)/\(d=m+1\/(s.2.1.length+d=m/\ ¬yZ c nx es s.2.2 s.2.1))) (λd s hs=> ?_) (n:=m+1)
  ⟨⟨by decide,by decide⟩,⟨ς _,rfl,λw hw=>by rw [ϊ.1 hw];exact ⟨LW.nil,ϟ _⟩,λi j (hi:i<1) (hj:j<1) _=>by omega⟩,λt ht=>by rw [ϊ.1 ht];exact ⟨LW.nil,ϟ _⟩,ϊ.2 rfl,ς _,by show 1<=_;omega,.inl rfl⟩) λr hr=>ι hr
 obtain ⟨t,U,T⟩:=s;obtain ⟨b1,b2,b3,b4,b5,b6,b7⟩:=hs;have b2:WI c nx es T U:=b2;have b3:tj c T:=b3;have b6:T.length<=1+12*(m+1 - d):=b6;unfold pb;refine χ (KZ h b3 (by show T.length<=_;omega) b2) λy p=> ?_;have R:=p.wi.len h;have J:=p.wi.ne;obtain ⟨o,s1,l1,nq,pe⟩:=y;have p:GR c nx es T U (o,s1,l1,nq,pe):=p;obtain rfl:s1=((o.length:Nat):Int):=p.sm;obtain rfl:l1=(c:Int):=p.sc;have R:o.length<=m:=R;have J:1<=o.length:=J;have hnq:nq.length=o.length*c:=p.nl;have hmc:o.length*c<=m*c:=Τ c R;simp only [sN (show nq.length<=4294967296 by omega),η];refine bu.bif (λ_=>ι (.inr ⟨_,rfl,z⟩)) λev=> ?_;have g:dF o.length c nq pe:=⟨by simpa using ev,by omega⟩;refine χ (Ax h g) λr hr=>bu.bif (λ_=>ι (.inr ⟨_,rfl,b1⟩)) λer=> ?_;obtain ⟨r1,r2,r3⟩:=hr;have er:r.2=true:=by simpa using er
 have r3:=r3 er;refine χ (DQ b3 r2 r1 (by show T.length<=9000;omega)) λT2 hT2=> ?_;obtain ⟨⟨more,q1⟩,q2,q3,q4⟩:=hT2;have q1:T2=T++more:=q1;have q3:T2.length<=T.length+12:=q3;have I: ∀t∈T,t∈T2:=λt ht=>by rw [q1];exact adr _ ht
 have hnc: ¬yZ c nx es T2 o:=λhc=>by
  refine r3 ?_;have:=agree p I hc r.1 0 r2 (λi hi=> ?_) J;have e0:o.getD 0 []=[]:=p.wi.fst;have this:rX c nx es (cB c nx 0 (o.getD 0 [])) r.1=pe.getD (cB c nq 0 r.1) false:=this;rw [e0] at this;exact this;by_cases e:i<r.1.length;exact q4 i e;rw [show i=r.1.length by omega,List.drop_length];exact I _ b4
 have R0:d=m+1\/U.length<o.length:=by
  rcases b7 with e|⟨_,e2⟩
  exact .inl e;refine .inr ?_;obtain ⟨ext,e3⟩:=p.ext;have e3:o=U++ext:=e3;cases ext with
  |nil=>exact absurd (by have:=p.closed;have this:yZ c nx es T o:=this;rw [e3,ϲ] at this;exact this) e2
  |cons x ext=>rw [e3];simp
 have Md:d=m+1\/U.length+d=m:=b7.imp_right And.left;refine ι (.inl ⟨m - o.length,_,by omega,rfl,rq _,⟨J,p.wi.fst,p.wi.lw,λi j hi hj e=>p.wi.nd i j hi hj λt ht=>e t (I t ht)⟩,q2,I _ b4,by omega,?_,.inr ⟨by show o.length+_=m;omega,hnc⟩⟩);show T2.length<=_;omega
end
end Go.Proofs
namespace Go.Proofs
open Go.Ide Go.IntWalk
theorem vL {s:List UInt8}{n:Int}(h:s.length<=100000):bu (λr=>(∀i,(r.1.getD i []).length<=64)/\(r.2=true->((r.1.length:Nat):Int)=n)) (fJ s n):=by
 rw [FB (by omega)];refine ι ?_;cases (jz 59 s).all λp=>(mY p).2 with
 |false=>exact ⟨λi=>by rw [cond_false];exact ϟ _,λe=>by cases e⟩
 |true=>
  refine ⟨λi=> ?_,λe=> ?_⟩;rw [cond_true];show (((jz 59 s).map λp=>(mY p).1).getD i []).length<=64;by_cases j:i<((jz 59 s).map λp=>(mY p).1).length;obtain ⟨p,_,hp⟩:=Ϣ.1 (cf (d:=[]) j);rw [<-hp];exact yJ p;rw [ψ,aab (by omega)];exact ϟ _;rw [cond_true] at e⊢;show ((((jz 59 s).map λp=>(mY p).1).length:Nat):Int)=n;rw [Ϝ];simpa using e
theorem Az {f:List Int->List Q4->Option (List Q4)}{xs:List Int}(o:xs.length<=64)(p:xs.length%4=0)(j: ∀ys acc,ys.length=4->acc.length<=1000000->f ys acc=some (acc++[(ys.getD 0 0,ys.getD 1 0,ys.getD 2 0,ys.getD 3 0)])):bu (λr=>r.length<=64) (sJ f xs []):=
 ⟨_,Ro (m:=xs.length/4) (by omega) (by omega) j,by show (D4 _ _).length<=_;rw [G1];omega⟩
theorem wK {s:List UInt8}(h:s.length<=100000):bu (λr=>mZ r.1) (jW s):=by
 unfold jW;refine χ (vL h) λy p=> ?_;obtain ⟨j,y2⟩:=y;obtain ⟨o,R⟩:=p;have o: ∀i,(j.getD i []).length<=64:=o;refine χ (P:=λv=>v=false->j.length=4/\(j.getD 0 []).length=2/\(j.getD 3 []).length%4=0) (bu.bif (λ_=>ι λe=>by cases e) λe=> ?_) λv T=>bu.bif (λ_=>ι BU) λe=> ?_;have e:((j.length:Nat):Int)=4:=R (by simpa using e);refine Ζ ⟨Ϫ _,by simp only [bn];omega⟩ (bu.bif (λ_=>ι λe=>by cases e) λt=>Ζ ⟨by omega,by simp only [bn];omega⟩ (ι λI=> ?_));have t:bn (j.getD 0 [])=2:=by simpa using t
 rw [OA] at I;simp only [bn] at t;exact ⟨by omega,by omega,by simpa using I⟩;obtain ⟨k1,k2,U⟩:=T e;have g: ∀(i:Int),0<=i->i<4->(0:Int)<=i/\i<bn j:=λi a b=>⟨a,by simp only [bn];omega⟩;have J: ∀(i:Int),0<=i->i<2->(0:Int)<=i/\i<bn (j.getD (δ 0) []):=λi a b=>⟨a,by show i<(((j.getD 0 []).length:Nat):Int);omega⟩;simp only [guard_pos (g 0 (by omega) (by omega)),guard_pos (g 1 (by omega) (by omega)),guard_pos (g 2 (by omega) (by omega)),guard_pos (g 3 (by omega) (by omega)),guard_pos (J 0 (by omega) (by omega)),guard_pos (J 1 (by omega) (by omega)),
  guard_pos (show δ 3<j.length by show 3<_;omega),guard_pos (show δ 1<j.length by show 1<_;omega),guard_pos (show δ 2<j.length by show 2<_;omega)]
 have l1:=o 1;have l2:=o 2;exact χ (Az (o 3) U (λys aa p ha=>by unfold n5;exact Kz p ha)) λr hr=>χ (wy ⟨by show r.length<=_;omega,by show (j.getD 1 []).length<=_;omega,by show (j.getD 2 []).length<=_;omega⟩) λq hq=>ι hq
theorem FT {d:yS}(h:tR d):bu (λr=>tR r.1) (dC d):=by
 obtain ⟨a,b,q⟩:=d;have h:q.length<=100000:=h;unfold dC;simp only [pJ (show q.length<=4294967296 by omega),η];exact bu.bif (λ_=>ι (ϟ _)) λ_=>ι h
theorem wL {s:List UInt8}(h:s.length<=100000):bu (λr=>tR r.1) (jX s):=by
 unfold jX;refine χ (vL h) λy o=> ?_;obtain ⟨j,y2⟩:=y;obtain ⟨p,R⟩:=o;have p: ∀i,(j.getD i []).length<=64:=p;refine χ (P:=λv=>v=false->j.length=2/\(j.getD 0 []).length=2/\(j.getD 1 []).length%4=0) (bu.bif (λ_=>ι λe=>by cases e) λe=> ?_) λv T=>bu.bif (λ_=>ι (ϟ _)) λe=> ?_;have e:((j.length:Nat):Int)=2:=R (by simpa using e);refine Ζ ⟨Ϫ _,by simp only [bn];omega⟩ (bu.bif (λ_=>ι λe=>by cases e) λt=>Ζ ⟨by omega,by simp only [bn];omega⟩ (ι λI=> ?_));have t:bn (j.getD 0 [])=2:=by simpa using t
 rw [OA] at I;simp only [bn] at t;exact ⟨by omega,by omega,by simpa using I⟩;obtain ⟨k1,k2,U⟩:=T e;have g: ∀(i:Int),0<=i->i<2->(0:Int)<=i/\i<bn j:=λi a b=>⟨a,by simp only [bn];omega⟩;have J: ∀(i:Int),0<=i->i<2->(0:Int)<=i/\i<bn (j.getD (δ 0) []):=λi a b=>⟨a,by show i<(((j.getD 0 []).length:Nat):Int);omega⟩;simp only [guard_pos (g 0 (by omega) (by omega)),guard_pos (g 1 (by omega) (by omega)),guard_pos (J 0 (by omega) (by omega)),guard_pos (J 1 (by omega) (by omega)),η,guard_pos (show δ 1<j.length by show 1<_;omega)];exact χ (Az (p 1) U (λys aa o ha=>by unfold n9;exact Kz o ha)) λr hr=>χ (FT (by show r.length<=_;omega)) λq hq=>ι hq
theorem xb:rh ((0:Int),(0:Int),([]:List Int),([]:List Bool)):=⟨ϟ _,ϟ _⟩
theorem zN {s:List UInt8}(h:s.length<=100000):bu (λr=>rh r.1) (mg s):=by
 have o:strings_LastIndexByte s 59=some (Lib.lastIndexByte ⟨s.toArray⟩ 59):=by
  unfold strings_LastIndexByte;rw [guard_pos (by omega)]
 unfold mg;rw [o,η];rcases HY s with ⟨p,_⟩|⟨i,T,p,_⟩
 rw [p];exact ι xb;have t:bz .i64 (i:Int) 1=((i+1:Nat):Int):=ca T (by omega);have nv:(cut s (bz .i64 (i:Int) 1) (bn s)).length<=s.length:=by rw [t,uY,϶];omega
 rw [p,show decide ((i:Int)<0)=false by simp only [decide_eq_false_iff_not];omega,cond_false];refine Ζ ⟨by omega,by simp only [bn];omega⟩ (χ (vL (by unfold cut;rw [ώ,϶];omega)) λy U=> ?_);obtain ⟨j,y2⟩:=y;obtain ⟨I,k2⟩:=U;have I: ∀i,(j.getD i []).length<=64:=I;refine χ (P:=λv=>v=false->j.length=2/\(j.getD 0 []).length=2) (bu.bif (λ_=>ι λe=>by cases e) λe=> ?_) λv hv=>bu.bif (λ_=>ι xb) λe=> ?_;have e:((j.length:Nat):Int)=2:=k2 (by simpa using e);refine Ζ ⟨Ϫ _,by simp only [bn];omega⟩ (ι λJ=> ?_);have J:bn (j.getD 0 [])=2:=by simpa using J
 simp only [bn] at J;exact ⟨by omega,by omega⟩;obtain ⟨p1,p2⟩:=hv e;have l1:=I 1;have g: ∀(i:Int),0<=i->i<2->(0:Int)<=i/\i<bn j:=λi a b=>⟨a,by simp only [bn];omega⟩;have R: ∀(i:Int),0<=i->i<2->(0:Int)<=i/\i<bn (j.getD (δ 0) []):=λi a b=>⟨a,by show i<(((j.getD 0 []).length:Nat):Int);omega⟩;simp only [guard_pos (g 0 (by omega) (by omega)),guard_pos (g 1 (by omega) (by omega)),guard_pos (R 0 (by omega) (by omega)),guard_pos (R 1 (by omega) (by omega)),η,guard_pos (show δ 1<j.length by show 1<_;omega),
  guard_pos (show (0:Int)<=bz .i64 (i:Int) 1/\bz .i64 (i:Int) 1<=bn s from ⟨by rw [t];omega,by rw [t];simp only [bn];omega⟩),guard_pos (show (cut s (bz .i64 (i:Int) 1) (bn s)).length<=bD by unfold bD;omega),HZ (a:=s) (y:=(i:Int)) rfl (show (cut s (bz .i64 (i:Int) 1) (bn s)).length<=1048576 by omega)]
 cases (cut s (bz .i64 (i:Int) 1) (bn s)).all λb=>(FC b).2 with
 |false=>exact ι xb
 |true=>
  simp only [cond_true];rw [sN (show (j.getD (δ 1) []).length<=4294967296 by show (j.getD 1 []).length<=_;omega),η];exact bu.bif (λ_=>ι xb) λ_=>ι ⟨by show (j.getD 1 []).length<=_;omega,by show (List.map _ _).length<=_;rw [Ϝ];omega⟩
theorem B6 {s:List UInt8}(h:s.length<=100000):bu (λr=>r.1.length<=64) (iZ s):=⟨_,wu (by omega),yJ s⟩
theorem wM {s:List UInt8}(h:s.length<=100000):bu (λ_=>True) (eD s):=by
 unfold eD;exact Ζ (by omega) (ι trivial)
end Go.Proofs
namespace Go.Proofs
open Go.Ide Go.IntWalk
structure DK where
 m:Nat
 c:Nat
 zs:List Q4
 ss:List Int
 es:List Int
 pm:Nat
 pc:Nat
 nx:List Int
 pe:List Bool
 n:Nat
 gc:Nat
 rs:List Q4
 w:List Int
abbrev jM:=DJ×vI×yS×List Int
def DK.d (x:DK):jM:=(((x.m:Int),(x.c:Int),x.zs,x.ss,x.es),((x.pm:Int),(x.pc:Int),x.nx,x.pe),((x.n:Int),(x.gc:Int),x.rs),x.w)
structure DK.OK (x:DK):Prop where
 pn:pk x.m x.c x.zs x.ss x.es
 plain:dF x.pm x.pc x.nx x.pe
 wN:rU x.n x.gc x.rs
 word:KK x.w
structure pS (d:jM):Prop where
 m:mZ d.1
 p:rh d.2.1
 g:tR d.2.2.1
 w:d.2.2.2.length<=100000
theorem DK.OK.short {x:DK}(h:x.OK):pS x.d:=by
 obtain ⟨j,o,p,r,t,I,_⟩:=h.plain.facts;have J:=h.plain.nl;have R:=h.wN.rl;have T:=h.word.len;exact ⟨h.pn.short,⟨by show x.nx.length<=_;omega,by show x.pe.length<=_;omega⟩,by show x.rs.length<=_;omega,by show x.w.length<=_;omega⟩
theorem NB {s l:Int}{zs:List Q4}{ss es:List Int}(h:mX s l zs ss es=true)(j:bn zs<=16): ∃m c:Nat,s=(m:Int)/\l=(c:Int)/\pk m c zs ss es:=by
 unfold mX at h;simp only [κ,decide_eq_true_eq,aag,decide_eq_false_iff_not,bn,beq_iff_eq] at h;obtain ⟨⟨T,U⟩,⟨h3,h4⟩,h5,o,⟨p,h8⟩,t,I⟩:=h;simp only [bn] at j;refine ⟨s.toNat,l.toNat,by omega,by omega,by omega,by omega,by omega,by omega,by omega,λr J=> ?_,by omega,by omega,ja.1 p,ja.1 t⟩;obtain ⟨i,R,e⟩:=aaV J;have:=qj.1 o i (ϟ _) (by omega);rw [show zs.getD i (0,0,0,0)=r by rw [ψ,Γ R];exact e] at this;unfold Aq at this;simp only [κ,decide_eq_true_eq] at this;rw [gE (by omega),gE (by omega)] at this;obtain ⟨⟨a1,a2⟩,⟨a3,a4⟩,⟨a5,a6⟩,a7,a8⟩:=this;exact ⟨⟨by omega,by omega⟩,⟨by omega,by omega⟩,⟨by omega,by omega⟩,by omega,by omega⟩
theorem NC {s l:Int}{rs:List Q4}(h:oL s l rs=true)(o:bn rs<=16): ∃m c:Nat,s=(m:Int)/\l=(c:Int)/\rU m c rs:=by
 unfold oL at h;simp only [κ,decide_eq_true_eq,aag,decide_eq_false_iff_not,bn] at h;obtain ⟨⟨J,R⟩,⟨T,U⟩,h5,p⟩:=h;simp only [bn] at o;refine ⟨s.toNat,l.toNat,by omega,by omega,by omega,by omega,by omega,by omega,by omega,λr t=> ?_⟩;obtain ⟨i,I,e⟩:=aaV t;have:=qj.1 p i (ϟ _) (by omega);rw [show rs.getD i (0,0,0,0)=r by rw [ψ,Γ I];exact e] at this;unfold vC at this;simp only [κ,decide_eq_true_eq] at this;rw [gE (a:=s) (by omega),gE (by omega)] at this;obtain ⟨⟨a1,a2⟩,⟨a3,a4⟩,⟨a5,a6⟩,a7,j⟩:=this;refine ⟨⟨by omega,by omega⟩,⟨by omega,by omega⟩,⟨by omega,by omega⟩,by omega,λq=> ?_,λq=> ?_⟩;rw [decide_eq_true q,cond_true] at j;omega;rw [decide_eq_false (by omega),cond_false] at j;omega
theorem K0 {s l:Int}{nx:List Int}{es:List Bool}(h:nr s l nx es=true)(j:bn nx<=64): ∃m c:Nat,s=(m:Int)/\l=(c:Int)/\dF m c nx es:=by
 have o:=h;unfold nr at h;simp only [κ,decide_eq_true_eq] at h;refine ⟨s.toNat,l.toNat,by omega,by omega,?_,by simp only [bn] at j;omega⟩;rw [aai (by omega),aai (by omega)];exact o
theorem Ic {d:jM}(h:pS d):bu (λb=>b=true-> ∃x:DK,x.OK/\d=x.d) (eR d):=by
 obtain ⟨⟨s,l,zs,ss,es⟩,⟨ps,pl,nx,R⟩,⟨gs,gl,rs⟩,w⟩:=d;obtain ⟨⟨o,p,r⟩,⟨t,h5⟩,I,J⟩:=h;have o:zs.length<=100000:=o;have p:ss.length<=100000:=p;have r:es.length<=100000:=r;have t:nx.length<=100000:=t;have I:rs.length<=100000:=I;have J:w.length<=100000:=J;have f: ∀P:Prop,(false=true->P):=λP e=>by cases e
 unfold eR;simp only [pI (show zs.length<=4294967296 by omega) (show ss.length<=4294967296 by omega) (show es.length<=4294967296 by omega),sN (show nx.length<=4294967296 by omega),pJ (show rs.length<=4294967296 by omega),yE (L:=4) (show w.length<=4294967296 by omega),η];refine χ (P:=λb=>b=true->_) (bu.bif (λT=>bu.bif (λU=>bu.bif (λe3=>bu.bif (λe4=>bu.bif (λe5=>bu.bif (λe6=>ι λj=> ?_) λ_=>ι (f _)) λ_=>ι (f _)) λ_=>ι (f _)) λ_=>ι (f _)) λ_=>ι (f _)) λ_=>ι (f _)) λb hb=>ι hb;obtain ⟨m,c,rfl,rfl,hM⟩:=NB T (of_decide_eq_true U);obtain ⟨pm,pc,rfl,rfl,hP⟩:=K0 e3 (of_decide_eq_true e4);obtain ⟨n,gc,rfl,rfl,hG⟩:=NC e5 (of_decide_eq_true e6);rw [gE (by omega)] at j;simp only [κ,decide_eq_true_eq,bn] at j;exact ⟨⟨m,c,zs,ss,es,pm,pc,nx,R,n,gc,rs,w⟩,⟨hM,hP,hG,by show w.length<=12;omega,λx hx=>by have:=ja.1 j.2.2 x hx;omega⟩,rfl⟩
end Go.Proofs
namespace Go.Proofs
open Go.Ide Go.IntWalk
def TX (t:List UInt8):Prop:=t.length<=3000/\ ∀b∈t,44<=b.toNat
theorem bu.sX {α β:Type}{Q:α⊕β->Prop}{z:β}(h:Q (.inr z)):bu Q (Go.Ide.sX (Option.some z)):=⟨_,rfl,h⟩
theorem TX.ok:TX [111,107]:=⟨by decide,by decide⟩
theorem YN:TX [121,101,115]:=⟨by decide,by decide⟩
theorem Rw:TX [110,101,118,101,114]:=⟨by decide,by decide⟩
theorem TX.nil:TX []:=⟨ϟ _,λb j=>by cases j⟩
theorem Vt {v:List Int}(h:dv v=true):TX (tx v):=⟨by have:=DD h;omega,λb j=>(uT j).1⟩
theorem K1 {n:Int}(h:fg n):TX (ϡ n):=⟨by have:=vD h;omega,λb j=>by have:=tO j;omega⟩
theorem UB {v:List Int}(h:dv v=true)(b:Bool):bu (λr=>TX r.1) (dN v b):=by
 obtain ⟨_,j⟩:=eT h;unfold dN;refine bu.bif (λ_=>ι TX.nil) λ_=> ?_;rw [mo (by omega),h];exact ι (Vt h)
theorem Ie {n:Int}(h:fg n)(b:Bool):bu (λr=>TX r.1) (dy n b):=by
 unfold dy;rw [uQ h];exact ι (K1 h)
theorem K2 {v:List Int}{n:Int}(h:dv v=true)(o:fg n)(b:Bool):bu (λr=>TX r.1) (iW v n b):=by
 have t:bu (λr=>r.1.length<=1412/\ ∀b∈r.1,44<=b.toNat) (dN v b):=by
  obtain ⟨_,J⟩:=eT h;unfold dN;refine bu.bif (λ_=>ι ⟨ϟ _,λb j=>by cases j⟩) λ_=> ?_;rw [mo (by omega),h];exact ι ⟨DD h,(Vt h).2⟩
 have R:=vD o;unfold iW;refine χ t λr p=> ?_;have I:=p.1;rw [cu (by omega),uQ o,η];refine Ζ (by rw [ξ];show r.1.length+1+_<=bD;unfold bD;omega) (ι ⟨?_,λb j=> ?_⟩);show ((r.1++[59])++ϡ n).length<=_;rw [ξ,ξ];show r.1.length+1+_<=_;omega;rcases Λ.1 j with j|j
 rcases Λ.1 j with j|j
 exact p.2 b j;rw [ϊ.1 j];decide;exact (K1 o).2 b j
theorem yV.vals {w:List Int}(h:yV w):dv w=true:=jZ (λx j=>by have:=h.2 x j;omega) (by have:=h.1;omega)
theorem KK.vals {w:List Int}(h:KK w):dv w=true:=jZ (λx j=>by have:=h.ZP x j;omega) (by have:=h.len;omega)
theorem UC {m c:Nat}{zs:List Q4}{ss es:List Int}(h:pk m c zs ss es):TX (BQ m c zs ss es):=by
 obtain ⟨v1,j,o,v4⟩:=h.vals;have p:=vE (eT v1).1;have r:=vE (eT j).1;have t:=vE (eT o).1;have I:=DD v4;have J:=h.sl;have R:=h.el;have T:=h.m2;refine ⟨?_,H3⟩;unfold BQ;simp only [jn,ξ,Η,Χ] at*;omega
theorem Rx {m c:Nat}{nx:List Int}{es:List Bool}(h:dF m c nx es):TX (sO m c nx es):=⟨DF h,FG⟩
theorem UD {n c:Nat}{rs:List Q4}(h:rU n c rs):TX (yN n c rs):=⟨FF h,H4⟩
theorem Ig {m c:Nat}{nx:List Int}{es:List Bool}(h:dF m c nx es)(k:Int):bu (λr=>fg r.1) (fX ((m:Int),(c:Int),nx,es) k):=by
 by_cases j:0<=k/\k<=12;obtain ⟨n,e,o⟩:=KM h (k:=k.toNat) (by omega);rw [aai j.1] at e;exact ⟨_,e,o⟩;have e:(decide (k>=0)&&decide (k<=12))=false:=by
  cases p:(decide (k>=0)&&decide (k<=12)) with
  |false=>rfl
  |true=>simp only [κ,decide_eq_true_eq] at p;omega
 unfold fX;simp only [h.valid,iY,e,η,ϔ,cond_false,acO,cond_true];exact ι ⟨by decide,by decide⟩
section
variable {x:DK} (h:x.OK)
include h
theorem K3 (w:List UInt8):bu (λr=>TX r.1/\pS r.2.2.2/\(r.2.2.2=x.d\/r.1=[111,107])/\(r.2.2.1=false->r.2.2.2=x.d)) (lX x.d w):=by
 have j:=h.short;obtain ⟨zs',eb,hB⟩:=G4 h.pn;obtain ⟨m',U,pe,el,hL⟩:=KR h.plain;have lp:rh ((m':Int),(x.pc:Int),U,pe):=by
  obtain ⟨p3,p4,p5,p6,p7,p8,_⟩:=hL.facts;have:=hL.nl;exact ⟨by show U.length<=_;omega,by show pe.length<=_;omega⟩
 have b1:bu (λr=>mZ r.1) (k9 ((x.m:Int),(x.c:Int),x.zs,x.ss,x.es)):=⟨_,eb,hB.short⟩;have b2:bu (λr=>rh r.1) (iU ((x.pm:Int),(x.pc:Int),x.nx,x.pe)):=⟨_,el,lp⟩;have t: ∀{o:Option (DJ×Bool)},bu (λr=>mZ r.1) o->bu (λv:(Bool×jM)⊕(List UInt8×Bool×Bool×jM)=>match v with| .inl v=>pS v.2| .inr z=>z=([],false,false,x.d)) (o.bind λy=>some (.inl (y.2,y.1,x.d.2))):=λI=>χ I λy J=>ι ⟨J,j.p,j.g,j.w⟩;have T: ∀{o:Option (vI×Bool)},bu (λr=>rh r.1) o->bu (λv:(Bool×jM)⊕(List UInt8×Bool×Bool×jM)=>match v with| .inl v=>pS v.2| .inr z=>z=([],false,false,x.d)) (o.bind λy=>some (.inl (y.2,x.d.1,y.1,x.d.2.2))):=λI=>χ I λy J=>ι ⟨j.m,J,j.g,j.w⟩;have kg: ∀{o:Option (yS×Bool)},bu (λr=>tR r.1) o->bu (λv:(Bool×jM)⊕(List UInt8×Bool×Bool×jM)=>match v with| .inl v=>pS v.2| .inr z=>z=([],false,false,x.d)) (o.bind λy=>some (.inl (y.2,x.d.1,x.d.2.1,y.1,x.d.2.2.2))):=λI=>χ I λy J=>ι ⟨j.m,j.p,J,j.w⟩;unfold lX;refine χ (P:=λv:(Bool×jM)⊕(List UInt8×Bool×Bool×jM)=>match v with| .inl v=>pS v.2| .inr z=>z=([],false,false,x.d)) ?_ λv R=> ?_;refine bu.bif (λ_=>t b1) λ_=>bu.bif (λ_=>t (tQ h.pn.short)) λ_=>bu.bif (λ_=>t (FN h.pn)) λ_=>bu.bif (λ_=>t (vH h.pn)) λ_=>bu.bif (λ_=>t (BV h.pn)) λ_=>
  bu.bif (λ_=>T (DM h.pn)) λ_=>bu.bif (λ_=>T b2) λ_=>bu.bif (λ_=>T (yU h.plain)) λ_=>bu.bif (λ_=>kg (zJ h.plain)) λ_=>bu.sX rfl
 cases v with
 |inl v=>exact ι ⟨TX.ok,R,.inr rfl,λe=>by cases e⟩
 |inr z=>
  have R:z=([],false,false,x.d):=R;subst R;exact ι ⟨TX.nil,j,.inl rfl,λ_=>rfl⟩
theorem K4 (w:List UInt8):bu (λr=>TX r.1/\r.2.2.2=x.d) (mf x.d w):=by
 have p: ∀{o:Option (List UInt8×Bool)},bu (λr=>TX r.1) o->bu (λv:(List UInt8×Bool)⊕(List UInt8×Bool×Bool×jM)=>match v with| .inl v=>TX v.1| .inr z=>z=([],false,false,x.d)) (o.bind λy=>some (.inl (y.1,y.2))):=λJ=>χ J λy j=>ι j;have t:=h.word.len;have R:=KG h.pn;have T:=H5 h.plain;have U:=KH h.wN;have e4:gC x.w=some (tx x.w,true):=by rw [mo (by omega),h.word.vals];rfl
 obtain ⟨n1,c1,e5,r5⟩:=Nw h.pn t;obtain ⟨b1,b2,e6⟩:=Rq h.plain t;obtain ⟨n2,c2,e7,r7⟩:=KO h.wN t;obtain ⟨n3,c3,e8,r8⟩:=KP h.wN (k:=x.w.length) rfl t;obtain ⟨out,e9,r9⟩:=H7 h.wN;have t5:bu (λr=>fg r.1) (nG ((x.m:Int),(x.c:Int),x.zs,x.ss,x.es) x.w):=⟨_,e5,r5⟩;have t7:bu (λr=>fg r.1) (ir ((x.n:Int),(x.gc:Int),x.rs) x.w):=⟨_,e7,r7⟩;have t8:bu (λr=>fg r.1) (fW ((x.n:Int),(x.gc:Int),x.rs) x.w):=⟨_,e8,r8⟩;have t9:bu (λr=>dv r.1=true) (iu ((x.n:Int),(x.gc:Int),x.rs)):=⟨_,e9,r9⟩;unfold mf;dsimp only [DK.d];refine χ (P:=λv:(List UInt8×Bool)⊕(List UInt8×Bool×Bool×jM)=>match v with| .inl v=>TX v.1| .inr z=>z=([],false,false,x.d)) ?_ λv I=> ?_;refine bu.bif (λ_=>p ⟨_,R,UC h.pn⟩) λ_=>bu.bif (λ_=>p ⟨_,T,Rx h.plain⟩) λ_=>bu.bif (λ_=>p ⟨_,U,UD h.wN⟩) λ_=>bu.bif (λ_=>p ⟨_,e4,Vt h.word.vals⟩) λ_=>
  bu.bif (λ_=>χ t5 λy j=>p (Ie j _)) λ_=>bu.bif (λ_=>χ (BY h.pn) λy j=>p (K2 j.1.vals j.2 _)) λ_=>
  bu.bif (λ_=>χ (P:=λ_=>True) ⟨_,e6,trivial⟩ λy _=>bu.bif (λ_=>ι YN) λ_=>ι Rw) λ_=>bu.bif (λ_=>χ (zM h.plain) λy j=>p (UB j.vals _)) λ_=>
  bu.bif (λ_=>χ (Ib h.plain) λy j=>p (Ie j _)) λ_=>bu.bif (λ_=>χ t7 λy j=>p (Ie j _)) λ_=>bu.bif (λ_=>χ t8 λy j=>p (Ie j _)) λ_=>
  bu.bif (λ_=>χ (zL h.wN) λy j=>p (K2 j.1.vals j.2 _)) λ_=>bu.bif (λ_=>χ t9 λy j=>p (UB j _)) λ_=>bu.sX rfl
 cases v with
 |inl v=>exact ι ⟨I,rfl⟩
 |inr z=>
  have I:z=([],false,false,x.d):=I;subst I;exact ι ⟨TX.nil,rfl⟩
theorem ND (w u:List UInt8)(t:u.length<=100000):bu (λr=>TX r.1/\pS r.2.2.2/\(r.2.2.2=x.d\/r.1=[111,107])) (nk x.d w u):=by
 have j:=h.short;unfold nk;refine χ (P:=λv:(Bool×jM)⊕(List UInt8×Bool×Bool×jM)=>match v with| .inl v=>pS v.2| .inr z=>z.2.2.2=x.d/\TX z.1) ?_ λv J=> ?_;refine bu.bif (λ_=>χ (wK t) λy o=>ι ⟨o,j.p,j.g,j.w⟩) λ_=>bu.bif (λ_=>χ (zN t) λy o=>ι ⟨j.m,o,j.g,j.w⟩) λ_=>bu.bif (λ_=>χ (wL t) λy o=>ι ⟨j.m,j.p,o,j.w⟩) λ_=>
  bu.bif (λ_=>χ (B6 t) λy o=>ι ⟨j.m,j.p,j.g,by show y.1.length<=_;omega⟩) λ_=>χ (P:=λ_=>True) (bu.bif (λ_=>ι trivial) λ_=>ι trivial) λv20 _=>bu.bif (λ_=> ?_) λ_=>bu.sX ⟨rfl,TX.nil⟩
 refine χ (wM t) λT _=>χ (P:=λr=>TX r.1) (χ (P:=λ_=>True) (bu.bif (λ_=>ι trivial) λ_=>ι trivial) λU _=>bu.bif (λ_=>χ (Ig h.plain _) λy o=>χ (Ie o _) λr I=>ι I) λ_=>
  bu.bif (λ_=>χ (DN _) λy o=>ι ⟨by have:=o.1;show y.1.length<=_;omega,o.2⟩) λ_=>ι TX.nil) λr I=>bu.sX ⟨rfl,I⟩
 cases v with
 |inl v=>exact ι ⟨TX.ok,J,.inr rfl⟩
 |inr z=>
  obtain ⟨R,z2⟩:z.2.2.2=x.d/\TX z.1:=J;exact ι ⟨z2,R▸j,.inl R⟩
theorem Ih (o:List (List UInt8))(t: ∀i,(o.getD i []).length<=100000):bu (λr=>TX r.1/\pS r.2.2.2/\(r.2.2.2=x.d\/r.1=[111,107])) (kH x.d o):=by
 have p:=h.short;unfold kH;refine bu.bif (λe=> ?_) λ_=>bu.bif (λe=> ?_) λ_=> ?_;have e:bn o=1:=by simpa using e
 refine Ζ ⟨by omega,by omega⟩ (χ (K3 h _) λy j=>bu.bif (λ_=>ι ⟨j.1,j.2.1,j.2.2.1⟩) λI=> ?_);rw [j.2.2.2 I];exact χ (K4 h _) λy j=>ι ⟨j.1,j.2▸p,.inl j.2⟩;have e:bn o=2:=by simpa using e
 exact Ζ ⟨by omega,by omega⟩ (Ζ ⟨by omega,by omega⟩ (χ (ND h _ _ (t _)) λy j=>ι j));refine χ (P:=λv=>v=true->bn o=3) (bu.bif (λe=>Ζ ⟨by omega,by rw [show bn o=3 by simpa using e];decide⟩ (ι λ_=>by simpa using e)) λ_=>ι λe=>by cases e) λv J=>bu.bif (λe=> ?_) λ_=>ι ⟨TX.nil,p,.inl rfl⟩;have e:=J e;exact Ζ ⟨by omega,by omega⟩ (Ζ ⟨by omega,by omega⟩ (χ (BW _ _ _ _ _) λy j=>χ (Ie j _) λr R=>ι ⟨R,p,.inl rfl⟩))
end
end Go.Proofs
namespace Go.Proofs
open Go.Ide Go.IntWalk
theorem B7 {x:DK}(h:x.OK):gB x.d=some x.d:=by
 have j:=h.pn.zl;have o:=h.pn.sl;have p:=h.pn.el;have r:=h.pn.m2;obtain ⟨t,I,J,R,T,U,_⟩:=h.plain.facts;have h5:=h.plain.nl;have h6:=h.wN.rl;have h8:=h.word.len;unfold gB oX DK.d;simp only [dZ (show x.zs.length<=1000000 by omega),dZ (show x.ss.length<=1000000 by omega),dZ (show x.es.length<=1000000 by omega),dZ (show x.nx.length<=1000000 by omega),
  dZ (show x.pe.length<=1000000 by omega),dZ (show x.rs.length<=1000000 by omega),dZ (show x.w.length<=1000000 by omega),η]
theorem uZ {x:DK}(h:x.OK):eR x.d=some true:=by
 have p:=h.pn.zl;have r:=h.plain.nl;have t:=h.wN.rl;have I:=h.word.len;have j:gr x.w 4=some true:=by
  rw [yE (by omega),gE (by omega),decide_eq_true (show bn x.w<=12 by simp only [bn];omega),ja.2 λy o=>by have:=h.word.ZP y o;omega];rfl
 unfold eR DK.d;simp only [h.pn.valid,h.plain.valid,h.wN.valid,j,η,cond_true,decide_eq_true (show bn x.zs<=16 by simp only [bn];omega),decide_eq_true (show bn x.nx<=64 by simp only [bn];omega),
  decide_eq_true (show bn x.rs<=16 by simp only [bn];omega)]
def K5 (t:List UInt8):Bool:=(t==[110,111])||(t==[119,104,97,116])
theorem UE:TX [119,104,97,116]:=⟨by decide,by decide⟩
theorem noT:TX [110,111]:=⟨by decide,by decide⟩
theorem DR {x:DK}(h:x.OK){l:List UInt8}(hl:l.length<=100000): ∃(y:DK) (t:List UInt8),fu x.d l=some (y.d,t)/\y.OK/\TX t/\(K5 t=true->y.d=x.d):=by
 have key:bu (λr=> ∃y:DK,y.OK/\r.1=y.d/\TX r.2/\(K5 r.2=true->y.d=x.d)) (fu x.d l):=by
  have p:strings_Split l [32]=some (jz 32 l):=by
   unfold strings_Split;rw [guard_pos (show _/\_ from ⟨by omega,by simp⟩),qp]
  have I:=B7 h;have I:gB ((x.d.1.1,x.d.1.2.1,x.d.1.2.2.1,x.d.1.2.2.2.1,x.d.1.2.2.2.2),(x.d.2.1.1,x.d.2.1.2.1,x.d.2.1.2.2.1,x.d.2.1.2.2.2),(x.d.2.2.1.1,x.d.2.2.1.2.1,x.d.2.2.1.2.2),x.d.2.2.2)=some x.d:=I;unfold fu;rw [I,η,p,η];refine χ (Ih h _ λi=>by have:=yI (c:=32) (s:=l) i;omega) λy J=> ?_;obtain ⟨T,U,j⟩:=J;refine bu.bif (λ_=>ι ⟨x,h,rfl,UE,λ_=>rfl⟩) λ_=>χ (P:=λv=>v=false-> ∃z:DK,z.OK/\y.2.2.2=z.d) (bu.bif (λ_=>ι λe=>by cases e) λ_=>χ (Ic U) λb o=>ι λe=>o (by simpa using e)) λv hv=>bu.bif (λ_=>ι ⟨x,h,rfl,noT,λ_=>rfl⟩) λe=> ?_;obtain ⟨z,hz,R⟩:=hv e;refine ι ⟨z,hz,R,T,λo=> ?_⟩;rcases j with j|j
  rw [<-R];exact j;have o:K5 y.1=true:=o;rw [j] at o;cases o
 obtain ⟨r,e,y,J,e2,j,h4⟩:=key;exact ⟨y,r.2,by rw [e,<-e2],J,j,h4⟩
def vM:List (List UInt8)->List UInt8
 |[]=>[]
 |l::r=>l++10::vM r
theorem G5: ∀{ls:List (List UInt8)},(∀l∈ls,∀b∈l,b≠10)->jz 10 (vM ls)=ls++[[]]
 |[],_=>rfl
 |l::r,h=>by
  unfold vM;rw [BM,BN (h l (by simp)),G5 λz j=>h z (ύ _ j)];rfl
theorem Ii {ls:List (List UInt8)}(h: ∀l∈ls,∀b∈l,b≠10):Ft (vM ls)=ls/\Kp (vM ls)=[]:=by
 unfold Ft Kp;rw [G5 h];have e:(ls++[[]]).length - 1=ls.length:=by simp
 rw [e];exact ⟨aex,by rw [ψ,Κ (ς _),ahP];rfl⟩
theorem DS {ls:List (List UInt8)}(h: ∀l∈ls,∀b∈l,b≠10)(p:(vM ls).length<=16000):ml (vM ls)=some (ls,true):=by
 obtain ⟨j,o⟩:=Ii h;rw [Fu (by omega),j,o,decide_eq_true (show bn (vM ls)<=16000 by simp only [bn];omega)];rfl
inductive gG:jM->List (List UInt8)->jM->List (List UInt8)->Prop
 |nil (d:jM):gG d [] d []
 |cons {d d1 d2:jM} {l t:List UInt8} {ls ts:List (List UInt8)}:fu d l=some (d1,t)->t.length<=10000->gG d1 ls d2 ts->gG d (l::ls) d2 (t::ts)
abbrev fl (i:Int)(d:jM)(acc:List UInt8):Int×Int×Int×(List (Int×Int×Int×Int))×List Int×List Int×Int×Int×List Int×List Bool×Int×Int×(List (Int×Int×Int×Int))×List Int×List UInt8:=
 (i,d.1.1,d.1.2.1,d.1.2.2.1,d.1.2.2.2.1,d.1.2.2.2.2,d.2.1.1,d.2.1.2.1,d.2.1.2.2.1,d.2.1.2.2.2,d.2.2.1.1,d.2.2.1.2.1,d.2.2.1.2.2,d.2.2.2,acc)
theorem DT {all:List (List UInt8)}{b:Bool}(J:all.length<=100): ∀{d p:jM} {ls ts:List (List UInt8)},gG d ls p ts-> ∀(i:Nat) (acc:List UInt8),all.drop i=ls->acc.length<=i*20000->
 rounds (ff (all,b)) (fl (i:Int) d acc)=some (fl 0 p (acc++vM ts)).2:=by
 intro d p ls ts T;induction T with
 |nil d=>
  intro i acc o U;have j:all.length<=i:=by
   rcases aam i all.length with h|h
   have:=congrArg ζ o;rw [϶] at this;simp at this;omega;exact h
  rw [dM];have e:ff (all,b) (fl (i:Int) d acc)=some (.inr (fl 0 d acc).2):=by
   unfold ff;simp only [show decide ((i:Int)<bn all)=false from ky j,cond_false]
  rw [e];simp [vM]
 | @cons d R p l t ls ts hc ht _ ih=>
  intro i acc o U;have j:i<all.length:=by
   rcases aam i all.length with h|h
   exact h;rw [adq h] at o;cases o
  have r:all.drop i=all[i]::all.drop (i+1):=abJ j;rw [r] at o;injection o with h3 h4;have hg:ε all i []=l:=by rw [ψ,Γ j,<-h3];rfl
  have e:ff (all,b) (fl (i:Int) d acc)=some (.inl (fl ((i+1:Nat):Int) R (acc++(t++[10])))):=by
   have I:fu ((d.1.1,d.1.2.1,d.1.2.2.1,d.1.2.2.2.1,d.1.2.2.2.2),(d.2.1.1,d.2.1.2.1,d.2.1.2.2.1,d.2.1.2.2.2),(d.2.2.1.1,d.2.2.1.2.1,d.2.2.1.2.2),d.2.2.2) l=some (R,t):=hc;unfold ff;simp only [show decide ((i:Int)<bn all)=true from kn j,cond_true,guard_pos (eO j),Α,hg,I,η];rw [qu (by simp only [Η,Χ];omega),qu (by simp only [ξ,Η,Χ];omega),ca j (by omega)]
  rw [dM,e];show rounds _ _=_;rw [ih (i+1) _ h4 (by simp only [ξ,Η,Χ];omega)];simp [vM]
theorem Ry {x y:DK}(R:x.OK)(T:y.OK){ls ts:List (List UInt8)}(h:gG x.d ls y.d ts)(U: ∀l∈ls,∀b∈l,b≠10)(j:(vM ls).length<=16000)(hn:ls.length<=100)(ht:ts≠[]):
 oB x.d (vM ls)=some (y.d,vM ts,true):=by
 have I:=uZ R;have J:=B7 T;have o:=DT (b:=true) hn h 0 [] (by simp) (by simp);have p:vM ts≠[]:=by
  cases ts with
  |nil=>exact absurd rfl ht
  |cons t r=>unfold vM;simp
 have o:rounds (ff (ls,true)) (fl 0 x.d [])=some (fl 0 y.d (vM ts)).2:=o;unfold fl DK.d at o;unfold DK.d at I J⊢;unfold oB;simp only [DS U j,η,ϔ,cond_false,I];simp only at o;rw [o];simp only [η,J];rw [guard_pos p]
theorem u5 {xs:List Int}(h:xs.length<=1000000):cm xs xs=some true:=by
 unfold cm;rw [bne_self_eq_false,cond_false,wU (f:=de xs xs) (Sum.inl ()) xs.length (λi j=>by
  unfold de;simp only [show decide ((i:Int)<bn xs)=true from kn j,cond_true,guard_pos (eO j),bne_self_eq_false,cond_false,ca j (show xs.length<=4294967296 by omega)]) (by
  unfold de;simp only [show decide (((xs.length:Nat):Int)<bn xs)=false from ky (ς _),cond_false])]
 rfl
theorem K6 {xs:List Bool}(h:xs.length<=1000000):eL xs xs=some true:=by
 unfold eL;rw [bne_self_eq_false,cond_false,wU (f:=dO xs xs) (Sum.inl ()) xs.length (λi j=>by
  unfold dO;simp only [show decide ((i:Int)<bn xs)=true from kn j,cond_true,guard_pos (eO j),bne_self_eq_false,cond_false,ca j (show xs.length<=4294967296 by omega)]) (by
  unfold dO;simp only [show decide (((xs.length:Nat):Int)<bn xs)=false from ky (ς _),cond_false])]
 rfl
theorem K7 {xs:List Q4}(h:xs.length<=1000000):dq xs xs=some true:=by
 unfold dq;rw [bne_self_eq_false,cond_false,wU (f:=dc xs xs) (Sum.inl ()) xs.length (λi j=>by
  unfold dc;simp only [show decide ((i:Int)<bn xs)=true from kn j,cond_true,guard_pos (eO j),beq_self_eq_true,ac8,ϔ,cond_false,ca j (show xs.length<=4294967296 by omega)]) (by
  unfold dc;simp only [show decide (((xs.length:Nat):Int)<bn xs)=false from ky (ς _),cond_false])]
 rfl
theorem K8 {xs:List Q4}(h:xs.length<=1000000):dh xs xs=some true:=by
 unfold dh;rw [bne_self_eq_false,cond_false,wU (f:=cW xs xs) (Sum.inl ()) xs.length (λi j=>by
  unfold cW;simp only [show decide ((i:Int)<bn xs)=true from kn j,cond_true,guard_pos (eO j),beq_self_eq_true,ac8,ϔ,cond_false,ca j (show xs.length<=4294967296 by omega)]) (by
  unfold cW;simp only [show decide (((xs.length:Nat):Int)<bn xs)=false from ky (ς _),cond_false])]
 rfl
theorem Ij {x:DK}(h:x.OK):np x.d x.d=some true:=by
 have j:=h.pn.zl;have o:=h.pn.sl;have p:=h.pn.el;have r:=h.pn.m2;obtain ⟨t,I,J,R,T,U,_⟩:=h.plain.facts;have h5:=h.plain.nl;have h6:=h.wN.rl;have h8:=h.word.len;unfold np mV pd mW DK.d;simp only [beq_self_eq_true,cond_true,K7 (show x.zs.length<=1000000 by omega),u5 (show x.ss.length<=1000000 by omega),u5 (show x.es.length<=1000000 by omega),u5 (show x.nx.length<=1000000 by omega),
  K6 (show x.pe.length<=1000000 by omega),K8 (show x.rs.length<=1000000 by omega),u5 (show x.w.length<=1000000 by omega),η]
end Go.Proofs
namespace Go.Proofs
open Go.Ide Go.IntWalk
def LN (l:List UInt8):Prop:=l.length<=3100/\ ∀b∈l,b≠10
def TN (k:Nat)(l:List UInt8):Prop:=l.length<=k/\ ∀b∈l,44<=b.toNat
theorem TN.app {j k:Nat}{a b:List UInt8}(o:TN j a)(p:TN k b):TN (j+k) (a++b):=⟨by rw [ξ];have:=o.1;have:=p.1;omega,λx r=>(Λ.1 r).elim (o.2 x) (p.2 x)⟩
theorem TN.wO:TN 1 [59]:=⟨by decide,by decide⟩
theorem UF {b:UInt8}(h:44<=b.toNat):b≠10:=λe=>by subst e;revert h;decide
theorem TN.line {w t:List UInt8}{k:Nat}(j:w.length<=20/\ ∀b∈w,b≠10)(ht:TN k t)(p:k<=3080):LN (w++t):=⟨by rw [ξ];have:=j.1;have:=ht.1;omega,λx o=>(Λ.1 o).elim (j.2 x) λh=>UF (ht.2 x h)⟩
theorem oD {xs:List Int}{k:Nat}(j:dv xs=true)(o:xs.length*22+4<=k):bu (TN k) (dx xs):=by
 obtain ⟨q1,p⟩:=eT j;have:=vE q1;exact ⟨_,Ks (by omega) q1,by omega,(Vt j).2⟩
theorem iM {α:Type}{xs ys:List α}{j k:Nat}(o:xs.length<=j)(p:ys.length<=k)(h:j+k<=1000000):ζ xs+ζ ys<=bD:=by unfold bD;omega
theorem K9 {m c:Nat}{zs:List Q4}{ss es:List Int}(h:pk m c zs ss es):bu (TN 3000) (kB ((m:Int),(c:Int),zs,ss,es)):=by
 obtain ⟨v1,T,U,v4⟩:=h.vals;have h1:=h.sl;have h2:=h.el;have h3:=h.m2;have h4:=(eT v4).2;have hz:=h.zl;unfold kB;simp only [Ku (show zs.length<=1048576 by omega),η];refine χ (oD v1 (k:=50) (ϑ rfl)) λy1 I=>Ζ (iM I.1 TN.wO.1 (by omega)) (χ (oD T (k:=400) (by omega)) λy4 o=> ?_);have p:=I.app TN.wO;refine Ζ (iM p.1 o.1 (by omega)) (Ζ (iM (p.app o).1 TN.wO.1 (by omega)) (χ (oD U (k:=400) (by omega)) λy8 r=> ?_));have t:=(p.app o).app TN.wO;refine Ζ (iM t.1 r.1 (by omega)) (Ζ (iM (t.app r).1 TN.wO.1 (by omega)) (χ (oD v4 (k:=1412) (by omega)) λaa j=> ?_));have J:=(t.app r).app TN.wO;have R:=J.app j;exact Ζ (iM J.1 j.1 (by omega)) (ι ⟨ϫ R.1 (by omega),R.2⟩)
theorem La {n c:Nat}{rs:List Q4}(h:rU n c rs):bu (TN 3000) (kC ((n:Int),(c:Int),rs)):=by
 obtain ⟨v1,v4⟩:=h.vals;have r:=(eT v4).2;have t:=h.rl;unfold kC;simp only [HV (show rs.length<=1048576 by omega),η];refine χ (oD v1 (k:=50) (ϑ rfl)) λI p=>Ζ (iM p.1 TN.wO.1 (by omega)) (χ (oD v4 (k:=1412) (by omega)) λJ j=> ?_);have o:=p.app TN.wO;exact Ζ (iM o.1 j.1 (by omega)) (ι ⟨ϫ (o.app j).1 (by omega),(o.app j).2⟩)
theorem FU {m c:Nat}{nx:List Int}{es:List Bool}(h:dF m c nx es):bu (TN 3000) (nb ((m:Int),(c:Int),nx,es)):=by
 obtain ⟨v1,v4⟩:=h.vals;obtain ⟨T,U,h5,h6,h7,h8,_⟩:=h.facts;have hn:=h.nl;unfold nb;rw [HX];refine χ (oD v1 (k:=50) (ϑ rfl)) λI r=>Ζ (iM r.1 TN.wO.1 (by omega)) (χ (oD v4 (k:=1412) (by show nx.length*22+4<=_;omega)) λJ j=> ?_);have o:=r.app TN.wO;have p:=(o.app j).app TN.wO;refine Ζ (iM o.1 j.1 (by omega)) (Ζ (iM (o.app j).1 TN.wO.1 (by omega)) ?_);have e:=yO (s:=(m:Int)) (l:=(c:Int)) (nx:=nx) (es:=es) (acc:=I++[59]++J++[59]) (by omega) (ϫ p.1 (by omega));rw [e,η];have t:TN 64 (pf es):=⟨by unfold pf;rw [Ϝ];omega,λb R=>(Av b R).1⟩;exact ι ⟨ϫ (p.app t).1 (by omega),(p.app t).2⟩
theorem G6 {n:Nat}{s:jY}(h:df (n+2) s){ts:List (List UInt8)}(p:1<=ts.length){P:List UInt8->Prop}(hp: ∀t∈ts,P t): ∃t j,c8 s ts=some (t,j)/\P t/\df n j:=by
 obtain ⟨x,j,e,r,o⟩:=eH h p;have e:bA s (bn ts)=_:=e;refine ⟨ts.getD x [],j,?_,hp _ (cf r),o⟩;unfold c8;rw [e,η,guard_pos (show (0:Int)<=(x:Int)/\(x:Int)<bn ts from ⟨by omega,by simp only [bn];omega⟩)];rfl
theorem DU {g:Nat}{s:jY}(T:df (104+g) s): ∃(m c:Nat) (nx:List Int) (j:List Bool) (I:jY),gJ s=some (((m:Int),(c:Int),nx,j),I)/\dF m c nx j/\df g I:=by
 obtain ⟨o,U,r,q2,o2⟩:=eH (n:=102+g) (k:=6) (T.mono (by omega)) (by omega);obtain ⟨p,s3,t,q3,o3⟩:=eH (n:=100+g) (k:=3) (o2.mono (by omega)) (by omega);obtain ⟨nx,j,s4,e4,J,o4⟩:=FE (g:=g) (m:=1+o) (c:=1+p) (by omega) (by omega) (by omega) (by omega) o3;refine ⟨1+o,1+p,nx,j,s4,?_,⟨J,?_⟩,o4⟩;have r:bA s (6:Int)=_:=r;have t:bA U (3:Int)=_:=t;unfold gJ;simp only [r,t,η,uS (show o<=1000 by omega),uS (show p<=1000 by omega),e4];obtain ⟨m',R,h1,h2,_,_,_,_,h3,_⟩:=uO J;have:m'=1+o:=by omega
 have:R=1+p:=by omega
 have:m'*R<=6*3:=aaZ (by omega) (by omega);omega
theorem TN.max {k:Nat}{t w:List UInt8}(j:w.length<=20)(ht:TN k t)(o:k<=3080):ζ w+ζ t<=bD:=by have:=ht.1;unfold bD;omega
instance:DecidablePred LN:=λl=>inferInstanceAs (Decidable (l.length<=3100/\ ∀b∈l,b≠10))
theorem Lb {g:Nat}{s:jY}(hs:df (2000+g) s): ∃(l:List UInt8) (j:jY),gY s=some (l,j)/\LN l/\df g j:=by
 obtain ⟨x1,s1,R,q1,o1⟩:=eH (n:=1900+g) (k:=14) (hs.mono (by omega)) (by omega);obtain ⟨x2,s2,T,q2,p⟩:=eH (n:=1800+g) (k:=11) (o1.mono (by omega)) (by omega);have R:bA s (14:Int)=_:=R;have T:bA s1 (11:Int)=_:=T;have J:fg (x1:Int):=⟨by omega,by omega⟩;have t3:TN 21 (ϡ (x1:Int)):=⟨vD J,(K1 J).2⟩;have key:bu (λr:List UInt8×jY=>LN r.1/\df g r.2) (gY s):=by
  have I: ∀(ts:List (List UInt8)),1<=ts.length->(∀t∈ts,LN t)->bu (λr:List UInt8×jY=>LN r.1/\df g r.2) ((c8 s2 ts).bind λy=>some (y.1,y.2)):=λts U h2=>by
   obtain ⟨t,j,e,ht,o⟩:=G6 (n:=g) (p.mono (by omega)) U h2;rw [e];exact ι ⟨ht,o⟩
  unfold gY;rw [R,η,Fy J,η,T,η];refine bu.bif (λ_=>I _ (by decide) (by decide+kernel)) λ_=>bu.bif (λ_=> ?_) λ_=>bu.bif (λ_=> ?_) λ_=>bu.bif (λ_=> ?_) λ_=>bu.bif (λ_=> ?_) λ_=>bu.bif (λ_=>I _ (by decide) (by decide+kernel)) λ_=>bu.bif (λ_=>I _ (by decide) (by decide+kernel)) λ_=>
   bu.bif (λ_=>I _ (by decide) (by decide+kernel)) λ_=>bu.bif (λ_=>I _ (by decide) (by decide+kernel)) λ_=>bu.bif (λ_=> ?_) λ_=>I _ (by decide) (by decide+kernel)
  obtain ⟨m,c,zs,ss,es,j,e,hM,o⟩:=KD (g:=g) (p.mono (by omega));rw [e,η];exact χ (K9 hM) λt ht=>Ζ (ht.max (by decide) (by omega)) (ι ⟨ht.line (by decide) (by omega),o⟩);obtain ⟨m,c,nx,pe,j,e,hP,o⟩:=DU (g:=g) (p.mono (by omega));rw [e,η];exact χ (FU hP) λt ht=>Ζ (ht.max (by decide) (by omega)) (ι ⟨ht.line (by decide) (by omega),o⟩);obtain ⟨n,c,rs,j,e,hG,o⟩:=KE (g:=g) (p.mono (by omega));rw [e,η];exact χ (La hG) λt ht=>Ζ (ht.max (by decide) (by omega)) (ι ⟨ht.line (by decide) (by omega),o⟩);obtain ⟨w,j,e,⟨hw,hv⟩,o⟩:=H2 (g:=g) (p.mono (by omega));rw [e,η];exact χ (oD (jZ (λx J=>by have:=hv x J;omega) (show w.length<=64 by omega)) (k:=200) (by show w.length*22+4<=_;omega)) λt ht=>Ζ (ht.max (by decide) (by omega)) (ι ⟨ht.line (by decide) (by omega),o⟩);obtain ⟨t,j,e,ht,o⟩:=G6 (n:=g) (p.mono (by omega)) (ts:=[[99,111,117,110,116,32],[114,111,109,97,110,32]]) (by decide) (P:=λw=>w.length<=20/\ ∀b∈w,b≠10) (by decide);rw [e,η];exact Ζ (t3.max ht.1 (by omega)) (ι ⟨t3.line ht (by omega),o⟩)
 obtain ⟨r,e,U,h2⟩:=key;exact ⟨r.1,r.2,e,U,h2⟩
theorem Ik {code:List Int}(h:yK code): ∃ls,ow code=some ls/\(∀l∈ls,LN l)/\1<=ls.length/\ls.length<=5:=by
 obtain ⟨R,T⟩:=df.from h
 obtain ⟨x,U,j,q1,o1⟩:=eH (n:=20000) (k:=5) (T.mono (by omega)) (by omega);have j:bA _ (5:Int)=_:=j;have key:bu (λls:List (List UInt8)=>(∀l∈ls,LN l)/\1<=ls.length/\ls.length<=5) (rounds nP (((1+x:Nat):Int),U,([]:List (List UInt8)))):=by
  refine Ϸ (λd (s:Int×jY×List (List UInt8))=>s.1=(d:Int)/\df (d*2000) s.2.1/\(∀l∈s.2.2,LN l)/\d+s.2.2.length=1+x) (λd s hs=> ?_) (n:=1+x) ⟨rfl,o1.mono (by omega),(λl p=>by cases p),rfl⟩;obtain ⟨t,s,ls⟩:=s;obtain ⟨b1,b2,I,J⟩:=hs;obtain rfl:t=(d:Int):=b1;have J:d+ls.length=1+x:=J;unfold nP;refine bu.bif (λe=> ?_) λe=> ?_;have e:(d:Int)>0:=of_decide_eq_true e;obtain ⟨l,s',r,p,o⟩:=Lb (g:=(d - 1)*2000) (s:=s) (b2.mono (by omega));simp only [r,η];rw [cu (by omega)];exact ι (.inl ⟨d - 1,_,by omega,rfl,Nv (by omega) (by omega),o,ix I p,by show d - 1+(ls++[l]).length=1+x;rw [ξ];show d - 1+(ls.length+1)=_;omega⟩);have e: ¬(d:Int)>0:=of_decide_eq_false e;exact ι (.inr ⟨_,rfl,I,by show 1<=ls.length;omega,by show ls.length<=5;omega⟩)
 obtain ⟨ls,r,hq⟩:=key;refine ⟨ls,?_,hq⟩;unfold ow;rw [R,η,j,η,uS (show x<=1000 by omega)];simp only [r,η]
end Go.Proofs
namespace Go.Proofs
open Go.Ide Go.IntWalk
theorem Lc {ls:List (List UInt8)}{l:List UInt8}:vM (ls++[l])=vM ls++(l++[10]):=by
 induction ls with
 |nil=>rfl
 |cons a ls ih=>show a++10::vM (ls++[l])=_;rw [ih];simp [vM]
theorem G7 {ls:List (List UInt8)}{k:Nat}(h: ∀l∈ls,l.length<=k):(vM ls).length<=ls.length*(k+1):=by
 induction ls with
 |nil=>exact ϟ _
 |cons a ls ih=>
  have o:=h a (by simp);have p:=ih λl j=>h l (ύ _ j);show (a++10::vM ls).length<=(ls.length+1)*(k+1);rw [ξ,Η,ϓ,aeg];omega
end Go.Proofs
namespace Go.Proofs
open Go.Ide Go.IntWalk
def Cd (l:List UInt8):Prop:= ∀b∈l,b≠10
noncomputable def pK (c:Int)(l:List UInt8):Int:=((eI c l).getD (0,false)).1
def Il (c:Int):Prop:=0<=c/\c<=65002
theorem Im {c:Int}{l:List UInt8}(p:Il c)(R:l.length<=100000):bu (λr=>r.2=true/\Il r.1) (eI c l):=by
 unfold eI;rw [iY,η,show (decide (c>=0)&&decide (c<=65002))=true by simp only [κ,decide_eq_true_eq];exact p];refine χ (P:=Il) (bu.DI l.length (λ_ v=>Il v) (by omega) (λi v j o=> ?_) (λv o=> ?_) p) λr t=>ι ⟨rfl,t⟩;unfold nQ;simp only [show decide ((i:Int)<bn l)=true from kn j,cond_true,guard_pos (eO j),ca j (show l.length<=4294967296 by omega),Α];refine ι ⟨_,rfl,?_⟩;have T:(ε l i 0).toNat<256:=UInt8.toNat_lt _;have e:IntKind.wrap .i64 (((ε l i 0).toNat:Nat):Int)=(((ε l i 0).toNat:Nat):Int):=i64_in _ (by omega);obtain ⟨v1,U⟩:=o;have I:dX .i64 919 v=919*v:=uF (by omega);have J:bz .i64 (bz .i64 (919*v) (((ε l i 0).toNat:Nat):Int)) 191=919*v+(((ε l i 0).toNat:Nat):Int)+191:=by
  rw [eX (a:=919*v) (by omega),eX (by omega)]
 rw [e,I,J];have:=uR (x:=919*v+(((ε l i 0).toNat:Nat):Int)+191) (n:=65003) (by omega) (by omega);exact ⟨this.1,by omega⟩;unfold nQ;simp only [show decide (((l.length:Nat):Int)<bn l)=false from ky (ς _),cond_false];exact ι ⟨_,rfl,o⟩
theorem u6 {c:Int}{l:List UInt8}(o:Il c)(p:l.length<=100000):eI c l=some (pK c l,true)/\Il (pK c l):=by
 obtain ⟨⟨n,b⟩,e,j,r⟩:=Im o p;have j:b=true:=j;subst j;have:pK c l=n:=by unfold pK;rw [e];rfl
 rw [this];exact ⟨e,r⟩
theorem Il.i64 {c:Int}(h:Il c):fg c:=⟨by have:=h.1;omega,by have:=h.2;omega⟩
noncomputable def rr (c:Int)(l:List UInt8):List UInt8:=(ϡ (pK c l)++32::l)++[10]
noncomputable def dz:Int->List (List UInt8)->List UInt8
 |_,[]=>[]
 |c,l::r=>rr c l++dz (pK c l) r
noncomputable def tU:Int->List (List UInt8)->Int
 |c,[]=>c
 |c,l::r=>tU (pK c l) r
theorem vN {l:List UInt8}: ∀{ls:List (List UInt8)} {c:Int},dz c (ls++[l])=dz c ls++rr (tU c ls) l
 |[],c=>by show rr c l++[]=[]++rr c l;rw [ϲ,List.nil_append]
 |a::ls,c=>by show rr c a++dz (pK c a) (ls++[l])=(rr c a++dz (pK c a) ls)++rr (tU (pK c a) ls) l;rw [vN,ό]
theorem DV {l:List UInt8}: ∀{ls:List (List UInt8)} {c:Int},tU c (ls++[l])=pK (tU c ls) l
 |[],_=>rfl
 |a::ls,c=>DV (ls:=ls) (c:=pK c a)
theorem Ld {c:UInt8}: ∀{s:List UInt8},(∀b∈s,b≠c)->fV c s=s.length
 |[],_=>rfl
 |b::s,h=>by
  unfold fV;rw [if_neg (h b (by simp)),Ld λx j=>h x (ύ _ j)];rfl
theorem FV {c:UInt8}{t:List UInt8}: ∀{s:List UInt8},(∀b∈s,b≠c)->fV c (s++c::t)=s.length
 |[],_=>by simp [fV]
 |b::s,h=>by
  show (if b=c then 0 else fV c (s++c::t)+1)=s.length+1;rw [if_neg (h b (by simp)),FV λx j=>h x (ύ _ j)]
theorem za {c:UInt8}: ∀{s:List UInt8},fV c s≠s.length->s=s.take (fV c s)++c::s.drop (fV c s+1)/\(∀b∈s.take (fV c s),b≠c)/\fV c s<s.length
 |[],h=>absurd rfl h
 |b::s,h=>by
  have o:fV c (b::s)=if b=c then 0 else fV c s+1:=rfl
  by_cases e:b=c;rw [o,if_pos e];subst e;exact ⟨by simp,(λx j=>by cases j),by simp⟩;rw [o,if_neg e] at h⊢;have p:fV c s≠s.length:=λq=>h (by rw [q];rfl);obtain ⟨r,t,I⟩:=za p;refine ⟨?_,λx j=> ?_,by simp;omega⟩;show b::s=b::(s.take (fV c s)++c::s.drop (fV c s+1));rw [<-r];have j:x∈b::s.take (fV c s):=j;rcases ϖ.1 j with rfl|j
  exact e;exact t x j
theorem G8 {n:Int}{c:UInt8}(o:c.toNat<44): ∀b∈ϡ n,b≠c:=λb j e=>by
 subst e;have:=tO j;omega
theorem u7 {c:Int}{l rest:List UInt8}(o:Cd l):fV 10 (rr c l++rest)=(ϡ (pK c l)++32::l).length/\(rr c l++rest).take (ϡ (pK c l)++32::l).length=ϡ (pK c l)++32::l/\fV 32 (ϡ (pK c l)++32::l)=(ϡ (pK c l)).length:=by
 have p: ∀b∈ϡ (pK c l)++32::l,b≠10:=λb j=>by
  rcases Λ.1 j with j|j
  exact G8 (by decide) b j;rcases ϖ.1 j with rfl|j
  decide;exact o b j
 have e:rr c l++rest=(ϡ (pK c l)++32::l)++10::rest:=by unfold rr;rw [ό];rfl
 rw [e];exact ⟨FV p,aex,FV (G8 (by decide))⟩
structure rY (a:List UInt8)(n:Nat)(ls:List (List UInt8)):Prop where
 len:n<=a.length
 YO:a.take n=dz 0 ls
 no: ∀l∈ls,Cd l/\l.length<=16000
 stop: ∀l rest,Cd l->a.drop n≠rr (tU 0 ls) l++rest
theorem u9 {a:List UInt8}(ha:a.length<=16000):bu (λr=> ∃n:Nat,r.2=(n:Int)/\rY a n r.1) (jH a):=by
 unfold jH;refine χ (P:=λr=> ∃n:Nat,r.1=(n:Int)/\rY a n r.2) ?_ λr hr=>ι hr;refine Ϸ (λd (s:Int×Int×List (List UInt8))=> ∃n:Nat,s.2.1=(n:Int)/\n<=a.length/\d=a.length - n/\a.take n=dz 0 s.2.2/\(∀l∈s.2.2,Cd l/\l.length<=16000)/\s.1=tU 0 s.2.2/\Il s.1/\s.2.2.length<=n) (λd s hs=> ?_) (n:=a.length)
  ⟨0,rfl,ϟ _,rfl,rfl,(λl o=>by cases o),rfl,⟨by decide,by decide⟩,ς _⟩
 obtain ⟨c,off,j⟩:=s;obtain ⟨n,b1,b2,b3,T,b5,J,U,b8⟩:=hs;obtain rfl:off=(n:Int):=b1;have T:a.take n=dz 0 j:=T;have J:c=tU 0 j:=J;have U:Il c:=U;have b8:j.length<=n:=b8;have stop:(∀l rest,Cd l->a.drop n≠rr (tU 0 j) l++rest)->bu (λx=>(∃n' t,n'<d/\x=Sum.inl t/\ ∃n:Nat,t.2.1=(n:Int)/\n<=a.length/\n'=a.length - n/\a.take n=dz 0 t.2.2/\(∀l∈t.2.2,Cd l/\l.length<=16000)/\t.1=tU 0 t.2.2/\Il t.1/\t.2.2.length<=n)\/ ∃r,x=Sum.inr r/\ ∃n:Nat,r.1=(n:Int)/\rY a n r.2) (some (Sum.inr ((n:Int),j):(Int×Int×List (List UInt8))⊕(Int×List (List UInt8)))):=λh=>ι (.inr ⟨_,rfl,n,rfl,b2,T,b5,h⟩);have Wr:(a.drop n).length=a.length - n:=϶;unfold pC;refine Ζ (show (0:Int)<=(n:Int)/\(n:Int)<=bn a from ⟨by omega,by simp only [bn];omega⟩) ?_;have ZR:strings_IndexByte (cut a (n:Int) (bn a)) 10=some (if fV 10 (a.drop n)=(a.drop n).length then -1 else ((fV 10 (a.drop n):Nat):Int)):=by
  rw [uY];unfold strings_IndexByte;rw [<-nt];rfl
 simp only [ZR,η];by_cases hi:fV 10 (a.drop n)=(a.drop n).length;rw [if_pos hi];refine stop λl rest o e=> ?_;have:=(u7 (c:=tU 0 j) (rest:=rest) o).1;rw [<-e,hi,e] at this;have h2:(rr (tU 0 j) l++rest).length=(ϡ (pK (tU 0 j) l)++32::l).length+1+rest.length:=by unfold rr;rw [ξ,ξ];rfl
 omega;rw [if_neg hi];obtain ⟨p1,p2,p3⟩:=za hi;generalize hx:(a.drop n).take (fV 10 (a.drop n))=x at p1 p2;generalize hy:(a.drop n).drop (fV 10 (a.drop n)+1)=y at p1;have RQ:fV 10 (a.drop n)=x.length:=by rw [<-hx,ώ];omega
 have Ze:x.length<=16000:=by omega
 have hw:bz .i64 (n:Int) ((fV 10 (a.drop n):Nat):Int)=((n+x.length:Nat):Int):=by rw [eX (by omega)];omega
 have hcx:cut a (n:Int) ((n+x.length:Nat):Int)=x:=by
  unfold cut;rw [Α,Α,show n+x.length - n=x.length by omega,<-RQ];exact hx
 have R2:strings_Cut x [32]=some ((adB x [32]).1,(adB x [32]).2.1,(adB x [32]).2.2):=by
  unfold strings_Cut;rw [guard_pos (by omega)]
 rw [show decide (((fV 10 (a.drop n):Nat):Int)<0)=false from decide_eq_false (by omega),cond_false,hw];refine Ζ ⟨by omega,by omega,by simp only [bn];omega⟩ ?_;rw [hcx,R2,η,Nu];have I:a.drop n=x++10::y:=p1;by_cases R:fV 32 x=x.length;rw [if_pos R];obtain ⟨e1,_⟩:=u6 (c:=c) (l:=[]) U (ϟ _);simp only [e1,η,acO,cond_true];refine stop λl rest o e=> ?_;obtain ⟨q1,q2,q3⟩:=u7 (c:=tU 0 j) (rest:=rest) o;have h3:x=ϡ (pK (tU 0 j) l)++32::l:=by rw [<-hx,e,q1,q2]
 rw [h3,q3] at R;rw [ξ,Η] at R;omega;rw [if_neg R];obtain ⟨f1,f2,f3⟩:=za R;generalize hp:x.take (fV 32 x)=p at f1 f2;generalize o:x.drop (fV 32 x+1)=l at f1;have Vr:l.length<=16000:=by rw [<-o,϶];omega
 have D1:Cd l:=λb hb=>p2 b (by rw [f1];exact adj _ (ύ _ hb));obtain ⟨e1,e2⟩:=u6 (c:=c) (l:=l) U (by omega);simp only [e1,η,ϔ,cond_false,uQ e2.i64];refine bu.bif (λe=>stop λl' rest tu e'=> ?_) λe=> ?_;obtain ⟨q1,q2,q3⟩:=u7 (c:=tU 0 j) (rest:=rest) tu;have h3:x=ϡ (pK (tU 0 j) l')++32::l':=by rw [<-hx,e',q1,q2]
 have h4:p=ϡ (pK (tU 0 j) l'):=by rw [<-hp,h3,q3,aex]
 have h5:l=l':=by rw [<-o,h3,q3,List.drop_append];simp
 rw [h4,<-h5,J] at e;simp at e;have e:p=ϡ (pK c l):=by simpa using e
 have hxe:x++[10]=rr (tU 0 j) l:=by unfold rr;rw [<-J,<-e,<-f1]
 have L9:bz .i64 (n:Int) (bz .i64 ((fV 10 (a.drop n):Nat):Int) 1)=((n+(x.length+1):Nat):Int):=by
  rw [eX (a:=((fV 10 (a.drop n):Nat):Int)) (by omega),eX (by omega)];omega
 rw [cu (by omega),L9];refine ι (.inl ⟨a.length - (n+(x.length+1)),_,by omega,rfl,n+(x.length+1),rfl,by omega,rfl,?_,ix b5 ⟨D1,Vr⟩,?_,e2,by rw [ξ];show j.length+1<=_;omega⟩);rw [vN,<-T,<-hxe,List.take_add]
 congr 1
 rw [I,show x++10::y=(x++[10])++y by rw [ό];rfl,List.take_append_of_le_length (by rw [ξ];exact ς _),ϳ (by rw [ξ];exact ς _)];rw [DV,<-J]
end Go.Proofs
namespace Go.Proofs
open Go.Ide Go.IntWalk
theorem rZ: ∀{xs ys:List (List UInt8)} {c:Int},dz c (xs++ys)=dz c xs++dz (tU c xs) ys
 |[],_,_=>rfl
 |a::xs,ys,c=>by show rr c a++dz (pK c a) (xs++ys)=(rr c a++dz (pK c a) xs)++dz (tU (pK c a) xs) ys;rw [rZ,ό]
theorem NF {c:Int}{l j r p:List UInt8}(t:Cd l)(o:Cd j)(h:rr c l++r=rr c j++p):l=j:=by
 obtain ⟨I,J,R⟩:=u7 (c:=c) (rest:=r) t;obtain ⟨T,U,b3⟩:=u7 (c:=c) (rest:=p) o;have e:ϡ (pK c l)++32::l=ϡ (pK c j)++32::j:=by rw [<-J,<-U,<-I,<-T,h]
 have e2:(ϡ (pK c l)).length=(ϡ (pK c j)).length:=by rw [<-R,<-b3,e]
 have:=(List.append_inj e e2).2;injection this
theorem G9 {c:Int}{l:List UInt8}:1<=(rr c l).length:=by unfold rr;rw [ξ];show 1<=_+1;omega
theorem DW: ∀{j ls:List (List UInt8)} {c:Int} {r:List UInt8},(∀l∈j,Cd l)->(∀l∈ls,Cd l)->dz c ls=dz c j++r->j=ls.take j.length
 |[],_,_,_,_,_,_=>rfl
 |a::j,[],c,r,_,_,h=>by
  have h:[]=(rr c a++dz (pK c a) j)++r:=h;have:=congrArg ζ h;rw [ξ,ξ] at this;have:=G9 (c:=c) (l:=a);simp only [Χ] at*;omega
 |a::j,b::ls,c,r,p,t,h=>by
  have h:rr c b++dz (pK c b) ls=(rr c a++dz (pK c a) j)++r:=h;rw [ό] at h;obtain rfl:=NF (t b (by simp)) (p a (by simp)) h;have:=DW (λl o=>p l (ύ _ o)) (λl o=>t l (ύ _ o)) (List.append_cancel_left h);show b::j=b::ls.take j.length;rw [<-this]
theorem Lf: ∀{ls:List (List UInt8)} {c:Int} {acc:List UInt8},Il c->(∀l∈ls,Cd l/\l.length<=16000)->(acc++dz c ls).length<=16000->Lr ls c acc=some (acc++dz c ls,true)
 |[],_,acc,_,_,_=>by show some (acc,true)=some (acc++[],true);rw [ϲ]
 |l::ls,c,acc,r,o,j=>by
  obtain ⟨t,T⟩:=o l (by simp);obtain ⟨I,p⟩:=u6 r (l:=l) (by omega);have J:pO acc (pK c l) l=acc++rr c l:=by unfold pO rr;simp
  have j:(acc++(rr c l++dz (pK c l) ls)).length<=16000:=j;have e4:acL l [10]=false:=by
   unfold acL;rw [tN,nt,if_pos (Ld t)];rfl
  unfold Lr;rw [e4,cond_false,I,η,guard_pos (show _/\_ from p.i64),J,decide_eq_false (by rw [<-ό,ξ] at j;omega),cond_false,Lf p (λx R=>o x (ύ _ R)) (by rw [ό];exact j)];show some (acc++rr c l++dz (pK c l) ls,true)=some (acc++(rr c l++dz (pK c l) ls),true);rw [ό]
theorem ri {ls:List (List UInt8)}(j: ∀l∈ls,Cd l/\l.length<=16000)(o:(dz 0 ls).length<=16000)(r:ls.length<=16000):eP ls=some (dz 0 ls,true):=by
 unfold eP;rw [guard_pos (show _/\_ from ⟨by omega,List.all_eq_true.2 λl p=>decide_eq_true (by have:=(j l p).2;omega)⟩)];exact Lf ⟨by decide,by decide⟩ j o
theorem tS: ∀{ls:List (List UInt8)} {c:Int},ls.length<=(dz c ls).length
 |[],_=>ς _
 |a::ls,c=>by
  have:=tS (ls:=ls) (c:=pK c a);have:=G9 (c:=c) (l:=a);show ls.length+1<=(rr c a++dz (pK c a) ls).length;rw [ξ];omega
theorem rY.Ha {a:List UInt8}{n:Nat}{ls:List (List UInt8)}(h:rY a n ls)(o:a.length<=16000):eP ls=some (a.take n,true)/\ls.length<=16000:=by
 have p:=h.len;have j:(dz 0 ls).length<=16000:=by rw [<-h.YO,ώ];omega
 have r:=tS (ls:=ls) (c:=0);exact ⟨by rw [h.YO];exact ri h.no j (by omega),by omega⟩
theorem rY.cut {ls j:List (List UInt8)}{k n:Nat}(I: ∀l∈ls,Cd l)(h:rY ((dz 0 ls).take k) n j):j=ls.take j.length/\n<=k/\dz 0 j=(dz 0 ls).take n/\(j.length<ls.length->k<(dz 0 (ls.take (j.length+1))).length):=by
 have R:=h.len;rw [ώ] at R;have ht:=h.YO;rw [agZ,aas (by omega)] at ht;have hp:dz 0 ls=dz 0 j++(dz 0 ls).drop n:=by rw [<-ht,aaC]
 have J:=DW (λl T=>(h.no l T).1) I hp;refine ⟨J,by omega,ht.symm,λU=> ?_⟩;refine Nat.lt_of_not_le λhk=> ?_;have o:ls=j++ls[j.length]::ls.drop (j.length+1):=by
  have:=aaC j.length ls;rw [<-J,abJ U] at this;exact this.symm
 generalize ls[j.length]=l at o;generalize ls.drop (j.length+1)=r at o;have p:Cd l:=I l (by rw [o];simp);have t:n=(dz 0 j).length:=by rw [<-ht,ώ];omega
 have e1:ls.take (j.length+1)=j++[l]:=by
  have e:ls.take (j.length+1)=(j++l::r).take (j.length+1):=congrArg (ϛ _) o;rw [e,agu,ϳ (by omega)];simp
 rw [e1,vN,ξ] at hk;have e2:(dz 0 ls).drop n=rr (tU 0 j) l++dz (pK (tU 0 j) l) r:=by
  have:dz 0 ls=dz 0 j++(rr (tU 0 j) l++dz (pK (tU 0 j) l) r):=by
   have e:dz 0 ls=dz 0 (j++l::r):=congrArg (dz 0) o;rw [e,rZ];rfl
  rw [this,t,List.drop_left]
 refine h.stop l ((dz (pK (tU 0 j) l) r).take (k - n - (rr (tU 0 j) l).length)) p ?_;rw [List.drop_take,e2,agu,ϳ (by omega)]
theorem Lg {x:DK}(o:x.OK): ∀{ls:List (List UInt8)},(∀l∈ls,LN l)-> ∃(y:DK) (ts:List (List UInt8)),y.OK/\gG x.d ls y.d ts/\ts.length=ls.length/\ ∀t∈ts,TX t:=by
 intro ls;induction ls generalizing x with
 |nil=>exact λ_=>⟨x,[],o,.nil _,rfl,λt ht=>by cases ht⟩
 |cons l ls ih=>
  intro h;obtain ⟨z,t,e,p,ht,_⟩:=DR o (l:=l) (by have:=(h l (by simp)).1;omega);obtain ⟨y,ts,r,I,J,R⟩:=ih p λa j=>h a (ύ _ j);exact ⟨y,t::ts,r,.cons e (by have:=ht.1;omega) I,by simp [J],λa j=>by
   rcases ϖ.1 j with rfl|j
   exact ht;exact R a j⟩
abbrev fj (i:Int)(d:jM):Int×Int×Int×(List (Int×Int×Int×Int))×List Int×List Int×Int×Int×List Int×List Bool×Int×Int×(List (Int×Int×Int×Int))×List Int:=
 (i,d.1.1,d.1.2.1,d.1.2.2.1,d.1.2.2.2.1,d.1.2.2.2.2,d.2.1.1,d.2.1.2.1,d.2.1.2.2.1,d.2.1.2.2.2,d.2.2.1.1,d.2.2.1.2.1,d.2.2.1.2.2,d.2.2.2)
theorem zb {all:List (List UInt8)}{n:Int}(J:all.length<=100): ∀{d p:jM} {ls ts:List (List UInt8)},gG d ls p ts-> ∀(i:Nat),all.drop i=ls->rounds (dJ (all,n)) (fj (i:Int) d)=some (fj 0 p).2:=by
 intro d p ls ts T;induction T with
 |nil d=>
  intro i o;have j:all.length<=i:=by
   rcases aam i all.length with h|h
   have:=congrArg ζ o;rw [϶] at this;simp at this;omega;exact h
  rw [dM];have e:dJ (all,n) (fj (i:Int) d)=some (.inr (fj 0 d).2):=by
   unfold dJ;simp only [show decide ((i:Int)<bn all)=false from ky j,cond_false]
  rw [e]
 | @cons d R p l t ls ts U ht _ ih=>
  intro i o;have j:i<all.length:=by
   rcases aam i all.length with h|h
   exact h;rw [adq h] at o;cases o
  have r:all.drop i=all[i]::all.drop (i+1):=abJ j;rw [r] at o;injection o with h3 h4;have hg:ε all i []=l:=by rw [ψ,Γ j,<-h3];rfl
  have e:dJ (all,n) (fj (i:Int) d)=some (.inl (fj ((i+1:Nat):Int) R)):=by
   have I:fu ((d.1.1,d.1.2.1,d.1.2.2.1,d.1.2.2.2.1,d.1.2.2.2.2),(d.2.1.1,d.2.1.2.1,d.2.1.2.2.1,d.2.1.2.2.2),(d.2.2.1.1,d.2.2.1.2.1,d.2.2.1.2.2),d.2.2.2) l=some (R,t):=U;unfold dJ;simp only [show decide ((i:Int)<bn all)=true from kn j,cond_true,guard_pos (eO j),Α,hg,I,η];rw [ca j (by omega)]
  rw [dM,e];show rounds _ _=_;rw [ih (i+1) h4]
theorem zO {x y:DK}(T:x.OK)(U:y.OK){ls ts:List (List UInt8)}(h:gG x.d ls y.d ts)(h1: ∀l∈ls,Cd l)(hn:ls.length<=100)(hl:(dz 0 ls).length<=16000):kI x.d (dz 0 ls)=some (y.d,bn ls,true):=by
 have I:=uZ T;have J:=B7 U;obtain ⟨⟨j,n'⟩,e3,n,p,r⟩:=u9 hl;obtain rfl:n'=(n:Int):=p;have r:rY (dz 0 ls) n j:=r;have t:rY ((dz 0 ls).take (dz 0 ls).length) n j:=by rw [aan];exact r
 obtain ⟨R,a2,a3,a4⟩:=t.cut h1;have hle:j.length<=ls.length:=by
  have:=congrArg ζ R;rw [ώ] at this;omega
 have o:j=ls:=by
  by_cases hj:j.length<ls.length;have h5:=a4 hj;have h6:dz 0 ls=dz 0 (ls.take (j.length+1))++dz (tU 0 (ls.take (j.length+1))) (ls.drop (j.length+1)):=by rw [<-rZ,aaC]
  rw [h6,ξ] at h5;omega;rw [R,ϳ (by omega)]
 subst o;have e4:=zb (n:=(n:Int)) hn h 0 (by simp);have e4:rounds (dJ (j,(n:Int))) (fj 0 x.d)=some (fj 0 y.d).2:=e4;unfold fj DK.d at e4;unfold DK.d at I J⊢;unfold kI;simp only [decide_eq_false (show¬bn (dz 0 j)>16000 by simp only [bn];omega),I,e3,e4,J,η,ϔ,cond_false]
def Rz:DK:=⟨2,1,[((0:Int),(1:Int),(0:Int),(3:Int))],[0,-1],[-1,0],2,1,[1,0],[true,false],1,1,[((0:Int),(0:Int),(0:Int),(1:Int)),((0:Int),(0:Int),(-1:Int),(1:Int))],[0]⟩
theorem RA:ox=some Rz.d:=rfl
theorem FW:Rz.OK where
 pn:=⟨by decide,by decide,by decide,by decide,by decide,by simp [Rz,wv],rfl,rfl,by simp [Rz],by simp [Rz]⟩
 plain:=⟨q9 (by decide) (by decide) (by decide) (by decide) rfl rfl (λi hi=>by
  have hi:i<2:=hi;rcases (show i=0\/i=1 by omega) with rfl|rfl<;>decide),by decide⟩
 wN:=⟨by decide,by decide,by decide,by decide,by decide,by simp [Rz,ra]⟩
 word:=⟨by decide,by simp [Rz]⟩
theorem DX {ls:List (List UInt8)}(I: ∀l∈ls,LN l)(R:ls.length<=5):rounds (gx ls) (([]:List UInt8),(0:Int))=some (vM ls):=by
 obtain ⟨r,e,J⟩:bu (λr=>r=vM ls) (rounds (gx ls) (([]:List UInt8),(0:Int))):=by
  refine bu.DI ls.length (λi v=>v=vM (ls.take i)) (by omega) (λi v j o=> ?_) (λv o=> ?_) rfl;subst o;have p:=(I _ (cf (d:=[]) j)).1;have t:(vM (ls.take i)).length<=5*3101:=ϫ (G7 (k:=3100) λl h=>(I l (ado h)).1) (Τ _ (by rw [ώ];omega));unfold gx;simp only [show decide ((i:Int)<bn ls)=true from kn j,cond_true,guard_pos (eO j),Α,ca j (show ls.length<=4294967296 by omega)];refine Ζ (iM p (k:=1) (ς _) (by omega)) (Ζ (iM t (k:=3101) (by rw [ξ];show _+1<=_;omega) (by omega)) (ι ⟨_,rfl,?_⟩));rw [gV j [],Lc];subst o;unfold gx;simp only [show decide (((ls.length:Nat):Int)<bn ls)=false from ky (ς _),cond_false];exact ι ⟨_,rfl,by rw [aan]⟩
 rw [e,J]
end Go.Proofs
namespace Go.Proofs
open Go.Ide Go.IntWalk
theorem B8 {c:List Int}(p:yK c){i n:Int}(r:0<=i)(j:0<n):bu (λx=>0<=x/\x<n) (oK c i n):=by
 unfold oK;refine χ (P:=λv=>v=false->i<bn c) (bu.bif (λ_=>ι λe=>by cases e) λ_=>ι λe=>by simpa using e) λv t=>bu.bif (λ_=>ι ⟨Ϫ _,j⟩) λe=> ?_;have h:=t e;have o:=p.2 i.toNat (by simp only [bn] at h;omega);refine Ζ ⟨r,h⟩ (Ζ (by omega) (ι ?_));rw [KA _ o];exact uR o.1 j
theorem RB {α:Type}{xs:List α}{k:Nat}:cut xs 0 (k:Int)=xs.take k:=by unfold cut;simp
theorem DY {a:List UInt8}(j:a.length<=16000):bu (λr=> ∃n:Nat,r.2.1=(n:Int)/\r.2.2=true/\rY a n r.1) (fh a):=by
 unfold fh;rw [decide_eq_false (show¬bn a>16000 by simp only [bn];omega),cond_false];exact χ (u9 j) λy ⟨n,o,p⟩=>ι ⟨n,o,rfl,p⟩
theorem DZ: ∀{ls:List (List UInt8)} {c:Int},Il c->(∀l∈ls,LN l)->(dz c ls).length<=ls.length*3123
 |[],_,_,_=>ς _
 |l::ls,c,j,h=>by
  have p:=(h l (by simp)).1;have e:=(u6 j (l:=l) (by omega)).2;have r:=DZ e λx o=>h x (ύ _ o);have t:=vD e.i64;show (rr c l++dz (pK c l) ls).length<=(ls.length+1)*3123;unfold rr;rw [ξ,ξ,ξ,Η,ϓ];show _+(_+1)+1+_<=_;omega
theorem FnJournal_law (x0 x1:List Int)(w0:WfD (.sl (.int .u8)) x0)(w1:WfD (.sl (.int .u8)) x1):mn x0 x1=some true:=by
 suffices h:bu (λb=>b=true) (mn x0 x1) by
  obtain ⟨b,e,hb⟩:=h;rw [e,hb]
 unfold mn;refine χ (P:=λb=>b=false->bn x0<=48/\bn x1<=48) ?_ λb hb=>bu.bif (λ_=>ι rfl) λe=> ?_;unfold rO;refine χ (P:=λb=>b=false->bn x0<=48/\bn x1<=48) (bu.bif (λ_=>ι λe=>by cases e) λe=>ι λe2=>⟨by simpa using e,by simpa using e2⟩) λb hb=>ι hb;obtain ⟨c0,c1⟩:=hb e;have b0:=Ar w0 (by simp only [bn] at c0;omega);have b1:=Ar w1 (by simp only [bn] at c1;omega);obtain ⟨ls,eS,T,n1,n2⟩:=Ik b0;have U: ∀l∈ls,Cd l:=λl h=>(T l h).2;have I: ∀l∈ls,Cd l/\l.length<=16000:=λl h=>⟨(T l h).2,by have:=(T l h).1;omega⟩;have aa:(dz 0 ls).length<=16000:=ϫ (DZ ⟨by decide,by decide⟩ T) (ϫ (Τ _ n2) (by omega));have hJc:=tS (ls:=ls) (c:=0);have eJ:=ri I aa (by omega);rw [eS,η,eJ,η];generalize hJ:dz 0 ls=J at aa hJc eJ;refine χ (P:=λv=>v=false) (bu.bif (λe=>by cases e) λ_=>ι ?_) λv hv=> ?_;show (bn J==0)=false;rw [beq_eq_false_iff_ne];simp only [bn];omega;subst hv;simp only [cond_false];refine χ (B8 b1 (by omega) (by omega)) λp h13=>χ (B8 b1 (by omega) (by omega)) λt YK=> ?_;have e1:bz .i64 (bn J) 1=((J.length+1:Nat):Int):=ca (n:=100000) (by omega) (by omega);have e2:bz .i64 (dX .i64 256 p) t=256*p+t:=by rw [uF (by omega),eX (by omega)]
 obtain ⟨k,hk,hkl⟩: ∃k:Nat,Int.tmod (bz .i64 (dX .i64 256 p) t) (bz .i64 (bn J) 1)=(k:Int)/\k<=J.length:=by
  rw [e1,e2];have:=uR (x:=256*p+t) (n:=((J.length+1:Nat):Int)) (by omega) (by omega);exact ⟨(Int.tmod (256*p+t) ((J.length+1:Nat):Int)).toNat,by omega,by omega⟩
 simp only [hk];refine Ζ (by rw [e1];omega) (Ζ (show (0:Int)<=(k:Int)/\(k:Int)<=bn J from ⟨by omega,by simp only [bn];omega⟩) ?_);rw [RB];have qF:(J.take k).length<=16000:=by rw [ώ];omega
 refine χ (DY qF) λo YL=> ?_;obtain ⟨n,hn,zk,hR⟩:=YL;obtain ⟨r1,r2⟩:=hR.Ha qF;have hR':rY ((dz 0 ls).take k) n o.1:=by rw [hJ];exact hR
 obtain ⟨d1,d2,d3,d4⟩:=hR'.cut U;rw [hJ] at d3;have hle:o.1.length<=ls.length:=by
  have:=congrArg ζ d1;rw [ώ] at this;omega
 have Zl:(J.take k).take n=J.take n:=by rw [agZ,aas d2]
 refine χ (P:=λr=>r=(J.take n,true)) ⟨_,r1,by rw [Zl]⟩ λR7 h21=> ?_;subst h21;refine χ (P:=λv=>v=false) ?_ λv hv=> ?_;rw [zk];simp only [ϔ,cond_false,hn];rw [decide_eq_false (show¬(n:Int)>(k:Int) by omega),cond_false];refine Ζ ⟨by omega,by simp only [bn];omega⟩ ?_;rw [RB,bne_self_eq_false,cond_false];exact ι (decide_eq_false (show¬bn o.1>bn ls by simp only [bn];omega));subst hv;simp only [cond_false];refine χ (P:=λw=>w=Sum.inl ()) (bu.bif (λe=> ?_) λ_=>ι rfl) λw hw=> ?_;have e:bn o.1<bn ls:=of_decide_eq_true e;have e':o.1.length<ls.length:=by simp only [bn] at e;omega
 have hw:bz .i64 (bn o.1) 1=((o.1.length+1:Nat):Int):=ca (n:=100000) (by omega) (by omega);have hp:dz 0 ls=dz 0 (ls.take (o.1.length+1))++dz (tU 0 (ls.take (o.1.length+1))) (ls.drop (o.1.length+1)):=by rw [<-rZ,aaC]
 have hpl:(dz 0 (ls.take (o.1.length+1))).length<=16000:=by
  have:=congrArg ζ hp;rw [hJ,ξ] at this;omega
 have ej:=ri (ls:=ls.take (o.1.length+1)) (λl h=>I l (ado h)) hpl (by rw [ώ];omega);have Zy:=d4 e';rw [hw];refine Ζ ⟨by omega,by simp only [bn];omega⟩ ?_;rw [List.drop_zero,Α,ej,η];refine χ (P:=λv=>v=false) (bu.bif (λe=>by cases e) λ_=>ι (decide_eq_false (show¬bn (dz 0 (ls.take (o.1.length+1)))<=(k:Int) by simp only [bn];omega))) λv hv=> ?_;subst hv;exact ι rfl;subst hw;obtain ⟨y,ts,hy,hr,R,ht⟩:=Lg FW T;have iH:ts≠[]:=λe=>by rw [e] at R;simp at R;omega
 have q1:=zO FW hy hr U (by omega) (by rw [hJ];exact aa);rw [hJ] at q1;have q2:=Ry FW hy hr U (ϫ (G7 (k:=3100) λl tu=>(T l tu).1) (ϫ (Τ _ n2) (by omega))) (by omega) iH;have q3:=Ij hy;have q4:=RA;have q5:=DX T n2;unfold DK.d at q1 q2 q3 q4;simp only [q4,q5,η,q1,q2,ϔ,cond_false,bne_self_eq_false,q3];refine bu.bif (λe=>ι ?_) λe=> ?_;have e:(k:Int)=bn J:=by simpa using e
 have ZT:k=J.length:=by simp only [bn] at e;omega
 rw [hn];show ((n:Int)==bn J)=true;have Iu:n=J.length:=by
  by_cases hj:o.1.length<ls.length;have h5:=d4 hj;have h6:dz 0 ls=dz 0 (ls.take (o.1.length+1))++dz (tU 0 (ls.take (o.1.length+1))) (ls.drop (o.1.length+1)):=by rw [<-rZ,aaC]
  have:=congrArg ζ h6;rw [hJ,ξ] at this;omega;have h7:o.1=ls:=by rw [d1,ϳ (by omega)]
  rw [h7,hJ] at d3;have:=congrArg ζ d3;rw [ώ] at this;omega
 rw [Iu];simp [bn];have e: ¬(k:Int)=bn J:=by simpa using e
 have ZT:k<J.length:=by simp only [bn] at e;omega
 refine Ζ ⟨by omega,by simp only [bn];omega⟩ (χ (B8 b1 (by omega) (by omega)) λUw _=> ?_);have hw:bz .i64 (k:Int) 1=((k+1:Nat):Int):=ca ZT (by omega);have h1: ∀z:Int,(gy [z]).length=1:=λz=>EV [z];have h2:(J.take k).length<=16000:=qF;have h3:(cut J ((k+1:Nat):Int) (bn J)).length=J.length - (k+1):=by rw [uY,϶]
 have h4: ∀z:Int,(J.take k++gy [z]++cut J ((k+1:Nat):Int) (bn J)).length<=16000:=λz=>by
  rw [ξ,ξ,h1,h3,ώ];omega
 rw [hw];refine Ζ (iM h2 (Nat.le_of_eq (h1 _)) (by omega)) (Ζ ⟨by omega,by simp only [bn];omega⟩ (Ζ (iM (j:=16001) (k:=16000) (by rw [ξ,h1];omega) (by rw [h3];omega) (by omega)) ?_));refine χ (DY (h4 _)) λYC h59=> ?_;obtain ⟨n',Iu,YP,ZU⟩:=h59;have sU:=ZU.len;rw [(ZU.Ha (h4 _)).1,η,YP,Iu];simp only [cond_true];refine χ (P:=λb=>b=true) (bu.bif (λ_=>Ζ ⟨by omega,ahY.2 sU⟩ (ι ?_)) λe=>absurd (ahY.2 sU) (of_decide_eq_false e)) λv hv=>ι hv;rw [RB,beq_self_eq_true]
end Go.Proofs
