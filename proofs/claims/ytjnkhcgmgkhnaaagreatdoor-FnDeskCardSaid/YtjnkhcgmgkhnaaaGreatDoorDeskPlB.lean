import Derived.Test.YtjnkhcgmgkhnaaaGreatDoorDeskPlA
import Derived.Lib.SplitLaws
import Derived.Lib.ItoaLen
import Derived.Lib.CutLaws
import Derived.Lib.Join
import Derived.Lib.ParseIntBTie
set_option linter.all false
open Bool renaming and_eq_true→κ,not_true→ύ,not_eq_true'→aaf,and_self→abw
open Go renaming Found→afp
open Go.Lib renaming itoa→Ϯ
open Go.Proofs.CS renaming inl→af1
open Go.Proofs.ba renaming some→ι,bind→χ,guard→Θ,rounds→϶
open Int renaming toNat→δ,toNat_natCast→Β,le_refl→Ϭ,toNat_of_nonneg→aaj,mul_one→ahy
open List renaming getD→ε,length→ζ,replicate→π,getD_eq_getElem?_getD→ς,length_append→ω,getElem?_eq_getElem→Γ,length_cons→Ζ,getElem?_append_right→Κ,mem_append→Λ,length_nil→Χ,mem_singleton→ϊ,append_assoc→ό,mem_cons→ϒ,length_map→ϔ,length_replicate→ϕ,length_set→ϗ,length_take→ϙ,mem_cons_of_mem→ϛ,mem_map→ϟ,length_drop→aab,getElem?_eq_none→aac,take_length→aam,getElem_of_mem→aaL,mem_or_eq_of_mem_set→aaO,map_append→aaQ,countP_le_length→aa6,range→abh,eq_of_mem_replicate→aby,mem_range→abJ,mem_append_left→acR,getElem_map→adW,mem_append_right→aeN,mem_of_mem_take→aeS,countP_append→afq,nodup_append→afs,countP_cons→af2,countP_nil→agh
open Nat renaming le_refl→φ,mul_le_mul_right→Ρ,add_mul→ϑ,le_of_ble_eq_true→ϓ,zero_le→ϝ,le_trans→ϣ,add_zero→ϧ,mod_eq_of_lt→aai,mul_comm→aay,lt_or_ge→aaz,mul_le_mul→aaB,div_eq_of_lt→adI,one_mul→adK,mul_add_div→adT,mul_add_mod→adU,one_le_two_pow→afL,sub_self→ahl
open Option renaming bind_some→η
namespace Go.Proofs
open Go.Ide Go.IntWalk
theorem yu {n:Nat}(j:1<=n)(o:n<=64):kV (n:Int)=some (π n (-1)):=by
 unfold kV;rw [yt j o];rfl
theorem Bv {n:Nat}(j:1<=n)(o:n<=64):ba (λr=>r.length=n/\ ∀y∈r,-1<=y/\y<1099511627776) (kV (n:Int)):=
 ⟨_,yu j o,ϕ,λy p=>by rw [aby p];omega⟩
def ti (n:Nat)(rs:List Q4)(p cs:List Int)(k:Nat):Prop:= ∃j:Nat->Nat,∀s,s<n->0<=cs.getD s 0->j s<k/\(0<=p.getD s 0/\p.getD s 0<aW rs)/\
 (0<=(rs.getD (p.getD s 0).toNat (0,0,0,0)).2.2.1->(0<=cs.getD (δ (rs.getD (p.getD s 0).toNat (0,0,0,0)).2.1) 0/\j (δ (rs.getD (p.getD s 0).toNat (0,0,0,0)).2.1)<j s)/\
  0<=cs.getD (δ (rs.getD (p.getD s 0).toNat (0,0,0,0)).2.2.1) 0/\j (δ (rs.getD (p.getD s 0).toNat (0,0,0,0)).2.2.1)<j s)
theorem yw {α:Type}{xs:List α}{i j:Nat}{v d:α}(o:i<xs.length):(xs.set i v).getD j d=if i=j then v else xs.getD j d:=by
 rw [ς,ς,List.getElem?_set];by_cases e:i=j;subst e;simp [o];simp [e]
theorem ti.set {n:Nat}{rs:List Q4}{p cs:List Int}{k k2 o:Nat}{b v:Int}(h:ti n rs p cs k)(hk:k<k2)(hp:o<p.length)(hc:o<cs.length)(hx:cs.getD o 0<0)(hb:0<=b/\b<aW rs)(R:0<=(rs.getD b.toNat (0,0,0,0)).2.2.1->(δ (rs.getD b.toNat (0,0,0,0)).2.1<n/\0<=cs.getD (δ (rs.getD b.toNat (0,0,0,0)).2.1) 0)/\δ (rs.getD b.toNat (0,0,0,0)).2.2.1<n/\0<=cs.getD (δ (rs.getD b.toNat (0,0,0,0)).2.2.1) 0):
 ti n rs (p.set o b) (cs.set o v) k2:=by
 obtain ⟨rk,T⟩:=h;have up: ∀j,0<=cs.getD j 0->o≠j/\(cs.set o v).getD j 0=cs.getD j 0:=λj hj=>by
  have e:o≠j:=λe=>by subst e;omega
  exact ⟨e,by rw [yw hc,if_neg e]⟩
 refine ⟨λs=>if s=o then k else rk s,λs hs h0=> ?_⟩;rw [yw hp];by_cases e:o=s;subst e;simp only [if_true,if_pos rfl];refine ⟨hk,hb,λq=> ?_⟩;obtain ⟨⟨I,r⟩,J,t⟩:=R q;obtain ⟨U,u2⟩:=up _ r;obtain ⟨u3,u4⟩:=up _ t;rw [u2,u4,if_neg (λe=>U e.symm),if_neg (λe=>u3 e.symm)];exact ⟨⟨r,(T _ I r).1⟩,t,(T _ J t).1⟩;rw [yw hc,if_neg e] at h0;obtain ⟨r1,r2,r3⟩:=T s hs h0;have e': ¬s=o:=λq=>e q.symm;simp only [if_neg e,if_neg e'];refine ⟨by omega,r2,λq=> ?_⟩;obtain ⟨⟨I,r⟩,J,t⟩:=r3 q;obtain ⟨U,u2⟩:=up _ I;obtain ⟨u3,u4⟩:=up _ J;rw [u2,u4,if_neg (λe=>U e.symm),if_neg (λe=>u3 e.symm)];exact ⟨⟨I,r⟩,J,t⟩
section
variable {n c:Nat} {rs:List Q4} (h:qE n c rs)
include h
def qH (n:Nat)(cs:List Int):Prop:=cs.length=n/\ ∀y∈cs,-1<=y/\y<1099511627776
theorem u6 {cs:List Int}(j:qH n cs){i:Nat}: -1<=cs.getD i 0/\cs.getD i 0<1099511627776:=by
 by_cases o:i<cs.length;exact j.2 _ (bQ o);rw [ς,aac (by omega)];exact ⟨by decide,by decide⟩
theorem sh {r:Q4}(j:rq n c r):(0<=r.1/\r.1<(n:Int))/\(0<=r.2.2.1->(0<=r.2.1/\r.2.1<(n:Int))/\r.2.2.1<(n:Int)):=by
 obtain ⟨o,p,J,t,R,I⟩:=j;exact ⟨o,λq=>⟨⟨t,I q⟩,p.2⟩⟩
def Bw (rs:List Q4)(cs:List Int)(b v:Int):Prop:=v<=1099511627776/\(b<0\/(0<=b/\b<aW rs/\0<=v/\v<1099511627776/\cs.getD (δ (rs.getD b.toNat (0,0,0,0)).1) 0<0/\
 (0<=(rs.getD b.toNat (0,0,0,0)).2.2.1->0<=cs.getD (δ (rs.getD b.toNat (0,0,0,0)).2.1) 0/\0<=cs.getD (δ (rs.getD b.toNat (0,0,0,0)).2.2.1) 0)))
theorem QA {p cs:List Int}(U:qH n cs):ba (λr=>Bw rs cs r.1 r.2) (rounds (gw ((n:Int),(c:Int),rs) (p,cs)) ((-1:Int),(1099511627776:Int),(0:Int))):=by
 have TE:=h.rl;have mZ:=U.1;refine ϶ (λd s=>0<=s.2.2/\s.2.2<=aW rs/\d=(aW rs - s.2.2).toNat/\Bw rs cs s.1 s.2.1) (λd s hs=> ?_) (n:=rs.length) ⟨Ϭ _,by simp [aW],by simp [aW],Ϭ _,.inl (by decide)⟩;obtain ⟨b,v,t⟩:=s;obtain ⟨R,b2,b3,J⟩:=hs;have R:0<=t:=R;have b3:d=(aW rs - t).toNat:=b3;have J:Bw rs cs b v:=J;unfold gw;refine ba.bif (λe=> ?_) (λ_=>ι (.inr ⟨_,rfl,J⟩));have e:t<aW rs:=of_decide_eq_true e;have T:=oh h R e;obtain ⟨g1,g2⟩:=sh h T;obtain ⟨_,_,g3,_⟩:=T;have hw:bf .i64 t 1=t+1:=fM (by simp only [aW] at e;omega);simp only;refine χ (P:=λv=>Bw rs cs v.1 v.2) (Θ ⟨R,e⟩ ?_) λv hv=>ι (.inl ⟨d - 1,_,by omega,rfl,by rw [hw];show 0<=t+1;omega,by rw [hw];show t+1<=aW rs;omega,by rw [hw];show d - 1=(aW rs - (t+1)).toNat;omega,hv⟩);have YK: ∀x:Int,(0<=x->x<1099511627776->(rs.getD t.toNat (0,0,0,0)).1=(rs.getD t.toNat (0,0,0,0)).1):=λ_ _ _=>rfl;generalize hr:rs.getD t.toNat (0,0,0,0)=r at g1 g2 g3⊢;refine χ (P:=λq=>q=r.2.2.1) (ι rfl) λq27 h27=>χ (P:=λq=>q=r.2.2.2) (ι rfl) λq29 h29=> ?_;subst h27 h29;refine χ (P:=λw=>match w with| .inl o=>0<=o/\(0<=r.2.2.1->0<=cs.getD (δ r.2.1) 0/\0<=cs.getD (δ r.2.2.1) 0)| .inr z=>z=(b,v)) ?_ λw j=> ?_;refine ba.bif (λI=> ?_) (λI=>ι ⟨g3.1,λq=>absurd q (by have:=of_decide_eq_false I;omega)⟩);have I:0<=r.2.2.1:=of_decide_eq_true I;obtain ⟨g4,g5⟩:=g2 I;have k1:=u6 h U (i:=δ r.2.1);have k2:=u6 h U (i:=δ r.2.2.1);refine χ (P:=λb=>b=false->0<=cs.getD (δ r.2.1) 0/\0<=cs.getD (δ r.2.2.1) 0) (Θ ⟨g4.1,by simp only [aW];omega⟩ (ba.bif (λ_=>ι λq=>by cases q) λq1=>Θ ⟨I,by simp only [aW];omega⟩ (ι λq=>⟨by have:=of_decide_eq_false q1;omega,by have:=of_decide_eq_false q;omega⟩))) λv46 h46=> ?_;refine ba.bif (λ_=>ι rfl) λe3=>Θ ⟨g4.1,by simp only [aW];omega⟩ (Θ ⟨I,by simp only [aW];omega⟩ (ι ?_));have:=h46 e3;refine ⟨?_,λ_=>this⟩;show 0<=bf .i64 _ (bf .i64 _ _);rw [fM (a:=cs.getD (δ r.2.1) 0) (by omega),fM (by omega)];omega;cases w with
 |inr z=>
  have j:z=(b,v):=j;subst j;exact ι J
 |inl o=>
  obtain ⟨j,hw3⟩:=j;refine χ (P:=λb=>b=true->cs.getD (δ r.1) 0<0/\o<v) (Θ ⟨g1.1,by simp only [aW];omega⟩ (ba.bif (λq1=>ι λq2=>⟨of_decide_eq_true q1,of_decide_eq_true q2⟩) λ_=>ι λq=>by cases q)) λXs h38=> ?_;refine ba.bif (λe4=>ι ?_) λ_=>ι J;obtain ⟨q1,q2⟩:=h38 e4;have q3:=J.1;exact ⟨by show o<=_;omega,.inr ⟨R,e,j,by show o<_;omega,by rw [hr];exact ⟨q1,hw3⟩⟩⟩
theorem vH:ba (λr=>qH n r.2/\r.1.length=n/\ti n rs r.1 r.2 n) (dY ((n:Int),(c:Int),rs)):=by
 have t:=h.n1;have tl:=h.n2;unfold dY;obtain ⟨_,e0,h3⟩:=Bv t (show n<=64 by omega);rw [yu t (by omega)] at e0;cases e0;rw [yu t (by omega),η,η];refine χ (P:=λr=>qH n r.2/\r.1.length=n/\ti n rs r.1 r.2 n) ?_ λr hr=>ι hr;refine ϶ (λ(d:Nat) (s:List Int×List Int)=>s.1.length=n/\qH n s.2/\d=s.2.countP (λx=>decide (x<0))/\ti n rs s.1 s.2 (n - d)) (λd s R=> ?_) (n:=(π n (-1:Int)).countP (λx=>decide (x<0))) ⟨h3.1,h3,rfl,λ_=>0,λs R h0=>by
  have:(π n (-1:Int)).getD s 0= -1:=aby (bQ (by rw [ϕ];exact R));have h0:0<=(π n (-1:Int)).getD s 0:=h0;omega⟩
 obtain ⟨p,cs⟩:=s;obtain ⟨s1,J,s3,s4⟩:=R;have s1:p.length=n:=s1;have s4:ti n rs p cs (n - d):=s4;have J:qH n cs:=J;have s3:d=cs.countP (λx=>decide (x<0)):=s3;unfold kf;refine χ (QA h J) λr hr=> ?_;obtain ⟨b,v⟩:=r;refine ba.bif (λ_=>ι (.inr ⟨_,rfl,J,s1,let ⟨rk,hk⟩:=s4;⟨rk,λs R h0=>have:=hk s R h0;⟨by omega,this.2⟩⟩⟩)) λe=> ?_;have e: ¬b<0:=of_decide_eq_false e;rcases hr.2 with q|⟨q1,T,q3,q4,o,q6⟩
 exact absurd q e;have q1:0<=b:=q1;have T:b<aW rs:=T;have q3:0<=v:=q3;have q4:v<1099511627776:=q4;obtain ⟨g1,g2⟩:=sh h (oh h q1 T);have hl:=J.1;generalize hix:δ (rs.getD b.toNat (0,0,0,0)).1=U at o;have j:U<cs.length:=by omega
 have Oj:(cs.set U v).countP (λx=>decide (x<0))<d:=by
  have o:=o;rw [ς,Γ j] at o;have o:cs[U]<0:=o;rw [List.countP_set j,if_pos (by simpa using o),if_neg (by simp;omega),s3];have:0<cs.countP (λx=>decide (x<0)):=List.countP_pos_iff.2 ⟨cs[U],List.getElem_mem j,by simpa using o⟩;omega
 have Ua:d<=n:=by rw [s3,<-hl];exact aa6
 simp only;refine Θ ⟨q1,T⟩ (Θ ⟨g1.1,by simp only [aW];omega⟩ (Θ ⟨g1.1,by simp only [aW];omega⟩ (ι (.inl ⟨_,_,?_,rfl,?_,⟨?_,λy I=> ?_⟩,rfl,?_⟩))));exact Oj;show (p.set _ _).length=n;rw [ϗ];exact s1;show (cs.set _ _).length=n;rw [ϗ];exact hl;rcases aaO I with I|I
 exact J.2 y I;have I:y=v:=I;rw [I];exact ⟨by omega,q4⟩;refine s4.set (show n - d<n - (cs.set U v).countP (λx=>decide (x<0)) by omega) (by omega) j o ⟨q1,T⟩ λq=> ?_;obtain ⟨g4,g5⟩:=g2 q;obtain ⟨c1,c2⟩:=q6 q;exact ⟨⟨by omega,c1⟩,by omega,c2⟩
theorem Dk {r:Q4}(j:rq n c r){cs:List Int}(t:cs.length=n):ba (λb=>b=true->True) (fB (r.1,r.2.1,r.2.2.1,r.2.2.2) cs):=by
 obtain ⟨_,o⟩:=sh h j;unfold fB;refine χ (P:=λ_=>True) (ba.bif (λ_=>ι trivial) λe=> ?_) λ_ _=>ι λ_=>trivial;have e: ¬r.2.2.1<0:=of_decide_eq_false e;obtain ⟨p,I⟩:=o (by omega);refine Θ ⟨p.1,by simp only [aW];omega⟩ (ba.bif (λ_=>Θ ⟨by show 0<=r.2.2.1;omega,by simp only [aW];omega⟩ (ι trivial)) λ_=>ι trivial)
theorem Hz: ∃out,hJ ((n:Int),(c:Int),rs)=some (out,true)/\cJ out=true:=by
 have hn1:=h.n1;have tl:=h.n2;have TE:=h.rl;obtain ⟨y4,e4,h4,_⟩:=vH h;have R:=h4.1;have u2: ∀q:List Bool,q.length=n->ba (λr=>r.length=n) (rounds (j3 ((n:Int),(c:Int),rs) y4) ((0:Int),q)):=by
  intro q hq;refine ϶ (CS (aW rs) (λv=>v.length=n)) (λd s p=> ?_) (n:=rs.length) ⟨Ϭ _,by simp [aW],by simp [aW],hq⟩;obtain ⟨t,q⟩:=s;have qg:=p;obtain ⟨o,b2,b3,I⟩:=p;have o:0<=t:=o;have I:q.length=n:=I;unfold j3;refine ba.bif (λe=> ?_) (λ_=>ι (.inr ⟨_,rfl,I⟩));have e:t<aW rs:=of_decide_eq_true e;have j:=oh h o e;obtain ⟨g1,g2⟩:=sh h j;simp only;generalize rs.getD t.toNat (0,0,0,0)=r at*;refine χ (P:=λv=>v.length=n) (Θ ⟨o,e⟩ ?_) λv J=>ι (af1 (by simp only [aW];omega) qg e J);refine χ (P:=λb=>b=true->0<=r.2.2.1) (Θ ⟨g1.1,by simp only [aW];omega⟩ (ba.bif (λ_=>ba.bif (λe2=>χ (Dk h j R) λy _=>ι λ_=>of_decide_eq_true e2) λ_=>ι λq=>by cases q) λ_=>ι λq=>by cases q)) λv50 T=> ?_;refine ba.bif (λe3=> ?_) λ_=>ι I;obtain ⟨g4,g5⟩:=g2 (T e3);exact Θ ⟨g4.1,by simp only [aW];omega⟩ (Θ ⟨T e3,by simp only [aW,ϗ];omega⟩ (ι (by rw [ϗ,ϗ];exact I)))
 obtain ⟨vE,e10,Uw⟩:ba (λr=>r.length=n) (rounds (j4 ((n:Int),(c:Int),rs) y4) ((0:Int),(π n false).set (δ 0) true)):=by
  refine ϶ (CS (n:Int) (λv=>v.length=n)) (λd s p=> ?_) (n:=n) ⟨Ϭ _,by show (0:Int)<=(n:Int);omega,by simp,by simp only [ϗ,ϕ]⟩;obtain ⟨t,q⟩:=s;unfold j4;refine ba.bif (λe=> ?_) (λ_=>ι (.inr ⟨_,rfl,p.2.2.2⟩));exact χ (u2 q p.2.2.2) λv J=>ι (af1 (by omega) p (of_decide_eq_true e) J)
 obtain ⟨NN,e13,h13,U⟩:ba (λr=>r.length<=16/\ ∀x∈r,-1000<=x/\x<=1000000) (rounds (j1 ((n:Int),(c:Int),rs) y4 vE) ((0:Int),([]:List Int))):=by
  refine ϶ (λd s=>0<=s.1/\s.1<=aW rs/\d=(aW rs - s.1).toNat/\(s.2.length:Int)<=s.1/\ ∀x∈s.2,-1000<=x/\x<=1000000) (λd s p=> ?_) (n:=rs.length) ⟨Ϭ _,by simp [aW],by simp [aW],by simp,λ_ h=>by cases h⟩;obtain ⟨t,q⟩:=s;obtain ⟨o,b2,b3,I,b5⟩:=p;have o:0<=t:=o;have b2:t<=aW rs:=b2;have b3:d=(aW rs - t).toNat:=b3;have I:(q.length:Int)<=t:=I;unfold j1;refine ba.bif (λe=> ?_) (λ_=>ι (.inr ⟨_,rfl,by simp only [aW] at b2;show q.length<=16;omega,b5⟩));have e:t<aW rs:=of_decide_eq_true e;have j:=oh h o e;obtain ⟨g1,g2⟩:=sh h j;have e16:aW rs<=16:=by simp only [aW];omega
  have hw:bf .i64 t 1=t+1:=fM (by omega);simp only;generalize rs.getD t.toNat (0,0,0,0)=r at*;refine χ (P:=λv=>(v.length:Int)<=t+1/\ ∀x∈v,-1000<=x/\x<=1000000) (Θ ⟨o,e⟩ ?_) λv J=>ι (.inl ⟨d - 1,_,by omega,rfl,by rw [hw];show 0<=t+1;omega,by rw [hw];show t+1<=aW rs;omega,by rw [hw];show d - 1=(aW rs - (t+1)).toNat;omega,by rw [hw];exact J.1,J.2⟩);refine χ (P:=λ_=>True) (Θ ⟨g1.1,by simp only [aW];omega⟩ (ba.bif (λ_=>χ (Dk h j R) λy _=>ι trivial) λ_=>ι trivial)) λv24 _=> ?_;refine ba.bif (λ_=>Θ (by simp only [Ζ,Χ];unfold bl;omega) (ι ⟨by simp;omega,ic b5 (by omega)⟩)) λ_=>ι ⟨by omega,b5⟩
 refine ⟨NN,?_,jS U (by omega)⟩;unfold hJ;simp only [h.valid,η,ύ,cond_false,e4,Β];rw [guard_pos (by omega),guard_pos (by simp only [aW,ϕ];omega),e10,η,e13];rfl
end
section
variable {m c:Nat} {zs:List Q4} {ss es:List Int} (h:og m c zs ss es)
include h
theorem Gp: ∃o,kS ((m:Int),(c:Int),zs,ss,es)=some (((m:Int),(c:Int),o,es,ss),true)/\og m c o es ss:=by
 have hz:=h.zl;have I:=h.sl;have he:=h.el;have hm:=h.m2;obtain ⟨r,e,hr,T⟩:=eu (f:=jA zs) (λi s=>(((i:Nat):Int),s)) (λ_ s=>s.length=zs.length/\ ∀r∈s,yk m c r) (λr=>r.length=zs.length/\ ∀x∈r,yk m c x) (n:=zs.length) (λi s J I=>by
  obtain ⟨U,R⟩:=I;have p:i<s.length:=by omega
  have j:=R _ (bQ (d:=(0,0,0,0)) p);unfold jA;simp only [show decide ((i:Int)<aW zs)=true from ki J,cond_true,guard_pos (show (0:Int)<=(i:Int)/\(i:Int)<aW s from ⟨by omega,by simp only [aW];omega⟩),Β];rw [guard_pos (by simp only [aW,ϗ];omega),bO J (show zs.length<=4294967296 by omega)];refine ⟨_,rfl,by rw [ϗ,ϗ];exact U,λx t=> ?_⟩;have hg: ∀y:Q4,(s.set i y).getD i (0,0,0,0)=y:=λy=>by
   rw [ς,List.getElem?_set_self p];rfl
  rcases aaO t with t|rfl
  rcases aaO t with t|rfl
  exact R x t;exact ⟨j.2.1,j.2.1,j.2.2.1,j.2.2.2⟩;rw [hg];exact ⟨j.2.1,j.1,j.2.2.1,j.2.2.2⟩) (λs I=>by
  unfold jA;simp only [show decide (((zs.length:Nat):Int)<aW zs)=false from kC (φ _),cond_false];exact ⟨_,rfl,I⟩) zs.length 0 zs (by omega) ⟨rfl,h.zi⟩
 have e:rounds (jA zs) ((0:Int),zs)=some r:=e;refine ⟨r,?_,⟨h.m1,h.m2,h.c1,h.c2,by omega,T,h.el,h.sl,h.ev,h.sv⟩⟩;unfold kS;simp only [h.valid,η,ύ,cond_false,dN (show zs.length<=1000000 by omega),dN (show es.length<=1000000 by omega),dN (show ss.length<=1000000 by omega),e]
end
section
variable {m c:Nat} {nx:List Int} {es:List Bool} (h:di m c nx es)
include h
theorem toI {s a:Int}(j:0<=s/\s<(m:Int))(o:0<=a/\a<(c:Int)):ba (λt=>0<=t/\t<(m:Int)) (cC ((m:Int),(c:Int),nx,es) s a):=by
 obtain ⟨t,e,ht⟩:=Kl h (s:=s.toNat) (a:=a.toNat) (by omega) (by omega);rw [aaj j.1,aaj o.1] at e;exact ⟨_,e,by omega,by omega⟩
theorem Fe:ba (λr=>r.length=m) (lI ((m:Int),(c:Int),nx,es)):=by
 obtain ⟨h3,h4,h5,h6,h7,h8,h9,Uw⟩:=h.facts;have T:(π m (0:Int)).length=m:=ϕ;have k1: ∀(J:Int×List Int),J.2.length=m-> ∀I:Int×(List ((cq .i64 4).D×Int))×List Int,0<=I.1->I.1<(m:Int)-> ∀q:List Int,q.length=5->ba (λr=>r.length=5) (rounds (lF ((m:Int),(c:Int),nx,es) J I) ((0:Int),q)):=by
  intro J U I i1 i2 q hq;refine ϶ (CS (c:Int) (λv=>v.length=5)) (λd s j=> ?_) (n:=c) ⟨Ϭ _,by show (0:Int)<=(c:Int);omega,by simp,hq⟩;obtain ⟨t,q⟩:=s;have R:0<=t:=j.1;have p:q.length=5:=j.2.2.2;unfold lF;refine ba.bif (λe=> ?_) (λ_=>ι (.inr ⟨_,rfl,p⟩));have e:t<(c:Int):=of_decide_eq_true e;have hw:bf .i64 1 t=1+t:=fM (by omega);refine χ (toI h ⟨i1,i2⟩ ⟨R,e⟩) λy hy=> ?_;simp only [hw];exact Θ ⟨hy.1,by simp only [aW];omega⟩ (Θ ⟨by omega,by omega⟩ (Θ (by omega) (ι (af1 (by omega) j e (by rw [ϗ];exact p)))))
 have k2: ∀(J:Int×List Int),J.2.length=m-> ∀(ns:List ((cq .i64 4).D×Int)) (q:List Int),q.length=m->ba (λr=>r.length=m) (rounds (lG ((m:Int),(c:Int),nx,es) J) ((0:Int),ns,q)):=by
  intro J U ns q hq;refine ϶ (λd s=>CS (m:Int) (λv=>v.length=m) d (s.1,s.2.2)) (λd s j=> ?_) (n:=m) ⟨Ϭ _,by show (0:Int)<=(m:Int);omega,by simp,hq⟩;obtain ⟨t,ns,q⟩:=s;have j:CS (m:Int) (λv=>v.length=m) d (t,q):=j;have R:0<=t:=j.1;have p:q.length=m:=j.2.2.2;unfold lG;refine ba.bif (λe=> ?_) (λ_=>ι (.inr ⟨_,rfl,p⟩));have e:t<(m:Int):=of_decide_eq_true e;refine Θ ⟨R,by simp only [aW];omega⟩ (χ (k1 J U (t,ns,q) R e _ rfl) λr22 h22=>Θ h22 ?_);refine χ (P:=λ_=>True) (ba.bif (λe2=>Θ ?_ (ι trivial)) λ_=>ι trivial) λv _=>Θ ⟨R,by simp only [aW];omega⟩ (ι (.inl ⟨d - 1,_,(j.next (by omega) e (by rw [ϗ];exact p) (v:=q.set (δ t) v.1)).2,rfl,(j.next (by omega) e (by rw [ϗ];exact p)).1⟩));simp only;generalize bX (t:=(.st (cq .i64 4))) (u:=tI) ns (jY .i64 4 0 r22)=o at e2⊢;cases o with
  |none=>rfl
  |some _=>cases e2
 have k3: ∀q:List Int,q.length=m->ba (λr=>r.length=m) (rounds (lH ((m:Int),(c:Int),nx,es)) ((0:Int),q)):=by
  intro q hq;refine ϶ (CS (m:Int) (λv=>v.length=m)) (λd s j=> ?_) (n:=m) ⟨Ϭ _,by show (0:Int)<=(m:Int);omega,by simp,hq⟩;obtain ⟨t,q⟩:=s;unfold lH;refine ba.bif (λe=> ?_) (λ_=>ι (.inr ⟨_,rfl,j.2.2.2⟩));simp only [Β];exact χ (k2 (t,q) j.2.2.2 [] _ T) λv hv=>ι (af1 (by omega) j (of_decide_eq_true e) hv)
 unfold lI;simp only [Β];refine Θ (by omega) (χ (P:=λr=>r.length=m) ?_ λr hr=>χ (k3 r hr) λv hv=>ι hv);refine ϶ (CS (m:Int) (λv=>v.length=m)) (λd s j=> ?_) (n:=m) ⟨Ϭ _,by show (0:Int)<=(m:Int);omega,by simp,T⟩;obtain ⟨t,q⟩:=s;have R:0<=t:=j.1;have p:q.length=m:=j.2.2.2;unfold pg;simp only [aW,h8];refine ba.bif (λe=> ?_) (λ_=>ι (.inr ⟨_,rfl,p⟩));have e:t<(m:Int):=of_decide_eq_true e;exact χ (P:=λv=>v.length=m) (Θ ⟨R,e⟩ (ba.bif (λ_=>Θ ⟨R,by omega⟩ (ι (by rw [ϗ];exact p))) λ_=>ι p)) λv hv=>ι (af1 (by omega) j e hv)
end
theorem Dl {xs:List Int}{x:Int}(I:x∈xs)(hl:xs.length<=1000):ba (λr=>0<=r/\r<aW xs) (dJ xs x):=by
 obtain ⟨j,J,R⟩:=aaL I;unfold dJ;refine χ (P:=λr=> ∃i:Int,r= .inr i/\0<=i/\i<aW xs) ?_ λr T=> ?_;refine ϶ (λd s=>0<=s/\s<=(j:Int)/\d=((j:Int) - s).toNat) (λd s U=> ?_) (n:=j) ⟨Ϭ _,by omega,by simp⟩;obtain ⟨p,b2,b3⟩:=U;unfold ix;refine ba.bif (λe=> ?_) (λe=> ?_);have e:s<aW xs:=of_decide_eq_true e;refine Θ ⟨p,e⟩ (ba.bif (λ_=>ι (.inr ⟨_,rfl,s,rfl,p,e⟩)) λt=> ?_);have aa:s≠(j:Int):=by
  rintro rfl;rw [Β,ς,Γ J,beq_eq_false_iff_ne] at t;exact t R.symm
 have o:bf .i64 s 1=s+1:=fM (by omega);exact ι (.inl ⟨d - 1,_,by omega,rfl,by rw [o];omega,by rw [o];omega,by rw [o];omega⟩);have e: ¬s<aW xs:=of_decide_eq_false e;simp only [aW] at e;omega;obtain ⟨i,rfl,hi⟩:=T;exact ι hi
theorem Ff {ns:List (Int×Int)}{k v:Int}(h:bX (t:=tI) (u:=tI) ns k=some v): ∃p∈ns,p.2=v:=by
 induction ns with
 |nil=>cases h
 |cons p ns ih=>
  have h:(if xG tI p.1 k then some p.2 else bX (t:=tI) (u:=tI) ns k)=some v:=h;split at h;injection h with h;exact ⟨p,by simp,h⟩;obtain ⟨q,j,e⟩:=ih h;exact ⟨q,ϛ _ j,e⟩
theorem Fg {ns:List (Int×Int)}{k:Int}(h:bX (t:=tI) (u:=tI) ns k=none): ∀p∈ns,p.1≠k:=by
 induction ns with
 |nil=>intro p hp;cases hp
 |cons q ns ih=>
  have h:(if xG tI q.1 k then some q.2 else bX (t:=tI) (u:=tI) ns k)=none:=h;split at h;cases h;rename_i e;intro p hp;rcases ϒ.1 hp with rfl|hp
  intro q;exact e (by unfold xG;simpa using q);exact ih h p hp
structure afp (cl:List Int)(ns:List (Int×Int))(ls nx:List Int):Prop where
 n1: ∀p∈ns,0<=p.2/\p.2<aW ls
 n2: ∀x∈ls,∃p∈ns,p.1=x
 nd:ls.Nodup
 sub:ls ⊆ cl
 nx: ∀x∈nx,0<=x/\x<aW ls
section
variable {m c:Nat} {nx:List Int} {es:List Bool} (h:di m c nx es) {cl:List Int} (mZ:cl.length=m)
include h mZ
theorem Kq {x a:Int}(p:x∈cl)(t:0<=a/\a<(c:Int)):ba (λy=>y∈cl) (jk x a cl ((m:Int),(c:Int),nx,es) cl):=by
 obtain ⟨J,R,_⟩:=h.facts;unfold jk gj;refine χ (χ (Dl p (by omega)) λr I=>ι I) λT o=>χ (toI h ⟨o.1,by have:=o.2;simp only [aW] at this;omega⟩ t) λU j=>Θ ⟨j.1,by simp only [aW];omega⟩ (ι (bQ (by omega)))
theorem MP {x:Int}(o:x∈cl):ba (λ_=>True) (ji x ((m:Int),(c:Int),nx,es) cl):=by
 obtain ⟨t,I,J,R,T,U,_⟩:=h.facts;unfold ji gj;exact χ (χ (Dl o (by omega)) λr p=>ι p) λy1 j=>Θ ⟨j.1,by have:=j.2;simp only [aW] at this⊢;omega⟩ (ι trivial)
theorem QB {s1:Int×(List (Int×Int))×List Int×List Int×List Bool}{x:Int}(hx:ε s1.2.2.1 (δ s1.1) 0=x)(K7:x∈cl){ns:List (Int×Int)}{ls T:List Int}(hF:afp cl ns ls T)(hn:T.length<=1000):
 ba (λr=>afp cl r.1 r.2.1 r.2.2/\r.2.2.length=T.length+c/\ls.length<=r.2.1.length)
  (rounds (iZ (c:Int) (cl,((m:Int),(c:Int),nx,es),cl) s1) ((0:Int),ns,ls,T)):=by
 obtain ⟨h3,h4,h5,h6,h7,h8,_⟩:=h.facts;refine ϶ (λd s=>0<=s.1/\s.1<=(c:Int)/\d=((c:Int) - s.1).toNat/\afp cl s.2.1 s.2.2.1 s.2.2.2/\((s.2.2.2.length:Nat):Int)=(T.length:Int)+s.1/\ls.length<=s.2.2.1.length) (λd s hs=> ?_) (n:=c) ⟨Ϭ _,by show (0:Int)<=(c:Int);omega,by simp,hF,by simp,φ _⟩;obtain ⟨t,aa,j,R⟩:=s;obtain ⟨b1,b2,b3,J,b5,b6⟩:=hs;have b1:0<=t:=b1;have b3:d=((c:Int) - t).toNat:=b3;have J:afp cl aa j R:=J;have b5:((R.length:Nat):Int)=(T.length:Int)+t:=b5;have b6:ls.length<=j.length:=b6;have YL:j.length<=m:=by rw [<-mZ];exact J.nd.length_le_of_subset J.sub
 unfold iZ;refine ba.bif (λe=> ?_) (λe=>ι (.inr ⟨_,rfl,J,?_,b6⟩));have e:t<(c:Int):=of_decide_eq_true e;have hw:bf .i64 t 1=t+1:=fM (by omega);rw [hx];refine χ (Kq h mZ K7 ⟨b1,e⟩) λy hy=> ?_;simp only;refine χ (P:=λv:Int×(List (Int×Int))×List Int=>afp cl v.2.1 v.2.2 R/\j.length<=v.2.2.length/\0<=v.1/\v.1<aW v.2.2) ?_ λv U=>Θ (by simp only [Ζ,Χ];unfold bl;omega) (ι (.inl ⟨d - 1,_,by omega,rfl,by rw [hw];show 0<=t+1;omega,by rw [hw];show t+1<=(c:Int);omega,by rw [hw];show d - 1=((c:Int) - (t+1)).toNat;omega,⟨U.1.n1,U.1.n2,U.1.nd,U.1.sub,ic U.1.nx U.2.2⟩,by rw [hw];simp;omega,by have:=U.2.1;show ls.length<=v.2.2.length;omega⟩));generalize hf:bX (t:=tI) (u:=tI) aa y=o;cases o with
 |some w=>
  obtain ⟨p,hp,e3⟩:=Ff hf;have h0:=J.n1 p hp;rw [e3] at h0;exact ι ⟨J,φ _,h0⟩
 |none=>
  have iH:y ∉ j:=λq=>by
   obtain ⟨p,hp,e3⟩:=J.n2 y q;exact Fg hf p hp e3
  refine Θ rfl (Θ (by simp only [Ζ,Χ];unfold bl;omega) (ι ⟨⟨ic (λp hp=> ?_) ⟨by simp [aW],by simp [aW];omega⟩,λz I=> ?_,?_,λz I=> ?_,λz I=> ?_⟩,by simp,by simp [aW],by simp [aW];omega⟩));have:=J.n1 p hp;simp only [aW,ω,Ζ,Χ] at this⊢;omega;rcases Λ.1 I with I|I
  obtain ⟨p,hp,e3⟩:=J.n2 z I;exact ⟨p,Λ.2 (.inl hp),e3⟩;simp only [ϊ] at I;subst I;exact ⟨(z,aW j),by simp,rfl⟩;show (j++[y]).Nodup;rw [afs];refine ⟨J.nd,by simp,λa ha b hb=> ?_⟩;simp only [ϊ] at hb;subst hb;rintro rfl;exact iH ha;rcases Λ.1 I with I|I
  exact J.sub I;simp only [ϊ] at I;subst I;exact hy;have:=J.nx z I;simp only [aW,ω,Ζ,Χ] at this⊢;omega
 have e: ¬t<(c:Int):=of_decide_eq_false e;have b2:t<=(c:Int):=b2;show R.length=T.length+c;omega
theorem Fh {a1:Int}(ha:a1∈cl): ∃(m':Nat) (o:List Int) (I:List Bool),fA (c:Int) a1 (cl,((m:Int),(c:Int),nx,es),cl) (((m:Int),(c:Int),nx,es),cl)=some (((m':Int),(c:Int),o,I),true)/\di m' c o I:=by
 obtain ⟨h3,h4,h5,h6,h7,h8,_⟩:=h.facts;have FA:=h.nl;obtain ⟨r,e,hr⟩:ba (λr=> ∃(j o:List Int) (I:List Bool),r=Sum.inl (j,o,I)/\1<=j.length/\j.length<=m/\o.length=j.length*c/\I.length=j.length/\ ∀x∈o,0<=x/\x<aW j)
  (rounds (ja (c:Int) (cl,((m:Int),(c:Int),nx,es),cl) (((m:Int),(c:Int),nx,es),cl)) ((0:Int),(([]:List (Int×Int))++[(a1,(0:Int))]),([a1]:List Int),([]:List Int),([]:List Bool))):=by
  refine ϶ (λd s=> ∃i:Nat,s.1=(i:Int)/\i<=s.2.2.1.length/\d=m - i/\afp cl s.2.1 s.2.2.1 s.2.2.2.1/\s.2.2.2.1.length=i*c/\s.2.2.2.2.length=i/\1<=s.2.2.1.length) (λd s hs=> ?_) (n:=m)
   ⟨0,rfl,ϝ _,rfl,⟨λp hp=>by
    have hp:p=(a1,0):=by simpa using hp
    subst hp;exact ⟨Ϭ _,by simp [aW]⟩,λx R=>⟨(a1,0),by simp,by
    have R:x=a1:=by simpa using R
    exact R.symm⟩,by simp,λx R=>by
    have R:x=a1:=by simpa using R
    subst R;exact ha,λx R=>by cases R⟩,by simp,rfl,by simp⟩
  obtain ⟨t,ns,j,o,I⟩:=s;obtain ⟨i,b1,b2,b3,T,b5,b6,b7⟩:=hs;have b1:t=(i:Int):=b1;subst b1;have b2:i<=j.length:=b2;have T:afp cl ns j o:=T;have b5:o.length=i*c:=b5;have b6:I.length=i:=b6;have b7:1<=j.length:=b7;have YL:j.length<=m:=by rw [<-mZ];exact T.nd.length_le_of_subset T.sub
  have YM:i*c<=64*4:=aaB (by omega) h6;unfold ja;refine ba.bif (λe=> ?_) (λe=> ?_);have e:(i:Int)<aW j:=of_decide_eq_true e;have e':i<j.length:=by simp only [aW] at e;omega
  have U:j.getD i 0∈cl:=T.sub (bQ e');refine Θ ⟨by omega,e⟩ ?_;simp only [Β];refine χ (MP h mZ U) λy _=>Θ (by simp only [Ζ,Χ];unfold bl;omega) (χ (QB h mZ (s1:=((i:Int),ns,j,o,I)) rfl U T (by omega)) λv hv=> ?_);obtain ⟨ns',J,aa⟩:=v;obtain ⟨v1,v2,v3⟩:=hv;have v2:aa.length=o.length+c:=v2;have v3:j.length<=J.length:=v3;have aaS:J.length<=m:=by rw [<-mZ];exact v1.nd.length_le_of_subset v1.sub
  refine ba.bif (λe2=> ?_) λ_=>ι (.inl ⟨m - (i+1),_,by omega,rfl,i+1,bO (n:=1000) (by omega) (by omega),by show i+1<=J.length;omega,rfl,v1,by show aa.length=(i+1)*c;rw [v2,b5,ϑ,adK],by simp [b6],by show 1<=J.length;omega⟩);have e2:aW J>64:=of_decide_eq_true e2;simp only [aW] at e2;omega;have e: ¬(i:Int)<aW j:=of_decide_eq_false e;simp only [aW] at e;have:i=j.length:=by omega
  subst this;exact ι (.inr ⟨_,rfl,j,o,I,rfl,b7,YL,b5,b6,T.nx⟩)
 obtain ⟨j,o,I,rfl,q1,q2,q3,q4,q5⟩:=hr;refine ⟨j.length,o,I,?_,?_,?_⟩;unfold fA;rw [e];rfl;exact tg q1 (by omega) h5 h6 q3 q4 λi hi=>q5 _ (bQ hi);rw [q3];have:j.length*c<=m*c:=Ρ c q2;omega
end
theorem Kr {m c:Nat}{nx:List Int}{es:List Bool}(h:di m c nx es): ∃(m':Nat) (j:List Int) (o:List Bool),iO ((m:Int),(c:Int),nx,es)=some (((m':Int),(c:Int),j,o),true)/\di m' c j o:=by
 obtain ⟨t,I,_⟩:=h.facts;obtain ⟨cl,e,mZ⟩:=Fe h;obtain ⟨m',j,o,p,r⟩:=Fh h mZ (a1:=cl.getD 0 0) (bQ (by omega));refine ⟨m',j,o,?_,r⟩;unfold iO;simp only [h.valid,η,ύ,cond_false,e];rw [guard_pos (by simp only [aW];omega)];have p:fA (c:Int) (cl.getD (δ 0) 0) (cl,((m:Int),(c:Int),nx,es),cl) (((m:Int),(c:Int),nx,es),cl)=_:=p;rw [p];rfl
end Go.Proofs
namespace Go.Proofs
open Go.Ide Go.IntWalk
theorem ba.for_ {β ρ:Type}{f:Int×β->Option ((Int×β)⊕ρ)}{R:ρ->Prop}(n:Nat)(N:Nat->β->Prop)(T:n<=1000000)(step: ∀i v,i<n->N i v->ba (λx=> ∃j,x= .inl (((i+1:Nat):Int),j)/\N (i+1) j) (f ((i:Int),v)))(stop: ∀v,N n v->ba (λx=> ∃r,x= .inr r/\R r) (f ((n:Int),v))){v:β}(h:N 0 v):ba R (Go.Ide.rounds f ((0:Int),v)):=by
 refine ϶ (λd s=> ∃(i:Nat) (v:β),s=((i:Int),v)/\i<=n/\d=n - i/\N i v) (λd s t=> ?_) (n:=n) ⟨0,v,rfl,ϝ _,rfl,h⟩;obtain ⟨i,v,rfl,U,rfl,o⟩:=t;by_cases p:i<n;obtain ⟨x,e,j,rfl,I⟩:=step i v p o;exact ⟨_,e,.inl ⟨n - (i+1),_,by omega,rfl,i+1,j,rfl,p,rfl,I⟩⟩;obtain rfl:i=n:=by omega
 obtain ⟨x,e,r,rfl,J⟩:=stop v o;exact ⟨_,e,.inr ⟨r,rfl,J⟩⟩
theorem ba.HA {β ρ:Type}{f:β×Int->Option ((β×Int)⊕ρ)}{R:ρ->Prop}(n:Nat)(N:Nat->β->Prop)(T:n<=1000000)(step: ∀i v,i<n->N i v->ba (λx=> ∃j,x= .inl (j,((i+1:Nat):Int))/\N (i+1) j) (f (v,(i:Int))))(stop: ∀v,N n v->ba (λx=> ∃r,x= .inr r/\R r) (f (v,(n:Int)))){v:β}(h:N 0 v):ba R (Go.Ide.rounds f (v,(0:Int))):=by
 refine ϶ (λd s=> ∃(i:Nat) (v:β),s=(v,(i:Int))/\i<=n/\d=n - i/\N i v) (λd s t=> ?_) (n:=n) ⟨0,v,rfl,ϝ _,rfl,h⟩;obtain ⟨i,v,rfl,U,rfl,o⟩:=t;by_cases p:i<n;obtain ⟨x,e,j,rfl,I⟩:=step i v p o;exact ⟨_,e,.inl ⟨n - (i+1),_,by omega,rfl,i+1,j,rfl,p,rfl,I⟩⟩;obtain rfl:i=n:=by omega
 obtain ⟨x,e,r,rfl,J⟩:=stop v o;exact ⟨_,e,.inr ⟨r,rfl,J⟩⟩
abbrev Dm:=Int×Int×List (Int×Int×Int×Int)×List Int×List Int
structure mM (d:Dm):Prop where
 z:d.2.2.1.length<=100000
 s:d.2.2.2.1.length<=100000
 e:d.2.2.2.2.length<=100000
theorem Bx:mM ((0:Int),(0:Int),([]:List (Int×Int×Int×Int)),([]:List Int),([]:List Int)):=⟨ϝ _,ϝ _,ϝ _⟩
theorem og.short {m c:Nat}{zs:List Q4}{ss es:List Int}(h:og m c zs ss es):mM ((m:Int),(c:Int),zs,ss,es):=by
 have j:=h.zl;have o:=h.sl;have p:=h.el;have r:=h.m2;exact ⟨by show zs.length<=_;omega,by show ss.length<=_;omega,by show es.length<=_;omega⟩
theorem z6 (x y:Q4):ba (λ_=>True) (ni x y):=by
 unfold ni;cases (x.1==y.1)<;>cases (x.2.2.1==y.2.2.1)<;>exact ⟨_,rfl,trivial⟩
theorem Dn {xs:List Q4}(h:xs.length<=1000):ba (λr=>r.length<=xs.length) (bM xs):=by
 unfold bM;refine ba.bif (λ_=>ι (φ _)) λe=> ?_;have e: ¬aW xs<2:=of_decide_eq_false e;simp only [aW] at e;refine χ (P:=λr=>match r with| .inl _=>True| .inr l=>l.length<=xs.length) ?_ λr T=> ?_;refine ϶ (λd s=> ∃k:Nat,s=(k:Int)/\1<=k/\k<=xs.length/\d=xs.length - k) (λd s p=> ?_) (n:=xs.length - 1) ⟨1,rfl,φ _,by omega,rfl⟩;obtain ⟨k,rfl,k1,k2,rfl⟩:=p;unfold cI;by_cases U:k<xs.length;have p:bI .i64 (k:Int) 1=((k - 1:Nat):Int):=by rw [fN (by omega)];omega
 simp only [show decide ((k:Int)<aW xs)=true from ki U,cond_true,guard_pos (eJ U),p,guard_pos (eJ (show k - 1<xs.length by omega)),bO U (show xs.length<=4294967296 by omega)];refine χ (z6 _ _) λy _=> ?_;refine ba.bif (λ_=> ?_) λ_=>ι (.inl ⟨xs.length - (k+1),_,by omega,rfl,k+1,rfl,by omega,by omega,rfl⟩);refine Θ ⟨by omega,by simp only [aW];omega⟩ ?_;refine χ (P:=λr:Int×List Q4=>(∃q:Nat,r.1=(q:Int)/\q<=xs.length)/\r.2.length=xs.length) ?_ λr T=> ?_;refine ϶ (λd s=> ∃q j:Nat,s.1=(q:Int)/\s.2.1=(j:Int)/\k+1+q<=j+k+k/\1<=j/\j<=xs.length - k/\d=xs.length - k - j/\s.2.2.length=xs.length) (λd s p=> ?_) (n:=xs.length - k - 1) ⟨k,1,rfl,rfl,by omega,φ _,by omega,rfl,rfl⟩;obtain ⟨q0,j0,zs⟩:=s;obtain ⟨q,j,o,I,J,h4,h5,h6,t⟩:=p;have o:q0=(q:Int):=o;have I:j0=(j:Int):=I;have t:zs.length=xs.length:=t;subst o I;unfold cH;simp only [aW,Β];refine ba.bif (λe2=> ?_) λ_=>ι (.inr ⟨_,rfl,⟨q,rfl,by omega⟩,t⟩);have e2:(j:Int)<((xs.length - k:Nat):Int):=of_decide_eq_true e2;have DC:bI .i64 (j:Int) 1=((j - 1:Nat):Int):=by rw [fN (by omega)];omega
 have hw:bf .i64 (j:Int) 1=((j+1:Nat):Int):=bO (n:=1000) (by omega) (by omega);have OW:bf .i64 (q:Int) 1=((q+1:Nat):Int):=bO (n:=2000) (by omega) (by omega);simp only [DC,hw,OW,Β];refine χ (P:=λv:Int×List Q4=>(∃R:Nat,v.1=(R:Int)/\k+1+R<=j+1+k+k)/\v.2.length=xs.length) ?_ λv hv=> ?_;refine Θ ⟨by omega,e2⟩ (Θ (by omega) (Θ ⟨by omega,by omega⟩ (Θ (by omega) (χ (z6 _ _) λy _=> ?_))));refine ba.bif (λ_=>Θ ⟨by omega,by omega⟩ (ι ⟨⟨q+1,rfl,by omega⟩,by rw [ϗ];exact t⟩)) λ_=>ι ⟨⟨q,rfl,by omega⟩,t⟩;obtain ⟨⟨R,v1,v2⟩,v3⟩:=hv;exact ι (.inl ⟨xs.length - k - (j+1),_,by omega,rfl,R,j+1,v1,rfl,by omega,by omega,by omega,rfl,v3⟩);obtain ⟨⟨q,o,I⟩,J⟩:=T;obtain ⟨r1,r2⟩:=r;have o:r1=(q:Int):=o;have J:r2.length=xs.length:=J;subst o;simp only [aW,Β,J];refine Θ ⟨by omega,by omega⟩ (χ (P:=λl=>l.length=xs.length) (ι (by simp;omega)) λl hl=>Θ ⟨by omega,by omega⟩ (ι (.inr ⟨_,rfl,?_⟩)));show (List.take q l).length<=xs.length;rw [ϙ];omega;simp only [show decide ((k:Int)<aW xs)=false from kC (by omega),cond_false];exact ι (.inr ⟨_,rfl,trivial⟩);cases r with
 |inl u=>exact ι (φ _)
 |inr l=>exact ι T
theorem Ks {xs:List Q4}(h:xs.length<=1000):ba (λr=>r.length<=xs.length) (sd xs):=by
 unfold sd slices_SortFunc;simp only [dN (show xs.length<=1000000 by omega),η,guard_pos (show xs.length<4611686018427387904 by omega)];have j:(Ut xs).length=xs.length:=by unfold Ut;simp
 exact χ (Dn (by omega)) λr o=>ι (by omega)
theorem tj {d:Dm}(h:mM d):ba (λr=>mM r.1) (kU d):=by
 obtain ⟨s,l,zs,ss,es⟩:=d;obtain ⟨p,j,o⟩:=h;have p:zs.length<=100000:=p;have j:ss.length<=100000:=j;have o:es.length<=100000:=o;unfold kU;simp only [pn (show zs.length<=4294967296 by omega) (show ss.length<=4294967296 by omega) (show es.length<=4294967296 by omega),η,dN (show ss.length<=1000000 by omega),dN (show es.length<=1000000 by omega)];refine ba.bif (λ_=>ι Bx) λe=> ?_;have t:zs.length<=128:=by
  simp only [Bool.not_eq_false'] at e;unfold mJ at e;simp only [κ,aaf,decide_eq_false_iff_not,aW] at e;have:=e.2.2.1;omega
 refine χ (Ks (by omega)) λr I=>ι ⟨?_,j,o⟩;show r.length<=100000;omega
end Go.Proofs
namespace Go.Proofs
open Go.Ide Go.IntWalk
theorem HB {zs:List Q4}(h:zs.length<=1000)(k:Int):ba (λr=>r.length=zs.length) (iz zs k):=by
 unfold iz;refine χ (P:=λr=>r.length=zs.length) (ba.for_ zs.length (λi v=>v.length=i) (by omega) (λi v j o=> ?_) (λv o=> ?_) rfl) λr p=>ι p;unfold iY;simp only [show decide ((i:Int)<aW zs)=true from ki j,cond_true,guard_pos (eJ j),η,bO j (show zs.length<=4294967296 by omega)];rw [b9 (by omega)];exact ι ⟨_,rfl,by simp [o]⟩;unfold iY;simp only [show decide (((zs.length:Nat):Int)<aW zs)=false from kC (φ _),cond_false];exact ι ⟨_,rfl,o⟩
theorem vI {d:Dm}(h:mM d):ba (λr=>mM r.1) (ft d):=by
 obtain ⟨s,l,zs,ss,es⟩:=d;have t:=h;obtain ⟨j,o,p⟩:=h;have j:zs.length<=100000:=j;have o:ss.length<=100000:=o;have p:es.length<=100000:=p;unfold ft;simp only [pn (show zs.length<=4294967296 by omega) (show ss.length<=4294967296 by omega) (show es.length<=4294967296 by omega),η];exact ba.bif (λ_=>ι Bx) λ_=>ι t
section
variable {m c:Nat} {zs:List Q4} {ss es:List Int} (h:og m c zs ss es)
include h
theorem By:ba (λr=>mM r.1) (mR ((m:Int),(c:Int),zs,ss,es)):=by
 have h1:=h.zl;have h2:=h.sl;have h3:=h.el;have h4:=h.m2;have R:=h.m1;unfold mR;simp only [h.valid,η,ύ,cond_false];refine χ (HB (by omega) 1) λy hy=> ?_;refine χ (P:=λr=>r.length<=100) (ba.for_ ss.length (λi v=>v.length<=y.length+i) (by omega) (λi v j o=> ?_) (λv o=> ?_) (φ _)) λr I=> ?_;unfold mw;simp only [show decide ((i:Int)<aW ss)=true from ki j,cond_true,guard_pos (eJ j),bO j (show ss.length<=4294967296 by omega)];refine χ (P:=λq=>q.length<=y.length+(i+1)) (ba.bif (λ_=> ?_) λ_=>ι (by omega)) λq p=>ι ⟨q,rfl,p⟩;rw [b9 (by omega)];exact ι (by simp;omega);unfold mw;simp only [show decide (((ss.length:Nat):Int)<aW ss)=false from kC (φ _),cond_false];exact ι ⟨_,rfl,by omega⟩;refine χ (P:=λq=>q.length<=200) (ba.for_ es.length (λi v=>v.length<=r.length+i) (by omega) (λi v j o=> ?_) (λv o=> ?_) (φ _)) λT U=> ?_;unfold mu;simp only [show decide ((i:Int)<aW es)=true from ki j,cond_true,guard_pos (eJ j),bO j (show es.length<=4294967296 by omega)];refine χ (P:=λq=>q.length<=r.length+(i+1)) (ba.bif (λ_=> ?_) λ_=>ι (by omega)) λq p=>ι ⟨q,rfl,p⟩;rw [b9 (by omega)];exact ι (by simp;omega);unfold mu;simp only [show decide (((es.length:Nat):Int)<aW es)=false from kC (φ _),cond_false];exact ι ⟨_,rfl,by omega⟩;refine χ (Bv R (by omega)) λJ t=> ?_;have hl:=t.1;refine Θ (by simp only [Ζ,Χ];unfold bl;omega) ?_;rw [dN (by simp;omega),η];exact χ (vI ⟨by show T.length<=_;omega,by show ([0]++J).length<=_;simp;omega,by show ([0]++J).length<=_;simp;omega⟩) λr I=>ι I
theorem vJ {fr:List Int}(hf:fr.length=m)(b:Bool):ba (λr=>r.length=m) (lC ((m:Int),(c:Int),zs,ss,es) fr b):=by
 have h1:=h.zl;have h4:=h.m2;have h5:=h.m1;have J:(π m false).length=m:=ϕ;have inner: ∀q:List Bool,q.length=m->ba (λr=>r.length=m) (rounds (kp ((m:Int),(c:Int),zs,ss,es) b) ((0:Int),q)):=λq p=>by
  refine ba.for_ zs.length (λ_ v=>v.length=m) (by omega) (λi v o j=> ?_) (λv j=> ?_) p;obtain ⟨R,T,_⟩:=h.zi _ (bQ (d:=(0,0,0,0)) o);unfold kp;simp only [show decide ((i:Int)<aW zs)=true from ki o,cond_true,guard_pos (eJ o),η,Β,bO o (show zs.length<=4294967296 by omega)];generalize zs.getD i (0,0,0,0)=r at R T⊢;refine χ (P:=λq=>q.length=m) (χ (P:=λv:Int×Int=>(0<=v.1/\v.1<(m:Int))/\0<=v.2/\v.2<(m:Int)) (ba.bif (λ_=>ι ⟨T,R⟩) λ_=>ι ⟨R,T⟩) λab t=> ?_) λq p=>ι ⟨q,rfl,p⟩;refine Θ ⟨t.2.1,by simp only [aW];omega⟩ (ba.bif (λ_=>ι (by rw [ϗ];exact j)) λ_=>Θ ⟨t.1.1,by simp only [aW];omega⟩ (ι (by rw [ϗ];exact j)));unfold kp;simp only [show decide (((zs.length:Nat):Int)<aW zs)=false from kC (φ _),cond_false];exact ι ⟨_,rfl,j⟩
 unfold lC;refine Θ ⟨by show 0<=(m:Int);omega,by show (m:Int)<=_;omega⟩ ?_;simp only [Β];refine χ (P:=λr=>r.length=m) (ba.for_ fr.length (λ_ v=>v.length=m) (by omega) (λi v o j=> ?_) (λv j=> ?_) J) λI U=>χ (P:=λr=>r.length=m) (ba.for_ I.length (λ_ v=>v.length=m) (by omega) (λi v o j=> ?_) (λv j=> ?_) U) λr7 aa=>ι aa;unfold nF;simp only [show decide ((i:Int)<aW fr)=true from ki o,cond_true,guard_pos (eJ o),guard_pos (show (0:Int)<=(i:Int)/\(i:Int)<aW v from ⟨by omega,by simp only [aW];omega⟩),bO o (show fr.length<=4294967296 by omega)];exact ι ⟨_,rfl,by rw [ϗ];exact j⟩;unfold nF;simp only [show decide (((fr.length:Nat):Int)<aW fr)=false from kC (φ _),cond_false];exact ι ⟨_,rfl,j⟩;unfold nE;simp only [show decide ((i:Int)<aW I)=true from ki o,cond_true,bO o (show I.length<=4294967296 by omega)];exact χ (inner v j) λq p=>ι ⟨q,rfl,p⟩;unfold nE;simp only [show decide (((I.length:Nat):Int)<aW I)=false from kC (φ _),cond_false];exact ι ⟨_,rfl,j⟩
theorem Fi:ba (λr=>mM r.1) (pf ((m:Int),(c:Int),zs,ss,es)):=by
 have h1:=h.zl;have h2:=h.sl;have h3:=h.el;have h4:=h.m2;have h5:=h.m1;unfold pf;simp only [h.valid,η,ύ,cond_false];refine χ (vJ h h2 false) λy4 h4'=>χ (vJ h h3 true) λy6 h6=>χ (Bv h5 (by omega)) λt h8=> ?_;have hl:=h8.1;refine χ (P:=λr:List Int×Int×List Int×List Int=>r.1.length=m/\r.2.2.1.length<=m/\r.2.2.2.length<=m) (ba.for_ t.length (λi v=>v.1.length=m/\v.2.2.1.length<=i/\v.2.2.2.length<=i) (by omega) (λi v o p=> ?_) (λv p=> ?_) ⟨hl,φ _,φ _⟩) λj I=> ?_;obtain ⟨v1,v2,v3⟩:=p;unfold oK;simp only [show decide ((i:Int)<aW t)=true from ki o,cond_true,bO o (show t.length<=4294967296 by omega)];refine χ (P:=λq:List Int×Int×List Int×List Int=>q.1.length=m/\q.2.2.1.length<=i+1/\q.2.2.2.length<=i+1) (χ (P:=λ_=>True) (Θ ⟨by omega,by simp only [aW];omega⟩ (ba.bif (λ_=>Θ ⟨by omega,by simp only [aW];omega⟩ (ι trivial)) λ_=>ι trivial)) λv51 _=> ?_) λq J=>ι ⟨q,rfl,J⟩;refine ba.bif (λ_=> ?_) λ_=>ι ⟨v1,by show v.2.2.1.length<=_;omega,by show v.2.2.2.length<=_;omega⟩;refine Θ ⟨by omega,by simp only [aW];omega⟩ (Θ ⟨by omega,by simp only [aW];omega⟩ ?_);rw [b9 (by omega)];refine Θ ⟨by omega,by simp only [aW];omega⟩ ?_;rw [b9 (by omega)];exact ι ⟨by rw [ϗ];exact v1,by simp;omega,by simp;omega⟩;unfold oK;simp only [show decide (((t.length:Nat):Int)<aW t)=false from kC (φ _),cond_false];exact ι ⟨_,rfl,p.1,by have:=p.2.1;show v.2.2.1.length<=m;omega,by have:=p.2.2;show v.2.2.2.length<=m;omega⟩;obtain ⟨n1,n2,n3⟩:=I;refine χ (P:=λr=>r.length<=100) (ba.for_ zs.length (λi v=>v.length<=i) (by omega) (λi v o p=> ?_) (λv p=> ?_) (φ _)) λR YN=> ?_;obtain ⟨a1,a2,_⟩:=h.zi _ (bQ (d:=(0,0,0,0)) o);unfold oJ;simp only [show decide ((i:Int)<aW zs)=true from ki o,cond_true,guard_pos (eJ o),η,Β,bO o (show zs.length<=4294967296 by omega)];have T:(0:Int)<=(zs.getD i (0,0,0,0)).1/\(zs.getD i (0,0,0,0)).1<aW j.1:=⟨a1.1,by simp only [aW];omega⟩;have U:(0:Int)<=(zs.getD i (0,0,0,0)).2.1/\(zs.getD i (0,0,0,0)).2.1<aW j.1:=⟨a2.1,by simp only [aW];omega⟩;refine χ (P:=λq=>q.length<=i+1) (χ (P:=λ_=>True) (Θ T (ba.bif (λ_=>Θ U (ι trivial)) λ_=>ι trivial)) λv32 _=> ?_) λq J=>ι ⟨q,rfl,J⟩;refine ba.bif (λ_=>Θ T (Θ U ?_)) λ_=>ι (by omega);rw [b9 (by omega)];exact ι (by simp;omega);unfold oJ;simp only [show decide (((zs.length:Nat):Int)<aW zs)=false from kC (φ _),cond_false];exact ι ⟨_,rfl,by omega⟩;exact χ (tj ⟨by show R.length<=_;omega,by show j.2.2.1.length<=_;omega,by show j.2.2.2.length<=_;omega⟩) λr hr=>ι hr
theorem si {a b:List Int}(t:a.length=m)(I:b.length=m):ba eX (ew a b):=by
 have J:=h.m2;unfold ew;refine χ (P:=eX) (ba.HA a.length (λ_ v=>eX v) (by omega) (λi v j o=> ?_) (λv o=> ?_) ⟨by decide,by decide⟩) λr p=>ba.bif (λ_=>ι ⟨by decide,by decide⟩) λ_=>ι p;unfold ei;simp only [show decide ((i:Int)<aW a)=true from ki j,cond_true,guard_pos (eJ j),guard_pos (show (0:Int)<=(i:Int)/\(i:Int)<aW b from ⟨by omega,by simp only [aW];omega⟩),bO j (show a.length<=4294967296 by omega)];exact ι ⟨_,rfl,by split;exact qN _;exact o⟩;unfold ei;simp only [show decide (((a.length:Nat):Int)<aW a)=false from kC (φ _),cond_false];exact ι ⟨_,rfl,o⟩
theorem u7:ba (λr=>mM r.1) (jh ((m:Int),(c:Int),zs,ss,es)):=by
 have h1:=h.zl;have h2:=h.sl;have h3:=h.el;have h4:=h.m2;have h5:=h.m1;have b1: ∀(I:Int×List Q4×List Int) (j:List Int) (J:Int×List Q4) (q:List Q4),q.length<=10000->ba (λr=>r.length<=q.length+zs.length) (rounds (gf ((m:Int),(c:Int),zs,ss,es) I j J) ((0:Int),q)):=λI j J q hq=>by
  refine ba.for_ zs.length (λi v=>v.length<=q.length+i) (by omega) (λi v o p=> ?_) (λv p=> ?_) (φ _);unfold gf;simp only [show decide ((i:Int)<aW zs)=true from ki o,cond_true,guard_pos (eJ o),η,bO o (show zs.length<=4294967296 by omega)];refine χ (P:=λr=>r.length<=q.length+(i+1)) (χ (P:=λ_=>True) (ba.bif (λ_=>ba.bif (λ_=>ι trivial) λ_=>ι trivial) λ_=>ι trivial) λv50 _=> ?_) λr t=>ι ⟨r,rfl,t⟩;refine ba.bif (λ_=> ?_) λ_=>ι (by omega);rw [b9 (by omega)];exact ι (by simp;omega);unfold gf;simp only [show decide (((zs.length:Nat):Int)<aW zs)=false from kC (φ _),cond_false];exact ι ⟨_,rfl,p⟩
 have b2: ∀(I:Int×List Q4×List Int) (j:List Int) (q:List Q4),j.length=m->q.length<=5000->ba (λr=>r.length<=q.length+256) (rounds (gg ((m:Int),(c:Int),zs,ss,es) I j) ((0:Int),q)):=λI j q hy hq=>by
  refine ba.for_ j.length (λi v=>v.length<=q.length+16*i) (by omega) (λi v o p=> ?_) (λv p=> ?_) (φ _);unfold gg;simp only [show decide ((i:Int)<aW j)=true from ki o,cond_true,guard_pos (eJ o),bO o (show j.length<=4294967296 by omega)];exact χ (b1 I j ((i:Int),v) v (by omega)) λr t=>ι ⟨r,rfl,by omega⟩;unfold gg;simp only [show decide (((j.length:Nat):Int)<aW j)=false from kC (φ _),cond_false];exact ι ⟨_,rfl,by show v.length<=_;omega⟩
 obtain ⟨y6,e6,h6⟩:=qG (xs:=es) (by omega);unfold jh;simp only [h.valid,η,ύ,cond_false,dN (show ss.length<=1000000 by omega),e6];refine χ (P:=λr:List Q4×List Int=>r.1.length<=4096/\r.2.length<=16) (ba.for_ m (λi v=>v.1.length<=256*i/\v.2.length=i) (by omega) (λi v o p=> ?_) (λv p=> ?_) ⟨φ _,rfl⟩) λr t=> ?_;obtain ⟨v1,v2⟩:=p;obtain ⟨R,U,aa⟩:=u5 (n:=m) h5 (by omega);obtain ⟨j,ab,T⟩:=uq h (cs:=R.set (δ (i:Int)) 0) (by rw [ϗ];exact aa);unfold jB;simp only [ki o,cond_true,U,η,guard_pos (show (0:Int)<=(i:Int)/\(i:Int)<aW R from ⟨by omega,by simp only [aW];omega⟩),ab,bO o (show m<=4294967296 by omega)];refine χ (b2 ((i:Int),v) j v.1 T (by omega)) λad N9=>χ (si h T (by omega)) λUq _=> ?_;rw [b9 (by omega)];exact ι ⟨_,rfl,by show ad.length<=_;omega,by simp;omega⟩;unfold jB;simp only [kC (φ m),cond_false];exact ι ⟨_,rfl,by have:=p.1;show v.1.length<=_;omega,by have:=p.2;show v.2.length<=_;omega⟩;exact χ (tj ⟨by have:=t.1;show r.1.length<=_;omega,by show ss.length<=_;omega,by have:=t.2;show r.2.length<=_;omega⟩) λr t=>ι t
end
end Go.Proofs
namespace Go.Proofs
open Go.Ide Go.IntWalk
abbrev u9:=Int×Int×List Int×List Bool
structure qI (d:u9):Prop where
 n:d.2.2.1.length<=100000
 e:d.2.2.2.length<=100000
abbrev yx:=Int×Int×List (Int×Int×Int×Int)
def tk (d:yx):Prop:=d.2.2.length<=100000
theorem ur {xs:List Int}(h:xs.length<=1000):ba (λ_=>True) (ke xs):=by
 unfold ke;refine χ (P:=λ_=>True) (ba.HA xs.length (λ_ _=>True) (by omega) (λi v j _=> ?_) (λv _=> ?_) trivial) λr _=>ι trivial;unfold my;simp only [ki j,cond_true,guard_pos (eJ j),bO j (show xs.length<=4294967296 by omega),guard_pos (Int.natCast_nonneg i)];exact χ (P:=λ_=>True) (ba.bif (λ_=>ι trivial) λ_=>ι trivial) λq _=>ι ⟨q,rfl,trivial⟩;unfold my;simp only [kC (φ _),cond_false];exact ι ⟨_,rfl,trivial⟩
section
variable {m c:Nat} {zs:List Q4} {ss es:List Int} (h:og m c zs ss es)
include h
theorem yy (x:Int):ba (λ_=>True) (nj ((m:Int),(c:Int),zs,ss,es) x):=by
 have t:=h.zl;have I:=h.m2;unfold nj;refine χ (P:=λ_=>True) (ba.HA m (λ_ _=>True) (by omega) (λi v j _=> ?_) (λv _=> ?_) trivial) λr _=>ι trivial;unfold oM;simp only [show decide ((i:Int)<(m:Int))=true from decide_eq_true (by omega),cond_true,bO j (show m<=4294967296 by omega)];refine χ (P:=λ_=>True) (ba.HA zs.length (λ_ _=>True) (by omega) (λi v j _=> ?_) (λv _=> ?_) trivial) λq _=>ι ⟨q,rfl,trivial⟩;obtain ⟨o,p,_⟩:=h.zi _ (bQ (d:=(0,0,0,0)) j);unfold oL;simp only [ki j,cond_true,guard_pos (eJ j),η,Β,bO j (show zs.length<=4294967296 by omega),guard_pos o.1,guard_pos p.1];exact χ (P:=λ_=>True) (χ (P:=λ_=>True) (ba.bif (λ_=>ι trivial) λ_=>ι trivial) λb _=>ba.bif (λ_=>ι trivial) λ_=>ι trivial) λq _=>ι ⟨q,rfl,trivial⟩;unfold oL;simp only [kC (φ _),cond_false];exact ι ⟨_,rfl,trivial⟩;unfold oM;simp only [show decide ((m:Int)<(m:Int))=false from decide_eq_false (by omega),cond_false];exact ι ⟨_,rfl,trivial⟩
theorem Fj (x a:Int):ba (λ_=>True) (lE x a ((m:Int),(c:Int),zs,ss,es)):=by
 have r:=h.zl;have t:=h.m2;unfold lE;refine χ (P:=λ_=>True) (ba.HA zs.length (λ_ _=>True) (by omega) (λi v j _=> ?_) (λv _=> ?_) trivial) λq _=>χ (yy h q) λy _=>ι trivial;obtain ⟨o,p,_⟩:=h.zi _ (bQ (d:=(0,0,0,0)) j);unfold lD;simp only [ki j,cond_true,guard_pos (eJ j),η,Β,bO j (show zs.length<=4294967296 by omega),guard_pos o.1,guard_pos p.1];exact χ (P:=λ_=>True) (χ (P:=λ_=>True) (ba.bif (λ_=>ι trivial) λ_=>ι trivial) λb _=>ba.bif (λ_=>ι trivial) λ_=>ι trivial) λq _=>ι ⟨q,rfl,trivial⟩;unfold lD;simp only [kC (φ _),cond_false];exact ι ⟨_,rfl,trivial⟩
theorem zj (a1 a3:Int):ba (λr=>qI r.1) (bL (c:Int) a1 ((m:Int),(c:Int),zs,ss,es) a3):=by
 have h6:=h.c2;unfold bL;refine χ (P:=λr=> ∀x,r=Sum.inl x->x.1.length<=64/\x.2.1.length<=256/\x.2.2.length<=64) (϶ (λd s=> ∃i:Nat,s.1=(i:Int)/\i<=64/\d=65 - i/\s.2.2.1.length<=64/\s.2.2.2.1.length=i*c/\s.2.2.2.2.length=i) (λd s hs=> ?_) (n:=65) ⟨0,rfl,by omega,rfl,ϓ rfl,by simp,rfl⟩) λr hr=> ?_;obtain ⟨t,ns,p,I,pe⟩:=s;obtain ⟨i,J,b2,b3,R,T,U⟩:=hs;have J:t=(i:Int):=J;subst J;have R:p.length<=64:=R;have T:I.length=i*c:=T;have U:pe.length=i:=U;have YM:i*c<=64*4:=aaB b2 h6;unfold cF;refine ba.bif (λe=> ?_) (λe=> ?_);have e:(i:Int)<aW p:=of_decide_eq_true e;refine Θ ⟨by omega,e⟩ ?_;refine χ (P:=λ_=>True) (ι trivial) λy _=>Θ (by simp only [Ζ,Χ];unfold bl;omega) ?_;refine χ (P:=λr:List (Int×Int)×List Int×List Int=>r.2.2.length=I.length+c) (ba.for_ c (λi v=>v.2.1.length<=p.length+i/\v.2.2.length=I.length+i) (by omega) (λj v hj o=> ?_) (λv o=> ?_) ⟨φ _,rfl⟩) λv o=> ?_;obtain ⟨v1,v2⟩:=o;unfold b8;simp only [show decide ((j:Int)<(c:Int))=true from decide_eq_true (by omega),cond_true,bO hj (show c<=4294967296 by omega)];refine χ (Fj h _ _) λy21 _=>χ (P:=λq:Int×List (Int×Int)×List Int=>q.2.2.length<=p.length+(j+1)) (ba.bif (λe=> ?_) λ_=>ι (by show v.2.1.length<=_;omega)) λq hq=>Θ (by simp only [Ζ,Χ];unfold bl;omega) (ι ⟨_,rfl,hq,by simp;omega⟩);refine Θ (by simpa using e) (Θ (by simp only [Ζ,Χ];unfold bl;omega) (ι (by simp;omega)));unfold b8;simp only [show decide ((c:Int)<(c:Int))=false from decide_eq_false (by omega),cond_false];exact ι ⟨_,rfl,o.2⟩;refine ba.bif (λe=>ι (.inr ⟨_,rfl,λx hx=>by cases hx⟩)) λe2=>ι (.inl ⟨65 - (i+1),_,by omega,rfl,i+1,bO (n:=1000) (by omega) (by omega),by simp only [aW] at e;omega,rfl,?_,?_,by simp [U]⟩);have e2: ¬aW v.2.1>64:=of_decide_eq_false e2;simp only [aW] at e2;show v.2.1.length<=64;omega;show v.2.2.length=(i+1)*c;rw [o,T,ϑ,adK];exact ι (.inr ⟨_,rfl,λx hx=>by
  obtain rfl:=Sum.inl.inj hx;exact ⟨R,by show I.length<=256;omega,by show pe.length<=64;omega⟩⟩)
 cases r with
 |inl x=>obtain ⟨x1,x2,x3⟩:=hr x rfl;exact ι ⟨by show x.2.1.length<=_;omega,by show x.2.2.length<=_;omega⟩
 |inr x=>exact ι ⟨ϝ _,ϝ _⟩
theorem Dp:ba (λr=>qI r.1) (od ((m:Int),(c:Int),zs,ss,es)):=by
 have t:=h.sl;have I:=h.el;have J:=h.m2;unfold od;simp only [h.valid,η,ύ,cond_false];exact χ (ur (by omega)) λy _=>χ (ur (by omega)) λj _=>χ (yy h j) λo _=>χ (zj h o y) λr p=>ι p
end
section
variable {m c:Nat} {nx:List Int} {es:List Bool} (h:di m c nx es)
include h
theorem yz:ba (λr=>qI r.1) (kq ((m:Int),(c:Int),nx,es)):=by
 obtain ⟨p,t,I,J,R,T,_⟩:=h.facts;have U:=h.nl;unfold kq;simp only [h.valid,η,ύ,cond_false,dN (show nx.length<=1000000 by omega)];refine χ (P:=λr=>r.length<=64) (ba.for_ es.length (λi v=>v.length=i) (by omega) (λi v j o=> ?_) (λv o=> ?_) rfl) λr hr=>ι ⟨by show nx.length<=_;omega,by show r.length<=_;omega⟩;unfold kD;simp only [show decide ((i:Int)<aW es)=true from ki j,cond_true,guard_pos (eJ j),bO j (show es.length<=4294967296 by omega)];rw [b9 (by omega)];exact ι ⟨_,rfl,by simp [o]⟩;unfold kD;simp only [show decide (((es.length:Nat):Int)<aW es)=false from kC (φ _),cond_false];exact ι ⟨_,rfl,by omega⟩
theorem zk:ba (λr=>tk r.1) (lM ((m:Int),(c:Int),nx,es)):=by
 obtain ⟨T,U,h5,h6,h7,h8,_⟩:=h.facts;unfold lM;simp only [h.valid,η,ύ,cond_false];refine ba.bif (λ_=>ι (ϝ _)) λ_=> ?_;refine χ (P:=λr=>r.length<=1000) (ba.for_ m (λi v=>v.length<=8*i) (by omega) (λi v t I=> ?_) (λv I=> ?_) (φ _)) λr o=> ?_;unfold lL;simp only [show decide ((i:Int)<(m:Int))=true from decide_eq_true (by omega),cond_true,bO t (show m<=4294967296 by omega)];refine χ (P:=λr=>r.length<=8*(i+1)) (ba.for_ c (λj q=>q.length<=v.length+2*j) (by omega) (λj q J p=> ?_) (λq p=> ?_) (φ _)) λq p=>ι ⟨q,rfl,p⟩;unfold lK;simp only [show decide ((j:Int)<(c:Int))=true from decide_eq_true (by omega),cond_true,bO J (show c<=4294967296 by omega)];refine χ (P:=λr=>r.length<=v.length+2*(j+1)) (χ (toI h ⟨by omega,by omega⟩ ⟨by omega,by omega⟩) λy R=> ?_) λr o=>ι ⟨r,rfl,o⟩;refine Θ (by simp only [Ζ,Χ];unfold bl;omega) (Θ ⟨R.1,by simp only [aW];omega⟩ (ba.bif (λ_=>Θ (by simp only [ω,Ζ,Χ];unfold bl;omega) (ι (by simp;omega))) λ_=>ι (by simp;omega)));unfold lK;simp only [show decide ((c:Int)<(c:Int))=false from decide_eq_false (by omega),cond_false];exact ι ⟨_,rfl,by omega⟩;unfold lL;simp only [show decide ((m:Int)<(m:Int))=false from decide_eq_false (by omega),cond_false];exact ι ⟨_,rfl,by omega⟩;refine χ (P:=λq=>q.length<=2000) (ba.for_ c (λi v=>v.length<=r.length+i) (by omega) (λi v t I=> ?_) (λv I=> ?_) (φ _)) λq p=> ?_;unfold lJ;simp only [show decide ((i:Int)<(c:Int))=true from decide_eq_true (by omega),cond_true,bO t (show c<=4294967296 by omega)];rw [b9 (by omega)];exact ι ⟨_,rfl,by simp;omega⟩;unfold lJ;simp only [show decide ((c:Int)<(c:Int))=false from decide_eq_false (by omega),cond_false];exact ι ⟨_,rfl,by omega⟩;unfold cY;simp only [po (show q.length<=4294967296 by omega),η];exact χ (P:=λr:yx×Bool=>tk r.1) (ba.bif (λ_=>ι (ϝ _)) λ_=>ι (by show q.length<=_;omega)) λr o=>ι o
end
end Go.Proofs
namespace Go.Proofs
open Go.Ide Go.IntWalk
def Fk:List Int:=[1000,900,500,400,100,90,50,40,10,9,5,4,1]
def Kt:List (List UInt8):=[[77],[67,77],[68],[67,68],[67],[88,67],[76],[88,76],[88],[73,88],[86],[73,86],[73]]
def HC:List Nat:=[4000,1000,900,500,400,100,90,50,40,10,9,5,4,1]
def MQ:List Nat:=[4,2,2,2,4,2,2,2,4,2,2,2,4]
theorem MR: ∀i:Fin 13,1<=Fk.getD i.val 0/\Fk.getD i.val 0<=1000/\(HC.getD i.val 0:Int)<=Fk.getD i.val 0*(MQ.getD i.val 0:Int)/\(Kt.getD i.val []).length*(MQ.getD i.val 0 - 1)<=3/\1<=MQ.getD i.val 0/\Fk.getD i.val 0<=(HC.getD (i.val+1) 0:Int)/\ ∀b∈Kt.getD i.val [],44<=b.toNat:=by decide+kernel
theorem QC {i:Nat}(hi:i<13)(n0:Int)(t0 n:Int){t:List UInt8}{tt:List UInt8}(h0:0<=n)(h1:n<(HC.getD i 0:Int))(hn:n<=4000)(ht:t.length<=1000)(j: ∀b∈t,44<=b.toNat):
 ba (λr=>0<=r.1/\r.1<(HC.getD (i+1) 0:Int)/\r.1<=4000/\r.2.length<=t.length+3/\ ∀b∈r.2,44<=b.toNat) (rounds (nI Fk Kt (n0,tt,(i:Int))) (n,t)):=by
 obtain ⟨a1,a2,o,p,I,J,R⟩:=MR ⟨i,hi⟩;simp only at a1 a2 o p I J R;generalize hv:Fk.getD i 0=v at a1 a2 o J;generalize hl:(Kt.getD i [])=l at p R;generalize MQ.getD i 0=k at o p I;generalize HC.getD (i+1) 0=b at J⊢;refine ϶ (λd s=>0<=s.1/\s.1<v*((d+1:Nat):Int)/\s.1<=4000/\s.2.length+l.length*d<=t.length+3/\ ∀b∈s.2,44<=b.toNat) (λd s hs=> ?_) (n:=k - 1) ⟨h0,?_,hn,by show t.length+l.length*(k - 1)<=_;omega,j⟩;obtain ⟨n,T⟩:=s;obtain ⟨U,b2,b4,b3,b5⟩:=hs;have U:0<=n:=U;have b4:n<=4000:=b4;have b2:n<v*((d+1:Nat):Int):=b2;have b3:T.length+l.length*d<=t.length+3:=b3;have e1:Fk.getD (δ (i:Int)) 0=v:=hv;have e2:Kt.getD (δ (i:Int)) []=l:=hl;unfold nI;simp only [e1,e2];refine ba.bif (λe=> ?_) λe=> ?_;have e:n>=v:=of_decide_eq_true e;obtain _|d:=d
 exfalso;have:v*((0+1:Nat):Int)=v:=ahy v;omega;have e3:v*((d+1+1:Nat):Int)=v*((d+1:Nat):Int)+v:=by
  rw [show ((d+1+1:Nat):Int)=((d+1:Nat):Int)+1 from rfl,Int.mul_add,ahy]
 have e4:l.length*(d+1)=l.length*d+l.length:=Nat.mul_succ _ _;refine Θ ⟨by omega,by show (i:Int)<13;omega⟩ (Θ (by unfold bl;omega) (ι (.inl ⟨d,_,by omega,rfl,?_,?_,?_,?_,λb j=>(Λ.1 j).elim (b5 b) (R b)⟩)));show 0<=bI .i64 n v;rw [fN (by omega)];omega;show bI .i64 n v<_;rw [fN (by omega)];omega;show bI .i64 n v<=4000;rw [fN (by omega)];omega;show (T++l).length+l.length*d<=_;rw [ω];omega;have e: ¬n>=v:=of_decide_eq_false e;exact ι (.inr ⟨_,rfl,U,by show n<_;omega,b4,by show T.length<=_;omega,b5⟩);show n<v*((k - 1+1:Nat):Int);rw [Nat.sub_add_cancel I];omega
theorem Dq (n:Int):ba (λr=>r.1.length<=39/\ ∀b∈r.1,44<=b.toNat) (oe n):=by
 unfold oe;simp only [jF,η];refine ba.bif (λ_=>ι ⟨ϝ _,λb o=>by cases o⟩) λe=> ?_;have e:(decide (n>=1)&&decide (n<=3999))=true:=by simpa using e
 simp only [κ,decide_eq_true_eq] at e;refine χ (P:=λr=>r.length<=39/\ ∀b∈r,44<=b.toNat) ?_ λr j=>ι j;unfold qB;simp only [η];refine χ (P:=λr=>r.length<=39/\ ∀b∈r,44<=b.toNat) (϶ (λd s=> ∃i:Nat,i<=13/\s.2.2=(i:Int)/\d=13 - i/\0<=s.1/\s.1<(HC.getD i 0:Int)/\s.1<=4000/\s.2.1.length<=3*i/\ ∀b∈s.2.1,44<=b.toNat) (λd s R=> ?_) (n:=13) ⟨0,by omega,rfl,rfl,by show 0<=n;omega,by show n<4000;omega,by show n<=4000;omega,φ _,λb o=>by cases o⟩) λr j=>ι j;obtain ⟨n,t,T⟩:=s;obtain ⟨i,b1,p,b3,U,b5,b7,I,J⟩:=R;have p:T=(i:Int):=p;subst p;have I:t.length<=3*i:=I;unfold qM;refine ba.bif (λe=> ?_) λe=>ι (.inr ⟨_,rfl,by show t.length<=39;omega,J⟩);have e:(i:Int)<13:=of_decide_eq_true e;refine Θ ⟨by show 0<=(i:Int);omega,e⟩ (χ (QC (i:=i) (by omega) n 0 n U b5 b7 (by omega) J) λr j=>ι (.inl ⟨13 - (i+1),_,by omega,rfl,i+1,by omega,bO (n:=1000) (by omega) (by omega),rfl,j.1,j.2.1,j.2.2.1,by have:=j.2.2.2.1;show r.2.length<=_;omega,j.2.2.2.2⟩))
def vT (n:Nat)(r:List Int):Prop:=r.length=n/\ ∀x∈r,eX x
theorem vT.set {n:Nat}{r:List Int}(h:vT n r){i:Nat}{x:Int}(o:eX x):vT n (r.set i x):=⟨by rw [ϗ];exact h.1,λy j=>by
 rcases aaO j with j|rfl
 exact h.2 _ j;exact o⟩
theorem vT.get {n:Nat}{r:List Int}(h:vT n r)(i:Nat):eX (r.getD i 0):=by
 by_cases j:i<r.length;exact h.2 _ (bQ j);rw [ς,aac (by omega)];exact ⟨by decide,by decide⟩
theorem NR {x y:Int}(j:eX x)(o:eX y):eX (if x<y then x else y):=by split;exact j;exact o
theorem Ku {a b:List UInt8}(ha:a.length<=48)(hb:b.length<=48)(x y z:Int):ba (λr=>r.length=a.length+1/\ ∀q∈r,vT (b.length+1) q) (l8 a b x y z):=by
 have R:bf .i64 (aW b) 1=((b.length+1:Nat):Int):=bO (n:=1000) (by omega) (by omega);have U:bf .i64 (aW a) 1=((a.length+1:Nat):Int):=bO (n:=1000) (by omega) (by omega);unfold l8;refine χ (P:=λr=>r.length=a.length+1/\ ∀q∈r,vT (b.length+1) q) (ba.for_ (a.length+1) (λi v=>v.length=i/\ ∀q∈v,vT (b.length+1) q) (by omega) (λi v hi T=> ?_) (λv T=> ?_) ⟨rfl,λq o=>by cases o⟩) λr t=>ι t;obtain ⟨v1,v2⟩:=T;have I: ∀k,k<v.length->vT (b.length+1) (v.getD k []):=λk hk=>v2 _ (bQ hk);unfold l7;simp only [R,U,show decide ((i:Int)<((a.length+1:Nat):Int))=true from decide_eq_true (by omega),cond_true,guard_pos (show (0:Int)<=((b.length+1:Nat):Int)/\((b.length+1:Nat):Int)<=4294967296 by omega),Β,bO hi (show a.length+1<=4294967296 by omega)];refine χ (P:=vT (b.length+1)) (ba.for_ (b.length+1) (λ_ q=>vT (b.length+1) q) (by omega) (λj q hj o=> ?_) (λq o=> ?_) ⟨ϕ,λx p=>by rw [(List.mem_replicate.1 p).2];exact ⟨by decide,by decide⟩⟩) λq o=> ?_;have hql:=o.1;have q1:(0:Int)<=(j:Int)/\(j:Int)<aW q:=⟨by omega,by simp only [aW];omega⟩;unfold l6;simp only [R,Β,show decide ((j:Int)<aW (π (b.length+1) (0:Int)))=true from ki (by rw [ϕ];exact hj),cond_true,guard_pos q1,bO hj (show b.length+1<=4294967296 by omega)];refine χ (P:=vT (b.length+1)) (ba.bif (λ_=>ι (o.set (qN _))) λJ=>ba.bif (λ_=>ι (o.set (qN _))) λe2=> ?_) λr t=>ι ⟨r,rfl,t⟩;have J:((i:Int)==0)=false:=J;have J: ¬(i:Int)=0:=by simpa using J
 have e2: ¬(j:Int)=0:=by simpa using e2
 have p1:bI .i64 (i:Int) 1=((i - 1:Nat):Int):=by rw [fN (by omega)];omega
 have p2:bI .i64 (j:Int) 1=((j - 1:Nat):Int):=by rw [fN (by omega)];omega
 have t:=I (i - 1) (by omega);have TE:=t.1;have g1:(0:Int)<=((i - 1:Nat):Int)/\((i - 1:Nat):Int)<aW v:=⟨by omega,by simp only [aW];omega⟩;have g2:(0:Int)<=((j - 1:Nat):Int)/\((j - 1:Nat):Int)<aW (v.getD (i - 1) []):=⟨by omega,by simp only [aW];omega⟩;have g3:(0:Int)<=((i - 1:Nat):Int)/\((i - 1:Nat):Int)<aW a:=⟨by omega,by simp only [aW];omega⟩;have g4:(0:Int)<=((j - 1:Nat):Int)/\((j - 1:Nat):Int)<aW b:=⟨by omega,by simp only [aW];omega⟩;have g5:(0:Int)<=(j:Int)/\(j:Int)<aW (v.getD (i - 1) []):=⟨by omega,by simp only [aW];omega⟩;have g6:(0:Int)<=((j - 1:Nat):Int)/\((j - 1:Nat):Int)<aW q:=⟨by omega,by simp only [aW];omega⟩;simp only [p1,p2,guard_pos g1,Β,guard_pos g2,η,guard_pos g3,guard_pos g4,guard_pos g5,guard_pos g6];refine χ (P:=eX) (ba.bif (λ_=>ι (qN _)) λ_=>ι (t.get _)) λw hw=>ι (o.set (NR (qN _) (NR (qN _) hw)));unfold l6;simp only [R,Β,show decide (((b.length+1:Nat):Int)<aW (π (b.length+1) (0:Int)))=false from kC (by rw [ϕ];omega),cond_false];exact ι ⟨_,rfl,o⟩;rw [b9 (by omega)];exact ι ⟨_,rfl,by simp [v1],λx p=>by
  rcases Λ.1 p with p|p
  exact v2 x p;rw [ϊ.1 p];exact o⟩
 unfold l7;simp only [U,show decide (((a.length+1:Nat):Int)<((a.length+1:Nat):Int))=false from decide_eq_false (by omega),cond_false];exact ι ⟨_,rfl,T⟩
theorem Bz (a b:List UInt8)(x y z:Int):ba (λr=>eX r.1) (mW a b x y z):=by
 unfold mW pk pw;simp only [nr (show [x,y,z].length<=4294967296 by show 3<=_;omega),η];refine χ (P:=λr=>r=false->a.length<=48/\b.length<=48) (ba.bif (λ_=>ι (λe=>by cases e)) λe=>ba.bif (λ_=>ι (λe=>by cases e)) λo=>ι λ_=> ?_) λr j=> ?_;have e:aW a<=48:=by simpa using e
 have o:aW b<=48:=by simpa using o
 simp only [aW] at e o;omega;refine ba.bif (λ_=>ι ⟨by decide,by decide⟩) λe=> ?_;obtain ⟨t,I⟩:=j e;refine χ (Ku t I x y z) λv p=> ?_;have j:=p.2 _ (bQ (i:=a.length) (d:=[]) (by omega));have J:=j.1;have R:=p.1;refine Θ ⟨by simp only [aW];omega,by simp only [aW];omega⟩ (Θ ⟨by simp only [aW];omega,?_⟩ (ι (j.get _)));show ((b.length:Nat):Int)<(((v.getD a.length []).length:Nat):Int);omega
end Go.Proofs
namespace Go.Proofs
open Go.Ide Go.IntWalk
def yA (w:List Int):Prop:=w.length<=12/\ ∀x∈w,0<=x/\x<8
section
variable {m c:Nat} {zs:List Q4} {ss es:List Int} (h:og m c zs ss es)
include h
theorem ru {xs:List Int}(j:xs.length=m):ba (λr=>r.length=m) (fb xs):=by
 obtain ⟨r,e,o⟩:=qG (xs:=xs) (by have:=h.m2;omega);exact ⟨r,e,by omega⟩
theorem Dr {cs:List Int}(j:cs.length=m)(a:Int):ba (λr=>r.length=m) (mz ((m:Int),(c:Int),zs,ss,es) cs a):=Gn h j a
theorem BA:ba (λr=>r.length=m) (mT ((m:Int),(c:Int),zs,ss,es)):=by
 have h1:=h.zl;have h4:=h.m2;have J:=h.el;unfold mT;refine χ (ru h J) λy R=>χ (P:=λr=>r.length=m) (ba.for_ y.length (λ_ v=>v.length=m) (by omega) (λi v I t=> ?_) (λv t=> ?_) R) λr T=>ι T;unfold mE;simp only [show decide ((i:Int)<aW y)=true from ki I,cond_true,bO I (show y.length<=4294967296 by omega)];refine χ (P:=λr=>r.length=m) (ba.for_ zs.length (λ_ v=>v.length=m) (by omega) (λj q p o=> ?_) (λq o=> ?_) t) λq o=>ι ⟨q,rfl,o⟩;obtain ⟨U,a2,_⟩:=h.zi _ (bQ (d:=(0,0,0,0)) p);unfold mD;simp only [show decide ((j:Int)<aW zs)=true from ki p,cond_true,guard_pos (eJ p),η,Β,bO p (show zs.length<=4294967296 by omega)];exact Θ ⟨U.1,by simp only [aW];omega⟩ (Θ ⟨a2.1,by simp only [aW];omega⟩ (ι ⟨_,rfl,by rw [ϗ];exact o⟩));unfold mD;simp only [show decide (((zs.length:Nat):Int)<aW zs)=false from kC (φ _),cond_false];exact ι ⟨_,rfl,o⟩;unfold mE;simp only [show decide (((y.length:Nat):Int)<aW y)=false from kC (φ _),cond_false];exact ι ⟨_,rfl,t⟩
theorem ry:ba (λr=>r.length=m) (eT ((m:Int),(c:Int),zs,ss,es)):=by
 unfold eT;exact χ (ru h h.sl) λy j=>χ (uq h j) λr o=>ι o
end
section
variable {m c:Nat} {zs:List Q4} {ss es:List Int} (h:og m c zs ss es)
include h
theorem zm:ba (λr=>r.length<=13/\ ∀q∈r,q.length=m) (lV ((m:Int),(c:Int),zs,ss,es)):=by
 have h1:=h.zl;have h4:=h.m2;have h5:=h.m1;have h6:=h.c2;obtain ⟨zs',e,hB⟩:=Gp h;unfold lV;rw [e,η];refine χ (ry hB) λy3 h3=>χ (P:=λr=>r.length<=13/\ ∀q∈r,q.length=m) (ba.for_ 12 (λi v=>v.length=i+1/\ ∀q∈v,q.length=m) (by omega) (λi v hi J=> ?_) (λv J=> ?_) ⟨rfl,λq o=>by rw [ϊ.1 o];exact h3⟩) λr R=>ι R;obtain ⟨v1,v2⟩:=J;obtain ⟨yJ,T,U⟩:=u5 (n:=m) h5 (by omega);have t:=v2 _ (bQ (i:=i) (d:=[]) (by omega));unfold lU;simp only [show decide ((i:Int)<12)=true from decide_eq_true (by omega),cond_true,T,η,bO hi (show 12<=4294967296 by omega)];refine χ (P:=λr=>r.length=m) (ba.for_ c (λ_ q=>q.length=m) (by omega) (λj q hj o=> ?_) (λq o=> ?_) U) λq o=> ?_;unfold lT;simp only [show decide ((j:Int)<(c:Int))=true from decide_eq_true (by omega),cond_true,guard_pos (show (0:Int)<=(i:Int)/\(i:Int)<aW v from ⟨by omega,by simp only [aW];omega⟩),Β,bO hj (show c<=4294967296 by omega)];refine χ (Dr hB t _) λp h23=>χ (P:=λr=>r.length=m) (ba.for_ p.length (λ_ q=>q.length=m) (by omega) (λk q hk o=> ?_) (λq o=> ?_) o) λr R=>ι ⟨r,rfl,R⟩;unfold lS;simp only [show decide ((k:Int)<aW p)=true from ki hk,cond_true,guard_pos (eJ hk),guard_pos (show (0:Int)<=(k:Int)/\(k:Int)<aW q from ⟨by omega,by simp only [aW];omega⟩),bO hk (show p.length<=4294967296 by omega)];exact ι ⟨_,rfl,by rw [ϗ];exact o⟩;unfold lS;simp only [show decide (((p.length:Nat):Int)<aW p)=false from kC (φ _),cond_false];exact ι ⟨_,rfl,o⟩;unfold lT;simp only [show decide ((c:Int)<(c:Int))=false from decide_eq_false (by omega),cond_false];exact ι ⟨_,rfl,o⟩;rw [b9 (by omega)];exact ι ⟨_,rfl,by simp [v1],λx I=>by
  rcases Λ.1 I with I|I
  exact v2 x I;rw [ϊ.1 I];exact o⟩
 unfold lU;simp only [show decide (((12:Nat):Int)<12)=false from rfl,cond_false];exact ι ⟨_,rfl,by omega,J.2⟩
theorem BB:ba (λr=>yA r.1/\eX r.2.1) (mU ((m:Int),(c:Int),zs,ss,es)):=by
 have h4:=h.m2;have h6:=h.c2;unfold mU;simp only [h.valid,η,ύ,cond_false];refine χ (ru h h.sl) λy4 J=>χ (BA h) λy6 h6'=>χ (si h J h6') λy8 h8=>χ (zm h) λj Uw=> ?_;obtain ⟨r1,r2⟩:=Uw;refine χ (P:=λr=> -1<=r/\r<aW j) ?_ λI h12=>χ (P:=λr=>r=false->0<=I) (ba.bif (λ_=>ι (λe=>by cases e)) λ_=>ι (λe=>by simpa using e)) λv15 YN=>ba.bif (λ_=>ι ⟨⟨ϝ _,λx o=>by cases o⟩,⟨by decide,by decide⟩⟩) λe15=> ?_;unfold dv;refine χ (P:=λr=> ∀x,r=Sum.inr x->0<=x/\x<aW j) (϶ (λd s=> ∃i:Nat,s=(i:Int)/\i<=j.length/\d=j.length - i) (λd s R=> ?_) (n:=j.length) ⟨0,rfl,ϝ _,rfl⟩) λr p=> ?_;obtain ⟨i,rfl,U,b2⟩:=R;unfold eP;refine ba.bif (λe=> ?_) λe=>ι (.inr ⟨_,rfl,λx o=>by cases o⟩);have e:(i:Int)<aW j:=of_decide_eq_true e;have e':i<j.length:=by simp only [aW] at e;omega
 refine Θ ⟨by omega,e⟩ (χ (P:=λ_=>True) ?_ λb _=>ba.bif (λ_=>ι (.inr ⟨_,rfl,λx o=>by cases o;exact ⟨by omega,e⟩⟩)) λ_=>ι (.inl ⟨j.length - (i+1),_,by omega,rfl,i+1,bO (n:=1000) (by omega) (by omega),by omega,rfl⟩));unfold nH;exact χ (si h J (r2 _ (bQ e'))) λ_ _=>ι trivial;cases r with
 |inl x=>exact ι ⟨by omega,by simp only [aW];omega⟩
 |inr x=>exact ι ⟨by have:=(p x rfl).1;omega,(p x rfl).2⟩
 obtain ⟨k,hk⟩: ∃k:Nat,I=(k:Int):=⟨I.toNat,by have:=YN e15;omega⟩;subst hk;have hkl:k<j.length:=by have:=h12.2;simp only [aW] at this;omega
 refine χ (ry h) λSG h19=>χ (P:=yA) (϶ (λd (s:Int×List Int×List Int)=>s.1=(d:Int) - 1/\d<=k/\s.2.1.length+d<=12/\(∀x∈s.2.1,0<=x/\x<8)/\s.2.2.length=m) (λd s R=> ?_) (n:=k) ⟨by show bI .i64 (k:Int) 1=_;exact fN (by omega),φ _,by show 0+k<=12;omega,(λx o=>by cases o),h19⟩) λr p=>ι ⟨p,h8⟩;obtain ⟨t,w,cs⟩:=s;obtain ⟨U,b2,b3,b4,b5⟩:=R;have U:t=(d:Int) - 1:=U;subst U;have b3:w.length+d<=12:=b3;have b5:cs.length=m:=b5;unfold pS;refine ba.bif (λe=> ?_) λe=>ι (.inr ⟨_,rfl,by show w.length<=12;omega,b4⟩);have e:(d:Int) - 1>=0:=of_decide_eq_true e;refine χ (P:=λr=>r.1.length<=w.length+1/\(∀x∈r.1,0<=x/\x<8)/\r.2.length=m) (϶ (λf s=> ∃i:Nat,s=(i:Int)/\i<=c/\f=c - i) (λf s R=> ?_) (n:=c) ⟨0,rfl,ϝ _,rfl⟩) λr p=>ι (.inl ⟨d - 1,_,by omega,rfl,?_,by omega,by have:=p.1;show r.1.length+(d - 1)<=12;omega,p.2.1,p.2.2⟩);obtain ⟨i,rfl,p1,p2⟩:=R;unfold pR;refine ba.bif (λe2=> ?_) λ_=>ι (.inr ⟨_,rfl,Nat.le_succ _,b4,b5⟩);have e2:(i:Int)<(c:Int):=of_decide_eq_true e2;refine χ (Dr h b5 _) λWw T=>Θ ⟨e,by show (d:Int) - 1<_;simp only [aW];omega⟩ (χ (si h T (r2 _ (bQ (by show ((d:Int) - 1).toNat<_;omega)))) λWk _=>ba.bif (λ_=> ?_) λ_=>ι (.inl ⟨c - (i+1),_,by omega,rfl,i+1,bO (n:=1000) (by omega) (by omega),by omega,rfl⟩));rw [b9 (by show w.length<=_;omega)];exact ι (.inr ⟨_,rfl,by simp,λx o=>by
  rcases Λ.1 o with o|o
  exact b4 x o;rw [ϊ.1 o];omega,T⟩)
 show bI .i64 ((d:Int) - 1) 1=((d - 1:Nat):Int) - 1;rw [fN (by omega)];omega
end
end Go.Proofs
namespace Go.Proofs
open Go.Ide Go.IntWalk
noncomputable def Kv (j:yx×List Int×List Int×Int->Option (List Int))(x:yx×List Int×List Int×Int):Option (List Int):=cu j x.1 x.2.1 x.2.2.1 x.2.2.2
section
variable {n c:Nat} {rs:List Q4} (h:qE n c rs)
include h
theorem yB {p cs:List Int}{k:Nat}(hp:p.length=n)(U:cs.length=n){o:Nat->Nat}(I: ∀s,s<n->0<=cs.getD s 0->o s<k/\(0<=p.getD s 0/\p.getD s 0<aW rs)/\(0<=(rs.getD (p.getD s 0).toNat (0,0,0,0)).2.2.1->(0<=cs.getD (δ (rs.getD (p.getD s 0).toNat (0,0,0,0)).2.1) 0/\o (δ (rs.getD (p.getD s 0).toNat (0,0,0,0)).2.1)<o s)/\0<=cs.getD (δ (rs.getD (p.getD s 0).toNat (0,0,0,0)).2.2.1) 0/\o (δ (rs.getD (p.getD s 0).toNat (0,0,0,0)).2.2.1)<o s)):
 ∀(r:Nat) (s:Int),r<=8->0<=s->s<(n:Int)->0<=cs.getD s.toNat 0->o s.toNat<r-> ∃w:List Int,w.length<=2^r/\(∀x∈w,0<=x/\x<8)/\ ∀f,r<=f-> ∀out:List Int,out.length+2^r<=500000->
  vx Kv f (((n:Int),(c:Int),rs),out,p,s)=some (out++w)
 |0,s,_,_,_,_,hk=>by omega
 |r+1,s,h8,h0,h1,h2,hk=>by
  have tl:=h.n2;have tq:=h.c2;obtain ⟨a1,⟨J,R⟩,a4⟩:=I s.toNat (by omega) h2;have t:=oh h J R;obtain ⟨g1,g2⟩:=sh h t;obtain ⟨_,_,_,g3,g4,_⟩:=t;have p8:2^r<=128:=Nat.pow_le_pow_right (i:=r) (n:=2) (by omega) (show r<=7 by omega);have p7:1<=2^r:=afL;have p9:2^(r+1)=2^r+2^r:=by rw [Nat.pow_succ];omega
  have hs:(0:Int)<=s/\s<aW p:=⟨h0,by simp only [aW];omega⟩;generalize hq:rs.getD (p.getD s.toNat 0).toNat (0,0,0,0)=q at g1 g2 g3 g4 a4;by_cases T:q.2.2.1<0;refine ⟨[q.2.1],afL,λx j=> ?_,λf hf out ho=> ?_⟩;rw [ϊ.1 j];have:=g4 T;omega;obtain _|f:=f
  omega;show cu (vx Kv f) _ _ _ _=_;unfold cu;simp only [guard_pos hs,guard_pos (show (0:Int)<=p.getD s.toNat 0/\p.getD s.toNat 0<aW rs from ⟨J,R⟩),hq,η,decide_eq_true T,cond_true];rw [b9 (by omega)];obtain ⟨⟨b1,b2⟩,b3,b4⟩:=a4 (by omega);obtain ⟨g5,g6⟩:=g2 (by omega);obtain ⟨w1,l1,v1,e1⟩:=yB hp U I r q.2.1 (by omega) g5.1 g5.2 b1 (by omega);obtain ⟨w2,l2,v2,e2⟩:=yB hp U I r q.2.2.1 (by omega) (by omega) g6 b3 (by omega);refine ⟨w1++w2,by rw [ω,p9];omega,λx j=> ?_,λf hf out ho=> ?_⟩;rcases Λ.1 j with j|j
  exact v1 x j;exact v2 x j;obtain _|f:=f
  omega;show cu (vx Kv f) _ _ _ _=_;unfold cu;simp only [guard_pos hs,guard_pos (show (0:Int)<=p.getD s.toNat 0/\p.getD s.toNat 0<aW rs from ⟨J,R⟩),hq,η,decide_eq_false T,cond_false];rw [e1 f (by omega) out (by omega),η,e2 f (by omega) (out++w1) (by rw [ω];omega),η,ό]
theorem zn:ba (λr=>yA r.1/\eX r.2.1) (l4 ((n:Int),(c:Int),rs)):=by
 have I:=h.n1;have J:=h.n2;unfold l4;simp only [h.valid,η,ύ,cond_false];refine χ (vH h) λR T=> ?_;obtain ⟨U,j⟩:=R;obtain ⟨o,k2,rk,p⟩:=T;have o:qH n j:=o;have hl:=o.1;have t:yA []:=⟨ϝ _,λx hx=>by cases hx⟩;refine Θ ⟨Ϭ _,by simp only [aW];omega⟩ (ba.bif (λ_=>ι ⟨t,⟨by decide,by decide⟩⟩) λe=> ?_);have e: ¬j.getD 0 0<0:=of_decide_eq_false e;obtain ⟨w,l1,v1,e1⟩:=yB h k2 hl p 8 0 (by omega) (by omega) (by omega) (by show 0<=j.getD 0 0;omega) (by have:=(p 0 (by omega) (show 0<=j.getD 0 0 by omega)).1;show rk 0<8;omega);have e2:eQ ((n:Int),(c:Int),rs) [] U 0=some w:=by
  unfold eQ;exact CU.2 ⟨8,λf hf=>e1 f hf [] (by decide)⟩
 rw [e2,η];refine ba.bif (λ_=>ι ⟨t,⟨by decide,by decide⟩⟩) λe=>ι ⟨⟨?_,v1⟩,?_⟩;have e: ¬aW w>12:=of_decide_eq_false e;simp only [aW] at e;show w.length<=12;omega;have:=u6 h o (i:=0);exact ⟨by show _<=j.getD 0 0;omega,by show j.getD 0 0<=_;omega⟩
end
end Go.Proofs
namespace Go.Proofs
open Go.Ide Go.IntWalk
def LW (c:Nat)(w:List Int):Prop:= ∀x∈w,0<=x/\x<(c:Int)
theorem LW.nil {c:Nat}:LW c []:=λx j=>by cases j
theorem LW.snoc {c:Nat}{w:List Int}{a:Int}(h:LW c w)(o:0<=a/\a<(c:Int)):LW c (w++[a]):=λx j=>by
 rcases Λ.1 j with j|j
 exact h x j;rw [ϊ.1 j];exact o
theorem vb {c:Nat}{nx w:List Int}{s:Nat}{a:Int}:cf c nx s (w++[a])=Bk c nx (cf c nx s w) a:=by unfold cf;rw [List.foldl_append];rfl
section
variable {m c:Nat} {nx:List Int} {es:List Bool} (h:di m c nx es)
include h
theorem XL {s:Nat}{a:Int}(j:s<m)(o:0<=a/\a<(c:Int)):cC ((m:Int),(c:Int),nx,es) (s:Int) a=some ((Bk c nx s a:Nat):Int):=Ge h.plain j (k:=a.toNat) (by omega) (by omega)
theorem goL {s:Nat}{a:Int}(j:s<m)(o:0<=a/\a<(c:Int)):Bk c nx s a<m:=J0 h.plain j (k:=a.toNat) (by omega) (by omega)
theorem uu {w:List Int}(j:LW c w){s:Nat}(o:s<m):cf c nx s w<m:=by
 induction w generalizing s with
 |nil=>exact o
 |cons a w ih=>exact ih (λx p=>j x (ϛ _ p)) (goL h o (j a (by simp)))
theorem vc {f:Int×Int->Option ((Int×Int)⊕Int)}{w:List Int}(t:LW c w)(hl:w.length<=1000){s:Nat}(I:s<m)(J: ∀(v:Int) (i:Nat),i<w.length->f (v,(i:Int))=(cC ((m:Int),(c:Int),nx,es) v (w.getD i 0)).bind λy=>some (.inl (y,((i+1:Nat):Int))))(T: ∀v:Int,f (v,(w.length:Int))=some (.inr v)):rounds f ((s:Int),(0:Int))=some ((cf c nx s w:Nat):Int):=by
 obtain ⟨r,e,U⟩:=ba.HA (f:=f) (R:=λr=>r=((cf c nx s w:Nat):Int)) w.length (λi v=>v=((cf c nx s (w.take i):Nat):Int)) (by omega) (λi v j o=>by
  subst o;have p:=t _ (bQ (d:=0) j);rw [J _ _ j,XL h (uu h (λx p=>t x (aeS p)) I) p,η];exact ι ⟨_,rfl,by rw [Hl j]⟩) (λv o=>by
  subst o;rw [T,aam];exact ι ⟨_,rfl,rfl⟩) (v:=(s:Int)) rfl
 rw [e,U]
theorem Fl {w:List Int}(o:LW c w)(p:w.length<=1000):iA ((m:Int),(c:Int),nx,es) w=some ((cf c nx 0 w:Nat):Int):=by
 have:=h.facts.1;have e:=vc h (f:=dX ((m:Int),(c:Int),nx,es) w) o p (s:=0) (by omega) (λv i j=>by
  unfold dX;simp only [show decide ((i:Int)<aW w)=true from ki j,cond_true,guard_pos (eJ j),Β,bO j (show w.length<=4294967296 by omega)]) (λv=>by
  unfold dX;simp only [show decide (((w.length:Nat):Int)<aW w)=false from kC (φ _),cond_false])
 have e:rounds (dX ((m:Int),(c:Int),nx,es) w) ((0:Int),(0:Int))=_:=e;unfold iA;rw [e];rfl
theorem Kw {w:List Int}(o:LW c w)(p:w.length<=1000):fu ((m:Int),(c:Int),nx,es) w=some (es.getD (cf c nx 0 w) false):=by
 obtain ⟨t,I,J,R,T,U,_⟩:=h.facts;have e:=vc h (f:=cO ((m:Int),(c:Int),nx,es) w) o p (s:=0) (by omega) (λv i j=>by
  unfold cO;simp only [show decide ((i:Int)<aW w)=true from ki j,cond_true,guard_pos (eJ j),Β,bO j (show w.length<=4294967296 by omega)]) (λv=>by
  unfold cO;simp only [show decide (((w.length:Nat):Int)<aW w)=false from kC (φ _),cond_false])
 have e:rounds (cO ((m:Int),(c:Int),nx,es) w) ((0:Int),(0:Int))=_:=e;have r:=uu h o (s:=0) (by omega);unfold fu;rw [e,η,guard_pos (by simp only [aW];omega)];rfl
end
abbrev yC:=Int×Int
theorem TF {ns:List (yC×Bool)}(o: ∀p∈ns,p.2=true)(k:Int×Int):bX (t:= .st (cq .i64 1)) (u:= .bool) ns k=some true\/(bX (t:= .st (cq .i64 1)) (u:= .bool) ns k=none/\ ∀p∈ns,p.1≠k):=by
 induction ns with
 |nil=>exact .inr ⟨rfl,λp hp=>by cases hp⟩
 |cons q ns ih=>
  have e:bX (t:= .st (cq .i64 1)) (u:= .bool) (q::ns) k=if (decide (q.1.1=k.1)&&decide (q.1.2=k.2))=true then some q.2 else bX (t:= .st (cq .i64 1)) (u:= .bool) ns k:=rfl
  by_cases j:(decide (q.1.1=k.1)&&decide (q.1.2=k.2))=true;exact .inl (e.trans ((if_pos j).trans (congrArg some (o q (by simp)))));rcases ih (λp hp=>o p (ϛ _ hp)) with h|⟨h,r⟩
  exact .inl (e.trans ((if_neg j).trans h));refine .inr ⟨e.trans ((if_neg j).trans h),λp hp=> ?_⟩;rcases ϒ.1 hp with rfl|hp
  intro e;subst e;simp at j;exact r p hp
def uv:List (Int×Int):=(abh 64).flatMap λx:Nat=>(abh 64).map λy:Nat=>(Int.ofNat x,Int.ofNat y)
theorem BC:uv.length=4096:=by decide+kernel
theorem BD {x y:Int}(j:0<=x/\x<64)(o:0<=y/\y<64):(x,y)∈uv:=by
 unfold uv;rw [List.mem_flatMap];exact ⟨x.toNat,abJ.2 (by omega),ϟ.2 ⟨y.toNat,abJ.2 (by omega),by show (((x.toNat:Nat):Int),((y.toNat:Nat):Int))=_;rw [aaj j.1,aaj o.1]⟩⟩
section
variable {m c n:Nat} {nx ny:List Int} {es et:List Bool} (h:di m c nx es) (g:di n c ny et)
include h g
structure QI (c:Nat)(nx ny:List Int)(q:List ((Int×Int)×List Int))(sn:List (yC×Bool)):Prop where
 sn:sn=q.map λe=>(e.1,true)
 nd:(q.map Prod.fst).Nodup
 el: ∀e∈q,e.2.length<=12/\LW c e.2/\e.1=(((cf c nx 0 e.2:Nat):Int),((cf c ny 0 e.2:Nat):Int))
theorem QI.len {q:List ((Int×Int)×List Int)}{r:List (yC×Bool)}(j:QI c nx ny q r):q.length<=4096:=by
 have J:=h.facts;have R:=g.facts;have:(q.map Prod.fst).length<=uv.length:=j.nd.length_le_of_subset λp hp=>by
  obtain ⟨e,t,rfl⟩:=ϟ.1 hp;obtain ⟨_,o,I⟩:=j.el e t;have T:=uu h o (s:=0) (by omega);have U:=uu g o (s:=0) (by omega);rw [I];exact BD (by omega) (by omega)
 rw [BC,ϔ] at this;exact this
omit h g in
theorem QI.add {q:List ((Int×Int)×List Int)}{r:List (yC×Bool)}(o:QI c nx ny q r){w:List Int}(t:w.length<=12)(I:LW c w)(J: ∀p∈r,p.1≠(((cf c nx 0 w:Nat):Int),((cf c ny 0 w:Nat):Int))):
 QI c nx ny (q++[((((cf c nx 0 w:Nat):Int),((cf c ny 0 w:Nat):Int)),w)]) (r++[((((cf c nx 0 w:Nat):Int),((cf c ny 0 w:Nat):Int)),true)]):=by
 refine ⟨by rw [o.sn,aaQ];rfl,?_,λe j=> ?_⟩;rw [aaQ,afs];refine ⟨o.nd,by simp,λa R b T=> ?_⟩;rw [ϊ.1 T];obtain ⟨e,j,rfl⟩:=ϟ.1 R;exact J (e.1,true) (by rw [o.sn];exact ϟ.2 ⟨e,j,rfl⟩);rcases Λ.1 j with j|j
 exact o.el e j;rw [ϊ.1 j];exact ⟨t,I,rfl⟩
theorem z7:ba (λr=>r.1.length<=12/\LW c r.1/\(r.2=true->es.getD (cf c nx 0 r.1) false≠et.getD (cf c ny 0 r.1) false)) (iQ ((m:Int),(c:Int),nx,es) ((n:Int),(c:Int),ny,et)):=by
 obtain ⟨h3,h4,h5,h6,h7,h8,_⟩:=h.facts;obtain ⟨g3,g4,g5,g6,g7,g8,_⟩:=g.facts;unfold iQ;rw [η];refine χ (P:=λr=> ∀w,r=Sum.inr w->w.length<=12/\LW c w/\es.getD (cf c nx 0 w) false≠et.getD (cf c ny 0 w) false) (϶ (λd (s:Int×List ((Int×Int)×List Int)×List (yC×Bool))=> ∃i:Nat,s.1=(i:Int)/\i<=s.2.1.length/\d=4096 - i/\QI c nx ny s.2.1 s.2.2) (λd s hs=> ?_) (n:=4096) ⟨0,rfl,ϝ _,rfl,rfl,by simp,λe he=>by
  rw [ϊ.1 he];exact ⟨ϝ _,LW.nil,rfl⟩⟩) λr R=> ?_
 obtain ⟨t,q,sn⟩:=s;obtain ⟨i,b1,b2,b3,I⟩:=hs;obtain rfl:t=(i:Int):=b1;have I:QI c nx ny q sn:=I;have hql:=I.len h g;unfold oO;refine ba.bif (λe=> ?_) λe=>ι (.inr ⟨_,rfl,λw T=>by cases T⟩);have e:(i:Int)<aW q:=of_decide_eq_true e;have e':i<q.length:=by simp only [aW] at e;omega
 obtain ⟨p1,J,U⟩:=I.el _ (bQ (d:=(((0:Int),(0:Int)),([]:List Int))) e');simp only [Β];generalize T:(q.getD i (((0:Int),(0:Int)),([]:List Int))).2=w at p1 J U;have w1:=uu h J (s:=0) (by omega);have w2:=uu g J (s:=0) (by omega);have k1:(q.getD i (((0:Int),(0:Int)),([]:List Int))).1.1=((cf c nx 0 w:Nat):Int):=by rw [U]
 have k2:(q.getD i (((0:Int),(0:Int)),([]:List Int))).1.2=((cf c ny 0 w:Nat):Int):=by rw [U]
 simp only [k1,k2,Β];refine χ (P:=λx:((List ((Int×Int)×List Int))×(List (yC×Bool)))⊕((Int×(List ((Int×Int)×List Int))×(List (yC×Bool)))⊕(Unit⊕List Int))=>match x with
  | .inl v=>QI c nx ny v.1 v.2/\q.length<=v.1.length
  | .inr z=> ∃w,z= .inr (.inr w)/\w.length<=12/\LW c w/\es.getD (cf c nx 0 w) false≠et.getD (cf c ny 0 w) false) (Θ ⟨by omega,e⟩ (Θ ⟨by omega,by simp only [aW];omega⟩ (Θ ⟨by omega,by simp only [aW];omega⟩ (ba.bif (λe2=>ι ⟨w,rfl,p1,J,by simpa using e2⟩) λ_=>ba.bif (λ_=>ι ⟨I,φ _⟩) λe3=> ?_)))) λx hx=> ?_
 have e3: ¬aW w=12:=by simpa using e3
 simp only [aW] at e3;refine χ (P:=λv=>QI c nx ny v.1 v.2/\q.length<=v.1.length) (ba.for_ c (λ_ v=>QI c nx ny v.1 v.2/\q.length<=v.1.length) (by omega) (λj v hj o=> ?_) (λv o=> ?_) ⟨I,φ _⟩) λv o=>ι o;obtain ⟨v1,v2⟩:=o;have M6:=v1.len h g;unfold kE;simp only [show decide ((j:Int)<(c:Int))=true from decide_eq_true (by omega),cond_true,bO hj (show c<=4294967296 by omega),Β,k1,k2,T,XL h w1 (a:=(j:Int)) (by omega),XL g w2 (a:=(j:Int)) (by omega),η,<-vb];have e4:jY .i64 1 0 [((cf c nx 0 (w++[(j:Int)]):Nat):Int),((cf c ny 0 (w++[(j:Int)]):Nat):Int)]=((((cf c nx 0 (w++[(j:Int)]):Nat):Int),((cf c ny 0 (w++[(j:Int)]):Nat):Int)):Int×Int):=rfl;rw [e4];refine χ (P:=λv=>QI c nx ny v.1 v.2/\q.length<=v.1.length) ?_ λv o=>ι ⟨v,rfl,o⟩;rcases TF (ns:=v.2) (λp hp=>by
  rw [v1.sn] at hp;obtain ⟨_,_,rfl⟩:=ϟ.1 hp;rfl) ((((cf c nx 0 (w++[(j:Int)]):Nat):Int),((cf c ny 0 (w++[(j:Int)]):Nat):Int))) with hf|⟨hf,hn⟩
 rw [hf];exact ι ⟨v1,v2⟩;rw [hf];refine Θ rfl ?_;rw [dN (by omega),η,b9 (by omega),b9 (by omega)];exact ι ⟨v1.add (by simp;omega) (J.snoc (by omega)) hn,by simp;omega⟩;unfold kE;simp only [show decide ((c:Int)<(c:Int))=false from decide_eq_false (by omega),cond_false];exact ι ⟨_,rfl,o⟩;cases x with
 |inl v=>
  obtain ⟨v1,v2⟩:=hx;exact ι (.inl ⟨4096 - (i+1),_,by omega,rfl,i+1,bO (n:=100000) (by omega) (by omega),by show i+1<=v.1.length;omega,rfl,v1⟩)
 |inr z=>
  obtain ⟨w,rfl,hz⟩:=hx;exact ι (.inr ⟨_,rfl,λw' Nh=>by cases Nh;exact hz⟩)
 cases r with
 |inl x=>exact ι ⟨ϝ _,LW.nil,λe=>by cases e⟩
 |inr w=>exact ι ⟨(R w rfl).1,(R w rfl).2.1,λ_=>(R w rfl).2.2⟩
end
theorem zo {m c:Nat}{nx:List Int}{es:List Bool}(h:di m c nx es):ba (λr=>yA r.1) (lW ((m:Int),(c:Int),nx,es)):=by
 obtain ⟨J,R,o,p,T,U,_⟩:=h.facts;have t:(π c (0:Int)).length=c:=ϕ;have g:di 1 c (π c 0) [false]:=⟨tg (by omega) (by omega) o p (by omega) rfl λi hi=>by
  rw [aby (bQ (d:=0) (show i<(π c (0:Int)).length by omega))];omega,by omega⟩
 unfold lW;simp only [h.valid,η,ύ,cond_false];refine Θ ⟨by omega,by omega⟩ ?_;rw [Β];exact χ (z7 h g) λr j=>ι ⟨j.1,λx I=>by have:=j.2.1 x I;omega⟩
end Go.Proofs
namespace Go.Proofs
open Go.Ide Go.IntWalk
def rA (c:Nat)(nx:List Int)(es:List Bool)(s:Nat)(w:List Int):Bool:=es.getD (cf c nx s w) false
def Dt (b:Bool):Int:=bif b then 49 else 48
def BE (c:Nat)(nx:List Int)(es:List Bool)(T:List (List Int))(s:Nat):List UInt8:=lr (T.map λt=>Dt (rA c nx es s t))
def eqv (c:Nat)(nx:List Int)(es:List Bool)(T:List (List Int))(s r:Nat):Prop:= ∀t∈T,rA c nx es s t=rA c nx es r t
theorem BF {c:Nat}{nx:List Int}{es:List Bool}{T:List (List Int)}{s r:Nat}:BE c nx es T s=BE c nx es T r↔eqv c nx es T s r:=by
 unfold BE lr eqv;induction T with
 |nil=>simp
 |cons t T ih=>
  simp only [List.map_cons,List.cons.injEq,ih,List.forall_mem_cons];refine and_congr_left λ_=> ?_;cases rA c nx es s t<;>cases rA c nx es r t<;>decide
theorem yD {ns:List (List UInt8×Int)}{k:List UInt8}{v:Int}(h:bX (t:= .str) (u:=tI) ns k=some v): ∃p∈ns,p.1=k/\p.2=v:=by
 induction ns with
 |nil=>cases h
 |cons p ns ih=>
  have h:(if xG .str p.1 k then some p.2 else bX (t:= .str) (u:=tI) ns k)=some v:=h;split at h;rename_i e;injection h with h;exact ⟨p,by simp,by unfold xG at e;simpa using e,h⟩;obtain ⟨q,j,e⟩:=ih h;exact ⟨q,ϛ _ j,e⟩
theorem Fm {ns:List (List UInt8×Int)}{k:List UInt8}(h:bX (t:= .str) (u:=tI) ns k=none): ∀p∈ns,p.1≠k:=by
 induction ns with
 |nil=>intro p hp;cases hp
 |cons q ns ih=>
  have h:(if xG .str q.1 k then some q.2 else bX (t:= .str) (u:=tI) ns k)=none:=h;split at h;cases h;rename_i e;intro p hp;rcases ϒ.1 hp with rfl|hp
  intro q;exact e (by unfold xG;simpa using q);exact ih h p hp
theorem Kx {ns:List (List UInt8×Int)}{k:List UInt8}(h: ∀p∈ns,p.1≠k):bX (t:= .str) (u:=tI) ns k=none:=by
 cases e:bX (t:= .str) (u:=tI) ns k with
 |none=>rfl
 |some v=>obtain ⟨p,hp,j,_⟩:=yD e;exact absurd j (h p hp)
theorem HD {xs ys:List Int}(h:xs.length<=1000000):ba (λb=>b=true->xs=ys) (bS xs ys):=by
 unfold bS;refine ba.bif (λ_=>ι λe=>by cases e) λe=> ?_;have e:aW xs=aW ys:=by simpa using e
 have o:xs.length=ys.length:=by simp only [aW] at e;omega
 refine χ (P:=λr=> ∀x,r=Sum.inl x->xs=ys) (϶ (λd s=> ∃i:Nat,s=(i:Int)/\i<=xs.length/\d=xs.length - i/\ ∀k,k<i->xs.getD k 0=ys.getD k 0) (λd s t=> ?_) (n:=xs.length) ⟨0,rfl,ϝ _,rfl,λk I=>by omega⟩) λr J=> ?_;obtain ⟨i,rfl,b1,b2,p⟩:=t;unfold cU;refine ba.bif (λe=> ?_) λe=>ι (.inr ⟨_,rfl,λx _=> ?_⟩);have e:(i:Int)<aW xs:=of_decide_eq_true e;have o:i<xs.length:=by simp only [aW] at e;omega
 refine Θ ⟨by omega,e⟩ (Θ ⟨by omega,by simp only [aW];omega⟩ (ba.bif (λ_=>ι (.inr ⟨_,rfl,λx R=>by cases R⟩)) λT=>ι (.inl ⟨xs.length - (i+1),_,by omega,rfl,i+1,bO (n:=1000000) (by omega) (by omega),by omega,rfl,λk I=> ?_⟩)));by_cases j:k=i;subst j;simpa using T;exact p k (by omega);have e: ¬(i:Int)<aW xs:=of_decide_eq_false e;simp only [aW] at e;refine List.ext_getElem o λk U h2=> ?_;have:=p k (by omega);rwa [ς,ς,Γ U,Γ h2] at this;cases r with
 |inl x=>exact ι λ_=>J x rfl
 |inr x=>exact ι λe=>by cases e
def sH (c:Nat)(T:List (List Int)):Prop:= ∀t∈T,LW c t/\t.length<=12
section
variable {m c:Nat} {nx:List Int} {es:List Bool} (h:di m c nx es)
include h
theorem z8 {w:List Int}(I:LW c w)(U:w.length<=1000){T:List (List Int)}(hT:sH c T)(hn:T.length<=10000):nm ((m:Int),(c:Int),nx,es) w T=some (BE c nx es T (cf c nx 0 w)):=by
 obtain ⟨h3,h4,h5,h6,h7,h8,_⟩:=h.facts;have o:=uu h I (s:=0) (by omega);unfold nm;rw [Fl h I U,η];obtain ⟨r,e,rfl⟩:ba (λr=>r=T.map λt=>Dt (rA c nx es (cf c nx 0 w) t)) (rounds (lY ((m:Int),(c:Int),nx,es) T ((cf c nx 0 w:Nat):Int)) ((0:Int),([]:List Int))):=by
  refine ba.for_ T.length (λi v=>v=(T.take i).map λt=>Dt (rA c nx es (cf c nx 0 w) t)) (by omega) (λi v j p=> ?_) (λv p=> ?_) rfl;have aa:v.length<=10000:=by rw [p,ϔ,ϙ];omega
  obtain ⟨J,t2⟩:=hT _ (bQ (d:=[]) j);have e:=vc h (f:=lX ((m:Int),(c:Int),nx,es) T ((i:Int),v)) J (by omega) o (λv i j=>by
   unfold lX;simp only [Β];simp only [show decide ((i:Int)<aW _)=true from ki j,cond_true,guard_pos (eJ j),bO j (show _<=4294967296 by omega)]) (λv=>by
   unfold lX;simp only [Β];simp only [show decide ((((T.getD i []).length:Nat):Int)<aW (T.getD i []))=false from kC (φ _),cond_false])
  have R:=uu h J o;unfold lY;simp only [show decide ((i:Int)<aW T)=true from ki j,cond_true,guard_pos (eJ j),bO j (show T.length<=4294967296 by omega)];rw [e,η,guard_pos (show (0:Int)<=((cf c nx (cf c nx 0 w) (T.getD i []):Nat):Int)/\((cf c nx (cf c nx 0 w) (T.getD i []):Nat):Int)<aW es from ⟨by omega,by simp only [aW];omega⟩),b9 (by omega),b9 (by omega),Β];have hs:v++[Dt (rA c nx es (cf c nx 0 w) (T.getD i []))]=(T.take (i+1)).map λt=>Dt (rA c nx es (cf c nx 0 w) t):=by
   rw [fq j [],aaQ,<-p];rfl
  refine χ (P:=λq=>q=v++[Dt (rA c nx es (cf c nx 0 w) (T.getD i []))]) (ba.bif (λe=>ι ?_) λe=>ι ?_) λq hq=>ι ⟨q,rfl,by rw [hq,hs]⟩;unfold rA Dt;rw [e];rfl;unfold rA Dt;rw [e];rfl;unfold lY;simp only [show decide (((T.length:Nat):Int)<aW T)=false from kC (φ _),cond_false];exact ι ⟨_,rfl,by rw [p,aam]⟩
 rw [e];rfl
end
theorem jT {α:Type}{xs:List α}{x d:α}{i:Nat}:(xs++[x]).getD i d=if i<xs.length then xs.getD i d else if i=xs.length then x else d:=by
 rw [ς,ς];by_cases h:i<xs.length;rw [if_pos h,List.getElem?_append_left h];rw [if_neg h,Κ (by omega)];by_cases e:i=xs.length;rw [if_pos e,e,ahl];rfl;rw [if_neg e,aac (by simp;omega)];rfl
structure WI (c:Nat)(nx:List Int)(es:List Bool)(T ws:List (List Int)):Prop where
 ne:1<=ws.length
 fst:ws.getD 0 []=[]
 lw: ∀w∈ws,LW c w/\w.length<=ws.length
 nd: ∀i j,i<ws.length->j<ws.length->eqv c nx es T (cf c nx 0 (ws.getD i [])) (cf c nx 0 (ws.getD j []))->i=j
theorem WI.len {m c:Nat}{nx:List Int}{es:List Bool}(h:di m c nx es){T o:List (List Int)}(J:WI c nx es T o):o.length<=m:=by
 have h3:=h.facts.1;have:(o.map (cf c nx 0)).length<=(abh m).length:=by
  refine List.Nodup.length_le_of_subset ?_ λx R=> ?_;unfold List.Nodup;rw [List.pairwise_iff_getElem];intro i j p r U e;rw [ϔ] at p r;rw [adW,adW] at e;have:=J.nd i j p r λt _=>by
   rw [ς,ς,Γ p,Γ r];show rA c nx es (cf c nx 0 o[i]) t=rA c nx es (cf c nx 0 o[j]) t;rw [e]
  omega;obtain ⟨w,I,rfl⟩:=ϟ.1 R;exact abJ.2 (uu h (J.lw w I).1 (by omega))
 rwa [ϔ,List.length_range] at this
theorem WI.snoc {c:Nat}{nx:List Int}{es:List Bool}{T o:List (List Int)}(J:WI c nx es T o){w:List Int}(hl:LW c w)(hn:w.length<=o.length+1)(hk: ∀i,i<o.length-> ¬eqv c nx es T (cf c nx 0 (o.getD i [])) (cf c nx 0 w)):WI c nx es T (o++[w]):=by
 have p:=J.ne;refine ⟨by simp,by rw [jT,if_pos (by omega)];exact J.fst,λx I=> ?_,λi j R U e=> ?_⟩;rw [ω];rcases Λ.1 I with I|I
 have:=J.lw x I;exact ⟨this.1,by have:=this.2;simp;omega⟩;rw [ϊ.1 I];exact ⟨hl,hn⟩;rw [ω] at R U;have R:i<o.length+1:=R;have U:j<o.length+1:=U;rw [jT,jT] at e;by_cases p:i<o.length;by_cases r:j<o.length;rw [if_pos p,if_pos r] at e;exact J.nd i j p r e;rw [if_pos p,if_neg r,if_pos (by omega)] at e;exact absurd e (hk i p);by_cases r:j<o.length;rw [if_neg p,if_pos (by omega),if_pos r] at e;exact absurd (λt ht=>(e t ht).symm) (hk j r);omega
structure NS (c:Nat)(nx:List Int)(es:List Bool)(T ws:List (List Int))(k:Nat)(ns:List (List UInt8×Int)):Prop where
 t1: ∀p∈ns,∃i,i<k/\p.1=BE c nx es T (cf c nx 0 (ws.getD i []))/\p.2=(i:Int)
 t2: ∀i,i<k-> ∃p∈ns,p.1=BE c nx es T (cf c nx 0 (ws.getD i []))
theorem NS.snoc {c:Nat}{nx:List Int}{es:List Bool}{T r:List (List Int)}{k:Nat}{ns:List (List UInt8×Int)}(h:NS c nx es T r k ns){vs:List (List Int)}(t: ∀i,i<k->vs.getD i []=r.getD i []):
 NS c nx es T vs (k+1) (ns++[(BE c nx es T (cf c nx 0 (vs.getD k [])),(k:Int))]):=by
 refine ⟨λp hp=> ?_,λi J=> ?_⟩;rcases Λ.1 hp with hp|hp
 obtain ⟨i,j,o,I⟩:=h.t1 p hp;exact ⟨i,by omega,by rw [t i j];exact o,I⟩;rw [ϊ.1 hp];exact ⟨k,by omega,rfl,rfl⟩;by_cases e:i=k;subst e;exact ⟨_,aeN _ (ϊ.2 rfl),rfl⟩;obtain ⟨p,j,o⟩:=h.t2 i (by omega);exact ⟨p,acR _ j,by rw [t i (by omega)];exact o⟩
end Go.Proofs
namespace Go.Proofs
open Go.Ide Go.IntWalk
def NX (c:Nat)(nx:List Int)(es:List Bool)(T o:List (List Int))(p:List Int):Prop:= ∀q,q<p.length->q/c<o.length/\ ∃j:Nat,p.getD q 0=(j:Int)/\j<o.length/\
 eqv c nx es T (Bk c nx (cf c nx 0 (o.getD (q/c) [])) ((q%c:Nat):Int)) (cf c nx 0 (o.getD j []))
theorem NX.grow {c:Nat}{nx:List Int}{es:List Bool}{T o vs:List (List Int)}{p:List Int}(h:NX c nx es T o p)(hl:o.length<=vs.length)(r: ∀i,i<o.length->vs.getD i []=o.getD i []):NX c nx es T vs p:=λq t=>by
 obtain ⟨I,j,J,R,U⟩:=h q t;exact ⟨by omega,j,J,by omega,by rw [r _ I,r _ R];exact U⟩
theorem NX.snoc {c:Nat}{nx:List Int}{es:List Bool}{T o:List (List Int)}{p:List Int}{i a j:Nat}(h:NX c nx es T o p)(hl:p.length=i*c+a)(t:a<c)(J:i<o.length)(R:j<o.length)(U:eqv c nx es T (Bk c nx (cf c nx 0 (o.getD i [])) (a:Int)) (cf c nx 0 (o.getD j []))):NX c nx es T o (p++[(j:Int)]):=λq r=>by
 rw [ω] at r;have r:q<p.length+1:=r;by_cases e:q<p.length;rw [jT,if_pos e];exact h q e;have I:q=i*c+a:=by omega
 have d1:q/c=i:=by rw [I,aay,adT (by omega),adI t,ϧ]
 have d2:q%c=a:=by rw [I,aay,adU,aai t]
 rw [jT,if_neg e,if_pos (by omega),d1,d2];exact ⟨J,j,rfl,R,U⟩
section
variable {m c:Nat} {nx:List Int} {es:List Bool} (h:di m c nx es)
include h
structure GR (c:Nat)(nx:List Int)(es:List Bool)(T ws:List (List Int))(r:List (List Int)×u9):Prop where
 ext: ∃ext,r.1=ws++ext
 wi:WI c nx es T r.1
 sm:r.2.1=((r.1.length:Nat):Int)
 sc:r.2.2.1=(c:Int)
 xx:NX c nx es T r.1 r.2.2.2.1
 nl:r.2.2.2.1.length=r.1.length*c
 el:r.2.2.2.2.length=r.1.length
 ee: ∀k,k<r.1.length->r.2.2.2.2.getD k false=es.getD (cf c nx 0 (r.1.getD k [])) false
theorem Ky {T j:List (List Int)}(hT:sH c T)(I:T.length<=10000)(t:WI c nx es T j):ba (λns=>NS c nx es T j j.length ns) (rounds (jq ((m:Int),(c:Int),nx,es) j T) ((0:Int),([]:List (List UInt8×Int)))):=by
 obtain ⟨h3,h4,_⟩:=h.facts;have J:=t.len h;refine ba.for_ j.length (λi v=>NS c nx es T j i v) (by omega) (λi v o r=> ?_) (λv r=> ?_) ⟨λp hp=>(by cases hp),λi o=>by omega⟩;obtain ⟨R,l2⟩:=t.lw _ (bQ (d:=[]) o);unfold jq;simp only [show decide ((i:Int)<aW j)=true from ki o,cond_true,guard_pos (eJ o),bO o (show j.length<=4294967296 by omega),Β];rw [z8 h R (by omega) hT I,η];refine Θ (Kx λp hp=> ?_) (ι ⟨_,rfl,r.snoc λ_ _=>rfl⟩);obtain ⟨k,k1,U,_⟩:=r.t1 p hp;intro e;have:=t.nd k i (by omega) o (BF.1 (U.symm.trans e));omega;unfold jq;simp only [show decide (((j.length:Nat):Int)<aW j)=false from kC (φ _),cond_false];exact ι ⟨_,rfl,r⟩
structure GS (c:Nat)(nx:List Int)(es:List Bool)(T ws:List (List Int))(n:Nat)(v:List (List Int)×List (List UInt8×Int)×List Int):Prop where
 ext: ∃ext,v.1=ws++ext
 wi:WI c nx es T v.1
 Ux:NS c nx es T v.1 v.1.length v.2.1
 xx:NX c nx es T v.1 v.2.2
 nl:v.2.2.length=n
theorem QD {T U:List (List Int)}(hT:sH c T)(hn:T.length<=10000){i:Nat}{ws0:List (List Int)}{ns0:List (List UInt8×Int)}{nq0:List Int}{pe:List Bool}{o:List (List Int)}{aa:List (List UInt8×Int)}{ab:List Int}(hs:GS c nx es T U (i*c) (o,aa,ab))(hi:i<o.length):
 ba (λv=>GS c nx es T U ((i+1)*c) v/\(∀k,k<o.length->v.1.getD k []=o.getD k [])/\o.length<=v.1.length) (rounds (jm ((m:Int),(c:Int),nx,es) T ((i:Int),ws0,ns0,nq0,pe)) ((0:Int),o,aa,ab)):=by
 obtain ⟨h3,h4,h5,h6,h7,h8,_⟩:=h.facts;refine ba.for_ c (λj v=>GS c nx es T U (i*c+j) v/\(∀k,k<o.length->v.1.getD k []=o.getD k [])/\o.length<=v.1.length) (by omega) (λj v hj hv=> ?_) (λv hv=> ?_) ⟨hs,λ_ _=>rfl,φ _⟩;obtain ⟨v1,v2,v3⟩:=hv;obtain ⟨vs,ns,nq⟩:=v;have v3:o.length<=vs.length:=v3;have I:i<vs.length:=by omega
 have M6:vs.length<=m:=v1.wi.len h;have YM:i*c<=64*4:=aaB (by omega) h6;have ad:nq.length=i*c+j:=v1.nl;obtain ⟨l1,l2⟩:=v1.wi.lw _ (bQ (d:=[]) I);have l1:LW c (vs.getD i []):=l1;have l2:(vs.getD i []).length<=vs.length:=l2;have l3:LW c (vs.getD i []++[(j:Int)]):=l1.snoc (by omega);unfold jm;simp only [show decide ((j:Int)<(c:Int))=true from decide_eq_true (by omega),cond_true,bO hj (show c<=4294967296 by omega),Β];refine Θ ⟨by omega,by simp only [aW];omega⟩ ?_;rw [dN (by omega),η];refine Θ (by simp only [Ζ,Χ];unfold bl;omega) ?_;rw [z8 h l3 (by rw [ω];show (vs.getD i []).length+1<=_;omega) hT hn,η,vb];refine χ (P:=λq:Int×List (List Int)×List (List UInt8×Int)=>GS c nx es T U (i*c+(j+1)) (q.2.1,q.2.2,nq++[q.1])/\(∀k,k<o.length->q.2.1.getD k []=o.getD k [])/\o.length<=q.2.1.length) ?_ λq hq=>Θ (by simp only [Ζ,Χ];unfold bl;omega) (ι ⟨_,rfl,hq⟩);cases hf:bX (t:= .str) (u:=tI) ns (BE c nx es T (Bk c nx (cf c nx 0 (vs.getD i [])) (j:Int))) with
 |some x=>
  obtain ⟨p,p1,p2,p3⟩:=yD hf;obtain ⟨k,k1,k2,k3⟩:=v1.Ux.t1 p p1;have J:x=(k:Int):=by rw [<-p3,k3]
  subst J;exact ι ⟨⟨v1.ext,v1.wi,v1.Ux,v1.xx.snoc ad hj I k1 (BF.1 (p2.symm.trans k2)),by show (nq++[_]).length=_;simp;omega⟩,v2,v3⟩
 |none=>
  have ae: ∀k,k<vs.length-> ¬eqv c nx es T (cf c nx 0 (vs.getD k [])) (Bk c nx (cf c nx 0 (vs.getD i [])) (j:Int)):=λk J e=>by
   obtain ⟨p,p1,p2⟩:=v1.Ux.t2 k J;exact Fm hf p p1 (p2.trans (BF.2 e))
  have R:cf c nx 0 (vs.getD i []++[(j:Int)])=Bk c nx (cf c nx 0 (vs.getD i [])) (j:Int):=vb;have hg: ∀k,k<vs.length->(vs++[vs.getD i []++[(j:Int)]]).getD k []=vs.getD k []:=λk J=>by rw [jT,if_pos J]
  have r:(vs++[vs.getD i []++[(j:Int)]]).getD vs.length []=vs.getD i []++[(j:Int)]:=by rw [jT,if_neg (by omega),if_pos rfl]
  have af:(vs++[vs.getD i []++[(j:Int)]]).length=vs.length+1:=by simp
  refine Θ rfl (Θ (by simp only [Ζ,Χ];unfold bl;omega) (ι ⟨⟨?_,v1.wi.snoc l3 (by rw [ω];show (vs.getD i []).length+1<=vs.length+1;omega) (by rw [R];exact ae),?_,?_,by show (nq++[_]).length=_;simp;omega⟩,λk J=> ?_,by show o.length<=(vs++[_]).length;omega⟩));obtain ⟨ext,e⟩:=v1.ext;have e:vs=U++ext:=e;exact ⟨ext++[vs.getD i []++[(j:Int)]],by show vs++_=_;rw [<-ό,<-e]⟩;have:=v1.Ux.snoc (vs:=vs++[vs.getD i []++[(j:Int)]]) hg;have this:NS c nx es T (vs++[vs.getD i []++[(j:Int)]]) (vs.length+1) (ns++[(BE c nx es T (cf c nx 0 ((vs++[vs.getD i []++[(j:Int)]]).getD vs.length [])),((vs.length:Nat):Int))]):=this;rw [r,R] at this;show NS c nx es T (vs++[_]) (vs++[vs.getD i []++[(j:Int)]]).length _;rw [af];exact this;exact (NX.grow (vs:=vs++[vs.getD i []++[(j:Int)]]) v1.xx (by show vs.length<=_;omega) hg).snoc ad hj (by omega) (j:=vs.length) (by omega) (by rw [r,hg i I,R];exact λ_ _=>rfl);show (vs++[_]).getD k []=_;rw [jT,if_pos (by omega)];exact v2 k J
 unfold jm;simp only [show decide ((c:Int)<(c:Int))=false from decide_eq_false (by omega),cond_false];exact ι ⟨_,rfl,by rw [ϑ,adK];exact hv.1,hv.2⟩
theorem Kz {T p:List (List Int)}(hT:sH c T)(U:T.length<=10000)(hw:WI c nx es T p):ba (GR c nx es T p) (lZ ((m:Int),(c:Int),nx,es) p T):=by
 obtain ⟨h3,h4,h5,h6,h7,h8,_⟩:=h.facts;unfold lZ;refine χ (Ky h hT U hw) λr3 J=> ?_;refine χ (P:=λr=>GR c nx es T p (r.1,((r.1.length:Nat):Int),(c:Int),r.2.1,r.2.2)) ?_ λr hr=>ι hr;refine ϶ (λd (s:Int×List (List Int)×(List (List UInt8×Int))×List Int×List Bool)=> ∃i:Nat,s.1=(i:Int)/\i<=s.2.1.length/\d=m - i/\GS c nx es T p (i*c) (s.2.1,s.2.2.1,s.2.2.2.1)/\s.2.2.2.2.length=i/\ ∀k,k<i->s.2.2.2.2.getD k false=es.getD (cf c nx 0 (s.2.1.getD k [])) false) (λd s hs=> ?_) (n:=m)
  ⟨0,rfl,ϝ _,rfl,⟨⟨[],by simp⟩,hw,J,λq hq=>(by cases hq),by simp⟩,rfl,λk hk=>by omega⟩
 obtain ⟨t,j,ns,nq,pe⟩:=s;obtain ⟨i,b1,b2,b3,o,I,b6⟩:=hs;obtain rfl:t=(i:Int):=b1;have b2:i<=j.length:=b2;have I:pe.length=i:=I;have M6:j.length<=m:=o.wi.len h;unfold pj;refine ba.bif (λe=> ?_) λe=> ?_;have e:(i:Int)<aW j:=of_decide_eq_true e;have e':i<j.length:=by simp only [aW] at e;omega
 obtain ⟨l1,l2⟩:=o.wi.lw _ (bQ (d:=[]) e');have l2:(j.getD i []).length<=j.length:=l2;refine Θ ⟨by omega,e⟩ ?_;simp only [Β];rw [Kw h l1 (by show (j.getD i []).length<=_;omega),η];refine Θ (by simp only [Ζ,Χ];unfold bl;omega) (χ (QD h hT U o e') λv R=>ι (.inl ⟨m - (i+1),_,by omega,rfl,i+1,bO (n:=1000) (by omega) (by omega),by have:=R.2.2;show i+1<=v.1.length;omega,rfl,R.1,by simp [I],λk hk=> ?_⟩));show (pe++[_]).getD k false=es.getD (cf c nx 0 (v.1.getD k [])) false;rw [R.2.1 k (by omega),jT];by_cases ek:k<i;rw [if_pos (by omega)];exact b6 k ek;rw [if_neg (by omega),if_pos (by omega),show k=i by omega];have e: ¬(i:Int)<aW j:=of_decide_eq_false e;simp only [aW] at e;obtain rfl:i=j.length:=by omega
 exact ι (.inr ⟨_,rfl,o.ext,o.wi,rfl,rfl,o.xx,o.nl,I,b6⟩)
end
end Go.Proofs
namespace Go.Proofs
open Go.Ide Go.IntWalk
theorem BG {T:List (List Int)}{x:List Int}(I: ∀t∈T,t.length<=12)(hn:T.length<=100000):ba (λb=>b=true->x∈T) (bK T x):=by
 unfold bK cn;refine χ (P:=λr=>0<=r->x∈T) (χ (P:=λr=> ∀v,r=Sum.inr v->x∈T) (϶ (λd s=> ∃i:Nat,s=(i:Int)/\i<=T.length/\d=T.length - i) (λd s J=> ?_) (n:=T.length) ⟨0,rfl,ϝ _,rfl⟩) λr j=> ?_) λr j=>ι λe=>j (by simpa using e);obtain ⟨i,rfl,b1,b2⟩:=J;unfold cL;refine ba.bif (λe=> ?_) λe=>ι (.inr ⟨_,rfl,λv R=>by cases R⟩);have e:(i:Int)<aW T:=of_decide_eq_true e;have U:i<T.length:=by simp only [aW] at e;omega
 have p:=bQ (d:=[]) U;have:=I _ p;unfold l0;refine Θ ⟨by omega,e⟩ (χ (χ (HD (by show (T.getD i []).length<=_;omega)) λb o=>ι o) λb o=>ba.bif (λe2=>ι (.inr ⟨_,rfl,λv _=> ?_⟩)) λ_=>ι (.inl ⟨T.length - (i+1),_,by omega,rfl,i+1,bO (n:=1000000) (by omega) (by omega),by omega,rfl⟩));rw [<-o e2];exact p;cases r with
 |inl v=>exact ι λe=>absurd e (by decide)
 |inr v=>exact ι λ_=>j v rfl
theorem Du {α:Type}{xs:List α}{i:Nat}:cut xs (i:Int) (aW xs)=xs.drop i:=by
 unfold cut;simp only [aW,Β];rw [List.take_of_length_le (by rw [aab];omega)]
theorem Dv {c:Nat}{T:List (List Int)}{y:List Int×Bool}(hT:sH c T)(R:LW c y.1)(hl:y.1.length<=12)(hn:T.length<=9000):
 ba (λv=>(∃j,v=T++j)/\sH c v/\v.length<=T.length+12/\ ∀k,k<y.1.length->y.1.drop k∈v) (rounds (iB y) ((0:Int),T)):=by
 refine ba.for_ y.1.length (λi v=>(∃j,v=T++j)/\sH c v/\v.length<=T.length+i/\ ∀k,k<i->y.1.drop k∈v) (by omega) (λi v I o=> ?_) (λv o=> ?_) ⟨⟨[],by simp⟩,hT,φ _,λk J=>by omega⟩;obtain ⟨⟨j,v1⟩,p,v3,v4⟩:=o;unfold iB;simp only [show decide ((i:Int)<aW y.1)=true from ki I,cond_true,guard_pos (show (0:Int)<=(i:Int)/\(i:Int)<=aW y.1 from ⟨by omega,by simp only [aW];omega⟩),bO I (show y.1.length<=4294967296 by omega),Du];refine χ (P:=λq=>(∃j,q=T++j)/\sH c q/\q.length<=T.length+(i+1)/\ ∀k,k<i+1->y.1.drop k∈q) (χ (BG (λt ht=>(p t ht).2) (by omega)) λb U=>ba.bif (λ_=> ?_) λe=>ι ⟨⟨j,v1⟩,p,by omega,λk J=> ?_⟩) λq hq=>ι ⟨q,rfl,hq⟩;rw [b9 (by omega)];refine ι ⟨⟨j++[y.1.drop i],by rw [v1,ό]⟩,λt ht=> ?_,by rw [ω];show v.length+1<=_;omega,λk J=> ?_⟩;rcases Λ.1 ht with ht|ht
 exact p t ht;rw [ϊ.1 ht];exact ⟨λx hx=>R x (List.mem_of_mem_drop hx),by rw [aab];omega⟩;by_cases r:k<i;exact acR _ (v4 k r);rw [show k=i by omega];exact aeN _ (ϊ.2 rfl);by_cases r:k<i;exact v4 k r;rw [show k=i by omega];exact U (by simpa using e);unfold iB;simp only [show decide (((y.1.length:Nat):Int)<aW y.1)=false from kC (φ _),cond_false];exact ι ⟨_,rfl,o.1,o.2.1,by omega,o.2.2.2⟩
def yE (c:Nat)(nx:List Int)(es:List Bool)(T o:List (List Int)):Prop:= ∀k a,k<o.length->a<c-> ∃j,j<o.length/\eqv c nx es T (Bk c nx (cf c nx 0 (o.getD k [])) (a:Int)) (cf c nx 0 (o.getD j []))
theorem GR.closed {c:Nat}{nx:List Int}{es:List Bool}{T t:List (List Int)}{r:List (List Int)×u9}(h:GR c nx es T t r):yE c nx es T r.1:=λk a I o=>by
 have J:k*c+a<r.2.2.2.1.length:=by rw [h.nl];exact um I o
 obtain ⟨_,j,_,R,p⟩:=h.xx _ J;have U:(k*c+a)/c=k:=by rw [aay,adT (by omega),adI o,ϧ]
 have d2:(k*c+a)%c=a:=by rw [aay,adU,aai o]
 rw [U,d2] at p;exact ⟨j,R,p⟩
theorem agree {c:Nat}{nx:List Int}{es:List Bool}{T p ws:List (List Int)}{r:List (List Int)×u9}(h:GR c nx es T ws r)(R: ∀t∈T,t∈p)(U:yE c nx es p r.1):
 ∀(v:List Int) (j:Nat),LW c v->(∀i,i<=v.length->v.drop i∈p)->j<r.1.length->rA c nx es (cf c nx 0 (r.1.getD j [])) v=r.2.2.2.2.getD (cf c r.2.2.2.1 j v) false
 |[],j,_,_,o=>(h.ee j o).symm
 |a::v,j,hv,ht,o=>by
  have ha:=hv a (by simp);have hq:j*c+a.toNat<r.2.2.2.1.length:=by rw [h.nl];exact um o (by omega)
  obtain ⟨_,k,k1,k2,k3⟩:=h.xx _ hq;have d1:(j*c+a.toNat)/c=j:=by rw [aay,adT (by omega),adI (by omega),ϧ]
  have d2:((j*c+a.toNat)%c:Nat)=a.toNat:=by rw [aay,adU,aai (by omega)]
  rw [d1,d2,aaj ha.1] at k3;have I:Bk c r.2.2.2.1 j a=k:=by unfold Bk;rw [k1];rfl
  obtain ⟨k',q1,J⟩:=U j a.toNat o (by omega);rw [aaj ha.1] at J;obtain rfl:k=k':=h.wi.nd k k' k2 q1 λt ht=>(k3 t ht).symm.trans (J t (R t ht));have e1:=J v (ht 1 (by simp));have e2:=agree h R U v k (λx hx=>hv x (ϛ _ hx)) (λi hi=>ht (i+1) (by simpa using hi)) k2;show rA c nx es (Bk c nx (cf c nx 0 (r.1.getD j [])) a) v=r.2.2.2.2.getD (cf c r.2.2.2.1 (Bk c r.2.2.2.1 j a) v) false;rw [I,<-e2,e1]
section
variable {m c:Nat} {nx:List Int} {es:List Bool} (h:di m c nx es)
include h
theorem HE:ba (λr=>eX r.2.1) (kr ((m:Int),(c:Int),nx,es)):=by
 obtain ⟨h3,h4,h5,h6,h7,h8,_⟩:=h.facts;have FA:=h.nl;have z:eX 0:=⟨by decide,by decide⟩;unfold kr;simp only [h.valid,η,ύ,cond_false];refine χ (P:=λr=>eX r.1) (϶ (λd (s:Int×List (List Int)×List (List Int))=>eX s.1/\WI c nx es s.2.2 s.2.1/\sH c s.2.2/\[]∈s.2.2/\d<=m+1/\s.2.2.length<=1+12*(m+1 - d)/\(d=m+1\/(s.2.1.length+d=m/\ ¬yE c nx es s.2.2 s.2.1))) (λd s hs=> ?_) (n:=m+1)
  ⟨⟨by decide,by decide⟩,⟨φ _,rfl,λw hw=>by rw [ϊ.1 hw];exact ⟨LW.nil,ϝ _⟩,λi j (hi:i<1) (hj:j<1) _=>by omega⟩,λt ht=>by rw [ϊ.1 ht];exact ⟨LW.nil,ϝ _⟩,ϊ.2 rfl,φ _,by show 1<=_;omega,.inl rfl⟩) λr hr=>ι hr
 obtain ⟨t,U,T⟩:=s;obtain ⟨b1,b2,b3,b4,b5,b6,b7⟩:=hs;have b2:WI c nx es T U:=b2;have b3:sH c T:=b3;have b6:T.length<=1+12*(m+1 - d):=b6;unfold oP;refine χ (Kz h b3 (by show T.length<=_;omega) b2) λy p=> ?_;have R:=p.wi.len h;have J:=p.wi.ne;obtain ⟨o,s1,l1,nq,pe⟩:=y;have p:GR c nx es T U (o,s1,l1,nq,pe):=p;obtain rfl:s1=((o.length:Nat):Int):=p.sm;obtain rfl:l1=(c:Int):=p.sc;have R:o.length<=m:=R;have J:1<=o.length:=J;have hnq:nq.length=o.length*c:=p.nl;have hmc:o.length*c<=m*c:=Ρ c R;simp only [sf (show nq.length<=4294967296 by omega),η];refine ba.bif (λ_=>ι (.inr ⟨_,rfl,z⟩)) λev=> ?_;have g:di o.length c nq pe:=⟨by simpa using ev,by omega⟩;refine χ (z7 h g) λr hr=>ba.bif (λ_=>ι (.inr ⟨_,rfl,b1⟩)) λer=> ?_;obtain ⟨r1,r2,r3⟩:=hr;have er:r.2=true:=by simpa using er
 have r3:=r3 er;refine χ (Dv b3 r2 r1 (by show T.length<=9000;omega)) λT2 hT2=> ?_;obtain ⟨⟨more,q1⟩,q2,q3,q4⟩:=hT2;have q1:T2=T++more:=q1;have q3:T2.length<=T.length+12:=q3;have I: ∀t∈T,t∈T2:=λt ht=>by rw [q1];exact acR _ ht
 have hnc: ¬yE c nx es T2 o:=λhc=>by
  refine r3 ?_;have:=agree p I hc r.1 0 r2 (λi hi=> ?_) J;have e0:o.getD 0 []=[]:=p.wi.fst;have this:rA c nx es (cf c nx 0 (o.getD 0 [])) r.1=pe.getD (cf c nq 0 r.1) false:=this;rw [e0] at this;exact this;by_cases e:i<r.1.length;exact q4 i e;rw [show i=r.1.length by omega,List.drop_length];exact I _ b4
 have hgr:d=m+1\/U.length<o.length:=by
  rcases b7 with e|⟨_,e2⟩
  exact .inl e;refine .inr ?_;obtain ⟨ext,e3⟩:=p.ext;have e3:o=U++ext:=e3;cases ext with
  |nil=>exact absurd (by have:=p.closed;have this:yE c nx es T o:=this;rw [e3,List.append_nil] at this;exact this) e2
  |cons x ext=>rw [e3];simp
 have LG:d=m+1\/U.length+d=m:=b7.imp_right And.left;refine ι (.inl ⟨m - o.length,_,by omega,rfl,qN _,⟨J,p.wi.fst,p.wi.lw,λi j hi hj e=>p.wi.nd i j hi hj λt ht=>e t (I t ht)⟩,q2,I _ b4,by omega,?_,.inr ⟨by show o.length+_=m;omega,hnc⟩⟩);show T2.length<=_;omega
end
end Go.Proofs
namespace Go.Proofs
open Go.Ide Go.IntWalk
theorem vd {s:List UInt8}{n:Int}(h:s.length<=100000):ba (λr=>(∀i,(r.1.getD i []).length<=64)/\(r.2=true->((r.1.length:Nat):Int)=n)) (dK s n):=by
 rw [tc (by omega)];refine ι ?_;cases (iR 59 s).all λp=>(kK p).2 with
 |false=>exact ⟨λi=>by rw [cond_false];exact ϝ _,λe=>by cases e⟩
 |true=>
  refine ⟨λi=> ?_,λe=> ?_⟩;rw [cond_true];show (((iR 59 s).map λp=>(kK p).1).getD i []).length<=64;by_cases j:i<((iR 59 s).map λp=>(kK p).1).length;obtain ⟨p,_,hp⟩:=ϟ.1 (bQ (d:=[]) j);rw [<-hp];exact yi p;rw [ς,aac (by omega)];exact ϝ _;rw [cond_true] at e⊢;show ((((iR 59 s).map λp=>(kK p).1).length:Nat):Int)=n;rw [ϔ];simpa using e
theorem Aa {f:List Int->List Q4->Option (List Q4)}{xs:List Int}(o:xs.length<=64)(p:xs.length%4=0)(j: ∀ys acc,ys.length=4->acc.length<=1000000->f ys acc=some (acc++[(ys.getD 0 0,ys.getD 1 0,ys.getD 2 0,ys.getD 3 0)])):ba (λr=>r.length<=64) (rZ f xs []):=
 ⟨_,E7 (m:=xs.length/4) (by omega) (by omega) j,by show (BN _ _).length<=_;rw [Gi];omega⟩
theorem vU {s:List UInt8}(h:s.length<=100000):ba (λr=>mM r.1) (eo s):=by
 unfold eo;refine χ (vd h) λy p=> ?_;obtain ⟨j,y2⟩:=y;obtain ⟨o,R⟩:=p;have o: ∀i,(j.getD i []).length<=64:=o;refine χ (P:=λv=>v=false->j.length=4/\(j.getD 0 []).length=2/\(j.getD 3 []).length%4=0) (ba.bif (λ_=>ι λe=>by cases e) λe=> ?_) λv T=>ba.bif (λ_=>ι Bx) λe=> ?_;have e:((j.length:Nat):Int)=4:=R (by simpa using e);refine Θ ⟨Ϭ _,by simp only [aW];omega⟩ (ba.bif (λ_=>ι λe=>by cases e) λt=>Θ ⟨by omega,by simp only [aW];omega⟩ (ι λI=> ?_));have t:aW (j.getD 0 [])=2:=by simpa using t
 rw [Gj] at I;simp only [aW] at t;exact ⟨by omega,by omega,by simpa using I⟩;obtain ⟨k1,k2,U⟩:=T e;have g: ∀(i:Int),0<=i->i<4->(0:Int)<=i/\i<aW j:=λi a b=>⟨a,by simp only [aW];omega⟩;have J: ∀(i:Int),0<=i->i<2->(0:Int)<=i/\i<aW (j.getD (δ 0) []):=λi a b=>⟨a,by show i<(((j.getD 0 []).length:Nat):Int);omega⟩;simp only [guard_pos (g 0 (by omega) (by omega)),guard_pos (g 1 (by omega) (by omega)),guard_pos (g 2 (by omega) (by omega)),guard_pos (g 3 (by omega) (by omega)),guard_pos (J 0 (by omega) (by omega)),guard_pos (J 1 (by omega) (by omega)),
  guard_pos (show δ 3<j.length by show 3<_;omega),guard_pos (show δ 1<j.length by show 1<_;omega),guard_pos (show δ 2<j.length by show 2<_;omega)]
 have l1:=o 1;have l2:=o 2;exact χ (Aa (o 3) U (λys aa p ha=>by unfold gC;exact Bq p ha)) λr hr=>χ (vI ⟨by show r.length<=_;omega,by show (j.getD 1 []).length<=_;omega,by show (j.getD 2 []).length<=_;omega⟩) λq hq=>ι hq
theorem Fo {d:yx}(h:tk d):ba (λr=>tk r.1) (cY d):=by
 obtain ⟨a,b,q⟩:=d;have h:q.length<=100000:=h;unfold cY;simp only [po (show q.length<=4294967296 by omega),η];exact ba.bif (λ_=>ι (ϝ _)) λ_=>ι h
theorem vV {s:List UInt8}(h:s.length<=100000):ba (λr=>tk r.1) (ep s):=by
 unfold ep;refine χ (vd h) λy o=> ?_;obtain ⟨j,y2⟩:=y;obtain ⟨p,R⟩:=o;have p: ∀i,(j.getD i []).length<=64:=p;refine χ (P:=λv=>v=false->j.length=2/\(j.getD 0 []).length=2/\(j.getD 1 []).length%4=0) (ba.bif (λ_=>ι λe=>by cases e) λe=> ?_) λv T=>ba.bif (λ_=>ι (ϝ _)) λe=> ?_;have e:((j.length:Nat):Int)=2:=R (by simpa using e);refine Θ ⟨Ϭ _,by simp only [aW];omega⟩ (ba.bif (λ_=>ι λe=>by cases e) λt=>Θ ⟨by omega,by simp only [aW];omega⟩ (ι λI=> ?_));have t:aW (j.getD 0 [])=2:=by simpa using t
 rw [Gj] at I;simp only [aW] at t;exact ⟨by omega,by omega,by simpa using I⟩;obtain ⟨k1,k2,U⟩:=T e;have g: ∀(i:Int),0<=i->i<2->(0:Int)<=i/\i<aW j:=λi a b=>⟨a,by simp only [aW];omega⟩;have J: ∀(i:Int),0<=i->i<2->(0:Int)<=i/\i<aW (j.getD (δ 0) []):=λi a b=>⟨a,by show i<(((j.getD 0 []).length:Nat):Int);omega⟩;simp only [guard_pos (g 0 (by omega) (by omega)),guard_pos (g 1 (by omega) (by omega)),guard_pos (J 0 (by omega) (by omega)),guard_pos (J 1 (by omega) (by omega)),η,guard_pos (show δ 1<j.length by show 1<_;omega)];exact χ (Aa (p 1) U (λys aa o ha=>by unfold gD;exact Bq o ha)) λr hr=>χ (Fo (by show r.length<=_;omega)) λq hq=>ι hq
theorem wu:qI ((0:Int),(0:Int),([]:List Int),([]:List Bool)):=⟨ϝ _,ϝ _⟩
theorem zp {s:List UInt8}(h:s.length<=100000):ba (λr=>qI r.1) (fC s):=by
 have o:strings_LastIndexByte s 59=some (Lib.lastIndexByte ⟨s.toArray⟩ 59):=by
  unfold strings_LastIndexByte;rw [guard_pos (by omega)]
 unfold fC;rw [o,η];rcases zT s with ⟨p,_⟩|⟨i,T,p,_⟩
 rw [p];exact ι wu;have t:bf .i64 (i:Int) 1=((i+1:Nat):Int):=bO T (by omega);have mZ:(cut s (bf .i64 (i:Int) 1) (aW s)).length<=s.length:=by rw [t,Du,aab];omega
 rw [p,show decide ((i:Int)<0)=false by simp only [decide_eq_false_iff_not];omega,cond_false];refine Θ ⟨by omega,by simp only [aW];omega⟩ (χ (vd (by unfold cut;rw [ϙ,aab];omega)) λy U=> ?_);obtain ⟨j,y2⟩:=y;obtain ⟨I,k2⟩:=U;have I: ∀i,(j.getD i []).length<=64:=I;refine χ (P:=λv=>v=false->j.length=2/\(j.getD 0 []).length=2) (ba.bif (λ_=>ι λe=>by cases e) λe=> ?_) λv hv=>ba.bif (λ_=>ι wu) λe=> ?_;have e:((j.length:Nat):Int)=2:=k2 (by simpa using e);refine Θ ⟨Ϭ _,by simp only [aW];omega⟩ (ι λJ=> ?_);have J:aW (j.getD 0 [])=2:=by simpa using J
 simp only [aW] at J;exact ⟨by omega,by omega⟩;obtain ⟨p1,p2⟩:=hv e;have l1:=I 1;have g: ∀(i:Int),0<=i->i<2->(0:Int)<=i/\i<aW j:=λi a b=>⟨a,by simp only [aW];omega⟩;have R: ∀(i:Int),0<=i->i<2->(0:Int)<=i/\i<aW (j.getD (δ 0) []):=λi a b=>⟨a,by show i<(((j.getD 0 []).length:Nat):Int);omega⟩;simp only [guard_pos (g 0 (by omega) (by omega)),guard_pos (g 1 (by omega) (by omega)),guard_pos (R 0 (by omega) (by omega)),guard_pos (R 1 (by omega) (by omega)),η,guard_pos (show δ 1<j.length by show 1<_;omega),
  guard_pos (show (0:Int)<=bf .i64 (i:Int) 1/\bf .i64 (i:Int) 1<=aW s from ⟨by rw [t];omega,by rw [t];simp only [aW];omega⟩),guard_pos (show (cut s (bf .i64 (i:Int) 1) (aW s)).length<=bl by unfold bl;omega),zU (a:=s) (y:=(i:Int)) rfl (show (cut s (bf .i64 (i:Int) 1) (aW s)).length<=1048576 by omega)]
 cases (cut s (bf .i64 (i:Int) 1) (aW s)).all λb=>(Bp b).2 with
 |false=>exact ι wu
 |true=>
  simp only [cond_true];rw [sf (show (j.getD (δ 1) []).length<=4294967296 by show (j.getD 1 []).length<=_;omega),η];exact ba.bif (λ_=>ι wu) λ_=>ι ⟨by show (j.getD 1 []).length<=_;omega,by show (List.map _ _).length<=_;rw [ϔ];omega⟩
theorem BH {s:List UInt8}(h:s.length<=100000):ba (λr=>r.1.length<=64) (fg s):=⟨_,rp (by omega),yi s⟩
theorem vW {s:List UInt8}(h:s.length<=100000):ba (λ_=>True) (ej s):=by
 unfold ej;exact Θ (by omega) (ι trivial)
end Go.Proofs
namespace Go.Proofs
open Go.Ide Go.IntWalk
structure DK where
 m:Nat
 c:Nat
 zs:List Q4
 ss:List Int
 es:List Int
 pm:Nat
 pc:Nat
 nx:List Int
 pe:List Bool
 n:Nat
 gc:Nat
 rs:List Q4
 w:List Int
abbrev jG:=Dm×u9×yx×List Int
def DK.d (x:DK):jG:=(((x.m:Int),(x.c:Int),x.zs,x.ss,x.es),((x.pm:Int),(x.pc:Int),x.nx,x.pe),((x.n:Int),(x.gc:Int),x.rs),x.w)
structure DK.OK (x:DK):Prop where
 py:og x.m x.c x.zs x.ss x.es
 plain:di x.pm x.pc x.nx x.pe
 yF:qE x.n x.gc x.rs
 word:Dj x.w
structure pz (d:jG):Prop where
 m:mM d.1
 p:qI d.2.1
 g:tk d.2.2.1
 w:d.2.2.2.length<=100000
theorem DK.OK.short {x:DK}(h:x.OK):pz x.d:=by
 obtain ⟨j,o,p,r,t,I,_⟩:=h.plain.facts;have J:=h.plain.nl;have R:=h.yF.rl;have T:=h.word.len;exact ⟨h.py.short,⟨by show x.nx.length<=_;omega,by show x.pe.length<=_;omega⟩,by show x.rs.length<=_;omega,by show x.w.length<=_;omega⟩
theorem MS {s l:Int}{zs:List Q4}{ss es:List Int}(h:mJ s l zs ss es=true)(j:aW zs<=16): ∃m c:Nat,s=(m:Int)/\l=(c:Int)/\og m c zs ss es:=by
 unfold mJ at h;simp only [κ,decide_eq_true_eq,aaf,decide_eq_false_iff_not,aW,beq_iff_eq] at h;obtain ⟨⟨T,U⟩,⟨h3,h4⟩,h5,o,⟨p,h8⟩,t,I⟩:=h;simp only [aW] at j;refine ⟨s.toNat,l.toNat,by omega,by omega,by omega,by omega,by omega,by omega,by omega,λr J=> ?_,by omega,by omega,hZ.1 p,hZ.1 t⟩;obtain ⟨i,R,e⟩:=aaL J;have:=pP.1 o i (ϝ _) (by omega);rw [show zs.getD i (0,0,0,0)=r by rw [ς,Γ R];exact e] at this;unfold zS at this;simp only [κ,decide_eq_true_eq] at this;rw [fN (by omega),fN (by omega)] at this;obtain ⟨⟨a1,a2⟩,⟨a3,a4⟩,⟨a5,a6⟩,a7,a8⟩:=this;exact ⟨⟨by omega,by omega⟩,⟨by omega,by omega⟩,⟨by omega,by omega⟩,by omega,by omega⟩
theorem MT {s l:Int}{rs:List Q4}(h:ov s l rs=true)(o:aW rs<=16): ∃m c:Nat,s=(m:Int)/\l=(c:Int)/\qE m c rs:=by
 unfold ov at h;simp only [κ,decide_eq_true_eq,aaf,decide_eq_false_iff_not,aW] at h;obtain ⟨⟨J,R⟩,⟨T,U⟩,h5,p⟩:=h;simp only [aW] at o;refine ⟨s.toNat,l.toNat,by omega,by omega,by omega,by omega,by omega,by omega,by omega,λr t=> ?_⟩;obtain ⟨i,I,e⟩:=aaL t;have:=pP.1 p i (ϝ _) (by omega);rw [show rs.getD i (0,0,0,0)=r by rw [ς,Γ I];exact e] at this;unfold uV at this;simp only [κ,decide_eq_true_eq] at this;rw [fN (a:=s) (by omega),fN (by omega)] at this;obtain ⟨⟨a1,a2⟩,⟨a3,a4⟩,⟨a5,a6⟩,a7,j⟩:=this;refine ⟨⟨by omega,by omega⟩,⟨by omega,by omega⟩,⟨by omega,by omega⟩,by omega,λq=> ?_,λq=> ?_⟩;rw [decide_eq_true q,cond_true] at j;omega;rw [decide_eq_false (by omega),cond_false] at j;omega
theorem KA {s l:Int}{nx:List Int}{es:List Bool}(h:mX s l nx es=true)(j:aW nx<=64): ∃m c:Nat,s=(m:Int)/\l=(c:Int)/\di m c nx es:=by
 have o:=h;unfold mX at h;simp only [κ,decide_eq_true_eq] at h;refine ⟨s.toNat,l.toNat,by omega,by omega,?_,by simp only [aW] at j;omega⟩;rw [aaj (by omega),aaj (by omega)];exact o
theorem HF {d:jG}(h:pz d):ba (λb=>b=true-> ∃x:DK,x.OK/\d=x.d) (dL d):=by
 obtain ⟨⟨s,l,zs,ss,es⟩,⟨ps,pl,nx,R⟩,⟨gs,gl,rs⟩,w⟩:=d;obtain ⟨⟨o,p,r⟩,⟨t,h5⟩,I,J⟩:=h;have o:zs.length<=100000:=o;have p:ss.length<=100000:=p;have r:es.length<=100000:=r;have t:nx.length<=100000:=t;have I:rs.length<=100000:=I;have J:w.length<=100000:=J;have f: ∀P:Prop,(false=true->P):=λP e=>by cases e
 unfold dL;simp only [pn (show zs.length<=4294967296 by omega) (show ss.length<=4294967296 by omega) (show es.length<=4294967296 by omega),sf (show nx.length<=4294967296 by omega),po (show rs.length<=4294967296 by omega),xX (L:=4) (show w.length<=4294967296 by omega),η];refine χ (P:=λb=>b=true->_) (ba.bif (λT=>ba.bif (λU=>ba.bif (λe3=>ba.bif (λe4=>ba.bif (λe5=>ba.bif (λe6=>ι λj=> ?_) λ_=>ι (f _)) λ_=>ι (f _)) λ_=>ι (f _)) λ_=>ι (f _)) λ_=>ι (f _)) λ_=>ι (f _)) λb hb=>ι hb;obtain ⟨m,c,rfl,rfl,hM⟩:=MS T (of_decide_eq_true U);obtain ⟨pm,pc,rfl,rfl,hP⟩:=KA e3 (of_decide_eq_true e4);obtain ⟨n,gc,rfl,rfl,hG⟩:=MT e5 (of_decide_eq_true e6);rw [fN (by omega)] at j;simp only [κ,decide_eq_true_eq,aW] at j;exact ⟨⟨m,c,zs,ss,es,pm,pc,nx,R,n,gc,rs,w⟩,⟨hM,hP,hG,by show w.length<=12;omega,λx hx=>by have:=hZ.1 j.2.2 x hx;omega⟩,rfl⟩
end Go.Proofs
namespace Go.Proofs
open Go.Ide Go.IntWalk
def TX (t:List UInt8):Prop:=t.length<=3000/\ ∀b∈t,44<=b.toNat
theorem ba.sw {α β:Type}{Q:α⊕β->Prop}{z:β}(h:Q (.inr z)):ba Q (Go.Ide.sw (Option.some z)):=⟨_,rfl,h⟩
theorem TX.ok:TX [111,107]:=⟨by decide,by decide⟩
theorem XM:TX [121,101,115]:=⟨by decide,by decide⟩
theorem QE:TX [110,101,118,101,114]:=⟨by decide,by decide⟩
theorem TX.nil:TX []:=⟨ϝ _,λb j=>by cases j⟩
theorem Uy {v:List Int}(h:cJ v=true):TX (tx v):=⟨by have:=yd h;omega,λb j=>(oR j).1⟩
theorem KB {n:Int}(h:eX n):TX (Ϯ n):=⟨by have:=yb h;omega,λb j=>by have:=qF j;omega⟩
theorem TG {v:List Int}(h:cJ v=true)(b:Bool):ba (λr=>TX r.1) (dy v b):=by
 obtain ⟨_,j⟩:=eH h;unfold dy;refine ba.bif (λ_=>ι TX.nil) λ_=> ?_;rw [jQ (by omega),h];exact ι (Uy h)
theorem HG {n:Int}(h:eX n)(b:Bool):ba (λr=>TX r.1) (dh n b):=by
 unfold dh;rw [xZ h];exact ι (KB h)
theorem KC {v:List Int}{n:Int}(h:cJ v=true)(o:eX n)(b:Bool):ba (λr=>TX r.1) (iP v n b):=by
 have t:ba (λr=>r.1.length<=1412/\ ∀b∈r.1,44<=b.toNat) (dy v b):=by
  obtain ⟨_,J⟩:=eH h;unfold dy;refine ba.bif (λ_=>ι ⟨ϝ _,λb j=>by cases j⟩) λ_=> ?_;rw [jQ (by omega),h];exact ι ⟨yd h,(Uy h).2⟩
 have R:=yb o;unfold iP;refine χ t λr p=> ?_;have I:=p.1;rw [b9 (by omega),xZ o,η];refine Θ (by rw [ω];show r.1.length+1+_<=bl;unfold bl;omega) (ι ⟨?_,λb j=> ?_⟩);show ((r.1++[59])++Ϯ n).length<=_;rw [ω,ω];show r.1.length+1+_<=_;omega;rcases Λ.1 j with j|j
 rcases Λ.1 j with j|j
 exact p.2 b j;rw [ϊ.1 j];decide;exact (KB o).2 b j
theorem yA.vals {w:List Int}(h:yA w):cJ w=true:=jS (λx j=>by have:=h.2 x j;omega) (by have:=h.1;omega)
theorem Dj.vals {w:List Int}(h:Dj w):cJ w=true:=jS (λx j=>by have:=h.YJ x j;omega) (by have:=h.len;omega)
theorem TH {m c:Nat}{zs:List Q4}{ss es:List Int}(h:og m c zs ss es):TX (uY m c zs ss es):=by
 obtain ⟨v1,j,o,v4⟩:=h.vals;have p:=uX (eH v1).1;have r:=uX (eH j).1;have t:=uX (eH o).1;have I:=yd v4;have J:=h.sl;have R:=h.el;have T:=h.m2;refine ⟨?_,Hu⟩;unfold uY;simp only [jn,ω,Ζ,Χ] at*;omega
theorem QF {m c:Nat}{nx:List Int}{es:List Bool}(h:di m c nx es):TX (dA m c nx es):=⟨vG h,Fa⟩
theorem TI {n c:Nat}{rs:List Q4}(h:qE n c rs):TX (th n c rs):=⟨E9 h,Hv⟩
theorem HH {m c:Nat}{nx:List Int}{es:List Bool}(h:di m c nx es)(k:Int):ba (λr=>eX r.1) (fU ((m:Int),(c:Int),nx,es) k):=by
 by_cases j:0<=k/\k<=12;obtain ⟨n,e,o⟩:=Km h (k:=k.toNat) (by omega);rw [aaj j.1] at e;exact ⟨_,e,o⟩;have e:(decide (k>=0)&&decide (k<=12))=false:=by
  cases p:(decide (k>=0)&&decide (k<=12)) with
  |false=>rfl
  |true=>simp only [κ,decide_eq_true_eq] at p;omega
 unfold fU;simp only [h.valid,jF,e,η,ύ,cond_false,Bool.not_false,cond_true];exact ι ⟨by decide,by decide⟩
section
variable {x:DK} (h:x.OK)
include h
theorem KD (w:List UInt8):ba (λr=>TX r.1/\pz r.2.2.2/\(r.2.2.2=x.d\/r.1=[111,107])/\(r.2.2.1=false->r.2.2.2=x.d)) (lO x.d w):=by
 have j:=h.short;obtain ⟨zs',eb,hB⟩:=Gp h.py;obtain ⟨m',U,pe,el,hL⟩:=Kr h.plain;have lp:qI ((m':Int),(x.pc:Int),U,pe):=by
  obtain ⟨p3,p4,p5,p6,p7,p8,_⟩:=hL.facts;have:=hL.nl;exact ⟨by show U.length<=_;omega,by show pe.length<=_;omega⟩
 have b1:ba (λr=>mM r.1) (kS ((x.m:Int),(x.c:Int),x.zs,x.ss,x.es)):=⟨_,eb,hB.short⟩;have b2:ba (λr=>qI r.1) (iO ((x.pm:Int),(x.pc:Int),x.nx,x.pe)):=⟨_,el,lp⟩;have t: ∀{o:Option (Dm×Bool)},ba (λr=>mM r.1) o->ba (λv:(Bool×jG)⊕(List UInt8×Bool×Bool×jG)=>match v with| .inl v=>pz v.2| .inr z=>z=([],false,false,x.d)) (o.bind λy=>some (.inl (y.2,y.1,x.d.2))):=λI=>χ I λy J=>ι ⟨J,j.p,j.g,j.w⟩;have T: ∀{o:Option (u9×Bool)},ba (λr=>qI r.1) o->ba (λv:(Bool×jG)⊕(List UInt8×Bool×Bool×jG)=>match v with| .inl v=>pz v.2| .inr z=>z=([],false,false,x.d)) (o.bind λy=>some (.inl (y.2,x.d.1,y.1,x.d.2.2))):=λI=>χ I λy J=>ι ⟨j.m,J,j.g,j.w⟩;have kg: ∀{o:Option (yx×Bool)},ba (λr=>tk r.1) o->ba (λv:(Bool×jG)⊕(List UInt8×Bool×Bool×jG)=>match v with| .inl v=>pz v.2| .inr z=>z=([],false,false,x.d)) (o.bind λy=>some (.inl (y.2,x.d.1,x.d.2.1,y.1,x.d.2.2.2))):=λI=>χ I λy J=>ι ⟨j.m,j.p,J,j.w⟩;unfold lO;refine χ (P:=λv:(Bool×jG)⊕(List UInt8×Bool×Bool×jG)=>match v with| .inl v=>pz v.2| .inr z=>z=([],false,false,x.d)) ?_ λv R=> ?_;refine ba.bif (λ_=>t b1) λ_=>ba.bif (λ_=>t (tj h.py.short)) λ_=>ba.bif (λ_=>t (Fi h.py)) λ_=>ba.bif (λ_=>t (u7 h.py)) λ_=>ba.bif (λ_=>t (By h.py)) λ_=>
  ba.bif (λ_=>T (Dp h.py)) λ_=>ba.bif (λ_=>T b2) λ_=>ba.bif (λ_=>T (yz h.plain)) λ_=>ba.bif (λ_=>kg (zk h.plain)) λ_=>ba.sw rfl
 cases v with
 |inl v=>exact ι ⟨TX.ok,R,.inr rfl,λe=>by cases e⟩
 |inr z=>
  have R:z=([],false,false,x.d):=R;subst R;exact ι ⟨TX.nil,j,.inl rfl,λ_=>rfl⟩
theorem KE (w:List UInt8):ba (λr=>TX r.1/\r.2.2.2=x.d) (l5 x.d w):=by
 have p: ∀{o:Option (List UInt8×Bool)},ba (λr=>TX r.1) o->ba (λv:(List UInt8×Bool)⊕(List UInt8×Bool×Bool×jG)=>match v with| .inl v=>TX v.1| .inr z=>z=([],false,false,x.d)) (o.bind λy=>some (.inl (y.1,y.2))):=λJ=>χ J λy j=>ι j;have t:=h.word.len;have R:=Dh h.py;have T:=zZ h.plain;have U:=Di h.yF;have e4:ey x.w=some (tx x.w,true):=by rw [jQ (by omega),h.word.vals];rfl
 obtain ⟨n1,c1,e5,r5⟩:=MN h.py t;obtain ⟨b1,b2,e6⟩:=Qy h.plain t;obtain ⟨n2,c2,e7,r7⟩:=Ko h.yF t;obtain ⟨n3,c3,e8,r8⟩:=Kp h.yF (k:=x.w.length) rfl t;obtain ⟨out,e9,r9⟩:=Hz h.yF;have t5:ba (λr=>eX r.1) (nk ((x.m:Int),(x.c:Int),x.zs,x.ss,x.es) x.w):=⟨_,e5,r5⟩;have t7:ba (λr=>eX r.1) (gZ ((x.n:Int),(x.gc:Int),x.rs) x.w):=⟨_,e7,r7⟩;have t8:ba (λr=>eX r.1) (fT ((x.n:Int),(x.gc:Int),x.rs) x.w):=⟨_,e8,r8⟩;have t9:ba (λr=>cJ r.1=true) (hJ ((x.n:Int),(x.gc:Int),x.rs)):=⟨_,e9,r9⟩;unfold l5;dsimp only [DK.d];refine χ (P:=λv:(List UInt8×Bool)⊕(List UInt8×Bool×Bool×jG)=>match v with| .inl v=>TX v.1| .inr z=>z=([],false,false,x.d)) ?_ λv I=> ?_;refine ba.bif (λ_=>p ⟨_,R,TH h.py⟩) λ_=>ba.bif (λ_=>p ⟨_,T,QF h.plain⟩) λ_=>ba.bif (λ_=>p ⟨_,U,TI h.yF⟩) λ_=>ba.bif (λ_=>p ⟨_,e4,Uy h.word.vals⟩) λ_=>
  ba.bif (λ_=>χ t5 λy j=>p (HG j _)) λ_=>ba.bif (λ_=>χ (BB h.py) λy j=>p (KC j.1.vals j.2 _)) λ_=>
  ba.bif (λ_=>χ (P:=λ_=>True) ⟨_,e6,trivial⟩ λy _=>ba.bif (λ_=>ι XM) λ_=>ι QE) λ_=>ba.bif (λ_=>χ (zo h.plain) λy j=>p (TG j.vals _)) λ_=>
  ba.bif (λ_=>χ (HE h.plain) λy j=>p (HG j _)) λ_=>ba.bif (λ_=>χ t7 λy j=>p (HG j _)) λ_=>ba.bif (λ_=>χ t8 λy j=>p (HG j _)) λ_=>
  ba.bif (λ_=>χ (zn h.yF) λy j=>p (KC j.1.vals j.2 _)) λ_=>ba.bif (λ_=>χ t9 λy j=>p (TG j _)) λ_=>ba.sw rfl
 cases v with
 |inl v=>exact ι ⟨I,rfl⟩
 |inr z=>
  have I:z=([],false,false,x.d):=I;subst I;exact ι ⟨TX.nil,rfl⟩
theorem MU (w u:List UInt8)(t:u.length<=100000):ba (λr=>TX r.1/\pz r.2.2.2/\(r.2.2.2=x.d\/r.1=[111,107])) (mV x.d w u):=by
 have j:=h.short;unfold mV;refine χ (P:=λv:(Bool×jG)⊕(List UInt8×Bool×Bool×jG)=>match v with| .inl v=>pz v.2| .inr z=>z.2.2.2=x.d/\TX z.1) ?_ λv J=> ?_;refine ba.bif (λ_=>χ (vU t) λy o=>ι ⟨o,j.p,j.g,j.w⟩) λ_=>ba.bif (λ_=>χ (zp t) λy o=>ι ⟨j.m,o,j.g,j.w⟩) λ_=>ba.bif (λ_=>χ (vV t) λy o=>ι ⟨j.m,j.p,o,j.w⟩) λ_=>
  ba.bif (λ_=>χ (BH t) λy o=>ι ⟨j.m,j.p,j.g,by show y.1.length<=_;omega⟩) λ_=>χ (P:=λ_=>True) (ba.bif (λ_=>ι trivial) λ_=>ι trivial) λv20 _=>ba.bif (λ_=> ?_) λ_=>ba.sw ⟨rfl,TX.nil⟩
 refine χ (vW t) λT _=>χ (P:=λr=>TX r.1) (χ (P:=λ_=>True) (ba.bif (λ_=>ι trivial) λ_=>ι trivial) λU _=>ba.bif (λ_=>χ (HH h.plain _) λy o=>χ (HG o _) λr I=>ι I) λ_=>
  ba.bif (λ_=>χ (Dq _) λy o=>ι ⟨by have:=o.1;show y.1.length<=_;omega,o.2⟩) λ_=>ι TX.nil) λr I=>ba.sw ⟨rfl,I⟩
 cases v with
 |inl v=>exact ι ⟨TX.ok,J,.inr rfl⟩
 |inr z=>
  obtain ⟨R,z2⟩:z.2.2.2=x.d/\TX z.1:=J;exact ι ⟨z2,R▸j,.inl R⟩
theorem HI (o:List (List UInt8))(t: ∀i,(o.getD i []).length<=100000):ba (λr=>TX r.1/\pz r.2.2.2/\(r.2.2.2=x.d\/r.1=[111,107])) (kt x.d o):=by
 have p:=h.short;unfold kt;refine ba.bif (λe=> ?_) λ_=>ba.bif (λe=> ?_) λ_=> ?_;have e:aW o=1:=by simpa using e
 refine Θ ⟨by omega,by omega⟩ (χ (KD h _) λy j=>ba.bif (λ_=>ι ⟨j.1,j.2.1,j.2.2.1⟩) λI=> ?_);rw [j.2.2.2 I];exact χ (KE h _) λy j=>ι ⟨j.1,j.2▸p,.inl j.2⟩;have e:aW o=2:=by simpa using e
 exact Θ ⟨by omega,by omega⟩ (Θ ⟨by omega,by omega⟩ (χ (MU h _ _ (t _)) λy j=>ι j));refine χ (P:=λv=>v=true->aW o=3) (ba.bif (λe=>Θ ⟨by omega,by rw [show aW o=3 by simpa using e];decide⟩ (ι λ_=>by simpa using e)) λ_=>ι λe=>by cases e) λv J=>ba.bif (λe=> ?_) λ_=>ι ⟨TX.nil,p,.inl rfl⟩;have e:=J e;exact Θ ⟨by omega,by omega⟩ (Θ ⟨by omega,by omega⟩ (χ (Bz _ _ _ _ _) λy j=>χ (HG j _) λr R=>ι ⟨R,p,.inl rfl⟩))
end
end Go.Proofs
namespace Go.Proofs
open Go.Ide Go.IntWalk
theorem BI {x:DK}(h:x.OK):gu x.d=some x.d:=by
 have j:=h.py.zl;have o:=h.py.sl;have p:=h.py.el;have r:=h.py.m2;obtain ⟨t,I,J,R,T,U,_⟩:=h.plain.facts;have h5:=h.plain.nl;have h6:=h.yF.rl;have h8:=h.word.len;unfold gu oG DK.d;simp only [dN (show x.zs.length<=1000000 by omega),dN (show x.ss.length<=1000000 by omega),dN (show x.es.length<=1000000 by omega),dN (show x.nx.length<=1000000 by omega),
  dN (show x.pe.length<=1000000 by omega),dN (show x.rs.length<=1000000 by omega),dN (show x.w.length<=1000000 by omega),η]
theorem qJ {x:DK}(h:x.OK):dL x.d=some true:=by
 have p:=h.py.zl;have r:=h.plain.nl;have t:=h.yF.rl;have I:=h.word.len;have j:gn x.w 4=some true:=by
  rw [xX (by omega),fN (by omega),decide_eq_true (show aW x.w<=12 by simp only [aW];omega),hZ.2 λy o=>by have:=h.word.YJ y o;omega];rfl
 unfold dL DK.d;simp only [h.py.valid,h.plain.valid,h.yF.valid,j,η,cond_true,decide_eq_true (show aW x.zs<=16 by simp only [aW];omega),decide_eq_true (show aW x.nx<=64 by simp only [aW];omega),
  decide_eq_true (show aW x.rs<=16 by simp only [aW];omega)]
def fj (t:List UInt8):Bool:=(t==[110,111])||(t==[119,104,97,116])
theorem TJ:TX [119,104,97,116]:=⟨by decide,by decide⟩
theorem noT:TX [110,111]:=⟨by decide,by decide⟩
theorem Dw {x:DK}(h:x.OK){l:List UInt8}(hl:l.length<=100000): ∃(y:DK) (t:List UInt8),ez x.d l=some (y.d,t)/\y.OK/\TX t/\(fj t=true->y.d=x.d):=by
 have key:ba (λr=> ∃y:DK,y.OK/\r.1=y.d/\TX r.2/\(fj r.2=true->y.d=x.d)) (ez x.d l):=by
  have p:strings_Split l [32]=some (iR 32 l):=by
   unfold strings_Split;rw [guard_pos (show _/\_ from ⟨by omega,by simp⟩),pT]
  have I:=BI h;have I:gu ((x.d.1.1,x.d.1.2.1,x.d.1.2.2.1,x.d.1.2.2.2.1,x.d.1.2.2.2.2),(x.d.2.1.1,x.d.2.1.2.1,x.d.2.1.2.2.1,x.d.2.1.2.2.2),(x.d.2.2.1.1,x.d.2.2.1.2.1,x.d.2.2.1.2.2),x.d.2.2.2)=some x.d:=I;unfold ez;rw [I,η,p,η];refine χ (HI h _ λi=>by have:=yh (c:=32) (s:=l) i;omega) λy J=> ?_;obtain ⟨T,U,j⟩:=J;refine ba.bif (λ_=>ι ⟨x,h,rfl,TJ,λ_=>rfl⟩) λ_=>χ (P:=λv=>v=false-> ∃z:DK,z.OK/\y.2.2.2=z.d) (ba.bif (λ_=>ι λe=>by cases e) λ_=>χ (HF U) λb o=>ι λe=>o (by simpa using e)) λv hv=>ba.bif (λ_=>ι ⟨x,h,rfl,noT,λ_=>rfl⟩) λe=> ?_;obtain ⟨z,hz,R⟩:=hv e;refine ι ⟨z,hz,R,T,λo=> ?_⟩;rcases j with j|j
  rw [<-R];exact j;have o:fj y.1=true:=o;rw [j] at o;cases o
 obtain ⟨r,e,y,J,e2,j,h4⟩:=key;exact ⟨y,r.2,by rw [e,<-e2],J,j,h4⟩
def pY:List (List UInt8)->List UInt8
 |[]=>[]
 |l::r=>l++10::pY r
theorem Gq: ∀{ls:List (List UInt8)},(∀l∈ls,∀b∈l,b≠10)->iR 10 (pY ls)=ls++[[]]
 |[],_=>rfl
 |l::r,h=>by
  unfold pY;rw [uo,tf (h l (by simp)),Gq λz j=>h z (ϛ _ j)];rfl
theorem HJ {ls:List (List UInt8)}(h: ∀l∈ls,∀b∈l,b≠10):EZ (pY ls)=ls/\J1 (pY ls)=[]:=by
 unfold EZ J1;rw [Gq h];have e:(ls++[[]]).length - 1=ls.length:=by simp
 rw [e];exact ⟨List.take_left,by rw [ς,Κ (φ _),ahl];rfl⟩
theorem vK {ls:List (List UInt8)}(h: ∀l∈ls,∀b∈l,b≠10)(p:(pY ls).length<=16000):jL (pY ls)=some (ls,true):=by
 obtain ⟨j,o⟩:=HJ h;rw [E0 (by omega),j,o,decide_eq_true (show aW (pY ls)<=16000 by simp only [aW];omega)];rfl
inductive fP:jG->List (List UInt8)->jG->List (List UInt8)->Prop
 |nil (d:jG):fP d [] d []
 |cons {d d1 d2:jG} {l t:List UInt8} {ls ts:List (List UInt8)}:ez d l=some (d1,t)->t.length<=10000->fP d1 ls d2 ts->fP d (l::ls) d2 (t::ts)
abbrev fl (i:Int)(d:jG)(acc:List UInt8):Int×Int×Int×(List (Int×Int×Int×Int))×List Int×List Int×Int×Int×List Int×List Bool×Int×Int×(List (Int×Int×Int×Int))×List Int×List UInt8:=
 (i,d.1.1,d.1.2.1,d.1.2.2.1,d.1.2.2.2.1,d.1.2.2.2.2,d.2.1.1,d.2.1.2.1,d.2.1.2.2.1,d.2.1.2.2.2,d.2.2.1.1,d.2.2.1.2.1,d.2.2.1.2.2,d.2.2.2,acc)
theorem Dx {all:List (List UInt8)}{b:Bool}(J:all.length<=100): ∀{d p:jG} {ls ts:List (List UInt8)},fP d ls p ts-> ∀(i:Nat) (acc:List UInt8),all.drop i=ls->acc.length<=i*20000->
 rounds (eU (all,b)) (fl (i:Int) d acc)=some (fl 0 p (acc++pY ts)).2:=by
 intro d p ls ts T;induction T with
 |nil d=>
  intro i acc o U;have j:all.length<=i:=by
   rcases aaz i all.length with h|h
   have:=congrArg ζ o;rw [aab] at this;simp at this;omega;exact h
  rw [ef];have e:eU (all,b) (fl (i:Int) d acc)=some (.inr (fl 0 d acc).2):=by
   unfold eU;simp only [show decide ((i:Int)<aW all)=false from kC j,cond_false]
  rw [e];simp [pY]
 | @cons d R p l t ls ts hc ht _ ih=>
  intro i acc o U;have j:i<all.length:=by
   rcases aaz i all.length with h|h
   exact h;rw [List.drop_eq_nil_of_le h] at o;cases o
  have r:all.drop i=all[i]::all.drop (i+1):=List.drop_eq_getElem_cons j;rw [r] at o;injection o with h3 h4;have hg:ε all i []=l:=by rw [ς,Γ j,<-h3];rfl
  have e:eU (all,b) (fl (i:Int) d acc)=some (.inl (fl ((i+1:Nat):Int) R (acc++(t++[10])))):=by
   have I:ez ((d.1.1,d.1.2.1,d.1.2.2.1,d.1.2.2.2.1,d.1.2.2.2.2),(d.2.1.1,d.2.1.2.1,d.2.1.2.2.1,d.2.1.2.2.2),(d.2.2.1.1,d.2.2.1.2.1,d.2.2.1.2.2),d.2.2.2) l=some (R,t):=hc;unfold eU;simp only [show decide ((i:Int)<aW all)=true from ki j,cond_true,guard_pos (eJ j),Β,hg,I,η];rw [pU (by simp only [Ζ,Χ];omega),pU (by simp only [ω,Ζ,Χ];omega),bO j (by omega)]
  rw [ef,e];show rounds _ _=_;rw [ih (i+1) _ h4 (by simp only [ω,Ζ,Χ];omega)];simp [pY]
theorem QG {x y:DK}(R:x.OK)(T:y.OK){ls ts:List (List UInt8)}(h:fP x.d ls y.d ts)(U: ∀l∈ls,∀b∈l,b≠10)(j:(pY ls).length<=16000)(hn:ls.length<=100)(ht:ts≠[]):
 l9 x.d (pY ls)=some (y.d,pY ts,true):=by
 have I:=qJ R;have J:=BI T;have o:=Dx (b:=true) hn h 0 [] (by simp) (by simp);have p:pY ts≠[]:=by
  cases ts with
  |nil=>exact absurd rfl ht
  |cons t r=>unfold pY;simp
 have o:rounds (eU (ls,true)) (fl 0 x.d [])=some (fl 0 y.d (pY ts)).2:=o;unfold fl DK.d at o;unfold DK.d at I J⊢;unfold l9;simp only [vK U j,η,ύ,cond_false,I];simp only at o;rw [o];simp only [η,J];rw [guard_pos p]
theorem KF {ls:List (List UInt8)}(h: ∀l∈ls,∀b∈l,b≠10)(t:(pY ls).length<=16000)(p:ls.length<=1000):js (pY ls)=some (((ls.countP fj:Nat):Int),((ls.length:Nat):Int) - ((ls.countP fj:Nat):Int),true):=by
 have I: ∀k,(ls.take k).countP fj<=1000:=λk=>ϣ aa6 (by rw [ϙ];omega);have:=nf (f:=eG (ls,true)) (λi n=>(n,((i:Nat):Int))) (λi n=>if fj (ε ls i []) then bf .i64 n 1 else n) id (n:=ls.length) (λi n=>n=(((ls.take i).countP fj:Nat):Int)) (λi n j p=>⟨by
  unfold eG;simp only [show decide ((i:Int)<aW ls)=true from ki j,cond_true,guard_pos (eJ j),Β,bO j (show ls.length<=4294967296 by omega)];unfold fj;cases (ε ls i []==([110,111]:List UInt8))<;>cases (ε ls i []==([119,104,97,116]:List UInt8))<;>rfl,by
  have:=I i;rw [fq j [],afq,af2,agh,p];split;rw [fM (by omega)];omega;omega⟩) (λn _=>by
  unfold eG;simp only [show decide (((ls.length:Nat):Int)<aW ls)=false from kC (φ _),cond_false];rfl) ls.length 0 0 (by omega) (by simp)
 obtain ⟨o,r⟩:=this;rw [aam] at r;simp only [id,r] at o;have o:rounds (eG (ls,true)) ((0:Int),(0:Int))=some (((ls.countP fj:Nat)):Int):=o;have J:ls.countP fj<=ls.length:=aa6;unfold js;simp only [vK h t,η,ύ,cond_false,o];rw [show bI .i64 (aW ls) ((ls.countP fj:Nat):Int)=((ls.length:Nat):Int) - ((ls.countP fj:Nat):Int) from fN (by simp only [aW];omega)]
theorem uw {xs:List Int}(h:xs.length<=1000000):bS xs xs=some true:=by
 unfold bS;rw [bne_self_eq_false,cond_false,we (f:=cU xs xs) (Sum.inl ()) xs.length (λi j=>by
  unfold cU;simp only [show decide ((i:Int)<aW xs)=true from ki j,cond_true,guard_pos (eJ j),bne_self_eq_false,cond_false,bO j (show xs.length<=4294967296 by omega)]) (by
  unfold cU;simp only [show decide (((xs.length:Nat):Int)<aW xs)=false from kC (φ _),cond_false])]
 rfl
theorem KG {xs:List Bool}(h:xs.length<=1000000):eB xs xs=some true:=by
 unfold eB;rw [bne_self_eq_false,cond_false,we (f:=dz xs xs) (Sum.inl ()) xs.length (λi j=>by
  unfold dz;simp only [show decide ((i:Int)<aW xs)=true from ki j,cond_true,guard_pos (eJ j),bne_self_eq_false,cond_false,bO j (show xs.length<=4294967296 by omega)]) (by
  unfold dz;simp only [show decide (((xs.length:Nat):Int)<aW xs)=false from kC (φ _),cond_false])]
 rfl
theorem KH {xs:List Q4}(h:xs.length<=1000000):c6 xs xs=some true:=by
 unfold c6;rw [bne_self_eq_false,cond_false,we (f:=cR xs xs) (Sum.inl ()) xs.length (λi j=>by
  unfold cR;simp only [show decide ((i:Int)<aW xs)=true from ki j,cond_true,guard_pos (eJ j),beq_self_eq_true,abw,ύ,cond_false,bO j (show xs.length<=4294967296 by omega)]) (by
  unfold cR;simp only [show decide (((xs.length:Nat):Int)<aW xs)=false from kC (φ _),cond_false])]
 rfl
theorem KI {xs:List Q4}(h:xs.length<=1000000):cV xs xs=some true:=by
 unfold cV;rw [bne_self_eq_false,cond_false,we (f:=cK xs xs) (Sum.inl ()) xs.length (λi j=>by
  unfold cK;simp only [show decide ((i:Int)<aW xs)=true from ki j,cond_true,guard_pos (eJ j),beq_self_eq_true,abw,ύ,cond_false,bO j (show xs.length<=4294967296 by omega)]) (by
  unfold cK;simp only [show decide (((xs.length:Nat):Int)<aW xs)=false from kC (φ _),cond_false])]
 rfl
theorem ve {x:DK}(h:x.OK):fh x.d x.d=some true:=by
 have j:=h.py.zl;have o:=h.py.sl;have p:=h.py.el;have r:=h.py.m2;obtain ⟨t,I,J,R,T,U,_⟩:=h.plain.facts;have h5:=h.plain.nl;have h6:=h.yF.rl;have h8:=h.word.len;unfold fh mH oQ mI DK.d;simp only [beq_self_eq_true,cond_true,KH (show x.zs.length<=1000000 by omega),uw (show x.ss.length<=1000000 by omega),uw (show x.es.length<=1000000 by omega),uw (show x.nx.length<=1000000 by omega),
  KG (show x.pe.length<=1000000 by omega),KI (show x.rs.length<=1000000 by omega),uw (show x.w.length<=1000000 by omega),η]
end Go.Proofs
namespace Go.Proofs
open Go.Ide Go.IntWalk
def LN (l:List UInt8):Prop:=l.length<=3100/\ ∀b∈l,b≠10
def TN (k:Nat)(l:List UInt8):Prop:=l.length<=k/\ ∀b∈l,44<=b.toNat
theorem TN.app {j k:Nat}{a b:List UInt8}(o:TN j a)(p:TN k b):TN (j+k) (a++b):=⟨by rw [ω];have:=o.1;have:=p.1;omega,λx r=>(Λ.1 r).elim (o.2 x) (p.2 x)⟩
theorem TN.vX:TN 1 [59]:=⟨by decide,by decide⟩
theorem NT {b:UInt8}(h:44<=b.toNat):b≠10:=λe=>by subst e;revert h;decide
theorem TN.line {w t:List UInt8}{k:Nat}(j:w.length<=20/\ ∀b∈w,b≠10)(ht:TN k t)(p:k<=3080):LN (w++t):=⟨by rw [ω];have:=j.1;have:=ht.1;omega,λx o=>(Λ.1 o).elim (j.2 x) λh=>NT (ht.2 x h)⟩
theorem oi {xs:List Int}{k:Nat}(j:cJ xs=true)(o:xs.length*22+4<=k):ba (TN k) (df xs):=by
 obtain ⟨q1,p⟩:=eH j;have:=uX q1;exact ⟨_,J4 (by omega) q1,by omega,(Uy j).2⟩
theorem iD {α:Type}{xs ys:List α}{j k:Nat}(o:xs.length<=j)(p:ys.length<=k)(h:j+k<=1000000):ζ xs+ζ ys<=bl:=by unfold bl;omega
theorem KJ {m c:Nat}{zs:List Q4}{ss es:List Int}(h:og m c zs ss es):ba (TN 3000) (kn ((m:Int),(c:Int),zs,ss,es)):=by
 obtain ⟨v1,T,U,v4⟩:=h.vals;have h1:=h.sl;have h2:=h.el;have h3:=h.m2;have h4:=(eH v4).2;have hz:=h.zl;unfold kn;simp only [J6 (show zs.length<=1048576 by omega),η];refine χ (oi v1 (k:=50) (ϓ rfl)) λy1 I=>Θ (iD I.1 TN.vX.1 (by omega)) (χ (oi T (k:=400) (by omega)) λy4 o=> ?_);have p:=I.app TN.vX;refine Θ (iD p.1 o.1 (by omega)) (Θ (iD (p.app o).1 TN.vX.1 (by omega)) (χ (oi U (k:=400) (by omega)) λy8 r=> ?_));have t:=(p.app o).app TN.vX;refine Θ (iD t.1 r.1 (by omega)) (Θ (iD (t.app r).1 TN.vX.1 (by omega)) (χ (oi v4 (k:=1412) (by omega)) λaa j=> ?_));have J:=(t.app r).app TN.vX;have R:=J.app j;exact Θ (iD J.1 j.1 (by omega)) (ι ⟨ϣ R.1 (by omega),R.2⟩)
theorem KK {n c:Nat}{rs:List Q4}(h:qE n c rs):ba (TN 3000) (ko ((n:Int),(c:Int),rs)):=by
 obtain ⟨v1,v4⟩:=h.vals;have r:=(eH v4).2;have t:=h.rl;unfold ko;simp only [Hn (show rs.length<=1048576 by omega),η];refine χ (oi v1 (k:=50) (ϓ rfl)) λI p=>Θ (iD p.1 TN.vX.1 (by omega)) (χ (oi v4 (k:=1412) (by omega)) λJ j=> ?_);have o:=p.app TN.vX;exact Θ (iD o.1 j.1 (by omega)) (ι ⟨ϣ (o.app j).1 (by omega),(o.app j).2⟩)
theorem Fp {m c:Nat}{nx:List Int}{es:List Bool}(h:di m c nx es):ba (TN 3000) (mP ((m:Int),(c:Int),nx,es)):=by
 obtain ⟨v1,v4⟩:=h.vals;obtain ⟨T,U,h5,h6,h7,h8,_⟩:=h.facts;have hn:=h.nl;unfold mP;rw [Hp];refine χ (oi v1 (k:=50) (ϓ rfl)) λI r=>Θ (iD r.1 TN.vX.1 (by omega)) (χ (oi v4 (k:=1412) (by show nx.length*22+4<=_;omega)) λJ j=> ?_);have o:=r.app TN.vX;have p:=(o.app j).app TN.vX;refine Θ (iD o.1 j.1 (by omega)) (Θ (iD (o.app j).1 TN.vX.1 (by omega)) ?_);have e:=yr (s:=(m:Int)) (l:=(c:Int)) (nx:=nx) (es:=es) (acc:=I++[59]++J++[59]) (by omega) (ϣ p.1 (by omega));rw [e,η];have t:TN 64 (fI es):=⟨by unfold fI;rw [ϔ];omega,λb R=>(uZ b R).1⟩;exact ι ⟨ϣ (p.app t).1 (by omega),(p.app t).2⟩
theorem Gr {n:Nat}{s:jR}(h:cS (n+2) s){ts:List (List UInt8)}(p:1<=ts.length){P:List UInt8->Prop}(hp: ∀t∈ts,P t): ∃t j,cP s ts=some (t,j)/\P t/\cS n j:=by
 obtain ⟨x,j,e,r,o⟩:=dM h p;have e:bh s (aW ts)=_:=e;refine ⟨ts.getD x [],j,?_,hp _ (bQ r),o⟩;unfold cP;rw [e,η,guard_pos (show (0:Int)<=(x:Int)/\(x:Int)<aW ts from ⟨by omega,by simp only [aW];omega⟩)];rfl
theorem Dy {g:Nat}{s:jR}(T:cS (104+g) s): ∃(m c:Nat) (nx:List Int) (j:List Bool) (I:jR),dQ s=some (((m:Int),(c:Int),nx,j),I)/\di m c nx j/\cS g I:=by
 obtain ⟨o,U,r,q2,o2⟩:=dM (n:=102+g) (k:=6) (T.mono (by omega)) (by omega);obtain ⟨p,s3,t,q3,o3⟩:=dM (n:=100+g) (k:=3) (o2.mono (by omega)) (by omega);obtain ⟨nx,j,s4,e4,J,o4⟩:=yl (g:=g) (m:=1+o) (c:=1+p) (by omega) (by omega) (by omega) (by omega) o3;refine ⟨1+o,1+p,nx,j,s4,?_,⟨J,?_⟩,o4⟩;have r:bh s (6:Int)=_:=r;have t:bh U (3:Int)=_:=t;unfold dQ;simp only [r,t,η,rr (show o<=1000 by omega),rr (show p<=1000 by omega),e4];obtain ⟨m',R,h1,h2,_,_,_,_,h3,_⟩:=qC J;have:m'=1+o:=by omega
 have:R=1+p:=by omega
 have:m'*R<=6*3:=aaB (by omega) (by omega);omega
theorem TN.max {k:Nat}{t w:List UInt8}(j:w.length<=20)(ht:TN k t)(o:k<=3080):ζ w+ζ t<=bl:=by have:=ht.1;unfold bl;omega
instance:DecidablePred LN:=λl=>inferInstanceAs (Decidable (l.length<=3100/\ ∀b∈l,b≠10))
theorem KL {g:Nat}{s:jR}(hs:cS (2000+g) s): ∃(l:List UInt8) (j:jR),gL s=some (l,j)/\LN l/\cS g j:=by
 obtain ⟨x1,s1,R,q1,o1⟩:=dM (n:=1900+g) (k:=14) (hs.mono (by omega)) (by omega);obtain ⟨x2,s2,T,q2,p⟩:=dM (n:=1800+g) (k:=11) (o1.mono (by omega)) (by omega);have R:bh s (14:Int)=_:=R;have T:bh s1 (11:Int)=_:=T;have J:eX (x1:Int):=⟨by omega,by omega⟩;have t3:TN 21 (Ϯ (x1:Int)):=⟨yb J,(KB J).2⟩;have key:ba (λr:List UInt8×jR=>LN r.1/\cS g r.2) (gL s):=by
  have I: ∀(ts:List (List UInt8)),1<=ts.length->(∀t∈ts,LN t)->ba (λr:List UInt8×jR=>LN r.1/\cS g r.2) ((cP s2 ts).bind λy=>some (y.1,y.2)):=λts U h2=>by
   obtain ⟨t,j,e,ht,o⟩:=Gr (n:=g) (p.mono (by omega)) U h2;rw [e];exact ι ⟨ht,o⟩
  unfold gL;rw [R,η,E4 J,η,T,η];refine ba.bif (λ_=>I _ (by decide) (by decide+kernel)) λ_=>ba.bif (λ_=> ?_) λ_=>ba.bif (λ_=> ?_) λ_=>ba.bif (λ_=> ?_) λ_=>ba.bif (λ_=> ?_) λ_=>ba.bif (λ_=>I _ (by decide) (by decide+kernel)) λ_=>ba.bif (λ_=>I _ (by decide) (by decide+kernel)) λ_=>
   ba.bif (λ_=>I _ (by decide) (by decide+kernel)) λ_=>ba.bif (λ_=>I _ (by decide) (by decide+kernel)) λ_=>ba.bif (λ_=> ?_) λ_=>I _ (by decide) (by decide+kernel)
  obtain ⟨m,c,zs,ss,es,j,e,hM,o⟩:=De (g:=g) (p.mono (by omega));rw [e,η];exact χ (KJ hM) λt ht=>Θ (ht.max (by decide) (by omega)) (ι ⟨ht.line (by decide) (by omega),o⟩);obtain ⟨m,c,nx,pe,j,e,hP,o⟩:=Dy (g:=g) (p.mono (by omega));rw [e,η];exact χ (Fp hP) λt ht=>Θ (ht.max (by decide) (by omega)) (ι ⟨ht.line (by decide) (by omega),o⟩);obtain ⟨n,c,rs,j,e,hG,o⟩:=Df (g:=g) (p.mono (by omega));rw [e,η];exact χ (KK hG) λt ht=>Θ (ht.max (by decide) (by omega)) (ι ⟨ht.line (by decide) (by omega),o⟩);obtain ⟨w,j,e,⟨hw,hv⟩,o⟩:=zX (g:=g) (p.mono (by omega));rw [e,η];exact χ (oi (jS (λx J=>by have:=hv x J;omega) (show w.length<=64 by omega)) (k:=200) (by show w.length*22+4<=_;omega)) λt ht=>Θ (ht.max (by decide) (by omega)) (ι ⟨ht.line (by decide) (by omega),o⟩);obtain ⟨t,j,e,ht,o⟩:=Gr (n:=g) (p.mono (by omega)) (ts:=[[99,111,117,110,116,32],[114,111,109,97,110,32]]) (by decide) (P:=λw=>w.length<=20/\ ∀b∈w,b≠10) (by decide);rw [e,η];exact Θ (t3.max ht.1 (by omega)) (ι ⟨t3.line ht (by omega),o⟩)
 obtain ⟨r,e,U,h2⟩:=key;exact ⟨r.1,r.2,e,U,h2⟩
theorem HK {code:List Int}(h:yj code): ∃ls,n9 code=some ls/\(∀l∈ls,LN l)/\1<=ls.length/\ls.length<=5:=by
 obtain ⟨R,T⟩:=cS.from h
 obtain ⟨x,U,j,q1,o1⟩:=dM (n:=20000) (k:=5) (T.mono (by omega)) (by omega);have j:bh _ (5:Int)=_:=j;have key:ba (λls:List (List UInt8)=>(∀l∈ls,LN l)/\1<=ls.length/\ls.length<=5) (rounds nD (((1+x:Nat):Int),U,([]:List (List UInt8)))):=by
  refine ϶ (λd (s:Int×jR×List (List UInt8))=>s.1=(d:Int)/\cS (d*2000) s.2.1/\(∀l∈s.2.2,LN l)/\d+s.2.2.length=1+x) (λd s hs=> ?_) (n:=1+x) ⟨rfl,o1.mono (by omega),(λl p=>by cases p),rfl⟩;obtain ⟨t,s,ls⟩:=s;obtain ⟨b1,b2,I,J⟩:=hs;obtain rfl:t=(d:Int):=b1;have J:d+ls.length=1+x:=J;unfold nD;refine ba.bif (λe=> ?_) λe=> ?_;have e:(d:Int)>0:=of_decide_eq_true e;obtain ⟨l,s',r,p,o⟩:=KL (g:=(d - 1)*2000) (s:=s) (b2.mono (by omega));simp only [r,η];rw [b9 (by omega)];exact ι (.inl ⟨d - 1,_,by omega,rfl,ML (by omega) (by omega),o,ic I p,by show d - 1+(ls++[l]).length=1+x;rw [ω];show d - 1+(ls.length+1)=_;omega⟩);have e: ¬(d:Int)>0:=of_decide_eq_false e;exact ι (.inr ⟨_,rfl,I,by show 1<=ls.length;omega,by show ls.length<=5;omega⟩)
 obtain ⟨ls,r,hq⟩:=key;refine ⟨ls,?_,hq⟩;unfold n9;rw [R,η,j,η,rr (show x<=1000 by omega)];simp only [r,η]
end Go.Proofs
namespace Go.Proofs
open Go.Ide Go.IntWalk
theorem fP.snoc {d j o:jG}{ls ts:List (List UInt8)}{l t:List UInt8}(h:fP d ls j ts)(p:ez j l=some (o,t))(ht:t.length<=10000):fP d (ls++[l]) o (ts++[t]):=by
 induction h with
 |nil d=>exact .cons p ht (.nil _)
 |cons r I _ ih=>exact .cons r I (ih p)
theorem Dz {ls:List (List UInt8)}{l:List UInt8}:pY (ls++[l])=pY ls++(l++[10]):=by
 induction ls with
 |nil=>rfl
 |cons a ls ih=>show a++10::pY (ls++[l])=_;rw [ih];simp [pY]
theorem wv {ls:List (List UInt8)}{k:Nat}(h: ∀l∈ls,l.length<=k):(pY ls).length<=ls.length*(k+1):=by
 induction ls with
 |nil=>exact ϝ _
 |cons a ls ih=>
  have o:=h a (by simp);have p:=ih λl j=>h l (ϛ _ j);show (a++10::pY ls).length<=(ls.length+1)*(k+1);rw [ω,Ζ,ϑ,adK];omega
theorem yG {x y:DK}(p:x.OK)(r:y.OK){l t:List UInt8}(e:ez x.d l=some (y.d,t)):jP x.d l=some (y.d,t,true):=by
 have j:=qJ p;have o:=BI r;unfold DK.d at e j o⊢;unfold jP;simp only [j,e,o,η,ύ,cond_false]
abbrev fk (a b:List UInt8)(n i:Int)(d:jG):List UInt8×List UInt8×Int×Int×Int×Int×(List (Int×Int×Int×Int))×List Int×List Int×Int×Int×List Int×List Bool×Int×Int×(List (Int×Int×Int×Int))×List Int:=
 (a,b,n,i,d.1.1,d.1.2.1,d.1.2.2.1,d.1.2.2.2.1,d.1.2.2.2.2,d.2.1.1,d.2.1.2.1,d.2.1.2.2.1,d.2.1.2.2.2,d.2.2.1.1,d.2.2.1.2.1,d.2.2.1.2.2,d.2.2.2)
theorem HL {x:DK}(hx:x.OK){ls:List (List UInt8)}(hl: ∀l∈ls,LN l)(hn:ls.length<=5): ∃(y:DK) (ts:List (List UInt8)),y.OK/\fP x.d ls y.d ts/\ts.length=ls.length/\(∀t∈ts,TX t)/\
 rounds (fH ls) (fk [] [] 0 0 x.d)=some (.inl (pY ls,pY ts,((ts.countP fj:Nat):Int),(fk [] [] 0 0 y.d).2.2.2.2)):=by
 have key:ba (λr=> ∃(y:DK) (ts:List (List UInt8)),y.OK/\fP x.d ls y.d ts/\ts.length=ls.length/\(∀t∈ts,TX t)/\r=Sum.inl (pY ls,pY ts,((ts.countP fj:Nat):Int),(fk [] [] 0 0 y.d).2.2.2.2)) (rounds (fH ls) (fk [] [] 0 0 x.d)):=by
  refine ϶ (λd s=> ∃(i:Nat) (y:DK) (ts:List (List UInt8)),s=fk (pY (ls.take i)) (pY ts) ((ts.countP fj:Nat):Int) (i:Int) y.d/\i<=ls.length/\d=ls.length - i/\y.OK/\fP x.d (ls.take i) y.d ts/\ts.length=i/\ ∀t∈ts,TX t) (λd s hs=> ?_) (n:=ls.length)
   ⟨0,x,[],rfl,ϝ _,rfl,hx,.nil _,rfl,λt ht=>by cases ht⟩
  obtain ⟨i,y,ts,rfl,b1,b2,I,J,b5,R⟩:=hs;by_cases j:i<ls.length;have o:=hl _ (bQ (d:=[]) j);obtain ⟨z,t,e1,T,ht,p⟩:=Dw I (l:=ls.getD i []) (by have:=o.1;omega);have e2:=yG I T e1;have e3:=qJ T;have U:(pY (ls.take i)).length<=5*3101:=ϣ (wv (k:=3100) λl h=>(hl l (aeS h)).1) (Ρ _ (by rw [ϙ];omega));have aa:(pY ts).length<=5*3001:=ϣ (wv (k:=3000) λt h=>(R t h).1) (Ρ _ (by omega));have ab:=o.1;have ad:=ht.1;have Oj:ts.countP fj<=5:=ϣ aa6 (by omega);have e4:fj t=true->fh z.d y.d=some true:=λhb=>by rw [p hb];exact ve I
  have e5:fH ls (fk (pY (ls.take i)) (pY ts) ((ts.countP fj:Nat):Int) (i:Int) y.d)=some (.inl (fk (pY (ls.take i)++(ls.getD i []++[10])) (pY ts++(t++[10])) (((ts++[t]).countP fj:Nat):Int) ((i+1:Nat):Int) z.d)):=by
   have hct:((ts++[t]).countP fj:Nat)=ts.countP fj+bif fj t then 1 else 0:=by
    rw [afq,af2,agh];cases fj t<;>rfl
   unfold DK.d at e2 e3 e4⊢;unfold fH;simp only [show decide ((i:Int)<aW ls)=true from ki j,cond_true,guard_pos (eJ j),Β,e2,e3,η,ύ,cond_false];have hv:(bif t==([110,111]:List UInt8) then some true else some (t==([119,104,97,116]:List UInt8)))=some (fj t):=by
    unfold fj;cases (t==([110,111]:List UInt8))<;>rfl
   have g1:ζ (ls.getD i [])+ζ ([10]:List UInt8)<=bl:=iD ab (k:=1) (φ _) (by omega);have g2:ζ (pY (ls.take i))+ζ (ls.getD i []++([10]:List UInt8))<=bl:=iD U (k:=3101) (by rw [ω];show _+1<=_;omega) (by omega);have g3:ζ t+ζ ([10]:List UInt8)<=bl:=iD ad (k:=1) (φ _) (by omega);have g4:ζ (pY ts)+ζ (t++([10]:List UInt8))<=bl:=iD aa (k:=3001) (by rw [ω];show _+1<=_;omega) (by omega);rw [hv,η,hct];cases hb:fj t with
   |true=>
    simp only [cond_true,e4 hb,η,ύ,cond_false,guard_pos g1,guard_pos g2,guard_pos g3,guard_pos g4,bO j (show ls.length<=4294967296 by omega),show bf .i64 ((ts.countP fj:Nat):Int) 1=((ts.countP fj+1:Nat):Int) from by rw [fM (by omega)];omega]
   |false=>
    simp only [cond_false,η,guard_pos g1,guard_pos g2,guard_pos g3,guard_pos g4,bO j (show ls.length<=4294967296 by omega),ϧ]
  rw [e5];refine ι (.inl ⟨ls.length - (i+1),_,by omega,rfl,i+1,z,ts++[t],?_,by omega,rfl,T,?_,by simp [b5],ic R ht⟩);rw [fq j [],Dz,Dz];rw [fq j []];exact J.snoc e1 (by omega);have hie:i=ls.length:=by omega
  subst hie;rw [aam] at J⊢;refine ⟨_,?_,.inr ⟨_,rfl,y,ts,I,J,b5,R,rfl⟩⟩;unfold fH;simp only [show decide (((ls.length:Nat):Int)<aW ls)=false from kC (φ _),cond_false]
 obtain ⟨r,e,y,ts,h1,h2,h3,h4,rfl⟩:=key;exact ⟨y,ts,h1,h2,h3,h4,e⟩
theorem TK {w:List Int}(h:Dj w):ey w=some (tx w,true)/\fg (tx w)=some (w,true):=by
 have:=h.len;have:=yd h.vals;exact ⟨by rw [jQ (by omega),h.vals];rfl,by rw [rp (by omega),yp h.vals]⟩
theorem FnDesk_law (I T:List Int)(w0:WfD (.sl (.int .u8)) I)(w1:WfD (.sl (.int .u8)) T):np I T=some true:=by
 by_cases c0:aW I>(48:Int);unfold np kR;rw [decide_eq_true c0];rfl;by_cases c1:aW T>(48:Int);unfold np kR;rw [decide_eq_true c1];cases decide (aW I>(48:Int))<;>rfl;have eL:kR I T=some false:=by
  unfold kR;rw [decide_eq_false c0,decide_eq_false c1];rfl
 have b0:=zW w0 (by simp only [aW] at c0;omega);have b1:=zW w1 (by simp only [aW] at c1;omega);obtain ⟨m,c,zs,ss,es,pm,J,nx,R,n,gc,rs,w,eD,hM,hP,hG,hw,hv⟩:=Kf b0;obtain ⟨ls,eS,hl,n1,n2⟩:=HK b1;let x:DK:=⟨m,c,zs,ss,es,pm,J,nx,R,n,gc,rs,w⟩;have hW:Dj w:=⟨by omega,λy U=>by have:=hv y U;omega⟩;have h:x.OK:=⟨hM,hP,hG,hW⟩;obtain ⟨y,o,U,hr,j,ht,eR⟩:=HL h hl n2;have eR:rounds (fH ls) (([]:List UInt8),([]:List UInt8),(0:Int),(0:Int),(m:Int),(c:Int),zs,ss,es,(pm:Int),(J:Int),nx,R,(n:Int),(gc:Int),rs,w)=_:=eR;have iH:o≠[]:=λe=>by rw [e] at j;simp at j;omega
 have q1:=QG h U hr (λl p=>(hl l p).2) (ϣ (wv (k:=3100) λl p=>(hl l p).1) (ϣ (Ρ _ n2) (by omega))) (by omega) iH;have q2:=KF (λt r b hb=>NT ((ht t r).2 b hb)) (ϣ (wv (k:=3000) λt r=>(ht t r).1) (ϣ (Ρ _ (show o.length<=5 by omega)) (by omega))) (show o.length<=1000 by omega);have q3:=ve h;have q4:=ve U;have Oj:o.countP fj<=5:=ϣ aa6 (by omega);obtain ⟨r1,r2⟩:=TK hW;have q5:bI .i64 (aW ls) ((o.countP fj:Nat):Int)=((o.length:Nat):Int) - ((o.countP fj:Nat):Int):=by
  rw [fN (by simp only [aW];omega),j]
 have q1:l9 (((m:Int),(c:Int),zs,ss,es),((pm:Int),(J:Int),nx,R),((n:Int),(gc:Int),rs),w) (pY ls)=_:=q1;have q3:fh (((m:Int),(c:Int),zs,ss,es),((pm:Int),(J:Int),nx,R),((n:Int),(gc:Int),rs),w) (((m:Int),(c:Int),zs,ss,es),((pm:Int),(J:Int),nx,R),((n:Int),(gc:Int),rs),w)=_:=q3;unfold DK.d at q1 q4;unfold np;simp only [eL,eD,eS,eR,η,cond_false];unfold DK.d;simp only [q1,q2,Dh hM,Kh hM,zZ hP,Hx hP,Di hG,Ki hG,r1,r2,η,cond_true,beq_self_eq_true,q4,q5,q3]
end Go.Proofs
