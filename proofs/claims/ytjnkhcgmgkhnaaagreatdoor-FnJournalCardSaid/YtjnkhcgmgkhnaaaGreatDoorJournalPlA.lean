import Derived.Test.YtjnkhcgmgkhnaaaGreatDoorJournalGenJ
import Derived.Lib.SplitLaws
import Derived.Lib.ItoaLen
import Derived.Lib.CutLaws
import Derived.Lib.Join
import Derived.Lib.ParseIntBTie
set_option linter.all false
open BitVec renaming ofInt→Ϙ
open Bool renaming and_eq_true→κ,not_true→ϔ,not_eq_true'→aag,false_eq_true→acH,not_false→acO,and_self→ac8,eq_false_iff→afX,eq_iff_iff→agF,false_and→agY
open Go.IntKind renaming wrap→Ρ,bits→Ϗ,signed→agb
open Go.Lib renaming itoa→ϡ,index→aaS,decDigits→abp,indexByte→acv,nDigits→adu,decDigits_length→adv,lastIndexByte→aew,split→aeL,join→afi,itoa_length_le→af9,splitK→aga,count_miss→ahg
open Int renaming toNat→δ,toNat_natCast→Α,le_refl→Ϫ,tmod→aac,toNat_of_nonneg→aai,natCast_mul→abu,natCast_zero→abC,tdiv→ads,tmod_eq_emod_of_nonneg→aeD,natAbs_eq→ahK
open List renaming getD→ε,length→ζ,length_append→ξ,replicate→υ,getD_eq_getElem?_getD→ψ,getElem?_eq_getElem→Γ,length_cons→Η,mem_append→Λ,length_nil→Χ,mem_singleton→ϊ,append_assoc→ό,mem_cons_of_mem→ύ,length_take→ώ,mem_cons→ϖ,length_replicate→ϗ,length_set→ϙ,take→ϛ,length_map→Ϝ,mem_map→Ϣ,all_eq_true→ϣ,length_drop→϶,map_cons→aaa,getElem?_eq_none→aab,not_mem_nil→aak,take_length→aan,getElem_of_mem→aaV,drop→aaY,mem_or_eq_of_mem_set→aa4,map_append→aa6,eq_of_mem_replicate→abT,getElem_mem→ab9,all_cons→acn,isPrefixOf→adb,cons_append→ade,length_pos_iff→adA,drop_replicate→adC,intercalate→aec,map_nil→ae7,all_nil→afc,all_append→agG,drop_zero→agM
open Nat renaming le_refl→ς,zero_le→ϟ,min_eq_left→aas,mul_le_mul→aaZ,strongRecOn→aa7,min→abh,mod_eq_of_lt→abk,succ_mul→agf
open Option renaming bind_some→η
open UInt8 renaming toNat_ofNat'→acx,ofNat→afF,toNat_inj→ags
namespace Go.Proofs
open Go.Ide Go.IntWalk
theorem iY (a b c:Int):cG a b c=some (decide (a>=b)&&decide (a<=c)):=by
 unfold cG;cases h:decide (a>=b)<;>simp
def ob (xs:List Int)(b c:Int):Bool:=xs.all λx=>decide (x>=b)&&decide (x<=c)
theorem vB {xs:List Int}{b c:Int}:ob xs b c=true↔ ∀i,i<xs.length->b<=xs.getD i 0/\xs.getD i 0<=c:=by
 unfold ob;rw [ϣ];constructor;intro h i j;have:=h xs[i] (ab9 j);simp only [κ,decide_eq_true_eq] at this;rw [ψ,Γ j];exact ⟨this.1,this.2⟩;intro h x o;obtain ⟨i,j,rfl⟩:=aaV o;have:=h i j;rw [ψ,Γ j] at this;simp only [κ,decide_eq_true_eq];exact ⟨this.1,this.2⟩
theorem GW (xs:List Int)(b c:Int):wI (λi=>decide (xs.getD i 0>=b)&&decide (xs.getD i 0<=c)) xs.length 0=ob xs b c:=by
 rw [agF,qj,vB];constructor;intro h i j;have:=h i (by omega) (by omega);simp only [κ,decide_eq_true_eq] at this;exact ⟨this.1,this.2⟩;intro h i _ j;have:=h i (by omega);simp only [κ,decide_eq_true_eq];exact ⟨this.1,this.2⟩
theorem nI {xs:List Int}{b c:Int}(h:xs.length<=4294967296):eQ xs b c=some (ob xs b c):=by
 unfold eQ;have:=mI (f:=jr xs b c) (λi=>((i:Nat):Int)) (λi=>decide (xs.getD i 0>=b)&&decide (xs.getD i 0<=c)) (Sum.inl ()) (Sum.inr ()) (n:=xs.length) (λi j=>by
  unfold jr;simp only [kn j,cond_true,guard_pos (eO j),Α,iY,η,ca j h];cases (decide (xs.getD i 0>=b)&&decide (xs.getD i 0<=c))<;>rfl) (by
  unfold jr;simp only [ky (ς _),cond_false]) xs.length 0 (by omega)
 rw [GW] at this;simp only [abC] at this;simp only [this,η];cases ob xs b c<;>rfl
theorem yE {xs:List Int}{L:Int}(h:xs.length<=4294967296):gr xs L=some ((decide (L>=1)&&decide (L<=4))&&(decide (bn xs<=12)&&ob xs 0 (bW .i64 L 1))):=by
 unfold gr;rw [iY,nI h];cases (decide (L>=1)&&decide (L<=4))<;>cases decide (bn xs<=12)<;>simp
def nr (s l:Int)(nx:List Int)(es:List Bool):Bool:=
 (decide (s>=1)&&decide (s<=64))&&((decide (l>=1)&&decide (l<=4))&&((bn nx==dX .i64 s l)&&((bn es==s)&&ob nx 0 (bW .i64 s 1))))
theorem sN {s l:Int}{nx:List Int}{es:List Bool}(h:nx.length<=4294967296):cI (s,l,nx,es)=some (nr s l nx es):=by
 unfold cI nr;simp only [iY,nI h,η];cases (decide (s>=1)&&decide (s<=64))<;>cases (decide (l>=1)&&decide (l<=4))<;>cases (bn nx==dX .i64 s l)<;>cases (bn es==s)<;>cases ob nx 0 (bW .i64 s 1)<;>rfl
theorem uO {s l:Int}{nx:List Int}{es:List Bool}(h:nr s l nx es=true): ∃m c:Nat,s=(m:Int)/\l=(c:Int)/\1<=m/\m<=64/\1<=c/\c<=4/\nx.length=m*c/\es.length=m/\ ∀i,i<m*c-> ∃t:Nat,nx.getD i 0=(t:Int)/\t<m:=by
 unfold nr at h;simp only [κ,decide_eq_true_eq,beq_iff_eq] at h;obtain ⟨⟨J,R⟩,⟨T,U⟩,j,o,p⟩:=h;obtain ⟨m,rfl⟩: ∃n:Nat,s=(n:Int):=⟨s.toNat,by omega⟩;obtain ⟨c,rfl⟩: ∃n:Nat,l=(n:Int):=⟨l.toNat,by omega⟩;have r:m*c<=64*4:=aaZ (by omega) (by omega);rw [uF (by rw [<-abu];omega),<-abu] at j;have I:nx.length=m*c:=by simp only [bn] at j;omega
 refine ⟨m,c,rfl,rfl,by omega,by omega,by omega,by omega,I,by simp only [bn] at o;omega,λi hi=> ?_⟩;have:=vB.1 p i (by omega);rw [gE (by omega)] at this;exact ⟨(nx.getD i 0).toNat,by omega,by omega⟩
structure Plain (m c:Nat)(nx:List Int)(es:List Bool):Prop where
 m1:1<=m
 m2:m<=64
 c1:1<=c
 c2:c<=4
 len:nx.length=m*c
 ends:es.length=m
 ZO: ∀i,i<m*c-> ∃t:Nat,nx.getD i 0=(t:Int)/\t<m
def BH (c:Nat)(nx:List Int)(s:Nat)(a:Int):Nat:=(nx.getD (s*c+a.toNat) 0).toNat
def cB (c:Nat)(nx:List Int)(s:Nat)(w:List Int):Nat:=w.foldl (BH c nx) s
theorem uP {m c s a:Nat}(j:s<m)(o:a<c):s*c+a<m*c:=by
 have:s*c+c<=m*c:=by
  rw [<-agf];exact Nat.mul_le_mul_right c j
 omega
section
variable {m c:Nat} {nx:List Int} {es:List Bool} (hp:Plain m c nx es)
include hp
theorem Ko {s:Nat}{a:Int}{k:Nat}(j:s<m)(o:a=(k:Int))(p:k<c):BH c nx s a<m:=by
 subst o;obtain ⟨t,r,I⟩:=hp.ZO (s*c+k) (uP j p);unfold BH;rw [Α,r];simpa using I
theorem GX {s:Nat}{a:Int}{k:Nat}(j:s<m)(o:a=(k:Int))(p:k<c):cP ((m:Int),(c:Int),nx,es) (s:Int) a=some ((BH c nx s a:Nat):Int):=by
 subst o;have r:=uP j p;have I:m*c<=64*4:=aaZ hp.m2 hp.c2;obtain ⟨t,J,R⟩:=hp.ZO (s*c+k) r;have:=hp.m2;have:=hp.c2;have:=hp.len;have e:bz .i64 (dX .i64 (s:Int) (c:Int)) (k:Int)=((s*c+k:Nat):Int):=S8 (by omega) (by omega) (by omega);unfold cP BH;simp only [e,Α,guard_pos (show (0:Int)<=((s*c+k:Nat):Int)/\((s*c+k:Nat):Int)<bn nx from by simp only [bn];omega),J]
end
theorem HS {c:Nat}{nx w:List Int}{s k:Nat}(j:k<w.length):cB c nx s (w.take (k+1))=BH c nx (cB c nx s (w.take k)) (w.getD k 0):=by
 rw [gV j 0];unfold cB;rw [List.foldl_append];rfl
end Go.Proofs
namespace Go.Proofs
open Go.Ide Go.IntWalk
def Aq (s l:Int)(r:Int×Int×Int×Int):Bool:=
 (decide (r.1>=0)&&decide (r.1<=bW .i64 s 1))&&((decide (r.2.1>=0)&&decide (r.2.1<=bW .i64 s 1))&&((decide (r.2.2.1>= -1)&&decide (r.2.2.1<=bW .i64 l 1))&&(decide (r.2.2.2>=0)&&decide (r.2.2.2<=1000))))
def Fm (s l:Int)(zs:List (Int×Int×Int×Int)):Bool:=wI (λi=>Aq s l (zs.getD i (0,0,0,0))) zs.length 0
def mX (s l:Int)(zs:List (Int×Int×Int×Int))(ss es:List Int):Bool:=
 (decide (s>=1)&&decide (s<=16))&&((decide (l>=1)&&decide (l<=4))&&((!decide (bn zs>128))&&(Fm s l zs&&((ob ss (-1) 1000&&(bn ss==s))&&(ob es (-1) 1000&&(bn es==s))))))
theorem pI {s l:Int}{zs:List (Int×Int×Int×Int)}{ss es:List Int}(h:zs.length<=4294967296)(o:ss.length<=4294967296)(p:es.length<=4294967296):
 cy (s,l,zs,ss,es)=some (mX s l zs ss es):=by
 unfold cy mX;simp only [iY,η];have:=mI (f:=gi (s,l,zs,ss,es)) (λi=>((i:Nat):Int)) (λi=>Aq s l (zs.getD i (0,0,0,0))) (Sum.inl ()) (Sum.inr ()) (n:=zs.length) (λi j=>by
  unfold gi;simp only [kn j,cond_true,guard_pos (eO j),Α,iY,η,ca j h,Aq];generalize (decide ((zs.getD i (0,0,0,0)).1>=0)&&decide ((zs.getD i (0,0,0,0)).1<=bW .i64 s 1))=A;generalize (decide ((zs.getD i (0,0,0,0)).2.1>=0)&&decide ((zs.getD i (0,0,0,0)).2.1<=bW .i64 s 1))=B;generalize (decide ((zs.getD i (0,0,0,0)).2.2.1>= -1)&&decide ((zs.getD i (0,0,0,0)).2.2.1<=bW .i64 l 1))=C;generalize (decide ((zs.getD i (0,0,0,0)).2.2.2>=0)&&decide ((zs.getD i (0,0,0,0)).2.2.2<=1000))=D;cases A<;>cases B<;>cases C<;>cases D<;>rfl) (by
  unfold gi;simp only [ky (ς _),cond_false]) zs.length 0 (by omega)
 simp only [abC] at this;rw [show wI (λi=>Aq s l (zs.getD i (0,0,0,0))) zs.length 0=Fm s l zs from rfl] at this;simp only [this,nI o,nI p,η];generalize (decide (s>=1)&&decide (s<=16))=A;generalize (decide (l>=1)&&decide (l<=4))=B;generalize decide (bn zs>128)=C;generalize Fm s l zs=D;generalize ob ss (-1) 1000=E;generalize (bn ss==s)=r;generalize ob es (-1) 1000=F;generalize (bn es==s)=t;cases A<;>cases B<;>cases C<;>cases D<;>cases E<;>cases r<;>cases F<;>cases t<;>rfl
def vC (s l:Int)(r:Int×Int×Int×Int):Bool:=
 (decide (r.1>=0)&&decide (r.1<=bW .i64 s 1))&&((decide (r.2.2.1>= -1)&&decide (r.2.2.1<=bW .i64 s 1))&&((decide (r.2.2.2>=0)&&decide (r.2.2.2<=1000))&&
  (decide (r.2.1>=0)&&decide (r.2.1<=bif decide (r.2.2.1<0) then bW .i64 l 1 else bW .i64 s 1))))
def BI (s l:Int)(rs:List (Int×Int×Int×Int)):Bool:=wI (λi=>vC s l (rs.getD i (0,0,0,0))) rs.length 0
def oL (s l:Int)(rs:List (Int×Int×Int×Int)):Bool:=
 (decide (s>=1)&&decide (s<=8))&&((decide (l>=1)&&decide (l<=4))&&((!decide (bn rs>32))&&BI s l rs))
theorem pJ {s l:Int}{rs:List (Int×Int×Int×Int)}(h:rs.length<=4294967296):db (s,l,rs)=some (oL s l rs):=by
 unfold db oL;simp only [iY,η];have:=mI (f:=gq (s,l,rs)) (λi=>((i:Nat):Int)) (λi=>vC s l (rs.getD i (0,0,0,0))) (Sum.inl ()) (Sum.inr ()) (n:=rs.length) (λi o=>by
  unfold gq;simp only [kn o,cond_true,guard_pos (eO o),Α,ca o h,vC];obtain ⟨r,p⟩: ∃r,rs.getD i (0,0,0,0)=r:=⟨_,rfl⟩;simp only [p];have t:(bif (r.2.2.1==(-1:Int)) then some (bW .i64 l 1) else some (bW .i64 s 1))=some (bif (r.2.2.1==(-1:Int)) then bW .i64 l 1 else bW .i64 s 1):=by cases (r.2.2.1==(-1:Int))<;>rfl
  simp only [t,iY,η];by_cases j:(decide (r.2.2.1>= -1)&&decide (r.2.2.1<=bW .i64 s 1))=true;have I:(r.2.2.1==(-1:Int))=decide (r.2.2.1<0):=by
   simp only [κ,decide_eq_true_eq] at j;rw [agF];simp only [beq_iff_eq,decide_eq_true_eq];omega
  rw [I,j];generalize (decide (r.1>=0)&&decide (r.1<=bW .i64 s 1))=A;generalize (decide (r.2.2.2>=0)&&decide (r.2.2.2<=1000))=D;generalize (decide (r.2.1>=0)&&decide (r.2.1<=bif decide (r.2.2.1<0) then bW .i64 l 1 else bW .i64 s 1))=E;cases A<;>cases D<;>cases E<;>rfl;rw [Bool.not_eq_true] at j;rw [j];generalize (decide (r.1>=0)&&decide (r.1<=bW .i64 s 1))=A;generalize (decide (r.2.2.2>=0)&&decide (r.2.2.2<=1000))=D;generalize (decide (r.2.1>=0)&&decide (r.2.1<=bif (r.2.2.1==(-1:Int)) then bW .i64 l 1 else bW .i64 s 1))=E;cases A<;>cases D<;>cases E<;>rfl) (by
  unfold gq;simp only [ky (ς _),cond_false]) rs.length 0 (by omega)
 simp only [abC] at this;rw [show wI (λi=>vC s l (rs.getD i (0,0,0,0))) rs.length 0=BI s l rs from rfl] at this;simp only [this,η];generalize (decide (s>=1)&&decide (s<=8))=A;generalize (decide (l>=1)&&decide (l<=4))=B;generalize decide (bn rs>32)=C;generalize BI s l rs=D;cases A<;>cases B<;>cases C<;>cases D<;>rfl
end Go.Proofs
namespace Go.Proofs
open Go.Ide Go.IntWalk
def R8 (p:List UInt8):List (List UInt8)->List (List UInt8)
 |[]=>[p]
 |h::t=>(p++h)::t
def jz (c:UInt8):List UInt8->List (List UInt8)
 |[]=>[[]]
 |b::l=>if b=c then []::jz c l else R8 [b] (jz c l)
theorem Rl (p:List UInt8)(l:List (List UInt8)):R8 p l≠[]:=by cases l<;>simp [R8]
theorem Fo (c:UInt8)(s:List UInt8):jz c s≠[]:=by
 cases s with
 |nil=>simp [jz]
 |cons b l=>
  unfold jz;split;simp;exact Rl _ _
theorem Fp {p:List UInt8}{l:List (List UInt8)}(h:l≠[]):(R8 p l).length=l.length:=by
 cases l with
 |nil=>exact absurd rfl h
 |cons=>rfl
theorem q8 (c:UInt8): ∀s:List UInt8,(jz c s).length=s.count c+1
 |[]=>rfl
 |b::l=>by
  unfold jz;split;rename_i e;subst e;simp [q8 b l];rename_i e;rw [Fp (Fo _ _),q8 c l,List.count_cons_of_ne (by simpa using e)]
theorem qp (c:UInt8): ∀s:List UInt8,aeL s [c]=jz c s
 |[]=>by
  have e:aaS [] [c]= -1:=by simp [aaS]
  unfold aeL;rw [ahg e];rfl
 |b::l=>by
  have ih:=qp c l;unfold aeL at ih⊢;unfold jz;by_cases e:b=c;subst e;rw [if_pos rfl,Lib.count_cons_eq,Nat.add_comm,aga,<-ih];have o:aaS (b::l) [b]=((0:Nat):Int):=by rw [aaS];simp [adb]
  rw [o];simp;rw [if_neg e,Lib.count_cons_ne b c l e,<-ih];cases t:Lib.count l [c] with
  |zero=>simp [aga,R8]
  |succ k=>
   have hp:([c]:List UInt8).isPrefixOf (b::l)=false:=by simp [adb,Ne.symm e]
   have o:aaS (b::l) [c]=if aaS l [c]== -1 then -1 else aaS l [c]+1:=by rw [aaS,hp];simp
   have I:aaS l [c]≠ -1:=λq=>by rw [ahg q] at t;cases t
   have J:=Lib.index_ge l [c];obtain ⟨j,R⟩: ∃j:Nat,aaS l [c]=j:=⟨(aaS l [c]).toNat,by omega⟩;have p:(((j:Nat):Int)== -1)=false:=by rw [beq_eq_false_iff_ne];omega
   have r:((((j:Nat):Int)+1)== -1)=false:=by rw [beq_eq_false_iff_ne];omega
   unfold aga;rw [o,R];simp only [p,r,acH,if_false];have T:(((j:Nat):Int)+1).toNat=j+1:=by omega
   rw [T,Α];simp [R8]
end Go.Proofs
namespace Go.Proofs
open Go.Ide Go.IntWalk
end Go.Proofs
namespace Go.Proofs
open Go.Ide Go.IntWalk
theorem Nr (c:UInt8)(a:List UInt8):1<=(jz c a).length:=by
 rw [q8];omega
theorem Fq (c:UInt8)(a:List UInt8):(jz c a).length<=a.length+1:=by
 rw [q8];have:=List.count_le_length (a:=c) (l:=a);omega
theorem Ux {l:List (List UInt8)}(h:1<=l.length)(j:l.length<=1048577):bW .i64 (bn l) 1=((l.length - 1:Nat):Int):=by
 rw [gE (by simp only [bn];omega)];simp only [bn];omega
def Ft (a:List UInt8):List (List UInt8):=(jz 10 a).take ((jz 10 a).length - 1)
def Kp (a:List UInt8):List UInt8:=(jz 10 a).getD ((jz 10 a).length - 1) []
theorem Fu {a:List UInt8}(h:a.length<=1048576):ml a=some (Ft a,decide (bn a<=16000)&&(Kp a==[])):=by
 have j:=Nr 10 a;have p:=Fq 10 a;have o:strings_Split a [10]=some (jz 10 a):=by
  unfold strings_Split;rw [guard_pos (show _/\_ from ⟨by omega,by simp⟩),qp]
 unfold ml;rw [o,η];simp only [Ux j (show (jz 10 a).length<=1048577 by omega)];rw [guard_pos (show _/\_ from ⟨by omega,by simp only [bn];omega⟩),guard_pos (show _/\_ from ⟨by omega,by simp only [bn];omega⟩),Α];cases decide (bn a<=16000)<;>rfl
end Go.Proofs
namespace Go.Proofs
open Go.Ide Go.IntWalk
def zG (u:Nat):List Int:=(abp u).map λb=>((b.toNat:Nat):Int)
theorem Fv {u:Nat}(h:u<10):zG u=[((48+u:Nat):Int)]:=by
 unfold zG;rw [abp,dif_pos h,aaa,ae7,acx,abk (by omega)]
theorem Kq {u:Nat}(h: ¬u<10):zG u=zG (u/10)++[((48+u%10:Nat):Int)]:=by
 unfold zG;rw [abp,dif_neg h,aa6,aaa,ae7,acx,abk (by omega)]
theorem wq (u:Nat):gy (zG u)=abp u:=by
 unfold gy zG;rw [List.map_map]
 conv=>rhs;rw [<-List.map_id (abp u)]
 apply List.map_congr_left;intro b _;simp
theorem Kr {m:Int}{u:Nat}{j:List Int}(o:m.natAbs=u)(T:u<=9223372036854775808)(U:m<=9223372036854775807)(p:j=[]\/m≠0)(h5:j.length<=1000):
 gX (m,j)=some (.inl (ads m 10,((48+u%10:Nat):Int)::j)):=by
 have r:(bif (bn j==0) then some true else some (m != 0))=some true:=by
  rcases p with rfl|h
  rfl;have:(m != 0)=true:=by simpa using h
  rw [this];cases (bn j==0)<;>rfl
 have t:(bif decide (aac m 10<0) then some (Ρ .i64 (0 - aac m 10)) else some (aac m 10))=some ((u%10:Nat):Int):=by
  rcases ahK m with e|e
  rw [e,o];have:aac (u:Int) 10=((u%10:Nat):Int):=rfl;rw [this,show decide (((u%10:Nat):Int)<0)=false by simp only [decide_eq_false_iff_not];omega,cond_false];rw [e,o];have:aac (-(u:Int)) 10= -((u%10:Nat):Int):=by rw [Int.neg_tmod];rfl
  rw [this];by_cases I:u%10=0;rw [I];rfl;rw [show decide (-((u%10:Nat):Int)<0)=true by simp only [decide_eq_true_eq];omega,cond_true,i64_in _ (by omega)]
  congr 1
  omega
 have J:Ρ .i64 (ads m 10)=ads m 10:=by
  apply i64_in;rcases ahK m with e|e
  rw [e,o];have:ads (u:Int) 10=((u/10:Nat):Int):=rfl;rw [this];omega;rw [e,o];have:ads (-(u:Int)) 10= -((u/10:Nat):Int):=by rw [Int.neg_tdiv];rfl
  rw [this];omega
 have R:Ρ .u8 (bz .i64 48 ((u%10:Nat):Int))=((48+u%10:Nat):Int):=by
  rw [eX (by omega),u8_in _ (by omega)];omega
 unfold gX;simp only [r,η,cond_true,t,J,R];rw [guard_pos (by simp only [Η,Χ];unfold bD;omega)];rfl
theorem Ns {j:List Int}(h:j≠[]):gX (0,j)=some (.inr j):=by
 have e:(bn j==0)=false:=by
  rw [beq_eq_false_iff_ne];have:=adA.2 h;simp only [bn];omega
 unfold gX;simp only [e,cond_false,bne_self_eq_false,η]
theorem yF (m:Int):(ads m 10).natAbs=m.natAbs/10:=by
 rw [Int.natAbs_tdiv];rfl
theorem Fw: ∀(u:Nat) (m:Int) (j:List Int),m.natAbs=u->(j=[]\/u≠0)->u<=9223372036854775808->m<=9223372036854775807->j.length+adu u<=1000->
 rounds (gX) (m,j)=some (zG u++j):=by
 intro u;induction u using aa7 with
 |_ u ih=>
  intro m j p r t I J;rw [dM,Kr p t I (r.imp id λh e=>h (by rw [<-p,e];rfl)) (by omega)];show rounds _ _=_;by_cases o:u<10;have e:ads m 10=0:=by
   have:=yF m;omega
  rw [e,dM,Ns (by simp),Fv o,abk o];rfl;have R:adu u=adu (u/10)+1:=by rw [adu,dif_neg o]
  rw [ih (u/10) (by omega) _ _ (by rw [yF,p]) (.inr (by omega)) (by omega) (by
   have:=yF m;omega) (by simp only [Η];omega),Kq o]
  simp
theorem Fx {n:Int}(h: -9223372036854775808<=n/\n<=9223372036854775807):adu n.natAbs<=21:=by
 have:=af9 n h.1 h.2;unfold ϡ at this;split at this;rw [Η,adv] at this;omega;rw [adv,show n.toNat=n.natAbs by omega] at this;exact this
theorem Fy {n:Int}(h: -9223372036854775808<=n/\n<=9223372036854775807):jF n=some (ϡ n):=by
 have o:=Fx h;unfold jF;rw [Fw n.natAbs n [] rfl (.inl rfl) (by omega) h.2 (by simp;omega),η,List.append_nil];unfold ϡ;by_cases j:n<0;rw [show decide (n<0)=true by simpa using j,cond_true,if_pos j,guard_pos (by
  simp only [Η,Χ];unfold zG bD;rw [Ϝ,adv];omega),η]
 show some (gy (45::zG n.natAbs))=_;rw [<-wq];rfl;rw [show decide (n<0)=false by simpa using j,cond_false,η,wq,if_neg j,show n.toNat=n.natAbs by omega]
theorem uQ {n:Int}(h: -9223372036854775808<=n/\n<=9223372036854775807):iI n=some (ϡ n):=by
 unfold iI lI;rw [guard_pos (show _/\_/\_ from ⟨rfl,h.1,h.2⟩)];rfl
end Go.Proofs
namespace Go.Proofs
open Go.Ide Go.IntWalk
def fV (c:UInt8):List UInt8->Nat
 |[]=>0
 |b::l=>if b=c then 0 else fV c l+1
theorem Nt (c:UInt8): ∀s:List UInt8,fV c s<=s.length
 |[]=>ς _
 |b::l=>by
  have:=Nt c l;unfold fV;split;omega;simp;omega
theorem nt (c:UInt8): ∀s:List UInt8,acv s c=if fV c s=s.length then -1 else ((fV c s:Nat):Int)
 |[]=>rfl
 |b::l=>by
  have ih:=nt c l;unfold acv fV;by_cases e:b=c;subst e;simp;have j:(b==c)=false:=by simpa using e
  rw [j,if_neg (by simp),if_neg e,ih];by_cases h:fV c l=l.length;rw [if_pos h,if_pos (show ((-1:Int)== -1)=true from rfl),if_pos (show fV c l+1=(b::l).length by simp [h])];have:(((fV c l:Nat):Int)== -1)=false:=by rw [beq_eq_false_iff_ne];omega
  rw [if_neg h,this,if_neg (show¬false=true by simp),if_neg (show¬fV c l+1=(b::l).length by simp [h])];omega
theorem tN (c:UInt8): ∀s:List UInt8,aaS s [c]=acv s c
 |[]=>by simp [aaS,acv]
 |b::l=>by
  have ih:=tN c l;unfold acv;by_cases e:b=c;subst e;rw [aaS];simp [adb];have hp:([c]:List UInt8).isPrefixOf (b::l)=false:=by simp [adb,Ne.symm e]
  have j:(b==c)=false:=by simpa using e
  rw [aaS,hp,j,ih]
theorem Nu (c:UInt8)(s:List UInt8):Lib.cut s [c]=if fV c s=s.length then (s,[],false) else (s.take (fV c s),s.drop (fV c s+1),true):=by
 unfold Lib.cut;rw [tN,nt];by_cases h:fV c s=s.length;rw [if_pos h,if_pos h];rfl;rw [if_neg h,if_neg h,if_pos (by omega)];simp
end Go.Proofs
namespace Go.Proofs
open Go.Ide Go.IntWalk
def jn (p:List UInt8):List (List UInt8)->List UInt8
 |[]=>[]
 |x::[]=>x
 |x::y::r=>x++p++jn p (y::r)
theorem BJ (p:List UInt8): ∀l:List (List UInt8),afi l p=jn p l
 |[]=>rfl
 |[x]=>by simp [afi,jn,aec]
 |x::y::r=>by
  have ih:=BJ p (y::r);unfold afi aec at ih;unfold afi aec jn;rw [<-ih];simp [List.intersperse]
theorem GY (p x:List UInt8): ∀l:List (List UInt8),l≠[]->jn p (l++[x])=jn p l++(p++x)
 |[],h=>absurd rfl h
 |[y],_=>by simp [jn]
 |y::z::r,_=>by
  have ih:=GY p x (z::r) (by simp);simp only [ade] at ih⊢;simp only [jn,ih,ό]
theorem BK {p:List UInt8}{k:Nat}: ∀l:List (List UInt8),(∀x∈l,x.length<=k)->(jn p l).length<=l.length*(k+p.length)
 |[],_=>by simp [jn]
 |[x],h=>by
  have:=h x (by simp);simp [jn];omega
 |x::y::r,h=>by
  have ih:=BK (p:=p) (y::r) λz j=>h z (ύ _ j);have:=h x (by simp);simp only [jn,ξ];rw [Η,agf];omega
def fg (n:Int):Prop:= -9223372036854775808<=n/\n<=9223372036854775807
def tx (xs:List Int):List UInt8:=if xs=[] then [110,111,110,101] else jn [44] (xs.map ϡ)
theorem vD {n:Int}(h:fg n):(ϡ n).length<=21:=af9 n h.1 h.2
theorem BL {xs:List Int}(h: ∀x∈xs,fg x):(jn [44] (xs.map ϡ)).length<=xs.length*22:=by
 have:=BK (p:=[44]) (k:=21) (xs.map ϡ) λx j=>by
  obtain ⟨n,o,rfl⟩:=Ϣ.1 j;exact vD (h n o)
 simpa using this
theorem vE {xs:List Int}(h: ∀x∈xs,fg x):(tx xs).length<=xs.length*22+4:=by
 unfold tx;split;simp;have:=BL h;omega
theorem yG {xs:List Int}{i:Nat}(h:i<xs.length):xs.getD i 0∈xs:=by
 rw [ψ,Γ h];exact ab9 h
theorem Ks {xs:List Int}(h:xs.length<=1048576)(o: ∀x∈xs,fg x):dx xs=some (tx xs):=by
 unfold dx tx;by_cases e:xs=[];subst e;rfl;have hp:=adA.2 e;rw [if_neg e,show (bn xs==0)=false by rw [beq_eq_false_iff_ne];simp only [bn];omega,cond_false,guard_pos (show _/\_ from ⟨by omega,by simp only [bn];omega⟩)];have t:jF (ε xs (δ 0) 0)=some (ϡ (xs.getD 0 0)):=Fy (o _ (yG hp));rw [t,η];obtain ⟨r,I,J⟩: ∃r,rounds (iS xs) (ϡ (xs.getD 0 0),(1:Int))=some r/\r=jn [44] (xs.map ϡ):=by
  refine fG (f:=iS xs) (λ(n:Nat) (s:List UInt8×Int)=> ∃i:Nat,s=(jn [44] ((xs.take i).map ϡ),(i:Int))/\1<=i/\i<=xs.length/\n=xs.length - i) (λr=>r=jn [44] (xs.map ϡ)) (λn s R=> ?_) (xs.length - 1) _ ⟨1,?_,ς _,hp,rfl⟩;obtain ⟨i,rfl,k1,T,rfl⟩:=R;have hl:(jn [44] ((xs.take i).map ϡ)).length<=i*22:=by
   have:=BL (xs:=xs.take i) λx U=>o x (List.mem_of_mem_take U);rw [ώ,aas T] at this;exact this
  by_cases j:i<xs.length;left;have p:=o _ (yG j);have aa:=vD p;refine ⟨xs.length - (i+1),(jn [44] ((xs.take (i+1)).map ϡ),((i+1:Nat):Int)),by omega,?_,i+1,rfl,by omega,j,rfl⟩;unfold iS;simp only [show decide ((i:Int)<bn xs)=true from kn j,cond_true,guard_pos (eO j),Α,Fy p,η];rw [guard_pos (by simp only [Η,Χ];unfold bD;omega),guard_pos (by simp only [ξ,Η,Χ];unfold bD;omega),ca j (by omega)]
  congr 3
  rw [gV j 0,aa6];exact (GY _ _ _ (by
   intro q;have:=congrArg ζ q;simp only [Ϝ,ώ,Χ] at this;omega)).symm
  right;have:i=xs.length:=by omega
  subst this;refine ⟨_,?_,rfl⟩;unfold iS;simp only [show decide (((xs.length:Nat):Int)<bn xs)=false from ky (ς _),cond_false,aan];cases xs with
  |nil=>exact absurd rfl e
  |cons x r=>simp [jn]
 rw [I,J];rfl
def dv (xs:List Int):Bool:=ob xs (-1000000000000000) 1000000000000000&&decide (bn xs<=64)
theorem Kt {xs:List Int}(h:xs.length<=4294967296):lY xs=some (dv xs):=by
 unfold lY dv;have:=mI (f:=jv xs) (λi=>((i:Nat):Int)) (λi=>decide (xs.getD i 0>= -1000000000000000)&&decide (xs.getD i 0<=1000000000000000)) (Sum.inl ()) (Sum.inr ()) (n:=xs.length) (λi j=>by
  unfold jv qY;simp only [kn j,cond_true,guard_pos (eO j),Α,iY,η,ca j h];cases (decide (xs.getD i 0>= -1000000000000000)&&decide (xs.getD i 0<=1000000000000000))<;>rfl) (by
  unfold jv;simp only [ky (ς _),cond_false]) xs.length 0 (by omega)
 rw [GW] at this;simp only [abC] at this;simp only [this,η];cases ob xs (-1000000000000000) 1000000000000000<;>simp
theorem ja {xs:List Int}{b c:Int}:ob xs b c=true↔ ∀x∈xs,b<=x/\x<=c:=by
 unfold ob;rw [ϣ];simp only [κ,decide_eq_true_eq]
theorem eT {xs:List Int}(h:dv xs=true):(∀x∈xs,fg x)/\xs.length<=64:=by
 unfold dv at h;simp only [κ,decide_eq_true_eq,bn] at h;exact ⟨λx j=>by
  have:=ja.1 h.1 x j;unfold fg;omega,by omega⟩
theorem HU {xs:List Int}(h:xs.length<=1048576)(o: ∀x∈xs,fg x):nh xs=some (tx xs):=by
 have J:=BL o;have:=py (f:=jT xs) (λi (s:List (List UInt8))=>(((i:Nat):Int),s)) (λi s=>s++[ϡ (xs.getD i 0)]) id (n:=xs.length) (λi s=>s=(xs.take i).map ϡ) (λi s j p=>⟨by
  have I:s.length<=i:=by rw [p,Ϝ,ώ];omega
  unfold jT;simp only [show decide ((i:Int)<bn xs)=true from kn j,cond_true,guard_pos (eO j),Α,uQ (o _ (yG j)),η];rw [guard_pos (by simp only [Η,Χ];unfold bD;omega),ca j (by omega)],by
  rw [p,gV j 0,aa6];rfl⟩) (λs _=>by
  unfold jT;simp only [show decide (((xs.length:Nat):Int)<bn xs)=false from ky (ς _),cond_false];rfl) xs.length 0 [] (by omega) (by simp)
 obtain ⟨r,t⟩:=this;rw [aan] at t;simp only [abC,id,t] at r;unfold nh;rw [r,η];unfold rS tx;by_cases e:xs=[];subst e;rfl;have hp:=adA.2 e;rw [if_neg e,show (bn (xs.map ϡ)==0)=false by rw [beq_eq_false_iff_ne];simp only [bn,Ϝ];omega,cond_false];unfold strings_Join;rw [BJ,guard_pos (show _/\_ from ⟨by rw [Ϝ];omega,by omega⟩)];rfl
theorem mo {xs:List Int}(h:xs.length<=1048576):gC xs=some (bif dv xs then (tx xs,true) else ([],false)):=by
 unfold gC;rw [Kt (by omega),η];cases e:dv xs with
 |false=>rfl
 |true=>
  rw [HU h (eT e).1];rfl
theorem pR {ls:List (List Int)}(h:ls.length<=1000)(J: ∀l∈ls,l.length<=1048576):hZ ls=some (bif ls.all dv then (jn [59] (ls.map tx),true) else ([],false)):=by
 obtain ⟨r,R,T⟩: ∃r,rounds (eY ls) ((0:Int),([]:List (List UInt8)))=some r/\r=bif ls.all dv then .inl (ls.map tx) else .inr ():=by
  refine fG (f:=eY ls) (λ(n:Nat) (s:Int×List (List UInt8))=> ∃i:Nat,s=((i:Int),(ls.take i).map tx)/\i<=ls.length/\n=ls.length - i/\(ls.take i).all dv=true) (λr=>r=bif ls.all dv then .inl (ls.map tx) else .inr ()) (λn s U=> ?_) ls.length _ ⟨0,by simp,ϟ _,rfl,by simp⟩;obtain ⟨i,rfl,k1,rfl,o⟩:=U;by_cases j:i<ls.length;have t:ls.getD i []∈ls:=by
   rw [ψ,Γ j];exact ab9 j
  cases e:dv (ls.getD i []) with
  |true=>
   left;refine ⟨ls.length - (i+1),(((i+1:Nat):Int),(ls.take (i+1)).map tx),by omega,?_,i+1,rfl,j,rfl,by rw [gV j [],agG,o,acn,e];rfl⟩;unfold eY;simp only [show decide ((i:Int)<bn ls)=true from kn j,cond_true,guard_pos (eO j),Α,mo (J _ t),e,η,ϔ,cond_false];rw [guard_pos (by simp only [Ϝ,ώ,Η,Χ];unfold bD;omega),ca j (by omega),gV j [],aa6];rfl
  |false=>
   right;refine ⟨.inr (),?_,?_⟩;unfold eY;simp only [show decide ((i:Int)<bn ls)=true from kn j,cond_true,guard_pos (eO j),Α,mo (J _ t),e,η,acO,cond_true,cond_false];have:ls.all dv=false:=by
    rw [afX];intro q;rw [ϣ] at q;rw [q _ t] at e;cases e
   rw [this];rfl
  right;have:i=ls.length:=by omega
  subst this;rw [aan] at o⊢;refine ⟨.inl (ls.map tx),?_,by rw [o];rfl⟩;unfold eY;simp only [show decide (((ls.length:Nat):Int)<bn ls)=false from ky (ς _),cond_false]
 unfold hZ;rw [R,T];cases e:ls.all dv with
 |false=>rfl
 |true=>
  simp only [cond_true,η];have hj:(jn [59] (ls.map tx)).length<=(ls.map tx).length*(1412+1):=BK (p:=[59]) (ls.map tx) λx hx=>by
   obtain ⟨l,I,rfl⟩:=Ϣ.1 hx;obtain ⟨q1,q2⟩:=eT (ϣ.1 e l I);have:=vE q1;omega
  rw [Ϝ] at hj;unfold strings_Join;rw [BJ,guard_pos (show _/\_ from ⟨by rw [Ϝ];omega,by omega⟩)];rfl
end Go.Proofs
namespace Go.Proofs
open Go.Ide Go.IntWalk
abbrev Q4:=Int×Int×Int×Int
def j6 (zs:List Q4):List Int:=zs.flatMap λr=>[r.1,r.2.1,r.2.2.1,r.2.2.2]
theorem qt (zs:List Q4):(j6 zs).length=4*zs.length:=by
 unfold j6;induction zs with
 |nil=>rfl
 |cons r zs ih=>rw [List.flatMap_cons,ξ,ih,Η];simp;omega
theorem Fz (zs:List Q4)(r:Q4):j6 (zs++[r])=j6 zs++[r.1,r.2.1,r.2.2.1,r.2.2.2]:=by
 unfold j6;rw [List.flatMap_append];simp
theorem G0 {f:Int×List Int->Option ((Int×List Int)⊕List Int)}{zs:List Q4}(h:zs.length<=1048576)(j: ∀(i:Nat) (s:List Int),i<zs.length->s.length<=4*i->f ((i:Int),s)=some (.inl (((i+1:Nat):Int),s++[(zs.getD i (0,0,0,0)).1,(zs.getD i (0,0,0,0)).2.1,(zs.getD i (0,0,0,0)).2.2.1,(zs.getD i (0,0,0,0)).2.2.2])))(o: ∀s:List Int,f (((zs.length:Nat):Int),s)=some (.inr s)):rounds f ((0:Int),([]:List Int))=some (j6 zs):=by
 have:=py (f:=f) (λi (s:List Int)=>(((i:Nat):Int),s)) (λi s=>s++[(zs.getD i (0,0,0,0)).1,(zs.getD i (0,0,0,0)).2.1,(zs.getD i (0,0,0,0)).2.2.1,(zs.getD i (0,0,0,0)).2.2.2]) id (n:=zs.length)
  (λi s=>s=j6 (zs.take i)) (λi s p r=>⟨j i s p (by rw [r,qt,ώ];omega),by rw [r,gV p (0,0,0,0),Fz]⟩) (λs _=>o s) zs.length 0 [] (by omega) (by simp [j6])
 obtain ⟨t,I⟩:=this;rw [aan] at I;simp only [abC,id,I] at t;exact t
theorem Ku {zs:List Q4}(h:zs.length<=1048576):ov zs=some (j6 zs):=by
 unfold ov;rw [G0 (f:=kA zs) h (λi s j o=>by
  unfold kA;simp only [show decide ((i:Int)<bn zs)=true from kn j,cond_true,guard_pos (eO j),Α];rw [guard_pos (by simp only [Η,Χ];unfold bD;omega),ca j (by omega)]) (λs=>by
  unfold kA;simp only [show decide (((zs.length:Nat):Int)<bn zs)=false from ky (ς _),cond_false])]
 rfl
theorem HV {zs:List Q4}(h:zs.length<=1048576):nc zs=some (j6 zs):=by
 unfold nc;rw [G0 (f:=jR zs) h (λi s j o=>by
  unfold jR;simp only [show decide ((i:Int)<bn zs)=true from kn j,cond_true,guard_pos (eO j),Α];rw [guard_pos (by simp only [Η,Χ];unfold bD;omega),ca j (by omega)]) (λs=>by
  unfold jR;simp only [show decide (((zs.length:Nat):Int)<bn zs)=false from ky (ς _),cond_false])]
 rfl
theorem Kv {s l:Int}{zs:List Q4}{ss es:List Int}(h:zs.length<=1048576):rounds (gO (s,l,zs,ss,es)) ((0:Int),([]:List Int))=some (j6 zs):=
 G0 h (λi s j o=>by
  unfold gO;simp only [show decide ((i:Int)<bn zs)=true from kn j,cond_true,guard_pos (eO j),Α,η];rw [guard_pos (by simp only [Η,Χ];unfold bD;omega),ca j (by omega)]) (λs=>by
  unfold gO;simp only [show decide (((zs.length:Nat):Int)<bn zs)=false from ky (ς _),cond_false])
theorem HW {s l:Int}{zs:List Q4}(h:zs.length<=1048576):rounds (gS (s,l,zs)) ((0:Int),([]:List Int))=some (j6 zs):=
 G0 h (λi s j o=>by
  unfold gS;simp only [show decide ((i:Int)<bn zs)=true from kn j,cond_true,guard_pos (eO j),Α];rw [guard_pos (by simp only [Η,Χ];unfold bD;omega),ca j (by omega)]) (λs=>by
  unfold gS;simp only [show decide (((zs.length:Nat):Int)<bn zs)=false from ky (ς _),cond_false])
theorem Rm {s l:Int}(o: -1000000000000000<=s/\s<=1000000000000000)(p: -1000000000000000<=l/\l<=1000000000000000):dv [s,l]=true:=by
 unfold dv;rw [κ,ja];refine ⟨λx j=> ?_,by simp [bn]⟩;simp only [ϖ,aak,or_false] at j;rcases j with rfl|rfl<;>omega
theorem qu {β:Type}{a b:List UInt8}{k:Option β}(h:a.length+b.length<=1000000000):br (ζ a+ζ b<=bD) k=k:=
 guard_pos (by unfold bD;omega)
theorem DD {xs:List Int}(h:dv xs=true):(tx xs).length<=1412:=by
 obtain ⟨q1,j⟩:=eT h;have:=vE q1;omega
theorem HX {s l:Int}{nx:List Int}{es:List Bool}:ql (s,l,nx,es)=eZ (s,l,nx,es):=rfl
end Go.Proofs
namespace Go.Proofs
open Go.Ide Go.IntWalk
end Go.Proofs
namespace Go.Proofs
open Go.Ide Go.IntWalk
noncomputable def FA (ps:List (List UInt8)):Bool:=ps.all λp=>(qm p).2
noncomputable def Rn (ps:List (List UInt8)):List Int:=ps.map λp=>(qm p).1
theorem Gr {α β:Type}{f:Int×List α->Option ((Int×List α)⊕(List α⊕Unit))}{ps:List β}(d:β)(R:β->α×Bool)(hn:ps.length<=4000000)(j: ∀(i:Nat) (out:List α),i<ps.length->out.length<=i->f ((i:Int),out)=some (bif (R (ps.getD i d)).2 then .inl (((i+1:Nat):Int),out++[(R (ps.getD i d)).1]) else .inr (.inr ())))(t: ∀out:List α,f (((ps.length:Nat):Int),out)=some (.inr (.inl out))):
 rounds f ((0:Int),([]:List α))=some (bif ps.all λp=>(R p).2 then .inl (ps.map λp=>(R p).1) else .inr ()):=by
 obtain ⟨r,T,U⟩: ∃r,rounds f ((0:Int),([]:List α))=some r/\r=bif ps.all λp=>(R p).2 then .inl (ps.map λp=>(R p).1) else .inr ():=by
  refine fG (f:=f) (λ(n:Nat) (s:Int×List α)=> ∃i:Nat,s=((i:Int),(ps.take i).map λp=>(R p).1)/\i<=ps.length/\n=ps.length - i/\((ps.take i).all λp=>(R p).2)=true) _ (λn s hR=> ?_) ps.length _ ⟨0,by simp,ϟ _,rfl,by simp⟩;obtain ⟨i,rfl,k1,rfl,J⟩:=hR;by_cases o:i<ps.length;have I:=j i ((ps.take i).map λp=>(R p).1) o (by rw [Ϝ,ώ];omega);have hm:ps.getD i d∈ps:=by
   rw [ψ,Γ o];exact ab9 o
  cases e:(R (ps.getD i d)).2 with
  |true=>
   left;rw [e,cond_true] at I;exact ⟨ps.length - (i+1),_,by omega,I,i+1,by rw [gV o d,aa6];rfl,o,rfl,by rw [gV o d,agG,J,acn,e];rfl⟩
  |false=>
   right;rw [e,cond_false] at I;refine ⟨_,I,?_⟩;have:(ps.all λp=>(R p).2)=false:=by
    rw [afX];intro q;rw [ϣ] at q;have:=q _ hm;rw [e] at this;cases this
   rw [this];rfl
  right;have:i=ps.length:=by omega
  subst this;rw [aan] at J⊢;exact ⟨_,t _,by rw [J];rfl⟩
 rw [T,U]
theorem yH {α:Type}{f:Int×List α->Option ((Int×List α)⊕(List α⊕Unit))}{ps:List (List UInt8)}(R:List UInt8->α×Bool)(r:ps.length<=4000000)(j: ∀(i:Nat) (out:List α),i<ps.length->out.length<=i->f ((i:Int),out)=some (bif (R (ps.getD i [])).2 then .inl (((i+1:Nat):Int),out++[(R (ps.getD i [])).1]) else .inr (.inr ())))(o: ∀out:List α,f (((ps.length:Nat):Int),out)=some (.inr (.inl out))):
 rounds f ((0:Int),([]:List α))=some (bif ps.all λp=>(R p).2 then .inl (ps.map λp=>(R p).1) else .inr ()):=Gr [] R r j o
noncomputable def mY (s:List UInt8):List Int×Bool:=
 bif s==[110,111,110,101] then ([],true) else
  bif FA (jz 44 s)&&decide ((jz 44 s).length<=64) then (Rn (jz 44 s),true) else ([],false)
theorem w9 {c:UInt8}: ∀{s p:List UInt8},p∈jz c s->p.length<=s.length
 |[],p,h=>by
  have h:p∈[[]]:=h;simp at h;subst h;simp
 |b::l,p,h=>by
  unfold jz at h;split at h;rcases ϖ.1 h with rfl|h
  simp;have:=w9 h;simp only [Η];omega;cases j:jz c l with
  |nil=>exact absurd j (Fo _ _)
  |cons q r=>
   rw [j] at h;have h:p∈([b]++q)::r:=h;rcases ϖ.1 h with rfl|h
   have:=w9 (c:=c) (s:=l) (p:=q) (by rw [j];simp);simp;omega;have:=w9 (c:=c) (s:=l) (p:=p) (by rw [j];exact ύ _ h);simp only [Η];omega
theorem yI {c:UInt8}{s:List UInt8}(i:Nat):((jz c s).getD i []).length<=s.length:=by
 rw [ψ];cases h:(jz c s)[i]? with
 |none=>simp
 |some p=>exact w9 (List.mem_of_getElem? h)
theorem wu {s:List UInt8}(h:s.length<=1048576):iZ s=some (mY s):=by
 unfold iZ pP rT mY;cases (s==[110,111,110,101]) with
 |true=>
  simp only [cond_true,η];rw [yH (f:=iw []) (ps:=[]) qm (by simp) (λi out j=>by simp at j) (λout=>rfl)];rfl
 |false=>
  have I:=Fq 44 s;have t:strings_Split s [44]=some (jz 44 s):=by
   unfold strings_Split;rw [guard_pos (show _/\_ from ⟨by omega,by simp⟩),qp]
  simp only [cond_false,t,η];rw [yH (f:=iw (jz 44 s)) (ps:=jz 44 s) qm (by omega) (λi out j J=>by
   have o:eD ((jz 44 s).getD i [])=some (qm ((jz 44 s).getD i [])):=by
    unfold eD;rw [guard_pos (by have:=yI (c:=44) (s:=s) i;omega)]
   unfold iw;simp only [show decide ((i:Int)<bn (jz 44 s))=true from kn j,cond_true,guard_pos (eO j),Α,o,η];cases (qm ((jz 44 s).getD i [])).2 with
   |true=>rw [ϔ,cond_false,guard_pos (by simp only [Η,Χ];unfold bD;omega),ca j (by omega)];rfl
   |false=>rfl) (λout=>by
   unfold iw;simp only [show decide ((((jz 44 s).length:Nat):Int)<bn (jz 44 s))=false from ky (ς _),cond_false])]
  unfold FA Rn;cases (jz 44 s).all λp=>(qm p).2 with
  |false=>rfl
  |true=>
   simp only [cond_true,η,ϔ,cond_false,Bool.true_and,bn,Ϝ];by_cases r:(jz 44 s).length<=64;rw [show decide ((((jz 44 s).length:Nat):Int)>64)=false by simp only [decide_eq_false_iff_not];omega,show decide ((jz 44 s).length<=64)=true by simpa using r];rfl;rw [show decide ((((jz 44 s).length:Nat):Int)>64)=true by simp only [decide_eq_true_eq];omega,show decide ((jz 44 s).length<=64)=false by simpa using r];rfl
theorem yJ (s:List UInt8):(mY s).1.length<=64:=by
 unfold mY;cases (s==[110,111,110,101]) with
 |true=>simp
 |false=>
  rw [cond_false];cases j:(FA (jz 44 s)&&decide ((jz 44 s).length<=64)) with
  |false=>simp
  |true=>
   simp only [κ,decide_eq_true_eq] at j;rw [cond_true];simp only [Rn,Ϝ];exact j.2
theorem FB {s:List UInt8}{n:Int}(h:s.length<=1048576):fJ s n=some (bif (jz 59 s).all λp=>(mY p).2 then ((jz 59 s).map λp=>(mY p).1,(((jz 59 s).length:Nat):Int)==n) else ([],false)):=by
 have r:=Fq 59 s;have o:strings_Split s [59]=some (jz 59 s):=by
  unfold strings_Split;rw [guard_pos (show _/\_ from ⟨by omega,by simp⟩),qp]
 unfold fJ;rw [o,η,yH (f:=jy (jz 59 s)) (ps:=jz 59 s) mY (by omega) (λi out j t=>by
  unfold jy;simp only [show decide ((i:Int)<bn (jz 59 s))=true from kn j,cond_true,guard_pos (eO j),Α,wu (s:=(jz 59 s).getD i []) (by have:=yI (c:=59) (s:=s) i;omega),η];cases (mY ((jz 59 s).getD i [])).2 with
  |true=>rw [ϔ,cond_false,guard_pos (by simp only [Η,Χ];unfold bD;omega),ca j (by omega)];rfl
  |false=>rfl) (λout=>by
  unfold jy;simp only [show decide ((((jz 59 s).length:Nat):Int)<bn (jz 59 s))=false from ky (ς _),cond_false])]
 cases (jz 59 s).all λp=>(mY p).2 with
 |false=>rfl
 |true=>
  simp only [cond_true,η,bn,Ϝ]
theorem BM (c:UInt8)(b:List UInt8): ∀a:List UInt8,jz c (a++c::b)=jz c a++jz c b
 |[]=>by simp [jz]
 |x::a=>by
  have ih:=BM c b a;rw [ade,jz,jz];by_cases e:x=c;rw [if_pos e,if_pos e,ih];rfl;rw [if_neg e,if_neg e,ih];cases j:jz c a with
  |nil=>exact absurd j (Fo _ _)
  |cons q r=>rfl
theorem BN {c:UInt8}: ∀{b:List UInt8},(∀x∈b,x≠c)->jz c b=[b]
 |[],_=>rfl
 |x::b,h=>by
  rw [jz,if_neg (h x (by simp)),BN λy j=>h y (ύ _ j)];rfl
theorem HY (t:List UInt8):(aew ⟨t.toArray⟩ 59= -1/\jz 59 t=[t])\/ ∃i:Nat,i<t.length/\aew ⟨t.toArray⟩ 59=i/\jz 59 t=jz 59 (t.take i)++[t.drop (i+1)]:=by
 have hd: ∀j,j<t.length->((ByteArray.mk t.toArray).data[j]!)=t.getD j 0:=λj o=>by
  show t.toArray[j]! =_;simp [o]
 have I:(ByteArray.mk t.toArray).size=t.length:=rfl;have r: ∀j,j<t.length->((((ByteArray.mk t.toArray).data[j]!).toNat:Nat):Int)≠59->t.getD j 0≠59:=λj o h e=>by
  rw [hd j o,e] at h;exact h rfl
 rcases Lib.lastIndexByte_spec ⟨t.toArray⟩ 59 with ⟨p,J⟩|⟨i,p,J,R,h4⟩
 refine .inl ⟨p,BN λx T=> ?_⟩;obtain ⟨j,o,rfl⟩:=aaV T;have:=r j o (J j o);rwa [ψ,Γ o] at this;rw [I] at p h4;have U:t[i]=59:=by
  rw [hd i p,ψ,Γ p] at R;have R:((t[i].toNat:Nat):Int)=59:=R;apply ags.1;show _=59;omega
 refine .inr ⟨i,p,J,?_⟩;have ht:t=t.take i++59::t.drop (i+1):=by
  conv=>lhs;rw [<-List.take_append_drop i t,List.drop_eq_getElem_cons p,U]
 conv=>lhs;rw [ht,BM]
 refine congrArg _ (BN λx T=> ?_);obtain ⟨j,o,rfl⟩:=aaV T;rw [϶] at o;have:=r (i+1+j) (by omega) (h4 (i+1+j) (by omega) (by omega));rw [List.getElem_drop];rwa [ψ,Γ (by omega)] at this
end Go.Proofs
namespace Go.Proofs
open Go.Ide Go.IntWalk
def FC (b:UInt8):Bool×Bool:=(b==49,b==48||b==49)
theorem Kw (b:UInt8)(n:Int)(k:UInt8)(j:n=((k.toNat:Nat):Int)):(((b.toNat:Nat):Int) != n)= !(b==k):=by
 subst j;by_cases e:b=k;subst e;simp;have o:(b==k)=false:=by simpa using e
 have p:(((b.toNat:Nat):Int)==((k.toNat:Nat):Int))=false:=by
  rw [beq_eq_false_iff_ne];intro q;exact e (ags.1 (by omega))
 rw [o,bne,p]
theorem Uy (b:UInt8)(n:Int)(k:UInt8)(j:n=((k.toNat:Nat):Int)):(((b.toNat:Nat):Int)==n)=(b==k):=by
 have:=Kw b n k j;rw [bne] at this;cases h:(b==k)<;>rw [h] at this<;>simpa using this
theorem Kx {b:UInt8}{i n:Nat}{out:List Bool}(j:i<n)(o:n<=1048576)(p:out.length<=i):
 ((bif (((b.toNat:Nat):Int) != 48) then some (((b.toNat:Nat):Int) != 49) else some false).bind λv=>bif v then some (.inr (.inr ())) else br (out.length+([((((b.toNat:Nat):Int))==49)]:List Bool).length<=bD) (some (.inl (bz .i64 (i:Int) 1,out++[((((b.toNat:Nat):Int))==49)]))))=
  (some (bif (FC b).2 then .inl (((i+1:Nat):Int),out++[(FC b).1]) else .inr (.inr ())):Option ((Int×List Bool)⊕(List Bool⊕Unit))):=by
 rw [Kw b 48 48 rfl,Kw b 49 49 rfl,Uy b 49 49 rfl,ca j (by omega),guard_pos (by simp only [Η,Χ];unfold bD;omega)];unfold FC;cases (b==48)<;>cases (b==49)<;>rfl
theorem DE (u:List UInt8)(i:Nat):ε (cY u) i 0=(((u.getD i 0).toNat:Nat):Int):=by
 unfold cY;rw [ψ,List.getElem?_map,ψ];cases u[i]? <;>rfl
theorem HZ {a j:List UInt8}{y:Int}(p:cut a (bz .i64 y 1) (bn a)=j)(h:j.length<=1048576):rounds (gw a y) ((0:Int),([]:List Bool))=some (bif j.all λb=>(FC b).2 then .inl (j.map λb=>(FC b).1) else .inr ()):=by
 have r:(cY j).length=j.length:=by unfold cY;rw [Ϝ]
 exact Gr (f:=gw a y) (ps:=j) 0 FC (by omega) (λi out t I=>by
  have o:i<(cY j).length:=by omega
  unfold gw;simp only [p,show decide ((i:Int)<bn (cY j))=true from kn o,cond_true,guard_pos (eO o),Α,DE];exact Kx t h I) (λout=>by
  unfold gw;simp only [p,show decide (((j.length:Nat):Int)<bn (cY j))=false from by rw [<-r];exact ky (ς _),cond_false])
end Go.Proofs
namespace Go.Proofs
open Go.Ide Go.IntWalk
def q4 (xs:List Int)(k:Nat):Int×Int×Int×Int:=(xs.getD (4*k) 0,xs.getD (4*k+1) 0,xs.getD (4*k+2) 0,xs.getD (4*k+3) 0)
def D4 (xs:List Int)(k:Nat):List (Int×Int×Int×Int):=(List.range k).map (q4 xs)
theorem G1 (xs:List Int)(k:Nat):(D4 xs k).length=k:=by simp [D4]
theorem Ky (xs:List Int)(k:Nat):D4 xs (k+1)=D4 xs k++[q4 xs k]:=by simp [D4,List.range_succ]
theorem vV {f:Int×List (Int×Int×Int×Int)->Option ((Int×List (Int×Int×Int×Int))⊕List (Int×Int×Int×Int))}{xs:List Int}{m:Nat}(j: ∀(k:Nat),k<m->f (((4*k:Nat):Int),D4 xs k)=some (.inl (((4*(k+1):Nat):Int),D4 xs (k+1))))(o:f (((4*m:Nat):Int),D4 xs m)=some (.inr (D4 xs m))):rounds f ((0:Int),([]:List (Int×Int×Int×Int)))=some (D4 xs m):=by
 have key: ∀(d k:Nat),k+d=m->rounds f (((4*k:Nat):Int),D4 xs k)=some (D4 xs m):=by
  intro d;induction d with
  |zero=>
   intro k p;have:k=m:=by omega
   subst this;rw [dM,o]
  |succ d ih=>intro k p;rw [dM,j k (by omega)];exact ih (k+1) (by omega)
 exact key m 0 (by omega)
theorem Ro {f:List Int->List (Int×Int×Int×Int)->Option (List (Int×Int×Int×Int))}{xs:List Int}{m:Nat}(t:xs.length=4*m)(I:m<=1000000)(o: ∀ys acc,ys.length=4->acc.length<=1000000->f ys acc=some (acc++[(ys.getD 0 0,ys.getD 1 0,ys.getD 2 0,ys.getD 3 0)])):sJ f xs []=some (D4 xs m):=by
 have key: ∀(d k:Nat),k+d=m->yj f d (xs.drop (4*k)) (D4 xs k)=some (D4 xs m):=by
  intro d;induction d with
  |zero=>
   intro k p;have:k=m:=by omega
   subst this;rfl
  |succ d ih=>
   intro k p;unfold yj;rw [o _ _ (by rw [ώ,϶];omega) (by rw [G1];omega),η,List.drop_drop];have:=ih (k+1) (by omega);rw [Ky] at this;have e: ∀j,j<4->((xs.drop (4*k)).take 4).getD j 0=xs.getD (4*k+j) 0:=λj r=>by
    simp [ψ,List.getElem?_take,r]
   rw [e 0 (by omega),e 1 (by omega),e 2 (by omega),e 3 (by omega)];exact this
 unfold sJ;rw [guard_pos (by omega),show xs.length/4=m by omega];have:=key m 0 (by omega);rw [Nat.mul_zero,agM] at this;exact this
theorem OA {xs:List Int}:(aac (bn xs) 4 != 0)= !decide (xs.length%4=0):=by
 simp only [bn];rw [aeD (by omega)];by_cases h:xs.length%4=0;rw [decide_eq_true h,bne,show (((xs.length:Nat):Int)%4==0)=true by rw [beq_iff_eq];omega];rw [decide_eq_false h,bne,show (((xs.length:Nat):Int)%4==0)=false by rw [beq_eq_false_iff_ne];omega]
theorem Kz {ys:List Int}{acc:List (Int×Int×Int×Int)}(j:ys.length=4)(p:acc.length<=1000000):
 (br ((0:Int)<=(0:Int)/\(0:Int)<bn ys) (
  br ((0:Int)<=(1:Int)/\(1:Int)<bn ys) (
   br ((0:Int)<=(2:Int)/\(2:Int)<bn ys) (
    br ((0:Int)<=(3:Int)/\(3:Int)<bn ys) (
     br (ζ acc+ζ ([((ε ys (δ (0:Int)) (0:Int)),(ε ys (δ (1:Int)) (0:Int)),(ε ys (δ (2:Int)) (0:Int)),(ε ys (δ (3:Int)) (0:Int)))]:List (Int×Int×Int×Int))<=bD) (
      some (acc++([((ε ys (δ (0:Int)) (0:Int)),(ε ys (δ (1:Int)) (0:Int)),(ε ys (δ (2:Int)) (0:Int)),(ε ys (δ (3:Int)) (0:Int)))]:List (Int×Int×Int×Int)))))))):Option (List (Int×Int×Int×Int)))=
 some (acc++[(ys.getD 0 0,ys.getD 1 0,ys.getD 2 0,ys.getD 3 0)]):=by
 have o:bn ys=4:=by simp only [bn,j];rfl
 rw [o,guard_pos (by omega),guard_pos (by omega),guard_pos (by omega),guard_pos (by omega),guard_pos (by rw [List.length_singleton];unfold bD;omega)];rfl
end Go.Proofs
namespace Go.Proofs
open Go.Ide Go.IntWalk
abbrev jY:=List Int×Int×Int
def yK (c:List Int):Prop:=c.length<=1048576/\ ∀i,i<c.length->0<=c.getD i 0/\c.getD i 0<=255
theorem Ar {x:List Int}(w:WfD (.sl (.int .u8)) x)(h:x.length<=1048576):yK x:=by
 refine ⟨h,λi j=> ?_⟩;have:=w.2 i j;have o:(Lit.int .u8 (x[i]:Int)).wf=true:=this;rw [ψ,Γ j];simp only [Lit.wf,κ,decide_eq_true_eq] at o;have p:IntKind.u8.min=0:=by decide
 have r:IntKind.u8.max=255:=by decide
 rw [p,r] at o;simp only [Option.getD_some];omega
structure df (n:Nat)(s:jY):Prop where
 code:yK s.1
 at0:0<=s.2.1
 at1:s.2.1+(n:Int)<=1000000000000000000
theorem df.mono {n m:Nat}{s:jY}(h:df n s)(j:m<=n):df m s:=⟨h.code,h.at0,by have:=h.at1;omega⟩
theorem df.from {c:List Int}(h:yK c):qU c=some (c,(0:Int),(0:Int))/\df 1000000000000000000 (c,(0:Int),(0:Int)):=⟨rfl,h,Ϫ _,by simp⟩
theorem KA (x:Int)(h:0<=x/\x<=255):Ρ .i64 x=x:=i64_in _ (by omega)
theorem Rp (z:Int): ∃y:Int,Ρ .i64 (Ρ .u64 (((Ϙ (Ϗ .u64) z&&& Ϙ (Ϗ .u64) (255:Int)).toNat:Nat):Int))=y/\0<=y/\y<=255:=by
 have j:(Ϙ (Ϗ .u64) z&&& Ϙ (Ϗ .u64) (255:Int)).toNat<=255:=by
  rw [BitVec.toNat_and];refine Nat.le_trans Nat.and_le_right ?_;decide
 generalize (Ϙ (Ϗ .u64) z&&& Ϙ (Ϗ .u64) (255:Int)).toNat=q at j;have o:Ρ .u64 ((q:Nat):Int)=(q:Int):=by
  unfold Ρ;simp only [Ϗ,agb,agY,acH,if_false];omega
 rw [o,i64_in _ (by omega)];exact ⟨_,rfl,by omega,by omega⟩
theorem G2 {n:Nat}{s:jY}(h:df (n+1) s): ∃x o,gW s=some (x,o)/\0<=x/\x<=255/\df n o:=by
 obtain ⟨c,a,z⟩:=s;obtain ⟨r,p,t⟩:=h;have p:0<=a:=p;have t:a+((n+1:Nat):Int)<=1000000000000000000:=t;have U:bz .i64 a 1=a+1:=eX (by omega);unfold gW;simp only [U];have I: ∀J,df n (c,a+1,J):=λJ=>⟨r,by show 0<=a+1;omega,by show a+1+(n:Int)<=_;omega⟩;have key: ∀v:Int,0<=v/\v<=255-> ∃x o,(bif decide (a+1<=bn c) then some (v,c,a+1,bz .u64 (bz .u64 (dX .u64 z 6364136223846793005) (Ρ .u64 v)) 1442695040888963407)
  else (some (Ρ .i64 (Ρ .u64 (((Ϙ (Ϗ .u64) (Int.fdiv (bz .u64 (bz .u64 (dX .u64 z 6364136223846793005) (Ρ .u64 v)) 1442695040888963407) (2^(min (δ (40:Int)) (Ϗ .u64))))&&& Ϙ (Ϗ .u64) (255:Int)).toNat:Nat):Int)))).bind λq5=>
   some (q5,c,a+1,bz .u64 (bz .u64 (dX .u64 z 6364136223846793005) (Ρ .u64 v)) 1442695040888963407))=some (x,o)/\0<=x/\x<=255/\df n o:=by
  intro v R;cases decide (a+1<=bn c) with
  |true=>exact ⟨_,_,rfl,R.1,R.2,I _⟩
  |false=>
   obtain ⟨y,e,y1,y2⟩:=Rp (Int.fdiv (bz .u64 (bz .u64 (dX .u64 z 6364136223846793005) (Ρ .u64 v)) 1442695040888963407) (2^(min (δ (40:Int)) (Ϗ .u64))));rw [e];exact ⟨_,_,rfl,y1,y2,I _⟩
 by_cases j:a<bn c;have hi:a.toNat<c.length:=by simp only [bn] at j;omega
 have T:=r.2 a.toNat hi;simp only [j,decide_true,cond_true];rw [guard_pos ⟨p,trivial⟩,KA _ T];exact key _ T;simp only [j,decide_false,cond_false];exact key 0 (by omega)
theorem uR {x n:Int}(j:0<=x)(o:0<n):0<=aac x n/\aac x n<n:=by
 rw [aeD j];exact ⟨Int.emod_nonneg _ (by omega),Int.emod_lt_of_pos _ o⟩
theorem BO {n:Nat}{s:jY}(h:df (n+2) s)(k:Int): ∃x j,bA s k=some (x,j)/\0<=x/\(x<k\/x=0)/\df n j:=by
 unfold bA;by_cases o:k<=1;simp only [o,decide_true,cond_true];exact ⟨_,_,rfl,Ϫ _,.inr rfl,h.mono (by omega)⟩;simp only [o,decide_false,cond_false];obtain ⟨x,T,t,U,x2,p⟩:=G2 h;simp only [t,η];by_cases r:k>200;obtain ⟨y,s2,I,y1,y2,J⟩:=G2 p;have R:dX .i64 x 256=x*256:=uF (by omega);have e4:bz .i64 (x*256) y=x*256+y:=eX (by omega);simp only [r,decide_true,cond_true,I,η,R,e4];rw [guard_pos (by omega)];have:=uR (x:=x*256+y) (n:=k) (by omega) (by omega);exact ⟨_,_,rfl,this.1,.inl this.2,J⟩;simp only [r,decide_false,cond_false,η];rw [guard_pos (by omega)];have:=uR (x:=x) (n:=k) (by omega) (by omega);exact ⟨_,_,rfl,this.1,.inl this.2,p.mono (by omega)⟩
end Go.Proofs
namespace Go.Proofs
open Go.Ide Go.IntWalk
theorem KB {α:Type}{xs ys:List α}{i:Nat}{d:α}:(xs++ys).getD i d=if i<xs.length then xs.getD i d else ys.getD (i - xs.length) d:=by
 split;rename_i h;rw [ψ,List.getElem?_append_left h,ψ];rename_i h;rw [ψ,List.getElem?_append_right (by omega),ψ]
theorem q9 {m c:Nat}{nx:List Int}{es:List Bool}(t:1<=m)(m2:m<=64)(I:1<=c)(c2:c<=4)(j:nx.length=m*c)(o:es.length=m)(h: ∀i,i<nx.length->0<=nx.getD i 0/\nx.getD i 0<(m:Int)):nr (m:Int) (c:Int) nx es=true:=by
 have p:m*c<=64*4:=aaZ m2 c2;unfold nr;rw [uF (by rw [<-abu];omega),<-abu,gE (by omega)];simp only [κ,decide_eq_true_eq,beq_iff_eq,bn];refine ⟨⟨by omega,by omega⟩,⟨by omega,by omega⟩,by rw [j],by rw [o],vB.2 λi r=> ?_⟩;have:=h i r;omega
end Go.Proofs
namespace Go.Proofs
open Go.Ide Go.IntWalk
theorem cf {α:Type}{xs:List α}{i:Nat}{d:α}(h:i<xs.length):xs.getD i d∈xs:=by
 rw [ψ,Γ h];exact ab9 h
theorem eG {σ τ ρ:Type}{f:τ->Option (τ⊕ρ)}(mk:Nat->σ->τ)(I:Nat->σ->Prop)(Q:ρ->Prop){n:Nat}(j: ∀i s,i<n->I i s-> ∃p,f (mk i s)=some (.inl (mk (i+1) p))/\I (i+1) p)(o: ∀s,I n s-> ∃r,f (mk n s)=some (.inr r)/\Q r): ∀(k i:Nat) (s:σ),i+k=n->I i s-> ∃r,rounds f (mk i s)=some r/\Q r
 |0,i,s,R,h=>by
  obtain rfl:i=n:=by omega
  obtain ⟨r,t,J⟩:=o s h;exact ⟨r,by rw [dM,t],J⟩
 |k+1,i,s,R,h=>by
  obtain ⟨p,t,J⟩:=j i s (by omega) h;rw [dM,t];exact eG mk I Q j o k (i+1) p (by omega) J
def wv (m c:Nat)(r:Q4):Prop:=(0<=r.1/\r.1<(m:Int))/\(0<=r.2.1/\r.2.1<(m:Int))/\(-1<=r.2.2.1/\r.2.2.1<(c:Int))/\0<=r.2.2.2/\r.2.2.2<=1000
structure pk (m c:Nat)(zs:List Q4)(ss es:List Int):Prop where
 m1:1<=m
 m2:m<=16
 c1:1<=c
 c2:c<=4
 zl:zs.length<=16
 zH: ∀r∈zs,wv m c r
 sl:ss.length=m
 el:es.length=m
 sv: ∀x∈ss,-1<=x/\x<=1000
 ev: ∀x∈es,-1<=x/\x<=1000
theorem pk.ok {m c:Nat}{zs:List Q4}{ss es:List Int}(h:pk m c zs ss es):mX (m:Int) (c:Int) zs ss es=true:=by
 have:=h.m1;have:=h.m2;have:=h.c1;have:=h.c2;have:=h.zl;unfold mX;simp only [κ,decide_eq_true_eq,aag,decide_eq_false_iff_not,bn,beq_iff_eq,h.sl,h.el];refine ⟨⟨by omega,by omega⟩,⟨by omega,by omega⟩,by omega,qj.2 λj _ o=> ?_,⟨ja.2 h.sv,trivial⟩,ja.2 h.ev,trivial⟩;obtain ⟨a,b,d,e⟩:=h.zH _ (cf (d:=(0,0,0,0)) (show j<zs.length by omega));unfold Aq;simp only [κ,decide_eq_true_eq];rw [gE (by omega),gE (by omega)];refine ⟨⟨by omega,by omega⟩,⟨by omega,by omega⟩,⟨by omega,by omega⟩,by omega,by omega⟩
theorem pk.valid {m c:Nat}{zs:List Q4}{ss es:List Int}(h:pk m c zs ss es):cy ((m:Int),(c:Int),zs,ss,es)=some true:=by
 have:=h.m2;have:=h.zl;have:=h.sl;have:=h.el;rw [pI (by omega) (by omega) (by omega),h.ok]
def ra (n c:Nat)(r:Q4):Prop:=(0<=r.1/\r.1<(n:Int))/\(-1<=r.2.2.1/\r.2.2.1<(n:Int))/\(0<=r.2.2.2/\r.2.2.2<=1000)/\0<=r.2.1/\(r.2.2.1<0->r.2.1<(c:Int))/\(0<=r.2.2.1->r.2.1<(n:Int))
structure rU (n c:Nat)(rs:List Q4):Prop where
 n1:1<=n
 n2:n<=8
 c1:1<=c
 c2:c<=4
 rl:rs.length<=16
 rules: ∀r∈rs,ra n c r
theorem rU.ok {n c:Nat}{rs:List Q4}(h:rU n c rs):oL (n:Int) (c:Int) rs=true:=by
 have:=h.n1;have:=h.n2;have:=h.c1;have:=h.c2;have:=h.rl;unfold oL;simp only [κ,decide_eq_true_eq,aag,decide_eq_false_iff_not,bn];refine ⟨⟨by omega,by omega⟩,⟨by omega,by omega⟩,by omega,qj.2 λj _ p=> ?_⟩;obtain ⟨a,b,d,e,f,g⟩:=h.rules _ (cf (d:=(0,0,0,0)) (show j<rs.length by omega));unfold vC;simp only [κ,decide_eq_true_eq];rw [gE (by omega),gE (by omega)];refine ⟨⟨by omega,by omega⟩,⟨by omega,by omega⟩,⟨by omega,by omega⟩,by omega,?_⟩;by_cases o:(rs.getD j (0,0,0,0)).2.2.1<0;have:=f o;simp only [o,decide_true,cond_true];omega;have:=g (by omega);simp only [o,decide_false,cond_false];omega
theorem rU.valid {n c:Nat}{rs:List Q4}(h:rU n c rs):db ((n:Int),(c:Int),rs)=some true:=by
 have:=h.rl;rw [pJ (by omega),h.ok]
theorem eH {n k:Nat}{s:jY}(h:df (n+2) s)(r:1<=k): ∃(x:Nat) (j:jY),bA s (k:Int)=some ((x:Int),j)/\x<k/\df n j:=by
 obtain ⟨x,j,e,p,t,o⟩:=BO h (k:Int);refine ⟨x.toNat,j,?_,by omega,o⟩;rw [e,aai p]
theorem FD {n k:Nat}{s:jY}(h:df (n+2) s)(p:1<=k): ∃(b:Bool) (j:jY),cQ s (k:Int)=some (b,j)/\df n j:=by
 obtain ⟨x,j,e,_,o⟩:=eH h p;exact ⟨_,j,by unfold cQ;rw [e];rfl,o⟩
theorem ix {α:Type}{P:α->Prop}{xs:List α}{x:α}(h: ∀y∈xs,P y)(o:P x): ∀y∈xs++[x],P y:=λy j=>by
 rcases Λ.1 j with j|j
 exact h y j;simp only [ϊ] at j;subst j;exact o
theorem cu {α β:Type}{xs:List α}{x:α}{k:Option β}(h:xs.length<=1000000):br (ζ xs+ζ [x]<=bD) k=k:=
 guard_pos (by simp only [Η,Χ];unfold bD;omega)
theorem Nv {a:Nat}(h:1<=a)(j:a<=1000000):bW .i64 (a:Int) 1=((a - 1:Nat):Int):=by rw [gE (by omega)];omega
theorem YI {a:Nat}(h:1<=a):decide ((a:Int)>(0:Int))=true:=by simp;omega
theorem OB {m c:Nat}{a b d e:Int}(j:0<=a/\a<(m:Int))(o:0<=b/\b<(m:Int))(p: -1<=d/\d<(c:Int))(r:0<=e/\e<=1000):wv m c (a,b,d,e):=⟨j,o,p,r⟩
theorem KC {g m c:Nat}(t:1<=m)(m2:m<=4)(T:1<=c)(c2:c<=3)(n:Nat)(hn:n<=10){s:jY}(j:df (n*10+g) s):
 ∃I zs,rounds (gg (m:Int) (c:Int) true) ((n:Int),s,([]:List Q4))=some (I,zs)/\df g I/\zs.length=n/\ ∀r∈zs,wv m c r:=by
 obtain ⟨r,e,U,h2,h3⟩:=fG (f:=gg (m:Int) (c:Int) true) (λa st=> ∃(s:jY) (out:List Q4),st=((a:Int),s,out)/\a+out.length=n/\df (a*10+g) s/\ ∀r∈out,wv m c r)
  (λr=>df g r.1/\r.2.length=n/\ ∀x∈r.2,wv m c x) (by
   rintro a st ⟨s,out,rfl,ha,j,o⟩;unfold gg;by_cases h0:a=0;subst h0;exact .inr ⟨_,rfl,j.mono (by omega),by show out.length=_;omega,o⟩;obtain ⟨x1,s1,e1,q1,o1⟩:=eH (n:=(a - 1)*10+g+8) (j.mono (by omega)) t;obtain ⟨x2,s2,e2,q2,o2⟩:=eH (n:=(a - 1)*10+g+6) (o1.mono (by omega)) t;obtain ⟨x3,s3,e3,q3,o3⟩:=eH (n:=(a - 1)*10+g+4) (o2.mono (by omega)) T;obtain ⟨x4,s4,e4,q4,o4⟩:=eH (n:=(a - 1)*10+g+2) (k:=9) (o3.mono (by omega)) (by omega);obtain ⟨b,J,p,R⟩:=FD (n:=(a - 1)*10+g) (k:=5) (o4.mono (by omega)) (by omega);have e4:bA s3 (9:Int)=_:=e4;have p:cQ s4 (5:Int)=_:=p;simp only [YI (show 1<=a by omega),cond_true,e1,e2,e3,e4,p,η,Nv (show 1<=a by omega) (show a<=1000000 by omega)];cases b with
   |true=>
    simp only [cond_true,η];rw [cu (by omega)];exact .inl ⟨a - 1,_,by omega,rfl,J,_,rfl,by simp;omega,R,ix o (OB (by omega) (by omega) (by omega) (by omega))⟩
   |false=>
    simp only [cond_false,η];rw [cu (by omega)];exact .inl ⟨a - 1,_,by omega,rfl,J,_,rfl,by simp;omega,R,ix o (OB (by omega) (by omega) (by omega) (by omega))⟩) n
  ((n:Int),s,([]:List Q4)) ⟨s,[],rfl,rfl,j,λ_ h=>by cases h⟩
 exact ⟨r.1,r.2,e,U,h2,h3⟩
theorem H0 {g m:Nat}(m2:m<=4){s:jY}(hs:df (m*8+g) s):
 ∃U ss es,rounds (gf (m:Int)) ((0:Int),s,([]:List Int),([]:List Int))=some (U,ss,es)/\df g U/\ss.length=m/\es.length=m/\(∀x∈ss,-1<=x/\x<=1000)/\ ∀x∈es,-1<=x/\x<=1000:=by
 obtain ⟨r,e,h1,h2,h3,h4,h5⟩:=fG (f:=gf (m:Int)) (λa st=> ∃(i:Nat) (s:jY) (p q:List Int),a+i=m/\st=((i:Int),s,p,q)/\p.length=i/\q.length=i/\df (a*8+g) s/\(∀x∈p,-1<=x/\x<=1000)/\ ∀x∈q,-1<=x/\x<=1000)
  (λr=>df g r.1/\r.2.1.length=m/\r.2.2.length=m/\(∀x∈r.2.1,-1<=x/\x<=1000)/\ ∀x∈r.2.2,-1<=x/\x<=1000) (by
   rintro a st ⟨i,s,p,q,ha,rfl,hp,hq,aa,vp,vq⟩;unfold gf;by_cases h0:i<m;have t: ∀(n k:Nat) (b:Bool) (s:jY),df (n+4) s->1<=k-> ∃(v:Int) (U:jY),
    ((show Option (Int×(List Int×Int×Int)) from
     (show Option (Bool×(List Int×Int×Int)) from
      bif b then some (true,s) else (cQ s (k:Int)).bind λj=>some (j.1,j.2)).bind λR=>
     bif R.1 then (bA R.2 (4:Int)).bind λab=>some (ab.1,ab.2) else some ((-1:Int),R.2))=some (v,U))/\(-1<=v/\v<=1000)/\df n U:=by
    intro n k b s hs hk;obtain ⟨c,o,I,T⟩: ∃(c:Bool) (o:jY),(bif b then some (true,s) else (cQ s (k:Int)).bind λj=>some (j.1,j.2))=some (c,o)/\df (n+2) o:=by
     cases b with
     |true=>exact ⟨true,s,rfl,hs.mono (by omega)⟩
     |false=>
      obtain ⟨c,o,I,T⟩:=FD (n:=n+2) hs hk;exact ⟨c,o,by simp only [cond_false,I,η],T⟩
    simp only [I,η];cases c with
    |true=>
     obtain ⟨x,s2,J,q2,o2⟩:=eH (k:=4) T (by omega);have J:bA o (4:Int)=_:=J;exact ⟨_,_,by simp only [cond_true,J,η];rfl,by omega,o2⟩
    |false=>exact ⟨-1,o,rfl,by omega,T.mono (by omega)⟩
   obtain ⟨v,o,I,v1,T⟩:=t ((a - 1)*8+g+4) 5 ((i:Int)==(0:Int)) s (aa.mono (by omega)) (by omega);obtain ⟨u,s2,J,u1,o2⟩:=t ((a - 1)*8+g) 4 ((i:Int)==bW .i64 (m:Int) 1) o T (by omega);have I:=I;have J:=J;simp only [show ((5:Nat):Int)=5 from rfl,show ((4:Nat):Int)=4 from rfl] at I J;simp only [kn h0,cond_true,I,η,J,ca h0 (show m<=4294967296 by omega)];rw [cu (by omega),cu (by omega)];exact .inl ⟨a - 1,_,by omega,rfl,i+1,s2,_,_,by omega,rfl,by simp;omega,by simp;omega,o2,ix vp v1,ix vq u1⟩;obtain rfl:i=m:=by omega
   simp only [ky (ς _),cond_false];have D3:df g s:=aa.mono (by omega);exact .inr ⟨_,rfl,D3,hp,hq,vp,vq⟩) m
  ((0:Int),s,([]:List Int),([]:List Int)) ⟨0,s,[],[],by omega,rfl,rfl,rfl,hs,λ_ h=>(by cases h),λ_ h=>(by cases h)⟩
 exact ⟨r.1,r.2.1,r.2.2,e,h1,h2,h3,h4,h5⟩
theorem uS {x:Nat}(h:x<=1000):bz .i64 (1:Int) (x:Int)=((1+x:Nat):Int):=by rw [eX (by omega)];omega
theorem KD {g:Nat}{s:jY}(J:df (1000+g) s): ∃(m c:Nat) (zs:List Q4) (ss es:List Int) (t:jY),gI s=some (((m:Int),(c:Int),zs,ss,es),t)/\pk m c zs ss es/\df g t:=by
 obtain ⟨j,R,o,q1,T⟩:=eH (n:=900+g) (k:=4) (J.mono (by omega)) (by omega);obtain ⟨p,s2,r,q2,U⟩:=eH (n:=800+g) (k:=3) (T.mono (by omega)) (by omega);have hk:bz .i64 (dX .i64 (2:Int) ((1+j:Nat):Int)) 2=((2*(1+j)+2:Nat):Int):=by rw [uF (by omega),eX (by omega)];omega
 obtain ⟨I,s3,e3,q3,o3⟩:=eH (n:=700+g) (k:=2*(1+j)+2) (U.mono (by omega)) (by omega);obtain ⟨s4,zs,e4,o4,z1,z2⟩:=KC (g:=300+g) (m:=1+j) (c:=1+p) (by omega) (by omega) (by omega) (by omega) (1+I) (by omega) (o3.mono (by omega));obtain ⟨s5,ss,es,e5,o5,l1,l2,v1,v2⟩:=H0 (g:=g) (m:=1+j) (by omega) (o4.mono (by omega));refine ⟨1+j,1+p,zs,ss,es,s5,?_,⟨by omega,by omega,by omega,by omega,by omega,z2,l1,l2,v1,v2⟩,o5⟩;have o:bA s (4:Int)=_:=o;have r:bA R (3:Int)=_:=r;unfold gI lG;simp only [o,r,η,uS (show j<=1000 by omega),uS (show p<=1000 by omega),hk,e3,uS (show I<=1000 by omega),e4,e5]
theorem KE {g:Nat}{s:jY}(t:df (1000+g) s): ∃(n c:Nat) (rs:List Q4) (s':jY),gL s=some (((n:Int),(c:Int),rs),s')/\rU n c rs/\df g s':=by
 obtain ⟨j,s1,J,q1,o1⟩:=eH (n:=900+g) (k:=4) (t.mono (by omega)) (by omega);obtain ⟨I,s2,R,q2,o2⟩:=eH (n:=800+g) (k:=3) (o1.mono (by omega)) (by omega);have hk:bz .i64 (dX .i64 (3:Int) ((1+j:Nat):Int)) 2=((3*(1+j)+2:Nat):Int):=by rw [uF (by omega),eX (by omega)];omega
 obtain ⟨p,s3,e3,q3,o3⟩:=eH (n:=700+g) (k:=3*(1+j)+2) (o2.mono (by omega)) (by omega);have T:1<=1+j:=by omega
 have c1:1<=1+I:=by omega
 have m2:1+j<=4:=by omega
 have c2:1+I<=3:=by omega
 generalize hm:1+j=m at*;generalize hc:1+I=c at*;obtain ⟨r,e4,h1,h2,U⟩:=fG (f:=jG (m:Int) (c:Int)) (λa st=> ∃(s:jY) (out:List Q4),st=((a:Int),s,out)/\a+out.length=1+p/\df (a*20+(100+g)) s/\ ∀r∈out,ra m c r)
  (λr=>df (100+g) r.1/\r.2.length=1+p/\ ∀x∈r.2,ra m c x) (by
   rintro a st ⟨s,out,rfl,ha,t,ho⟩;unfold jG;by_cases h0:a=0;subst h0;exact .inr ⟨_,rfl,t.mono (by omega),by show out.length=_;omega,ho⟩;obtain ⟨y1,t1,f1,p1,w1⟩:=eH (n:=(a - 1)*20+(100+g)+18) (t.mono (by omega)) T;obtain ⟨y2,t2,f2,p2,w2⟩:=eH (n:=(a - 1)*20+(100+g)+16) (w1.mono (by omega)) c1;obtain ⟨b,t3,f3,w3⟩:=FD (n:=(a - 1)*20+(100+g)+14) (k:=2) (w2.mono (by omega)) (by omega);have f3:cQ t2 (2:Int)=_:=f3;simp only [YI (show 1<=a by omega),cond_true,f1,f2,f3,η,Nv (show 1<=a by omega) (show a<=1000000 by omega)];cases b with
   |true=>
    obtain ⟨y4,t4,f4,p4,w4⟩:=eH (n:=(a - 1)*20+(100+g)+12) (w3.mono (by omega)) T;obtain ⟨y5,t5,f5,p5,w5⟩:=eH (n:=(a - 1)*20+(100+g)+10) (w4.mono (by omega)) T;obtain ⟨y6,t6,o,p6,w6⟩:=eH (n:=(a - 1)*20+(100+g)) (k:=6) (w5.mono (by omega)) (by omega);have o:bA t5 (6:Int)=_:=o;simp only [cond_true,η,f4,f5,o];rw [cu (by omega)];refine .inl ⟨a - 1,_,by omega,rfl,t6,_,rfl,by simp;omega,w6,ix ho ?_⟩;refine ⟨⟨?_,?_⟩,⟨?_,?_⟩,⟨?_,?_⟩,?_,λh=> ?_,λ_=> ?_⟩<;>simp only at* <;>omega
   |false=>
    obtain ⟨y6,t6,o,p6,w6⟩:=eH (n:=(a - 1)*20+(100+g)) (k:=6) (w3.mono (by omega)) (by omega);have o:bA t3 (6:Int)=_:=o;simp only [cond_false,η,o];rw [cu (by omega)];refine .inl ⟨a - 1,_,by omega,rfl,t6,_,rfl,by simp;omega,w6,ix ho ?_⟩;refine ⟨⟨?_,?_⟩,⟨?_,?_⟩,⟨?_,?_⟩,?_,λ_=> ?_,λh=> ?_⟩<;>simp only at* <;>omega) (1+p)
  (((1+p:Nat):Int),s3,([]:List Q4)) ⟨s3,[],rfl,rfl,o3.mono (by omega),λ_ h=>by cases h⟩
 obtain ⟨s4,rs⟩:=r;obtain ⟨x5,s5,e5,q5,o5⟩:=eH (n:=g) (h1.mono (by omega)) c1;have h2:rs.length=1+p:=h2;have U: ∀x∈rs,ra m c x:=U;refine ⟨m,c,rs++[((m:Int) - 1,(x5:Int),-1,1)],s5,?_,⟨by omega,by omega,by omega,by omega,by simp;omega,ix U ?_⟩,o5⟩;have J:bA s (4:Int)=_:=J;have R:bA s1 (3:Int)=_:=R;have a1:=uS (show j<=1000 by omega);have a2:=uS (show I<=1000 by omega);rw [hm] at a1;rw [hc] at a2;have e5:bA s4 (c:Int)=_:=e5;unfold gL lH;simp only [J,R,η,a1,a2,hk,e3,uS (show p<=1000 by omega),e4,e5];rw [cu (by omega),gE (by omega)];rfl;refine ⟨⟨?_,?_⟩,⟨?_,?_⟩,⟨?_,?_⟩,?_,λ_=> ?_,λh=> ?_⟩<;>simp only at* <;>omega
theorem H2 {g:Nat}{s:jY}(o:df (100+g) s): ∃(w:List Int) (I:jY),jS s=some (w,I)/\(w.length<=5/\ ∀x∈w,0<=x/\x<2)/\df g I:=by
 obtain ⟨j,J,p,q1,U⟩:=eH (n:=50+g) (k:=6) (o.mono (by omega)) (by omega);obtain ⟨r,e4,h1,R⟩:=fG (f:=j9) (λa st=> ∃(s:jY) (out:List Int),st=((a:Int),s,out)/\a+out.length=j/\(∀x∈out,0<=x/\x<2)/\df (a*2+g) s)
  (λr=>df g r.1/\r.2.length=j/\ ∀x∈r.2,0<=x/\x<2) (by
   rintro a st ⟨s,out,rfl,ha,T,o⟩;unfold j9;by_cases h0:a=0;subst h0;exact .inr ⟨_,rfl,o.mono (by omega),by show out.length=_;omega,T⟩;obtain ⟨y1,t1,t,p1,w1⟩:=eH (n:=(a - 1)*2+g) (k:=2) (o.mono (by omega)) (by omega);have t:bA s (2:Int)=_:=t;simp only [YI (show 1<=a by omega),cond_true,t,η,Nv (show 1<=a by omega) (show a<=1000000 by omega)];rw [cu (by omega)];exact .inl ⟨a - 1,_,by omega,rfl,t1,_,rfl,by simp;omega,ix T (by omega),w1⟩) j
  ((j:Int),J,([]:List Int)) ⟨J,[],rfl,rfl,(λx hx=>by cases hx),U.mono (by omega)⟩
 obtain ⟨s4,w⟩:=r;have h3:w.length=j:=R.1;refine ⟨w,s4,?_,⟨by omega,R.2⟩,h1⟩;have p:bA s (6:Int)=_:=p;unfold jS;simp only [p,η,e4]
theorem FE {g m c:Nat}{s:jY}(U:1<=m)(m2:m<=6)(c1:1<=c)(c2:c<=3)(j:df (100+g) s):
 ∃nx es p,fq s (m:Int) (c:Int)=some (((m:Int),(c:Int),nx,es),p)/\nr (m:Int) (c:Int) nx es=true/\df g p:=by
 have hmc:m*c<=6*3:=aaZ m2 c2;obtain ⟨r,er,r1,r2,r3⟩:=fG (f:=fU (m:Int)) (λa st=> ∃(s:jY) (out:List Int),st=((a:Int),s,out)/\a+out.length=m*c/\df (a*2+(50+g)) s/\ ∀i,i<out.length->0<=out.getD i 0/\out.getD i 0<(m:Int))
  (λr=>df (50+g) r.1/\r.2.length=m*c/\ ∀i,i<r.2.length->0<=r.2.getD i 0/\r.2.getD i 0<(m:Int)) (by
   rintro a st ⟨s,out,rfl,ha,j,T⟩;unfold fU;by_cases t:a=0;subst t;have I:decide (((0:Nat):Int)>(0:Int))=false:=by simp
   simp only [I,cond_false];exact .inr ⟨_,rfl,j.mono (by omega),by show out.length=_;omega,T⟩;have I:decide ((a:Int)>(0:Int))=true:=by simp;omega
   obtain ⟨x,p,e,x1,x2,o⟩:=BO (n:=(a - 1)*2+(50+g)) (j.mono (by omega)) (m:Int);have e1:bW .i64 (a:Int) 1=((a - 1:Nat):Int):=by rw [gE (by omega)];omega
   simp only [I,cond_true,e,η,e1];rw [guard_pos (by simp only [Η,Χ,bD];omega)];refine .inl ⟨a - 1,_,by omega,rfl,p,out++[x],rfl,by simp;omega,o,λi J=> ?_⟩;rw [KB];split;rename_i R;exact T i R;have:i - out.length=0:=by simp at J;omega
   rw [this];show 0<=x/\x<(m:Int);omega) (m*c) (((m*c:Nat):Int),s,([]:List Int)) ⟨s,[],rfl,by simp,j.mono (by omega),λi J=>by simp at J⟩
 obtain ⟨q,eq,q1,q2⟩:=fG (f:=fT (m:Int)) (λa st=> ∃(i:Nat) (s:jY) (out:List Bool),a+i=m/\st=((i:Int),s,out)/\out.length=i/\df (a*2+g) s)
  (λr=>df g r.1/\r.2.length=m) (by
   rintro a st ⟨i,s,out,ha,rfl,hl,j⟩;unfold fT cQ;by_cases t:i<m;obtain ⟨x,p,e,_,_,o⟩:=BO (n:=(a - 1)*2+g) (j.mono (by omega)) (3:Int);simp only [kn t,cond_true,e,η,ca t (show m<=4294967296 by omega)];rw [guard_pos (by simp only [Η,Χ,bD];omega)];exact .inl ⟨a - 1,_,by omega,rfl,i+1,p,_,by omega,rfl,by simp;omega,o⟩;have:i=m:=by omega
   subst this;simp only [ky (ς _),cond_false];exact .inr ⟨_,rfl,j.mono (by omega),hl⟩) m ((0:Int),r.1,([]:List Bool)) ⟨0,r.1,[],by omega,rfl,rfl,r1.mono (by omega)⟩
 refine ⟨r.2,q.2,q.1,?_,q9 U (by omega) c1 (by omega) r2 q2 r3,q1⟩;unfold fq;rw [uF (by rw [<-abu];omega),<-abu,er];simp only [η];rw [eq];rfl
structure dF (m c:Nat)(nx:List Int)(es:List Bool):Prop where
 ok:nr (m:Int) (c:Int) nx es=true
 nl:nx.length<=64
end Go.Proofs
namespace Go.Proofs
open Go.Ide Go.IntWalk
theorem Au: ∀(u:Nat) (b:UInt8),b∈abp u->48<=b.toNat/\b.toNat<=57:=by
 intro u;induction u using aa7 with
 |_ u ih=>
  intro b j;by_cases o:u<10;rw [abp,dif_pos o] at j;simp only [ϊ] at j;subst j;have e:(afF (48+u)).toNat=48+u:=by rw [acx,abk (by omega)]
  omega;rw [abp,dif_neg o] at j;rcases Λ.1 j with j|j
  exact ih (u/10) (by omega) b j;simp only [ϊ] at j;subst j;have e:(afF (48+u%10)).toNat=48+u%10:=by rw [acx,abk (by omega)]
  omega
theorem tO {n:Int}{b:UInt8}(j:b∈ϡ n):b.toNat=45\/(48<=b.toNat/\b.toNat<=57):=by
 unfold ϡ at j;split at j;rcases ϖ.1 j with rfl|j
 exact .inl rfl;exact .inr (Au _ b j);exact .inr (Au _ b j)
theorem yL {p:List UInt8}{b:UInt8}: ∀{l:List (List UInt8)},b∈jn p l->b∈p\/ ∃x∈l,b∈x
 |[],h=>by cases h
 |[x],h=> .inr ⟨x,by simp,h⟩
 |x::y::r,h=>by
  unfold jn at h;rcases Λ.1 h with h|h
  rcases Λ.1 h with h|h
  exact .inr ⟨x,by simp,h⟩;exact .inl h;rcases yL h with h|⟨z,j,h⟩
  exact .inl h;exact .inr ⟨z,ύ _ j,h⟩
theorem uT {xs:List Int}{b:UInt8}(j:b∈tx xs):44<=b.toNat/\b.toNat≠59:=by
 unfold tx at j;split at j;simp only [ϖ,aak,or_false] at j;rcases j with rfl|rfl|rfl|rfl<;>decide
 rcases yL j with h|⟨x,o,h⟩
 simp only [ϊ] at h;subst h;decide;obtain ⟨n,_,rfl⟩:=Ϣ.1 o;have:=tO h;omega
theorem jZ {xs:List Int}(h: ∀x∈xs,-1000<=x/\x<=1000000)(o:xs.length<=64):dv xs=true:=by
 unfold dv;rw [κ,ja];refine ⟨λx j=> ?_,by simp only [bn,decide_eq_true_eq];omega⟩;have:=h x j;omega
theorem BP {s l:Nat}(j:s<=64)(o:l<=64):dv [(s:Int),(l:Int)]=true:=Rm (by omega) (by omega)
theorem yM {zs:List Q4}{j o:Int}(h: ∀r∈zs,(j<=r.1/\r.1<=o)/\(j<=r.2.1/\r.2.1<=o)/\(j<=r.2.2.1/\r.2.2.1<=o)/\j<=r.2.2.2/\r.2.2.2<=o): ∀x∈j6 zs,j<=x/\x<=o:=λx p=>by
 unfold j6 at p;obtain ⟨r,t,p⟩:=List.mem_flatMap.1 p;obtain ⟨a,b,c,d⟩:=h r t;simp only [ϖ,aak,or_false] at p;rcases p with rfl|rfl|rfl|rfl<;>assumption
theorem KF {l:List (List UInt8)}(h: ∀x∈l,∀b∈x,44<=b.toNat): ∀b∈jn [59] l,44<=b.toNat:=λb o=>by
 rcases yL o with j|⟨x,p,j⟩
 simp only [ϊ] at j;subst j;decide;exact h x p b j
section
variable {m c:Nat} {zs:List Q4} {ss es:List Int}
def BQ (m c:Nat)(zs:List Q4)(ss es:List Int):List UInt8:=jn [59] [tx [(m:Int),(c:Int)],tx ss,tx es,tx (j6 zs)]
theorem pk.vals (h:pk m c zs ss es):dv [(m:Int),(c:Int)]=true/\dv ss=true/\dv es=true/\dv (j6 zs)=true:=by
 have p:=h.m2;have t:=h.c2;have I:=h.sl;have J:=h.el;have R:=h.zl;have T:=qt zs;refine ⟨BP (by omega) (by omega),jZ (λx j=>by have:=h.sv x j;omega) (by omega),jZ (λx j=>by have:=h.ev x j;omega) (by omega),jZ (yM λr o=> ?_) (by omega)⟩;obtain ⟨a,b,d,e⟩:=h.zH r o;exact ⟨by omega,by omega,by omega,by omega⟩
theorem KG (h:pk m c zs ss es):jU ((m:Int),(c:Int),zs,ss,es)=some (BQ m c zs ss es,true):=by
 obtain ⟨v1,o,p,v4⟩:=h.vals;have r:=h.sl;have t:=h.el;have I:=h.zl;have J:=qt zs;have:=h.m2;unfold jU;simp only [h.valid,η,ϔ,cond_false,Kv (show zs.length<=1048576 by omega)];rw [pR (by simp) (λl j=>by
  simp only [ϖ,aak,or_false] at j;rcases j with rfl|rfl|rfl|rfl
  simp;omega;omega;omega)]
 simp only [acn,v1,o,p,v4,afc,ac8,cond_true,η];rfl
theorem H3: ∀b∈BQ m c zs ss es,44<=b.toNat:=KF λx j b o=>by
 simp only [ϖ,aak,or_false] at j;rcases j with rfl|rfl|rfl|rfl<;>exact (uT o).1
end
section
variable {n c:Nat} {rs:List Q4}
def yN (n c:Nat)(rs:List Q4):List UInt8:=jn [59] [tx [(n:Int),(c:Int)],tx (j6 rs)]
theorem rU.vals (h:rU n c rs):dv [(n:Int),(c:Int)]=true/\dv (j6 rs)=true:=by
 have o:=h.n2;have p:=h.c2;have t:=h.rl;have I:=qt rs;refine ⟨BP (by omega) (by omega),jZ (yM λr j=> ?_) (by omega)⟩;obtain ⟨a,b,d,e,f,g⟩:=h.rules r j;by_cases q:r.2.2.1<0;have:=f q;exact ⟨by omega,by omega,by omega,by omega⟩;have:=g (by omega);exact ⟨by omega,by omega,by omega,by omega⟩
theorem KH (h:rU n c rs):jV ((n:Int),(c:Int),rs)=some (yN n c rs,true):=by
 obtain ⟨v1,v4⟩:=h.vals;have o:=h.rl;have p:=qt rs;unfold jV;simp only [h.valid,η,ϔ,cond_false,HW (show rs.length<=1048576 by omega)];rw [pR (by simp) (λl j=>by
  simp only [ϖ,aak,or_false] at j;rcases j with rfl|rfl
  simp;omega)]
 simp only [acn,v1,v4,afc,ac8,cond_true,η];rfl
theorem H4: ∀b∈yN n c rs,44<=b.toNat:=KF λx j b o=>by
 simp only [ϖ,aak,or_false] at j;rcases j with rfl|rfl<;>exact (uT o).1
theorem FF (h:rU n c rs):(yN n c rs).length<=3000:=by
 obtain ⟨v1,v4⟩:=h.vals;have:=BK (p:=[59]) (k:=1412) [tx [(n:Int),(c:Int)],tx (j6 rs)] λx j=>by
  simp only [ϖ,aak,or_false] at j;rcases j with rfl|rfl<;>apply DD<;>assumption
 unfold yN;simp only [Η,Χ] at this;omega
end
section
variable {m c:Nat} {nx:List Int} {es:List Bool}
def pf (es:List Bool):List UInt8:=es.map λb=>bif b then 49 else 48
def sO (m c:Nat)(nx:List Int)(es:List Bool):List UInt8:=jn [59] [tx [(m:Int),(c:Int)],tx nx]++[59]++pf es
theorem dF.facts (h:dF m c nx es):1<=m/\m<=64/\1<=c/\c<=4/\nx.length=m*c/\es.length=m/\(∀i,i<m*c-> ∃t:Nat,nx.getD i 0=(t:Int)/\t<m)/\ ∀x∈nx,0<=x/\x<(m:Int):=by
 obtain ⟨m',o,h1,h2,p,r,I,J,R,T,j⟩:=uO h.ok;obtain rfl:m'=m:=by omega
 obtain rfl:o=c:=by omega
 refine ⟨p,r,I,J,R,T,j,λx U=> ?_⟩;obtain ⟨i,hi,rfl⟩:=aaV U;obtain ⟨t,e,ht⟩:=j i (by omega);rw [ψ,Γ hi] at e;have e:nx[i]=(t:Int):=e;omega
theorem dF.valid (h:dF m c nx es):cI ((m:Int),(c:Int),nx,es)=some true:=by
 have:=h.nl;rw [sN (by omega),h.ok]
theorem dF.vals (h:dF m c nx es):dv [(m:Int),(c:Int)]=true/\dv nx=true:=by
 obtain ⟨p,r,t,I,J,R,T,j⟩:=h.facts;exact ⟨BP (by omega) (by omega),jZ (λx o=>by have:=j x o;omega) h.nl⟩
theorem yO {s l:Int}{acc:List UInt8}(h:es.length<=1048576)(p:acc.length<=1000000):rounds (eZ (s,l,nx,es)) (acc,(0:Int))=some (acc++pf es):=by
 have:=py (f:=eZ (s,l,nx,es)) (λi (t:List UInt8)=>(t,((i:Nat):Int))) (λi t=>t++[bif es.getD i false then 49 else 48]) id (n:=es.length) (λi t=>t=acc++pf (es.take i)) (λi t j ht=>⟨by
  have r:t.length<=1000000+1048576:=by rw [ht,ξ];unfold pf;rw [Ϝ,ώ];omega
  unfold eZ;simp only [show decide ((i:Int)<bn es)=true from kn j,cond_true,guard_pos (eO j),Α];cases es.getD i false with
  |true=>
   simp only [cond_true];rw [qu (by simp only [Η,Χ];omega),ca j (by omega)];rfl
  |false=>
   simp only [cond_false];rw [qu (by simp only [Η,Χ];omega),ca j (by omega)];rfl,by
  rw [ht,gV j false];unfold pf;rw [aa6,ό];rfl⟩) (λt _=>by
  unfold eZ;simp only [show decide (((es.length:Nat):Int)<bn es)=false from ky (ς _),cond_false];rfl) es.length 0 acc (by omega) (by simp [pf])
 rw [aan] at this;have o:=this.1;rw [this.2] at o;exact o
theorem H5 (h:dF m c nx es):lZ ((m:Int),(c:Int),nx,es)=some (sO m c nx es,true):=by
 obtain ⟨v1,v4⟩:=h.vals;obtain ⟨p,r,t,I,J,R,T,o⟩:=h.facts;have U:=h.nl;have t1:=DD v1;have t2:=DD v4;have j:(jn [59] [tx [(m:Int),(c:Int)],tx nx]).length<=3000:=by simp only [jn,ξ,Η,Χ];omega
 unfold lZ;simp only [h.valid,η,ϔ,cond_false];rw [pR (by simp) (λl j=>by
  simp only [ϖ,aak,or_false] at j;rcases j with rfl|rfl
  simp;omega)]
 simp only [acn,v1,v4,afc,ac8,cond_true,η,ϔ,cond_false,aaa,ae7];rw [qu (by simp only [Η,Χ];omega),yO (by omega) (by simp only [ξ,Η,Χ];omega)];rfl
theorem Av: ∀b∈pf es,44<=b.toNat/\b.toNat≠59:=λb j=>by
 unfold pf at j;obtain ⟨e,_,rfl⟩:=Ϣ.1 j;cases e<;>decide
theorem FG: ∀b∈sO m c nx es,44<=b.toNat:=λb j=>by
 unfold sO at j;rcases Λ.1 j with j|j
 rcases Λ.1 j with j|j
 exact KF (λx o b j=>by
  simp only [ϖ,aak,or_false] at o;rcases o with rfl|rfl<;>exact (uT j).1) b j
 simp only [ϊ] at j;subst j;decide;exact (Av b j).1
theorem DF (h:dF m c nx es):(sO m c nx es).length<=3000:=by
 obtain ⟨v1,v4⟩:=h.vals;obtain ⟨o,p,r,t,I,J,R,j⟩:=h.facts;have T:=DD v1;have U:=DD v4;unfold sO pf;simp only [jn,ξ,Η,Χ,Ϝ];omega
end
end Go.Proofs
namespace Go.Proofs
open Go.Ide Go.IntWalk
theorem rq (x:Int):fg (Ρ .i64 x):=by
 unfold fg;rw [IntKind.wrap_i64];omega
theorem H6: ∀n:Fin 65,nT 1 ((n.val:Nat):Int)=some (0,((n.val:Nat):Int)):=by decide+kernel
theorem KI {n:Nat}(h:n<=64):ko (Ρ .u64 (bn [(1099511627776:Int)])) (Ρ .u64 ((n:Nat):Int))=some (0,(n:Int)):=by
 have j:Ρ .u64 (bn [(1099511627776:Int)])=1:=rfl;have o:Ρ .u64 ((n:Nat):Int)=(n:Int):=by
  unfold Ρ;simp only [Ϗ,agb,agY,acH,if_false];omega
 unfold ko;rw [j,o,H6 ⟨n,by omega⟩];rfl
theorem yP {x:Int}{n:Nat}(t:1<=n)(J:n<=64):cq [x] (n:Int)=some (υ n x):=by
 have j:(υ n (0:Int)).length=n:=ϗ;obtain ⟨r,e,R⟩:=fG (f:=eE) (λd s=> ∃k:Nat,s.1=(k:Int)/\1<=k/\k<=n/\d=n - k/\s.2=υ k x++υ (n - k) 0) (λr=>r=υ n x) (by
  rintro d ⟨T,o⟩ ⟨k,U,k1,k2,rfl,I⟩;obtain rfl:T=(k:Int):=U;have p:o=υ k x++υ (n - k) 0:=I;have hl:o.length=n:=by rw [p];simp;omega
  unfold eE;by_cases aa:k<n;have e1:ϛ k o=υ k x:=by rw [p];simp
  simp only [show decide ((k:Int)<bn o)=true by simp only [bn,decide_eq_true_eq];omega,cond_true,guard_pos (show (0:Int)<=(k:Int)/\(k:Int)<=bn o from ⟨by omega,by simp only [bn];omega⟩),agM,Α,e1,ϗ,show (bn o).toNat=n by simp only [bn];omega];obtain ⟨q,hq,q1,q2⟩: ∃q,abh k (n - k)=q/\q<=k/\q+k<=n/\1<=q:=⟨_,rfl,Nat.min_le_left _ _,by have:=Nat.min_le_right k (n - k);show min k (n - k)+k<=n;omega,by show 1<=min k (n - k);omega⟩;rw [hq,show bz .i64 (k:Int) ((q:Nat):Int)=((k+q:Nat):Int) from by rw [eX (by omega)];omega];refine .inl ⟨n - (k+q),(_,_),by omega,rfl,k+q,rfl,by omega,by omega,rfl,?_⟩;show υ k x++ϛ q (υ k x)++aaY (k+q) o=_;rw [p,List.take_replicate,List.drop_append,adC,adC,ϗ,aas q1,List.replicate_append_replicate,show k - (k+q)=0 by omega,List.replicate_zero,List.nil_append,show n - k - (k+q - k)=n - (k+q) by omega];simp only [show decide ((k:Int)<bn o)=false by simp only [bn,decide_eq_false_iff_not];omega,cond_false];exact .inr ⟨_,rfl,by rw [p,show k=n by omega];simp⟩) (n - 1)
  ((((abh ([x]).length (υ n (0:Int)).length:Nat)):Int),ϛ 0 (υ n (0:Int))++ϛ (abh ([x]).length (υ n (0:Int)).length) [x]++aaY (0+abh ([x]).length (υ n (0:Int)).length) (υ n (0:Int)))
  ⟨1,by
   show (((abh 1 (υ n (0:Int)).length:Nat)):Int)=_;rw [j,show abh 1 n=1 from aas t],ς _,t,rfl,by
   show ϛ 0 (υ n (0:Int))++ϛ (abh 1 (υ n (0:Int)).length) [x]++aaY (0+abh 1 (υ n (0:Int)).length) (υ n (0:Int))=_;rw [j,show abh 1 n=1 from aas t,adC,Nat.zero_add];rfl⟩
 subst R;unfold cq;have hw:Ρ .i64 ((n:Nat):Int)=(n:Int):=i64_in _ (by omega);have hb:ko (Ρ .u64 (bn [x])) (Ρ .u64 ((n:Nat):Int))=some (0,(n:Int)):=KI J;rw [show decide ((n:Int)<0)=false by simp only [decide_eq_false_iff_not];omega,cond_false,hb];simp only [η,show decide ((0:Int)>0)=false from rfl,cond_false,show decide ((n:Int)>9223372036854775807)=false by simp only [decide_eq_false_iff_not];omega,hw,Α];rw [guard_pos (by omega),e];rfl
theorem vF {n:Nat}(j:1<=n)(o:n<=64): ∃r,cq [(1099511627776:Int)] (n:Int)=some r/\r.length=n:=⟨_,yP j o,ϗ⟩
theorem dZ {α:Type}{xs:List α}(h:xs.length<=1000000):slices_Clone xs=some xs:=by
 unfold slices_Clone;rw [guard_pos (by unfold bD;omega)]
theorem rb {xs:List Int}(h:xs.length<=1000): ∃r,ft xs=some r/\r.length=xs.length:=by
 obtain ⟨r,e,p⟩:=eG (f:=iT xs) (λi s=>(((i:Nat):Int),s)) (λ_ s=>s.length=xs.length) (λr=>r.length=xs.length) (n:=xs.length) (λi s o j=>by
  unfold iT;simp only [show decide ((i:Int)<bn xs)=true from kn o,cond_true,guard_pos (show (0:Int)<=(i:Int)/\(i:Int)<bn s from ⟨by omega,by simp only [bn];omega⟩),ca o (show xs.length<=4294967296 by omega)];cases decide (ε s (δ (i:Int)) 0<0) with
  |true=>exact ⟨_,rfl,by rw [ϙ];exact j⟩
  |false=>exact ⟨_,rfl,j⟩) (λs j=>by
  unfold iT;simp only [show decide (((xs.length:Nat):Int)<bn xs)=false from ky (ς _),cond_false];exact ⟨_,rfl,j⟩) xs.length 0 xs (by omega) rfl
 refine ⟨r,?_,p⟩;unfold ft;rw [dZ (by omega),η];have e:rounds (iT xs) ((0:Int),xs)=some r:=e;rw [e];rfl
section
variable {m c:Nat} {zs:List Q4} {ss es:List Int} (h:pk m c zs ss es)
include h
theorem uU {cs:List Int}(t:cs.length=m): ∃r,mL ((m:Int),(c:Int),zs,ss,es) cs=some r/\r.length=m:=by
 have I:=h.zl;have J:=h.m2;have inner: ∀s:List Int,s.length=m-> ∃r,rounds (kp ((m:Int),(c:Int),zs,ss,es)) ((0:Int),s)=some r/\r.length=m:=λs j=>
  eG (f:=kp ((m:Int),(c:Int),zs,ss,es)) (λi s=>(((i:Nat):Int),s)) (λ_ s=>s.length=m) (λr=>r.length=m) (n:=zs.length) (λi s o j=>by
   obtain ⟨a,b,d,_⟩:=h.zH _ (cf (d:=(0,0,0,0)) o);unfold kp;simp only [show decide ((i:Int)<bn zs)=true from kn o,cond_true,guard_pos (eO o),Α,η,ca o (show zs.length<=4294967296 by omega)];cases decide ((zs.getD i (0,0,0,0)).2.2.1<0) with
   |true=>
    simp only [cond_true];rw [guard_pos (by simp only [bn];omega),guard_pos (by simp only [bn];omega)];exact ⟨_,rfl,by rw [ϙ];exact j⟩
   |false=>exact ⟨_,rfl,j⟩) (λs j=>by
   unfold kp;simp only [show decide (((zs.length:Nat):Int)<bn zs)=false from ky (ς _),cond_false];exact ⟨_,rfl,j⟩) zs.length 0 s (by omega) j
 obtain ⟨r,e,p⟩:=eG (f:=kq ((m:Int),(c:Int),zs,ss,es) cs) (λi s=>(((i:Nat):Int),s)) (λ_ s=>s.length=m) (λr=>r.length=m) (n:=cs.length) (λi s o j=>by
  obtain ⟨r,e,p⟩:=inner s j;unfold kq;simp only [show decide ((i:Int)<bn cs)=true from kn o,cond_true,e,η,ca o (show cs.length<=4294967296 by omega)];exact ⟨_,rfl,p⟩) (λs j=>by
  unfold kq;simp only [show decide (((cs.length:Nat):Int)<bn cs)=false from ky (ς _),cond_false];exact ⟨_,rfl,j⟩) cs.length 0 cs (by omega) t
 have e:rounds (kq ((m:Int),(c:Int),zs,ss,es) cs) ((0:Int),cs)=some r:=e;refine ⟨r,?_,p⟩;unfold mL;rw [e,η,guard_pos (by omega)]
theorem G3 {cs:List Int}(U:cs.length=m)(a:Int): ∃r,mQ ((m:Int),(c:Int),zs,ss,es) cs a=some r/\r.length=m:=by
 have hz:=h.zl;have hm:=h.m2;obtain ⟨y,t,hy⟩:=vF (n:=cs.length) (by have:=h.m1;omega) (by omega);obtain ⟨r,e,J⟩:=eG (f:=l0 ((m:Int),(c:Int),zs,ss,es) cs a) (λi s=>(((i:Nat):Int),s)) (λ_ s=>s.length=m) (λr=>r.length=m) (n:=zs.length) (λi s j o=>by
  obtain ⟨p,q,_,_⟩:=h.zH _ (cf (d:=(0,0,0,0)) j);unfold l0;simp only [show decide ((i:Int)<bn zs)=true from kn j,cond_true,guard_pos (eO j),Α,η,ca j (show zs.length<=4294967296 by omega)];cases ((zs.getD i (0,0,0,0)).2.2.1==a) with
  |true=>
   simp only [cond_true];rw [guard_pos (by simp only [bn];omega),guard_pos (by simp only [bn];omega)];exact ⟨_,rfl,by rw [ϙ];exact o⟩
  |false=>exact ⟨_,rfl,o⟩) (λs o=>by
  unfold l0;simp only [show decide (((zs.length:Nat):Int)<bn zs)=false from ky (ς _),cond_false];exact ⟨_,rfl,o⟩) zs.length 0 y (by omega) (by omega)
 have e:rounds (l0 ((m:Int),(c:Int),zs,ss,es) cs a) ((0:Int),y)=some r:=e;obtain ⟨R,T,I⟩:=uU h J;refine ⟨R,?_,I⟩;unfold mQ;have t:cq [(1099511627776:Int)] (bn cs)=some y:=t;rw [t,η,e,η];simp only [T,η]
theorem KJ {w:List Int}(hw:w.length<=1000): ∃n,pF ((m:Int),(c:Int),zs,ss,es) w=some n/\fg n:=by
 have hm:=h.m2;have o:=h.sl;have he:=h.el;obtain ⟨U,e1,h1⟩:=rb (xs:=ss) (by omega);obtain ⟨R,e2,h2⟩:=uU h (cs:=U) (by omega);obtain ⟨j,t,h3⟩:=eG (f:=jK ((m:Int),(c:Int),zs,ss,es) w) (λi s=>(((i:Nat):Int),s)) (λ_ s=>s.length=m) (λr=>r.length=m) (n:=w.length) (λi s p o=>by
  obtain ⟨y,e,hy⟩:=G3 h o (w.getD i 0);unfold jK;simp only [show decide ((i:Int)<bn w)=true from kn p,cond_true,guard_pos (eO p),Α,e,η,ca p (show w.length<=4294967296 by omega)];exact ⟨_,rfl,hy⟩) (λs o=>by
  unfold jK;simp only [show decide (((w.length:Nat):Int)<bn w)=false from ky (ς _),cond_false];exact ⟨_,rfl,o⟩) w.length 0 R (by omega) h2
 have t:rounds (jK ((m:Int),(c:Int),zs,ss,es) w) ((0:Int),R)=some j:=t;obtain ⟨I,e4,h4⟩:=rb (xs:=es) (by omega);obtain ⟨T,J,h5⟩:=eG (f:=eF j I) (λi (s:Int)=>(s,((i:Nat):Int))) (λ_ s=>fg s) (λr=>fg r) (n:=j.length) (λi s p o=>by
  unfold eF;simp only [show decide ((i:Int)<bn j)=true from kn p,cond_true,guard_pos (eO p),guard_pos (show (0:Int)<=(i:Int)/\(i:Int)<bn I from ⟨by omega,by simp only [bn];omega⟩),ca p (show j.length<=4294967296 by omega)];exact ⟨_,rfl,by split;exact rq _;exact o⟩) (λs o=>by
  unfold eF;simp only [show decide (((j.length:Nat):Int)<bn j)=false from ky (ς _),cond_false];exact ⟨_,rfl,o⟩) j.length 0 1099511627776 (by omega) ⟨by decide,by decide⟩
 have J:rounds (eF j I) ((1099511627776:Int),(0:Int))=some T:=J;unfold pF fe eK;simp only [e1,e2,η,t,e4,J];cases decide (T>=1099511627776) with
 |true=>exact ⟨_,rfl,by decide,by decide⟩
 |false=>exact ⟨_,rfl,h5⟩
end
structure KK (w:List Int):Prop where
 len:w.length<=12
 ZP: ∀x∈w,0<=x/\x<4
theorem BR {w:List Int}{c:Nat}(o:w.length<=12)(p:1<=c)(c2:c<=4): ∃b,gr w (c:Int)=some b/\(b=true-> ∀x∈w,0<=x/\x<(c:Int)):=by
 refine ⟨_,yE (by omega),λe=> ?_⟩;rw [gE (by omega)] at e;simp only [κ] at e;intro x j;have:=ja.1 e.2.2 x j;omega
theorem Nw {m c:Nat}{zs:List Q4}{ss es w:List Int}(h:pk m c zs ss es)(j:w.length<=12): ∃n b,nG ((m:Int),(c:Int),zs,ss,es) w=some (n,b)/\fg n:=by
 obtain ⟨n,e,o⟩:=KJ h (w:=w) (by omega);obtain ⟨b,p,_⟩:=BR j h.c1 h.c2;unfold nG;simp only [h.valid,p,η,ϔ,cond_false,e];cases b with
 |true=>exact ⟨n,true,rfl,o⟩
 |false=>exact ⟨0,false,rfl,by decide,by decide⟩
section
variable {m c:Nat} {nx:List Int} {es:List Bool} (h:dF m c nx es)
include h
theorem dF.plain:Plain m c nx es:=by
 obtain ⟨j,o,p,r,t,I,J,_⟩:=h.facts;exact ⟨j,o,p,r,t,I,J⟩
theorem KL {s a:Nat}(j:s<m)(o:a<c): ∃t:Nat,cP ((m:Int),(c:Int),nx,es) (s:Int) (a:Int)=some (t:Int)/\t<m:=
 ⟨_,GX h.plain j rfl o,Ko h.plain j rfl o⟩
theorem Rq {w:List Int}(I:w.length<=12): ∃b J,jL ((m:Int),(c:Int),nx,es) w=some (b,J):=by
 obtain ⟨h3,h4,R,T,h7,h8,h9,_⟩:=h.facts;obtain ⟨U,p,hb⟩:=BR I R T;cases U with
 |false=>
  unfold jL;simp only [h.valid,p,η,ϔ,cond_false,acO,cond_true];exact ⟨_,_,rfl⟩
 |true=>
 have hv:=hb rfl;obtain ⟨r,e,q,hq,NY⟩:=eG (f:=c6 ((m:Int),(c:Int),nx,es) w) (λi (s:Nat)=>((s:Int),((i:Nat):Int))) (λ_ s=>s<m) (λr=> ∃q:Nat,r=(q:Int)/\q<m) (n:=w.length) (λi s j o=>by
  obtain ⟨v1,v2⟩:=hv _ (cf (d:=0) j);obtain ⟨t,e,ht⟩:=KL h o (show (w.getD i 0).toNat<c by omega);rw [aai v1] at e;unfold c6;simp only [show decide ((i:Int)<bn w)=true from kn j,cond_true,guard_pos (eO j),Α,e,η,ca j (show w.length<=4294967296 by omega)];exact ⟨t,rfl,ht⟩) (λs o=>by
  unfold c6;simp only [show decide (((w.length:Nat):Int)<bn w)=false from ky (ς _),cond_false];exact ⟨_,rfl,s,rfl,o⟩) w.length 0 0 (by omega) (by omega)
 have e:rounds (c6 ((m:Int),(c:Int),nx,es) w) ((0:Int),(0:Int))=some r:=e;subst hq;unfold jL fB;simp only [h.valid,p,η,ϔ,cond_false,e];rw [guard_pos (by simp only [bn];omega)];exact ⟨_,_,rfl⟩
theorem KM {k:Nat}(hk:k<=12): ∃n,fX ((m:Int),(c:Int),nx,es) (k:Int)=some (n,true)/\fg n:=by
 obtain ⟨h3,h4,h5,h6,h7,h8,h9,_⟩:=h.facts;have l2: ∀(o:Int×List Int) (i:Nat) (p:Int×List Int),p.1=(i:Int)->i<m-> ∀q:List Int,q.length=m-> ∃r,rounds (fL ((m:Int),(c:Int),nx,es) o p) ((0:Int),q)=some r/\r.length=m:=λo i p hp U q hq=>
  eG (f:=fL ((m:Int),(c:Int),nx,es) o p) (λi s=>(((i:Nat):Int),s)) (λ_ s=>s.length=m) (λr=>r.length=m) (n:=c) (λj s J I=>by
   obtain ⟨t,e,ht⟩:=KL h U J;unfold fL;simp only [kn J,cond_true,hp,e,η,guard_pos (show (0:Int)<=(t:Int)/\(t:Int)<bn s from ⟨by omega,by simp only [bn];omega⟩),ca J (show c<=4294967296 by omega)];exact ⟨_,rfl,by rw [ϙ];exact I⟩) (λs I=>by
   unfold fL;simp only [ky (ς _),cond_false];exact ⟨_,rfl,I⟩) c 0 q (by omega) hq
 have l3: ∀(o:Int×List Int),o.2.length=m-> ∀q:List Int,q.length=m-> ∃r,rounds (fM ((m:Int),(c:Int),nx,es) o) ((0:Int),q)=some r/\r.length=m:=λo h8 q hq=>
  eG (f:=fM ((m:Int),(c:Int),nx,es) o) (λi s=>(((i:Nat):Int),s)) (λ_ s=>s.length=m) (λr=>r.length=m) (n:=o.2.length) (λj s J I=>by
   obtain ⟨r,e,hr⟩:=l2 o j ((j:Int),s) rfl (by omega) s I;unfold fM;simp only [show decide ((j:Int)<bn o.2)=true from kn J,cond_true,guard_pos (eO J),e,η,ca J (show o.2.length<=4294967296 by omega)];exact ⟨_,rfl,hr⟩) (λs I=>by
   unfold fM;simp only [show decide (((o.2.length:Nat):Int)<bn o.2)=false from ky (ς _),cond_false];exact ⟨_,rfl,I⟩) o.2.length 0 q (by omega) hq
 have T:(υ m (0:Int)).length=m:=ϗ;obtain ⟨R,e4,h4'⟩:=eG (f:=fN ((m:Int),(c:Int),nx,es) (k:Int)) (λi s=>(((i:Nat):Int),s)) (λ_ s=>s.length=m) (λr=>r.length=m) (n:=k) (λj s J I=>by
  obtain ⟨r,e,hr⟩:=l3 ((j:Int),s) I (υ m 0) T;unfold fN;simp only [kn J,cond_true,Α,e,η,ca J (show k<=4294967296 by omega)];exact ⟨_,rfl,hr⟩) (λs I=>by
  unfold fN;simp only [ky (ς _),cond_false];exact ⟨_,rfl,I⟩) k 0 ((υ m (0:Int)).set 0 1) (by omega) (by rw [ϙ];exact T)
 have e4:rounds (fN ((m:Int),(c:Int),nx,es) (k:Int)) ((0:Int),(υ m (0:Int)).set (δ 0) 1)=some R:=e4;obtain ⟨r5,e5,h5r⟩:=eG (f:=fK ((m:Int),(c:Int),nx,es) R) (λi (s:Int)=>(s,((i:Nat):Int))) (λ_ s=>fg s) (λr=>fg r) (n:=R.length) (λi s U I=>by
  unfold fK;simp only [show decide ((i:Int)<bn R)=true from kn U,cond_true,guard_pos (eO U),guard_pos (show (0:Int)<=(i:Int)/\(i:Int)<bn es from ⟨by omega,by simp only [bn];omega⟩),Α,ca U (show R.length<=4294967296 by omega)];cases es.getD i false with
  |true=>exact ⟨_,rfl,rq _⟩
  |false=>exact ⟨_,rfl,I⟩) (λs I=>by
  unfold fK;simp only [show decide (((R.length:Nat):Int)<bn R)=false from ky (ς _),cond_false];exact ⟨_,rfl,I⟩) R.length 0 0 (by omega) ⟨by decide,by decide⟩
 have e5:rounds (fK ((m:Int),(c:Int),nx,es) R) ((0:Int),(0:Int))=some r5:=e5;refine ⟨r5,?_,h5r⟩;unfold fX;simp only [h.valid,iY,η,ϔ,cond_false,decide_eq_true (show (k:Int)>=0 by omega),decide_eq_true (show (k:Int)<=12 by omega),ac8,Α];rw [guard_pos (by omega),guard_pos (by simp only [bn,T];omega),e4,η,e5];rfl
end
end Go.Proofs
namespace Go.Proofs
open Go.Ide Go.IntWalk
def bu {α:Type}(Q:α->Prop)(o:Option α):Prop:= ∃a,o=some a/\Q a
section
variable {α β σ ρ:Type} {Q:β->Prop}
theorem bu.some {P:α->Prop}{a:α}(h:P a):bu P (some a):=⟨a,rfl,h⟩
theorem bu.bind {P:α->Prop}{o:Option α}{k:α->Option β}(h:bu P o)(j: ∀a,P a->bu Q (k a)):bu Q (o.bind k):=by
 obtain ⟨a,rfl,p⟩:=h;exact j a p
theorem bu.guard {p:Prop}[Decidable p]{k:Option β}(hp:p)(h:bu Q k):bu Q (br p k):=by rw [guard_pos hp];exact h
theorem bu.bif {b:Bool}{x y:Option β}(j:b=true->bu Q x)(o:b=false->bu Q y):bu Q (bif b then x else y):=by
 cases b with
 |true=>exact j rfl
 |false=>exact o rfl
theorem bu.rounds {f:σ->Option (σ⊕ρ)}(I:Nat->σ->Prop){R:ρ->Prop}(step: ∀n s,I n s->bu (λx=>(∃j o,j<n/\x=Sum.inl o/\I j o)\/ ∃r,x=Sum.inr r/\R r) (f s)){n:Nat}{s:σ}(h:I n s):bu R (rounds f s):=by
 obtain ⟨r,e,p⟩:=fG (f:=f) I R (λn s h=>by
  obtain ⟨x,e,t⟩:=step n s h;rcases t with ⟨j,o,J,rfl,T⟩|⟨r,rfl,p⟩
  exact .inl ⟨j,o,J,e,T⟩;exact .inr ⟨r,e,p⟩) n s h
 exact ⟨r,e,p⟩
end
theorem KN {n c:Nat}{rs:List Q4}{w:List Int}(h:rU n c rs)(j:w.length<=12): ∃b,ic ((n:Int),(c:Int),rs) w=some b/\(b=true->1<=w.length):=by
 obtain ⟨b,o,_⟩:=BR j h.c1 h.c2;unfold ic;simp only [h.valid,o,η,cond_true];cases b with
 |true=>exact ⟨_,rfl,λe=>by simp only [bn,decide_eq_true_eq] at e;omega⟩
 |false=>exact ⟨_,rfl,λe=>by cases e⟩
def LC (v:List (Int×Int×Int)):Prop:=v.length=1248/\ ∀x∈v,fg x.1
def LT (v:List Int):Prop:=v.length=1248/\ ∀x∈v,fg x
theorem LC.set {v:List (Int×Int×Int)}(h:LC v){i:Nat}{x:Int×Int×Int}(o:fg x.1):LC (v.set i x):=⟨by rw [ϙ];exact h.1,λy j=>by
 rcases aa4 j with j|rfl
 exact h.2 y j;exact o⟩
theorem LT.set {v:List Int}(h:LT v){i:Nat}{x:Int}(o:fg x):LT (v.set i x):=⟨by rw [ϙ];exact h.1,λy j=>by
 rcases aa4 j with j|rfl
 exact h.2 y j;exact o⟩
theorem LC.get {v:List (Int×Int×Int)}(h:LC v){i:Nat}:fg (v.getD i (0,0,0)).1:=by
 by_cases j:i<v.length;exact h.2 _ (cf j);rw [ψ,aab (by omega)];exact ⟨by decide,by decide⟩
theorem LT.get {v:List Int}(h:LT v){i:Nat}:fg (v.getD i 0):=by
 by_cases j:i<v.length;exact h.2 _ (cf j);rw [ψ,aab (by omega)];exact ⟨by decide,by decide⟩
def CS {α:Type}(j:Int)(N:List α->Prop)(d:Nat)(s:Int×List α):Prop:=0<=s.1/\s.1<=j/\d=(j - s.1).toNat/\N s.2
theorem CS.next {α:Type}{j t:Int}{N:List α->Prop}{d:Nat}{q v:List α}(r:j<=1000000)(h:CS j N d (t,q))(ht:t<j)(p:N v):CS j N (d - 1) (bz .i64 t 1,v)/\d - 1<d:=by
 obtain ⟨a,b,e,_⟩:=h;have a:0<=t:=a;have b:t<=j:=b;have e:d=(j - t).toNat:=e;have o:bz .i64 t 1=t+1:=eX (by omega);exact ⟨⟨by rw [o];show 0<=t+1;omega,by rw [o];show t+1<=j;omega,by rw [o];show d - 1=(j - (t+1)).toNat;omega,p⟩,by omega⟩
theorem CS.inl {α ρ:Type}{R:ρ->Prop}{j t:Int}{N:List α->Prop}{d:Nat}{q v:List α}(o:j<=1000000)(h:CS j N d (t,q))(ht:t<j)(p:N v):
 (∃I J,I<d/\(Sum.inl (bz .i64 t 1,v):(Int×List α)⊕ρ)=Sum.inl J/\CS j N I J)\/ ∃r,(Sum.inl (bz .i64 t 1,v):(Int×List α)⊕ρ)=Sum.inr r/\R r:=
 .inl ⟨d - 1,_,(h.next o ht p).2,rfl,(h.next o ht p).1⟩
section
variable {n c k:Nat} {rs:List Q4} {w:List Int} (h:rU n c rs)
include h
theorem oC {t:Int}(o:0<=t)(j:t<bn rs):ra n c (rs.getD t.toNat (0,0,0,0)):=h.rules _ (cf (by simp only [bn] at j;omega))
theorem FH {r:Q4}(j:ra n c r):0<=r.2.1/\r.2.1<8/\0<=r.1/\r.1<8/\r.2.2.1<8:=by
 obtain ⟨t,I,J,R,o,p⟩:=j;have:=h.n2;have:=h.c2;by_cases q:r.2.2.1<0;have:=o q;omega;have:=p (by omega);omega
theorem Nx {p i R:Int}{x5 T x26 q:List (Int×Int×Int)}(hz:w.length=k)(hk:k<=12)(h1:1<=p)(U:0<=i)(h3:i+p<=(k:Int))(h4:i<=R)(h5:R<i+p)(hq:LC q):
 bu (LC) (rounds (ig ((n:Int),(c:Int),rs) w (p,x5) (i,T) (R,x26)) ((0:Int),q)):=by
 have Uz:=h.rl;have hw:bz .i64 i p=i+p:=eX (by omega);refine bu.rounds (CS (bn rs) LC) (λd s hs=> ?_) (n:=rs.length) ⟨Ϫ _,by simp [bn],by simp [bn],hq⟩;obtain ⟨t,q⟩:=s;have aa:=hs;obtain ⟨I,b2,b3,o⟩:=hs;have I:0<=t:=I;have o:LC q:=o;have b4l:=o.1;unfold ig;refine bu.bif (λe=> ?_) (λ_=>bu.some (.inr ⟨_,rfl,o⟩));have e:t<bn rs:=of_decide_eq_true e;have g7:=(oC h I e).2.2.1;obtain ⟨g1,g2,g3,g4,g5⟩:=FH h (oC h I e);simp only [hw];generalize rs.getD t.toNat (0,0,0,0)=r at*;refine bu.bind (P:=LC) (bu.guard ⟨I,e⟩ ?_) λv J=>bu.some (CS.inl (by simp only [bn];omega) aa e J);refine bu.bind (P:=LC) ?_ λv46 j=> ?_;refine bu.bind (P:=λ_=>True) ?_ λv74 _=> ?_;refine bu.bif (λ_=>bu.bif (λ_=>bu.bif (λ_=>bu.guard ⟨U,by simp only [bn];omega⟩ (bu.some trivial)) λ_=>bu.some trivial) λ_=>bu.some trivial) λ_=>bu.some trivial;refine bu.bif (λ_=>bu.bind (P:=LC) ?_ λv J=>bu.some J) λ_=>bu.some o;refine bu.guard ⟨U,by omega⟩ (bu.guard ⟨by omega,by omega⟩ (bu.guard ⟨g3,g4⟩ (bu.guard (by omega) (bu.bif (λ_=>bu.some (o.set ⟨by show _<=r.2.2.2;omega,by show r.2.2.2<=_;omega⟩)) λ_=>bu.some o))));have ab:=j.1;refine bu.bind (P:=λb=>b=true->0<=r.2.2.1) ?_ λv50 ad=> ?_;exact bu.bif (λe=>bu.some λ_=>of_decide_eq_true e) λ_=>bu.some λq=>by cases q
 refine bu.bif (λe=> ?_) λ_=>bu.some j;have g0:=ad e;refine bu.guard ⟨U,by omega⟩ (bu.guard ⟨by omega,by omega⟩ (bu.guard ⟨g1,g2⟩ (bu.guard (by omega) (bu.guard ⟨by omega,by omega⟩ (bu.guard ⟨by omega,by omega⟩ (bu.guard ⟨g0,g5⟩ (bu.guard (by omega) ?_)))))));refine bu.bind (P:=LC) (bu.bind (P:=fg) (bu.some (rq _)) λq66 ae=> ?_) λv J=>bu.some J;exact bu.guard ⟨g3,g4⟩ (bu.guard (by omega) (bu.bif (λ_=>bu.some (j.set ae)) λ_=>bu.some j))
theorem FI (hz:w.length=k)(hk:k<=12):bu (LC) (gu ((n:Int),(c:Int),rs) w):=by
 have c2: ∀(j i:Int) (J I q:List (Int×Int×Int)),1<=j->0<=i->i+j<=(k:Int)->LC q->bu (LC) (rounds (ij ((n:Int),(c:Int),rs) w (j,J) (i,I)) (i,q)):=by
  intro j i J I q U h2 h3 hq;have hw:bz .i64 i j=i+j:=eX (by omega);refine bu.rounds (λd s=>CS (i+j) LC d s/\i<=s.1) (λd s o=> ?_) (n:=j.toNat) ⟨⟨h2,by show i<=i+j;omega,by show j.toNat=(i+j - i).toNat;omega,hq⟩,Ϫ _⟩;obtain ⟨t,q⟩:=s;obtain ⟨o,R⟩:=o;have R:i<=t:=R;have p:LC q:=o.2.2.2;have T:=p.1;unfold ij;simp only [hw];refine bu.bif (λe=> ?_) (λ_=>bu.some (.inr ⟨_,rfl,p⟩));have e:t<i+j:=of_decide_eq_true e;refine bu.bind (Nx h hz hk U h2 h3 R e p) λv r=>bu.some (.inl ⟨d - 1,_,(o.next (by omega) e r).2,rfl,(o.next (by omega) e r).1,?_⟩);show i<=bz .i64 t 1;rw [eX (by omega)];omega
 have c3: ∀(j i:Int) (J I q:List (Int×Int×Int)),1<=j->0<=i->i+j<=(k:Int)->LC q->bu (LC) (rounds (il (j,J) (i,I)) ((0:Int),q)):=by
  intro j i J I q U h2 h3 hq;have hw:bz .i64 i j=i+j:=eX (by omega);refine bu.rounds (CS 8 LC) (λd s o=> ?_) (n:=8) ⟨Ϫ _,by show (0:Int)<=8;decide,rfl,hq⟩;obtain ⟨t,q⟩:=s;have p:LC q:=o.2.2.2;have T:=p.1;have b1:0<=t:=o.1;unfold il;simp only [hw];refine bu.bif (λe=> ?_) (λ_=>bu.some (.inr ⟨_,rfl,p⟩));have e:t<8:=of_decide_eq_true e;exact bu.guard ⟨h2,by omega⟩ (bu.guard ⟨by omega,by omega⟩ (bu.guard ⟨b1,by omega⟩ (bu.guard (by omega) (bu.some (CS.inl (by omega) o e (p.set ⟨by show (_:Int)<=1099511627776;omega,by show (1099511627776:Int)<=_;omega⟩))))))
 have c4: ∀(j:Int) (J q:List (Int×Int×Int)),1<=j->j<=(k:Int)->LC q->bu (LC) (rounds (iq ((n:Int),(c:Int),rs) w (j,J)) ((0:Int),q)):=by
  intro j J q U h3 hq;have hw:bz .i64 (bW .i64 (bn w) j) 1=(k:Int) - j+1:=by simp only [bn,hz];rw [gE (by omega),eX (by omega)]
  refine bu.rounds (CS ((k:Int) - j+1) LC) (λd s o=> ?_) (n:=((k:Int) - j+1).toNat) ⟨Ϫ _,by show 0<=(k:Int) - j+1;omega,by simp,hq⟩;obtain ⟨t,q⟩:=s;have p:LC q:=o.2.2.2;have T:=p.1;have b1:0<=t:=o.1;unfold iq;simp only [hw];refine bu.bif (λe=> ?_) (λ_=>bu.some (.inr ⟨_,rfl,p⟩));have e:t<(k:Int) - j+1:=of_decide_eq_true e;exact bu.bind (bu.bind (c3 j t J q q U b1 (by omega) p) λv r=>bu.bind (c2 j t J q v U b1 (by omega) r) λv r=>bu.some r) λv r=>bu.some (CS.inl (by omega) o e r)
 unfold gu;refine bu.bind (bu.bind (P:=LC) (bu.rounds (λd s=>CS ((k:Int)+1) LC d s/\1<=s.1) (λd s o=> ?_) (n:=k) ⟨⟨by decide,by show (1:Int)<=(k:Int)+1;omega,by show k=((k:Int)+1 - 1).toNat;omega,⟨ϗ,λx hx=>by rw [abT hx];exact ⟨by decide,by decide⟩⟩⟩,Ϫ _⟩) λv r=>bu.some r) λv r=>bu.some r;obtain ⟨t,q⟩:=s;obtain ⟨o,R⟩:=o;have R:1<=t:=R;have p:LC q:=o.2.2.2;have T:=p.1;unfold lg;simp only [bn,hz];refine bu.bif (λe=> ?_) (λ_=>bu.some (.inr ⟨_,rfl,p⟩));have e:t<=(k:Int):=of_decide_eq_true e;refine bu.bind (c4 t q q R e p) λv r=>bu.some (.inl ⟨d - 1,_,(o.next (by omega) (by omega) r).2,rfl,(o.next (by omega) (by omega) r).1,?_⟩);show 1<=bz .i64 t 1;rw [eX (by omega)];omega
theorem KO (j:w.length<=12): ∃x b,ir ((n:Int),(c:Int),rs) w=some (x,b)/\fg x:=by
 obtain ⟨b,o,r⟩:=KN h j;cases b with
 |false=>
  unfold ir;simp only [o,η,acO,cond_true];exact ⟨_,_,rfl,by decide,by decide⟩
 |true=>
 have I:=r rfl;obtain ⟨v,e,p⟩:=FI h (w:=w) rfl j;have t:=p.1;unfold ir;simp only [o,η,ϔ,cond_false,e,bn];rw [guard_pos (by omega),guard_pos (by omega),guard_pos (by omega),guard_pos (by omega)];cases decide ((ε v (0+104*δ 0+8*δ ((w.length:Nat):Int)+1*δ 0) (0,0,0)).1>=1099511627776) with
 |true=>exact ⟨_,_,rfl,by decide,by decide⟩
 |false=>exact ⟨_,_,rfl,p.get⟩
theorem Rr {j i p:Int}{x8 x15 x26:Bool×List Int}{q:List Int}(hk:k<=12)(h1:1<=j)(h2:0<=i)(h3:i+j<=(k:Int))(h4:0<=p)(h5:p<bn rs)(hq:LT q):
 bu (LT) (rounds (kR ((n:Int),(c:Int),rs) (j,x8) (i,x15) (p,x26)) (bz .i64 i 1,q)):=by
 have Uz:=h.rl;have hw:bz .i64 i j=i+j:=eX (by omega);have J:bz .i64 i 1=i+1:=eX (by omega);obtain ⟨g1,g2,g3,g4,g5⟩:=FH h (oC h h4 h5);rw [J];refine bu.rounds (λd s=>CS (i+j) LT d s/\i+1<=s.1) (λd s o=> ?_) (n:=(j - 1).toNat) ⟨⟨by show 0<=i+1;omega,by show i+1<=i+j;omega,by show (j - 1).toNat=(i+j - (i+1)).toNat;omega,hq⟩,Ϫ _⟩;obtain ⟨t,q⟩:=s;obtain ⟨o,T⟩:=o;have T:i+1<=t:=T;have I:LT q:=o.2.2.2;have b4l:=I.1;unfold kR;simp only [hw];generalize rs.getD p.toNat (0,0,0,0)=r at*;refine bu.bind (P:=λb=>b=true->t<i+j/\0<=r.2.2.1) (bu.bif (λe=>bu.some λR=>⟨of_decide_eq_true e,of_decide_eq_true R⟩) λ_=>bu.some λq=>by cases q) λv hv=> ?_;refine bu.bif (λe=> ?_) (λ_=>bu.some (.inr ⟨_,rfl,I⟩));obtain ⟨U,R⟩:=hv e;refine bu.guard (by omega) (bu.guard ⟨by omega,by omega⟩ (bu.guard ⟨g1,g2⟩ (bu.guard (by omega) (bu.guard ⟨by omega,by omega⟩ (bu.guard ⟨R,g5⟩ (bu.guard (by omega) (bu.some (.inl ⟨d - 1,_,(o.next (by omega) U I).2,rfl,(o.next (by omega) U (I.set (by split;exact rq _;exact ⟨by decide,by decide⟩))).1,?_⟩))))))));show i+1<=bz .i64 t 1;rw [eX (by omega)];omega
theorem KP (U:w.length=k)(hk:k<=12): ∃x b,fW ((n:Int),(c:Int),rs) w=some (x,b)/\fg x:=by
 obtain ⟨b0,eb,hb⟩:=KN h (w:=w) (by omega);cases b0 with
 |false=>
  unfold fW;simp only [eb,η,acO,cond_true];exact ⟨_,_,rfl,by decide,by decide⟩
 |true=>
 have k1:=hb rfl;have Uz:=h.rl;have c2: ∀(p i:Int) (x8 x15:Bool×List Int) (f:Bool) (q:List Int),1<=p->0<=i->i+p<=(k:Int)->LT q->bu (λr=>LT r.2) (rounds (kS ((n:Int),(c:Int),rs) w (p,x8) (i,x15)) ((0:Int),f,q)):=by
  intro p i x8 x15 f q h1 h2 h3 hq;have hw:bz .i64 i p=i+p:=eX (by omega);refine bu.rounds (λd s=>CS (bn rs) LT d (s.1,s.2.2)) (λd s j=> ?_) (n:=rs.length) ⟨Ϫ _,by simp [bn],by simp [bn],hq⟩;obtain ⟨t,f,q⟩:=s;have j:CS (bn rs) LT d (t,q):=j;have I:LT q:=j.2.2.2;have J:=I.1;have R:0<=t:=j.1;unfold kS;simp only [hw];refine bu.bif (λe=> ?_) (λ_=>bu.some (.inr ⟨_,rfl,I⟩));have e:t<bn rs:=of_decide_eq_true e;obtain ⟨g1,g2,g3,g4,g5⟩:=FH h (oC h R e);have t1:=λv o=>Rr (x8:=x8) (x15:=x15) (x26:=(f,q)) (q:=v) h hk h1 h2 h3 R e o;generalize rs.getD t.toNat (0,0,0,0)=r at*;refine bu.bind (P:=λv=>LT v.2) (bu.guard ⟨R,e⟩ (bu.guard ⟨h2,by omega⟩ (bu.guard ⟨by omega,by omega⟩ (bu.guard ⟨g3,g4⟩ (bu.bind (P:=LT) ?_ λVp T=> ?_))))) λv o=>bu.some (.inl ⟨d - 1,_,(j.next (by simp only [bn];omega) e o).2,rfl,(j.next (by simp only [bn];omega) e o).1⟩);refine bu.bind (P:=λ_=>True) (bu.bif (λ_=>bu.bif (λ_=>bu.guard ⟨h2,by simp only [bn];omega⟩ (bu.some trivial)) λ_=>bu.some trivial) λ_=>bu.some trivial) λv _=> ?_;exact bu.bif (λ_=>bu.guard (by omega) (bu.some (I.set (rq _)))) λ_=>bu.some I;refine bu.bind (t1 Vp T) λv o=> ?_;have NQ:=o.1;exact bu.bif (λ_=>bu.guard (by omega) (bu.some o)) λ_=>bu.some o
 have c3: ∀(p:Int) (x8:Bool×List Int) (f:Bool) (q:List Int),1<=p->p<=(k:Int)->LT q->bu (λr=>LT r.2) (rounds (kU ((n:Int),(c:Int),rs) w (p,x8)) ((0:Int),f,q)):=by
  intro p x8 f q h1 h3 hq;have hw:bz .i64 (bW .i64 (bn w) p) 1=(k:Int) - p+1:=by simp only [bn,U];rw [gE (by omega),eX (by omega)]
  refine bu.rounds (λd s=>CS ((k:Int) - p+1) LT d (s.1,s.2.2)) (λd s j=> ?_) (n:=((k:Int) - p+1).toNat) ⟨Ϫ _,by show 0<=(k:Int) - p+1;omega,by simp,hq⟩;obtain ⟨t,f,q⟩:=s;have j:CS ((k:Int) - p+1) LT d (t,q):=j;have I:LT q:=j.2.2.2;have J:=I.1;have R:0<=t:=j.1;unfold kU;simp only [hw];refine bu.bif (λe=> ?_) (λ_=>bu.some (.inr ⟨_,rfl,I⟩));have e:t<(k:Int) - p+1:=of_decide_eq_true e;exact bu.bind (P:=λv=>LT v.2) (bu.bind (c2 p t x8 (f,q) f q h1 R (by omega) I) λv o=>bu.some o) λv o=>bu.some (.inl ⟨d - 1,_,(j.next (by omega) e o).2,rfl,(j.next (by omega) e o).1⟩)
 obtain ⟨v,e,o⟩:bu (λr=>LT r.2) (rounds (kV ((n:Int),(c:Int),rs) w) ((1:Int),true,υ 1248 (0:Int))):=by
  refine bu.rounds (λd s=>CS ((k:Int)+1) LT d (s.1,s.2.2)/\1<=s.1) (λd s j=> ?_) (n:=k) ⟨⟨by decide,by show (1:Int)<=(k:Int)+1;omega,by show k=((k:Int)+1 - 1).toNat;omega,⟨ϗ,λx hx=>by rw [abT hx];exact ⟨by decide,by decide⟩⟩⟩,Ϫ _⟩;obtain ⟨t,f,q⟩:=s;obtain ⟨j,hi⟩:=j;have j:CS ((k:Int)+1) LT d (t,q):=j;have hi:1<=t:=hi;have I:LT q:=j.2.2.2;have J:=I.1;unfold kV;simp only [bn,U];refine bu.bif (λe=> ?_) (λ_=>bu.some (.inr ⟨_,rfl,I⟩));have e:t<=(k:Int):=of_decide_eq_true e;refine bu.bind (c3 t (f,q) f q hi e I) λv o=>bu.some (.inl ⟨d - 1,_,(j.next (by omega) (by omega) o).2,rfl,(j.next (by omega) (by omega) o).1,?_⟩);show 1<=bz .i64 t 1;rw [eX (by omega)];omega
 obtain ⟨b,v⟩:=v;have o:LT v:=o;have NQ:=o.1;unfold fW;simp only [eb,η,ϔ,cond_false,e];cases b with
 |false=>exact ⟨0,false,rfl,by decide,by decide⟩
 |true=>
  simp only [ϔ,cond_false,bn,U];rw [guard_pos (by omega),guard_pos (by omega),guard_pos (by omega),guard_pos (by omega)];exact ⟨_,true,rfl,o.get⟩
end
end Go.Proofs
