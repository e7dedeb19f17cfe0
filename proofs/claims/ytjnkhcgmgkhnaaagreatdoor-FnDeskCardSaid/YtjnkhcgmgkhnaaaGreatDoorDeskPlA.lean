import Derived.Test.YtjnkhcgmgkhnaaaGreatDoorDeskGenJ
import Derived.Lib.SplitLaws
import Derived.Lib.ItoaLen
import Derived.Lib.CutLaws
import Derived.Lib.Join
import Derived.Lib.ParseIntBTie
set_option linter.all false
open BitVec renaming ofInt→Ϟ
open Bool renaming and_eq_true→κ,not_true→ύ,not_eq_true'→aaf,and_self→abw,false_eq_true→acd,not_false→acQ,eq_false_iff→aft,eq_iff_iff→agd,false_and→agB
open Go.IntKind renaming wrap→Φ,bits→Ϗ,signed→afK
open Go.Lib renaming itoa→Ϯ,decDigits→Ϸ,parseIntB→aaq,index→abg,parseUintM→abE,lastIndexByte→acC,nDigits→acT,decDigits_length→acU,split→aeh,join→aeM,splitK→afI,itoa_length_le→afJ,count_miss→agS,parseUintB→agT
open Int renaming toNat→δ,toNat_natCast→Β,le_refl→Ϭ,toNat_of_nonneg→aaj,natCast_mul→abb,natCast_zero→abf,tmod→abQ,tdiv→acS,tmod_eq_emod_of_nonneg→ad6,natAbs_eq→ahg
open List renaming getD→ε,length→ζ,replicate→π,getD_eq_getElem?_getD→ς,length_append→ω,getElem?_eq_getElem→Γ,length_cons→Ζ,mem_append→Λ,length_nil→Χ,mem_singleton→ϊ,append_assoc→ό,mem_cons→ϒ,length_map→ϔ,length_replicate→ϕ,length_set→ϗ,length_take→ϙ,mem_cons_of_mem→ϛ,take→Ϝ,mem_map→ϟ,all_eq_true→ϡ,map_cons→ϱ,not_mem_nil→ϲ,append_nil→ϴ,length_drop→aab,getElem?_eq_none→aac,take_length→aam,getElem_of_mem→aaL,mem_or_eq_of_mem_set→aaO,map_append→aaQ,all_cons→aaT,drop→aaW,eq_of_mem_replicate→aby,getElem_mem→abL,map_nil→acw,all_nil→acA,cons_append→acD,length_pos_iff→ac0,drop_replicate→ac6,intercalate→adF,map_map→aeb,singleton_append→aeH,map_congr_left→ae5,getD_cons_succ→ae6,foldl_append→afH,isPrefixOf→age,all_append→agf,drop_zero→agn,map_id→aht
open Nat renaming le_refl→φ,zero_le→ϝ,mod_eq_of_lt→aai,strongRecOn→aap,min_eq_left→aav,mul_le_mul→aaB,min→aa0,succ_mul→afO
open Option renaming bind_some→η
open UInt8 renaming toNat_ofNat'→aal,ofNat→aau,toNat_inj→af0
namespace Go.Proofs
open Go.Ide Go.IntWalk
theorem jF (a b c:Int):ct a b c=some (decide (a>=b)&&decide (a<=c)):=by
 unfold ct;cases h:decide (a>=b)<;>simp
def nM (xs:List Int)(b c:Int):Bool:=xs.all λx=>decide (x>=b)&&decide (x<=c)
theorem uU {xs:List Int}{b c:Int}:nM xs b c=true↔ ∀i,i<xs.length->b<=xs.getD i 0/\xs.getD i 0<=c:=by
 unfold nM;rw [ϡ];constructor;intro h i j;have:=h xs[i] (abL j);simp only [κ,decide_eq_true_eq] at this;rw [ς,Γ j];exact ⟨this.1,this.2⟩;intro h x o;obtain ⟨i,j,rfl⟩:=aaL o;have:=h i j;rw [ς,Γ j] at this;simp only [κ,decide_eq_true_eq];exact ⟨this.1,this.2⟩
theorem Gd (xs:List Int)(b c:Int):vS (λi=>decide (xs.getD i 0>=b)&&decide (xs.getD i 0<=c)) xs.length 0=nM xs b c:=by
 rw [agd,pP,uU];constructor;intro h i j;have:=h i (by omega) (by omega);simp only [κ,decide_eq_true_eq] at this;exact ⟨this.1,this.2⟩;intro h i _ j;have:=h i (by omega);simp only [κ,decide_eq_true_eq];exact ⟨this.1,this.2⟩
theorem nr {xs:List Int}{b c:Int}(h:xs.length<=4294967296):eF xs b c=some (nM xs b c):=by
 unfold eF;have:=mo (f:=jg xs b c) (λi=>((i:Nat):Int)) (λi=>decide (xs.getD i 0>=b)&&decide (xs.getD i 0<=c)) (Sum.inl ()) (Sum.inr ()) (n:=xs.length) (λi j=>by
  unfold jg;simp only [ki j,cond_true,guard_pos (eJ j),Β,jF,η,bO j h];cases (decide (xs.getD i 0>=b)&&decide (xs.getD i 0<=c))<;>rfl) (by
  unfold jg;simp only [kC (φ _),cond_false]) xs.length 0 (by omega)
 rw [Gd] at this;simp only [abf] at this;simp only [this,η];cases nM xs b c<;>rfl
theorem xX {xs:List Int}{L:Int}(h:xs.length<=4294967296):gn xs L=some ((decide (L>=1)&&decide (L<=4))&&(decide (aW xs<=12)&&nM xs 0 (bI .i64 L 1))):=by
 unfold gn;rw [jF,nr h];cases (decide (L>=1)&&decide (L<=4))<;>cases decide (aW xs<=12)<;>simp
def mX (s l:Int)(nx:List Int)(es:List Bool):Bool:=
 (decide (s>=1)&&decide (s<=64))&&((decide (l>=1)&&decide (l<=4))&&((aW nx==iX .i64 s l)&&((aW es==s)&&nM nx 0 (bI .i64 s 1))))
theorem sf {s l:Int}{nx:List Int}{es:List Bool}(h:nx.length<=4294967296):cr (s,l,nx,es)=some (mX s l nx es):=by
 unfold cr mX;simp only [jF,nr h,η];cases (decide (s>=1)&&decide (s<=64))<;>cases (decide (l>=1)&&decide (l<=4))<;>cases (aW nx==iX .i64 s l)<;>cases (aW es==s)<;>cases nM nx 0 (bI .i64 s 1)<;>rfl
theorem qC {s l:Int}{nx:List Int}{es:List Bool}(h:mX s l nx es=true): ∃m c:Nat,s=(m:Int)/\l=(c:Int)/\1<=m/\m<=64/\1<=c/\c<=4/\nx.length=m*c/\es.length=m/\ ∀i,i<m*c-> ∃t:Nat,nx.getD i 0=(t:Int)/\t<m:=by
 unfold mX at h;simp only [κ,decide_eq_true_eq,beq_iff_eq] at h;obtain ⟨⟨J,R⟩,⟨T,U⟩,j,o,p⟩:=h;obtain ⟨m,rfl⟩: ∃n:Nat,s=(n:Int):=⟨s.toNat,by omega⟩;obtain ⟨c,rfl⟩: ∃n:Nat,l=(n:Int):=⟨l.toNat,by omega⟩;have r:m*c<=64*4:=aaB (by omega) (by omega);rw [xA (by rw [<-abb];omega),<-abb] at j;have I:nx.length=m*c:=by simp only [aW] at j;omega
 refine ⟨m,c,rfl,rfl,by omega,by omega,by omega,by omega,I,by simp only [aW] at o;omega,λi hi=> ?_⟩;have:=uU.1 p i (by omega);rw [fN (by omega)] at this;exact ⟨(nx.getD i 0).toNat,by omega,by omega⟩
structure Plain (m c:Nat)(nx:List Int)(es:List Bool):Prop where
 m1:1<=m
 m2:m<=64
 c1:1<=c
 c2:c<=4
 len:nx.length=m*c
 ends:es.length=m
 YI: ∀i,i<m*c-> ∃t:Nat,nx.getD i 0=(t:Int)/\t<m
def Bk (c:Nat)(nx:List Int)(s:Nat)(a:Int):Nat:=(nx.getD (s*c+a.toNat) 0).toNat
def cf (c:Nat)(nx:List Int)(s:Nat)(w:List Int):Nat:=w.foldl (Bk c nx) s
theorem um {m c s a:Nat}(j:s<m)(o:a<c):s*c+a<m*c:=by
 have:s*c+c<=m*c:=by
  rw [<-afO];exact Nat.mul_le_mul_right c j
 omega
section
variable {m c:Nat} {nx:List Int} {es:List Bool} (hp:Plain m c nx es)
include hp
theorem J0 {s:Nat}{a:Int}{k:Nat}(j:s<m)(o:a=(k:Int))(p:k<c):Bk c nx s a<m:=by
 subst o;obtain ⟨t,r,I⟩:=hp.YI (s*c+k) (um j p);unfold Bk;rw [Β,r];simpa using I
theorem Ge {s:Nat}{a:Int}{k:Nat}(j:s<m)(o:a=(k:Int))(p:k<c):cC ((m:Int),(c:Int),nx,es) (s:Int) a=some ((Bk c nx s a:Nat):Int):=by
 subst o;have r:=um j p;have I:m*c<=64*4:=aaB hp.m2 hp.c2;obtain ⟨t,J,R⟩:=hp.YI (s*c+k) r;have:=hp.m2;have:=hp.c2;have:=hp.len;have e:bf .i64 (iX .i64 (s:Int) (c:Int)) (k:Int)=((s*c+k:Nat):Int):=R2 (by omega) (by omega) (by omega);unfold cC Bk;simp only [e,Β,guard_pos (show (0:Int)<=((s*c+k:Nat):Int)/\((s*c+k:Nat):Int)<aW nx from by simp only [aW];omega),J]
end
theorem Hl {c:Nat}{nx w:List Int}{s k:Nat}(j:k<w.length):cf c nx s (w.take (k+1))=Bk c nx (cf c nx s (w.take k)) (w.getD k 0):=by
 rw [fq j 0];unfold cf;rw [afH];rfl
end Go.Proofs
namespace Go.Proofs
open Go.Ide Go.IntWalk
def zS (s l:Int)(r:Int×Int×Int×Int):Bool:=
 (decide (r.1>=0)&&decide (r.1<=bI .i64 s 1))&&((decide (r.2.1>=0)&&decide (r.2.1<=bI .i64 s 1))&&((decide (r.2.2.1>= -1)&&decide (r.2.2.1<=bI .i64 l 1))&&(decide (r.2.2.2>=0)&&decide (r.2.2.2<=1000))))
def EV (s l:Int)(zs:List (Int×Int×Int×Int)):Bool:=vS (λi=>zS s l (zs.getD i (0,0,0,0))) zs.length 0
def mJ (s l:Int)(zs:List (Int×Int×Int×Int))(ss es:List Int):Bool:=
 (decide (s>=1)&&decide (s<=16))&&((decide (l>=1)&&decide (l<=4))&&((!decide (aW zs>128))&&(EV s l zs&&((nM ss (-1) 1000&&(aW ss==s))&&(nM es (-1) 1000&&(aW es==s))))))
theorem pn {s l:Int}{zs:List (Int×Int×Int×Int)}{ss es:List Int}(h:zs.length<=4294967296)(o:ss.length<=4294967296)(p:es.length<=4294967296):
 bZ (s,l,zs,ss,es)=some (mJ s l zs ss es):=by
 unfold bZ mJ;simp only [jF,η];have:=mo (f:=gd (s,l,zs,ss,es)) (λi=>((i:Nat):Int)) (λi=>zS s l (zs.getD i (0,0,0,0))) (Sum.inl ()) (Sum.inr ()) (n:=zs.length) (λi j=>by
  unfold gd;simp only [ki j,cond_true,guard_pos (eJ j),Β,jF,η,bO j h,zS];generalize (decide ((zs.getD i (0,0,0,0)).1>=0)&&decide ((zs.getD i (0,0,0,0)).1<=bI .i64 s 1))=A;generalize (decide ((zs.getD i (0,0,0,0)).2.1>=0)&&decide ((zs.getD i (0,0,0,0)).2.1<=bI .i64 s 1))=B;generalize (decide ((zs.getD i (0,0,0,0)).2.2.1>= -1)&&decide ((zs.getD i (0,0,0,0)).2.2.1<=bI .i64 l 1))=C;generalize (decide ((zs.getD i (0,0,0,0)).2.2.2>=0)&&decide ((zs.getD i (0,0,0,0)).2.2.2<=1000))=D;cases A<;>cases B<;>cases C<;>cases D<;>rfl) (by
  unfold gd;simp only [kC (φ _),cond_false]) zs.length 0 (by omega)
 simp only [abf] at this;rw [show vS (λi=>zS s l (zs.getD i (0,0,0,0))) zs.length 0=EV s l zs from rfl] at this;simp only [this,nr o,nr p,η];generalize (decide (s>=1)&&decide (s<=16))=A;generalize (decide (l>=1)&&decide (l<=4))=B;generalize decide (aW zs>128)=C;generalize EV s l zs=D;generalize nM ss (-1) 1000=E;generalize (aW ss==s)=r;generalize nM es (-1) 1000=F;generalize (aW es==s)=t;cases A<;>cases B<;>cases C<;>cases D<;>cases E<;>cases r<;>cases F<;>cases t<;>rfl
def uV (s l:Int)(r:Int×Int×Int×Int):Bool:=
 (decide (r.1>=0)&&decide (r.1<=bI .i64 s 1))&&((decide (r.2.2.1>= -1)&&decide (r.2.2.1<=bI .i64 s 1))&&((decide (r.2.2.2>=0)&&decide (r.2.2.2<=1000))&&
  (decide (r.2.1>=0)&&decide (r.2.1<=bif decide (r.2.2.1<0) then bI .i64 l 1 else bI .i64 s 1))))
def Bl (s l:Int)(rs:List (Int×Int×Int×Int)):Bool:=vS (λi=>uV s l (rs.getD i (0,0,0,0))) rs.length 0
def ov (s l:Int)(rs:List (Int×Int×Int×Int)):Bool:=
 (decide (s>=1)&&decide (s<=8))&&((decide (l>=1)&&decide (l<=4))&&((!decide (aW rs>32))&&Bl s l rs))
theorem po {s l:Int}{rs:List (Int×Int×Int×Int)}(h:rs.length<=4294967296):cQ (s,l,rs)=some (ov s l rs):=by
 unfold cQ ov;simp only [jF,η];have:=mo (f:=gm (s,l,rs)) (λi=>((i:Nat):Int)) (λi=>uV s l (rs.getD i (0,0,0,0))) (Sum.inl ()) (Sum.inr ()) (n:=rs.length) (λi o=>by
  unfold gm;simp only [ki o,cond_true,guard_pos (eJ o),Β,bO o h,uV];obtain ⟨r,p⟩: ∃r,rs.getD i (0,0,0,0)=r:=⟨_,rfl⟩;simp only [p];have t:(bif (r.2.2.1==(-1:Int)) then some (bI .i64 l 1) else some (bI .i64 s 1))=some (bif (r.2.2.1==(-1:Int)) then bI .i64 l 1 else bI .i64 s 1):=by cases (r.2.2.1==(-1:Int))<;>rfl
  simp only [t,jF,η];by_cases j:(decide (r.2.2.1>= -1)&&decide (r.2.2.1<=bI .i64 s 1))=true;have I:(r.2.2.1==(-1:Int))=decide (r.2.2.1<0):=by
   simp only [κ,decide_eq_true_eq] at j;rw [agd];simp only [beq_iff_eq,decide_eq_true_eq];omega
  rw [I,j];generalize (decide (r.1>=0)&&decide (r.1<=bI .i64 s 1))=A;generalize (decide (r.2.2.2>=0)&&decide (r.2.2.2<=1000))=D;generalize (decide (r.2.1>=0)&&decide (r.2.1<=bif decide (r.2.2.1<0) then bI .i64 l 1 else bI .i64 s 1))=E;cases A<;>cases D<;>cases E<;>rfl;rw [Bool.not_eq_true] at j;rw [j];generalize (decide (r.1>=0)&&decide (r.1<=bI .i64 s 1))=A;generalize (decide (r.2.2.2>=0)&&decide (r.2.2.2<=1000))=D;generalize (decide (r.2.1>=0)&&decide (r.2.1<=bif (r.2.2.1==(-1:Int)) then bI .i64 l 1 else bI .i64 s 1))=E;cases A<;>cases D<;>cases E<;>rfl) (by
  unfold gm;simp only [kC (φ _),cond_false]) rs.length 0 (by omega)
 simp only [abf] at this;rw [show vS (λi=>uV s l (rs.getD i (0,0,0,0))) rs.length 0=Bl s l rs from rfl] at this;simp only [this,η];generalize (decide (s>=1)&&decide (s<=8))=A;generalize (decide (l>=1)&&decide (l<=4))=B;generalize decide (aW rs>32)=C;generalize Bl s l rs=D;cases A<;>cases B<;>cases C<;>cases D<;>rfl
end Go.Proofs
namespace Go.Proofs
open Go.Ide Go.IntWalk
def Q6 (p:List UInt8):List (List UInt8)->List (List UInt8)
 |[]=>[p]
 |h::t=>(p++h)::t
def iR (c:UInt8):List UInt8->List (List UInt8)
 |[]=>[[]]
 |b::l=>if b=c then []::iR c l else Q6 [b] (iR c l)
theorem Qu (p:List UInt8)(l:List (List UInt8)):Q6 p l≠[]:=by cases l<;>simp [Q6]
theorem EW (c:UInt8)(s:List UInt8):iR c s≠[]:=by
 cases s with
 |nil=>simp [iR]
 |cons b l=>
  unfold iR;split;simp;exact Qu _ _
theorem EX {p:List UInt8}{l:List (List UInt8)}(h:l≠[]):(Q6 p l).length=l.length:=by
 cases l with
 |nil=>exact absurd rfl h
 |cons=>rfl
theorem qD (c:UInt8): ∀s:List UInt8,(iR c s).length=s.count c+1
 |[]=>rfl
 |b::l=>by
  unfold iR;split;rename_i e;subst e;simp [qD b l];rename_i e;rw [EX (EW _ _),qD c l,List.count_cons_of_ne (by simpa using e)]
theorem pT (c:UInt8): ∀s:List UInt8,aeh s [c]=iR c s
 |[]=>by
  have e:abg [] [c]= -1:=by simp [abg]
  unfold aeh;rw [agS e];rfl
 |b::l=>by
  have ih:=pT c l;unfold aeh at ih⊢;unfold iR;by_cases e:b=c;subst e;rw [if_pos rfl,Lib.count_cons_eq,Nat.add_comm,afI,<-ih];have o:abg (b::l) [b]=((0:Nat):Int):=by rw [abg];simp [age]
  rw [o];simp;rw [if_neg e,Lib.count_cons_ne b c l e,<-ih];cases t:Lib.count l [c] with
  |zero=>simp [afI,Q6]
  |succ k=>
   have hp:([c]:List UInt8).isPrefixOf (b::l)=false:=by simp [age,Ne.symm e]
   have o:abg (b::l) [c]=if abg l [c]== -1 then -1 else abg l [c]+1:=by rw [abg,hp];simp
   have I:abg l [c]≠ -1:=λq=>by rw [agS q] at t;cases t
   have J:=Lib.index_ge l [c];obtain ⟨j,R⟩: ∃j:Nat,abg l [c]=j:=⟨(abg l [c]).toNat,by omega⟩;have p:(((j:Nat):Int)== -1)=false:=by rw [beq_eq_false_iff_ne];omega
   have r:((((j:Nat):Int)+1)== -1)=false:=by rw [beq_eq_false_iff_ne];omega
   unfold afI;rw [o,R];simp only [p,r,acd,if_false];have T:(((j:Nat):Int)+1).toNat=j+1:=by omega
   rw [T,Β];simp [Q6]
end Go.Proofs
namespace Go.Proofs
open Go.Ide Go.IntWalk
end Go.Proofs
namespace Go.Proofs
open Go.Ide Go.IntWalk
theorem MJ (c:UInt8)(a:List UInt8):1<=(iR c a).length:=by
 rw [qD];omega
theorem EY (c:UInt8)(a:List UInt8):(iR c a).length<=a.length+1:=by
 rw [qD];have:=List.count_le_length (a:=c) (l:=a);omega
theorem TA {l:List (List UInt8)}(h:1<=l.length)(j:l.length<=1048577):bI .i64 (aW l) 1=((l.length - 1:Nat):Int):=by
 rw [fN (by simp only [aW];omega)];simp only [aW];omega
def EZ (a:List UInt8):List (List UInt8):=(iR 10 a).take ((iR 10 a).length - 1)
def J1 (a:List UInt8):List UInt8:=(iR 10 a).getD ((iR 10 a).length - 1) []
theorem E0 {a:List UInt8}(h:a.length<=1048576):jL a=some (EZ a,decide (aW a<=16000)&&(J1 a==[])):=by
 have j:=MJ 10 a;have p:=EY 10 a;have o:strings_Split a [10]=some (iR 10 a):=by
  unfold strings_Split;rw [guard_pos (show _/\_ from ⟨by omega,by simp⟩),pT]
 unfold jL;rw [o,η];simp only [TA j (show (iR 10 a).length<=1048577 by omega)];rw [guard_pos (show _/\_ from ⟨by omega,by simp only [aW];omega⟩),guard_pos (show _/\_ from ⟨by omega,by simp only [aW];omega⟩),Β];cases decide (aW a<=16000)<;>rfl
end Go.Proofs
namespace Go.Proofs
open Go.Ide Go.IntWalk
def zh (u:Nat):List Int:=(Ϸ u).map λb=>((b.toNat:Nat):Int)
theorem E1 {u:Nat}(h:u<10):zh u=[((48+u:Nat):Int)]:=by
 unfold zh;rw [Ϸ,dif_pos h,ϱ,acw,aal,aai (by omega)]
theorem J2 {u:Nat}(h: ¬u<10):zh u=zh (u/10)++[((48+u%10:Nat):Int)]:=by
 unfold zh;rw [Ϸ,dif_neg h,aaQ,ϱ,acw,aal,aai (by omega)]
theorem vF (u:Nat):lr (zh u)=Ϸ u:=by
 unfold lr zh;rw [aeb]
 conv=>rhs;rw [<-aht (Ϸ u)]
 apply ae5;intro b _;simp
theorem J3 {m:Int}{u:Nat}{j:List Int}(o:m.natAbs=u)(T:u<=9223372036854775808)(U:m<=9223372036854775807)(p:j=[]\/m≠0)(h5:j.length<=1000):
 gJ (m,j)=some (.inl (acS m 10,((48+u%10:Nat):Int)::j)):=by
 have r:(bif (aW j==0) then some true else some (m != 0))=some true:=by
  rcases p with rfl|h
  rfl;have:(m != 0)=true:=by simpa using h
  rw [this];cases (aW j==0)<;>rfl
 have t:(bif decide (abQ m 10<0) then some (Φ .i64 (0 - abQ m 10)) else some (abQ m 10))=some ((u%10:Nat):Int):=by
  rcases ahg m with e|e
  rw [e,o];have:abQ (u:Int) 10=((u%10:Nat):Int):=rfl;rw [this,show decide (((u%10:Nat):Int)<0)=false by simp only [decide_eq_false_iff_not];omega,cond_false];rw [e,o];have:abQ (-(u:Int)) 10= -((u%10:Nat):Int):=by rw [Int.neg_tmod];rfl
  rw [this];by_cases I:u%10=0;rw [I];rfl;rw [show decide (-((u%10:Nat):Int)<0)=true by simp only [decide_eq_true_eq];omega,cond_true,i64_in _ (by omega)]
  congr 1
  omega
 have J:Φ .i64 (acS m 10)=acS m 10:=by
  apply i64_in;rcases ahg m with e|e
  rw [e,o];have:acS (u:Int) 10=((u/10:Nat):Int):=rfl;rw [this];omega;rw [e,o];have:acS (-(u:Int)) 10= -((u/10:Nat):Int):=by rw [Int.neg_tdiv];rfl
  rw [this];omega
 have R:Φ .u8 (bf .i64 48 ((u%10:Nat):Int))=((48+u%10:Nat):Int):=by
  rw [fM (by omega),u8_in _ (by omega)];omega
 unfold gJ;simp only [r,η,cond_true,t,J,R];rw [guard_pos (by simp only [Ζ,Χ];unfold bl;omega)];rfl
theorem MK {j:List Int}(h:j≠[]):gJ (0,j)=some (.inr j):=by
 have e:(aW j==0)=false:=by
  rw [beq_eq_false_iff_ne];have:=ac0.2 h;simp only [aW];omega
 unfold gJ;simp only [e,cond_false,bne_self_eq_false,η]
theorem xY (m:Int):(acS m 10).natAbs=m.natAbs/10:=by
 rw [Int.natAbs_tdiv];rfl
theorem E2: ∀(u:Nat) (m:Int) (j:List Int),m.natAbs=u->(j=[]\/u≠0)->u<=9223372036854775808->m<=9223372036854775807->j.length+acT u<=1000->
 rounds (gJ) (m,j)=some (zh u++j):=by
 intro u;induction u using aap with
 |_ u ih=>
  intro m j p r t I J;rw [ef,J3 p t I (r.imp id λh e=>h (by rw [<-p,e];rfl)) (by omega)];show rounds _ _=_;by_cases o:u<10;have e:acS m 10=0:=by
   have:=xY m;omega
  rw [e,ef,MK (by simp),E1 o,aai o];rfl;have R:acT u=acT (u/10)+1:=by rw [acT,dif_neg o]
  rw [ih (u/10) (by omega) _ _ (by rw [xY,p]) (.inr (by omega)) (by omega) (by
   have:=xY m;omega) (by simp only [Ζ];omega),J2 o]
  simp
theorem E3 {n:Int}(h: -9223372036854775808<=n/\n<=9223372036854775807):acT n.natAbs<=21:=by
 have:=afJ n h.1 h.2;unfold Ϯ at this;split at this;rw [Ζ,acU] at this;omega;rw [acU,show n.toNat=n.natAbs by omega] at this;exact this
theorem E4 {n:Int}(h: -9223372036854775808<=n/\n<=9223372036854775807):jz n=some (Ϯ n):=by
 have o:=E3 h;unfold jz;rw [E2 n.natAbs n [] rfl (.inl rfl) (by omega) h.2 (by simp;omega),η,ϴ];unfold Ϯ;by_cases j:n<0;rw [show decide (n<0)=true by simpa using j,cond_true,if_pos j,guard_pos (by
  simp only [Ζ,Χ];unfold zh bl;rw [ϔ,acU];omega),η]
 show some (lr (45::zh n.natAbs))=_;rw [<-vF];rfl;rw [show decide (n<0)=false by simpa using j,cond_false,η,vF,if_neg j,show n.toNat=n.natAbs by omega]
theorem xZ {n:Int}(h: -9223372036854775808<=n/\n<=9223372036854775807):jM n=some (Ϯ n):=by
 unfold jM lQ;rw [guard_pos (show _/\_/\_ from ⟨rfl,h.1,h.2⟩)];rfl
end Go.Proofs
namespace Go.Proofs
open Go.Ide Go.IntWalk
end Go.Proofs
namespace Go.Proofs
open Go.Ide Go.IntWalk
def jn (p:List UInt8):List (List UInt8)->List UInt8
 |[]=>[]
 |x::[]=>x
 |x::y::r=>x++p++jn p (y::r)
theorem Bm (p:List UInt8): ∀l:List (List UInt8),aeM l p=jn p l
 |[]=>rfl
 |[x]=>by simp [aeM,jn,adF]
 |x::y::r=>by
  have ih:=Bm p (y::r);unfold aeM adF at ih;unfold aeM adF jn;rw [<-ih];simp [List.intersperse]
theorem Gf (p x:List UInt8): ∀l:List (List UInt8),l≠[]->jn p (l++[x])=jn p l++(p++x)
 |[],h=>absurd rfl h
 |[y],_=>by simp [jn]
 |y::z::r,_=>by
  have ih:=Gf p x (z::r) (by simp);simp only [acD] at ih⊢;simp only [jn,ih,ό]
theorem uW {p:List UInt8}{k:Nat}: ∀l:List (List UInt8),(∀x∈l,x.length<=k)->(jn p l).length<=l.length*(k+p.length)
 |[],_=>by simp [jn]
 |[x],h=>by
  have:=h x (by simp);simp [jn];omega
 |x::y::r,h=>by
  have ih:=uW (p:=p) (y::r) λz j=>h z (ϛ _ j);have:=h x (by simp);simp only [jn,ω];rw [Ζ,afO];omega
def eX (n:Int):Prop:= -9223372036854775808<=n/\n<=9223372036854775807
def tx (xs:List Int):List UInt8:=if xs=[] then [110,111,110,101] else jn [44] (xs.map Ϯ)
theorem yb {n:Int}(h:eX n):(Ϯ n).length<=21:=afJ n h.1 h.2
theorem Bo {xs:List Int}(h: ∀x∈xs,eX x):(jn [44] (xs.map Ϯ)).length<=xs.length*22:=by
 have:=uW (p:=[44]) (k:=21) (xs.map Ϯ) λx j=>by
  obtain ⟨n,o,rfl⟩:=ϟ.1 j;exact yb (h n o)
 simpa using this
theorem uX {xs:List Int}(h: ∀x∈xs,eX x):(tx xs).length<=xs.length*22+4:=by
 unfold tx;split;simp;have:=Bo h;omega
theorem yc {xs:List Int}{i:Nat}(h:i<xs.length):xs.getD i 0∈xs:=by
 rw [ς,Γ h];exact abL h
theorem J4 {xs:List Int}(h:xs.length<=1048576)(o: ∀x∈xs,eX x):df xs=some (tx xs):=by
 unfold df tx;by_cases e:xs=[];subst e;rfl;have hp:=ac0.2 e;rw [if_neg e,show (aW xs==0)=false by rw [beq_eq_false_iff_ne];simp only [aW];omega,cond_false,guard_pos (show _/\_ from ⟨by omega,by simp only [aW];omega⟩)];have t:jz (ε xs (δ 0) 0)=some (Ϯ (xs.getD 0 0)):=E4 (o _ (yc hp));rw [t,η];obtain ⟨r,I,J⟩: ∃r,rounds (iM xs) (Ϯ (xs.getD 0 0),(1:Int))=some r/\r=jn [44] (xs.map Ϯ):=by
  refine fy (f:=iM xs) (λ(n:Nat) (s:List UInt8×Int)=> ∃i:Nat,s=(jn [44] ((xs.take i).map Ϯ),(i:Int))/\1<=i/\i<=xs.length/\n=xs.length - i) (λr=>r=jn [44] (xs.map Ϯ)) (λn s R=> ?_) (xs.length - 1) _ ⟨1,?_,φ _,hp,rfl⟩;obtain ⟨i,rfl,k1,T,rfl⟩:=R;have hl:(jn [44] ((xs.take i).map Ϯ)).length<=i*22:=by
   have:=Bo (xs:=xs.take i) λx U=>o x (List.mem_of_mem_take U);rw [ϙ,aav T] at this;exact this
  by_cases j:i<xs.length;left;have p:=o _ (yc j);have aa:=yb p;refine ⟨xs.length - (i+1),(jn [44] ((xs.take (i+1)).map Ϯ),((i+1:Nat):Int)),by omega,?_,i+1,rfl,by omega,j,rfl⟩;unfold iM;simp only [show decide ((i:Int)<aW xs)=true from ki j,cond_true,guard_pos (eJ j),Β,E4 p,η];rw [guard_pos (by simp only [Ζ,Χ];unfold bl;omega),guard_pos (by simp only [ω,Ζ,Χ];unfold bl;omega),bO j (by omega)]
  congr 3
  rw [fq j 0,aaQ];exact (Gf _ _ _ (by
   intro q;have:=congrArg ζ q;simp only [ϔ,ϙ,Χ] at this;omega)).symm
  right;have:i=xs.length:=by omega
  subst this;refine ⟨_,?_,rfl⟩;unfold iM;simp only [show decide (((xs.length:Nat):Int)<aW xs)=false from kC (φ _),cond_false,aam];cases xs with
  |nil=>exact absurd rfl e
  |cons x r=>simp [jn]
 rw [I,J];rfl
def cJ (xs:List Int):Bool:=nM xs (-1000000000000000) 1000000000000000&&decide (aW xs<=64)
theorem J5 {xs:List Int}(h:xs.length<=4294967296):lP xs=some (cJ xs):=by
 unfold lP cJ;have:=mo (f:=jl xs) (λi=>((i:Nat):Int)) (λi=>decide (xs.getD i 0>= -1000000000000000)&&decide (xs.getD i 0<=1000000000000000)) (Sum.inl ()) (Sum.inr ()) (n:=xs.length) (λi j=>by
  unfold jl qA;simp only [ki j,cond_true,guard_pos (eJ j),Β,jF,η,bO j h];cases (decide (xs.getD i 0>= -1000000000000000)&&decide (xs.getD i 0<=1000000000000000))<;>rfl) (by
  unfold jl;simp only [kC (φ _),cond_false]) xs.length 0 (by omega)
 rw [Gd] at this;simp only [abf] at this;simp only [this,η];cases nM xs (-1000000000000000) 1000000000000000<;>simp
theorem hZ {xs:List Int}{b c:Int}:nM xs b c=true↔ ∀x∈xs,b<=x/\x<=c:=by
 unfold nM;rw [ϡ];simp only [κ,decide_eq_true_eq]
theorem eH {xs:List Int}(h:cJ xs=true):(∀x∈xs,eX x)/\xs.length<=64:=by
 unfold cJ at h;simp only [κ,decide_eq_true_eq,aW] at h;exact ⟨λx j=>by
  have:=hZ.1 h.1 x j;unfold eX;omega,by omega⟩
theorem Hm {xs:List Int}(h:xs.length<=1048576)(o: ∀x∈xs,eX x):mS xs=some (tx xs):=by
 have J:=Bo o;have:=nf (f:=jN xs) (λi (s:List (List UInt8))=>(((i:Nat):Int),s)) (λi s=>s++[Ϯ (xs.getD i 0)]) id (n:=xs.length) (λi s=>s=(xs.take i).map Ϯ) (λi s j p=>⟨by
  have I:s.length<=i:=by rw [p,ϔ,ϙ];omega
  unfold jN;simp only [show decide ((i:Int)<aW xs)=true from ki j,cond_true,guard_pos (eJ j),Β,xZ (o _ (yc j)),η];rw [guard_pos (by simp only [Ζ,Χ];unfold bl;omega),bO j (by omega)],by
  rw [p,fq j 0,aaQ];rfl⟩) (λs _=>by
  unfold jN;simp only [show decide (((xs.length:Nat):Int)<aW xs)=false from kC (φ _),cond_false];rfl) xs.length 0 [] (by omega) (by simp)
 obtain ⟨r,t⟩:=this;rw [aam] at t;simp only [abf,id,t] at r;unfold mS;rw [r,η];unfold ri tx;by_cases e:xs=[];subst e;rfl;have hp:=ac0.2 e;rw [if_neg e,show (aW (xs.map Ϯ)==0)=false by rw [beq_eq_false_iff_ne];simp only [aW,ϔ];omega,cond_false];unfold strings_Join;rw [Bm,guard_pos (show _/\_ from ⟨by rw [ϔ];omega,by omega⟩)];rfl
theorem jQ {xs:List Int}(h:xs.length<=1048576):ey xs=some (bif cJ xs then (tx xs,true) else ([],false)):=by
 unfold ey;rw [J5 (by omega),η];cases e:cJ xs with
 |false=>rfl
 |true=>
  rw [Hm h (eH e).1];rfl
theorem px {ls:List (List Int)}(h:ls.length<=1000)(J: ∀l∈ls,l.length<=1048576):gO ls=some (bif ls.all cJ then (jn [59] (ls.map tx),true) else ([],false)):=by
 obtain ⟨r,R,T⟩: ∃r,rounds (eN ls) ((0:Int),([]:List (List UInt8)))=some r/\r=bif ls.all cJ then .inl (ls.map tx) else .inr ():=by
  refine fy (f:=eN ls) (λ(n:Nat) (s:Int×List (List UInt8))=> ∃i:Nat,s=((i:Int),(ls.take i).map tx)/\i<=ls.length/\n=ls.length - i/\(ls.take i).all cJ=true) (λr=>r=bif ls.all cJ then .inl (ls.map tx) else .inr ()) (λn s U=> ?_) ls.length _ ⟨0,by simp,ϝ _,rfl,by simp⟩;obtain ⟨i,rfl,k1,rfl,o⟩:=U;by_cases j:i<ls.length;have t:ls.getD i []∈ls:=by
   rw [ς,Γ j];exact abL j
  cases e:cJ (ls.getD i []) with
  |true=>
   left;refine ⟨ls.length - (i+1),(((i+1:Nat):Int),(ls.take (i+1)).map tx),by omega,?_,i+1,rfl,j,rfl,by rw [fq j [],agf,o,aaT,e];rfl⟩;unfold eN;simp only [show decide ((i:Int)<aW ls)=true from ki j,cond_true,guard_pos (eJ j),Β,jQ (J _ t),e,η,ύ,cond_false];rw [guard_pos (by simp only [ϔ,ϙ,Ζ,Χ];unfold bl;omega),bO j (by omega),fq j [],aaQ];rfl
  |false=>
   right;refine ⟨.inr (),?_,?_⟩;unfold eN;simp only [show decide ((i:Int)<aW ls)=true from ki j,cond_true,guard_pos (eJ j),Β,jQ (J _ t),e,η,acQ,cond_true,cond_false];have:ls.all cJ=false:=by
    rw [aft];intro q;rw [ϡ] at q;rw [q _ t] at e;cases e
   rw [this];rfl
  right;have:i=ls.length:=by omega
  subst this;rw [aam] at o⊢;refine ⟨.inl (ls.map tx),?_,by rw [o];rfl⟩;unfold eN;simp only [show decide (((ls.length:Nat):Int)<aW ls)=false from kC (φ _),cond_false]
 unfold gO;rw [R,T];cases e:ls.all cJ with
 |false=>rfl
 |true=>
  simp only [cond_true,η];have hj:(jn [59] (ls.map tx)).length<=(ls.map tx).length*(1412+1):=uW (p:=[59]) (ls.map tx) λx hx=>by
   obtain ⟨l,I,rfl⟩:=ϟ.1 hx;obtain ⟨q1,q2⟩:=eH (ϡ.1 e l I);have:=uX q1;omega
  rw [ϔ] at hj;unfold strings_Join;rw [Bm,guard_pos (show _/\_ from ⟨by rw [ϔ];omega,by omega⟩)];rfl
end Go.Proofs
namespace Go.Proofs
open Go.Ide Go.IntWalk
abbrev Q4:=Int×Int×Int×Int
def db (zs:List Q4):List Int:=zs.flatMap λr=>[r.1,r.2.1,r.2.2.1,r.2.2.2]
theorem mL (zs:List Q4):(db zs).length=4*zs.length:=by
 unfold db;induction zs with
 |nil=>rfl
 |cons r zs ih=>rw [List.flatMap_cons,ω,ih,Ζ];simp;omega
theorem E5 (zs:List Q4)(r:Q4):db (zs++[r])=db zs++[r.1,r.2.1,r.2.2.1,r.2.2.2]:=by
 unfold db;rw [List.flatMap_append];simp
theorem Gg {f:Int×List Int->Option ((Int×List Int)⊕List Int)}{zs:List Q4}(h:zs.length<=1048576)(j: ∀(i:Nat) (s:List Int),i<zs.length->s.length<=4*i->f ((i:Int),s)=some (.inl (((i+1:Nat):Int),s++[(zs.getD i (0,0,0,0)).1,(zs.getD i (0,0,0,0)).2.1,(zs.getD i (0,0,0,0)).2.2.1,(zs.getD i (0,0,0,0)).2.2.2])))(o: ∀s:List Int,f (((zs.length:Nat):Int),s)=some (.inr s)):rounds f ((0:Int),([]:List Int))=some (db zs):=by
 have:=nf (f:=f) (λi (s:List Int)=>(((i:Nat):Int),s)) (λi s=>s++[(zs.getD i (0,0,0,0)).1,(zs.getD i (0,0,0,0)).2.1,(zs.getD i (0,0,0,0)).2.2.1,(zs.getD i (0,0,0,0)).2.2.2]) id (n:=zs.length)
  (λi s=>s=db (zs.take i)) (λi s p r=>⟨j i s p (by rw [r,mL,ϙ];omega),by rw [r,fq p (0,0,0,0),E5]⟩) (λs _=>o s) zs.length 0 [] (by omega) (by simp [db])
 obtain ⟨t,I⟩:=this;rw [aam] at I;simp only [abf,id,I] at t;exact t
theorem J6 {zs:List Q4}(h:zs.length<=1048576):n5 zs=some (db zs):=by
 unfold n5;rw [Gg (f:=kj zs) h (λi s j o=>by
  unfold kj;simp only [show decide ((i:Int)<aW zs)=true from ki j,cond_true,guard_pos (eJ j),Β];rw [guard_pos (by simp only [Ζ,Χ];unfold bl;omega),bO j (by omega)]) (λs=>by
  unfold kj;simp only [show decide (((zs.length:Nat):Int)<aW zs)=false from kC (φ _),cond_false])]
 rfl
theorem Hn {zs:List Q4}(h:zs.length<=1048576):mQ zs=some (db zs):=by
 unfold mQ;rw [Gg (f:=jK zs) h (λi s j o=>by
  unfold jK;simp only [show decide ((i:Int)<aW zs)=true from ki j,cond_true,guard_pos (eJ j),Β];rw [guard_pos (by simp only [Ζ,Χ];unfold bl;omega),bO j (by omega)]) (λs=>by
  unfold jK;simp only [show decide (((zs.length:Nat):Int)<aW zs)=false from kC (φ _),cond_false])]
 rfl
theorem J7 {s l:Int}{zs:List Q4}{ss es:List Int}(h:zs.length<=1048576):rounds (gz (s,l,zs,ss,es)) ((0:Int),([]:List Int))=some (db zs):=
 Gg h (λi s j o=>by
  unfold gz;simp only [show decide ((i:Int)<aW zs)=true from ki j,cond_true,guard_pos (eJ j),Β,η];rw [guard_pos (by simp only [Ζ,Χ];unfold bl;omega),bO j (by omega)]) (λs=>by
  unfold gz;simp only [show decide (((zs.length:Nat):Int)<aW zs)=false from kC (φ _),cond_false])
theorem Ho {s l:Int}{zs:List Q4}(h:zs.length<=1048576):rounds (gB (s,l,zs)) ((0:Int),([]:List Int))=some (db zs):=
 Gg h (λi s j o=>by
  unfold gB;simp only [show decide ((i:Int)<aW zs)=true from ki j,cond_true,guard_pos (eJ j),Β];rw [guard_pos (by simp only [Ζ,Χ];unfold bl;omega),bO j (by omega)]) (λs=>by
  unfold gB;simp only [show decide (((zs.length:Nat):Int)<aW zs)=false from kC (φ _),cond_false])
theorem Qv {s l:Int}(o: -1000000000000000<=s/\s<=1000000000000000)(p: -1000000000000000<=l/\l<=1000000000000000):cJ [s,l]=true:=by
 unfold cJ;rw [κ,hZ];refine ⟨λx j=> ?_,by simp [aW]⟩;simp only [ϒ,ϲ,or_false] at j;rcases j with rfl|rfl<;>omega
theorem pU {β:Type}{a b:List UInt8}{k:Option β}(h:a.length+b.length<=1000000000):aY (ζ a+ζ b<=bl) k=k:=
 guard_pos (by unfold bl;omega)
theorem yd {xs:List Int}(h:cJ xs=true):(tx xs).length<=1412:=by
 obtain ⟨q1,j⟩:=eH h;have:=uX q1;omega
theorem Hp {s l:Int}{nx:List Int}{es:List Bool}:pQ (s,l,nx,es)=eO (s,l,nx,es):=rfl
end Go.Proofs
namespace Go.Proofs
open Go.Ide Go.IntWalk
def Db (n:Int)(b:UInt8):Int:=if 48<=b.toNat/\b.toNat<=57 then 10*n+((b.toNat:Int) - 48) else n
def Dc (n:Int)(s:List UInt8):Int:=s.foldl Db n
theorem Hq (n:Int)(a b:List UInt8):Dc n (a++b)=Dc (Dc n a) b:=by
 unfold Dc;rw [afH]
theorem Q7: ∀u:Nat,Dc 0 (Ϸ u)=(u:Int):=by
 intro u;induction u using aap with
 |_ u ih=>
  by_cases j:u<10;rw [Ϸ,dif_pos j];have e:(aau (48+u)).toNat=48+u:=by rw [aal,aai (by omega)]
  show Db 0 (aau (48+u))=_;unfold Db;rw [e,if_pos (by omega)];omega;rw [Ϸ,dif_neg j,Hq,ih (u/10) (by omega)];have e:(aau (48+u%10)).toNat=48+u%10:=by rw [aal,aai (by omega)]
  show Db _ (aau (48+u%10))=_;unfold Db;rw [e,if_pos (by omega)];omega
theorem ye: ∀u:Nat,∃b r,Ϸ u=b::r/\48<=b.toNat/\b.toNat<=57:=by
 intro u;induction u using aap with
 |_ u ih=>
  by_cases j:u<10;have e:(aau (48+u)).toNat=48+u:=by rw [aal,aai (by omega)]
  refine ⟨aau (48+u),[],?_,by omega,by omega⟩;rw [Ϸ,dif_pos j];obtain ⟨b,r,o,p⟩:=ih (u/10) (by omega);refine ⟨b,r++[aau (48+u%10)],?_,p⟩;rw [Ϸ,dif_neg j,o];rfl
theorem Hr: ∀(u:Nat) (rest:List UInt8),u<1000000000000000000->abE 18446744073709551615 0 (Ϸ u++rest)=abE 18446744073709551615 u rest:=by
 intro u;induction u using aap with
 |_ u ih=>
  intro rest o;by_cases j:u<10;have e:(aau (48+u)).toNat=48+u:=by rw [aal,aai (by omega)]
  rw [Ϸ,dif_pos j];show abE 18446744073709551615 0 (aau (48+u)::rest)=_
  conv=>lhs;unfold abE
  rw [e,if_pos (by omega),if_neg (by omega),if_neg (by omega)]
  congr 1
  omega;have e:(aau (48+u%10)).toNat=48+u%10:=by rw [aal,aai (by omega)]
  rw [Ϸ,dif_neg j,ό,ih (u/10) (by omega) _ (by omega)];show abE 18446744073709551615 (u/10) (aau (48+u%10)::rest)=_
  conv=>lhs;unfold abE
  rw [e,if_pos (by omega),if_neg (by omega),if_neg (by omega)]
  congr 1
  omega
theorem J8 {u:Nat}(h:u<1000000000000000000):agT 64 (Ϸ u)= .ok u:=by
 obtain ⟨b,r,j,_⟩:=ye u;have:=Hr u [] h;rw [ϴ] at this;unfold agT;rw [if_neg (by rw [j];simp),show (2^64 - 1:Nat)=18446744073709551615 from rfl,this];rfl
theorem E6 {n:Int}(h: -1000000000000000<=n/\n<=1000000000000000):aaq 64 (Ϯ n)= .ok n:=by
 have j:=J8 (u:=n.natAbs) (by omega);have hp:(2^(64 - 1):Nat)=9223372036854775808:=rfl;unfold Ϯ;by_cases o:n<0;rw [if_pos o];unfold aaq;simp only [show (45:UInt8).toNat=45 from rfl,j,hp];simp only [or_true,if_true,not_true_eq_false,false_and,if_false,true_and,j];rw [if_neg (by omega)]
 congr 1
 omega;rw [if_neg o,show n.toNat=n.natAbs by omega];obtain ⟨b,r,p,t,I⟩:=ye n.natAbs;rw [p] at j⊢;unfold aaq;simp only [show¬b.toNat=45 by omega,show¬b.toNat=43 by omega,j,hp];simp only [or_self,if_false,j,not_false_eq_true,true_and,false_and];rw [if_neg (by omega)]
 congr 1
 omega
theorem Gh {n:Int}(h: -1000000000000000<=n/\n<=1000000000000000):nL (Ϯ n)=(n,true):=by
 unfold nL;rw [E6 h];simp [h]
end Go.Proofs
namespace Go.Proofs
open Go.Ide Go.IntWalk
noncomputable def yf (ps:List (List UInt8)):Bool:=ps.all λp=>(nL p).2
noncomputable def J9 (ps:List (List UInt8)):List Int:=ps.map λp=>(nL p).1
theorem FR {α β:Type}{f:Int×List α->Option ((Int×List α)⊕(List α⊕Unit))}{ps:List β}(d:β)(R:β->α×Bool)(hn:ps.length<=4000000)(j: ∀(i:Nat) (out:List α),i<ps.length->out.length<=i->f ((i:Int),out)=some (bif (R (ps.getD i d)).2 then .inl (((i+1:Nat):Int),out++[(R (ps.getD i d)).1]) else .inr (.inr ())))(t: ∀out:List α,f (((ps.length:Nat):Int),out)=some (.inr (.inl out))):
 rounds f ((0:Int),([]:List α))=some (bif ps.all λp=>(R p).2 then .inl (ps.map λp=>(R p).1) else .inr ()):=by
 obtain ⟨r,T,U⟩: ∃r,rounds f ((0:Int),([]:List α))=some r/\r=bif ps.all λp=>(R p).2 then .inl (ps.map λp=>(R p).1) else .inr ():=by
  refine fy (f:=f) (λ(n:Nat) (s:Int×List α)=> ∃i:Nat,s=((i:Int),(ps.take i).map λp=>(R p).1)/\i<=ps.length/\n=ps.length - i/\((ps.take i).all λp=>(R p).2)=true) _ (λn s hR=> ?_) ps.length _ ⟨0,by simp,ϝ _,rfl,by simp⟩;obtain ⟨i,rfl,k1,rfl,J⟩:=hR;by_cases o:i<ps.length;have I:=j i ((ps.take i).map λp=>(R p).1) o (by rw [ϔ,ϙ];omega);have hm:ps.getD i d∈ps:=by
   rw [ς,Γ o];exact abL o
  cases e:(R (ps.getD i d)).2 with
  |true=>
   left;rw [e,cond_true] at I;exact ⟨ps.length - (i+1),_,by omega,I,i+1,by rw [fq o d,aaQ];rfl,o,rfl,by rw [fq o d,agf,J,aaT,e];rfl⟩
  |false=>
   right;rw [e,cond_false] at I;refine ⟨_,I,?_⟩;have:(ps.all λp=>(R p).2)=false:=by
    rw [aft];intro q;rw [ϡ] at q;have:=q _ hm;rw [e] at this;cases this
   rw [this];rfl
  right;have:i=ps.length:=by omega
  subst this;rw [aam] at J⊢;exact ⟨_,t _,by rw [J];rfl⟩
 rw [T,U]
theorem yg {α:Type}{f:Int×List α->Option ((Int×List α)⊕(List α⊕Unit))}{ps:List (List UInt8)}(R:List UInt8->α×Bool)(r:ps.length<=4000000)(j: ∀(i:Nat) (out:List α),i<ps.length->out.length<=i->f ((i:Int),out)=some (bif (R (ps.getD i [])).2 then .inl (((i+1:Nat):Int),out++[(R (ps.getD i [])).1]) else .inr (.inr ())))(o: ∀out:List α,f (((ps.length:Nat):Int),out)=some (.inr (.inl out))):
 rounds f ((0:Int),([]:List α))=some (bif ps.all λp=>(R p).2 then .inl (ps.map λp=>(R p).1) else .inr ()):=FR [] R r j o
noncomputable def kK (s:List UInt8):List Int×Bool:=
 bif s==[110,111,110,101] then ([],true) else
  bif yf (iR 44 s)&&decide ((iR 44 s).length<=64) then (J9 (iR 44 s),true) else ([],false)
theorem wq {c:UInt8}: ∀{s p:List UInt8},p∈iR c s->p.length<=s.length
 |[],p,h=>by
  have h:p∈[[]]:=h;simp at h;subst h;simp
 |b::l,p,h=>by
  unfold iR at h;split at h;rcases ϒ.1 h with rfl|h
  simp;have:=wq h;simp only [Ζ];omega;cases j:iR c l with
  |nil=>exact absurd j (EW _ _)
  |cons q r=>
   rw [j] at h;have h:p∈([b]++q)::r:=h;rcases ϒ.1 h with rfl|h
   have:=wq (c:=c) (s:=l) (p:=q) (by rw [j];simp);simp;omega;have:=wq (c:=c) (s:=l) (p:=p) (by rw [j];exact ϛ _ h);simp only [Ζ];omega
theorem yh {c:UInt8}{s:List UInt8}(i:Nat):((iR c s).getD i []).length<=s.length:=by
 rw [ς];cases h:(iR c s)[i]? with
 |none=>simp
 |some p=>exact wq (List.mem_of_getElem? h)
theorem rp {s:List UInt8}(h:s.length<=1048576):fg s=some (kK s):=by
 unfold fg pv rj kK;cases (s==[110,111,110,101]) with
 |true=>
  simp only [cond_true,η];rw [yg (f:=hU []) (ps:=[]) nL (by simp) (λi out j=>by simp at j) (λout=>rfl)];rfl
 |false=>
  have I:=EY 44 s;have t:strings_Split s [44]=some (iR 44 s):=by
   unfold strings_Split;rw [guard_pos (show _/\_ from ⟨by omega,by simp⟩),pT]
  simp only [cond_false,t,η];rw [yg (f:=hU (iR 44 s)) (ps:=iR 44 s) nL (by omega) (λi out j J=>by
   have o:ej ((iR 44 s).getD i [])=some (nL ((iR 44 s).getD i [])):=by
    unfold ej;rw [guard_pos (by have:=yh (c:=44) (s:=s) i;omega)]
   unfold hU;simp only [show decide ((i:Int)<aW (iR 44 s))=true from ki j,cond_true,guard_pos (eJ j),Β,o,η];cases (nL ((iR 44 s).getD i [])).2 with
   |true=>rw [ύ,cond_false,guard_pos (by simp only [Ζ,Χ];unfold bl;omega),bO j (by omega)];rfl
   |false=>rfl) (λout=>by
   unfold hU;simp only [show decide ((((iR 44 s).length:Nat):Int)<aW (iR 44 s))=false from kC (φ _),cond_false])]
  unfold yf J9;cases (iR 44 s).all λp=>(nL p).2 with
  |false=>rfl
  |true=>
   simp only [cond_true,η,ύ,cond_false,Bool.true_and,aW,ϔ];by_cases r:(iR 44 s).length<=64;rw [show decide ((((iR 44 s).length:Nat):Int)>64)=false by simp only [decide_eq_false_iff_not];omega,show decide ((iR 44 s).length<=64)=true by simpa using r];rfl;rw [show decide ((((iR 44 s).length:Nat):Int)>64)=true by simp only [decide_eq_true_eq];omega,show decide ((iR 44 s).length<=64)=false by simpa using r];rfl
theorem yi (s:List UInt8):(kK s).1.length<=64:=by
 unfold kK;cases (s==[110,111,110,101]) with
 |true=>simp
 |false=>
  rw [cond_false];cases j:(yf (iR 44 s)&&decide ((iR 44 s).length<=64)) with
  |false=>simp
  |true=>
   simp only [κ,decide_eq_true_eq] at j;rw [cond_true];simp only [J9,ϔ];exact j.2
theorem tc {s:List UInt8}{n:Int}(h:s.length<=1048576):dK s n=some (bif (iR 59 s).all λp=>(kK p).2 then ((iR 59 s).map λp=>(kK p).1,(((iR 59 s).length:Nat):Int)==n) else ([],false)):=by
 have r:=EY 59 s;have o:strings_Split s [59]=some (iR 59 s):=by
  unfold strings_Split;rw [guard_pos (show _/\_ from ⟨by omega,by simp⟩),pT]
 unfold dK;rw [o,η,yg (f:=jr (iR 59 s)) (ps:=iR 59 s) kK (by omega) (λi out j t=>by
  unfold jr;simp only [show decide ((i:Int)<aW (iR 59 s))=true from ki j,cond_true,guard_pos (eJ j),Β,rp (s:=(iR 59 s).getD i []) (by have:=yh (c:=59) (s:=s) i;omega),η];cases (kK ((iR 59 s).getD i [])).2 with
  |true=>rw [ύ,cond_false,guard_pos (by simp only [Ζ,Χ];unfold bl;omega),bO j (by omega)];rfl
  |false=>rfl) (λout=>by
  unfold jr;simp only [show decide ((((iR 59 s).length:Nat):Int)<aW (iR 59 s))=false from kC (φ _),cond_false])]
 cases (iR 59 s).all λp=>(kK p).2 with
 |false=>rfl
 |true=>
  simp only [cond_true,η,aW,ϔ]
theorem uo (c:UInt8)(b:List UInt8): ∀a:List UInt8,iR c (a++c::b)=iR c a++iR c b
 |[]=>by simp [iR]
 |x::a=>by
  have ih:=uo c b a;rw [acD,iR,iR];by_cases e:x=c;rw [if_pos e,if_pos e,ih];rfl;rw [if_neg e,if_neg e,ih];cases j:iR c a with
  |nil=>exact absurd j (EW _ _)
  |cons q r=>rfl
theorem tf {c:UInt8}: ∀{b:List UInt8},(∀x∈b,x≠c)->iR c b=[b]
 |[],_=>rfl
 |x::b,h=>by
  rw [iR,if_neg (h x (by simp)),tf λy j=>h y (ϛ _ j)];rfl
theorem zT (t:List UInt8):(acC ⟨t.toArray⟩ 59= -1/\iR 59 t=[t])\/ ∃i:Nat,i<t.length/\acC ⟨t.toArray⟩ 59=i/\iR 59 t=iR 59 (t.take i)++[t.drop (i+1)]:=by
 have hd: ∀j,j<t.length->((ByteArray.mk t.toArray).data[j]!)=t.getD j 0:=λj o=>by
  show t.toArray[j]! =_;simp [o]
 have I:(ByteArray.mk t.toArray).size=t.length:=rfl;have r: ∀j,j<t.length->((((ByteArray.mk t.toArray).data[j]!).toNat:Nat):Int)≠59->t.getD j 0≠59:=λj o h e=>by
  rw [hd j o,e] at h;exact h rfl
 rcases Lib.lastIndexByte_spec ⟨t.toArray⟩ 59 with ⟨p,J⟩|⟨i,p,J,R,h4⟩
 refine .inl ⟨p,tf λx T=> ?_⟩;obtain ⟨j,o,rfl⟩:=aaL T;have:=r j o (J j o);rwa [ς,Γ o] at this;rw [I] at p h4;have U:t[i]=59:=by
  rw [hd i p,ς,Γ p] at R;have R:((t[i].toNat:Nat):Int)=59:=R;apply af0.1;show _=59;omega
 refine .inr ⟨i,p,J,?_⟩;have ht:t=t.take i++59::t.drop (i+1):=by
  conv=>lhs;rw [<-List.take_append_drop i t,List.drop_eq_getElem_cons p,U]
 conv=>lhs;rw [ht,uo]
 refine congrArg _ (tf λx T=> ?_);obtain ⟨j,o,rfl⟩:=aaL T;rw [aab] at o;have:=r (i+1+j) (by omega) (h4 (i+1+j) (by omega) (by omega));rw [List.getElem_drop];rwa [ς,Γ (by omega)] at this
end Go.Proofs
namespace Go.Proofs
open Go.Ide Go.IntWalk
def Bp (b:UInt8):Bool×Bool:=(b==49,b==48||b==49)
theorem Ka (b:UInt8)(n:Int)(k:UInt8)(j:n=((k.toNat:Nat):Int)):(((b.toNat:Nat):Int) != n)= !(b==k):=by
 subst j;by_cases e:b=k;subst e;simp;have o:(b==k)=false:=by simpa using e
 have p:(((b.toNat:Nat):Int)==((k.toNat:Nat):Int))=false:=by
  rw [beq_eq_false_iff_ne];intro q;exact e (af0.1 (by omega))
 rw [o,bne,p]
theorem TB (b:UInt8)(n:Int)(k:UInt8)(j:n=((k.toNat:Nat):Int)):(((b.toNat:Nat):Int)==n)=(b==k):=by
 have:=Ka b n k j;rw [bne] at this;cases h:(b==k)<;>rw [h] at this<;>simpa using this
theorem Kb {b:UInt8}{i n:Nat}{out:List Bool}(j:i<n)(o:n<=1048576)(p:out.length<=i):
 ((bif (((b.toNat:Nat):Int) != 48) then some (((b.toNat:Nat):Int) != 49) else some false).bind λv=>bif v then some (.inr (.inr ())) else aY (out.length+([((((b.toNat:Nat):Int))==49)]:List Bool).length<=bl) (some (.inl (bf .i64 (i:Int) 1,out++[((((b.toNat:Nat):Int))==49)]))))=
  (some (bif (Bp b).2 then .inl (((i+1:Nat):Int),out++[(Bp b).1]) else .inr (.inr ())):Option ((Int×List Bool)⊕(List Bool⊕Unit))):=by
 rw [Ka b 48 48 rfl,Ka b 49 49 rfl,TB b 49 49 rfl,bO j (by omega),guard_pos (by simp only [Ζ,Χ];unfold bl;omega)];unfold Bp;cases (b==48)<;>cases (b==49)<;>rfl
theorem Dd (u:List UInt8)(i:Nat):ε (cM u) i 0=(((u.getD i 0).toNat:Nat):Int):=by
 unfold cM;rw [ς,List.getElem?_map,ς];cases u[i]? <;>rfl
theorem zU {a j:List UInt8}{y:Int}(p:cut a (bf .i64 y 1) (aW a)=j)(h:j.length<=1048576):rounds (gq a y) ((0:Int),([]:List Bool))=some (bif j.all λb=>(Bp b).2 then .inl (j.map λb=>(Bp b).1) else .inr ()):=by
 have r:(cM j).length=j.length:=by unfold cM;rw [ϔ]
 exact FR (f:=gq a y) (ps:=j) 0 Bp (by omega) (λi out t I=>by
  have o:i<(cM j).length:=by omega
  unfold gq;simp only [p,show decide ((i:Int)<aW (cM j))=true from ki o,cond_true,guard_pos (eJ o),Β,Dd];exact Kb t h I) (λout=>by
  unfold gq;simp only [p,show decide (((j.length:Nat):Int)<aW (cM j))=false from by rw [<-r];exact kC (φ _),cond_false])
end Go.Proofs
namespace Go.Proofs
open Go.Ide Go.IntWalk
def q4 (xs:List Int)(k:Nat):Int×Int×Int×Int:=(xs.getD (4*k) 0,xs.getD (4*k+1) 0,xs.getD (4*k+2) 0,xs.getD (4*k+3) 0)
def BN (xs:List Int)(k:Nat):List (Int×Int×Int×Int):=(List.range k).map (q4 xs)
theorem Gi (xs:List Int)(k:Nat):(BN xs k).length=k:=by simp [BN]
theorem Kc (xs:List Int)(k:Nat):BN xs (k+1)=BN xs k++[q4 xs k]:=by simp [BN,List.range_succ]
theorem vm {f:Int×List (Int×Int×Int×Int)->Option ((Int×List (Int×Int×Int×Int))⊕List (Int×Int×Int×Int))}{xs:List Int}{m:Nat}(j: ∀(k:Nat),k<m->f (((4*k:Nat):Int),BN xs k)=some (.inl (((4*(k+1):Nat):Int),BN xs (k+1))))(o:f (((4*m:Nat):Int),BN xs m)=some (.inr (BN xs m))):rounds f ((0:Int),([]:List (Int×Int×Int×Int)))=some (BN xs m):=by
 have key: ∀(d k:Nat),k+d=m->rounds f (((4*k:Nat):Int),BN xs k)=some (BN xs m):=by
  intro d;induction d with
  |zero=>
   intro k p;have:k=m:=by omega
   subst this;rw [ef,o]
  |succ d ih=>intro k p;rw [ef,j k (by omega)];exact ih (k+1) (by omega)
 exact key m 0 (by omega)
theorem E7 {f:List Int->List (Int×Int×Int×Int)->Option (List (Int×Int×Int×Int))}{xs:List Int}{m:Nat}(t:xs.length=4*m)(I:m<=1000000)(o: ∀ys acc,ys.length=4->acc.length<=1000000->f ys acc=some (acc++[(ys.getD 0 0,ys.getD 1 0,ys.getD 2 0,ys.getD 3 0)])):rZ f xs []=some (BN xs m):=by
 have key: ∀(d k:Nat),k+d=m->xE f d (xs.drop (4*k)) (BN xs k)=some (BN xs m):=by
  intro d;induction d with
  |zero=>
   intro k p;have:k=m:=by omega
   subst this;rfl
  |succ d ih=>
   intro k p;unfold xE;rw [o _ _ (by rw [ϙ,aab];omega) (by rw [Gi];omega),η,List.drop_drop];have:=ih (k+1) (by omega);rw [Kc] at this;have e: ∀j,j<4->((xs.drop (4*k)).take 4).getD j 0=xs.getD (4*k+j) 0:=λj r=>by
    simp [ς,List.getElem?_take,r]
   rw [e 0 (by omega),e 1 (by omega),e 2 (by omega),e 3 (by omega)];exact this
 unfold rZ;rw [guard_pos (by omega),show xs.length/4=m by omega];have:=key m 0 (by omega);rw [Nat.mul_zero,agn] at this;exact this
theorem Gj {xs:List Int}:(abQ (aW xs) 4 != 0)= !decide (xs.length%4=0):=by
 simp only [aW];rw [ad6 (by omega)];by_cases h:xs.length%4=0;rw [decide_eq_true h,bne,show (((xs.length:Nat):Int)%4==0)=true by rw [beq_iff_eq];omega];rw [decide_eq_false h,bne,show (((xs.length:Nat):Int)%4==0)=false by rw [beq_eq_false_iff_ne];omega]
theorem Bq {ys:List Int}{acc:List (Int×Int×Int×Int)}(j:ys.length=4)(p:acc.length<=1000000):
 (aY ((0:Int)<=(0:Int)/\(0:Int)<aW ys) (
  aY ((0:Int)<=(1:Int)/\(1:Int)<aW ys) (
   aY ((0:Int)<=(2:Int)/\(2:Int)<aW ys) (
    aY ((0:Int)<=(3:Int)/\(3:Int)<aW ys) (
     aY (ζ acc+ζ ([((ε ys (δ (0:Int)) (0:Int)),(ε ys (δ (1:Int)) (0:Int)),(ε ys (δ (2:Int)) (0:Int)),(ε ys (δ (3:Int)) (0:Int)))]:List (Int×Int×Int×Int))<=bl) (
      some (acc++([((ε ys (δ (0:Int)) (0:Int)),(ε ys (δ (1:Int)) (0:Int)),(ε ys (δ (2:Int)) (0:Int)),(ε ys (δ (3:Int)) (0:Int)))]:List (Int×Int×Int×Int)))))))):Option (List (Int×Int×Int×Int)))=
 some (acc++[(ys.getD 0 0,ys.getD 1 0,ys.getD 2 0,ys.getD 3 0)]):=by
 have o:aW ys=4:=by simp only [aW,j];rfl
 rw [o,guard_pos (by omega),guard_pos (by omega),guard_pos (by omega),guard_pos (by omega),guard_pos (by rw [List.length_singleton];unfold bl;omega)];rfl
end Go.Proofs
namespace Go.Proofs
open Go.Ide Go.IntWalk
abbrev jR:=List Int×Int×Int
def yj (c:List Int):Prop:=c.length<=1048576/\ ∀i,i<c.length->0<=c.getD i 0/\c.getD i 0<=255
theorem zW {x:List Int}(w:WfD (.sl (.int .u8)) x)(h:x.length<=1048576):yj x:=by
 refine ⟨h,λi j=> ?_⟩;have:=w.2 i j;have o:(Lit.int .u8 (x[i]:Int)).wf=true:=this;rw [ς,Γ j];simp only [Lit.wf,κ,decide_eq_true_eq] at o;have p:IntKind.u8.min=0:=by decide
 have r:IntKind.u8.max=255:=by decide
 rw [p,r] at o;simp only [Option.getD_some];omega
structure cS (n:Nat)(s:jR):Prop where
 code:yj s.1
 at0:0<=s.2.1
 at1:s.2.1+(n:Int)<=1000000000000000000
theorem cS.mono {n m:Nat}{s:jR}(h:cS n s)(j:m<=n):cS m s:=⟨h.code,h.at0,by have:=h.at1;omega⟩
theorem cS.from {c:List Int}(h:yj c):nY c=some (c,(0:Int),(0:Int))/\cS 1000000000000000000 (c,(0:Int),(0:Int)):=⟨rfl,h,Ϭ _,by simp⟩
theorem Qw (x:Int)(h:0<=x/\x<=255):Φ .i64 x=x:=i64_in _ (by omega)
theorem Qx (z:Int): ∃y:Int,Φ .i64 (Φ .u64 (((Ϟ (Ϗ .u64) z&&& Ϟ (Ϗ .u64) (255:Int)).toNat:Nat):Int))=y/\0<=y/\y<=255:=by
 have j:(Ϟ (Ϗ .u64) z&&& Ϟ (Ϗ .u64) (255:Int)).toNat<=255:=by
  rw [BitVec.toNat_and];refine Nat.le_trans Nat.and_le_right ?_;decide
 generalize (Ϟ (Ϗ .u64) z&&& Ϟ (Ϗ .u64) (255:Int)).toNat=q at j;have o:Φ .u64 ((q:Nat):Int)=(q:Int):=by
  unfold Φ;simp only [Ϗ,afK,agB,acd,if_false];omega
 rw [o,i64_in _ (by omega)];exact ⟨_,rfl,by omega,by omega⟩
theorem Gk {n:Nat}{s:jR}(h:cS (n+1) s): ∃x o,gH s=some (x,o)/\0<=x/\x<=255/\cS n o:=by
 obtain ⟨c,a,z⟩:=s;obtain ⟨r,p,t⟩:=h;have p:0<=a:=p;have t:a+((n+1:Nat):Int)<=1000000000000000000:=t;have U:bf .i64 a 1=a+1:=fM (by omega);unfold gH;simp only [U];have I: ∀J,cS n (c,a+1,J):=λJ=>⟨r,by show 0<=a+1;omega,by show a+1+(n:Int)<=_;omega⟩;have key: ∀v:Int,0<=v/\v<=255-> ∃x o,(bif decide (a+1<=aW c) then some (v,c,a+1,bf .u64 (bf .u64 (iX .u64 z 6364136223846793005) (Φ .u64 v)) 1442695040888963407)
  else (some (Φ .i64 (Φ .u64 (((Ϟ (Ϗ .u64) (Int.fdiv (bf .u64 (bf .u64 (iX .u64 z 6364136223846793005) (Φ .u64 v)) 1442695040888963407) (2^(min (δ (40:Int)) (Ϗ .u64))))&&& Ϟ (Ϗ .u64) (255:Int)).toNat:Nat):Int)))).bind λq5=>
   some (q5,c,a+1,bf .u64 (bf .u64 (iX .u64 z 6364136223846793005) (Φ .u64 v)) 1442695040888963407))=some (x,o)/\0<=x/\x<=255/\cS n o:=by
  intro v R;cases decide (a+1<=aW c) with
  |true=>exact ⟨_,_,rfl,R.1,R.2,I _⟩
  |false=>
   obtain ⟨y,e,y1,y2⟩:=Qx (Int.fdiv (bf .u64 (bf .u64 (iX .u64 z 6364136223846793005) (Φ .u64 v)) 1442695040888963407) (2^(min (δ (40:Int)) (Ϗ .u64))));rw [e];exact ⟨_,_,rfl,y1,y2,I _⟩
 by_cases j:a<aW c;have hi:a.toNat<c.length:=by simp only [aW] at j;omega
 have T:=r.2 a.toNat hi;simp only [j,decide_true,cond_true];rw [guard_pos ⟨p,trivial⟩,Qw _ T];exact key _ T;simp only [j,decide_false,cond_false];exact key 0 (by omega)
theorem Gl {x n:Int}(j:0<=x)(o:0<n):0<=abQ x n/\abQ x n<n:=by
 rw [ad6 j];exact ⟨Int.emod_nonneg _ (by omega),Int.emod_lt_of_pos _ o⟩
theorem Br {n:Nat}{s:jR}(h:cS (n+2) s)(k:Int): ∃x j,bh s k=some (x,j)/\0<=x/\(x<k\/x=0)/\cS n j:=by
 unfold bh;by_cases o:k<=1;simp only [o,decide_true,cond_true];exact ⟨_,_,rfl,Ϭ _,.inr rfl,h.mono (by omega)⟩;simp only [o,decide_false,cond_false];obtain ⟨x,T,t,U,x2,p⟩:=Gk h;simp only [t,η];by_cases r:k>200;obtain ⟨y,s2,I,y1,y2,J⟩:=Gk p;have R:iX .i64 x 256=x*256:=xA (by omega);have e4:bf .i64 (x*256) y=x*256+y:=fM (by omega);simp only [r,decide_true,cond_true,I,η,R,e4];rw [guard_pos (by omega)];have:=Gl (x:=x*256+y) (n:=k) (by omega) (by omega);exact ⟨_,_,rfl,this.1,.inl this.2,J⟩;simp only [r,decide_false,cond_false,η];rw [guard_pos (by omega)];have:=Gl (x:=x) (n:=k) (by omega) (by omega);exact ⟨_,_,rfl,this.1,.inl this.2,p.mono (by omega)⟩
end Go.Proofs
namespace Go.Proofs
open Go.Ide Go.IntWalk
theorem Kd {α:Type}{xs ys:List α}{i:Nat}{d:α}:(xs++ys).getD i d=if i<xs.length then xs.getD i d else ys.getD (i - xs.length) d:=by
 split;rename_i h;rw [ς,List.getElem?_append_left h,ς];rename_i h;rw [ς,List.getElem?_append_right (by omega),ς]
theorem tg {m c:Nat}{nx:List Int}{es:List Bool}(t:1<=m)(m2:m<=64)(I:1<=c)(c2:c<=4)(j:nx.length=m*c)(o:es.length=m)(h: ∀i,i<nx.length->0<=nx.getD i 0/\nx.getD i 0<(m:Int)):mX (m:Int) (c:Int) nx es=true:=by
 have p:m*c<=64*4:=aaB m2 c2;unfold mX;rw [xA (by rw [<-abb];omega),<-abb,fN (by omega)];simp only [κ,decide_eq_true_eq,beq_iff_eq,aW];refine ⟨⟨by omega,by omega⟩,⟨by omega,by omega⟩,by rw [j],by rw [o],uU.2 λi r=> ?_⟩;have:=h i r;omega
end Go.Proofs
namespace Go.Proofs
open Go.Ide Go.IntWalk
theorem bQ {α:Type}{xs:List α}{i:Nat}{d:α}(h:i<xs.length):xs.getD i d∈xs:=by
 rw [ς,Γ h];exact abL h
theorem eu {σ τ ρ:Type}{f:τ->Option (τ⊕ρ)}(mk:Nat->σ->τ)(I:Nat->σ->Prop)(Q:ρ->Prop){n:Nat}(j: ∀i s,i<n->I i s-> ∃p,f (mk i s)=some (.inl (mk (i+1) p))/\I (i+1) p)(o: ∀s,I n s-> ∃r,f (mk n s)=some (.inr r)/\Q r): ∀(k i:Nat) (s:σ),i+k=n->I i s-> ∃r,rounds f (mk i s)=some r/\Q r
 |0,i,s,R,h=>by
  obtain rfl:i=n:=by omega
  obtain ⟨r,t,J⟩:=o s h;exact ⟨r,by rw [ef,t],J⟩
 |k+1,i,s,R,h=>by
  obtain ⟨p,t,J⟩:=j i s (by omega) h;rw [ef,t];exact eu mk I Q j o k (i+1) p (by omega) J
def yk (m c:Nat)(r:Q4):Prop:=(0<=r.1/\r.1<(m:Int))/\(0<=r.2.1/\r.2.1<(m:Int))/\(-1<=r.2.2.1/\r.2.2.1<(c:Int))/\0<=r.2.2.2/\r.2.2.2<=1000
structure og (m c:Nat)(zs:List Q4)(ss es:List Int):Prop where
 m1:1<=m
 m2:m<=16
 c1:1<=c
 c2:c<=4
 zl:zs.length<=16
 zi: ∀r∈zs,yk m c r
 sl:ss.length=m
 el:es.length=m
 sv: ∀x∈ss,-1<=x/\x<=1000
 ev: ∀x∈es,-1<=x/\x<=1000
theorem og.ok {m c:Nat}{zs:List Q4}{ss es:List Int}(h:og m c zs ss es):mJ (m:Int) (c:Int) zs ss es=true:=by
 have:=h.m1;have:=h.m2;have:=h.c1;have:=h.c2;have:=h.zl;unfold mJ;simp only [κ,decide_eq_true_eq,aaf,decide_eq_false_iff_not,aW,beq_iff_eq,h.sl,h.el];refine ⟨⟨by omega,by omega⟩,⟨by omega,by omega⟩,by omega,pP.2 λj _ o=> ?_,⟨hZ.2 h.sv,trivial⟩,hZ.2 h.ev,trivial⟩;obtain ⟨a,b,d,e⟩:=h.zi _ (bQ (d:=(0,0,0,0)) (show j<zs.length by omega));unfold zS;simp only [κ,decide_eq_true_eq];rw [fN (by omega),fN (by omega)];refine ⟨⟨by omega,by omega⟩,⟨by omega,by omega⟩,⟨by omega,by omega⟩,by omega,by omega⟩
theorem og.valid {m c:Nat}{zs:List Q4}{ss es:List Int}(h:og m c zs ss es):bZ ((m:Int),(c:Int),zs,ss,es)=some true:=by
 have:=h.m2;have:=h.zl;have:=h.sl;have:=h.el;rw [pn (by omega) (by omega) (by omega),h.ok]
def rq (n c:Nat)(r:Q4):Prop:=(0<=r.1/\r.1<(n:Int))/\(-1<=r.2.2.1/\r.2.2.1<(n:Int))/\(0<=r.2.2.2/\r.2.2.2<=1000)/\0<=r.2.1/\(r.2.2.1<0->r.2.1<(c:Int))/\(0<=r.2.2.1->r.2.1<(n:Int))
structure qE (n c:Nat)(rs:List Q4):Prop where
 n1:1<=n
 n2:n<=8
 c1:1<=c
 c2:c<=4
 rl:rs.length<=16
 rules: ∀r∈rs,rq n c r
theorem qE.ok {n c:Nat}{rs:List Q4}(h:qE n c rs):ov (n:Int) (c:Int) rs=true:=by
 have:=h.n1;have:=h.n2;have:=h.c1;have:=h.c2;have:=h.rl;unfold ov;simp only [κ,decide_eq_true_eq,aaf,decide_eq_false_iff_not,aW];refine ⟨⟨by omega,by omega⟩,⟨by omega,by omega⟩,by omega,pP.2 λj _ p=> ?_⟩;obtain ⟨a,b,d,e,f,g⟩:=h.rules _ (bQ (d:=(0,0,0,0)) (show j<rs.length by omega));unfold uV;simp only [κ,decide_eq_true_eq];rw [fN (by omega),fN (by omega)];refine ⟨⟨by omega,by omega⟩,⟨by omega,by omega⟩,⟨by omega,by omega⟩,by omega,?_⟩;by_cases o:(rs.getD j (0,0,0,0)).2.2.1<0;have:=f o;simp only [o,decide_true,cond_true];omega;have:=g (by omega);simp only [o,decide_false,cond_false];omega
theorem qE.valid {n c:Nat}{rs:List Q4}(h:qE n c rs):cQ ((n:Int),(c:Int),rs)=some true:=by
 have:=h.rl;rw [po (by omega),h.ok]
theorem dM {n k:Nat}{s:jR}(h:cS (n+2) s)(r:1<=k): ∃(x:Nat) (j:jR),bh s (k:Int)=some ((x:Int),j)/\x<k/\cS n j:=by
 obtain ⟨x,j,e,p,t,o⟩:=Br h (k:Int);refine ⟨x.toNat,j,?_,by omega,o⟩;rw [e,aaj p]
theorem E8 {n k:Nat}{s:jR}(h:cS (n+2) s)(p:1<=k): ∃(b:Bool) (j:jR),cD s (k:Int)=some (b,j)/\cS n j:=by
 obtain ⟨x,j,e,_,o⟩:=dM h p;exact ⟨_,j,by unfold cD;rw [e];rfl,o⟩
theorem ic {α:Type}{P:α->Prop}{xs:List α}{x:α}(h: ∀y∈xs,P y)(o:P x): ∀y∈xs++[x],P y:=λy j=>by
 rcases Λ.1 j with j|j
 exact h y j;simp only [ϊ] at j;subst j;exact o
theorem b9 {α β:Type}{xs:List α}{x:α}{k:Option β}(h:xs.length<=1000000):aY (ζ xs+ζ [x]<=bl) k=k:=
 guard_pos (by simp only [Ζ,Χ];unfold bl;omega)
theorem ML {a:Nat}(h:1<=a)(j:a<=1000000):bI .i64 (a:Int) 1=((a - 1:Nat):Int):=by rw [fN (by omega)];omega
theorem XK {a:Nat}(h:1<=a):decide ((a:Int)>(0:Int))=true:=by simp;omega
theorem NP {m c:Nat}{a b d e:Int}(j:0<=a/\a<(m:Int))(o:0<=b/\b<(m:Int))(p: -1<=d/\d<(c:Int))(r:0<=e/\e<=1000):yk m c (a,b,d,e):=⟨j,o,p,r⟩
theorem Ke {g m c:Nat}(t:1<=m)(m2:m<=4)(T:1<=c)(c2:c<=3)(n:Nat)(hn:n<=10){s:jR}(j:cS (n*10+g) s):
 ∃I zs,rounds (gb (m:Int) (c:Int) true) ((n:Int),s,([]:List Q4))=some (I,zs)/\cS g I/\zs.length=n/\ ∀r∈zs,yk m c r:=by
 obtain ⟨r,e,U,h2,h3⟩:=fy (f:=gb (m:Int) (c:Int) true) (λa st=> ∃(s:jR) (out:List Q4),st=((a:Int),s,out)/\a+out.length=n/\cS (a*10+g) s/\ ∀r∈out,yk m c r)
  (λr=>cS g r.1/\r.2.length=n/\ ∀x∈r.2,yk m c x) (by
   rintro a st ⟨s,out,rfl,ha,j,o⟩;unfold gb;by_cases h0:a=0;subst h0;exact .inr ⟨_,rfl,j.mono (by omega),by show out.length=_;omega,o⟩;obtain ⟨x1,s1,e1,q1,o1⟩:=dM (n:=(a - 1)*10+g+8) (j.mono (by omega)) t;obtain ⟨x2,s2,e2,q2,o2⟩:=dM (n:=(a - 1)*10+g+6) (o1.mono (by omega)) t;obtain ⟨x3,s3,e3,q3,o3⟩:=dM (n:=(a - 1)*10+g+4) (o2.mono (by omega)) T;obtain ⟨x4,s4,e4,q4,o4⟩:=dM (n:=(a - 1)*10+g+2) (k:=9) (o3.mono (by omega)) (by omega);obtain ⟨b,J,p,R⟩:=E8 (n:=(a - 1)*10+g) (k:=5) (o4.mono (by omega)) (by omega);have e4:bh s3 (9:Int)=_:=e4;have p:cD s4 (5:Int)=_:=p;simp only [XK (show 1<=a by omega),cond_true,e1,e2,e3,e4,p,η,ML (show 1<=a by omega) (show a<=1000000 by omega)];cases b with
   |true=>
    simp only [cond_true,η];rw [b9 (by omega)];exact .inl ⟨a - 1,_,by omega,rfl,J,_,rfl,by simp;omega,R,ic o (NP (by omega) (by omega) (by omega) (by omega))⟩
   |false=>
    simp only [cond_false,η];rw [b9 (by omega)];exact .inl ⟨a - 1,_,by omega,rfl,J,_,rfl,by simp;omega,R,ic o (NP (by omega) (by omega) (by omega) (by omega))⟩) n
  ((n:Int),s,([]:List Q4)) ⟨s,[],rfl,rfl,j,λ_ h=>by cases h⟩
 exact ⟨r.1,r.2,e,U,h2,h3⟩
theorem Hs {g m:Nat}(m2:m<=4){s:jR}(hs:cS (m*8+g) s):
 ∃U ss es,rounds (ga (m:Int)) ((0:Int),s,([]:List Int),([]:List Int))=some (U,ss,es)/\cS g U/\ss.length=m/\es.length=m/\(∀x∈ss,-1<=x/\x<=1000)/\ ∀x∈es,-1<=x/\x<=1000:=by
 obtain ⟨r,e,h1,h2,h3,h4,h5⟩:=fy (f:=ga (m:Int)) (λa st=> ∃(i:Nat) (s:jR) (p q:List Int),a+i=m/\st=((i:Int),s,p,q)/\p.length=i/\q.length=i/\cS (a*8+g) s/\(∀x∈p,-1<=x/\x<=1000)/\ ∀x∈q,-1<=x/\x<=1000)
  (λr=>cS g r.1/\r.2.1.length=m/\r.2.2.length=m/\(∀x∈r.2.1,-1<=x/\x<=1000)/\ ∀x∈r.2.2,-1<=x/\x<=1000) (by
   rintro a st ⟨i,s,p,q,ha,rfl,hp,hq,aa,vp,vq⟩;unfold ga;by_cases h0:i<m;have t: ∀(n k:Nat) (b:Bool) (s:jR),cS (n+4) s->1<=k-> ∃(v:Int) (U:jR),
    ((show Option (Int×(List Int×Int×Int)) from
     (show Option (Bool×(List Int×Int×Int)) from
      bif b then some (true,s) else (cD s (k:Int)).bind λj=>some (j.1,j.2)).bind λR=>
     bif R.1 then (bh R.2 (4:Int)).bind λab=>some (ab.1,ab.2) else some ((-1:Int),R.2))=some (v,U))/\(-1<=v/\v<=1000)/\cS n U:=by
    intro n k b s hs hk;obtain ⟨c,o,I,T⟩: ∃(c:Bool) (o:jR),(bif b then some (true,s) else (cD s (k:Int)).bind λj=>some (j.1,j.2))=some (c,o)/\cS (n+2) o:=by
     cases b with
     |true=>exact ⟨true,s,rfl,hs.mono (by omega)⟩
     |false=>
      obtain ⟨c,o,I,T⟩:=E8 (n:=n+2) hs hk;exact ⟨c,o,by simp only [cond_false,I,η],T⟩
    simp only [I,η];cases c with
    |true=>
     obtain ⟨x,s2,J,q2,o2⟩:=dM (k:=4) T (by omega);have J:bh o (4:Int)=_:=J;exact ⟨_,_,by simp only [cond_true,J,η];rfl,by omega,o2⟩
    |false=>exact ⟨-1,o,rfl,by omega,T.mono (by omega)⟩
   obtain ⟨v,o,I,v1,T⟩:=t ((a - 1)*8+g+4) 5 ((i:Int)==(0:Int)) s (aa.mono (by omega)) (by omega);obtain ⟨u,s2,J,u1,o2⟩:=t ((a - 1)*8+g) 4 ((i:Int)==bI .i64 (m:Int) 1) o T (by omega);have I:=I;have J:=J;simp only [show ((5:Nat):Int)=5 from rfl,show ((4:Nat):Int)=4 from rfl] at I J;simp only [ki h0,cond_true,I,η,J,bO h0 (show m<=4294967296 by omega)];rw [b9 (by omega),b9 (by omega)];exact .inl ⟨a - 1,_,by omega,rfl,i+1,s2,_,_,by omega,rfl,by simp;omega,by simp;omega,o2,ic vp v1,ic vq u1⟩;obtain rfl:i=m:=by omega
   simp only [kC (φ _),cond_false];have DC:cS g s:=aa.mono (by omega);exact .inr ⟨_,rfl,DC,hp,hq,vp,vq⟩) m
  ((0:Int),s,([]:List Int),([]:List Int)) ⟨0,s,[],[],by omega,rfl,rfl,rfl,hs,λ_ h=>(by cases h),λ_ h=>(by cases h)⟩
 exact ⟨r.1,r.2.1,r.2.2,e,h1,h2,h3,h4,h5⟩
theorem rr {x:Nat}(h:x<=1000):bf .i64 (1:Int) (x:Int)=((1+x:Nat):Int):=by rw [fM (by omega)];omega
theorem De {g:Nat}{s:jR}(J:cS (1000+g) s): ∃(m c:Nat) (zs:List Q4) (ss es:List Int) (t:jR),eV s=some (((m:Int),(c:Int),zs,ss,es),t)/\og m c zs ss es/\cS g t:=by
 obtain ⟨j,R,o,q1,T⟩:=dM (n:=900+g) (k:=4) (J.mono (by omega)) (by omega);obtain ⟨p,s2,r,q2,U⟩:=dM (n:=800+g) (k:=3) (T.mono (by omega)) (by omega);have hk:bf .i64 (iX .i64 (2:Int) ((1+j:Nat):Int)) 2=((2*(1+j)+2:Nat):Int):=by rw [xA (by omega),fM (by omega)];omega
 obtain ⟨I,s3,e3,q3,o3⟩:=dM (n:=700+g) (k:=2*(1+j)+2) (U.mono (by omega)) (by omega);obtain ⟨s4,zs,e4,o4,z1,z2⟩:=Ke (g:=300+g) (m:=1+j) (c:=1+p) (by omega) (by omega) (by omega) (by omega) (1+I) (by omega) (o3.mono (by omega));obtain ⟨s5,ss,es,e5,o5,l1,l2,v1,v2⟩:=Hs (g:=g) (m:=1+j) (by omega) (o4.mono (by omega));refine ⟨1+j,1+p,zs,ss,es,s5,?_,⟨by omega,by omega,by omega,by omega,by omega,z2,l1,l2,v1,v2⟩,o5⟩;have o:bh s (4:Int)=_:=o;have r:bh R (3:Int)=_:=r;unfold eV ly;simp only [o,r,η,rr (show j<=1000 by omega),rr (show p<=1000 by omega),hk,e3,rr (show I<=1000 by omega),e4,e5]
theorem Df {g:Nat}{s:jR}(t:cS (1000+g) s): ∃(n c:Nat) (rs:List Q4) (s':jR),eW s=some (((n:Int),(c:Int),rs),s')/\qE n c rs/\cS g s':=by
 obtain ⟨j,s1,J,q1,o1⟩:=dM (n:=900+g) (k:=4) (t.mono (by omega)) (by omega);obtain ⟨I,s2,R,q2,o2⟩:=dM (n:=800+g) (k:=3) (o1.mono (by omega)) (by omega);have hk:bf .i64 (iX .i64 (3:Int) ((1+j:Nat):Int)) 2=((3*(1+j)+2:Nat):Int):=by rw [xA (by omega),fM (by omega)];omega
 obtain ⟨p,s3,e3,q3,o3⟩:=dM (n:=700+g) (k:=3*(1+j)+2) (o2.mono (by omega)) (by omega);have T:1<=1+j:=by omega
 have c1:1<=1+I:=by omega
 have m2:1+j<=4:=by omega
 have c2:1+I<=3:=by omega
 generalize hm:1+j=m at*;generalize hc:1+I=c at*;obtain ⟨r,e4,h1,h2,U⟩:=fy (f:=jy (m:Int) (c:Int)) (λa st=> ∃(s:jR) (out:List Q4),st=((a:Int),s,out)/\a+out.length=1+p/\cS (a*20+(100+g)) s/\ ∀r∈out,rq m c r)
  (λr=>cS (100+g) r.1/\r.2.length=1+p/\ ∀x∈r.2,rq m c x) (by
   rintro a st ⟨s,out,rfl,ha,t,ho⟩;unfold jy;by_cases h0:a=0;subst h0;exact .inr ⟨_,rfl,t.mono (by omega),by show out.length=_;omega,ho⟩;obtain ⟨y1,t1,f1,p1,w1⟩:=dM (n:=(a - 1)*20+(100+g)+18) (t.mono (by omega)) T;obtain ⟨y2,t2,f2,p2,w2⟩:=dM (n:=(a - 1)*20+(100+g)+16) (w1.mono (by omega)) c1;obtain ⟨b,t3,f3,w3⟩:=E8 (n:=(a - 1)*20+(100+g)+14) (k:=2) (w2.mono (by omega)) (by omega);have f3:cD t2 (2:Int)=_:=f3;simp only [XK (show 1<=a by omega),cond_true,f1,f2,f3,η,ML (show 1<=a by omega) (show a<=1000000 by omega)];cases b with
   |true=>
    obtain ⟨y4,t4,f4,p4,w4⟩:=dM (n:=(a - 1)*20+(100+g)+12) (w3.mono (by omega)) T;obtain ⟨y5,t5,f5,p5,w5⟩:=dM (n:=(a - 1)*20+(100+g)+10) (w4.mono (by omega)) T;obtain ⟨y6,t6,o,p6,w6⟩:=dM (n:=(a - 1)*20+(100+g)) (k:=6) (w5.mono (by omega)) (by omega);have o:bh t5 (6:Int)=_:=o;simp only [cond_true,η,f4,f5,o];rw [b9 (by omega)];refine .inl ⟨a - 1,_,by omega,rfl,t6,_,rfl,by simp;omega,w6,ic ho ?_⟩;refine ⟨⟨?_,?_⟩,⟨?_,?_⟩,⟨?_,?_⟩,?_,λh=> ?_,λ_=> ?_⟩<;>simp only at* <;>omega
   |false=>
    obtain ⟨y6,t6,o,p6,w6⟩:=dM (n:=(a - 1)*20+(100+g)) (k:=6) (w3.mono (by omega)) (by omega);have o:bh t3 (6:Int)=_:=o;simp only [cond_false,η,o];rw [b9 (by omega)];refine .inl ⟨a - 1,_,by omega,rfl,t6,_,rfl,by simp;omega,w6,ic ho ?_⟩;refine ⟨⟨?_,?_⟩,⟨?_,?_⟩,⟨?_,?_⟩,?_,λ_=> ?_,λh=> ?_⟩<;>simp only at* <;>omega) (1+p)
  (((1+p:Nat):Int),s3,([]:List Q4)) ⟨s3,[],rfl,rfl,o3.mono (by omega),λ_ h=>by cases h⟩
 obtain ⟨s4,rs⟩:=r;obtain ⟨x5,s5,e5,q5,o5⟩:=dM (n:=g) (h1.mono (by omega)) c1;have h2:rs.length=1+p:=h2;have U: ∀x∈rs,rq m c x:=U;refine ⟨m,c,rs++[((m:Int) - 1,(x5:Int),-1,1)],s5,?_,⟨by omega,by omega,by omega,by omega,by simp;omega,ic U ?_⟩,o5⟩;have J:bh s (4:Int)=_:=J;have R:bh s1 (3:Int)=_:=R;have a1:=rr (show j<=1000 by omega);have a2:=rr (show I<=1000 by omega);rw [hm] at a1;rw [hc] at a2;have e5:bh s4 (c:Int)=_:=e5;unfold eW lz;simp only [J,R,η,a1,a2,hk,e3,rr (show p<=1000 by omega),e4,e5];rw [b9 (by omega),fN (by omega)];rfl;refine ⟨⟨?_,?_⟩,⟨?_,?_⟩,⟨?_,?_⟩,?_,λ_=> ?_,λh=> ?_⟩<;>simp only at* <;>omega
theorem zX {g:Nat}{s:jR}(o:cS (100+g) s): ∃(w:List Int) (I:jR),gI s=some (w,I)/\(w.length<=5/\ ∀x∈w,0<=x/\x<2)/\cS g I:=by
 obtain ⟨j,J,p,q1,U⟩:=dM (n:=50+g) (k:=6) (o.mono (by omega)) (by omega);obtain ⟨r,e4,h1,R⟩:=fy (f:=jZ) (λa st=> ∃(s:jR) (out:List Int),st=((a:Int),s,out)/\a+out.length=j/\(∀x∈out,0<=x/\x<2)/\cS (a*2+g) s)
  (λr=>cS g r.1/\r.2.length=j/\ ∀x∈r.2,0<=x/\x<2) (by
   rintro a st ⟨s,out,rfl,ha,T,o⟩;unfold jZ;by_cases h0:a=0;subst h0;exact .inr ⟨_,rfl,o.mono (by omega),by show out.length=_;omega,T⟩;obtain ⟨y1,t1,t,p1,w1⟩:=dM (n:=(a - 1)*2+g) (k:=2) (o.mono (by omega)) (by omega);have t:bh s (2:Int)=_:=t;simp only [XK (show 1<=a by omega),cond_true,t,η,ML (show 1<=a by omega) (show a<=1000000 by omega)];rw [b9 (by omega)];exact .inl ⟨a - 1,_,by omega,rfl,t1,_,rfl,by simp;omega,ic T (by omega),w1⟩) j
  ((j:Int),J,([]:List Int)) ⟨J,[],rfl,rfl,(λx hx=>by cases hx),U.mono (by omega)⟩
 obtain ⟨s4,w⟩:=r;have h3:w.length=j:=R.1;refine ⟨w,s4,?_,⟨by omega,R.2⟩,h1⟩;have p:bh s (6:Int)=_:=p;unfold gI;simp only [p,η,e4]
theorem yl {g m c:Nat}{s:jR}(U:1<=m)(m2:m<=6)(c1:1<=c)(c2:c<=3)(j:cS (100+g) s):
 ∃nx es p,fa s (m:Int) (c:Int)=some (((m:Int),(c:Int),nx,es),p)/\mX (m:Int) (c:Int) nx es=true/\cS g p:=by
 have hmc:m*c<=6*3:=aaB m2 c2;obtain ⟨r,er,r1,r2,r3⟩:=fy (f:=fS (m:Int)) (λa st=> ∃(s:jR) (out:List Int),st=((a:Int),s,out)/\a+out.length=m*c/\cS (a*2+(50+g)) s/\ ∀i,i<out.length->0<=out.getD i 0/\out.getD i 0<(m:Int))
  (λr=>cS (50+g) r.1/\r.2.length=m*c/\ ∀i,i<r.2.length->0<=r.2.getD i 0/\r.2.getD i 0<(m:Int)) (by
   rintro a st ⟨s,out,rfl,ha,j,T⟩;unfold fS;by_cases t:a=0;subst t;have I:decide (((0:Nat):Int)>(0:Int))=false:=by simp
   simp only [I,cond_false];exact .inr ⟨_,rfl,j.mono (by omega),by show out.length=_;omega,T⟩;have I:decide ((a:Int)>(0:Int))=true:=by simp;omega
   obtain ⟨x,p,e,x1,x2,o⟩:=Br (n:=(a - 1)*2+(50+g)) (j.mono (by omega)) (m:Int);have e1:bI .i64 (a:Int) 1=((a - 1:Nat):Int):=by rw [fN (by omega)];omega
   simp only [I,cond_true,e,η,e1];rw [guard_pos (by simp only [Ζ,Χ,bl];omega)];refine .inl ⟨a - 1,_,by omega,rfl,p,out++[x],rfl,by simp;omega,o,λi J=> ?_⟩;rw [Kd];split;rename_i R;exact T i R;have:i - out.length=0:=by simp at J;omega
   rw [this];show 0<=x/\x<(m:Int);omega) (m*c) (((m*c:Nat):Int),s,([]:List Int)) ⟨s,[],rfl,by simp,j.mono (by omega),λi J=>by simp at J⟩
 obtain ⟨q,eq,q1,q2⟩:=fy (f:=fR (m:Int)) (λa st=> ∃(i:Nat) (s:jR) (out:List Bool),a+i=m/\st=((i:Int),s,out)/\out.length=i/\cS (a*2+g) s)
  (λr=>cS g r.1/\r.2.length=m) (by
   rintro a st ⟨i,s,out,ha,rfl,hl,j⟩;unfold fR cD;by_cases t:i<m;obtain ⟨x,p,e,_,_,o⟩:=Br (n:=(a - 1)*2+g) (j.mono (by omega)) (3:Int);simp only [ki t,cond_true,e,η,bO t (show m<=4294967296 by omega)];rw [guard_pos (by simp only [Ζ,Χ,bl];omega)];exact .inl ⟨a - 1,_,by omega,rfl,i+1,p,_,by omega,rfl,by simp;omega,o⟩;have:i=m:=by omega
   subst this;simp only [kC (φ _),cond_false];exact .inr ⟨_,rfl,j.mono (by omega),hl⟩) m ((0:Int),r.1,([]:List Bool)) ⟨0,r.1,[],by omega,rfl,rfl,r1.mono (by omega)⟩
 refine ⟨r.2,q.2,q.1,?_,tg U (by omega) c1 (by omega) r2 q2 r3,q1⟩;unfold fa;rw [xA (by rw [<-abb];omega),<-abb,er];simp only [η];rw [eq];rfl
structure di (m c:Nat)(nx:List Int)(es:List Bool):Prop where
 ok:mX (m:Int) (c:Int) nx es=true
 nl:nx.length<=64
theorem Kf {code:List Int}(h:yj code): ∃(m c:Nat) (zs:List Q4) (ss es:List Int) (pm I:Nat) (nx:List Int) (j:List Bool) (n gc:Nat) (rs:List Q4) (w:List Int),
 pd code=some (((m:Int),(c:Int),zs,ss,es),((pm:Int),(I:Int),nx,j),((n:Int),(gc:Int),rs),w)/\og m c zs ss es/\di pm I nx j/\qE n gc rs/\w.length<=5/\ ∀x∈w,0<=x/\x<2:=by
 obtain ⟨T,U⟩:=cS.from h
 obtain ⟨m,c,zs,ss,es,s1,e1,hM,o1⟩:=De (g:=100000) (U.mono (by omega));obtain ⟨o,s2,r,q2,o2⟩:=dM (n:=90000) (k:=6) (o1.mono (by omega)) (by omega);obtain ⟨p,s3,t,q3,o3⟩:=dM (n:=80000) (k:=3) (o2.mono (by omega)) (by omega);obtain ⟨nx,j,s4,e4,J,o4⟩:=yl (g:=10000) (m:=1+o) (c:=1+p) (by omega) (by omega) (by omega) (by omega) (o3.mono (by omega));obtain ⟨n,gc,rs,s5,e5,hG,o5⟩:=Df (g:=5000) (o4.mono (by omega));obtain ⟨w,s6,e6,hw,o6⟩:=zX (g:=0) (o5.mono (by omega));refine ⟨m,c,zs,ss,es,1+o,1+p,nx,j,n,gc,rs,w,?_,hM,⟨J,?_⟩,hG,hw⟩;have r:bh s1 (6:Int)=_:=r;have t:bh s2 (3:Int)=_:=t;unfold pd oF dQ;simp only [T,η,e1,r,t,rr (show o<=1000 by omega),rr (show p<=1000 by omega),e4,e5,e6];obtain ⟨m',R,h1,h2,_,_,_,_,h3,_⟩:=qC J;have:m'=1+o:=by omega
 have:R=1+p:=by omega
 have:m'*R<=6*3:=aaB (by omega) (by omega);omega
end Go.Proofs
namespace Go.Proofs
open Go.Ide Go.IntWalk
theorem zY: ∀(u:Nat) (b:UInt8),b∈Ϸ u->48<=b.toNat/\b.toNat<=57:=by
 intro u;induction u using aap with
 |_ u ih=>
  intro b j;by_cases o:u<10;rw [Ϸ,dif_pos o] at j;simp only [ϊ] at j;subst j;have e:(aau (48+u)).toNat=48+u:=by rw [aal,aai (by omega)]
  omega;rw [Ϸ,dif_neg o] at j;rcases Λ.1 j with j|j
  exact ih (u/10) (by omega) b j;simp only [ϊ] at j;subst j;have e:(aau (48+u%10)).toNat=48+u%10:=by rw [aal,aai (by omega)]
  omega
theorem qF {n:Int}{b:UInt8}(j:b∈Ϯ n):b.toNat=45\/(48<=b.toNat/\b.toNat<=57):=by
 unfold Ϯ at j;split at j;rcases ϒ.1 j with rfl|j
 exact .inl rfl;exact .inr (zY _ b j);exact .inr (zY _ b j)
theorem Ht (n:Int): ∃b r,Ϯ n=b::r:=by
 unfold Ϯ;split;exact ⟨_,_,rfl⟩;obtain ⟨b,r,h,_⟩:=ye n.toNat;exact ⟨b,r,h⟩
theorem ym {p:List UInt8}{b:UInt8}: ∀{l:List (List UInt8)},b∈jn p l->b∈p\/ ∃x∈l,b∈x
 |[],h=>by cases h
 |[x],h=> .inr ⟨x,by simp,h⟩
 |x::y::r,h=>by
  unfold jn at h;rcases Λ.1 h with h|h
  rcases Λ.1 h with h|h
  exact .inr ⟨x,by simp,h⟩;exact .inl h;rcases ym h with h|⟨z,j,h⟩
  exact .inl h;exact .inr ⟨z,ϛ _ j,h⟩
theorem yn {c:UInt8}: ∀{l:List (List UInt8)},l≠[]->(∀x∈l,∀b∈x,b≠c)->iR c (jn [c] l)=l
 |[],h,_=>absurd rfl h
 |[x],_,h=>tf (h x (by simp))
 |x::y::r,_,h=>by
  have ih:=yn (c:=c) (l:=y::r) (by simp) λz j=>h z (ϛ _ j);unfold jn;rw [ό,aeH,uo,ih,tf (h x (by simp))];rfl
theorem oR {xs:List Int}{b:UInt8}(j:b∈tx xs):44<=b.toNat/\b.toNat≠59:=by
 unfold tx at j;split at j;simp only [ϒ,ϲ,or_false] at j;rcases j with rfl|rfl|rfl|rfl<;>decide
 rcases ym j with h|⟨x,o,h⟩
 simp only [ϊ] at h;subst h;decide;obtain ⟨n,_,rfl⟩:=ϟ.1 o;have:=qF h;omega
theorem pW {b c:UInt8}(h:b.toNat≠c.toNat):b≠c:=λe=>h (by rw [e])
theorem yp {xs:List Int}(h:cJ xs=true):kK (tx xs)=(xs,true):=by
 unfold cJ at h;simp only [κ,decide_eq_true_eq,aW] at h;have R:=hZ.1 h.1;unfold kK tx;by_cases e:xs=[];rw [if_pos e,e];rfl;rw [if_neg e];have o:xs.map Ϯ≠[]:=by simpa using e
 have hp:iR 44 (jn [44] (xs.map Ϯ))=xs.map Ϯ:=yn o λx U b j=>by
  obtain ⟨n,_,rfl⟩:=ϟ.1 U;have:=qF j;exact pW (by show b.toNat≠44;omega)
 have hq:(jn [44] (xs.map Ϯ)==[110,111,110,101])=false:=by
  rw [beq_eq_false_iff_ne];obtain ⟨n,r,rfl⟩: ∃n r,xs=n::r:=by cases xs with|nil=>exact absurd rfl e|cons n r=>exact ⟨n,r,rfl⟩
  obtain ⟨b,t,j⟩:=Ht n;have h1:b.toNat=45\/(48<=b.toNat/\b.toNat<=57):=qF (n:=n) (by rw [j];simp);have I: ∃T,jn [44] ((n::r).map Ϯ)=b::T:=by
   rw [ϱ,j];cases r with
   |nil=>exact ⟨t,rfl⟩
   |cons=>exact ⟨_,rfl⟩
  obtain ⟨T,I⟩:=I;rw [I];intro q;injection q with q;subst q;have:(110:UInt8).toNat=110:=rfl;omega
 have h3:yf (xs.map Ϯ)=true:=by
  unfold yf;rw [ϡ];intro p hp;obtain ⟨n,J,rfl⟩:=ϟ.1 hp;rw [Gh (R n J)]
 have h4:J9 (xs.map Ϯ)=xs:=by
  unfold J9;rw [aeb]
  conv=>rhs;rw [<-aht xs]
  exact ae5 λn J=>by show (nL (Ϯ n)).1=n;rw [Gh (R n J)]
 rw [hq,cond_false,hp,h3,h4,ϔ,decide_eq_true (show xs.length<=64 by omega)];rfl
theorem jS {xs:List Int}(h: ∀x∈xs,-1000<=x/\x<=1000000)(o:xs.length<=64):cJ xs=true:=by
 unfold cJ;rw [κ,hZ];refine ⟨λx j=> ?_,by simp only [aW,decide_eq_true_eq];omega⟩;have:=h x j;omega
theorem Bt {s l:Nat}(j:s<=64)(o:l<=64):cJ [(s:Int),(l:Int)]=true:=Qv (by omega) (by omega)
theorem yq {zs:List Q4}{j o:Int}(h: ∀r∈zs,(j<=r.1/\r.1<=o)/\(j<=r.2.1/\r.2.1<=o)/\(j<=r.2.2.1/\r.2.2.1<=o)/\j<=r.2.2.2/\r.2.2.2<=o): ∀x∈db zs,j<=x/\x<=o:=λx p=>by
 unfold db at p;obtain ⟨r,t,p⟩:=List.mem_flatMap.1 p;obtain ⟨a,b,c,d⟩:=h r t;simp only [ϒ,ϲ,or_false] at p;rcases p with rfl|rfl|rfl|rfl<;>assumption
theorem Gm: ∀(zs:List Q4) (k:Nat),k<zs.length->q4 (db zs) k=zs.getD k (0,0,0,0)
 |[],k,h=>by simp at h
 |r::zs,0,_=>rfl
 |r::zs,k+1,h=>by
  have ih:=Gm zs k (by simpa using h);rw [ae6,<-ih];have e:db (r::zs)=r.1::r.2.1::r.2.2.1::r.2.2.2::db zs:=rfl;rw [e];unfold q4;rw [show 4*(k+1)=4*k+1+1+1+1 by omega,show 4*k+1+1+1+1+1=(4*k+1)+1+1+1+1 by omega,show 4*k+1+1+1+1+2=(4*k+2)+1+1+1+1 by omega,show 4*k+1+1+1+1+3=(4*k+3)+1+1+1+1 by omega];simp only [ae6]
theorem Dg (zs:List Q4):BN (db zs) zs.length=zs:=by
 unfold BN;apply List.ext_getElem;simp;intro i o j;rw [List.getElem_map,List.getElem_range,Gm zs i j,ς,Γ j];rfl
theorem TC {a0 a1 a2 a3:List Int}(o:cJ a0=true)(r:cJ a1=true)(t:cJ a2=true)(I:cJ a3=true):
 dK (jn [59] [tx a0,tx a1,tx a2,tx a3]) 4=some ([a0,a1,a2,a3],true):=by
 have hp:iR 59 (jn [59] [tx a0,tx a1,tx a2,tx a3])=[tx a0,tx a1,tx a2,tx a3]:=yn (by simp) λx j b J=>by
  simp only [ϒ,ϲ,or_false] at j;rcases j with rfl|rfl|rfl|rfl<;>exact pW (oR J).2
 have R:(jn [59] [tx a0,tx a1,tx a2,tx a3]).length<=4*(1412+1):=uW (p:=[59]) _ λx j=>by
  simp only [ϒ,ϲ,or_false] at j;rcases j with rfl|rfl|rfl|rfl<;>apply yd<;>assumption
 rw [tc (by omega),hp];simp only [aaT,acA,yp o,yp r,yp t,yp I,ϱ,acw,abw,cond_true];rfl
theorem NQ {a0 a1:List Int}(o:cJ a0=true)(r:cJ a1=true):dK (jn [59] [tx a0,tx a1]) 2=some ([a0,a1],true):=by
 have hp:iR 59 (jn [59] [tx a0,tx a1])=[tx a0,tx a1]:=yn (by simp) λx j b t=>by
  simp only [ϒ,ϲ,or_false] at j;rcases j with rfl|rfl<;>exact pW (oR t).2
 have I:(jn [59] [tx a0,tx a1]).length<=2*(1412+1):=uW (p:=[59]) _ λx j=>by
  simp only [ϒ,ϲ,or_false] at j;rcases j with rfl|rfl<;>apply yd<;>assumption
 rw [tc (by omega),hp];simp only [aaT,acA,yp o,yp r,ϱ,acw,abw,cond_true];rfl
theorem Kg {l:List (List UInt8)}(h: ∀x∈l,∀b∈x,44<=b.toNat): ∀b∈jn [59] l,44<=b.toNat:=λb o=>by
 rcases ym o with j|⟨x,p,j⟩
 simp only [ϊ] at j;subst j;decide;exact h x p b j
section
variable {m c:Nat} {zs:List Q4} {ss es:List Int}
def uY (m c:Nat)(zs:List Q4)(ss es:List Int):List UInt8:=jn [59] [tx [(m:Int),(c:Int)],tx ss,tx es,tx (db zs)]
theorem og.vals (h:og m c zs ss es):cJ [(m:Int),(c:Int)]=true/\cJ ss=true/\cJ es=true/\cJ (db zs)=true:=by
 have p:=h.m2;have t:=h.c2;have I:=h.sl;have J:=h.el;have R:=h.zl;have T:=mL zs;refine ⟨Bt (by omega) (by omega),jS (λx j=>by have:=h.sv x j;omega) (by omega),jS (λx j=>by have:=h.ev x j;omega) (by omega),jS (yq λr o=> ?_) (by omega)⟩;obtain ⟨a,b,d,e⟩:=h.zi r o;exact ⟨by omega,by omega,by omega,by omega⟩
theorem Dh (h:og m c zs ss es):gS ((m:Int),(c:Int),zs,ss,es)=some (uY m c zs ss es,true):=by
 obtain ⟨v1,o,p,v4⟩:=h.vals;have r:=h.sl;have t:=h.el;have I:=h.zl;have J:=mL zs;have:=h.m2;unfold gS;simp only [h.valid,η,ύ,cond_false,J7 (show zs.length<=1048576 by omega)];rw [px (by simp) (λl j=>by
  simp only [ϒ,ϲ,or_false] at j;rcases j with rfl|rfl|rfl|rfl
  simp;omega;omega;omega)]
 simp only [aaT,v1,o,p,v4,acA,abw,cond_true,η];rfl
theorem Kh (h:og m c zs ss es):eo (uY m c zs ss es)=some (((m:Int),(c:Int),zs,ss,es),true):=by
 obtain ⟨v1,j,o,v4⟩:=h.vals;have J:=h.zl;have p:=mL zs;unfold eo uY;rw [TC v1 j o v4];simp only [η,ύ,cond_false,show ((0:Int)<=0/\(0:Int)<aW [[(m:Int),(c:Int)],ss,es,db zs]) from ⟨by omega,by simp [aW]⟩,show ((0:Int)<=1/\(1:Int)<aW [[(m:Int),(c:Int)],ss,es,db zs]) from ⟨by omega,by simp [aW]⟩,
  show ((0:Int)<=2/\(2:Int)<aW [[(m:Int),(c:Int)],ss,es,db zs]) from ⟨by omega,by simp [aW]⟩,show ((0:Int)<=3/\(3:Int)<aW [[(m:Int),(c:Int)],ss,es,db zs]) from ⟨by omega,by simp [aW]⟩,aY,and_self,if_true,
  show ε [[(m:Int),(c:Int)],ss,es,db zs] (δ 0) []=[(m:Int),(c:Int)] from rfl,show ε [[(m:Int),(c:Int)],ss,es,db zs] (δ 1) []=ss from rfl,show ε [[(m:Int),(c:Int)],ss,es,db zs] (δ 2) []=es from rfl,show ε [[(m:Int),(c:Int)],ss,es,db zs] (δ 3) []=db zs from rfl,
  show (aW [(m:Int),(c:Int)] != 2)=false from rfl,Gj (xs:=db zs),decide_eq_true (show (db zs).length%4=0 by omega),
  show δ 1<[[(m:Int),(c:Int)],ss,es,db zs].length from by simp,show δ 2<[[(m:Int),(c:Int)],ss,es,db zs].length from by simp,show δ 3<[[(m:Int),(c:Int)],ss,es,db zs].length from by simp,
  show ((0:Int)<=0/\(0:Int)<aW [(m:Int),(c:Int)]) from ⟨by omega,by simp [aW]⟩,show ((0:Int)<=1/\(1:Int)<aW [(m:Int),(c:Int)]) from ⟨by omega,by simp [aW]⟩,
  E7 (f:=gC) p (show zs.length<=1000000 by omega) (λR r t I=>by unfold gC;exact Bq t I),Dg]
 unfold ft;simp only [show ε [(m:Int),(c:Int)] (δ 0) 0=(m:Int) from rfl,show ε [(m:Int),(c:Int)] (δ 1) 0=(c:Int) from rfl,h.valid,η,ύ,cond_false]
theorem Hu: ∀b∈uY m c zs ss es,44<=b.toNat:=Kg λx j b o=>by
 simp only [ϒ,ϲ,or_false] at j;rcases j with rfl|rfl|rfl|rfl<;>exact (oR o).1
end
section
variable {n c:Nat} {rs:List Q4}
def th (n c:Nat)(rs:List Q4):List UInt8:=jn [59] [tx [(n:Int),(c:Int)],tx (db rs)]
theorem qE.vals (h:qE n c rs):cJ [(n:Int),(c:Int)]=true/\cJ (db rs)=true:=by
 have o:=h.n2;have p:=h.c2;have t:=h.rl;have I:=mL rs;refine ⟨Bt (by omega) (by omega),jS (yq λr j=> ?_) (by omega)⟩;obtain ⟨a,b,d,e,f,g⟩:=h.rules r j;by_cases q:r.2.2.1<0;have:=f q;exact ⟨by omega,by omega,by omega,by omega⟩;have:=g (by omega);exact ⟨by omega,by omega,by omega,by omega⟩
theorem Di (h:qE n c rs):gT ((n:Int),(c:Int),rs)=some (th n c rs,true):=by
 obtain ⟨v1,v4⟩:=h.vals;have o:=h.rl;have p:=mL rs;unfold gT;simp only [h.valid,η,ύ,cond_false,Ho (show rs.length<=1048576 by omega)];rw [px (by simp) (λl j=>by
  simp only [ϒ,ϲ,or_false] at j;rcases j with rfl|rfl
  simp;omega)]
 simp only [aaT,v1,v4,acA,abw,cond_true,η];rfl
theorem Ki (h:qE n c rs):ep (th n c rs)=some (((n:Int),(c:Int),rs),true):=by
 obtain ⟨v1,v4⟩:=h.vals;have t:=h.rl;have j:=mL rs;unfold ep th;rw [NQ v1 v4];simp only [η,ύ,cond_false,show ((0:Int)<=0/\(0:Int)<aW [[(n:Int),(c:Int)],db rs]) from ⟨by omega,by simp [aW]⟩,show ((0:Int)<=1/\(1:Int)<aW [[(n:Int),(c:Int)],db rs]) from ⟨by omega,by simp [aW]⟩,
  aY,and_self,if_true,
  show ε [[(n:Int),(c:Int)],db rs] (δ 0) []=[(n:Int),(c:Int)] from rfl,show ε [[(n:Int),(c:Int)],db rs] (δ 1) []=db rs from rfl,
  show (aW [(n:Int),(c:Int)] != 2)=false from rfl,Gj (xs:=db rs),decide_eq_true (show (db rs).length%4=0 by omega),
  show δ 1<[[(n:Int),(c:Int)],db rs].length from by simp,
  show ((0:Int)<=0/\(0:Int)<aW [(n:Int),(c:Int)]) from ⟨by omega,by simp [aW]⟩,show ((0:Int)<=1/\(1:Int)<aW [(n:Int),(c:Int)]) from ⟨by omega,by simp [aW]⟩,
  E7 (f:=gD) j (show rs.length<=1000000 by omega) (λI o p r=>by unfold gD;exact Bq p r),Dg]
 unfold cY;simp only [show ε [(n:Int),(c:Int)] (δ 0) 0=(n:Int) from rfl,show ε [(n:Int),(c:Int)] (δ 1) 0=(c:Int) from rfl,h.valid,η,ύ,cond_false]
theorem Hv: ∀b∈th n c rs,44<=b.toNat:=Kg λx j b o=>by
 simp only [ϒ,ϲ,or_false] at j;rcases j with rfl|rfl<;>exact (oR o).1
theorem E9 (h:qE n c rs):(th n c rs).length<=3000:=by
 obtain ⟨v1,v4⟩:=h.vals;have:=uW (p:=[59]) (k:=1412) [tx [(n:Int),(c:Int)],tx (db rs)] λx j=>by
  simp only [ϒ,ϲ,or_false] at j;rcases j with rfl|rfl<;>apply yd<;>assumption
 unfold th;simp only [Ζ,Χ] at this;omega
end
section
variable {m c:Nat} {nx:List Int} {es:List Bool}
def fI (es:List Bool):List UInt8:=es.map λb=>bif b then 49 else 48
def dA (m c:Nat)(nx:List Int)(es:List Bool):List UInt8:=jn [59] [tx [(m:Int),(c:Int)],tx nx]++[59]++fI es
theorem di.facts (h:di m c nx es):1<=m/\m<=64/\1<=c/\c<=4/\nx.length=m*c/\es.length=m/\(∀i,i<m*c-> ∃t:Nat,nx.getD i 0=(t:Int)/\t<m)/\ ∀x∈nx,0<=x/\x<(m:Int):=by
 obtain ⟨m',o,h1,h2,p,r,I,J,R,T,j⟩:=qC h.ok;obtain rfl:m'=m:=by omega
 obtain rfl:o=c:=by omega
 refine ⟨p,r,I,J,R,T,j,λx U=> ?_⟩;obtain ⟨i,hi,rfl⟩:=aaL U;obtain ⟨t,e,ht⟩:=j i (by omega);rw [ς,Γ hi] at e;have e:nx[i]=(t:Int):=e;omega
theorem di.valid (h:di m c nx es):cr ((m:Int),(c:Int),nx,es)=some true:=by
 have:=h.nl;rw [sf (by omega),h.ok]
theorem di.vals (h:di m c nx es):cJ [(m:Int),(c:Int)]=true/\cJ nx=true:=by
 obtain ⟨p,r,t,I,J,R,T,j⟩:=h.facts;exact ⟨Bt (by omega) (by omega),jS (λx o=>by have:=j x o;omega) h.nl⟩
theorem yr {s l:Int}{acc:List UInt8}(h:es.length<=1048576)(p:acc.length<=1000000):rounds (eO (s,l,nx,es)) (acc,(0:Int))=some (acc++fI es):=by
 have:=nf (f:=eO (s,l,nx,es)) (λi (t:List UInt8)=>(t,((i:Nat):Int))) (λi t=>t++[bif es.getD i false then 49 else 48]) id (n:=es.length) (λi t=>t=acc++fI (es.take i)) (λi t j ht=>⟨by
  have r:t.length<=1000000+1048576:=by rw [ht,ω];unfold fI;rw [ϔ,ϙ];omega
  unfold eO;simp only [show decide ((i:Int)<aW es)=true from ki j,cond_true,guard_pos (eJ j),Β];cases es.getD i false with
  |true=>
   simp only [cond_true];rw [pU (by simp only [Ζ,Χ];omega),bO j (by omega)];rfl
  |false=>
   simp only [cond_false];rw [pU (by simp only [Ζ,Χ];omega),bO j (by omega)];rfl,by
  rw [ht,fq j false];unfold fI;rw [aaQ,ό];rfl⟩) (λt _=>by
  unfold eO;simp only [show decide (((es.length:Nat):Int)<aW es)=false from kC (φ _),cond_false];rfl) es.length 0 acc (by omega) (by simp [fI])
 rw [aam] at this;have o:=this.1;rw [this.2] at o;exact o
theorem zZ (h:di m c nx es):jC ((m:Int),(c:Int),nx,es)=some (dA m c nx es,true):=by
 obtain ⟨v1,v4⟩:=h.vals;obtain ⟨p,r,t,I,J,R,T,o⟩:=h.facts;have U:=h.nl;have t1:=yd v1;have t2:=yd v4;have j:(jn [59] [tx [(m:Int),(c:Int)],tx nx]).length<=3000:=by simp only [jn,ω,Ζ,Χ];omega
 unfold jC;simp only [h.valid,η,ύ,cond_false];rw [px (by simp) (λl j=>by
  simp only [ϒ,ϲ,or_false] at j;rcases j with rfl|rfl
  simp;omega)]
 simp only [aaT,v1,v4,acA,abw,cond_true,η,ύ,cond_false,ϱ,acw];rw [pU (by simp only [Ζ,Χ];omega),yr (by omega) (by simp only [ω,Ζ,Χ];omega)];rfl
theorem uZ: ∀b∈fI es,44<=b.toNat/\b.toNat≠59:=λb j=>by
 unfold fI at j;obtain ⟨e,_,rfl⟩:=ϟ.1 j;cases e<;>decide
theorem Fa: ∀b∈dA m c nx es,44<=b.toNat:=λb j=>by
 unfold dA at j;rcases Λ.1 j with j|j
 rcases Λ.1 j with j|j
 exact Kg (λx o b j=>by
  simp only [ϒ,ϲ,or_false] at o;rcases o with rfl|rfl<;>exact (oR j).1) b j
 simp only [ϊ] at j;subst j;decide;exact (uZ b j).1
theorem vG (h:di m c nx es):(dA m c nx es).length<=3000:=by
 obtain ⟨v1,v4⟩:=h.vals;obtain ⟨o,p,r,t,I,J,R,j⟩:=h.facts;have T:=yd v1;have U:=yd v4;unfold dA fI;simp only [jn,ω,Ζ,Χ,ϔ];omega
theorem Hw:((fI es).all λb=>(Bp b).2)=true/\((fI es).map λb=>(Bp b).1)=es:=by
 unfold fI;induction es with
 |nil=>exact ⟨rfl,rfl⟩
 |cons b es ih=>
  obtain ⟨j,o⟩:=ih;constructor;rw [ϱ,aaT,j];cases b<;>rfl;rw [ϱ,ϱ,o];cases b<;>rfl
theorem Hx (h:di m c nx es):fC (dA m c nx es)=some (((m:Int),(c:Int),nx,es),true):=by
 obtain ⟨v1,v4⟩:=h.vals;obtain ⟨h3,h4,h5,h6,h7,h8,h9,Uw⟩:=h.facts;have U:=vG h;have o:iR 59 (dA m c nx es)=[tx [(m:Int),(c:Int)],tx nx]++[fI es]:=by
  unfold dA;rw [ό,aeH,uo,tf (c:=59) (b:=fI es) λx t=>pW (uZ x t).2,yn (by simp) λx t b hb=>by
   simp only [ϒ,ϲ,or_false] at t;rcases t with rfl|rfl<;>exact pW (oR hb).2]
 have J:strings_LastIndexByte (dA m c nx es) 59=some (acC ⟨(dA m c nx es).toArray⟩ 59):=by
  unfold strings_LastIndexByte;rw [guard_pos (by omega)]
 have p:dA m c nx es=jn [59] [tx [(m:Int),(c:Int)],tx nx]++59::fI es:=by unfold dA;rw [ό];rfl
 rcases zT (dA m c nx es) with ⟨_,r⟩|⟨i,hi,h1,r⟩
 rw [o] at r;have:=congrArg ζ r;simp at this;rw [o] at r;obtain ⟨e1,I⟩:=List.append_inj' r rfl;injection I with I _;have R:(dA m c nx es).take i=jn [59] [tx [(m:Int),(c:Int)],tx nx]:=by
  have Vx:(fI es).length=(dA m c nx es).length - (i+1):=by rw [I,aab]
  have hpl:(dA m c nx es).length=(jn [59] [tx [(m:Int),(c:Int)],tx nx]).length+((fI es).length+1):=by rw [p];simp
  have:i=(jn [59] [tx [(m:Int),(c:Int)],tx nx]).length:=by omega
  rw [p,this,List.take_left]
 have T:cut (dA m c nx es) 0 (i:Int)=jn [59] [tx [(m:Int),(c:Int)],tx nx]:=by rw [<-R];unfold cut;simp
 have hw:bf .i64 (i:Int) 1=((i+1:Nat):Int):=bO hi (by omega);have j:cut (dA m c nx es) (bf .i64 (i:Int) 1) (aW (dA m c nx es))=fI es:=by
  rw [hw,I];unfold cut;simp only [aW,Β];rw [List.take_of_length_le];rw [aab];omega
 have qU:(fI es).length<=3000:=by unfold fI;rw [ϔ];omega
 obtain ⟨r1,r2⟩:=Hw (es:=es);have g1:δ 1<[[(m:Int),(c:Int)],nx].length:=by simp
 have g2:(0:Int)<=bf .i64 (i:Int) 1/\bf .i64 (i:Int) 1<=aW (dA m c nx es):=by rw [hw];simp only [aW];omega
 have g3:(cut (dA m c nx es) (bf .i64 (i:Int) 1) (aW (dA m c nx es))).length<=bl:=by rw [j];unfold bl;omega
 unfold fC;rw [J,η,h1,show decide ((i:Int)<0)=false by simp only [decide_eq_false_iff_not];omega,cond_false,guard_pos (show (0:Int)<=(i:Int)/\(i:Int)<=aW (dA m c nx es) from ⟨by omega,by simp only [aW];omega⟩),T,NQ v1 v4];simp only [η,ύ,cond_false,show ((0:Int)<=0/\(0:Int)<aW [[(m:Int),(c:Int)],nx]) from ⟨by omega,by simp [aW]⟩,show ((0:Int)<=1/\(1:Int)<aW [[(m:Int),(c:Int)],nx]) from ⟨by omega,by simp [aW]⟩,aY,and_self,if_true,
  show ε [[(m:Int),(c:Int)],nx] (δ 0) []=[(m:Int),(c:Int)] from rfl,show ε [[(m:Int),(c:Int)],nx] (δ 1) []=nx from rfl,show (aW [(m:Int),(c:Int)] != 2)=false from rfl,
  show ((0:Int)<=0/\(0:Int)<aW [(m:Int),(c:Int)]) from ⟨by omega,by simp [aW]⟩,show ((0:Int)<=1/\(1:Int)<aW [(m:Int),(c:Int)]) from ⟨by omega,by simp [aW]⟩,g1,g2,g3,
  zU j (show (fI es).length<=1048576 by omega),r1,r2,cond_true,show ε [(m:Int),(c:Int)] (δ 0) 0=(m:Int) from rfl,show ε [(m:Int),(c:Int)] (δ 1) 0=(c:Int) from rfl,h.valid]
end
end Go.Proofs
namespace Go.Proofs
open Go.Ide Go.IntWalk
theorem qN (x:Int):eX (Φ .i64 x):=by
 unfold eX;rw [IntKind.wrap_i64];omega
theorem Hy: ∀n:Fin 65,nG 1 ((n.val:Nat):Int)=some (0,((n.val:Nat):Int)):=by decide+kernel
theorem Kj {n:Nat}(h:n<=64):j9 (Φ .u64 (aW [(1099511627776:Int)])) (Φ .u64 ((n:Nat):Int))=some (0,(n:Int)):=by
 have j:Φ .u64 (aW [(1099511627776:Int)])=1:=rfl;have o:Φ .u64 ((n:Nat):Int)=(n:Int):=by
  unfold Φ;simp only [Ϗ,afK,agB,acd,if_false];omega
 unfold j9;rw [j,o,Hy ⟨n,by omega⟩];rfl
theorem yt {x:Int}{n:Nat}(t:1<=n)(J:n<=64):bW [x] (n:Int)=some (π n x):=by
 have j:(π n (0:Int)).length=n:=ϕ;obtain ⟨r,e,R⟩:=fy (f:=eh) (λd s=> ∃k:Nat,s.1=(k:Int)/\1<=k/\k<=n/\d=n - k/\s.2=π k x++π (n - k) 0) (λr=>r=π n x) (by
  rintro d ⟨T,o⟩ ⟨k,U,k1,k2,rfl,I⟩;obtain rfl:T=(k:Int):=U;have p:o=π k x++π (n - k) 0:=I;have hl:o.length=n:=by rw [p];simp;omega
  unfold eh;by_cases aa:k<n;have e1:Ϝ k o=π k x:=by rw [p];simp
  simp only [show decide ((k:Int)<aW o)=true by simp only [aW,decide_eq_true_eq];omega,cond_true,guard_pos (show (0:Int)<=(k:Int)/\(k:Int)<=aW o from ⟨by omega,by simp only [aW];omega⟩),agn,Β,e1,ϕ,show (aW o).toNat=n by simp only [aW];omega];obtain ⟨q,hq,q1,q2⟩: ∃q,aa0 k (n - k)=q/\q<=k/\q+k<=n/\1<=q:=⟨_,rfl,Nat.min_le_left _ _,by have:=Nat.min_le_right k (n - k);show min k (n - k)+k<=n;omega,by show 1<=min k (n - k);omega⟩;rw [hq,show bf .i64 (k:Int) ((q:Nat):Int)=((k+q:Nat):Int) from by rw [fM (by omega)];omega];refine .inl ⟨n - (k+q),(_,_),by omega,rfl,k+q,rfl,by omega,by omega,rfl,?_⟩;show π k x++Ϝ q (π k x)++aaW (k+q) o=_;rw [p,List.take_replicate,List.drop_append,ac6,ac6,ϕ,aav q1,List.replicate_append_replicate,show k - (k+q)=0 by omega,List.replicate_zero,List.nil_append,show n - k - (k+q - k)=n - (k+q) by omega];simp only [show decide ((k:Int)<aW o)=false by simp only [aW,decide_eq_false_iff_not];omega,cond_false];exact .inr ⟨_,rfl,by rw [p,show k=n by omega];simp⟩) (n - 1)
  ((((aa0 ([x]).length (π n (0:Int)).length:Nat)):Int),Ϝ 0 (π n (0:Int))++Ϝ (aa0 ([x]).length (π n (0:Int)).length) [x]++aaW (0+aa0 ([x]).length (π n (0:Int)).length) (π n (0:Int)))
  ⟨1,by
   show (((aa0 1 (π n (0:Int)).length:Nat)):Int)=_;rw [j,show aa0 1 n=1 from aav t],φ _,t,rfl,by
   show Ϝ 0 (π n (0:Int))++Ϝ (aa0 1 (π n (0:Int)).length) [x]++aaW (0+aa0 1 (π n (0:Int)).length) (π n (0:Int))=_;rw [j,show aa0 1 n=1 from aav t,ac6,Nat.zero_add];rfl⟩
 subst R;unfold bW;have hw:Φ .i64 ((n:Nat):Int)=(n:Int):=i64_in _ (by omega);have hb:j9 (Φ .u64 (aW [x])) (Φ .u64 ((n:Nat):Int))=some (0,(n:Int)):=Kj J;rw [show decide ((n:Int)<0)=false by simp only [decide_eq_false_iff_not];omega,cond_false,hb];simp only [η,show decide ((0:Int)>0)=false from rfl,cond_false,show decide ((n:Int)>9223372036854775807)=false by simp only [decide_eq_false_iff_not];omega,hw,Β];rw [guard_pos (by omega),e];rfl
theorem u5 {n:Nat}(j:1<=n)(o:n<=64): ∃r,bW [(1099511627776:Int)] (n:Int)=some r/\r.length=n:=⟨_,yt j o,ϕ⟩
theorem dN {α:Type}{xs:List α}(h:xs.length<=1000000):slices_Clone xs=some xs:=by
 unfold slices_Clone;rw [guard_pos (by unfold bl;omega)]
theorem qG {xs:List Int}(h:xs.length<=1000): ∃r,fb xs=some r/\r.length=xs.length:=by
 obtain ⟨r,e,p⟩:=eu (f:=iN xs) (λi s=>(((i:Nat):Int),s)) (λ_ s=>s.length=xs.length) (λr=>r.length=xs.length) (n:=xs.length) (λi s o j=>by
  unfold iN;simp only [show decide ((i:Int)<aW xs)=true from ki o,cond_true,guard_pos (show (0:Int)<=(i:Int)/\(i:Int)<aW s from ⟨by omega,by simp only [aW];omega⟩),bO o (show xs.length<=4294967296 by omega)];cases decide (ε s (δ (i:Int)) 0<0) with
  |true=>exact ⟨_,rfl,by rw [ϗ];exact j⟩
  |false=>exact ⟨_,rfl,j⟩) (λs j=>by
  unfold iN;simp only [show decide (((xs.length:Nat):Int)<aW xs)=false from kC (φ _),cond_false];exact ⟨_,rfl,j⟩) xs.length 0 xs (by omega) rfl
 refine ⟨r,?_,p⟩;unfold fb;rw [dN (by omega),η];have e:rounds (iN xs) ((0:Int),xs)=some r:=e;rw [e];rfl
section
variable {m c:Nat} {zs:List Q4} {ss es:List Int} (h:og m c zs ss es)
include h
theorem uq {cs:List Int}(t:cs.length=m): ∃r,mr ((m:Int),(c:Int),zs,ss,es) cs=some r/\r.length=m:=by
 have I:=h.zl;have J:=h.m2;have inner: ∀s:List Int,s.length=m-> ∃r,rounds (ka ((m:Int),(c:Int),zs,ss,es)) ((0:Int),s)=some r/\r.length=m:=λs j=>
  eu (f:=ka ((m:Int),(c:Int),zs,ss,es)) (λi s=>(((i:Nat):Int),s)) (λ_ s=>s.length=m) (λr=>r.length=m) (n:=zs.length) (λi s o j=>by
   obtain ⟨a,b,d,_⟩:=h.zi _ (bQ (d:=(0,0,0,0)) o);unfold ka;simp only [show decide ((i:Int)<aW zs)=true from ki o,cond_true,guard_pos (eJ o),Β,η,bO o (show zs.length<=4294967296 by omega)];cases decide ((zs.getD i (0,0,0,0)).2.2.1<0) with
   |true=>
    simp only [cond_true];rw [guard_pos (by simp only [aW];omega),guard_pos (by simp only [aW];omega)];exact ⟨_,rfl,by rw [ϗ];exact j⟩
   |false=>exact ⟨_,rfl,j⟩) (λs j=>by
   unfold ka;simp only [show decide (((zs.length:Nat):Int)<aW zs)=false from kC (φ _),cond_false];exact ⟨_,rfl,j⟩) zs.length 0 s (by omega) j
 obtain ⟨r,e,p⟩:=eu (f:=kd ((m:Int),(c:Int),zs,ss,es) cs) (λi s=>(((i:Nat):Int),s)) (λ_ s=>s.length=m) (λr=>r.length=m) (n:=cs.length) (λi s o j=>by
  obtain ⟨r,e,p⟩:=inner s j;unfold kd;simp only [show decide ((i:Int)<aW cs)=true from ki o,cond_true,e,η,bO o (show cs.length<=4294967296 by omega)];exact ⟨_,rfl,p⟩) (λs j=>by
  unfold kd;simp only [show decide (((cs.length:Nat):Int)<aW cs)=false from kC (φ _),cond_false];exact ⟨_,rfl,j⟩) cs.length 0 cs (by omega) t
 have e:rounds (kd ((m:Int),(c:Int),zs,ss,es) cs) ((0:Int),cs)=some r:=e;refine ⟨r,?_,p⟩;unfold mr;rw [e,η,guard_pos (by omega)]
theorem Gn {cs:List Int}(U:cs.length=m)(a:Int): ∃r,mz ((m:Int),(c:Int),zs,ss,es) cs a=some r/\r.length=m:=by
 have hz:=h.zl;have hm:=h.m2;obtain ⟨y,t,hy⟩:=u5 (n:=cs.length) (by have:=h.m1;omega) (by omega);obtain ⟨r,e,J⟩:=eu (f:=lR ((m:Int),(c:Int),zs,ss,es) cs a) (λi s=>(((i:Nat):Int),s)) (λ_ s=>s.length=m) (λr=>r.length=m) (n:=zs.length) (λi s j o=>by
  obtain ⟨p,q,_,_⟩:=h.zi _ (bQ (d:=(0,0,0,0)) j);unfold lR;simp only [show decide ((i:Int)<aW zs)=true from ki j,cond_true,guard_pos (eJ j),Β,η,bO j (show zs.length<=4294967296 by omega)];cases ((zs.getD i (0,0,0,0)).2.2.1==a) with
  |true=>
   simp only [cond_true];rw [guard_pos (by simp only [aW];omega),guard_pos (by simp only [aW];omega)];exact ⟨_,rfl,by rw [ϗ];exact o⟩
  |false=>exact ⟨_,rfl,o⟩) (λs o=>by
  unfold lR;simp only [show decide (((zs.length:Nat):Int)<aW zs)=false from kC (φ _),cond_false];exact ⟨_,rfl,o⟩) zs.length 0 y (by omega) (by omega)
 have e:rounds (lR ((m:Int),(c:Int),zs,ss,es) cs a) ((0:Int),y)=some r:=e;obtain ⟨R,T,I⟩:=uq h J;refine ⟨R,?_,I⟩;unfold mz;have t:bW [(1099511627776:Int)] (aW cs)=some y:=t;rw [t,η,e,η];simp only [T,η]
theorem Kk {w:List Int}(hw:w.length<=1000): ∃n,ph ((m:Int),(c:Int),zs,ss,es) w=some n/\eX n:=by
 have hm:=h.m2;have o:=h.sl;have he:=h.el;obtain ⟨U,e1,h1⟩:=qG (xs:=ss) (by omega);obtain ⟨R,e2,h2⟩:=uq h (cs:=U) (by omega);obtain ⟨j,t,h3⟩:=eu (f:=jD ((m:Int),(c:Int),zs,ss,es) w) (λi s=>(((i:Nat):Int),s)) (λ_ s=>s.length=m) (λr=>r.length=m) (n:=w.length) (λi s p o=>by
  obtain ⟨y,e,hy⟩:=Gn h o (w.getD i 0);unfold jD;simp only [show decide ((i:Int)<aW w)=true from ki p,cond_true,guard_pos (eJ p),Β,e,η,bO p (show w.length<=4294967296 by omega)];exact ⟨_,rfl,hy⟩) (λs o=>by
  unfold jD;simp only [show decide (((w.length:Nat):Int)<aW w)=false from kC (φ _),cond_false];exact ⟨_,rfl,o⟩) w.length 0 R (by omega) h2
 have t:rounds (jD ((m:Int),(c:Int),zs,ss,es) w) ((0:Int),R)=some j:=t;obtain ⟨I,e4,h4⟩:=qG (xs:=es) (by omega);obtain ⟨T,J,h5⟩:=eu (f:=ei j I) (λi (s:Int)=>(s,((i:Nat):Int))) (λ_ s=>eX s) (λr=>eX r) (n:=j.length) (λi s p o=>by
  unfold ei;simp only [show decide ((i:Int)<aW j)=true from ki p,cond_true,guard_pos (eJ p),guard_pos (show (0:Int)<=(i:Int)/\(i:Int)<aW I from ⟨by omega,by simp only [aW];omega⟩),bO p (show j.length<=4294967296 by omega)];exact ⟨_,rfl,by split;exact qN _;exact o⟩) (λs o=>by
  unfold ei;simp only [show decide (((j.length:Nat):Int)<aW j)=false from kC (φ _),cond_false];exact ⟨_,rfl,o⟩) j.length 0 1099511627776 (by omega) ⟨by decide,by decide⟩
 have J:rounds (ei j I) ((1099511627776:Int),(0:Int))=some T:=J;unfold ph eT ew;simp only [e1,e2,η,t,e4,J];cases decide (T>=1099511627776) with
 |true=>exact ⟨_,rfl,by decide,by decide⟩
 |false=>exact ⟨_,rfl,h5⟩
end
structure Dj (w:List Int):Prop where
 len:w.length<=12
 YJ: ∀x∈w,0<=x/\x<4
theorem Bu {w:List Int}{c:Nat}(o:w.length<=12)(p:1<=c)(c2:c<=4): ∃b,gn w (c:Int)=some b/\(b=true-> ∀x∈w,0<=x/\x<(c:Int)):=by
 refine ⟨_,xX (by omega),λe=> ?_⟩;rw [fN (by omega)] at e;simp only [κ] at e;intro x j;have:=hZ.1 e.2.2 x j;omega
theorem MN {m c:Nat}{zs:List Q4}{ss es w:List Int}(h:og m c zs ss es)(j:w.length<=12): ∃n b,nk ((m:Int),(c:Int),zs,ss,es) w=some (n,b)/\eX n:=by
 obtain ⟨n,e,o⟩:=Kk h (w:=w) (by omega);obtain ⟨b,p,_⟩:=Bu j h.c1 h.c2;unfold nk;simp only [h.valid,p,η,ύ,cond_false,e];cases b with
 |true=>exact ⟨n,true,rfl,o⟩
 |false=>exact ⟨0,false,rfl,by decide,by decide⟩
section
variable {m c:Nat} {nx:List Int} {es:List Bool} (h:di m c nx es)
include h
theorem di.plain:Plain m c nx es:=by
 obtain ⟨j,o,p,r,t,I,J,_⟩:=h.facts;exact ⟨j,o,p,r,t,I,J⟩
theorem Kl {s a:Nat}(j:s<m)(o:a<c): ∃t:Nat,cC ((m:Int),(c:Int),nx,es) (s:Int) (a:Int)=some (t:Int)/\t<m:=
 ⟨_,Ge h.plain j rfl o,J0 h.plain j rfl o⟩
theorem Qy {w:List Int}(I:w.length<=12): ∃b J,jE ((m:Int),(c:Int),nx,es) w=some (b,J):=by
 obtain ⟨h3,h4,R,T,h7,h8,h9,_⟩:=h.facts;obtain ⟨U,p,hb⟩:=Bu I R T;cases U with
 |false=>
  unfold jE;simp only [h.valid,p,η,ύ,cond_false,acQ,cond_true];exact ⟨_,_,rfl⟩
 |true=>
 have hv:=hb rfl;obtain ⟨r,e,q,hq,Nc⟩:=eu (f:=cO ((m:Int),(c:Int),nx,es) w) (λi (s:Nat)=>((s:Int),((i:Nat):Int))) (λ_ s=>s<m) (λr=> ∃q:Nat,r=(q:Int)/\q<m) (n:=w.length) (λi s j o=>by
  obtain ⟨v1,v2⟩:=hv _ (bQ (d:=0) j);obtain ⟨t,e,ht⟩:=Kl h o (show (w.getD i 0).toNat<c by omega);rw [aaj v1] at e;unfold cO;simp only [show decide ((i:Int)<aW w)=true from ki j,cond_true,guard_pos (eJ j),Β,e,η,bO j (show w.length<=4294967296 by omega)];exact ⟨t,rfl,ht⟩) (λs o=>by
  unfold cO;simp only [show decide (((w.length:Nat):Int)<aW w)=false from kC (φ _),cond_false];exact ⟨_,rfl,s,rfl,o⟩) w.length 0 0 (by omega) (by omega)
 have e:rounds (cO ((m:Int),(c:Int),nx,es) w) ((0:Int),(0:Int))=some r:=e;subst hq;unfold jE fu;simp only [h.valid,p,η,ύ,cond_false,e];rw [guard_pos (by simp only [aW];omega)];exact ⟨_,_,rfl⟩
theorem Km {k:Nat}(hk:k<=12): ∃n,fU ((m:Int),(c:Int),nx,es) (k:Int)=some (n,true)/\eX n:=by
 obtain ⟨h3,h4,h5,h6,h7,h8,h9,_⟩:=h.facts;have l2: ∀(o:Int×List Int) (i:Nat) (p:Int×List Int),p.1=(i:Int)->i<m-> ∀q:List Int,q.length=m-> ∃r,rounds (fE ((m:Int),(c:Int),nx,es) o p) ((0:Int),q)=some r/\r.length=m:=λo i p hp U q hq=>
  eu (f:=fE ((m:Int),(c:Int),nx,es) o p) (λi s=>(((i:Nat):Int),s)) (λ_ s=>s.length=m) (λr=>r.length=m) (n:=c) (λj s J I=>by
   obtain ⟨t,e,ht⟩:=Kl h U J;unfold fE;simp only [ki J,cond_true,hp,e,η,guard_pos (show (0:Int)<=(t:Int)/\(t:Int)<aW s from ⟨by omega,by simp only [aW];omega⟩),bO J (show c<=4294967296 by omega)];exact ⟨_,rfl,by rw [ϗ];exact I⟩) (λs I=>by
   unfold fE;simp only [kC (φ _),cond_false];exact ⟨_,rfl,I⟩) c 0 q (by omega) hq
 have l3: ∀(o:Int×List Int),o.2.length=m-> ∀q:List Int,q.length=m-> ∃r,rounds (fF ((m:Int),(c:Int),nx,es) o) ((0:Int),q)=some r/\r.length=m:=λo h8 q hq=>
  eu (f:=fF ((m:Int),(c:Int),nx,es) o) (λi s=>(((i:Nat):Int),s)) (λ_ s=>s.length=m) (λr=>r.length=m) (n:=o.2.length) (λj s J I=>by
   obtain ⟨r,e,hr⟩:=l2 o j ((j:Int),s) rfl (by omega) s I;unfold fF;simp only [show decide ((j:Int)<aW o.2)=true from ki J,cond_true,guard_pos (eJ J),e,η,bO J (show o.2.length<=4294967296 by omega)];exact ⟨_,rfl,hr⟩) (λs I=>by
   unfold fF;simp only [show decide (((o.2.length:Nat):Int)<aW o.2)=false from kC (φ _),cond_false];exact ⟨_,rfl,I⟩) o.2.length 0 q (by omega) hq
 have T:(π m (0:Int)).length=m:=ϕ;obtain ⟨R,e4,h4'⟩:=eu (f:=fG ((m:Int),(c:Int),nx,es) (k:Int)) (λi s=>(((i:Nat):Int),s)) (λ_ s=>s.length=m) (λr=>r.length=m) (n:=k) (λj s J I=>by
  obtain ⟨r,e,hr⟩:=l3 ((j:Int),s) I (π m 0) T;unfold fG;simp only [ki J,cond_true,Β,e,η,bO J (show k<=4294967296 by omega)];exact ⟨_,rfl,hr⟩) (λs I=>by
  unfold fG;simp only [kC (φ _),cond_false];exact ⟨_,rfl,I⟩) k 0 ((π m (0:Int)).set 0 1) (by omega) (by rw [ϗ];exact T)
 have e4:rounds (fG ((m:Int),(c:Int),nx,es) (k:Int)) ((0:Int),(π m (0:Int)).set (δ 0) 1)=some R:=e4;obtain ⟨r5,e5,h5r⟩:=eu (f:=fD ((m:Int),(c:Int),nx,es) R) (λi (s:Int)=>(s,((i:Nat):Int))) (λ_ s=>eX s) (λr=>eX r) (n:=R.length) (λi s U I=>by
  unfold fD;simp only [show decide ((i:Int)<aW R)=true from ki U,cond_true,guard_pos (eJ U),guard_pos (show (0:Int)<=(i:Int)/\(i:Int)<aW es from ⟨by omega,by simp only [aW];omega⟩),Β,bO U (show R.length<=4294967296 by omega)];cases es.getD i false with
  |true=>exact ⟨_,rfl,qN _⟩
  |false=>exact ⟨_,rfl,I⟩) (λs I=>by
  unfold fD;simp only [show decide (((R.length:Nat):Int)<aW R)=false from kC (φ _),cond_false];exact ⟨_,rfl,I⟩) R.length 0 0 (by omega) ⟨by decide,by decide⟩
 have e5:rounds (fD ((m:Int),(c:Int),nx,es) R) ((0:Int),(0:Int))=some r5:=e5;refine ⟨r5,?_,h5r⟩;unfold fU;simp only [h.valid,jF,η,ύ,cond_false,decide_eq_true (show (k:Int)>=0 by omega),decide_eq_true (show (k:Int)<=12 by omega),abw,Β];rw [guard_pos (by omega),guard_pos (by simp only [aW,T];omega),e4,η,e5];rfl
end
end Go.Proofs
namespace Go.Proofs
open Go.Ide Go.IntWalk
def ba {α:Type}(Q:α->Prop)(o:Option α):Prop:= ∃a,o=some a/\Q a
section
variable {α β σ ρ:Type} {Q:β->Prop}
theorem ba.some {P:α->Prop}{a:α}(h:P a):ba P (some a):=⟨a,rfl,h⟩
theorem ba.bind {P:α->Prop}{o:Option α}{k:α->Option β}(h:ba P o)(j: ∀a,P a->ba Q (k a)):ba Q (o.bind k):=by
 obtain ⟨a,rfl,p⟩:=h;exact j a p
theorem ba.guard {p:Prop}[Decidable p]{k:Option β}(hp:p)(h:ba Q k):ba Q (aY p k):=by rw [guard_pos hp];exact h
theorem ba.bif {b:Bool}{x y:Option β}(j:b=true->ba Q x)(o:b=false->ba Q y):ba Q (bif b then x else y):=by
 cases b with
 |true=>exact j rfl
 |false=>exact o rfl
theorem ba.rounds {f:σ->Option (σ⊕ρ)}(I:Nat->σ->Prop){R:ρ->Prop}(step: ∀n s,I n s->ba (λx=>(∃j o,j<n/\x=Sum.inl o/\I j o)\/ ∃r,x=Sum.inr r/\R r) (f s)){n:Nat}{s:σ}(h:I n s):ba R (rounds f s):=by
 obtain ⟨r,e,p⟩:=fy (f:=f) I R (λn s h=>by
  obtain ⟨x,e,t⟩:=step n s h;rcases t with ⟨j,o,J,rfl,T⟩|⟨r,rfl,p⟩
  exact .inl ⟨j,o,J,e,T⟩;exact .inr ⟨r,e,p⟩) n s h
 exact ⟨r,e,p⟩
end
theorem Kn {n c:Nat}{rs:List Q4}{w:List Int}(h:qE n c rs)(j:w.length<=12): ∃b,gU ((n:Int),(c:Int),rs) w=some b/\(b=true->1<=w.length):=by
 obtain ⟨b,o,_⟩:=Bu j h.c1 h.c2;unfold gU;simp only [h.valid,o,η,cond_true];cases b with
 |true=>exact ⟨_,rfl,λe=>by simp only [aW,decide_eq_true_eq] at e;omega⟩
 |false=>exact ⟨_,rfl,λe=>by cases e⟩
def LC (v:List (Int×Int×Int)):Prop:=v.length=1248/\ ∀x∈v,eX x.1
def LT (v:List Int):Prop:=v.length=1248/\ ∀x∈v,eX x
theorem LC.set {v:List (Int×Int×Int)}(h:LC v){i:Nat}{x:Int×Int×Int}(o:eX x.1):LC (v.set i x):=⟨by rw [ϗ];exact h.1,λy j=>by
 rcases aaO j with j|rfl
 exact h.2 y j;exact o⟩
theorem LT.set {v:List Int}(h:LT v){i:Nat}{x:Int}(o:eX x):LT (v.set i x):=⟨by rw [ϗ];exact h.1,λy j=>by
 rcases aaO j with j|rfl
 exact h.2 y j;exact o⟩
theorem LC.get {v:List (Int×Int×Int)}(h:LC v){i:Nat}:eX (v.getD i (0,0,0)).1:=by
 by_cases j:i<v.length;exact h.2 _ (bQ j);rw [ς,aac (by omega)];exact ⟨by decide,by decide⟩
theorem LT.get {v:List Int}(h:LT v){i:Nat}:eX (v.getD i 0):=by
 by_cases j:i<v.length;exact h.2 _ (bQ j);rw [ς,aac (by omega)];exact ⟨by decide,by decide⟩
def CS {α:Type}(j:Int)(N:List α->Prop)(d:Nat)(s:Int×List α):Prop:=0<=s.1/\s.1<=j/\d=(j - s.1).toNat/\N s.2
theorem CS.next {α:Type}{j t:Int}{N:List α->Prop}{d:Nat}{q v:List α}(r:j<=1000000)(h:CS j N d (t,q))(ht:t<j)(p:N v):CS j N (d - 1) (bf .i64 t 1,v)/\d - 1<d:=by
 obtain ⟨a,b,e,_⟩:=h;have a:0<=t:=a;have b:t<=j:=b;have e:d=(j - t).toNat:=e;have o:bf .i64 t 1=t+1:=fM (by omega);exact ⟨⟨by rw [o];show 0<=t+1;omega,by rw [o];show t+1<=j;omega,by rw [o];show d - 1=(j - (t+1)).toNat;omega,p⟩,by omega⟩
theorem CS.inl {α ρ:Type}{R:ρ->Prop}{j t:Int}{N:List α->Prop}{d:Nat}{q v:List α}(o:j<=1000000)(h:CS j N d (t,q))(ht:t<j)(p:N v):
 (∃I J,I<d/\(Sum.inl (bf .i64 t 1,v):(Int×List α)⊕ρ)=Sum.inl J/\CS j N I J)\/ ∃r,(Sum.inl (bf .i64 t 1,v):(Int×List α)⊕ρ)=Sum.inr r/\R r:=
 .inl ⟨d - 1,_,(h.next o ht p).2,rfl,(h.next o ht p).1⟩
section
variable {n c k:Nat} {rs:List Q4} {w:List Int} (h:qE n c rs)
include h
theorem oh {t:Int}(o:0<=t)(j:t<aW rs):rq n c (rs.getD t.toNat (0,0,0,0)):=h.rules _ (bQ (by simp only [aW] at j;omega))
theorem Fb {r:Q4}(j:rq n c r):0<=r.2.1/\r.2.1<8/\0<=r.1/\r.1<8/\r.2.2.1<8:=by
 obtain ⟨t,I,J,R,o,p⟩:=j;have:=h.n2;have:=h.c2;by_cases q:r.2.2.1<0;have:=o q;omega;have:=p (by omega);omega
theorem MO {p i R:Int}{x5 T x26 q:List (Int×Int×Int)}(hz:w.length=k)(hk:k<=12)(h1:1<=p)(U:0<=i)(h3:i+p<=(k:Int))(h4:i<=R)(h5:R<i+p)(hq:LC q):
 ba (LC) (rounds (gV ((n:Int),(c:Int),rs) w (p,x5) (i,T) (R,x26)) ((0:Int),q)):=by
 have TE:=h.rl;have hw:bf .i64 i p=i+p:=fM (by omega);refine ba.rounds (CS (aW rs) LC) (λd s hs=> ?_) (n:=rs.length) ⟨Ϭ _,by simp [aW],by simp [aW],hq⟩;obtain ⟨t,q⟩:=s;have aa:=hs;obtain ⟨I,b2,b3,o⟩:=hs;have I:0<=t:=I;have o:LC q:=o;have b4l:=o.1;unfold gV;refine ba.bif (λe=> ?_) (λ_=>ba.some (.inr ⟨_,rfl,o⟩));have e:t<aW rs:=of_decide_eq_true e;have g7:=(oh h I e).2.2.1;obtain ⟨g1,g2,g3,g4,g5⟩:=Fb h (oh h I e);simp only [hw];generalize rs.getD t.toNat (0,0,0,0)=r at*;refine ba.bind (P:=LC) (ba.guard ⟨I,e⟩ ?_) λv J=>ba.some (CS.inl (by simp only [aW];omega) aa e J);refine ba.bind (P:=LC) ?_ λv46 j=> ?_;refine ba.bind (P:=λ_=>True) ?_ λv74 _=> ?_;refine ba.bif (λ_=>ba.bif (λ_=>ba.bif (λ_=>ba.guard ⟨U,by simp only [aW];omega⟩ (ba.some trivial)) λ_=>ba.some trivial) λ_=>ba.some trivial) λ_=>ba.some trivial;refine ba.bif (λ_=>ba.bind (P:=LC) ?_ λv J=>ba.some J) λ_=>ba.some o;refine ba.guard ⟨U,by omega⟩ (ba.guard ⟨by omega,by omega⟩ (ba.guard ⟨g3,g4⟩ (ba.guard (by omega) (ba.bif (λ_=>ba.some (o.set ⟨by show _<=r.2.2.2;omega,by show r.2.2.2<=_;omega⟩)) λ_=>ba.some o))));have ab:=j.1;refine ba.bind (P:=λb=>b=true->0<=r.2.2.1) ?_ λv50 ad=> ?_;exact ba.bif (λe=>ba.some λ_=>of_decide_eq_true e) λ_=>ba.some λq=>by cases q
 refine ba.bif (λe=> ?_) λ_=>ba.some j;have g0:=ad e;refine ba.guard ⟨U,by omega⟩ (ba.guard ⟨by omega,by omega⟩ (ba.guard ⟨g1,g2⟩ (ba.guard (by omega) (ba.guard ⟨by omega,by omega⟩ (ba.guard ⟨by omega,by omega⟩ (ba.guard ⟨g0,g5⟩ (ba.guard (by omega) ?_)))))));refine ba.bind (P:=LC) (ba.bind (P:=eX) (ba.some (qN _)) λq66 ae=> ?_) λv J=>ba.some J;exact ba.guard ⟨g3,g4⟩ (ba.guard (by omega) (ba.bif (λ_=>ba.some (j.set ae)) λ_=>ba.some j))
theorem Fc (hz:w.length=k)(hk:k<=12):ba (LC) (gp ((n:Int),(c:Int),rs) w):=by
 have c2: ∀(j i:Int) (J I q:List (Int×Int×Int)),1<=j->0<=i->i+j<=(k:Int)->LC q->ba (LC) (rounds (gW ((n:Int),(c:Int),rs) w (j,J) (i,I)) (i,q)):=by
  intro j i J I q U h2 h3 hq;have hw:bf .i64 i j=i+j:=fM (by omega);refine ba.rounds (λd s=>CS (i+j) LC d s/\i<=s.1) (λd s o=> ?_) (n:=j.toNat) ⟨⟨h2,by show i<=i+j;omega,by show j.toNat=(i+j - i).toNat;omega,hq⟩,Ϭ _⟩;obtain ⟨t,q⟩:=s;obtain ⟨o,R⟩:=o;have R:i<=t:=R;have p:LC q:=o.2.2.2;have T:=p.1;unfold gW;simp only [hw];refine ba.bif (λe=> ?_) (λ_=>ba.some (.inr ⟨_,rfl,p⟩));have e:t<i+j:=of_decide_eq_true e;refine ba.bind (MO h hz hk U h2 h3 R e p) λv r=>ba.some (.inl ⟨d - 1,_,(o.next (by omega) e r).2,rfl,(o.next (by omega) e r).1,?_⟩);show i<=bf .i64 t 1;rw [fM (by omega)];omega
 have c3: ∀(j i:Int) (J I q:List (Int×Int×Int)),1<=j->0<=i->i+j<=(k:Int)->LC q->ba (LC) (rounds (gX (j,J) (i,I)) ((0:Int),q)):=by
  intro j i J I q U h2 h3 hq;have hw:bf .i64 i j=i+j:=fM (by omega);refine ba.rounds (CS 8 LC) (λd s o=> ?_) (n:=8) ⟨Ϭ _,by show (0:Int)<=8;decide,rfl,hq⟩;obtain ⟨t,q⟩:=s;have p:LC q:=o.2.2.2;have T:=p.1;have b1:0<=t:=o.1;unfold gX;simp only [hw];refine ba.bif (λe=> ?_) (λ_=>ba.some (.inr ⟨_,rfl,p⟩));have e:t<8:=of_decide_eq_true e;exact ba.guard ⟨h2,by omega⟩ (ba.guard ⟨by omega,by omega⟩ (ba.guard ⟨b1,by omega⟩ (ba.guard (by omega) (ba.some (CS.inl (by omega) o e (p.set ⟨by show (_:Int)<=1099511627776;omega,by show (1099511627776:Int)<=_;omega⟩))))))
 have c4: ∀(j:Int) (J q:List (Int×Int×Int)),1<=j->j<=(k:Int)->LC q->ba (LC) (rounds (gY ((n:Int),(c:Int),rs) w (j,J)) ((0:Int),q)):=by
  intro j J q U h3 hq;have hw:bf .i64 (bI .i64 (aW w) j) 1=(k:Int) - j+1:=by simp only [aW,hz];rw [fN (by omega),fM (by omega)]
  refine ba.rounds (CS ((k:Int) - j+1) LC) (λd s o=> ?_) (n:=((k:Int) - j+1).toNat) ⟨Ϭ _,by show 0<=(k:Int) - j+1;omega,by simp,hq⟩;obtain ⟨t,q⟩:=s;have p:LC q:=o.2.2.2;have T:=p.1;have b1:0<=t:=o.1;unfold gY;simp only [hw];refine ba.bif (λe=> ?_) (λ_=>ba.some (.inr ⟨_,rfl,p⟩));have e:t<(k:Int) - j+1:=of_decide_eq_true e;exact ba.bind (ba.bind (c3 j t J q q U b1 (by omega) p) λv r=>ba.bind (c2 j t J q v U b1 (by omega) r) λv r=>ba.some r) λv r=>ba.some (CS.inl (by omega) o e r)
 unfold gp;refine ba.bind (ba.bind (P:=LC) (ba.rounds (λd s=>CS ((k:Int)+1) LC d s/\1<=s.1) (λd s o=> ?_) (n:=k) ⟨⟨by decide,by show (1:Int)<=(k:Int)+1;omega,by show k=((k:Int)+1 - 1).toNat;omega,⟨ϕ,λx hx=>by rw [aby hx];exact ⟨by decide,by decide⟩⟩⟩,Ϭ _⟩) λv r=>ba.some r) λv r=>ba.some r;obtain ⟨t,q⟩:=s;obtain ⟨o,R⟩:=o;have R:1<=t:=R;have p:LC q:=o.2.2.2;have T:=p.1;unfold kW;simp only [aW,hz];refine ba.bif (λe=> ?_) (λ_=>ba.some (.inr ⟨_,rfl,p⟩));have e:t<=(k:Int):=of_decide_eq_true e;refine ba.bind (c4 t q q R e p) λv r=>ba.some (.inl ⟨d - 1,_,(o.next (by omega) (by omega) r).2,rfl,(o.next (by omega) (by omega) r).1,?_⟩);show 1<=bf .i64 t 1;rw [fM (by omega)];omega
theorem Ko (j:w.length<=12): ∃x b,gZ ((n:Int),(c:Int),rs) w=some (x,b)/\eX x:=by
 obtain ⟨b,o,r⟩:=Kn h j;cases b with
 |false=>
  unfold gZ;simp only [o,η,acQ,cond_true];exact ⟨_,_,rfl,by decide,by decide⟩
 |true=>
 have I:=r rfl;obtain ⟨v,e,p⟩:=Fc h (w:=w) rfl j;have t:=p.1;unfold gZ;simp only [o,η,ύ,cond_false,e,aW];rw [guard_pos (by omega),guard_pos (by omega),guard_pos (by omega),guard_pos (by omega)];cases decide ((ε v (0+104*δ 0+8*δ ((w.length:Nat):Int)+1*δ 0) (0,0,0)).1>=1099511627776) with
 |true=>exact ⟨_,_,rfl,by decide,by decide⟩
 |false=>exact ⟨_,_,rfl,p.get⟩
theorem Qz {j i p:Int}{x8 x15 x26:Bool×List Int}{q:List Int}(hk:k<=12)(h1:1<=j)(h2:0<=i)(h3:i+j<=(k:Int))(h4:0<=p)(h5:p<aW rs)(hq:LT q):
 ba (LT) (rounds (kG ((n:Int),(c:Int),rs) (j,x8) (i,x15) (p,x26)) (bf .i64 i 1,q)):=by
 have TE:=h.rl;have hw:bf .i64 i j=i+j:=fM (by omega);have J:bf .i64 i 1=i+1:=fM (by omega);obtain ⟨g1,g2,g3,g4,g5⟩:=Fb h (oh h h4 h5);rw [J];refine ba.rounds (λd s=>CS (i+j) LT d s/\i+1<=s.1) (λd s o=> ?_) (n:=(j - 1).toNat) ⟨⟨by show 0<=i+1;omega,by show i+1<=i+j;omega,by show (j - 1).toNat=(i+j - (i+1)).toNat;omega,hq⟩,Ϭ _⟩;obtain ⟨t,q⟩:=s;obtain ⟨o,T⟩:=o;have T:i+1<=t:=T;have I:LT q:=o.2.2.2;have b4l:=I.1;unfold kG;simp only [hw];generalize rs.getD p.toNat (0,0,0,0)=r at*;refine ba.bind (P:=λb=>b=true->t<i+j/\0<=r.2.2.1) (ba.bif (λe=>ba.some λR=>⟨of_decide_eq_true e,of_decide_eq_true R⟩) λ_=>ba.some λq=>by cases q) λv hv=> ?_;refine ba.bif (λe=> ?_) (λ_=>ba.some (.inr ⟨_,rfl,I⟩));obtain ⟨U,R⟩:=hv e;refine ba.guard (by omega) (ba.guard ⟨by omega,by omega⟩ (ba.guard ⟨g1,g2⟩ (ba.guard (by omega) (ba.guard ⟨by omega,by omega⟩ (ba.guard ⟨R,g5⟩ (ba.guard (by omega) (ba.some (.inl ⟨d - 1,_,(o.next (by omega) U I).2,rfl,(o.next (by omega) U (I.set (by split;exact qN _;exact ⟨by decide,by decide⟩))).1,?_⟩))))))));show i+1<=bf .i64 t 1;rw [fM (by omega)];omega
theorem Kp (U:w.length=k)(hk:k<=12): ∃x b,fT ((n:Int),(c:Int),rs) w=some (x,b)/\eX x:=by
 obtain ⟨b0,eb,hb⟩:=Kn h (w:=w) (by omega);cases b0 with
 |false=>
  unfold fT;simp only [eb,η,acQ,cond_true];exact ⟨_,_,rfl,by decide,by decide⟩
 |true=>
 have k1:=hb rfl;have TE:=h.rl;have c2: ∀(p i:Int) (x8 x15:Bool×List Int) (f:Bool) (q:List Int),1<=p->0<=i->i+p<=(k:Int)->LT q->ba (λr=>LT r.2) (rounds (kH ((n:Int),(c:Int),rs) w (p,x8) (i,x15)) ((0:Int),f,q)):=by
  intro p i x8 x15 f q h1 h2 h3 hq;have hw:bf .i64 i p=i+p:=fM (by omega);refine ba.rounds (λd s=>CS (aW rs) LT d (s.1,s.2.2)) (λd s j=> ?_) (n:=rs.length) ⟨Ϭ _,by simp [aW],by simp [aW],hq⟩;obtain ⟨t,f,q⟩:=s;have j:CS (aW rs) LT d (t,q):=j;have I:LT q:=j.2.2.2;have J:=I.1;have R:0<=t:=j.1;unfold kH;simp only [hw];refine ba.bif (λe=> ?_) (λ_=>ba.some (.inr ⟨_,rfl,I⟩));have e:t<aW rs:=of_decide_eq_true e;obtain ⟨g1,g2,g3,g4,g5⟩:=Fb h (oh h R e);have t1:=λv o=>Qz (x8:=x8) (x15:=x15) (x26:=(f,q)) (q:=v) h hk h1 h2 h3 R e o;generalize rs.getD t.toNat (0,0,0,0)=r at*;refine ba.bind (P:=λv=>LT v.2) (ba.guard ⟨R,e⟩ (ba.guard ⟨h2,by omega⟩ (ba.guard ⟨by omega,by omega⟩ (ba.guard ⟨g3,g4⟩ (ba.bind (P:=LT) ?_ λUv T=> ?_))))) λv o=>ba.some (.inl ⟨d - 1,_,(j.next (by simp only [aW];omega) e o).2,rfl,(j.next (by simp only [aW];omega) e o).1⟩);refine ba.bind (P:=λ_=>True) (ba.bif (λ_=>ba.bif (λ_=>ba.guard ⟨h2,by simp only [aW];omega⟩ (ba.some trivial)) λ_=>ba.some trivial) λ_=>ba.some trivial) λv _=> ?_;exact ba.bif (λ_=>ba.guard (by omega) (ba.some (I.set (qN _)))) λ_=>ba.some I;refine ba.bind (t1 Uv T) λv o=> ?_;have M6:=o.1;exact ba.bif (λ_=>ba.guard (by omega) (ba.some o)) λ_=>ba.some o
 have c3: ∀(p:Int) (x8:Bool×List Int) (f:Bool) (q:List Int),1<=p->p<=(k:Int)->LT q->ba (λr=>LT r.2) (rounds (kI ((n:Int),(c:Int),rs) w (p,x8)) ((0:Int),f,q)):=by
  intro p x8 f q h1 h3 hq;have hw:bf .i64 (bI .i64 (aW w) p) 1=(k:Int) - p+1:=by simp only [aW,U];rw [fN (by omega),fM (by omega)]
  refine ba.rounds (λd s=>CS ((k:Int) - p+1) LT d (s.1,s.2.2)) (λd s j=> ?_) (n:=((k:Int) - p+1).toNat) ⟨Ϭ _,by show 0<=(k:Int) - p+1;omega,by simp,hq⟩;obtain ⟨t,f,q⟩:=s;have j:CS ((k:Int) - p+1) LT d (t,q):=j;have I:LT q:=j.2.2.2;have J:=I.1;have R:0<=t:=j.1;unfold kI;simp only [hw];refine ba.bif (λe=> ?_) (λ_=>ba.some (.inr ⟨_,rfl,I⟩));have e:t<(k:Int) - p+1:=of_decide_eq_true e;exact ba.bind (P:=λv=>LT v.2) (ba.bind (c2 p t x8 (f,q) f q h1 R (by omega) I) λv o=>ba.some o) λv o=>ba.some (.inl ⟨d - 1,_,(j.next (by omega) e o).2,rfl,(j.next (by omega) e o).1⟩)
 obtain ⟨v,e,o⟩:ba (λr=>LT r.2) (rounds (kJ ((n:Int),(c:Int),rs) w) ((1:Int),true,π 1248 (0:Int))):=by
  refine ba.rounds (λd s=>CS ((k:Int)+1) LT d (s.1,s.2.2)/\1<=s.1) (λd s j=> ?_) (n:=k) ⟨⟨by decide,by show (1:Int)<=(k:Int)+1;omega,by show k=((k:Int)+1 - 1).toNat;omega,⟨ϕ,λx hx=>by rw [aby hx];exact ⟨by decide,by decide⟩⟩⟩,Ϭ _⟩;obtain ⟨t,f,q⟩:=s;obtain ⟨j,hi⟩:=j;have j:CS ((k:Int)+1) LT d (t,q):=j;have hi:1<=t:=hi;have I:LT q:=j.2.2.2;have J:=I.1;unfold kJ;simp only [aW,U];refine ba.bif (λe=> ?_) (λ_=>ba.some (.inr ⟨_,rfl,I⟩));have e:t<=(k:Int):=of_decide_eq_true e;refine ba.bind (c3 t (f,q) f q hi e I) λv o=>ba.some (.inl ⟨d - 1,_,(j.next (by omega) (by omega) o).2,rfl,(j.next (by omega) (by omega) o).1,?_⟩);show 1<=bf .i64 t 1;rw [fM (by omega)];omega
 obtain ⟨b,v⟩:=v;have o:LT v:=o;have M6:=o.1;unfold fT;simp only [eb,η,ύ,cond_false,e];cases b with
 |false=>exact ⟨0,false,rfl,by decide,by decide⟩
 |true=>
  simp only [ύ,cond_false,aW,U];rw [guard_pos (by omega),guard_pos (by omega),guard_pos (by omega),guard_pos (by omega)];exact ⟨_,true,rfl,o.get⟩
end
end Go.Proofs
