import Derived.Test.YtjnkhcgmgkhnaaaGreatDoorTopGenH
import Derived.Lib.SplitLaws
import Derived.Lib.ItoaLen
import Derived.Lib.CutLaws
import Derived.Lib.Join
import Derived.Lib.ParseIntBTie
set_option linter.unusedVariables false
set_option linter.unusedSimpArgs false
set_option linter.unusedSectionVars false
namespace Go.Proofs
open Go.Ide Go.IntWalk
theorem kt (a b c:Int):bj a b c=some (decide (a≥b)&&decide (a≤c)):=by
 unfold bj;cases h:decide (a≥b)<;>simp
def lG (xs:List Int)(b c:Int):Bool:=xs.all fun x=>decide (x≥b)&&decide (x≤c)
theorem q0 {xs:List Int}{b c:Int}:lG xs b c=true↔ ∀i,i<xs.length→b≤xs.getD i 0∧xs.getD i 0≤c:=by
 unfold lG;rw [List.all_eq_true];constructor;intro h i hi;have:=h xs[i] (List.getElem_mem hi);simp only [Bool.and_eq_true,decide_eq_true_eq] at this;rw [List.getD_eq_getElem?_getD,List.getElem?_eq_getElem hi];exact ⟨this.1,this.2⟩;intro h x hx;obtain ⟨i,hi,rfl⟩:=List.getElem_of_mem hx;have:=h i hi;rw [List.getD_eq_getElem?_getD,List.getElem?_eq_getElem hi] at this;simp only [Bool.and_eq_true,decide_eq_true_eq];exact ⟨this.1,this.2⟩
theorem Ga (xs:List Int)(b c:Int):vm (fun i=>decide (xs.getD i 0≥b)&&decide (xs.getD i 0≤c)) xs.length 0=lG xs b c:=by
 rw [Bool.eq_iff_iff,tn,q0];constructor;intro h i hi;have:=h i (by omega) (by omega);simp only [Bool.and_eq_true,decide_eq_true_eq] at this;exact ⟨this.1,this.2⟩;intro h i _ hi;have:=h i (by omega);simp only [Bool.and_eq_true,decide_eq_true_eq];exact ⟨this.1,this.2⟩
theorem nJ {xs:List Int}{b c:Int}(h:xs.length≤4294967296):dY xs b c=some (lG xs b c):=by
 unfold dY;have:=kV (f:=gO xs b c) (fun i=>((i:Nat):Int)) (fun i=>decide (xs.getD i 0≥b)&&decide (xs.getD i 0≤c)) (Sum.inl ()) (Sum.inr ()) (n:=xs.length) (fun i hi=>by
  unfold gO;simp only [qW hi,cond_true,guard_pos (kW hi),Int.toNat_natCast,kt,Option.bind_some,dh hi h];cases (decide (xs.getD i 0≥b)&&decide (xs.getD i 0≤c))<;>rfl) (by
  unfold gO;simp only [rq (Nat.le_refl _),cond_false]) xs.length 0 (by omega)
 rw [Ga] at this;simp only [Int.natCast_zero] at this;simp only [this,Option.bind_some];cases lG xs b c<;>rfl
theorem Kf {xs:List Int}{L:Int}(h:xs.length≤4294967296):e9 xs L=some ((decide (L≥1)&&decide (L≤4))&&(decide (ae xs≤12)&&lG xs 0 (a7 .i64 L 1))):=by
 unfold e9;rw [kt,nJ h];cases (decide (L≥1)&&decide (L≤4))<;>cases decide (ae xs≤12)<;>simp
def nK (s l:Int)(nx:List Int)(es:List Bool):Bool:=
 (decide (s≥1)&&decide (s≤64))&&((decide (l≥1)&&decide (l≤4))&&((ae nx==ij .i64 s l)&&((ae es==s)&&lG nx 0 (a7 .i64 s 1))))
theorem G8 {s l:Int}{nx:List Int}{es:List Bool}(h:nx.length≤4294967296):ca (s,l,nx,es)=some (nK s l nx es):=by
 unfold ca nK;simp only [kt,nJ h,Option.bind_some];cases (decide (s≥1)&&decide (s≤64))<;>cases (decide (l≥1)&&decide (l≤4))<;>cases (ae nx==ij .i64 s l)<;>cases (ae es==s)<;>cases lG nx 0 (a7 .i64 s 1)<;>rfl
theorem tK {s l:Int}{nx:List Int}{es:List Bool}(h:nK s l nx es=true): ∃m c:Nat,s=(m:Int)∧l=(c:Int)∧1≤m∧m≤64∧1≤c∧c≤4∧nx.length=m*c∧es.length=m∧ ∀i,i<m*c→ ∃t:Nat,nx.getD i 0=(t:Int)∧t<m:=by
 unfold nK at h;simp only [Bool.and_eq_true,decide_eq_true_eq,beq_iff_eq] at h;obtain ⟨⟨h1,h2⟩,⟨h3,h4⟩,h5,h6,h7⟩:=h;obtain ⟨m,rfl⟩: ∃n:Nat,s=(n:Int):=⟨s.toNat,by omega⟩;obtain ⟨c,rfl⟩: ∃n:Nat,l=(n:Int):=⟨l.toNat,by omega⟩;have Xr:m*c≤64*4:=Nat.mul_le_mul (by omega) (by omega);rw [wR (by rw [←Int.natCast_mul];omega),←Int.natCast_mul] at h5;have hl:nx.length=m*c:=by simp only [ae] at h5;omega
 refine ⟨m,c,rfl,rfl,by omega,by omega,by omega,by omega,hl,by simp only [ae] at h6;omega,fun i hi=> ?_⟩;have:=q0.1 h7 i (by omega);rw [nD (by omega)] at this;exact ⟨(nx.getD i 0).toNat,by omega,by omega⟩
structure Plain (m c:Nat)(nx:List Int)(es:List Bool):Prop where
 m1:1≤m
 m2:m≤64
 c1:1≤c
 c2:c≤4
 len:nx.length=m*c
 ends:es.length=m
 Yr: ∀i,i<m*c→ ∃t:Nat,nx.getD i 0=(t:Int)∧t<m
def US (c:Nat)(nx:List Int)(s:Nat)(a:Int):Nat:=(nx.getD (s*c+a.toNat) 0).toNat
theorem CH {m c s a:Nat}(hs:s<m)(ha:a<c):s*c+a<m*c:=by
 have:s*c+c≤m*c:=by
  rw [←Nat.succ_mul];exact Nat.mul_le_mul_right c hs
 omega
section
variable {m c:Nat} {nx:List Int} {es:List Bool} (hp:Plain m c nx es)
include hp
theorem Qw {s:Nat}{a:Int}{k:Nat}(hs:s<m)(ha:a=(k:Int))(hk:k<c):US c nx s a<m:=by
 subst ha;obtain ⟨t,h1,h2⟩:=hp.Yr (s*c+k) (CH hs hk);unfold US;rw [Int.toNat_natCast,h1];simpa using h2
theorem MP {s:Nat}{a:Int}{k:Nat}(hs:s<m)(ha:a=(k:Int))(hk:k<c):cH ((m:Int),(c:Int),nx,es) (s:Int) a=some ((US c nx s a:Nat):Int):=by
 subst ha;have h0:=CH hs hk;have Xr:m*c≤64*4:=Nat.mul_le_mul hp.m2 hp.c2;obtain ⟨t,h1,h2⟩:=hp.Yr (s*c+k) h0;have:=hp.m2;have:=hp.c2;have:=hp.len;have e:aj .i64 (ij .i64 (s:Int) (c:Int)) (k:Int)=((s*c+k:Nat):Int):=Ss (by omega) (by omega) (by omega);unfold cH US;simp only [e,Int.toNat_natCast,guard_pos (show (0:Int)≤((s*c+k:Nat):Int)∧((s*c+k:Nat):Int)<ae nx from by simp only [ae];omega),h1]
end
end Go.Proofs
namespace Go.Proofs
open Go.Ide Go.IntWalk
def CI (s l:Int)(r:Int×Int×Int×Int):Bool:=
 (decide (r.1≥0)&&decide (r.1≤a7 .i64 s 1))&&((decide (r.2.1≥0)&&decide (r.2.1≤a7 .i64 s 1))&&((decide (r.2.2.1≥ -1)&&decide (r.2.2.1≤a7 .i64 l 1))&&(decide (r.2.2.2≥0)&&decide (r.2.2.2≤1000))))
def EH (s l:Int)(zs:List (Int×Int×Int×Int)):Bool:=vm (fun i=>CI s l (zs.getD i (0,0,0,0))) zs.length 0
def ra (s l:Int)(zs:List (Int×Int×Int×Int))(ss es:List Int):Bool:=
 (decide (s≥1)&&decide (s≤16))&&((decide (l≥1)&&decide (l≤4))&&((!decide (ae zs>128))&&(EH s l zs&&((lG ss (-1) 1000&&(ae ss==s))&&(lG es (-1) 1000&&(ae es==s))))))
theorem CJ {s l:Int}{zs:List (Int×Int×Int×Int)}{ss es:List Int}(h:zs.length≤4294967296)(hs:ss.length≤4294967296)(he:es.length≤4294967296):
 bW (s,l,zs,ss,es)=some (ra s l zs ss es):=by
 unfold bW ra;simp only [kt,Option.bind_some];have:=kV (f:=eT (s,l,zs,ss,es)) (fun i=>((i:Nat):Int)) (fun i=>CI s l (zs.getD i (0,0,0,0))) (Sum.inl ()) (Sum.inr ()) (n:=zs.length) (fun i hi=>by
  unfold eT;simp only [qW hi,cond_true,guard_pos (kW hi),Int.toNat_natCast,kt,Option.bind_some,dh hi h,CI];generalize (decide ((zs.getD i (0,0,0,0)).1≥0)&&decide ((zs.getD i (0,0,0,0)).1≤a7 .i64 s 1))=A;generalize (decide ((zs.getD i (0,0,0,0)).2.1≥0)&&decide ((zs.getD i (0,0,0,0)).2.1≤a7 .i64 s 1))=B;generalize (decide ((zs.getD i (0,0,0,0)).2.2.1≥ -1)&&decide ((zs.getD i (0,0,0,0)).2.2.1≤a7 .i64 l 1))=C;generalize (decide ((zs.getD i (0,0,0,0)).2.2.2≥0)&&decide ((zs.getD i (0,0,0,0)).2.2.2≤1000))=D;cases A<;>cases B<;>cases C<;>cases D<;>rfl) (by
  unfold eT;simp only [rq (Nat.le_refl _),cond_false]) zs.length 0 (by omega)
 simp only [Int.natCast_zero] at this;rw [show vm (fun i=>CI s l (zs.getD i (0,0,0,0))) zs.length 0=EH s l zs from rfl] at this;simp only [this,nJ hs,nJ he,Option.bind_some];generalize (decide (s≥1)&&decide (s≤16))=A;generalize (decide (l≥1)&&decide (l≤4))=B;generalize decide (ae zs>128)=C;generalize EH s l zs=D;generalize lG ss (-1) 1000=E;generalize (ae ss==s)=E';generalize lG es (-1) 1000=F;generalize (ae es==s)=F';cases A<;>cases B<;>cases C<;>cases D<;>cases E<;>cases E'<;>cases F<;>cases F'<;>rfl
def xx (s l:Int)(r:Int×Int×Int×Int):Bool:=
 (decide (r.1≥0)&&decide (r.1≤a7 .i64 s 1))&&((decide (r.2.2.1≥ -1)&&decide (r.2.2.1≤a7 .i64 s 1))&&((decide (r.2.2.2≥0)&&decide (r.2.2.2≤1000))&&
  (decide (r.2.1≥0)&&decide (r.2.1≤bif decide (r.2.2.1<0) then a7 .i64 l 1 else a7 .i64 s 1))))
def AP (s l:Int)(rs:List (Int×Int×Int×Int)):Bool:=vm (fun i=>xx s l (rs.getD i (0,0,0,0))) rs.length 0
def rf (s l:Int)(rs:List (Int×Int×Int×Int)):Bool:=
 (decide (s≥1)&&decide (s≤8))&&((decide (l≥1)&&decide (l≤4))&&((!decide (ae rs>32))&&AP s l rs))
theorem CK {s l:Int}{rs:List (Int×Int×Int×Int)}(h:rs.length≤4294967296):bX (s,l,rs)=some (rf s l rs):=by
 unfold bX rf;simp only [kt,Option.bind_some];have:=kV (f:=eX (s,l,rs)) (fun i=>((i:Nat):Int)) (fun i=>xx s l (rs.getD i (0,0,0,0))) (Sum.inl ()) (Sum.inr ()) (n:=rs.length) (fun i hi=>by
  unfold eX;simp only [qW hi,cond_true,guard_pos (kW hi),Int.toNat_natCast,dh hi h,xx];obtain ⟨r,hr⟩: ∃r,rs.getD i (0,0,0,0)=r:=⟨_,rfl⟩;simp only [hr];have hb:(bif (r.2.2.1==(-1:Int)) then some (a7 .i64 l 1) else some (a7 .i64 s 1))=some (bif (r.2.2.1==(-1:Int)) then a7 .i64 l 1 else a7 .i64 s 1):=by cases (r.2.2.1==(-1:Int))<;>rfl
  simp only [hb,kt,Option.bind_some];by_cases hC:(decide (r.2.2.1≥ -1)&&decide (r.2.2.1≤a7 .i64 s 1))=true;have he:(r.2.2.1==(-1:Int))=decide (r.2.2.1<0):=by
   simp only [Bool.and_eq_true,decide_eq_true_eq] at hC;rw [Bool.eq_iff_iff];simp only [beq_iff_eq,decide_eq_true_eq];omega
  rw [he,hC];generalize (decide (r.1≥0)&&decide (r.1≤a7 .i64 s 1))=A;generalize (decide (r.2.2.2≥0)&&decide (r.2.2.2≤1000))=D;generalize (decide (r.2.1≥0)&&decide (r.2.1≤bif decide (r.2.2.1<0) then a7 .i64 l 1 else a7 .i64 s 1))=E;cases A<;>cases D<;>cases E<;>rfl;rw [Bool.not_eq_true] at hC;rw [hC];generalize (decide (r.1≥0)&&decide (r.1≤a7 .i64 s 1))=A;generalize (decide (r.2.2.2≥0)&&decide (r.2.2.2≤1000))=D;generalize (decide (r.2.1≥0)&&decide (r.2.1≤bif (r.2.2.1==(-1:Int)) then a7 .i64 l 1 else a7 .i64 s 1))=E;cases A<;>cases D<;>cases E<;>rfl) (by
  unfold eX;simp only [rq (Nat.le_refl _),cond_false]) rs.length 0 (by omega)
 simp only [Int.natCast_zero] at this;rw [show vm (fun i=>xx s l (rs.getD i (0,0,0,0))) rs.length 0=AP s l rs from rfl] at this;simp only [this,Option.bind_some];generalize (decide (s≥1)&&decide (s≤8))=A;generalize (decide (l≥1)&&decide (l≤4))=B;generalize decide (ae rs>32)=C;generalize AP s l rs=D;cases A<;>cases B<;>cases C<;>cases D<;>rfl
end Go.Proofs
namespace Go.Proofs
open Go.Ide Go.IntWalk
def Rm (p:List UInt8):List (List UInt8)→List (List UInt8)
 |[]=>[p]
 |h::t=>(p++h)::t
def gz (c:UInt8):List UInt8→List (List UInt8)
 |[]=>[[]]
 |b::l=>if b=c then []::gz c l else Rm [b] (gz c l)
theorem Qx (p:List UInt8)(l:List (List UInt8)):Rm p l≠[]:=by cases l<;>simp [Rm]
theorem EI (c:UInt8)(s:List UInt8):gz c s≠[]:=by
 cases s with
 |nil=>simp [gz]
 |cons b l=>
  unfold gz;split;simp;exact Qx _ _
theorem EJ {p:List UInt8}{l:List (List UInt8)}(h:l≠[]):(Rm p l).length=l.length:=by
 cases l with
 |nil=>exact absurd rfl h
 |cons=>rfl
theorem pA (c:UInt8): ∀s:List UInt8,(gz c s).length=s.count c+1
 |[]=>rfl
 |b::l=>by
  unfold gz;split;rename_i e;subst e;simp [pA b l];rename_i e;rw [EJ (EI _ _),pA c l,List.count_cons_of_ne (by simpa using e)]
theorem oL (c:UInt8): ∀s:List UInt8,Lib.split s [c]=gz c s
 |[]=>by
  have e:Lib.index [] [c]= -1:=by simp [Lib.index]
  unfold Lib.split;rw [Lib.count_miss e];rfl
 |b::l=>by
  have ih:=oL c l;unfold Lib.split at ih⊢;unfold gz;by_cases e:b=c;subst e;rw [if_pos rfl,Lib.count_cons_eq,Nat.add_comm,Lib.splitK,←ih];have UT:Lib.index (b::l) [b]=((0:Nat):Int):=by rw [Lib.index];simp [List.isPrefixOf]
  rw [UT];simp;rw [if_neg e,Lib.count_cons_ne b c l e,←ih];cases hk:Lib.count l [c] with
  |zero=>simp [Lib.splitK,Rm]
  |succ k=>
   have hp:([c]:List UInt8).isPrefixOf (b::l)=false:=by simp [List.isPrefixOf,Ne.symm e]
   have UT:Lib.index (b::l) [c]=if Lib.index l [c]== -1 then -1 else Lib.index l [c]+1:=by rw [Lib.index,hp];simp
   have cX:Lib.index l [c]≠ -1:=fun q=>by rw [Lib.count_miss q] at hk;cases hk
   have pL:=Lib.index_ge l [c];obtain ⟨j,hj⟩: ∃j:Nat,Lib.index l [c]=j:=⟨(Lib.index l [c]).toNat,by omega⟩;have I5:(((j:Nat):Int)== -1)=false:=by rw [beq_eq_false_iff_ne];omega
   have By:((((j:Nat):Int)+1)== -1)=false:=by rw [beq_eq_false_iff_ne];omega
   unfold Lib.splitK;rw [UT,hj];simp only [I5,By,Bool.false_eq_true,if_false];have e1:(((j:Nat):Int)+1).toNat=j+1:=by omega
   rw [e1,Int.toNat_natCast];simp [Rm]
end Go.Proofs
namespace Go.Proofs
open Go.Ide Go.IntWalk
end Go.Proofs
namespace Go.Proofs
open Go.Ide Go.IntWalk
theorem MQ (c:UInt8)(a:List UInt8):1≤(gz c a).length:=by
 rw [pA];omega
theorem EK (c:UInt8)(a:List UInt8):(gz c a).length≤a.length+1:=by
 rw [pA];have:=List.count_le_length (a:=c) (l:=a);omega
theorem T6 {l:List (List UInt8)}(h:1≤l.length)(h2:l.length≤1048577):a7 .i64 (ae l) 1=((l.length - 1:Nat):Int):=by
 rw [nD (by simp only [ae];omega)];simp only [ae];omega
def EL (a:List UInt8):List (List UInt8):=(gz 10 a).take ((gz 10 a).length - 1)
def Kg (a:List UInt8):List UInt8:=(gz 10 a).getD ((gz 10 a).length - 1) []
theorem EM {a:List UInt8}(h:a.length≤1048576):iP a=some (EL a,decide (ae a≤16000)&&(Kg a==[])):=by
 have h1:=MQ 10 a;have h2:=EK 10 a;have hs:strings_Split a [10]=some (gz 10 a):=by
  unfold strings_Split;rw [guard_pos (show _∧_ from ⟨by omega,by simp⟩),oL]
 unfold iP;rw [hs,Option.bind_some];simp only [T6 h1 (show (gz 10 a).length≤1048577 by omega)];rw [guard_pos (show _∧_ from ⟨by omega,by simp only [ae];omega⟩),guard_pos (show _∧_ from ⟨by omega,by simp only [ae];omega⟩),Int.toNat_natCast];cases decide (ae a≤16000)<;>rfl
end Go.Proofs
namespace Go.Proofs
open Go.Ide Go.IntWalk
theorem nc {n:Int}(h: -9223372036854775808≤n∧n≤9223372036854775807):di n=some (Lib.itoa n):=by
 unfold di kd;rw [guard_pos (show _∧_∧_ from ⟨rfl,h.1,h.2⟩)];rfl
end Go.Proofs
namespace Go.Proofs
open Go.Ide Go.IntWalk
end Go.Proofs
namespace Go.Proofs
open Go.Ide Go.IntWalk
def jn (p:List UInt8):List (List UInt8)→List UInt8
 |[]=>[]
 |x::[]=>x
 |x::y::r=>x++p++jn p (y::r)
theorem AQ (p:List UInt8): ∀l:List (List UInt8),Lib.join l p=jn p l
 |[]=>rfl
 |[x]=>by simp [Lib.join,jn,List.intercalate]
 |x::y::r=>by
  have ih:=AQ p (y::r);unfold Lib.join List.intercalate at ih;unfold Lib.join List.intercalate jn;rw [←ih];simp [List.intersperse]
theorem sy {p:List UInt8}{k:Nat}: ∀l:List (List UInt8),(∀x∈l,x.length≤k)→(jn p l).length≤l.length*(k+p.length)
 |[],_=>by simp [jn]
 |[x],h=>by
  have:=h x (by simp);simp [jn];omega
 |x::y::r,h=>by
  have ih:=sy (p:=p) (y::r) fun z hz=>h z (List.mem_cons_of_mem _ hz);have:=h x (by simp);simp only [jn,List.length_append];rw [List.length_cons,Nat.succ_mul];omega
def gX (n:Int):Prop:= -9223372036854775808≤n∧n≤9223372036854775807
def tx (xs:List Int):List UInt8:=if xs=[] then [110,111,110,101] else jn [44] (xs.map Lib.itoa)
theorem lX {n:Int}(h:gX n):(Lib.itoa n).length≤21:=Lib.itoa_length_le n h.1 h.2
theorem Gb {xs:List Int}(h: ∀x∈xs,gX x):(jn [44] (xs.map Lib.itoa)).length≤xs.length*22:=by
 have:=sy (p:=[44]) (k:=21) (xs.map Lib.itoa) fun x hx=>by
  obtain ⟨n,hn,rfl⟩:=List.mem_map.1 hx;exact lX (h n hn)
 simpa using this
theorem Kh {xs:List Int}(h: ∀x∈xs,gX x):(tx xs).length≤xs.length*22+4:=by
 unfold tx;split;simp;have:=Gb h;omega
theorem Ki {xs:List Int}{i:Nat}(h:i<xs.length):xs.getD i 0∈xs:=by
 rw [List.getD_eq_getElem?_getD,List.getElem?_eq_getElem h];exact List.getElem_mem h
def bL (xs:List Int):Bool:=lG xs (-1000000000000000) 1000000000000000&&decide (ae xs≤64)
theorem Kj {xs:List Int}(h:xs.length≤4294967296):kb xs=some (bL xs):=by
 unfold kb bL;have:=kV (f:=gP xs) (fun i=>((i:Nat):Int)) (fun i=>decide (xs.getD i 0≥ -1000000000000000)&&decide (xs.getD i 0≤1000000000000000)) (Sum.inl ()) (Sum.inr ()) (n:=xs.length) (fun i hi=>by
  unfold gP po;simp only [qW hi,cond_true,guard_pos (kW hi),Int.toNat_natCast,kt,Option.bind_some,dh hi h];cases (decide (xs.getD i 0≥ -1000000000000000)&&decide (xs.getD i 0≤1000000000000000))<;>rfl) (by
  unfold gP;simp only [rq (Nat.le_refl _),cond_false]) xs.length 0 (by omega)
 rw [Ga] at this;simp only [Int.natCast_zero] at this;simp only [this,Option.bind_some];cases lG xs (-1000000000000000) 1000000000000000<;>simp
theorem mE {xs:List Int}{b c:Int}:lG xs b c=true↔ ∀x∈xs,b≤x∧x≤c:=by
 unfold lG;rw [List.all_eq_true];simp only [Bool.and_eq_true,decide_eq_true_eq]
theorem lH {xs:List Int}(h:bL xs=true):(∀x∈xs,gX x)∧xs.length≤64:=by
 unfold bL at h;simp only [Bool.and_eq_true,decide_eq_true_eq,ae] at h;exact ⟨fun x hx=>by
  have:=mE.1 h.1 x hx;unfold gX;omega,by omega⟩
theorem G9 {xs:List Int}(h:xs.length≤1048576)(hv: ∀x∈xs,gX x):ly xs=some (tx xs):=by
 have hl:=Gb hv;have:=lE (f:=iO xs) (fun i (s:List (List UInt8))=>(((i:Nat):Int),s)) (fun i s=>s++[Lib.itoa (xs.getD i 0)]) id (n:=xs.length) (fun i s=>s=(xs.take i).map Lib.itoa) (fun i s hi hs=>⟨by
  have Fb:s.length≤i:=by rw [hs,List.length_map,List.length_take];omega
  unfold iO;simp only [show decide ((i:Int)<ae xs)=true from qW hi,cond_true,guard_pos (kW hi),Int.toNat_natCast,nc (hv _ (Ki hi)),Option.bind_some];rw [guard_pos (by simp only [List.length_cons,List.length_nil];unfold av;omega),dh hi (by omega)],by
  rw [hs,jP hi 0,List.map_append];rfl⟩) (fun s _=>by
  unfold iO;simp only [show decide (((xs.length:Nat):Int)<ae xs)=false from rq (Nat.le_refl _),cond_false];rfl) xs.length 0 [] (by omega) (by simp)
 obtain ⟨h1,h2⟩:=this;rw [List.take_length] at h2;simp only [Int.natCast_zero,id,h2] at h1;unfold ly;rw [h1,Option.bind_some];unfold qm tx;by_cases e:xs=[];subst e;rfl;have hp:=List.length_pos_iff.2 e;rw [if_neg e,show (ae (xs.map Lib.itoa)==0)=false by rw [beq_eq_false_iff_ne];simp only [ae,List.length_map];omega,cond_false];unfold strings_Join;rw [AQ,guard_pos (show _∧_ from ⟨by rw [List.length_map];omega,by omega⟩)];rfl
theorem kx {xs:List Int}(h:xs.length≤1048576):cw xs=some (bif bL xs then (tx xs,true) else ([],false)):=by
 unfold cw;rw [Kj (by omega),Option.bind_some];cases e:bL xs with
 |false=>rfl
 |true=>
  rw [G9 h (lH e).1];rfl
theorem nZ {ls:List (List Int)}(h:ls.length≤1000)(hl: ∀l∈ls,l.length≤1048576):fC ls=some (bif ls.all bL then (jn [59] (ls.map tx),true) else ([],false)):=by
 obtain ⟨r,h1,h2⟩: ∃r,rounds (dA ls) ((0:Int),([]:List (List UInt8)))=some r∧r=bif ls.all bL then .inl (ls.map tx) else .inr ():=by
  refine dX (f:=dA ls) (fun (n:Nat) (s:Int×List (List UInt8))=> ∃i:Nat,s=((i:Int),(ls.take i).map tx)∧i≤ls.length∧n=ls.length - i∧(ls.take i).all bL=true) (fun r=>r=bif ls.all bL then .inl (ls.map tx) else .inr ()) (fun n s hR=> ?_) ls.length _ ⟨0,by simp,Nat.zero_le _,rfl,by simp⟩;obtain ⟨i,rfl,k1,rfl,k3⟩:=hR;by_cases hi:i<ls.length;have hm:ls.getD i []∈ls:=by
   rw [List.getD_eq_getElem?_getD,List.getElem?_eq_getElem hi];exact List.getElem_mem hi
  cases e:bL (ls.getD i []) with
  |true=>
   left;refine ⟨ls.length - (i+1),(((i+1:Nat):Int),(ls.take (i+1)).map tx),by omega,?_,i+1,rfl,hi,rfl,by rw [jP hi [],List.all_append,k3,List.all_cons,e];rfl⟩;unfold dA;simp only [show decide ((i:Int)<ae ls)=true from qW hi,cond_true,guard_pos (kW hi),Int.toNat_natCast,kx (hl _ hm),e,Option.bind_some,Bool.not_true,cond_false];rw [guard_pos (by simp only [List.length_map,List.length_take,List.length_cons,List.length_nil];unfold av;omega),dh hi (by omega),jP hi [],List.map_append];rfl
  |false=>
   right;refine ⟨.inr (),?_,?_⟩;unfold dA;simp only [show decide ((i:Int)<ae ls)=true from qW hi,cond_true,guard_pos (kW hi),Int.toNat_natCast,kx (hl _ hm),e,Option.bind_some,Bool.not_false,cond_true,cond_false];have:ls.all bL=false:=by
    rw [Bool.eq_false_iff];intro q;rw [List.all_eq_true] at q;rw [q _ hm] at e;cases e
   rw [this];rfl
  right;have:i=ls.length:=by omega
  subst this;rw [List.take_length] at k3⊢;refine ⟨.inl (ls.map tx),?_,by rw [k3];rfl⟩;unfold dA;simp only [show decide (((ls.length:Nat):Int)<ae ls)=false from rq (Nat.le_refl _),cond_false]
 unfold fC;rw [h1,h2];cases e:ls.all bL with
 |false=>rfl
 |true=>
  simp only [cond_true,Option.bind_some];have hj:(jn [59] (ls.map tx)).length≤(ls.map tx).length*(1412+1):=sy (p:=[59]) (ls.map tx) fun x hx=>by
   obtain ⟨l,dB,rfl⟩:=List.mem_map.1 hx;obtain ⟨q1,q2⟩:=lH (List.all_eq_true.1 e l dB);have:=Kh q1;omega
  rw [List.length_map] at hj;unfold strings_Join;rw [AQ,guard_pos (show _∧_ from ⟨by rw [List.length_map];omega,by omega⟩)];rfl
end Go.Proofs
namespace Go.Proofs
open Go.Ide Go.IntWalk
abbrev Q4:=Int×Int×Int×Int
def cq (zs:List Q4):List Int:=zs.flatMap fun r=>[r.1,r.2.1,r.2.2.1,r.2.2.2]
theorem lj (zs:List Q4):(cq zs).length=4*zs.length:=by
 unfold cq;induction zs with
 |nil=>rfl
 |cons r zs ih=>rw [List.flatMap_cons,List.length_append,ih,List.length_cons];simp;omega
theorem EN (zs:List Q4)(r:Q4):cq (zs++[r])=cq zs++[r.1,r.2.1,r.2.2.1,r.2.2.2]:=by
 unfold cq;rw [List.flatMap_append];simp
theorem NS {f:Int×List Int→Option ((Int×List Int)⊕List Int)}{zs:List Q4}(h:zs.length≤1048576)(jq: ∀(i:Nat) (s:List Int),i<zs.length→s.length≤4*i→f ((i:Int),s)=some (.inl (((i+1:Nat):Int),s++[(zs.getD i (0,0,0,0)).1,(zs.getD i (0,0,0,0)).2.1,(zs.getD i (0,0,0,0)).2.2.1,(zs.getD i (0,0,0,0)).2.2.2])))(kU: ∀s:List Int,f (((zs.length:Nat):Int),s)=some (.inr s)):rounds f ((0:Int),([]:List Int))=some (cq zs):=by
 have:=lE (f:=f) (fun i (s:List Int)=>(((i:Nat):Int),s)) (fun i s=>s++[(zs.getD i (0,0,0,0)).1,(zs.getD i (0,0,0,0)).2.1,(zs.getD i (0,0,0,0)).2.2.1,(zs.getD i (0,0,0,0)).2.2.2]) id (n:=zs.length)
  (fun i s=>s=cq (zs.take i)) (fun i s hi hs=>⟨jq i s hi (by rw [hs,lj,List.length_take];omega),by rw [hs,jP hi (0,0,0,0),EN]⟩) (fun s _=>kU s) zs.length 0 [] (by omega) (by simp [cq])
 obtain ⟨h1,h2⟩:=this;rw [List.take_length] at h2;simp only [Int.natCast_zero,id,h2] at h1;exact h1
theorem Kk {s l:Int}{zs:List Q4}{ss es:List Int}(h:zs.length≤1048576):rounds (fu (s,l,zs,ss,es)) ((0:Int),([]:List Int))=some (cq zs):=
 NS h (fun i s hi hs=>by
  unfold fu;simp only [show decide ((i:Int)<ae zs)=true from qW hi,cond_true,guard_pos (kW hi),Int.toNat_natCast,Option.bind_some];rw [guard_pos (by simp only [List.length_cons,List.length_nil];unfold av;omega),dh hi (by omega)]) (fun s=>by
  unfold fu;simp only [show decide (((zs.length:Nat):Int)<ae zs)=false from rq (Nat.le_refl _),cond_false])
theorem Ha {s l:Int}{zs:List Q4}(h:zs.length≤1048576):rounds (fw (s,l,zs)) ((0:Int),([]:List Int))=some (cq zs):=
 NS h (fun i s hi hs=>by
  unfold fw;simp only [show decide ((i:Int)<ae zs)=true from qW hi,cond_true,guard_pos (kW hi),Int.toNat_natCast];rw [guard_pos (by simp only [List.length_cons,List.length_nil];unfold av;omega),dh hi (by omega)]) (fun s=>by
  unfold fw;simp only [show decide (((zs.length:Nat):Int)<ae zs)=false from rq (Nat.le_refl _),cond_false])
theorem Qy {s l:Int}(hs: -1000000000000000≤s∧s≤1000000000000000)(hl: -1000000000000000≤l∧l≤1000000000000000):bL [s,l]=true:=by
 unfold bL;rw [Bool.and_eq_true,mE];refine ⟨fun x hx=> ?_,by simp [ae]⟩;simp only [List.mem_cons,List.not_mem_nil,or_false] at hx;rcases hx with rfl|rfl<;>omega
theorem oM {β:Type}{a b:List UInt8}{k:Option β}(h:a.length+b.length≤1000000000):ai (List.length a+List.length b≤av) k=k:=
 guard_pos (by unfold av;omega)
theorem vu {xs:List Int}(h:bL xs=true):(tx xs).length≤1412:=by
 obtain ⟨q1,q2⟩:=lH h;have:=Kh q1;omega
end Go.Proofs
namespace Go.Proofs
open Go.Ide Go.IntWalk
def CL (n:Int)(b:UInt8):Int:=if 48≤b.toNat∧b.toNat≤57 then 10*n+((b.toNat:Int) - 48) else n
def CM (n:Int)(s:List UInt8):Int:=s.foldl CL n
theorem Hb (n:Int)(a b:List UInt8):CM n (a++b)=CM (CM n a) b:=by
 unfold CM;rw [List.foldl_append]
theorem Rn: ∀u:Nat,CM 0 (Lib.decDigits u)=(u:Int):=by
 intro u;induction u using Nat.strongRecOn with
 |_ u ih=>
  by_cases hu:u<10;rw [Lib.decDigits,dif_pos hu];have e:(UInt8.ofNat (48+u)).toNat=48+u:=by rw [UInt8.toNat_ofNat',Nat.mod_eq_of_lt (by omega)]
  show CL 0 (UInt8.ofNat (48+u))=_;unfold CL;rw [e,if_pos (by omega)];omega;rw [Lib.decDigits,dif_neg hu,Hb,ih (u/10) (by omega)];have e:(UInt8.ofNat (48+u%10)).toNat=48+u%10:=by rw [UInt8.toNat_ofNat',Nat.mod_eq_of_lt (by omega)]
  show CL _ (UInt8.ofNat (48+u%10))=_;unfold CL;rw [e,if_pos (by omega)];omega
theorem xy: ∀u:Nat,∃b r,Lib.decDigits u=b::r∧48≤b.toNat∧b.toNat≤57:=by
 intro u;induction u using Nat.strongRecOn with
 |_ u ih=>
  by_cases hu:u<10;have e:(UInt8.ofNat (48+u)).toNat=48+u:=by rw [UInt8.toNat_ofNat',Nat.mod_eq_of_lt (by omega)]
  refine ⟨UInt8.ofNat (48+u),[],?_,by omega,by omega⟩;rw [Lib.decDigits,dif_pos hu];obtain ⟨b,r,h1,h2⟩:=ih (u/10) (by omega);refine ⟨b,r++[UInt8.ofNat (48+u%10)],?_,h2⟩;rw [Lib.decDigits,dif_neg hu,h1];rfl
theorem Hc: ∀(u:Nat) (rest:List UInt8),u<1000000000000000000→Lib.parseUintM 18446744073709551615 0 (Lib.decDigits u++rest)=Lib.parseUintM 18446744073709551615 u rest:=by
 intro u;induction u using Nat.strongRecOn with
 |_ u ih=>
  intro rest hlt;by_cases hu:u<10;have e:(UInt8.ofNat (48+u)).toNat=48+u:=by rw [UInt8.toNat_ofNat',Nat.mod_eq_of_lt (by omega)]
  rw [Lib.decDigits,dif_pos hu];show Lib.parseUintM 18446744073709551615 0 (UInt8.ofNat (48+u)::rest)=_
  conv=>lhs;unfold Lib.parseUintM
  rw [e,if_pos (by omega),if_neg (by omega),if_neg (by omega)]
  congr 1
  omega;have e:(UInt8.ofNat (48+u%10)).toNat=48+u%10:=by rw [UInt8.toNat_ofNat',Nat.mod_eq_of_lt (by omega)]
  rw [Lib.decDigits,dif_neg hu,List.append_assoc,ih (u/10) (by omega) _ (by omega)];show Lib.parseUintM 18446744073709551615 (u/10) (UInt8.ofNat (48+u%10)::rest)=_
  conv=>lhs;unfold Lib.parseUintM
  rw [e,if_pos (by omega),if_neg (by omega),if_neg (by omega)]
  congr 1
  omega
theorem Kl {u:Nat}(h:u<1000000000000000000):Lib.parseUintB 64 (Lib.decDigits u)= .ok u:=by
 obtain ⟨b,r,h1,_⟩:=xy u;have:=Hc u [] h;rw [List.append_nil] at this;unfold Lib.parseUintB;rw [if_neg (by rw [h1];simp),show (2^64 - 1:Nat)=18446744073709551615 from rfl,this];rfl
theorem EO {n:Int}(h: -1000000000000000≤n∧n≤1000000000000000):Lib.parseIntB 64 (Lib.itoa n)= .ok n:=by
 have hu:=Kl (u:=n.natAbs) (by omega);have hp:(2^(64 - 1):Nat)=9223372036854775808:=rfl;unfold Lib.itoa;by_cases hn:n<0;rw [if_pos hn];unfold Lib.parseIntB;simp only [show (45:UInt8).toNat=45 from rfl,hu,hp];simp only [or_true,if_true,not_true_eq_false,false_and,if_false,true_and,hu];rw [if_neg (by omega)]
 congr 1
 omega;rw [if_neg hn,show n.toNat=n.natAbs by omega];obtain ⟨b,r,h1,h2,h3⟩:=xy n.natAbs;rw [h1] at hu⊢;unfold Lib.parseIntB;simp only [show¬b.toNat=45 by omega,show¬b.toNat=43 by omega,hu,hp];simp only [or_self,if_false,hu,not_false_eq_true,true_and,false_and];rw [if_neg (by omega)]
 congr 1
 omega
theorem AR {n:Int}(h: -1000000000000000≤n∧n≤1000000000000000):mb (Lib.itoa n)=(n,true):=by
 unfold mb;rw [EO h];simp [h]
end Go.Proofs
namespace Go.Proofs
open Go.Ide Go.IntWalk
noncomputable def AS (ps:List (List UInt8)):Bool:=ps.all fun p=>(mb p).2
noncomputable def MR (ps:List (List UInt8)):List Int:=ps.map fun p=>(mb p).1
theorem FI {α β:Type}{f:Int×List α→Option ((Int×List α)⊕(List α⊕Unit))}{ps:List β}(d:β)(R:β→α×Bool)(hn:ps.length≤4000000)(jq: ∀(i:Nat) (out:List α),i<ps.length→out.length≤i→f ((i:Int),out)=some (bif (R (ps.getD i d)).2 then .inl (((i+1:Nat):Int),out++[(R (ps.getD i d)).1]) else .inr (.inr ())))(kU: ∀out:List α,f (((ps.length:Nat):Int),out)=some (.inr (.inl out))):
 rounds f ((0:Int),([]:List α))=some (bif ps.all fun p=>(R p).2 then .inl (ps.map fun p=>(R p).1) else .inr ()):=by
 obtain ⟨r,h1,h2⟩: ∃r,rounds f ((0:Int),([]:List α))=some r∧r=bif ps.all fun p=>(R p).2 then .inl (ps.map fun p=>(R p).1) else .inr ():=by
  refine dX (f:=f) (fun (n:Nat) (s:Int×List α)=> ∃i:Nat,s=((i:Int),(ps.take i).map fun p=>(R p).1)∧i≤ps.length∧n=ps.length - i∧((ps.take i).all fun p=>(R p).2)=true) _ (fun n s hR=> ?_) ps.length _ ⟨0,by simp,Nat.zero_le _,rfl,by simp⟩;obtain ⟨i,rfl,k1,rfl,k3⟩:=hR;by_cases hi:i<ps.length;have hs:=jq i ((ps.take i).map fun p=>(R p).1) hi (by rw [List.length_map,List.length_take];omega);have hm:ps.getD i d∈ps:=by
   rw [List.getD_eq_getElem?_getD,List.getElem?_eq_getElem hi];exact List.getElem_mem hi
  cases e:(R (ps.getD i d)).2 with
  |true=>
   left;rw [e,cond_true] at hs;exact ⟨ps.length - (i+1),_,by omega,hs,i+1,by rw [jP hi d,List.map_append];rfl,hi,rfl,by rw [jP hi d,List.all_append,k3,List.all_cons,e];rfl⟩
  |false=>
   right;rw [e,cond_false] at hs;refine ⟨_,hs,?_⟩;have:(ps.all fun p=>(R p).2)=false:=by
    rw [Bool.eq_false_iff];intro q;rw [List.all_eq_true] at q;have:=q _ hm;rw [e] at this;cases this
   rw [this];rfl
  right;have:i=ps.length:=by omega
  subst this;rw [List.take_length] at k3⊢;exact ⟨_,kU _,by rw [k3];rfl⟩
 rw [h1,h2]
theorem xz {α:Type}{f:Int×List α→Option ((Int×List α)⊕(List α⊕Unit))}{ps:List (List UInt8)}(R:List UInt8→α×Bool)(hn:ps.length≤4000000)(jq: ∀(i:Nat) (out:List α),i<ps.length→out.length≤i→f ((i:Int),out)=some (bif (R (ps.getD i [])).2 then .inl (((i+1:Nat):Int),out++[(R (ps.getD i [])).1]) else .inr (.inr ())))(kU: ∀out:List α,f (((ps.length:Nat):Int),out)=some (.inr (.inl out))):
 rounds f ((0:Int),([]:List α))=some (bif ps.all fun p=>(R p).2 then .inl (ps.map fun p=>(R p).1) else .inr ()):=FI [] R hn jq kU
noncomputable def pB (s:List UInt8):List Int×Bool:=
 bif s==[110,111,110,101] then ([],true) else
  bif AS (gz 44 s)&&decide ((gz 44 s).length≤64) then (MR (gz 44 s),true) else ([],false)
theorem vI {c:UInt8}: ∀{s p:List UInt8},p∈gz c s→p.length≤s.length
 |[],p,h=>by
  have h:p∈[[]]:=h;simp at h;subst h;simp
 |b::l,p,h=>by
  unfold gz at h;split at h;rcases List.mem_cons.1 h with rfl|h
  simp;have:=vI h;simp only [List.length_cons];omega;cases hq:gz c l with
  |nil=>exact absurd hq (EI _ _)
  |cons q r=>
   rw [hq] at h;have h:p∈([b]++q)::r:=h;rcases List.mem_cons.1 h with rfl|h
   have:=vI (c:=c) (s:=l) (p:=q) (by rw [hq];simp);simp;omega;have:=vI (c:=c) (s:=l) (p:=p) (by rw [hq];exact List.mem_cons_of_mem _ h);simp only [List.length_cons];omega
theorem CN {c:UInt8}{s:List UInt8}(i:Nat):((gz c s).getD i []).length≤s.length:=by
 rw [List.getD_eq_getElem?_getD];cases h:(gz c s)[i]? with
 |none=>simp
 |some p=>exact vI (List.mem_of_getElem? h)
theorem u4 {s:List UInt8}(h:s.length≤1048576):fg s=some (pB s):=by
 unfold fg nY qp pB;cases (s==[110,111,110,101]) with
 |true=>
  simp only [cond_true,Option.bind_some];rw [xz (f:=fM []) (ps:=[]) mb (by simp) (fun i out hi=>by simp at hi) (fun out=>rfl)];rfl
 |false=>
  have hl:=EK 44 s;have hs:strings_Split s [44]=some (gz 44 s):=by
   unfold strings_Split;rw [guard_pos (show _∧_ from ⟨by omega,by simp⟩),oL]
  simp only [cond_false,hs,Option.bind_some];rw [xz (f:=fM (gz 44 s)) (ps:=gz 44 s) mb (by omega) (fun i out hi ho=>by
   have Z9:de ((gz 44 s).getD i [])=some (mb ((gz 44 s).getD i [])):=by
    unfold de;rw [guard_pos (by have:=CN (c:=44) (s:=s) i;omega)]
   unfold fM;simp only [show decide ((i:Int)<ae (gz 44 s))=true from qW hi,cond_true,guard_pos (kW hi),Int.toNat_natCast,Z9,Option.bind_some];cases (mb ((gz 44 s).getD i [])).2 with
   |true=>rw [Bool.not_true,cond_false,guard_pos (by simp only [List.length_cons,List.length_nil];unfold av;omega),dh hi (by omega)];rfl
   |false=>rfl) (fun out=>by
   unfold fM;simp only [show decide ((((gz 44 s).length:Nat):Int)<ae (gz 44 s))=false from rq (Nat.le_refl _),cond_false])]
  unfold AS MR;cases (gz 44 s).all fun p=>(mb p).2 with
  |false=>rfl
  |true=>
   simp only [cond_true,Option.bind_some,Bool.not_true,cond_false,Bool.true_and,ae,List.length_map];by_cases h2:(gz 44 s).length≤64;rw [show decide ((((gz 44 s).length:Nat):Int)>64)=false by simp only [decide_eq_false_iff_not];omega,show decide ((gz 44 s).length≤64)=true by simpa using h2];rfl;rw [show decide ((((gz 44 s).length:Nat):Int)>64)=true by simp only [decide_eq_true_eq];omega,show decide ((gz 44 s).length≤64)=false by simpa using h2];rfl
theorem xA {s:List UInt8}{n:Int}(h:s.length≤1048576):dq s n=some (bif (gz 59 s).all fun p=>(pB p).2 then ((gz 59 s).map fun p=>(pB p).1,(((gz 59 s).length:Nat):Int)==n) else ([],false)):=by
 have hl:=EK 59 s;have hs:strings_Split s [59]=some (gz 59 s):=by
  unfold strings_Split;rw [guard_pos (show _∧_ from ⟨by omega,by simp⟩),oL]
 unfold dq;rw [hs,Option.bind_some,xz (f:=gS (gz 59 s)) (ps:=gz 59 s) pB (by omega) (fun i out hi ho=>by
  unfold gS;simp only [show decide ((i:Int)<ae (gz 59 s))=true from qW hi,cond_true,guard_pos (kW hi),Int.toNat_natCast,u4 (s:=(gz 59 s).getD i []) (by have:=CN (c:=59) (s:=s) i;omega),Option.bind_some];cases (pB ((gz 59 s).getD i [])).2 with
  |true=>rw [Bool.not_true,cond_false,guard_pos (by simp only [List.length_cons,List.length_nil];unfold av;omega),dh hi (by omega)];rfl
  |false=>rfl) (fun out=>by
  unfold gS;simp only [show decide ((((gz 59 s).length:Nat):Int)<ae (gz 59 s))=false from rq (Nat.le_refl _),cond_false])]
 cases (gz 59 s).all fun p=>(pB p).2 with
 |false=>rfl
 |true=>
  simp only [cond_true,Option.bind_some,ae,List.length_map]
theorem rh (c:UInt8)(b:List UInt8): ∀a:List UInt8,gz c (a++c::b)=gz c a++gz c b
 |[]=>by simp [gz]
 |x::a=>by
  have ih:=rh c b a;rw [List.cons_append,gz,gz];by_cases e:x=c;rw [if_pos e,if_pos e,ih];rfl;rw [if_neg e,if_neg e,ih];cases hq:gz c a with
  |nil=>exact absurd hq (EI _ _)
  |cons q r=>rfl
theorem n5 {c:UInt8}: ∀{b:List UInt8},(∀x∈b,x≠c)→gz c b=[b]
 |[],_=>rfl
 |x::b,h=>by
  rw [gz,if_neg (h x (by simp)),n5 fun y hy=>h y (List.mem_cons_of_mem _ hy)];rfl
theorem Hd (t:List UInt8):(Lib.lastIndexByte ⟨t.toArray⟩ 59= -1∧gz 59 t=[t])∨ ∃i:Nat,i<t.length∧Lib.lastIndexByte ⟨t.toArray⟩ 59=i∧gz 59 t=gz 59 (t.take i)++[t.drop (i+1)]:=by
 have hd: ∀j,j<t.length→((ByteArray.mk t.toArray).data[j]!)=t.getD j 0:=fun j hj=>by
  show t.toArray[j]! =_;simp [hj]
 have cY:(ByteArray.mk t.toArray).size=t.length:=rfl;have cX: ∀j,j<t.length→((((ByteArray.mk t.toArray).data[j]!).toNat:Nat):Int)≠59→t.getD j 0≠59:=fun j hj h e=>by
  rw [hd j hj,e] at h;exact h rfl
 rcases Lib.lastIndexByte_spec ⟨t.toArray⟩ 59 with ⟨h1,h2⟩|⟨i,h1,h2,h3,h4⟩
 refine .inl ⟨h1,n5 fun x hx=> ?_⟩;obtain ⟨j,hj,rfl⟩:=List.getElem_of_mem hx;have:=cX j hj (h2 j hj);rwa [List.getD_eq_getElem?_getD,List.getElem?_eq_getElem hj] at this;rw [cY] at h1 h4;have e59:t[i]=59:=by
  rw [hd i h1,List.getD_eq_getElem?_getD,List.getElem?_eq_getElem h1] at h3;have h3:((t[i].toNat:Nat):Int)=59:=h3;apply UInt8.toNat_inj.1;show _=59;omega
 refine .inr ⟨i,h1,h2,?_⟩;have ht:t=t.take i++59::t.drop (i+1):=by
  conv=>lhs;rw [←List.take_append_drop i t,List.drop_eq_getElem_cons h1,e59]
 conv=>lhs;rw [ht,rh]
 refine congrArg _ (n5 fun x hx=> ?_);obtain ⟨j,hj,rfl⟩:=List.getElem_of_mem hx;rw [List.length_drop] at hj;have:=cX (i+1+j) (by omega) (h4 (i+1+j) (by omega) (by omega));rw [List.getElem_drop];rwa [List.getD_eq_getElem?_getD,List.getElem?_eq_getElem (by omega)] at this
end Go.Proofs
namespace Go.Proofs
open Go.Ide Go.IntWalk
def CO (b:UInt8):Bool×Bool:=(b==49,b==48||b==49)
theorem Km (b:UInt8)(n:Int)(k:UInt8)(hn:n=((k.toNat:Nat):Int)):(((b.toNat:Nat):Int) != n)= !(b==k):=by
 subst hn;by_cases e:b=k;subst e;simp;have h1:(b==k)=false:=by simpa using e
 have h2:(((b.toNat:Nat):Int)==((k.toNat:Nat):Int))=false:=by
  rw [beq_eq_false_iff_ne];intro q;exact e (UInt8.toNat_inj.1 (by omega))
 rw [h1,bne,h2]
theorem T7 (b:UInt8)(n:Int)(k:UInt8)(hn:n=((k.toNat:Nat):Int)):(((b.toNat:Nat):Int)==n)=(b==k):=by
 have:=Km b n k hn;rw [bne] at this;cases h:(b==k)<;>rw [h] at this<;>simpa using this
theorem Kn {b:UInt8}{i n:Nat}{out:List Bool}(hi:i<n)(hn:n≤1048576)(ho:out.length≤i):
 ((bif (((b.toNat:Nat):Int) != 48) then some (((b.toNat:Nat):Int) != 49) else some false).bind fun v=>bif v then some (.inr (.inr ())) else ai (out.length+([((((b.toNat:Nat):Int))==49)]:List Bool).length≤av) (some (.inl (aj .i64 (i:Int) 1,out++[((((b.toNat:Nat):Int))==49)]))))=
  (some (bif (CO b).2 then .inl (((i+1:Nat):Int),out++[(CO b).1]) else .inr (.inr ())):Option ((Int×List Bool)⊕(List Bool⊕Unit))):=by
 rw [Km b 48 48 rfl,Km b 49 49 rfl,T7 b 49 49 rfl,dh hi (by omega),guard_pos (by simp only [List.length_cons,List.length_nil];unfold av;omega)];unfold CO;cases (b==48)<;>cases (b==49)<;>rfl
theorem CP (u:List UInt8)(i:Nat):List.getD (bG u) i 0=(((u.getD i 0).toNat:Nat):Int):=by
 unfold bG;rw [List.getD_eq_getElem?_getD,List.getElem?_map,List.getD_eq_getElem?_getD];cases u[i]? <;>rfl
theorem He {a p2:List UInt8}{y:Int}(hc:cut a (aj .i64 y 1) (ae a)=p2)(h:p2.length≤1048576):rounds (fb a y) ((0:Int),([]:List Bool))=some (bif p2.all fun b=>(CO b).2 then .inl (p2.map fun b=>(CO b).1) else .inr ()):=by
 have hl:(bG p2).length=p2.length:=by unfold bG;rw [List.length_map]
 exact FI (f:=fb a y) (ps:=p2) 0 CO (by omega) (fun i out hi ho=>by
  have hlt:i<(bG p2).length:=by omega
  unfold fb;simp only [hc,show decide ((i:Int)<ae (bG p2))=true from qW hlt,cond_true,guard_pos (kW hlt),Int.toNat_natCast,CP];exact Kn hi h ho) (fun out=>by
  unfold fb;simp only [hc,show decide (((p2.length:Nat):Int)<ae (bG p2))=false from by rw [←hl];exact rq (Nat.le_refl _),cond_false])
end Go.Proofs
namespace Go.Proofs
open Go.Ide Go.IntWalk
def q4 (xs:List Int)(k:Nat):Int×Int×Int×Int:=(xs.getD (4*k) 0,xs.getD (4*k+1) 0,xs.getD (4*k+2) 0,xs.getD (4*k+3) 0)
def CQ (xs:List Int)(k:Nat):List (Int×Int×Int×Int):=(List.range k).map (q4 xs)
theorem MS (xs:List Int)(k:Nat):(CQ xs k).length=k:=by simp [CQ]
theorem Ko (xs:List Int)(k:Nat):CQ xs (k+1)=CQ xs k++[q4 xs k]:=by simp [CQ,List.range_succ]
theorem uN {f:Int×List (Int×Int×Int×Int)→Option ((Int×List (Int×Int×Int×Int))⊕List (Int×Int×Int×Int))}{xs:List Int}{m:Nat}(jq: ∀(k:Nat),k<m→f (((4*k:Nat):Int),CQ xs k)=some (.inl (((4*(k+1):Nat):Int),CQ xs (k+1))))(kU:f (((4*m:Nat):Int),CQ xs m)=some (.inr (CQ xs m))):rounds f ((0:Int),([]:List (Int×Int×Int×Int)))=some (CQ xs m):=by
 have key: ∀(d k:Nat),k+d=m→rounds f (((4*k:Nat):Int),CQ xs k)=some (CQ xs m):=by
  intro d;induction d with
  |zero=>
   intro k hk;have:k=m:=by omega
   subst this;rw [dP,kU]
  |succ d ih=>intro k hk;rw [dP,jq k (by omega)];exact ih (k+1) (by omega)
 exact key m 0 (by omega)
theorem Kp {f:List Int→List (Int×Int×Int×Int)→Option (List (Int×Int×Int×Int))}{xs:List Int}{m:Nat}(hx:xs.length=4*m)(hm:m≤1000000)(hf: ∀ys acc,ys.length=4→acc.length≤1000000→f ys acc=some (acc++[(ys.getD 0 0,ys.getD 1 0,ys.getD 2 0,ys.getD 3 0)])):tq f xs []=some (CQ xs m):=by
 have key: ∀(d k:Nat),k+d=m→wV f d (xs.drop (4*k)) (CQ xs k)=some (CQ xs m):=by
  intro d;induction d with
  |zero=>
   intro k hk;have:k=m:=by omega
   subst this;rfl
  |succ d ih=>
   intro k hk;unfold wV;rw [hf _ _ (by rw [List.length_take,List.length_drop];omega) (by rw [MS];omega),Option.bind_some,List.drop_drop];have:=ih (k+1) (by omega);rw [Ko] at this;have e: ∀j,j<4→((xs.drop (4*k)).take 4).getD j 0=xs.getD (4*k+j) 0:=fun j hj=>by
    simp [List.getD_eq_getElem?_getD,List.getElem?_take,hj]
   rw [e 0 (by omega),e 1 (by omega),e 2 (by omega),e 3 (by omega)];exact this
 unfold tq;rw [guard_pos (by omega),show xs.length/4=m by omega];have:=key m 0 (by omega);rw [Nat.mul_zero,List.drop_zero] at this;exact this
theorem NT {xs:List Int}:(Int.tmod (ae xs) 4 != 0)= !decide (xs.length%4=0):=by
 simp only [ae];rw [Int.tmod_eq_emod_of_nonneg (by omega)];by_cases h:xs.length%4=0;rw [decide_eq_true h,bne,show (((xs.length:Nat):Int)%4==0)=true by rw [beq_iff_eq];omega];rw [decide_eq_false h,bne,show (((xs.length:Nat):Int)%4==0)=false by rw [beq_eq_false_iff_ne];omega]
theorem Kq {ys:List Int}{acc:List (Int×Int×Int×Int)}(hy:ys.length=4)(ha:acc.length≤1000000):
 (ai ((0:Int)≤(0:Int)∧(0:Int)<ae ys) (
  ai ((0:Int)≤(1:Int)∧(1:Int)<ae ys) (
   ai ((0:Int)≤(2:Int)∧(2:Int)<ae ys) (
    ai ((0:Int)≤(3:Int)∧(3:Int)<ae ys) (
     ai (List.length acc+List.length ([((List.getD ys (Int.toNat (0:Int)) (0:Int)),(List.getD ys (Int.toNat (1:Int)) (0:Int)),(List.getD ys (Int.toNat (2:Int)) (0:Int)),(List.getD ys (Int.toNat (3:Int)) (0:Int)))]:List (Int×Int×Int×Int))≤av) (
      some (acc++([((List.getD ys (Int.toNat (0:Int)) (0:Int)),(List.getD ys (Int.toNat (1:Int)) (0:Int)),(List.getD ys (Int.toNat (2:Int)) (0:Int)),(List.getD ys (Int.toNat (3:Int)) (0:Int)))]:List (Int×Int×Int×Int)))))))):Option (List (Int×Int×Int×Int)))=
 some (acc++[(ys.getD 0 0,ys.getD 1 0,ys.getD 2 0,ys.getD 3 0)]):=by
 have hl:ae ys=4:=by simp only [ae,hy];rfl
 rw [hl,guard_pos (by omega),guard_pos (by omega),guard_pos (by omega),guard_pos (by omega),guard_pos (by rw [List.length_singleton];unfold av;omega)];rfl
end Go.Proofs
namespace Go.Proofs
open Go.Ide Go.IntWalk
abbrev lI:=List Int×Int×Int
def xB (c:List Int):Prop:=c.length≤1048576∧ ∀i,i<c.length→0≤c.getD i 0∧c.getD i 0≤255
theorem zh {x:List Int}(w:WfD (.sl (.int .u8)) x)(h:x.length≤1048576):xB x:=by
 refine ⟨h,fun i hi=> ?_⟩;have:=w.2 i hi;have h2:(Lit.int .u8 (x[i]:Int)).wf=true:=this;rw [List.getD_eq_getElem?_getD,List.getElem?_eq_getElem hi];simp only [Lit.wf,Bool.and_eq_true,decide_eq_true_eq] at h2;have e1:IntKind.u8.min=0:=by decide
 have e2:IntKind.u8.max=255:=by decide
 rw [e1,e2] at h2;simp only [Option.getD_some];omega
structure cr (n:Nat)(s:lI):Prop where
 code:xB s.1
 at0:0≤s.2.1
 at1:s.2.1+(n:Int)≤1000000000000000000
theorem cr.mono {n m:Nat}{s:lI}(h:cr n s)(hm:m≤n):cr m s:=⟨h.code,h.at0,by have:=h.at1;omega⟩
theorem cr.from {c:List Int}(h:xB c):pn c=some (c,(0:Int),(0:Int))∧cr 1000000000000000000 (c,(0:Int),(0:Int)):=⟨rfl,h,Int.le_refl _,by simp⟩
theorem Qz (x:Int)(h:0≤x∧x≤255):IntKind.wrap .i64 x=x:=i64_in _ (by omega)
theorem QA (z:Int): ∃y:Int,IntKind.wrap .i64 (IntKind.wrap .u64 (((BitVec.ofInt (IntKind.bits .u64) z&&& BitVec.ofInt (IntKind.bits .u64) (255:Int)).toNat:Nat):Int))=y∧0≤y∧y≤255:=by
 have h1:(BitVec.ofInt (IntKind.bits .u64) z&&& BitVec.ofInt (IntKind.bits .u64) (255:Int)).toNat≤255:=by
  rw [BitVec.toNat_and];refine Nat.le_trans Nat.and_le_right ?_;decide
 generalize (BitVec.ofInt (IntKind.bits .u64) z&&& BitVec.ofInt (IntKind.bits .u64) (255:Int)).toNat=q at h1;have h2:IntKind.wrap .u64 ((q:Nat):Int)=(q:Int):=by
  unfold IntKind.wrap;simp only [IntKind.bits,IntKind.signed,Bool.false_and,Bool.false_eq_true,if_false];omega
 rw [h2,i64_in _ (by omega)];exact ⟨_,rfl,by omega,by omega⟩
theorem Gc {n:Nat}{s:lI}(h:cr (n+1) s): ∃x s',fB s=some (x,s')∧0≤x∧x≤255∧cr n s':=by
 obtain ⟨c,a,z⟩:=s;obtain ⟨hc,h0,h1⟩:=h;have h0:0≤a:=h0;have h1:a+((n+1:Nat):Int)≤1000000000000000000:=h1;have e1:aj .i64 a 1=a+1:=eQ (by omega);unfold fB;simp only [e1];have hs: ∀z',cr n (c,a+1,z'):=fun z'=>⟨hc,by show 0≤a+1;omega,by show a+1+(n:Int)≤_;omega⟩;have key: ∀v:Int,0≤v∧v≤255→ ∃x s',(bif decide (a+1≤ae c) then some (v,c,a+1,aj .u64 (aj .u64 (ij .u64 z 6364136223846793005) (IntKind.wrap .u64 v)) 1442695040888963407)
  else (some (IntKind.wrap .i64 (IntKind.wrap .u64 (((BitVec.ofInt (IntKind.bits .u64) (Int.fdiv (aj .u64 (aj .u64 (ij .u64 z 6364136223846793005) (IntKind.wrap .u64 v)) 1442695040888963407) (2^(min (Int.toNat (40:Int)) (IntKind.bits .u64))))&&& BitVec.ofInt (IntKind.bits .u64) (255:Int)).toNat:Nat):Int)))).bind fun q5=>
   some (q5,c,a+1,aj .u64 (aj .u64 (ij .u64 z 6364136223846793005) (IntKind.wrap .u64 v)) 1442695040888963407))=some (x,s')∧0≤x∧x≤255∧cr n s':=by
  intro v hv;cases decide (a+1≤ae c) with
  |true=>exact ⟨_,_,rfl,hv.1,hv.2,hs _⟩
  |false=>
   obtain ⟨y,e,y1,y2⟩:=QA (Int.fdiv (aj .u64 (aj .u64 (ij .u64 z 6364136223846793005) (IntKind.wrap .u64 v)) 1442695040888963407) (2^(min (Int.toNat (40:Int)) (IntKind.bits .u64))));rw [e];exact ⟨_,_,rfl,y1,y2,hs _⟩
 by_cases hlt:a<ae c;have hi:a.toNat<c.length:=by simp only [ae] at hlt;omega
 have hb:=hc.2 a.toNat hi;simp only [hlt,decide_true,cond_true];rw [guard_pos ⟨h0,trivial⟩,Qz _ hb];exact key _ hb;simp only [hlt,decide_false,cond_false];exact key 0 (by omega)
theorem Gd {x n:Int}(hx:0≤x)(hn:0<n):0≤Int.tmod x n∧Int.tmod x n<n:=by
 rw [Int.tmod_eq_emod_of_nonneg hx];exact ⟨Int.emod_nonneg _ (by omega),Int.emod_lt_of_pos _ hn⟩
theorem AT {n:Nat}{s:lI}(h:cr (n+2) s)(k:Int): ∃x s',ak s k=some (x,s')∧0≤x∧(x<k∨x=0)∧cr n s':=by
 unfold ak;by_cases h1:k≤1;simp only [h1,decide_true,cond_true];exact ⟨_,_,rfl,Int.le_refl _,.inr rfl,h.mono (by omega)⟩;simp only [h1,decide_false,cond_false];obtain ⟨x,s1,e1,x1,x2,o1⟩:=Gc h;simp only [e1,Option.bind_some];by_cases h2:k>200;obtain ⟨y,s2,e2,y1,y2,o2⟩:=Gc o1;have e3:ij .i64 x 256=x*256:=wR (by omega);have e4:aj .i64 (x*256) y=x*256+y:=eQ (by omega);simp only [h2,decide_true,cond_true,e2,Option.bind_some,e3,e4];rw [guard_pos (by omega)];have:=Gd (x:=x*256+y) (n:=k) (by omega) (by omega);exact ⟨_,_,rfl,this.1,.inl this.2,o2⟩;simp only [h2,decide_false,cond_false,Option.bind_some];rw [guard_pos (by omega)];have:=Gd (x:=x) (n:=k) (by omega) (by omega);exact ⟨_,_,rfl,this.1,.inl this.2,o1.mono (by omega)⟩
end Go.Proofs
namespace Go.Proofs
open Go.Ide Go.IntWalk
theorem Kr {α:Type}{xs ys:List α}{i:Nat}{d:α}:(xs++ys).getD i d=if i<xs.length then xs.getD i d else ys.getD (i - xs.length) d:=by
 split;rename_i h;rw [List.getD_eq_getElem?_getD,List.getElem?_append_left h,List.getD_eq_getElem?_getD];rename_i h;rw [List.getD_eq_getElem?_getD,List.getElem?_append_right (by omega),List.getD_eq_getElem?_getD]
theorem sA {m c:Nat}{nx:List Int}{es:List Bool}(m1:1≤m)(m2:m≤64)(c1:1≤c)(c2:c≤4)(hl:nx.length=m*c)(he:es.length=m)(h: ∀i,i<nx.length→0≤nx.getD i 0∧nx.getD i 0<(m:Int)):nK (m:Int) (c:Int) nx es=true:=by
 have Xr:m*c≤64*4:=Nat.mul_le_mul m2 c2;unfold nK;rw [wR (by rw [←Int.natCast_mul];omega),←Int.natCast_mul,nD (by omega)];simp only [Bool.and_eq_true,decide_eq_true_eq,beq_iff_eq,ae];refine ⟨⟨by omega,by omega⟩,⟨by omega,by omega⟩,by rw [hl],by rw [he],q0.2 fun i hi=> ?_⟩;have:=h i hi;omega
end Go.Proofs
namespace Go.Proofs
open Go.Ide Go.IntWalk
theorem dQ {α:Type}{xs:List α}{i:Nat}{d:α}(h:i<xs.length):xs.getD i d∈xs:=by
 rw [List.getD_eq_getElem?_getD,List.getElem?_eq_getElem h];exact List.getElem_mem h
theorem cO {σ τ ρ:Type}{f:τ→Option (τ⊕ρ)}(mk:Nat→σ→τ)(I:Nat→σ→Prop)(Q:ρ→Prop){n:Nat}(jq: ∀i s,i<n→I i s→ ∃s',f (mk i s)=some (.inl (mk (i+1) s'))∧I (i+1) s')(kU: ∀s,I n s→ ∃r,f (mk n s)=some (.inr r)∧Q r): ∀(k i:Nat) (s:σ),i+k=n→I i s→ ∃r,rounds f (mk i s)=some r∧Q r
 |0,i,s,hi,h=>by
  obtain rfl:i=n:=by omega
  obtain ⟨r,h1,h2⟩:=kU s h;exact ⟨r,by rw [dP,h1],h2⟩
 |k+1,i,s,hi,h=>by
  obtain ⟨s',h1,h2⟩:=jq i s (by omega) h;rw [dP,h1];exact cO mk I Q jq kU k (i+1) s' (by omega) h2
def u5 (m c:Nat)(r:Q4):Prop:=(0≤r.1∧r.1<(m:Int))∧(0≤r.2.1∧r.2.1<(m:Int))∧(-1≤r.2.2.1∧r.2.2.1<(c:Int))∧0≤r.2.2.2∧r.2.2.2≤1000
structure qw (m c:Nat)(zs:List Q4)(ss es:List Int):Prop where
 m1:1≤m
 m2:m≤16
 c1:1≤c
 c2:c≤4
 zl:zs.length≤16
 Ks: ∀r∈zs,u5 m c r
 sl:ss.length=m
 el:es.length=m
 sv: ∀x∈ss,-1≤x∧x≤1000
 ev: ∀x∈es,-1≤x∧x≤1000
theorem qw.ok {m c:Nat}{zs:List Q4}{ss es:List Int}(h:qw m c zs ss es):ra (m:Int) (c:Int) zs ss es=true:=by
 have:=h.m1;have:=h.m2;have:=h.c1;have:=h.c2;have:=h.zl;unfold ra;simp only [Bool.and_eq_true,decide_eq_true_eq,Bool.not_eq_true',decide_eq_false_iff_not,ae,beq_iff_eq,h.sl,h.el];refine ⟨⟨by omega,by omega⟩,⟨by omega,by omega⟩,by omega,tn.2 fun j _ hj=> ?_,⟨mE.2 h.sv,trivial⟩,mE.2 h.ev,trivial⟩;obtain ⟨a,b,d,e⟩:=h.Ks _ (dQ (d:=(0,0,0,0)) (show j<zs.length by omega));unfold CI;simp only [Bool.and_eq_true,decide_eq_true_eq];rw [nD (by omega),nD (by omega)];refine ⟨⟨by omega,by omega⟩,⟨by omega,by omega⟩,⟨by omega,by omega⟩,by omega,by omega⟩
theorem qw.valid {m c:Nat}{zs:List Q4}{ss es:List Int}(h:qw m c zs ss es):bW ((m:Int),(c:Int),zs,ss,es)=some true:=by
 have:=h.m2;have:=h.zl;have:=h.sl;have:=h.el;rw [CJ (by omega) (by omega) (by omega),h.ok]
def pC (n c:Nat)(r:Q4):Prop:=(0≤r.1∧r.1<(n:Int))∧(-1≤r.2.2.1∧r.2.2.1<(n:Int))∧(0≤r.2.2.2∧r.2.2.2≤1000)∧0≤r.2.1∧(r.2.2.1<0→r.2.1<(c:Int))∧(0≤r.2.2.1→r.2.1<(n:Int))
structure sB (n c:Nat)(rs:List Q4):Prop where
 n1:1≤n
 n2:n≤8
 c1:1≤c
 c2:c≤4
 rl:rs.length≤16
 rules: ∀r∈rs,pC n c r
theorem sB.ok {n c:Nat}{rs:List Q4}(h:sB n c rs):rf (n:Int) (c:Int) rs=true:=by
 have:=h.n1;have:=h.n2;have:=h.c1;have:=h.c2;have:=h.rl;unfold rf;simp only [Bool.and_eq_true,decide_eq_true_eq,Bool.not_eq_true',decide_eq_false_iff_not,ae];refine ⟨⟨by omega,by omega⟩,⟨by omega,by omega⟩,by omega,tn.2 fun j _ hj=> ?_⟩;obtain ⟨a,b,d,e,f,g⟩:=h.rules _ (dQ (d:=(0,0,0,0)) (show j<rs.length by omega));unfold xx;simp only [Bool.and_eq_true,decide_eq_true_eq];rw [nD (by omega),nD (by omega)];refine ⟨⟨by omega,by omega⟩,⟨by omega,by omega⟩,⟨by omega,by omega⟩,by omega,?_⟩;by_cases hn:(rs.getD j (0,0,0,0)).2.2.1<0;have:=f hn;simp only [hn,decide_true,cond_true];omega;have:=g (by omega);simp only [hn,decide_false,cond_false];omega
theorem sB.valid {n c:Nat}{rs:List Q4}(h:sB n c rs):bX ((n:Int),(c:Int),rs)=some true:=by
 have:=h.rl;rw [CK (by omega),h.ok]
theorem et {n k:Nat}{s:lI}(h:cr (n+2) s)(hk:1≤k): ∃(x:Nat) (s':lI),ak s (k:Int)=some ((x:Int),s')∧x<k∧cr n s':=by
 obtain ⟨x,s',e,x1,x2,o⟩:=AT h (k:Int);refine ⟨x.toNat,s',?_,by omega,o⟩;rw [e,Int.toNat_of_nonneg x1]
theorem EP {n k:Nat}{s:lI}(h:cr (n+2) s)(hk:1≤k): ∃(b:Bool) (s':lI),bz s (k:Int)=some (b,s')∧cr n s':=by
 obtain ⟨x,s',e,_,o⟩:=et h hk;exact ⟨_,s',by unfold bz;rw [e];rfl,o⟩
theorem jy {α:Type}{P:α→Prop}{xs:List α}{x:α}(h: ∀y∈xs,P y)(hx:P x): ∀y∈xs++[x],P y:=fun y hy=>by
 rcases List.mem_append.1 hy with hy|hy
 exact h y hy;simp only [List.mem_singleton] at hy;subst hy;exact hx
theorem iA {α β:Type}{xs:List α}{x:α}{k:Option β}(h:xs.length≤1000000):ai (List.length xs+List.length [x]≤av) k=k:=
 guard_pos (by simp only [List.length_cons,List.length_nil];unfold av;omega)
theorem QB {a:Nat}(h:1≤a)(h2:a≤1000000):a7 .i64 (a:Int) 1=((a - 1:Nat):Int):=by rw [nD (by omega)];omega
theorem Xs {a:Nat}(h:1≤a):decide ((a:Int)>(0:Int))=true:=by simp;omega
theorem NU {m c:Nat}{a b d e:Int}(h1:0≤a∧a<(m:Int))(h2:0≤b∧b<(m:Int))(h3: -1≤d∧d<(c:Int))(h4:0≤e∧e≤1000):u5 m c (a,b,d,e):=⟨h1,h2,h3,h4⟩
theorem Kt {g m c:Nat}(m1:1≤m)(m2:m≤4)(c1:1≤c)(c2:c≤3)(n:Nat)(hn:n≤10){s:lI}(hs:cr (n*10+g) s):
 ∃s' zs,rounds (eS (m:Int) (c:Int) true) ((n:Int),s,([]:List Q4))=some (s',zs)∧cr g s'∧zs.length=n∧ ∀r∈zs,u5 m c r:=by
 obtain ⟨r,e,h1,h2,h3⟩:=dX (f:=eS (m:Int) (c:Int) true) (fun a st=> ∃(s:lI) (out:List Q4),st=((a:Int),s,out)∧a+out.length=n∧cr (a*10+g) s∧ ∀r∈out,u5 m c r)
  (fun r=>cr g r.1∧r.2.length=n∧ ∀x∈r.2,u5 m c x) (by
   rintro a st ⟨s,out,rfl,ha,hs,ho⟩;unfold eS;by_cases h0:a=0;subst h0;exact .inr ⟨_,rfl,hs.mono (by omega),by show out.length=_;omega,ho⟩;obtain ⟨x1,s1,e1,q1,o1⟩:=et (n:=(a - 1)*10+g+8) (hs.mono (by omega)) m1;obtain ⟨x2,s2,e2,q2,o2⟩:=et (n:=(a - 1)*10+g+6) (o1.mono (by omega)) m1;obtain ⟨x3,s3,e3,q3,o3⟩:=et (n:=(a - 1)*10+g+4) (o2.mono (by omega)) c1;obtain ⟨x4,s4,e4,q4,o4⟩:=et (n:=(a - 1)*10+g+2) (k:=9) (o3.mono (by omega)) (by omega);obtain ⟨b,s5,e5,o5⟩:=EP (n:=(a - 1)*10+g) (k:=5) (o4.mono (by omega)) (by omega);have e4:ak s3 (9:Int)=_:=e4;have e5:bz s4 (5:Int)=_:=e5;simp only [Xs (show 1≤a by omega),cond_true,e1,e2,e3,e4,e5,Option.bind_some,QB (show 1≤a by omega) (show a≤1000000 by omega)];cases b with
   |true=>
    simp only [cond_true,Option.bind_some];rw [iA (by omega)];exact .inl ⟨a - 1,_,by omega,rfl,s5,_,rfl,by simp;omega,o5,jy ho (NU (by omega) (by omega) (by omega) (by omega))⟩
   |false=>
    simp only [cond_false,Option.bind_some];rw [iA (by omega)];exact .inl ⟨a - 1,_,by omega,rfl,s5,_,rfl,by simp;omega,o5,jy ho (NU (by omega) (by omega) (by omega) (by omega))⟩) n
  ((n:Int),s,([]:List Q4)) ⟨s,[],rfl,rfl,hs,fun _ h=>by cases h⟩
 exact ⟨r.1,r.2,e,h1,h2,h3⟩
theorem Hf {g m:Nat}(m2:m≤4){s:lI}(hs:cr (m*8+g) s):
 ∃s' ss es,rounds (eR (m:Int)) ((0:Int),s,([]:List Int),([]:List Int))=some (s',ss,es)∧cr g s'∧ss.length=m∧es.length=m∧(∀x∈ss,-1≤x∧x≤1000)∧ ∀x∈es,-1≤x∧x≤1000:=by
 obtain ⟨r,e,h1,h2,h3,h4,h5⟩:=dX (f:=eR (m:Int)) (fun a st=> ∃(i:Nat) (s:lI) (p q:List Int),a+i=m∧st=((i:Int),s,p,q)∧p.length=i∧q.length=i∧cr (a*8+g) s∧(∀x∈p,-1≤x∧x≤1000)∧ ∀x∈q,-1≤x∧x≤1000)
  (fun r=>cr g r.1∧r.2.1.length=m∧r.2.2.length=m∧(∀x∈r.2.1,-1≤x∧x≤1000)∧ ∀x∈r.2.2,-1≤x∧x≤1000) (by
   rintro a st ⟨i,s,p,q,ha,rfl,hp,hq,Q8,vp,vq⟩;unfold eR;by_cases h0:i<m;have side: ∀(n k:Nat) (b:Bool) (s:lI),cr (n+4) s→1≤k→ ∃(v:Int) (s':lI),
    ((show Option (Int×(List Int×Int×Int)) from
     (show Option (Bool×(List Int×Int×Int)) from
      bif b then some (true,s) else (bz s (k:Int)).bind fun L6=>some (L6.1,L6.2)).bind fun xc=>
     bif xc.1 then (ak xc.2 (4:Int)).bind fun K5=>some (K5.1,K5.2) else some ((-1:Int),xc.2))=some (v,s'))∧(-1≤v∧v≤1000)∧cr n s':=by
    intro n k b s hs hk;obtain ⟨c,s1,e1,o1⟩: ∃(c:Bool) (s1:lI),(bif b then some (true,s) else (bz s (k:Int)).bind fun L6=>some (L6.1,L6.2))=some (c,s1)∧cr (n+2) s1:=by
     cases b with
     |true=>exact ⟨true,s,rfl,hs.mono (by omega)⟩
     |false=>
      obtain ⟨c,s1,e1,o1⟩:=EP (n:=n+2) hs hk;exact ⟨c,s1,by simp only [cond_false,e1,Option.bind_some],o1⟩
    simp only [e1,Option.bind_some];cases c with
    |true=>
     obtain ⟨x,s2,e2,q2,o2⟩:=et (k:=4) o1 (by omega);have e2:ak s1 (4:Int)=_:=e2;exact ⟨_,_,by simp only [cond_true,e2,Option.bind_some];rfl,by omega,o2⟩
    |false=>exact ⟨-1,s1,rfl,by omega,o1.mono (by omega)⟩
   obtain ⟨v,s1,e1,v1,o1⟩:=side ((a - 1)*8+g+4) 5 ((i:Int)==(0:Int)) s (Q8.mono (by omega)) (by omega);obtain ⟨u,s2,e2,u1,o2⟩:=side ((a - 1)*8+g) 4 ((i:Int)==a7 .i64 (m:Int) 1) s1 o1 (by omega);have e1:=e1;have e2:=e2;simp only [show ((5:Nat):Int)=5 from rfl,show ((4:Nat):Int)=4 from rfl] at e1 e2;simp only [qW h0,cond_true,e1,Option.bind_some,e2,dh h0 (show m≤4294967296 by omega)];rw [iA (by omega),iA (by omega)];exact .inl ⟨a - 1,_,by omega,rfl,i+1,s2,_,_,by omega,rfl,by simp;omega,by simp;omega,o2,jy vp v1,jy vq u1⟩;obtain rfl:i=m:=by omega
   simp only [rq (Nat.le_refl _),cond_false];have yj:cr g s:=Q8.mono (by omega);exact .inr ⟨_,rfl,yj,hp,hq,vp,vq⟩) m
  ((0:Int),s,([]:List Int),([]:List Int)) ⟨0,s,[],[],by omega,rfl,rfl,rfl,hs,fun _ h=>(by cases h),fun _ h=>(by cases h)⟩
 exact ⟨r.1,r.2.1,r.2.2,e,h1,h2,h3,h4,h5⟩
theorem u6 {x:Nat}(h:x≤1000):aj .i64 (1:Int) (x:Int)=((1+x:Nat):Int):=by rw [eQ (by omega)];omega
theorem Ku {g:Nat}{s:lI}(hs:cr (1000+g) s): ∃(m c:Nat) (zs:List Q4) (ss es:List Int) (s':lI),fq s=some (((m:Int),(c:Int),zs,ss,es),s')∧qw m c zs ss es∧cr g s':=by
 obtain ⟨x1,s1,e1,q1,o1⟩:=et (n:=900+g) (k:=4) (hs.mono (by omega)) (by omega);obtain ⟨x2,s2,e2,q2,o2⟩:=et (n:=800+g) (k:=3) (o1.mono (by omega)) (by omega);have hk:aj .i64 (ij .i64 (2:Int) ((1+x1:Nat):Int)) 2=((2*(1+x1)+2:Nat):Int):=by rw [wR (by omega),eQ (by omega)];omega
 obtain ⟨x3,s3,e3,q3,o3⟩:=et (n:=700+g) (k:=2*(1+x1)+2) (o2.mono (by omega)) (by omega);obtain ⟨s4,zs,e4,o4,z1,z2⟩:=Kt (g:=300+g) (m:=1+x1) (c:=1+x2) (by omega) (by omega) (by omega) (by omega) (1+x3) (by omega) (o3.mono (by omega));obtain ⟨s5,ss,es,e5,o5,l1,l2,v1,v2⟩:=Hf (g:=g) (m:=1+x1) (by omega) (o4.mono (by omega));refine ⟨1+x1,1+x2,zs,ss,es,s5,?_,⟨by omega,by omega,by omega,by omega,by omega,z2,l1,l2,v1,v2⟩,o5⟩;have e1:ak s (4:Int)=_:=e1;have e2:ak s1 (3:Int)=_:=e2;unfold fq j9;simp only [e1,e2,Option.bind_some,u6 (show x1≤1000 by omega),u6 (show x2≤1000 by omega),hk,e3,u6 (show x3≤1000 by omega),e4,e5]
theorem Kv {g:Nat}{s:lI}(hs:cr (1000+g) s): ∃(n c:Nat) (rs:List Q4) (s':lI),ft s=some (((n:Int),(c:Int),rs),s')∧sB n c rs∧cr g s':=by
 obtain ⟨x1,s1,e1,q1,o1⟩:=et (n:=900+g) (k:=4) (hs.mono (by omega)) (by omega);obtain ⟨x2,s2,e2,q2,o2⟩:=et (n:=800+g) (k:=3) (o1.mono (by omega)) (by omega);have hk:aj .i64 (ij .i64 (3:Int) ((1+x1:Nat):Int)) 2=((3*(1+x1)+2:Nat):Int):=by rw [wR (by omega),eQ (by omega)];omega
 obtain ⟨x3,s3,e3,q3,o3⟩:=et (n:=700+g) (k:=3*(1+x1)+2) (o2.mono (by omega)) (by omega);have m1:1≤1+x1:=by omega
 have c1:1≤1+x2:=by omega
 have m2:1+x1≤4:=by omega
 have c2:1+x2≤3:=by omega
 generalize hm:1+x1=m at*;generalize hc:1+x2=c at*;obtain ⟨r,e4,h1,h2,h3⟩:=dX (f:=il (m:Int) (c:Int)) (fun a st=> ∃(s:lI) (out:List Q4),st=((a:Int),s,out)∧a+out.length=1+x3∧cr (a*20+(100+g)) s∧ ∀r∈out,pC m c r)
  (fun r=>cr (100+g) r.1∧r.2.length=1+x3∧ ∀x∈r.2,pC m c x) (by
   rintro a st ⟨s,out,rfl,ha,hs,ho⟩;unfold il;by_cases h0:a=0;subst h0;exact .inr ⟨_,rfl,hs.mono (by omega),by show out.length=_;omega,ho⟩;obtain ⟨y1,t1,f1,p1,w1⟩:=et (n:=(a - 1)*20+(100+g)+18) (hs.mono (by omega)) m1;obtain ⟨y2,t2,f2,p2,w2⟩:=et (n:=(a - 1)*20+(100+g)+16) (w1.mono (by omega)) c1;obtain ⟨b,t3,f3,w3⟩:=EP (n:=(a - 1)*20+(100+g)+14) (k:=2) (w2.mono (by omega)) (by omega);have f3:bz t2 (2:Int)=_:=f3;simp only [Xs (show 1≤a by omega),cond_true,f1,f2,f3,Option.bind_some,QB (show 1≤a by omega) (show a≤1000000 by omega)];cases b with
   |true=>
    obtain ⟨y4,t4,f4,p4,w4⟩:=et (n:=(a - 1)*20+(100+g)+12) (w3.mono (by omega)) m1;obtain ⟨y5,t5,f5,p5,w5⟩:=et (n:=(a - 1)*20+(100+g)+10) (w4.mono (by omega)) m1;obtain ⟨y6,t6,f6,p6,w6⟩:=et (n:=(a - 1)*20+(100+g)) (k:=6) (w5.mono (by omega)) (by omega);have f6:ak t5 (6:Int)=_:=f6;simp only [cond_true,Option.bind_some,f4,f5,f6];rw [iA (by omega)];refine .inl ⟨a - 1,_,by omega,rfl,t6,_,rfl,by simp;omega,w6,jy ho ?_⟩;refine ⟨⟨?_,?_⟩,⟨?_,?_⟩,⟨?_,?_⟩,?_,fun h=> ?_,fun _=> ?_⟩<;>simp only at* <;>omega
   |false=>
    obtain ⟨y6,t6,f6,p6,w6⟩:=et (n:=(a - 1)*20+(100+g)) (k:=6) (w3.mono (by omega)) (by omega);have f6:ak t3 (6:Int)=_:=f6;simp only [cond_false,Option.bind_some,f6];rw [iA (by omega)];refine .inl ⟨a - 1,_,by omega,rfl,t6,_,rfl,by simp;omega,w6,jy ho ?_⟩;refine ⟨⟨?_,?_⟩,⟨?_,?_⟩,⟨?_,?_⟩,?_,fun _=> ?_,fun h=> ?_⟩<;>simp only at* <;>omega) (1+x3)
  (((1+x3:Nat):Int),s3,([]:List Q4)) ⟨s3,[],rfl,rfl,o3.mono (by omega),fun _ h=>by cases h⟩
 obtain ⟨s4,rs⟩:=r;obtain ⟨x5,s5,e5,q5,o5⟩:=et (n:=g) (h1.mono (by omega)) c1;have h2:rs.length=1+x3:=h2;have h3: ∀x∈rs,pC m c x:=h3;refine ⟨m,c,rs++[((m:Int) - 1,(x5:Int),-1,1)],s5,?_,⟨by omega,by omega,by omega,by omega,by simp;omega,jy h3 ?_⟩,o5⟩;have e1:ak s (4:Int)=_:=e1;have e2:ak s1 (3:Int)=_:=e2;have a1:=u6 (show x1≤1000 by omega);have a2:=u6 (show x2≤1000 by omega);rw [hm] at a1;rw [hc] at a2;have e5:ak s4 (c:Int)=_:=e5;unfold ft ka;simp only [e1,e2,Option.bind_some,a1,a2,hk,e3,u6 (show x3≤1000 by omega),e4,e5];rw [iA (by omega),nD (by omega)];rfl;refine ⟨⟨?_,?_⟩,⟨?_,?_⟩,⟨?_,?_⟩,?_,fun _=> ?_,fun h=> ?_⟩<;>simp only at* <;>omega
theorem Hg {g:Nat}{s:lI}(hs:cr (100+g) s): ∃(w:List Int) (s':lI),iN s=some (w,s')∧w.length≤5∧cr g s':=by
 obtain ⟨x1,s1,e1,q1,o1⟩:=et (n:=50+g) (k:=6) (hs.mono (by omega)) (by omega);obtain ⟨r,e4,h1,h2⟩:=dX (f:=jc) (fun a st=> ∃(s:lI) (out:List Int),st=((a:Int),s,out)∧a+out.length=x1∧cr (a*2+g) s)
  (fun r=>cr g r.1∧r.2.length=x1) (by
   rintro a st ⟨s,out,rfl,ha,hs⟩;unfold jc;by_cases h0:a=0;subst h0;exact .inr ⟨_,rfl,hs.mono (by omega),by show out.length=_;omega⟩;obtain ⟨y1,t1,f1,p1,w1⟩:=et (n:=(a - 1)*2+g) (k:=2) (hs.mono (by omega)) (by omega);have f1:ak s (2:Int)=_:=f1;simp only [Xs (show 1≤a by omega),cond_true,f1,Option.bind_some,QB (show 1≤a by omega) (show a≤1000000 by omega)];rw [iA (by omega)];exact .inl ⟨a - 1,_,by omega,rfl,t1,_,rfl,by simp;omega,w1⟩) x1
  ((x1:Int),s1,([]:List Int)) ⟨s1,[],rfl,rfl,o1.mono (by omega)⟩
 obtain ⟨s4,w⟩:=r;have h2:w.length=x1:=h2;refine ⟨w,s4,?_,by omega,h1⟩;have e1:ak s (6:Int)=_:=e1;unfold iN;simp only [e1,Option.bind_some,e4]
theorem ES {g m c:Nat}{s:lI}(m1:1≤m)(m2:m≤6)(c1:1≤c)(c2:c≤3)(hs:cr (100+g) s):
 ∃nx es s',dJ s (m:Int) (c:Int)=some (((m:Int),(c:Int),nx,es),s')∧nK (m:Int) (c:Int) nx es=true∧cr g s':=by
 have Xr:m*c≤6*3:=Nat.mul_le_mul m2 c2;obtain ⟨r,er,r1,r2,r3⟩:=dX (f:=eF (m:Int)) (fun a st=> ∃(s:lI) (out:List Int),st=((a:Int),s,out)∧a+out.length=m*c∧cr (a*2+(50+g)) s∧ ∀i,i<out.length→0≤out.getD i 0∧out.getD i 0<(m:Int))
  (fun r=>cr (50+g) r.1∧r.2.length=m*c∧ ∀i,i<r.2.length→0≤r.2.getD i 0∧r.2.getD i 0<(m:Int)) (by
   rintro a st ⟨s,out,rfl,ha,hs,ho⟩;unfold eF;by_cases h0:a=0;subst h0;have hd:decide (((0:Nat):Int)>(0:Int))=false:=by simp
   simp only [hd,cond_false];exact .inr ⟨_,rfl,hs.mono (by omega),by show out.length=_;omega,ho⟩;have hd:decide ((a:Int)>(0:Int))=true:=by simp;omega
   obtain ⟨x,s',e,x1,x2,o⟩:=AT (n:=(a - 1)*2+(50+g)) (hs.mono (by omega)) (m:Int);have e1:a7 .i64 (a:Int) 1=((a - 1:Nat):Int):=by rw [nD (by omega)];omega
   simp only [hd,cond_true,e,Option.bind_some,e1];rw [guard_pos (by simp only [List.length_cons,List.length_nil,av];omega)];refine .inl ⟨a - 1,_,by omega,rfl,s',out++[x],rfl,by simp;omega,o,fun i hi=> ?_⟩;rw [Kr];split;rename_i Q2;exact ho i Q2;have:i - out.length=0:=by simp at hi;omega
   rw [this];show 0≤x∧x<(m:Int);omega) (m*c) (((m*c:Nat):Int),s,([]:List Int)) ⟨s,[],rfl,by simp,hs.mono (by omega),fun i hi=>by simp at hi⟩
 obtain ⟨q,eq,q1,q2⟩:=dX (f:=eE (m:Int)) (fun a st=> ∃(i:Nat) (s:lI) (out:List Bool),a+i=m∧st=((i:Int),s,out)∧out.length=i∧cr (a*2+g) s)
  (fun r=>cr g r.1∧r.2.length=m) (by
   rintro a st ⟨i,s,out,ha,rfl,hl,hs⟩;unfold eE bz;by_cases h0:i<m;obtain ⟨x,s',e,_,_,o⟩:=AT (n:=(a - 1)*2+g) (hs.mono (by omega)) (3:Int);simp only [qW h0,cond_true,e,Option.bind_some,dh h0 (show m≤4294967296 by omega)];rw [guard_pos (by simp only [List.length_cons,List.length_nil,av];omega)];exact .inl ⟨a - 1,_,by omega,rfl,i+1,s',_,by omega,rfl,by simp;omega,o⟩;have:i=m:=by omega
   subst this;simp only [rq (Nat.le_refl _),cond_false];exact .inr ⟨_,rfl,hs.mono (by omega),hl⟩) m ((0:Int),r.1,([]:List Bool)) ⟨0,r.1,[],by omega,rfl,rfl,r1.mono (by omega)⟩
 refine ⟨r.2,q.2,q.1,?_,sA m1 (by omega) c1 (by omega) r2 q2 r3,q1⟩;unfold dJ;rw [wR (by rw [←Int.natCast_mul];omega),←Int.natCast_mul,er];simp only [Option.bind_some];rw [eq];rfl
structure gn (m c:Nat)(nx:List Int)(es:List Bool):Prop where
 ok:nK (m:Int) (c:Int) nx es=true
 nl:nx.length≤64
theorem Kw {code:List Int}(h:xB code): ∃(m c:Nat) (zs:List Q4) (ss es:List Int) (pm pc:Nat) (nx:List Int) (pe:List Bool) (n gc:Nat) (rs:List Q4) (w:List Int),
 nG code=some (((m:Int),(c:Int),zs,ss,es),((pm:Int),(pc:Int),nx,pe),((n:Int),(gc:Int),rs),w)∧qw m c zs ss es∧gn pm pc nx pe∧sB n gc rs∧w.length≤5:=by
 obtain ⟨e0,o0⟩:=cr.from h
 obtain ⟨m,c,zs,ss,es,s1,e1,hM,o1⟩:=Ku (g:=100000) (o0.mono (by omega));obtain ⟨x1,s2,e2,q2,o2⟩:=et (n:=90000) (k:=6) (o1.mono (by omega)) (by omega);obtain ⟨x2,s3,e3,q3,o3⟩:=et (n:=80000) (k:=3) (o2.mono (by omega)) (by omega);obtain ⟨nx,pe,s4,e4,hP,o4⟩:=ES (g:=10000) (m:=1+x1) (c:=1+x2) (by omega) (by omega) (by omega) (by omega) (o3.mono (by omega));obtain ⟨n,gc,rs,s5,e5,hG,o5⟩:=Kv (g:=5000) (o4.mono (by omega));obtain ⟨w,s6,e6,hw,o6⟩:=Hg (g:=0) (o5.mono (by omega));refine ⟨m,c,zs,ss,es,1+x1,1+x2,nx,pe,n,gc,rs,w,?_,hM,⟨hP,?_⟩,hG,hw⟩;have e2:ak s1 (6:Int)=_:=e2;have e3:ak s2 (3:Int)=_:=e3;unfold nG mT jb;simp only [e0,Option.bind_some,e1,e2,e3,u6 (show x1≤1000 by omega),u6 (show x2≤1000 by omega),e4,e5,e6];obtain ⟨m',c',h1,h2,_,_,_,_,h3,_⟩:=tK hP;have:m'=1+x1:=by omega
 have:c'=1+x2:=by omega
 have:m'*c'≤6*3:=Nat.mul_le_mul (by omega) (by omega);omega
end Go.Proofs
namespace Go.Proofs
open Go.Ide Go.IntWalk
theorem zi: ∀(u:Nat) (b:UInt8),b∈Lib.decDigits u→48≤b.toNat∧b.toNat≤57:=by
 intro u;induction u using Nat.strongRecOn with
 |_ u ih=>
  intro b hb;by_cases hu:u<10;rw [Lib.decDigits,dif_pos hu] at hb;simp only [List.mem_singleton] at hb;subst hb;have e:(UInt8.ofNat (48+u)).toNat=48+u:=by rw [UInt8.toNat_ofNat',Nat.mod_eq_of_lt (by omega)]
  omega;rw [Lib.decDigits,dif_neg hu] at hb;rcases List.mem_append.1 hb with hb|hb
  exact ih (u/10) (by omega) b hb;simp only [List.mem_singleton] at hb;subst hb;have e:(UInt8.ofNat (48+u%10)).toNat=48+u%10:=by rw [UInt8.toNat_ofNat',Nat.mod_eq_of_lt (by omega)]
  omega
theorem nf {n:Int}{b:UInt8}(hb:b∈Lib.itoa n):b.toNat=45∨(48≤b.toNat∧b.toNat≤57):=by
 unfold Lib.itoa at hb;split at hb;rcases List.mem_cons.1 hb with rfl|hb
 exact .inl rfl;exact .inr (zi _ b hb);exact .inr (zi _ b hb)
theorem zj (n:Int): ∃b r,Lib.itoa n=b::r:=by
 unfold Lib.itoa;split;exact ⟨_,_,rfl⟩;obtain ⟨b,r,h,_⟩:=xy n.toNat;exact ⟨b,r,h⟩
theorem xC {p:List UInt8}{b:UInt8}: ∀{l:List (List UInt8)},b∈jn p l→b∈p∨ ∃x∈l,b∈x
 |[],h=>by cases h
 |[x],h=> .inr ⟨x,by simp,h⟩
 |x::y::r,h=>by
  unfold jn at h;rcases List.mem_append.1 h with h|h
  rcases List.mem_append.1 h with h|h
  exact .inr ⟨x,by simp,h⟩;exact .inl h;rcases xC h with h|⟨z,hz,h⟩
  exact .inl h;exact .inr ⟨z,List.mem_cons_of_mem _ hz,h⟩
theorem xD {c:UInt8}: ∀{l:List (List UInt8)},l≠[]→(∀x∈l,∀b∈x,b≠c)→gz c (jn [c] l)=l
 |[],h,_=>absurd rfl h
 |[x],_,h=>n5 (h x (by simp))
 |x::y::r,_,h=>by
  have ih:=xD (c:=c) (l:=y::r) (by simp) fun z hz=>h z (List.mem_cons_of_mem _ hz);unfold jn;rw [List.append_assoc,List.singleton_append,rh,ih,n5 (h x (by simp))];rfl
theorem nh {xs:List Int}{b:UInt8}(hb:b∈tx xs):44≤b.toNat∧b.toNat≠59:=by
 unfold tx at hb;split at hb;simp only [List.mem_cons,List.not_mem_nil,or_false] at hb;rcases hb with rfl|rfl|rfl|rfl<;>decide
 rcases xC hb with h|⟨x,hx,h⟩
 simp only [List.mem_singleton] at h;subst h;decide;obtain ⟨n,_,rfl⟩:=List.mem_map.1 hx;have:=nf h;omega
theorem ll {b c:UInt8}(h:b.toNat≠c.toNat):b≠c:=fun e=>h (by rw [e])
theorem xE {xs:List Int}(h:bL xs=true):pB (tx xs)=(xs,true):=by
 unfold bL at h;simp only [Bool.and_eq_true,decide_eq_true_eq,ae] at h;have hv:=mE.1 h.1;unfold pB tx;by_cases e:xs=[];rw [if_pos e,e];rfl;rw [if_neg e];have cX:xs.map Lib.itoa≠[]:=by simpa using e
 have hp:gz 44 (jn [44] (xs.map Lib.itoa))=xs.map Lib.itoa:=xD cX fun x hx b hb=>by
  obtain ⟨n,_,rfl⟩:=List.mem_map.1 hx;have:=nf hb;exact ll (by show b.toNat≠44;omega)
 have hq:(jn [44] (xs.map Lib.itoa)==[110,111,110,101])=false:=by
  rw [beq_eq_false_iff_ne];obtain ⟨n,r,rfl⟩: ∃n r,xs=n::r:=by cases xs with|nil=>exact absurd rfl e|cons n r=>exact ⟨n,r,rfl⟩
  obtain ⟨b,t,hb⟩:=zj n;have h1:b.toNat=45∨(48≤b.toNat∧b.toNat≤57):=nf (n:=n) (by rw [hb];simp);have h2: ∃t',jn [44] ((n::r).map Lib.itoa)=b::t':=by
   rw [List.map_cons,hb];cases r with
   |nil=>exact ⟨t,rfl⟩
   |cons=>exact ⟨_,rfl⟩
  obtain ⟨t',h2⟩:=h2;rw [h2];intro q;injection q with q;subst q;have:(110:UInt8).toNat=110:=rfl;omega
 have h3:AS (xs.map Lib.itoa)=true:=by
  unfold AS;rw [List.all_eq_true];intro p hp;obtain ⟨n,hn,rfl⟩:=List.mem_map.1 hp;rw [AR (hv n hn)]
 have h4:MR (xs.map Lib.itoa)=xs:=by
  unfold MR;rw [List.map_map]
  conv=>rhs;rw [←List.map_id xs]
  exact List.map_congr_left fun n hn=>by show (mb (Lib.itoa n)).1=n;rw [AR (hv n hn)]
 rw [hq,cond_false,hp,h3,h4,List.length_map,decide_eq_true (show xs.length≤64 by omega)];rfl
theorem ln {xs:List Int}(h: ∀x∈xs,-1000≤x∧x≤1000000)(hl:xs.length≤64):bL xs=true:=by
 unfold bL;rw [Bool.and_eq_true,mE];refine ⟨fun x hx=> ?_,by simp only [ae,decide_eq_true_eq];omega⟩;have:=h x hx;omega
theorem AU {s l:Nat}(hs:s≤64)(hl:l≤64):bL [(s:Int),(l:Int)]=true:=Qy (by omega) (by omega)
theorem xF {zs:List Q4}{lo hi:Int}(h: ∀r∈zs,(lo≤r.1∧r.1≤hi)∧(lo≤r.2.1∧r.2.1≤hi)∧(lo≤r.2.2.1∧r.2.2.1≤hi)∧lo≤r.2.2.2∧r.2.2.2≤hi): ∀x∈cq zs,lo≤x∧x≤hi:=fun x hx=>by
 unfold cq at hx;obtain ⟨r,hr,hx⟩:=List.mem_flatMap.1 hx;obtain ⟨a,b,c,d⟩:=h r hr;simp only [List.mem_cons,List.not_mem_nil,or_false] at hx;rcases hx with rfl|rfl|rfl|rfl<;>assumption
theorem Ge: ∀(zs:List Q4) (k:Nat),k<zs.length→q4 (cq zs) k=zs.getD k (0,0,0,0)
 |[],k,h=>by simp at h
 |r::zs,0,_=>rfl
 |r::zs,k+1,h=>by
  have ih:=Ge zs k (by simpa using h);rw [List.getD_cons_succ,←ih];have e:cq (r::zs)=r.1::r.2.1::r.2.2.1::r.2.2.2::cq zs:=rfl;rw [e];unfold q4;rw [show 4*(k+1)=4*k+1+1+1+1 by omega,show 4*k+1+1+1+1+1=(4*k+1)+1+1+1+1 by omega,show 4*k+1+1+1+1+2=(4*k+2)+1+1+1+1 by omega,show 4*k+1+1+1+1+3=(4*k+3)+1+1+1+1 by omega];simp only [List.getD_cons_succ]
theorem CT (zs:List Q4):CQ (cq zs) zs.length=zs:=by
 unfold CQ;apply List.ext_getElem;simp;intro i h1 h2;rw [List.getElem_map,List.getElem_range,Ge zs i h2,List.getD_eq_getElem?_getD,List.getElem?_eq_getElem h2];rfl
theorem T8 {a0 a1 a2 a3:List Int}(h0:bL a0=true)(h1:bL a1=true)(h2:bL a2=true)(h3:bL a3=true):
 dq (jn [59] [tx a0,tx a1,tx a2,tx a3]) 4=some ([a0,a1,a2,a3],true):=by
 have hp:gz 59 (jn [59] [tx a0,tx a1,tx a2,tx a3])=[tx a0,tx a1,tx a2,tx a3]:=xD (by simp) fun x hx b hb=>by
  simp only [List.mem_cons,List.not_mem_nil,or_false] at hx;rcases hx with rfl|rfl|rfl|rfl<;>exact ll (nh hb).2
 have hl:(jn [59] [tx a0,tx a1,tx a2,tx a3]).length≤4*(1412+1):=sy (p:=[59]) _ fun x hx=>by
  simp only [List.mem_cons,List.not_mem_nil,or_false] at hx;rcases hx with rfl|rfl|rfl|rfl<;>apply vu<;>assumption
 rw [xA (by omega),hp];simp only [List.all_cons,List.all_nil,xE h0,xE h1,xE h2,xE h3,List.map_cons,List.map_nil,Bool.and_self,cond_true];rfl
theorem NV {a0 a1:List Int}(h0:bL a0=true)(h1:bL a1=true):dq (jn [59] [tx a0,tx a1]) 2=some ([a0,a1],true):=by
 have hp:gz 59 (jn [59] [tx a0,tx a1])=[tx a0,tx a1]:=xD (by simp) fun x hx b hb=>by
  simp only [List.mem_cons,List.not_mem_nil,or_false] at hx;rcases hx with rfl|rfl<;>exact ll (nh hb).2
 have hl:(jn [59] [tx a0,tx a1]).length≤2*(1412+1):=sy (p:=[59]) _ fun x hx=>by
  simp only [List.mem_cons,List.not_mem_nil,or_false] at hx;rcases hx with rfl|rfl<;>apply vu<;>assumption
 rw [xA (by omega),hp];simp only [List.all_cons,List.all_nil,xE h0,xE h1,List.map_cons,List.map_nil,Bool.and_self,cond_true];rfl
def Clean (t:List UInt8):Prop:= ∀b∈t,b≠10∧b≠32
theorem iB {t:List UInt8}(h: ∀b∈t,44≤b.toNat):Clean t:=fun b hb=>⟨ll (by have:=h b hb;show b.toNat≠10;omega),ll (by have:=h b hb;show b.toNat≠32;omega)⟩
theorem Kx {l:List (List UInt8)}(h: ∀x∈l,∀b∈x,44≤b.toNat): ∀b∈jn [59] l,44≤b.toNat:=fun b hb=>by
 rcases xC hb with h1|⟨x,hx,h1⟩
 simp only [List.mem_singleton] at h1;subst h1;decide;exact h x hx b h1
theorem Ky {x y:List UInt8}{r:List (List UInt8)}:(59:UInt8)∈jn [59] (x::y::r):=by
 unfold jn;simp
def Kz (t:List UInt8):Prop:=(t==[110,111])=false∧(t==[119,104,97,116])=false
theorem AV {t:List UInt8}(h:(59:UInt8)∈t):Kz t:=by
 constructor<;>rw [beq_eq_false_iff_ne]<;>rintro rfl<;>exact absurd h (by decide)
theorem Gf (xs:List Int):Kz (tx xs):=by
 unfold tx;split;exact ⟨rfl,rfl⟩;rename_i e;obtain ⟨n,r,rfl⟩: ∃n r,xs=n::r:=by cases xs with|nil=>exact absurd rfl e|cons n r=>exact ⟨n,r,rfl⟩
 obtain ⟨b,t,hb⟩:=zj n;have h1:b.toNat=45∨(48≤b.toNat∧b.toNat≤57):=nf (n:=n) (by rw [hb];simp);have h2: ∃t',jn [44] ((n::r).map Lib.itoa)=b::t':=by
  rw [List.map_cons,hb];cases r with
  |nil=>exact ⟨t,rfl⟩
  |cons=>exact ⟨_,rfl⟩
 obtain ⟨t',h2⟩:=h2;rw [h2];constructor<;>rw [beq_eq_false_iff_ne]<;>intro q<;>injection q with q<;>subst q
 have:(110:UInt8).toNat=110:=rfl;omega;have:(119:UInt8).toNat=119:=rfl;omega
theorem Hh (n:Int):Kz (Lib.itoa n):=by
 have:=Gf [n];unfold tx at this;rw [if_neg (by simp)] at this;exact this
theorem lq (n:Int):Clean (Lib.itoa n):=iB fun b hb=>by have:=nf hb;omega
theorem tL (xs:List Int):Clean (tx xs):=iB fun b hb=>(nh hb).1
section
variable {m c:Nat} {zs:List Q4} {ss es:List Int}
def n7 (m c:Nat)(zs:List Q4)(ss es:List Int):List UInt8:=jn [59] [tx [(m:Int),(c:Int)],tx ss,tx es,tx (cq zs)]
theorem qw.vals (h:qw m c zs ss es):bL [(m:Int),(c:Int)]=true∧bL ss=true∧bL es=true∧bL (cq zs)=true:=by
 have h1:=h.m2;have h2:=h.c2;have h3:=h.sl;have h4:=h.el;have h5:=h.zl;have h6:=lj zs;refine ⟨AU (by omega) (by omega),ln (fun x hx=>by have:=h.sv x hx;omega) (by omega),ln (fun x hx=>by have:=h.ev x hx;omega) (by omega),ln (xF fun r hr=> ?_) (by omega)⟩;obtain ⟨a,b,d,e⟩:=h.Ks r hr;exact ⟨by omega,by omega,by omega,by omega⟩
theorem CU (h:qw m c zs ss es):fD ((m:Int),(c:Int),zs,ss,es)=some (n7 m c zs ss es,true):=by
 obtain ⟨v1,v2,v3,v4⟩:=h.vals;have h3:=h.sl;have h4:=h.el;have h5:=h.zl;have h6:=lj zs;have:=h.m2;unfold fD;simp only [h.valid,Option.bind_some,Bool.not_true,cond_false,Kk (show zs.length≤1048576 by omega)];rw [nZ (by simp) (fun l hl=>by
  simp only [List.mem_cons,List.not_mem_nil,or_false] at hl;rcases hl with rfl|rfl|rfl|rfl
  simp;omega;omega;omega)]
 simp only [List.all_cons,v1,v2,v3,v4,List.all_nil,Bool.and_self,cond_true,Option.bind_some];rfl
theorem KA (h:qw m c zs ss es):fN (n7 m c zs ss es)=some (((m:Int),(c:Int),zs,ss,es),true):=by
 obtain ⟨v1,v2,v3,v4⟩:=h.vals;have h5:=h.zl;have h6:=lj zs;unfold fN n7;rw [T8 v1 v2 v3 v4];simp only [Option.bind_some,Bool.not_true,cond_false,show ((0:Int)≤0∧(0:Int)<ae [[(m:Int),(c:Int)],ss,es,cq zs]) from ⟨by omega,by simp [ae]⟩,show ((0:Int)≤1∧(1:Int)<ae [[(m:Int),(c:Int)],ss,es,cq zs]) from ⟨by omega,by simp [ae]⟩,
  show ((0:Int)≤2∧(2:Int)<ae [[(m:Int),(c:Int)],ss,es,cq zs]) from ⟨by omega,by simp [ae]⟩,show ((0:Int)≤3∧(3:Int)<ae [[(m:Int),(c:Int)],ss,es,cq zs]) from ⟨by omega,by simp [ae]⟩,ai,and_self,if_true,
  show List.getD [[(m:Int),(c:Int)],ss,es,cq zs] (Int.toNat 0) []=[(m:Int),(c:Int)] from rfl,show List.getD [[(m:Int),(c:Int)],ss,es,cq zs] (Int.toNat 1) []=ss from rfl,show List.getD [[(m:Int),(c:Int)],ss,es,cq zs] (Int.toNat 2) []=es from rfl,show List.getD [[(m:Int),(c:Int)],ss,es,cq zs] (Int.toNat 3) []=cq zs from rfl,
  show (ae [(m:Int),(c:Int)] != 2)=false from rfl,NT (xs:=cq zs),decide_eq_true (show (cq zs).length%4=0 by omega),
  show Int.toNat 1<[[(m:Int),(c:Int)],ss,es,cq zs].length from by simp,show Int.toNat 2<[[(m:Int),(c:Int)],ss,es,cq zs].length from by simp,show Int.toNat 3<[[(m:Int),(c:Int)],ss,es,cq zs].length from by simp,
  show ((0:Int)≤0∧(0:Int)<ae [(m:Int),(c:Int)]) from ⟨by omega,by simp [ae]⟩,show ((0:Int)≤1∧(1:Int)<ae [(m:Int),(c:Int)]) from ⟨by omega,by simp [ae]⟩,
  Kp (f:=jg) h6 (show zs.length≤1000000 by omega) (fun ys acc hy ha=>by unfold jg;exact Kq hy ha),CT]
 unfold lb;simp only [show List.getD [(m:Int),(c:Int)] (Int.toNat 0) 0=(m:Int) from rfl,show List.getD [(m:Int),(c:Int)] (Int.toNat 1) 0=(c:Int) from rfl,h.valid,Option.bind_some,Bool.not_true,cond_false]
theorem uB: ∀b∈n7 m c zs ss es,44≤b.toNat:=Kx fun x hx b hb=>by
 simp only [List.mem_cons,List.not_mem_nil,or_false] at hx;rcases hx with rfl|rfl|rfl|rfl<;>exact (nh hb).1
theorem xG (h:qw m c zs ss es):(n7 m c zs ss es).length≤6000:=by
 obtain ⟨v1,v2,v3,v4⟩:=h.vals;have:=sy (p:=[59]) (k:=1412) [tx [(m:Int),(c:Int)],tx ss,tx es,tx (cq zs)] fun x hx=>by
  simp only [List.mem_cons,List.not_mem_nil,or_false] at hx;rcases hx with rfl|rfl|rfl|rfl<;>apply vu<;>assumption
 unfold n7;simp only [List.length_cons,List.length_nil] at this;omega
end
section
variable {n c:Nat} {rs:List Q4}
def n8 (n c:Nat)(rs:List Q4):List UInt8:=jn [59] [tx [(n:Int),(c:Int)],tx (cq rs)]
theorem sB.vals (h:sB n c rs):bL [(n:Int),(c:Int)]=true∧bL (cq rs)=true:=by
 have h1:=h.n2;have h2:=h.c2;have h5:=h.rl;have h6:=lj rs;refine ⟨AU (by omega) (by omega),ln (xF fun r hr=> ?_) (by omega)⟩;obtain ⟨a,b,d,e,f,g⟩:=h.rules r hr;by_cases q:r.2.2.1<0;have:=f q;exact ⟨by omega,by omega,by omega,by omega⟩;have:=g (by omega);exact ⟨by omega,by omega,by omega,by omega⟩
theorem CW (h:sB n c rs):fE ((n:Int),(c:Int),rs)=some (n8 n c rs,true):=by
 obtain ⟨v1,v4⟩:=h.vals;have h5:=h.rl;have h6:=lj rs;unfold fE;simp only [h.valid,Option.bind_some,Bool.not_true,cond_false,Ha (show rs.length≤1048576 by omega)];rw [nZ (by simp) (fun l hl=>by
  simp only [List.mem_cons,List.not_mem_nil,or_false] at hl;rcases hl with rfl|rfl
  simp;omega)]
 simp only [List.all_cons,v1,v4,List.all_nil,Bool.and_self,cond_true,Option.bind_some];rfl
theorem KB (h:sB n c rs):fO (n8 n c rs)=some (((n:Int),(c:Int),rs),true):=by
 obtain ⟨v1,v4⟩:=h.vals;have h5:=h.rl;have h6:=lj rs;unfold fO n8;rw [NV v1 v4];simp only [Option.bind_some,Bool.not_true,cond_false,show ((0:Int)≤0∧(0:Int)<ae [[(n:Int),(c:Int)],cq rs]) from ⟨by omega,by simp [ae]⟩,show ((0:Int)≤1∧(1:Int)<ae [[(n:Int),(c:Int)],cq rs]) from ⟨by omega,by simp [ae]⟩,
  ai,and_self,if_true,
  show List.getD [[(n:Int),(c:Int)],cq rs] (Int.toNat 0) []=[(n:Int),(c:Int)] from rfl,show List.getD [[(n:Int),(c:Int)],cq rs] (Int.toNat 1) []=cq rs from rfl,
  show (ae [(n:Int),(c:Int)] != 2)=false from rfl,NT (xs:=cq rs),decide_eq_true (show (cq rs).length%4=0 by omega),
  show Int.toNat 1<[[(n:Int),(c:Int)],cq rs].length from by simp,
  show ((0:Int)≤0∧(0:Int)<ae [(n:Int),(c:Int)]) from ⟨by omega,by simp [ae]⟩,show ((0:Int)≤1∧(1:Int)<ae [(n:Int),(c:Int)]) from ⟨by omega,by simp [ae]⟩,
  Kp (f:=jh) h6 (show rs.length≤1000000 by omega) (fun ys acc hy ha=>by unfold jh;exact Kq hy ha),CT]
 unfold gI;simp only [show List.getD [(n:Int),(c:Int)] (Int.toNat 0) 0=(n:Int) from rfl,show List.getD [(n:Int),(c:Int)] (Int.toNat 1) 0=(c:Int) from rfl,h.valid,Option.bind_some,Bool.not_true,cond_false]
theorem uC: ∀b∈n8 n c rs,44≤b.toNat:=Kx fun x hx b hb=>by
 simp only [List.mem_cons,List.not_mem_nil,or_false] at hx;rcases hx with rfl|rfl<;>exact (nh hb).1
theorem xH (h:sB n c rs):(n8 n c rs).length≤3000:=by
 obtain ⟨v1,v4⟩:=h.vals;have:=sy (p:=[59]) (k:=1412) [tx [(n:Int),(c:Int)],tx (cq rs)] fun x hx=>by
  simp only [List.mem_cons,List.not_mem_nil,or_false] at hx;rcases hx with rfl|rfl<;>apply vu<;>assumption
 unfold n8;simp only [List.length_cons,List.length_nil] at this;omega
end
section
variable {m c:Nat} {nx:List Int} {es:List Bool}
def fh (es:List Bool):List UInt8:=es.map fun b=>bif b then 49 else 48
def b8 (m c:Nat)(nx:List Int)(es:List Bool):List UInt8:=jn [59] [tx [(m:Int),(c:Int)],tx nx]++[59]++fh es
theorem gn.facts (h:gn m c nx es):1≤m∧m≤64∧1≤c∧c≤4∧nx.length=m*c∧es.length=m∧(∀i,i<m*c→ ∃t:Nat,nx.getD i 0=(t:Int)∧t<m)∧ ∀x∈nx,0≤x∧x<(m:Int):=by
 obtain ⟨m',c',h1,h2,h3,h4,h5,h6,h7,h8,h9⟩:=tK h.ok;obtain rfl:m'=m:=by omega
 obtain rfl:c'=c:=by omega
 refine ⟨h3,h4,h5,h6,h7,h8,h9,fun x hx=> ?_⟩;obtain ⟨i,hi,rfl⟩:=List.getElem_of_mem hx;obtain ⟨t,e,ht⟩:=h9 i (by omega);rw [List.getD_eq_getElem?_getD,List.getElem?_eq_getElem hi] at e;have e:nx[i]=(t:Int):=e;omega
theorem gn.valid (h:gn m c nx es):ca ((m:Int),(c:Int),nx,es)=some true:=by
 have:=h.nl;rw [G8 (by omega),h.ok]
theorem gn.vals (h:gn m c nx es):bL [(m:Int),(c:Int)]=true∧bL nx=true:=by
 obtain ⟨h3,h4,h5,h6,h7,h8,h9,Ro⟩:=h.facts;exact ⟨AU (by omega) (by omega),ln (fun x hx=>by have:=Ro x hx;omega) h.nl⟩
theorem ET {s l:Int}{acc:List UInt8}(h:es.length≤1048576)(ha:acc.length≤1000000):rounds (eV (s,l,nx,es)) (acc,(0:Int))=some (acc++fh es):=by
 have:=lE (f:=eV (s,l,nx,es)) (fun i (t:List UInt8)=>(t,((i:Nat):Int))) (fun i t=>t++[bif es.getD i false then 49 else 48]) id (n:=es.length) (fun i t=>t=acc++fh (es.take i)) (fun i t hi ht=>⟨by
  have hl:t.length≤1000000+1048576:=by rw [ht,List.length_append];unfold fh;rw [List.length_map,List.length_take];omega
  unfold eV;simp only [show decide ((i:Int)<ae es)=true from qW hi,cond_true,guard_pos (kW hi),Int.toNat_natCast];cases es.getD i false with
  |true=>
   simp only [cond_true];rw [oM (by simp only [List.length_cons,List.length_nil];omega),dh hi (by omega)];rfl
  |false=>
   simp only [cond_false];rw [oM (by simp only [List.length_cons,List.length_nil];omega),dh hi (by omega)];rfl,by
  rw [ht,jP hi false];unfold fh;rw [List.map_append,List.append_assoc];rfl⟩) (fun t _=>by
  unfold eV;simp only [show decide (((es.length:Nat):Int)<ae es)=false from rq (Nat.le_refl _),cond_false];rfl) es.length 0 acc (by omega) (by simp [fh])
 rw [List.take_length] at this;have h1:=this.1;rw [this.2] at h1;exact h1
theorem zk (h:gn m c nx es):iq ((m:Int),(c:Int),nx,es)=some (b8 m c nx es,true):=by
 obtain ⟨v1,v4⟩:=h.vals;obtain ⟨h3,h4,h5,h6,h7,h8,h9,Ro⟩:=h.facts;have hn:=h.nl;have t1:=vu v1;have t2:=vu v4;have hl:(jn [59] [tx [(m:Int),(c:Int)],tx nx]).length≤3000:=by simp only [jn,List.length_append,List.length_cons,List.length_nil];omega
 unfold iq;simp only [h.valid,Option.bind_some,Bool.not_true,cond_false];rw [nZ (by simp) (fun l hl=>by
  simp only [List.mem_cons,List.not_mem_nil,or_false] at hl;rcases hl with rfl|rfl
  simp;omega)]
 simp only [List.all_cons,v1,v4,List.all_nil,Bool.and_self,cond_true,Option.bind_some,Bool.not_true,cond_false,List.map_cons,List.map_nil];rw [oM (by simp only [List.length_cons,List.length_nil];omega),ET (by omega) (by simp only [List.length_append,List.length_cons,List.length_nil];omega)];rfl
theorem zm: ∀b∈fh es,44≤b.toNat∧b.toNat≠59:=fun b hb=>by
 unfold fh at hb;obtain ⟨e,_,rfl⟩:=List.mem_map.1 hb;cases e<;>decide
theorem sC: ∀b∈b8 m c nx es,44≤b.toNat:=fun b hb=>by
 unfold b8 at hb;rcases List.mem_append.1 hb with hb|hb
 rcases List.mem_append.1 hb with hb|hb
 exact Kx (fun x hx b hb=>by
  simp only [List.mem_cons,List.not_mem_nil,or_false] at hx;rcases hx with rfl|rfl<;>exact (nh hb).1) b hb
 simp only [List.mem_singleton] at hb;subst hb;decide;exact (zm b hb).1
theorem qx (h:gn m c nx es):(b8 m c nx es).length≤3000:=by
 obtain ⟨v1,v4⟩:=h.vals;obtain ⟨h3,h4,h5,h6,h7,h8,h9,Ro⟩:=h.facts;have t1:=vu v1;have t2:=vu v4;unfold b8 fh;simp only [jn,List.length_append,List.length_cons,List.length_nil,List.length_map];omega
theorem Hi:((fh es).all fun b=>(CO b).2)=true∧((fh es).map fun b=>(CO b).1)=es:=by
 unfold fh;induction es with
 |nil=>exact ⟨rfl,rfl⟩
 |cons b es ih=>
  obtain ⟨h1,h2⟩:=ih;constructor;rw [List.map_cons,List.all_cons,h1];cases b<;>rfl;rw [List.map_cons,List.map_cons,h2];cases b<;>rfl
theorem Hj (h:gn m c nx es):iz (b8 m c nx es)=some (((m:Int),(c:Int),nx,es),true):=by
 obtain ⟨v1,v4⟩:=h.vals;obtain ⟨h3,h4,h5,h6,h7,h8,h9,Ro⟩:=h.facts;have hlen:=qx h;have SB:gz 59 (b8 m c nx es)=[tx [(m:Int),(c:Int)],tx nx]++[fh es]:=by
  unfold b8;rw [List.append_assoc,List.singleton_append,rh,n5 (c:=59) (b:=fh es) fun x hx=>ll (zm x hx).2,xD (by simp) fun x hx b hb=>by
   simp only [List.mem_cons,List.not_mem_nil,or_false] at hx;rcases hx with rfl|rfl<;>exact ll (nh hb).2]
 have hli:strings_LastIndexByte (b8 m c nx es) 59=some (Lib.lastIndexByte ⟨(b8 m c nx es).toArray⟩ 59):=by
  unfold strings_LastIndexByte;rw [guard_pos (by omega)]
 have Ys:b8 m c nx es=jn [59] [tx [(m:Int),(c:Int)],tx nx]++59::fh es:=by unfold b8;rw [List.append_assoc];rfl
 rcases Hd (b8 m c nx es) with ⟨_,h2⟩|⟨i,hi,h1,h2⟩
 rw [SB] at h2;have:=congrArg List.length h2;simp at this;rw [SB] at h2;obtain ⟨e1,e2⟩:=List.append_inj' h2 rfl;injection e2 with e2 _;have hti:(b8 m c nx es).take i=jn [59] [tx [(m:Int),(c:Int)],tx nx]:=by
  have VU:(fh es).length=(b8 m c nx es).length - (i+1):=by rw [e2,List.length_drop]
  have QR:(b8 m c nx es).length=(jn [59] [tx [(m:Int),(c:Int)],tx nx]).length+((fh es).length+1):=by rw [Ys];simp
  have:i=(jn [59] [tx [(m:Int),(c:Int)],tx nx]).length:=by omega
  rw [Ys,this,List.take_left]
 have zJ:cut (b8 m c nx es) 0 (i:Int)=jn [59] [tx [(m:Int),(c:Int)],tx nx]:=by rw [←hti];unfold cut;simp
 have hw:aj .i64 (i:Int) 1=((i+1:Nat):Int):=dh hi (by omega);have T9:cut (b8 m c nx es) (aj .i64 (i:Int) 1) (ae (b8 m c nx es))=fh es:=by
  rw [hw,e2];unfold cut;simp only [ae,Int.toNat_natCast];rw [List.take_of_length_le];rw [List.length_drop];omega
 have lr:(fh es).length≤3000:=by unfold fh;rw [List.length_map];omega
 obtain ⟨r1,r2⟩:=Hi (es:=es);have g1:Int.toNat 1<[[(m:Int),(c:Int)],nx].length:=by simp
 have g2:(0:Int)≤aj .i64 (i:Int) 1∧aj .i64 (i:Int) 1≤ae (b8 m c nx es):=by rw [hw];simp only [ae];omega
 have g3:(cut (b8 m c nx es) (aj .i64 (i:Int) 1) (ae (b8 m c nx es))).length≤av:=by rw [T9];unfold av;omega
 unfold iz;rw [hli,Option.bind_some,h1,show decide ((i:Int)<0)=false by simp only [decide_eq_false_iff_not];omega,cond_false,guard_pos (show (0:Int)≤(i:Int)∧(i:Int)≤ae (b8 m c nx es) from ⟨by omega,by simp only [ae];omega⟩),zJ,NV v1 v4];simp only [Option.bind_some,Bool.not_true,cond_false,show ((0:Int)≤0∧(0:Int)<ae [[(m:Int),(c:Int)],nx]) from ⟨by omega,by simp [ae]⟩,show ((0:Int)≤1∧(1:Int)<ae [[(m:Int),(c:Int)],nx]) from ⟨by omega,by simp [ae]⟩,ai,and_self,if_true,
  show List.getD [[(m:Int),(c:Int)],nx] (Int.toNat 0) []=[(m:Int),(c:Int)] from rfl,show List.getD [[(m:Int),(c:Int)],nx] (Int.toNat 1) []=nx from rfl,show (ae [(m:Int),(c:Int)] != 2)=false from rfl,
  show ((0:Int)≤0∧(0:Int)<ae [(m:Int),(c:Int)]) from ⟨by omega,by simp [ae]⟩,show ((0:Int)≤1∧(1:Int)<ae [(m:Int),(c:Int)]) from ⟨by omega,by simp [ae]⟩,g1,g2,g3,
  He T9 (show (fh es).length≤1048576 by omega),r1,r2,cond_true,show List.getD [(m:Int),(c:Int)] (Int.toNat 0) 0=(m:Int) from rfl,show List.getD [(m:Int),(c:Int)] (Int.toNat 1) 0=(c:Int) from rfl,h.valid]
end
end Go.Proofs
namespace Go.Proofs
open Go.Ide Go.IntWalk
theorem CX (x:Int):gX (IntKind.wrap .i64 x):=by
 unfold gX;rw [IntKind.wrap_i64];omega
theorem Hk: ∀n:Fin 65,lW 1 ((n.val:Nat):Int)=some (0,((n.val:Nat):Int)):=by decide+kernel
theorem CY {n:Nat}(h:n≤64):jv (IntKind.wrap .u64 (ae [(1099511627776:Int)])) (IntKind.wrap .u64 ((n:Nat):Int))=some (0,(n:Int)):=by
 have e1:IntKind.wrap .u64 (ae [(1099511627776:Int)])=1:=rfl;have e2:IntKind.wrap .u64 ((n:Nat):Int)=(n:Int):=by
  unfold IntKind.wrap;simp only [IntKind.bits,IntKind.signed,Bool.false_and,Bool.false_eq_true,if_false];omega
 unfold jv;rw [e1,e2,Hk ⟨n,by omega⟩];rfl
theorem Hl {n:Nat}(h1:1≤n)(h2:n≤64): ∃r,aY [(1099511627776:Int)] (n:Int)=some r∧r.length=n:=by
 have bf:(List.replicate n (0:Int)).length=n:=List.length_replicate;obtain ⟨r,e,hr⟩:=dX (f:=bI) (fun d s=> ∃k:Nat,s.1=(k:Int)∧1≤k∧k≤n∧d=n - k∧s.2.length=n) (fun r=>r.length=n) (by
  rintro d ⟨s1,s2⟩ ⟨k,hk,k1,k2,rfl,hl⟩;have hk:s1=(k:Int):=hk;have hl:s2.length=n:=hl;subst hk;unfold bI;by_cases hlt:k<n;have e1:(List.take k (List.drop 0 s2)).length=k:=by simp;omega
  have uc:Nat.min k (n - k)=if k≤n - k then k else n - k:=Nat.min_def
  simp only [show decide ((k:Int)<ae s2)=true by simp only [ae,decide_eq_true_eq];omega,cond_true,guard_pos (show (0:Int)≤(k:Int)∧(k:Int)≤ae s2 from ⟨by omega,by simp only [ae];omega⟩)];simp only [Int.toNat_natCast,e1,ae,hl];have hw:aj .i64 (k:Int) ((Nat.min k (n - k):Nat):Int)=((k+Nat.min k (n - k):Nat):Int):=by
   rw [eQ (by rw [uc];split<;>omega)];omega
  rw [hw];refine .inl ⟨n - (k+Nat.min k (n - k)),(_,_),?_,rfl,k+Nat.min k (n - k),rfl,by omega,?_,rfl,?_⟩;rw [uc];split<;>omega;rw [uc];split<;>omega;show (List.take k s2++List.take (Nat.min k (n - k)) (List.take k (List.drop 0 s2))++List.drop (k+Nat.min k (n - k)) s2).length=n;simp only [List.length_append,List.length_take,List.length_drop,hl,uc];split<;>omega;simp only [show decide ((k:Int)<ae s2)=false by simp only [ae,decide_eq_false_iff_not];omega,cond_false];exact .inr ⟨_,rfl,hl⟩) (n - 1)
  ((((Nat.min ([(1099511627776:Int)]).length (List.replicate n (0:Int)).length:Nat)):Int),List.take 0 (List.replicate n (0:Int))++List.take (Nat.min ([(1099511627776:Int)]).length (List.replicate n (0:Int)).length) [(1099511627776:Int)]++List.drop (0+Nat.min ([(1099511627776:Int)]).length (List.replicate n (0:Int)).length) (List.replicate n (0:Int)))
  ⟨1,by
   show (((Nat.min 1 (List.replicate n (0:Int)).length:Nat)):Int)=_;rw [bf,show Nat.min 1 n=1 from Nat.min_eq_left h1],Nat.le_refl _,h1,rfl,by
   show (List.take 0 (List.replicate n (0:Int))++List.take (Nat.min 1 (List.replicate n (0:Int)).length) [(1099511627776:Int)]++List.drop (0+Nat.min 1 (List.replicate n (0:Int)).length) (List.replicate n (0:Int))).length=n;rw [bf,show Nat.min 1 n=1 from Nat.min_eq_left h1];simp;omega⟩
 refine ⟨r,?_,hr⟩;unfold aY;have hw:IntKind.wrap .i64 ((n:Nat):Int)=(n:Int):=i64_in _ (by omega);rw [show decide ((n:Int)<0)=false by simp only [decide_eq_false_iff_not];omega,cond_false,CY h2];simp only [Option.bind_some,show decide ((0:Int)>0)=false from rfl,cond_false,show decide ((n:Int)>9223372036854775807)=false by simp only [decide_eq_false_iff_not];omega,hw,Int.toNat_natCast];rw [guard_pos (by omega),e];rfl
theorem iD {α:Type}{xs:List α}(h:xs.length≤1000000):slices_Clone xs=some xs:=by
 unfold slices_Clone;rw [guard_pos (by unfold av;omega)]
theorem xI {xs:List Int}(h:xs.length≤1000): ∃r,kj xs=some r∧r.length=xs.length:=by
 obtain ⟨r,e,hr⟩:=cO (f:=gy xs) (fun i s=>(((i:Nat):Int),s)) (fun _ s=>s.length=xs.length) (fun r=>r.length=xs.length) (n:=xs.length) (fun i s hi hs=>by
  unfold gy;simp only [show decide ((i:Int)<ae xs)=true from qW hi,cond_true,guard_pos (show (0:Int)≤(i:Int)∧(i:Int)<ae s from ⟨by omega,by simp only [ae];omega⟩),dh hi (show xs.length≤4294967296 by omega)];cases decide (List.getD s (Int.toNat (i:Int)) 0<0) with
  |true=>exact ⟨_,rfl,by rw [List.length_set];exact hs⟩
  |false=>exact ⟨_,rfl,hs⟩) (fun s hs=>by
  unfold gy;simp only [show decide (((xs.length:Nat):Int)<ae xs)=false from rq (Nat.le_refl _),cond_false];exact ⟨_,rfl,hs⟩) xs.length 0 xs (by omega) rfl
 refine ⟨r,?_,hr⟩;unfold kj;rw [iD (by omega),Option.bind_some];have e:rounds (gy xs) ((0:Int),xs)=some r:=e;rw [e];rfl
section
variable {m c:Nat} {zs:List Q4} {ss es:List Int} (h:qw m c zs ss es)
include h
theorem CZ {cs:List Int}(hl:cs.length=m): ∃r,mY ((m:Int),(c:Int),zs,ss,es) cs=some r∧r.length=m:=by
 have hz:=h.zl;have hm:=h.m2;have inner: ∀s:List Int,s.length=m→ ∃r,rounds (jt ((m:Int),(c:Int),zs,ss,es)) ((0:Int),s)=some r∧r.length=m:=fun s hs=>
  cO (f:=jt ((m:Int),(c:Int),zs,ss,es)) (fun i s=>(((i:Nat):Int),s)) (fun _ s=>s.length=m) (fun r=>r.length=m) (n:=zs.length) (fun i s hi hs=>by
   obtain ⟨a,b,d,_⟩:=h.Ks _ (dQ (d:=(0,0,0,0)) hi);unfold jt;simp only [show decide ((i:Int)<ae zs)=true from qW hi,cond_true,guard_pos (kW hi),Int.toNat_natCast,Option.bind_some,dh hi (show zs.length≤4294967296 by omega)];cases decide ((zs.getD i (0,0,0,0)).2.2.1<0) with
   |true=>
    simp only [cond_true];rw [guard_pos (by simp only [ae];omega),guard_pos (by simp only [ae];omega)];exact ⟨_,rfl,by rw [List.length_set];exact hs⟩
   |false=>exact ⟨_,rfl,hs⟩) (fun s hs=>by
   unfold jt;simp only [show decide (((zs.length:Nat):Int)<ae zs)=false from rq (Nat.le_refl _),cond_false];exact ⟨_,rfl,hs⟩) zs.length 0 s (by omega) hs
 obtain ⟨r,e,hr⟩:=cO (f:=ju ((m:Int),(c:Int),zs,ss,es) cs) (fun i s=>(((i:Nat):Int),s)) (fun _ s=>s.length=m) (fun r=>r.length=m) (n:=cs.length) (fun i s hi hs=>by
  obtain ⟨r,e,hr⟩:=inner s hs;unfold ju;simp only [show decide ((i:Int)<ae cs)=true from qW hi,cond_true,e,Option.bind_some,dh hi (show cs.length≤4294967296 by omega)];exact ⟨_,rfl,hr⟩) (fun s hs=>by
  unfold ju;simp only [show decide (((cs.length:Nat):Int)<ae cs)=false from rq (Nat.le_refl _),cond_false];exact ⟨_,rfl,hs⟩) cs.length 0 cs (by omega) hl
 have e:rounds (ju ((m:Int),(c:Int),zs,ss,es) cs) ((0:Int),cs)=some r:=e;refine ⟨r,?_,hr⟩;unfold mY;rw [e,Option.bind_some,guard_pos (by omega)]
theorem MT {cs:List Int}(hl:cs.length=m)(a:Int): ∃r,qZ ((m:Int),(c:Int),zs,ss,es) cs a=some r∧r.length=m:=by
 have hz:=h.zl;have hm:=h.m2;obtain ⟨y,ey,hy⟩:=Hl (n:=cs.length) (by have:=h.m1;omega) (by omega);obtain ⟨r,e,hr⟩:=cO (f:=kn ((m:Int),(c:Int),zs,ss,es) cs a) (fun i s=>(((i:Nat):Int),s)) (fun _ s=>s.length=m) (fun r=>r.length=m) (n:=zs.length) (fun i s hi hs=>by
  obtain ⟨p,q,_,_⟩:=h.Ks _ (dQ (d:=(0,0,0,0)) hi);unfold kn;simp only [show decide ((i:Int)<ae zs)=true from qW hi,cond_true,guard_pos (kW hi),Int.toNat_natCast,Option.bind_some,dh hi (show zs.length≤4294967296 by omega)];cases ((zs.getD i (0,0,0,0)).2.2.1==a) with
  |true=>
   simp only [cond_true];rw [guard_pos (by simp only [ae];omega),guard_pos (by simp only [ae];omega)];exact ⟨_,rfl,by rw [List.length_set];exact hs⟩
  |false=>exact ⟨_,rfl,hs⟩) (fun s hs=>by
  unfold kn;simp only [show decide (((zs.length:Nat):Int)<ae zs)=false from rq (Nat.le_refl _),cond_false];exact ⟨_,rfl,hs⟩) zs.length 0 y (by omega) (by omega)
 have e:rounds (kn ((m:Int),(c:Int),zs,ss,es) cs a) ((0:Int),y)=some r:=e;obtain ⟨r2,e2,Hv⟩:=CZ h hr;refine ⟨r2,?_,Hv⟩;unfold qZ;have ey:aY [(1099511627776:Int)] (ae cs)=some y:=ey;rw [ey,Option.bind_some,e,Option.bind_some];simp only [e2,Option.bind_some]
theorem KC {w:List Int}(hw:w.length≤1000): ∃n,nI ((m:Int),(c:Int),zs,ss,es) w=some n∧gX n:=by
 have hm:=h.m2;have hs:=h.sl;have he:=h.el;obtain ⟨y1,e1,h1⟩:=xI (xs:=ss) (by omega);obtain ⟨y2,e2,h2⟩:=CZ h (cs:=y1) (by omega);obtain ⟨y3,e3,h3⟩:=cO (f:=iw ((m:Int),(c:Int),zs,ss,es) w) (fun i s=>(((i:Nat):Int),s)) (fun _ s=>s.length=m) (fun r=>r.length=m) (n:=w.length) (fun i s hi hs=>by
  obtain ⟨y,e,hy⟩:=MT h hs (w.getD i 0);unfold iw;simp only [show decide ((i:Int)<ae w)=true from qW hi,cond_true,guard_pos (kW hi),Int.toNat_natCast,e,Option.bind_some,dh hi (show w.length≤4294967296 by omega)];exact ⟨_,rfl,hy⟩) (fun s hs=>by
  unfold iw;simp only [show decide (((w.length:Nat):Int)<ae w)=false from rq (Nat.le_refl _),cond_false];exact ⟨_,rfl,hs⟩) w.length 0 y2 (by omega) h2
 have e3:rounds (iw ((m:Int),(c:Int),zs,ss,es) w) ((0:Int),y2)=some y3:=e3;obtain ⟨y4,e4,h4⟩:=xI (xs:=es) (by omega);obtain ⟨y5,e5,h5⟩:=cO (f:=fF y3 y4) (fun i (s:Int)=>(s,((i:Nat):Int))) (fun _ s=>gX s) (fun r=>gX r) (n:=y3.length) (fun i s hi hs=>by
  unfold fF;simp only [show decide ((i:Int)<ae y3)=true from qW hi,cond_true,guard_pos (kW hi),guard_pos (show (0:Int)≤(i:Int)∧(i:Int)<ae y4 from ⟨by omega,by simp only [ae];omega⟩),dh hi (show y3.length≤4294967296 by omega)];exact ⟨_,rfl,by split;exact CX _;exact hs⟩) (fun s hs=>by
  unfold fF;simp only [show decide (((y3.length:Nat):Int)<ae y3)=false from rq (Nat.le_refl _),cond_false];exact ⟨_,rfl,hs⟩) y3.length 0 1099511627776 (by omega) ⟨by decide,by decide⟩
 have e5:rounds (fF y3 y4) ((1099511627776:Int),(0:Int))=some y5:=e5;unfold nI lV nW;simp only [e1,e2,Option.bind_some,e3,e4,e5];cases decide (y5≥1099511627776) with
 |true=>exact ⟨_,rfl,by decide,by decide⟩
 |false=>exact ⟨_,rfl,h5⟩
end
def bB (k:Nat):List Int:=List.replicate k 0
theorem zn {k i:Nat}:(bB k).getD i 0=0:=by
 unfold bB;by_cases h:i<k;rw [List.getD_eq_getElem?_getD,List.getElem?_eq_getElem (by simpa using h)];simp;rw [List.getD_eq_getElem?_getD,List.getElem?_eq_none (by simpa using h)];rfl
theorem dR (k:Nat):(bB k).length=k:=List.length_replicate
theorem vJ {k c:Nat}(hk:k≤12)(c1:1≤c)(c2:c≤4):e9 (bB k) (c:Int)=some true:=by
 have hl:=dR k;rw [Kf (by omega),nD (by omega)];have h1:lG (bB k) 0 ((c:Int) - 1)=true:=q0.2 fun i _=>by rw [zn];omega
 rw [h1,decide_eq_true (show (c:Int)≥1 by omega),decide_eq_true (show (c:Int)≤4 by omega),decide_eq_true (show ae (bB k)≤12 by simp only [ae];omega)];rfl
theorem MU {m c k:Nat}{zs:List Q4}{ss es:List Int}(h:qw m c zs ss es)(hk:k≤12): ∃n,iy ((m:Int),(c:Int),zs,ss,es) (bB k)=some (n,true)∧gX n:=by
 obtain ⟨n,e,hn⟩:=KC h (w:=bB k) (by rw [dR];omega);refine ⟨n,?_,hn⟩;unfold iy;simp only [h.valid,vJ hk h.c1 h.c2,Option.bind_some,Bool.not_true,cond_false,e]
section
variable {m c:Nat} {nx:List Int} {es:List Bool} (h:gn m c nx es)
include h
theorem gn.plain:Plain m c nx es:=by
 obtain ⟨h3,h4,h5,h6,h7,h8,h9,_⟩:=h.facts;exact ⟨h3,h4,h5,h6,h7,h8,h9⟩
theorem KD {s a:Nat}(hs:s<m)(ha:a<c): ∃t:Nat,cH ((m:Int),(c:Int),nx,es) (s:Int) (a:Int)=some (t:Int)∧t<m:=
 ⟨_,MP h.plain hs rfl ha,Qw h.plain hs rfl ha⟩
theorem QC {k:Nat}(hk:k≤12): ∃b,ed ((m:Int),(c:Int),nx,es) (bB k)=some (b,true):=by
 obtain ⟨h3,h4,h5,h6,h7,h8,h9,_⟩:=h.facts;have hl:=dR k;obtain ⟨r,e,q,hq,Hy⟩:=cO (f:=dG ((m:Int),(c:Int),nx,es) (bB k)) (fun i (s:Nat)=>((s:Int),((i:Nat):Int))) (fun _ s=>s<m) (fun r=> ∃q:Nat,r=(q:Int)∧q<m) (n:=(bB k).length) (fun i s hi hs=>by
  obtain ⟨t,e,ht⟩:=KD h hs (show 0<c by omega);have e:cH ((m:Int),(c:Int),nx,es) (s:Int) 0=some (t:Int):=e;unfold dG;simp only [show decide ((i:Int)<ae (bB k))=true from qW hi,cond_true,guard_pos (kW hi),zn,e,Option.bind_some,dh hi (show (bB k).length≤4294967296 by omega)];exact ⟨t,rfl,ht⟩) (fun s hs=>by
  unfold dG;simp only [show decide ((((bB k).length:Nat):Int)<ae (bB k))=false from rq (Nat.le_refl _),cond_false];exact ⟨_,rfl,s,rfl,hs⟩) (bB k).length 0 0 (by omega) (by omega)
 have e:rounds (dG ((m:Int),(c:Int),nx,es) (bB k)) ((0:Int),(0:Int))=some r:=e;subst hq;unfold ed kZ;simp only [h.valid,vJ hk h5 h6,Option.bind_some,Bool.not_true,cond_false,e];rw [guard_pos (by simp only [ae];omega)];exact ⟨_,rfl⟩
theorem KE {k:Nat}(hk:k≤12): ∃n,dE ((m:Int),(c:Int),nx,es) (k:Int)=some (n,true)∧gX n:=by
 obtain ⟨h3,h4,h5,h6,h7,h8,h9,_⟩:=h.facts;have l2: ∀(s8:Int×List Int) (i:Nat) (p:Int×List Int),p.1=(i:Int)→i<m→ ∀q:List Int,q.length=m→ ∃r,rounds (ek ((m:Int),(c:Int),nx,es) s8 p) ((0:Int),q)=some r∧r.length=m:=fun s8 i p hp hi q hq=>
  cO (f:=ek ((m:Int),(c:Int),nx,es) s8 p) (fun i s=>(((i:Nat):Int),s)) (fun _ s=>s.length=m) (fun r=>r.length=m) (n:=c) (fun j s hj hs=>by
   obtain ⟨t,e,ht⟩:=KD h hi hj;unfold ek;simp only [qW hj,cond_true,hp,e,Option.bind_some,guard_pos (show (0:Int)≤(t:Int)∧(t:Int)<ae s from ⟨by omega,by simp only [ae];omega⟩),dh hj (show c≤4294967296 by omega)];exact ⟨_,rfl,by rw [List.length_set];exact hs⟩) (fun s hs=>by
   unfold ek;simp only [rq (Nat.le_refl _),cond_false];exact ⟨_,rfl,hs⟩) c 0 q (by omega) hq
 have l3: ∀(s8:Int×List Int),s8.2.length=m→ ∀q:List Int,q.length=m→ ∃r,rounds (eo ((m:Int),(c:Int),nx,es) s8) ((0:Int),q)=some r∧r.length=m:=fun s8 h8 q hq=>
  cO (f:=eo ((m:Int),(c:Int),nx,es) s8) (fun i s=>(((i:Nat):Int),s)) (fun _ s=>s.length=m) (fun r=>r.length=m) (n:=s8.2.length) (fun j s hj hs=>by
   obtain ⟨r,e,hr⟩:=l2 s8 j ((j:Int),s) rfl (by omega) s hs;unfold eo;simp only [show decide ((j:Int)<ae s8.2)=true from qW hj,cond_true,guard_pos (kW hj),e,Option.bind_some,dh hj (show s8.2.length≤4294967296 by omega)];exact ⟨_,rfl,hr⟩) (fun s hs=>by
   unfold eo;simp only [show decide (((s8.2.length:Nat):Int)<ae s8.2)=false from rq (Nat.le_refl _),cond_false];exact ⟨_,rfl,hs⟩) s8.2.length 0 q (by omega) hq
 have KF:(List.replicate m (0:Int)).length=m:=List.length_replicate;obtain ⟨r4,e4,h4'⟩:=cO (f:=ep ((m:Int),(c:Int),nx,es) (k:Int)) (fun i s=>(((i:Nat):Int),s)) (fun _ s=>s.length=m) (fun r=>r.length=m) (n:=k) (fun j s hj hs=>by
  obtain ⟨r,e,hr⟩:=l3 ((j:Int),s) hs (List.replicate m 0) KF;unfold ep;simp only [qW hj,cond_true,Int.toNat_natCast,e,Option.bind_some,dh hj (show k≤4294967296 by omega)];exact ⟨_,rfl,hr⟩) (fun s hs=>by
  unfold ep;simp only [rq (Nat.le_refl _),cond_false];exact ⟨_,rfl,hs⟩) k 0 ((List.replicate m (0:Int)).set 0 1) (by omega) (by rw [List.length_set];exact KF)
 have e4:rounds (ep ((m:Int),(c:Int),nx,es) (k:Int)) ((0:Int),(List.replicate m (0:Int)).set (Int.toNat 0) 1)=some r4:=e4;obtain ⟨r5,e5,h5r⟩:=cO (f:=ei ((m:Int),(c:Int),nx,es) r4) (fun i (s:Int)=>(s,((i:Nat):Int))) (fun _ s=>gX s) (fun r=>gX r) (n:=r4.length) (fun i s hi hs=>by
  unfold ei;simp only [show decide ((i:Int)<ae r4)=true from qW hi,cond_true,guard_pos (kW hi),guard_pos (show (0:Int)≤(i:Int)∧(i:Int)<ae es from ⟨by omega,by simp only [ae];omega⟩),Int.toNat_natCast,dh hi (show r4.length≤4294967296 by omega)];cases es.getD i false with
  |true=>exact ⟨_,rfl,CX _⟩
  |false=>exact ⟨_,rfl,hs⟩) (fun s hs=>by
  unfold ei;simp only [show decide (((r4.length:Nat):Int)<ae r4)=false from rq (Nat.le_refl _),cond_false];exact ⟨_,rfl,hs⟩) r4.length 0 0 (by omega) ⟨by decide,by decide⟩
 have e5:rounds (ei ((m:Int),(c:Int),nx,es) r4) ((0:Int),(0:Int))=some r5:=e5;refine ⟨r5,?_,h5r⟩;unfold dE;simp only [h.valid,kt,Option.bind_some,Bool.not_true,cond_false,decide_eq_true (show (k:Int)≥0 by omega),decide_eq_true (show (k:Int)≤12 by omega),Bool.and_self,Int.toNat_natCast];rw [guard_pos (by omega),guard_pos (by simp only [ae,KF];omega),e4,Option.bind_some,e5];rfl
end
end Go.Proofs
namespace Go.Proofs
open Go.Ide Go.IntWalk
def aF {α:Type}(Q:α→Prop)(o:Option α):Prop:= ∃a,o=some a∧Q a
section
variable {α β σ ρ:Type} {Q:β→Prop}
theorem aF.some {P:α→Prop}{a:α}(h:P a):aF P (some a):=⟨a,rfl,h⟩
theorem aF.bind {P:α→Prop}{o:Option α}{k:α→Option β}(h:aF P o)(hk: ∀a,P a→aF Q (k a)):aF Q (o.bind k):=by
 obtain ⟨a,rfl,ha⟩:=h;exact hk a ha
theorem aF.guard {p:Prop}[Decidable p]{k:Option β}(hp:p)(h:aF Q k):aF Q (ai p k):=by rw [guard_pos hp];exact h
theorem aF.bif {b:Bool}{x y:Option β}(h1:b=true→aF Q x)(h2:b=false→aF Q y):aF Q (bif b then x else y):=by
 cases b with
 |true=>exact h1 rfl
 |false=>exact h2 rfl
theorem aF.rounds {f:σ→Option (σ⊕ρ)}(I:Nat→σ→Prop){R:ρ→Prop}(step: ∀n s,I n s→aF (fun x=>(∃n' s',n'<n∧x=Sum.inl s'∧I n' s')∨ ∃r,x=Sum.inr r∧R r) (f s)){n:Nat}{s:σ}(h:I n s):aF R (rounds f s):=by
 obtain ⟨r,e,hr⟩:=dX (f:=f) I R (fun n s h=>by
  obtain ⟨x,e,hx⟩:=step n s h;rcases hx with ⟨n',s',h1,rfl,h2⟩|⟨r,rfl,hr⟩
  exact .inl ⟨n',s',h1,e,h2⟩;exact .inr ⟨r,e,hr⟩) n s h
 exact ⟨r,e,hr⟩
end
theorem KG {n c k:Nat}{rs:List Q4}(h:sB n c rs)(k1:1≤k)(hk:k≤12):fG ((n:Int),(c:Int),rs) (bB k)=some true:=by
 have hl:=dR k;unfold fG;simp only [h.valid,vJ hk h.c1 h.c2,Option.bind_some,cond_true,decide_eq_true (show ae (bB k)>0 by simp only [ae];omega)]
def LC (v:List (Int×Int×Int)):Prop:=v.length=1248∧ ∀x∈v,gX x.1
def LT (v:List Int):Prop:=v.length=1248∧ ∀x∈v,gX x
theorem LC.set {v:List (Int×Int×Int)}(h:LC v){i:Nat}{x:Int×Int×Int}(hx:gX x.1):LC (v.set i x):=⟨by rw [List.length_set];exact h.1,fun y hy=>by
 rcases List.mem_or_eq_of_mem_set hy with hy|rfl
 exact h.2 y hy;exact hx⟩
theorem LT.set {v:List Int}(h:LT v){i:Nat}{x:Int}(hx:gX x):LT (v.set i x):=⟨by rw [List.length_set];exact h.1,fun y hy=>by
 rcases List.mem_or_eq_of_mem_set hy with hy|rfl
 exact h.2 y hy;exact hx⟩
theorem LC.get {v:List (Int×Int×Int)}(h:LC v){i:Nat}:gX (v.getD i (0,0,0)).1:=by
 by_cases hi:i<v.length;exact h.2 _ (dQ hi);rw [List.getD_eq_getElem?_getD,List.getElem?_eq_none (by omega)];exact ⟨by decide,by decide⟩
theorem LT.get {v:List Int}(h:LT v){i:Nat}:gX (v.getD i 0):=by
 by_cases hi:i<v.length;exact h.2 _ (dQ hi);rw [List.getD_eq_getElem?_getD,List.getElem?_eq_none (by omega)];exact ⟨by decide,by decide⟩
def CS {α:Type}(hi:Int)(N:List α→Prop)(d:Nat)(s:Int×List α):Prop:=0≤s.1∧s.1≤hi∧d=(hi - s.1).toNat∧N s.2
theorem CS.next {α:Type}{hi t:Int}{N:List α→Prop}{d:Nat}{q v:List α}(hh:hi≤1000000)(h:CS hi N d (t,q))(ht:t<hi)(hv:N v):CS hi N (d - 1) (aj .i64 t 1,v)∧d - 1<d:=by
 obtain ⟨a,b,e,_⟩:=h;have a:0≤t:=a;have b:t≤hi:=b;have e:d=(hi - t).toNat:=e;have hw:aj .i64 t 1=t+1:=eQ (by omega);exact ⟨⟨by rw [hw];show 0≤t+1;omega,by rw [hw];show t+1≤hi;omega,by rw [hw];show d - 1=(hi - (t+1)).toNat;omega,hv⟩,by omega⟩
theorem CS.inl {α ρ:Type}{R:ρ→Prop}{hi t:Int}{N:List α→Prop}{d:Nat}{q v:List α}(hh:hi≤1000000)(h:CS hi N d (t,q))(ht:t<hi)(hv:N v):
 (∃n' s',n'<d∧(Sum.inl (aj .i64 t 1,v):(Int×List α)⊕ρ)=Sum.inl s'∧CS hi N n' s')∨ ∃r,(Sum.inl (aj .i64 t 1,v):(Int×List α)⊕ρ)=Sum.inr r∧R r:=
 .inl ⟨d - 1,_,(h.next hh ht hv).2,rfl,(h.next hh ht hv).1⟩
section
variable {n c k:Nat} {rs:List Q4} (h:sB n c rs)
include h
theorem nL {t:Int}(h0:0≤t)(h1:t<ae rs):pC n c (rs.getD t.toNat (0,0,0,0)):=h.rules _ (dQ (by simp only [ae] at h1;omega))
theorem EU {r:Q4}(hr:pC n c r):0≤r.2.1∧r.2.1<8∧0≤r.1∧r.1<8∧r.2.2.1<8:=by
 obtain ⟨f1,f2,f3,f4,f5,f6⟩:=hr;have:=h.n2;have:=h.c2;by_cases q:r.2.2.1<0;have:=f5 q;omega;have:=f6 (by omega);omega
theorem MV {lg i kk:Int}{x5 NK x26 q:List (Int×Int×Int)}(hk:k≤12)(h1:1≤lg)(h2:0≤i)(h3:i+lg≤(k:Int))(h4:i≤kk)(h5:kk<i+lg)(hq:LC q):
 aF (LC) (rounds (fH ((n:Int),(c:Int),rs) (bB k) (lg,x5) (i,NK) (kk,x26)) ((0:Int),q)):=by
 have KF:=h.rl;have hz:=dR k;have hw:aj .i64 i lg=i+lg:=eQ (by omega);refine aF.rounds (CS (ae rs) LC) (fun d s hs=> ?_) (n:=rs.length) ⟨Int.le_refl _,by simp [ae],by simp [ae],hq⟩;obtain ⟨t,q⟩:=s;have db:=hs;obtain ⟨b1,b2,b3,b4⟩:=hs;have b1:0≤t:=b1;have b4:LC q:=b4;have NW:=b4.1;unfold fH;refine aF.bif (fun e=> ?_) (fun _=>aF.some (.inr ⟨_,rfl,b4⟩));have e:t<ae rs:=of_decide_eq_true e;have g7:=(nL h b1 e).2.2.1;obtain ⟨g1,g2,g3,g4,g5⟩:=EU h (nL h b1 e);simp only [hw];generalize rs.getD t.toNat (0,0,0,0)=r at*;refine aF.bind (P:=LC) (aF.guard ⟨b1,e⟩ ?_) fun v hv=>aF.some (CS.inl (by simp only [ae];omega) db e hv);refine aF.bind (P:=LC) ?_ fun v46 MW=> ?_;refine aF.bind (P:=fun _=>True) ?_ fun NL _=> ?_;refine aF.bif (fun _=>aF.bif (fun _=>aF.bif (fun _=>aF.guard ⟨h2,by simp only [ae];omega⟩ (aF.some trivial)) fun _=>aF.some trivial) fun _=>aF.some trivial) fun _=>aF.some trivial;refine aF.bif (fun _=>aF.bind (P:=LC) ?_ fun v hv=>aF.some hv) fun _=>aF.some b4;refine aF.guard ⟨h2,by omega⟩ (aF.guard ⟨by omega,by omega⟩ (aF.guard ⟨g3,g4⟩ (aF.guard (by omega) (aF.bif (fun _=>aF.some (b4.set ⟨by show _≤r.2.2.2;omega,by show r.2.2.2≤_;omega⟩)) fun _=>aF.some b4))));have Yt:=MW.1;refine aF.bind (P:=fun b=>b=true→0≤r.2.2.1) ?_ fun FX UU=> ?_;exact aF.bif (fun e=>aF.some fun _=>of_decide_eq_true e) fun _=>aF.some fun q=>by cases q
 refine aF.bif (fun e=> ?_) fun _=>aF.some MW;have g0:=UU e;refine aF.guard ⟨h2,by omega⟩ (aF.guard ⟨by omega,by omega⟩ (aF.guard ⟨g1,g2⟩ (aF.guard (by omega) (aF.guard ⟨by omega,by omega⟩ (aF.guard ⟨by omega,by omega⟩ (aF.guard ⟨g0,g5⟩ (aF.guard (by omega) ?_)))))));refine aF.bind (P:=LC) (aF.bind (P:=gX) (aF.some (CX _)) fun WN h66=> ?_) fun v hv=>aF.some hv;exact aF.guard ⟨g3,g4⟩ (aF.guard (by omega) (aF.bif (fun _=>aF.some (MW.set h66)) fun _=>aF.some MW))
theorem EV (hk:k≤12):aF (LC) (fa ((n:Int),(c:Int),rs) (bB k)):=by
 have hz:=dR k;have c2: ∀(lg i:Int) (x5 NK q:List (Int×Int×Int)),1≤lg→0≤i→i+lg≤(k:Int)→LC q→aF (LC) (rounds (fI ((n:Int),(c:Int),rs) (bB k) (lg,x5) (i,NK)) (i,q)):=by
  intro lg i x5 NK q h1 h2 h3 hq;have hw:aj .i64 i lg=i+lg:=eQ (by omega);refine aF.rounds (fun d s=>CS (i+lg) LC d s∧i≤s.1) (fun d s hs=> ?_) (n:=lg.toNat) ⟨⟨h2,by show i≤i+lg;omega,by show lg.toNat=(i+lg - i).toNat;omega,hq⟩,Int.le_refl _⟩;obtain ⟨t,q⟩:=s;obtain ⟨hs,hi⟩:=hs;have hi:i≤t:=hi;have b4:LC q:=hs.2.2.2;have NW:=b4.1;unfold fI;simp only [hw];refine aF.bif (fun e=> ?_) (fun _=>aF.some (.inr ⟨_,rfl,b4⟩));have e:t<i+lg:=of_decide_eq_true e;refine aF.bind (MV h hk h1 h2 h3 hi e b4) fun v hv=>aF.some (.inl ⟨d - 1,_,(hs.next (by omega) e hv).2,rfl,(hs.next (by omega) e hv).1,?_⟩);show i≤aj .i64 t 1;rw [eQ (by omega)];omega
 have c3: ∀(lg i:Int) (x5 NK q:List (Int×Int×Int)),1≤lg→0≤i→i+lg≤(k:Int)→LC q→aF (LC) (rounds (fJ (lg,x5) (i,NK)) ((0:Int),q)):=by
  intro lg i x5 NK q h1 h2 h3 hq;have hw:aj .i64 i lg=i+lg:=eQ (by omega);refine aF.rounds (CS 8 LC) (fun d s hs=> ?_) (n:=8) ⟨Int.le_refl _,by show (0:Int)≤8;decide,rfl,hq⟩;obtain ⟨t,q⟩:=s;have b4:LC q:=hs.2.2.2;have NW:=b4.1;have b1:0≤t:=hs.1;unfold fJ;simp only [hw];refine aF.bif (fun e=> ?_) (fun _=>aF.some (.inr ⟨_,rfl,b4⟩));have e:t<8:=of_decide_eq_true e;exact aF.guard ⟨h2,by omega⟩ (aF.guard ⟨by omega,by omega⟩ (aF.guard ⟨b1,by omega⟩ (aF.guard (by omega) (aF.some (CS.inl (by omega) hs e (b4.set ⟨by show (_:Int)≤1099511627776;omega,by show (1099511627776:Int)≤_;omega⟩))))))
 have c4: ∀(lg:Int) (x5 q:List (Int×Int×Int)),1≤lg→lg≤(k:Int)→LC q→aF (LC) (rounds (fK ((n:Int),(c:Int),rs) (bB k) (lg,x5)) ((0:Int),q)):=by
  intro lg x5 q h1 h3 hq;have hw:aj .i64 (a7 .i64 (ae (bB k)) lg) 1=(k:Int) - lg+1:=by simp only [ae,hz];rw [nD (by omega),eQ (by omega)]
  refine aF.rounds (CS ((k:Int) - lg+1) LC) (fun d s hs=> ?_) (n:=((k:Int) - lg+1).toNat) ⟨Int.le_refl _,by show 0≤(k:Int) - lg+1;omega,by simp,hq⟩;obtain ⟨t,q⟩:=s;have b4:LC q:=hs.2.2.2;have NW:=b4.1;have b1:0≤t:=hs.1;unfold fK;simp only [hw];refine aF.bif (fun e=> ?_) (fun _=>aF.some (.inr ⟨_,rfl,b4⟩));have e:t<(k:Int) - lg+1:=of_decide_eq_true e;exact aF.bind (aF.bind (c3 lg t x5 q q h1 b1 (by omega) b4) fun v hv=>aF.bind (c2 lg t x5 q v h1 b1 (by omega) hv) fun v hv=>aF.some hv) fun v hv=>aF.some (CS.inl (by omega) hs e hv)
 unfold fa;refine aF.bind (aF.bind (P:=LC) (aF.rounds (fun d s=>CS ((k:Int)+1) LC d s∧1≤s.1) (fun d s hs=> ?_) (n:=k) ⟨⟨by decide,by show (1:Int)≤(k:Int)+1;omega,by show k=((k:Int)+1 - 1).toNat;omega,⟨List.length_replicate,fun x hx=>by rw [List.eq_of_mem_replicate hx];exact ⟨by decide,by decide⟩⟩⟩,Int.le_refl _⟩) fun v hv=>aF.some hv) fun v hv=>aF.some hv;obtain ⟨t,q⟩:=s;obtain ⟨hs,hi⟩:=hs;have hi:1≤t:=hi;have b4:LC q:=hs.2.2.2;have NW:=b4.1;unfold jR;simp only [ae,hz];refine aF.bif (fun e=> ?_) (fun _=>aF.some (.inr ⟨_,rfl,b4⟩));have e:t≤(k:Int):=of_decide_eq_true e;refine aF.bind (c4 t q q hi e b4) fun v hv=>aF.some (.inl ⟨d - 1,_,(hs.next (by omega) (by omega) hv).2,rfl,(hs.next (by omega) (by omega) hv).1,?_⟩);show 1≤aj .i64 t 1;rw [eQ (by omega)];omega
theorem KH (k1:1≤k)(hk:k≤12): ∃x,ef ((n:Int),(c:Int),rs) (bB k)=some (x,true)∧gX x:=by
 have hz:=dR k;obtain ⟨v,e,hv⟩:=EV h hk;have QT:=hv.1;unfold ef;simp only [KG h k1 hk,Option.bind_some,Bool.not_true,cond_false,e,ae,hz];rw [guard_pos (by omega),guard_pos (by omega),guard_pos (by omega),guard_pos (by omega)];cases decide ((List.getD v (0+104*Int.toNat 0+8*Int.toNat (k:Int)+1*Int.toNat 0) (0,0,0)).1≥1099511627776) with
 |true=>exact ⟨_,rfl,by decide,by decide⟩
 |false=>exact ⟨_,rfl,hv.get⟩
theorem QD {lg i ix:Int}{x8 x15 x26:Bool×List Int}{q:List Int}(hk:k≤12)(h1:1≤lg)(h2:0≤i)(h3:i+lg≤(k:Int))(h4:0≤ix)(h5:ix<ae rs)(hq:LT q):
 aF (LT) (rounds (jG ((n:Int),(c:Int),rs) (lg,x8) (i,x15) (ix,x26)) (aj .i64 i 1,q)):=by
 have KF:=h.rl;have hw:aj .i64 i lg=i+lg:=eQ (by omega);have Lc:aj .i64 i 1=i+1:=eQ (by omega);obtain ⟨g1,g2,g3,g4,g5⟩:=EU h (nL h h4 h5);rw [Lc];refine aF.rounds (fun d s=>CS (i+lg) LT d s∧i+1≤s.1) (fun d s hs=> ?_) (n:=(lg - 1).toNat) ⟨⟨by show 0≤i+1;omega,by show i+1≤i+lg;omega,by show (lg - 1).toNat=(i+lg - (i+1)).toNat;omega,hq⟩,Int.le_refl _⟩;obtain ⟨t,q⟩:=s;obtain ⟨hs,hi⟩:=hs;have hi:i+1≤t:=hi;have b4:LT q:=hs.2.2.2;have NW:=b4.1;unfold jG;simp only [hw];generalize rs.getD ix.toNat (0,0,0,0)=r at*;refine aF.bind (P:=fun b=>b=true→t<i+lg∧0≤r.2.2.1) (aF.bif (fun e=>aF.some fun e2=>⟨of_decide_eq_true e,of_decide_eq_true e2⟩) fun _=>aF.some fun q=>by cases q) fun v hv=> ?_;refine aF.bif (fun e=> ?_) (fun _=>aF.some (.inr ⟨_,rfl,b4⟩));obtain ⟨e1,e2⟩:=hv e;refine aF.guard (by omega) (aF.guard ⟨by omega,by omega⟩ (aF.guard ⟨g1,g2⟩ (aF.guard (by omega) (aF.guard ⟨by omega,by omega⟩ (aF.guard ⟨e2,g5⟩ (aF.guard (by omega) (aF.some (.inl ⟨d - 1,_,(hs.next (by omega) e1 b4).2,rfl,(hs.next (by omega) e1 (b4.set (by split;exact CX _;exact ⟨by decide,by decide⟩))).1,?_⟩))))))));show i+1≤aj .i64 t 1;rw [eQ (by omega)];omega
theorem KI (k1:1≤k)(hk:k≤12): ∃x b,dD ((n:Int),(c:Int),rs) (bB k)=some (x,b)∧gX x:=by
 have hz:=dR k;have KF:=h.rl;have c2: ∀(lg i:Int) (x8 x15:Bool×List Int) (f:Bool) (q:List Int),1≤lg→0≤i→i+lg≤(k:Int)→LT q→aF (fun r=>LT r.2) (rounds (jH ((n:Int),(c:Int),rs) (bB k) (lg,x8) (i,x15)) ((0:Int),f,q)):=by
  intro lg i x8 x15 f q h1 h2 h3 hq;have hw:aj .i64 i lg=i+lg:=eQ (by omega);refine aF.rounds (fun d s=>CS (ae rs) LT d (s.1,s.2.2)) (fun d s hs=> ?_) (n:=rs.length) ⟨Int.le_refl _,by simp [ae],by simp [ae],hq⟩;obtain ⟨t,f,q⟩:=s;have hs:CS (ae rs) LT d (t,q):=hs;have b4:LT q:=hs.2.2.2;have NW:=b4.1;have b1:0≤t:=hs.1;unfold jH;simp only [hw];refine aF.bif (fun e=> ?_) (fun _=>aF.some (.inr ⟨_,rfl,b4⟩));have e:t<ae rs:=of_decide_eq_true e;obtain ⟨g1,g2,g3,g4,g5⟩:=EU h (nL h b1 e);have t1:=fun v hv=>QD (x8:=x8) (x15:=x15) (x26:=(f,q)) (q:=v) h hk h1 h2 h3 b1 e hv;generalize rs.getD t.toNat (0,0,0,0)=r at*;refine aF.bind (P:=fun v=>LT v.2) (aF.guard ⟨b1,e⟩ (aF.guard ⟨h2,by omega⟩ (aF.guard ⟨by omega,by omega⟩ (aF.guard ⟨g3,g4⟩ (aF.bind (P:=LT) ?_ fun Rj Xt=> ?_))))) fun v hv=>aF.some (.inl ⟨d - 1,_,(hs.next (by simp only [ae];omega) e hv).2,rfl,(hs.next (by simp only [ae];omega) e hv).1⟩);refine aF.bind (P:=fun _=>True) (aF.bif (fun _=>aF.bif (fun _=>aF.guard ⟨h2,by simp only [ae];omega⟩ (aF.some trivial)) fun _=>aF.some trivial) fun _=>aF.some trivial) fun v _=> ?_;exact aF.bif (fun _=>aF.guard (by omega) (aF.some (b4.set (CX _)))) fun _=>aF.some b4;refine aF.bind (t1 Rj Xt) fun v hv=> ?_;have QT:=hv.1;exact aF.bif (fun _=>aF.guard (by omega) (aF.some hv)) fun _=>aF.some hv
 have c3: ∀(lg:Int) (x8:Bool×List Int) (f:Bool) (q:List Int),1≤lg→lg≤(k:Int)→LT q→aF (fun r=>LT r.2) (rounds (jI ((n:Int),(c:Int),rs) (bB k) (lg,x8)) ((0:Int),f,q)):=by
  intro lg x8 f q h1 h3 hq;have hw:aj .i64 (a7 .i64 (ae (bB k)) lg) 1=(k:Int) - lg+1:=by simp only [ae,hz];rw [nD (by omega),eQ (by omega)]
  refine aF.rounds (fun d s=>CS ((k:Int) - lg+1) LT d (s.1,s.2.2)) (fun d s hs=> ?_) (n:=((k:Int) - lg+1).toNat) ⟨Int.le_refl _,by show 0≤(k:Int) - lg+1;omega,by simp,hq⟩;obtain ⟨t,f,q⟩:=s;have hs:CS ((k:Int) - lg+1) LT d (t,q):=hs;have b4:LT q:=hs.2.2.2;have NW:=b4.1;have b1:0≤t:=hs.1;unfold jI;simp only [hw];refine aF.bif (fun e=> ?_) (fun _=>aF.some (.inr ⟨_,rfl,b4⟩));have e:t<(k:Int) - lg+1:=of_decide_eq_true e;exact aF.bind (P:=fun v=>LT v.2) (aF.bind (c2 lg t x8 (f,q) f q h1 b1 (by omega) b4) fun v hv=>aF.some hv) fun v hv=>aF.some (.inl ⟨d - 1,_,(hs.next (by omega) e hv).2,rfl,(hs.next (by omega) e hv).1⟩)
 obtain ⟨v,e,hv⟩:aF (fun r=>LT r.2) (rounds (jJ ((n:Int),(c:Int),rs) (bB k)) ((1:Int),true,List.replicate 1248 (0:Int))):=by
  refine aF.rounds (fun d s=>CS ((k:Int)+1) LT d (s.1,s.2.2)∧1≤s.1) (fun d s hs=> ?_) (n:=k) ⟨⟨by decide,by show (1:Int)≤(k:Int)+1;omega,by show k=((k:Int)+1 - 1).toNat;omega,⟨List.length_replicate,fun x hx=>by rw [List.eq_of_mem_replicate hx];exact ⟨by decide,by decide⟩⟩⟩,Int.le_refl _⟩;obtain ⟨t,f,q⟩:=s;obtain ⟨hs,hi⟩:=hs;have hs:CS ((k:Int)+1) LT d (t,q):=hs;have hi:1≤t:=hi;have b4:LT q:=hs.2.2.2;have NW:=b4.1;unfold jJ;simp only [ae,hz];refine aF.bif (fun e=> ?_) (fun _=>aF.some (.inr ⟨_,rfl,b4⟩));have e:t≤(k:Int):=of_decide_eq_true e;refine aF.bind (c3 t (f,q) f q hi e b4) fun v hv=>aF.some (.inl ⟨d - 1,_,(hs.next (by omega) (by omega) hv).2,rfl,(hs.next (by omega) (by omega) hv).1,?_⟩);show 1≤aj .i64 t 1;rw [eQ (by omega)];omega
 obtain ⟨b,v⟩:=v;have hv:LT v:=hv;have QT:=hv.1;unfold dD;simp only [KG h k1 hk,Option.bind_some,Bool.not_true,cond_false,e];cases b with
 |false=>exact ⟨0,false,rfl,by decide,by decide⟩
 |true=>
  simp only [Bool.not_true,cond_false,ae,hz];rw [guard_pos (by omega),guard_pos (by omega),guard_pos (by omega),guard_pos (by omega)];exact ⟨_,true,rfl,hv.get⟩
end
end Go.Proofs
namespace Go.Proofs
open Go.Ide Go.IntWalk
theorem EW {x:Int}{n:Nat}(h1:1≤n)(h2:n≤64): ∃r,aY [x] (n:Int)=some r∧r.length=n∧ ∀y∈r,y=x∨y=0:=by
 have bf:(List.replicate n (0:Int)).length=n:=List.length_replicate;obtain ⟨r,e,hr,hv⟩:=dX (f:=bI) (fun d s=> ∃k:Nat,s.1=(k:Int)∧1≤k∧k≤n∧d=n - k∧s.2.length=n∧ ∀y∈s.2,y=x∨y=0) (fun r=>r.length=n∧ ∀y∈r,y=x∨y=0) (by
  rintro d ⟨s1,s2⟩ ⟨k,hk,k1,k2,rfl,hl,hv⟩;have hk:s1=(k:Int):=hk;have hl:s2.length=n:=hl;have hv: ∀y∈s2,y=x∨y=0:=hv;subst hk;unfold bI;by_cases hlt:k<n;have e1:(List.take k (List.drop 0 s2)).length=k:=by simp;omega
  have uc:Nat.min k (n - k)=if k≤n - k then k else n - k:=Nat.min_def
  simp only [show decide ((k:Int)<ae s2)=true by simp only [ae,decide_eq_true_eq];omega,cond_true,guard_pos (show (0:Int)≤(k:Int)∧(k:Int)≤ae s2 from ⟨by omega,by simp only [ae];omega⟩)];simp only [Int.toNat_natCast,e1,ae,hl];have hw:aj .i64 (k:Int) ((Nat.min k (n - k):Nat):Int)=((k+Nat.min k (n - k):Nat):Int):=by
   rw [eQ (by rw [uc];split<;>omega)];omega
  rw [hw];refine .inl ⟨n - (k+Nat.min k (n - k)),(_,_),?_,rfl,k+Nat.min k (n - k),rfl,by omega,?_,rfl,?_,fun y hy=> ?_⟩;rw [uc];split<;>omega;rw [uc];split<;>omega;show (List.take k s2++List.take (Nat.min k (n - k)) (List.take k (List.drop 0 s2))++List.drop (k+Nat.min k (n - k)) s2).length=n;simp only [List.length_append,List.length_take,List.length_drop,hl,uc];split<;>omega;have hy:y∈List.take k s2++List.take (Nat.min k (n - k)) (List.take k (List.drop 0 s2))++List.drop (k+Nat.min k (n - k)) s2:=hy;rcases List.mem_append.1 hy with hy|hy
  rcases List.mem_append.1 hy with hy|hy
  exact hv y (List.mem_of_mem_take hy);exact hv y (List.mem_of_mem_drop (List.mem_of_mem_take (List.mem_of_mem_take hy)));exact hv y (List.mem_of_mem_drop hy);simp only [show decide ((k:Int)<ae s2)=false by simp only [ae,decide_eq_false_iff_not];omega,cond_false];exact .inr ⟨_,rfl,hl,hv⟩) (n - 1)
  ((((Nat.min ([x]).length (List.replicate n (0:Int)).length:Nat)):Int),List.take 0 (List.replicate n (0:Int))++List.take (Nat.min ([x]).length (List.replicate n (0:Int)).length) [x]++List.drop (0+Nat.min ([x]).length (List.replicate n (0:Int)).length) (List.replicate n (0:Int)))
  ⟨1,by
   show (((Nat.min 1 (List.replicate n (0:Int)).length:Nat)):Int)=_;rw [bf,show Nat.min 1 n=1 from Nat.min_eq_left h1],Nat.le_refl _,h1,rfl,by
   show (List.take 0 (List.replicate n (0:Int))++List.take (Nat.min 1 (List.replicate n (0:Int)).length) [x]++List.drop (0+Nat.min 1 (List.replicate n (0:Int)).length) (List.replicate n (0:Int))).length=n;rw [bf,show Nat.min 1 n=1 from Nat.min_eq_left h1];simp;omega,fun y hy=>by
   have hy:y∈List.take 0 (List.replicate n (0:Int))++List.take (Nat.min 1 (List.replicate n (0:Int)).length) [x]++List.drop (0+Nat.min 1 (List.replicate n (0:Int)).length) (List.replicate n (0:Int)):=hy;rcases List.mem_append.1 hy with hy|hy
   rcases List.mem_append.1 hy with hy|hy
   simp at hy;exact .inl (by simpa using List.mem_of_mem_take hy);exact .inr (List.eq_of_mem_replicate (List.mem_of_mem_drop hy))⟩
 refine ⟨r,?_,hr,hv⟩;unfold aY;have hw:IntKind.wrap .i64 ((n:Nat):Int)=(n:Int):=i64_in _ (by omega);have hb:jv (IntKind.wrap .u64 (ae [x])) (IntKind.wrap .u64 ((n:Nat):Int))=some (0,(n:Int)):=CY h2;rw [show decide ((n:Int)<0)=false by simp only [decide_eq_false_iff_not];omega,cond_false,hb];simp only [Option.bind_some,show decide ((0:Int)>0)=false from rfl,cond_false,show decide ((n:Int)>9223372036854775807)=false by simp only [decide_eq_false_iff_not];omega,hw,Int.toNat_natCast];rw [guard_pos (by omega),e];rfl
theorem Gg {n:Nat}(h1:1≤n)(h2:n≤64):aF (fun r=>r.length=n∧ ∀y∈r,-1≤y∧y<1099511627776) (oK (n:Int)):=by
 obtain ⟨r,e,hr,hv⟩:=EW (x:= -1) h1 h2;unfold oK;rw [e];exact ⟨r,rfl,hr,fun y hy=>by rcases hv y hy with rfl|rfl<;>omega⟩
section
variable {n c:Nat} {rs:List Q4} (h:sB n c rs)
include h
def ri (n:Nat)(cs:List Int):Prop:=cs.length=n∧ ∀y∈cs,-1≤y∧y<1099511627776
theorem zo {cs:List Int}(hc:ri n cs){i:Nat}: -1≤cs.getD i 0∧cs.getD i 0<1099511627776:=by
 by_cases hi:i<cs.length;exact hc.2 _ (dQ hi);rw [List.getD_eq_getElem?_getD,List.getElem?_eq_none (by omega)];exact ⟨by decide,by decide⟩
theorem tM {r:Q4}(hr:pC n c r):(0≤r.1∧r.1<(n:Int))∧(0≤r.2.2.1→(0≤r.2.1∧r.2.1<(n:Int))∧r.2.2.1<(n:Int)):=by
 obtain ⟨f1,f2,f3,f4,f5,f6⟩:=hr;exact ⟨f1,fun q=>⟨⟨f4,f6 q⟩,f2.2⟩⟩
def AW (rs:List Q4)(cs:List Int)(b v:Int):Prop:=v≤1099511627776∧(b<0∨(0≤b∧b<ae rs∧0≤v∧v<1099511627776∧cs.getD (Int.toNat (rs.getD b.toNat (0,0,0,0)).1) 0<0))
theorem QE {p cs:List Int}(hc:ri n cs):aF (fun r=>AW rs cs r.1 r.2) (rounds (ff ((n:Int),(c:Int),rs) (p,cs)) ((-1:Int),(1099511627776:Int),(0:Int))):=by
 have KF:=h.rl;have ma:=hc.1;refine aF.rounds (fun d s=>0≤s.2.2∧s.2.2≤ae rs∧d=(ae rs - s.2.2).toNat∧AW rs cs s.1 s.2.1) (fun d s hs=> ?_) (n:=rs.length) ⟨Int.le_refl _,by simp [ae],by simp [ae],Int.le_refl _,.inl (by decide)⟩;obtain ⟨b,v,t⟩:=s;obtain ⟨b1,b2,b3,b4⟩:=hs;have b1:0≤t:=b1;have b3:d=(ae rs - t).toNat:=b3;have b4:AW rs cs b v:=b4;unfold ff;refine aF.bif (fun e=> ?_) (fun _=>aF.some (.inr ⟨_,rfl,b4⟩));have e:t<ae rs:=of_decide_eq_true e;have NX:=nL h b1 e;obtain ⟨g1,g2⟩:=tM h NX;obtain ⟨_,_,g3,_⟩:=NX;have hw:aj .i64 t 1=t+1:=eQ (by simp only [ae] at e;omega);simp only;refine aF.bind (P:=fun v=>AW rs cs v.1 v.2) (aF.guard ⟨b1,e⟩ ?_) fun v hv=>aF.some (.inl ⟨d - 1,_,by omega,rfl,by rw [hw];show 0≤t+1;omega,by rw [hw];show t+1≤ae rs;omega,by rw [hw];show d - 1=(ae rs - (t+1)).toNat;omega,hv⟩);have Yu: ∀x:Int,(0≤x→x<1099511627776→(rs.getD t.toNat (0,0,0,0)).1=(rs.getD t.toNat (0,0,0,0)).1):=fun _ _ _=>rfl;generalize hr:rs.getD t.toNat (0,0,0,0)=r at g1 g2 g3⊢;refine aF.bind (P:=fun q=>q=r.2.2.1) (aF.some rfl) fun NM h27=>aF.bind (P:=fun q=>q=r.2.2.2) (aF.some rfl) fun W8 h29=> ?_;subst h27 h29;refine aF.bind (P:=fun w=>match w with| .inl HH=>0≤HH| .inr z=>z=(b,v)) ?_ fun w HA=> ?_;refine aF.bif (fun e2=> ?_) (fun _=>aF.some g3.1);have e2:0≤r.2.2.1:=of_decide_eq_true e2;obtain ⟨g4,g5⟩:=g2 e2;have k1:=zo h hc (i:=Int.toNat r.2.1);have k2:=zo h hc (i:=Int.toNat r.2.2.1);refine aF.bind (P:=fun b=>b=false→0≤cs.getD (Int.toNat r.2.1) 0∧0≤cs.getD (Int.toNat r.2.2.1) 0) (aF.guard ⟨g4.1,by simp only [ae];omega⟩ (aF.bif (fun _=>aF.some fun q=>by cases q) fun q1=>aF.guard ⟨e2,by simp only [ae];omega⟩ (aF.some fun q=>⟨by have:=of_decide_eq_false q1;omega,by have:=of_decide_eq_false q;omega⟩))) fun v46 h46=> ?_;refine aF.bif (fun _=>aF.some rfl) fun e3=>aF.guard ⟨g4.1,by simp only [ae];omega⟩ (aF.guard ⟨e2,by simp only [ae];omega⟩ (aF.some ?_));have:=h46 e3;show 0≤aj .i64 _ (aj .i64 _ _);rw [eQ (a:=cs.getD (Int.toNat r.2.1) 0) (by omega),eQ (by omega)];omega;cases w with
 |inr z=>
  have HA:z=(b,v):=HA;subst HA;exact aF.some b4
 |inl HH=>
  have HA:0≤HH:=HA;refine aF.bind (P:=fun b=>b=true→cs.getD (Int.toNat r.1) 0<0∧HH<v) (aF.guard ⟨g1.1,by simp only [ae];omega⟩ (aF.bif (fun q1=>aF.some fun q2=>⟨of_decide_eq_true q1,of_decide_eq_true q2⟩) fun _=>aF.some fun q=>by cases q)) fun Tp h38=> ?_;refine aF.bif (fun e4=>aF.some ?_) fun _=>aF.some b4;obtain ⟨q1,q2⟩:=h38 e4;have q3:=b4.1;exact ⟨by show HH≤_;omega,.inr ⟨b1,e,HA,by show HH<_;omega,by rw [hr];exact q1⟩⟩
theorem C0:aF (fun r=>ri n r.2) (ew ((n:Int),(c:Int),rs)):=by
 have hn1:=h.n1;have rk:=h.n2;unfold ew;refine aF.bind (Gg hn1 (by omega)) fun y1 h1=>aF.bind (Gg hn1 (by omega)) fun y3 h3=>aF.bind (P:=fun r=>ri n r.2) ?_ fun r hr=>aF.some hr;refine aF.rounds (fun (d:Nat) (s:List Int×List Int)=>s.1.length=n∧ri n s.2∧d=s.2.countP (fun x=>decide (x<0))) (fun d s hs=> ?_) (n:=y3.countP (fun x=>decide (x<0))) ⟨h1.1,h3,rfl⟩;obtain ⟨p,cs⟩:=s;obtain ⟨s1,s2,s3⟩:=hs;have s1:p.length=n:=s1;have s2:ri n cs:=s2;have s3:d=cs.countP (fun x=>decide (x<0)):=s3;unfold jw;refine aF.bind (QE h s2) fun r hr=> ?_;obtain ⟨b,v⟩:=r;refine aF.bif (fun _=>aF.some (.inr ⟨_,rfl,s2⟩)) fun e=> ?_;have e: ¬b<0:=of_decide_eq_false e;rcases hr.2 with q|⟨q1,q2,q3,q4,q5⟩
 exact absurd q e;have q1:0≤b:=q1;have q2:b<ae rs:=q2;have q3:0≤v:=q3;have q4:v<1099511627776:=q4;obtain ⟨g1,_⟩:=tM h (nL h q1 q2);have q5:cs.getD (Int.toNat (rs.getD b.toNat (0,0,0,0)).1) 0<0:=q5;have hl:=s2.1;simp only;refine aF.guard ⟨q1,q2⟩ (aF.guard ⟨g1.1,by simp only [ae];omega⟩ (aF.guard ⟨g1.1,by simp only [ae];omega⟩ (aF.some (.inl ⟨_,_,?_,rfl,?_,⟨?_,fun y hy=> ?_⟩,rfl⟩))));generalize UT:Int.toNat (rs.getD b.toNat (0,0,0,0)).1=ix at q5⊢;have QF:ix<cs.length:=by omega
 rw [List.getD_eq_getElem?_getD,List.getElem?_eq_getElem QF] at q5;have q5:cs[ix]<0:=q5;show (cs.set ix v).countP _<d;rw [List.countP_set QF,if_pos (by simpa using q5),if_neg (by simp;omega),s3];have:0<cs.countP (fun x=>decide (x<0)):=List.countP_pos_iff.2 ⟨cs[ix],List.getElem_mem QF,by simpa using q5⟩;omega;show (p.set _ _).length=n;rw [List.length_set];exact s1;show (cs.set _ _).length=n;rw [List.length_set];exact hl;rcases List.mem_or_eq_of_mem_set hy with hy|hy
 exact s2.2 y hy;have hy:y=v:=hy;rw [hy];exact ⟨by omega,q4⟩
theorem C1 {r:Q4}(hr:pC n c r){cs:List Int}(hc:cs.length=n):aF (fun b=>b=true→True) (eh (r.1,r.2.1,r.2.2.1,r.2.2.2) cs):=by
 obtain ⟨_,g2⟩:=tM h hr;unfold eh;refine aF.bind (P:=fun _=>True) (aF.bif (fun _=>aF.some trivial) fun e=> ?_) fun _ _=>aF.some fun _=>trivial;have e: ¬r.2.2.1<0:=of_decide_eq_false e;obtain ⟨g4,g5⟩:=g2 (by omega);refine aF.guard ⟨g4.1,by simp only [ae];omega⟩ (aF.bif (fun _=>aF.guard ⟨by show 0≤r.2.2.1;omega,by simp only [ae];omega⟩ (aF.some trivial)) fun _=>aF.some trivial)
theorem Hm: ∃out,dd ((n:Int),(c:Int),rs)=some (out,true)∧bL out=true:=by
 have hn1:=h.n1;have rk:=h.n2;have KF:=h.rl;obtain ⟨y4,e4,h4⟩:=C0 h;have Yv:=h4.1;have u2: ∀q:List Bool,q.length=n→aF (fun r=>r.length=n) (rounds (je ((n:Int),(c:Int),rs) y4) ((0:Int),q)):=by
  intro q hq;refine aF.rounds (CS (ae rs) (fun v=>v.length=n)) (fun d s hs=> ?_) (n:=rs.length) ⟨Int.le_refl _,by simp [ae],by simp [ae],hq⟩;obtain ⟨t,q⟩:=s;have db:=hs;obtain ⟨b1,b2,b3,b4⟩:=hs;have b1:0≤t:=b1;have b4:q.length=n:=b4;unfold je;refine aF.bif (fun e=> ?_) (fun _=>aF.some (.inr ⟨_,rfl,b4⟩));have e:t<ae rs:=of_decide_eq_true e;have NX:=nL h b1 e;obtain ⟨g1,g2⟩:=tM h NX;simp only;generalize rs.getD t.toNat (0,0,0,0)=r at*;refine aF.bind (P:=fun v=>v.length=n) (aF.guard ⟨b1,e⟩ ?_) fun v hv=>aF.some (CS.inl (by simp only [ae];omega) db e hv);refine aF.bind (P:=fun b=>b=true→0≤r.2.2.1) (aF.guard ⟨g1.1,by simp only [ae];omega⟩ (aF.bif (fun _=>aF.bif (fun e2=>aF.bind (C1 h NX Yv) fun y _=>aF.some fun _=>of_decide_eq_true e2) fun _=>aF.some fun q=>by cases q) fun _=>aF.some fun q=>by cases q)) fun FX UU=> ?_;refine aF.bif (fun e3=> ?_) fun _=>aF.some b4;obtain ⟨g4,g5⟩:=g2 (UU e3);exact aF.guard ⟨g4.1,by simp only [ae];omega⟩ (aF.guard ⟨UU e3,by simp only [ae,List.length_set];omega⟩ (aF.some (by rw [List.length_set,List.length_set];exact b4)))
 obtain ⟨cR,e10,Ro⟩:aF (fun r=>r.length=n) (rounds (jf ((n:Int),(c:Int),rs) y4) ((0:Int),(List.replicate n false).set (Int.toNat 0) true)):=by
  refine aF.rounds (CS (n:Int) (fun v=>v.length=n)) (fun d s hs=> ?_) (n:=n) ⟨Int.le_refl _,by show (0:Int)≤(n:Int);omega,by simp,by simp only [List.length_set,List.length_replicate]⟩;obtain ⟨t,q⟩:=s;unfold jf;refine aF.bif (fun e=> ?_) (fun _=>aF.some (.inr ⟨_,rfl,hs.2.2.2⟩));exact aF.bind (u2 q hs.2.2.2) fun v hv=>aF.some (CS.inl (by omega) hs (of_decide_eq_true e) hv)
 obtain ⟨uA,e13,h13,Xu⟩:aF (fun r=>r.length≤16∧ ∀x∈r,-1000≤x∧x≤1000000) (rounds (jd ((n:Int),(c:Int),rs) y4 cR) ((0:Int),([]:List Int))):=by
  refine aF.rounds (fun d s=>0≤s.1∧s.1≤ae rs∧d=(ae rs - s.1).toNat∧(s.2.length:Int)≤s.1∧ ∀x∈s.2,-1000≤x∧x≤1000000) (fun d s hs=> ?_) (n:=rs.length) ⟨Int.le_refl _,by simp [ae],by simp [ae],by simp,fun _ h=>by cases h⟩;obtain ⟨t,q⟩:=s;obtain ⟨b1,b2,b3,b4,b5⟩:=hs;have b1:0≤t:=b1;have b2:t≤ae rs:=b2;have b3:d=(ae rs - t).toNat:=b3;have b4:(q.length:Int)≤t:=b4;unfold jd;refine aF.bif (fun e=> ?_) (fun _=>aF.some (.inr ⟨_,rfl,by simp only [ae] at b2;show q.length≤16;omega,b5⟩));have e:t<ae rs:=of_decide_eq_true e;have NX:=nL h b1 e;obtain ⟨g1,g2⟩:=tM h NX;have e16:ae rs≤16:=by simp only [ae];omega
  have hw:aj .i64 t 1=t+1:=eQ (by omega);simp only;generalize rs.getD t.toNat (0,0,0,0)=r at*;refine aF.bind (P:=fun v=>(v.length:Int)≤t+1∧ ∀x∈v,-1000≤x∧x≤1000000) (aF.guard ⟨b1,e⟩ ?_) fun v hv=>aF.some (.inl ⟨d - 1,_,by omega,rfl,by rw [hw];show 0≤t+1;omega,by rw [hw];show t+1≤ae rs;omega,by rw [hw];show d - 1=(ae rs - (t+1)).toNat;omega,by rw [hw];exact hv.1,hv.2⟩);refine aF.bind (P:=fun _=>True) (aF.guard ⟨g1.1,by simp only [ae];omega⟩ (aF.bif (fun _=>aF.bind (C1 h NX Yv) fun y _=>aF.some trivial) fun _=>aF.some trivial)) fun v24 _=> ?_;refine aF.bif (fun _=>aF.guard (by simp only [List.length_cons,List.length_nil];unfold av;omega) (aF.some ⟨by simp;omega,jy b5 (by omega)⟩)) fun _=>aF.some ⟨by omega,b5⟩
 refine ⟨uA,?_,ln Xu (by omega)⟩;unfold dd;simp only [h.valid,Option.bind_some,Bool.not_true,cond_false,e4,Int.toNat_natCast];rw [guard_pos (by omega),guard_pos (by simp only [ae,List.length_replicate];omega),e10,Option.bind_some,e13];rfl
end
section
variable {m c:Nat} {zs:List Q4} {ss es:List Int} (h:qw m c zs ss es)
include h
theorem MX: ∃HI,iu ((m:Int),(c:Int),zs,ss,es)=some (((m:Int),(c:Int),HI,es,ss),true)∧qw m c HI es ss:=by
 have hz:=h.zl;have hs:=h.sl;have he:=h.el;have hm:=h.m2;obtain ⟨r,e,hr,hv⟩:=cO (f:=ir zs) (fun i s=>(((i:Nat):Int),s)) (fun _ s=>s.length=zs.length∧ ∀r∈s,u5 m c r) (fun r=>r.length=zs.length∧ ∀x∈r,u5 m c x) (n:=zs.length) (fun i s hi hs=>by
  obtain ⟨s1,s2⟩:=hs;have Q2:i<s.length:=by omega
  have ha:=s2 _ (dQ (d:=(0,0,0,0)) Q2);unfold ir;simp only [show decide ((i:Int)<ae zs)=true from qW hi,cond_true,guard_pos (show (0:Int)≤(i:Int)∧(i:Int)<ae s from ⟨by omega,by simp only [ae];omega⟩),Int.toNat_natCast];rw [guard_pos (by simp only [ae,List.length_set];omega),dh hi (show zs.length≤4294967296 by omega)];refine ⟨_,rfl,by rw [List.length_set,List.length_set];exact s1,fun x hx=> ?_⟩;have hg: ∀y:Q4,(s.set i y).getD i (0,0,0,0)=y:=fun y=>by
   rw [List.getD_eq_getElem?_getD,List.getElem?_set_self Q2];rfl
  rcases List.mem_or_eq_of_mem_set hx with hx|rfl
  rcases List.mem_or_eq_of_mem_set hx with hx|rfl
  exact s2 x hx;exact ⟨ha.2.1,ha.2.1,ha.2.2.1,ha.2.2.2⟩;rw [hg];exact ⟨ha.2.1,ha.1,ha.2.2.1,ha.2.2.2⟩) (fun s hs=>by
  unfold ir;simp only [show decide (((zs.length:Nat):Int)<ae zs)=false from rq (Nat.le_refl _),cond_false];exact ⟨_,rfl,hs⟩) zs.length 0 zs (by omega) ⟨rfl,h.Ks⟩
 have e:rounds (ir zs) ((0:Int),zs)=some r:=e;refine ⟨r,?_,⟨h.m1,h.m2,h.c1,h.c2,by omega,hv,h.el,h.sl,h.ev,h.sv⟩⟩;unfold iu;simp only [h.valid,Option.bind_some,Bool.not_true,cond_false,iD (show zs.length≤1000000 by omega),iD (show es.length≤1000000 by omega),iD (show ss.length≤1000000 by omega),e]
end
section
variable {m c:Nat} {nx:List Int} {es:List Bool} (h:gn m c nx es)
include h
theorem toI {s a:Int}(hs:0≤s∧s<(m:Int))(ha:0≤a∧a<(c:Int)):aF (fun t=>0≤t∧t<(m:Int)) (cH ((m:Int),(c:Int),nx,es) s a):=by
 obtain ⟨t,e,ht⟩:=KD h (s:=s.toNat) (a:=a.toNat) (by omega) (by omega);rw [Int.toNat_of_nonneg hs.1,Int.toNat_of_nonneg ha.1] at e;exact ⟨_,e,by omega,by omega⟩
theorem EX:aF (fun r=>r.length=m) (ki ((m:Int),(c:Int),nx,es)):=by
 obtain ⟨h3,h4,h5,h6,h7,h8,h9,Ro⟩:=h.facts;have KF:(List.replicate m (0:Int)).length=m:=List.length_replicate;have k1: ∀(s5:Int×List Int),s5.2.length=m→ ∀aL:Int×(List ((cS .i64 4).D×Int))×List Int,0≤aL.1→aL.1<(m:Int)→ ∀q:List Int,q.length=5→aF (fun r=>r.length=5) (rounds (kf ((m:Int),(c:Int),nx,es) s5 aL) ((0:Int),q)):=by
  intro s5 Yw aL i1 i2 q hq;refine aF.rounds (CS (c:Int) (fun v=>v.length=5)) (fun d s hs=> ?_) (n:=c) ⟨Int.le_refl _,by show (0:Int)≤(c:Int);omega,by simp,hq⟩;obtain ⟨t,q⟩:=s;have b1:0≤t:=hs.1;have b4:q.length=5:=hs.2.2.2;unfold kf;refine aF.bif (fun e=> ?_) (fun _=>aF.some (.inr ⟨_,rfl,b4⟩));have e:t<(c:Int):=of_decide_eq_true e;have hw:aj .i64 1 t=1+t:=eQ (by omega);refine aF.bind (toI h ⟨i1,i2⟩ ⟨b1,e⟩) fun y hy=> ?_;simp only [hw];exact aF.guard ⟨hy.1,by simp only [ae];omega⟩ (aF.guard ⟨by omega,by omega⟩ (aF.guard (by omega) (aF.some (CS.inl (by omega) hs e (by rw [List.length_set];exact b4)))))
 have k2: ∀(s5:Int×List Int),s5.2.length=m→ ∀(ns:List ((cS .i64 4).D×Int)) (q:List Int),q.length=m→aF (fun r=>r.length=m) (rounds (kg ((m:Int),(c:Int),nx,es) s5) ((0:Int),ns,q)):=by
  intro s5 Yw ns q hq;refine aF.rounds (fun d s=>CS (m:Int) (fun v=>v.length=m) d (s.1,s.2.2)) (fun d s hs=> ?_) (n:=m) ⟨Int.le_refl _,by show (0:Int)≤(m:Int);omega,by simp,hq⟩;obtain ⟨t,ns,q⟩:=s;have hs:CS (m:Int) (fun v=>v.length=m) d (t,q):=hs;have b1:0≤t:=hs.1;have b4:q.length=m:=hs.2.2.2;unfold kg;refine aF.bif (fun e=> ?_) (fun _=>aF.some (.inr ⟨_,rfl,b4⟩));have e:t<(m:Int):=of_decide_eq_true e;refine aF.guard ⟨b1,by simp only [ae];omega⟩ (aF.bind (k1 s5 Yw (t,ns,q) b1 e _ rfl) fun pw h22=>aF.guard h22 ?_);refine aF.bind (P:=fun _=>True) (aF.bif (fun e2=>aF.guard ?_ (aF.some trivial)) fun _=>aF.some trivial) fun v _=>aF.guard ⟨b1,by simp only [ae];omega⟩ (aF.some (.inl ⟨d - 1,_,(hs.next (by omega) e (by rw [List.length_set];exact b4) (v:=q.set (Int.toNat t) v.1)).2,rfl,(hs.next (by omega) e (by rw [List.length_set];exact b4)).1⟩));simp only;generalize cn (t:=(.st (cS .i64 4))) (u:=tI) ns (sd .i64 4 0 pw)=o at e2⊢;cases o with
  |none=>rfl
  |some _=>cases e2
 have k3: ∀q:List Int,q.length=m→aF (fun r=>r.length=m) (rounds (kh ((m:Int),(c:Int),nx,es)) ((0:Int),q)):=by
  intro q hq;refine aF.rounds (CS (m:Int) (fun v=>v.length=m)) (fun d s hs=> ?_) (n:=m) ⟨Int.le_refl _,by show (0:Int)≤(m:Int);omega,by simp,hq⟩;obtain ⟨t,q⟩:=s;unfold kh;refine aF.bif (fun e=> ?_) (fun _=>aF.some (.inr ⟨_,rfl,hs.2.2.2⟩));simp only [Int.toNat_natCast];exact aF.bind (k2 (t,q) hs.2.2.2 [] _ KF) fun v hv=>aF.some (CS.inl (by omega) hs (of_decide_eq_true e) hv)
 unfold ki;simp only [Int.toNat_natCast];refine aF.guard (by omega) (aF.bind (P:=fun r=>r.length=m) ?_ fun r hr=>aF.bind (k3 r hr) fun v hv=>aF.some hv);refine aF.rounds (CS (m:Int) (fun v=>v.length=m)) (fun d s hs=> ?_) (n:=m) ⟨Int.le_refl _,by show (0:Int)≤(m:Int);omega,by simp,KF⟩;obtain ⟨t,q⟩:=s;have b1:0≤t:=hs.1;have b4:q.length=m:=hs.2.2.2;unfold nH;simp only [ae,h8];refine aF.bif (fun e=> ?_) (fun _=>aF.some (.inr ⟨_,rfl,b4⟩));have e:t<(m:Int):=of_decide_eq_true e;exact aF.bind (P:=fun v=>v.length=m) (aF.guard ⟨b1,e⟩ (aF.bif (fun _=>aF.guard ⟨b1,by omega⟩ (aF.some (by rw [List.length_set];exact b4))) fun _=>aF.some b4)) fun v hv=>aF.some (CS.inl (by omega) hs e hv)
end
theorem C2 {xs:List Int}{x:Int}(hx:x∈xs)(hl:xs.length≤1000):aF (fun r=>0≤r∧r<ae xs) (cL xs x):=by
 obtain ⟨j,hj,ej⟩:=List.getElem_of_mem hx;unfold cL;refine aF.bind (P:=fun r=> ∃i:Int,r= .inr i∧0≤i∧i<ae xs) ?_ fun r hr=> ?_;refine aF.rounds (fun d s=>0≤s∧s≤(j:Int)∧d=((j:Int) - s).toNat) (fun d s hs=> ?_) (n:=j) ⟨Int.le_refl _,by omega,by simp⟩;obtain ⟨b1,b2,b3⟩:=hs;unfold ga;refine aF.bif (fun e=> ?_) (fun e=> ?_);have e:s<ae xs:=of_decide_eq_true e;refine aF.guard ⟨b1,e⟩ (aF.bif (fun _=>aF.some (.inr ⟨_,rfl,s,rfl,b1,e⟩)) fun e2=> ?_);have cX:s≠(j:Int):=by
  rintro rfl;rw [Int.toNat_natCast,List.getD_eq_getElem?_getD,List.getElem?_eq_getElem hj,beq_eq_false_iff_ne] at e2;exact e2 ej.symm
 have hw:aj .i64 s 1=s+1:=eQ (by omega);exact aF.some (.inl ⟨d - 1,_,by omega,rfl,by rw [hw];omega,by rw [hw];omega,by rw [hw];omega⟩);have e: ¬s<ae xs:=of_decide_eq_false e;simp only [ae] at e;omega;obtain ⟨i,rfl,hi⟩:=hr;exact aF.some hi
theorem EY {ns:List (Int×Int)}{k v:Int}(h:cn (t:=tI) (u:=tI) ns k=some v): ∃p∈ns,p.2=v:=by
 induction ns with
 |nil=>cases h
 |cons p ns ih=>
  have h:(if Da tI p.1 k then some p.2 else cn (t:=tI) (u:=tI) ns k)=some v:=h;split at h;injection h with h;exact ⟨p,by simp,h⟩;obtain ⟨q,hq,e⟩:=ih h;exact ⟨q,List.mem_cons_of_mem _ hq,e⟩
theorem EZ {ns:List (Int×Int)}{k:Int}(h:cn (t:=tI) (u:=tI) ns k=none): ∀p∈ns,p.1≠k:=by
 induction ns with
 |nil=>intro p hp;cases hp
 |cons q ns ih=>
  have h:(if Da tI q.1 k then some q.2 else cn (t:=tI) (u:=tI) ns k)=none:=h;split at h;cases h;rename_i e;intro p hp;rcases List.mem_cons.1 hp with rfl|hp
  intro q;exact e (by unfold Da;simpa using q);exact ih h p hp
structure Found (cl:List Int)(ns:List (Int×Int))(ls nx:List Int):Prop where
 n1: ∀p∈ns,0≤p.2∧p.2<ae ls
 n2: ∀x∈ls,∃p∈ns,p.1=x
 nd:ls.Nodup
 sub:ls ⊆ cl
 nx: ∀x∈nx,0≤x∧x<ae ls
section
variable {m c:Nat} {nx:List Int} {es:List Bool} (h:gn m c nx es) {cl:List Int} (ma:cl.length=m)
include h ma
theorem KJ {x a:Int}(hx:x∈cl)(ha:0≤a∧a<(c:Int)):aF (fun y=>y∈cl) (gR x a cl ((m:Int),(c:Int),nx,es) cl):=by
 obtain ⟨h3,h4,_⟩:=h.facts;unfold gR eY;refine aF.bind (aF.bind (C2 hx (by omega)) fun r hr=>aF.some hr) fun y1 h1=>aF.bind (toI h ⟨h1.1,by have:=h1.2;simp only [ae] at this;omega⟩ ha) fun y3 hy3=>aF.guard ⟨hy3.1,by simp only [ae];omega⟩ (aF.some (dQ (by omega)))
theorem MY {x:Int}(hx:x∈cl):aF (fun _=>True) (gQ x ((m:Int),(c:Int),nx,es) cl):=by
 obtain ⟨h3,h4,h5,h6,h7,h8,_⟩:=h.facts;unfold gQ eY;exact aF.bind (aF.bind (C2 hx (by omega)) fun r hr=>aF.some hr) fun y1 h1=>aF.guard ⟨h1.1,by have:=h1.2;simp only [ae] at this⊢;omega⟩ (aF.some trivial)
theorem QG {s1:Int×(List (Int×Int))×List Int×List Int×List Bool}{x:Int}(hx:List.getD s1.2.2.1 (Int.toNat s1.1) 0=x)(Hw:x∈cl){ns:List (Int×Int)}{ls nq:List Int}(hF:Found cl ns ls nq)(hn:nq.length≤1000):
 aF (fun r=>Found cl r.1 r.2.1 r.2.2∧r.2.2.length=nq.length+c∧ls.length≤r.2.1.length)
  (rounds (gG (c:Int) (cl,((m:Int),(c:Int),nx,es),cl) s1) ((0:Int),ns,ls,nq)):=by
 obtain ⟨h3,h4,h5,h6,h7,h8,_⟩:=h.facts;refine aF.rounds (fun d s=>0≤s.1∧s.1≤(c:Int)∧d=((c:Int) - s.1).toNat∧Found cl s.2.1 s.2.2.1 s.2.2.2∧((s.2.2.2.length:Nat):Int)=(nq.length:Int)+s.1∧ls.length≤s.2.2.1.length) (fun d s hs=> ?_) (n:=c) ⟨Int.le_refl _,by show (0:Int)≤(c:Int);omega,by simp,hF,by simp,Nat.le_refl _⟩;obtain ⟨t,Xv,Hn,QH⟩:=s;obtain ⟨b1,b2,b3,b4,b5,b6⟩:=hs;have b1:0≤t:=b1;have b3:d=((c:Int) - t).toNat:=b3;have b4:Found cl Xv Hn QH:=b4;have b5:((QH.length:Nat):Int)=(nq.length:Int)+t:=b5;have b6:ls.length≤Hn.length:=b6;have Yx:Hn.length≤m:=by rw [←ma];exact b4.nd.length_le_of_subset b4.sub
 unfold gG;refine aF.bif (fun e=> ?_) (fun e=>aF.some (.inr ⟨_,rfl,b4,?_,b6⟩));have e:t<(c:Int):=of_decide_eq_true e;have hw:aj .i64 t 1=t+1:=eQ (by omega);rw [hx];refine aF.bind (KJ h ma Hw ⟨b1,e⟩) fun y hy=> ?_;simp only;refine aF.bind (P:=fun v:Int×(List (Int×Int))×List Int=>Found cl v.2.1 v.2.2 QH∧Hn.length≤v.2.2.length∧0≤v.1∧v.1<ae v.2.2) ?_ fun v hv=>aF.guard (by simp only [List.length_cons,List.length_nil];unfold av;omega) (aF.some (.inl ⟨d - 1,_,by omega,rfl,by rw [hw];show 0≤t+1;omega,by rw [hw];show t+1≤(c:Int);omega,by rw [hw];show d - 1=((c:Int) - (t+1)).toNat;omega,⟨hv.1.n1,hv.1.n2,hv.1.nd,hv.1.sub,jy hv.1.nx hv.2.2⟩,by rw [hw];simp;omega,by have:=hv.2.1;show ls.length≤v.2.2.length;omega⟩));generalize hf:cn (t:=tI) (u:=tI) Xv y=o;cases o with
 |some w=>
  obtain ⟨p,hp,e3⟩:=EY hf;have h0:=b4.n1 p hp;rw [e3] at h0;exact aF.some ⟨b4,Nat.le_refl _,h0⟩
 |none=>
  have cX:y ∉ Hn:=fun q=>by
   obtain ⟨p,hp,e3⟩:=b4.n2 y q;exact EZ hf p hp e3
  refine aF.guard rfl (aF.guard (by simp only [List.length_cons,List.length_nil];unfold av;omega) (aF.some ⟨⟨jy (fun p hp=> ?_) ⟨by simp [ae],by simp [ae];omega⟩,fun z hz=> ?_,?_,fun z hz=> ?_,fun z hz=> ?_⟩,by simp,by simp [ae],by simp [ae];omega⟩));have:=b4.n1 p hp;simp only [ae,List.length_append,List.length_cons,List.length_nil] at this⊢;omega;rcases List.mem_append.1 hz with hz|hz
  obtain ⟨p,hp,e3⟩:=b4.n2 z hz;exact ⟨p,List.mem_append.2 (.inl hp),e3⟩;simp only [List.mem_singleton] at hz;subst hz;exact ⟨(z,ae Hn),by simp,rfl⟩;show (Hn++[y]).Nodup;rw [List.nodup_append];refine ⟨b4.nd,by simp,fun a ha b hb=> ?_⟩;simp only [List.mem_singleton] at hb;subst hb;rintro rfl;exact cX ha;rcases List.mem_append.1 hz with hz|hz
  exact b4.sub hz;simp only [List.mem_singleton] at hz;subst hz;exact hy;have:=b4.nx z hz;simp only [ae,List.length_append,List.length_cons,List.length_nil] at this⊢;omega
 have e: ¬t<(c:Int):=of_decide_eq_false e;have b2:t≤(c:Int):=b2;show QH.length=nq.length+c;omega
theorem E0 {a1:Int}(ha:a1∈cl): ∃(m':Nat) (nq:List Int) (pe:List Bool),dZ (c:Int) a1 (cl,((m:Int),(c:Int),nx,es),cl) (((m:Int),(c:Int),nx,es),cl)=some (((m':Int),(c:Int),nq,pe),true)∧gn m' c nq pe:=by
 obtain ⟨h3,h4,h5,h6,h7,h8,_⟩:=h.facts;have xY:=h.nl;obtain ⟨r,e,hr⟩:aF (fun r=> ∃(ls nq:List Int) (pe:List Bool),r=Sum.inl (ls,nq,pe)∧1≤ls.length∧ls.length≤m∧nq.length=ls.length*c∧pe.length=ls.length∧ ∀x∈nq,0≤x∧x<ae ls)
  (rounds (gH (c:Int) (cl,((m:Int),(c:Int),nx,es),cl) (((m:Int),(c:Int),nx,es),cl)) ((0:Int),(([]:List (Int×Int))++[(a1,(0:Int))]),([a1]:List Int),([]:List Int),([]:List Bool))):=by
  refine aF.rounds (fun d s=> ∃i:Nat,s.1=(i:Int)∧i≤s.2.2.1.length∧d=m - i∧Found cl s.2.1 s.2.2.1 s.2.2.2.1∧s.2.2.2.1.length=i*c∧s.2.2.2.2.length=i∧1≤s.2.2.1.length) (fun d s hs=> ?_) (n:=m)
   ⟨0,rfl,Nat.zero_le _,rfl,⟨fun p hp=>by
    have hp:p=(a1,0):=by simpa using hp
    subst hp;exact ⟨Int.le_refl _,by simp [ae]⟩,fun x hx=>⟨(a1,0),by simp,by
    have hx:x=a1:=by simpa using hx
    exact hx.symm⟩,by simp,fun x hx=>by
    have hx:x=a1:=by simpa using hx
    subst hx;exact ha,fun x hx=>by cases hx⟩,by simp,rfl,by simp⟩
  obtain ⟨t,ns,ls,nq,pe⟩:=s;obtain ⟨i,b1,b2,b3,b4,b5,b6,b7⟩:=hs;have b1:t=(i:Int):=b1;subst b1;have b2:i≤ls.length:=b2;have b4:Found cl ns ls nq:=b4;have b5:nq.length=i*c:=b5;have b6:pe.length=i:=b6;have b7:1≤ls.length:=b7;have Yx:ls.length≤m:=by rw [←ma];exact b4.nd.length_le_of_subset b4.sub
  have hic:i*c≤64*4:=Nat.mul_le_mul (by omega) h6;unfold gH;refine aF.bif (fun e=> ?_) (fun e=> ?_);have e:(i:Int)<ae ls:=of_decide_eq_true e;have e':i<ls.length:=by simp only [ae] at e;omega
  have Hw:ls.getD i 0∈cl:=b4.sub (dQ e');refine aF.guard ⟨by omega,e⟩ ?_;simp only [Int.toNat_natCast];refine aF.bind (MY h ma Hw) fun y _=>aF.guard (by simp only [List.length_cons,List.length_nil];unfold av;omega) (aF.bind (QG h ma (s1:=((i:Int),ns,ls,nq,pe)) rfl Hw b4 (by omega)) fun v hv=> ?_);obtain ⟨Xv,Hn,QH⟩:=v;obtain ⟨v1,v2,v3⟩:=hv;have v2:QH.length=nq.length+c:=v2;have v3:ls.length≤Hn.length:=v3;have aap:Hn.length≤m:=by rw [←ma];exact v1.nd.length_le_of_subset v1.sub
  refine aF.bif (fun e2=> ?_) fun _=>aF.some (.inl ⟨m - (i+1),_,by omega,rfl,i+1,dh (n:=1000) (by omega) (by omega),by show i+1≤Hn.length;omega,rfl,v1,by show QH.length=(i+1)*c;rw [v2,b5,Nat.add_mul,Nat.one_mul],by simp [b6],by show 1≤Hn.length;omega⟩);have e2:ae Hn>64:=of_decide_eq_true e2;simp only [ae] at e2;omega;have e: ¬(i:Int)<ae ls:=of_decide_eq_false e;simp only [ae] at e;have:i=ls.length:=by omega
  subst this;exact aF.some (.inr ⟨_,rfl,ls,nq,pe,rfl,b7,Yx,b5,b6,b4.nx⟩)
 obtain ⟨ls,nq,pe,rfl,q1,q2,q3,q4,q5⟩:=hr;refine ⟨ls.length,nq,pe,?_,?_,?_⟩;unfold dZ;rw [e];rfl;exact sA q1 (by omega) h5 h6 q3 q4 fun i hi=>q5 _ (dQ hi);rw [q3];have:ls.length*c≤m*c:=Nat.mul_le_mul_right c q2;omega
end
theorem KK {m c:Nat}{nx:List Int}{es:List Bool}(h:gn m c nx es): ∃(m':Nat) (nq:List Int) (pe:List Bool),dC ((m:Int),(c:Int),nx,es)=some (((m':Int),(c:Int),nq,pe),true)∧gn m' c nq pe:=by
 obtain ⟨h3,h4,_⟩:=h.facts;obtain ⟨cl,e,ma⟩:=EX h;obtain ⟨m',nq,pe,e2,h2⟩:=E0 h ma (a1:=cl.getD 0 0) (dQ (by omega));refine ⟨m',nq,pe,?_,h2⟩;unfold dC;simp only [h.valid,Option.bind_some,Bool.not_true,cond_false,e];rw [guard_pos (by simp only [ae];omega)];have e2:dZ (c:Int) (cl.getD (Int.toNat 0) 0) (cl,((m:Int),(c:Int),nx,es),cl) (((m:Int),(c:Int),nx,es),cl)=_:=e2;rw [e2];rfl
end Go.Proofs
namespace Go.Proofs
open Go.Ide Go.IntWalk
structure DK where
 m:Nat
 c:Nat
 zs:List Q4
 ss:List Int
 es:List Int
 pm:Nat
 pc:Nat
 nx:List Int
 pe:List Bool
 n:Nat
 gc:Nat
 rs:List Q4
 k:Nat
abbrev oN:=(Int×Int×List (Int×Int×Int×Int)×List Int×List Int)×(Int×Int×List Int×List Bool)×(Int×Int×List (Int×Int×Int×Int))×List Int
def DK.d (x:DK):oN:=(((x.m:Int),(x.c:Int),x.zs,x.ss,x.es),((x.pm:Int),(x.pc:Int),x.nx,x.pe),((x.n:Int),(x.gc:Int),x.rs),bB x.k)
structure DK.OK (x:DK):Prop where
 pK:qw x.m x.c x.zs x.ss x.es
 plain:gn x.pm x.pc x.nx x.pe
 uD:sB x.n x.gc x.rs
 k1:1≤x.k
 k2:x.k≤12
section
variable {x:DK} (h:x.OK)
include h
theorem vK:js x.d=some x.d:=by
 have h1:=h.pK.zl;have h2:=h.pK.sl;have h3:=h.pK.el;have h4:=h.pK.m2;obtain ⟨p3,p4,p5,p6,p7,p8,_⟩:=h.plain.facts;have h5:=h.plain.nl;have h6:=h.uD.rl;have h7:=dR x.k;have h8:=h.k2;unfold js mV DK.d;simp only [iD (show x.zs.length≤1000000 by omega),iD (show x.ss.length≤1000000 by omega),iD (show x.es.length≤1000000 by omega),iD (show x.nx.length≤1000000 by omega),
  iD (show x.pe.length≤1000000 by omega),iD (show x.rs.length≤1000000 by omega),iD (show (bB x.k).length≤1000000 by omega),Option.bind_some]
theorem pD:fP x.d=some true:=by
 have h1:=h.pK.zl;have h5:=h.plain.nl;have h6:=h.uD.rl;have h9:e9 (bB x.k) 4=some true:=vJ (c:=4) h.k2 (by decide) (by decide);unfold fP DK.d;simp only [h.pK.valid,h.plain.valid,h.uD.valid,h9,Option.bind_some,cond_true,decide_eq_true (show ae x.zs≤16 by simp only [ae];omega),decide_eq_true (show ae x.nx≤64 by simp only [ae];omega),
  decide_eq_true (show ae x.rs≤16 by simp only [ae];omega)]
theorem AX {l:List UInt8}(hl:l.length≤1048576):strings_Split l [32]=some (gz 32 l):=by
 unfold strings_Split;rw [guard_pos (show _∧_ from ⟨by omega,by simp⟩),oL]
theorem nM {y:DK}(hy:y.OK){l:List UInt8}{ws:List (List UInt8)}{t:List UInt8}(hl:l.length≤1048576)(hw:gz 32 l=ws)(hc:bP x.d ws=some (t,true,true,y.d)):cN x.d l=some (y.d,t):=by
 have e1:=vK h;have e2:=pD hy;unfold DK.d at e1 hc e2⊢;unfold cN;simp only [e1,AX h hl,hw,hc,e2,Option.bind_some,Bool.not_true,cond_false]
theorem QI {y:DK}{l:List UInt8}{ws:List (List UInt8)}{t:List UInt8}(hl:l.length≤1048576)(hw:gz 32 l=ws)(hc:bP x.d ws=some (t,false,true,y.d)):cN x.d l=some (x.d,[110,111]):=by
 have e1:=vK h;unfold DK.d at e1 hc⊢;unfold cN;simp only [e1,AX h hl,hw,hc,Option.bind_some,Bool.not_true,cond_false,Bool.not_false,cond_true]
theorem KL {y:DK}{l:List UInt8}{ws:List (List UInt8)}{t:List UInt8}{b:Bool}(hl:l.length≤1048576)(hw:gz 32 l=ws)(hc:bP x.d ws=some (t,b,false,y.d)):cN x.d l=some (x.d,[119,104,97,116]):=by
 have e1:=vK h;unfold DK.d at e1 hc⊢;unfold cN;simp only [e1,AX h hl,hw,hc,Option.bind_some,Bool.not_false,cond_true]
end
theorem xJ {d:oN}{w:List UInt8}(hw:w∈([[109,97,99,104,105,110,101],[112,108,97,105,110],[103,114,97,109,109,97,114],[119,111,114,100],[99,111,115,116],[114,101,97,100,115],[114,101,97,100],[112,97,114,115,101],[116,114,101,101,115],[117,115,101,102,117,108]]:List (List UInt8))):
 cM d w=some ([],false,false,d):=by
 simp only [List.mem_cons,List.not_mem_nil,or_false] at hw;rcases hw with rfl|rfl|rfl|rfl|rfl|rfl|rfl|rfl|rfl|rfl<;>rfl
theorem E1 {d:oN}{w:List UInt8}{r:List UInt8×Bool×Bool×oN}(ht:cM d w=some ([],false,false,d))(hs:aJ d w=some r):bP d [w]=some r:=by
 unfold bP;rw [show (ae [w]==(1:Int))=true from rfl,cond_true,guard_pos (show _∧_ from ⟨by decide,by simp [ae]⟩)];simp only [show List.getD [w] (Int.toNat 0) []=w from rfl,ht,hs,Option.bind_some,cond_false]
theorem KM {d d':oN}{w t:List UInt8}{b:Bool}(ht:cM d w=some (t,b,true,d')):bP d [w]=some (t,b,true,d'):=by
 unfold bP;rw [show (ae [w]==(1:Int))=true from rfl,cond_true,guard_pos (show _∧_ from ⟨by decide,by simp [ae]⟩)];simp only [show List.getD [w] (Int.toNat 0) []=w from rfl,ht,Option.bind_some,cond_true]
theorem xK {d:oN}{w u:List UInt8}{r:List UInt8×Bool×Bool×oN}(hs:bR d w u=some r):bP d [w,u]=some r:=by
 unfold bP;rw [show (ae [w,u]==(1:Int))=false from rfl,cond_false,show (ae [w,u]==(2:Int))=true from rfl,cond_true,guard_pos (show _∧_ from ⟨by decide,by simp [ae]⟩),guard_pos (show _∧_ from ⟨by decide,by simp [ae]⟩)];simp only [show List.getD [w,u] (Int.toNat 0) []=w from rfl,show List.getD [w,u] (Int.toNat 1) []=u from rfl,hs,Option.bind_some]
theorem xL {w u:List UInt8}(h1: ∀b∈w,b≠32)(h2:Clean u):gz 32 (w++32::u)=[w,u]:=by
 rw [rh,n5 h1,n5 fun b hb=>(h2 b hb).2];rfl
theorem xM {w:List UInt8}(h1: ∀b∈w,b≠32):gz 32 w=[w]:=n5 h1
theorem vL {v:Int}(hv:gX v)(b:Bool):dc v b=some (Lib.itoa v,b):=by
 unfold dc;rw [nc hv];rfl
theorem MZ {v:List Int}(hv:bL v=true):iQ v true=some (tx v,true):=by
 obtain ⟨_,q2⟩:=lH hv;unfold iQ;rw [kx (by omega),hv];rfl
theorem tN {k:Nat}(hk:k≤12):bL (bB k)=true:=ln (fun x hx=>by
 unfold bB at hx;have:=List.eq_of_mem_replicate hx;omega) (by rw [dR];omega)
section
variable {x:DK} (h:x.OK)
include h
theorem C3:cw (bB x.k)=some (tx (bB x.k),true):=by
 have:=dR x.k;have:=h.k2;rw [kx (by omega),tN h.k2];rfl
theorem AY:aJ x.d [109,97,99,104,105,110,101]=some (n7 x.m x.c x.zs x.ss x.es,true,true,x.d):=by
 have e:=CU h.pK;unfold aJ DK.d;simp only [beq_self_eq_true,cond_true,cond_false,Option.bind_some,e]
theorem E2:aJ x.d [112,108,97,105,110]=some (b8 x.pm x.pc x.nx x.pe,true,true,x.d):=by
 have e:=zk h.plain;unfold aJ DK.d;simp only [show (([112,108,97,105,110]:List UInt8)==[109,97,99,104,105,110,101])=false from rfl,beq_self_eq_true,cond_true,cond_false,Option.bind_some,e]
theorem AZ:aJ x.d [103,114,97,109,109,97,114]=some (n8 x.n x.gc x.rs,true,true,x.d):=by
 have e:=CW h.uD;unfold aJ DK.d;simp only [show (([103,114,97,109,109,97,114]:List UInt8)==[109,97,99,104,105,110,101])=false from rfl,show (([103,114,97,109,109,97,114]:List UInt8)==[112,108,97,105,110])=false from rfl,beq_self_eq_true,cond_true,cond_false,Option.bind_some,e]
theorem Ho:aJ x.d [119,111,114,100]=some (tx (bB x.k),true,true,x.d):=by
 have e:=C3 h;unfold aJ DK.d;simp only [show (([119,111,114,100]:List UInt8)==[109,97,99,104,105,110,101])=false from rfl,show (([119,111,114,100]:List UInt8)==[112,108,97,105,110])=false from rfl,show (([119,111,114,100]:List UInt8)==[103,114,97,109,109,97,114])=false from rfl,beq_self_eq_true,cond_true,cond_false,Option.bind_some,e]
end
section
variable {x:DK}
theorem Hp {v:Int}(e:iy ((x.m:Int),(x.c:Int),x.zs,x.ss,x.es) (bB x.k)=some (v,true))(hv:gX v):aJ x.d [99,111,115,116]=some (Lib.itoa v,true,true,x.d):=by
 have e2:=vL hv true;unfold aJ DK.d;simp only [show (([99,111,115,116]:List UInt8)==[109,97,99,104,105,110,101])=false from rfl,show (([99,111,115,116]:List UInt8)==[112,108,97,105,110])=false from rfl,show (([99,111,115,116]:List UInt8)==[103,114,97,109,109,97,114])=false from rfl,show (([99,111,115,116]:List UInt8)==[119,111,114,100])=false from rfl,beq_self_eq_true,cond_true,cond_false,Option.bind_some,e,e2]
theorem E3 {b:Bool}(e:ed ((x.pm:Int),(x.pc:Int),x.nx,x.pe) (bB x.k)=some (b,true)):aJ x.d [114,101,97,100,115]=some ((bif b then [121,101,115] else [110,101,118,101,114]),true,true,x.d):=by
 unfold aJ DK.d;simp only [show (([114,101,97,100,115]:List UInt8)==[109,97,99,104,105,110,101])=false from rfl,show (([114,101,97,100,115]:List UInt8)==[112,108,97,105,110])=false from rfl,show (([114,101,97,100,115]:List UInt8)==[103,114,97,109,109,97,114])=false from rfl,show (([114,101,97,100,115]:List UInt8)==[119,111,114,100])=false from rfl,show (([114,101,97,100,115]:List UInt8)==[99,111,115,116])=false from rfl,show (([114,101,97,100,115]:List UInt8)==[98,101,115,116])=false from rfl,beq_self_eq_true,cond_true,cond_false,Option.bind_some,e];cases b<;>rfl
theorem E4 {v:Int}(e:ef ((x.n:Int),(x.gc:Int),x.rs) (bB x.k)=some (v,true))(hv:gX v):aJ x.d [112,97,114,115,101]=some (Lib.itoa v,true,true,x.d):=by
 have e2:=vL hv true;unfold aJ DK.d;simp only [show (([112,97,114,115,101]:List UInt8)==[109,97,99,104,105,110,101])=false from rfl,show (([112,97,114,115,101]:List UInt8)==[112,108,97,105,110])=false from rfl,show (([112,97,114,115,101]:List UInt8)==[103,114,97,109,109,97,114])=false from rfl,show (([112,97,114,115,101]:List UInt8)==[119,111,114,100])=false from rfl,show (([112,97,114,115,101]:List UInt8)==[99,111,115,116])=false from rfl,show (([112,97,114,115,101]:List UInt8)==[98,101,115,116])=false from rfl,show (([112,97,114,115,101]:List UInt8)==[114,101,97,100,115])=false from rfl,show (([112,97,114,115,101]:List UInt8)==[102,105,114,115,116])=false from rfl,show (([112,97,114,115,101]:List UInt8)==[108,101,97,114,110])=false from rfl,beq_self_eq_true,cond_true,cond_false,Option.bind_some,e,e2]
theorem xN {v:Int}{b:Bool}(e:dD ((x.n:Int),(x.gc:Int),x.rs) (bB x.k)=some (v,b))(hv:gX v):aJ x.d [116,114,101,101,115]=some (Lib.itoa v,b,true,x.d):=by
 have e2:=vL hv b;unfold aJ DK.d;simp only [show (([116,114,101,101,115]:List UInt8)==[109,97,99,104,105,110,101])=false from rfl,show (([116,114,101,101,115]:List UInt8)==[112,108,97,105,110])=false from rfl,show (([116,114,101,101,115]:List UInt8)==[103,114,97,109,109,97,114])=false from rfl,show (([116,114,101,101,115]:List UInt8)==[119,111,114,100])=false from rfl,show (([116,114,101,101,115]:List UInt8)==[99,111,115,116])=false from rfl,show (([116,114,101,101,115]:List UInt8)==[98,101,115,116])=false from rfl,show (([116,114,101,101,115]:List UInt8)==[114,101,97,100,115])=false from rfl,show (([116,114,101,101,115]:List UInt8)==[102,105,114,115,116])=false from rfl,show (([116,114,101,101,115]:List UInt8)==[108,101,97,114,110])=false from rfl,show (([116,114,101,101,115]:List UInt8)==[112,97,114,115,101])=false from rfl,beq_self_eq_true,cond_true,cond_false,Option.bind_some,e,e2]
theorem C4 {v:List Int}(e:dd ((x.n:Int),(x.gc:Int),x.rs)=some (v,true))(hv:bL v=true):aJ x.d [117,115,101,102,117,108]=some (tx v,true,true,x.d):=by
 have e2:=MZ hv;unfold aJ DK.d;simp only [show (([117,115,101,102,117,108]:List UInt8)==[109,97,99,104,105,110,101])=false from rfl,show (([117,115,101,102,117,108]:List UInt8)==[112,108,97,105,110])=false from rfl,show (([117,115,101,102,117,108]:List UInt8)==[103,114,97,109,109,97,114])=false from rfl,show (([117,115,101,102,117,108]:List UInt8)==[119,111,114,100])=false from rfl,show (([117,115,101,102,117,108]:List UInt8)==[99,111,115,116])=false from rfl,show (([117,115,101,102,117,108]:List UInt8)==[98,101,115,116])=false from rfl,show (([117,115,101,102,117,108]:List UInt8)==[114,101,97,100,115])=false from rfl,show (([117,115,101,102,117,108]:List UInt8)==[102,105,114,115,116])=false from rfl,show (([117,115,101,102,117,108]:List UInt8)==[108,101,97,114,110])=false from rfl,show (([117,115,101,102,117,108]:List UInt8)==[112,97,114,115,101])=false from rfl,show (([117,115,101,102,117,108]:List UInt8)==[116,114,101,101,115])=false from rfl,show (([117,115,101,102,117,108]:List UInt8)==[99,104,101,97,112])=false from rfl,beq_self_eq_true,cond_true,cond_false,Option.bind_some,e,e2]
theorem Hq {HI:List Q4}(e:iu ((x.m:Int),(x.c:Int),x.zs,x.ss,x.es)=some (((x.m:Int),(x.c:Int),HI,x.es,x.ss),true)):cM x.d [98,97,99,107]=some ([111,107],true,true,{x with zs:=HI,ss:=x.es,es:=x.ss}.d):=by
 unfold cM DK.d;simp only [beq_self_eq_true,cond_true,cond_false,Option.bind_some,e]
theorem E5 {m':Nat}{nq:List Int}{pe:List Bool}(e:dC ((x.pm:Int),(x.pc:Int),x.nx,x.pe)=some (((m':Int),(x.pc:Int),nq,pe),true)):cM x.d [108,101,97,115,116]=some ([111,107],true,true,{x with pm:=m',nx:=nq,pe:=pe}.d):=by
 unfold cM DK.d;simp only [show (([108,101,97,115,116]:List UInt8)==[98,97,99,107])=false from rfl,show (([108,101,97,115,116]:List UInt8)==[116,105,100,121])=false from rfl,show (([108,101,97,115,116]:List UInt8)==[116,114,105,109])=false from rfl,show (([108,101,97,115,116]:List UInt8)==[108,101,116,116,101,114,101,100])=false from rfl,show (([108,101,97,115,116]:List UInt8)==[114,101,112,101,97,116])=false from rfl,show (([108,101,97,115,116]:List UInt8)==[109,97,107,101])=false from rfl,beq_self_eq_true,cond_true,cond_false,Option.bind_some,e]
theorem C5 {m c:Nat}{zs:List Q4}{ss es:List Int}{t:List UInt8}(e:fN t=some (((m:Int),(c:Int),zs,ss,es),true)):bR x.d [109,97,99,104,105,110,101] t=some ([111,107],true,true,{x with m:=m,c:=c,zs:=zs,ss:=ss,es:=es}.d):=by
 unfold bR DK.d;simp only [beq_self_eq_true,cond_true,cond_false,Option.bind_some,e]
theorem Hr {m c:Nat}{nx:List Int}{pe:List Bool}{t:List UInt8}(e:iz t=some (((m:Int),(c:Int),nx,pe),true)):bR x.d [112,108,97,105,110] t=some ([111,107],true,true,{x with pm:=m,pc:=c,nx:=nx,pe:=pe}.d):=by
 unfold bR DK.d;simp only [show (([112,108,97,105,110]:List UInt8)==[109,97,99,104,105,110,101])=false from rfl,beq_self_eq_true,cond_true,cond_false,Option.bind_some,e]
theorem C6 {n gc:Nat}{rs:List Q4}{t:List UInt8}(e:fO t=some (((n:Int),(gc:Int),rs),true)):bR x.d [103,114,97,109,109,97,114] t=some ([111,107],true,true,{x with n:=n,gc:=gc,rs:=rs}.d):=by
 unfold bR DK.d;simp only [show (([103,114,97,109,109,97,114]:List UInt8)==[109,97,99,104,105,110,101])=false from rfl,show (([103,114,97,109,109,97,114]:List UInt8)==[112,108,97,105,110])=false from rfl,beq_self_eq_true,cond_true,cond_false,Option.bind_some,e]
theorem KN {k:Nat}{t:List UInt8}(e:fg t=some (bB k,true)):bR x.d [119,111,114,100] t=some ([111,107],true,true,{x with k:=k}.d):=by
 unfold bR DK.d;simp only [show (([119,111,114,100]:List UInt8)==[109,97,99,104,105,110,101])=false from rfl,show (([119,111,114,100]:List UInt8)==[112,108,97,105,110])=false from rfl,show (([119,111,114,100]:List UInt8)==[103,114,97,109,109,97,114])=false from rfl,beq_self_eq_true,cond_true,cond_false,Option.bind_some,e]
theorem Hs {k:Nat}{v:Int}(hk:k≤12)(e:dE ((x.pm:Int),(x.pc:Int),x.nx,x.pe) (k:Int)=some (v,true))(hv:gX v):bR x.d [99,111,117,110,116] (Lib.itoa (k:Int))=some (Lib.itoa v,true,true,x.d):=by
 have e1:de (Lib.itoa (k:Int))=some ((k:Int),true):=by
  unfold de;rw [guard_pos (by have:=lX (n:=(k:Int)) (by unfold gX;omega);omega),AR (by omega)]
 have e2:=vL hv true;unfold bR DK.d;simp only [show (([99,111,117,110,116]:List UInt8)==[109,97,99,104,105,110,101])=false from rfl,show (([99,111,117,110,116]:List UInt8)==[112,108,97,105,110])=false from rfl,show (([99,111,117,110,116]:List UInt8)==[103,114,97,109,109,97,114])=false from rfl,show (([99,111,117,110,116]:List UInt8)==[119,111,114,100])=false from rfl,beq_self_eq_true,cond_true,cond_false,Option.bind_some,e,e1,e2,Ai]
end
end Go.Proofs
namespace Go.Proofs
open Go.Ide Go.IntWalk
def tS:List (List UInt8)→List UInt8
 |[]=>[]
 |l::r=>l++10::tS r
theorem Gh: ∀{ls:List (List UInt8)},(∀l∈ls,∀b∈l,b≠10)→gz 10 (tS ls)=ls++[[]]
 |[],_=>rfl
 |l::r,h=>by
  unfold tS;rw [rh,n5 (h l (by simp)),Gh fun z hz=>h z (List.mem_cons_of_mem _ hz)];rfl
theorem Ht {ls:List (List UInt8)}(h: ∀l∈ls,∀b∈l,b≠10):EL (tS ls)=ls∧Kg (tS ls)=[]:=by
 unfold EL Kg;rw [Gh h];have e:(ls++[[]]).length - 1=ls.length:=by simp
 rw [e];exact ⟨List.take_left,by rw [List.getD_eq_getElem?_getD,List.getElem?_append_right (Nat.le_refl _),Nat.sub_self];rfl⟩
theorem u7 {ls:List (List UInt8)}(h: ∀l∈ls,∀b∈l,b≠10)(hl:(tS ls).length≤16000):iP (tS ls)=some (ls,true):=by
 obtain ⟨h1,h2⟩:=Ht h;rw [EM (by omega),h1,h2,decide_eq_true (show ae (tS ls)≤16000 by simp only [ae];omega)];rfl
inductive gd:oN→List (List UInt8)→oN→List (List UInt8)→Prop
 |nil (d:oN):gd d [] d []
 |cons {d d1 d2:oN} {l t:List UInt8} {ls ts:List (List UInt8)}:cN d l=some (d1,t)→t.length≤10000→gd d1 ls d2 ts→gd d (l::ls) d2 (t::ts)
abbrev fl (i:Int)(d:oN)(acc:List UInt8):Int×Int×Int×(List (Int×Int×Int×Int))×List Int×List Int×Int×Int×List Int×List Bool×Int×Int×(List (Int×Int×Int×Int))×List Int×List UInt8:=
 (i,d.1.1,d.1.2.1,d.1.2.2.1,d.1.2.2.2.1,d.1.2.2.2.2,d.2.1.1,d.2.1.2.1,d.2.1.2.2.1,d.2.1.2.2.2,d.2.2.1.1,d.2.2.1.2.1,d.2.2.1.2.2,d.2.2.2,acc)
theorem C7 {all:List (List UInt8)}{b:Bool}(aP:all.length≤100): ∀{d d2:oN} {ls ts:List (List UInt8)},gd d ls d2 ts→ ∀(i:Nat) (acc:List UInt8),all.drop i=ls→acc.length≤i*20000→
 rounds (dF (all,b)) (fl (i:Int) d acc)=some (fl 0 d2 (acc++tS ts)).2:=by
 intro d d2 ls ts hr;induction hr with
 |nil d=>
  intro i acc h1 h2;have hi:all.length≤i:=by
   rcases Nat.lt_or_ge i all.length with h|h
   have:=congrArg List.length h1;rw [List.length_drop] at this;simp at this;omega;exact h
  rw [dP];have e:dF (all,b) (fl (i:Int) d acc)=some (.inr (fl 0 d acc).2):=by
   unfold dF;simp only [show decide ((i:Int)<ae all)=false from rq hi,cond_false]
  rw [e];simp [tS]
 | @cons d d1 d2 l t ls ts hc ht _ ih=>
  intro i acc h1 h2;have hi:i<all.length:=by
   rcases Nat.lt_or_ge i all.length with h|h
   exact h;rw [List.drop_eq_nil_of_le h] at h1;cases h1
  have hdc:all.drop i=all[i]::all.drop (i+1):=List.drop_eq_getElem_cons hi;rw [hdc] at h1;injection h1 with h3 h4;have hg:List.getD all i []=l:=by rw [List.getD_eq_getElem?_getD,List.getElem?_eq_getElem hi,←h3];rfl
  have e:dF (all,b) (fl (i:Int) d acc)=some (.inl (fl ((i+1:Nat):Int) d1 (acc++(t++[10])))):=by
   have bQ:cN ((d.1.1,d.1.2.1,d.1.2.2.1,d.1.2.2.2.1,d.1.2.2.2.2),(d.2.1.1,d.2.1.2.1,d.2.1.2.2.1,d.2.1.2.2.2),(d.2.2.1.1,d.2.2.1.2.1,d.2.2.1.2.2),d.2.2.2) l=some (d1,t):=hc;unfold dF;simp only [show decide ((i:Int)<ae all)=true from qW hi,cond_true,guard_pos (kW hi),Int.toNat_natCast,hg,bQ,Option.bind_some];rw [oM (by simp only [List.length_cons,List.length_nil];omega),oM (by simp only [List.length_append,List.length_cons,List.length_nil];omega),dh hi (by omega)]
  rw [dP,e];show rounds _ _=_;rw [ih (i+1) _ h4 (by simp only [List.length_append,List.length_cons,List.length_nil];omega)];simp [tS]
theorem QJ {x y:DK}(hx:x.OK)(hy:y.OK){ls ts:List (List UInt8)}(h:gd x.d ls y.d ts)(hl: ∀l∈ls,∀b∈l,b≠10)(hlen:(tS ls).length≤16000)(hn:ls.length≤100)(ht:ts≠[]):
 kq x.d (tS ls)=some (y.d,tS ts,true):=by
 have e1:=pD hx;have e2:=vK hy;have e3:=C7 (b:=true) hn h 0 [] (by simp) (by simp);have cX:tS ts≠[]:=by
  cases ts with
  |nil=>exact absurd rfl ht
  |cons t r=>unfold tS;simp
 have e3:rounds (dF (ls,true)) (fl 0 x.d [])=some (fl 0 y.d (tS ts)).2:=e3;unfold fl DK.d at e3;unfold DK.d at e1 e2⊢;unfold kq;simp only [u7 hl hlen,Option.bind_some,Bool.not_true,cond_false,e1];simp only at e3;rw [e3];simp only [Option.bind_some,e2];rw [guard_pos cX]
def jS (t:List UInt8):Bool:=(t==[110,111])||(t==[119,104,97,116])
theorem Kz.bad {t:List UInt8}(h:Kz t):jS t=false:=by unfold jS;rw [h.1,h.2];rfl
theorem KO {ls:List (List UInt8)}(h: ∀l∈ls,∀b∈l,b≠10)(hl:(tS ls).length≤16000)(hn:ls.length≤1000):gT (tS ls)=some (((ls.countP jS:Nat):Int),((ls.length:Nat):Int) - ((ls.countP jS:Nat):Int),true):=by
 have hc: ∀k,(ls.take k).countP jS≤1000:=fun k=>Nat.le_trans List.countP_le_length (by rw [List.length_take];omega);have:=lE (f:=dt (ls,true)) (fun i n=>(n,((i:Nat):Int))) (fun i n=>if jS (List.getD ls i []) then aj .i64 n 1 else n) id (n:=ls.length) (fun i n=>n=(((ls.take i).countP jS:Nat):Int)) (fun i n hi hn=>⟨by
  unfold dt;simp only [show decide ((i:Int)<ae ls)=true from qW hi,cond_true,guard_pos (kW hi),Int.toNat_natCast,dh hi (show ls.length≤4294967296 by omega)];unfold jS;cases (List.getD ls i []==([110,111]:List UInt8))<;>cases (List.getD ls i []==([119,104,97,116]:List UInt8))<;>rfl,by
  have:=hc i;rw [jP hi [],List.countP_append,List.countP_cons,List.countP_nil,hn];split;rw [eQ (by omega)];omega;omega⟩) (fun n _=>by
  unfold dt;simp only [show decide (((ls.length:Nat):Int)<ae ls)=false from rq (Nat.le_refl _),cond_false];rfl) ls.length 0 0 (by omega) (by simp)
 obtain ⟨h1,h2⟩:=this;rw [List.take_length] at h2;simp only [id,h2] at h1;have h1:rounds (dt (ls,true)) ((0:Int),(0:Int))=some (((ls.countP jS:Nat)):Int):=h1;have h3:ls.countP jS≤ls.length:=List.countP_le_length;unfold gT;simp only [u7 h hl,Option.bind_some,Bool.not_true,cond_false,h1];rw [show a7 .i64 (ae ls) ((ls.countP jS:Nat):Int)=((ls.length:Nat):Int) - ((ls.countP jS:Nat):Int) from nD (by simp only [ae];omega)]
theorem tO {xs:List Int}(h:xs.length≤1000000):bp xs xs=some true:=by
 unfold bp;rw [bne_self_eq_false,cond_false,vC (f:=cp xs xs) (Sum.inl ()) xs.length (fun i hi=>by
  unfold cp;simp only [show decide ((i:Int)<ae xs)=true from qW hi,cond_true,guard_pos (kW hi),bne_self_eq_false,cond_false,dh hi (show xs.length≤4294967296 by omega)]) (by
  unfold cp;simp only [show decide (((xs.length:Nat):Int)<ae xs)=false from rq (Nat.le_refl _),cond_false])]
 rfl
theorem KP {xs:List Bool}(h:xs.length≤1000000):dm xs xs=some true:=by
 unfold dm;rw [bne_self_eq_false,cond_false,vC (f:=cC xs xs) (Sum.inl ()) xs.length (fun i hi=>by
  unfold cC;simp only [show decide ((i:Int)<ae xs)=true from qW hi,cond_true,guard_pos (kW hi),bne_self_eq_false,cond_false,dh hi (show xs.length≤4294967296 by omega)]) (by
  unfold cC;simp only [show decide (((xs.length:Nat):Int)<ae xs)=false from rq (Nat.le_refl _),cond_false])]
 rfl
theorem KQ {xs:List Q4}(h:xs.length≤1000000):bY xs xs=some true:=by
 unfold bY;rw [bne_self_eq_false,cond_false,vC (f:=bJ xs xs) (Sum.inl ()) xs.length (fun i hi=>by
  unfold bJ;simp only [show decide ((i:Int)<ae xs)=true from qW hi,cond_true,guard_pos (kW hi),beq_self_eq_true,Bool.and_self,Bool.not_true,cond_false,dh hi (show xs.length≤4294967296 by omega)]) (by
  unfold bJ;simp only [show decide (((xs.length:Nat):Int)<ae xs)=false from rq (Nat.le_refl _),cond_false])]
 rfl
theorem KR {xs:List Q4}(h:xs.length≤1000000):bM xs xs=some true:=by
 unfold bM;rw [bne_self_eq_false,cond_false,vC (f:=bE xs xs) (Sum.inl ()) xs.length (fun i hi=>by
  unfold bE;simp only [show decide ((i:Int)<ae xs)=true from qW hi,cond_true,guard_pos (kW hi),beq_self_eq_true,Bool.and_self,Bool.not_true,cond_false,dh hi (show xs.length≤4294967296 by omega)]) (by
  unfold bE;simp only [show decide (((xs.length:Nat):Int)<ae xs)=false from rq (Nat.le_refl _),cond_false])]
 rfl
theorem zp {x:DK}(h:x.OK):lz x.d x.d=some true:=by
 have h1:=h.pK.zl;have h2:=h.pK.sl;have h3:=h.pK.el;have h4:=h.pK.m2;obtain ⟨p3,p4,p5,p6,p7,p8,_⟩:=h.plain.facts;have h5:=h.plain.nl;have h6:=h.uD.rl;have h7:=dR x.k;have h8:=h.k2;unfold lz lf mZ lh DK.d;simp only [beq_self_eq_true,cond_true,KQ (show x.zs.length≤1000000 by omega),tO (show x.ss.length≤1000000 by omega),tO (show x.es.length≤1000000 by omega),tO (show x.nx.length≤1000000 by omega),
  KP (show x.pe.length≤1000000 by omega),KR (show x.rs.length≤1000000 by omega),tO (show (bB x.k).length≤1000000 by omega),Option.bind_some]
end Go.Proofs
namespace Go.Proofs
open Go.Ide Go.IntWalk
theorem du {α β:Type}{a:Option α}{x:α}{f:α→Option β}(h:a=some x):a.bind f=f x:=by rw [h];rfl
theorem QK {α β:Type}[BEq α][LawfulBEq α]{a b:α}{x y:β}(h:a=b):(bif a==b then x else y)=x:=by subst h;rw [beq_self_eq_true];rfl
theorem KS (v:List Int)(hv:v.length≤1000):rounds jx ((0:Int),v)=some (bB v.length):=by
 obtain ⟨r,e,hr⟩:=cO (f:=jx) (fun i (q:List Int)=>(((i:Nat):Int),q)) (fun i q=>q.length=v.length∧ ∀j,j<i→q.getD j 0=0)
  (fun r=>r=bB v.length) (n:=v.length) (fun i q hi hq=>by
   obtain ⟨h1,h2⟩:=hq;unfold jx;simp only [show decide ((i:Int)<ae q)=true from qW (by omega),cond_true,guard_pos (kW (show i<q.length by omega)),Int.toNat_natCast,dh hi (show v.length≤4294967296 by omega)];refine ⟨_,rfl,by rw [List.length_set];exact h1,fun j hj=> ?_⟩;rw [List.getD_eq_getElem?_getD,List.getElem?_set];by_cases Be:i=j;rw [if_pos Be,if_pos (by omega)];rfl;rw [if_neg Be,←List.getD_eq_getElem?_getD];exact h2 j (by omega)) (fun q hq=>by
   obtain ⟨h1,h2⟩:=hq;unfold jx;simp only [show decide (((v.length:Nat):Int)<ae q)=false from rq (by omega),cond_false];refine ⟨_,rfl,List.ext_getElem (by rw [h1,dR]) fun i p1 p2=> ?_⟩;have:=h2 i (by omega);rw [List.getD_eq_getElem?_getD,List.getElem?_eq_getElem p1] at this;simp only [bB,List.getElem_replicate];exact this) v.length 0 v (by omega) ⟨rfl,fun j hj=>by omega⟩
 rw [←hr];exact e
theorem Xw {x:List Int}(h:xB x): ∃k:Nat,qY x 0 13=some (k:Int)∧k≤12:=by
 unfold qY;simp only [show decide ((13:Int)≤1)=false from rfl,cond_false,Option.bind_some];by_cases h0:(0:Int)≥ae x;rw [decide_eq_true h0];exact ⟨0,rfl,by decide⟩;rw [decide_eq_false h0];simp only [ae] at h0;obtain ⟨b1,b2⟩:=h.2 0 (by omega);simp only [cond_false];rw [guard_pos ⟨Int.le_refl _,by simp only [ae];omega⟩,guard_pos (by decide),i64_in _ ⟨by show _≤List.getD x 0 0;omega,by show List.getD x 0 0≤_;omega⟩];refine ⟨(Int.tmod (x.getD 0 0) 13).toNat,?_,?_⟩;rw [Int.tmod_eq_emod_of_nonneg b1,Int.toNat_of_nonneg (by omega),←Int.tmod_eq_emod_of_nonneg b1];rfl;rw [Int.tmod_eq_emod_of_nonneg b1];omega
def QL:DK:=⟨2,1,[((0:Int),(1:Int),(0:Int),(3:Int))],[0,-1],[-1,0],2,1,[1,0],[true,false],1,1,[((0:Int),(0:Int),(0:Int),(1:Int)),((0:Int),(0:Int),(-1:Int),(1:Int))],1⟩
theorem QM:pt=some QL.d:=rfl
theorem KT:QL.OK where
 pK:=⟨by decide,by decide,by decide,by decide,by decide,by simp [QL,u5],rfl,rfl,by simp [QL],by simp [QL]⟩
 plain:=⟨sA (by decide) (by decide) (by decide) (by decide) rfl rfl (fun i hi=>by
  have hi:i<2:=hi;rcases (show i=0∨i=1 by omega) with rfl|rfl<;>decide),by decide⟩
 uD:=⟨by decide,by decide,by decide,by decide,by decide,by simp [QL,pC]⟩
 k1:=by decide
 k2:=by decide
theorem KU {x:DK}:aJ x.d [114,101,97,100]=some ([],false,false,x.d):=by
 unfold aJ DK.d;rfl
theorem yE {w:List UInt8}(h:w.all (fun b=>b != 32&&b != 10)=true): ∀b∈w,b≠32:=fun b hb=>by
 have:=List.all_eq_true.1 h b hb;simp only [Bool.and_eq_true,bne_iff_ne] at this;exact this.1
theorem nt {w:List UInt8}(h:w.all (fun b=>b != 32&&b != 10)=true): ∀b∈w,b≠10:=fun b hb=>by
 have:=List.all_eq_true.1 h b hb;simp only [Bool.and_eq_true,bne_iff_ne] at this;exact this.2
def QN (x:DK)(k:Nat):List (List UInt8):=
 [[109,97,99,104,105,110,101]++32::n7 x.m x.c x.zs x.ss x.es,[112,108,97,105,110]++32::b8 x.pm x.pc x.nx x.pe,[103,114,97,109,109,97,114]++32::n8 x.n x.gc x.rs,[119,111,114,100]++32::tx (bB x.k),
  [109,97,99,104,105,110,101],[112,108,97,105,110],[103,114,97,109,109,97,114],[119,111,114,100],[99,111,115,116],[114,101,97,100,115],[114,101,97,100],[99,111,117,110,116]++32::Lib.itoa (k:Int),[112,97,114,115,101],[116,114,101,101,115],[117,115,101,102,117,108],[108,101,97,115,116],[98,97,99,107]]
def KV (x:DK)(vc:Int)(rb:Bool)(vk vp vt:Int)(tb:Bool)(us:List Int):List (List UInt8):=
 [[111,107],[111,107],[111,107],[111,107],n7 x.m x.c x.zs x.ss x.es,b8 x.pm x.pc x.nx x.pe,n8 x.n x.gc x.rs,tx (bB x.k),Lib.itoa vc,(bif rb then [121,101,115] else [110,101,118,101,114]),[119,104,97,116],
  Lib.itoa vk,Lib.itoa vp,(bif tb then Lib.itoa vt else [110,111]),tx us,[111,107],[111,107]]
section
variable {x0 x:DK} (h0:x0.OK) (h:x.OK)
include h0 h
theorem KW {k m':Nat}{vc vk vp vt:Int}{rb tb:Bool}{us nq:List Int}{pe:List Bool}{HI:List Q4}(hk:k≤12)(e1:iy ((x.m:Int),(x.c:Int),x.zs,x.ss,x.es) (bB x.k)=some (vc,true))(q1:gX vc)(e2:ed ((x.pm:Int),(x.pc:Int),x.nx,x.pe) (bB x.k)=some (rb,true))(e3:dE ((x.pm:Int),(x.pc:Int),x.nx,x.pe) (k:Int)=some (vk,true))(q3:gX vk)(e4:ef ((x.n:Int),(x.gc:Int),x.rs) (bB x.k)=some (vp,true))(q4:gX vp)(e5:dD ((x.n:Int),(x.gc:Int),x.rs) (bB x.k)=some (vt,tb))(q5:gX vt)(e6:dd ((x.n:Int),(x.gc:Int),x.rs)=some (us,true))(q6:bL us=true)(e7:dC ((x.pm:Int),(x.pc:Int),x.nx,x.pe)=some (((m':Int),(x.pc:Int),nq,pe),true))(q7:gn m' x.pc nq pe)(e8:iu ((x.m:Int),(x.c:Int),x.zs,x.ss,x.es)=some (((x.m:Int),(x.c:Int),HI,x.es,x.ss),true))(q8:qw x.m x.c HI x.es x.ss):
 gd x0.d (QN x k) {x with zs:=HI,ss:=x.es,es:=x.ss,pm:=m',nx:=nq,pe:=pe:DK}.d (KV x vc rb vk vp vt tb us):=by
 have l1:=xG h.pK;have l2:=qx h.plain;have l3:=xH h.uD;have l4:=vu (tN h.k2);have l5:=lX q1;have l6:=lX q3;have l7:=lX q4;have l8:=lX q5;have l9:=vu q6;have lk:=lX (show gX (k:Int) from ⟨by omega,by omega⟩);have hw:fg (tx (bB x.k))=some (bB x.k,true):=by
  rw [u4 (by omega),xE (tN h.k2)]
 let y1:DK:={x0 with m:=x.m,c:=x.c,zs:=x.zs,ss:=x.ss,es:=x.es};have o1:y1.OK:=⟨h.pK,h0.plain,h0.uD,h0.k1,h0.k2⟩;let y2:DK:={y1 with pm:=x.pm,pc:=x.pc,nx:=x.nx,pe:=x.pe};have o2:y2.OK:=⟨h.pK,h.plain,h0.uD,h0.k1,h0.k2⟩;let y3:DK:={y2 with n:=x.n,gc:=x.gc,rs:=x.rs};have o3:y3.OK:=⟨h.pK,h.plain,h.uD,h0.k1,h0.k2⟩;let z1:DK:={x with pm:=m',nx:=nq,pe:=pe};have p1:z1.OK:=⟨h.pK,q7,h.uD,h.k1,h.k2⟩;let z2:DK:={x with zs:=HI,ss:=x.es,es:=x.ss,pm:=m',nx:=nq,pe:=pe};have p2:z2.OK:=⟨q8,q7,h.uD,h.k1,h.k2⟩;have s1: ∀w:List UInt8,w.all (fun b=>b != 32&&b != 10)=true→w.length≤10→ ∀{t:List UInt8},w∈([[109,97,99,104,105,110,101],[112,108,97,105,110],[103,114,97,109,109,97,114],[119,111,114,100],[99,111,115,116],[114,101,97,100,115],[114,101,97,100],[112,97,114,115,101],[116,114,101,101,115],[117,115,101,102,117,108]]:List (List UInt8))→
  aJ x.d w=some (t,true,true,x.d)→cN x.d w=some (x.d,t):=fun w hw hl t hm hs=>nM h h (by omega) (xM (yE hw)) (E1 (xJ hm) hs)
 refine .cons (nM h0 (y:=y1) o1 (by simp only [List.length_append,List.length_cons,List.length_nil];omega) (xL (yE rfl) (iB uB)) (xK (C5 (KA h.pK)))) (by decide) ?_;refine .cons (nM o1 (y:=y2) o2 (by simp only [List.length_append,List.length_cons,List.length_nil];omega) (xL (yE rfl) (iB sC)) (xK (Hr (Hj h.plain)))) (by decide) ?_;refine .cons (nM o2 (y:=y3) o3 (by simp only [List.length_append,List.length_cons,List.length_nil];omega) (xL (yE rfl) (iB uC)) (xK (C6 (KB h.uD)))) (by decide) ?_;refine .cons (nM o3 (y:=x) h (by simp only [List.length_append,List.length_cons,List.length_nil];omega) (xL (yE rfl) (tL _)) (xK (KN hw))) (by decide) ?_;refine .cons (s1 _ rfl (by decide) (by simp) (AY h)) (by omega) ?_;refine .cons (s1 _ rfl (by decide) (by simp) (E2 h)) (by omega) ?_;refine .cons (s1 _ rfl (by decide) (by simp) (AZ h)) (by omega) ?_;refine .cons (s1 _ rfl (by decide) (by simp) (Ho h)) (by omega) ?_;refine .cons (s1 _ rfl (by decide) (by simp) (Hp e1 q1)) (by omega) ?_;refine .cons (s1 _ rfl (by decide) (by simp) (E3 e2)) (by cases rb<;>decide) ?_;refine .cons (KL h (y:=x) (by decide) (xM (yE rfl)) (E1 (xJ (by simp)) KU)) (by decide) ?_;refine .cons (nM h h (by simp only [List.length_append,List.length_cons,List.length_nil];omega) (xL (yE rfl) (lq _)) (xK (Hs hk e3 q3))) (by omega) ?_;refine .cons (s1 _ rfl (by decide) (by simp) (E4 e4 q4)) (by omega) ?_;refine .cons (d1:=x.d) ?_ ?_ ?_;cases tb with
 |true=>exact s1 _ rfl (by decide) (by simp) (xN e5 q5)
 |false=>exact QI h (y:=x) (by decide) (xM (yE rfl)) (E1 (xJ (by simp)) (xN e5 q5))
 cases tb with
 |true=>show (Lib.itoa vt).length≤_;omega
 |false=>show 2≤_;decide
 refine .cons (s1 _ rfl (by decide) (by simp) (C4 e6 q6)) (by omega) ?_;refine .cons (nM h (y:=z1) p1 (by decide) (xM (yE rfl)) (KM (E5 e7))) (by decide) ?_;refine .cons (nM p1 (y:=z2) p2 (by decide) (xM (yE rfl)) (KM (Hq e8))) (by decide) ?_;exact .nil _
end
theorem mr {t:List UInt8}(h:Clean t): ∀b∈t,b≠10:=fun b hb=>(h b hb).1
theorem qy {w u:List UInt8}(hw:w.all (fun b=>b != 32&&b != 10)=true)(hu:Clean u): ∀b∈w++32::u,b≠10:=fun b hb=>by
 rcases List.mem_append.1 hb with hb|hb
 exact nt hw b hb;rcases List.mem_cons.1 hb with rfl|hb
 decide;exact (hu b hb).1
theorem iR {P:List UInt8→Prop}{l:List UInt8}{r:List (List UInt8)}(h:P l)(hr: ∀x∈r,P x): ∀x∈l::r,P x:=fun x hx=>by
 rcases List.mem_cons.1 hx with rfl|hx
 exact h;exact hr x hx
theorem QO (x:DK)(k:Nat): ∀l∈QN x k,∀b∈l,b≠10:=by
 unfold QN;exact iR (qy rfl (iB uB)) (iR (qy rfl (iB sC)) (iR (qy rfl (iB uC)) (iR (qy rfl (tL _)) (iR (nt rfl) (iR (nt rfl) (iR (nt rfl) (iR (nt rfl) (iR (nt rfl) (iR (nt rfl) (iR (nt rfl)
  (iR (qy rfl (lq _)) (iR (nt rfl) (iR (nt rfl) (iR (nt rfl) (iR (nt rfl) (iR (nt rfl) fun _ h=>by cases h))))))))))))))))
theorem QP (x:DK)(vc:Int)(rb:Bool)(vk vp vt:Int)(tb:Bool)(us:List Int): ∀l∈KV x vc rb vk vp vt tb us,∀b∈l,b≠10:=by
 unfold KV;exact iR (nt rfl) (iR (nt rfl) (iR (nt rfl) (iR (nt rfl) (iR (mr (iB uB)) (iR (mr (iB sC)) (iR (mr (iB uC)) (iR (mr (tL _)) (iR (mr (lq _)) (iR (by cases rb<;>exact nt rfl) (iR (nt rfl)
  (iR (mr (lq _)) (iR (mr (lq _)) (iR (by cases tb;exact nt rfl;exact mr (lq _)) (iR (mr (tL _)) (iR (nt rfl) (iR (nt rfl) fun _ h=>by cases h))))))))))))))))
theorem M0 (x:DK)(vc:Int)(rb:Bool)(vk vp vt:Int)(tb:Bool)(us:List Int):(KV x vc rb vk vp vt tb us).countP jS=bif tb then 1 else 2:=by
 have f1:jS (n7 x.m x.c x.zs x.ss x.es)=false:=(AV Ky).bad;have f2:jS (b8 x.pm x.pc x.nx x.pe)=false:=(AV (by unfold b8;simp)).bad;have f3:jS (n8 x.n x.gc x.rs)=false:=(AV Ky).bad;have f4:=fun v=>(Gf v).bad;have f5:=fun n=>(Hh n).bad;have f6:jS (bif rb then [121,101,115] else [110,101,118,101,114])=false:=by cases rb<;>rfl
 have f7:jS (bif tb then Lib.itoa vt else [110,111])= !tb:=by
  cases tb;rfl;exact f5 _
 unfold KV;simp only [List.countP_cons,List.countP_nil,f1,f2,f3,f4,f5,f6,f7,show jS [111,107]=false from rfl,show jS [119,104,97,116]=true from rfl];cases tb<;>rfl
set_option maxHeartbeats 8000000 in
theorem FnTop_law (x0 x1:List Int)(w0:WfD (.sl (.int .u8)) x0)(w1:WfD (.sl (.int .u8)) x1):na x0 x1=some true:=by
 by_cases c0:ae x0>(48:Int);unfold na jQ;rw [decide_eq_true c0];rfl;by_cases c1:ae x1>(48:Int);unfold na jQ;rw [decide_eq_true c1];cases decide (ae x0>(48:Int))<;>rfl;have eL:jQ x0 x1=some false:=by
  unfold jQ;rw [decide_eq_false c0,decide_eq_false c1];rfl
 have b0:=zh w0 (by simp only [ae] at c0;omega);have b1:=zh w1 (by simp only [ae] at c1;omega);obtain ⟨m,c,zs,ss,es,pm,pc,nx,pe,n,gc,rs,w,eD,hM,hP,hG,hw⟩:=Kw b0;obtain ⟨k,eK,hk⟩:=Xw b1;have hz:([0]++w).length=w.length+1:=by simp
 have eZ:=KS ([0]++w) (by omega);rw [hz] at eZ;let x:DK:=⟨m,c,zs,ss,es,pm,pc,nx,pe,n,gc,rs,w.length+1⟩;have h:x.OK:=⟨hM,hP,hG,by show 1≤w.length+1;omega,by show w.length+1≤12;omega⟩;obtain ⟨vc,e1,q1⟩:=MU hM (k:=w.length+1) (by omega);obtain ⟨rb,e2⟩:=QC hP (k:=w.length+1) (by omega);obtain ⟨vk,e3,q3⟩:=KE hP (k:=k) hk;obtain ⟨vp,e4,q4⟩:=KH hG (k:=w.length+1) (by omega) (by omega);obtain ⟨vt,tb,e5,q5⟩:=KI hG (k:=w.length+1) (by omega) (by omega);obtain ⟨us,e6,q6⟩:=Hm hG;obtain ⟨m',nq,pq,e7,q7⟩:=KK hP;obtain ⟨HI,e8,q8⟩:=MX hM;have hr:=KW KT h hk e1 q1 e2 e3 q3 e4 q4 e5 q5 e6 q6 e7 q7 e8 q8;let y:DK:={x with zs:=HI,ss:=x.es,es:=x.ss,pm:=m',nx:=nq,pe:=pq};have p2:y.OK:=⟨q8,q7,hG,h.k1,h.k2⟩;have l1:=xG hM;have l2:=qx hP;have l3:=xH hG;have l4:=vu (tN h.k2);have l4:(tx (bB (w.length+1))).length≤1412:=l4;have l5:=lX q1;have l6:=lX q3;have l7:=lX q4;have l8:=lX q5;have l9:=vu q6;have qk:gX (k:Int):=⟨by omega,by omega⟩;have lk:=lX qk;have lR:(bif rb then [121,101,115] else [110,101,118,101,114]:List UInt8).length≤5:=by cases rb<;>decide
 have lT:(bif tb then Lib.itoa vt else [110,111]:List UInt8).length≤21:=by
  cases tb;show 2≤21;decide;exact l8
 have hun: ∀s,s=tS (QN x k)→kq QL.d s=some (y.d,tS (KV x vc rb vk vp vt tb us),true):=by
  rintro _ rfl;refine QJ KT p2 hr (QO x k) ?_ (by show 17≤_;decide) (by unfold KV;simp);show (tS (QN ⟨m,c,zs,ss,es,pm,pc,nx,pe,n,gc,rs,w.length+1⟩ k)).length≤16000;simp only [QN,tS,List.length_append,List.length_cons,List.length_nil];omega
 have lZ:=KO (QP x vc rb vk vp vt tb us) (by
  show (tS (KV ⟨m,c,zs,ss,es,pm,pc,nx,pe,n,gc,rs,w.length+1⟩ vc rb vk vp vt tb us)).length≤16000;simp only [KV,tS,List.length_append,List.length_cons,List.length_nil];omega) (by show 17≤_;decide)
 rw [M0] at lZ;have eM:=CU hM;have eP:=zk hP;have eG:=CW hG;have eW:cw (bB (w.length+1))=some (tx (bB (w.length+1)),true):=C3 h;have eU:cw us=some (tx us,true):=by rw [kx (by have:=(lH q6).2;omega),q6];rfl
 unfold na;refine Eq.trans (du eL) ?_;refine Eq.trans (du eD) ?_;refine Eq.trans (guard_pos (by unfold av;simp;omega)) ?_;refine Eq.trans (du eZ) ?_;refine Eq.trans (du eM) ?_;refine Eq.trans (du eP) ?_;refine Eq.trans (du eG) ?_;refine Eq.trans (du eW) ?_;refine Eq.trans (du eK) ?_;dsimp only
 repeat refine Eq.trans (guard_pos (by simp only [List.length_append,List.length_cons,List.length_nil];unfold av;omega)) ?_
 refine Eq.trans (du (nc qk)) ?_
 repeat refine Eq.trans (guard_pos (by simp only [List.length_append,List.length_cons,List.length_nil];unfold av;omega)) ?_
 refine Eq.trans (du rfl) ?_;refine Eq.trans (du QM) ?_;refine Eq.trans (du (hun _ (by simp [QN,tS,x]))) ?_;refine Eq.trans (du (x:=false) (du (pD p2))) ?_;refine Eq.trans (du e1) ?_;refine Eq.trans (du e2) ?_;refine Eq.trans (du e3) ?_;refine Eq.trans (du e4) ?_;refine Eq.trans (du e5) ?_;refine Eq.trans (du e6) ?_;refine Eq.trans (du eU) ?_;refine Eq.trans (du e7) ?_;refine Eq.trans (du e8) ?_;refine Eq.trans (du (x:=false) rfl) ?_;refine Eq.trans (du (nc q5)) ?_;refine Eq.trans (du (x:=((bif tb then Lib.itoa vt else [110,111]),(bif tb then (1:Int) else 2))) (by cases tb<;>rfl)) ?_;refine Eq.trans (du (x:=(bif rb then [121,101,115] else [110,101,118,101,114])) (by cases rb<;>rfl)) ?_;dsimp only
 repeat refine Eq.trans (guard_pos (by simp only [List.length_append,List.length_cons,List.length_nil];unfold av;omega)) ?_
 refine Eq.trans (du (nc q1)) ?_
 repeat refine Eq.trans (guard_pos (by simp only [List.length_append,List.length_cons,List.length_nil];unfold av;omega)) ?_
 refine Eq.trans (du (nc q3)) ?_
 repeat refine Eq.trans (guard_pos (by simp only [List.length_append,List.length_cons,List.length_nil];unfold av;omega)) ?_
 refine Eq.trans (du (nc q4)) ?_
 repeat refine Eq.trans (guard_pos (by simp only [List.length_append,List.length_cons,List.length_nil];unfold av;omega)) ?_
 refine Eq.trans (du rfl) ?_;refine Eq.trans (du lZ) ?_;refine du (x:=true) ?_;rw [Bool.cond_true,QK (a:=tS (KV x vc rb vk vp vt tb us)) (by simp [KV,tS,x])];cases tb;exact du (zp p2);exact du (zp p2)
end Go.Proofs
