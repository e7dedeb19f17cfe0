import Derived.Test.YtjekgiabgglokaaLibC
set_option linter.unusedVariables false
set_option linter.unusedSimpArgs false
set_option linter.unusedSectionVars false
namespace Go.Ide
theorem N9 {s:Bool}{r:Nat}(h:r≤9218868437227405312):(∀a b,Ieee.double.read (Ieee.double.word s r)≠ .nan a b)∧bw .f64 (Ieee.double.word s r)=Ieee.double.word s r:=by
 have e1:Ieee.double.signWeight=9223372036854775808:=by decide
 have e2:Ieee.double.binade=4503599627370496:=by decide
 have e3:Ieee.double.infRung=9218868437227405312:=by decide
 have zc:Ieee.double.word s r%9223372036854775808=r:=by
  unfold Ieee.Format.word;cases s with
  |true=>simp only [if_true,e1];omega
  |false=>simp only [Bool.false_eq_true,if_false];omega
 refine ⟨fun a b=> ?_,by rw [A8,zc,if_neg (by omega)]⟩;unfold Ieee.Format.read;simp only [e1,e2,e3,zc];split;intro h;cases h;split;intro h;cases h;rw [if_pos (by omega)];intro h;cases h
theorem kv (neg:Bool)(m:Nat)(p:Int): ∃r,r≤9218868437227405312∧Ieee.double.nearest neg m p=Ieee.double.word neg r:=by
 have e3:Ieee.double.infRung=9218868437227405312:=by decide
 unfold Ieee.Format.nearest;split;exact ⟨0,by omega,rfl⟩;exact ⟨_,by rw [e3];exact Nat.min_le_right _ _,rfl⟩
def kP (x K:Nat):Prop:=x%9223372036854775808≤K*4503599627370496
theorem kP.mono {x K L:Nat}(h:kP x K)(hl:K≤L):kP x L:=Nat.le_trans h (Nat.mul_le_mul_right _ hl)
theorem zW:Ieee.double.signWeight=9223372036854775808:=by decide
theorem qe:Ieee.double.binade=4503599627370496:=by decide
theorem ph:Ieee.double.infRung=9218868437227405312:=by decide
theorem rG:Ieee.double.leastPlace= -1074:=by decide
theorem zX {x:Nat}(h:x%9223372036854775808<4503599627370496):Ieee.double.read x= .number (x/9223372036854775808%2==1) (x%9223372036854775808) (-1074+((0:Nat):Int)):=by
 unfold Ieee.Format.read;simp only [zW,qe,ph,rG];rw [if_pos h];rfl
theorem vC {x:Nat}(h:4503599627370496≤x%9223372036854775808)(h2:x%9223372036854775808<9218868437227405312):Ieee.double.read x= .number (x/9223372036854775808%2==1) (4503599627370496+x%9223372036854775808%4503599627370496) (-1074+((x%9223372036854775808/4503599627370496 - 1:Nat):Int)):=by
 unfold Ieee.Format.read;simp only [zW,qe,ph,rG];rw [if_neg (by omega),if_pos h2]
theorem m8 {x K:Nat}(h:kP x K)(h2:2≤K)(h3:K≤2046): ∃s m j,Ieee.double.read x= .number s m (-1074+((j:Nat):Int))∧m*2^j≤2^(K+51):=by
 unfold kP at h;by_cases mi:x%9223372036854775808<4503599627370496;refine ⟨_,_,_,zX mi,?_⟩;have:2^53≤2^(K+51):=Nat.pow_le_pow_right (by omega) (by omega);omega;refine ⟨_,_,_,vC (by omega) (by omega),?_⟩;generalize x%9223372036854775808=r at*;have hq:r/4503599627370496≤K:=by omega
 by_cases he:r/4503599627370496=K;have h0:r%4503599627370496=0:=by omega
 rw [h0,he,show K+51=52+(K - 1) by omega,Nat.pow_add 2 52 (K - 1)];exact Nat.le_refl _;have e:K+51=53+(K - 2):=by omega
 have h1:2^(r/4503599627370496 - 1)≤2^(K - 2):=Nat.pow_le_pow_right (by omega) (by omega);rw [e,Nat.pow_add 2 53 (K - 2)];refine Nat.mul_le_mul ?_ h1;omega
theorem gz {s:Bool}{r:Nat}(h:r≤9218868437227405312):Ieee.double.word s r%9223372036854775808=r:=by
 unfold Ieee.Format.word;cases s with
 |true=>simp only [if_true,zW];omega
 |false=>simp only [Bool.false_eq_true,if_false];omega
theorem sw {neg:Bool}{mag j K:Nat}(h:mag*2^j≤2^(K+1125))(hK:2≤K):kP (Ieee.double.nearest neg mag (-2148+(j:Int))) K:=by
 unfold kP Ieee.Format.nearest;by_cases h0:mag=0;rw [if_pos h0,gz (by omega)];omega;rw [if_neg h0];simp only [rG,qe,ph];have hf:Ieee.double.fractionBits=52:=rfl;simp only [hf];have mi:2^mag.log2≤mag:=Nat.log2_self_le h0;have pr:mag<2^(mag.log2+1):=Nat.lt_log2_self;generalize mag.log2=L at*;have hLj:L+j≤K+1125:=by
  have:2^(L+j)≤2^(K+1125):=by
   rw [Nat.pow_add];exact Nat.le_trans (Nat.mul_le_mul_right _ mi) h
  exact (Nat.pow_le_pow_iff_right (by omega)).1 this
 rw [gz (Nat.min_le_right _ _)];refine Nat.le_trans (Nat.min_le_left _ _) ?_;by_cases hA:j+L≤1126;have el:max (-2148+(j:Int)+L - ((52:Nat):Int)) (-1074)= -1074:=by omega
 rw [el];have e1:((-1074:Int) - -1074).toNat=0:=rfl;have e2:(-2148+(j:Int) - -1074).toNat=j - 1074:=by omega
 have e3:((-1074:Int) - (-2148+(j:Int))).toNat=1074 - j:=by omega
 rw [e1,e2,e3];have hc:Ieee.Toward.cut .even neg (mag<<<(j - 1074)) (1074 - j)≤9007199254740992:=by
  apply uF;rw [Nat.shiftLeft_eq];have:mag≤2^(1127 - j):=by
   refine Nat.le_trans (Nat.le_of_lt pr) (Nat.pow_le_pow_right (by omega) (by omega))
  by_cases hj:j≤1074;rw [show j - 1074=0 by omega];have e:9007199254740992*2^(1074 - j)=2^(1127 - j):=by
   rw [show 1127 - j=53+(1074 - j) by omega,Nat.pow_add 2 53]
  rw [e];simpa using this;rw [show 1074 - j=0 by omega];have e:mag*2^(j - 1074)≤2^(1127 - j)*2^(j - 1074):=Nat.mul_le_mul_right _ this;rw [←Nat.pow_add,show 1127 - j+(j - 1074)=53 by omega] at e;simpa using e
 refine Nat.le_trans (Nat.add_le_add_left hc _) ?_;rw [Nat.zero_mul,Nat.zero_add];exact Nat.mul_le_mul_right 4503599627370496 hK;have el:max (-2148+(j:Int)+L - ((52:Nat):Int)) (-1074)=((j+L:Nat):Int) - 2200:=by omega
 rw [el];have e1:(((j+L:Nat):Int) - 2200 - -1074).toNat=j+L - 1126:=by omega
 have e2:(-2148+(j:Int) - (((j+L:Nat):Int) - 2200)).toNat=52 - L:=by omega
 have e3:(((j+L:Nat):Int) - 2200 - (-2148+(j:Int))).toNat=L - 52:=by omega
 rw [e1,e2,e3];by_cases hB:j+L≤K+1124;have hc:Ieee.Toward.cut .even neg (mag<<<(52 - L)) (L - 52)≤9007199254740992:=by
  apply uF;rw [Nat.shiftLeft_eq];by_cases hj:L≤52;rw [show L - 52=0 by omega];have e:mag*2^(52 - L)≤2^(L+1)*2^(52 - L):=Nat.mul_le_mul_right _ (Nat.le_of_lt pr);rw [←Nat.pow_add,show L+1+(52 - L)=53 by omega] at e;simpa using e;rw [show 52 - L=0 by omega];have e:9007199254740992*2^(L - 52)=2^(L+1):=by
   rw [show L+1=53+(L - 52) by omega,Nat.pow_add 2 53]
  rw [e];simpa using Nat.le_of_lt pr
 omega;have hm:mag≤2^L:=by
  have e:2^(K+1125)=2^L*2^j:=by rw [←Nat.pow_add,show L+j=K+1125 by omega]
  rw [e] at h;exact Nat.le_of_mul_le_mul_right h (Nat.pos_of_ne_zero (by simp))
 have hc:Ieee.Toward.cut .even neg (mag<<<(52 - L)) (L - 52)≤4503599627370496:=by
  apply uF;rw [Nat.shiftLeft_eq];by_cases hj:L≤52;rw [show L - 52=0 by omega];have e:mag*2^(52 - L)≤2^L*2^(52 - L):=Nat.mul_le_mul_right _ hm;rw [←Nat.pow_add,show L+(52 - L)=52 by omega] at e;simpa using e;rw [show 52 - L=0 by omega];have e:4503599627370496*2^(L - 52)=2^L:=by
   conv=>rhs;rw [show L=52+(L - 52) by omega,Nat.pow_add 2 52]
  rw [e];simpa using hm
 omega
theorem lp {x K:Nat}(h:kP x K)(hK:K≤2047):bw .f64 x=x:=by
 unfold kP at h;rw [A8,if_neg (by omega)]
theorem fN (neg:Bool)(mag:Nat)(p:Int):kP (Ieee.double.nearest neg mag p) 2047:=by
 obtain ⟨r,hr,e⟩:=kv neg mag p;unfold kP;rw [e,gz hr];omega
theorem vD {x y a b K:Nat}(hx:kP x a)(hy:kP y b)(ha:2≤a)(uY:a≤2046)(hb:2≤b)(o6:b≤2046)(hK:2≤K)(h:a+b≤K+1023):kP (av .mul .f64 x y) K:=by
 obtain ⟨s,m,i,e1,h1⟩:=m8 hx ha uY;obtain ⟨t,n,j,e2,h2⟩:=m8 hy hb o6;have e:av .mul .f64 x y=bw .f64 (Ieee.double.nearest (s^^t) (m*n) (-2148+((i+j:Nat):Int))):=by
  have:floatBits .mul .f64 x y=some (Ieee.double.nearest (s^^t) (m*n) (-2148+((i+j:Nat):Int))):=by
   show Ieee.double.mul x y=_;unfold Ieee.Format.mul;rw [e1,e2];show some (Ieee.double.nearest (s^^t) (m*n) (-1074+(i:Int)+(-1074+(j:Int))))=_
   congr 2
   omega
  unfold av;rw [this]
 rw [e,lp (fN _ _ _) (Nat.le_refl _)];refine sw ?_ hK;have:m*n*2^(i+j)=(m*2^i)*(n*2^j):=by rw [Nat.pow_add];ac_rfl
 rw [this];refine Nat.le_trans (Nat.mul_le_mul h1 h2) ?_;rw [←Nat.pow_add];exact Nat.pow_le_pow_right (by omega) (by omega)
theorem Io {s t:Bool}{m n i j K:Nat}(h1:m*2^i≤2^(K+51))(h2:n*2^j≤2^(K+51)):
 ∃g mag p,Ieee.Datum.sum (.number s m (-1074+(i:Int))) (.number t n (-1074+(j:Int)))=some (.number g mag (-2148+((p:Nat):Int)))∧mag*2^p≤2^(K+1+1125):=by
 have hb:(min (-1074+(i:Int)) (-1074+(j:Int)))= -2148+((1074+min i j:Nat):Int):=by omega
 refine ⟨if Ieee.signed s m (-1074+(i:Int) - (-2148+((1074+min i j:Nat):Int))).toNat+Ieee.signed t n (-1074+(j:Int) - (-2148+((1074+min i j:Nat):Int))).toNat=0 then s&&t else Ieee.signed s m (-1074+(i:Int) - (-2148+((1074+min i j:Nat):Int))).toNat+Ieee.signed t n (-1074+(j:Int) - (-2148+((1074+min i j:Nat):Int))).toNat<0,(Ieee.signed s m (-1074+(i:Int) - (-2148+((1074+min i j:Nat):Int))).toNat+Ieee.signed t n (-1074+(j:Int) - (-2148+((1074+min i j:Nat):Int))).toNat).natAbs,1074+min i j,?_,?_⟩;unfold Ieee.Datum.sum;simp only [hb];have e1:(-1074+(i:Int) - (-2148+((1074+min i j:Nat):Int))).toNat=i - min i j:=by omega
 have e2:(-1074+(j:Int) - (-2148+((1074+min i j:Nat):Int))).toNat=j - min i j:=by omega
 rw [e1,e2];refine Nat.le_trans (Nat.mul_le_mul_right _ (Int.natAbs_add_le _ _)) ?_;rw [qT,qT,Nat.add_mul];have e3:m*2^(i - min i j)*2^(1074+min i j)=2^1074*(m*2^i):=by
  rw [Nat.mul_assoc,←Nat.pow_add,show i - min i j+(1074+min i j)=1074+i by omega,Nat.pow_add];generalize (2:Nat)^1074=P;ac_rfl
 have e4:n*2^(j - min i j)*2^(1074+min i j)=2^1074*(n*2^j):=by
  rw [Nat.mul_assoc,←Nat.pow_add,show j - min i j+(1074+min i j)=1074+j by omega,Nat.pow_add];generalize (2:Nat)^1074=P;ac_rfl
 have e5: ∀P Q:Nat,P*Q=2^(K+1+1125)→Q=2*2^(K+51)→P*(m*2^i)+P*(n*2^j)≤2^(K+1+1125):=fun P Q h h'=>by
  rw [←h,←Nat.mul_add];exact Nat.mul_le_mul_left _ (by omega)
 rw [e3,e4];have e6: ∀c:Nat,c=1074→2^c*2^(K+51+1)=2^(K+1+1125):=fun c hc=>by rw [←Nat.pow_add,show c+(K+51+1)=K+1+1125 by omega]
 have e6:=e6 1074 rfl;generalize (2:Nat)^1074=P at e6⊢;exact e5 P (2^(K+51+1)) e6 (by rw [Nat.pow_succ,Nat.mul_comm])
theorem Db {x y a:Nat}(hx:kP x a)(hy:kP y a)(ha:2≤a)(uY:a≤2046):kP (av .add .f64 x y) (a+1):=by
 obtain ⟨s,m,i,e1,h1⟩:=m8 hx ha uY;obtain ⟨t,n,j,e2,h2⟩:=m8 hy ha uY;obtain ⟨g,mag,p,e3,h3⟩:=Io (s:=s) (t:=t) h1 h2;have e:av .add .f64 x y=bw .f64 (Ieee.double.nearest g mag (-2148+((p:Nat):Int))):=by
  have:floatBits .add .f64 x y=some (Ieee.double.nearest g mag (-2148+((p:Nat):Int))):=by
   show Ieee.double.add x y=_;unfold Ieee.Format.add;rw [e1,e2,e3];rfl
  unfold av;rw [this]
 rw [e,lp (fN _ _ _) (Nat.le_refl _)];exact sw h3 (by omega)
theorem Oa {x y a:Nat}(hx:kP x a)(hy:kP y a)(ha:2≤a)(uY:a≤2046):kP (av .sub .f64 x y) (a+1):=by
 obtain ⟨s,m,i,e1,h1⟩:=m8 hx ha uY;obtain ⟨t,n,j,e2,h2⟩:=m8 hy ha uY;obtain ⟨g,mag,p,e3,h3⟩:=Io (s:=s) (t:= !t) h1 h2;have e:av .sub .f64 x y=bw .f64 (Ieee.double.nearest g mag (-2148+((p:Nat):Int))):=by
  have:floatBits .sub .f64 x y=some (Ieee.double.nearest g mag (-2148+((p:Nat):Int))):=by
   show Ieee.double.sub x y=_;unfold Ieee.Format.sub;rw [e1,e2];show Option.map _ (Ieee.Datum.sum _ (.number (!t) n _))=_;rw [e3];rfl
  unfold av;rw [this]
 rw [e,lp (fN _ _ _) (Nat.le_refl _)];exact sw h3 (by omega)
theorem LB {x y m n:Nat}{s t:Bool}{p q:Int}(hx:Ieee.double.read x= .number s m p)(hy:Ieee.double.read y= .number t n q):
 rT .f64 x y=decide (Ieee.signed t n (q - min p q).toNat≤Ieee.signed s m (p - min p q).toNat):=by
 unfold rT;have:FloatKind.f64.format.order x y=some (compare (Ieee.signed s m (p - min p q).toNat) (Ieee.signed t n (q - min p q).toNat)):=by
  show Ieee.Datum.order (Ieee.double.read x) (Ieee.double.read y)=_;rw [hx,hy];rfl
 rw [this];exact C7 _ _
theorem E5 {x y m n:Nat}{s t:Bool}{p q:Int}(hx:Ieee.double.read x= .number s m p)(hy:Ieee.double.read y= .number t n q):
 aX .f64 x y=decide (Ieee.signed s m (p - min p q).toNat<Ieee.signed t n (q - min p q).toNat):=by
 unfold aX;have:FloatKind.f64.format.order x y=some (compare (Ieee.signed s m (p - min p q).toNat) (Ieee.signed t n (q - min p q).toNat)):=by
  show Ieee.Datum.order (Ieee.double.read x) (Ieee.double.read y)=_;rw [hx,hy];rfl
 rw [this];exact GR _ _
theorem GS:Ieee.double.read 0= .number false 0 (-1074):=by decide
theorem JP:Ieee.double.read 4607182418800017408= .number false 4503599627370496 (-1074+((1022:Nat):Int)):=by decide
theorem xQ {x:Nat}{s:Bool}{m:Nat}{p:Int}(h:Ieee.double.read x= .number s m p):m<9007199254740992:=by
 unfold Ieee.Format.read at h;simp only [zW,qe,ph,rG] at h;split at h;injection h with _ h2 _;omega;split at h;injection h with _ h2 _;omega;split at h<;>cases h
theorem GU {x:Nat}(h:x<18446744073709551616):Ieee.double.word (x/9223372036854775808%2==1) (x%9223372036854775808)=x:=by
 unfold Ieee.Format.word;simp only [zW];rcases (show x/9223372036854775808=0∨x/9223372036854775808=1 by omega) with e|e<;>rw [e]
 show x%9223372036854775808=x;omega;show 9223372036854775808+x%9223372036854775808=x;omega
theorem pD {x:Nat}{s:Bool}{m:Nat}{p:Int}(h:x<18446744073709551616)(hr:Ieee.double.read x= .number s m p):Ieee.double.nearest s m p=x:=by
 have hb:=GU h;by_cases mi:x%9223372036854775808<4503599627370496;rw [zX mi] at hr;injection hr with e1 e2 e3;subst e1 e2 e3;unfold Ieee.Format.nearest;by_cases h0:x%9223372036854775808=0;rw [if_pos h0];rw [h0] at hb;exact hb;rw [if_neg h0];have hl:(x%9223372036854775808).log2≤51:=by
  have:=(Nat.log2_lt (k:=52) h0).2 mi;omega
 have hf:Ieee.double.fractionBits=52:=rfl;simp only [rG,qe,ph,hf];have el:max (-1074+((0:Nat):Int)+((x%9223372036854775808).log2:Int) - ((52:Nat):Int)) (-1074)= -1074:=by omega
 rw [el];have e1:((-1074:Int) - -1074).toNat=0:=rfl;have e2:(-1074+((0:Nat):Int) - -1074).toNat=0:=rfl;have e3:((-1074:Int) - (-1074+((0:Nat):Int))).toNat=0:=rfl;rw [e1,e2,e3,oL,Nat.shiftLeft_zero,Nat.zero_mul,Nat.zero_add,Nat.min_eq_left (by omega)];exact hb;by_cases pr:x%9223372036854775808<9218868437227405312;rw [vC (by omega) pr] at hr;injection hr with e1 e2 e3;subst e1 e2 e3;generalize hq:x%9223372036854775808=r at*;unfold Ieee.Format.nearest;rw [if_neg (by omega)];have hl:(4503599627370496+r%4503599627370496).log2=52:=by
  have h0:4503599627370496+r%4503599627370496≠0:=by omega
  have a1:=(Nat.log2_lt (k:=53) h0).2 (by omega);have a2:=(Nat.le_log2 (k:=52) h0).2 (by omega);omega
 have hf:Ieee.double.fractionBits=52:=rfl;simp only [rG,qe,ph,hf,hl];have el:max (-1074+((r/4503599627370496 - 1:Nat):Int)+((52:Nat):Int) - ((52:Nat):Int)) (-1074)= -1074+((r/4503599627370496 - 1:Nat):Int):=by omega
 rw [el];have e1:(-1074+((r/4503599627370496 - 1:Nat):Int) - -1074).toNat=r/4503599627370496 - 1:=by omega
 have e2:(-1074+((r/4503599627370496 - 1:Nat):Int) - (-1074+((r/4503599627370496 - 1:Nat):Int))).toNat=0:=by omega
 rw [e1,e2,oL,Nat.shiftLeft_zero,show (r/4503599627370496 - 1)*4503599627370496+(4503599627370496+r%4503599627370496)=r by omega,Nat.min_eq_left (by omega)];exact hb;exfalso;unfold Ieee.Format.read at hr;simp only [zW,qe,ph] at hr;rw [if_neg mi,if_neg pr] at hr;split at hr<;>cases hr
theorem BU {x y m n:Nat}{s t:Bool}{i j:Int}(h1:Ieee.double.read x= .number s m i)(h2:Ieee.double.read y= .number t n j):
 av .add .f64 x y=bw .f64 (Ieee.double.nearest (if Ieee.signed s m (i - min i j).toNat+Ieee.signed t n (j - min i j).toNat=0 then s&&t else Ieee.signed s m (i - min i j).toNat+Ieee.signed t n (j - min i j).toNat<0) (Ieee.signed s m (i - min i j).toNat+Ieee.signed t n (j - min i j).toNat).natAbs (min i j)):=by
 have:floatBits .add .f64 x y=some (Ieee.double.nearest (if Ieee.signed s m (i - min i j).toNat+Ieee.signed t n (j - min i j).toNat=0 then s&&t else Ieee.signed s m (i - min i j).toNat+Ieee.signed t n (j - min i j).toNat<0) (Ieee.signed s m (i - min i j).toNat+Ieee.signed t n (j - min i j).toNat).natAbs (min i j)):=by
  show Ieee.double.add x y=_;unfold Ieee.Format.add;rw [h1,h2];rfl
 unfold av;rw [this]
theorem JQ {x y m n:Nat}{s t:Bool}{i j:Int}(h1:Ieee.double.read x= .number s m i)(h2:Ieee.double.read y= .number t n j):
 av .sub .f64 x y=bw .f64 (Ieee.double.nearest (if Ieee.signed s m (i - min i j).toNat+Ieee.signed (!t) n (j - min i j).toNat=0 then s&& !t else Ieee.signed s m (i - min i j).toNat+Ieee.signed (!t) n (j - min i j).toNat<0) (Ieee.signed s m (i - min i j).toNat+Ieee.signed (!t) n (j - min i j).toNat).natAbs (min i j)):=by
 have:floatBits .sub .f64 x y=some (Ieee.double.nearest (if Ieee.signed s m (i - min i j).toNat+Ieee.signed (!t) n (j - min i j).toNat=0 then s&& !t else Ieee.signed s m (i - min i j).toNat+Ieee.signed (!t) n (j - min i j).toNat<0) (Ieee.signed s m (i - min i j).toNat+Ieee.signed (!t) n (j - min i j).toNat).natAbs (min i j)):=by
  show Ieee.double.sub x y=_;unfold Ieee.Format.sub;rw [h1,h2];rfl
 unfold av;rw [this]
end Go.Ide
namespace Go.Ide
theorem pj {neg:Bool}{mag f:Nat}{p last:Int}(h:p+(mag.log2:Int) - (f:Int)≤last):Ieee.Toward.cut .even neg (mag<<<(p - last).toNat) (last - p).toNat≤2^(f+1):=by
 apply uF;rw [Nat.shiftLeft_eq];have pr:mag<2^(mag.log2+1):=Nat.lt_log2_self;by_cases hle:last≤p;rw [show (last - p).toNat=0 by omega,Nat.pow_zero,Nat.mul_one];refine Nat.le_trans (Nat.mul_le_mul_right _ (Nat.le_of_lt pr)) ?_;rw [←Nat.pow_add];exact Nat.pow_le_pow_right (by omega) (by omega);rw [show (p - last).toNat=0 by omega,Nat.pow_zero,Nat.mul_one,←Nat.pow_add];exact Nat.le_trans (Nat.le_of_lt pr) (Nat.pow_le_pow_right (by omega) (by omega))
theorem qU {neg:Bool}{mag f:Nat}{p last:Int}(h0:mag≠0)(h:last=p+(mag.log2:Int) - (f:Int)):2^f≤Ieee.Toward.cut .even neg (mag<<<(p - last).toNat) (last - p).toNat:=by
 apply Q5;rw [Nat.shiftLeft_eq];have mi:2^mag.log2≤mag:=Nat.log2_self_le h0;by_cases hle:last≤p;rw [show (last - p).toNat=0 by omega,Nat.pow_zero,Nat.mul_one];refine Nat.le_trans ?_ (Nat.mul_le_mul_right _ mi);rw [←Nat.pow_add];exact Nat.pow_le_pow_right (by omega) (by omega);rw [show (p - last).toNat=0 by omega,Nat.pow_zero,Nat.mul_one,←Nat.pow_add];exact Nat.le_trans (Nat.pow_le_pow_right (by omega) (by omega)) mi
theorem E6 {neg:Bool}{mag:Nat}{p:Int}{K:Nat}(h:p+(mag.log2:Int)+128≤(K:Int))(hK:2≤K):bd (Ieee.single.nearest neg mag p) K:=by
 unfold bd Ieee.Format.nearest;by_cases h0:mag=0;rw [if_pos h0,jv (by omega)];omega;rw [if_neg h0];have hf:Ieee.single.fractionBits=23:=rfl;simp only [wP,rR,qR,hf];rw [jv (Nat.min_le_right _ _)];refine Nat.le_trans (Nat.min_le_left _ _) ?_;have:=pj (neg:=neg) (mag:=mag) (f:=23) (p:=p) (last:=max (p+(mag.log2:Int) - ((23:Nat):Int)) (-149)) (by omega);have KJ:(2:Nat)^(23+1)=16777216:=by decide
 rw [KJ] at this;have hl:(max (p+(mag.log2:Int) - ((23:Nat):Int)) (-149) - -149).toNat+2≤K:=by omega
 have:=Nat.mul_le_mul_right 8388608 hl;omega
theorem vE {neg:Bool}{mag:Nat}{p:Int}{K:Nat}(h:p+(mag.log2:Int)+1024≤(K:Int))(hK:2≤K):kP (Ieee.double.nearest neg mag p) K:=by
 unfold kP Ieee.Format.nearest;by_cases h0:mag=0;rw [if_pos h0,gz (by omega)];omega;rw [if_neg h0];have hf:Ieee.double.fractionBits=52:=rfl;simp only [rG,qe,ph,hf];rw [gz (Nat.min_le_right _ _)];refine Nat.le_trans (Nat.min_le_left _ _) ?_;have:=pj (neg:=neg) (mag:=mag) (f:=52) (p:=p) (last:=max (p+(mag.log2:Int) - ((52:Nat):Int)) (-1074)) (by omega);have h53:(2:Nat)^(52+1)=9007199254740992:=by decide
 rw [h53] at this;have hl:(max (p+(mag.log2:Int) - ((52:Nat):Int)) (-1074) - -1074).toNat+2≤K:=by omega
 have:=Nat.mul_le_mul_right 4503599627370496 hl;omega
theorem rH {neg:Bool}{mag:Nat}{p:Int}{L:Nat}(h0:mag≠0)(h:(L:Int)≤p+(mag.log2:Int)+1023)(hL:1≤L)(hL2:L≤2047):L*4503599627370496≤(Ieee.double.nearest neg mag p)%9223372036854775808:=by
 unfold Ieee.Format.nearest;rw [if_neg h0];have hf:Ieee.double.fractionBits=52:=rfl;simp only [rG,qe,ph,hf];rw [gz (Nat.min_le_right _ _)];have e:max (p+(mag.log2:Int) - ((52:Nat):Int)) (-1074)=p+(mag.log2:Int) - ((52:Nat):Int):=by omega
 rw [e];have:=qU (neg:=neg) (f:=52) (p:=p) h0 rfl;have h52:(2:Nat)^52=4503599627370496:=by decide
 rw [h52] at this;have hl:L≤(p+(mag.log2:Int) - ((52:Nat):Int) - -1074).toNat+1:=by omega
 have:=Nat.mul_le_mul_right 4503599627370496 hl;apply Nat.le_min.2;constructor<;>omega
theorem wR {m i K:Nat}(h0:m≠0)(h:m*2^i≤2^K):m.log2+i≤K:=by
 have:2^(m.log2+i)≤2^K:=by
  rw [Nat.pow_add];exact Nat.le_trans (Nat.mul_le_mul_right _ (Nat.log2_self_le h0)) h
 exact (Nat.pow_le_pow_iff_right (by omega)).1 this
theorem JR {x K:Nat}(h:kP x K)(h2:2≤K)(h3:K≤1140):dC .f64 .f32 x=true:=by
 obtain ⟨s,m,i,e,hb⟩:=m8 h h2 (by omega);unfold dC;rw [if_neg (by decide)];have e':FloatKind.decode .f64 x= .number s m (-1074+(i:Int)):=e;rw [e'];have Xy:bd (Ieee.single.nearest s m (-1074+(i:Int))) 250:=by
  by_cases h0:m=0;subst h0;unfold bd Ieee.Format.nearest;rw [if_pos rfl,jv (by omega)];omega;have:=wR h0 hb;exact E6 (by omega) (by omega)
 obtain ⟨t,n,j,e2,_⟩:=nY Xy (by omega) (by omega);have e3:FloatKind.decode .f32 (FloatKind.encode .f32 (.number s m (-1074+(i:Int))))= .number t n (-149+(j:Int)):=e2;simp only [e3];rfl
structure tz (x:Nat):Prop where
 lo:4503599627370496≤x
 hi:x<9218868437227405312
theorem tz.rd {x:Nat}(h:tz x):Ieee.double.read x= .number false (4503599627370496+x%4503599627370496) (-1074+((x/4503599627370496 - 1:Nat):Int)):=by
 have h1:=h.lo;have h2:=h.hi;have e:x%9223372036854775808=x:=Nat.mod_eq_of_lt (by omega);have:=vC (x:=x) (by omega) (by omega);rw [e,Nat.div_eq_of_lt (show x<9223372036854775808 by omega)] at this;exact this
theorem Q6 {x y:Nat}(hx:tz x)(hy:tz y):(4503599627370496+x%4503599627370496)*2^(x/4503599627370496 - 1)≤(4503599627370496+y%4503599627370496)*2^(y/4503599627370496 - 1)↔x≤y:=by
 have key: ∀{x y:Nat},tz x→tz y→x<y→(4503599627370496+x%4503599627370496)*2^(x/4503599627370496 - 1)<(4503599627370496+y%4503599627370496)*2^(y/4503599627370496 - 1):=by
  intro x y hx hy cq;have h1:=hx.lo;have h2:=hy.lo;by_cases hq:x/4503599627370496=y/4503599627370496;rw [hq];exact Nat.mul_lt_mul_of_pos_right (by omega) (bg _);have TF:x/4503599627370496<y/4503599627370496:=by omega
  have e1:(4503599627370496+x%4503599627370496)*2^(x/4503599627370496 - 1)<9007199254740992*2^(x/4503599627370496 - 1):=Nat.mul_lt_mul_of_pos_right (by omega) (bg _);have e2:9007199254740992*2^(x/4503599627370496 - 1)=4503599627370496*2^(x/4503599627370496):=by
   obtain ⟨q,FT⟩: ∃q,x/4503599627370496=q+1:=⟨x/4503599627370496 - 1,by omega⟩;rw [FT,Nat.add_sub_cancel,Nat.pow_succ];omega
  have e3:4503599627370496*2^(x/4503599627370496)≤4503599627370496*2^(y/4503599627370496 - 1):=Nat.mul_le_mul_left _ (Nat.pow_le_pow_right (by omega) (by omega));have e4:4503599627370496*2^(y/4503599627370496 - 1)≤(4503599627370496+y%4503599627370496)*2^(y/4503599627370496 - 1):=Nat.mul_le_mul_right _ (by omega);omega
 constructor;intro h;apply Decidable.byContradiction;intro hn;have:=key hy hx (by omega);omega;intro h;by_cases e:x=y;rw [e];exact Nat.le_refl _;exact Nat.le_of_lt (key hx hy (by omega))
theorem BV {m n a b:Nat}:m*2^(a - min a b)≤n*2^(b - min a b)↔m*2^a≤n*2^b:=by
 have e1:m*2^a=m*2^(a - min a b)*2^min a b:=by rw [Nat.mul_assoc,←Nat.pow_add,show a - min a b+min a b=a by omega]
 have e2:n*2^b=n*2^(b - min a b)*2^min a b:=by rw [Nat.mul_assoc,←Nat.pow_add,show b - min a b+min a b=b by omega]
 rw [e1,e2];exact ⟨fun h=>Nat.mul_le_mul_right _ h,fun h=>Nat.le_of_mul_le_mul_right h (bg _)⟩
theorem uG {x y:Nat}(hx:tz x)(hy:tz y):
 Ieee.signed false (4503599627370496+x%4503599627370496) (-1074+((x/4503599627370496 - 1:Nat):Int) - min (-1074+((x/4503599627370496 - 1:Nat):Int)) (-1074+((y/4503599627370496 - 1:Nat):Int))).toNat≤
 Ieee.signed false (4503599627370496+y%4503599627370496) (-1074+((y/4503599627370496 - 1:Nat):Int) - min (-1074+((x/4503599627370496 - 1:Nat):Int)) (-1074+((y/4503599627370496 - 1:Nat):Int))).toNat↔x≤y:=by
 rw [bn,bn,←Q6 hx hy,←BV (m:=4503599627370496+x%4503599627370496)];rw [show (-1074+((x/4503599627370496 - 1:Nat):Int) - min (-1074+((x/4503599627370496 - 1:Nat):Int)) (-1074+((y/4503599627370496 - 1:Nat):Int))).toNat=x/4503599627370496 - 1 - min (x/4503599627370496 - 1) (y/4503599627370496 - 1) by omega,
  show (-1074+((y/4503599627370496 - 1:Nat):Int) - min (-1074+((x/4503599627370496 - 1:Nat):Int)) (-1074+((y/4503599627370496 - 1:Nat):Int))).toNat=y/4503599627370496 - 1 - min (x/4503599627370496 - 1) (y/4503599627370496 - 1) by omega]
 exact Int.ofNat_le
theorem Ip {x y:Nat}(hx:tz x)(hy:tz y):rT .f64 x y=decide (y≤x):=by
 rw [LB hx.rd hy.rd,decide_eq_decide,Int.min_comm];exact uG hy hx
theorem Ob {x y:Nat}(hx:tz x)(hy:tz y):aX .f64 x y=decide (x<y):=by
 rw [E5 hx.rd hy.rd,decide_eq_decide,Int.min_comm];have:=uG hy hx;omega
theorem Oc {x y:Nat}(hx:tz x)(hy:tz y)(h:x≤y):qI .f64 x y=false:=by
 have h1:rT .f64 y x=true:=by rw [Ip hy hx];exact decide_eq_true h
 have e:FloatKind.f64.format.order x y=some (compare (Ieee.signed false (4503599627370496+x%4503599627370496) (-1074+((x/4503599627370496 - 1:Nat):Int) - min (-1074+((x/4503599627370496 - 1:Nat):Int)) (-1074+((y/4503599627370496 - 1:Nat):Int))).toNat) (Ieee.signed false (4503599627370496+y%4503599627370496) (-1074+((y/4503599627370496 - 1:Nat):Int) - min (-1074+((x/4503599627370496 - 1:Nat):Int)) (-1074+((y/4503599627370496 - 1:Nat):Int))).toNat)):=by
  show Ieee.Datum.order (Ieee.double.read x) (Ieee.double.read y)=_;rw [hx.rd,hy.rd];rfl
 unfold qI;rw [e];have hle:=(uG hx hy).2 h;generalize Ieee.signed false (4503599627370496+x%4503599627370496) _=A at*;generalize Ieee.signed false (4503599627370496+y%4503599627370496) _=B at*;have:=wQ A B;rw [decide_eq_true hle] at this;revert this;cases compare A B<;>simp
theorem tz.pos {x:Nat}(hx:tz x):aX .f64 x 0=false∧pz .f64 x 0=false∧pz .f64 x x=true:=by
 have hz:=GS;have hs:0<Ieee.signed false (4503599627370496+x%4503599627370496) (-1074+((x/4503599627370496 - 1:Nat):Int) - min (-1074+((x/4503599627370496 - 1:Nat):Int)) (-1074)).toNat:=by
  rw [bn];have:=Nat.mul_pos (show 0<4503599627370496+x%4503599627370496 by omega) (bg (-1074+((x/4503599627370496 - 1:Nat):Int) - min (-1074+((x/4503599627370496 - 1:Nat):Int)) (-1074)).toNat);omega
 have h0: ∀u,Ieee.signed false 0 u=0:=fun u=>by rw [bn];simp
 refine ⟨?_,?_,?_⟩;rw [E5 hx.rd hz,h0];exact decide_eq_false (by omega);unfold pz;have e:FloatKind.f64.format.order x 0=some (compare (Ieee.signed false (4503599627370496+x%4503599627370496) (-1074+((x/4503599627370496 - 1:Nat):Int) - min (-1074+((x/4503599627370496 - 1:Nat):Int)) (-1074)).toNat) (Ieee.signed false 0 (-1074 - min (-1074+((x/4503599627370496 - 1:Nat):Int)) (-1074)).toNat)):=by
  show Ieee.Datum.order (Ieee.double.read x) (Ieee.double.read 0)=_;rw [hx.rd,hz];rfl
 rw [e,h0];generalize Ieee.signed false (4503599627370496+x%4503599627370496) _=A at*;have h1:=wQ A 0;rw [decide_eq_false (by omega)] at h1;revert h1;cases compare A 0<;>simp;unfold pz;have:FloatKind.f64.format.order x x=some .eq:=uE (f:=Ieee.double) fun s t h=>by
  rw [hx.rd] at h;cases h
 rw [this];rfl
theorem BW {x:Nat}(hx:tz x):bw .f64 x=x:=by
 have:=hx.lo;have:=hx.hi;rw [A8,Nat.mod_eq_of_lt (by omega),if_neg (by omega)]
theorem BX:Ieee.double.read 4611686018427387904= .number false 4503599627370496 (-51):=by decide
theorem LC {x:Nat}(hx:tz x)(h2:9007199254740992≤x):av .quo .f64 x 4611686018427387904=x - 4503599627370496∧tz (x - 4503599627370496):=by
 have mi:=hx.lo;have pr:=hx.hi;have hn:tz (x - 4503599627370496):=⟨by omega,by omega⟩;refine ⟨?_,hn⟩;have hr:=hn.rd;have em:(x - 4503599627370496)%4503599627370496=x%4503599627370496:=by omega
 have ed:(x - 4503599627370496)/4503599627370496 - 1=x/4503599627370496 - 1 - 1:=by omega
 rw [em,ed] at hr;have hm:4503599627370496+x%4503599627370496<9007199254740992:=by omega
 have yb:=hx.rd;generalize hM:4503599627370496+x%4503599627370496=m at*;have e2:floatBits .quo .f64 x 4611686018427387904=some (Ieee.double.nearest false m (-1074+((x/4503599627370496 - 1:Nat):Int) - 1)):=by
  show Ieee.double.div x 4611686018427387904=_;unfold Ieee.Format.div;rw [yb,BX];unfold Ieee.Datum.quotient;have hl:Nat.log2 4503599627370496=52:=by decide
  have hf:Ieee.double.fractionBits=52:=rfl;have LD:m.log2≤52:=by
   have:=(Nat.log2_lt (k:=53) (show m≠0 by omega)).2 (by omega);omega
  simp only [hl,hf,Nat.shiftLeft_eq];rw [if_neg (by decide)];obtain ⟨r,hr⟩: ∃r,52+2+52 - m.log2=r+52:=⟨54 - m.log2,by omega⟩;rw [hr,Nat.pow_add,←Nat.mul_assoc,show (2^52:Nat)=4503599627370496 by decide,Nat.mul_div_cancel _ (by omega),Nat.mul_mod_left];show some (Ieee.double.nearest (false^^false) (2*(m*2^r)+0) (-1074+((x/4503599627370496 - 1:Nat):Int) - -51 - ((r+52:Nat):Int) - 1))=_;have:=dz (f:=Ieee.double) (neg:=false) (mag:=m) (s:=r+1) (place:= -1074+((x/4503599627370496 - 1:Nat):Int) - 1);rw [←this,Bool.xor_false,Nat.pow_succ,show 2*(m*2^r)+0=m*(2^r*2) by rw [Nat.add_zero,Nat.mul_comm 2,Nat.mul_assoc],show -1074+((x/4503599627370496 - 1:Nat):Int) - -51 - ((r+52:Nat):Int) - 1= -1074+((x/4503599627370496 - 1:Nat):Int) - 1 - ((r+1:Nat):Int) by omega]
 unfold av;rw [e2];have Xz:=pD (x:=x - 4503599627370496) (by omega) hr;rw [show (-1074+((x/4503599627370496 - 1:Nat):Int) - 1)= -1074+((x/4503599627370496 - 1 - 1:Nat):Int) by omega];simp only [Xz,BW hn]
theorem JS {x:Nat}(hx:tz x)(h2:x+4503599627370496<9218868437227405312):av .mul .f64 x 4611686018427387904=x+4503599627370496∧tz (x+4503599627370496):=by
 have mi:=hx.lo;have hn:tz (x+4503599627370496):=⟨by omega,by omega⟩;refine ⟨?_,hn⟩;have hr:=hn.rd;have em:(x+4503599627370496)%4503599627370496=x%4503599627370496:=by omega
 have ed:(x+4503599627370496)/4503599627370496 - 1=x/4503599627370496 - 1+1:=by omega
 rw [em,ed] at hr;have yb:=hx.rd;generalize 4503599627370496+x%4503599627370496=m at*;have e2:floatBits .mul .f64 x 4611686018427387904=some (Ieee.double.nearest false m (-1074+((x/4503599627370496 - 1:Nat):Int)+1)):=by
  show Ieee.double.mul x 4611686018427387904=_;unfold Ieee.Format.mul;rw [yb,BX];show some (Ieee.double.nearest (false^^false) (m*4503599627370496) (-1074+((x/4503599627370496 - 1:Nat):Int)+ -51))=_;have:=dz (f:=Ieee.double) (neg:=false) (mag:=m) (s:=52) (place:= -1074+((x/4503599627370496 - 1:Nat):Int)+1);rw [←this,Bool.xor_false,show (2^52:Nat)=4503599627370496 by decide,show -1074+((x/4503599627370496 - 1:Nat):Int)+1 - ((52:Nat):Int)= -1074+((x/4503599627370496 - 1:Nat):Int)+ -51 by omega]
 unfold av;rw [e2];have Xz:=pD (x:=x+4503599627370496) (by omega) hr;rw [show (-1074+((x/4503599627370496 - 1:Nat):Int)+1)= -1074+((x/4503599627370496 - 1+1:Nat):Int) by omega];simp only [Xz,BW hn]
theorem Od {x y K L:Nat}(hx:kP x K)(h2:2≤K)(h3:K≤2046)(hy:tz y)(hL:L*4503599627370496≤y)(hL1:1≤L)(hL2:L≤K)(hK:K+1024 - L≤2046):kP (av .quo .f64 x y) (K+1024 - L):=by
 obtain ⟨s,m,i,e1,h1⟩:=m8 hx h2 h3;have e2:=hy.rd;have mi:=hy.lo;have pr:=hy.hi;have yt:4503599627370496+y%4503599627370496<9007199254740992:=by omega
 have hj:L - 1≤y/4503599627370496 - 1:=by omega
 have Ek:4503599627370496≤4503599627370496+y%4503599627370496:=by omega
 generalize 4503599627370496+y%4503599627370496=n at*;generalize y/4503599627370496 - 1=j at*;have hf:Ieee.double.fractionBits=52:=rfl;have T8:n.log2=52:=by
  have a1:=(Nat.log2_lt (k:=53) (show n≠0 by omega)).2 (by omega);have a2:=(Nat.le_log2 (k:=52) (show n≠0 by omega)).2 (by omega);omega
 have e3:floatBits .quo .f64 x y=some (Ieee.double.nearest (s^^false) (2*(m*2^(52+2+52 - m.log2)/n)+(m*2^(52+2+52 - m.log2)%n != 0).toNat) (-1074+(i:Int) - (-1074+(j:Int)) - ((52+2+52 - m.log2:Nat):Int) - 1)):=by
  show Ieee.double.div x y=_;unfold Ieee.Format.div;rw [e1,e2];unfold Ieee.Datum.quotient;simp only [T8,hf,Nat.shiftLeft_eq];rw [if_neg (by omega)];rfl
 have hb:kP (Ieee.double.nearest (s^^false) (2*(m*2^(52+2+52 - m.log2)/n)+(m*2^(52+2+52 - m.log2)%n != 0).toNat) (-1074+(i:Int) - (-1074+(j:Int)) - ((52+2+52 - m.log2:Nat):Int) - 1)) (K+1024 - L):=by
  by_cases hm:m=0;subst hm;have:2*(0*2^(52+2+52 - Nat.log2 0)/n)+(0*2^(52+2+52 - Nat.log2 0)%n != 0).toNat=0:=by simp
  rw [this];unfold kP Ieee.Format.nearest;rw [if_pos rfl,gz (by omega)];omega;have LD:=wR hm h1;have XA:m<2^(m.log2+1):=Nat.lt_log2_self;have LF:m.log2≤52:=by
   have ZQ:=xQ e1;have:=(Nat.log2_lt (k:=53) hm).2 (by omega);omega
  have hdiv:m*2^(52+2+52 - m.log2)<2^55*n:=by
   have a1:m*2^(52+2+52 - m.log2)<2^(m.log2+1)*2^(52+2+52 - m.log2):=Nat.mul_lt_mul_of_pos_right XA (bg _);rw [←Nat.pow_add,show m.log2+1+(52+2+52 - m.log2)=55+52 by omega,Nat.pow_add] at a1;have a2:(2:Nat)^55*2^52≤2^55*n:=Nat.mul_le_mul_left _ (by rw [show (2:Nat)^52=4503599627370496 by decide];exact Ek);omega
  have hq:m*2^(52+2+52 - m.log2)/n<2^55:=(Nat.div_lt_iff_lt_mul (by omega)).2 hdiv;have QT: ∀b:Bool,b.toNat≤1:=by decide
  have Q7:2*(m*2^(52+2+52 - m.log2)/n)+(m*2^(52+2+52 - m.log2)%n != 0).toNat<2^56:=by
   have:=QT (m*2^(52+2+52 - m.log2)%n != 0);have e:(2:Nat)^56=2*2^55:=by decide
   omega
  generalize 2*(m*2^(52+2+52 - m.log2)/n)+(m*2^(52+2+52 - m.log2)%n != 0).toNat=mag at*;have Xx:mag.log2≤55:=by
   by_cases h0:mag=0;subst h0;decide;have:=(Nat.log2_lt (k:=56) h0).2 Q7;omega
  exact vE (by omega) (by omega)
 unfold av;rw [e3];simp only;rw [lp (fN _ _ _) (Nat.le_refl _)];exact hb
end Go.Ide
namespace Go.Ide
theorem sx (neg:Bool)(n d:Nat):Ieee.Toward.cut .even neg n d=n/2^d+(decide (2^d<2*(n%2^d))||(2^d==2*(n%2^d)&&n/2^d%2==1)).toNat:=by
 unfold Ieee.Toward.cut;simp only [Nat.one_shiftLeft];by_cases h:d≤n.log2+2;rw [Nat.min_eq_left h];rw [Nat.min_eq_right (by omega)];have cq:n<2^(n.log2+1):=Nat.lt_log2_self;have e2:2^(n.log2+2)=2*2^(n.log2+1):=by rw [Nat.pow_succ 2 (n.log2+1)];omega
 have e3:2^(n.log2+2)≤2^d:=Nat.pow_le_pow_right (by omega) (by omega);rw [Nat.div_eq_of_lt (by omega),Nat.mod_eq_of_lt (by omega),Nat.div_eq_of_lt (a:=n) (b:=2^d) (by omega),Nat.mod_eq_of_lt (a:=n) (b:=2^d) (by omega)];have h1:decide (2^(n.log2+2)<2*n)=decide (2^d<2*n):=by rw [decide_eq_false (by omega),decide_eq_false (by omega)]
 rw [h1];simp
theorem E7 {neg:Bool}{n m d:Nat}(h:n≤m):Ieee.Toward.cut .even neg n d≤Ieee.Toward.cut .even neg m d:=by
 rw [sx,sx];have hp:=bg d;generalize 2^d=g at*;have hq:n/g≤m/g:=Nat.div_le_div_right h;have hb: ∀b:Bool,b.toNat≤1:=by decide
 by_cases he:n/g=m/g;have h1:=Nat.div_add_mod n g;have h2:=Nat.div_add_mod m g;rw [←he] at h2;have hr:n%g≤m%g:=by omega
 rw [←he];refine Nat.add_le_add_left ?_ _;by_cases c1:g<2*(m%g);rw [decide_eq_true c1];exact hb _;rw [decide_eq_false c1,decide_eq_false (show¬g<2*(n%g) by omega)];simp only [Bool.false_or];by_cases c2:g=2*(n%g);have:m%g=n%g:=by omega
 rw [this];exact Nat.le_refl _;have:(g==2*(n%g))=false:=beq_eq_false_iff_ne.2 c2;rw [this];exact Nat.zero_le _;have:=hb (decide (g<2*(n%g))||(g==2*(n%g)&&n/g%2==1));omega
def RN (u:Nat)(p:Int):Nat:=Ieee.single.nearest false u p
theorem vG (p:Int):RN 0 p=0:=by
 unfold RN Ieee.Format.nearest;rw [if_pos rfl];rfl
theorem lQ (u s:Nat)(p:Int):RN (u*2^s) (p - s)=RN u p:=dz
theorem Dc (u:Nat)(p:Int):RN u p≤2139095040:=by
 obtain ⟨r,hr,e⟩:=oK false u p;unfold RN;rw [e];exact hr
theorem pn {u v:Nat}{p:Int}(h:u≤v):RN u p≤RN v p:=by
 by_cases h0:u=0;subst h0;rw [vG];exact Nat.zero_le _;have h1:v≠0:=by omega
 unfold RN Ieee.Format.nearest;rw [if_neg h0,if_neg h1];have hf:Ieee.single.fractionBits=23:=rfl;simp only [wP,rR,qR,hf];have LD:u.log2≤v.log2:=by
  have a:=Nat.log2_self_le h0;exact (Nat.le_log2 h1).2 (by omega)
 have hw: ∀r,Ieee.single.word false r=r:=fun r=>rfl;rw [hw,hw];refine Nat.le_min.2 ⟨?_,Nat.min_le_right _ _⟩;refine Nat.le_trans (Nat.min_le_left _ _) ?_;by_cases he:max (p+(u.log2:Int) - ((23:Nat):Int)) (-149)=max (p+(v.log2:Int) - ((23:Nat):Int)) (-149);rw [he];refine Nat.add_le_add_left (E7 ?_) _;rw [Nat.shiftLeft_eq,Nat.shiftLeft_eq];exact Nat.mul_le_mul_right _ h;have hk:=pj (neg:=false) (mag:=u) (f:=23) (p:=p) (last:=max (p+(u.log2:Int) - ((23:Nat):Int)) (-149)) (by omega);have dU:=qU (neg:=false) (mag:=v) (f:=23) (p:=p) (last:=max (p+(v.log2:Int) - ((23:Nat):Int)) (-149)) h1 (by omega);have JT:(2:Nat)^(23+1)=16777216:=by decide
 have GV:(2:Nat)^23=8388608:=by decide
 rw [JT] at hk;rw [GV] at dU;have hl:(max (p+(u.log2:Int) - ((23:Nat):Int)) (-149) - -149).toNat+1≤(max (p+(v.log2:Int) - ((23:Nat):Int)) (-149) - -149).toNat:=by omega
 have:=Nat.mul_le_mul_right 8388608 hl;omega
def bj (x:Nat):Nat:=if x%2147483648<8388608 then x%2147483648 else (8388608+x%2147483648%8388608)*2^(x%2147483648/8388608 - 1)
def nn (x:Nat):Prop:=x%4294967296≤2147483648
theorem nv {x K:Nat}(h:bd x K)(h2:2≤K)(h3:K≤254): ∃m i,Ieee.single.read x= .number (x/2147483648%2==1) m (-149+((i:Nat):Int))∧bj x=m*2^i:=by
 unfold bd at h;unfold bj;by_cases mi:x%2147483648<8388608;exact ⟨_,0,vB mi,by rw [if_pos mi,Nat.pow_zero,Nat.mul_one]⟩;exact ⟨_,_,yA (by omega) (by omega),by rw [if_neg mi]⟩
theorem XB {x K:Nat}(h:bd x K)(h2:2≤K)(h3:K≤254):bj x≤2^(K+22):=by
 obtain ⟨m,i,e,hv⟩:=nv h h2 h3;obtain ⟨s,m',j,e',hb⟩:=nY h h2 h3;rw [e] at e';injection e' with _ e2 e3;have:i=j:=by omega
 subst e2 this;rw [hv];exact hb
theorem jy {x y:Nat}(hx:x<2147483648)(hy:y<2147483648)(h:x≤y):bj x≤bj y:=by
 unfold bj;rw [Nat.mod_eq_of_lt hx,Nat.mod_eq_of_lt hy];by_cases h1:x<8388608;rw [if_pos h1];by_cases h2:y<8388608;rw [if_pos h2];exact h;rw [if_neg h2];have:=Nat.mul_le_mul (show 8388608≤8388608+y%8388608 by omega) (show 1≤2^(y/8388608 - 1) from bg _);omega;rw [if_neg h1,if_neg (by omega)];by_cases hq:x/8388608=y/8388608;rw [hq];exact Nat.mul_le_mul_right _ (by omega);have cq:x/8388608<y/8388608:=by omega
 have e1:(8388608+x%8388608)*2^(x/8388608 - 1)≤16777216*2^(x/8388608 - 1):=Nat.mul_le_mul_right _ (by omega);have e2:16777216*2^(x/8388608 - 1)=8388608*2^(x/8388608):=by
  obtain ⟨q,FT⟩: ∃q,x/8388608=q+1:=⟨x/8388608 - 1,by omega⟩;rw [FT,Nat.add_sub_cancel,Nat.pow_succ];omega
 have e3:8388608*2^(x/8388608)≤8388608*2^(y/8388608 - 1):=Nat.mul_le_mul_left _ (Nat.pow_le_pow_right (by omega) (by omega));have e4:8388608*2^(y/8388608 - 1)≤(8388608+y%8388608)*2^(y/8388608 - 1):=Nat.mul_le_mul_right _ (by omega);omega
theorem JU {x K:Nat}(h:bd x K)(h2:2≤K)(h3:K≤254):RN (bj x) (-149)=x%2147483648:=by
 have hb:bd (x%2147483648) K:=by unfold bd at*;rwa [Nat.mod_mod]
 obtain ⟨m,i,e,hv⟩:=nv hb h2 h3;have cq:x%2147483648<2147483648:=Nat.mod_lt _ (by omega);rw [Nat.div_eq_of_lt cq] at e;have hn:=Da (x:=x%2147483648) (by omega) e;have hV:bj (x%2147483648)=bj x:=by unfold bj;rw [Nat.mod_mod]
 rw [←hV,hv];have:=lQ m i (-149+(i:Int));rw [show -149+(i:Int) - (i:Int)= -149 by omega] at this;rw [this];exact hn
theorem sy (u:Nat)(p:Int):bw .f32 (RN u p)=RN u p:=qd (ki _ _ _) (Nat.le_refl _)
theorem Dd {x y a b:Nat}(hx:bd x a)(hy:bd y b)(ha:2≤a)(uY:a≤254)(hb:2≤b)(o6:b≤254)(nx:nn x)(ny:nn y):(av .mul .f32 x y)%2147483648=RN (bj x*bj y) (-298)∧nn (av .mul .f32 x y):=by
 obtain ⟨m,i,e1,v1⟩:=nv hx ha uY;obtain ⟨n,j,e2,v2⟩:=nv hy hb o6;have hm: ∀{x m i:Nat},nn x→Ieee.single.read x= .number (x/2147483648%2==1) m (-149+((i:Nat):Int))→(x/2147483648%2==1)=true→m=0:=by
  intro x m i nx e hs;unfold nn at nx;have VH:x%2147483648=0:=by
   have:=beq_iff_eq.1 hs;omega
  rw [vB (by omega)] at e;injection e with _ e2 _;omega
 have e3:floatBits .mul .f32 x y=some (Ieee.single.nearest ((x/2147483648%2==1)^^(y/2147483648%2==1)) (m*n) (-298+((i+j:Nat):Int))):=by
  show Ieee.single.mul x y=_;unfold Ieee.Format.mul;rw [e1,e2];show some (Ieee.single.nearest _ (m*n) (-149+(i:Int)+(-149+(j:Int))))=_
  congr 2
  omega
 have hR:RN (bj x*bj y) (-298)=RN (m*n) (-298+((i+j:Nat):Int)):=by
  rw [v1,v2];have:=lQ (m*n) (i+j) (-298+((i+j:Nat):Int));rw [show -298+((i+j:Nat):Int) - ((i+j:Nat):Int)= -298 by omega] at this;rw [←this]
  congr 1
  rw [Nat.pow_add];ac_rfl
 have key:av .mul .f32 x y=if m*n=0 then Ieee.single.word ((x/2147483648%2==1)^^(y/2147483648%2==1)) 0 else RN (m*n) (-298+((i+j:Nat):Int)):=by
  unfold av;rw [e3];simp only;rw [qd (ki _ _ _) (Nat.le_refl _)];by_cases h0:m*n=0;rw [if_pos h0];unfold Ieee.Format.nearest;rw [if_pos h0];rw [if_neg h0];have s1:(x/2147483648%2==1)=false:=by
   cases hs:(x/2147483648%2==1) with
   |false=>rfl
   |true=>exact absurd (by rw [hm nx e1 hs,Nat.zero_mul]) h0
  have s2:(y/2147483648%2==1)=false:=by
   cases hs:(y/2147483648%2==1) with
   |false=>rfl
   |true=>exact absurd (by rw [hm ny e2 hs,Nat.mul_zero]) h0
  rw [s1,s2];rfl
 rw [key,hR];by_cases h0:m*n=0;rw [if_pos h0,h0,vG];refine ⟨jv (by omega),?_⟩;unfold nn Ieee.Format.word;simp only [vA];split<;>omega;rw [if_neg h0];have:=Dc (m*n) (-298+((i+j:Nat):Int));exact ⟨Nat.mod_eq_of_lt (by omega),by unfold nn;omega⟩
theorem E8 {x y:Nat}(h:x%2147483648=y%2147483648):bj x=bj y:=by unfold bj;rw [h]
theorem JV {x y a:Nat}(hx:bd x a)(hy:bd y 127)(ha:2≤a)(uY:a≤254)(nx:nn x)(ny:nn y):bj (av .mul .f32 x y)≤bj x:=by
 obtain ⟨h1,_⟩:=Dd hx hy ha uY (by omega) (by omega) nx ny;have hv:=XB hy (by omega) (by omega);have h2:RN (bj x*bj y) (-298)≤RN (bj x*2^149) (-298):=pn (Nat.mul_le_mul_left _ hv);have h3:RN (bj x*2^149) (-298)=x%2147483648:=by
  have:=lQ (bj x) 149 (-149);rw [show (-149:Int) - ((149:Nat):Int)= -298 by omega] at this;rw [this,JU hx ha uY]
 rw [h3,←h1] at h2;have l1:(av .mul .f32 x y)%2147483648<2147483648:=Nat.mod_lt _ (by omega);have l2:x%2147483648<2147483648:=Nat.mod_lt _ (by omega);rw [E8 (x:=av .mul .f32 x y) (y:=av .mul .f32 x y%2147483648) (Nat.mod_mod _ _).symm,E8 (x:=x) (y:=x%2147483648) (Nat.mod_mod _ _).symm];exact jy l1 l2 h2
theorem De {x y a:Nat}(hx:bd x a)(hy:bd y a)(ha:2≤a)(uY:a≤254)(px:jx x)(ny:nn y):av .add .f32 x y=RN (bj x+bj y) (-149):=by
 obtain ⟨m,i,e1,v1⟩:=nv hx ha uY;obtain ⟨n,j,e2,v2⟩:=nv hy ha uY;have s1:(x/2147483648%2==1)=false:=by
  unfold jx at px;rw [Nat.div_eq_of_lt px];rfl
 rw [s1] at e1;have hn:(y/2147483648%2==1)=true→n=0:=fun hs=>by
  unfold nn at ny;have XC:y%2147483648=0:=by
   have:=beq_iff_eq.1 hs;omega
  rw [vB (by omega)] at e2;injection e2 with _ e2 _;omega
 have UK: ∀u,Ieee.signed (y/2147483648%2==1) n u=((n*2^u:Nat):Int):=fun u=>by
  cases hs:(y/2147483648%2==1) with
  |false=>exact bn _ _
  |true=>rw [hn hs,dR];simp
 rw [E3 e1 e2];simp only [UK,bn,Bool.false_and];have wE:min (-149+(i:Int)) (-149+(j:Int))= -149+((min i j:Nat):Int):=by omega
 rw [wE];have e3:(-149+(i:Int) - (-149+((min i j:Nat):Int))).toNat=i - min i j:=by omega
 have e4:(-149+(j:Int) - (-149+((min i j:Nat):Int))).toNat=j - min i j:=by omega
 rw [e3,e4];generalize hA:m*2^(i - min i j)=A;generalize hB:n*2^(j - min i j)=B;have E2:decide (((A:Nat):Int)+((B:Nat):Int)<0)=false:=decide_eq_false (by omega);rw [E2,ite_self,show (((A:Nat):Int)+((B:Nat):Int)).natAbs=A+B by omega];have hs:bj x+bj y=(A+B)*2^min i j:=by
  rw [v1,v2,←hA,←hB,Nat.add_mul,Nat.mul_assoc,Nat.mul_assoc,←Nat.pow_add,←Nat.pow_add,show i - min i j+min i j=i by omega,show j - min i j+min i j=j by omega]
 have:=lQ (A+B) (min i j) (-149+((min i j:Nat):Int));rw [show -149+((min i j:Nat):Int) - ((min i j:Nat):Int)= -149 by omega,←hs] at this;rw [this];exact sy _ _
theorem LH {x y x' y' a:Nat}(hx:bd x a)(hy:bd y a)(yb:bd x' a)(FY:bd y' a)(ha:2≤a)(uY:a≤254)(px:jx x)(ny:nn y)(ZT:jx x')(ny':nn y')(h1:x≤x')(h2:bj y≤bj y'):av .add .f32 x y≤av .add .f32 x' y':=by
 rw [De hx hy ha uY px ny,De yb FY ha uY ZT ny'];exact pn (Nat.add_le_add (jy px ZT h1) h2)
theorem add_pos {x y a:Nat}(hx:bd x a)(hy:bd y a)(ha:2≤a)(uY:a≤254)(px:jx x)(ny:nn y):jx (av .add .f32 x y):=by
 rw [De hx hy ha uY px ny];have:=Dc (bj x+bj y) (-149);unfold jx;omega
theorem Q8:RN 1 0=1065353216:=by decide
theorem tA {x y a:Nat}(hx:bd x a)(hy:bd y a)(ha:2≤a)(uY:a≤254)(px:jx x)(py:jx y)(h:x≤y)(h0:y≠0):av .quo .f32 x y≤1065353216:=by
 obtain ⟨m,i,e1,v1⟩:=nv hx ha uY;obtain ⟨n,j,e2,v2⟩:=nv hy ha uY;have hV:=jy px py h;rw [v1,v2] at hV;have s1:(x/2147483648%2==1)=false:=by unfold jx at px;rw [Nat.div_eq_of_lt px];rfl
 have s2:(y/2147483648%2==1)=false:=by unfold jx at py;rw [Nat.div_eq_of_lt py];rfl
 rw [s1] at e1;rw [s2] at e2;have hn:n≠0:=by
  rintro rfl;have:=(E4 e2).1;unfold jx at py;omega
 have hf:Ieee.single.fractionBits=23:=rfl;have e3:floatBits .quo .f32 x y=some (RN (2*(m*2^(23+2+n.log2 - m.log2)/n)+(m*2^(23+2+n.log2 - m.log2)%n != 0).toNat) (-149+(i:Int) - (-149+(j:Int)) - ((23+2+n.log2 - m.log2:Nat):Int) - 1)):=by
  show Ieee.single.div x y=_;unfold Ieee.Format.div;rw [e1,e2];unfold Ieee.Datum.quotient;simp only [hf,Nat.shiftLeft_eq];rw [if_neg hn];rfl
 unfold av;rw [e3];simp only;rw [sy];by_cases hm:m=0;subst hm;have:2*(0*2^(23+2+n.log2 - Nat.log2 0)/n)+(0*2^(23+2+n.log2 - Nat.log2 0)%n != 0).toNat=0:=by simp
 rw [this,vG];omega;have TW:=Nat.log2_self_le hm;have T8:n<2^(n.log2+1):=Nat.lt_log2_self;have LF:m.log2≤23:=by
  have:=zV e1;have:=(Nat.log2_lt (k:=24) hm).2 (by omega);omega
 have Gd:i+m.log2≤j+n.log2:=by
  have:2^(m.log2+i)<2^(n.log2+1+j):=by
   rw [Nat.pow_add,Nat.pow_add];exact Nat.lt_of_le_of_lt (Nat.le_trans (Nat.mul_le_mul_right _ TW) hV) (Nat.mul_lt_mul_of_pos_right T8 (bg _))
  have:=(Nat.pow_lt_pow_iff_right (by omega)).1 this;omega
 generalize ZU:23+2+n.log2 - m.log2=more;obtain ⟨ee,Wq⟩: ∃ee:Nat,j+more=i+ee:=⟨j+more - i,by omega⟩;have hdiv:m*2^more≤n*2^ee:=by
  have a1:m*2^i*2^more≤n*2^j*2^more:=Nat.mul_le_mul_right _ hV;rw [Nat.mul_assoc,Nat.mul_assoc,←Nat.pow_add,←Nat.pow_add,Wq,Nat.pow_add,Nat.pow_add,Nat.mul_comm (2^i) (2^more),Nat.mul_comm (2^i) (2^ee),←Nat.mul_assoc,←Nat.mul_assoc] at a1;exact Nat.le_of_mul_le_mul_right a1 (bg _)
 have QT: ∀b:Bool,b.toNat≤1:=by decide
 have Q7:2*(m*2^more/n)+(m*2^more%n != 0).toNat≤2^(ee+1):=by
  rw [Nat.pow_succ];have hq:m*2^more/n≤2^ee:=Nat.div_le_of_le_mul hdiv;by_cases heq:m*2^more/n=2^ee;have Xw:=Nat.div_add_mod (m*2^more) n;rw [heq] at Xw⊢;have:m*2^more%n=0:=by omega
  rw [this];simp;omega;have:=QT (m*2^more%n != 0);omega
 refine Nat.le_trans (pn Q7) ?_;have:=lQ 1 (ee+1) 0;rw [Nat.one_mul,show (0:Int) - ((ee+1:Nat):Int)= -149+(i:Int) - (-149+(j:Int)) - (more:Int) - 1 by omega,Q8] at this;omega
theorem LI {x:Nat}(h0:rT .f32 x 0=true)(hb:bd x 127):nn x:=by
 obtain ⟨s,m,i,e,_⟩:=nY hb (by omega) (by omega);rw [yB e ln] at h0;have h0:=of_decide_eq_true h0;have hz: ∀u,Ieee.signed false 0 u=0:=fun u=>by rw [bn];simp
 rw [hz] at h0;unfold nn;have hs:=BT e;cases s with
 |false=>
  have h1: ¬(x/2147483648%2=1):=fun h=>by rw [h] at hs;cases hs
  omega
 |true=>
  rw [dR] at h0;have hm:m=0:=by
   rcases Nat.eq_zero_or_pos m with h|h
   exact h;have:=Nat.mul_pos h (bg (-149+(i:Int) - min (-149+(i:Int)) (-149)).toNat);omega
  subst hm;have:=(E4 e).1;omega
end Go.Ide
namespace Go.Ide
open Go.IntWalk
theorem vI {α:Type}{xs:List α}{i:Nat}(h:i<xs.length)(d:α):xs.getD i d∈xs:=by
 rw [List.getD_eq_getElem?_getD,List.getElem?_eq_getElem h];exact List.getElem_mem _
end Go.Ide
namespace Go.Ide
open Go.IntWalk
section
variable {α:Type}
end
end Go.Ide
namespace Go.Ide
def XD (s:tw)(m0:Mem)(c c':aA):Option aA:=
 match c' with
 | .aq t _=>(match eu m0 t c with
  |some x=>some (.aq t x)
  |none=>none)
 | .ptr k' dY=>(match c with
  | .ptr k off=>bif vx k k' s.ch&&Nat.beq off dY then some (.ptr k' dY) else none
  |_=>none)
 | .iy k' _ Ie dY=>(match c with
  | .iy k i sz off=>bif vx k k' s.ch&&(Nat.beq sz Ie&&Nat.beq off dY) then some (.iy k' i Ie dY) else none
  |_=>none)
 | .ip t' _ dY=>(match c with
  | .ip t x off=>bif Nat.beq off dY then (if h:t'=t then some (.ip t' (cG h.symm x) dY) else none) else none
  | .ptr k off=>(match lk k m0 with
   |some (.box cs)=>bif Nat.beq off dY then (match impl m0 t' cs with
    |some (x,[])=>some (.ip t' x dY)
    |_=>none) else none
   |_=>none)
  |_=>none)
 | .all k'=>(match c with
  | .all k=>bif vx k k' s.ch&& !(cU k s.tr) then some (.all k') else none
  | .ar=>bif cU k' s.vs then some (.all k') else none
  |_=>none)
 | .ref k' _ _=>(match c with
  | .ref k off len=>bif vx k k' s.ch&& !(cU k s.tr) then some (.ref k' off len) else none
  |_=>none)
 | .ar=>(match c with
  | .ar=>some .ar
  |_=>none)
 | .fn f'=>(match c with
  | .fn f=>if f'=f then some (.fn f') else none
  |_=>none)
 | .nM f' t' _=>(match c with
  | .nM f t x=>if f'=f then (if h:t'=t then some (.nM f' t' (cG h.symm x)) else none) else none
  |_=>none)
 | .jk=>bif c.ok then some .jk else none
 |_=>none
theorem uH {t t':Ty}(h:t'=t)(x:t.D):cG h (cG h.symm x)=x:=by subst h;rfl
theorem LJ {s:tw}{m0 m':Mem}{c c':aA}(h:XD s m0 c c'=some c'): ∃ps,FW s m0 m' c c'=some ps∧bH ps:=by
 cases c' with
 |aq t x'=>
  have h:(match eu m0 t c with
   |some x=>some (aA.aq t x)
   |none=>none)=some (.aq t x'):=h
  show∃ps,(match eu m0 t c with
   |some x=>some [x'=x]
   |none=>none)=some ps∧bH ps
  cases hx:eu m0 t c with
  |none=>rw [hx] at h;cases h
  |some x=>
   rw [hx] at h;injection h with h;injection h with h1 h2;exact ⟨_,rfl,h2.symm,trivial⟩
 |ptr k' dY=>
  cases c with
  |ptr k off=>
   have h:(bif vx k k' s.ch&&Nat.beq off dY then some (aA.ptr k' dY) else none)=some (.ptr k' dY):=h;show∃ps,(bif vx k k' s.ch&&Nat.beq off dY then some [] else none)=some ps∧bH ps;cases hb:(vx k k' s.ch&&Nat.beq off dY) with
   |true=>exact ⟨_,rfl,trivial⟩
   |false=>rw [hb] at h;cases h
  |_=>cases h
 |iy k' i' Ie dY=>
  cases c with
  |iy k i sz off=>
   have h:(bif vx k k' s.ch&&(Nat.beq sz Ie&&Nat.beq off dY) then some (aA.iy k' i Ie dY) else none)=some (.iy k' i' Ie dY):=h;show∃ps,(bif vx k k' s.ch&&(Nat.beq sz Ie&&Nat.beq off dY) then some [i'=i] else none)=some ps∧bH ps;cases hb:(vx k k' s.ch&&(Nat.beq sz Ie&&Nat.beq off dY)) with
   |true=>
    rw [hb] at h;injection h with h;injection h with _ h2;exact ⟨_,rfl,h2.symm,trivial⟩
   |false=>rw [hb] at h;cases h
  |_=>cases h
 |ip t' x' dY=>
  cases c with
  |ip t x off=>
   have h:(bif Nat.beq off dY then (if h:t'=t then some (aA.ip t' (cG h.symm x) dY) else none) else none)=some (.ip t' x' dY):=h;show∃ps,(bif Nat.beq off dY then (if h:t'=t then some [cG h x'=x] else none) else none)=some ps∧bH ps;cases hb:Nat.beq off dY with
   |true=>
    rw [hb] at h;simp only [cond_true] at h⊢;split at h;rename_i e;rw [dif_pos e];injection h with h;injection h with _ h2;exact ⟨_,rfl,by rw [←h2];exact uH e _,trivial⟩;cases h
   |false=>rw [hb] at h;cases h
  |ptr k off=>
   have h:(match lk k m0 with
    |some (.box cs)=>bif Nat.beq off dY then (match impl m0 t' cs with
     |some (x,[])=>some (aA.ip t' x dY)
     |_=>none) else none
    |_=>none)=some (.ip t' x' dY):=h
   show∃ps,(match lk k m0 with
    |some (.box cs)=>bif Nat.beq off dY then (match impl m0 t' cs with
     |some (x,[])=>some [x'=x]
     |_=>none) else none
    |_=>none)=some ps∧bH ps
   cases hk:lk k m0 with
   |none=>rw [hk] at h;cases h
   |some ch=>
    rw [hk] at h;cases ch with
    |box cs=>
     simp only at h⊢;cases hb:Nat.beq off dY with
     |true=>
      rw [hb] at h;simp only [cond_true] at h⊢;cases hi:impl m0 t' cs with
      |none=>rw [hi] at h;cases h
      |some p=>
       obtain ⟨x,l⟩:=p;rw [hi] at h;cases l with
       |nil=>
        simp only at h⊢;injection h with h;injection h with _ h2;exact ⟨_,rfl,h2.symm,trivial⟩
       |cons _ _=>cases h
     |false=>rw [hb] at h;cases h
    |_=>cases h
  |_=>cases h
 |all k'=>
  cases c with
  |all k=>
   have h:(bif vx k k' s.ch&& !(cU k s.tr) then some (aA.all k') else none)=some (.all k'):=h;show∃ps,(bif vx k k' s.ch&& !(cU k s.tr) then some [] else none)=some ps∧bH ps;cases hb:(vx k k' s.ch&& !(cU k s.tr)) with
   |true=>exact ⟨_,rfl,trivial⟩
   |false=>rw [hb] at h;cases h
  |ar=>
   have h:(bif cU k' s.vs then some (aA.all k') else none)=some (.all k'):=h;show∃ps,(bif cU k' s.vs then some [] else none)=some ps∧bH ps;cases hb:cU k' s.vs with
   |true=>exact ⟨_,rfl,trivial⟩
   |false=>rw [hb] at h;cases h
  |_=>cases h
 |ref k' dY JC=>
  cases c with
  |ref k off len=>
   have h:(bif vx k k' s.ch&& !(cU k s.tr) then some (aA.ref k' off len) else none)=some (.ref k' dY JC):=h;show∃ps,(bif vx k k' s.ch&& !(cU k s.tr) then some [dY=off,JC=len] else none)=some ps∧bH ps;cases hb:(vx k k' s.ch&& !(cU k s.tr)) with
   |true=>
    rw [hb] at h;injection h with h;injection h with _ h2 h3;exact ⟨_,rfl,h2.symm,h3.symm,trivial⟩
   |false=>rw [hb] at h;cases h
  |_=>cases h
 |ar=>
  cases c with
  |ar=>exact ⟨_,rfl,trivial⟩
  |_=>cases h
 |fn f'=>
  cases c with
  |fn f=>
   have h:(if f'=f then some (aA.fn f') else none)=some (.fn f'):=h;show∃ps,(if f'=f then some [] else none)=some ps∧bH ps;split at h;rename_i e;rw [if_pos e];exact ⟨_,rfl,trivial⟩;cases h
  |_=>cases h
 |nM f' t' x'=>
  cases c with
  |nM f t x=>
   have h:(if f'=f then (if h:t'=t then some (aA.nM f' t' (cG h.symm x)) else none) else none)=some (.nM f' t' x'):=h;show∃ps,(if f'=f then (if h:t'=t then some [cG h x'=x] else none) else none)=some ps∧bH ps;split at h;rename_i e;rw [if_pos e];split at h;rename_i e2;rw [dif_pos e2];injection h with h;injection h with _ _ h2;exact ⟨_,rfl,by rw [←h2];exact uH e2 _,trivial⟩;cases h;cases h
  |_=>cases h
 |jk=>
  have h:(bif c.ok then some aA.jk else none)=some .jk:=h;show∃ps,(bif c.ok then some [] else none)=some ps∧bH ps;cases hb:c.ok with
  |true=>exact ⟨_,rfl,trivial⟩
  |false=>rw [hb] at h;cases h
 |row=>cases h
 |AW=>cases h
 |bad=>cases h
def LK (s:tw)(m0:Mem):List aA→List aA→Option (List aA)
 |[],[]=>some []
 |c::r,c'::r'=>(match XD s m0 c c',LK s m0 r r' with
  |some p,some q=>some (p::q)
  |_,_=>none)
 |_,_=>none
theorem bH.app: ∀{a b:List Prop},bH a→bH b→bH (a++b)
 |[],_,_,hb=>hb
 |_::_,_,ha,hb=>⟨ha.1,bH.app ha.2 hb⟩
theorem Df {s:tw}{m0 m':Mem}: ∀{cs oy:List aA},LK s m0 cs oy=some oy→ ∃ps,GK s m0 m' cs oy=some ps∧bH ps
 |[],[],_=>⟨_,rfl,trivial⟩
 |c::r,c'::r',h=>by
  unfold LK at h;split at h;rename_i p q hp hq;injection h with h;injection h with h1 h2;subst h1 h2;obtain ⟨ps,e1,a1⟩:=LJ (m':=m') hp;obtain ⟨qs,e2,a2⟩:=Df (m':=m') hq;exact ⟨ps++qs,by unfold GK;rw [e1,e2],a1.app a2⟩;cases h
 |[],_::_,h=>by cases h
 |_::_,[],h=>by cases h
def Tn (s:tw)(m0:Mem)(v v':aE):Option aE:=
 match v' with
 | .one c'=>(match v with
  | .one c=>(match XD s m0 c c' with
   |some x=>some (.one x)
   |none=>none)
  |_=>none)
 | .agg oy=>(match v with
  | .agg cs=>(match LK s m0 cs oy with
   |some x=>some (.agg x)
   |none=>none)
  |_=>none)
 | .HM _=>none
 | .FQ=>none
 | .jk=>some .jk
theorem Q9 {s:tw}{m0 m':Mem}{v v':aE}(h:Tn s m0 v v'=some v'): ∃ps,QY s m0 m' v v'=some ps∧bH ps:=by
 cases v' with
 |one c'=>
  unfold Tn at h;unfold QY;simp only at h⊢;split at h;split at h;rename_i x hx;injection h with h;injection h with h;rw [h] at hx;exact LJ hx;cases h;cases h
 |agg oy=>
  unfold Tn at h;unfold QY;simp only at h⊢;split at h;split at h;rename_i x hx;injection h with h;injection h with h;rw [h] at hx;exact Df hx;cases h;cases h
 |HM=>cases h
 |FQ=>cases h
 |jk=>exact ⟨_,rfl,trivial⟩
def LL (s:tw)(m0:Mem)(fr:Fr):Fr→Option Fr
 |[]=>some []
 |(t,v')::r=>(match lk t fr with
  |some v=>(match Tn s m0 v v',LL s m0 fr r with
   |some p,some q=>some ((t,p)::q)
   |_,_=>none)
  |none=>none)
theorem Iq {s:tw}{m0 m':Mem}{fr:Fr}: ∀{rF:Fr},LL s m0 fr rF=some rF→ ∃ps,JN s m0 m' fr rF=some ps∧bH ps
 |[],_=>⟨_,rfl,trivial⟩
 |(t,v')::r,h=>by
  have h:(match lk t fr with
   |some v=>(match Tn s m0 v v',LL s m0 fr r with
    |some p,some q=>some ((t,p)::q)
    |_,_=>none)
   |none=>none)=some ((t,v')::r):=h
  show∃ps,(match lk t fr with
   |some v=>(match QY s m0 m' v v',JN s m0 m' fr r with
    |some p,some q=>some (p++q)
    |_,_=>none)
   |none=>none)=some ps∧bH ps
  cases hv:lk t fr with
  |none=>rw [hv] at h;cases h
  |some v=>
   rw [hv] at h;simp only at h⊢;cases hp:Tn s m0 v v' with
   |none=>rw [hp] at h;cases h
   |some p=>
    cases hq:LL s m0 fr r with
    |none=>rw [hp,hq] at h;cases h
    |some q=>
     rw [hp,hq] at h;injection h with h;injection h with h1 h2;injection h1 with _ h1;rw [h1] at hp;rw [h2] at hq;obtain ⟨ps,e1,a1⟩:=Q9 (m':=m') hp;obtain ⟨qs,e2,a2⟩:=Iq (m':=m') hq;rw [e1,e2];exact ⟨_,rfl,a1.app a2⟩
def Oe (s:tw)(m0:Mem)(k:Nat)(c c':Chunk):Option Chunk:=
 match c' with
 | .box oy=>(match c with
  | .box cs=>(match LK s m0 cs oy with
   |some x=>some (.box x)
   |none=>none)
  |_=>none)
 | .seq t' _=>(match c with
  | .seq t xs=>if h:t'=t then (bif cU k s.tr then none else some (.seq t' (cG (congrArg Ty.sl h.symm) xs))) else none
  |_=>none)
 | .rB _ _ _ _ _=>none
 | .gone=>none
theorem Of {s:tw}{m0 m':Mem}{k:Nat}{c c':Chunk}(h:Oe s m0 k c c'=some c'): ∃ps,zL s m0 m' k c c'=some ps∧bH ps:=by
 cases c' with
 |box oy=>
  unfold Oe at h;unfold zL;simp only at h⊢;split at h;split at h;rename_i x hx;injection h with h;injection h with h;rw [h] at hx;exact Df hx;cases h;cases h
 |seq t' cE=>
  cases c with
  |seq t xs=>
   have h:(if h:t'=t then (bif cU k s.tr then none else some (Chunk.seq t' (cG (a:= .sl t) (b:= .sl t') (congrArg Ty.sl h.symm) xs))) else none)=some (.seq t' cE):=h;show∃ps,(if h:t'=t then (bif cU k s.tr then some [cG (a:= .sl t') (b:= .sl t) (congrArg Ty.sl h) cE=List.take (List.length cE) xs] else some [cG (a:= .sl t') (b:= .sl t) (congrArg Ty.sl h) cE=xs]) else none)=some ps∧bH ps;split at h;rename_i e;rw [dif_pos e];cases hb:cU k s.tr with
   |true=>rw [hb] at h;cases h
   |false=>
    rw [hb] at h;simp only [cond_false] at h⊢;injection h with h;injection h with _ h2;exact ⟨_,rfl,by rw [←h2];exact uH (congrArg Ty.sl e) _,trivial⟩
   cases h
  |_=>cases h
 |rB=>cases h
 |gone=>cases h
def Ra (s:tw)(m m0:Mem):Mem→Option Mem
 |[]=>some []
 |(k',c')::r=>(match lk k' (inv s.ch) with
  |some k=>(match lk k m with
   |some c=>(match Oe s m0 k c c',Ra s m m0 r with
    |some p,some q=>some ((k',p)::q)
    |_,_=>none)
   |none=>none)
  |none=>bif cU k' s.vs then (match c' with
   | .seq t' _=>(match Ra s m m0 r with
    |some q=>some ((k',.seq t' [])::q)
    |none=>none)
   |_=>none) else none)
theorem GW {s:tw}{m m0 m':Mem}: ∀{r:Mem},Ra s m m0 r=some r→ ∃ps,QZ s m m0 m' r=some ps∧bH ps
 |[],_=>⟨_,rfl,trivial⟩
 |(k',c')::r,h=>by
  unfold Ra at h;unfold QZ;cases hk:lk k' (inv s.ch) with
  |some k=>
   rw [hk] at h;simp only at h⊢;cases hc:lk k m with
   |none=>rw [hc] at h;cases h
   |some c=>
    rw [hc] at h;simp only at h⊢;cases hp:Oe s m0 k c c' with
    |none=>rw [hp] at h;cases h
    |some p=>
     cases hq:Ra s m m0 r with
     |none=>rw [hp,hq] at h;cases h
     |some q=>
      rw [hp,hq] at h;injection h with h;injection h with h1 h2;injection h1 with _ h1;rw [h1] at hp;rw [h2] at hq;obtain ⟨ps,e1,a1⟩:=Of (m':=m') hp;obtain ⟨qs,e2,a2⟩:=GW (m':=m') hq;rw [e1,e2];exact ⟨_,rfl,a1.app a2⟩
  |none=>
   rw [hk] at h;simp only at h⊢;cases hb:cU k' s.vs with
   |false=>rw [hb] at h;cases h
   |true=>
    rw [hb] at h;cases c' with
    |seq t' cE=>
     simp only [cond_true] at h⊢;cases hq:Ra s m m0 r with
     |none=>rw [hq] at h;cases h
     |some q=>
      rw [hq] at h;injection h with h;injection h with h1 h2;injection h1 with _ h1;injection h1 with _ h1;rw [h2] at hq;obtain ⟨qs,e2,a2⟩:=GW (m':=m') hq;rw [e2];exact ⟨_,rfl,h1.symm,a2⟩
    |_=>cases h
def St.re (s:tw)(own:List Nat)(st st':St):Option St:=
 bif s.okB st'.mem own then (match LL s (s.m0 st.mem) st.fr st'.fr,Ra s st.mem (s.m0 st.mem) st'.mem with
  |some p,some q=>some ⟨p,q,st'.nx⟩
  |_,_=>none) else none
theorem St.PV {s:tw}{own:List Nat}{st st':St}(h:st.re s own st'=some st'): ∃ps,st.cv s own st'=some ps∧bH ps:=by
 unfold St.re at h;unfold St.cv;cases hb:s.okB st'.mem own with
 |false=>rw [hb] at h;cases h
 |true=>
  rw [hb] at h;simp only [cond_true] at h⊢;split at h;rename_i p q hp hq;injection h with h;have h1:p=st'.fr:=congrArg St.fr h;have h2:q=st'.mem:=congrArg St.mem h;rw [h1] at hp;rw [h2] at hq;obtain ⟨ps,e1,a1⟩:=Iq (m':=st'.mem) hp;obtain ⟨qs,e2,a2⟩:=GW (m':=st'.mem) hq;exact ⟨ps++qs,by rw [e1,e2],a1.app a2⟩;cases h
variable {cx:Cx} {P:Program} {N:Nat} {st st':St} {c x y:Code} {Q:Exit→St→Prop}
theorem Le.re {own:List Nat}(ch:List (Nat×Nat))(vs:List Nat){st':St}(hX:vy cx P N own)(he:st.re ⟨ch,vs,[],false⟩ own st'=some st'):Le cx st st':=by
 obtain ⟨ps,h1,h2⟩:=St.PV he;exact Le.cv hX.own (fun h=>by cases h) h1 h2
theorem Le.rz {own:List Nat}(ch:List (Nat×Nat))(vs:List Nat){st':St}(hX:vy cx P N own)(hF:cx.S7)(he:st.re ⟨ch,vs,[],true⟩ own st'=some st'):Le cx st st':=by
 obtain ⟨ps,h1,h2⟩:=St.PV he;exact Le.cv hX.own (fun _=>hF) h1 h2
def V1 (s:tw)(own:List Nat)(st':St):Option (St×List Prop)→Option (St×List Prop)
 |some (st1,cs)=>(match st1.re s own st' with
  |some Un=>some (Un,cs)
  |none=>none)
 |none=>none
theorem E9 {s:tw}{own:List Nat}{st':St}{o:Option (St×List Prop)}{cs:List Prop}(h:V1 s own st' o=some (st',cs)): ∃st1,o=some (st1,cs)∧st1.re s own st'=some st':=by
 unfold V1 at h;split at h;rename_i st1 N7;split at h;rename_i Un h2;injection h with h;injection h with h3 h4;subst h3 h4;exact ⟨_,rfl,h2⟩;cases h;cases h
theorem HT.cR {id:Nat}{ops:List Oper}{own:List Nat}(rs:List OH)(ch:List (Nat×Nat))(vs:List Nat){st':St}{cs:List Prop}(hX:vy cx P N own)(he:V1 ⟨ch,vs,[],false⟩ own st' (tV P N ops ops rs st)=some (st',cs))(hc:bH cs)(hq: ∀st1,Le cx st1 st'→Q .normal st1):HT cx st (.region id ops.toArray false) Q:=by
 obtain ⟨st1,h1,h2⟩:=E9 he;exact HT.VY hX.P hX.N h1 hc (hq _ (Le.re ch vs hX h2))
theorem HT.ZV {id:Nat}{ops:List Oper}{own:List Nat}(h:Nat)(tu:List HR)(AU:List (List Nat))(rs:List OH)(ch:List (Nat×Nat))(vs:List Nat){st':St}{cs:List Prop}(hX:vy cx P N own)(hm:P.follows .mixedOrders=true)(he:V1 ⟨ch,vs,[],false⟩ own st' (zO P N ops h tu AU rs st)=some (st',cs))(hc:bH cs)(hq: ∀st1,Le cx st1 st'→Q .normal st1):HT cx st (.region id ops.toArray true) Q:=by
 obtain ⟨st1,h1,h2⟩:=E9 he;exact Lp hX.P hX.N hm h1 hc (hq _ (Le.re ch vs hX h2))
theorem HT.qV (hl:Le cx st st')(hq:Q .ret st'):HT cx st .ret Q:=hl.ht (HT.ret hq)
theorem HT.cr {n:Nat}(hl:Le cx st st')(hq:Q (.exit n) st'):HT cx st (.exit n) Q:=hl.ht (HT.exit hq)
theorem HT.ct {σ ρ:Type}{f:σ→Option (σ⊕ρ)}{s:σ}{r:ρ}(S:σ→St)(E:ρ→Exit×St)(hl:Le cx st (S s))(h:rounds f s=some r)(hc:Q (E r).1 (E r).2)(round: ∀s x,f s=some x→(∀r',x= .inr r'→Q (E r').1 (E r').2)→HT cx (S s) c (BK (fun st'=> ∃s',x= .inl s'∧Le cx st' (S s')) Q)):HT cx st (.loop c) Q:=hl.ht (HT.UG S E h hc round)
end Go.Ide
namespace Go.Ide
section
variable {α β:Type}
open Classical in
end
end Go.Ide
