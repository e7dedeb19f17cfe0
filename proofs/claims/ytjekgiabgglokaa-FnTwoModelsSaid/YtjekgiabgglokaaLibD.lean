import Derived.Test.YtjekgiabgglokaaLibC
import Derived.Sort.Row
set_option linter.unusedVariables false
set_option linter.unusedSimpArgs false
set_option linter.unusedSectionVars false
namespace Go.Ide
section
variable {cx:Cx} {st st':St} {P:Program} {N:Nat} {Q:Exit→St→Prop} {y:Code}
theorem EI {all os2:List Oper}{Q:Exit→Act→World→Prop}: ∀{os:List Oper} {rs:List OH} {st st':St} {cs:List Prop} {g:GM} {a:Act} {w:World},
 cX cx g st a w→oy cx.P cx.N all os rs st=some (st',cs)→bB cs→(∀g' a' w',cX cx g' st' a' w'→wpList cx.P all.toArray Q os2 a' w')→wpList cx.P all.toArray Q (os++os2) a w
 |[],rs,st,st',cs,g,a,w,h,he,hc,hk=>by
  have he:some (st,[])=some (st',cs):=by cases rs<;>exact he
  injection he with he;injection he with e1 e2;subst e1;exact hk g a w h
 |o::os,[],st,st',cs,g,a,w,h,he,hc,hk=>by cases he
 |o::os,r::rs,st,st',cs,g,a,w,h,he,hc,hk=>by
  simp only [oy] at he;split at he;rename_i st1 c1 h1;split at he;rename_i I9 c2 h2;injection he with he;injection he with e1 e2;subst e1;subst e2;obtain ⟨Av,lQ⟩:=hc.append;rw [List.cons_append];refine wpList_step fun K hK=> ?_;exact oG h h1 Av fun g' a' w' hs=>hK a' w' (EI hs h2 lQ hk);cases he;cases he
def RG (cx:Cx)(all os:List Oper)(st:St)(Q:Exit→St→Prop):Prop:=
 ∀g a w,cX cx g st a w→wpList cx.P all.toArray (fun e a' w'=> ∃st' g',Q e st'∧cX cx g' st' a' w') os a w
theorem HT.rg {id:Nat}{ops:List Oper}(h:RG cx ops ops st Q):HT cx st (.region id ops.toArray false) Q:=
 fun g a w hs=>wp_region_lit (h g a w hs)
theorem RG.cut (n:Nat){all os:List Oper}(rs:List OH)(st':St){cs:List Prop}(hP:cx.P=P)(hN:cx.N=N)(he:oy P N all (os.take n) rs st=some (st',cs))(hc:bB cs)(h:RG cx all (os.drop n) st' Q):RG cx all os st Q:=by
 subst hP;subst hN;intro g a w hs;have:=EI (os2:=os.drop n) (Q:=fun e a' w'=> ∃st' g',Q e st'∧cX cx g' st' a' w') hs he hc (fun g' a' w' hs'=>h g' a' w' hs');rwa [List.take_append_drop] at this
theorem RG.last {all os:List Oper}(rs:List OH)(st':St){cs:List Prop}(hP:cx.P=P)(hN:cx.N=N)(he:oy P N all os rs st=some (st',cs))(hc:bB cs)(hq:Q .normal st'):RG cx all os st Q:=by
 subst hP;subst hN;exact fun g a w hs=>qc hs he hc fun g' _ _ hs'=>⟨st',g',hq,hs'⟩
theorem Le.rg {all os:List Oper}(h:Le cx st st')(hc:RG cx all os st' Q):RG cx all os st Q:=fun g a w hs=>let ⟨g',hs'⟩:=h g a w hs;hc g' a w hs'
theorem HT.XZ {id:Nat}{ops:List Oper}(n:Nat)(XJ:List OH)(st1:St){Uw:St}{J3:List Prop}(rs2:List OH)(I9:St){Um:List Prop}(hP:cx.P=P)(hN:cx.N=N)(td:oy P N ops (ops.take n) XJ st=some (st1,J3))(Av:bB J3)(hl:Le cx st1 Uw)(qB:oy P N ops (ops.drop n) rs2 Uw=some (I9,Um))(lQ:bB Um)(hq:Q .normal I9):HT cx st (.region id ops.toArray false) Q:=
 HT.rg (RG.cut n XJ st1 hP hN td Av (hl.rg (RG.last rs2 I9 hP hN qB lQ hq)))
end
end Go.Ide
namespace Go.Ide
theorem zq {n s:Nat}(h:n≠0):(n*2^s).log2=n.log2+s:=by
 have h1:=Nat.log2_self_le h;have h2:n<2^(n.log2+1):=Nat.lt_log2_self;have hp:=bY s;have h0:n*2^s≠0:=Nat.mul_ne_zero h (by omega);apply Nat.le_antisymm;have:(n*2^s).log2<n.log2+s+1:=by
  rw [Nat.log2_lt h0,show n.log2+s+1=n.log2+1+s by omega,Nat.pow_add];exact Nat.mul_lt_mul_of_pos_right h2 hp
 omega;rw [Nat.le_log2 h0,Nat.pow_add];exact Nat.mul_le_mul_right _ h1
theorem oc {neg:Bool}{n:Nat}:Ieee.Toward.cut .even neg n 0=n:=by
 unfold Ieee.Toward.cut;simp [Nat.mod_one]
theorem BE {neg:Bool}{n drop s:Nat}(h:n≠0):Ieee.Toward.cut .even neg (n*2^s) (drop+s)=Ieee.Toward.cut .even neg n drop:=by
 unfold Ieee.Toward.cut;simp only [Nat.one_shiftLeft,zq h];rw [show min (drop+s) (n.log2+s+2)=min drop (n.log2+2)+s by omega,Nat.pow_add];have hp:=bY s;have hg:=bY (min drop (n.log2+2));generalize 2^min drop (n.log2+2)=g at*;generalize 2^s=t at*;rw [Nat.mul_div_mul_right _ _ hp,Nat.mul_mod_mul_right]
 congr 2
 have e1:decide (g*t<2*(n%g*t))=decide (g<2*(n%g)):=by
  rw [decide_eq_decide,←Nat.mul_assoc];exact Nat.mul_lt_mul_right hp
 have e2:(g*t==2*(n%g*t))=(g==2*(n%g)):=by
  rw [Bool.eq_iff_iff,beq_iff_eq,beq_iff_eq,←Nat.mul_assoc];exact ⟨fun h=>Nat.eq_of_mul_eq_mul_right hp h,fun h=>congrArg (· *t) h⟩
 rw [e1,e2]
theorem cI {f:Ieee.Format}{neg:Bool}{mag s:Nat}{place:Int}:f.nearest neg (mag*2^s) (place - s)=f.nearest neg mag place:=by
 by_cases h0:mag=0;subst h0;unfold Ieee.Format.nearest;simp;have hp:=bY s;unfold Ieee.Format.nearest;rw [if_neg h0,if_neg (Nat.mul_ne_zero h0 (by omega))];simp only [zq h0];have e:place - (s:Int)+((mag.log2+s:Nat):Int) - (f.fractionBits:Int)=place+(mag.log2:Int) - (f.fractionBits:Int):=by omega
 rw [e];generalize max (place+(mag.log2:Int) - (f.fractionBits:Int)) f.leastPlace=last
 congr 3
 simp only [Nat.shiftLeft_eq];by_cases hd:last≤place;rw [show (last - place).toNat=0 by omega,oc];by_cases hs:(s:Int)≤place - last;rw [show (last - (place - (s:Int))).toNat=0 by omega,oc,Nat.mul_assoc,←Nat.pow_add,show s+(place - (s:Int) - last).toNat=(place - last).toNat by omega];rw [show (place - (s:Int) - last).toNat=0 by omega,Nat.pow_zero,Nat.mul_one];have e2:(last - (place - (s:Int))).toNat=0+(s - (place - last).toNat):=by omega
 have e3:mag*2^s=mag*2^(place - last).toNat*2^(s - (place - last).toNat):=by
  rw [Nat.mul_assoc,←Nat.pow_add,show (place - last).toNat+(s - (place - last).toNat)=s by omega]
 rw [e2,e3,BE (Nat.mul_ne_zero h0 (by have:=bY (place - last).toNat;omega)),oc];rw [show (place - (s:Int) - last).toNat=0 by omega,show (place - last).toNat=0 by omega,Nat.pow_zero,Nat.mul_one,Nat.mul_one,
  show (last - (place - (s:Int))).toNat=(last - place).toNat+s by omega,BE h0]
end Go.Ide
namespace Go.Ide
theorem qk {x:Nat}{s:Bool}{m:Nat}{p:Int}(h:Ieee.single.read x= .number s m p):m<16777216:=by
 unfold Ieee.Format.read at h;simp only [vP,rk,qi,xy] at h;split at h;injection h with _ h2 _;omega;split at h;injection h with _ h2 _;omega;split at h<;>cases h
end Go.Ide
namespace Go.Ide
theorem Jl {x:Nat}(h:x<4294967296):Ieee.single.word (x/2147483648%2==1) (x%2147483648)=x:=by
 unfold Ieee.Format.word;simp only [vP];rcases (show x/2147483648=0∨x/2147483648=1 by omega) with e|e<;>rw [e]
 show x%2147483648=x;omega;show 2147483648+x%2147483648=x;omega
theorem uN {x:Nat}{s:Bool}{m:Nat}{p:Int}(h:x<4294967296)(hr:Ieee.single.read x= .number s m p):Ieee.single.nearest s m p=x:=by
 have hb:=Jl h;by_cases pd:x%2147483648<8388608;rw [xP pd] at hr;injection hr with e1 e2 e3;subst e1 e2 e3;unfold Ieee.Format.nearest;by_cases h0:x%2147483648=0;rw [if_pos h0];rw [h0] at hb;exact hb;rw [if_neg h0];have hl:(x%2147483648).log2≤22:=by
  have:=(Nat.log2_lt (k:=23) h0).2 pd;omega
 have hf:Ieee.single.fractionBits=23:=rfl;simp only [xy,rk,qi,hf];have el:max (-149+((0:Nat):Int)+((x%2147483648).log2:Int) - ((23:Nat):Int)) (-149)= -149:=by omega
 rw [el];have e1:((-149:Int) - -149).toNat=0:=rfl;have e2:(-149+((0:Nat):Int) - -149).toNat=0:=rfl;have e3:((-149:Int) - (-149+((0:Nat):Int))).toNat=0:=rfl;rw [e1,e2,e3,oc,Nat.shiftLeft_zero,Nat.zero_mul,Nat.zero_add,Nat.min_eq_left (by omega)];exact hb;by_cases ui:x%2147483648<2139095040;rw [xQ (by omega) ui] at hr;injection hr with e1 e2 e3;subst e1 e2 e3;generalize hq:x%2147483648=r at*;unfold Ieee.Format.nearest;rw [if_neg (by omega)];have hl:(8388608+r%8388608).log2=23:=by
  have h0:8388608+r%8388608≠0:=by omega
  have a1:=(Nat.log2_lt (k:=24) h0).2 (by omega);have a2:=(Nat.le_log2 (k:=23) h0).2 (by omega);omega
 have hf:Ieee.single.fractionBits=23:=rfl;simp only [xy,rk,qi,hf,hl];have el:max (-149+((r/8388608 - 1:Nat):Int)+((23:Nat):Int) - ((23:Nat):Int)) (-149)= -149+((r/8388608 - 1:Nat):Int):=by omega
 rw [el];have e1:(-149+((r/8388608 - 1:Nat):Int) - -149).toNat=r/8388608 - 1:=by omega
 have e2:(-149+((r/8388608 - 1:Nat):Int) - (-149+((r/8388608 - 1:Nat):Int))).toNat=0:=by omega
 rw [e1,e2,oc,Nat.shiftLeft_zero,show (r/8388608 - 1)*8388608+(8388608+r%8388608)=r by omega,Nat.min_eq_left (by omega)];exact hb;exfalso;unfold Ieee.Format.read at hr;simp only [vP,rk,qi] at hr;rw [if_neg pd,if_neg ui] at hr;split at hr<;>cases hr
end Go.Ide
namespace Go.Ide
def ni (x:Nat):Prop:=x<2147483648
theorem BF {x m:Nat}{s:Bool}{p:Int}(hr:Ieee.single.read x= .number s m p):s=(x/2147483648%2==1):=by
 unfold Ieee.Format.read at hr;simp only [vP,rk,qi,xy] at hr;split at hr;injection hr with h1 _ _;exact h1.symm;split at hr;injection hr with h1 _ _;exact h1.symm;split at hr<;>cases hr
theorem gy {x m:Nat}{s:Bool}{p:Int}(h:ni x)(hr:Ieee.single.read x= .number s m p):s=false:=by
 rw [BF hr];unfold ni at h;rw [Nat.div_eq_of_lt h];rfl
theorem EJ (m:Nat)(p:Int):ni (Ieee.single.nearest false m p):=by
 unfold Ieee.Format.nearest ni;split;simp [Ieee.Format.word];simp only [Ieee.Format.word,qi];have:=Nat.min_le_right ((max (p+(m.log2:Int) - (Ieee.single.fractionBits:Int)) Ieee.single.leastPlace - Ieee.single.leastPlace).toNat*Ieee.single.binade+Ieee.Toward.cut .even false (m<<<(p - max (p+(m.log2:Int) - (Ieee.single.fractionBits:Int)) Ieee.single.leastPlace).toNat) (max (p+(m.log2:Int) - (Ieee.single.fractionBits:Int)) Ieee.single.leastPlace - p).toNat) 2139095040;simp only [Bool.false_eq_true,if_false];omega
theorem EK {x y m n:Nat}{s t:Bool}{i j:Int}(h1:Ieee.single.read x= .number s m i)(h2:Ieee.single.read y= .number t n j):
 aq .add .f32 x y=bz .f32 (Ieee.single.nearest (if Ieee.signed s m (i - min i j).toNat+Ieee.signed t n (j - min i j).toNat=0 then s&&t else Ieee.signed s m (i - min i j).toNat+Ieee.signed t n (j - min i j).toNat<0) (Ieee.signed s m (i - min i j).toNat+Ieee.signed t n (j - min i j).toNat).natAbs (min i j)):=by
 have:floatBits .add .f32 x y=some (Ieee.single.nearest (if Ieee.signed s m (i - min i j).toNat+Ieee.signed t n (j - min i j).toNat=0 then s&&t else Ieee.signed s m (i - min i j).toNat+Ieee.signed t n (j - min i j).toNat<0) (Ieee.signed s m (i - min i j).toNat+Ieee.signed t n (j - min i j).toNat).natAbs (min i j)):=by
  show Ieee.single.add x y=_;unfold Ieee.Format.add;rw [h1,h2];rfl
 unfold aq;rw [this]
theorem rm {x y m n:Nat}{s t:Bool}{i j:Int}(h1:Ieee.single.read x= .number s m i)(h2:Ieee.single.read y= .number t n j):
 aq .sub .f32 x y=bz .f32 (Ieee.single.nearest (if Ieee.signed s m (i - min i j).toNat+Ieee.signed (!t) n (j - min i j).toNat=0 then s&& !t else Ieee.signed s m (i - min i j).toNat+Ieee.signed (!t) n (j - min i j).toNat<0) (Ieee.signed s m (i - min i j).toNat+Ieee.signed (!t) n (j - min i j).toNat).natAbs (min i j)):=by
 have:floatBits .sub .f32 x y=some (Ieee.single.nearest (if Ieee.signed s m (i - min i j).toNat+Ieee.signed (!t) n (j - min i j).toNat=0 then s&& !t else Ieee.signed s m (i - min i j).toNat+Ieee.signed (!t) n (j - min i j).toNat<0) (Ieee.signed s m (i - min i j).toNat+Ieee.signed (!t) n (j - min i j).toNat).natAbs (min i j)):=by
  show Ieee.single.sub x y=_;unfold Ieee.Format.sub;rw [h1,h2];rfl
 unfold aq;rw [this]
theorem Lf (x:Nat):(Op.negFloat .f32 x)%2147483648=x%2147483648:=by
 have e:Op.negFloat .f32 x=x^^^2^31:=rfl;rw [e];show (x^^^2^31)%2^31=x%2^31;rw [Nat.xor_mod_two_pow,Nat.mod_self,Nat.xor_zero]
theorem Q0 {x:Nat}(h:x<4294967296):Op.negFloat .f32 x<4294967296:=by
 have e:Op.negFloat .f32 x=x^^^2^31:=rfl;rw [e];exact Nat.xor_lt_two_pow (n:=32) h (by decide)
theorem EL {x:Nat}{s:Bool}{p:Int}(hr:Ieee.single.read x= .number s 0 p):x%2147483648=0∧p= -149:=by
 unfold Ieee.Format.read at hr;simp only [vP,rk,qi,xy] at hr;split at hr;injection hr with _ h2 h3;exact ⟨h2,h3.symm⟩;split at hr;injection hr with _ h2 _;omega;split at hr<;>cases hr
def xz (d:Nat):Nat:=bif pO .f32 d 0 then aq .sub .f32 0 d else d
def rn (d:Nat):Nat:=bif aW .f32 d 0 then tE .f32 d else d
theorem Jm {d a:Nat}(hd:bd d a)(ha:2≤a)(Ig:a≤254)(hl:d<4294967296):(xz d=rn d∧ni (xz d)∧bd (xz d) a)∨(xz d=0∧rn d%2147483648=0):=by
 obtain ⟨s,m,i,e,_⟩:=sL hd ha Ig;have hp: ∀u,0<2^u:=fun u=>Nat.pos_of_ne_zero (by simp);unfold xz rn;rw [xR e k9,Ih e k9];have hz: ∀u,Ieee.signed false 0 u=0:=fun u=>by rw [bM];simp
 simp only [hz];by_cases hm:m=0;subst hm;obtain ⟨h0,h1⟩:=EL e;have hi:(i:Int)=0:=by omega
 right;have oz: ∀u,Ieee.signed s 0 u=0:=fun u=>by cases s<;>simp [bM,dB]
 have DO: ∀u,Ieee.signed (!s) 0 u=0:=fun u=>by cases s<;>simp [bM,dB]
 rw [oz,rm k9 e];simp only [hz,DO];refine ⟨?_,by simpa using h0⟩;simp [Ieee.Format.nearest,Ieee.Format.word,bz];left;cases s with
 |false=>
  have h1: ¬(Ieee.signed false m (-149+(i:Int) - min (-149+(i:Int)) (-149)).toNat≤0):=by
   rw [bM];have:=Nat.mul_pos (Nat.pos_of_ne_zero hm) (hp (-149+(i:Int) - min (-149+(i:Int)) (-149)).toNat);omega
  have h2: ¬(Ieee.signed false m (-149+(i:Int) - min (-149+(i:Int)) (-149)).toNat<0):=by omega
  rw [decide_eq_false h1,decide_eq_false h2];refine ⟨rfl,?_,hd⟩;have:=BF e;show d<2147483648;rcases (show d/2147483648=0∨d/2147483648=1 by omega) with h|h
  omega;rw [h] at this;cases this
 |true=>
  have h2:Ieee.signed true m (-149+(i:Int) - min (-149+(i:Int)) (-149)).toNat<0:=by
   rw [dB];have:=Nat.mul_pos (Nat.pos_of_ne_zero hm) (hp (-149+(i:Int) - min (-149+(i:Int)) (-149)).toNat);omega
  have h1:Ieee.signed true m (-149+(i:Int) - min (-149+(i:Int)) (-149)).toNat≤0:=by omega
  rw [decide_eq_true h1,decide_eq_true h2];simp only [cond_true];have hn:Ieee.single.read (Op.negFloat .f32 d)= .number false m (-149+(i:Int)):=by rw [EH,e];rfl
  have Ux:=uN (Q0 hl) hn;have tL:aq .sub .f32 0 d=tE .f32 d:=by
   rw [rm k9 e];have q8:min (-149:Int) (-149+(i:Int))= -149+(i:Int) - ((i:Nat):Int):=by omega
   rw [q8];simp only [hz,Bool.not_true,bM,Int.zero_add,Bool.false_and];have e3:(-149+(i:Int) - (-149+(i:Int) - ((i:Nat):Int))).toNat=i:=by omega
   rw [e3];have I0:=Nat.mul_pos (Nat.pos_of_ne_zero hm) (hp i);rw [if_neg (by omega),decide_eq_false (by omega),Int.natAbs_natCast,cI,Ux];rfl
  rw [tL];have Td:bd (Op.negFloat .f32 d) a:=by unfold bd;rw [Lf];exact hd
  have hf:tE .f32 d=Op.negFloat .f32 d:=lF Td (by omega);rw [hf];refine ⟨rfl,?_,Td⟩;rw [←Ux];exact EJ _ _
end Go.Ide
namespace Go.Ide
theorem N9 {s:Bool}{r:Nat}(h:r≤9218868437227405312):(∀a b,Ieee.double.read (Ieee.double.word s r)≠ .nan a b)∧bz .f64 (Ieee.double.word s r)=Ieee.double.word s r:=by
 have e1:Ieee.double.signWeight=9223372036854775808:=by decide
 have e2:Ieee.double.binade=4503599627370496:=by decide
 have e3:Ieee.double.infRung=9218868437227405312:=by decide
 have yz:Ieee.double.word s r%9223372036854775808=r:=by
  unfold Ieee.Format.word;cases s with
  |true=>simp only [if_true,e1];omega
  |false=>simp only [Bool.false_eq_true,if_false];omega
 refine ⟨fun a b=> ?_,by rw [Cn,yz,if_neg (by omega)]⟩;unfold Ieee.Format.read;simp only [e1,e2,e3,yz];split;intro h;cases h;split;intro h;cases h;rw [if_pos (by omega)];intro h;cases h
theorem mY (neg:Bool)(m:Nat)(p:Int): ∃r,r≤9218868437227405312∧Ieee.double.nearest neg m p=Ieee.double.word neg r:=by
 have e3:Ieee.double.infRung=9218868437227405312:=by decide
 unfold Ieee.Format.nearest;split;exact ⟨0,by omega,rfl⟩;exact ⟨_,by rw [e3];exact Nat.min_le_right _ _,rfl⟩
def DS (x K:Nat):Prop:=x%9223372036854775808≤K*4503599627370496
theorem zr:Ieee.double.signWeight=9223372036854775808:=by decide
theorem tj:Ieee.double.binade=4503599627370496:=by decide
theorem rq:Ieee.double.infRung=9218868437227405312:=by decide
theorem uO:Ieee.double.leastPlace= -1074:=by decide
theorem EM {x:Nat}(h:x%9223372036854775808<4503599627370496):Ieee.double.read x= .number (x/9223372036854775808%2==1) (x%9223372036854775808) (-1074+((0:Nat):Int)):=by
 unfold Ieee.Format.read;simp only [zr,tj,rq,uO];rw [if_pos h];rfl
theorem EN {x:Nat}(h:4503599627370496≤x%9223372036854775808)(h2:x%9223372036854775808<9218868437227405312):Ieee.double.read x= .number (x/9223372036854775808%2==1) (4503599627370496+x%9223372036854775808%4503599627370496) (-1074+((x%9223372036854775808/4503599627370496 - 1:Nat):Int)):=by
 unfold Ieee.Format.read;simp only [zr,tj,rq,uO];rw [if_neg (by omega),if_pos h2]
theorem w5 {s:Bool}{r:Nat}(h:r≤9218868437227405312):Ieee.double.word s r%9223372036854775808=r:=by
 unfold Ieee.Format.word;cases s with
 |true=>simp only [if_true,zr];omega
 |false=>simp only [Bool.false_eq_true,if_false];omega
theorem vQ {x K:Nat}(h:DS x K)(hK:K≤2047):bz .f64 x=x:=by
 unfold DS at h;rw [Cn,if_neg (by omega)]
theorem ru (neg:Bool)(mag:Nat)(p:Int):DS (Ieee.double.nearest neg mag p) 2047:=by
 obtain ⟨r,hr,e⟩:=mY neg mag p;unfold DS;rw [e,w5 hr];omega
theorem EO {x:Nat}{s:Bool}{m:Nat}{p:Int}(h:Ieee.double.read x= .number s m p):m<9007199254740992:=by
 unfold Ieee.Format.read at h;simp only [zr,tj,rq,uO] at h;split at h;injection h with _ h2 _;omega;split at h;injection h with _ h2 _;omega;split at h<;>cases h
theorem GA {x:Nat}(h:x<18446744073709551616):Ieee.double.word (x/9223372036854775808%2==1) (x%9223372036854775808)=x:=by
 unfold Ieee.Format.word;simp only [zr];rcases (show x/9223372036854775808=0∨x/9223372036854775808=1 by omega) with e|e<;>rw [e]
 show x%9223372036854775808=x;omega;show 9223372036854775808+x%9223372036854775808=x;omega
theorem A4 {x:Nat}{s:Bool}{m:Nat}{p:Int}(h:x<18446744073709551616)(hr:Ieee.double.read x= .number s m p):Ieee.double.nearest s m p=x:=by
 have hb:=GA h;by_cases pd:x%9223372036854775808<4503599627370496;rw [EM pd] at hr;injection hr with e1 e2 e3;subst e1 e2 e3;unfold Ieee.Format.nearest;by_cases h0:x%9223372036854775808=0;rw [if_pos h0];rw [h0] at hb;exact hb;rw [if_neg h0];have hl:(x%9223372036854775808).log2≤51:=by
  have:=(Nat.log2_lt (k:=52) h0).2 pd;omega
 have hf:Ieee.double.fractionBits=52:=rfl;simp only [uO,tj,rq,hf];have el:max (-1074+((0:Nat):Int)+((x%9223372036854775808).log2:Int) - ((52:Nat):Int)) (-1074)= -1074:=by omega
 rw [el];have e1:((-1074:Int) - -1074).toNat=0:=rfl;have e2:(-1074+((0:Nat):Int) - -1074).toNat=0:=rfl;have e3:((-1074:Int) - (-1074+((0:Nat):Int))).toNat=0:=rfl;rw [e1,e2,e3,oc,Nat.shiftLeft_zero,Nat.zero_mul,Nat.zero_add,Nat.min_eq_left (by omega)];exact hb;by_cases ui:x%9223372036854775808<9218868437227405312;rw [EN (by omega) ui] at hr;injection hr with e1 e2 e3;subst e1 e2 e3;generalize hq:x%9223372036854775808=r at*;unfold Ieee.Format.nearest;rw [if_neg (by omega)];have hl:(4503599627370496+r%4503599627370496).log2=52:=by
  have h0:4503599627370496+r%4503599627370496≠0:=by omega
  have a1:=(Nat.log2_lt (k:=53) h0).2 (by omega);have a2:=(Nat.le_log2 (k:=52) h0).2 (by omega);omega
 have hf:Ieee.double.fractionBits=52:=rfl;simp only [uO,tj,rq,hf,hl];have el:max (-1074+((r/4503599627370496 - 1:Nat):Int)+((52:Nat):Int) - ((52:Nat):Int)) (-1074)= -1074+((r/4503599627370496 - 1:Nat):Int):=by omega
 rw [el];have e1:(-1074+((r/4503599627370496 - 1:Nat):Int) - -1074).toNat=r/4503599627370496 - 1:=by omega
 have e2:(-1074+((r/4503599627370496 - 1:Nat):Int) - (-1074+((r/4503599627370496 - 1:Nat):Int))).toNat=0:=by omega
 rw [e1,e2,oc,Nat.shiftLeft_zero,show (r/4503599627370496 - 1)*4503599627370496+(4503599627370496+r%4503599627370496)=r by omega,Nat.min_eq_left (by omega)];exact hb;exfalso;unfold Ieee.Format.read at hr;simp only [zr,tj,rq] at hr;rw [if_neg pd,if_neg ui] at hr;split at hr<;>cases hr
theorem Jn {x y m n:Nat}{s t:Bool}{i j:Int}(h1:Ieee.double.read x= .number s m i)(h2:Ieee.double.read y= .number t n j):
 aq .add .f64 x y=bz .f64 (Ieee.double.nearest (if Ieee.signed s m (i - min i j).toNat+Ieee.signed t n (j - min i j).toNat=0 then s&&t else Ieee.signed s m (i - min i j).toNat+Ieee.signed t n (j - min i j).toNat<0) (Ieee.signed s m (i - min i j).toNat+Ieee.signed t n (j - min i j).toNat).natAbs (min i j)):=by
 have:floatBits .add .f64 x y=some (Ieee.double.nearest (if Ieee.signed s m (i - min i j).toNat+Ieee.signed t n (j - min i j).toNat=0 then s&&t else Ieee.signed s m (i - min i j).toNat+Ieee.signed t n (j - min i j).toNat<0) (Ieee.signed s m (i - min i j).toNat+Ieee.signed t n (j - min i j).toNat).natAbs (min i j)):=by
  show Ieee.double.add x y=_;unfold Ieee.Format.add;rw [h1,h2];rfl
 unfold aq;rw [this]
theorem Jo {x y m n:Nat}{s t:Bool}{i j:Int}(h1:Ieee.double.read x= .number s m i)(h2:Ieee.double.read y= .number t n j):
 aq .sub .f64 x y=bz .f64 (Ieee.double.nearest (if Ieee.signed s m (i - min i j).toNat+Ieee.signed (!t) n (j - min i j).toNat=0 then s&& !t else Ieee.signed s m (i - min i j).toNat+Ieee.signed (!t) n (j - min i j).toNat<0) (Ieee.signed s m (i - min i j).toNat+Ieee.signed (!t) n (j - min i j).toNat).natAbs (min i j)):=by
 have:floatBits .sub .f64 x y=some (Ieee.double.nearest (if Ieee.signed s m (i - min i j).toNat+Ieee.signed (!t) n (j - min i j).toNat=0 then s&& !t else Ieee.signed s m (i - min i j).toNat+Ieee.signed (!t) n (j - min i j).toNat<0) (Ieee.signed s m (i - min i j).toNat+Ieee.signed (!t) n (j - min i j).toNat).natAbs (min i j)):=by
  show Ieee.double.sub x y=_;unfold Ieee.Format.sub;rw [h1,h2];rfl
 unfold aq;rw [this]
end Go.Ide
namespace Go.Ide
theorem sM {neg:Bool}{mag f:Nat}{p last:Int}(h:p+(mag.log2:Int) - (f:Int)≤last):Ieee.Toward.cut .even neg (mag<<<(p - last).toNat) (last - p).toNat≤2^(f+1):=by
 apply CP;rw [Nat.shiftLeft_eq];have ui:mag<2^(mag.log2+1):=Nat.lt_log2_self;by_cases hle:last≤p;rw [show (last - p).toNat=0 by omega,Nat.pow_zero,Nat.mul_one];refine Nat.le_trans (Nat.mul_le_mul_right _ (Nat.le_of_lt ui)) ?_;rw [←Nat.pow_add];exact Nat.pow_le_pow_right (by omega) (by omega);rw [show (p - last).toNat=0 by omega,Nat.pow_zero,Nat.mul_one,←Nat.pow_add];exact Nat.le_trans (Nat.le_of_lt ui) (Nat.pow_le_pow_right (by omega) (by omega))
theorem sN {neg:Bool}{mag f:Nat}{p last:Int}(h0:mag≠0)(h:last=p+(mag.log2:Int) - (f:Int)):2^f≤Ieee.Toward.cut .even neg (mag<<<(p - last).toNat) (last - p).toNat:=by
 apply QZ;rw [Nat.shiftLeft_eq];have pd:2^mag.log2≤mag:=Nat.log2_self_le h0;by_cases hle:last≤p;rw [show (last - p).toNat=0 by omega,Nat.pow_zero,Nat.mul_one];refine Nat.le_trans ?_ (Nat.mul_le_mul_right _ pd);rw [←Nat.pow_add];exact Nat.pow_le_pow_right (by omega) (by omega);rw [show (p - last).toNat=0 by omega,Nat.pow_zero,Nat.mul_one,←Nat.pow_add];exact Nat.le_trans (Nat.pow_le_pow_right (by omega) (by omega)) pd
theorem Jp {m n a b:Nat}:m*2^(a - min a b)≤n*2^(b - min a b)↔m*2^a≤n*2^b:=by
 have e1:m*2^a=m*2^(a - min a b)*2^min a b:=by rw [Nat.mul_assoc,←Nat.pow_add,show a - min a b+min a b=a by omega]
 have e2:n*2^b=n*2^(b - min a b)*2^min a b:=by rw [Nat.mul_assoc,←Nat.pow_add,show b - min a b+min a b=b by omega]
 rw [e1,e2];exact ⟨fun h=>Nat.mul_le_mul_right _ h,fun h=>Nat.le_of_mul_le_mul_right h (bY _)⟩
end Go.Ide
namespace Go.Ide
theorem ry (neg:Bool)(n d:Nat):Ieee.Toward.cut .even neg n d=n/2^d+(decide (2^d<2*(n%2^d))||(2^d==2*(n%2^d)&&n/2^d%2==1)).toNat:=by
 unfold Ieee.Toward.cut;simp only [Nat.one_shiftLeft];by_cases h:d≤n.log2+2;rw [Nat.min_eq_left h];rw [Nat.min_eq_right (by omega)];have cp:n<2^(n.log2+1):=Nat.lt_log2_self;have e2:2^(n.log2+2)=2*2^(n.log2+1):=by rw [Nat.pow_succ 2 (n.log2+1)];omega
 have e3:2^(n.log2+2)≤2^d:=Nat.pow_le_pow_right (by omega) (by omega);rw [Nat.div_eq_of_lt (by omega),Nat.mod_eq_of_lt (by omega),Nat.div_eq_of_lt (a:=n) (b:=2^d) (by omega),Nat.mod_eq_of_lt (a:=n) (b:=2^d) (by omega)];have h1:decide (2^(n.log2+2)<2*n)=decide (2^d<2*n):=by rw [decide_eq_false (by omega),decide_eq_false (by omega)]
 rw [h1];simp
theorem EP {neg:Bool}{n m d:Nat}(h:n≤m):Ieee.Toward.cut .even neg n d≤Ieee.Toward.cut .even neg m d:=by
 rw [ry,ry];have hp:=bY d;generalize 2^d=g at*;have hq:n/g≤m/g:=Nat.div_le_div_right h;have hb: ∀b:Bool,b.toNat≤1:=by decide
 by_cases he:n/g=m/g;have h1:=Nat.div_add_mod n g;have h2:=Nat.div_add_mod m g;rw [←he] at h2;have hr:n%g≤m%g:=by omega
 rw [←he];refine Nat.add_le_add_left ?_ _;by_cases c1:g<2*(m%g);rw [decide_eq_true c1];exact hb _;rw [decide_eq_false c1,decide_eq_false (show¬g<2*(n%g) by omega)];simp only [Bool.false_or];by_cases c2:g=2*(n%g);have:m%g=n%g:=by omega
 rw [this];exact Nat.le_refl _;have:(g==2*(n%g))=false:=beq_eq_false_iff_ne.2 c2;rw [this];exact Nat.zero_le _;have:=hb (decide (g<2*(n%g))||(g==2*(n%g)&&n/g%2==1));omega
def RN (u:Nat)(p:Int):Nat:=Ieee.single.nearest false u p
theorem CT (p:Int):RN 0 p=0:=by
 unfold RN Ieee.Format.nearest;rw [if_pos rfl];rfl
theorem mM (u s:Nat)(p:Int):RN (u*2^s) (p - s)=RN u p:=cI
theorem zt (u:Nat)(p:Int):RN u p≤2139095040:=by
 obtain ⟨r,hr,e⟩:=oa false u p;unfold RN;rw [e];exact hr
theorem sO {u v:Nat}{p:Int}(h:u≤v):RN u p≤RN v p:=by
 by_cases h0:u=0;subst h0;rw [CT];exact Nat.zero_le _;have h1:v≠0:=by omega
 unfold RN Ieee.Format.nearest;rw [if_neg h0,if_neg h1];have hf:Ieee.single.fractionBits=23:=rfl;simp only [xy,rk,qi,hf];have X0:u.log2≤v.log2:=by
  have a:=Nat.log2_self_le h0;exact (Nat.le_log2 h1).2 (by omega)
 have hw: ∀r,Ieee.single.word false r=r:=fun r=>rfl;rw [hw,hw];refine Nat.le_min.2 ⟨?_,Nat.min_le_right _ _⟩;refine Nat.le_trans (Nat.min_le_left _ _) ?_;by_cases he:max (p+(u.log2:Int) - ((23:Nat):Int)) (-149)=max (p+(v.log2:Int) - ((23:Nat):Int)) (-149);rw [he];refine Nat.add_le_add_left (EP ?_) _;rw [Nat.shiftLeft_eq,Nat.shiftLeft_eq];exact Nat.mul_le_mul_right _ h;have hk:=sM (neg:=false) (mag:=u) (f:=23) (p:=p) (last:=max (p+(u.log2:Int) - ((23:Nat):Int)) (-149)) (by omega);have fi:=sN (neg:=false) (mag:=v) (f:=23) (p:=p) (last:=max (p+(v.log2:Int) - ((23:Nat):Int)) (-149)) h1 (by omega);have GB:(2:Nat)^(23+1)=16777216:=by decide
 have GC:(2:Nat)^23=8388608:=by decide
 rw [GB] at hk;rw [GC] at fi;have hl:(max (p+(u.log2:Int) - ((23:Nat):Int)) (-149) - -149).toNat+1≤(max (p+(v.log2:Int) - ((23:Nat):Int)) (-149) - -149).toNat:=by omega
 have:=Nat.mul_le_mul_right 8388608 hl;omega
def bQ (x:Nat):Nat:=if x%2147483648<8388608 then x%2147483648 else (8388608+x%2147483648%8388608)*2^(x%2147483648/8388608 - 1)
def nn (x:Nat):Prop:=x%4294967296≤2147483648
theorem ql {x K:Nat}(h:bd x K)(h2:2≤K)(h3:K≤254): ∃m i,Ieee.single.read x= .number (x/2147483648%2==1) m (-149+((i:Nat):Int))∧bQ x=m*2^i:=by
 unfold bd at h;unfold bQ;by_cases pd:x%2147483648<8388608;exact ⟨_,0,xP pd,by rw [if_pos pd,Nat.pow_zero,Nat.mul_one]⟩;exact ⟨_,_,xQ (by omega) (by omega),by rw [if_neg pd]⟩
theorem qm {x y:Nat}(hx:x<2147483648)(hy:y<2147483648)(h:x≤y):bQ x≤bQ y:=by
 unfold bQ;rw [Nat.mod_eq_of_lt hx,Nat.mod_eq_of_lt hy];by_cases h1:x<8388608;rw [if_pos h1];by_cases h2:y<8388608;rw [if_pos h2];exact h;rw [if_neg h2];have:=Nat.mul_le_mul (show 8388608≤8388608+y%8388608 by omega) (show 1≤2^(y/8388608 - 1) from bY _);omega;rw [if_neg h1,if_neg (by omega)];by_cases hq:x/8388608=y/8388608;rw [hq];exact Nat.mul_le_mul_right _ (by omega);have cp:x/8388608<y/8388608:=by omega
 have e1:(8388608+x%8388608)*2^(x/8388608 - 1)≤16777216*2^(x/8388608 - 1):=Nat.mul_le_mul_right _ (by omega);have e2:16777216*2^(x/8388608 - 1)=8388608*2^(x/8388608):=by
  obtain ⟨q,yB⟩: ∃q,x/8388608=q+1:=⟨x/8388608 - 1,by omega⟩;rw [yB,Nat.add_sub_cancel,Nat.pow_succ];omega
 have e3:8388608*2^(x/8388608)≤8388608*2^(y/8388608 - 1):=Nat.mul_le_mul_left _ (Nat.pow_le_pow_right (by omega) (by omega));have e4:8388608*2^(y/8388608 - 1)≤(8388608+y%8388608)*2^(y/8388608 - 1):=Nat.mul_le_mul_right _ (by omega);omega
theorem Lg {x K:Nat}(h:bd x K)(h2:2≤K)(h3:K≤254):RN (bQ x) (-149)=x%2147483648:=by
 have hb:bd (x%2147483648) K:=by unfold bd at*;rwa [Nat.mod_mod]
 obtain ⟨m,i,e,hv⟩:=ql hb h2 h3;have cp:x%2147483648<2147483648:=Nat.mod_lt _ (by omega);rw [Nat.div_eq_of_lt cp] at e;have hn:=uN (x:=x%2147483648) (by omega) e;have hV:bQ (x%2147483648)=bQ x:=by unfold bQ;rw [Nat.mod_mod]
 rw [←hV,hv];have:=mM m i (-149+(i:Int));rw [show -149+(i:Int) - (i:Int)= -149 by omega] at this;rw [this];exact hn
theorem uP (u:Nat)(p:Int):bz .f32 (RN u p)=RN u p:=lF (gG _ _ _) (Nat.le_refl _)
theorem Lh {x y:Nat}(h:x%2147483648=y%2147483648):bQ x=bQ y:=by unfold bQ;rw [h]
theorem Li {x y a:Nat}(hx:bd x a)(hy:bd y a)(ha:2≤a)(Ig:a≤254)(px:ni x)(ny:nn y):aq .add .f32 x y=RN (bQ x+bQ y) (-149):=by
 obtain ⟨m,i,e1,v1⟩:=ql hx ha Ig;obtain ⟨n,j,e2,v2⟩:=ql hy ha Ig;have s1:(x/2147483648%2==1)=false:=by
  unfold ni at px;rw [Nat.div_eq_of_lt px];rfl
 rw [s1] at e1;have hn:(y/2147483648%2==1)=true→n=0:=fun hs=>by
  unfold nn at ny;have Te:y%2147483648=0:=by
   have:=beq_iff_eq.1 hs;omega
  rw [xP (by omega)] at e2;injection e2 with _ e2 _;omega
 have hsg: ∀u,Ieee.signed (y/2147483648%2==1) n u=((n*2^u:Nat):Int):=fun u=>by
  cases hs:(y/2147483648%2==1) with
  |false=>exact bM _ _
  |true=>rw [hn hs,dB];simp
 rw [EK e1 e2];simp only [hsg,bM,Bool.false_and];have q8:min (-149+(i:Int)) (-149+(j:Int))= -149+((min i j:Nat):Int):=by omega
 rw [q8];have e3:(-149+(i:Int) - (-149+((min i j:Nat):Int))).toNat=i - min i j:=by omega
 have e4:(-149+(j:Int) - (-149+((min i j:Nat):Int))).toNat=j - min i j:=by omega
 rw [e3,e4];generalize hA:m*2^(i - min i j)=A;generalize hB:n*2^(j - min i j)=B;have zp:decide (((A:Nat):Int)+((B:Nat):Int)<0)=false:=decide_eq_false (by omega);rw [zp,ite_self,show (((A:Nat):Int)+((B:Nat):Int)).natAbs=A+B by omega];have hs:bQ x+bQ y=(A+B)*2^min i j:=by
  rw [v1,v2,←hA,←hB,Nat.add_mul,Nat.mul_assoc,Nat.mul_assoc,←Nat.pow_add,←Nat.pow_add,show i - min i j+min i j=i by omega,show j - min i j+min i j=j by omega]
 have:=mM (A+B) (min i j) (-149+((min i j:Nat):Int));rw [show -149+((min i j:Nat):Int) - ((min i j:Nat):Int)= -149 by omega,←hs] at this;rw [this];exact uP _ _
theorem Q1:RN 1 0=1065353216:=by decide
theorem Jq {x y a:Nat}(hx:bd x a)(hy:bd y a)(ha:2≤a)(Ig:a≤254)(px:ni x)(py:ni y)(h:x≤y)(h0:y≠0):aq .quo .f32 x y≤1065353216:=by
 obtain ⟨m,i,e1,v1⟩:=ql hx ha Ig;obtain ⟨n,j,e2,v2⟩:=ql hy ha Ig;have hV:=qm px py h;rw [v1,v2] at hV;have s1:(x/2147483648%2==1)=false:=by unfold ni at px;rw [Nat.div_eq_of_lt px];rfl
 have s2:(y/2147483648%2==1)=false:=by unfold ni at py;rw [Nat.div_eq_of_lt py];rfl
 rw [s1] at e1;rw [s2] at e2;have hn:n≠0:=by
  rintro rfl;have:=(EL e2).1;unfold ni at py;omega
 have hf:Ieee.single.fractionBits=23:=rfl;have e3:floatBits .quo .f32 x y=some (RN (2*(m*2^(23+2+n.log2 - m.log2)/n)+(m*2^(23+2+n.log2 - m.log2)%n != 0).toNat) (-149+(i:Int) - (-149+(j:Int)) - ((23+2+n.log2 - m.log2:Nat):Int) - 1)):=by
  show Ieee.single.div x y=_;unfold Ieee.Format.div;rw [e1,e2];unfold Ieee.Datum.quotient;simp only [hf,Nat.shiftLeft_eq];rw [if_neg hn];rfl
 unfold aq;rw [e3];simp only;rw [uP];by_cases hm:m=0;subst hm;have:2*(0*2^(23+2+n.log2 - Nat.log2 0)/n)+(0*2^(23+2+n.log2 - Nat.log2 0)%n != 0).toNat=0:=by simp
 rw [this,CT];omega;have TK:=Nat.log2_self_le hm;have Xp:n<2^(n.log2+1):=Nat.lt_log2_self;have Lj:m.log2≤23:=by
  have:=qk e1;have:=(Nat.log2_lt (k:=24) hm).2 (by omega);omega
 have Bi:i+m.log2≤j+n.log2:=by
  have:2^(m.log2+i)<2^(n.log2+1+j):=by
   rw [Nat.pow_add,Nat.pow_add];exact Nat.lt_of_le_of_lt (Nat.le_trans (Nat.mul_le_mul_right _ TK) hV) (Nat.mul_lt_mul_of_pos_right Xp (bY _))
  have:=(Nat.pow_lt_pow_iff_right (by omega)).1 this;omega
 generalize aa3:23+2+n.log2 - m.log2=more;obtain ⟨ee,WY⟩: ∃ee:Nat,j+more=i+ee:=⟨j+more - i,by omega⟩;have hdiv:m*2^more≤n*2^ee:=by
  have a1:m*2^i*2^more≤n*2^j*2^more:=Nat.mul_le_mul_right _ hV;rw [Nat.mul_assoc,Nat.mul_assoc,←Nat.pow_add,←Nat.pow_add,WY,Nat.pow_add,Nat.pow_add,Nat.mul_comm (2^i) (2^more),Nat.mul_comm (2^i) (2^ee),←Nat.mul_assoc,←Nat.mul_assoc] at a1;exact Nat.le_of_mul_le_mul_right a1 (bY _)
 have Ua: ∀b:Bool,b.toNat≤1:=by decide
 have X1:2*(m*2^more/n)+(m*2^more%n != 0).toNat≤2^(ee+1):=by
  rw [Nat.pow_succ];have hq:m*2^more/n≤2^ee:=Nat.div_le_of_le_mul hdiv;by_cases heq:m*2^more/n=2^ee;have XY:=Nat.div_add_mod (m*2^more) n;rw [heq] at XY⊢;have:m*2^more%n=0:=by omega
  rw [this];simp;omega;have:=Ua (m*2^more%n != 0);omega
 refine Nat.le_trans (sO X1) ?_;have:=mM 1 (ee+1) 0;rw [Nat.one_mul,show (0:Int) - ((ee+1:Nat):Int)= -149+(i:Int) - (-149+(j:Int)) - (more:Int) - 1 by omega,Q1] at this;omega
end Go.Ide
namespace Go.Ide
open Go.IntWalk
end Go.Ide
namespace Go.Ide
open Go.IntWalk
section
variable {α:Type}
end
end Go.Ide
namespace Go.Ide
def X2 (s:sI)(m0:Mem)(c c':aA):Option aA:=
 match c' with
 | .aw t _=>(match eE m0 t c with
  |some x=>some (.aw t x)
  |none=>none)
 | .ptr k' ei=>(match c with
  | .ptr k off=>bif uK k k' s.ch&&Nat.beq off ei then some (.ptr k' ei) else none
  |_=>none)
 | .dI k' _ H8 ei=>(match c with
  | .dI k i sz off=>bif uK k k' s.ch&&(Nat.beq sz H8&&Nat.beq off ei) then some (.dI k' i H8 ei) else none
  |_=>none)
 | .ip t' _ ei=>(match c with
  | .ip t x off=>bif Nat.beq off ei then (if h:t'=t then some (.ip t' (cJ h.symm x) ei) else none) else none
  | .ptr k off=>(match lk k m0 with
   |some (.box cs)=>bif Nat.beq off ei then (match impl m0 t' cs with
    |some (x,[])=>some (.ip t' x ei)
    |_=>none) else none
   |_=>none)
  |_=>none)
 | .all k'=>(match c with
  | .all k=>bif uK k k' s.ch&& !(cP k s.tr) then some (.all k') else none
  | .al=>bif cP k' s.vs then some (.all k') else none
  |_=>none)
 | .ref k' _ _=>(match c with
  | .ref k off len=>bif uK k k' s.ch&& !(cP k s.tr) then some (.ref k' off len) else none
  |_=>none)
 | .al=>(match c with
  | .al=>some .al
  |_=>none)
 | .fn f'=>(match c with
  | .fn f=>if f'=f then some (.fn f') else none
  |_=>none)
 | .nr f' t' _=>(match c with
  | .nr f t x=>if f'=f then (if h:t'=t then some (.nr f' t' (cJ h.symm x)) else none) else none
  |_=>none)
 | .gv=>bif c.ok then some .gv else none
 |_=>none
theorem tV {t t':Ty}(h:t'=t)(x:t.D):cJ h (cJ h.symm x)=x:=by subst h;rfl
theorem Lk {s:sI}{m0 m':Mem}{c c':aA}(h:X2 s m0 c c'=some c'): ∃ps,FJ s m0 m' c c'=some ps∧bB ps:=by
 cases c' with
 |aw t x'=>
  have h:(match eE m0 t c with
   |some x=>some (aA.aw t x)
   |none=>none)=some (.aw t x'):=h
  show∃ps,(match eE m0 t c with
   |some x=>some [x'=x]
   |none=>none)=some ps∧bB ps
  cases hx:eE m0 t c with
  |none=>rw [hx] at h;cases h
  |some x=>
   rw [hx] at h;injection h with h;injection h with h1 h2;exact ⟨_,rfl,h2.symm,trivial⟩
 |ptr k' ei=>
  cases c with
  |ptr k off=>
   have h:(bif uK k k' s.ch&&Nat.beq off ei then some (aA.ptr k' ei) else none)=some (.ptr k' ei):=h;show∃ps,(bif uK k k' s.ch&&Nat.beq off ei then some [] else none)=some ps∧bB ps;cases hb:(uK k k' s.ch&&Nat.beq off ei) with
   |true=>exact ⟨_,rfl,trivial⟩
   |false=>rw [hb] at h;cases h
  |_=>cases h
 |dI k' i' H8 ei=>
  cases c with
  |dI k i sz off=>
   have h:(bif uK k k' s.ch&&(Nat.beq sz H8&&Nat.beq off ei) then some (aA.dI k' i H8 ei) else none)=some (.dI k' i' H8 ei):=h;show∃ps,(bif uK k k' s.ch&&(Nat.beq sz H8&&Nat.beq off ei) then some [i'=i] else none)=some ps∧bB ps;cases hb:(uK k k' s.ch&&(Nat.beq sz H8&&Nat.beq off ei)) with
   |true=>
    rw [hb] at h;injection h with h;injection h with _ h2;exact ⟨_,rfl,h2.symm,trivial⟩
   |false=>rw [hb] at h;cases h
  |_=>cases h
 |ip t' x' ei=>
  cases c with
  |ip t x off=>
   have h:(bif Nat.beq off ei then (if h:t'=t then some (aA.ip t' (cJ h.symm x) ei) else none) else none)=some (.ip t' x' ei):=h;show∃ps,(bif Nat.beq off ei then (if h:t'=t then some [cJ h x'=x] else none) else none)=some ps∧bB ps;cases hb:Nat.beq off ei with
   |true=>
    rw [hb] at h;simp only [cond_true] at h⊢;split at h;rename_i e;rw [dif_pos e];injection h with h;injection h with _ h2;exact ⟨_,rfl,by rw [←h2];exact tV e _,trivial⟩;cases h
   |false=>rw [hb] at h;cases h
  |ptr k off=>
   have h:(match lk k m0 with
    |some (.box cs)=>bif Nat.beq off ei then (match impl m0 t' cs with
     |some (x,[])=>some (aA.ip t' x ei)
     |_=>none) else none
    |_=>none)=some (.ip t' x' ei):=h
   show∃ps,(match lk k m0 with
    |some (.box cs)=>bif Nat.beq off ei then (match impl m0 t' cs with
     |some (x,[])=>some [x'=x]
     |_=>none) else none
    |_=>none)=some ps∧bB ps
   cases hk:lk k m0 with
   |none=>rw [hk] at h;cases h
   |some ch=>
    rw [hk] at h;cases ch with
    |box cs=>
     simp only at h⊢;cases hb:Nat.beq off ei with
     |true=>
      rw [hb] at h;simp only [cond_true] at h⊢;cases hi:impl m0 t' cs with
      |none=>rw [hi] at h;cases h
      |some p=>
       obtain ⟨x,l⟩:=p;rw [hi] at h;cases l with
       |nil=>
        simp only at h⊢;injection h with h;injection h with _ h2;exact ⟨_,rfl,h2.symm,trivial⟩
       |cons _ _=>cases h
     |false=>rw [hb] at h;cases h
    |_=>cases h
  |_=>cases h
 |all k'=>
  cases c with
  |all k=>
   have h:(bif uK k k' s.ch&& !(cP k s.tr) then some (aA.all k') else none)=some (.all k'):=h;show∃ps,(bif uK k k' s.ch&& !(cP k s.tr) then some [] else none)=some ps∧bB ps;cases hb:(uK k k' s.ch&& !(cP k s.tr)) with
   |true=>exact ⟨_,rfl,trivial⟩
   |false=>rw [hb] at h;cases h
  |al=>
   have h:(bif cP k' s.vs then some (aA.all k') else none)=some (.all k'):=h;show∃ps,(bif cP k' s.vs then some [] else none)=some ps∧bB ps;cases hb:cP k' s.vs with
   |true=>exact ⟨_,rfl,trivial⟩
   |false=>rw [hb] at h;cases h
  |_=>cases h
 |ref k' ei I6=>
  cases c with
  |ref k off len=>
   have h:(bif uK k k' s.ch&& !(cP k s.tr) then some (aA.ref k' off len) else none)=some (.ref k' ei I6):=h;show∃ps,(bif uK k k' s.ch&& !(cP k s.tr) then some [ei=off,I6=len] else none)=some ps∧bB ps;cases hb:(uK k k' s.ch&& !(cP k s.tr)) with
   |true=>
    rw [hb] at h;injection h with h;injection h with _ h2 h3;exact ⟨_,rfl,h2.symm,h3.symm,trivial⟩
   |false=>rw [hb] at h;cases h
  |_=>cases h
 |al=>
  cases c with
  |al=>exact ⟨_,rfl,trivial⟩
  |_=>cases h
 |fn f'=>
  cases c with
  |fn f=>
   have h:(if f'=f then some (aA.fn f') else none)=some (.fn f'):=h;show∃ps,(if f'=f then some [] else none)=some ps∧bB ps;split at h;rename_i e;rw [if_pos e];exact ⟨_,rfl,trivial⟩;cases h
  |_=>cases h
 |nr f' t' x'=>
  cases c with
  |nr f t x=>
   have h:(if f'=f then (if h:t'=t then some (aA.nr f' t' (cJ h.symm x)) else none) else none)=some (.nr f' t' x'):=h;show∃ps,(if f'=f then (if h:t'=t then some [cJ h x'=x] else none) else none)=some ps∧bB ps;split at h;rename_i e;rw [if_pos e];split at h;rename_i e2;rw [dif_pos e2];injection h with h;injection h with _ _ h2;exact ⟨_,rfl,by rw [←h2];exact tV e2 _,trivial⟩;cases h;cases h
  |_=>cases h
 |gv=>
  have h:(bif c.ok then some aA.gv else none)=some .gv:=h;show∃ps,(bif c.ok then some [] else none)=some ps∧bB ps;cases hb:c.ok with
  |true=>exact ⟨_,rfl,trivial⟩
  |false=>rw [hb] at h;cases h
 |row=>cases h
 |AB=>cases h
 |bad=>cases h
def Ll (s:sI)(m0:Mem):List aA→List aA→Option (List aA)
 |[],[]=>some []
 |c::r,c'::r'=>(match X2 s m0 c c',Ll s m0 r r' with
  |some p,some q=>some (p::q)
  |_,_=>none)
 |_,_=>none
theorem bB.app: ∀{a b:List Prop},bB a→bB b→bB (a++b)
 |[],_,_,hb=>hb
 |_::_,_,ha,hb=>⟨ha.1,bB.app ha.2 hb⟩
theorem CU {s:sI}{m0 m':Mem}: ∀{cs nU:List aA},Ll s m0 cs nU=some nU→ ∃ps,Gt s m0 m' cs nU=some ps∧bB ps
 |[],[],_=>⟨_,rfl,trivial⟩
 |c::r,c'::r',h=>by
  unfold Ll at h;split at h;rename_i p q hp hq;injection h with h;injection h with h1 h2;subst h1 h2;obtain ⟨ps,e1,a1⟩:=Lk (m':=m') hp;obtain ⟨qs,e2,a2⟩:=CU (m':=m') hq;exact ⟨ps++qs,by unfold Gt;rw [e1,e2],a1.app a2⟩;cases h
 |[],_::_,h=>by cases h
 |_::_,[],h=>by cases h
def Tf (s:sI)(m0:Mem)(v v':aD):Option aD:=
 match v' with
 | .one c'=>(match v with
  | .one c=>(match X2 s m0 c c' with
   |some x=>some (.one x)
   |none=>none)
  |_=>none)
 | .agg nU=>(match v with
  | .agg cs=>(match Ll s m0 cs nU with
   |some x=>some (.agg x)
   |none=>none)
  |_=>none)
 | .FE _=>none
 | .DF=>none
 | .gv=>some .gv
theorem Q2 {s:sI}{m0 m':Mem}{v v':aD}(h:Tf s m0 v v'=some v'): ∃ps,QM s m0 m' v v'=some ps∧bB ps:=by
 cases v' with
 |one c'=>
  unfold Tf at h;unfold QM;simp only at h⊢;split at h;split at h;rename_i x hx;injection h with h;injection h with h;rw [h] at hx;exact Lk hx;cases h;cases h
 |agg nU=>
  unfold Tf at h;unfold QM;simp only at h⊢;split at h;split at h;rename_i x hx;injection h with h;injection h with h;rw [h] at hx;exact CU hx;cases h;cases h
 |FE=>cases h
 |DF=>cases h
 |gv=>exact ⟨_,rfl,trivial⟩
def Lm (s:sI)(m0:Mem)(fr:Fr):Fr→Option Fr
 |[]=>some []
 |(t,v')::r=>(match lk t fr with
  |some v=>(match Tf s m0 v v',Lm s m0 fr r with
   |some p,some q=>some ((t,p)::q)
   |_,_=>none)
  |none=>none)
theorem Ii {s:sI}{m0 m':Mem}{fr:Fr}: ∀{qE:Fr},Lm s m0 fr qE=some qE→ ∃ps,Ji s m0 m' fr qE=some ps∧bB ps
 |[],_=>⟨_,rfl,trivial⟩
 |(t,v')::r,h=>by
  have h:(match lk t fr with
   |some v=>(match Tf s m0 v v',Lm s m0 fr r with
    |some p,some q=>some ((t,p)::q)
    |_,_=>none)
   |none=>none)=some ((t,v')::r):=h
  show∃ps,(match lk t fr with
   |some v=>(match QM s m0 m' v v',Ji s m0 m' fr r with
    |some p,some q=>some (p++q)
    |_,_=>none)
   |none=>none)=some ps∧bB ps
  cases hv:lk t fr with
  |none=>rw [hv] at h;cases h
  |some v=>
   rw [hv] at h;simp only at h⊢;cases hp:Tf s m0 v v' with
   |none=>rw [hp] at h;cases h
   |some p=>
    cases hq:Lm s m0 fr r with
    |none=>rw [hp,hq] at h;cases h
    |some q=>
     rw [hp,hq] at h;injection h with h;injection h with h1 h2;injection h1 with _ h1;rw [h1] at hp;rw [h2] at hq;obtain ⟨ps,e1,a1⟩:=Q2 (m':=m') hp;obtain ⟨qs,e2,a2⟩:=Ii (m':=m') hq;rw [e1,e2];exact ⟨_,rfl,a1.app a2⟩
def Oa (s:sI)(m0:Mem)(k:Nat)(c c':Chunk):Option Chunk:=
 match c' with
 | .box nU=>(match c with
  | .box cs=>(match Ll s m0 cs nU with
   |some x=>some (.box x)
   |none=>none)
  |_=>none)
 | .seq t' _=>(match c with
  | .seq t xs=>if h:t'=t then (bif cP k s.tr then none else some (.seq t' (cJ (congrArg Ty.sl h.symm) xs))) else none
  |_=>none)
 | .o8 _ _ _ _ _=>none
 | .gone=>none
theorem Ob {s:sI}{m0 m':Mem}{k:Nat}{c c':Chunk}(h:Oa s m0 k c c'=some c'): ∃ps,zh s m0 m' k c c'=some ps∧bB ps:=by
 cases c' with
 |box nU=>
  unfold Oa at h;unfold zh;simp only at h⊢;split at h;split at h;rename_i x hx;injection h with h;injection h with h;rw [h] at hx;exact CU hx;cases h;cases h
 |seq t' cK=>
  cases c with
  |seq t xs=>
   have h:(if h:t'=t then (bif cP k s.tr then none else some (Chunk.seq t' (cJ (a:= .sl t) (b:= .sl t') (congrArg Ty.sl h.symm) xs))) else none)=some (.seq t' cK):=h;show∃ps,(if h:t'=t then (bif cP k s.tr then some [cJ (a:= .sl t') (b:= .sl t) (congrArg Ty.sl h) cK=List.take (List.length cK) xs] else some [cJ (a:= .sl t') (b:= .sl t) (congrArg Ty.sl h) cK=xs]) else none)=some ps∧bB ps;split at h;rename_i e;rw [dif_pos e];cases hb:cP k s.tr with
   |true=>rw [hb] at h;cases h
   |false=>
    rw [hb] at h;simp only [cond_false] at h⊢;injection h with h;injection h with _ h2;exact ⟨_,rfl,by rw [←h2];exact tV (congrArg Ty.sl e) _,trivial⟩
   cases h
  |_=>cases h
 |o8=>cases h
 |gone=>cases h
def Q3 (s:sI)(m m0:Mem):Mem→Option Mem
 |[]=>some []
 |(k',c')::r=>(match lk k' (inv s.ch) with
  |some k=>(match lk k m with
   |some c=>(match Oa s m0 k c c',Q3 s m m0 r with
    |some p,some q=>some ((k',p)::q)
    |_,_=>none)
   |none=>none)
  |none=>bif cP k' s.vs then (match c' with
   | .seq t' _=>(match Q3 s m m0 r with
    |some q=>some ((k',.seq t' [])::q)
    |none=>none)
   |_=>none) else none)
theorem GD {s:sI}{m m0 m':Mem}: ∀{r:Mem},Q3 s m m0 r=some r→ ∃ps,QN s m m0 m' r=some ps∧bB ps
 |[],_=>⟨_,rfl,trivial⟩
 |(k',c')::r,h=>by
  unfold Q3 at h;unfold QN;cases hk:lk k' (inv s.ch) with
  |some k=>
   rw [hk] at h;simp only at h⊢;cases hc:lk k m with
   |none=>rw [hc] at h;cases h
   |some c=>
    rw [hc] at h;simp only at h⊢;cases hp:Oa s m0 k c c' with
    |none=>rw [hp] at h;cases h
    |some p=>
     cases hq:Q3 s m m0 r with
     |none=>rw [hp,hq] at h;cases h
     |some q=>
      rw [hp,hq] at h;injection h with h;injection h with h1 h2;injection h1 with _ h1;rw [h1] at hp;rw [h2] at hq;obtain ⟨ps,e1,a1⟩:=Ob (m':=m') hp;obtain ⟨qs,e2,a2⟩:=GD (m':=m') hq;rw [e1,e2];exact ⟨_,rfl,a1.app a2⟩
  |none=>
   rw [hk] at h;simp only at h⊢;cases hb:cP k' s.vs with
   |false=>rw [hb] at h;cases h
   |true=>
    rw [hb] at h;cases c' with
    |seq t' cK=>
     simp only [cond_true] at h⊢;cases hq:Q3 s m m0 r with
     |none=>rw [hq] at h;cases h
     |some q=>
      rw [hq] at h;injection h with h;injection h with h1 h2;injection h1 with _ h1;injection h1 with _ h1;rw [h2] at hq;obtain ⟨qs,e2,a2⟩:=GD (m':=m') hq;rw [e2];exact ⟨_,rfl,h1.symm,a2⟩
    |_=>cases h
def St.re (s:sI)(own:List Nat)(st st':St):Option St:=
 bif s.okB st'.mem own then (match Lm s (s.m0 st.mem) st.fr st'.fr,Q3 s st.mem (s.m0 st.mem) st'.mem with
  |some p,some q=>some ⟨p,q,st'.nx⟩
  |_,_=>none) else none
theorem St.PM {s:sI}{own:List Nat}{st st':St}(h:st.re s own st'=some st'): ∃ps,st.cv s own st'=some ps∧bB ps:=by
 unfold St.re at h;unfold St.cv;cases hb:s.okB st'.mem own with
 |false=>rw [hb] at h;cases h
 |true=>
  rw [hb] at h;simp only [cond_true] at h⊢;split at h;rename_i p q hp hq;injection h with h;have h1:p=st'.fr:=congrArg St.fr h;have h2:q=st'.mem:=congrArg St.mem h;rw [h1] at hp;rw [h2] at hq;obtain ⟨ps,e1,a1⟩:=Ii (m':=st'.mem) hp;obtain ⟨qs,e2,a2⟩:=GD (m':=st'.mem) hq;exact ⟨ps++qs,by rw [e1,e2],a1.app a2⟩;cases h
variable {cx:Cx} {P:Program} {N:Nat} {st st':St} {c x y:Code} {Q:Exit→St→Prop}
theorem Le.re {own:List Nat}(ch:List (Nat×Nat))(vs:List Nat){st':St}(hX:oQ cx P N own)(he:st.re ⟨ch,vs,[],false⟩ own st'=some st'):Le cx st st':=by
 obtain ⟨ps,h1,h2⟩:=St.PM he;exact Le.cv hX.own (fun h=>by cases h) h1 h2
theorem Le.rz {own:List Nat}(ch:List (Nat×Nat))(vs:List Nat){st':St}(hX:oQ cx P N own)(hF:cx.SY)(he:st.re ⟨ch,vs,[],true⟩ own st'=some st'):Le cx st st':=by
 obtain ⟨ps,h1,h2⟩:=St.PM he;exact Le.cv hX.own (fun _=>hF) h1 h2
def Wt (s:sI)(own:List Nat)(st':St):Option (St×List Prop)→Option (St×List Prop)
 |some (st1,cs)=>(match st1.re s own st' with
  |some I9=>some (I9,cs)
  |none=>none)
 |none=>none
theorem ES {s:sI}{own:List Nat}{st':St}{o:Option (St×List Prop)}{cs:List Prop}(h:Wt s own st' o=some (st',cs)): ∃st1,o=some (st1,cs)∧st1.re s own st'=some st':=by
 unfold Wt at h;split at h;rename_i st1 J3;split at h;rename_i I9 h2;injection h with h;injection h with h3 h4;subst h3 h4;exact ⟨_,rfl,h2⟩;cases h;cases h
theorem HT.ct {id:Nat}{ops:List Oper}{own:List Nat}(rs:List OH)(ch:List (Nat×Nat))(vs:List Nat){st':St}{cs:List Prop}(hX:oQ cx P N own)(he:Wt ⟨ch,vs,[],false⟩ own st' (oy P N ops ops rs st)=some (st',cs))(hc:bB cs)(hq: ∀st1,Le cx st1 st'→Q .normal st1):HT cx st (.region id ops.toArray false) Q:=by
 obtain ⟨st1,h1,h2⟩:=ES he;exact HT.Wq hX.P hX.N h1 hc (hq _ (Le.re ch vs hX h2))
theorem HT.Q4 {id:Nat}{ops:List Oper}{own:List Nat}(h:Nat)(sH:List HR)(Aw:List (List Nat))(rs:List OH)(ch:List (Nat×Nat))(vs:List Nat){st':St}{cs:List Prop}(hX:oQ cx P N own)(hm:P.follows .mixedOrders=true)(he:Wt ⟨ch,vs,[],false⟩ own st' (zk P N ops h sH Aw rs st)=some (st',cs))(hc:bB cs)(hq: ∀st1,Le cx st1 st'→Q .normal st1):HT cx st (.region id ops.toArray true) Q:=by
 obtain ⟨st1,h1,h2⟩:=ES he;exact K1 hX.P hX.N hm h1 hc (hq _ (Le.re ch vs hX h2))
theorem HT.te (hl:Le cx st st')(hq:Q .ret st'):HT cx st .ret Q:=hl.ht (HT.ret hq)
theorem HT.bW {n:Nat}(hl:Le cx st st')(hq:Q (.exit n) st'):HT cx st (.exit n) Q:=hl.ht (HT.exit hq)
theorem HT.bX {σ ρ:Type}{f:σ→Option (σ⊕ρ)}{s:σ}{r:ρ}(S:σ→St)(E:ρ→Exit×St)(hl:Le cx st (S s))(h:rounds f s=some r)(hc:Q (E r).1 (E r).2)(round: ∀s x,f s=some x→(∀r',x= .inr r'→Q (E r').1 (E r').2)→HT cx (S s) c (Bx (fun st'=> ∃s',x= .inl s'∧Le cx st' (S s')) Q)):HT cx st (.loop c) Q:=hl.ht (HT.Up S E h hc round)
end Go.Ide
namespace Go.Ide
section
variable {α β:Type}
open Classical in
end
end Go.Ide
namespace Go.Ide
def kd {α:Type}(xs:List α)(i j:Nat)(d:α):List α:=(xs.set i (xs.getD j d)).set j (xs.getD i d)
theorem BG {α:Type}(xs:List α)(i j:Nat)(d:α):(kd xs i j d).length=xs.length:=by simp [kd]
section
variable {cx:Cx} {g:GM} {st:St} {a:Act} {w:World}
def Ln (γ:List Nat→Option Nat)(i j:Nat):List Nat→Option Nat
 |[]=>γ []
 |q::r=>γ ((if q=i then j else if q=j then i else q)::r)
theorem Jr {γ:List Nat→Option Nat}{i j:Nat}{p:List Nat}{b:Nat}(h:Ln γ i j p=some b): ∃p',γ p'=some b∧(∀q r,p=q::r→p'=(if q=i then j else if q=j then i else q)::r)∧(p=[]→p'=[]):=by
 cases p with
 |nil=>exact ⟨[],h,fun _ _ e=>(by cases e),fun _=>rfl⟩
 |cons q r=>exact ⟨_,h,fun _ _ e=>(by injection e with e1 e2;subst e1 e2;rfl),fun e=>(by cases e)⟩
theorem ET {i j q q':Nat}(h:(if q=i then j else if q=j then i else q)=(if q'=i then j else if q'=j then i else q')):q=q':=by
 split at h<;>split at h<;>(try split at h)<;>(try split at h)<;>omega
theorem cX.Oc {c i j:Nat}{e:Ty}{xs:List (List e.D)}{own:List Nat}{w':World}{aG:Array Value}{b:Nat}(h:cX cx g st a w)(ho:cx.own.map Prod.fst=own)(hl:lk c st.mem=some (.seq (.own e) xs))(hb:((!(cP c own)&&Py c st.mem)&&st.mem.all (fun p=>p.2.lU))=true)(hi:i<xs.length)(hj:j<xs.length)(Ij:g.f c []=some b){vi vj:Value}(hvi:gL (g.f c [i,0]) w e.size (xs.getD i []).length vi)(hvj:gL (g.f c [j,0]) w e.size (xs.getD j []).length vj)(hk:bJ [b] w w')(de:dc w' b aG)(eK: ∀arr,dc w b arr→aG.size=arr.size)(hai:aG[i]? =some (if i=j then vi else vj))(haj:aG[j]? =some vi)(har: ∀arr,dc w b arr→ ∀q,q≠i→q≠j→aG[q]? =arr[q]?):
 ∃g',cX cx g' ⟨tN st.fr,(c,.seq (.own e) (kd xs i j []))::st.mem,st.nx⟩ a w':=by
 simp only [Bool.and_eq_true,Bool.not_eq_true'] at hb;obtain ⟨⟨CH,Ik⟩,X3⟩:=hb;have h:=h.clean;obtain ⟨g',jl⟩: ∃g':GM,g'=⟨fun k=>if k=c then Ln (g.f c) i j else g.f k⟩:=⟨_,rfl⟩;have Au:g'.f c=Ln (g.f c) i j:=by rw [jl];exact if_pos rfl
 have Lo: ∀k,k≠c→g'.f k=g.f k:=fun k hk=>by rw [jl];exact if_neg hk
 have Uy:lk c ((c,Chunk.seq (.own e) (kd xs i j []))::st.mem)=some (.seq (.own e) (kd xs i j [])):=by rw [aL,if_pos rfl]
 have Tg: ∀k,k≠c→lk k ((c,Chunk.seq (.own e) (kd xs i j []))::st.mem)=lk k st.mem:=fun k hk=>by rw [aL,if_neg hk]
 obtain ⟨m',hm'⟩: ∃m':Mem,m'=(c,Chunk.seq (.own e) (kd xs i j []))::st.mem:=⟨_,rfl⟩;rw [←hm'] at Uy Tg⊢;have GF: ∀k p ch b0,lk k m'=some ch→ch.owns p→g'.f k p=some b0→ ∃p0 oN,lk k st.mem=some oN∧oN.owns p0∧g.f k p0=some b0∧
  (k≠c→p0=p)∧(k=c→(p=[]→p0=[])∧ ∀q r,p=q::r→p0=(if q=i then j else if q=j then i else q)::r):=by
  intro k p ch b0 hk hn D2;by_cases e0:k=c;subst e0;rw [Au] at D2;obtain ⟨p0,h1,h2,h3⟩:=Jr D2;exact ⟨p0,_,hl,trivial,h1,fun e=>absurd rfl e,fun _=>⟨h3,h2⟩⟩;rw [Tg k e0] at hk;rw [Lo k e0] at D2;exact ⟨p,ch,hk,hn,D2,fun _=>rfl,fun e=>absurd e e0⟩
 have mK: ∀b0,Live g' m' b0→Live g st.mem b0:=fun b0 ⟨k,p,ch,h1,h2,h3⟩=>by
  obtain ⟨p0,oN,q1,q2,q3,_⟩:=GF k p ch b0 h1 h2 h3;exact ⟨k,p0,oN,q1,q2,q3⟩
 have hLb:Live g st.mem b:=⟨c,[],_,hl,trivial,Ij⟩;have di: ∀b0,cx.safe g st.mem w b0→cx.safe g' m' w' b0∧w'.heap[b0]? =w.heap[b0]? :=fun b0 ⟨h1,h2,h3⟩=>
  ⟨⟨Nat.lt_of_lt_of_le h1 hk.size,h2,fun hl=>h3 (mK b0 hl)⟩,hk.block b0 h1 (fun hm=>h3 (by simp at hm;rw [hm];exact hLb))⟩
 have X4: ∀k p ch b0,lk k st.mem=some ch→ch.owns p→g.f k p=some b0→(k≠c∨p≠[])→w'.heap[b0]? =w.heap[b0]? :=fun k p ch b0 h1 h2 h3 h4=>by
  refine hk.block b0 (h.lt k p ch b0 h1 h2 h3) fun hm=> ?_;simp at hm;subst hm;obtain ⟨e1,e2⟩:=h.jU k c p [] ch _ b0 h1 h2 hl trivial h3 Ij;rcases h4 with h4|h4
  exact h4 e1;exact h4 e2
 have kF:Stays0 g g' st.mem m' (cx.safe g st.mem w) (cx.safe g' m' w') w w':=by
  refine ⟨di,fun k ou=>⟨?_,?_⟩,fun k t0 Qr ou hs=> ?_,fun k t0 Qr b0 arr ou _ _ wL=>hk.sz b0 arr wL⟩;by_cases e0:k=c;rw [e0,Uy];simp;rw [Tg k e0];exact ou;by_cases e0:k=c;subst e0;show g'.f k []=g.f k [];rw [Au];rfl;show g'.f k []=g.f k [];rw [Lo k e0];by_cases e0:k=c;subst e0;have hs:=dF.toSeq Uy hs;rw [Uy] at hs;injection hs with hs;injection hs with e1 e2;subst e1;have e2:=eq_of_heq e2;subst e2;exact ⟨xs,.inl hl,(BG xs i j []).symm⟩;refine ⟨Qr,?_,rfl⟩;unfold dF at hs⊢;rw [Tg k e0] at hs;exact hs
 have cH:=h.mem c _ hl;unfold jf at cH;rw [Ij] at cH;obtain ⟨arr,Kn,gF⟩:=cH;have row: ∀(q q':Nat) (v:Value),q'<xs.length→(∀p,g'.f c (q::p)=g.f c (q'::p))→gL (g.f c [q',0]) w e.size (xs.getD q' []).length v→cW (cx.safe g' m' w') w' (.own e) (fun p=>g'.f c (q::p)) 0 [v] (xs.getD q' []):=by
  intro q q' v yB hγ hv;have hx:xs.getD q' []=xs[q']:=by simp [List.getD_eq_getElem?_getD,yB]
  obtain ⟨es,h1,v0,h2,h3,h4⟩:=gF q' yB;refine ⟨v,rfl,?_,?_⟩;show gL (g'.f c [q,0]) w' e.size (xs.getD q' []).length v;rw [hγ];exact hv.stays fun b0 ar _ wL=>hk.sz b0 ar wL;show (match g'.f c [q,0] with|none=>_|some b0=>_);rw [hγ,hx];cases hz:g.f c [q',0] with
  |none=>
   have h4:(match g.f c [q',0] with|none=>List.length xs[q']=0|some b=>_):=h4;rw [hz] at h4;exact h4
  |some b0=>
   have h4:(match g.f c [q',0] with|none=>_|some b=> ∃arr,dc w b arr∧ ∀i (h:i<List.length xs[q']),∃es:List Value,(∀j v,es[j]? =some v→arr[i*e.size+j]? =some v)∧cW (cx.safe g st.mem w) w e (fun p=>g.f c (q'::0::i::p)) 0 es xs[q'][i]):=h4;rw [hz] at h4;obtain ⟨ar,k1,k2⟩:=h4;refine ⟨ar,k1.keep (X4 c [q',0] _ b0 hl trivial hz (.inr (by simp))),fun i0 Qg=> ?_⟩;obtain ⟨Ut,r1,r2⟩:=k2 i0 Qg;refine ⟨Ut,r1,?_⟩;have he:(fun p=>g'.f c (q::0::i0::p))=fun p=>g.f c (q'::0::i0::p):=funext fun p=>hγ _;rw [he];exact cW.keep di e (fun p b1 hp=>X4 c _ _ b1 hl trivial hp (.inr (by simp))) r2
 refine ⟨g',h.defers.keep di,h.size,fun t v Js=> ?_,fun k ch ou=> ?_,?_,fun k p ch b0 ou hn D2=> ?_,fun k p ch b0 ou hn D2=> ?_,?_,fun p hp=> ?_,h.gl⟩;have hv:=h.fr t v Js;refine VR.lU kF ?_ hv;have Js:lk t (tN st.fr)=some v:=Js;rw [yO] at Js;cases hx:lk t st.fr with
 |none=>rw [hx] at Js;cases Js
 |some u=>
  rw [hx] at Js;simp only [Option.map_some] at Js;injection Js with Js;subst Js;cases hn:u.lU with
  |true=>exact hn
  |false=>rfl
 have ou:lk k m'=some ch:=ou;by_cases e0:k=c;subst e0;rw [Uy] at ou;injection ou with ou;subst ou;show jf g' m' (cx.safe g' m' w') w' (g'.f k) _;unfold jf;rw [show g'.f k []=some b from by rw [Au];exact Ij];refine ⟨aG,de,fun q hq=> ?_⟩;have yB:q<xs.length:=by rw [←BG xs i j []];exact hq
 have hsw:(kd xs i j [])[q]=xs.getD (if q=i then j else if q=j then i else q) []:=by
  have:(kd xs i j [])[q]? =some (xs.getD (if q=i then j else if q=j then i else q) []):=by
   unfold kd;rw [List.getElem?_set];by_cases e1:j=q;subst e1;rw [if_pos rfl,if_pos (by simpa using yB)];by_cases e2:j=i;subst e2;simp;rw [if_neg e2,if_pos rfl];rw [if_neg e1,List.getElem?_set];by_cases e2:i=q;subst e2;rw [if_pos rfl,if_pos yB,if_pos rfl];rw [if_neg e2,if_neg (fun e=>e2 e.symm),if_neg (fun e=>e1 e.symm),List.getElem?_eq_getElem yB];simp [List.getD_eq_getElem?_getD,yB]
  rw [List.getElem?_eq_getElem hq] at this;injection this
 rw [hsw];have hγ: ∀p,g'.f k (q::p)=g.f k ((if q=i then j else if q=j then i else q)::p):=fun p=>by rw [Au];rfl
 by_cases e1:q=j;refine ⟨[vi],fun jj v hv=> ?_,row q _ vi (by rw [e1];split<;>first|exact hj|(rw [if_pos rfl];exact hi)) hγ ?_⟩;cases jj with
 |zero=>simp only [List.getElem?_cons_zero] at hv;injection hv with hv;rw [←hv,e1];simpa [Ty.size] using haj
 |succ=>simp at hv
 rw [e1];split;rename_i e2;rw [e2];exact hvi;rw [if_pos rfl];exact hvi;by_cases e2:q=i;have Bi:i≠j:=fun e=>e1 (by rw [e2,e]);refine ⟨[vj],fun jj v hv=> ?_,row q _ vj (by rw [if_pos e2];exact hj) hγ (by rw [if_pos e2];exact hvj)⟩;cases jj with
 |zero=>simp only [List.getElem?_cons_zero] at hv;injection hv with hv;rw [←hv,e2];rw [if_neg Bi] at hai;simpa [Ty.size] using hai
 |succ=>simp at hv
 obtain ⟨es,h1,v0,h2,h3,h4⟩:=gF q yB;refine ⟨[v0],fun jj v hv=> ?_,row q _ v0 (by rw [if_neg e2,if_neg e1];exact yB) hγ ?_⟩;have:=h1 jj v (by rw [h2];exact hv);cases jj with
 |zero=>
  simp only [Ty.size,Nat.mul_one,Nat.add_zero] at this⊢;rw [har arr Kn q e2 e1];exact this
 |succ=>simp at hv
 rw [if_neg e2,if_neg e1,show xs.getD q []=xs[q] by simp [List.getD_eq_getElem?_getD,yB]];exact h3;rw [Tg k e0] at ou;have hr:=h.mem k ch ou;have Ux:ch.lU=true:=List.all_eq_true.1 X3 _ (kJ ou);have oq:=List.all_eq_true.1 Ik _ (kJ ou);have wL: ∀p b0,ch.owns p→g.f k p=some b0→w'.heap[b0]? =w.heap[b0]? :=fun p b0 h1 h2=>X4 k p ch b0 ou h1 h2 (.inl e0);show jf g' m' (cx.safe g' m' w') w' (g'.f k) ch;rw [Lo k e0];cases ch with
 |gone=>trivial
 |box l9=>
  obtain ⟨b0,lP,q1,q2,q3⟩:=hr;exact ⟨b0,lP,q1,q2.keep (wL [] b0 trivial q1),q3.imp_mem fun ic X5 _=>CR.lU kF (List.all_eq_true.1 Ux ic X5)⟩
 |seq t2 xs2=>
  unfold jf at hr⊢;cases hγ:g.f k [] with
  |none=>rw [hγ] at hr;exact hr
  |some b0=>
   rw [hγ] at hr;obtain ⟨lP,q1,q2⟩:=hr;exact ⟨lP,q1.keep (wL [] b0 trivial hγ),q2.keep di fun p b1 hp=>wL p b1 trivial hp⟩
 |o8 t2 xs2 i2 acS Ps=>
  obtain ⟨Uz,b0,lP,q1,q2,q3,q4,es,q5,q6,q7⟩:=hr;have QH:c ∉ Ps:=fun hm=>by
   have:Nat.beq k c=false:=by rw [←Bool.not_eq_true];intro e2;exact e0 (Nat.eq_of_beq_eq_true e2)
   simp only [this,Bool.false_or,Bool.not_eq_true'] at oq;rw [uD.2 hm] at oq;cases oq
  have X6: ∀k1,lk k1 st.mem≠none→lk k1 m'≠none:=fun k1 h1=>(kF.tq k1 h1).1;have UA:bC (fun o k1=>lk k1 m'≠none∧g'.f k1=fun p=>g.f k (i2::o::p)) (bU t2 0) Ps:=by
   refine bC.Cp Uz.length fun j0 o k1 X7 DM=> ?_;obtain ⟨k1',tb,r1,r2⟩:=bC.get j0 Uz o X7;rw [DM] at tb;injection tb with tb;subst tb;exact ⟨X6 k1 r1,by rw [Lo k1 (fun e2=>QH (by rw [←e2];exact List.mem_of_getElem? DM))];exact r2⟩
  refine ⟨UA,b0,lP,q1,q2.keep (wL [] b0 (by intro o r e;cases e) q1),q3,fun j0 X7 jg=> ?_,es,q5,q6,q7.imp_mem fun ic X5 _=>CR.lU kF (List.all_eq_true.1 Ux ic X5)⟩;obtain ⟨Ut,r1,r2⟩:=q4 j0 X7 jg;exact ⟨Ut,r1,cW.keep di t2 (fun p b1 hp=>wL (j0::p) b1 (by intro o r e;injection e with e;exact absurd e jg) hp) r2⟩
 intro k k' p p' ch ji b0 ou hn DM xj D2 xK;obtain ⟨p0,oN,q1,q2,q3,q4,q5⟩:=GF k p ch b0 ou hn D2;obtain ⟨p0',X8,r1,r2,r3,r4,r5⟩:=GF k' p' ji b0 DM xj xK;obtain ⟨e1,e2⟩:=h.jU k k' p0 p0' oN X8 b0 q1 q2 r1 r2 q3 r3;subst e1;refine ⟨rfl,?_⟩;by_cases e0:k=c;obtain ⟨a1,a2⟩:=q5 e0;obtain ⟨b1,b2⟩:=r5 e0;cases p with
 |nil=>
  cases p' with
  |nil=>rfl
  |cons q' r'=>rw [a1 rfl,b2 q' r' rfl] at e2;cases e2
 |cons q r=>
  cases p' with
  |nil=>rw [b1 rfl,a2 q r rfl] at e2;cases e2
  |cons q' r'=>
   rw [a2 q r rfl,b2 q' r' rfl] at e2;injection e2 with e2 e3;rw [ET e2,e3]
 rw [←q4 e0,←r4 e0,e2];obtain ⟨p0,oN,q1,q2,q3,_⟩:=GF k p ch b0 ou hn D2;exact h.nO k p0 oN b0 q1 q2 q3;obtain ⟨p0,oN,q1,q2,q3,_⟩:=GF k p ch b0 ou hn D2;exact Nat.lt_of_lt_of_le (h.lt k p0 oN b0 q1 q2 q3) hk.size;refine ⟨hk.os.trans h.keep.os,hk.tape.trans h.keep.tape,hk.output.trans h.keep.output,Nat.le_trans h.keep.size hk.size,fun b0 wL hf=> ?_,
  fun b0 ar wL=>let ⟨arr1,h1,e1⟩:=h.keep.sz b0 ar wL;let ⟨lP,h2,e2⟩:=hk.sz b0 arr1 h1;⟨lP,h2,e2.trans e1⟩⟩
 rw [hk.block b0 (Nat.lt_of_lt_of_le wL h.keep.size) ?_];exact h.keep.block b0 wL hf;intro hm;simp at hm;subst hm;rcases h.nO c [] _ b0 hl trivial Ij with hx|hx
 omega;exact hf hx;obtain ⟨q1,q2⟩:=h.own p hp;have hpc:p.1≠c:=fun e0=>by
  have:c∈own:=by rw [←ho,←e0];exact List.mem_map.2 ⟨p,hp,rfl⟩
  rw [dA.2 this] at CH;cases CH
 refine ⟨(Lo p.1 hpc)▸q1,?_⟩;show lk p.1 m'≠none;rw [Tg p.1 hpc];exact q2
theorem zu {P:Program}{T:TypeId}{b o:Nat}{arr:Array Value}{v:Value}(hs:cY P T=some 1)(hb:dc w b arr)(hle:o<arr.size)(h1:v.oneCell'=true):
 ∃w' aG,(Instr.storeAt T (.pointer (some ⟨b,o,none⟩)) v).run P w= .ok () w'∧dc w' b aG∧bJ [b] w w'∧aG.size=arr.size∧aG[o]? =some v∧ ∀q,q≠o→aG[q]? =arr[q]? :=by
 have hc:v.cells.toList=[v]:=by rw [rV h1]
 obtain ⟨w',aG,k0,k1,k2,k3,k4⟩:=lx (P:=P) (o:=o) hs hb (v:=v) (by rw [hc];rfl) (by omega) (by rw [hc];intro x hx;simp at hx;rw [hx];exact h1);rw [hc] at k2;have hlen:(arr.toList.take o).length=o:=by rw [List.length_take];simp;omega
 refine ⟨w',aG,k0,k1,k3,k4,?_,fun q hq=> ?_⟩;rw [←Array.getElem?_toList,k2,List.append_assoc,List.getElem?_append_right (by omega),hlen];simp;rw [←Array.getElem?_toList,k2,←Array.getElem?_toList,List.append_assoc];rcases Nat.lt_or_ge q o with cp|qU
 rw [List.getElem?_append_left (by omega),List.getElem?_take,if_pos cp];rw [List.getElem?_append_right (by omega),hlen,List.getElem?_append_right (by simp;omega),List.getElem?_drop]
 congr 1
 simp;omega
end
def Qn (st':St)(e:Exit)(s:St):Prop:=e= .normal∧s=st'
def RD (cx:Cx)(ops:List Oper)(n:Nat)(listed:Array Bool)(st st':St):Prop:=
 ∀g a w,cX cx g st a w→wpAny cx.P .any ops.toArray (fun e a' w'=> ∃s g',Qn st' e s∧cX cx g' s a' w') n listed a w
def X9 (P:Program)(N:Nat)(ops:List Oper)(listed:Array Bool)(i:Nat)(st:St):Option (St×List Prop):=
 match ops[i]? with
 |some o=>bif (Region.noSelect ops.toArray&&(Region.free .any ops.toArray listed i&&(Region.ready .any ops.toArray listed).contains i))&&(match o.guard with
  |none=>true
  |some _=>false) then (match o.op,o.dst with
  | .move x,some d=>(match ev st.fr x with
   |some v=>bif Nat.blt d N then some (⟨(d,v)::st.fr,st.mem,st.nx⟩,[]) else none
   |none=>none)
  | .indexAddr T x y,some d=>(match ev st.fr x,ev st.fr y,P.underlying T with
   |some (.one (.all c)),some (.one (.aw (.int _) n)),some (.slice el)=>(match lk c st.mem,cY P el with
    |some (.seq t xs),some kz=>bif Nat.blt d N&&Nat.beq kz t.size then some (⟨(d,.one (.dI c (Int.toNat n) t.size 0))::st.fr,st.mem,st.nx⟩,[(0:Int)≤n∧ @LT.lt Int _ n (af xs)]) else none
    |_,_=>none)
   |_,_,_=>none)
  |_,_=>none) else none
 |none=>none
def Ya (P:Program)(N:Nat)(ops:List Oper):List Nat→Array Bool→St→Option (Array Bool×St×List Prop)
 |[],listed,st=>some (listed,st,[])
 |i::is,listed,st=>(match X9 P N ops listed i st with
  |some (st1,c1)=>(match Ya P N ops is (listed.setIfInBounds i true) st1 with
   |some (l2,I9,c2)=>some (l2,I9,c1++c2)
   |none=>none)
  |none=>none)
theorem uQ {P:Program}{T el:TypeId}{k:IntKind}{n:Int}{ad:Addr}{len cap kz:Nat}(hu:P.underlying T=some (.slice el))(hs:cY P el=some kz)(h0:0≤n)(h1:n<(len:Int))(w:World):
 (Instr.indexAt T (.slice (some ad) len cap) (.int k n)).run P w= .ok (.pointer (some (ad.add (n.toNat*kz)))) w:=by
 simp [Instr.indexAt,asIntOf,run_underlying hu,cG hs,h0,h1]
section
variable {cx:Cx} {st st' st1:St} {P:Program} {N:Nat} {own:List Nat} {ops:List Oper} {listed:Array Bool} {n:Nat}
theorem Jt (hX:oQ cx P N own){i:Nat}{cs:List Prop}(he:X9 P N ops listed i st=some (st1,cs))(hc:bB cs)(h:RD cx ops n (listed.setIfInBounds i true) st1 st'):RD cx ops (n+1) listed st st':=by
 obtain ⟨hP,hN,_⟩:=hX;subst hP hN;unfold X9 at he;split at he;rename_i o ho;cases hb:((Region.noSelect ops.toArray&&(Region.free .any ops.toArray listed i&&(Region.ready .any ops.toArray listed).contains i))&&(match o.guard with|none=>true|some _=>false)) with
 |false=>rw [hb] at he;cases he
 |true=>
  rw [hb] at he;simp only [cond_true] at he;simp only [Bool.and_eq_true] at hb;obtain ⟨⟨Gr,Ik,Lp⟩,hg⟩:=hb;have hg:o.guard=none:=by
   cases Qi:o.guard with
   |none=>rfl
   |some _=>rw [Qi] at hg;cases hg
  have hi:ops.toArray[i]? =some o:=by simpa using ho
  have hw: ∀a:Act,Region.wanted o (yielded ops.toArray a.tmps)=true:=fun a=>by simp [Region.wanted,hg]
  split at he;rename_i x d Uq hd;split at he;rename_i v hv;cases Od:Nat.blt d cx.N with
  |false=>rw [Od] at he;cases he
  |true=>
   rw [Od] at he;simp only [cond_true] at he;injection he with he;injection he with e1 e2;subst e1;intro g a w hs;refine wpAny_take (v:=a.eval x) hi Gr Ik Lp (fun c a w hq=>by obtain ⟨s,g',⟨q,_⟩,_⟩:=hq;cases q) (.inl ⟨hw a,fun w=>by simp [execOp,Uq]⟩) ?_;rw [hd];exact h g _ w (hs.put (cg hs hv) (some d) (fun t e=>by cases e;exact Nat.le_of_ble_eq_true Od))
  cases he;rename_i T x y d Uq hd;split at he;rename_i c k m el hx hy hu;split at he;rename_i t xs kz hl hkz;cases Od:(Nat.blt d cx.N&&Nat.beq kz t.size) with
  |false=>rw [Od] at he;cases he
  |true=>
   rw [Od] at he;simp only [cond_true] at he;simp only [Bool.and_eq_true] at Od;injection he with he;injection he with e1 e2;subst e1;subst e2;obtain ⟨⟨h0,h1⟩,_⟩:=hc;have hz:=bG Od.2;intro g a w hs;have hvx:=cg hs hx;have hvy:a.eval y= .int k m:=by have:[a.eval y]=[Value.int k m]:=cg hs hy;simpa using this
   have cH:=hs.mem c _ hl;have bF:=hvx.2.2 t xs (.inl hl);unfold gL at bF;unfold jf at cH;cases Au:g.f c [] with
   |none=>
    rw [Au] at cH;have:xs=[]:=cH;subst this;exact (HO h0 h1).elim
   |some b=>
    have bF:match g.f c [] with|none=>_|some b=>_:=bF
    rw [Au] at bF;obtain ⟨cap,arr,e1,_,jV,_⟩:=bF;refine wpAny_take (v:= .pointer (some ⟨b,m.toNat*kz,none⟩)) hi Gr Ik Lp (fun c a w hq=>by obtain ⟨s,g',⟨q,_⟩,_⟩:=hq;cases q) (.inl ⟨hw a,fun w=> ?_⟩) ?_;simp only [execOp,Uq,Sem.run_bind];rw [e1,hvy,uQ hu hkz h0 h1];simp [bP];rw [hd];refine h g _ w (hs.put (v:= .one (.dI c m.toNat t.size 0)) ?_ (some d) (fun t e=>by cases e;exact Nat.le_of_ble_eq_true Od.1));exact ⟨hvx.1,b,Au,by rw [hz];simp⟩
  cases he;cases he;cases he
 cases he
theorem RD.take (hX:oQ cx P N own): ∀(is:List Nat) {listed listed':Array Bool} {st st1:St} {cs:List Prop},Ya P N ops is listed st=some (listed',st1,cs)→bB cs→RD cx ops n listed' st1 st'→RD cx ops (n+is.length) listed st st'
 |[],listed,listed',st,st1,cs,he,hc,h=>by
  injection he with he;injection he with e1 e2;injection e2 with e2 e3;subst e1 e2;exact h
 |i::is,listed,listed',st,st1,cs,he,hc,h=>by
  simp only [Ya] at he;split at he;rename_i I9 c1 h1;split at he;rename_i l2 st3 c2 h2;injection he with he;injection he with e1 e2;injection e2 with e2 e3;subst e1 e2 e3;obtain ⟨Av,lQ⟩:=hc.append;exact Jt hX h1 Av (RD.take hX is h2 lQ h);cases he;cases he
theorem RD.step (hX:oQ cx P N own){i:Nat}{o:Oper}{r:OH}{cs:List Prop}(ho:ops[i]? =some o)(he:wR P N ops o r st=some (st1,cs))(hc:bB cs)(h:RD cx ops n (listed.setIfInBounds i true) st1 st'):
 ∀g a w,cX cx g st a w→wpOp cx.P ops.toArray (fun e a' w'=> ∃s g',Qn st' e s∧cX cx g' s a' w') i (wpAny cx.P .any ops.toArray (fun e a' w'=> ∃s g',Qn st' e s∧cX cx g' s a' w') n (listed.setIfInBounds i true)) a w:=by
 obtain ⟨hP,hN,_⟩:=hX;subst hP hN;exact fun g a w hs=>PE (by simpa using ho) (oG hs he hc fun g' a' w' hs'=>h g' a' w' hs')
theorem RD.one (hX:oQ cx P N own)(i:Nat){o:Oper}{r:OH}(st1:St){cs:List Prop}(hr:Region.ready .any ops.toArray listed=[i])(ho:ops[i]? =some o)(he:wR P N ops o r st=some (st1,cs))(hc:bB cs)(h:RD cx ops n (listed.setIfInBounds i true) st1 st'):RD cx ops (n+1) listed st st':=
 fun g a w hs=>wpAny_all hr (by simp) fun j hj=>by
  have:j=i:=by simpa using hj
  subst this;exact RD.step hX ho he hc h g a w hs
theorem RD.two (hX:oQ cx P N own)(i j:Nat){oi oj:Oper}{ri rj:OH}(sti stj:St){ci cj:List Prop}(hr:Region.ready .any ops.toArray listed=[i,j])(hoi:ops[i]? =some oi)(NP:ops[j]? =some oj)(hei:wR P N ops oi ri st=some (sti,ci))(hci:bB ci)(hej:wR P N ops oj rj st=some (stj,cj))(hcj:bB cj)(h1:RD cx ops n (listed.setIfInBounds i true) sti st')(h2:RD cx ops n (listed.setIfInBounds j true) stj st'):RD cx ops (n+1) listed st st':=
 fun g a w hs=>wpAny_all hr (by simp) fun k hk=>by
  simp only [List.mem_cons,List.not_mem_nil,or_false] at hk;rcases hk with rfl|rfl
  exact RD.step hX hoi hei hci h1 g a w hs;exact RD.step hX NP hej hcj h2 g a w hs
def Wu (all:List Oper)(Ds:List (List Nat))(h:Nat):Nat→List Oper→Bool
 |_,[]=>true
 |i,o::os=>
  ((dL o).all fun d=>Nat.blt d i)&&
  (((Ds.getD i []).all fun j=>cP j (dL o)||(dL o).any fun d=>cP j (Ds.getD d [])))&&
  ((List.range i).all fun j=>Nat.blt j h||cP j (Ds.getD i []))&&
  Wu all Ds h (i+1) os
theorem EU {all:List Oper}{Ds:List (List Nat)}{h:Nat}: ∀{os:List Oper} {n:Nat},Wu all Ds h n os=true→ ∀(i:Nat) (o:Oper),os[i]? =some o→
 (∀d∈dL o,d<n+i)∧(∀j∈Ds.getD (n+i) [],j∈dL o∨ ∃d∈dL o,j∈Ds.getD d [])∧(∀j,h≤j→j<n+i→j∈Ds.getD (n+i) [])
 |[],_,_,i,o,ho=>by simp at ho
 |o0::os,n,hk,i,o,ho=>by
  simp only [Wu,Bool.and_eq_true] at hk;obtain ⟨⟨⟨h1,h2⟩,h3⟩,h4⟩:=hk;cases i with
  |succ i=>
   have:=EU h4 i o (by simpa using ho);rwa [show n+1+i=n+(i+1) from by omega] at this
  |zero=>
   simp at ho;subst ho;refine ⟨fun d hd=> ?_,fun j hj=> ?_,fun j Ns hj=> ?_⟩;have:=List.all_eq_true.1 h1 d hd;exact Nat.lt_of_succ_le (by simpa [Nat.blt] using this);have:=List.all_eq_true.1 h2 j hj;simp only [Bool.or_eq_true] at this;rcases this with h|h
   exact .inl (dA.1 h);obtain ⟨d,hd,hm⟩:=List.any_eq_true.1 h;exact .inr ⟨d,hd,dA.1 hm⟩;have:=List.all_eq_true.1 h3 j (by simpa using hj);simp only [Bool.or_eq_true] at this;rcases this with hq|hq
   have:j<h:=Nat.lt_of_succ_le (by simpa [Nat.blt] using hq);omega;exact dA.1 hq
theorem RD.tail (h:Nat)(Ds:List (List Nat))(jT:Wu ops Ds h 0 ops=true)(hl:((Nat.beq listed.size ops.length&&Nat.ble h ops.length)&&((List.range ops.length).all fun j=>fu listed j==Nat.blt j h))=true)(hn:Nat.ble (todo listed ops.length) n=true)(hr:RG cx ops (ops.drop h) st (Qn st')):RD cx ops n listed st st':=by
 intro g a w hs;simp only [Bool.and_eq_true] at hl;obtain ⟨⟨eK,hle⟩,hl⟩:=hl;refine zg (h:=h) (Ds:=Ds) (fun i o ho=> ?_) n (i:=h) (bG eK) (Nat.le_refl h) (fun j hj=> ?_) (Nat.le_of_ble_eq_true hle) (Nat.le_of_ble_eq_true hn) (hr g a w hs);have:=EU jT i o ho;simpa using this;have:=List.all_eq_true.1 hl j (List.mem_range.2 hj);rw [beq_iff_eq] at this;rw [this];simp [Nat.blt];omega
theorem RD.le (hl:Le cx st st1)(h:RD cx ops n listed st1 st'):RD cx ops n listed st st':=fun g a w hs=>let ⟨g',hs'⟩:=hl g a w hs;h g' a w hs'
theorem HT.rd {id:Nat}{Q:Exit→St→Prop}(hX:oQ cx P N own)(hm:P.follows .mixedOrders=true){listed:Array Bool}(hl:listed=Array.replicate ops.length false)(hn:n=ops.length)(h:RD cx ops n listed st st')(hq:Q .normal st'):HT cx st (.region id ops.toArray true) Q:=by
 obtain ⟨hP,hN,_⟩:=hX;subst hP hN;intro g a w hs;refine wp_mono (wp_region_any hm (?_:wpAny cx.P .any ops.toArray (fun e a' w'=> ∃s g',Qn st' e s∧cX cx g' s a' w') _ _ a w.drew)) fun e a' w' ⟨s,g',⟨e1,e2⟩,hs'⟩=>by subst e1 e2;exact ⟨s,g',hq,hs'⟩
 have:=h g a w.drew hs.drew;rw [hl,hn] at this;simpa using this
theorem RG.PN {Q:Exit→St→Prop}{all:List Oper}{o1 o2 o3:Oper}{T TS el:TypeId}{t1 t2 u1 u2 r y c i:Nat}{k:IntKind}{m:Int}{e:Ty}{xs:List (List e.D)}(hX:oQ cx P N own)(h1:o1.op= .store T (.tmp t1) (.tmp u1))(g1:o1.guard=none)(d1:o1.dst=none)(h2:o2.op= .indexAddr TS (.tmp r) (.tmp y))(g2:o2.guard=none)(d2:o2.dst=some t2)(h3:o3.op= .store T (.tmp t2) (.tmp u2))(g3:o3.guard=none)(d3:o3.dst=none)(hT:cY P T=some 1)(hTS:P.underlying TS=some (.slice el))(nf:cY P el=some 1)(hd:(Nat.blt t2 N&& !(Nat.beq t2 u2))=true)(a1:lk t1 st.fr=some (.one (.dI c i 1 0)))(b1:lk u1 st.fr=some (.one (.row c (Int.toNat m) 0)))(ar:lk r st.fr=some (.one (.all c)))(ay:lk y st.fr=some (.one (.aw (.int k) m)))(b2:lk u2 st.fr=some (.one (.row c i 0)))(hl:lk c st.mem=some (.seq (.own e) xs))(hb:((!(cP c own)&&Py c st.mem)&&st.mem.all (fun p=>p.2.lU))=true)(hm:(0:Int)≤m∧ @LT.lt Int _ m (af xs))(hq:Q .normal ⟨tN ((t2,.one (.dI c (Int.toNat m) 1 0))::st.fr),(c,.seq (.own e) (kd xs i (Int.toNat m) []))::st.mem,st.nx⟩):RG cx all [o1,o2,o3] st Q:=by
 obtain ⟨hP,hN,hO⟩:=hX;subst hP hN;intro g a w hs;have va1:=hs.fr t1 _ a1;have vb1:=hs.fr u1 _ b1;have var:=hs.fr r _ ar;have Yb:=hs.fr y _ ay;have vb2:=hs.fr u2 _ b2;simp only [Bool.and_eq_true,Bool.not_eq_true'] at hd;have jg:t2≠u2:=fun e0=>by rw [e0,Nat.beq_refl] at hd;cases hd.2
 obtain ⟨_,b,Ij,e1⟩:=va1;have Ij:g.f c []=some b:=Ij;obtain ⟨_,o1c,r1⟩:=vb1;obtain ⟨_,o2c,r2⟩:=vb2;obtain ⟨hj,r1⟩:=r1 _ _ hl;obtain ⟨hi,r2⟩:=r2 _ _ hl;have r1:=r1 e (xs.getD m.toNat []) rfl;have r2:=r2 e (xs.getD i []) rfl;have bF:=var.2.2 _ _ (.inl hl);unfold gL at bF;rw [show g.at c=some b from Ij] at bF;obtain ⟨cap,vv,er,_,_,_⟩:=bF;have Yb:a.tmps.getD y undef= .int k m:=by have:[a.tmps.getD y undef]=[Value.int k m]:=Yb;simpa using this
 have cH:=hs.mem c _ hl;unfold jf at cH;rw [Ij] at cH;obtain ⟨arr,de,gF⟩:=cH;have eK: ∀q,q<xs.length→q<arr.size:=fun q hq=>by
  obtain ⟨es,k1,v0,k2,_⟩:=gF q hq;have:=k1 0 v0 (by rw [k2];rfl);simp only [Ty.size,Nat.mul_one,Nat.add_zero] at this;exact (Array.getElem?_eq_some_iff.1 this).1
 simp only [Nat.mul_one,Nat.add_zero] at e1;obtain ⟨w1,arr1,s1,s2,s3,s4,s5,s6⟩:=zu (P:=cx.P) (T:=T) (v:=a.tmps.getD u1 undef) hT de (eK i hi) o1c;obtain ⟨w2,lP,z1,z2,z3,z4,z5,z6⟩:=zu (P:=cx.P) (T:=T) (v:=a.tmps.getD u2 undef) hT s2 (by rw [s4];exact eK _ hj) o2c;have Yc:=hs.put (v:= .one (.dI c m.toNat 1 0)) (val:= .pointer (some ⟨b,m.toNat,none⟩)) ⟨by rw [hl];simp,b,Ij,by simp⟩ (some t2) (fun t e=>by cases e;exact Nat.le_of_ble_eq_true hd.1);have Yd:t2<a.tmps.size:=by rw [hs.size];exact Nat.le_of_ble_eq_true hd.1
 refine wpList_step fun K hK=> ?_;simp only [Region.wanted,g1,if_true];unfold Oper.wp;rw [show execOp a.eval o1=(do Instr.storeAt T (a.tmps.getD t1 undef) (a.tmps.getD u1 undef);pure .skip) from by simp only [execOp,h1];rfl,e1];simp only [Sem.run_bind,s1,Result.andThen_ok,Sem.run_pure];refine hK _ _ ?_;rw [d1];refine wpList_step fun K hK=> ?_;simp only [Region.wanted,g2,if_true];unfold Oper.wp;rw [show (execOp (a.put none undef).eval o2).run cx.P w1= .ok (.value (.pointer (some ⟨b,m.toNat,none⟩))) w1 from by
  have jX:=uQ (P:=cx.P) (T:=TS) (k:=k) (ad:=⟨b,0,none⟩) (cap:=cap) hTS nf hm.1 hm.2 w1;simp only [execOp,h2,Sem.run_bind];rw [show (a.put none undef).eval (.tmp r)= .slice (some ⟨b,0,none⟩) xs.length cap from er,show (a.put none undef).eval (.tmp y)= .int k m from Yb,jX];simp [bP]]
 refine hK _ _ ?_;rw [d2];refine wpList_step fun K hK=> ?_;simp only [Region.wanted,g3,if_true];unfold Oper.wp;have et2:((a.put none undef).put (some t2) (.pointer (some ⟨b,m.toNat,none⟩))).eval (.tmp t2)= .pointer (some ⟨b,m.toNat,none⟩):=by
  show ((a.put none undef).put (some t2) (.pointer (some ⟨b,m.toNat,none⟩))).tmps.getD t2 undef=_;simp [Act.put,Array.getD_eq_getD_getElem?,Array.getElem?_setIfInBounds,Yd]
 have eu2:((a.put none undef).put (some t2) (.pointer (some ⟨b,m.toNat,none⟩))).eval (.tmp u2)=a.tmps.getD u2 undef:=by
  show ((a.put none undef).put (some t2) (.pointer (some ⟨b,m.toNat,none⟩))).tmps.getD u2 undef=_;simp [Act.put,Array.getD_eq_getD_getElem?,Array.getElem?_setIfInBounds,jg]
 rw [show execOp ((a.put none undef).put (some t2) (.pointer (some ⟨b,m.toNat,none⟩))).eval o3=(do Instr.storeAt T (.pointer (some ⟨b,m.toNat,none⟩)) (a.tmps.getD u2 undef);pure .skip) from by
  simp only [execOp,h3];rw [et2,eu2]]
 simp only [Sem.run_bind,z1,Result.andThen_ok,Sem.run_pure];refine hK _ _ ?_;rw [d3];obtain ⟨g',hs'⟩:=Yc.Oc (c:=c) (i:=i) (j:=m.toNat) (vi:=a.tmps.getD u2 undef) (vj:=a.tmps.getD u1 undef) hO hl hb hi hj Ij r2 r1 (s3.trans z3) z2 (fun ar ha=>by rw [de.eq ha] at s4;rw [z4,s4])
  (by
   by_cases e:i=m.toNat;rw [if_pos e];rw [←e] at z5;exact z5;rw [if_neg e,z6 i e];exact s5) z5
  (fun ar ha q hq1 xu=>by rw [z6 q xu,s6 q hq1,de.eq ha])
 exact ⟨_,g',hq,hs'⟩
end
end Go.Ide
namespace Go.Ide
open Go.Sort
theorem CW {d:Array Nat}{arr:Array Value}{k:Nat}(hk:k<d.size)(ha:k<arr.size):(putCells (Value.float .f32) 0 d arr)[k]? =some (.float .f32 d[k]!):=by
 unfold putCells;rw [Array.getElem?_mapIdx,Array.getElem?_eq_getElem ha,Option.map_some,if_pos ⟨by omega,by omega⟩,Nat.sub_zero]
theorem Q5 {P:Program}{f:FuncId}{xs:List Nat}{i j:Int}(Ye:Ck P f)(hi:0≤i)(Bi:i<j)(hj:j≤(xs.length:Int))(h: ∀(dc cap i j:Nat) (d:Array Nat) (w:World),Holds (Value.float .f32) w dc 0 d→d.size≤cap→cap≤9223372036854775807→i≤j→j≤d.size→Calls P f #[.slice (some ⟨dc,0,none⟩) d.size cap,.int .i64 i,.int .i64 j] w fun e w'=>e= .returned (.slice (some ⟨dc,0,none⟩) (d.size - (j - i)) cap)∧ ∃q,w'=putRow (Value.float .f32) (Go.Sort.ahead w q) dc 0 (d.toList.take i++d.toList.drop j++List.replicate (j - i) 0).toArray):
 CallOK P f [.mv (.sl (.aW .f32)) xs,.an (.int .i64) i,.an (.int .i64) j] [⟨true,.sl (.aW .f32),xs.take i.toNat++xs.drop j.toNat⟩] []:=by
 refine ⟨Ye,fun w S vals As F hB hI hS hFl ha Wf=> ?_⟩
 match vals,As,ha with
 |v::v1::v2::[],A::A1::A2::[],ha=>
  obtain ⟨⟨cs,h1,CH⟩,⟨e1,c1,g1,g2⟩,⟨e2,c2,g3,g4⟩,_⟩:=ha;have h1:cs=[v]:=h1;have g1:c1=[v1]:=g1;have g2:c1=[.int .i64 i]:=g2;have g3:c2=[v2]:=g3;have g4:c2=[.int .i64 j]:=g4;rw [g1] at g2;injection g2 with g2;subst g2
  rw [g3] at g4;injection g4 with g4;subst g4
  subst e1 e2;rcases CH with ⟨_,hx,_⟩|⟨u,γ,rfl,hu,b,cap,arr,hγ,rfl,hl,HX,hb,eK,hcm,nf⟩
  have hx:xs=[]:=hx;rw [hx] at hj;simp at hj;omega;rw [h1] at hu;injection hu with hu;subst hu
  have hl:xs.length≤cap:=hl;have eK:cap*1≤arr.size:=eK;have hm:maxLen≤9223372036854775807:=by unfold maxLen;omega
  have Yf: ∀k (hk:k<xs.length),∃q,arr[k]? =some (.float .f32 q)∧bz .f32 q=xs[k]:=fun k hk=>by
   obtain ⟨es,q1,q,q2,q3⟩:=nf k hk;subst q2;have:=q1 0 _ rfl;have e:k*(Ty.aW .f32).size+0=k:=by show k*1+0=k;omega
   rw [e] at this;exact ⟨q,this,q3⟩
  obtain ⟨d,hd⟩: ∃d:Array Nat,d=((List.range xs.length).map fun k=>match arr[k]? with|some (.float _ q)=>q|_=>0).toArray:=⟨_,rfl⟩;have Ws:d.size=xs.length:=by rw [hd];simp
  have hdg: ∀k (hk:k<xs.length),arr[k]? =some (.float .f32 d[k]!)∧bz .f32 d[k]! =xs[k]:=fun k hk=>by
   obtain ⟨q,q1,q2⟩:=Yf k hk;have:d[k]! =q:=by
    rw [getElem!_pos d k (by omega)];subst hd;simp [q1]
   rw [this];exact ⟨q1,q2⟩
  have GF:d.toList.map (bz .f32)=xs:=by
   apply List.ext_getElem (by simp [Ws]);intro k k1 k2;rw [List.getElem_map];have:=(hdg k k2).2;rw [getElem!_pos d k (by omega)] at this;exact this
  have hH:Holds (Value.float .f32) w b 0 d:=fun k hk=>by
   rw [Nat.zero_add];exact ⟨by rw [hb.cell];exact (hdg k (by omega)).1,hb.Tp (by omega)⟩
  obtain ⟨i,rfl⟩: ∃n:Nat,i=(n:Int):=⟨i.toNat,by omega⟩;obtain ⟨j,rfl⟩: ∃n:Nat,j=(n:Int):=⟨j.toNat,by omega⟩;simp only [Int.toNat_natCast];have hk:=h b cap i j d w hH (by omega) (by omega) (by omega) (by omega);rw [Ws] at hk;refine hk.mono fun e w' ⟨he,q,hw⟩=> ?_;obtain ⟨nd,xn⟩: ∃nd:Array Nat,nd=(d.toList.take i++d.toList.drop j++List.replicate (j - i) 0).toArray:=⟨_,rfl⟩;rw [←xn] at hw;have hns:nd.size=xs.length:=by rw [xn];simp only [List.size_toArray,List.length_append,List.length_take,List.length_drop,List.length_replicate,Array.length_toList];omega
  have hF: ∀x,x∈F↔ ∃p,γ p=some x:=fun x=>by
   rw [hB x];simp
  have H3:b∈F:=(hF b).2 ⟨_,hγ⟩;obtain ⟨T,lo,xi,Lq,oq⟩:=hb;have ada:b<w.heap.size:=(Array.getElem?_eq_some_iff.1 Lq).1;have Q6:w'.heap[b]? =some (.cells (putCells (Value.float .f32) 0 nd arr) T (lo,xi)):=by
   rw [hw];unfold putRow mapBlock;simp only [heap_ahead,Array.getElem?_modify,if_true,Lq,Option.map_some,onCells]
  have NK: ∀x,x≠b→w'.heap[x]? =w.heap[x]? :=fun x hx=>by
   rw [hw];unfold putRow mapBlock;simp only [heap_ahead,Array.getElem?_modify];rw [if_neg fun e=>hx e.symm]
  have Yg:(putCells (Value.float .f32) 0 nd arr).size=arr.size:=by simp [putCells]
  have jS:dc w' b (putCells (Value.float .f32) 0 nd arr):=⟨T,lo,xi,Q6,by rw [Yg];exact oq⟩;have adb:w'.heap.size=w.heap.size:=by rw [hw];simp
  let γ':List Nat→Option Nat:=fun p=>match p with|[]=>some b|_=>none
  have hlen:(xs.take i++xs.drop j).length=xs.length - (j - i):=by simp;omega
  refine ⟨.slice (some ⟨b,0,none⟩) (xs.length - (j - i)) cap,[γ'],[b],he,fun x=> ?_,⟨List.pairwise_singleton _ _,fun Yh PO p q x hp hq=> ?_⟩,⟨[.slice (some ⟨b,0,none⟩) (xs.length - (j - i)) cap],⟨[γ'],[],rfl,(show if true=true then _ else _ from ?_),rfl⟩,rfl⟩,fun x hx=> ?_,⟨?_,?_,?_,?_,fun x hx hxF=>NK x fun e=> ?_,fun x ax hx=> ?_⟩,trivial⟩;constructor;intro hx;simp at hx;exact ⟨γ',by simp,[],by rw [hx]⟩;rintro ⟨Yh,h1,p,h2⟩;simp at h1;subst h1;cases p with
  |nil=>injection h2 with h2;simp [h2]
  |cons=>cases h2
  simp at PO;subst PO;cases p with
  |nil=>cases q with
   |nil=>rfl
   |cons=>cases hq
  |cons=>cases hp
  rw [if_pos rfl];refine ⟨[.slice (some ⟨b,0,none⟩) (xs.length - (j - i)) cap],rfl,.inr ⟨_,γ',rfl,rfl,b,cap,putCells (Value.float .f32) 0 nd arr,rfl,by rw [hlen],by rw [hlen];omega,HX,jS,by rw [Yg];exact eK,hcm,fun k hk=> ?_⟩⟩;have gM:k<xs.length - (j - i):=by rw [←hlen];exact hk
  refine ⟨[.float .f32 nd[k]!],fun r u hr=> ?_,nd[k]!,rfl,?_⟩
  match r,hr with
  |0,hr=>
   injection hr with hr;subst hr;have e:k*(Ty.aW .f32).size+0=k:=by show k*1+0=k;omega
   rw [e];exact CW (by omega) (by omega)
  have e1:nd[k]! =(d.toList.take i++d.toList.drop j).getD k 0:=by
   rw [getElem!_pos nd k (by omega)];subst xn;simp only [List.getElem_toArray];rw [List.getElem_append_left (by simp;omega),List.getD_eq_getElem?_getD,List.getElem?_eq_getElem (by simp;omega)];rfl
  have e2:(d.toList.take i++d.toList.drop j).map (bz .f32)=xs.take i++xs.drop j:=by
   rw [List.map_append,List.map_take,List.map_drop,GF]
  rw [e1];have e3:(xs.take i++xs.drop j)[k]? =some ((xs.take i++xs.drop j)[k]'hk):=List.getElem?_eq_getElem hk;generalize (xs.take i++xs.drop j)[k]'hk=z at e3⊢;rw [←e2,List.getElem?_map] at e3;have fi:k<(d.toList.take i++d.toList.drop j).length:=by simp;omega
  rw [List.getElem?_eq_getElem fi] at e3;rw [List.getD_eq_getElem?_getD,List.getElem?_eq_getElem fi];injection e3;simp at hx;subst hx;exact ⟨.inr (.inl ⟨γ,by simp,[],hγ⟩),by omega⟩;rw [hw];rfl;rw [hw];rfl;rw [hw];rfl;omega;exact hxF (by rw [e];exact H3);by_cases e:x=b;subst e;have:ax=arr:=by
   obtain ⟨T2,lo2,Wg,h2,_⟩:=hx;rw [Lq] at h2;injection h2 with h2;injection h2 with h2;exact h2.symm
  subst this;exact ⟨_,jS,Yg⟩;exact ⟨ax,hx.keep (NK x e),rfl⟩
 |[],[],ha=>exact ha.elim
 |[],_::_,ha=>exact ha.elim
 |_::_,[],ha=>exact ha.elim
 |[_],_::_,ha=>exact absurd ha (by rintro ⟨_,h⟩;exact h.elim)
 |_::_,[_],ha=>exact absurd ha (by rintro ⟨_,h⟩;revert h;cases ‹List Value›<;>exact fun h=>h.elim)
 |_::_::[],_::_::_,ha=>exact absurd ha (by rintro ⟨_,_,h⟩;exact h.elim)
 |_::_::_,[_,_],ha=>exact absurd ha (by rintro ⟨_,_,h⟩;revert h;cases ‹List Value›<;>exact fun h=>h.elim)
 |_::_::_::_,_::_::_::_::_,ha=>exact absurd ha (by rintro ⟨_,_,_,h⟩;revert h;cases ‹List Value›<;>exact fun h=>h.elim)
 |_::_::_::_::_,[_,_,_],ha=>exact absurd ha (by rintro ⟨_,_,_,h⟩;exact h.elim)
end Go.Ide
