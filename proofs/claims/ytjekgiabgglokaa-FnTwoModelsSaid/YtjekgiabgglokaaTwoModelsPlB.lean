import Derived.Test.YtjekgiabgglokaaTwoModelsPlA
set_option linter.unusedVariables false
set_option linter.unusedSimpArgs false
set_option linter.unusedSectionVars false
namespace Go.Proofs
open Go.Ide Go.IntWalk
theorem MW {x:Nat}(h:FS x):FS (tE .f32 x)∧wS (tE .f32 x)= -wS x:=by
 have e1:(x^^^2147483648)%2147483648=x%2147483648:=by
  rw [show (2147483648:Nat)=2^31 by decide,Nat.xor_mod_two_pow];simp
 have e2:(x^^^2147483648)/2147483648=x/2147483648^^^1:=by
  rw [show (2147483648:Nat)=2^31 by decide,Nat.xor_div_two_pow]
 have hb:=h.1;unfold bd at hb;have ec:tE .f32 x=x^^^2147483648:=by
  show bz .f32 (x^^^2147483648)=_;rw [AJ,if_neg (by rw [e1];omega)]
 have ev:bQ (x^^^2147483648)=bQ x:=by unfold bQ;rw [e1]
 rw [ec];refine ⟨⟨by unfold bd;rw [e1];exact hb,by rw [ev];exact h.2⟩,?_⟩;unfold wS;rw [ev,e2];have hs:((x/2147483648^^^1)%2==1)= !(x/2147483648%2==1):=by
  have:(x/2147483648^^^1)%2=(x/2147483648%2)^^^1:=by
   rw [show (2:Nat)=2^1 by decide,Nat.xor_mod_two_pow]
  rw [this];rcases Nat.mod_two_eq_zero_or_one (x/2147483648) with h|h<;>rw [h]<;>rfl
 rw [hs];have hU:=eJ;generalize US=U at*;unfold sg;cases (x/2147483648%2==1);simp only [Bool.not_false,Bool.false_eq_true,if_false,if_true];grind;simp only [Bool.not_true,Bool.false_eq_true,if_false,if_true];grind
theorem lN:FS 0:=⟨by unfold bd;omega,by rw [qx];exact Nat.zero_le _⟩
theorem VU {x:Nat}(h:FS x):FS (rn x)∧0≤wS (rn x)∧(wS (rn x)=wS x∨wS (rn x)= -wS x):=by
 obtain ⟨n1,n2⟩:=MW h;unfold rn;rw [Hx h lN,lM];by_cases c:wS x<0;rw [decide_eq_true c];exact ⟨n1,by show 0≤wS (tE .f32 x);rw [n2];grind,.inr n2⟩;rw [decide_eq_false c];exact ⟨h,by show 0≤wS x;grind,.inl rfl⟩
theorem Pa {x:Nat}(h0:0≤wS x):nn x:=by
 unfold nn;by_cases c:x/2147483648%2=1;unfold wS at h0;have:(x/2147483648%2==1)=true:=by rw [c];rfl
 rw [this] at h0;have hU:=eJ;have hv:bQ x=0:=by
  apply Nat.eq_zero_of_not_pos;intro hp;have hp:=uc hp;generalize ((bQ x:Nat):Rat)=v at*;generalize US=U at*;unfold sg at h0;rw [if_pos rfl] at h0;have:=Rat.mul_le_mul_of_nonneg_right h0 (Rat.le_of_lt hU);have e: -v/U*U= -v:=by grind
  rw [e] at this;grind
 have:x%2147483648=0:=by
  unfold bQ at hv;split at hv;exact hv;rcases Nat.mul_eq_zero.1 hv with h|h
  omega;have:=bY (x%2147483648/8388608 - 1);omega
 omega;omega
theorem SJ {x y:Nat}(hx:x≤2130706432)(hy:FS y)(h0:0≤wS y):aq .add .f32 x y<2147483648:=by
 rw [Li (x:=x) (y:=y) (a:=254) (by unfold bd;omega) hy.1 (by omega) (by omega) (by unfold ni;omega) (Pa h0)];have:=zt (bQ x+bQ y) (-149);omega
theorem SK {x y:Nat}(hx:x≤2130706432)(hy:y≤2130706432)(h0:bQ y≠0):aq .quo .f32 x y<2147483648:=by
 obtain ⟨m,i,e1,_⟩:=gy hx;obtain ⟨n,j,e2,w2⟩:=gy hy;have hn:n≠0:=by
  rintro rfl;rw [Nat.zero_mul] at w2;exact h0 w2
 have hq: ∃u p,floatBits .quo .f32 x y=some (RN u p):=by
  show∃u p,Ieee.single.div x y=_;unfold Ieee.Format.div;rw [e1,e2];unfold Ieee.Datum.quotient;dsimp only;rw [if_neg hn];exact ⟨_,_,rfl⟩
 obtain ⟨u,p,e⟩:=hq;have hle:=zt u p;have hc:aq .quo .f32 x y=RN u p:=by
  unfold aq;rw [e];exact lF (gG _ _ _) (Nat.le_refl _)
 rw [hc];omega
theorem IF {x:Nat}(h:FS x)(hx:x<2147483648):x≤2130706432:=by
 have:=h.1;unfold bd at this;omega
theorem Ai {b:Nat}{ws:List (List Int)}: ∀(i x y:Nat),x<i→y<b→(vh b ws i).getD (x*b+y) []=ws.getD x []++[(y:Int)]
 |0,_,_,h,_=>absurd h (Nat.not_lt_zero _)
 |i+1,x,y,hx,hy=>by
  have hl:=vk b ws i;rw [vh,List.getD_eq_getElem?_getD];by_cases e:x<i;have:x*b+b≤i*b:=by rw [←Nat.succ_mul];exact Nat.mul_le_mul_right _ e
  rw [List.getElem?_append_left (by omega),←List.getD_eq_getElem?_getD];exact Ai i x y e hy;have:x=i:=by omega
  subst this;rw [List.getElem?_append_right (by omega),hl,Nat.add_sub_cancel_left,List.getElem?_map,List.getElem?_range hy];rfl
theorem IG {b x y:Nat}(hx:x<b)(hy:y<b):(j7 b 2).length=b*b∧(j7 b 2).getD (x*b+y) []=[(x:Int),(y:Int)]:=by
 have h1:(j7 b 1).length=b:=by rw [vl,Nat.pow_one]
 have h0:(j7 b 0).length=1:=rfl;refine ⟨by rw [vl];exact Nat.pow_two b,?_⟩;show (vh b (j7 b 1) (j7 b 1).length).getD (x*b+y) []=_;rw [Ai _ _ _ (by omega) hy];have:(j7 b 1).getD x []=[(x:Int)]:=by
  show (vh b (j7 b 0) (j7 b 0).length).getD x []=_;have:=Ai (b:=b) (ws:=j7 b 0) (j7 b 0).length 0 x (by omega) hx;rw [Nat.zero_mul,Nat.zero_add] at this;rw [this];rfl
 rw [this];rfl
def gD (a b:Nat)(fs ss hs:List Nat)(i:Nat):Nat:=cS (rowAt a b fs ss hs [((i/b:Nat):Int),((i%b:Nat):Int)] 2) a
section
variable {a b:Nat} {fs ss hs:List Nat}
theorem Fy {p:Nat}(hp:p<b*b):p/b<b∧p%b<b∧p/b*b+p%b=p:=by
 have hb:0<b:=Nat.pos_of_ne_zero (by rintro rfl;simp at hp);exact ⟨Nat.div_lt_of_lt_mul hp,Nat.mod_lt _ hb,Nat.div_add_mod' p b⟩
theorem MX {p:Nat}(hp:p<b*b):(j7 b 2).getD p []=[((p/b:Nat):Int),((p%b:Nat):Int)]:=by
 obtain ⟨h1,h2,h3⟩:=Fy hp;have:=(IG h1 h2).2;rw [h3] at this;exact this
theorem oo (g:cU a b fs ss hs)(hb:0<b):Nq 600 (au (fun p=>wS (gD a b fs ss hs p)) (b*b)) 1:=by
 have w2:=SF g;rw [wy];rw [br b (g:=fun x=>au (fun y=>wS (cS (rowAt a b fs ss hs [(x:Int),(y:Int)] 2) a)) b) fun x hx=>br b fun y hy=>by
  have e1:(x*b+y)/b=x:=by rw [Nat.mul_comm,Nat.mul_add_div hb,Nat.div_eq_of_lt hy,Nat.add_zero]
  have e2:(x*b+y)%b=y:=by rw [Nat.mul_comm,Nat.mul_add_mod,Nat.mod_eq_of_lt hy]
  unfold gD;rw [e1,e2]]
 exact w2
theorem eD (d:kp a b fs ss hs){p:Nat}(hp:p<b*b):gD a b fs ss hs p≤2130706432∧FS (gD a b fs ss hs p)∧0≤wS (gD a b fs ss hs p):=by
 obtain ⟨h1,h2,_⟩:=Fy hp;obtain ⟨_,q1,q2⟩:=nN d (jA h1 h2) (by show 2≤6;omega);exact ⟨q1,Fp q1 q2 (by show 149+4*2+4≤175;omega),bD q1⟩
theorem wA (g:cU a b fs ss hs)(hb:0<b){p:Nat}(hp:p<b*b):wS (gD a b fs ss hs p)≤10001/10000:=by
 have h:=sW (b*b) (fun i hi=>(eD g.d hi).2.2) p hp;have n:=(oo g hb).1;have t:=dP 600 (by omega);rw [show ((600:Nat):Rat)=600 from rfl] at t;grind
theorem vm (d:kp a b fs ss hs){p:Nat}(hp:p<b*b):cm ((a:Int),(b:Int),fs,ss,hs) ((j7 b 2).getD p [])=some (gD a b fs ss hs p):=by
 obtain ⟨h1,h2,_⟩:=Fy hp;rw [MX hp,SH d.m (jA h1 h2) (by show 2≤12;omega)];rfl
theorem Dz {a':Nat}{fs' ss' hs':List Nat}(d:kp a b fs ss hs)(d':kp a' b fs' ss' hs'):iq ((a:Int),(b:Int),fs,ss,hs) ((a':Int),(b:Int),fs',ss',hs')=some true:=by
 rw [O7];unfold MN;rw [d.ok,d'.ok];simp
theorem Aj (hb:b≤4):iw (b:Int) 2=some (j7 b 2):=O9 hb 2 (by omega)
theorem DA:bf 2 0 4=some true:=by unfold bf;decide
theorem JP {a':Nat}{fs' ss' hs':List Nat}(g:cU a b fs ss hs)(g':cU a' b fs' ss' hs')(b3:b≤3):
 ∃v,dC ((a:Int),(b:Int),fs,ss,hs) ((a':Int),(b:Int),fs',ss',hs') 2=some (v,true)∧FS v∧0≤wS v∧wS v≤10002/10000:=by
 have d:=g.d;have d':=g'.d;have b1:=d.m.k1;have N2:b*b≤3*3:=Nat.mul_le_mul b3 b3;have hlen:(j7 b 2).length=b*b:=(IG (b:=b) (x:=0) (y:=0) (by omega) (by omega)).1;obtain ⟨r,er,r1,r2,r3⟩:=ir (f:=dR ((a:Int),(b:Int),fs,ss,hs) ((a':Int),(b:Int),fs',ss',hs') (j7 b 2))
  (fun m st=> ∃(i s:Nat),m+i=b*b∧st=(s,(i:Int))∧FS s∧s≤2130706432∧wS s≤au (fun p=>wS (gD a b fs ss hs p)) i+au (fun p=>wS (gD a' b fs' ss' hs' p)) i+(i:Rat)/1000000)
  (fun r=>FS r∧r≤2130706432∧wS r≤20002/10000) (by
   rintro m st ⟨i,s,hm,rfl,DO,Cs,hs3⟩;unfold dR;have hn:=cF (show i≤9 by omega);rw [show ((9:Nat):Rat)=9 from rfl] at hn;have Qg:(0:Rat)≤(i:Rat):=cF (Nat.zero_le i);have WQ: ∀{a:Nat} {fs ss hs:List Nat},cU a b fs ss hs→ ∀i,i≤b*b→au (fun p=>wS (gD a b fs ss hs p)) i≤100002/100000:=fun {a fs ss hs} g i hi=>by
    have n:=(oo g (by omega)).1;have t:=dP 600 (by omega);rw [show ((600:Nat):Rat)=600 from rfl] at t;have mono: ∀k j,k+j≤b*b→au (fun p=>wS (gD a b fs ss hs p)) k≤au (fun p=>wS (gD a b fs ss hs p)) (k+j):=fun k j=>by
     induction j with
     |zero=>intro _;exact Rat.le_refl
     |succ j ih=>
      intro h;have h1:=ih (by omega);have h2:=(eD g.d (show k+j<b*b by omega)).2.2;show _≤au (fun p=>wS (gD a b fs ss hs p)) (k+j)+wS (gD a b fs ss hs (k+j));grind
    have:=mono i (b*b - i) (by omega);rw [show i+(b*b - i)=b*b by omega] at this;grind
   by_cases hi:i<b*b;left;obtain ⟨p1,p2,p3⟩:=eD d hi;obtain ⟨q1,q2,q3⟩:=eD d' hi;have l1:=wA g (by omega) hi;have l2:=wA g' (by omega) hi;have B1:=WQ g (i+1) (by omega);have B2:=WQ g' (i+1) (by omega);have B3:au (fun p=>wS (gD a b fs ss hs p)) (i+1)=au (fun p=>wS (gD a b fs ss hs p)) i+wS (gD a b fs ss hs i):=rfl;have B4:au (fun p=>wS (gD a' b fs' ss' hs' p)) (i+1)=au (fun p=>wS (gD a' b fs' ss' hs' p)) i+wS (gD a' b fs' ss' hs' i):=rfl;rw [B3] at B1;rw [B4] at B2;have oz:=bD Cs;obtain ⟨u1,u2,u3⟩:=Sr (e:=2) p2 q2 (by grind) (by grind) (by grind) (by grind);obtain ⟨v1,v2,v3⟩:=VU u1;have v4:wS (rn (aq .sub .f32 (gD a b fs ss hs i) (gD a' b fs' ss' hs' i)))≤wS (gD a b fs ss hs i)+wS (gD a' b fs' ss' hs' i)+2/8388608:=by
    rcases v3 with h|h<;>rw [h]<;>grind
   obtain ⟨x1,x2,x3⟩:=VA (e:=4) DO v1 (by grind) (by grind) (by grind) (by grind);have x4:=IF x1 (SJ Cs v1 v2);refine ⟨m - 1,_,by omega,?_,i+1,_,by omega,rfl,x1,x4,?_⟩;have j1:=eG (i:=i) (n:=(j7 b 2).length) (by omega);simp only [af,hlen,nL hi,cond_true,Int.toNat_natCast,vm d hi,vm d' hi,Option.bind_some,Dy,cL hi (show b*b≤4294967296 by omega)];rw [guard_pos (eG hi)];rw [B3,B4,Rat.natCast_add,show ((1:Nat):Rat)=1 from rfl];grind;right;have e:i=b*b:=by omega
   subst e;simp only [af,hlen,nM (Nat.le_refl _),cond_false];refine ⟨_,rfl,DO,Cs,?_⟩;have B1:=WQ g (b*b) (Nat.le_refl _);have B2:=WQ g' (b*b) (Nat.le_refl _);grind) (b*b) ((0:Nat),(0:Int)) ⟨0,0,by omega,rfl,lN,by omega,by
    rw [lM,show ((0:Nat):Rat)=0 from rfl];show (0:Rat)≤0+0+0/1000000;grind⟩
 have r0:=bD r2;have w2:FS 1073741824∧wS 1073741824=2:=by
  have h:bQ 1073741824=2^150:=by decide
  refine ⟨Fp (b:=150) (by omega) (by rw [h];exact Nat.le_refl _) (by omega),?_⟩;rw [qL (by omega),h,show (2:Nat)^150=2*2^149 by decide,Rat.natCast_mul,sV,show ((2:Nat):Rat)=2 from rfl];have:=eJ;grind
 obtain ⟨q,hq⟩: ∃q:Rat,q*2=wS r:=⟨wS r/2,by grind⟩;obtain ⟨v1,v2,v3⟩:=VT (e:=2) (q:=q) r1 w2.1 (by rw [w2.2];grind) (by rw [w2.2];exact hq) (by grind) (by grind) (by grind) (by grind);refine ⟨aq .quo .f32 r 1073741824,?_,v1,?_,by grind⟩;have yH:fin (aq .quo .f32 r 1073741824)=true:=wo v1.1 (by omega) (by omega);have Hz:bT (aq .quo .f32 r 1073741824)=some (aq .quo .f32 r 1073741824,true):=by
  unfold bT bS;show (bif !(fin _) then _ else _)=_;rw [yH];rfl
 unfold dC;simp only [Dz d d',Option.bind_some,Bool.not_true,cond_false,DA,Aj (show b≤4 by omega),er,Hz];have h:bQ 1073741824≠0:=by decide
 exact bD (IF v1 (SK r2 (by omega) h))
end
end Go.Proofs
namespace Go.Proofs
open Go.Ide Go.IntWalk
theorem MY:rn 0=0∧aq .add .f32 0 0=0∧aq .quo .f32 0 1073741824=0∧fin 0=true:=by decide+kernel
theorem IH: ∀(n:Nat) {z u:Rat},0≤z→1+u≤z→1+((2^n:Nat):Rat)*u≤xG n z
 |0,z,u,_,h=>by
  show 1+((2^0:Nat):Rat)*u≤z;rw [show ((2^0:Nat):Rat)=1 from rfl];grind
 |n+1,z,u,h0,h=>by
  have ih:=IH n h0 h;have hn:=qz n h0;show _≤xG n z*xG n z;rw [Nat.pow_succ,Rat.natCast_mul,show ((2:Nat):Rat)=2 from rfl];generalize xG n z=w at*;have e:1+((2^n:Nat):Rat)*2*u=1+2*(((2^n:Nat):Rat)*u):=by grind
  rw [e];generalize ((2^n:Nat):Rat)*u=v at*;have hw:=Rat.mul_nonneg hn hn;by_cases c:0≤1+v;have a1:=Rat.mul_le_mul_of_nonneg_right ih hn;have a2:=Rat.mul_le_mul_of_nonneg_left ih c;have a3:0≤v*v:=by
   by_cases c2:0≤v;exact Rat.mul_nonneg c2 c2;have:=Rat.mul_nonneg (show 0≤ -v by grind) (show 0≤ -v by grind);grind
  grind;grind
theorem SL {t:Rat}(h:Bd (1/8) t):1+256*t≤Ex t:=by
 have b:=(xg h).2;have h1:1+t≤T6 t:=by
  have s5:=(kU h (show Bd (6/5) 1 from ⟨by grind,by grind⟩) (show (1:Rat)≤6 by grind)).1;have s4:=(kU h s5 (show (1:Rat)≤5 by grind)).1;have s3:=(kU h s4 (show (1:Rat)≤4 by grind)).1;have s2:=(kU h s3 (show (1:Rat)≤3 by grind)).2;unfold T6;generalize 1+t*(1+t*(1+t*(1+t*1/6)/5)/4)/3=z at*;have a3:0≤t*t:=by
   by_cases c2:0≤t;exact Rat.mul_nonneg c2 c2;have:=Rat.mul_nonneg (show 0≤ -t by grind) (show 0≤ -t by grind);grind
  have:=Rat.mul_nonneg a3 (show 0≤z by grind);grind
 have:=IH 8 (show 0≤T6 t by grind) h1;rw [show ((2^8:Nat):Rat)=256 from rfl] at this;exact this
noncomputable def lg (x:Nat):Nat:=(eI x).getD 0
theorem BT {x:Nat}(hx:x≤2130706432)(hF:FS x)(l0:1/1100≤wS x)(l1:wS x≤148/100):
 eI x=some (lg x)∧FS (lg x)∧ -(15/2)≤wS (lg x)∧wS (lg x)≤1/2∧Nq 9930 (Ex (wS (lg x)/256)) (wS x):=by
 obtain ⟨y,k,h1,h2,h3,h4,h5,h6,h7,h8⟩:=SG hF hx (by grind) l1;have e:lg x=y:=by unfold lg;rw [h1];rfl
 have hk:k≤10:=by
  apply Nat.le_of_lt_succ;apply Nat.lt_of_not_le;intro h;have g:=yb h;have g11:p2 11=2048:=by decide+kernel
  rw [g11] at g;have:=Rat.mul_le_mul_of_nonneg_left g (show 0≤wS x by grind);grind
 have MF:=cF hk;rw [show ((10:Nat):Rat)=10 from rfl] at MF;rw [e];have hb:Bd (1/8) (wS y/256):=by obtain ⟨x1,x2⟩:=h3;constructor<;>grind
 exact ⟨h1,h2,by grind,h5,h8.mono (rM hb) (by grind) (by omega)⟩
theorem VV {p q:Nat}(hp:p≤2130706432)(hq:q≤2130706432)(fp:FS p)(fq:FS q)(p0:1/1100≤wS p)(p1:wS p≤148/100)(q0:1/1100≤wS q)(q1:wS q≤148/100):
 wS p - wS q*rp 20372≤wS p*(wS (lg p) - wS (lg q)):=by
 obtain ⟨_,_,a3,a4,a5⟩:=BT hp fp p0 p1;obtain ⟨_,_,b3,b4,b5⟩:=BT hq fq q0 q1;generalize wS (lg p)=u at*;generalize wS (lg q)=v at*;have ba:Bd (1/8) (u/256):=⟨by grind,by grind⟩;have bd:Bd (1/8) ((v - u)/256):=⟨by grind,by grind⟩;have e:u/256+(v - u)/256=v/256:=by grind
 have bs:Bd (1/8) (u/256+(v - u)/256):=by rw [e];exact ⟨by grind,by grind⟩
 have n:=Hp ba bd bs;rw [e] at n bs;have ea:=rM ba;have ed:=rM bd;have n2:=(a5.symm.xF ed).trans (n.trans b5);have l:=SL bd;have e2:1+256*((v - u)/256)=1+v - u:=by grind
 rw [e2] at l;have h1:=n2.1;rw [show 9930+(512+9930)=20372 by omega] at h1;have h2:=Rat.mul_le_mul_of_nonneg_left l (show 0≤wS p by grind);grind
section
variable {a b:Nat} {fs ss hs:List Nat}
theorem HA (d:kp a b fs ss hs)(b3:b≤3):dC ((a:Int),(b:Int),fs,ss,hs) ((a:Int),(b:Int),fs,ss,hs) 2=some (0,true):=by
 have b1:=d.m.k1;have N2:b*b≤3*3:=Nat.mul_le_mul b3 b3;have hlen:(j7 b 2).length=b*b:=(IG (b:=b) (x:=0) (y:=0) (by omega) (by omega)).1;obtain ⟨z1,z2,z3,z4⟩:=MY;have:=aM (f:=dR ((a:Int),(b:Int),fs,ss,hs) ((a:Int),(b:Int),fs,ss,hs) (j7 b 2)) (fun i (s:Nat)=>(s,((i:Nat):Int))) (fun _ s=>s) id (n:=b*b) (fun _ s=>s=0)
  (fun i s hi h0=>⟨by
   obtain ⟨p1,p2,_⟩:=eD d hi;have hs:aq .sub .f32 (gD a b fs ss hs i) (gD a b fs ss hs i)=0:=tU p2.1 (by omega) (by omega);unfold dR;simp only [af,hlen,nL hi,cond_true,Int.toNat_natCast,vm d hi,Option.bind_some,Dy,cL hi (show b*b≤4294967296 by omega),hs,z1];rw [guard_pos (eG hi),h0,z2],h0⟩)
  (fun s _=>by
   unfold dR;simp only [af,hlen,nM (Nat.le_refl _),cond_false];rfl) (b*b) 0 0 (by omega) rfl
 simp only [Int.natCast_zero] at this;have Hz:bT 0=some (0,true):=by
  unfold bT bS;show (bif !(fin 0) then some ((0:Nat),false) else some ((0:Nat),true))=_;rw [z4];rfl
 unfold dC;simp only [Dz d d,Option.bind_some,Bool.not_true,cond_false,DA,Aj (show b≤4 by omega),this.1,this.2,id,z3,Hz]
theorem Fz (g:cU a b fs ss hs){row:List Nat}{c lo hi:Nat}(hc:c<b)(hr:qG a lo hi row)(h1:39≤lo)(h2:lo≤hi)(h3:hi≤250):
 au (fun p=>wS (row.getD p 0)) a≤33*(au (fun j=>wS ((c8 a b ss hs row c).getD j 0)) a*rp 144):=by
 have d:=g.d;have lh:=d.m.lh;have hn: ∀p,p<a→0≤wS (row.getD p 0):=fun p hp=>bD (hr p hp).fin;have hh: ∀p,p<a→1/33≤wS (hs.getD (p*b+c) 0):=fun p hp=>by
  have e:=hZ lh hp hc;have:=xY (g.gh p hp) (i:=c) (by rw [dt lh hp];exact hc) (by rw [e];exact d.eh p c hp hc);rw [e] at this;exact this.1
 have x:=cT a fun j hj=>xX d hc hr h1 h2 h3 (j:=j) hj;have y:Nq 72 (au (fun j=>au (fun p=>wS (row.getD p 0)*wS (hs.getD (p*b+c) 0)*wS (ss.getD (p*a+j) 0)) a) a) (au (fun p=>wS (row.getD p 0)*wS (hs.getD (p*b+c) 0)) a):=by
  rw [gu (fun j p=>wS (row.getD p 0)*wS (hs.getD (p*b+c) 0)*wS (ss.getD (p*a+j) 0)) a a];refine cT a fun p hp=> ?_;have hX:0≤wS (row.getD p 0)*wS (hs.getD (p*b+c) 0):=Rat.mul_nonneg (hn p hp) (bD (d.eh p c hp hc).fin);have q:=(ve g hp).xF hX;rw [fW] at q;have e:(1:Rat)*(wS (row.getD p 0)*wS (hs.getD (p*b+c) 0))=wS (row.getD p 0)*wS (hs.getD (p*b+c) 0):=by grind
  rw [e] at q;rw [br a (g:=fun j=>wS (ss.getD (p*a+j) 0)*(wS (row.getD p 0)*wS (hs.getD (p*b+c) 0))) fun j hj=>by grind];exact q
 have z:=(x.trans y).2;have w:au (fun p=>wS (row.getD p 0)) a*(1/33)≤au (fun p=>wS (row.getD p 0)*wS (hs.getD (p*b+c) 0)) a:=by
  rw [fW];exact mG a fun p hp=>Rat.mul_le_mul_of_nonneg_left (hh p hp) (hn p hp)
 rw [show 72+72=144 by omega] at z;grind
theorem MZ (g:cU a b fs ss hs){p:Nat}(hp:p<b*b):1/1100≤wS (gD a b fs ss hs p):=by
 obtain ⟨h1,h2,_⟩:=Fy hp;have d:=g.d;have hf:qG a 143 149 fs:=d.ef;have t0:=(vd g.gf d.m.lf d.ef).2;have t1:=Fz g h1 hf (by omega) (by omega) (by omega);have r1:=oK d h1 hf (by omega) (by omega) (by omega);have t2:=Fz g h2 r1 (by omega) (by omega) (by omega);have t3:=(nN d (jA h1 h2) (by show 2≤6;omega)).1.2;have e:au (fun j=>wS ((rowAt a b fs ss hs [((p/b:Nat):Int),((p%b:Nat):Int)] 2).getD j 0)) a=au (fun j=>wS ((c8 a b ss hs (c8 a b ss hs fs (p/b)) (p%b)).getD j 0)) a:=rfl;have e2:wS (gD a b fs ss hs p)=wS (cS (rowAt a b fs ss hs [((p/b:Nat):Int),((p%b:Nat):Int)] 2) a):=rfl;have t3:au (fun j=>wS ((c8 a b ss hs (c8 a b ss hs fs (p/b)) (p%b)).getD j 0)) a≤wS (gD a b fs ss hs p)*rp 48:=t3;have c1:=dP 72 (by omega);rw [show ((72:Nat):Rat)=72 from rfl] at c1;have c2:=dP 144 (by omega);rw [show ((144:Nat):Rat)=144 from rfl] at c2;have c3:=dP 48 (by omega);rw [show ((48:Nat):Rat)=48 from rfl] at c3;have n0:=cu a fun j hj=>bD (hf j hj).fin;have n1:=cu a fun j hj=>bD (r1 j hj).fin;have n2:=cu a fun j hj=>bD ((oK d h2 r1 (by omega) (by omega) (by omega)) j hj).fin;have n3:=(eD d hp).2.2;generalize au (fun j=>wS ((c8 a b ss hs (c8 a b ss hs fs (p/b)) (p%b)).getD j 0)) a=S2 at*;generalize au (fun j=>wS ((c8 a b ss hs fs (p/b)).getD j 0)) a=S1 at*;generalize au (fun j=>wS (fs.getD j 0)) a=S0 at*;generalize wS (gD a b fs ss hs p)=c at*;have m0:=Rat.mul_le_mul_of_nonneg_left c1 n0;have m1:=Rat.mul_le_mul_of_nonneg_left c2 n1;have m2:=Rat.mul_le_mul_of_nonneg_left c2 n2;have m3:=Rat.mul_le_mul_of_nonneg_left c3 n3;grind
theorem aae:FS 1060205080∧wS 1060205080=11629080/16777216:=by
 have h:bQ 1060205080=11629080*2^125:=by decide
 have h2:bQ 1060205080≤2^149:=by decide
 refine ⟨Fp (b:=149) (by omega) h2 (by omega),?_⟩;rw [qL (by omega),h,Fq,show (2:Nat)^149=16777216*2^125 by decide,Rat.natCast_mul,Rat.natCast_mul,show ((11629080:Nat):Rat)=11629080 from rfl,show ((16777216:Nat):Rat)=16777216 from rfl];have:=jz 125;generalize ((2^125:Nat):Rat)=z at*;grind
noncomputable def Ak (p q:Nat):Rat:=wS p*(wS (lg p) - wS (lg q))*(16777216/11629080)
theorem Pb {p q:Nat}(hp:p≤2130706432)(hq:q≤2130706432)(fp:FS p)(fq:FS q)(p0:1/1100≤wS p)(p1:wS p≤10001/10000)(q0:1/1100≤wS q)(q1:wS q≤10001/10000):
 FS (aq .quo .f32 (aq .mul .f32 p (aq .sub .f32 (lg p) (lg q))) 1060205080)∧je (1/100000) (wS (aq .quo .f32 (aq .mul .f32 p (aq .sub .f32 (lg p) (lg q))) 1060205080)) (Ak p q)∧Bd (12*wS p) (Ak p q):=by
 obtain ⟨_,a2,a3,a4,_⟩:=BT hp fp p0 (by grind);obtain ⟨_,b2,b3,b4,_⟩:=BT hq fq q0 (by grind);obtain ⟨u1,u2,u3⟩:=Sr (e:=8) a2 b2 (by grind) (by grind) (by grind) (by grind);have bl:Bd 8 (wS (lg p) - wS (lg q)):=⟨by grind,by grind⟩;have bp:Bd (wS p) (wS p):=⟨by grind,by grind⟩;have bpl:=bp.mul bl;have bd:Bd (8/8388608) (wS (aq .sub .f32 (lg p) (lg q)) - (wS (lg p) - wS (lg q))):=⟨by grind,by grind⟩;have bpd:=bp.mul bd;unfold Ak;generalize aq .sub .f32 (lg p) (lg q)=s at*;generalize wS (lg p) - wS (lg q)=l at*;obtain ⟨x1,x2⟩:=bpl;obtain ⟨x3,x4⟩:=bpd;have e:wS p*(wS s - l)=wS p*wS s - wS p*l:=by grind
 rw [e] at x3 x4;obtain ⟨v1,v2,v3⟩:=aac (e:=9) fp u1 (by grind) (by grind) (by grind) (by grind);obtain ⟨k1,k2⟩:=aae;obtain ⟨z,hz⟩: ∃z:Rat,z*wS 1060205080=wS (aq .mul .f32 p s):=⟨wS (aq .mul .f32 p s)*(16777216/11629080),by rw [k2];grind⟩;obtain ⟨w1,w2,w3⟩:=VT (e:=14) (q:=z) v1 k1 (by rw [k2];grind) hz (by grind) (by grind) (by rw [k2] at hz;grind) (by rw [k2] at hz;grind);rw [k2] at hz;refine ⟨w1,⟨by grind,by grind⟩,⟨by grind,by grind⟩⟩
theorem yc (g:cU a b fs ss hs)(hb:0<b){i:Nat}(hi:i≤b*b):au (fun p=>wS (gD a b fs ss hs p)) i≤100002/100000:=by
 have n:=(oo g hb).1;have t:=dP 600 (by omega);rw [show ((600:Nat):Rat)=600 from rfl] at t;have mono: ∀k j,k+j≤b*b→au (fun p=>wS (gD a b fs ss hs p)) k≤au (fun p=>wS (gD a b fs ss hs p)) (k+j):=fun k j=>by
  induction j with
  |zero=>intro _;exact Rat.le_refl
  |succ j ih=>
   intro h;have h1:=ih (by omega);have h2:=(eD g.d (show k+j<b*b by omega)).2.2;show _≤au (fun p=>wS (gD a b fs ss hs p)) (k+j)+wS (gD a b fs ss hs (k+j));grind
 have:=mono i (b*b - i) (by omega);rw [show i+(b*b - i)=b*b by omega] at this;grind
theorem M0 {a':Nat}{fs' ss' hs':List Nat}(g:cU a b fs ss hs)(g':cU a' b fs' ss' hs')(b3:b≤3):
 ∃v,ke ((a:Int),(b:Int),fs,ss,hs) ((a':Int),(b:Int),fs',ss',hs') 2=some (v,true)∧FS v∧ -(9/10000)≤wS v∧wS v≤20:=by
 have d:=g.d;have d':=g'.d;have b1:=d.m.k1;have N2:b*b≤3*3:=Nat.mul_le_mul b3 b3;have hlen:(j7 b 2).length=b*b:=(IG (b:=b) (x:=0) (y:=0) (by omega) (by omega)).1;obtain ⟨r,er,v,rfl,r1,r2⟩:=ir (f:=mj ((a:Int),(b:Int),fs,ss,hs) ((a':Int),(b:Int),fs',ss',hs') (j7 b 2))
  (fun m st=> ∃(i s:Nat),m+i=b*b∧st=(s,(i:Int))∧FS s∧je ((i:Rat)/80000) (wS s) (au (fun p=>Ak (gD a b fs ss hs p) (gD a' b fs' ss' hs' p)) i)∧Bd (12*au (fun p=>wS (gD a b fs ss hs p)) i) (au (fun p=>Ak (gD a b fs ss hs p) (gD a' b fs' ss' hs' p)) i)∧
   (au (fun p=>wS (gD a b fs ss hs p)) i - au (fun p=>wS (gD a' b fs' ss' hs' p)) i*rp 20372)*(16777216/11629080)≤au (fun p=>Ak (gD a b fs ss hs p) (gD a' b fs' ss' hs' p)) i)
  (fun r=> ∃v,r= .inl v∧FS v∧ -(9/10000)≤wS v∧wS v≤20) (by
   rintro m st ⟨i,s,hm,rfl,DO,Cs,hs3,hs4⟩;unfold mj;have hn:=cF (show i≤9 by omega);rw [show ((9:Nat):Rat)=9 from rfl] at hn;have Qg:(0:Rat)≤(i:Rat):=cF (Nat.zero_le i);obtain ⟨t1,t2⟩:=Cs;obtain ⟨t3,t4⟩:=hs3;by_cases hi:i<b*b;left;obtain ⟨p1,p2,p3⟩:=eD d hi;obtain ⟨q1,q2,q3⟩:=eD d' hi;have l1:=wA g (by omega) hi;have l2:=wA g' (by omega) hi;have l3:=MZ g hi;have l4:=MZ g' hi;have B1:=yc g (by omega) (show i+1≤b*b by omega);have B3:au (fun p=>wS (gD a b fs ss hs p)) (i+1)=au (fun p=>wS (gD a b fs ss hs p)) i+wS (gD a b fs ss hs i):=rfl;have B4:au (fun p=>wS (gD a' b fs' ss' hs' p)) (i+1)=au (fun p=>wS (gD a' b fs' ss' hs' p)) i+wS (gD a' b fs' ss' hs' i):=rfl;have B5:au (fun p=>Ak (gD a b fs ss hs p) (gD a' b fs' ss' hs' p)) (i+1)=au (fun p=>Ak (gD a b fs ss hs p) (gD a' b fs' ss' hs' p)) i+Ak (gD a b fs ss hs i) (gD a' b fs' ss' hs' i):=rfl;have e1:=(BT p1 p2 l3 (by grind)).1;have e2:=(BT q1 q2 l4 (by grind)).1;have gb:=VV p1 q1 p2 q2 l3 (by grind) l4 (by grind);obtain ⟨v1,⟨v2,v3⟩,v4,v5⟩:=Pb p1 q1 p2 q2 l3 l1 l4 l2;have gx:Ak (gD a b fs ss hs i) (gD a' b fs' ss' hs' i)=wS (gD a b fs ss hs i)*(wS (lg (gD a b fs ss hs i)) - wS (lg (gD a' b fs' ss' hs' i)))*(16777216/11629080):=rfl;have c1:pP .f32 (gD a b fs ss hs i) 0=true:=by
    rw [Hy p2 lN,lM];exact decide_eq_true (by grind)
   have c2:pP .f32 (gD a' b fs' ss' hs' i) 0=true:=by
    rw [Hy q2 lN,lM];exact decide_eq_true (by grind)
   have hnx:=cL hi (show b*b≤4294967296 by omega);have Av:=vm d hi;have lQ:=vm d' hi;rw [B3] at B1;generalize gD a b fs ss hs i=P at*;generalize gD a' b fs' ss' hs' i=Q at*;obtain ⟨x1,x2,x3⟩:=VA (e:=13) DO v1 (by grind) (by grind) (by grind) (by grind);refine ⟨m - 1,(aq .add .f32 s (aq .quo .f32 (aq .mul .f32 P (aq .sub .f32 (lg P) (lg Q))) 1060205080),((i+1:Nat):Int)),by omega,?_,i+1,_,by omega,rfl,x1,?_,?_,?_⟩;simp only [af,hlen,nL hi,cond_true,Int.toNat_natCast];rw [guard_pos (eG hi)];simp only [Av,lQ,Option.bind_some,c1,c2,Bool.not_true,cond_false,e1,e2,hnx];rw [B5,Rat.natCast_add,show ((1:Nat):Rat)=1 from rfl];constructor<;>grind;rw [B3,B5];constructor<;>grind;rw [B3,B4,B5,gx];grind;right;have e:i=b*b:=by omega
   subst e;simp only [af,hlen,nM (Nat.le_refl _),cond_false];have n1:=oo g (by omega);have n2:=oo g' (by omega);have B1:=yc g (by omega) (Nat.le_refl (b*b));have B2:=yc g' (by omega) (Nat.le_refl (b*b));have B3:=cu (f:=fun p=>wS (gD a' b fs' ss' hs' p)) (b*b) fun i hi=>(eD d' hi).2.2;have t:=dP 600 (by omega);rw [show ((600:Nat):Rat)=600 from rfl] at t;have t':=dP 20372 (by omega);rw [show ((20372:Nat):Rat)=20372 from rfl] at t';obtain ⟨m1,m2⟩:=n1;generalize au (fun p=>wS (gD a b fs ss hs p)) (b*b)=SP at*;generalize au (fun p=>wS (gD a' b fs' ss' hs' p)) (b*b)=SQ at*;generalize au (fun p=>Ak (gD a b fs ss hs p) (gD a' b fs' ss' hs' p)) (b*b)=SX at*;have k1:=Rat.mul_le_mul_of_nonneg_left t' B3;have k2:SP*rp 600≤SP+1/100000:=by
    have h0:0≤SP:=by
     have:=qH 600;refine Rat.le_of_mul_le_mul_right (c:=rp 600) ?_ (by grind);grind
    have:=Rat.mul_le_mul_of_nonneg_left t h0;grind
   refine ⟨_,rfl,s,rfl,DO,?_,?_⟩<;>grind) (b*b) ((0:Nat),(0:Int)) ⟨0,0,by omega,rfl,lN,by
   rw [lM,show ((0:Nat):Rat)=0 from rfl];show je _ 0 0;constructor<;>grind,by
   show Bd (12*0) 0;constructor<;>grind,by
   show (0 - 0*rp 20372)*(16777216/11629080)≤(0:Rat);grind⟩
 have yH:fin v=true:=wo r1.1 (by omega) (by omega);have Hz:bT v=some (v,true):=by
  unfold bT bS;show (bif !(fin _) then _ else _)=_;rw [yH];rfl
 refine ⟨v,?_,r1,r2⟩;unfold ke;simp only [Dz d d',Option.bind_some,Bool.not_true,cond_false,DA,Aj (show b≤4 by omega),er,Hz]
end
end Go.Proofs
namespace Go.Proofs
open Go.Ide Go.IntWalk
theorem pK (f:Nat→Rat)(c:Rat)(n:Nat):c*au f n=au (fun i=>c*f i) n:=by
 rw [Rat.mul_comm,fW];exact br n fun i _=>Rat.mul_comm _ _
theorem wB (f g:Nat→Rat)(m n:Nat):au f n*au g m=au (fun i=>au (fun j=>f i*g j) m) n:=by
 rw [fW];exact br n fun i _=>pK g (f i) m
theorem uf (f:Nat→Nat→Rat)(w n:Nat)(hw:0<w):au (fun i=>f (i/w) (i%w)) (n*w)=au (fun i=>au (fun j=>f i j) w) n:=by
 rw [wy];refine br n fun i _=>br w fun j hj=> ?_;have e1:(i*w+j)/w=i:=by rw [Nat.mul_comm,Nat.mul_add_div hw,Nat.div_eq_of_lt hj,Nat.add_zero]
 have e2:(i*w+j)%w=j:=by rw [Nat.mul_comm,Nat.mul_add_mod,Nat.mod_eq_of_lt hj]
 rw [e1,e2]
theorem JQ {A B:Nat→Nat→Rat}{h h':Nat→Nat→Rat}{S S':Nat→Rat}{a a' b N:Nat}:
 au (fun p=>au (fun q=>au (fun x=>A x p*B x q) N*au (fun c=>h p c*h' q c) b*S p*S' q) a') a=
 au (fun x=>au (fun c=>au (fun p=>A x p*h p c*S p) a*au (fun q=>B x q*h' q c*S' q) a') b) N:=by
 have e1: ∀p q,au (fun x=>A x p*B x q) N*au (fun c=>h p c*h' q c) b*S p*S' q=au (fun x=>au (fun c=>A x p*h p c*S p*(B x q*h' q c*S' q)) b) N:=fun p q=>by
  rw [wB,fW,fW];refine br N fun x _=> ?_;rw [fW,fW];exact br b fun c _=>by grind
 rw [br a fun p _=>br a' fun q _=>e1 p q];rw [br a fun p _=>gu (fun q x=>au (fun c=>A x p*h p c*S p*(B x q*h' q c*S' q)) b) N a'];rw [gu (fun p x=>au (fun q=>au (fun c=>A x p*h p c*S p*(B x q*h' q c*S' q)) b) a') N a];refine br N fun x _=> ?_;rw [br a fun p _=>gu (fun q c=>A x p*h p c*S p*(B x q*h' q c*S' q)) b a'];rw [gu (fun p c=>au (fun q=>A x p*h p c*S p*(B x q*h' q c*S' q)) a') b a];refine br b fun c _=> ?_;rw [wB]
section
variable {a a' b:Nat} {fs ss hs fs' ss' hs':List Nat}
theorem Pc (d:kp a b fs ss hs)(d':kp a' b fs' ss' hs')(b3:b≤3){p q:Nat}(hp:p<a)(hq:q<a'):
 Rg 137 152 (BR b hs hs' p q)∧Nq 48 (wS (BR b hs hs' p q)) (au (fun c=>wS (hs.getD (p*b+c) 0)*wS (hs'.getD (q*b+c) 0)) b):=by
 have b1:=d.m.k1;have ht: ∀c,c<b→Rg 137 149 (Ah b hs hs' p q c):=fun c hc=>(oh (d.eh p c hp hc) (d'.eh q c hq hc) (by omega) (by omega) (by omega) (by omega)).1;obtain ⟨q1,q2,_,q4⟩:=qy (f:=vg (Ah b hs hs' p q)) (by omega) rfl (fun p=>rfl) b ht (by omega);have r:Rg 137 152 (BR b hs hs' p q):=⟨q1,q4 (by omega),Nat.le_trans q2 (Nat.pow_le_pow_right (by omega) (by omega))⟩;refine ⟨r,?_⟩;have n1:=wx (f:=vg (Ah b hs hs' p q)) (by omega) rfl (fun p=>rfl) b ht (by omega);have n2:=cT (k:=12) b fun c hc=>rN (d.eh p c hp hc) (d'.eh q c hq hc) (by omega) (by omega) (by omega) (by omega);exact (n1.trans n2).mono (bD r.fin) (cu b fun c hc=>Rat.mul_nonneg (bD (d.eh p c hp hc).fin) (bD (d'.eh q c hq hc).fin)) (by omega)
structure DB (a a' N K lo hi l h:Nat)(cells:List Nat)(F F':Nat→List Nat):Prop where
 rg: ∀p q,p<a→q<a'→Rg lo hi (cells.getD (p*a'+q) 0)
 nq: ∀p q,p<a→q<a'→Nq K (wS (cells.getD (p*a'+q) 0)) (au (fun x=>wS ((F x).getD p 0)*wS ((F' x).getD q 0)) N)
 r1: ∀x,x<N→qG a l h (F x)
 r2: ∀x,x<N→qG a' l h (F' x)
theorem Al (d:kp a b fs ss hs)(d':kp a' b fs' ss' hs')(b3:b≤3){N K lo hi l h:Nat}{cells:List Nat}{F F':Nat→List Nat}(C:DB a a' N K lo hi l h cells F F')(h1:75≤lo)(h2:lo≤140)(h3:140≤hi)(h4:hi≤200)(h5:39≤l)(h6:l≤h)(h7:h≤250):
 DB a a' (N*b) (K+420) (lo - 24) (hi+19) (l - 12) (h+4) (Fv a a' b ss hs ss' hs' cells) (fun i=>c8 a b ss hs (F (i/b)) (i%b)) (fun i=>c8 a' b ss' hs' (F' (i/b)) (i%b)):=by
 have b1:=d.m.k1;have a1:=d.m.n1;have a1':=d'.m.n1;have a4:=d.a4;have a4':=d'.a4;have VW:a*a'≤4*4:=Nat.mul_le_mul a4 a4';have I0:0<a*a':=Nat.mul_pos (by omega) (by omega);have bA: ∀i,i<a*a'→i/a'<a∧i%a'<a'∧i/a'*a'+i%a'=i:=fun i hi=>⟨(Dx hi).1,(Dx hi).2,Nat.div_add_mod' i a'⟩;have VX: ∀i,i<N*b→i/b<N∧i%b<b:=fun i hi=>⟨Nat.div_lt_of_lt_mul (by rwa [Nat.mul_comm]),Nat.mod_lt _ (by omega)⟩;have Gd: ∀s t,s<a→t<a'→(Fv a a' b ss hs ss' hs' cells).getD (s*a'+t) 0=pJ a a' b ss hs ss' hs' cells s t:=fun s t oz ht=>by
  have:s*a'+a'≤a*a':=by rw [←Nat.succ_mul];exact Nat.mul_le_mul_right _ oz
  exact BQ _ ht (by omega)
 have m1: ∀i,i<a*a'→Rg lo hi (cells.getD i 0):=fun i hi=>by
  obtain ⟨x1,x2,x3⟩:=bA i hi;have:=C.rg _ _ x1 x2;rw [x3] at this;exact this
 have term: ∀s t,s<a→t<a'→ ∀i,i<a*a'→Rg (lo - 24) (hi+3) (pI a a' b ss hs ss' hs' cells s t i)∧
  Nq (K+84) (wS (pI a a' b ss hs ss' hs' cells s t i)) (au (fun x=>wS ((F x).getD (i/a') 0)*wS ((F' x).getD (i%a') 0)) N*au (fun c=>wS (hs.getD (i/a'*b+c) 0)*wS (hs'.getD (i%a'*b+c) 0)) b*wS (ss.getD (i/a'*a+s) 0)*wS (ss'.getD (i%a'*a'+t) 0)):=fun s t oz ht i hi=>by
  obtain ⟨x1,x2,x3⟩:=bA i hi;obtain ⟨l1,l2⟩:=Pc d d' b3 x1 x2;have c1:=m1 i hi;have e1:=d.es _ _ x1 oz;have e2:=d'.es _ _ x2 ht;have y1:=oh c1 l1 (by omega) (by omega) (by omega) (by omega);have y2:=oh y1.1 e1 (by omega) (by omega) (by omega) (by omega);have y3:=oh y2.1 e2 (by omega) (by omega) (by omega) (by omega);have z1:=rN c1 l1 (by omega) (by omega) (by omega) (by omega);have z2:=rN y1.1 e1 (by omega) (by omega) (by omega) (by omega);have z3:=rN y2.1 e2 (by omega) (by omega) (by omega) (by omega);have cn:=C.nq _ _ x1 x2;rw [x3] at cn;have w0:=bD c1.fin;have w1:=bD l1.fin;have w2:=bD e1.fin;have w3:=bD e2.fin;have g0:=cu (f:=fun x=>wS ((F x).getD (i/a') 0)*wS ((F' x).getD (i%a') 0)) N fun x hx=>Rat.mul_nonneg (bD (C.r1 x hx _ x1).fin) (bD (C.r2 x hx _ x2).fin);have g1:=cu (f:=fun c=>wS (hs.getD (i/a'*b+c) 0)*wS (hs'.getD (i%a'*b+c) 0)) b fun c hc=>Rat.mul_nonneg (bD (d.eh _ _ x1 hc).fin) (bD (d'.eh _ _ x2 hc).fin);have u1:=z1.trans (cn.mul l2 w0 g0 w1 g1);have u2:=z2.trans (u1.xF w2);have u3:=z3.trans (u2.xF w3);refine ⟨y3.1.mono (by omega) (by omega),?_⟩;rw [show K+84=12+(12+(12+(K+48))) by omega];exact u3
 have cell: ∀s t,s<a→t<a'→Rg (lo - 24) (hi+19) (pJ a a' b ss hs ss' hs' cells s t)∧
  Nq (K+276) (wS (pJ a a' b ss hs ss' hs' cells s t)) (au (fun p=>au (fun q=>au (fun x=>wS ((F x).getD p 0)*wS ((F' x).getD q 0)) N*au (fun c=>wS (hs.getD (p*b+c) 0)*wS (hs'.getD (q*b+c) 0)) b*wS (ss.getD (p*a+s) 0)*wS (ss'.getD (q*a'+t) 0)) a') a):=fun s t oz ht=>by
  obtain ⟨q1,q2,_,q4⟩:=qy (f:=vg (pI a a' b ss hs ss' hs' cells s t)) (by omega) rfl (fun p=>rfl) (a*a') (fun i hi=>(term s t oz ht i hi).1) (by omega);have r:Rg (lo - 24) (hi+19) (pJ a a' b ss hs ss' hs' cells s t):=⟨q1,q4 (by omega),Nat.le_trans q2 (Nat.pow_le_pow_right (by omega) (by omega))⟩;refine ⟨r,?_⟩;have n1:=wx (f:=vg (pI a a' b ss hs ss' hs' cells s t)) (by omega) rfl (fun p=>rfl) (a*a') (fun i hi=>(term s t oz ht i hi).1) (by omega);have n2:=cT (a*a') fun i hi=>(term s t oz ht i hi).2;have n3:=n1.trans n2;rw [uf (fun p q=>au (fun x=>wS ((F x).getD p 0)*wS ((F' x).getD q 0)) N*au (fun c=>wS (hs.getD (p*b+c) 0)*wS (hs'.getD (q*b+c) 0)) b*wS (ss.getD (p*a+s) 0)*wS (ss'.getD (q*a'+t) 0)) a' a (by omega)] at n3;refine n3.mono (bD r.fin) (cu a fun p hp=>cu a' fun q hq=> ?_) (by omega);refine Rat.mul_nonneg (Rat.mul_nonneg (Rat.mul_nonneg ?_ ?_) (bD (d.es p s hp oz).fin)) (bD (d'.es q t hq ht).fin);exact cu N fun x hx=>Rat.mul_nonneg (bD (C.r1 x hx p hp).fin) (bD (C.r2 x hx q hq).fin);exact cu b fun c hc=>Rat.mul_nonneg (bD (d.eh p c hp hc).fin) (bD (d'.eh q c hq hc).fin)
 refine ⟨fun s t oz ht=>by rw [Gd s t oz ht];exact (cell s t oz ht).1,fun s t oz ht=> ?_,fun i hi=> ?_,fun i hi=> ?_⟩;rw [Gd s t oz ht];have c:=(cell s t oz ht).2;rw [JQ (A:=fun x p=>wS ((F x).getD p 0)) (B:=fun x q=>wS ((F' x).getD q 0)) (h:=fun p c=>wS (hs.getD (p*b+c) 0)) (h':=fun q c=>wS (hs'.getD (q*b+c) 0)) (S:=fun p=>wS (ss.getD (p*a+s) 0)) (S':=fun q=>wS (ss'.getD (q*a'+t) 0))] at c;rw [show K+420=K+276+144 by omega];refine c.trans ?_;rw [uf (fun x c=>wS ((c8 a b ss hs (F x) c).getD s 0)*wS ((c8 a' b ss' hs' (F' x) c).getD t 0)) b N (by omega)];refine cT N fun x hx=>cT b fun c hc=> ?_;have n1:=xX d hc (C.r1 x hx) h5 h6 h7 oz;have n2:=xX d' hc (C.r2 x hx) h5 h6 h7 ht;have p1:=bD ((oK d hc (C.r1 x hx) h5 h6 h7) s oz).fin;have p2:=bD ((oK d' hc (C.r2 x hx) h5 h6 h7) t ht).fin;have p3:=cu (f:=fun p=>wS ((F x).getD p 0)*wS (hs.getD (p*b+c) 0)*wS (ss.getD (p*a+s) 0)) a fun p hp=>Rat.mul_nonneg (Rat.mul_nonneg (bD (C.r1 x hx p hp).fin) (bD (d.eh p c hp hc).fin)) (bD (d.es p s hp oz).fin);have p4:=cu (f:=fun q=>wS ((F' x).getD q 0)*wS (hs'.getD (q*b+c) 0)*wS (ss'.getD (q*a'+t) 0)) a' fun q hq=>Rat.mul_nonneg (Rat.mul_nonneg (bD (C.r2 x hx q hq).fin) (bD (d'.eh q c hq hc).fin)) (bD (d'.es q t hq ht).fin);exact n1.symm.mul n2.symm p3 p1 p4 p2;obtain ⟨x1,x2⟩:=VX i hi;exact oK d x2 (C.r1 _ x1) h5 h6 h7;obtain ⟨x1,x2⟩:=VX i hi;exact oK d' x2 (C.r2 _ x1) h5 h6 h7
theorem M1 (g:cU a b fs ss hs)(g':cU a' b fs' ss' hs')(b3:b≤3):
 ∃v,iN ((a:Int),(b:Int),fs,ss,hs) ((a':Int),(b:Int),fs',ss',hs') 2=some (v,true)∧v≤2130706432∧Nq 1200 (wS v) (au (fun p=>wS (gD a b fs ss hs p)*wS (gD a' b fs' ss' hs' p)) (b*b)):=by
 have d:=g.d;have d':=g'.d;have m:=d.m;have m':=d'.m;have b1:=d.m.k1;have a1:=d.m.n1;have a1':=d'.m.n1;have a4:=d.a4;have a4':=d'.a4;have VW:a*a'≤4*4:=Nat.mul_le_mul a4 a4';have I0:0<a*a':=Nat.mul_pos (by omega) (by omega);have C0:DB a a' 1 12 137 149 143 149 (lY a a' b fs ss hs fs' ss' hs' 0) (fun _=>fs) (fun _=>fs'):=by
  have Gd: ∀s t,s<a→t<a'→(lY a a' b fs ss hs fs' ss' hs' 0).getD (s*a'+t) 0=m8 fs fs' s t:=fun s t oz ht=>by
   have:s*a'+a'≤a*a':=by rw [←Nat.succ_mul];exact Nat.mul_le_mul_right _ oz
   exact BQ _ ht (by omega)
  refine ⟨fun p q hp hq=> ?_,fun p q hp hq=> ?_,fun _ _=>d.ef,fun _ _=>d'.ef⟩;rw [Gd p q hp hq];exact (oh (d.ef p hp) (d'.ef q hq) (by omega) (by omega) (by omega) (by omega)).1;rw [Gd p q hp hq];have:=rN (d.ef p hp) (d'.ef q hq) (by omega) (by omega) (by omega) (by omega);have e:au (fun _:Nat=>wS (fs.getD p 0)*wS (fs'.getD q 0)) 1=wS (fs.getD p 0)*wS (fs'.getD q 0):=by
   show 0+_=_;grind
  rw [e];exact this
 have C1:=Al d d' b3 C0 (by omega) (by omega) (by omega) (by omega) (by omega) (by omega) (by omega);have C2:=Al d d' b3 C1 (by omega) (by omega) (by omega) (by omega) (by omega) (by omega) (by omega);have C2:DB a a' (1*b*b) 852 89 187 119 157 (lY a a' b fs ss hs fs' ss' hs' 2) _ _:=C2;have hlen:=BS (a:=a) (a':=a') (b:=b) (fs:=fs) (ss:=ss) (hs:=hs) (fs':=fs') (ss':=ss') (hs':=hs') 2;have bA: ∀i,i<a*a'→i/a'<a∧i%a'<a'∧i/a'*a'+i%a'=i:=fun i hi=>⟨(Dx hi).1,(Dx hi).2,Nat.div_add_mod' i a'⟩;have hrg: ∀i,i<a*a'→Rg 89 187 ((lY a a' b fs ss hs fs' ss' hs' 2).getD i 0):=fun i hi=>by
  obtain ⟨x1,x2,x3⟩:=bA i hi;have:=C2.rg _ _ x1 x2;rw [x3] at this;exact this
 obtain ⟨q1,_,_,_⟩:=qy (f:=fun n=>cS (lY a a' b fs ss hs fs' ss' hs' 2) n) (by omega) rfl (fun p=>rfl) (a*a') hrg (by omega);have n1:=wx (f:=fun n=>cS (lY a a' b fs ss hs fs' ss' hs' 2) n) (by omega) rfl (fun p=>rfl) (a*a') hrg (by omega);refine ⟨cS (lY a a' b fs ss hs fs' ss' hs' 2) (a*a'),?_,q1,?_⟩;have yH:fin (cS (lY a a' b fs ss hs fs' ss' hs' 2) (a*a'))=true:=wo (K:=254) (by unfold bd;omega) (by omega) (by omega);have Hz:bT (cS (lY a a' b fs ss hs fs' ss' hs' 2) (a*a'))=some (cS (lY a a' b fs ss hs fs' ss' hs' 2) (a*a'),true):=by
  unfold bT bS;show (bif !(fin _) then _ else _)=_;rw [yH];rfl
 have i1:=JN m m' 2 (by omega);have i1:rounds (eu ((a:Int),(b:Int),fs,ss,hs) ((a':Int),(b:Int),fs',ss',hs') 2) ((0:Int),table a' (m8 fs fs') (a*a'))=some (lY a a' b fs ss hs fs' ss' hs' 2):=i1;have UN:bf 2 0 12=some true:=by unfold bf;decide
 unfold iN;simp only [Dz d d',UN,Option.bind_some,Bool.not_true,cond_false,JM m m',i1,xU (xs:=lY a a' b fs ss hs fs' ss' hs' 2) (by omega),hlen,Hz];have hb:0<b:=by omega
 have n2:Nq 852 (au (fun i=>wS ((lY a a' b fs ss hs fs' ss' hs' 2).getD i 0)) (a*a')) (au (fun i=>au (fun x=>wS ((c8 a b ss hs (c8 a b ss hs fs (x/b%b)) (x%b)).getD (i/a') 0)*wS ((c8 a' b ss' hs' (c8 a' b ss' hs' fs' (x/b%b)) (x%b)).getD (i%a') 0)) (1*b*b)) (a*a')):=by
  refine cT (a*a') fun i hi=> ?_;obtain ⟨x1,x2,x3⟩:=bA i hi;have:=C2.nq _ _ x1 x2;rw [x3] at this;exact this
 rw [Nat.one_mul] at n2;rw [uf (fun p q=>au (fun x=>wS ((c8 a b ss hs (c8 a b ss hs fs (x/b%b)) (x%b)).getD p 0)*wS ((c8 a' b ss' hs' (c8 a' b ss' hs' fs' (x/b%b)) (x%b)).getD q 0)) (b*b)) a' a (by omega)] at n2;rw [br a fun p _=>gu (fun q x=>wS ((c8 a b ss hs (c8 a b ss hs fs (x/b%b)) (x%b)).getD p 0)*wS ((c8 a' b ss' hs' (c8 a' b ss' hs' fs' (x/b%b)) (x%b)).getD q 0)) (b*b) a'] at n2;rw [gu (fun p x=>au (fun q=>wS ((c8 a b ss hs (c8 a b ss hs fs (x/b%b)) (x%b)).getD p 0)*wS ((c8 a' b ss' hs' (c8 a' b ss' hs' fs' (x/b%b)) (x%b)).getD q 0)) a') (b*b) a] at n2;have p0:=bD q1;have n3:Nq 96 (au (fun x=>au (fun p=>au (fun q=>wS ((c8 a b ss hs (c8 a b ss hs fs (x/b%b)) (x%b)).getD p 0)*wS ((c8 a' b ss' hs' (c8 a' b ss' hs' fs' (x/b%b)) (x%b)).getD q 0)) a') a) (b*b)) (au (fun p=>wS (gD a b fs ss hs p)*wS (gD a' b fs' ss' hs' p)) (b*b)):=by
  refine cT (b*b) fun x hx=> ?_;obtain ⟨h1,h2,_⟩:=Fy hx;rw [←wB,Nat.mod_eq_of_lt h1];have c1:=(nN d (jA h1 h2) (by show 2≤6;omega)).1;have c2:=(nN d' (jA h1 h2) (by show 2≤6;omega)).1;have r1:=Dl d (jA h1 h2) (by show 2≤6;omega) 2 (Nat.le_refl _);have r2:=Dl d' (jA h1 h2) (by show 2≤6;omega) 2 (Nat.le_refl _);exact c1.symm.mul c2.symm (cu a fun p hp=>bD (r1 p hp).fin) (eD d hx).2.2 (cu a' fun p hp=>bD (r2 p hp).fin) (eD d' hx).2.2
 refine ((n1.trans n2).trans n3).mono p0 (cu _ fun p hp=>Rat.mul_nonneg (eD d hp).2.2 (eD d' hp).2.2) ?_;omega
end
end Go.Proofs
namespace Go.Proofs
open Go.Ide Go.IntWalk
theorem Pd (q:Nat): ∀a:Nat,a≤5→aO [q] (a:Int)=some (List.replicate a q)
 |0,_=>by
  have e:aO [q] ((0:Nat):Int)=(rounds aB ((0:Int),([]:List Nat))).bind fun r=>some r:=by kernel_rfl
  rw [e,dM.2 ⟨2,show Go.Ide.runN aB 2 ((0:Int),([]:List Nat))=some [] by kernel_rfl⟩];rfl
 |1,_=>by
  have e:aO [q] ((1:Nat):Int)=(rounds aB ((1:Int),[q])).bind fun r=>some r:=by kernel_rfl
  rw [e,dM.2 ⟨2,show Go.Ide.runN aB 2 ((1:Int),[q])=some [q] by kernel_rfl⟩];rfl
 |2,_=>by
  have e:aO [q] ((2:Nat):Int)=(rounds aB ((1:Int),[q,0])).bind fun r=>some r:=by kernel_rfl
  rw [e,dM.2 ⟨3,show Go.Ide.runN aB 3 ((1:Int),[q,0])=some [q,q] by kernel_rfl⟩];rfl
 |3,_=>by
  have e:aO [q] ((3:Nat):Int)=(rounds aB ((1:Int),[q,0,0])).bind fun r=>some r:=by kernel_rfl
  rw [e,dM.2 ⟨4,show Go.Ide.runN aB 4 ((1:Int),[q,0,0])=some [q,q,q] by kernel_rfl⟩];rfl
 |4,_=>by
  have e:aO [q] ((4:Nat):Int)=(rounds aB ((1:Int),[q,0,0,0])).bind fun r=>some r:=by kernel_rfl
  rw [e,dM.2 ⟨4,show Go.Ide.runN aB 4 ((1:Int),[q,0,0,0])=some [q,q,q,q] by kernel_rfl⟩];rfl
 |5,_=>by
  have e:aO [q] ((5:Nat):Int)=(rounds aB ((1:Int),[q,0,0,0,0])).bind fun r=>some r:=by kernel_rfl
  rw [e,dM.2 ⟨5,show Go.Ide.runN aB 5 ((1:Int),[q,0,0,0,0])=some [q,q,q,q,q] by kernel_rfl⟩];rfl
 |_+6,h=>by omega
def pR (x:Rat):Rat:=if x<0 then -x else x
def JR (x y:Rat):Rat:=if x<y then y else x
theorem M3 {x y:Nat}(hx:FS x)(hy:FS y):pO .f32 x y=decide (wS x≤wS y):=by
 obtain ⟨A,B,h,h1,h2⟩:=wz hx hy;have e:pO .f32 x y=(Ieee.single.order x y==some .lt||Ieee.single.order x y==some .eq):=rfl;rw [e,h];simp only [compare,compareOfLessAndEq];by_cases c:A<B;rw [if_pos c];have:=h1.1 c;rw [decide_eq_true (by grind)];rfl;rw [if_neg c];by_cases d:A=B;rw [if_pos d];have:=h2.1 d;rw [decide_eq_true (by grind)];rfl;rw [if_neg d];have n1:=mt h1.2 c;have n2:=mt h2.2 d;rw [decide_eq_false (by grind)];rfl
theorem HB {x y:Nat}(hx:FS x)(hy:FS y):(FloatKind.format .f32 |>.order x y).isSome=true:=by
 obtain ⟨A,B,h,_⟩:=wz hx hy;show (Ieee.single.order x y).isSome=true;rw [h];rfl
theorem VY {x y:Nat}(hx:FS x)(hy:FS y):FS (KB true .f32 x y)∧wS (KB true .f32 x y)=JR (wS x) (wS y):=by
 obtain ⟨A,B,h,h1,h2⟩:=wz hx hy;have e:KB true .f32 x y=(match Ieee.single.order x y with|some .lt=>y|some .gt=>x|_=>if (FloatKind.decode .f32 x).neg=true then y else x):=rfl;rw [e,h];unfold JR;simp only [compare,compareOfLessAndEq];by_cases c:A<B;rw [if_pos c,if_pos (h1.1 c)];exact ⟨hy,rfl⟩;rw [if_neg c,if_neg (mt h1.2 c)];by_cases d:A=B;rw [if_pos d];simp only;split;exact ⟨hy,(h2.1 d).symm⟩;exact ⟨hx,rfl⟩;rw [if_neg d];exact ⟨hx,rfl⟩
theorem M4 {x:Nat}(h:FS x):FS (rn x)∧wS (rn x)=pR (wS x):=by
 obtain ⟨n1,n2⟩:=MW h;unfold rn pR;rw [Hx h lN,lM];by_cases c:wS x<0;rw [decide_eq_true c,if_pos c];exact ⟨n1,n2⟩;rw [decide_eq_false c,if_neg c];exact ⟨h,rfl⟩
theorem SM {x:Nat}(h:FS x)(hl:x<4294967296):FS (xz x)∧wS (xz x)=pR (wS x):=by
 obtain ⟨a1,a2⟩:=M4 h;rcases Jm h.1 (by omega) (by omega) hl with ⟨e,_⟩|⟨e,e2⟩
 rw [e];exact ⟨a1,a2⟩;rw [e];refine ⟨lN,?_⟩;rw [←a2,lM];have hv:bQ (rn x)=0:=by unfold bQ;rw [e2];rfl
 unfold wS;rw [hv,show ((0:Nat):Rat)=0 from rfl];have hU:=eJ;unfold sg;split<;>grind
def qM (a:Nat)(ss row:List Nat)(k:Nat):Nat→Nat
 |0=>0
 |i+1=>aq .add .f32 (qM a ss row k i) (aq .mul .f32 (row.getD i 0) (ss.getD (i*a+k) 0))
def aY (a:Nat)(ss row:List Nat):List Nat:=(List.range a).map fun k=>qM a ss row k a
theorem ld (a:Nat)(ss row:List Nat):(aY a ss row).length=a:=by simp [aY]
theorem jQ {a:Nat}{ss row:List Nat}{k:Nat}(hk:k<a):(aY a ss row).getD k 0=qM a ss row k a:=by
 simp [aY,List.getD_eq_getElem?_getD,hk]
def qN (a:Nat)(ss row:List Nat):Nat→Rat
 |0=>0
 |k+1=>JR (qN a ss row k) (pR (wS (aq .sub .f32 (qM a ss row k a) (row.getD k 0))))
section
variable {a b:Nat} {fs ss hs:List Nat}
structure dZ (a:Nat)(row:List Nat)(K:Nat):Prop where
 len:row.length=a
 rg:qG a 143 150 row
 sum:Nq K (au (fun p=>wS (row.getD p 0)) a) 1
theorem iR (g:cU a b fs ss hs){row:List Nat}{K:Nat}(h:dZ a row K)(hK:K≤40000):
 dZ a (aY a ss row) (K+132)∧Nq 132 (au (fun k=>wS ((aY a ss row).getD k 0)) a) (au (fun p=>wS (row.getD p 0)) a)∧ ∀k,k<a→Nq 60 (wS (qM a ss row k a)) (au (fun i=>wS (row.getD i 0)*wS (ss.getD (i*a+k) 0)) a):=by
 have d:=g.d;have a1:=d.m.n1;have a4:=d.a4;have ls:=d.m.ls;have ht: ∀k,k<a→ ∀i,i<a→Rg 137 150 (aq .mul .f32 (row.getD i 0) (ss.getD (i*a+k) 0)):=fun k hk i hi=>(oh (h.rg i hi) (d.es i k hi hk) (by omega) (by omega) (by omega) (by omega)).1;have hr: ∀k,k<a→qM a ss row k a≤2130706432:=fun k hk=>(qy (f:=qM a ss row k) (by omega) rfl (fun p=>rfl) a (ht k hk) (by omega)).1;have hn: ∀k,k<a→Nq 60 (wS (qM a ss row k a)) (au (fun i=>wS (row.getD i 0)*wS (ss.getD (i*a+k) 0)) a):=fun k hk=>by
  have n1:=wx (f:=qM a ss row k) (by omega) rfl (fun p=>rfl) a (ht k hk) (by omega);have n2:=cT (k:=12) a fun i hi=>rN (h.rg i hi) (d.es i k hi hk) (by omega) (by omega) (by omega) (by omega);exact (n1.trans n2).mono (bD (hr k hk)) (cu a fun i hi=>Rat.mul_nonneg (bD (h.rg i hi).fin) (bD (d.es i k hi hk).fin)) (by omega)
 have SN:Nq 132 (au (fun k=>wS ((aY a ss row).getD k 0)) a) (au (fun p=>wS (row.getD p 0)) a):=by
  rw [br a fun k hk=>by rw [jQ hk]];have n1:=cT a hn;rw [gu (fun k i=>wS (row.getD i 0)*wS (ss.getD (i*a+k) 0)) a a] at n1;have n2:Nq 72 (au (fun i=>au (fun k=>wS (row.getD i 0)*wS (ss.getD (i*a+k) 0)) a) a) (au (fun p=>wS (row.getD p 0)) a):=by
   refine cT a fun i hi=> ?_;have q:=(ve g hi).xF (bD (h.rg i hi).fin);rw [fW] at q;have e:(1:Rat)*wS (row.getD i 0)=wS (row.getD i 0):=by grind
   rw [e] at q;rw [br a (g:=fun k=>wS (ss.getD (i*a+k) 0)*wS (row.getD i 0)) fun k _=>Rat.mul_comm _ _];exact q
  exact n1.trans n2
 refine ⟨⟨ld a ss row,fun k hk=> ?_,?_⟩,SN,hn⟩;rw [jQ hk];have q:=hn k hk;have hss: ∀i,i<a→1/33≤wS (ss.getD (i*a+k) 0)∧wS (ss.getD (i*a+k) 0)≤1:=fun i hi=>by
  have e:=hZ ls hi hk;have:=xY (g.gs i hi) (i:=k) (by rw [dt ls hi];exact hk) (by rw [e];exact d.es i k hi hk);rw [e] at this;exact this
 have l1:au (fun p=>wS (row.getD p 0)) a*(1/33)≤au (fun i=>wS (row.getD i 0)*wS (ss.getD (i*a+k) 0)) a:=by
  rw [fW];exact mG a fun i hi=>Rat.mul_le_mul_of_nonneg_left (hss i hi).1 (bD (h.rg i hi).fin)
 have l2:au (fun i=>wS (row.getD i 0)*wS (ss.getD (i*a+k) 0)) a≤au (fun p=>wS (row.getD p 0)) a:=
  mG a fun i hi=>by have:=Rat.mul_le_mul_of_nonneg_left (hss i hi).2 (bD (h.rg i hi).fin);grind
 have t:=dP K (by omega);have QJ:=cF hK;rw [show ((40000:Nat):Rat)=40000 from rfl] at QJ;have t60:=dP 60 (by omega);rw [show ((60:Nat):Rat)=60 from rfl] at t60;have s0:=cu a fun p hp=>bD (h.rg p hp).fin;have w0:=bD (hr k hk);obtain ⟨s1,s2⟩:=h.sum;obtain ⟨q1,q2⟩:=q;generalize hS:au (fun p=>wS (row.getD p 0)) a=S at*;generalize au (fun i=>wS (row.getD i 0)*wS (ss.getD (i*a+k) 0)) a=X at*;generalize hW:wS (qM a ss row k a)=w at*;have rK:rp K≤1001/1000:=by grind
 have k1:=Rat.mul_le_mul_of_nonneg_left rK s0;have k2:=Rat.mul_le_mul_of_nonneg_left t60 (show 0≤X by grind);have k3:=Rat.mul_le_mul_of_nonneg_left t60 w0;exact IE (hr k hk) (by rw [hW];grind) (by rw [hW];grind);rw [show K+132=132+K by omega];exact SN.trans h.sum
theorem dZ.num {row:List Nat}{K:Nat}(h:dZ a row K){i:Nat}(hi:i<a):FS (row.getD i 0):=(h.rg i hi).fs (by omega)
theorem DC (g:cU a b fs ss hs){row:List Nat}{K:Nat}(h:dZ a row K)(hK:K≤40000){k:Nat}(hk:k<a):
 FS (aq .sub .f32 (qM a ss row k a) (row.getD k 0))∧aq .sub .f32 (qM a ss row k a) (row.getD k 0)<4294967296∧je (2/8388608) (wS (aq .sub .f32 (qM a ss row k a) (row.getD k 0))) (wS (qM a ss row k a) - wS (row.getD k 0)):=by
 have n:=(iR g h hK).1;have f1:=n.num hk;have r1:=n.rg k hk;rw [jQ hk] at f1 r1;have f2:=h.num hk;have u1:=r1.VP;have u2:=(h.rg k hk).VP;have hU:=eJ;have e2:((2^150:Nat):Rat)=2*US:=by
  rw [Fq,show (2:Nat)^150=2*2^149 by decide,Rat.natCast_mul];rfl
 rw [e2] at u1 u2;have v1:=Rat.le_of_mul_le_mul_right u1 hU;have v2:=Rat.le_of_mul_le_mul_right u2 hU;have w1:=bD r1.fin;have w2:=bD (h.rg k hk).fin;obtain ⟨x1,x2⟩:=Sr (e:=2) f1 f2 (by grind) (by grind) (by grind) (by grind);refine ⟨x1,?_,x2⟩;have hc: ∃neg u p,aq .sub .f32 (qM a ss row k a) (row.getD k 0)=Ieee.single.nearest neg u p:=by
  obtain ⟨s,m,i,e1,_⟩:=lL f1;obtain ⟨t,n,j,e2,_⟩:=lL f2;rw [rm e1 e2];exact ⟨_,_,_,lF (gG _ _ _) (Nat.le_refl _)⟩
 obtain ⟨neg,u,p,e⟩:=hc;rw [e,zY];have:=zt u p;split<;>omega
theorem Pe (g:cU a b fs ss hs){row:List Nat}{K:Nat}(h:dZ a row K)(hK:K≤40000)(n:Int):
 ∃ch,rounds (gO ((a:Int),(b:Int),fs,ss,hs) (n,row)) ((0:Nat),(0:Int),List.replicate a 0)=some (ch,aY a ss row)∧FS ch∧wS ch=qN a ss row a:=by
 have a1:=g.d.m.n1;have a4:=g.d.a4;have ls:=g.d.m.ls;have hl:=h.len;obtain ⟨r,er,r1,r2,r3⟩:=ir (f:=gO ((a:Int),(b:Int),fs,ss,hs) (n,row)) (fun mm st=> ∃(k ch:Nat),mm+k=a∧k≤a∧st=(ch,(k:Int),(aY a ss row).take k++List.replicate (a - k) 0)∧FS ch∧wS ch=qN a ss row k)
  (fun r=>r.2=aY a ss row∧FS r.1∧wS r.1=qN a ss row a) (by
   rintro mm st ⟨k,ch,hm,hk,rfl,c1,c2⟩;unfold gO;by_cases cp:k<a;left;have DH:=ld a ss row;have hzero:((aY a ss row).take k++List.replicate (a - k) 0).getD k 0=0:=by
    rw [List.getD_eq_getElem?_getD,List.getElem?_append_right (by simp;omega)];simp only [List.length_take,List.getElem?_replicate];split<;>rfl
   have hlen:((aY a ss row).take k++List.replicate (a - k) 0).length=a:=by simp;omega
   generalize aag:(aY a ss row).take k++List.replicate (a - k) 0=out at*;have M5:=aM (f:=gN ((a:Int),(b:Int),fs,ss,hs) (n,row) (ch,(k:Int),out)) (fun p s=>(((p:Nat):Int),s))
    (fun p s=>s.set k (aq .add .f32 (s.getD k 0) (aq .mul .f32 (row.getD p 0) (ss.getD (p*a+k) 0)))) id (n:=a) (fun p s=>s=out.set k (qM a ss row k p))
    (fun p s hp hs'=>⟨by
     obtain ⟨e3,e4⟩:=oJ (a:=a) (b:=a) (by omega) (by omega) hp cp;have DH:s.length=a:=by rw [hs'];simp [hlen]
     have j0:=eG (i:=k) (n:=s.length) (by omega);have j1:=eG (i:=p) (n:=row.length) (by omega);have j4:=eG (i:=p*a+k) (n:=ss.length) (by omega);unfold gN dw;simp only [nL hp,cond_true,Int.toNat_natCast,cL hp (show a≤4294967296 by omega),e3];rw [guard_pos j0,guard_pos j1,guard_pos j4,Option.bind_some],by
     rw [hs'];have:(out.set k (qM a ss row k p)).getD k 0=qM a ss row k p:=by
      simp [List.getD_eq_getElem?_getD,hlen,cp]
     rw [this,List.set_set];rfl⟩)
    (fun s _=>by
     unfold gN;simp only [nM (Nat.le_refl _),cond_false];rfl) a 0 out (by omega) (by
     show out=out.set k 0;apply List.ext_getElem (by simp);intro i h1 h2;rw [List.getElem_set];split;rename_i e;subst e;simpa [List.getD_eq_getElem?_getD,List.getElem?_eq_getElem h1] using hzero;rfl)
   simp only [Int.natCast_zero] at M5;have hg:(out.set k (qM a ss row k a)).getD k 0=qM a ss row k a:=by simp [List.getD_eq_getElem?_getD,hlen,cp]
   have j1:=eG (i:=k) (n:=(out.set k (qM a ss row k a)).length) (by simp;omega);have j2:=eG (i:=k) (n:=row.length) (by omega);obtain ⟨s1,s2,s3⟩:=DC g h hK cp;obtain ⟨v1,v2⟩:=M4 s1;obtain ⟨w1,w2⟩:=VY c1 v1;refine ⟨mm - 1,(KB true .f32 ch (rn (aq .sub .f32 (qM a ss row k a) (row.getD k 0))),((k+1:Nat):Int),(aY a ss row).take (k+1)++List.replicate (a - (k+1)) 0),by omega,?_,k+1,_,by omega,by omega,rfl,w1,by rw [w2,v2,c2];rfl⟩;simp only [nL cp,cond_true,M5.1,id,M5.2,Option.bind_some,Int.toNat_natCast,cL cp (show a≤4294967296 by omega)];rw [guard_pos j1,guard_pos j2];simp only [hg,Dy,Option.bind_some];rw [guard_pos (HB c1 v1)];have e:out.set k (qM a ss row k a)=(aY a ss row).take (k+1)++List.replicate (a - (k+1)) 0:=by
    rw [←aag,sK (by omega) 0,show a - k=(a - (k+1))+1 from by omega,List.replicate_succ,zm (by simp;omega),jQ cp];simp
   rw [e];right;have e:k=a:=by omega
   subst e;simp only [nM (Nat.le_refl _),cond_false];refine ⟨_,rfl,?_,c1,c2⟩;have:=ld k ss row;simp only [Nat.sub_self,List.replicate_zero,List.append_nil];rw [List.take_of_length_le (by omega)]) a ((0:Nat),(0:Int),List.replicate a 0) ⟨0,0,by omega,by omega,by simp,lN,lM⟩
 exact ⟨r.1,by rw [er,←r1],r2,r3⟩
theorem M6 (g:cU a b fs ss hs){row:List Nat}{K:Nat}(h:dZ a row K)(hK:K≤40000)(n:Int):
 ∃ch,rounds (gR ((a:Int),(b:Int),fs,ss,hs) (n,row)) ((0:Nat),(0:Int),([]:List Nat))=some (ch,aY a ss row)∧FS ch∧wS ch=qN a ss row a:=by
 have a1:=g.d.m.n1;have a4:=g.d.a4;have ls:=g.d.m.ls;have hl:=h.len;obtain ⟨r,er,r1,r2,r3⟩:=ir (f:=gR ((a:Int),(b:Int),fs,ss,hs) (n,row)) (fun mm st=> ∃(k ch:Nat),mm+k=a∧k≤a∧st=(ch,(k:Int),(aY a ss row).take k)∧FS ch∧wS ch=qN a ss row k)
  (fun r=>r.2=aY a ss row∧FS r.1∧wS r.1=qN a ss row a) (by
   rintro mm st ⟨k,ch,hm,hk,rfl,c1,c2⟩;unfold gR;by_cases cp:k<a;left;have DH:=ld a ss row;have M5:=aM (f:=gQ ((a:Int),(b:Int),fs,ss,hs) (n,row) (ch,(k:Int),(aY a ss row).take k)) (fun p (s:Nat)=>(s,((p:Nat):Int)))
    (fun p s=>aq .add .f32 s (aq .mul .f32 (row.getD p 0) (ss.getD (p*a+k) 0))) id (n:=a) (fun p s=>s=qM a ss row k p)
    (fun p s hp hs'=>⟨by
     obtain ⟨e3,e4⟩:=oJ (a:=a) (b:=a) (by omega) (by omega) hp cp;have j1:=eG (i:=p) (n:=row.length) (by omega);have j4:=eG (i:=p*a+k) (n:=ss.length) (by omega);unfold gQ;simp only [nL hp,cond_true,Int.toNat_natCast,cL hp (show a≤4294967296 by omega),e3];rw [guard_pos j1,guard_pos j4],by rw [hs'];rfl⟩)
    (fun s _=>by
     unfold gQ;simp only [nM (Nat.le_refl _),cond_false];rfl) a 0 0 (by omega) rfl
   simp only [Int.natCast_zero] at M5;have j2:=eG (i:=k) (n:=row.length) (by omega);obtain ⟨s1,s2,s3⟩:=DC g h hK cp;obtain ⟨v1,v2⟩:=SM s1 s2;have hif: ∃c',(bif pP .f32 (xz (aq .sub .f32 (qM a ss row k a) (row.getD k 0))) ch then some (xz (aq .sub .f32 (qM a ss row k a) (row.getD k 0))) else some ch)=some c'∧FS c'∧wS c'=qN a ss row (k+1):=by
    rw [Hy v1 c1];by_cases c:wS ch<wS (xz (aq .sub .f32 (qM a ss row k a) (row.getD k 0)));rw [decide_eq_true c];refine ⟨_,rfl,v1,?_⟩;show _=JR _ _;unfold JR;rw [←c2,←v2,if_pos c];rw [decide_eq_false c];refine ⟨_,rfl,c1,?_⟩;show _=JR _ _;unfold JR;rw [←c2,←v2,if_neg c]
   obtain ⟨c',i1,i2,i3⟩:=hif;have aah:(bif pO .f32 (aq .sub .f32 (qM a ss row k a) (row.getD k 0)) 0 then some (aq .sub .f32 0 (aq .sub .f32 (qM a ss row k a) (row.getD k 0))) else some (aq .sub .f32 (qM a ss row k a) (row.getD k 0)))=some (xz (aq .sub .f32 (qM a ss row k a) (row.getD k 0))):=by
    unfold xz;cases pO .f32 (aq .sub .f32 (qM a ss row k a) (row.getD k 0)) 0<;>rfl
   refine ⟨mm - 1,(c',((k+1:Nat):Int),(aY a ss row).take (k+1)),by omega,?_,k+1,_,by omega,by omega,rfl,i2,i3⟩;simp only [nL cp,cond_true,M5.1,id,M5.2,Option.bind_some,Int.toNat_natCast,cL cp (show a≤4294967296 by omega)];rw [guard_pos j2];simp only [aah,Option.bind_some,i1];rw [guard_pos (by simp only [List.length_take,List.length_singleton,bg];omega),sK (by omega) 0,jQ cp];right;have e:k=a:=by omega
   subst e;simp only [nM (Nat.le_refl _),cond_false];refine ⟨_,rfl,?_,c1,c2⟩;have:=ld k ss row;simp only;rw [List.take_of_length_le (by omega)]) a ((0:Nat),(0:Int),([]:List Nat)) ⟨0,0,by omega,by omega,by simp,lN,lM⟩
 exact ⟨r.1,by rw [er,←r1],r2,r3⟩
end
end Go.Proofs
namespace Go.Proofs
open Go.Ide Go.IntWalk
theorem lO (x:Rat): -pR x≤x∧x≤pR x∧0≤pR x:=by
 unfold pR;split<;>grind
theorem rP {x y:Rat}(h1:x≤y)(h2: -y≤x):pR x≤y:=by
 unfold pR;split<;>grind
theorem Pf {d s:Nat→Rat}{e:Rat}{n:Nat}(he:0≤e)(h: ∀i,i<n→e≤s i):pR (au (fun i=>d i*s i) n)≤e*pR (au d n)+au (fun i=>pR (d i)*(s i - e)) n:=by
 have e1:au (fun i=>d i*s i) n=e*au d n+au (fun i=>d i*(s i - e)) n:=by
  rw [pK,kr];exact br n fun i _=>by grind
 have u:au (fun i=>d i*(s i - e)) n≤au (fun i=>pR (d i)*(s i - e)) n:=
  mG n fun i hi=>Rat.mul_le_mul_of_nonneg_right (lO (d i)).2.1 (by have:=h i hi;grind)
 have l:au (fun i=> -pR (d i)*(s i - e)) n≤au (fun i=>d i*(s i - e)) n:=
  mG n fun i hi=>Rat.mul_le_mul_of_nonneg_right (lO (d i)).1 (by have:=h i hi;grind)
 have l2:au (fun i=> -pR (d i)*(s i - e)) n= -1*au (fun i=>pR (d i)*(s i - e)) n:=by
  rw [pK];exact br n fun i _=>by grind
 rw [l2] at l;obtain ⟨a1,a2,a3⟩:=lO (au d n);have m1:=Rat.mul_le_mul_of_nonneg_left a1 he;have m2:=Rat.mul_le_mul_of_nonneg_left a2 he;rw [e1];exact rP (by grind) (by grind)
section
variable {a b:Nat} {fs ss hs:List Nat}
def ug (a:Nat)(ss row:List Nat):Rat:=au (fun k=>pR (wS ((aY a ss row).getD k 0) - wS (row.getD k 0))) a
theorem wC {x y:Rat}(h:Nq 60 x y)(h0:0≤x)(hy:0≤y):pR (x - y)≤62/100000000*x:=by
 obtain ⟨h1,h2⟩:=h;have t:=dP 60 (by omega);rw [show ((60:Nat):Rat)=60 from rfl] at t;have k1:=Rat.mul_le_mul_of_nonneg_left t h0;have k2:=Rat.mul_le_mul_of_nonneg_left t hy;exact rP (by grind) (by grind)
theorem dZ.le {row:List Nat}{K:Nat}(h:dZ a row K)(hK:K≤40000):au (fun p=>wS (row.getD p 0)) a≤10005/10000∧0≤au (fun p=>wS (row.getD p 0)) a:=by
 have t:=dP K (by omega);have QJ:=cF hK;rw [show ((40000:Nat):Rat)=40000 from rfl] at QJ;have:=h.sum.1;exact ⟨by grind,cu a fun p hp=>bD (h.rg p hp).fin⟩
theorem M7 (g:cU a b fs ss hs){row:List Nat}{K:Nat}(h:dZ a row K)(hK:K≤39000):ug a ss (aY a ss row)≤(1+1/1000000 - (a:Rat)/33)*ug a ss row+3/2000000:=by
 have d:=g.d;have a4:=d.a4;have ls:=d.m.ls;obtain ⟨h',s1,q1⟩:=iR g h (by omega);obtain ⟨h'',s2,q2⟩:=iR g h' (by omega);have hS: ∀i k,i<a→k<a→1/33≤wS (ss.getD (i*a+k) 0):=fun i k hi hk=>by
  have e:=hZ ls hi hk;have:=xY (g.gs i hi) (i:=k) (by rw [dt ls hi];exact hk) (by rw [e];exact d.es i k hi hk);rw [e] at this;exact this.1
 have hk: ∀k,k<a→pR (wS ((aY a ss (aY a ss row)).getD k 0) - wS ((aY a ss row).getD k 0))≤
  1/33*pR (au (fun i=>wS ((aY a ss row).getD i 0) - wS (row.getD i 0)) a)+au (fun i=>pR (wS ((aY a ss row).getD i 0) - wS (row.getD i 0))*(wS (ss.getD (i*a+k) 0) - 1/33)) a+62/100000000*(wS ((aY a ss (aY a ss row)).getD k 0)+wS ((aY a ss row).getD k 0)):=fun k hk=>by
  have n1:=q1 k hk;have n2:=q2 k hk;rw [←jQ (row:=row) hk] at n1;rw [←jQ (row:=aY a ss row) hk] at n2;have p1:=bD (h'.rg k hk).fin;have p2:=bD (h''.rg k hk).fin;have b1:=wC n1 p1 (cu a fun i hi=>Rat.mul_nonneg (bD (h.rg i hi).fin) (bD (d.es i k hi hk).fin));have b2:=wC n2 p2 (cu a fun i hi=>Rat.mul_nonneg (bD (h'.rg i hi).fin) (bD (d.es i k hi hk).fin));have b3:=Pf (d:=fun i=>wS ((aY a ss row).getD i 0) - wS (row.getD i 0)) (s:=fun i=>wS (ss.getD (i*a+k) 0)) (e:=1/33) (n:=a) (by grind) fun i hi=>hS i k hi hk;have e:au (fun i=>(wS ((aY a ss row).getD i 0) - wS (row.getD i 0))*wS (ss.getD (i*a+k) 0)) a+au (fun i=>wS (row.getD i 0)*wS (ss.getD (i*a+k) 0)) a=au (fun i=>wS ((aY a ss row).getD i 0)*wS (ss.getD (i*a+k) 0)) a:=by
   rw [kr];exact br a fun i _=>by grind
  generalize au (fun i=>(wS ((aY a ss row).getD i 0) - wS (row.getD i 0))*wS (ss.getD (i*a+k) 0)) a=D at*;generalize au (fun i=>wS (row.getD i 0)*wS (ss.getD (i*a+k) 0)) a=X at*;generalize au (fun i=>wS ((aY a ss row).getD i 0)*wS (ss.getD (i*a+k) 0)) a=Y at*;obtain ⟨c1,c2,_⟩:=lO (wS ((aY a ss row).getD k 0) - X);obtain ⟨c3,c4,_⟩:=lO (wS ((aY a ss (aY a ss row)).getD k 0) - Y);obtain ⟨c5,c6,_⟩:=lO D;exact rP (by grind) (by grind)
 have hs:=mG a hk;have e1:au (fun k=>1/33*pR (au (fun i=>wS ((aY a ss row).getD i 0) - wS (row.getD i 0)) a)+au (fun i=>pR (wS ((aY a ss row).getD i 0) - wS (row.getD i 0))*(wS (ss.getD (i*a+k) 0) - 1/33)) a+62/100000000*(wS ((aY a ss (aY a ss row)).getD k 0)+wS ((aY a ss row).getD k 0))) a=
  (a:Rat)*(1/33*pR (au (fun i=>wS ((aY a ss row).getD i 0) - wS (row.getD i 0)) a))+au (fun i=>pR (wS ((aY a ss row).getD i 0) - wS (row.getD i 0))*(au (fun k=>wS (ss.getD (i*a+k) 0)) a - (a:Rat)*(1/33))) a+62/100000000*(au (fun k=>wS ((aY a ss (aY a ss row)).getD k 0)) a+au (fun k=>wS ((aY a ss row).getD k 0)) a):=by
  have hc: ∀(c:Rat) (n:Nat),au (fun _=>c) n=(n:Rat)*c:=fun c n=>by
   induction n with
   |zero=>show (0:Rat)=((0:Nat):Rat)*c;rw [show ((0:Nat):Rat)=0 from rfl];grind
   |succ n ih=>show au (fun _=>c) n+c=_;rw [ih,Rat.natCast_add,show ((1:Nat):Rat)=1 from rfl];grind
  rw [←kr,←kr,hc,←pK,gu (fun k i=>pR (wS ((aY a ss row).getD i 0) - wS (row.getD i 0))*(wS (ss.getD (i*a+k) 0) - 1/33)) a a,kr]
  congr 2
  refine br a fun i _=> ?_;rw [←pK]
  congr 1
  rw [show au (fun k=>wS (ss.getD (i*a+k) 0)) a - (a:Rat)*(1/33)=au (fun k=>wS (ss.getD (i*a+k) 0)) a+(a:Rat)*(-(1/33)) by grind,←hc,kr];exact br a fun k _=>by grind
 rw [e1] at hs;have t72:=dP 72 (by omega);rw [show ((72:Nat):Rat)=72 from rfl] at t72;have e2:au (fun i=>pR (wS ((aY a ss row).getD i 0) - wS (row.getD i 0))*(au (fun k=>wS (ss.getD (i*a+k) 0)) a - (a:Rat)*(1/33))) a≤ug a ss row*(1+1/1000000 - (a:Rat)/33):=by
  unfold ug;rw [fW];refine mG a fun i hi=>Rat.mul_le_mul_of_nonneg_left ?_ (lO _).2.2;have:=(ve g hi).1;grind
 obtain ⟨l0,WR⟩:=h.le (by omega);obtain ⟨l1,VZ⟩:=h'.le (by omega);obtain ⟨l2,l2'⟩:=h''.le (by omega);have e3:pR (au (fun i=>wS ((aY a ss row).getD i 0) - wS (row.getD i 0)) a)≤14/10000000:=by
  have e:au (fun i=>wS ((aY a ss row).getD i 0) - wS (row.getD i 0)) a+au (fun p=>wS (row.getD p 0)) a=au (fun k=>wS ((aY a ss row).getD k 0)) a:=by
   rw [kr];exact br a fun i _=>by grind
  have t:=dP 132 (by omega);rw [show ((132:Nat):Rat)=132 from rfl] at t;obtain ⟨x1,x2⟩:=s1;generalize au (fun p=>wS (row.getD p 0)) a=W at*;generalize au (fun k=>wS ((aY a ss row).getD k 0)) a=V at*;have k1:=Rat.mul_le_mul_of_nonneg_left t WR;have k2:=Rat.mul_le_mul_of_nonneg_left t VZ;exact rP (by grind) (by grind)
 have hac:=cF a4;rw [show ((4:Nat):Rat)=4 from rfl] at hac;have ha0:(0:Rat)≤(a:Rat):=cF (Nat.zero_le a);have e4:=Rat.mul_le_mul_of_nonneg_left e3 ha0;have hd:ug a ss (aY a ss row)≤_:=hs;generalize au (fun k=>wS ((aY a ss (aY a ss row)).getD k 0)) a=U at*;generalize au (fun k=>wS ((aY a ss row).getD k 0)) a=V at*;generalize pR (au (fun i=>wS ((aY a ss row).getD i 0) - wS (row.getD i 0)) a)=sg0 at*;generalize au (fun i=>pR (wS ((aY a ss row).getD i 0) - wS (row.getD i 0))*(au (fun k=>wS (ss.getD (i*a+k) 0)) a - (a:Rat)*(1/33))) a=Q at*;grind
theorem V0 {x y z:Rat}(h1:x≤z)(h2:y≤z):JR x y≤z:=by unfold JR;split<;>assumption
theorem aaj {x y:Rat}:x≤JR x y:=by unfold JR;split<;>grind
theorem aak {x y:Rat}:y≤JR x y:=by unfold JR;split<;>grind
theorem Am (g:cU a b fs ss hs){row:List Nat}{K:Nat}(h:dZ a row K)(hK:K≤40000):
 qN a ss row a≤ug a ss row+3/10000000∧ ∀k,k<a→pR (wS ((aY a ss row).getD k 0) - wS (row.getD k 0))≤qN a ss row a+3/10000000:=by
 have hk: ∀k,k<a→pR (wS (aq .sub .f32 (qM a ss row k a) (row.getD k 0)))≤pR (wS ((aY a ss row).getD k 0) - wS (row.getD k 0))+3/10000000∧pR (wS ((aY a ss row).getD k 0) - wS (row.getD k 0))≤pR (wS (aq .sub .f32 (qM a ss row k a) (row.getD k 0)))+3/10000000:=fun k hk=>by
  obtain ⟨_,_,x1,x2⟩:=DC g h hK hk;rw [jQ hk];obtain ⟨c1,c2,_⟩:=lO (wS (aq .sub .f32 (qM a ss row k a) (row.getD k 0)));obtain ⟨c3,c4,_⟩:=lO (wS (qM a ss row k a) - wS (row.getD k 0));exact ⟨rP (by grind) (by grind),rP (by grind) (by grind)⟩
 have d0:0≤ug a ss row:=cu a fun k _=>(lO _).2.2;constructor;have: ∀n,n≤a→qN a ss row n≤ug a ss row+3/10000000:=fun n=>by
  induction n with
  |zero=>intro _;show (0:Rat)≤_;grind
  |succ n ih=>
   intro hn;refine V0 (ih (by omega)) ?_;have h1:=(hk n (by omega)).1;have h2:pR (wS ((aY a ss row).getD n 0) - wS (row.getD n 0))≤ug a ss row:=sW (u:=fun k=>pR (wS ((aY a ss row).getD k 0) - wS (row.getD k 0))) a (fun i _=>(lO _).2.2) n (by omega);grind
 exact this a (Nat.le_refl _);have: ∀n,n≤a→ ∀k,k<n→pR (wS ((aY a ss row).getD k 0) - wS (row.getD k 0))≤qN a ss row n+3/10000000:=fun n=>by
  induction n with
  |zero=>intro _ k hk;omega
  |succ n ih=>
   intro hn k SZ;by_cases e:k<n;have h1:=ih (by omega) k e;have h2:qN a ss row n≤qN a ss row (n+1):=aaj;grind;have:k=n:=by omega
   subst this;have h1:=(hk k (by omega)).2;have h2:pR (wS (aq .sub .f32 (qM a ss row k a) (row.getD k 0)))≤qN a ss row (k+1):=aak;grind
 exact this a (Nat.le_refl _)
noncomputable def nm (a:Nat)(ss:List Nat)(JL:Rat):Nat→List Nat→Option (Nat×List Nat)
 |0,_=>none
 |n+1,row=>if qN a ss row a≤JL then some (n,aY a ss row) else nm a ss JL n (aY a ss row)
def gC:Rat:=13743895/137438953472
theorem uh:FS 953267991∧wS 953267991=gC:=by
 have h:bQ 953267991=13743895*2^112:=by decide
 have h2:bQ 953267991≤2^149:=by decide
 refine ⟨Fp (b:=149) (by omega) h2 (by omega),?_⟩;rw [qL (by omega),h,Fq,show (2:Nat)^149=137438953472*2^112 by decide,Rat.natCast_mul,Rat.natCast_mul,show ((13743895:Nat):Rat)=13743895 from rfl,show ((137438953472:Nat):Rat)=137438953472 from rfl];unfold gC;have:=jz 112;generalize ((2^112:Nat):Rat)=z at*;grind
theorem M8 {row:List Nat}{K:Nat}(h:dZ a row K):Mf row=true:=lE.2 fun j _ hj=>by
 have hl:=h.len;exact wo (h.num (by omega)).1 (by omega) (by omega)
theorem P5 (g:cU a b fs ss hs){M:Nat}(hM:M≤256): ∀n i row,i+n=M→dZ a row (100+132*i)→
 rounds (dg ((a:Int),(b:Int),fs,ss,hs) 953267991 (M:Int)) ((i:Int),row)=some (match nm a ss gC n row with|none=> .inl ()|some (left,r)=> .inr (((M - left:Nat):Int),true,r))
 |0,i,row,hi,h=>by
  have:i=M:=by omega
  subst this;have e:dg ((a:Int),(b:Int),fs,ss,hs) 953267991 (i:Int) ((i:Int),row)=some (.inr (.inl ())):=by
   unfold dg;simp only [nM (Nat.le_refl _),cond_false]
  rw [bn,e];rfl
 |n+1,i,row,hi,h=>by
  have a1:=g.d.m.n1;have a4:=g.d.a4;obtain ⟨ch,e1,e2,e3⟩:=Pe g h (by omega) (i:Int);have h':=(iR g h (by omega)).1;have DH:=ld a ss row;have e:dg ((a:Int),(b:Int),fs,ss,hs) 953267991 (M:Int) ((i:Int),row)=some (if qN a ss row a≤gC then .inr (.inr (((i+1:Nat):Int),true,aY a ss row)) else .inl (((i+1:Nat):Int),aY a ss row)):=by
   unfold dg;simp only [nL (show i<M by omega),cond_true,Int.toNat_natCast];rw [guard_pos ⟨by omega,by omega⟩,e1];simp only [Option.bind_some,M3 e2 uh.1,uh.2,e3,Fc (show (aY a ss row).length≤4294967296 by omega),M8 h',cL (show i<M by omega) (show M≤4294967296 by omega)];by_cases c:qN a ss row a≤gC;rw [decide_eq_true c,if_pos c];rfl;rw [decide_eq_false c,if_neg c];rfl
  rw [bn,e];unfold nm;by_cases c:qN a ss row a≤gC;rw [if_pos c,if_pos c];show some _=some (Sum.inr (((M - n:Nat):Int),true,aY a ss row));rw [show M - n=i+1 by omega];rw [if_neg c,if_neg c];exact P5 g hM n (i+1) _ (by omega) (by rw [show 100+132*(i+1)=100+132*i+132 by omega];exact h')
theorem P6 (g:cU a b fs ss hs){M:Nat}(hM:M≤256): ∀n i row,i+n=M→dZ a row (100+132*i)→
 rounds (dh ((a:Int),(b:Int),fs,ss,hs) 953267991 (M:Int)) (((i+1:Nat):Int),row)=some (match nm a ss gC n row with|none=> .inl ()|some (left,r)=> .inr (((M - left:Nat):Int),r))
 |0,i,row,hi,h=>by
  have:i=M:=by omega
  subst this;have hd:decide (((i+1:Nat):Int)≤(i:Int))=false:=decide_eq_false (by omega);have e:dh ((a:Int),(b:Int),fs,ss,hs) 953267991 (i:Int) (((i+1:Nat):Int),row)=some (.inr (.inl ())):=by
   unfold dh;simp only [hd,cond_false]
  rw [bn,e];rfl
 |n+1,i,row,hi,h=>by
  have a1:=g.d.m.n1;have a4:=g.d.a4;obtain ⟨ch,e1,e2,e3⟩:=M6 g h (by omega) ((i+1:Nat):Int);have h':=(iR g h (by omega)).1;have hd:decide (((i+1:Nat):Int)≤(M:Int))=true:=decide_eq_true (by omega);have e:dh ((a:Int),(b:Int),fs,ss,hs) 953267991 (M:Int) (((i+1:Nat):Int),row)=some (if qN a ss row a≤gC then .inr (.inr (((i+1:Nat):Int),aY a ss row)) else .inl (((i+1+1:Nat):Int),aY a ss row)):=by
   unfold dh;simp only [hd,cond_true,e1,Option.bind_some,M3 e2 uh.1,uh.2,e3,cL (show i+1<M+1 by omega) (show M+1≤4294967296 by omega)];by_cases c:qN a ss row a≤gC;rw [decide_eq_true c,if_pos c];rfl;rw [decide_eq_false c,if_neg c];rfl
  rw [bn,e];unfold nm;by_cases c:qN a ss row a≤gC;rw [if_pos c,if_pos c];show some _=some (Sum.inr (((M - n:Nat):Int),aY a ss row));rw [show M - n=i+1 by omega];rw [if_neg c,if_neg c];exact P6 g hM n (i+1) _ (by omega) (by rw [show 100+132*(i+1)=100+132*i+132 by omega];exact h')
end
end Go.Proofs
namespace Go.Proofs
open Go.Ide Go.IntWalk
theorem HC {x c k d:Nat}(hx:x≤2130706432)(h:bQ x=c*2^k)(hd:2^149=d*2^k)(h0:0<d):wS x=(c:Rat)/(d:Rat):=by
 rw [qL hx,h,Fq,hd,Rat.natCast_mul,Rat.natCast_mul];have h1:=jz k;have h2:=uc h0;generalize ((2^k:Nat):Rat)=z at*;generalize (d:Rat)=e at*;grind
def pL (a:Nat):List Nat:=List.replicate a (aq .quo .f32 1065353216 (bK .f32 (a:Int)))
theorem FA:aq .quo .f32 1065353216 (bK .f32 ((1:Nat):Int))=1065353216∧aq .quo .f32 1065353216 (bK .f32 ((2:Nat):Int))=1056964608∧aq .quo .f32 1065353216 (bK .f32 ((3:Nat):Int))=1051372203∧aq .quo .f32 1065353216 (bK .f32 ((4:Nat):Int))=1048576000:=by decide+kernel
theorem sY {a q:Nat}{w:Rat}(hq:q≤2130706432)(hw:wS q=w)(h1:1/64≤w)(h2:w≤2)(hs:Nq 100 ((a:Rat)*w) 1):dZ a (List.replicate a q) 100:=by
 have hg: ∀i,i<a→(List.replicate a q).getD i 0=q:=fun i hi=>by
  rw [List.getD_eq_getElem?_getD,List.getElem?_replicate,if_pos hi];rfl
 refine ⟨by simp,fun i hi=> ?_,?_⟩;rw [hg i hi];exact IE hq (by rw [hw];exact h1) (by rw [hw];exact h2);rw [br a fun i hi=>by rw [hg i hi,hw]];have hc: ∀(n:Nat),au (fun _=>w) n=(n:Rat)*w:=fun n=>by
  induction n with
  |zero=>show (0:Rat)=((0:Nat):Rat)*w;rw [show ((0:Nat):Rat)=0 from rfl];grind
  |succ n ih=>show au (fun _=>w) n+w=_;rw [ih,Rat.natCast_add,show ((1:Nat):Rat)=1 from rfl];grind
 rw [hc];exact hs
theorem yd {a:Nat}(a1:1≤a)(a4:a≤4):dZ a (pL a) 100:=by
 obtain ⟨c1,c2,c3,c4⟩:=FA;have R8:=qH 100;have one:Nq 100 1 1:=⟨by grind,by grind⟩;have hk:a=1∨a=2∨a=3∨a=4:=by omega
 unfold pL;rcases hk with rfl|rfl|rfl|rfl
 rw [c1];refine sY (w:=1) (by omega) SE (by grind) (by grind) ?_;rw [show ((1:Nat):Rat)=1 from rfl,show (1:Rat)*1=1 by grind];exact one;rw [c2];have h:bQ 1056964608=1*2^148:=by decide
 refine sY (w:=1/2) (by omega) (HC (d:=2) (by omega) h (by decide) (by omega)) (by grind) (by grind) ?_;rw [show ((2:Nat):Rat)=2 from rfl,show (2:Rat)*(1/2)=1 by grind];exact one;rw [c3];have h:bQ 1051372203=11184811*2^124:=by decide
 refine sY (w:=11184811/33554432) (by omega) (HC (d:=33554432) (by omega) h (by decide) (by omega)) (by grind) (by grind) ?_;rw [show ((3:Nat):Rat)=3 from rfl];exact Nq.rJ (e:=1/33554432) ⟨by grind,by grind⟩ (by rw [show ((100:Nat):Rat)=100 from rfl];grind) (by rw [show ((100:Nat):Rat)=100 from rfl];grind) (by grind) (by grind);rw [c4];have h:bQ 1048576000=1*2^147:=by decide
 refine sY (w:=1/4) (by omega) (HC (d:=4) (by omega) h (by decide) (by omega)) (by grind) (by grind) ?_;rw [show ((4:Nat):Rat)=4 from rfl,show (4:Rat)*(1/4)=1 by grind];exact one
theorem SR:(94/100:Rat)^200≤1/100000:=by decide+kernel
section
variable {a b:Nat} {fs ss hs:List Nat}
theorem Pg {row:List Nat}{K:Nat}(g:cU a b fs ss hs)(h:dZ a row K)(hK:K≤39000):ug a ss row≤21/10:=by
 obtain ⟨h',_,_⟩:=iR g h (by omega);obtain ⟨l0,_⟩:=h.le (by omega);obtain ⟨l1,_⟩:=h'.le (by omega);have:ug a ss row≤au (fun k=>wS ((aY a ss row).getD k 0)+wS (row.getD k 0)) a:=mG a fun k hk=>by
  have p1:=bD (h'.rg k hk).fin;have p2:=bD (h.rg k hk).fin;exact rP (by grind) (by grind)
 rw [←kr] at this;grind
theorem BU (g:cU a b fs ss hs)(a2:2≤a): ∀n i row,i+n=250→i≤200→dZ a row (100+132*i)→ug a ss row≤21/10*(94/100:Rat)^i+3/100000→
 ∃left r xH K',nm a ss gC n row=some (left,r)∧left<250∧dZ a xH K'∧K'≤39000∧r=aY a ss xH∧qN a ss xH a≤gC
 |0,i,row,hi,h2,_,_=>by omega
 |n+1,i,row,hi,h2,h,hd=>by
  unfold nm;by_cases c:qN a ss row a≤gC;rw [if_pos c];exact ⟨n,_,row,_,rfl,by omega,h,by omega,rfl,c⟩;rw [if_neg c];have cp:i<200:=by
   apply Nat.lt_of_not_le;intro qU;have e:i=200:=by omega
   subst e;have h1:=(Am g h (by omega)).1;have:=SR;unfold gC at c;grind
  have hc:=M7 g h (by omega);have h':=(iR g h (by omega)).1;refine BU g a2 n (i+1) _ (by omega) (by omega) (by rw [show 100+132*(i+1)=100+132*i+132 by omega];exact h') ?_;rw [Rat.pow_succ];have ha:=cF a2;rw [show ((2:Nat):Rat)=2 from rfl] at ha;have d0:0≤ug a ss row:=cu a fun k _=>(lO _).2.2;have m1:=Rat.mul_le_mul_of_nonneg_right (show 1+1/1000000 - (a:Rat)/33≤9395/10000 by grind) d0;have hz:0≤(94/100:Rat)^i:=by
   have:=((show Bd (94/100) (94/100) from ⟨by grind,by grind⟩).pow i).1;grind
  generalize (94/100:Rat)^i=z at*;grind
theorem M9 (g:cU a b fs ss hs)(h1:a=1): ∃left r xH K',nm a ss gC 250 (pL a)=some (left,r)∧left<250∧dZ a xH K'∧K'≤39000∧r=aY a ss xH∧qN a ss xH a≤gC:=by
 have h:=yd (a:=a) (by omega) (by omega);have hd:ug a ss (pL a)≤3/1000000:=by
  obtain ⟨h',s,_⟩:=iR g h (by omega);obtain ⟨l0,WR⟩:=h.le (by omega);obtain ⟨l1,VZ⟩:=h'.le (by omega);have t:=dP 132 (by omega);rw [show ((132:Nat):Rat)=132 from rfl] at t;unfold ug;subst h1;have e: ∀f:Nat→Rat,au f 1=f 0:=fun f=>by show 0+f 0=f 0;grind
  rw [e] at s l0 WR l1 VZ⊢;rw [e] at s;obtain ⟨x1,x2⟩:=s;have k1:=Rat.mul_le_mul_of_nonneg_left t WR;have k2:=Rat.mul_le_mul_of_nonneg_left t VZ;exact rP (by grind) (by grind)
 have hc:=(Am g h (by omega)).1;have c:qN a ss (pL a) a≤gC:=by unfold gC;grind
 refine ⟨249,aY a ss (pL a),pL a,100,?_,by omega,h,by omega,rfl,c⟩;show (if qN a ss (pL a) a≤gC then some (249,aY a ss (pL a)) else _)=_;rw [if_pos c]
theorem Na (g:cU a b fs ss hs): ∃left r xH K',nm a ss gC 250 (pL a)=some (left,r)∧left<250∧dZ a xH K'∧K'≤39000∧r=aY a ss xH∧qN a ss xH a≤gC:=by
 have a1:=g.d.m.n1;have a4:=g.d.a4;by_cases h1:a=1;exact M9 g h1;have h:=yd (a:=a) (by omega) (by omega);refine BU g (by omega) 250 0 (pL a) (by omega) (by omega) h ?_;have:=Pg g h (by omega);rw [Rat.pow_zero];grind
theorem Nb (g:cU a b fs ss hs){row:List Nat}{K:Nat}(h:dZ a row K)(hK:K≤39000)(c:qN a ss row a≤gC){k:Nat}(hk:k<a):
 je (5/10000) (au (fun i=>wS ((aY a ss row).getD i 0)*wS (ss.getD (i*a+k) 0)) a) (wS ((aY a ss row).getD k 0)):=by
 have d:=g.d;have a4:=d.a4;have ls:=d.m.ls;obtain ⟨h',_,q⟩:=iR g h (by omega);obtain ⟨l1,VZ⟩:=h'.le (by omega);have hS: ∀i,i<a→0≤wS (ss.getD (i*a+k) 0)∧wS (ss.getD (i*a+k) 0)≤1:=fun i hi=>by
  have e:=hZ ls hi hk;have:=xY (g.gs i hi) (i:=k) (by rw [dt ls hi];exact hk) (by rw [e];exact d.es i k hi hk);rw [e] at this;exact ⟨by grind,this.2⟩
 have n1:=q k hk;rw [←jQ (row:=row) hk] at n1;have p1:=bD (h'.rg k hk).fin;have b1:=wC n1 p1 (cu a fun i hi=>Rat.mul_nonneg (bD (h.rg i hi).fin) (hS i hi).1);have hle:wS ((aY a ss row).getD k 0)≤au (fun p=>wS ((aY a ss row).getD p 0)) a:=sW (u:=fun p=>wS ((aY a ss row).getD p 0)) a (fun i hi=>bD (h'.rg i hi).fin) k hk;have cH:=(Am g h (by omega)).2;have Td: ∀i,i<a→je (10040/100000000) (wS ((aY a ss row).getD i 0)*wS (ss.getD (i*a+k) 0)) (wS (row.getD i 0)*wS (ss.getD (i*a+k) 0)):=fun i hi=>by
  have x:=cH i hi;obtain ⟨s0,s1⟩:=hS i hi;obtain ⟨c1,c2,c3⟩:=lO (wS ((aY a ss row).getD i 0) - wS (row.getD i 0));unfold gC at c;have m1:=Rat.mul_le_mul_of_nonneg_right (show wS ((aY a ss row).getD i 0) - wS (row.getD i 0)≤10040/100000000 by grind) s0;have m2:=Rat.mul_le_mul_of_nonneg_right (show -(10040/100000000)≤wS ((aY a ss row).getD i 0) - wS (row.getD i 0) by grind) s0;constructor<;>grind
 have hA:=Af a Td;have hac:=cF a4;rw [show ((4:Nat):Rat)=4 from rfl] at hac;obtain ⟨x1,x2⟩:=hA;obtain ⟨c1,c2,c3⟩:=lO (wS ((aY a ss row).getD k 0) - au (fun i=>wS (row.getD i 0)*wS (ss.getD (i*a+k) 0)) a);generalize au (fun i=>wS (row.getD i 0)*wS (ss.getD (i*a+k) 0)) a=X at*;generalize au (fun i=>wS ((aY a ss row).getD i 0)*wS (ss.getD (i*a+k) 0)) a=Y at*;constructor<;>grind
theorem FB:bS 953267991=some true∧sx .f32 953267991 0=true∧ki 953267991=some true:=by
 have hf:fin 953267991=true:=wo uh.1.1 (by omega) (by omega);have h2:sx .f32 953267991 0=true:=by
  rw [SI uh.1 lN,uh.2,lM];exact decide_eq_true (by unfold gC;grind)
 refine ⟨?_,h2,?_⟩;unfold bS;show some (fin 953267991)=_;rw [hf];unfold ki lI;unfold fin at hf;simp only [Option.bind_some,hf,cond_true,h2]
theorem V1 (a:Nat)(h:a≤4):lH (a:Int)=some (pL a):=by
 have:=aM (f:=kB (a:Int)) (fun i out=>(((i:Nat):Int),out)) (fun i out=>out++[aq .quo .f32 1065353216 (bK .f32 (a:Int))]) id (n:=a) (fun i out=>out=List.replicate i (aq .quo .f32 1065353216 (bK .f32 (a:Int))))
  (fun i out hi ho=>⟨by
   unfold kB;simp only [nL hi,cond_true,cL hi (show a≤4294967296 by omega)];rw [guard_pos (by rw [ho];simp only [List.length_replicate,List.length_singleton,bg];omega)],by
   rw [ho,List.replicate_succ']⟩)
  (fun out _=>by
   unfold kB;simp only [nM (Nat.le_refl _),cond_false];rfl) a 0 [] (by omega) rfl
 simp only [Int.natCast_zero] at this;unfold lH;rw [this.1];simp only [id,Option.bind_some,this.2];rfl
theorem An {M:Nat}(h1:1≤M)(h2:M≤256):bf (M:Int) 1 256=some true∧cr (M:Int) 1 256=some true:=by
 have e1:decide ((M:Int)≥1)=true:=decide_eq_true (by omega);have e2:decide ((M:Int)≤256)=true:=decide_eq_true (by omega);unfold bf cr;rw [e1,e2];exact ⟨rfl,rfl⟩
theorem FC (g:cU a b fs ss hs){M:Nat}(h1:1≤M)(h2:M≤256):dD ((a:Int),(b:Int),fs,ss,hs) 953267991 (M:Int)=some (match nm a ss gC M (pL a) with|none=>([],0,false)|some (left,r)=>(r,((M - left:Nat):Int),true)):=by
 have a1:=g.d.m.n1;have a4:=g.d.a4;have h:=P5 g h2 M 0 (pL a) (by omega) (yd a1 a4);simp only [Int.natCast_zero] at h;obtain ⟨f1,f2,_⟩:=FB;unfold dD;simp only [pF,g.d.ok,f1,f2,(An h1 h2).1,Option.bind_some,Bool.not_true,cond_false,Pd _ a (by omega)];have h:rounds (dg ((a:Int),(b:Int),fs,ss,hs) 953267991 (M:Int)) ((0:Int),List.replicate a (aq .quo .f32 1065353216 (bK .f32 (a:Int))))=_:=h;rw [h];simp only [Option.bind_some];cases nm a ss gC M (pL a) with
 |none=>rfl
 |some p=>rfl
theorem JS (g:cU a b fs ss hs){M:Nat}(h1:1≤M)(h2:M≤256):fC ((a:Int),(b:Int),fs,ss,hs) 953267991 (M:Int)=some (match nm a ss gC M (pL a) with|none=>([],0,false)|some (left,r)=>(r,((M - left:Nat):Int),true)):=by
 have a1:=g.d.m.n1;have a4:=g.d.a4;have h:=P6 g h2 M 0 (pL a) (by omega) (yd a1 a4);obtain ⟨_,_,f3⟩:=FB;unfold fC;simp only [wk,g.d.ok,f3,(An h1 h2).2,Option.bind_some,Bool.not_true,cond_false,V1 a (by omega)];have h:rounds (dh ((a:Int),(b:Int),fs,ss,hs) 953267991 (M:Int)) ((1:Int),pL a)=_:=h;rw [h];simp only [Option.bind_some];cases nm a ss gC M (pL a) with
 |none=>rfl
 |some p=>rfl
end
end Go.Proofs
namespace Go.Proofs
open Go.Ide Go.IntWalk
theorem JT {n:Nat}(h:n≤16777216):bK .f32 (n:Int)≤2130706432:=by
 have e:FloatKind.f32.nearest (n:Int)=RN n 0:=by
  show Ieee.single.nearest (decide ((n:Int)<0)) (n:Int).natAbs 0=_;rw [decide_eq_false (by omega),Int.natAbs_natCast];rfl
 have hc:bK .f32 (n:Int)=RN n 0:=by
  unfold bK;rw [e];exact lF (gG _ _ _) (Nat.le_refl _)
 have h1:=mM n 149 0;rw [show (0:Int) - ((149:Nat):Int)= -149 - ((0:Nat):Int) by omega] at h1;have h2:=Fh (u:=n*2^149) (m:=173) (s:=0) (by omega) (by omega) (by
  rw [show (173:Nat)+0=24+149 by omega,Nat.pow_add];exact Nat.mul_le_mul_right _ (by omega))
 rw [hc,←h1];have:pw 173=1266679808:=by decide
 omega
theorem HD {x:Nat}(hx:x≤2130706432):aq .mul .f32 x 864026624=aq .quo .f32 x 1266679808:=by
 obtain ⟨m,i,e1,_⟩:=gy hx;have e2:Ieee.single.read 864026624= .number false 8388608 (-47):=by decide+kernel
 have e3:Ieee.single.read 1266679808= .number false 8388608 1:=by decide+kernel
 have l:Nat.log2 8388608=23:=by decide+kernel
 have h1:floatBits .mul .f32 x 864026624=some (Ieee.single.nearest false (m*8388608) (-149+(i:Int)+ -47)):=by
  show Ieee.single.mul x 864026624=_;unfold Ieee.Format.mul;rw [e1,e2];rfl
 have hm:m.log2≤24:=by
  by_cases h0:m=0;rw [h0];decide;have:=qk e1;have:=(Nat.log2_lt (k:=24) h0).2 (by omega);omega
 have h2:floatBits .quo .f32 x 1266679808=some (Ieee.single.nearest (false^^false) (2*(m*2^(23+2+Nat.log2 8388608 - m.log2)/8388608)+(m*2^(23+2+Nat.log2 8388608 - m.log2)%8388608 != 0).toNat) (-149+(i:Int) - 1 - ((23+2+Nat.log2 8388608 - m.log2:Nat):Int) - 1)):=by
  have hf:Ieee.single.fractionBits=23:=rfl;show Ieee.single.div x 1266679808=_;unfold Ieee.Format.div;rw [e1,e3];unfold Ieee.Datum.quotient;simp only [hf,Nat.shiftLeft_eq];rw [if_neg (by omega)];rfl
 unfold aq;rw [h1,h2];simp only
 congr 1
 rw [l];obtain ⟨t,ht⟩: ∃t,23+2+23 - m.log2=23+t:=⟨25 - m.log2,by omega⟩;rw [ht];have e4:m*2^(23+t)=m*2^t*8388608:=by rw [Nat.pow_add,show (2:Nat)^23=8388608 by decide];ac_rfl
 rw [e4,Nat.mul_div_cancel _ (by omega),Nat.mul_mod_left];have e5:2*(m*2^t)+((0:Nat) != 0).toNat=m*2^(t+1):=by
  rw [Nat.pow_succ];show 2*(m*2^t)+0=_;rw [Nat.add_zero,←Nat.mul_assoc m,Nat.mul_comm]
 rw [e5];have s1:=cI (f:=Ieee.single) (neg:=false) (mag:=m) (s:=t+1) (place:= -149+(i:Int) - 24);have s2:=cI (f:=Ieee.single) (neg:=false) (mag:=m) (s:=23) (place:= -149+(i:Int) - 24);rw [show (2:Nat)^23=8388608 by decide] at s2;rw [show -149+(i:Int) - 24 - ((23:Nat):Int)= -149+(i:Int)+ -47 by omega] at s2;rw [show -149+(i:Int) - 24 - ((t+1:Nat):Int)= -149+(i:Int) - 1 - ((23+t:Nat):Int) - 1 by omega] at s1;rw [s2];exact s1.symm
def np (s:Int):Int:=Int.tmod (ai .i64 (az .i64 (1664525:Int) s) (1013904223:Int)) (4294967296:Int)
def DD (s:Int):Prop:=0≤s∧s<4294967296
theorem Ao {s:Int}(h:DD s):DD (np s):=by
 obtain ⟨h1,h2⟩:=h;unfold np;have e:az .i64 (1664525:Int) s=1664525*s:=kb (by omega);rw [e,lX (by omega)];exact uZ (by omega) (by omega)
def shr (s:Int):Nat:=aq .quo .f32 (bK .f32 (IntKind.wrap .i64 (Int.tdiv s (256:Int)))) (1266679808:Nat)
theorem Ap (s:Int):eX s=some (shr (np s),np s):=rfl
noncomputable def pk (row:List Nat)(x:Nat):Int:=(ew row x).getD 0
theorem pM {row:List Nat}{x:Nat}(h1:1≤row.length)(h2:row.length≤1000):ew row x=some (pk row x)∧0≤pk row x∧pk row x<(row.length:Int):=by
 obtain ⟨r,er,v,hr,r1,r2⟩:=ir (f:=iO row x) (fun m st=> ∃(i s:Nat) (last:Int),m+i=row.length∧st=(s,last,(i:Int))∧0≤last∧last<(row.length:Int))
  (fun r=> ∃v,(r= .inl v∨r= .inr v)∧0≤v∧v<(row.length:Int)) (by
   rintro m st ⟨i,s,last,hm,rfl,l1,l2⟩;unfold iO;by_cases hi:i<row.length;have hn:=cL hi (show row.length≤4294967296 by omega);simp only [af,nL hi,cond_true,guard_pos (eG hi),Int.toNat_natCast,hn];cases pP .f32 (aq .add .f32 s (row.getD i 0)) x with
   |true=>exact .inr ⟨_,rfl,_,.inr rfl,by omega,by omega⟩
   |false=>
    cases pP .f32 (row.getD i 0) 0 with
    |true=>exact .inl ⟨m - 1,_,by omega,rfl,i+1,_,_,by omega,rfl,by omega,by omega⟩
    |false=>exact .inl ⟨m - 1,_,by omega,rfl,i+1,_,_,by omega,rfl,l1,l2⟩
   have e:i=row.length:=by omega
   simp only [af,nM (show row.length≤i by omega),cond_false];exact .inr ⟨_,rfl,_,.inl rfl,l1,l2⟩) row.length ((0:Nat),(0:Int),(0:Int)) ⟨0,0,0,by omega,rfl,by omega,by omega⟩
 have e:ew row x=some v:=by
  unfold ew;rw [er];rcases hr with rfl|rfl<;>rfl
 have e2:pk row x=v:=by unfold pk;rw [e];rfl
 rw [e2];exact ⟨e,r1,r2⟩
theorem wE {row:List Nat}{s:Int}(h:DD s)(h1:1≤row.length)(h2:row.length≤1000):mq row s=some (pk row (shr (np s)),np s):=by
 obtain ⟨q1,q2⟩:=Ao h;have SS:aq .mul .f32 (bK .f32 (IntKind.wrap .i64 (Int.tdiv (np s) (256:Int)))) 864026624=shr (np s):=by
  unfold shr;have e:Int.tdiv (np s) 256=np s/256:=Int.tdiv_eq_ediv_of_nonneg q1;have e2:IntKind.wrap .i64 (np s/256)=np s/256:=i64_in _ (by omega);obtain ⟨n,hn⟩: ∃n:Nat,np s/256=(n:Int):=⟨(np s/256).toNat,by omega⟩;rw [e,e2,hn];exact HD (JT (by omega))
 have hB:uU row (shr (np s))=iO row (shr (np s)):=rfl;have hp:=(pM (x:=shr (np s)) h1 h2).1;unfold ew at hp;unfold mq;show (some (np s)).bind _=_;simp only [Option.bind_some];rw [SS,hB];cases hr:rounds (iO row (shr (np s))) ((0:Nat),(0:Int),(0:Int)) with
 |none=>rw [hr] at hp;cases hp
 |some r=>
  rw [hr] at hp;cases r with
  |inl v=>injection hp with hp;show some (v,np s)=_;rw [hp]
  |inr v=>injection hp with hp;show some (v,np s)=_;rw [hp]
abbrev Aq:=Int×Int×List Int×List Int
section
variable {a b:Nat} {fs ss hs:List Nat}
noncomputable def tp (a b:Nat)(ss hs:List Nat)(s:Aq):Aq:=
 (np (np s.1),pk (cz ss a s.2.1.toNat) (shr (np (np s.1))),s.2.2.1++[pk (cz hs b s.2.1.toNat) (shr (np s.1))],s.2.2.2++[pk (cz ss a s.2.1.toNat) (shr (np (np s.1)))])
theorem vn {xs:List Nat}{w n i:Nat}(hn:n≤1000)(hw:w≤1000)(hi:i<n)(hl:xs.length=n*w):
 cut xs (az .i64 (i:Int) (w:Int)) (az .i64 (ai .i64 (i:Int) 1) (w:Int))=cz xs w i∧(0:Int)≤az .i64 (i:Int) (w:Int)∧az .i64 (i:Int) (w:Int)≤az .i64 (ai .i64 (i:Int) 1) (w:Int)∧az .i64 (ai .i64 (i:Int) 1) (w:Int)≤af xs:=by
 have h1:i*w≤1000*1000:=Nat.mul_le_mul (by omega) hw;have h2:(i+1)*w≤1001*1000:=Nat.mul_le_mul (by omega) hw;have h3:(i+1)*w≤n*w:=Nat.mul_le_mul_right _ hi;have e1:az .i64 (i:Int) (w:Int)=((i*w:Nat):Int):=by rw [kb (by rw [←Int.natCast_mul];omega),←Int.natCast_mul]
 have e2:az .i64 (ai .i64 (i:Int) 1) (w:Int)=(((i+1)*w:Nat):Int):=by
  rw [lX (by omega),show (i:Int)+1=((i+1:Nat):Int) by omega,kb (by rw [←Int.natCast_mul];omega),←Int.natCast_mul]
 rw [e1,e2];have e3:(i+1)*w=i*w+w:=Nat.succ_mul i w;refine ⟨?_,by omega,by omega,by simp only [af];omega⟩;unfold cut cz;rw [Int.toNat_natCast,Int.toNat_natCast,e3,Nat.add_sub_cancel_left]
theorem HE (g:cU a b fs ss hs){seed:Int}(h:DD seed):
 ∃r:Int×List Int×List Int,ju ((a:Int),(b:Int),fs,ss,hs) seed 5=some (r.2.1,r.2.2,r.1,true)∧jw ((a:Int),(b:Int),fs,ss,hs) seed 5=some (r.2.1,r.2.2,r.1,true)∧r.2.1.length≤100∧r.2.2.length≤100:=by
 have d:=g.d;have m:=d.m;have a1:=m.n1;have a4:=d.a4;have b1:=m.k1;have b4:=m.k2;have lf:=m.lf;have ls:=m.ls;have lh:=m.lh;have inv: ∀i (s:Aq),i<5→(DD s.1∧0≤s.2.1∧s.2.1<(a:Int)∧s.2.2.1.length=i∧s.2.2.2.length=i+1)→(DD (tp a b ss hs s).1∧0≤(tp a b ss hs s).2.1∧(tp a b ss hs s).2.1<(a:Int)∧(tp a b ss hs s).2.2.1.length=i+1∧(tp a b ss hs s).2.2.2.length=i+1+1):=fun i s hi hs=>by
  obtain ⟨s1,s2,s3,s4,s5⟩:=hs;have yp:(cz ss a s.2.1.toNat).length=a:=dt ls (by omega);obtain ⟨_,p1,p2⟩:=pM (row:=cz ss a s.2.1.toNat) (x:=shr (np (np s.1))) (by omega) (by omega);refine ⟨Ao (Ao s1),p1,by rw [yp] at p2;exact p2,?_,?_⟩;show (s.2.2.1++[_]).length=_;simp [s4];show (s.2.2.2++[_]).length=_;simp [s5]
 have iI:=aM (f:=i7 ((a:Int),(b:Int),fs,ss,hs) 5) (fun i (s:Aq)=>(s.1,s.2.1,((i:Nat):Int),s.2.2.1,s.2.2.2)) (fun _ s=>tp a b ss hs s) (fun s=>(s.1,s.2.2.1,s.2.2.2)) (n:=5) (fun i s=>DD s.1∧0≤s.2.1∧s.2.1<(a:Int)∧s.2.2.1.length=i∧s.2.2.2.length=i+1)
  (fun i s hi oz=>⟨by
   obtain ⟨s1,s2,s3,s4,s5⟩:=oz;obtain ⟨st,kF⟩: ∃st:Nat,s.2.1=(st:Int):=⟨s.2.1.toNat,by omega⟩;obtain ⟨c1,c2,c3,c4⟩:=vn (xs:=hs) (w:=b) (n:=a) (i:=st) (by omega) (by omega) (by omega) lh;obtain ⟨d1,d2,d3,d4⟩:=vn (xs:=ss) (w:=a) (n:=a) (i:=st) (by omega) (by omega) (by omega) ls;have hr1:(cz hs b st).length=b:=dt lh (by omega);have FF:(cz ss a st).length=a:=dt ls (by omega);have r1:bH hs (b:Int) (st:Int)=some (cz hs b st):=by
    unfold bH;rw [guard_pos ⟨c2,c3,Int.le_refl _,c4⟩,c1]
   have r2:bH ss (a:Int) (st:Int)=some (cz ss a st):=by
    unfold bH;rw [guard_pos ⟨d2,d3,Int.le_refl _,d4⟩,d1]
   have hd:decide (((i:Nat):Int)<5)=true:=decide_eq_true (by omega);unfold i7 tp;simp only [hd,cond_true,kF,r1,r2,Option.bind_some,wE s1 (show 1≤(cz hs b st).length by omega) (by omega),wE (Ao s1) (show 1≤(cz ss a st).length by omega) (by omega),cL (show i<5 by omega) (by omega),Int.toNat_natCast];rw [guard_pos (by rw [s4];simp only [List.length_singleton,bg];omega),guard_pos (by rw [s5];simp only [List.length_singleton,bg];omega)],inv i s hi oz⟩)
  (fun s _=>by
   unfold i7;have hd:decide (((5:Nat):Int)<5)=false:=by decide
   simp only [hd,cond_false])
 have iS:=aM (f:=gz ((a:Int),(b:Int),fs,ss,hs)) (fun i (s:Aq)=>(((5 - i:Nat):Int),s.2.1,s.1,s.2.2.1,s.2.2.2)) (fun _ s=>tp a b ss hs s) (fun s=>(s.1,s.2.2.1,s.2.2.2)) (n:=5) (fun i s=>DD s.1∧0≤s.2.1∧s.2.1<(a:Int)∧s.2.2.1.length=i∧s.2.2.2.length=i+1)
  (fun i s hi oz=>⟨by
   obtain ⟨s1,s2,s3,s4,s5⟩:=oz;obtain ⟨st,kF⟩: ∃st:Nat,s.2.1=(st:Int):=⟨s.2.1.toNat,by omega⟩;obtain ⟨c1,c2,c3,c4⟩:=vn (xs:=hs) (w:=b) (n:=a) (i:=st) (by omega) (by omega) (by omega) lh;obtain ⟨d1,d2,d3,d4⟩:=vn (xs:=ss) (w:=a) (n:=a) (i:=st) (by omega) (by omega) (by omega) ls;have hr1:(cz hs b st).length=b:=dt lh (by omega);have FF:(cz ss a st).length=a:=dt ls (by omega);have p1:=(pM (row:=cz hs b st) (x:=shr (np s.1)) (by omega) (by omega)).1;have p2:=(pM (row:=cz ss a st) (x:=shr (np (np s.1))) (by omega) (by omega)).1;have hd:decide (((5 - i:Nat):Int)>0)=true:=decide_eq_true (by omega);have tL:b8 .i64 ((5 - i:Nat):Int) 1=((5 - (i+1):Nat):Int):=by rw [EF (by omega)];omega
   unfold gz tp;simp only [hd,cond_true,kF,tL,Ap,Option.bind_some,c1,d1,p1,p2,Int.toNat_natCast];rw [guard_pos ⟨c2,c3,c4⟩,guard_pos (by rw [s4];simp only [List.length_singleton,bg];omega),guard_pos ⟨d2,d3,d4⟩,guard_pos (by rw [s5];simp only [List.length_singleton,bg];omega)],inv i s hi oz⟩)
  (fun s _=>by
   unfold gz;have hd:decide (((5 - 5:Nat):Int)>0)=false:=by decide
   simp only [hd,cond_false])
 obtain ⟨f1,f2,f3⟩:=pM (row:=fs) (x:=shr (np seed)) (by omega) (by omega);have hI0:DD (np seed)∧0≤pk fs (shr (np seed))∧pk fs (shr (np seed))<(a:Int)∧([]:List Int).length=0∧[pk fs (shr (np seed))].length=0+1:=⟨Ao h,f2,by rw [lf] at f3;exact f3,rfl,rfl⟩;have rI:=iI 5 0 (np seed,pk fs (shr (np seed)),[],[pk fs (shr (np seed))]) (by omega) hI0;have rS:=iS 5 0 (np seed,pk fs (shr (np seed)),[],[pk fs (shr (np seed))]) (by omega) hI0;obtain ⟨rI1,hl⟩:=rI;obtain ⟨WS,_⟩:=rS;have w1:bf seed 0 4294967295=some true∧cr seed 0 4294967295=some true:=by
  obtain ⟨h1,h2⟩:=h;have e1:decide (seed≥0)=true:=decide_eq_true (by omega);have e2:decide (seed≤4294967295)=true:=decide_eq_true (by omega);unfold bf cr;rw [e1,e2];exact ⟨rfl,rfl⟩
 have w2:bf 5 0 12=some true∧cr 5 0 12=some true:=by
  unfold bf cr;decide
 generalize uM (fun _ s=>tp a b ss hs s) 5 0 (np seed,pk fs (shr (np seed)),[],[pk fs (shr (np seed))])=z at*;simp only [Int.natCast_zero,Nat.sub_zero] at rI1 WS;refine ⟨(z.1,z.2.2.1,z.2.2.2),?_,?_,by show z.2.2.1.length≤100;omega,by show z.2.2.2.length≤100;omega⟩;unfold ju;simp only [pF,d.ok,w1.1,w2.1,Option.bind_some,Bool.not_true,cond_false,wE h (show 1≤fs.length by omega) (by omega),rI1];unfold jw;have WS:rounds (gz ((a:Int),(b:Int),fs,ss,hs)) ((5:Int),pk fs (shr (np seed)),np seed,([]:List Int),[pk fs (shr (np seed))])=_:=WS;simp only [wk,d.ok,w1.2,w2.2,Option.bind_some,Bool.not_true,cond_false,Ap,f1,WS]
end
theorem BV {xs:List Int}(hl:xs.length≤4294967296):jN xs xs=some true:=by
 have:=aM (f:=kC xs xs) (fun i (_:Unit)=>((i:Nat):Int)) (fun _ s=>s) (fun _=>(.inl ():Unit⊕Unit)) (n:=xs.length) (fun _ _=>True)
  (fun i s hi _=>⟨by
   unfold kC;simp only [af,nL hi,cond_true,Int.toNat_natCast,guard_pos (eG hi),bne_self_eq_false,cond_false,cL hi hl],trivial⟩)
  (fun s _=>by
   unfold kC;simp only [af,nM (Nat.le_refl _),cond_false]) xs.length 0 () (by omega) trivial
 simp only [Int.natCast_zero] at this;unfold jN;simp only [bne_self_eq_false,cond_false,this.1,Option.bind_some]
end Go.Proofs
namespace Go.Proofs
open Go.Ide Go.IntWalk
def jp (row:List Nat):List Nat:=aq .add .f32 (row.getD 0 0) (row.getD 1 0)::row.drop 2
theorem Ar {xs:List Nat}(h:xs.length≤100000):dv xs=some xs:=by
 unfold dv;rw [guard_pos (by simp only [List.length_nil,bg];omega)]
theorem Nc {row:List Nat}(h2:2≤row.length)(h:row.length≤100000):gm row 0 1=some (jp row):=by
 have i0:(0:Int)≤0∧(0:Int)<af row:=⟨by omega,by simp only [af];omega⟩;have i1:(0:Int)≤1∧(1:Int)<af row:=⟨by omega,by simp only [af];omega⟩;have e:ai .i64 (1:Int) 1=2:=by rw [lX (by omega)];rfl
 unfold gm slices_Delete;simp only [Ar h,Option.bind_some];rw [guard_pos i0,guard_pos i1,e];rw [guard_pos ⟨by omega,by omega,by simp only [af,List.length_set];omega⟩]
 match row,h2 with
 |x::y::r,_=>rfl
def Be (g:Nat→List Nat):Nat→List Nat
 |0=>[]
 |n+1=>Be g n++g n
def qO (g:Nat→List Nat):Nat→List Nat
 |0=>[]
 |p+1=>if p=1 then qO g p else qO g p++g p
def sk (i:Nat):Nat:=if i=0 then 0 else i+1
theorem II (g:Nat→List Nat): ∀n,qO g (n+2)=Be (fun i=>g (sk i)) (n+1)
 |0=>rfl
 |n+1=>by
  show (if n+2=1 then qO g (n+2) else qO g (n+2)++g (n+2))=Be (fun i=>g (sk i)) (n+1)++g (sk (n+1));rw [if_neg (by omega),II g n];unfold sk;rw [if_neg (by omega)]
theorem wF {g h:Nat→List Nat}: ∀n,(∀i,i<n→g i=h i)→qO g n=qO h n
 |0,_=>rfl
 |n+1,e=>by
  show (if n=1 then qO g n else qO g n++g n)=(if n=1 then qO h n else qO h n++h n);rw [wF n fun i hi=>e i (by omega),e n (by omega)]
theorem vo {g:Nat→List Nat}{w:Nat}: ∀n,(∀i,i<n→(g i).length≤w)→(qO g n).length≤n*w
 |0,_=>by simp [qO]
 |n+1,h=>by
  have h1:=vo n fun i hi=>h i (by omega);have h2:=h n (by omega);rw [Nat.succ_mul];show (if n=1 then qO g n else qO g n++g n).length≤_;split;omega;rw [List.length_append];omega
def place (row:List Nat)(q:Nat):Nat:=if q=0 then aq .add .f32 (row.getD 0 0) (row.getD 1 0) else row.getD q 0
theorem P7 (row:List Nat): ∀n,n+2≤row.length→qO (fun q=>[place row q]) (n+2)=aq .add .f32 (row.getD 0 0) (row.getD 1 0)::(row.drop 2).take n
 |0,_=>by simp [qO,place]
 |n+1,h=>by
  show (if n+2=1 then qO (fun q=>[place row q]) (n+2) else qO (fun q=>[place row q]) (n+2)++[place row (n+2)])=_;rw [if_neg (by omega),P7 row n (by omega)];unfold place;rw [if_neg (by omega),sK (xs:=row.drop 2) (i:=n) (by rw [List.length_drop];omega) 0];have:(row.drop 2).getD n 0=row.getD (n+2) 0:=by
   simp only [List.getD_eq_getElem?_getD,List.getElem?_drop];rw [Nat.add_comm 2 n]
  rw [this];rfl
theorem Nd {row:List Nat}(h:2≤row.length):qO (fun q=>[place row q]) row.length=jp row:=by
 obtain ⟨n,hn⟩: ∃n,row.length=n+2:=⟨row.length - 2,by omega⟩;rw [hn,P7 row n (by omega)];unfold jp;rw [List.take_of_length_le (by rw [List.length_drop];omega)]
def kV (x y w:Nat)(xs:List Nat):List Nat:=(List.range w).map fun j=>aq .quo .f32 (aq .add .f32 (aq .mul .f32 x (xs.getD j 0)) (aq .mul .f32 y (xs.getD (w+j) 0))) (aq .add .f32 x y)
theorem mR (x y w:Nat)(xs:List Nat):(kV x y w xs).length=w:=by simp [kV]
theorem At {l1 l2:List Nat}{w:Nat}(h:l1.length=w):(l1++l2).drop w=l2:=by rw [←h,List.drop_left]
theorem wG {f:Int×List Nat→Option ((Int×List Nat)⊕List Nat)}(xs:List Nat){n:Nat}(hn:n≤xs.length)(F:Nat→Nat)(mL: ∀(i:Nat) (out:List Nat),i<n→out.length=xs.length→f ((i:Int),out)=some (.inl (((i+1:Nat):Int),out.set i (F i))))(mX: ∀out:List Nat,f ((n:Int),out)=some (.inr out)):rounds f ((0:Int),xs)=some ((List.range n).map F++xs.drop n):=by
 have:=aM (f:=f) (fun i out=>(((i:Nat):Int),out)) (fun i out=>out.set i (F i)) id (n:=n) (fun i out=>out=(List.range i).map F++xs.drop i)
  (fun i out hi ho=>⟨mL i out hi (by rw [ho];simp;omega),by
   rw [ho,drop_cons (show i<xs.length by omega) 0,zm (by simp),List.range_succ,List.map_append];simp⟩)
  (fun out _=>mX out) n 0 xs (by omega) (by simp)
 simp only [Int.natCast_zero] at this;rw [this.1,show id (uM _ n 0 xs)=uM _ n 0 xs from rfl,this.2]
theorem SV {w j:Nat}(hw:w≤1000)(hj:j<w):ai .i64 (az .i64 (0:Int) (w:Int)) (j:Int)=(j:Int)∧ai .i64 (az .i64 (1:Int) (w:Int)) (j:Int)=((w+j:Nat):Int):=by
 rw [kb (by omega),kb (by omega),lX (by omega),lX (by omega)];omega
theorem vp {xs:List Nat}{w x y:Nat}(hw:w≤100)(hl:2*w≤xs.length)(Cd:xs.length≤1000)(w1:1≤w):iQ xs (w:Int) 0 1 x y=some (kV x y w xs++xs.drop (2*w)):=by
 have h:=wG (f:=jK xs (w:Int) 0 1 x y) xs (n:=w) (by omega) (fun j=>aq .quo .f32 (aq .add .f32 (aq .mul .f32 x (xs.getD j 0)) (aq .mul .f32 y (xs.getD (w+j) 0))) (aq .add .f32 x y))
  (fun i out hi ho=>by
   obtain ⟨e1,e2⟩:=SV (w:=w) (by omega) hi;have j1:=eG (i:=i) (n:=xs.length) (by omega);have j2:=eG (i:=w+i) (n:=xs.length) (by omega);have j3:=eG (i:=i) (n:=out.length) (by omega);unfold jK;simp only [nL hi,cond_true,e1,e2,Int.toNat_natCast,cL hi (show w≤4294967296 by omega)];rw [guard_pos j1,guard_pos j2,guard_pos j3])
  (fun out=>by
   unfold jK;simp only [nM (Nat.le_refl _),cond_false])
 have e3:az .i64 (1:Int) (w:Int)=(w:Int):=by rw [kb (by omega)];omega
 have e4:az .i64 (ai .i64 (1:Int) 1) (w:Int)=((2*w:Nat):Int):=by rw [lX (by omega),kb (by omega)];omega
 have hm:=mR x y w xs;unfold iQ slices_Delete;simp only [Ar (show xs.length≤100000 by omega),Option.bind_some,h,e3,e4];have hlen:(kV x y w xs++xs.drop w).length=xs.length:=by rw [List.length_append,hm,List.length_drop];omega
 show (ao (0≤(w:Int)∧(w:Int)<((2*w:Nat):Int)∧((2*w:Nat):Int)≤af (kV x y w xs++xs.drop w)) (some ((kV x y w xs++xs.drop w).take (w:Int).toNat++(kV x y w xs++xs.drop w).drop ((2*w:Nat):Int).toNat))).bind _=_;rw [guard_pos ⟨by omega,by omega,by simp only [af,hlen];omega⟩];simp only [Option.bind_some,Int.toNat_natCast]
 congr 1
 have t1:(kV x y w xs++xs.drop w).take w=kV x y w xs:=by rw [List.take_append_of_le_length (by omega),List.take_of_length_le (by omega)]
 have t2:(kV x y w xs++xs.drop w).drop (2*w)=xs.drop (2*w):=by
  rw [show 2*w=w+w by omega,←List.drop_drop,At hm,List.drop_drop]
 rw [t1,t2]
def m9 (x y w:Nat)(xs:List Nat)(p:Nat):List Nat:=if p=0 then kV x y w xs else cz xs w p
theorem Nf {x y w n p:Nat}{xs:List Nat}(hl:xs.length=n*w)(hp:p<n):(m9 x y w xs p).length=w:=by
 unfold m9;split;exact mR ..;exact dt hl hp
theorem Ng {x y w:Nat}{xs:List Nat}(i:Nat):cz (kV x y w xs++xs.drop (2*w)) w i=m9 x y w xs (sk i):=by
 have hm:=mR x y w xs;unfold cz m9 sk;by_cases h0:i=0;subst h0;rw [if_pos rfl,if_pos rfl,Nat.zero_mul,List.drop_zero,List.take_append_of_le_length (by omega),List.take_of_length_le (by omega)];rw [if_neg h0,if_neg (by omega)];obtain ⟨j,rfl⟩: ∃j,i=j+1:=⟨i - 1,by omega⟩;rw [show (j+1)*w=w+j*w by rw [Nat.succ_mul];omega,←List.drop_drop,At hm,List.drop_drop];rw [show 2*w+j*w=(j+1+1)*w by rw [Nat.add_mul,Nat.add_mul];omega];rfl
theorem BW {x y w:Nat}{xs:List Nat}(p:Nat):cz (kV x y w xs++xs.drop w) w p=m9 x y w xs p:=by
 have hm:=mR x y w xs;unfold cz m9;by_cases h0:p=0;subst h0;rw [if_pos rfl,Nat.zero_mul,List.drop_zero,List.take_append_of_le_length (by omega),List.take_of_length_le (by omega)];rw [if_neg h0];obtain ⟨j,rfl⟩: ∃j,p=j+1:=⟨p - 1,by omega⟩;rw [show (j+1)*w=w+j*w by rw [Nat.succ_mul];omega,←List.drop_drop,At hm,List.drop_drop];rw [show w+j*w=(j+1)*w by rw [Nat.add_mul];omega];rfl
theorem IJ {x y w:Nat}{xs:List Nat}: ∀n,(n+2)*w≤xs.length→qO (m9 x y w xs) (n+2)=kV x y w xs++(xs.drop (2*w)).take (n*w)
 |0,_=>by
  show []++m9 x y w xs 0=_;rw [Nat.zero_mul,List.take_zero,List.append_nil];rfl
 |n+1,h=>by
  rw [Nat.succ_mul] at h;show (if n+2=1 then _ else qO (m9 x y w xs) (n+2)++m9 x y w xs (n+2))=_;rw [if_neg (by omega),IJ n (by omega)];unfold m9;have e:(n+1)*w=n*w+w:=Nat.succ_mul n w;rw [if_neg (by omega),e,List.take_add,List.drop_drop,←List.append_assoc];rw [show 2*w+n*w=(n+2)*w by rw [Nat.add_mul];omega];rfl
theorem Nh {x y w n:Nat}{xs:List Nat}(hl:xs.length=n*w)(h2:2≤n):qO (m9 x y w xs) n=kV x y w xs++xs.drop (2*w):=by
 obtain ⟨m,rfl⟩: ∃m,n=m+2:=⟨n - 2,by omega⟩;rw [IJ m (by omega),List.take_of_length_le];rw [List.length_drop,hl,Nat.add_mul];omega
theorem BX {a:Nat}{ss:List Nat}{JL:Rat}: ∀n row left r,nm a ss JL n row=some (left,r)→r.length=a
 |0,_,_,_,h=>by cases h
 |n+1,row,left,r,h=>by
  unfold nm at h;split at h;injection h with h;injection h with _ h;rw [←h];exact ld ..;exact BX n _ _ _ h
section
variable {a b:Nat} {fs ss hs:List Nat}
theorem JU (d:kp a b fs ss hs)(a2:2≤a)(x y:Nat):rounds (fN ((a:Int),(b:Int),fs,ss,hs) 0 1 (kV x y a ss++ss.drop (2*a))) ((0:Int),([]:List Nat))=some (Be (fun i=>jp (m9 x y a ss (sk i))) (a - 1)):=by
 have a4:=d.a4;have ls:=d.m.ls;have VW:a*a≤4*4:=Nat.mul_le_mul a4 a4;have h2a:2*a≤a*a:=Nat.mul_le_mul_right _ a2;have tL:b8 .i64 (a:Int) 1=((a - 1:Nat):Int):=by rw [EF (by omega)];omega
 have Nj:(kV x y a ss++ss.drop (2*a)).length=(a - 1)*a:=by
  rw [List.length_append,mR,List.length_drop,ls];obtain ⟨n,rfl⟩: ∃n,a=n+2:=⟨a - 2,by omega⟩;rw [show n+2 - 1=n+1 by omega,Nat.add_mul n 2,Nat.add_mul n 1];omega
 have hlen: ∀i,(Be (fun i=>jp (m9 x y a ss (sk i))) i).length≤i*4→i≤4→(Be (fun i=>jp (m9 x y a ss (sk i))) i).length≤16:=fun i h hi=>by omega
 have:=aM (f:=fN ((a:Int),(b:Int),fs,ss,hs) 0 1 (kV x y a ss++ss.drop (2*a))) (fun i out=>(((i:Nat):Int),out)) (fun i out=>out++jp (m9 x y a ss (sk i))) id (n:=a - 1)
  (fun i out=>out=Be (fun i=>jp (m9 x y a ss (sk i))) i∧out.length≤i*4)
  (fun i out hi ho=>by
   obtain ⟨ho,FH⟩:=ho;have No:sk i<a:=by unfold sk;split<;>omega
   have hr:(m9 x y a ss (sk i)).length=a:=Nf ls No;obtain ⟨c1,c2,c3,c4⟩:=vn (xs:=kV x y a ss++ss.drop (2*a)) (w:=a) (n:=a - 1) (i:=i) (by omega) (by omega) hi Nj;have r1:bH (kV x y a ss++ss.drop (2*a)) (a:Int) (i:Int)=some (m9 x y a ss (sk i)):=by
    unfold bH;rw [guard_pos ⟨c2,c3,Int.le_refl _,c4⟩,c1,Ng]
   have NV:(jp (m9 x y a ss (sk i))).length≤4:=by
    unfold jp;rw [List.length_cons,List.length_drop,hr];omega
   refine ⟨?_,by rw [ho];rfl,by rw [List.length_append];omega⟩;unfold fN;simp only [tL,nL hi,cond_true,r1,Option.bind_some,Nc (show 2≤(m9 x y a ss (sk i)).length by omega) (by omega),cL hi (show a - 1≤4294967296 by omega)];rw [guard_pos (by simp only [bg];omega)])
  (fun out _=>by
   unfold fN;simp only [tL,nM (Nat.le_refl _),cond_false];rfl) (a - 1) 0 [] (by omega) ⟨rfl,by simp⟩
 simp only [Int.natCast_zero] at this;rw [this.1,show id (uM _ (a - 1) 0 [])=uM _ (a - 1) 0 [] from rfl,this.2.1]
theorem HF (d:kp a b fs ss hs)(a2:2≤a){M:List Nat}(hM:M.length=a*a){p:Nat}(hp:p<a)(s1 s2 s3 acc:List Nat)(aei:acc.length≤1000):
 rounds (fO ((a:Int),(b:Int),fs,ss,hs) 0 1 M ((p:Int),s1,s2,s3)) ((0:Int),acc)=some (acc++jp (cz M a p)):=by
 have a4:=d.a4;have hr:(cz M a p).length=a:=dt hM hp;have VW:a*a≤4*4:=Nat.mul_le_mul a4 a4;have:=aM (f:=fO ((a:Int),(b:Int),fs,ss,hs) 0 1 M ((p:Int),s1,s2,s3)) (fun q out=>(((q:Nat):Int),out)) (fun q out=>if q=1 then out else out++[place (cz M a p) q]) id (n:=a)
  (fun q out=>out=acc++qO (fun q=>[place (cz M a p) q]) q∧out.length≤1000+q)
  (fun q out hq ho=>by
   obtain ⟨ho,FH⟩:=ho;obtain ⟨e1,e2⟩:=oJ (a:=a) (b:=a) (by omega) (by omega) hp hq;have e4:ai .i64 (az .i64 (p:Int) (a:Int)) 1=((p*a+1:Nat):Int):=(oJ (a:=a) (b:=a) (by omega) (by omega) hp (show 1<a by omega)).1;have e5:=(oJ (a:=a) (b:=a) (by omega) (by omega) hp (show 1<a by omega)).2;have j1:=eG (i:=p*a+q) (n:=M.length) (by omega);have j2:=eG (i:=p*a+1) (n:=M.length) (by omega);have g0:(cz M a p).getD 0 0=M.getD (p*a+0) 0:=hZ hM hp (by omega);have g1:(cz M a p).getD 1 0=M.getD (p*a+1) 0:=hZ hM hp (by omega);have gq:(cz M a p).getD q 0=M.getD (p*a+q) 0:=hZ hM hp hq;have nA:((q:Int)==1)=decide (q=1):=by
    by_cases c:q=1;subst c;rfl;rw [decide_eq_false c];exact beq_eq_false_iff_ne.2 (by omega)
   have wL:((q:Int)==0)=decide (q=0):=by
    by_cases c:q=0;subst c;rfl;rw [decide_eq_false c];exact beq_eq_false_iff_ne.2 (by omega)
   refine ⟨?_,?_,?_⟩;unfold fO;simp only [nL hq,cond_true,nA,wL,e1,Int.toNat_natCast,cL hq (show a≤4294967296 by omega)];by_cases c1:q=1;subst c1;simp only [decide_true,cond_true,if_true,Option.bind_some];rw [decide_eq_false c1,if_neg c1,cond_false,guard_pos j1];by_cases c0:q=0;subst c0;simp only [decide_true,cond_true,e4,Int.toNat_natCast];rw [guard_pos j2];simp only [Option.bind_some];rw [guard_pos (by simp only [List.length_singleton,bg];omega)];unfold place;rw [if_pos rfl,g0,g1];rfl;rw [decide_eq_false c0];simp only [cond_false,Option.bind_some];rw [guard_pos (by simp only [List.length_singleton,bg];omega)];unfold place;rw [if_neg c0,gq];rfl;show _=acc++(if q=1 then qO (fun q=>[place (cz M a p) q]) q else qO (fun q=>[place (cz M a p) q]) q++[place (cz M a p) q]);rw [ho];split;rfl;rw [List.append_assoc];split;omega;rw [List.length_append,List.length_singleton];omega)
  (fun out _=>by
   unfold fO;simp only [nM (Nat.le_refl _),cond_false];rfl) a 0 acc (by omega) ⟨by simp [qO],by omega⟩
 simp only [Int.natCast_zero] at this;rw [this.1,show id (uM _ a 0 acc)=uM _ a 0 acc from rfl,this.2.1];have hj:=Nd (row:=cz M a p) (by omega);rw [hr] at hj;rw [hj]
theorem HG (d:kp a b fs ss hs)(a2:2≤a){M N:List Nat}(hM:M.length=a*a)(hN:N.length=a*b):
 rounds (fP ((a:Int),(b:Int),fs,ss,hs) 0 1 M N) ((0:Int),([]:List Nat),([]:List Nat),([]:List Nat))=some (qO (fun p=>[place fs p]) a,qO (fun p=>jp (cz M a p)) a,qO (fun p=>cz N b p) a):=by
 have a4:=d.a4;have b4:=d.m.k2;have lf:=d.m.lf;have VW:a*a≤4*4:=Nat.mul_le_mul a4 a4;have h12:a*b≤4*4:=Nat.mul_le_mul a4 b4;have NV: ∀p,p<a→(jp (cz M a p)).length≤4:=fun p hp=>by
  have hr:(cz M a p).length=a:=dt hM hp;unfold jp;rw [List.length_cons,List.length_drop,hr];omega
 have vC: ∀p,p<a→(cz N b p).length≤4:=fun p hp=>by
  have hr:(cz N b p).length=b:=dt hN hp;omega
 have:=aM (f:=fP ((a:Int),(b:Int),fs,ss,hs) 0 1 M N) (fun p (o:List Nat×List Nat×List Nat)=>(((p:Nat):Int),o.1,o.2.1,o.2.2)) (fun p o=>if p=1 then o else (o.1++[place fs p],o.2.1++jp (cz M a p),o.2.2++cz N b p)) (fun o=>(o.1,o.2.1,o.2.2)) (n:=a)
  (fun p o=>o=(qO (fun p=>[place fs p]) p,qO (fun p=>jp (cz M a p)) p,qO (fun p=>cz N b p) p))
  (fun p o hp ho=>by
   have l1:=vo (g:=fun p=>[place fs p]) (w:=4) p (fun i _=>by simp);have l2:=vo (g:=fun p=>jp (cz M a p)) (w:=4) p (fun i hi=>NV i (by omega));have l3:=vo (g:=fun p=>cz N b p) (w:=4) p (fun i hi=>vC i (by omega));have nA:((p:Int)==1)=decide (p=1):=by
    by_cases c:p=1;subst c;rfl;rw [decide_eq_false c];exact beq_eq_false_iff_ne.2 (by omega)
   have wL:((p:Int)==0)=decide (p=0):=by
    by_cases c:p=0;subst c;rfl;rw [decide_eq_false c];exact beq_eq_false_iff_ne.2 (by omega)
   have j1:=eG (i:=p) (n:=fs.length) (by omega);have j2:(0:Int)≤1∧(1:Int)<af fs:=⟨by omega,by simp only [af];omega⟩;have Wp:p*b≤4*4:=Nat.mul_le_mul (by omega) b4;have aek:p*b+b≤a*b:=by rw [←Nat.succ_mul];exact Nat.mul_le_mul_right _ hp
   have m1:az .i64 (p:Int) (b:Int)=((p*b:Nat):Int):=by rw [kb (by rw [←Int.natCast_mul];omega),←Int.natCast_mul]
   have m2:ai .i64 ((p*b:Nat):Int) (b:Int)=((p*b+b:Nat):Int):=by rw [lX (by omega)];omega
   subst ho;refine ⟨?_,?_⟩;unfold fP;simp only [nL hp,cond_true,nA,wL,cL hp (show a≤4294967296 by omega)];by_cases c1:p=1;subst c1;simp only [decide_true,cond_true,if_true,Option.bind_some];rw [decide_eq_false c1,if_neg c1,cond_false,guard_pos j1];have hv:(bif decide (p=0) then ao ((0:Int)≤1∧(1:Int)<af fs) (some (aq .add .f32 (fs.getD (p:Int).toNat 0) (fs.getD (1:Int).toNat 0))) else some (fs.getD (p:Int).toNat 0))=some (place fs p):=by
    by_cases c0:p=0;subst c0;simp only [decide_true,cond_true];rw [guard_pos j2];rfl;rw [decide_eq_false c0];unfold place;rw [if_neg c0,Int.toNat_natCast];rfl
   rw [hv];simp only [Option.bind_some];rw [guard_pos (by simp only [List.length_singleton,bg];omega),HF d a2 hM hp _ _ _ _ (by omega)];simp only [Option.bind_some,m1,m2];rw [guard_pos ⟨by omega,by omega,by simp only [af];omega⟩];simp only [Int.toNat_natCast,Nat.add_sub_cancel_left];have h3:=vC p hp;rw [guard_pos (by show _+(cz N b p).length≤bg;simp only [bg];omega)];rfl;show (if p=1 then _ else _)=((if p=1 then _ else _),(if p=1 then _ else _),(if p=1 then _ else _));by_cases c1:p=1;rw [if_pos c1,if_pos c1,if_pos c1,if_pos c1];rw [if_neg c1,if_neg c1,if_neg c1,if_neg c1])
  (fun o _=>by
   unfold fP;simp only [nM (Nat.le_refl _),cond_false]) a 0 ([],[],[]) (by omega) rfl
 simp only [Int.natCast_zero] at this;rw [this.1,this.2]
theorem JV (d:kp a b fs ss hs)(a2:2≤a)(r:List Nat)(n:Int)(q:Bool):rounds (fS ((a:Int),(b:Int),fs,ss,hs) 0 1 (r,n,q) (aq .add .f32 (r.getD 0 0) (r.getD 1 0))) ((0:Int),ss)=some (kV (r.getD 0 0) (r.getD 1 0) a ss++ss.drop a):=by
 have a4:=d.a4;have ls:=d.m.ls;have h2a:2*a≤a*a:=Nat.mul_le_mul_right _ a2;refine wG (f:=fS ((a:Int),(b:Int),fs,ss,hs) 0 1 (r,n,q) (aq .add .f32 (r.getD 0 0) (r.getD 1 0))) ss (n:=a) (by omega) (fun j=>aq .quo .f32 (aq .add .f32 (aq .mul .f32 (r.getD 0 0) (ss.getD j 0)) (aq .mul .f32 (r.getD 1 0) (ss.getD (a+j) 0))) (aq .add .f32 (r.getD 0 0) (r.getD 1 0)))
  (fun i out hi ho=> ?_) (fun out=> ?_)
 obtain ⟨e1,e2⟩:=SV (w:=a) (by omega) hi;have j1:=eG (i:=i) (n:=ss.length) (by omega);have j2:=eG (i:=a+i) (n:=ss.length) (by omega);have j3:=eG (i:=i) (n:=out.length) (by omega);unfold fS;simp only [nL hi,cond_true,e1,e2,Int.toNat_natCast,cL hi (show a≤4294967296 by omega)];rw [guard_pos j1,guard_pos j2,guard_pos j3];rfl;unfold fS;simp only [nM (Nat.le_refl _),cond_false]
theorem JW (d:kp a b fs ss hs)(a2:2≤a)(r:List Nat)(n:Int)(q:Bool):rounds (fQ ((a:Int),(b:Int),fs,ss,hs) 0 1 (r,n,q) (aq .add .f32 (r.getD 0 0) (r.getD 1 0))) ((0:Int),hs)=some (kV (r.getD 0 0) (r.getD 1 0) b hs++hs.drop b):=by
 have b4:=d.m.k2;have lh:=d.m.lh;have h2a:2*b≤a*b:=Nat.mul_le_mul_right _ a2;refine wG (f:=fQ ((a:Int),(b:Int),fs,ss,hs) 0 1 (r,n,q) (aq .add .f32 (r.getD 0 0) (r.getD 1 0))) hs (n:=b) (by omega) (fun j=>aq .quo .f32 (aq .add .f32 (aq .mul .f32 (r.getD 0 0) (hs.getD j 0)) (aq .mul .f32 (r.getD 1 0) (hs.getD (b+j) 0))) (aq .add .f32 (r.getD 0 0) (r.getD 1 0)))
  (fun i out hi ho=> ?_) (fun out=> ?_)
 obtain ⟨e1,e2⟩:=SV (w:=b) (by omega) hi;have j1:=eG (i:=i) (n:=hs.length) (by omega);have j2:=eG (i:=b+i) (n:=hs.length) (by omega);have j3:=eG (i:=i) (n:=out.length) (by omega);unfold fQ;simp only [nL hi,cond_true,e1,e2,Int.toNat_natCast,cL hi (show b≤4294967296 by omega)];rw [guard_pos j1,guard_pos j2,guard_pos j3];rfl;unfold fQ;simp only [nM (Nat.le_refl _),cond_false]
theorem JX (g:cU a b fs ss hs)(a2:2≤a):
 ∃M,gn ((a:Int),(b:Int),fs,ss,hs) 0 1=some M∧gr ((a:Int),(b:Int),fs,ss,hs) 0 1=some M∧(M.2=true→M.1.1=b8 .i64 (a:Int) 1)∧M.1.2.2.1.length≤1000∧M.1.2.2.2.1.length≤1000∧M.1.2.2.2.2.length≤1000:=by
 have d:=g.d;have a4:=d.a4;have b4:=d.m.k2;have b1:=d.m.k1;have lf:=d.m.lf;have ls:=d.m.ls;have lh:=d.m.lh;have VW:a*a≤4*4:=Nat.mul_le_mul a4 a4;have h12:a*b≤4*4:=Nat.mul_le_mul a4 b4;have h2a:2*a≤a*a:=Nat.mul_le_mul_right _ a2;have h2b:2*b≤a*b:=Nat.mul_le_mul_right _ a2;have tL:b8 .i64 (a:Int) 1=((a - 1:Nat):Int):=by rw [EF (by omega)];omega
 have r1:=FC g (M:=200) (by omega) (by omega);have r2:=JS g (M:=200) (by omega) (by omega);have r1:dD ((a:Int),(b:Int),fs,ss,hs) 953267991 200=_:=r1;have r2:fC ((a:Int),(b:Int),fs,ss,hs) 953267991 200=_:=r2;unfold gn gr;simp only [r1,r2,Option.bind_some];cases hr:nm a ss gC 200 (pL a) with
 |none=>first|exact ⟨_,rfl,rfl,fun h=>absurd h Bool.false_ne_true,Nat.zero_le _,Nat.zero_le _,Nat.zero_le _⟩|exact ⟨_,rfl,fun h=>absurd h Bool.false_ne_true,Nat.zero_le _,Nat.zero_le _,Nat.zero_le _⟩
 |some p=>
  obtain ⟨left,r⟩:=p;have hl:r.length=a:=BX _ _ _ _ hr;have i0:(0:Int)≤0∧(0:Int)<af r:=⟨by omega,by simp only [af];omega⟩;have i1:(0:Int)≤1∧(1:Int)<af r:=⟨by omega,by simp only [af];omega⟩;have w1:bf 0 0 ((a - 1:Nat):Int)=some true:=by
   have e1:decide ((0:Int)≥0)=true:=by decide
   have e2:decide ((0:Int)≤((a - 1:Nat):Int))=true:=decide_eq_true (by omega);unfold bf;rw [e1,e2];rfl
  have w2:bf 1 1 ((a - 1:Nat):Int)=some true:=by
   have e1:decide ((1:Int)≥1)=true:=by decide
   have e2:decide ((1:Int)≤((a - 1:Nat):Int))=true:=decide_eq_true (by omega);unfold bf;rw [e1,e2];rfl
  have w3:cr 0 0 ((a - 1:Nat):Int)=some true:=by
   have e1:decide ((0:Int)≥0)=true:=by decide
   have e2:decide ((0:Int)≤((a - 1:Nat):Int))=true:=decide_eq_true (by omega);unfold cr;rw [e1,e2];rfl
  have w4:cr 1 0 ((a - 1:Nat):Int)=some true:=by
   have e1:decide ((1:Int)≥0)=true:=by decide
   have e2:decide ((1:Int)≤((a - 1:Nat):Int))=true:=decide_eq_true (by omega);unfold cr;rw [e1,e2];rfl
  have e01:ai .i64 (0:Int) 1=1:=by rw [lX (by omega)];rfl
  have d01:decide ((0:Int)≥1)=false:=by decide
  have t0:(0:Int).toNat=0:=rfl;have t1:(1:Int).toNat=1:=rfl;simp only [Bool.not_true,cond_false,tL,w1,w2,w3,w4,e01,d01,Option.bind_some,guard_pos i0,guard_pos i1,t0,t1];cases hg:pP .f32 (aq .add .f32 (r.getD 0 0) (r.getD 1 0)) 0 with
  |false=>first|exact ⟨_,rfl,rfl,fun h=>absurd h Bool.false_ne_true,Nat.zero_le _,Nat.zero_le _,Nat.zero_le _⟩|exact ⟨_,rfl,fun h=>absurd h Bool.false_ne_true,Nat.zero_le _,Nat.zero_le _,Nat.zero_le _⟩
  |true=>
   have hS:=Nh (x:=r.getD 0 0) (y:=r.getD 1 0) lh a2;have hM:(kV (r.getD 0 0) (r.getD 1 0) a ss++ss.drop a).length=a*a:=by rw [List.length_append,mR,List.length_drop];omega
   have hN:(kV (r.getD 0 0) (r.getD 1 0) b hs++hs.drop b).length=a*b:=by rw [List.length_append,mR,List.length_drop];omega
   have e1:qO (fun p=>[place fs p]) a=jp fs:=by
    have:=Nd (row:=fs) (by omega);rw [lf] at this;exact this
   have e2:qO (fun p=>jp (cz (kV (r.getD 0 0) (r.getD 1 0) a ss++ss.drop a) a p)) a=Be (fun i=>jp (m9 (r.getD 0 0) (r.getD 1 0) a ss (sk i))) (a - 1):=by
    rw [wF a fun p _=>by rw [BW]];obtain ⟨n,hn⟩: ∃n,a=n+2:=⟨a - 2,by omega⟩;have:=II (fun p=>jp (m9 (r.getD 0 0) (r.getD 1 0) a ss p)) n;rw [show n+2=a by omega,show n+1=a - 1 by omega] at this;exact this
   have e3:qO (fun p=>cz (kV (r.getD 0 0) (r.getD 1 0) b hs++hs.drop b) b p) a=kV (r.getD 0 0) (r.getD 1 0) b hs++hs.drop (2*b):=by
    rw [wF a fun p _=>BW p];exact hS
   have ho:=HG d a2 hM hN;rw [e1,e2,e3] at ho;have l1:(jp fs).length≤1000:=by unfold jp;rw [List.length_cons,List.length_drop];omega
   have l2:(Be (fun i=>jp (m9 (r.getD 0 0) (r.getD 1 0) a ss (sk i))) (a - 1)).length≤1000:=by
    rw [←e2];have:=vo (g:=fun p=>jp (cz (kV (r.getD 0 0) (r.getD 1 0) a ss++ss.drop a) a p)) (w:=10) a (fun i hi=>by
     have hr:(cz (kV (r.getD 0 0) (r.getD 1 0) a ss++ss.drop a) a i).length=a:=dt hM hi;unfold jp;rw [List.length_cons,List.length_drop,hr];omega)
    omega
   have l3:(kV (r.getD 0 0) (r.getD 1 0) b hs++hs.drop (2*b)).length≤1000:=by rw [List.length_append,mR,List.length_drop];omega
   have g1:0+ss.length≤bg:=by simp only [bg];omega
   have g2:0+hs.length≤bg:=by simp only [bg];omega
   simp only [Bool.not_true,cond_false,Nc (show 2≤fs.length by omega) (by omega),vp (x:=r.getD 0 0) (y:=r.getD 1 0) (show b≤100 by omega) (show 2*b≤hs.length by omega) (by omega) b1,vp (x:=r.getD 0 0) (y:=r.getD 1 0) (show a≤100 by omega) (show 2*a≤ss.length by omega) (by omega) (by omega),JU d a2,Option.bind_some,guard_pos g1,guard_pos g2,JV d a2,JW d a2,ho];unfold gP jL;simp only [pF,wk,Option.bind_some];generalize jT:gU ((a - 1:Nat):Int) (b:Int) (jp fs) (Be (fun i=>jp (m9 (r.getD 0 0) (r.getD 1 0) a ss (sk i))) (a - 1)) (kV (r.getD 0 0) (r.getD 1 0) b hs++hs.drop (2*b))=o;cases o with
   |false=>first|exact ⟨_,rfl,rfl,fun h=>absurd h Bool.false_ne_true,Nat.zero_le _,Nat.zero_le _,Nat.zero_le _⟩|exact ⟨_,rfl,fun h=>absurd h Bool.false_ne_true,Nat.zero_le _,Nat.zero_le _,Nat.zero_le _⟩
   |true=>first|exact ⟨_,rfl,rfl,fun _=>rfl,l1,l2,l3⟩|exact ⟨_,rfl,fun _=>rfl,l1,l2,l3⟩
end
theorem Ph:tg .f32 2143289344 2143289344=false:=by decide+kernel
theorem JY (x:Nat): ∃n,jM x=some n:=by
 unfold jM;cases h:tg .f32 x x with
 |false=>exact ⟨_,rfl⟩
 |true=>
  have jg:x≠2143289344:=by
   rintro rfl;rw [Ph] at h;cases h
  simp only [Bool.not_true,cond_false,guard_pos jg];exact ⟨_,rfl⟩
theorem qA {xs:List Nat}(hl:xs.length≤4294967296):fa xs xs=some true:=by
 have:=aM (f:=iG xs xs) (fun i (_:Unit)=>((i:Nat):Int)) (fun _ s=>s) (fun _=>(.inl ():Unit⊕Unit)) (n:=xs.length) (fun _ _=>True)
  (fun i s hi _=>⟨by
   obtain ⟨n,hn⟩:=JY (xs.getD i 0);unfold iG nG;simp only [af,nL hi,cond_true,Int.toNat_natCast,guard_pos (eG hi),hn,Option.bind_some,beq_self_eq_true,Bool.not_true,cond_false,cL hi hl],trivial⟩)
  (fun s _=>by
   unfold iG;simp only [af,nM (Nat.le_refl _),cond_false]) xs.length 0 () (by omega) trivial
 simp only [Int.natCast_zero] at this;unfold fa;simp only [bne_self_eq_false,cond_false,this.1,Option.bind_some]
theorem Bf {n k:Int}{f s h:List Nat}(h1:f.length≤1000)(h2:s.length≤1000)(h3:h.length≤1000):hJ (n,k,f,s,h) (n,k,f,s,h)=some true:=by
 unfold hJ;simp only [beq_self_eq_true,cond_true,qA (show f.length≤4294967296 by omega),qA (show s.length≤4294967296 by omega),qA (show h.length≤4294967296 by omega),Option.bind_some]
end Go.Proofs
namespace Go.Proofs
open Go.Ide Go.IntWalk
theorem Pj {x y:Nat}(hx:FD x)(hy:FD y)(h:je (9/10000) (wD x) (wD y)):
 ∃z,dE x y=some z∧pP .f64 z 4562254508917369340=false∧aW .f64 z 4562254508917369340=true:=by
 obtain ⟨z,e1,f1,b1⟩:=SD (e:=9/10000) hx hy (by grind) (by grind) h;have hm:=xZ.2;refine ⟨z,e1,?_,?_⟩;rw [P1 f1 xZ.1,hm];exact decide_eq_false (by grind);rw [IB f1 xZ.1,hm];exact decide_eq_true (by grind)
theorem BY {f g:Nat→Nat}{n b C:Nat}(hn:n≤16)(hb:b≤175)(hf: ∀p,p<n→f p≤2130706432∧bQ (f p)≤2^b)(hg: ∀p,p<n→g p≤2130706432∧bQ (g p)≤2^b)(hC:C≤2130706432)(hCb:bQ C≤2^b)(c2:wS C≤11/10)(hs:au (fun p=>wS (f p)*wS (g p)) n≤11/10)(h:je (8/10000) (au (fun p=>wS (f p)*wS (g p)) n) (wS C)):
 ∃z,dE (ue (fun p=>aq .mul .f64 (aS .f32 .f64 (f p)) (aS .f32 .f64 (g p))) n) (aS .f32 .f64 C)=some z∧pP .f64 z 4562254508917369340=false∧aW .f64 z 4562254508917369340=true:=by
 have hF:=fun p (hp:p<n)=>MI (hf p hp).1 (hf p hp).2 hb;have hG:=fun p (hp:p<n)=>MI (hg p hp).1 (hg p hp).2 hb;obtain ⟨C1,C2,C3,C4⟩:=MI hC hCb hb;have hp0: ∀p,p<n→0≤wD (aS .f32 .f64 (f p))*wD (aS .f32 .f64 (g p)):=fun p hp=>Rat.mul_nonneg (hF p hp).2.2.1 (hG p hp).2.2.1;have q1:Nq 24 (au (fun p=>wD (aS .f32 .f64 (f p))*wD (aS .f32 .f64 (g p))) n) (au (fun p=>wS (f p)*wS (g p)) n):=
  cT n fun p hp=>(hF p hp).2.2.2.mul (hG p hp).2.2.2 (hF p hp).2.2.1 (bD (hf p hp).1) (hG p hp).2.2.1 (bD (hg p hp).1)
 have hS:=cu n hp0;have hle:=fun p hp=>sW n hp0 p hp;have t:=dP 24 (by omega);rw [show ((24:Nat):Rat)=24 from rfl] at t;have t12:=dP 12 (by omega);rw [show ((12:Nat):Rat)=12 from rfl] at t12;have hR:=cu (f:=fun p=>wS (f p)*wS (g p)) n fun p hp=>Rat.mul_nonneg (bD (hf p hp).1) (bD (hg p hp).1);obtain ⟨q3,q4⟩:=q1;obtain ⟨C5,C6⟩:=C4;have hCn:=bD hC;obtain ⟨h1,h2⟩:=h;generalize hSg:au (fun p=>wD (aS .f32 .f64 (f p))*wD (aS .f32 .f64 (g p))) n=S at*;generalize au (fun p=>wS (f p)*wS (g p)) n=R at*;have k1:=Rat.mul_le_mul_of_nonneg_left t hS;have k2:=Rat.mul_le_mul_of_nonneg_left t hR;have k3:=Rat.mul_le_mul_of_nonneg_left t12 C3;have k4:=Rat.mul_le_mul_of_nonneg_left t12 hCn;have S2:S≤12/10:=by grind
 have hm: ∀p,p<n→FD (aq .mul .f64 (aS .f32 .f64 (f p)) (aS .f32 .f64 (g p)))∧je (2/4503599627370496) (wD (aq .mul .f64 (aS .f32 .f64 (f p)) (aS .f32 .f64 (g p)))) (wD (aS .f32 .f64 (f p))*wD (aS .f32 .f64 (g p))):=fun p hp=>by
  have l1:=hle p hp;have l2:=hp0 p hp;obtain ⟨m1,m2⟩:=Fl (e:=2) (hF p hp).1 (hG p hp).1 (by grind) (by grind) (by grind) (by grind);exact ⟨m1,m2⟩
 have hA:=Af n fun p hp=>(hm p hp).2;rw [hSg] at hA;have WN:=cF hn;rw [show ((16:Nat):Rat)=16 from rfl] at WN;have DI:(0:Rat)≤(n:Rat):=cF (Nat.zero_le n);obtain ⟨a1,a2⟩:=hA;obtain ⟨f1,f2,f3⟩:=P3 (f:=ue fun p=>aq .mul .f64 (aS .f32 .f64 (f p)) (aS .f32 .f64 (g p))) (t:=fun p=>aq .mul .f64 (aS .f32 .f64 (f p)) (aS .f32 .f64 (g p))) (e:=4) rfl (fun p=>rfl) (by grind) (by grind) n (by omega) (fun p hp=>⟨(hm p hp).1,O5 (hF p hp).2.1 (hG p hp).2.1⟩) (by grind);exact Pj f1 C1 ⟨by grind,by grind⟩
theorem DE {h e:Nat}(hf:Mf [h,1065353216,e]=true)(hz:tg .f32 (aq .sub .f32 1065353216 h) 0=false):
 gH [h] [1065353216] [e]=bT (aq .add .f32 0 (aq .mul .f32 1065353216 (aq .quo .f32 e (aq .sub .f32 1065353216 h)))):=by
 have V2:bE [[h],[1065353216],[e]]=some [h,1065353216,e]:=by
  have:=ON (xs:=[[h],[1065353216],[e]]) (c:=1) (fun i hi=>by
   match i,hi with
   |0,_=>exact Nat.le_refl _
   |1,_=>exact Nat.le_refl _
   |2,_=>exact Nat.le_refl _) (by simp) (by simp)
  rw [this];rfl
 have M5:rounds (jJ [h] [1065353216] ((0:Int),([]:List (List Nat)))) ((0:Int),[1065353216])=some [aq .sub .f32 1065353216 h]:=
  dM.2 ⟨2,show Go.Ide.runN (jJ [h] [1065353216] ((0:Int),([]:List (List Nat)))) 2 ((0:Int),[1065353216])=some [aq .sub .f32 1065353216 h] by kernel_rfl⟩
 have Pv:rounds (fy [h] [1065353216] [e]) ((0:Int),([]:List (List Nat)))=some [[aq .sub .f32 1065353216 h,e]]:=by
  have s1:fy [h] [1065353216] [e] ((0:Int),([]:List (List Nat)))=some (.inl ((1:Int),[[aq .sub .f32 1065353216 h,e]])):=by
   unfold fy;show (rounds (jJ [h] [1065353216] ((0:Int),([]:List (List Nat)))) ((0:Int),[1065353216])).bind _=_;rw [M5];kernel_rfl
  have s2:fy [h] [1065353216] [e] ((1:Int),[[aq .sub .f32 1065353216 h,e]])=some (.inr [[aq .sub .f32 1065353216 h,e]]):=by kernel_rfl
  rw [bn,s1];show rounds _ ((1:Int),[[aq .sub .f32 1065353216 h,e]])=_;rw [bn,s2]
 generalize hd:aq .sub .f32 1065353216 h=d at*;have hB5:rounds (jb [[d,e]] ((0:Int),[[d,e]])) ((0:Int),(1:Int))=some 0:=
  dM.2 ⟨1,show Go.Ide.runN (jb [[d,e]] ((0:Int),[[d,e]])) 1 ((0:Int),(1:Int))=some 0 by kernel_rfl⟩
 have V3:rounds (ja [[d,e]] ((0:Int),[[d,e]])) ((1:Int),[[d,e]])=some [[d,e]]:=by
  have s:ja [[d,e]] ((0:Int),[[d,e]]) ((1:Int),[[d,e]])=some (.inr [[d,e]]):=by kernel_rfl
  rw [bn,s]
 have hB6:rounds (gA [[d,e]]) ((0:Int),[[d,e]])=some (.inl [[d,e]]):=by
  have s1:gA [[d,e]] ((0:Int),[[d,e]])=some (.inl ((1:Int),[[d,e]])):=by
   unfold gA;show (rounds (jb [[d,e]] ((0:Int),[[d,e]])) ((0:Int),(1:Int))).bind _=_;rw [hB5];show (bif tg .f32 d 0 then _ else (rounds (ja [[d,e]] ((0:Int),[[d,e]])) ((1:Int),[[d,e]])).bind _)=_;rw [hz,V3];kernel_rfl
  have s2:gA [[d,e]] ((1:Int),[[d,e]])=some (.inr (.inl [[d,e]])):=by kernel_rfl
  rw [bn,s1];show rounds _ ((1:Int),[[d,e]])=_;rw [bn,s2]
 have aan:rounds (eY [[d,e]] [[d,e]]) ((0:Int),[0])=some [aq .quo .f32 e d]:=by
  have i1:rounds (i9 [[d,e]] [[d,e]] ((0:Int),[0])) ((1:Int),[e])=some [e]:=
   dM.2 ⟨1,show Go.Ide.runN (i9 [[d,e]] [[d,e]] ((0:Int),[0])) 1 ((1:Int),[e])=some [e] by kernel_rfl⟩
  have s1:eY [[d,e]] [[d,e]] ((0:Int),[0])=some (.inl ((-1:Int),[aq .quo .f32 e d])):=by
   unfold eY;show (rounds (i9 [[d,e]] [[d,e]] ((0:Int),[0])) ((1:Int),[e])).bind _=_;rw [i1];kernel_rfl
  have s2:eY [[d,e]] [[d,e]] ((-1:Int),[aq .quo .f32 e d])=some (.inr [aq .quo .f32 e d]):=by kernel_rfl
  rw [bn,s1];show rounds _ ((-1:Int),[aq .quo .f32 e d])=_;rw [bn,s2]
 have SW:g9 [[d,e]]=some ([aq .quo .f32 e d],true):=by
  unfold g9;rw [hB6];show (rounds (eY [[d,e]] [[d,e]]) ((0:Int),[0])).bind _=_;rw [aan];rfl
 have aao:gj [1065353216] [aq .quo .f32 e d]=some (aq .add .f32 0 (aq .mul .f32 1065353216 (aq .quo .f32 e d)),true):=by
  have i1:rounds (iF [1065353216] [aq .quo .f32 e d]) ((0:Nat),(0:Int))=some (aq .add .f32 0 (aq .mul .f32 1065353216 (aq .quo .f32 e d))):=
   dM.2 ⟨2,show Go.Ide.runN (iF [1065353216] [aq .quo .f32 e d]) 2 ((0:Nat),(0:Int))=some (aq .add .f32 0 (aq .mul .f32 1065353216 (aq .quo .f32 e d))) by kernel_rfl⟩
  unfold gj;show (rounds (iF [1065353216] [aq .quo .f32 e d]) ((0:Nat),(0:Int))).bind _=_;rw [i1];rfl
 have yH:dN [h,1065353216,e]=some true:=by rw [Fc (by simp),hf]
 have e1:gH [h] [1065353216] [e]=(bE [[h],[1065353216],[e]]).bind fun Nv=>(dN Nv).bind fun PT=>bif (!PT) then some (0,false) else
  (rounds (fy [h] [1065353216] [e]) ((0:Int),([]:List (List Nat)))).bind fun r7=>(g9 r7).bind fun y8=>bif (!y8.2) then some (0,false) else (gj [1065353216] y8.1).bind fun zC=>(bT zC.1).bind fun qo=>some (qo.1,qo.2):=by
  unfold gH;rw [V2];show (((dN [h,1065353216,e]).bind fun PT=>some (!PT)).bind _)=_;simp only [yH,Option.bind_some,Bool.not_true,cond_false]
 rw [e1,V2];simp only [Option.bind_some,yH,Bool.not_true,cond_false,Pv,SW,aao];cases bT (aq .add .f32 0 (aq .mul .f32 1065353216 (aq .quo .f32 e d)))<;>rfl
theorem Pk: ∀k:Fin 7,Mf [aq .quo .f32 (bK .f32 ((k.val:Nat):Int)) 1090519040,1065353216,aq .sub .f32 1065353216 (aq .quo .f32 (bK .f32 ((k.val:Nat):Int)) 1090519040)]=true∧
 tg .f32 (aq .sub .f32 1065353216 (aq .quo .f32 (bK .f32 ((k.val:Nat):Int)) 1090519040)) 0=false∧
 aq .add .f32 0 (aq .mul .f32 1065353216 (aq .quo .f32 (aq .sub .f32 1065353216 (aq .quo .f32 (bK .f32 ((k.val:Nat):Int)) 1090519040)) (aq .sub .f32 1065353216 (aq .quo .f32 (bK .f32 ((k.val:Nat):Int)) 1090519040))))=1065353216:=by decide+kernel
theorem IK:dE (aS .f32 .f64 1065353216) 4607182418800017408=some 0∧aW .f64 0 4562254508917369340=true∧fin 1065353216=true:=by
 unfold dE;decide+kernel
theorem Pm {y:Int}(h:0≤y∧y<7):gH [aq .quo .f32 (bK .f32 y) 1090519040] [1065353216] [aq .sub .f32 1065353216 (aq .quo .f32 (bK .f32 y) 1090519040)]=some (1065353216,true):=by
 obtain ⟨k,rfl⟩: ∃k:Nat,y=(k:Int):=⟨y.toNat,by omega⟩;obtain ⟨h1,h2,h3⟩:=Pk ⟨k,by omega⟩;simp only at h1 h2 h3;rw [DE h1 h2,h3];unfold bT bS;show (bif !(fin 1065353216) then some ((0:Nat),false) else some ((1065353216:Nat),true))=_;rw [IK.2.2];rfl
theorem FnTwoModels_law (x0 x1:List Int)(w0:WfD (.sl (.int .u8)) x0)(w1:WfD (.sl (.int .u8)) x1):jO x0 x1=some true:=by
 unfold jO nB;by_cases c0:af x0>(1048576:Int);simp only [c0,decide_true,cond_true,Option.bind_some];by_cases c1:af x1>(1048576:Int);simp only [c0,c1,decide_true,decide_false,cond_true,cond_false,Option.bind_some];simp only [c0,c1,decide_false,cond_false,Option.bind_some];have b0:=BK w0 (by simp only [af] at c0;omega);have b1:=BK w1 (by simp only [af] at c1;omega);obtain ⟨y4,e4,p1,p2⟩:=zS b1 (i:=0) (n:=2) (by omega);obtain ⟨b,hb,b2,b3⟩: ∃b:Nat,ai .i64 (2:Int) y4=(b:Int)∧2≤b∧b≤3:=⟨(2+y4).toNat,by rw [lX (by omega)];omega,by omega,by omega⟩;obtain ⟨a,fs,ss,hs,eM,g⟩:=Ad b0 (b:=b) (by omega) (by omega);obtain ⟨a',fs',ss',hs',eM',g'⟩:=Ad b1 (b:=b) (by omega) (by omega);have d:=g.d;have d':=g'.d;have a1:=d.m.n1;have a4:=d.a4;have ls:=d.m.ls;obtain ⟨v1,eA,fA,A0,A1⟩:=JP g g' b3;have eN:=HA d b3;obtain ⟨v2,eB,fB,B0,B1⟩:=M0 g g' b3;obtain ⟨v3,eC,cC,nC⟩:=M1 g g' b3;obtain ⟨left,r,xH,K',yu,abF,yp,Ur,hr,cH⟩:=Na g;have eR:=FC g (M:=250) (by omega) (by omega);rw [yu] at eR;have eR:dD ((a:Int),(b:Int),fs,ss,hs) 953267991 250=some (r,((250 - left:Nat):Int),true):=eR;obtain ⟨rA,e20,s1,s2⟩:=zS b1 (i:=1) (n:=256) (by omega);obtain ⟨W,eW,eW',lW1,lW2⟩:=HE g (seed:=rA) ⟨by omega,by omega⟩;have hz:tg .f32 0 0=true:=by decide+kernel
 have WK:aW .f32 v1 0=false:=by
  rw [Hx fA lN,lM];exact decide_eq_false (by grind)
 obtain ⟨u1,u2,u3⟩:=Z5 (e:=2) fA (by grind) (by grind) (by grind) (by grind);have NW:FD 4607186922399644778∧wD 4607186922399644778=4508103226997866/4503599627370496:=
  ⟨kq (by omega),by rw [pH (c:=4508103226997866) (d:=4503599627370496) (by omega) (by omega) (by decide+kernel)];rfl⟩
 have aap:pP .f64 (aS .f32 .f64 v1) 4607186922399644778=false:=by
  rw [P1 u1 NW.1,NW.2];exact decide_eq_false (by grind)
 obtain ⟨u4,u5,u6⟩:=Z5 (e:=32) fB (by grind) (by grind) (by grind) (by grind);have zp:=MB (r:=4562254508917369340) (by omega);have hmw:=xZ.2;have h14:aW .f64 (aS .f32 .f64 v2) 13785626545772145148=false:=by
  have e:(13785626545772145148:Nat)=9223372036854775808+4562254508917369340:=by omega
  rw [e,IB u4 zp.1,zp.2,hmw];exact decide_eq_false (by grind)
 have h18:decide (((250 - left:Nat):Int)<1)=false:=decide_eq_false (by omega);have hrl:r.length=a:=by rw [hr];exact ld ..
 have aaq:(af r != (a:Int))=false:=by simp only [af,hrl,bne_self_eq_false]
 simp only [e4,hb,eM,eM',eA,eN,eB,eC,eR,e20,eW,eW',hz,WK,aap,h14,h18,aaq,BV (show W.2.1.length≤4294967296 by omega),BV (show W.2.2.length≤4294967296 by omega),bne_self_eq_false,Option.bind_some,Bool.not_true,cond_false];have hc: ∀x y,x<b→y<b→fl ((a:Int),(b:Int),fs,ss,hs) [(x:Int),(y:Int)]=some (cS (rowAt a b fs ss hs [(x:Int),(y:Int)] 2) a,true):=fun x y hx hy=>Ae d (jA hx hy) (by show 2≤12;omega);have Nk: ∀x y,x<b→y<b→fl ((a':Int),(b:Int),fs',ss',hs') [(x:Int),(y:Int)]=some (cS (rowAt a' b fs' ss' hs' [(x:Int),(y:Int)] 2) a',true):=fun x y hx hy=>Ae d' (jA hx hy) (by show 2≤12;omega);let t:Nat→Nat:=fun p=>aq .mul .f64 (aS .f32 .f64 (gD a b fs ss hs p)) (aS .f32 .f64 (gD a' b fs' ss' hs' p));have hB3: ∀x,x<b→ ∀(u:Nat),rounds (ff y4 ((a:Int),(b:Int),fs,ss,hs) ((a':Int),(b:Int),fs',ss',hs') (u,(x:Int))) (ue t (x*b),(0:Int))=some (.inl (ue t ((x+1)*b))):=fun x hx u=>by
  have:=aM (f:=ff y4 ((a:Int),(b:Int),fs,ss,hs) ((a':Int),(b:Int),fs',ss',hs') (u,(x:Int))) (fun y (s:Nat)=>(s,((y:Nat):Int))) (fun y s=>aq .add .f64 s (t (x*b+y))) (fun s=>(.inl s:Nat⊕Unit)) (n:=b) (fun y s=>s=ue t (x*b+y))
   (fun y s hy oz=>⟨by
    have e1:(x*b+y)/b=x:=by rw [Nat.mul_comm,Nat.mul_add_div (by omega),Nat.div_eq_of_lt hy,Nat.add_zero]
    have e2:(x*b+y)%b=y:=by rw [Nat.mul_comm,Nat.mul_add_mod,Nat.mod_eq_of_lt hy]
    unfold ff;simp only [hb,nL hy,cond_true,hc x y hx hy,Nk x y hx hy,Option.bind_some,Bool.not_true,cond_false,cL hy (show b≤4294967296 by omega),t,gD,e1,e2],by rw [oz];rfl⟩)
   (fun s _=>by
    unfold ff;simp only [hb,nM (Nat.le_refl _),cond_false]) b 0 (ue t (x*b)) (by omega) rfl
  simp only [Int.natCast_zero] at this;rw [this.1,this.2,Nat.succ_mul]
 have V3:=aM (f:=gT y4 ((a:Int),(b:Int),fs,ss,hs) ((a':Int),(b:Int),fs',ss',hs')) (fun x (s:Nat)=>(s,((x:Nat):Int))) (fun x s=>ue t ((x+1)*b)) (fun s=>(.inl s:Nat⊕Unit)) (n:=b) (fun x s=>s=ue t (x*b))
  (fun x s hx oz=>⟨by
   unfold gT;rw [oz];simp only [hb,nL hx,cond_true,hB3 x hx,Option.bind_some,cL hx (show b≤4294967296 by omega)],rfl⟩)
  (fun s _=>by
   unfold gT;simp only [hb,nM (Nat.le_refl _),cond_false]) b 0 0 (by omega) (by rw [Nat.zero_mul];rfl)
 simp only [Int.natCast_zero] at V3;have N2:b*b≤3*3:=Nat.mul_le_mul b3 b3;have l1:=fun p hp=>wA g (show 0<b by omega) (p:=p) hp;have l2:=fun p hp=>wA g' (show 0<b by omega) (p:=p) hp;have SN:au (fun p=>wS (gD a b fs ss hs p)*wS (gD a' b fs' ss' hs' p)) (b*b)≤1001/1000:=by
  have h1:au (fun p=>wS (gD a b fs ss hs p)*wS (gD a' b fs' ss' hs' p)) (b*b)≤au (fun p=>wS (gD a b fs ss hs p)*(10001/10000)) (b*b):=
   mG _ fun p hp=>Rat.mul_le_mul_of_nonneg_left (l2 p hp) (eD d hp).2.2
  rw [←fW] at h1;have:=yc g (show 0<b by omega) (Nat.le_refl (b*b));grind
 have V4:=cu (f:=fun p=>wS (gD a b fs ss hs p)*wS (gD a' b fs' ss' hs' p)) (b*b) fun p hp=>Rat.mul_nonneg (eD d hp).2.2 (eD d' hp).2.2;have Y8:=bD cC;have BN:je (8/10000) (au (fun p=>wS (gD a b fs ss hs p)*wS (gD a' b fs' ss' hs' p)) (b*b)) (wS v3)∧wS v3≤11/10:=by
  have tt:=dP 1200 (by omega);rw [show ((1200:Nat):Rat)=1200 from rfl] at tt;obtain ⟨x1,x2⟩:=nC;have k1:=Rat.mul_le_mul_of_nonneg_left tt V4;have k2:=Rat.mul_le_mul_of_nonneg_left tt Y8;refine ⟨⟨?_,?_⟩,?_⟩<;>grind
 obtain ⟨z1,ez1,_,fz1⟩:=BY (f:=gD a b fs ss hs) (g:=gD a' b fs' ss' hs') (n:=b*b) (b:=150) (C:=v3) (by omega) (by omega)
  (fun p hp=>⟨(eD d hp).1,Hr (eD d hp).1 (by have:=l1 p hp;grind)⟩) (fun p hp=>⟨(eD d' hp).1,Hr (eD d' hp).1 (by have:=l2 p hp;grind)⟩) cC (Hr cC (by have:=BN.2;grind)) BN.2 (by grind) BN.1
 have ez1:dE (ue t (b*b)) (aS .f32 .f64 v3)=some z1:=ez1;simp only [V3.1,V3.2,Option.bind_some];obtain ⟨h',_,_⟩:=iR g yp (by omega);rw [←hr] at h';obtain ⟨lr,_⟩:=h'.le (by omega);have hrn: ∀i,i<a→wS (r.getD i 0)≤10005/10000:=fun i hi=>by
  have:=sW (u:=fun p=>wS (r.getD p 0)) a (fun i hi=>bD (h'.rg i hi).fin) i hi;grind
 have M5: ∀k,k<a→rounds (fe ((a:Int),(b:Int),fs,ss,hs) (r,((250 - left:Nat):Int),true) (k:Int)) ((0:Nat),(0:Int))=
  some (ue (fun i=>aq .mul .f64 (aS .f32 .f64 (r.getD i 0)) (aS .f32 .f64 (ss.getD (i*a+k) 0))) a):=fun k hk=>by
  have:=aM (f:=fe ((a:Int),(b:Int),fs,ss,hs) (r,((250 - left:Nat):Int),true) (k:Int)) (fun i (s:Nat)=>(s,((i:Nat):Int))) (fun i s=>aq .add .f64 s (aq .mul .f64 (aS .f32 .f64 (r.getD i 0)) (aS .f32 .f64 (ss.getD (i*a+k) 0)))) id (n:=a) (fun _ _=>True)
   (fun i s hi _=>⟨by
    obtain ⟨q1,q2⟩:=oJ (a:=a) (b:=a) (by omega) (by omega) hi hk;have j1:=eG (i:=i) (n:=r.length) (by omega);have j2:=eG (i:=i*a+k) (n:=ss.length) (by omega);unfold fe;simp only [nL hi,cond_true,q1,Int.toNat_natCast,cL hi (show a≤4294967296 by omega)];rw [guard_pos j1,guard_pos j2],trivial⟩)
   (fun s _=>by
    unfold fe;simp only [nM (Nat.le_refl _),cond_false];rfl) a 0 0 (by omega) trivial
  simp only [Int.natCast_zero] at this;rw [this.1];have:=Fu (t:=fun i=>aq .mul .f64 (aS .f32 .f64 (r.getD i 0)) (aS .f32 .f64 (ss.getD (i*a+k) 0))) a 0;rw [Nat.zero_add] at this;exact congrArg some this
 have aas: ∀k,k<a→ ∃z,dE (ue (fun i=>aq .mul .f64 (aS .f32 .f64 (r.getD i 0)) (aS .f32 .f64 (ss.getD (i*a+k) 0))) a) (aS .f32 .f64 (r.getD k 0))=some z∧pP .f64 z 4562254508917369340=false:=fun k hk=>by
  have gp:=Nb g yp Ur cH hk;rw [←hr] at gp;obtain ⟨gp1,gp2⟩:=gp;have gM:=hrn k hk;obtain ⟨z,ez,fz,_⟩:=BY (f:=fun i=>r.getD i 0) (g:=fun i=>ss.getD (i*a+k) 0) (n:=a) (b:=150) (C:=r.getD k 0) (by omega) (by omega)
   (fun p hp=>⟨(h'.rg p hp).fin,(h'.rg p hp).hi⟩) (fun p hp=>⟨(d.es p k hp hk).fin,Nat.le_trans (d.es p k hp hk).hi (Nat.pow_le_pow_right (by omega) (by omega))⟩) (h'.rg k hk).fin (h'.rg k hk).hi (by grind) (by grind) ⟨by grind,by grind⟩
  exact ⟨z,ez,fz⟩
 have Pv:=aM (f:=gS ((a:Int),(b:Int),fs,ss,hs) (r,((250 - left:Nat):Int),true)) (fun k (_:Unit)=>((k:Nat):Int)) (fun _ s=>s) (fun _=>(.inl ():Unit⊕Unit)) (n:=a) (fun _ _=>True)
  (fun k s hk _=>⟨by
   obtain ⟨z,ez,fz⟩:=aas k hk;have j1:=eG (i:=k) (n:=r.length) (by omega);unfold gS;simp only [nL hk,cond_true,M5 k hk,Option.bind_some,Int.toNat_natCast,cL hk (show a≤4294967296 by omega)];rw [guard_pos j1];simp only [ez,fz,Option.bind_some,cond_false],trivial⟩)
  (fun s _=>by
   unfold gS;simp only [nM (Nat.le_refl _),cond_false]) a 0 () (by omega) trivial
 simp only [Int.natCast_zero] at Pv;simp only [Pv.1,Option.bind_some];have V5:(show Option (Unit⊕Bool) from
  bif (decide ((a:Int)>(1:Int))) then
   (gn ((a:Int),(b:Int),fs,ss,hs) (0:Int) (1:Int)).bind fun tn=>
   (gr ((a:Int),(b:Int),fs,ss,hs) (0:Int) (1:Int)).bind fun Az=>
   (show Option (Bool) from
    bif (tn.2 != Az.2) then
     some true
    else
     bif tn.2 then
      bif (tn.1.1 != (b8 .i64 (a:Int) (1:Int))) then
       some true
      else
       (hJ (tn.1.1,tn.1.2.1,tn.1.2.2.1,tn.1.2.2.2.1,tn.1.2.2.2.2) (Az.1.1,Az.1.2.1,Az.1.2.2.1,Az.1.2.2.2.1,Az.1.2.2.2.2)).bind fun Tk=>
       some (!Tk)
     else
      some false).bind fun Tl=>
   bif Tl then
    Jj (some false)
   else
    some (.inl ())
  else
   some (.inl ()))=some (.inl ()):=by
  by_cases ha:2≤a;obtain ⟨M,j1,j2,j3,j4,j5,j6⟩:=JX g ha;have hd:decide ((a:Int)>1)=true:=decide_eq_true (by omega);simp only [hd,cond_true,j1,j2,Option.bind_some,bne_self_eq_false,cond_false];cases hM:M.2 with
  |false=>rfl
  |true=>
   simp only [j3 hM,cond_true,bne_self_eq_false,cond_false,Bf j4 j5 j6,Option.bind_some,Bool.not_true]
  have hd:decide ((a:Int)>1)=false:=decide_eq_false (by omega);simp only [hd,cond_false]
 have Ni:=V5;obtain ⟨R9,e42,t1,t2⟩:=zS b1 (i:=2) (n:=7) (by omega);have eL:=Pm (y:=R9) ⟨t1,by omega⟩;obtain ⟨o1,o2,_⟩:=IK;simp only at Ni;rw [Ni];simp only [Option.bind_some,e42,eL,o1,o2,cond_true,ez1,fz1]
end Go.Proofs
