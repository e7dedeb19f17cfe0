import Derived.Test.YtjekgiabgglokaaLearnedPlA
set_option linter.unusedVariables false
set_option linter.unusedSimpArgs false
set_option linter.unusedSectionVars false
namespace Go.Proofs
theorem vZ {x y:Rat}(hx:0<x)(hy:0<y):0<x/y:=by rw [Rat.div_def];exact Rat.mul_pos hx (Rat.inv_pos.2 hy)
theorem Hw {n:Nat}{C t t':Nat→Rat}{D1 D2:Rat}(hC: ∀k,k<n→0≤C k)(ht: ∀k,k<n→0<t k)(h0: ∀k,k<n→C k=0∨0<t' k)(hD: ∀k,k<n→C k≤ak C n*t' k*D1)(hs:ak t n≤D2)(d1:0≤D1):
 ak C n*(1 - D1*D2 - ep)≤ak (fun k=>C k*(kb (t' k/t k):Rat)) n*ep:=by
 have hT:=jY n hC;have hp:=ka;have h1:ak (fun k=>C k*(1 - ep) - ak C n*D1*t k) n≤ak (fun k=>C k*(kb (t' k/t k):Rat)*ep) n:=by
  refine gE n fun k hk=> ?_;have c0:=hC k hk;have tp:=ht k hk;rcases h0 k hk with h|h
  rw [h];have:0≤ak C n*D1*t k:=Rat.mul_nonneg (Rat.mul_nonneg hT d1) (Rat.le_of_lt tp);grind;have hx:0<t' k/t k:=vZ h tp;have l:=MR hx;have e:1/(t' k/t k)*t' k=t k:=by
   have e1:t' k/t k*t k=t' k:=Rat.div_mul_cancel (by grind);have e2:1/(t' k/t k)*(t' k/t k)=1:=Rat.div_mul_cancel (by grind)
   calc 1/(t' k/t k)*t' k=1/(t' k/t k)*(t' k/t k*t k):=by rw [e1]
    _=(1/(t' k/t k)*(t' k/t k))*t k:=by grind
    _=t k:=by rw [e2];grind
  have l2:=Rat.mul_le_mul_of_nonneg_left l c0;have q0:0≤1/(t' k/t k):=Rat.le_of_lt (vZ (by grind) hx);have l3:=Rat.mul_le_mul_of_nonneg_left (hD k hk) q0;have e3:1/(t' k/t k)*(ak C n*t' k*D1)=ak C n*D1*(1/(t' k/t k)*t' k):=by grind
  rw [e3,e] at l3;generalize 1/(t' k/t k)=u at*;grind
 have e1:ak (fun k=>C k*(1 - ep) - ak C n*D1*t k) n=ak C n*(1 - ep) - ak C n*D1*ak t n:=by
  rw [b8 C (1 - ep),jZ t (ak C n*D1)];generalize ak C n*D1=z;have: ∀n,ak (fun k=>C k*(1 - ep) - z*t k) n=ak (fun i=>C i*(1 - ep)) n - ak (fun i=>z*t i) n:=fun n=>by
   induction n with
   |zero=>show (0:Rat)=0 - 0;grind
   |succ n ih=>show ak _ n+_=(ak _ n+_) - (ak _ n+_);rw [ih];grind
  exact this n
 rw [e1,←b8 (fun k=>C k*(kb (t' k/t k):Rat)) ep n] at h1;have h2:=Rat.mul_le_mul_of_nonneg_left hs (Rat.mul_nonneg hT d1);grind
def dL (g:List Nat→Rat):List (List Nat)→Rat
 |[]=>0
 |w::ws=>g w+dL g ws
def iS (g:List Nat→Rat):List (List Nat)→Rat
 |[]=>1
 |w::ws=>g w*iS g ws
def DV (g:List Nat→Int):List (List Nat)→Int
 |[]=>0
 |w::ws=>g w+DV g ws
theorem ly (F:List Nat→Nat→Rat)(n:Nat): ∀ws,dL (fun w=>ak (F w) n) ws=ak (fun i=>dL (fun w=>F w i) ws) n
 |[]=>by
  show (0:Rat)=ak (fun _=>0) n;induction n with
  |zero=>rfl
  |succ n ih=>show (0:Rat)=ak (fun _=>0) n+0;rw [←ih];grind
 |w::ws=>by
  show ak (F w) n+dL _ ws=ak (fun i=>F w i+dL (fun w=>F w i) ws) n;rw [ly F n ws,dI]
theorem nm (g:List Nat→Rat)(c:Rat): ∀ws,dL (fun w=>g w*c) ws=dL g ws*c
 |[]=>by show (0:Rat)=0*c;grind
 |w::ws=>by show g w*c+dL _ ws=(g w+dL g ws)*c;rw [nm g c ws];grind
theorem sM (g k:List Nat→Rat): ∀ws,dL (fun w=>g w+k w) ws=dL g ws+dL k ws
 |[]=>by show (0:Rat)=0+0;grind
 |w::ws=>by show g w+k w+dL _ ws=(g w+dL g ws)+(k w+dL k ws);rw [sM g k ws];grind
theorem yK {g k:List Nat→Rat}: ∀ws,(∀w∈ws,g w≤k w)→dL g ws≤dL k ws
 |[],_=>Rat.le_refl
 |w::ws,h=>by
  have h1:=yK ws fun w hw=>h w (List.mem_cons_of_mem _ hw);have h2:=h w (List.mem_cons_self ..);show g w+dL g ws≤k w+dL k ws;grind
theorem mM {g k:List Nat→Rat}: ∀ws,(∀w∈ws,g w=k w)→dL g ws=dL k ws
 |[],_=>rfl
 |w::ws,h=>by
  show g w+dL g ws=k w+dL k ws;rw [mM ws fun w hw=>h w (List.mem_cons_of_mem _ hw),h w (List.mem_cons_self ..)]
theorem rm {g:List Nat→Rat}: ∀ws,(∀w∈ws,0≤g w)→0≤dL g ws
 |[],_=>Rat.le_refl
 |w::ws,h=>by
  have h1:=rm ws fun w hw=>h w (List.mem_cons_of_mem _ hw);have h2:=h w (List.mem_cons_self ..);show 0≤g w+dL g ws;grind
theorem tO {g:List Nat→Rat}: ∀ws,(∀w∈ws,0<g w)→0<iS g ws
 |[],_=>by show (0:Rat)<1;grind
 |w::ws,h=>Rat.mul_pos (h w (List.mem_cons_self ..)) (tO ws fun w hw=>h w (List.mem_cons_of_mem _ hw))
theorem Fz {g g':List Nat→Rat}{S:List Nat→Int}: ∀ws,(∀w∈ws,0<g w)→(∀w∈ws,cp^(S w)*g w≤g' w)→cp^(DV S ws)*iS g ws≤iS g' ws
 |[],_,_=>by show cp^(0:Int)*1≤1;rw [Rat.zpow_zero];grind
 |w::ws,h0,h=>by
  have ih:=Fz ws (fun w hw=>h0 w (List.mem_cons_of_mem _ hw)) (fun w hw=>h w (List.mem_cons_of_mem _ hw));have h1:=h w (List.mem_cons_self ..);have p1:0≤cp^(DV S ws)*iS g ws:=Rat.mul_nonneg (Rat.le_of_lt (cO _)) (Rat.le_of_lt (tO ws fun w hw=>h0 w (List.mem_cons_of_mem _ hw)));have p2:0≤cp^(S w)*g w:=Rat.mul_nonneg (Rat.le_of_lt (cO _)) (Rat.le_of_lt (h0 w (List.mem_cons_self ..)));have q:=Rat.le_trans (Rat.mul_le_mul_of_nonneg_right h1 p1) (Rat.mul_le_mul_of_nonneg_left ih (Rat.le_trans p2 h1));show cp^(S w+DV S ws)*(g w*iS g ws)≤g' w*iS g' ws;rw [Rat.zpow_add kZ];grind
theorem Ch (S:List Nat→Int): ∀ws,(DV S ws:Rat)=dL (fun w=>(S w:Rat)) ws
 |[]=>rfl
 |w::ws=>by show ((S w+DV S ws:Int):Rat)=(S w:Rat)+_;rw [Rat.intCast_add,Ch S ws]
section
variable {a b:Nat} {h s h' s':Nat→Nat→Rat}
theorem IZ (m:oc a b h s): ∀(w:List Nat) (r:Nat→Rat),(∀c∈w,c<b)→(∀i,i<a→0≤r i)→ ∀i k,i<a→0≤cH a h s r w i k
 |[],_,_,_,_,_,_=>Rat.le_refl
 |c::w,r,hw,hr,i,k,hi=>by
  have h1:=IZ m w (qw a h s r c) (fun c hc=>hw c (List.mem_cons_of_mem _ hc)) (xq m hr (hw c (List.mem_cons_self ..))) i k hi;have h2:0≤r i*cV a h s (c::w) i:=Rat.mul_nonneg (hr i hi) (Rat.le_of_lt (dW m _ hw i hi));show 0≤(if k=c then r i*cV a h s (c::w) i else 0)+cH a h s (qw a h s r c) w i k;by_cases e:k=c;rw [if_pos e];grind;rw [if_neg e];grind
theorem I0: ∀(w:List Nat) (r:Nat→Rat) (i k:Nat),k ∉ w→cH a h s r w i k=0
 |[],_,_,_,_=>rfl
 |c::w,r,i,k,hk=>by
  show (if k=c then r i*cV a h s (c::w) i else 0)+cH a h s (qw a h s r c) w i k=0;rw [if_neg fun (e:k=c)=>hk (by rw [e];exact List.mem_cons_self ..),I0 w _ i k fun e=>hk (List.mem_cons_of_mem _ e)];grind
theorem Qb (m:oc a b h s): ∀(w:List Nat) (r:Nat→Rat),(∀c∈w,c<b)→(∀i,i<a→0≤r i)→ ∀i j,i<a→j<a→0≤cS a h s r w i j
 |[],_,_,_,_,_,_,_=>Rat.le_refl
 |c::w,r,hw,hr,i,j,hi,hj=>by
  have h1:=Qb m w (qw a h s r c) (fun c hc=>hw c (List.mem_cons_of_mem _ hc)) (xq m hr (hw c (List.mem_cons_self ..))) i j hi hj;have h2:0≤r i*h i c*s i j*cV a h s w j:=Rat.mul_nonneg (Rat.mul_nonneg (Rat.mul_nonneg (hr i hi) (Rat.le_of_lt (m.h0 i c hi (hw c (List.mem_cons_self ..))))) (Rat.le_of_lt (m.s0 i j hi hj)))
   (Rat.le_of_lt (dW m w (fun c hc=>hw c (List.mem_cons_of_mem _ hc)) j hj))
  show 0≤r i*h i c*s i j*cV a h s w j+cS a h s (qw a h s r c) w i j;grind
theorem MV: ∀(w:List Nat) (r:Nat→Rat),(∀c∈w,c<b)→ak (fun i=>ak (fun k=>cH a h s r w i k) b) a=(w.length:Rat)*ak (fun i=>r i*cV a h s w i) a
 |[],r,_=>by
  have z: ∀(f:Nat→Rat) n,(∀i,f i=0)→ak f n=0:=fun f n hf=>by
   induction n with
   |zero=>rfl
   |succ n ih=>show ak f n+f n=0;rw [ih,hf n];grind
  rw [z (fun i=>ak (fun k=>cH a h s r [] i k) b) a fun i=>z (fun k=>cH a h s r [] i k) b fun k=>rfl,show ((([]:List Nat).length:Nat):Rat)=0 from rfl];grind
 |c::w,r,hw=>by
  have hc:c<b:=hw c (List.mem_cons_self ..);have ih:=MV w (qw a h s r c) fun c hc=>hw c (List.mem_cons_of_mem _ hc);have hL:ak (fun i=>r i*cV a h s (c::w) i) a=ak (fun j=>qw a h s r c j*cV a h s w j) a:=tL r c _;have e:ak (fun i=>ak (fun k=>cH a h s r (c::w) i k) b) a=ak (fun i=>r i*cV a h s (c::w) i) a+ak (fun i=>ak (fun k=>cH a h s (qw a h s r c) w i k) b) a:=by
   rw [dI];refine aD a fun i _=> ?_;rw [←tN (g:=fun k=>r i*cV a h s (c::w) i) b hc,dI];rfl
  rw [e,ih,←hL,show (((c::w).length:Nat):Rat)=(w.length:Rat)+1 by rw [List.length_cons];grind];grind
theorem MW: ∀(w:List Nat) (r:Nat→Rat),ak (fun i=>ak (fun j=>cS a h s r w i j) a) a=(w.length:Rat)*ak (fun i=>r i*cV a h s w i) a
 |[],r=>by
  have z: ∀(f:Nat→Rat) n,(∀i,f i=0)→ak f n=0:=fun f n hf=>by
   induction n with
   |zero=>rfl
   |succ n ih=>show ak f n+f n=0;rw [ih,hf n];grind
  rw [z (fun i=>ak (fun j=>cS a h s r [] i j) a) a fun i=>z (fun j=>cS a h s r [] i j) a fun k=>rfl,show ((([]:List Nat).length:Nat):Rat)=0 from rfl];grind
 |c::w,r=>by
  have ih:=MW w (qw a h s r c);have hL:ak (fun i=>r i*cV a h s (c::w) i) a=ak (fun j=>qw a h s r c j*cV a h s w j) a:=tL r c _;have e:ak (fun i=>ak (fun j=>cS a h s r (c::w) i j) a) a=ak (fun i=>r i*cV a h s (c::w) i) a+ak (fun i=>ak (fun j=>cS a h s (qw a h s r c) w i j) a) a:=by
   rw [dI];refine aD a fun i _=> ?_;show ak (fun j=>r i*h i c*s i j*cV a h s w j+cS a h s (qw a h s r c) w i j) a=r i*ak (fun j=>h i c*s i j*cV a h s w j) a+_;rw [jZ,dI];exact aD a fun j _=>by grind
  rw [e,ih,←hL,show (((c::w).length:Nat):Rat)=(w.length:Rat)+1 by rw [List.length_cons];grind];grind
end
end Go.Proofs
namespace Go.Proofs
def fc (a:Nat)(f:Nat→Rat)(h s:Nat→Nat→Rat)(w:List Nat):Rat:=ak (fun i=>f i*cV a h s w i) a
def tF (a:Nat)(f:Nat→Rat)(h s:Nat→Nat→Rat)(ws:List (List Nat))(i:Nat):Rat:=dL (fun w=>f i*cV a h s w i/fc a f h s w) ws
def tH (a:Nat)(f:Nat→Rat)(h s:Nat→Nat→Rat)(ws:List (List Nat))(i k:Nat):Rat:=dL (fun w=>cH a h s f w i k/fc a f h s w) ws
def tS (a:Nat)(f:Nat→Rat)(h s:Nat→Nat→Rat)(ws:List (List Nat))(i j:Nat):Rat:=dL (fun w=>cS a h s f w i j/fc a f h s w) ws
def wa (ws:List (List Nat)):Rat:=dL (fun w=>(w.length:Rat)) ws
def uV (ws:List (List Nat)):Rat:=dL (fun _=>1) ws
theorem rn (F:List Nat→Nat→Nat→Rat)(g:Nat→Nat→Rat)(n m:Nat)(ws:List (List Nat)):
 dL (fun w=>ak (fun i=>ak (fun k=>F w i k*g i k) m) n) ws=ak (fun i=>ak (fun k=>dL (fun w=>F w i k) ws*g i k) m) n:=by
 rw [ly];refine aD n fun i _=> ?_;rw [ly];exact aD m fun k _=>nm ..
section
variable {a b:Nat} {f f':Nat→Rat} {h s h' s':Nat→Nat→Rat}
theorem gG (m:oc a b h s)(hf: ∀i,i<a→0<f i){w:List Nat}(hw: ∀c∈w,c<b):0<fc a f h s w:=
 qn m.a1 fun i hi=>Rat.mul_pos (hf i hi) (dW m w hw i hi)
theorem Hx (m:oc a b h s)(hf: ∀i,i<a→0<f i){ws:List (List Nat)}(hw: ∀w∈ws,∀c∈w,c<b):ak (tF a f h s ws) a=uV ws:=by
 have e:dL (fun w=>ak (fun i=>f i*cV a h s w i/fc a f h s w) a) ws=ak (tF a f h s ws) a:=ly ..;rw [←e];refine mM ws fun w hm=> ?_;have hp:=gG m hf (hw w hm);have e2:ak (fun i=>f i*cV a h s w i/fc a f h s w) a=fc a f h s w*(fc a f h s w)⁻¹:=by
  show _=ak (fun i=>f i*cV a h s w i) a*_;rw [b8];exact aD a fun i _=>Rat.div_def ..
 rw [e2];exact Rat.mul_inv_cancel _ (by grind)
theorem MX (m:oc a b h s)(hf: ∀i,i<a→0<f i){ws:List (List Nat)}(hw: ∀w∈ws,∀c∈w,c<b):ak (fun i=>ak (tH a f h s ws i) b) a=wa ws:=by
 have e:=rn (fun w i k=>cH a h s f w i k/fc a f h s w) (fun _ _=>1) a b ws;have e0:ak (fun i=>ak (fun k=>dL (fun w=>cH a h s f w i k/fc a f h s w) ws*1) b) a=ak (fun i=>ak (tH a f h s ws i) b) a:=
  aD a fun i _=>aD b fun k _=>by show tH a f h s ws i k*1=_;grind
 rw [←e0,←e];refine mM ws fun w hm=> ?_;have hp:=gG m hf (hw w hm);have e2:ak (fun i=>ak (fun k=>cH a h s f w i k/fc a f h s w*1) b) a=ak (fun i=>ak (fun k=>cH a h s f w i k) b) a*(fc a f h s w)⁻¹:=by
  rw [b8];refine aD a fun i _=> ?_;rw [b8];exact aD b fun k _=>by rw [Rat.div_def];grind
 rw [e2,MV w f (hw w hm),show ak (fun i=>f i*cV a h s w i) a=fc a f h s w from rfl,Rat.mul_assoc,Rat.mul_inv_cancel _ (by grind)];grind
theorem SN (m:oc a b h s)(hf: ∀i,i<a→0<f i){ws:List (List Nat)}(hw: ∀w∈ws,∀c∈w,c<b):ak (fun i=>ak (tS a f h s ws i) a) a=wa ws:=by
 have e:=rn (fun w i k=>cS a h s f w i k/fc a f h s w) (fun _ _=>1) a a ws;have e0:ak (fun i=>ak (fun k=>dL (fun w=>cS a h s f w i k/fc a f h s w) ws*1) a) a=ak (fun i=>ak (tS a f h s ws i) a) a:=
  aD a fun i _=>aD a fun k _=>by show tS a f h s ws i k*1=_;grind
 rw [←e0,←e];refine mM ws fun w hm=> ?_;have hp:=gG m hf (hw w hm);have e2:ak (fun i=>ak (fun k=>cS a h s f w i k/fc a f h s w*1) a) a=ak (fun i=>ak (fun k=>cS a h s f w i k) a) a*(fc a f h s w)⁻¹:=by
  rw [b8];refine aD a fun i _=> ?_;rw [b8];exact aD a fun k _=>by rw [Rat.div_def];grind
 rw [e2,MW w f,show ak (fun i=>f i*cV a h s w i) a=fc a f h s w from rfl,Rat.mul_assoc,Rat.mul_inv_cancel _ (by grind)];grind
theorem od {x y:Rat}(hx:0≤x)(hy:0<y):0≤x/y:=by rw [Rat.div_def];exact Rat.mul_nonneg hx (Rat.le_of_lt (Rat.inv_pos.2 hy))
theorem MY (m:oc a b h s)(hf: ∀i,i<a→0<f i){ws:List (List Nat)}(hw: ∀w∈ws,∀c∈w,c<b){i k:Nat}(hi:i<a):0≤tH a f h s ws i k:=
 rm ws fun w hm=>od (IZ m w f (hw w hm) (fun i hi=>Rat.le_of_lt (hf i hi)) i k hi) (gG m hf (hw w hm))
theorem Vr (m:oc a b h s)(hf: ∀i,i<a→0<f i){ws:List (List Nat)}(hw: ∀w∈ws,∀c∈w,c<b){i j:Nat}(hi:i<a)(hj:j<a):0≤tS a f h s ws i j:=
 rm ws fun w hm=>od (Qb m w f (hw w hm) (fun i hi=>Rat.le_of_lt (hf i hi)) i j hi hj) (gG m hf (hw w hm))
theorem Vs (m:oc a b h s)(hf: ∀i,i<a→0<f i){ws:List (List Nat)}(hw: ∀w∈ws,∀c∈w,c<b){i:Nat}(hi:i<a):0≤tF a f h s ws i:=
 rm ws fun w hm=>od (Rat.le_of_lt (Rat.mul_pos (hf i hi) (dW m w (hw w hm) i hi))) (gG m hf (hw w hm))
theorem I1 {ws:List (List Nat)}{i k:Nat}(hk: ∀w∈ws,k ∉ w):tH a f h s ws i k=0:=by
 have e:tH a f h s ws i k=dL (fun _=>(0:Rat)*0) ws:=mM ws fun w hm=>by rw [I0 w f i k (hk w hm)];grind
 rw [e,nm];grind
theorem AH {x y:Rat}(hx:0<x)(hy:0<y):cp^(kb (y/x))*x≤y:=by
 have h1:=DS (vZ hy hx);have h2:=Rat.mul_le_mul_of_nonneg_right h1 (Rat.le_of_lt hx);rw [Rat.div_mul_cancel (by grind)] at h2;exact h2
theorem em (m:oc a b h s)(hf: ∀i,i<a→0<f i){ws:List (List Nat)}{D1 D2 eta:Rat}(hw: ∀w∈ws,∀c∈w,c<b)(F0: ∀i,i<a→0<f' i)(H0: ∀i,i<a→ ∀w∈ws,∀c∈w,0<h' i c)(S0: ∀i j,i<a→j<a→0<s' i j)(FD: ∀i,i<a→tF a f h s ws i≤ak (tF a f h s ws) a*f' i*D1)(HD: ∀i k,i<a→k<b→tH a f h s ws i k≤ak (tH a f h s ws i) b*h' i k*D1)(SD: ∀i j,i<a→j<a→tS a f h s ws i j≤ak (tS a f h s ws i) a*s' i j*D1)(f2:ak f a≤D2)(h2: ∀i,i<a→ak (h i) b≤D2)(s2: ∀i,i<a→ak (s i) a≤D2)(d1:0≤D1)(he:D1*D2+2*ep≤1+eta):
 iS (fc a f h s) ws*(1 - (uV ws+2*wa ws)*eta)≤iS (fc a f' h' s') ws:=by
 let lf:=fun i=>kb (f' i/f i);let lh:=fun i k=>kb (h' i k/h i k);let ls:=fun i j=>kb (s' i j/s i j);let S:=Vq a f h s lf lh ls;have hp: ∀w∈ws,0<fc a f h s w:=fun w hm=>gG m hf (hw w hm);have P:=Fz (g:=fc a f h s) (g':=fc a f' h' s') (S:=S) ws hp fun w hm=>
  SL (h':=h') (s':=s') m (hw w hm) hf (fun i hi=>AH (hf i hi) (F0 i hi)) (fun i c hi hc=>AH (m.h0 i c hi (hw w hm c hc)) (H0 i hi w hm c hc)) (fun i j hi hj _=>AH (m.s0 i j hi hj) (S0 i j hi hj))
 have G: ∀w∈ws,ak (fun i=>f i*cV a h s w i/fc a f h s w*(lf i:Rat)) a+ak (fun i=>ak (fun k=>cH a h s f w i k/fc a f h s w*(lh i k:Rat)) b) a+
  ak (fun i=>ak (fun j=>cS a h s f w i j/fc a f h s w*(ls i j:Rat)) a) a≤(S w:Rat)+1+(w.length:Rat):=fun w hm=>by
  have g:=SM (lf:=lf) (lh:=lh) (ls:=ls) m (hw w hm) hf;have hL:=hp w hm;have g2:=Rat.mul_le_mul_of_nonneg_right g (Rat.le_of_lt (Rat.inv_pos.2 hL));have c:fc a f h s w*(fc a f h s w)⁻¹=1:=Rat.mul_inv_cancel _ (by grind);have e1:ak (fun i=>f i*cV a h s w i/fc a f h s w*(lf i:Rat)) a=ak (fun i=>f i*cV a h s w i*(lf i:Rat)) a*(fc a f h s w)⁻¹:=by
   rw [b8];exact aD a fun i _=>by rw [Rat.div_def];grind
  have e2:ak (fun i=>ak (fun k=>cH a h s f w i k/fc a f h s w*(lh i k:Rat)) b) a=ak (fun i=>ak (fun k=>cH a h s f w i k*(lh i k:Rat)) b) a*(fc a f h s w)⁻¹:=by
   rw [b8];refine aD a fun i _=> ?_;rw [b8];exact aD b fun k _=>by rw [Rat.div_def];grind
  have e3:ak (fun i=>ak (fun j=>cS a h s f w i j/fc a f h s w*(ls i j:Rat)) a) a=ak (fun i=>ak (fun j=>cS a h s f w i j*(ls i j:Rat)) a) a*(fc a f h s w)⁻¹:=by
   rw [b8];refine aD a fun i _=> ?_;rw [b8];exact aD a fun k _=>by rw [Rat.div_def];grind
  rw [e1,e2,e3];have e4:((S w:Rat)+1+(w.length:Rat))*fc a f h s w*(fc a f h s w)⁻¹=(S w:Rat)+1+(w.length:Rat):=by
   rw [Rat.mul_assoc,c];grind
  rw [←e4];refine Rat.le_trans ?_ g2;grind
 have G2:=yK ws G;rw [sM (fun w=>ak (fun i=>f i*cV a h s w i/fc a f h s w*(lf i:Rat)) a+ak (fun i=>ak (fun k=>cH a h s f w i k/fc a f h s w*(lh i k:Rat)) b) a)
  (fun w=>ak (fun i=>ak (fun j=>cS a h s f w i j/fc a f h s w*(ls i j:Rat)) a) a),
  sM (fun w=>ak (fun i=>f i*cV a h s w i/fc a f h s w*(lf i:Rat)) a) (fun w=>ak (fun i=>ak (fun k=>cH a h s f w i k/fc a f h s w*(lh i k:Rat)) b) a),
  rn (fun w i k=>cH a h s f w i k/fc a f h s w) (fun i k=>(lh i k:Rat)) a b ws,rn (fun w i j=>cS a h s f w i j/fc a f h s w) (fun i j=>(ls i j:Rat)) a a ws,
  ly (fun w i=>f i*cV a h s w i/fc a f h s w*(lf i:Rat)) a ws,
  sM (fun w=>(S w:Rat)+1) (fun w=>(w.length:Rat)),sM (fun w=>(S w:Rat)) (fun _=>1),←Ch S] at G2
 rw [aD a (g:=fun i=>tF a f h s ws i*(lf i:Rat)) fun i _=>nm ..] at G2;have gF:=Hw (n:=a) (C:=tF a f h s ws) (t:=f) (t':=f') (fun k hk=>Vs m hf hw hk) hf (fun k hk=> .inr (F0 k hk)) FD f2 d1;have gH: ∀i,i<a→ak (tH a f h s ws i) b*(1 - D1*D2 - ep)≤ak (fun k=>tH a f h s ws i k*(lh i k:Rat)) b*ep:=fun i hi=>
  Hw (n:=b) (C:=tH a f h s ws i) (t:=h i) (t':=h' i) (fun k _=>MY m hf hw hi) (fun k hk=>m.h0 i k hi hk) (fun k hk=>by
   by_cases e: ∃w∈ws,k∈w;obtain ⟨w,hm,dU⟩:=e;exact .inr (H0 i hi w hm k dU);exact .inl (I1 fun w hm dU=>e ⟨w,hm,dU⟩)) (fun k hk=>HD i k hi hk) (h2 i hi) d1
 have gS: ∀i,i<a→ak (tS a f h s ws i) a*(1 - D1*D2 - ep)≤ak (fun k=>tS a f h s ws i k*(ls i k:Rat)) a*ep:=fun i hi=>
  Hw (n:=a) (C:=tS a f h s ws i) (t:=s i) (t':=s' i) (fun k hk=>Vr m hf hw hi hk) (fun k hk=>m.s0 i k hi hk) (fun k hk=> .inr (S0 i k hi hk)) (fun k hk=>SD i k hi hk) (s2 i hi) d1
 have gH2:=gE a gH;have gS2:=gE a gS;rw [←b8,←b8] at gH2 gS2;rw [MX m hf hw] at gH2;rw [SN m hf hw] at gS2;rw [Hx m hf hw] at gF;have Ll:=ka;have n0:0≤uV ws:=rm ws fun _ _=>by grind
 have l0:0≤wa ws:=rm ws fun _ _=>Rat.natCast_nonneg;have B:=Cf (DV S ws);have PP:0<iS (fc a f h s) ws:=tO ws hp;have key:1 - (uV ws+2*wa ws)*eta≤1+(DV S ws:Rat)*ep:=by
  have t1:dL (fun _=>(1:Rat)) ws=uV ws:=rfl;have t2:dL (fun w=>(w.length:Rat)) ws=wa ws:=rfl;rw [t1,t2] at G2;have G3:=Rat.mul_le_mul_of_nonneg_right G2 (Rat.le_of_lt Ll);have q1:(uV ws+2*wa ws)*(D1*D2+2*ep)≤(uV ws+2*wa ws)*(1+eta):=Rat.mul_le_mul_of_nonneg_left he (by grind);have q2:0≤wa ws*ep:=Rat.mul_nonneg l0 (Rat.le_of_lt Ll);have c1:ak (fun i=>ak (fun k=>dL (fun w=>cH a h s f w i k/fc a f h s w) ws*(lh i k:Rat)) b) a=ak (fun i=>ak (fun k=>tH a f h s ws i k*(lh i k:Rat)) b) a:=rfl;have c2:ak (fun i=>ak (fun k=>dL (fun w=>cS a h s f w i k/fc a f h s w) ws*(ls i k:Rat)) a) a=ak (fun i=>ak (fun k=>tS a f h s ws i k*(ls i k:Rat)) a) a:=rfl;have c3:ak (fun k=>tF a f h s ws k*(kb (f' k/f k):Rat)) a=ak (fun i=>tF a f h s ws i*(lf i:Rat)) a:=rfl;rw [c1,c2] at G3;rw [c3] at gF;clear c1 c2 c3 t1 t2 G2 G P gH gS FD HD SD;generalize ak (fun i=>ak (fun k=>tH a f h s ws i k*(lh i k:Rat)) b) a=x1 at*;generalize ak (fun i=>ak (fun k=>tS a f h s ws i k*(ls i k:Rat)) a) a=x2 at*;generalize ak (fun i=>tF a f h s ws i*(lf i:Rat)) a=x3 at*;generalize (DV S ws:Rat)=x4 at*;generalize uV ws=x5 at*;generalize wa ws=x6 at*;grind
 have r1:=Rat.mul_le_mul_of_nonneg_left (Rat.le_trans key B) (Rat.le_of_lt PP);refine Rat.le_trans r1 ?_;rw [Rat.mul_comm];exact P
end
end Go.Proofs
namespace Go.Proofs
open Go.Ide Go.IntWalk
def fQ (fs:List Nat)(i:Nat):Rat:=wS (fs.getD i 0)
def hQ (b:Nat)(hs:List Nat)(i c:Nat):Rat:=wS (hs.getD (i*b+c) 0)
def sQ (a:Nat)(ss:List Nat)(i j:Nat):Rat:=wS (ss.getD (i*a+j) 0)
def wN (w:List Int):List Nat:=w.map Int.toNat
def ue (a:Nat)(f:Nat→Rat)(h s:Nat→Nat→Rat)(w:List Nat):Nat→Nat→Rat
 |0,j=>f j
 |t+1,j=>qw a h s (ue a f h s w t) (w.getD t 0) j
theorem jJ (w:List Int):(wN w).length=w.length:=by simp [wN]
theorem xr {w:List Int}{t:Nat}(ht:t<w.length):(wN w).getD t 0=(w.getD t 0).toNat:=by
 unfold wN;rw [List.getD_eq_getElem?_getD,List.getElem?_map,List.getElem?_eq_getElem ht,List.getD_eq_getElem?_getD,List.getElem?_eq_getElem ht];rfl
theorem AI {b:Nat}{w:List Int}(hw:bU b w): ∀c∈wN w,c<b:=by
 intro c hc;unfold wN at hc;obtain ⟨x,hx,rfl⟩:=List.mem_map.1 hc;obtain ⟨i,hi,rfl⟩:=List.getElem_of_mem hx;obtain ⟨k,hk,dU⟩:=hw i hi;rw [List.getD_eq_getElem?_getD,List.getElem?_eq_getElem hi] at hk;have gP:w[i]=(k:Int):=hk;rw [gP];simpa using dU
theorem tP {w:List Nat}{t:Nat}(ht:t<w.length):w.drop t=w.getD t 0::w.drop (t+1):=by
 rw [List.drop_eq_getElem_cons ht,List.getD_eq_getElem?_getD,List.getElem?_eq_getElem ht];rfl
section
variable {a b:Nat} {fs ss hs:List Nat}
theorem DW (g:mg a b fs ss hs):oc a b (hQ b hs) (sQ a ss):=by
 have d:=g.d;refine ⟨d.m.n1,fun i c hi hc=> ?_,fun i j hi hj=> ?_⟩;have h:=(d.eh i c hi hc).SF;have hU:=dH;have hp:=cD (bg 143);unfold hQ;generalize wS (hs.getD (i*b+c) 0)=x at*;by_cases e:0<x;exact e;have:=Rat.mul_le_mul_of_nonneg_right (show x≤0 by grind) (Rat.le_of_lt hU);have:((1:Nat):Rat)=1:=rfl;grind;have h:=(d.es i j hi hj).SF;have hU:=dH;have hp:=cD (bg 143);unfold sQ;generalize wS (ss.getD (i*a+j) 0)=x at*;by_cases e:0<x;exact e;have:=Rat.mul_le_mul_of_nonneg_right (show x≤0 by grind) (Rat.le_of_lt hU);have:((1:Nat):Rat)=1:=rfl;grind
theorem oX (g:mg a b fs ss hs){i:Nat}(hi:i<a):0<fQ fs i:=by
 have h:=(g.d.ef i hi).SF;have hU:=dH;have hp:=cD (bg 143);unfold fQ;generalize wS (fs.getD i 0)=x at*;by_cases e:0<x;exact e;have:=Rat.mul_le_mul_of_nonneg_right (show x≤0 by grind) (Rat.le_of_lt hU);have:((1:Nat):Rat)=1:=rfl;grind
theorem Hy (g:mg a b fs ss hs){w:List Int}(hw:bU b w)(hl:w.length≤6): ∀t,t≤w.length→ ∀j,j<a→
 Nq (72*t) (wS ((rowAt a b fs ss hs w t).getD j 0)) (ue a (fQ fs) (hQ b hs) (sQ a ss) (wN w) t j)
 |0,_,j,hj=>Nq.refl (cT (g.d.ef j hj).fin)
 |t+1,ht,j,hj=>by
  obtain ⟨c,hc,eV⟩:=hw t (by omega);have hf:=DF g.d hw hl t (by omega);have n:=Pb g.d eV hf (by omega) (by omega) (by omega) hj;have ih:=Hy g hw hl t (by omega);have e1:rowAt a b fs ss hs w (t+1)=ib a b ss hs (rowAt a b fs ss hs w t) c:=by rw [rowAt,hc,Int.toNat_natCast]
  have e2:ue a (fQ fs) (hQ b hs) (sQ a ss) (wN w) (t+1) j=ak (fun i=>ue a (fQ fs) (hQ b hs) (sQ a ss) (wN w) t i*hQ b hs i c*sQ a ss i j) a:=by
   rw [ue,xr (by omega),hc,Int.toNat_natCast];rfl
  rw [e1,e2,show 72*(t+1)=72+72*t by omega];refine n.trans (gv a fun p hp=> ?_);have m:=DW g;exact ((ih p hp).pJ (Rat.le_of_lt (m.h0 p c hp eV))).pJ (Rat.le_of_lt (m.s0 p j hp hj))
theorem Hz (g:mg a b fs ss hs){w:List Int}(hw:bU b w)(hl:w.length≤6): ∀k,k≤w.length→ ∀i,i<a→
 Nq (72*k) (wS ((ic a b ss hs w k).getD i 0)) (cV a (hQ b hs) (sQ a ss) ((wN w).drop (w.length - k)) i)
 |0,_,i,hi=>by
  have h1:(ic a b ss hs w 0).getD i 0=1065353216:=by rw [ic,List.getD_eq_getElem?_getD,List.getElem?_replicate,if_pos hi];rfl
  rw [h1,SJ,Nat.sub_zero,List.drop_eq_nil_of_le (by rw [jJ];exact Nat.le_refl _)];exact Nq.refl (by show (0:Rat)≤1;grind)
 |k+1,hk,i,hi=>by
  obtain ⟨c,hc,eV⟩:=hw (w.length - (k+1)) (by omega);have hg:=DG g.d hw hl k (by omega);have n:=Pc g.d eV hg (by omega) (by omega) (by omega) hi;have ih:=Hz g hw hl k (by omega);have e1:ic a b ss hs w (k+1)=rK a b ss hs (ic a b ss hs w k) c:=by rw [ic,hc,Int.toNat_natCast]
  have e2:(wN w).drop (w.length - (k+1))=c::(wN w).drop (w.length - k):=by
   rw [tP (by rw [jJ];omega),xr (by omega),hc,Int.toNat_natCast]
   congr 2;omega
  rw [e1,e2,show 72*(k+1)=72+72*k by omega];refine n.trans (gv a fun p hp=> ?_);have m:=DW g;have hnn:0≤hQ b hs i c*sQ a ss i p:=Rat.mul_nonneg (Rat.le_of_lt (m.h0 i c hi eV)) (Rat.le_of_lt (m.s0 i p hi hp));have q:=(ih p hp).pJ hnn;rw [Rat.mul_comm,Rat.mul_comm (cV ..)] at q;exact q
end
end Go.Proofs
namespace Go.Proofs
open Go.Ide Go.IntWalk
def Y2 (a b:Nat)(fs ss hs:List Nat)(w:List Int)(k:Nat):List Nat×Bool:=OT (Ar a (rowAt a b fs ss hs w k) (ic a b ss hs w (w.length - k)))
def MZ (a b:Nat)(fs ss hs:List Nat)(w:List Int)(k:Nat):List Nat×Bool:=OT (qj a b ss hs (rowAt a b fs ss hs w k) (ic a b ss hs w (w.length - (k+1))) (w.getD k 0).toNat a)
def Bv (xs ys:List Nat):List Nat:=pC (fun i o=>o.set i (av .add .f32 (o.getD i 0) (ys.getD i 0))) ys.length 0 xs
def AJ (b c:Nat)(xs ys:List Nat):List Nat:=pC (fun i o=>o.set (i*b+c) (av .add .f32 (o.getD (i*b+c) 0) (ys.getD i 0))) ys.length 0 xs
theorem I2 {xs ys:List Nat}(h:ys.length≤xs.length)(hl:ys.length≤4294967296):mI xs ys=some (Bv xs ys)∧(Bv xs ys).length=xs.length:=by
 have:=bt (f:=mV ys) (fun i out=>(((i:Nat):Int),out)) (fun i o=>o.set i (av .add .f32 (o.getD i 0) (ys.getD i 0))) id (n:=ys.length) (fun i out=>out.length=xs.length)
  (fun i out hi ho=>⟨by
   unfold mV;simp only [ai,nW hi,cond_true,Int.toNat_natCast,cQ hi hl];rw [guard_pos (cZ hi),guard_pos (cZ (by omega))],by simp [ho]⟩)
  (fun out _=>by
   unfold mV;simp only [ai,nX (Nat.le_refl _),cond_false];rfl) ys.length 0 xs (by omega) rfl
 simp only [Int.natCast_zero] at this;unfold mI;rw [this.1];simp only [id,Option.bind_some];exact ⟨guard_pos this.2,this.2⟩
theorem M0 {n:Int}{fs ss hs:List Nat}{w:List Int}{a b c j:Nat}{gm:List Nat×List Nat}{xs:List Nat}{p:List Nat×Bool}(ha:a≤5)(hb:b≤5)(hc:c<b)(hq:p.1.length=a)(hl:xs.length=a*b)(FU:w.getD j 0=(c:Int)):rounds (dv (n,(b:Int),fs,ss,hs) w ((j:Int),gm) p) ((0:Int),xs)=some (AJ b c xs p.1):=by
 have:=bt (f:=dv (n,(b:Int),fs,ss,hs) w ((j:Int),gm) p) (fun i out=>(((i:Nat):Int),out)) (fun i o=>o.set (i*b+c) (av .add .f32 (o.getD (i*b+c) 0) (p.1.getD i 0))) id (n:=p.1.length) (fun i out=>out.length=xs.length)
  (fun k out hk ho=>⟨by
   obtain ⟨e1,e2⟩:=oP (a:=a) (b:=b) ha hb (show k<a by omega) hc;have j0:=cZ (i:=k*b+c) (n:=out.length) (by omega);unfold dv;simp only [ai,nW hk,cond_true,Int.toNat_natCast,cQ hk (show p.1.length≤4294967296 by omega),FU,e1];rw [guard_pos (cZ hk),guard_pos j0],by simp [ho]⟩)
  (fun out _=>by
   unfold dv;simp only [ai,nX (Nat.le_refl _),cond_false];rfl) p.1.length 0 xs (by omega) rfl
 simp only [Int.natCast_zero] at this;rw [this.1];rfl
end Go.Proofs
namespace Go.Proofs
open Go.Ide Go.IntWalk
def fm (cnt old:List Nat):List Nat:=bif qI .f32 (aW cnt cnt.length) 0 then dp cnt (aW cnt cnt.length) else old
theorem tQ {cnt old:List Nat}(h:cnt.length=old.length):(fm cnt old).length=old.length:=by
 unfold fm;cases qI .f32 (aW cnt cnt.length) 0 with
 |false=>rfl
 |true=>simp [qi,h]
def bP (cnt old:List Nat)(w:Nat):Nat→List Nat
 |0=>[]
 |i+1=>bP cnt old w i++fm (bT cnt w i) (bT old w i)
theorem jK {cnt old:List Nat}{w n:Nat}(h1:cnt.length=n*w)(h2:old.length=n*w): ∀i,i≤n→(bP cnt old w i).length=i*w
 |0,_=>by simp [bP]
 |i+1,hi=>by
  have l1:=bo h1 (show i<n by omega);have l2:=bo h2 (show i<n by omega);rw [bP,List.length_append,jK h1 h2 i (by omega),tQ (by omega),l2,Nat.succ_mul]
theorem sN {cnt old:List Nat}{n w:Nat}(hn:n≤5)(hw1:1≤w)(hw:w≤5)(l1:cnt.length=n*w)(l2:old.length=n*w):iE cnt old (w:Int)=some (bP cnt old w n):=by
 have hnw:n*w≤25:=Nat.mul_le_mul hn hw;have hq:IntKind.wrap .i64 (Int.tdiv (ai cnt) (w:Int))=(n:Int):=by
  simp only [ai,l1];rw [Int.natCast_mul,Int.mul_tdiv_cancel _ (by omega)];have:=ju (a:=(n:Int)) (b:=0) (by omega);simpa [al] using this
 have h2:=bt (f:=kA cnt (w:Int)) (fun i out=>(((i:Nat):Int),out)) (fun i _=>bP cnt old w (i+1)++old.drop ((i+1)*w)) id (n:=n)
  (fun i out=>out=bP cnt old w i++old.drop (i*w))
  (fun i out hi ho=>⟨by
   obtain ⟨c1,c2,c3,c4⟩:=Dy (xs:=cnt) (w:=w) (n:=n) (by omega) (by omega) hi;have CA:=Am l1 hi;have YN:=Am l2 hi;have k1:=bo l1 hi;have k2:=bo l2 hi;have s1:=jK l1 l2 i (by omega);have Xq:old.drop (i*w)=bT old w i++old.drop ((i+1)*w):=by
    unfold bT;rw [Nat.succ_mul,←List.drop_drop,List.take_append_drop]
   rw [c3,c2] at c1;unfold kA ei;simp only [hq,nW hi,cond_true,c2,c4,c1];rw [guard_pos ⟨by omega,by omega,by omega,by simp only [ai];omega⟩];simp only [Option.bind_some,vN (xs:=bT cnt w i) (by omega),cQ hi (show n≤4294967296 by omega)];have hf:bP cnt old w (i+1)=bP cnt old w i++fm (bT cnt w i) (bT old w i):=rfl;have hfu:fm (bT cnt w i) (bT old w i)=bif qI .f32 (aW (bT cnt w i) (bT cnt w i).length) 0 then dp (bT cnt w i) (aW (bT cnt w i) (bT cnt w i).length) else bT old w i:=rfl;cases hg:qI .f32 (aW (bT cnt w i) (bT cnt w i).length) 0 with
   |false=>
    rw [hf,hfu,hg,ho,Xq];simp [List.append_assoc]
   |true=>
    let sm:=aW (bT cnt w i) (bT cnt w i).length;have h1:=bt (f:=ky (w:Int) ((i:Int),out) (bT cnt w i) sm) (fun k o=>(((k:Nat):Int),o)) (fun k o=>o.set (i*w+k) (av .quo .f32 ((bT cnt w i).getD k 0) sm)) id (n:=(bT cnt w i).length)
     (fun k o=>o=(bP cnt old w i++(List.range k).map (fun k=>av .quo .f32 ((bT cnt w i).getD k 0) sm))++old.drop (i*w+k))
     (fun k o hk Wd=>by
      have CD:o.length=n*w:=by
       rw [Wd];simp [s1];omega
      obtain ⟨e1,e2⟩:=oP (a:=5) (b:=w) (by omega) hw (show i<5 by omega) (show k<w by omega);have j0:=cZ (i:=i*w+k) (n:=o.length) (by omega);refine ⟨?_,?_⟩;unfold ky;simp only [ai,nW hk,cond_true,Int.toNat_natCast,cQ hk (show (bT cnt w i).length≤4294967296 by omega),e1];rw [guard_pos (cZ hk),guard_pos j0];rw [Wd,drop_cons (show i*w+k<old.length by omega) 0,wM (by simp [s1]),List.range_succ,List.map_append];simp [Nat.add_assoc])
     (fun o _=>by
      unfold ky;simp only [ai,nX (Nat.le_refl _),cond_false];rfl) (bT cnt w i).length 0 out (by omega) (by rw [ho];simp)
    simp only [Int.natCast_zero] at h1;simp only [Bool.not_true,cond_false];rw [h1.1];simp only [id,Option.bind_some];rw [h1.2,hf,hfu,hg,cond_true,k1,Nat.succ_mul];have VO:sm=aW (bT cnt w i) w:=congrArg (aW (bT cnt w i)) k1;unfold dp;rw [k1,VO],by
   rfl⟩)
  (fun out _=>by
   unfold kA;simp only [hq,nX (Nat.le_refl _),cond_false];rfl) n 0 old (by omega) (by simp [bP])
 simp only [Int.natCast_zero] at h2;have rN:cc old=some old:=by
  unfold cc;rw [guard_pos (by simp only [bO];omega)]
 unfold iE;rw [rN];simp only [Option.bind_some];rw [guard_pos (by omega),h2.1];simp only [id,Option.bind_some];rw [h2.2,←l2,List.drop_length,List.append_nil]
theorem FA {a b:Nat}{fs ss hs c1 c2 c3:List Nat}(m:Model a b fs ss hs)(l1:c1.length=a)(l2:c2.length=a*a)(l3:c3.length=a*b):
 gq ((a:Int),(b:Int),fs,ss,hs) (c1,c2,c3)=some (bif cu a b (fm c1 fs) (bP c2 ss a a) (bP c3 hs b a) then (((a:Int),(b:Int),fm c1 fs,bP c2 ss a a,bP c3 hs b a),true) else ((0,0,[],[],[]),false)):=by
 have yt:=m.n1;have ld:=m.n2;have Gq:=m.k1;have dU:=m.k2;have Kv:=m.lf;have Dz:=m.ls;have Bu:=m.lh;have e1:bP c1 fs a 1=fm c1 fs:=by
  simp only [bP,List.nil_append];rw [Ao l1,Ao Kv]
 unfold gq gR;simp only [sN (n:=1) (w:=a) (by omega) yt ld (by omega) (by omega) (cnt:=c1) (old:=fs),sN ld yt ld l2 Dz,sN ld Gq (by omega) l3 Bu,Option.bind_some,xc,e1];cases cu a b (fm c1 fs) (bP c2 ss a a) (bP c3 hs b a)<;>rfl
end Go.Proofs
namespace Go.Proofs
open Go.Ide Go.IntWalk
theorem Kg {a b:Nat}{c:Nat}{xs ys:List Nat}:(AJ b c xs ys).length=xs.length:=by
 have: ∀(k i:Nat) (s:List Nat),(pC (fun i o=>o.set (i*b+c) (av .add .f32 (o.getD (i*b+c) 0) (ys.getD i 0))) k i s).length=s.length:=by
  intro k;induction k with
  |zero=>intro i s;rfl
  |succ k ih=>intro i s;simp only [pC];rw [ih];simp
 exact this _ _ _
theorem Qc {xs ys:List Nat}:(Bv xs ys).length=xs.length:=by
 have: ∀(k i:Nat) (s:List Nat),(pC (fun i o=>o.set i (av .add .f32 (o.getD i 0) (ys.getD i 0))) k i s).length=s.length:=by
  intro k;induction k with
  |zero=>intro i s;rfl
  |succ k ih=>intro i s;simp only [pC];rw [ih];simp
 exact this _ _ _
theorem FB {a b:Nat}{fs ss hs:List Nat}(h:cu (a:Int) (b:Int) fs ss hs=true):Model a b fs ss hs∧fs.length≤1000000∧ss.length≤1000000∧hs.length≤1000000:=by
 obtain ⟨a',b',ea,eb,m⟩:=qg h;have S8:a=a':=by omega
 have eb':b=b':=by omega
 subst S8 eb';have ld:=m.n2;have dU:=m.k2;have Kv:=m.lf;have Dz:=m.ls;have Bu:=m.lh;have aa:a*a≤25:=Nat.mul_le_mul ld ld;have ab:a*b≤20:=Nat.mul_le_mul ld dU;exact ⟨m,by omega,by omega,by omega⟩
end Go.Proofs
namespace Go.Proofs
open Go.Ide Go.IntWalk
theorem Ci {xs:List Nat}{lo hi K:Nat}{X:Nat→Rat}(h1:1≤xs.length)(YP:xs.length≤16)(hx: ∀i,i<xs.length→Rg lo hi (xs.getD i 0))(mi:64≤lo)(A3:lo≤hi)(pr:hi≤173)(hX: ∀i,i<xs.length→0<X i∧Nq K (wS (xs.getD i 0)) (X i)):
 ∃q,OT xs=(q,true)∧q.length=xs.length∧ ∀i,i<xs.length→q.getD i 0≤1065353216∧Nq (24+12*xs.length+2*K) (wS (q.getD i 0)) (X i/ak X xs.length):=by
 obtain ⟨u1,u2,u3,u4⟩:=Kb h1 YP hx mi A3 pr;obtain ⟨s1,_⟩:=mJ (xs:=xs) (b:=hi) (by omega) (fun i hi=>⟨(hx i hi).fin,(hx i hi).hi⟩) xs.length (Nat.le_refl _) (by omega);refine ⟨_,u1,qi ..,fun i hi=> ?_⟩;obtain ⟨q1,q2⟩:=u4 i hi;refine ⟨q1,?_⟩;have hU:=dH;have n1:=kY q2;rw [Rat.natCast_mul,Rat.natCast_mul,mf] at n1;have n2:=xj u3;rw [rk] at n2;have e:ak (fun i=>((bj (xs.getD i 0):Nat):Rat)/US) xs.length=ak (fun i=>wS (xs.getD i 0)) xs.length:=aD _ fun i hi=>by rw [jo (hx i hi).fin]
 rw [e] at n2;have n3:=n2.mono (Rat.le_of_lt (vZ (by have:=cD u2;rw [show ((1:Nat):Rat)=1 from rfl] at this;grind) hU)) (jY _ fun i hi=>cT (hx i hi).fin) (Nat.le_refl _);have n4:=n3.trans (gv xs.length fun i hi=>(hX i hi).2);have tp:0<ak X xs.length:=qn h1 fun i hi=>(hX i hi).1;have wq:=jo (x:=(dp xs (aW xs xs.length)).getD i 0) (by omega);have wx:=jo (hx i hi).fin;have wq0:=cT (x:=(dp xs (aW xs xs.length)).getD i 0) (by omega);have k1:Nq 24 (wS ((dp xs (aW xs xs.length)).getD i 0)*(((bj (aW xs xs.length):Nat):Rat)/US)) (wS (xs.getD i 0)):=by
  refine Nq.cancel (c:=US*US) ?_ (Rat.mul_pos hU hU);rw [wq,wx];generalize ((bj ((dp xs (aW xs xs.length)).getD i 0):Nat):Rat)=A at*;generalize ((bj (aW xs xs.length):Nat):Rat)=B at*;generalize ((bj (xs.getD i 0):Nat):Rat)=C at*;generalize US=U at*;rw [show A/U*(B/U)*(U*U)=A*B by grind,show C/U*(U*U)=C*U by grind];exact n1
 have k2:=(n4.symm.pJ wq0);rw [Rat.mul_comm,Rat.mul_comm _ (wS ((dp xs (aW xs xs.length)).getD i 0))] at k2;have k3:=(k2.trans k1).trans (hX i hi).2;refine Nq.cancel (c:=ak X xs.length) ?_ tp;rw [Rat.div_mul_cancel (by grind)];rw [show 24+12*xs.length+2*K=12*xs.length+K+24+K by omega];exact k3
section
variable {a b:Nat} {fs ss hs:List Nat}
theorem yL (m:oc a b (hQ b hs) (sQ a ss)){f:Nat→Rat}(hf: ∀i,i<a→0<f i){w:List Nat}(hw: ∀c∈w,c<b): ∀t,t≤w.length→ ∀i,i<a→0<ue a f (hQ b hs) (sQ a ss) w t i
 |0,_,i,hi=>hf i hi
 |t+1,ht,i,hi=>Pe m (yL m hf hw t (by omega)) (hw _ (by rw [List.getD_eq_getElem?_getD,List.getElem?_eq_getElem (by omega)];exact List.getElem_mem ..)) i hi
theorem yM {f:Nat→Rat}{h s:Nat→Nat→Rat}{w:List Nat}: ∀t,t≤w.length→ak (fun i=>ue a f h s w t i*cV a h s (w.drop t) i) a=fc a f h s w
 |0,_=>rfl
 |t+1,ht=>by
  rw [←yM t (by omega),tP (show t<w.length by omega)];exact (tL _ _ _).symm
theorem M1 (g:mg a b fs ss hs){w:List Int}(hw:bU b w)(hl:w.length≤5){t:Nat}(ht:t≤w.length):
 ∃q,Y2 a b fs ss hs w t=(q,true)∧q.length=a∧ ∀i,i<a→q.getD i 0≤1065353216∧
  Nq 816 (wS (q.getD i 0)) (ue a (fQ fs) (hQ b hs) (sQ a ss) (wN w) t i*cV a (hQ b hs) (sQ a ss) ((wN w).drop t) i/fc a (fQ fs) (hQ b hs) (sQ a ss) (wN w)):=by
 have d:=g.d;have a1:=d.m.n1;have a4:=d.a4;have m:=DW g;have hf:=DF d hw (by omega) t ht;have hg:=DG d hw (by omega) (w.length - t) (by omega);have hll:(Ar a (rowAt a b fs ss hs w t) (ic a b ss hs w (w.length - t))).length=a:=by simp [Ar]
 have HA:=AI hw;have ap:=yL m (f:=fQ fs) (fun i hi=>oX g hi) HA t (by rw [jJ];exact ht);have bp:=dW m ((wN w).drop t) (fun c hc=>HA c (List.mem_of_mem_drop hc));have R: ∀i,i<a→Rg 71 173 ((Ar a (rowAt a b fs ss hs w t) (ic a b ss hs w (w.length - t))).getD i 0):=fun i hi=>by
  rw [Ft hi];exact (me (hf i hi) (hg i hi) (by omega) (by omega) (by omega) (by omega)).1.mono (by omega) (by omega)
 have N: ∀i,i<a→Nq 372 (wS ((Ar a (rowAt a b fs ss hs w t) (ic a b ss hs w (w.length - t))).getD i 0)) (ue a (fQ fs) (hQ b hs) (sQ a ss) (wN w) t i*cV a (hQ b hs) (sQ a ss) ((wN w).drop t) i):=fun i hi=>by
  have n1:=Hy g hw (by omega) t ht i hi;have n2:=Hz g hw (by omega) (w.length - t) (by omega) i hi;rw [show w.length - (w.length - t)=t by omega] at n2;have n3:=rj (hf i hi) (hg i hi) (by omega) (by omega) (by omega) (by omega);have n4:=n3.trans (n1.mul n2 (cT (hf i hi).fin) (Rat.le_of_lt (ap i hi)) (cT (hg i hi).fin) (Rat.le_of_lt (bp i hi)));have r:=R i hi;rw [Ft hi] at r⊢;exact n4.mono (cT r.fin) (Rat.le_of_lt (Rat.mul_pos (ap i hi) (bp i hi))) (by omega)
 obtain ⟨q,e1,e2,e3⟩:=Ci (xs:=Ar a (rowAt a b fs ss hs w t) (ic a b ss hs w (w.length - t))) (lo:=71) (hi:=173) (K:=372)
  (X:=fun i=>ue a (fQ fs) (hQ b hs) (sQ a ss) (wN w) t i*cV a (hQ b hs) (sQ a ss) ((wN w).drop t) i) (by omega) (by omega) (fun i hi=>R i (by omega)) (by omega) (by omega) (by omega)
  (fun i hi=>⟨Rat.mul_pos (ap i (by omega)) (bp i (by omega)),N i (by omega)⟩)
 rw [hll] at e2 e3;refine ⟨q,e1,e2,fun i hi=> ?_⟩;obtain ⟨e4,e5⟩:=e3 i hi;rw [yM t (by rw [jJ];exact ht)] at e5;refine ⟨e4,e5.mono (cT (by omega)) (od (Rat.le_of_lt (Rat.mul_pos (ap i hi) (bp i hi))) (gG m (fun i hi=>oX g hi) HA)) (by omega)⟩
end
end Go.Proofs
namespace Go.Proofs
open Go.Ide Go.IntWalk
section
variable {a b:Nat} {fs ss hs:List Nat}
theorem Pf (g:mg a b fs ss hs){w:List Int}(hw:bU b w)(hl:w.length≤5){t:Nat}(ht:t<w.length):
 ∃q,MZ a b fs ss hs w t=(q,true)∧q.length=a*a∧ ∀i j,i<a→j<a→q.getD (i*a+j) 0≤1065353216∧
  Nq 1008 (wS (q.getD (i*a+j) 0)) (ue a (fQ fs) (hQ b hs) (sQ a ss) (wN w) t i*hQ b hs i ((wN w).getD t 0)*sQ a ss i j*cV a (hQ b hs) (sQ a ss) ((wN w).drop (t+1)) j/fc a (fQ fs) (hQ b hs) (sQ a ss) (wN w)):=by
 have d:=g.d;have a1:=d.m.n1;have a4:=d.a4;have m:=DW g;have haa:a*a≤4*4:=Nat.mul_le_mul a4 a4;have acn:1*1≤a*a:=Nat.mul_le_mul a1 a1;obtain ⟨c,hc,Vt⟩:=hw t ht;have Tw:(wN w).getD t 0=c:=by rw [xr ht,hc,Int.toNat_natCast]
 rw [Tw];have hf:=DF d hw (by omega) t (by omega);have hg:=DG d hw (by omega) (w.length - (t+1)) (by omega);have HA:=AI hw;have ap:=yL m (f:=fQ fs) (fun i hi=>oX g hi) HA t (by rw [jJ];omega);have bp:=dW m ((wN w).drop (t+1)) (fun c hc=>HA c (List.mem_of_mem_drop hc));have br: ∀k,k<a*a→ ∃i j,i<a∧j<a∧k=i*a+j:=fun k hk=>⟨k/a,k%a,Nat.div_lt_of_lt_mul hk,Nat.mod_lt _ a1,by rw [Nat.mul_comm];exact (Nat.div_add_mod k a).symm⟩;have hPl:(qj a b ss hs (rowAt a b fs ss hs w t) (ic a b ss hs w (w.length - (t+1))) c a).length=a*a:=qk ..;have R: ∀i j,i<a→j<a→Rg 71 173 ((qj a b ss hs (rowAt a b fs ss hs w t) (ic a b ss hs w (w.length - (t+1))) c a).getD (i*a+j) 0)∧
  Nq 396 (wS ((qj a b ss hs (rowAt a b fs ss hs w t) (ic a b ss hs w (w.length - (t+1))) c a).getD (i*a+j) 0))
   (ue a (fQ fs) (hQ b hs) (sQ a ss) (wN w) t i*hQ b hs i c*sQ a ss i j*cV a (hQ b hs) (sQ a ss) ((wN w).drop (t+1)) j):=fun i j hi hj=>by
  rw [Cb a i j hi hj];unfold Fl;have n1:=Hy g hw (by omega) t (by omega) i hi;have n2:=Hz g hw (by omega) (w.length - (t+1)) (by omega) j hj;rw [show w.length - (w.length - (t+1))=t+1 by omega] at n2;have m1:=(me (hf i hi) (d.eh i c hi Vt) (by omega) (by omega) (by omega) (by omega)).1;have m2:=(me m1 (d.es i j hi hj) (by omega) (by omega) (by omega) (by omega)).1;have m3:=(me m2 (hg j hj) (by omega) (by omega) (by omega) (by omega)).1;have q1:=rj (hf i hi) (d.eh i c hi Vt) (by omega) (by omega) (by omega) (by omega);have q2:=rj m1 (d.es i j hi hj) (by omega) (by omega) (by omega) (by omega);have q3:=rj m2 (hg j hj) (by omega) (by omega) (by omega) (by omega);have hh:=m.h0 i c hi Vt;have eI:=m.s0 i j hi hj;have VZ:=cT (hf i hi).fin;have r1:=q1.trans (n1.pJ (Rat.le_of_lt hh));have r2:=q2.trans (r1.pJ (Rat.le_of_lt eI));have x1:=Rat.mul_pos (Rat.mul_pos (ap i hi) hh) eI;have r3:=q3.trans (r2.mul n2 (cT m2.fin) (Rat.le_of_lt x1) (cT (hg j hj).fin) (Rat.le_of_lt (bp j hj)));exact ⟨m3.mono (by omega) (by omega),r3.mono (cT m3.fin) (Rat.le_of_lt (Rat.mul_pos x1 (bp j hj))) (by omega)⟩
 obtain ⟨q,e1,e2,e3⟩:=Ci (xs:=qj a b ss hs (rowAt a b fs ss hs w t) (ic a b ss hs w (w.length - (t+1))) c a) (lo:=71) (hi:=173) (K:=396)
  (X:=fun k=>ue a (fQ fs) (hQ b hs) (sQ a ss) (wN w) t (k/a)*hQ b hs (k/a) c*sQ a ss (k/a) (k%a)*cV a (hQ b hs) (sQ a ss) ((wN w).drop (t+1)) (k%a)) (by omega) (by omega)
  (fun k hk=>by obtain ⟨i,j,hi,hj,rfl⟩:=br k (by omega);exact (R i j hi hj).1) (by omega) (by omega) (by omega)
  (fun k hk=>by
   obtain ⟨i,j,hi,hj,rfl⟩:=br k (by omega);have u1:(i*a+j)/a=i:=by rw [Nat.mul_comm,Nat.mul_add_div (by omega),Nat.div_eq_of_lt hj];rfl
   have u2:(i*a+j)%a=j:=by rw [Nat.mul_comm,Nat.mul_add_mod,Nat.mod_eq_of_lt hj]
   rw [u1,u2];exact ⟨Rat.mul_pos (Rat.mul_pos (Rat.mul_pos (ap i hi) (m.h0 i c hi Vt)) (m.s0 i j hi hj)) (bp j hj),(R i j hi hj).2⟩)
 rw [hPl] at e2 e3;have hS:ak (fun k=>ue a (fQ fs) (hQ b hs) (sQ a ss) (wN w) t (k/a)*hQ b hs (k/a) c*sQ a ss (k/a) (k%a)*cV a (hQ b hs) (sQ a ss) ((wN w).drop (t+1)) (k%a)) (a*a)=fc a (fQ fs) (hQ b hs) (sQ a ss) (wN w):=by
  rw [Ce,←yM t (by rw [jJ];omega),tP (show t<(wN w).length by rw [jJ];exact ht),Tw];refine aD a fun i hi=> ?_;show _=ue a (fQ fs) (hQ b hs) (sQ a ss) (wN w) t i*ak (fun j=>hQ b hs i c*sQ a ss i j*cV a (hQ b hs) (sQ a ss) ((wN w).drop (t+1)) j) a;rw [jZ];refine aD a fun j hj=> ?_;have u1:(i*a+j)/a=i:=by rw [Nat.mul_comm,Nat.mul_add_div (by omega),Nat.div_eq_of_lt hj];rfl
  have u2:(i*a+j)%a=j:=by rw [Nat.mul_comm,Nat.mul_add_mod,Nat.mod_eq_of_lt hj]
  rw [u1,u2];grind
 rw [hS] at e3;refine ⟨q,?_,e2,fun i j hi hj=> ?_⟩;unfold MZ;rw [hc,Int.toNat_natCast];exact e1;obtain ⟨e4,e5⟩:=e3 (i*a+j) (jg hi hj);have u1:(i*a+j)/a=i:=by rw [Nat.mul_comm,Nat.mul_add_div (by omega),Nat.div_eq_of_lt hj];rfl
 have u2:(i*a+j)%a=j:=by rw [Nat.mul_comm,Nat.mul_add_mod,Nat.mod_eq_of_lt hj]
 rw [u1,u2] at e5;refine ⟨e4,e5.mono (cT (by omega)) (od (Rat.le_of_lt (Rat.mul_pos (Rat.mul_pos (Rat.mul_pos (ap i hi) (m.h0 i c hi Vt)) (m.s0 i j hi hj)) (bp j hj))) (gG m (fun i hi=>oX g hi) HA)) (by omega)⟩
end
end Go.Proofs
namespace Go.Proofs
open Go.Ide Go.IntWalk
theorem AK {φ:Nat→Nat}(hφ: ∀i j,φ i=φ j→i=j)(g:Nat→Nat→Nat): ∀(k i:Nat) (s:List Nat),(∀j,i≤j→j<i+k→φ j<s.length)→
 (pC (fun i o=>o.set (φ i) (g (o.getD (φ i) 0) i)) k i s).length=s.length∧
 (∀j,i≤j→j<i+k→(pC (fun i o=>o.set (φ i) (g (o.getD (φ i) 0) i)) k i s).getD (φ j) 0=g (s.getD (φ j) 0) j)∧
 ∀q,(∀j,i≤j→j<i+k→φ j≠q)→(pC (fun i o=>o.set (φ i) (g (o.getD (φ i) 0) i)) k i s).getD q 0=s.getD q 0
 |0,i,s,_=>⟨rfl,fun j h1 h2=>absurd h1 (by omega),fun _ _=>rfl⟩
 |k+1,i,s,hs=>by
  have hl:(s.set (φ i) (g (s.getD (φ i) 0) i)).length=s.length:=by simp
  obtain ⟨h1,h2,h3⟩:=AK hφ g k (i+1) (s.set (φ i) (g (s.getD (φ i) 0) i)) fun j NO Gn=>by rw [hl];exact hs j (by omega) (by omega)
  refine ⟨by rw [pC,h1,hl],fun j NO Gn=> ?_,fun q hq=> ?_⟩;rw [pC];by_cases e:j=i;subst e;rw [h3 (φ j) fun j' acp _ e=>absurd (hφ _ _ e) (by omega),nh (hs j (by omega) (by omega))];rw [h2 j (by omega) (by omega),getD_set_ne (fun e'=>e (hφ _ _ e').symm)];rw [pC,h3 q fun j NO Gn=>hq j (by omega) (by omega),getD_set_ne (hq i (by omega) (by omega))]
structure k9 (m n:Nat)(xs:List Nat)(X:Nat→Rat):Prop where
 len:xs.length=n
 fin: ∀k,k<n→xs.getD k 0≤2130706432
 hi: ∀k,k<n→bj (xs.getD k 0)≤2^(149+m)
 nn: ∀k,k<n→0≤X k
 AF: ∀k,k<n→Nq (1008+12*m) (wS (xs.getD k 0)) (X k)
theorem wb {y:Nat}(h:y≤1065353216):bj y≤2^149:=by
 rw [←ud];exact jy (by omega) (by omega) h
theorem k9.mono {m n:Nat}{xs:List Nat}{X:Nat→Rat}(h:k9 m n xs X){m':Nat}(hm:m≤m'):k9 m' n xs X:=
 ⟨h.len,h.fin,fun k hk=>Nat.le_trans (h.hi k hk) (Nat.pow_le_pow_right (by omega) (by omega)),h.nn,fun k hk=>(h.AF k hk).mono (cT (h.fin k hk)) (h.nn k hk) (by omega)⟩
theorem I3 {m x y:Nat}{X Y:Rat}(hm:m≤100)(hx:x≤2130706432)(hX:bj x≤2^(149+m))(hy:y≤1065353216)(X0:0≤X)(Y0:0≤Y)(n1:Nq (1008+12*m) (wS x) X)(n2:Nq 1008 (wS y) Y):
 av .add .f32 x y≤2130706432∧bj (av .add .f32 x y)≤2^(149+(m+1))∧0≤X+Y∧Nq (1008+12*(m+1)) (wS (av .add .f32 x y)) (X+Y):=by
 obtain ⟨a1,a2,a3,_⟩:=DE (b:=149+m) hx (show y≤2130706432 by omega) (by omega) (by omega) hX (Nat.le_trans (wb hy) (Nat.pow_le_pow_right (by omega) (by omega)));refine ⟨a1,a2,by grind,?_⟩;have q:=xj a3;rw [←SG hx (by omega),←jo a1] at q;have r:=q.trans (n1.add (n2.mono (cT (show y≤2130706432 by omega)) Y0 (by omega)));exact r.mono (cT a1) (by grind) (by omega)
theorem k9.Bv {m n:Nat}{xs ys:List Nat}{X Y:Nat→Rat}(h:k9 m n xs X)(hm:m≤100)(hl:ys.length=n)(hy: ∀k,k<n→ys.getD k 0≤1065353216∧0≤Y k∧Nq 1008 (wS (ys.getD k 0)) (Y k)):
 k9 (m+1) n (Bv xs ys) (fun k=>X k+Y k):=by
 have f:=AK (φ:=fun i=>i) (fun i j e=>e) (fun x i=>av .add .f32 x (ys.getD i 0)) ys.length 0 xs fun j _ hj=>by rw [h.len];omega
 have e: ∀k,k<n→(Go.Proofs.Bv xs ys).getD k 0=av .add .f32 (xs.getD k 0) (ys.getD k 0):=fun k hk=>f.2.1 k (Nat.zero_le _) (by omega);have A:=fun k (hk:k<n)=>I3 hm (h.fin k hk) (h.hi k hk) (hy k hk).1 (h.nn k hk) (hy k hk).2.1 (h.AF k hk) (hy k hk).2.2;exact ⟨by rw [Qc];exact h.len,fun k hk=>by rw [e k hk];exact (A k hk).1,fun k hk=>by rw [e k hk];exact (A k hk).2.1,fun k hk=>(A k hk).2.2.1,fun k hk=>by rw [e k hk];exact (A k hk).2.2.2⟩
theorem k9.AJ {m a b c:Nat}{xs ys:List Nat}{X:Nat→Rat}{Y:Nat→Rat}(h:k9 m (a*b) xs X)(hm:m≤100)(hc:c<b)(hl:ys.length=a)(hy: ∀k,k<a→ys.getD k 0≤1065353216∧0≤Y k∧Nq 1008 (wS (ys.getD k 0)) (Y k)):
 k9 (m+1) (a*b) (AJ b c xs ys) (fun q=>X q+(if q%b=c then Y (q/b) else 0)):=by
 have br: ∀k,k<a→k*b+c<a*b:=fun k hk=>jg hk hc;have inj: ∀i j,i*b+c=j*b+c→i=j:=fun i j e=>by
  have:i*b=j*b:=by omega
  exact Nat.eq_of_mul_eq_mul_right (by omega) this
 have f:=AK (φ:=fun i=>i*b+c) inj (fun x i=>av .add .f32 x (ys.getD i 0)) ys.length 0 xs fun j _ hj=>by rw [h.len];exact br j (by omega)
 have e1: ∀k,k<a→(Go.Proofs.AJ b c xs ys).getD (k*b+c) 0=av .add .f32 (xs.getD (k*b+c) 0) (ys.getD k 0):=fun k hk=>f.2.1 k (Nat.zero_le _) (by omega);have e2: ∀q,q%b≠c→(Go.Proofs.AJ b c xs ys).getD q 0=xs.getD q 0:=fun q hq=>f.2.2 q fun j _ _ e=>hq (by
  rw [←e];show (j*b+c)%b=c;rw [Nat.mul_comm,Nat.mul_add_mod,Nat.mod_eq_of_lt hc])
 have key: ∀q,q<a*b→(Go.Proofs.AJ b c xs ys).getD q 0≤2130706432∧bj ((Go.Proofs.AJ b c xs ys).getD q 0)≤2^(149+(m+1))∧0≤X q+(if q%b=c then Y (q/b) else 0)∧
  Nq (1008+12*(m+1)) (wS ((Go.Proofs.AJ b c xs ys).getD q 0)) (X q+(if q%b=c then Y (q/b) else 0)):=fun q hq=>by
  by_cases e:q%b=c;have hk:q/b<a:=Nat.div_lt_of_lt_mul (by rw [Nat.mul_comm];exact hq);have FT:q=q/b*b+c:=by have:=Nat.div_add_mod q b;rw [Nat.mul_comm] at this;omega
  rw [if_pos e];have A:=I3 hm (h.fin q hq) (h.hi q hq) (hy (q/b) hk).1 (h.nn q hq) (hy (q/b) hk).2.1 (h.AF q hq) (hy (q/b) hk).2.2;have e3:=e1 (q/b) hk;rw [←FT] at e3;rw [e3];exact A;rw [if_neg e,e2 q e];have h':=h.mono (show m≤m+1 by omega);have z:X q+0=X q:=by grind
  rw [z];exact ⟨h'.fin q hq,h'.hi q hq,h'.nn q hq,h'.AF q hq⟩
 exact ⟨by rw [Kg (a:=a)];exact h.len,fun k hk=>(key k hk).1,fun k hk=>(key k hk).2.1,fun k hk=>(key k hk).2.2.1,fun k hk=>(key k hk).2.2.2⟩
end Go.Proofs
namespace Go.Proofs
open Go.Ide Go.IntWalk
section
variable {a b:Nat} {fs ss hs:List Nat}
theorem fo {n i j:Nat}(hj:j<n):(i*n+j)/n=i∧(i*n+j)%n=j:=
 ⟨by rw [Nat.mul_comm,Nat.mul_add_div (by omega),Nat.div_eq_of_lt hj];rfl,by rw [Nat.mul_comm,Nat.mul_add_mod,Nat.mod_eq_of_lt hj]⟩
theorem FC (g:mg a b fs ss hs){w:List Int}(hw:bU b w)(hl:w.length≤5){m:Nat}(hm:m≤60){x y:List Nat}{X Y:Nat→Rat}(hx:k9 m (a*a) x X)(hy:k9 m (a*b) y Y):
 ∃x' y' X' Y',rounds (cM ((a:Int),(b:Int),fs,ss,hs) w (rJ a b fs ss hs w) (oQ a b ss hs w)) ((0:Int),x,y)=some (.inl (x',y'))∧k9 (m+5) (a*a) x' X'∧k9 (m+5) (a*b) y' Y'∧
  (∀q,X' q=X q+cS a (hQ b hs) (sQ a ss) (fQ fs) (wN w) (q/a) (q%a)/fc a (fQ fs) (hQ b hs) (sQ a ss) (wN w))∧
  (∀q,Y' q=Y q+cH a (hQ b hs) (sQ a ss) (fQ fs) (wN w) (q/b) (q%b)/fc a (fQ fs) (hQ b hs) (sQ a ss) (wN w)):=by
 have m0:=g.d.m;have ld:=m0.n2;have dU:=m0.k2;have a1:=m0.n1;have aa:a*a≤25:=Nat.mul_le_mul ld ld;have pm:=DW g;have HA:=AI hw;have hL:=gG pm (fun i hi=>oX g hi) HA;obtain ⟨r,hr,Y3⟩:=fM (f:=cM ((a:Int),(b:Int),fs,ss,hs) w (rJ a b fs ss hs w) (oQ a b ss hs w))
  (fun n (s:Int×List Nat×List Nat)=> ∃(j:Nat) (x' y':List Nat) (X' Y':Nat→Rat),n+j=w.length∧s=((j:Int),x',y')∧k9 (m+j) (a*a) x' X'∧k9 (m+j) (a*b) y' Y'∧
   (∀q,X' q+cS a (hQ b hs) (sQ a ss) (ue a (fQ fs) (hQ b hs) (sQ a ss) (wN w) j) ((wN w).drop j) (q/a) (q%a)/fc a (fQ fs) (hQ b hs) (sQ a ss) (wN w)=X q+cS a (hQ b hs) (sQ a ss) (fQ fs) (wN w) (q/a) (q%a)/fc a (fQ fs) (hQ b hs) (sQ a ss) (wN w))∧
   (∀q,Y' q+cH a (hQ b hs) (sQ a ss) (ue a (fQ fs) (hQ b hs) (sQ a ss) (wN w) j) ((wN w).drop j) (q/b) (q%b)/fc a (fQ fs) (hQ b hs) (sQ a ss) (wN w)=Y q+cH a (hQ b hs) (sQ a ss) (fQ fs) (wN w) (q/b) (q%b)/fc a (fQ fs) (hQ b hs) (sQ a ss) (wN w)))
  (fun (r:(List Nat×List Nat)⊕(List Nat×List Nat))=> ∃x' y' X' Y',r= .inl (x',y')∧k9 (m+5) (a*a) x' X'∧k9 (m+5) (a*b) y' Y'∧
   (∀q,X' q=X q+cS a (hQ b hs) (sQ a ss) (fQ fs) (wN w) (q/a) (q%a)/fc a (fQ fs) (hQ b hs) (sQ a ss) (wN w))∧
   (∀q,Y' q=Y q+cH a (hQ b hs) (sQ a ss) (fQ fs) (wN w) (q/b) (q%b)/fc a (fQ fs) (hQ b hs) (sQ a ss) (wN w))) (by
  rintro n s ⟨j,x',y',X',Y',hn,rfl,yb,FY,eX,eY⟩;by_cases hj:j<w.length;obtain ⟨c,hc,eV⟩:=hw j hj;have Tw:(wN w).getD j 0=c:=by rw [xr hj,hc,Int.toNat_natCast]
  obtain ⟨q1,Y4,l1,n1⟩:=M1 g hw hl (Nat.le_of_lt hj);obtain ⟨q2,eq2,l2,n2⟩:=Pf g hw hl hj;rw [Tw] at n2;have e5:al .i64 ((j:Nat):Int) 1=((j+1:Nat):Int):=by rw [ju (by omega)];omega
  have jf:=IG (a:=a) (b:=b) (fs:=fs) (ss:=ss) (hs:=hs) (Nat.le_of_lt hj);have jb:=DB (a:=a) (b:=b) (ss:=ss) (hs:=hs) (Nat.le_of_lt hj);have jc:=DB (a:=a) (b:=b) (ss:=ss) (hs:=hs) (k:=j+1) (w:=w) (by omega);have Ti:=xd m0 w j;have jL:=vP (a:=a) (b:=b) (ss:=ss) (hs:=hs) w (w.length - j);have QE:=vP (a:=a) (b:=b) (ss:=ss) (hs:=hs) w (w.length - (j+1));have Y5:(rJ a b fs ss hs w).getD j []=rowAt a b fs ss hs w j:=B5 (by omega);have We:(oQ a b ss hs w).getD j []=ic a b ss hs w (w.length - j):=tE (by omega);have Y6:(oQ a b ss hs w).getD (j+1) []=ic a b ss hs w (w.length - (j+1)):=tE (by omega);have Y7:cI ((a:Int),(b:Int),fs,ss,hs) (rowAt a b fs ss hs w j) (ic a b ss hs w (w.length - j))=some (q1,true):=by rw [←Y4];exact IH ld Ti jL
  have hI2:eQ ((a:Int),(b:Int),fs,ss,hs) (rowAt a b fs ss hs w j) (ic a b ss hs w (w.length - (j+1))) (c:Int)=some (q2,true):=by
   rw [Mk m0 Ti QE eV,←eq2];unfold MZ;rw [hc,Int.toNat_natCast]
  have EC:cM ((a:Int),(b:Int),fs,ss,hs) w (rJ a b fs ss hs w) (oQ a b ss hs w) ((j:Int),x',y')=some (.inl (((j+1:Nat):Int),Bv x' q2,AJ b c y' q1)):=by
   unfold cM;have jw:(0:Int)≤(j:Int)∧(j:Int)<ai w:=cZ hj;simp only [Int.toNat_natCast,e5,guard_pos jw,guard_pos jf,guard_pos jb,guard_pos jc,Y5,We,Y6,Y7,hc,hI2,Option.bind_some];simp only [ai,nW hj,cond_true,Bool.not_true,cond_false,Option.bind_some];rw [M0 ld (by omega) eV (p:=(q1,true)) l1 FY.len hc];simp only [Option.bind_some];rw [(I2 (by rw [yb.len,l2];exact Nat.le_refl _) (by omega)).1];rfl
  have ap:=yL pm (f:=fQ fs) (fun i hi=>oX g hi) HA j (by rw [jJ];omega);have bp:=dW pm ((wN w).drop j) (fun c hc=>HA c (List.mem_of_mem_drop hc));have bp2:=dW pm ((wN w).drop (j+1)) (fun c hc=>HA c (List.mem_of_mem_drop hc));have A:=yb.Bv (ys:=q2) (Y:=fun q=>ue a (fQ fs) (hQ b hs) (sQ a ss) (wN w) j (q/a)*hQ b hs (q/a) c*sQ a ss (q/a) (q%a)*cV a (hQ b hs) (sQ a ss) ((wN w).drop (j+1)) (q%a)/fc a (fQ fs) (hQ b hs) (sQ a ss) (wN w)) (by omega) l2 (fun k hk=>by
   have hi:k/a<a:=Nat.div_lt_of_lt_mul hk;have FR:k%a<a:=Nat.mod_lt _ a1;have vb:k/a*a+k%a=k:=by rw [Nat.mul_comm];exact Nat.div_add_mod k a
   obtain ⟨t1,t2⟩:=n2 (k/a) (k%a) hi FR;rw [vb] at t1 t2;exact ⟨t1,od (Rat.le_of_lt (Rat.mul_pos (Rat.mul_pos (Rat.mul_pos (ap _ hi) (pm.h0 _ c hi eV)) (pm.s0 _ _ hi FR)) (bp2 _ FR))) hL,t2⟩)
  have B:=FY.AJ (ys:=q1) (Y:=fun i=>ue a (fQ fs) (hQ b hs) (sQ a ss) (wN w) j i*cV a (hQ b hs) (sQ a ss) ((wN w).drop j) i/fc a (fQ fs) (hQ b hs) (sQ a ss) (wN w)) (by omega) eV l1 (fun k hk=>by
   obtain ⟨t1,t2⟩:=n1 k hk;have nn:=od (Rat.le_of_lt (Rat.mul_pos (ap k hk) (bp k hk))) hL;exact ⟨t1,nn,t2.mono (cT (show q1.getD k 0≤2130706432 by omega)) nn (by omega)⟩)
  have hd:=tP (show j<(wN w).length by rw [jJ];exact hj);rw [Tw] at hd;have ea:ue a (fQ fs) (hQ b hs) (sQ a ss) (wN w) (j+1)=qw a (hQ b hs) (sQ a ss) (ue a (fQ fs) (hQ b hs) (sQ a ss) (wN w) j) c:=by
   funext k;rw [←Tw];rfl
  refine .inl ⟨n - 1,_,by omega,EC,j+1,_,_,_,_,by omega,rfl,A,B,fun q=> ?_,fun q=> ?_⟩;rw [←eX q,hd,ea];show X' q+_+_=X' q+(ue a (fQ fs) (hQ b hs) (sQ a ss) (wN w) j (q/a)*hQ b hs (q/a) c*sQ a ss (q/a) (q%a)*cV a (hQ b hs) (sQ a ss) ((wN w).drop (j+1)) (q%a)+_)/_;simp only [Rat.div_def];grind;rw [←eY q,hd,ea];show Y' q+_+_=Y' q+((if q%b=c then ue a (fQ fs) (hQ b hs) (sQ a ss) (wN w) j (q/b)*cV a (hQ b hs) (sQ a ss) (c::(wN w).drop (j+1)) (q/b) else 0)+_)/_;simp only [Rat.div_def,hd];by_cases e:q%b=c;rw [if_pos e,if_pos e];grind;rw [if_neg e,if_neg e];grind;have Gn:j=w.length:=by omega
  refine .inr ⟨.inl (x',y'),?_,x',y',X',Y',rfl,yb.mono (by omega),FY.mono (by omega),fun q=> ?_,fun q=> ?_⟩;unfold cM;simp only [ai,nX (show w.length≤j by omega),cond_false];rw [←eX q,List.drop_eq_nil_of_le (by rw [jJ];omega)];show X' q=X' q+0/_;rw [Rat.div_def];grind;rw [←eY q,List.drop_eq_nil_of_le (by rw [jJ];omega)];show Y' q=Y' q+0/_;rw [Rat.div_def];grind)
  w.length ((0:Int),x,y) ⟨0,x,y,X,Y,by omega,rfl,hx,hy,fun q=>rfl,fun q=>rfl⟩
 obtain ⟨x',y',X',Y',rfl,h1,h2,h3,h4⟩:=Y3;exact ⟨x',y',X',Y',hr,h1,h2,h3,h4⟩
end
end Go.Proofs
namespace Go.Proofs
open Go.Ide Go.IntWalk
theorem k9.zero (n:Nat):k9 0 n (List.replicate n 0) (fun _=>0):=by
 have e: ∀k,k<n→(List.replicate n (0:Nat)).getD k 0=0:=fun k hk=>by rw [List.getD_eq_getElem?_getD,List.getElem?_replicate,if_pos hk];rfl
 refine ⟨by simp,fun k hk=>by rw [e k hk];omega,fun k hk=>by rw [e k hk,fx];exact Nat.zero_le _,fun k hk=>Rat.le_refl,fun k hk=> ?_⟩;rw [e k hk];have:wS 0=0:=by
  rw [jo (by omega),fx,show ((0:Nat):Rat)=0 from rfl,Rat.div_def];grind
 rw [this];exact (Nq.refl Rat.le_refl).mono Rat.le_refl Rat.le_refl (by omega)
theorem xt {g:List Nat→Rat}{ws:List (List Nat)}{i:Nat}(hi:i<ws.length):dL g (ws.drop i)=g (ws.getD i [])+dL g (ws.drop (i+1)):=by
 rw [List.drop_eq_getElem_cons hi,List.getD_eq_getElem?_getD,List.getElem?_eq_getElem hi];rfl
section
variable {a b:Nat} {fs ss hs:List Nat}
theorem Kh (g:mg a b fs ss hs){ws:List (List Int)}(h4:ws.length≤4)(hw: ∀i,i<ws.length→bU b (ws.getD i [])∧(ws.getD i []).length≤5):
 ∃z x y Z X Y,rounds (eT ((a:Int),(b:Int),fs,ss,hs) ws) ((0:Int),List.replicate a 0,List.replicate (a*a) 0,List.replicate (a*b) 0)=some (.inl (z,x,y))∧k9 24 a z Z∧k9 24 (a*a) x X∧k9 24 (a*b) y Y∧
  (∀q,q<a→Z q=tF a (fQ fs) (hQ b hs) (sQ a ss) (ws.map wN) q)∧(∀q,X q=tS a (fQ fs) (hQ b hs) (sQ a ss) (ws.map wN) (q/a) (q%a))∧(∀q,Y q=tH a (fQ fs) (hQ b hs) (sQ a ss) (ws.map wN) (q/b) (q%b)):=by
 have m0:=g.d.m;have ld:=m0.n2;have dU:=m0.k2;have a1:=m0.n1;have pm:=DW g;obtain ⟨r,hr,Y3⟩:=fM (f:=eT ((a:Int),(b:Int),fs,ss,hs) ws)
  (fun n (s:Int×List Nat×List Nat×List Nat)=> ∃(i:Nat) (z x y:List Nat) (Z X Y:Nat→Rat),n+i=ws.length∧s=((i:Int),z,x,y)∧k9 (6*i) a z Z∧k9 (6*i) (a*a) x X∧k9 (6*i) (a*b) y Y∧
   (∀q,q<a→Z q+dL (fun w=>fQ fs q*cV a (hQ b hs) (sQ a ss) w q/fc a (fQ fs) (hQ b hs) (sQ a ss) w) ((ws.map wN).drop i)=tF a (fQ fs) (hQ b hs) (sQ a ss) (ws.map wN) q)∧
   (∀q,X q+dL (fun w=>cS a (hQ b hs) (sQ a ss) (fQ fs) w (q/a) (q%a)/fc a (fQ fs) (hQ b hs) (sQ a ss) w) ((ws.map wN).drop i)=tS a (fQ fs) (hQ b hs) (sQ a ss) (ws.map wN) (q/a) (q%a))∧
   (∀q,Y q+dL (fun w=>cH a (hQ b hs) (sQ a ss) (fQ fs) w (q/b) (q%b)/fc a (fQ fs) (hQ b hs) (sQ a ss) w) ((ws.map wN).drop i)=tH a (fQ fs) (hQ b hs) (sQ a ss) (ws.map wN) (q/b) (q%b)))
  (fun (r:(List Nat×List Nat×List Nat)⊕Unit)=> ∃z x y Z X Y,r= .inl (z,x,y)∧k9 24 a z Z∧k9 24 (a*a) x X∧k9 24 (a*b) y Y∧
   (∀q,q<a→Z q=tF a (fQ fs) (hQ b hs) (sQ a ss) (ws.map wN) q)∧(∀q,X q=tS a (fQ fs) (hQ b hs) (sQ a ss) (ws.map wN) (q/a) (q%a))∧(∀q,Y q=tH a (fQ fs) (hQ b hs) (sQ a ss) (ws.map wN) (q/b) (q%b))) (by
  rintro n s ⟨i,z,x,y,Z,X,Y,hn,rfl,hz,hx,hy,eZ,eX,eY⟩;have Xx:(ws.map wN).length=ws.length:=by simp
  by_cases hi:i<ws.length;obtain ⟨Pg,Ku⟩:=hw i hi;have HA:=AI Pg;have hL:=gG pm (f:=fQ fs) (fun i hi=>oX g hi) HA;have UB:(ws.map wN).getD i []=wN (ws.getD i []):=by
   rw [List.getD_eq_getElem?_getD,List.getElem?_map,List.getElem?_eq_getElem hi,List.getD_eq_getElem?_getD,List.getElem?_eq_getElem hi];rfl
  obtain ⟨q1,Y4,l1,n1⟩:=M1 g Pg Ku (Nat.zero_le _);obtain ⟨x',y',X',Y',hr,cx,cy,eX',eY'⟩:=FC g Pg Ku (m:=6*i) (by omega) hx hy;have jf:=IG (a:=a) (b:=b) (fs:=fs) (ss:=ss) (hs:=hs) (w:=ws.getD i []) (Nat.zero_le _);have jb:=DB (a:=a) (b:=b) (ss:=ss) (hs:=hs) (w:=ws.getD i []) (Nat.zero_le _);have Ti:=xd m0 (ws.getD i []) 0;have jL:=vP (a:=a) (b:=b) (ss:=ss) (hs:=hs) (ws.getD i []) ((ws.getD i []).length - 0);have Y5:(rJ a b fs ss hs (ws.getD i [])).getD 0 []=rowAt a b fs ss hs (ws.getD i []) 0:=B5 (by omega);have We:(oQ a b ss hs (ws.getD i [])).getD 0 []=ic a b ss hs (ws.getD i []) ((ws.getD i []).length - 0):=tE (by omega);have Y7:cI ((a:Int),(b:Int),fs,ss,hs) (rowAt a b fs ss hs (ws.getD i []) 0) (ic a b ss hs (ws.getD i []) ((ws.getD i []).length - 0))=some (q1,true):=by rw [←Y4];exact IH ld Ti jL
  have jw:(0:Int)≤(i:Int)∧(i:Int)<ai ws:=cZ hi;simp only [Int.natCast_zero] at jf jb;have EC:eT ((a:Int),(b:Int),fs,ss,hs) ws ((i:Int),z,x,y)=some (.inl (((i+1:Nat):Int),Bv z q1,x',y')):=by
   unfold eT gC;simp only [guard_pos jw];simp only [Int.toNat_natCast,Fi m0 Pg (show (ws.getD i []).length≤12 by omega),Mj m0 Pg (show (ws.getD i []).length≤12 by omega),Option.bind_some,guard_pos jf,guard_pos jb,Int.toNat_zero,Y5,We,Y7];simp only [ai,nW hi,cond_true,cQ hi (show ws.length≤4294967296 by omega),Bool.not_true,cond_false];rw [(I2 (by rw [hz.len,l1];exact Nat.le_refl _) (by omega)).1];simp only [Option.bind_some];rw [hr];simp only [Option.bind_some];rw [guard_pos Qc,guard_pos (by rw [cx.len,hx.len]),guard_pos (by rw [cy.len,hy.len])];rfl
  have ap:=fun k (hk:k<a)=>oX g hk;have bp:=dW pm (wN (ws.getD i [])) HA;have A:=hz.Bv (ys:=q1) (Y:=fun q=>fQ fs q*cV a (hQ b hs) (sQ a ss) (wN (ws.getD i [])) q/fc a (fQ fs) (hQ b hs) (sQ a ss) (wN (ws.getD i []))) (by omega) l1 (fun k hk=>by
   obtain ⟨t1,t2⟩:=n1 k hk;have nn:=od (Rat.le_of_lt (Rat.mul_pos (ap k hk) (bp k hk))) hL;exact ⟨t1,nn,t2.mono (cT (show q1.getD k 0≤2130706432 by omega)) nn (by omega)⟩)
  refine .inl ⟨n - 1,_,by omega,EC,i+1,_,_,_,_,_,_,by omega,rfl,A.mono (by omega),cx.mono (by omega),cy.mono (by omega),fun q hq=> ?_,fun q=> ?_,fun q=> ?_⟩;rw [←eZ q hq,xt (show i<(ws.map wN).length by omega),UB];grind;rw [←eX q,xt (show i<(ws.map wN).length by omega),UB,eX' q];grind;rw [←eY q,xt (show i<(ws.map wN).length by omega),UB,eY' q];grind;have W2:(ws.map wN).drop i=[]:=List.drop_eq_nil_of_le (by omega);rw [W2] at eZ eX eY;refine .inr ⟨.inl (z,x,y),?_,z,x,y,Z,X,Y,rfl,hz.mono (by omega),hx.mono (by omega),hy.mono (by omega),fun q hq=> ?_,fun q=> ?_,fun q=> ?_⟩;unfold eT;simp only [ai,nX (show ws.length≤i by omega),cond_false];rw [←eZ q hq];show Z q=Z q+0;grind;rw [←eX q];show X q=X q+0;grind;rw [←eY q];show Y q=Y q+0;grind)
  ws.length ((0:Int),List.replicate a 0,List.replicate (a*a) 0,List.replicate (a*b) 0)
  ⟨0,_,_,_,fun _=>0,fun _=>0,fun _=>0,by omega,rfl,k9.zero a,k9.zero (a*a),k9.zero (a*b),fun q _=>by show 0+tF a (fQ fs) (hQ b hs) (sQ a ss) (ws.map wN) q=_;grind,
   fun q=>by show 0+tS a (fQ fs) (hQ b hs) (sQ a ss) (ws.map wN) (q/a) (q%a)=_;grind,fun q=>by show 0+tH a (fQ fs) (hQ b hs) (sQ a ss) (ws.map wN) (q/b) (q%b)=_;grind⟩
 obtain ⟨z,x,y,Z,X,Y,rfl,h⟩:=Y3;exact ⟨z,x,y,Z,X,Y,hr,h⟩
end
end Go.Proofs
namespace Go.Proofs
structure Qd (e:Rat)(a b:Nat)(f:Nat→Rat)(h s:Nat→Nat→Rat):Prop where
 e0:0<e
 e1:e≤1
 f0: ∀i,i<a→e≤f i∧f i≤1
 h0: ∀i c,i<a→c<b→e≤h i c∧h i c≤1
 s0: ∀i j,i<a→j<a→e≤s i j∧s i j≤1
section
variable {e:Rat} {a b:Nat} {f:Nat→Rat} {h s:Nat→Nat→Rat}
theorem SP (l:Qd e a b f h s){r:Nat→Rat}(hr: ∀i,i<a→0≤r i){c:Nat}(hc:c<b){i i':Nat}(hi:i<a)(nr:i'<a):e*qw a h s r c i'≤qw a h s r c i:=by
 have e0:=l.e0;unfold qw;rw [jZ];refine gE a fun p hp=> ?_;have h1:=(l.h0 p c hp hc).1;have s1:=(l.s0 p i hp hi).1;have s2:=(l.s0 p i' hp nr).2;have q:0≤r p*h p c:=Rat.mul_nonneg (hr p hp) (by grind);have m1:=Rat.mul_le_mul_of_nonneg_left (show e*s p i'≤s p i by
  have:=Rat.mul_le_mul_of_nonneg_left s2 (Rat.le_of_lt e0);grind) q
 grind
theorem HB (l:Qd e a b f h s){w:List Nat}(hw: ∀c∈w,c<b)(hn: ∀w':List Nat,(∀c∈w',c<b)→ ∀i,i<a→0≤cV a h s w' i){i i':Nat}(hi:i<a)(nr:i'<a):e*e*cV a h s w i'≤cV a h s w i:=by
 have e0:=l.e0;have e1:=l.e1;cases w with
 |nil=>
  show e*e*1≤1;have:=Rat.mul_le_mul_of_nonneg_left e1 (Rat.le_of_lt e0);grind
 |cons c w=>
  show e*e*ak (fun j=>h i' c*s i' j*cV a h s w j) a≤ak (fun j=>h i c*s i j*cV a h s w j) a;rw [jZ];refine gE a fun j hj=> ?_;have hc:=hw c (List.mem_cons_self ..);have nb:=hn w (fun c hc=>hw c (List.mem_cons_of_mem _ hc)) j hj;obtain ⟨h1,h2⟩:=l.h0 i c hi hc;obtain ⟨h3,h4⟩:=l.h0 i' c nr hc;obtain ⟨s1,s2⟩:=l.s0 i j hi hj;obtain ⟨s3,s4⟩:=l.s0 i' j nr hj;have k1:h i' c*s i' j≤1:=by
   have:=Rat.mul_le_mul_of_nonneg_left s4 (show 0≤h i' c by grind);grind
  have k2:e*e≤h i c*s i j:=by
   have x1:=Rat.mul_le_mul_of_nonneg_right h1 (Rat.le_of_lt e0);have x2:=Rat.mul_le_mul_of_nonneg_left s1 (show 0≤h i c by grind);grind
  have k3:=Rat.mul_le_mul_of_nonneg_left k1 (Rat.mul_nonneg (Rat.le_of_lt e0) (Rat.le_of_lt e0));have k4:=Rat.mul_le_mul_of_nonneg_right (show e*e*(h i' c*s i' j)≤h i c*s i j by grind) nb;grind
end
end Go.Proofs
namespace Go.Proofs
section
variable {e:Rat} {a b:Nat} {f:Nat→Rat} {h s:Nat→Nat→Rat}
theorem AL {u:Nat→Rat}{n:Nat}{d:Rat}(hn:n≤4){i:Nat}(h0:0≤u i)(h: ∀k,k<n→d*u k≤u i):d*ak u n≤4*u i:=by
 rw [jZ];have h1:=gE (g:=fun _=>u i) n h;have e: ∀n:Nat,ak (fun _=>u i) n=(n:Rat)*u i:=fun n=>by
  induction n with
  |zero=>show (0:Rat)=((0:Nat):Rat)*u i;rw [show ((0:Nat):Rat)=0 from rfl];grind
  |succ n ih=>show ak (fun _=>u i) n+u i=_;rw [ih,show ((n+1:Nat):Rat)=(n:Rat)+1 by grind];grind
 rw [e n] at h1;have h2:(n:Rat)≤4:=cD hn;have h3:=Rat.mul_le_mul_of_nonneg_right h2 h0;exact Rat.le_trans h1 h3
end
end Go.Proofs
namespace Go.Proofs
section
variable {e:Rat} {a b:Nat} {f:Nat→Rat} {h s:Nat→Nat→Rat}
theorem Qe (l:Qd e a b f h s)(m:oc a b h s)(a4:a≤4){i j:Nat}(hi:i<a)(hj:j<a): ∀(w:List Nat) (r:Nat→Rat),(∀c∈w,c<b)→(∀i,i<a→0≤r i)→
 e*e*e*ak (fun k=>cS a h s r w i k) a≤4*cS a h s r w i j
 |[],r,_,_=>by
  have z: ∀n,ak (fun _=>(0:Rat)) n=0:=fun n=>by
   induction n with
   |zero=>rfl
   |succ n ih=>show ak (fun _=>(0:Rat)) n+0=0;rw [ih];grind
  show e*e*e*ak (fun _=>(0:Rat)) a≤4*0;rw [z];grind
 |c::w,r,hw,hr=>by
  have hc:=hw c (List.mem_cons_self ..);have Cc: ∀c∈w,c<b:=fun c hc=>hw c (List.mem_cons_of_mem _ hc);have e0:=l.e0;have ih:=Qe l m a4 hi hj w (qw a h s r c) Cc (xq m hr hc);have hb:=fun (w':List Nat) (Vu: ∀c∈w',c<b) i hi=>Rat.le_of_lt (dW m w' Vu i hi);have q:0≤r i*h i c:=Rat.mul_nonneg (hr i hi) (Rat.le_of_lt (m.h0 i c hi hc));have one:=AL (u:=fun k=>r i*h i c*s i k*cV a h s w k) (d:=e*e*e) a4 (i:=j) (Rat.mul_nonneg (Rat.mul_nonneg q (Rat.le_of_lt (m.s0 i j hi hj))) (hb w Cc j hj)) fun k hk=>by
   have h2:=HB l Cc hb hj hk;have s1:=(l.s0 i j hi hj).1;have s2:=(l.s0 i k hi hk).2;have x1:=Rat.mul_le_mul_of_nonneg_left s2 (Rat.le_of_lt e0);have x2:e*s i k≤s i j:=by grind
   have p2:0≤e*e*cV a h s w k:=Rat.mul_nonneg (Rat.mul_nonneg (Rat.le_of_lt e0) (Rat.le_of_lt e0)) (hb w Cc k hk);have x3:=Rat.mul_le_mul_of_nonneg_right x2 p2;have x4:=Rat.mul_le_mul_of_nonneg_left h2 (Rat.le_of_lt (m.s0 i j hi hj));have x5:=Rat.mul_le_mul_of_nonneg_left (Rat.le_trans x3 x4) q;show e*e*e*(r i*h i c*s i k*cV a h s w k)≤r i*h i c*s i j*cV a h s w j;grind
  have es:ak (fun k=>cS a h s r (c::w) i k) a=ak (fun k=>r i*h i c*s i k*cV a h s w k) a+ak (fun k=>cS a h s (qw a h s r c) w i k) a:=by rw [dI];rfl
  rw [es];show _≤4*(r i*h i c*s i j*cV a h s w j+cS a h s (qw a h s r c) w i j);grind
theorem Qf (l:Qd e a b f h s)(m:oc a b h s)(a4:a≤4){i k:Nat}(hi:i<a): ∀(w:List Nat) (r:Nat→Rat),(∀c∈w,c<b)→(∀i,i<a→0≤r i)→(∀i i',i<a→i'<a→e*r i'≤r i)→k∈w→
 e*e*e*ak (fun i=>r i*cV a h s w i) a≤4*cH a h s r w i k
 |[],r,_,_,_,hk=>by cases hk
 |c::w,r,hw,hr,hrr,hk=>by
  have hc:=hw c (List.mem_cons_self ..);have Cc: ∀c∈w,c<b:=fun c hc=>hw c (List.mem_cons_of_mem _ hc);have e0:=l.e0;have hb:=fun (w':List Nat) (Vu: ∀c∈w',c<b) i hi=>Rat.le_of_lt (dW m w' Vu i hi);have c0:=IZ m w (qw a h s r c) Cc (xq m hr hc) i k hi;have b0:=Rat.mul_nonneg (hr i hi) (hb (c::w) hw i hi);show _≤4*((if k=c then r i*cV a h s (c::w) i else 0)+cH a h s (qw a h s r c) w i k);by_cases ek:k=c;rw [if_pos ek];have one:=AL (u:=fun i=>r i*cV a h s (c::w) i) (d:=e*e*e) a4 (i:=i) b0 fun p hp=>by
   have h2:=HB l hw hb hi hp;have h1:=hrr i p hi hp;have m1:=Rat.mul_le_mul_of_nonneg_left h2 (hr i hi);have m2:=Rat.mul_le_mul_of_nonneg_right h1 (Rat.mul_nonneg (Rat.mul_nonneg (Rat.le_of_lt e0) (Rat.le_of_lt e0)) (hb _ hw p hp));show e*e*e*(r p*cV a h s (c::w) p)≤r i*cV a h s (c::w) i;grind
  grind;rw [if_neg ek];have dU:k∈w:=(List.mem_cons.1 hk).resolve_left ek;have ih:=Qf l m a4 hi w (qw a h s r c) Cc (xq m hr hc) (fun i i' hi nr=>SP l hr hc hi nr) dU;have hL:ak (fun i=>r i*cV a h s (c::w) i) a=ak (fun j=>qw a h s r c j*cV a h s w j) a:=tL r c _;rw [hL];grind
end
end Go.Proofs
namespace Go.Proofs
section
variable {e:Rat} {a b:Nat} {f:Nat→Rat} {h s:Nat→Nat→Rat}
theorem Cj {x y L:Rat}(hL:0<L)(h:x*L≤y):x≤y/L:=by
 have h2:=Rat.mul_le_mul_of_nonneg_right h (Rat.le_of_lt (Rat.inv_pos.2 hL));rw [Rat.mul_assoc,Rat.mul_inv_cancel _ (by grind)] at h2;rw [Rat.div_def];grind
theorem FE {g:List Nat→Rat}{w:List Nat}: ∀ws,(∀w∈ws,0≤g w)→w∈ws→g w≤dL g ws
 |[],_,h=>by cases h
 |v::ws,h0,h=>by
  have h1:=h0 v (List.mem_cons_self ..);have h2:=rm ws fun w hw=>h0 w (List.mem_cons_of_mem _ hw);show g w≤g v+dL g ws;rcases List.mem_cons.1 h with h|h
  rw [h];grind;have:=FE ws (fun w hw=>h0 w (List.mem_cons_of_mem _ hw)) h;grind
theorem Vv (l:Qd e a b f h s)(m:oc a b h s)(hf: ∀i,i<a→0<f i)(a4:a≤4){ws:List (List Nat)}(hw: ∀w∈ws,∀c∈w,c<b){i:Nat}(hi:i<a):e*e*e*uV ws≤4*tF a f h s ws i:=by
 have h1:dL (fun _=>1*(e*e*e)) ws≤dL (fun w=>f i*cV a h s w i/fc a f h s w*4) ws:=yK ws fun w hm=>by
  have hL:=gG m hf (hw w hm);have g:=AL (u:=fun i=>f i*cV a h s w i) (d:=e*e*e) a4 (i:=i) (Rat.le_of_lt (Rat.mul_pos (hf i hi) (dW m w (hw w hm) i hi))) fun p hp=>by
   have e0:=l.e0;have h2:=HB l (hw w hm) (fun w' Vu i hi=>Rat.le_of_lt (dW m w' Vu i hi)) hi hp;have h1:e*f p≤f i:=by
    have x1:=(l.f0 i hi).1;have x2:=Rat.mul_le_mul_of_nonneg_left (l.f0 p hp).2 (Rat.le_of_lt e0);grind
   have m1:=Rat.mul_le_mul_of_nonneg_left h2 (Rat.le_of_lt (hf i hi));have m2:=Rat.mul_le_mul_of_nonneg_right h1 (Rat.mul_nonneg (Rat.mul_nonneg (Rat.le_of_lt e0) (Rat.le_of_lt e0)) (Rat.le_of_lt (dW m w (hw w hm) p hp)));show e*e*e*(f p*cV a h s w p)≤f i*cV a h s w i;grind
  have d:=Cj hL g;rw [Rat.div_def] at d⊢;grind
 rw [nm,nm] at h1;have e1:dL (fun _=>(1:Rat)) ws=uV ws:=rfl;rw [e1] at h1;show _≤4*dL (fun w=>f i*cV a h s w i/fc a f h s w) ws;grind
theorem Vw (l:Qd e a b f h s)(m:oc a b h s)(hf: ∀i,i<a→0<f i)(a4:a≤4){ws:List (List Nat)}(hw: ∀w∈ws,∀c∈w,c<b){i j:Nat}(hi:i<a)(hj:j<a):e*e*e*ak (tS a f h s ws i) a≤4*tS a f h s ws i j:=by
 have es:ak (tS a f h s ws i) a=dL (fun w=>ak (fun k=>cS a h s f w i k/fc a f h s w) a) ws:=(ly (fun w k=>cS a h s f w i k/fc a f h s w) a ws).symm;have h1:dL (fun w=>ak (fun k=>cS a h s f w i k/fc a f h s w) a*(e*e*e)) ws≤dL (fun w=>cS a h s f w i j/fc a f h s w*4) ws:=yK ws fun w hm=>by
  have hL:=gG m hf (hw w hm);have g:=Qe l m a4 hi hj w f (hw w hm) fun i hi=>Rat.le_of_lt (hf i hi);have e2:ak (fun k=>cS a h s f w i k/fc a f h s w) a=ak (fun k=>cS a h s f w i k) a*(fc a f h s w)⁻¹:=by
   rw [b8];exact aD a fun k _=>Rat.div_def ..
  have g2:=Rat.mul_le_mul_of_nonneg_right g (Rat.le_of_lt (Rat.inv_pos.2 hL));rw [e2,Rat.div_def];grind
 rw [nm,nm] at h1;rw [es];show _≤4*dL (fun w=>cS a h s f w i j/fc a f h s w) ws;grind
theorem Vx (l:Qd e a b f h s)(m:oc a b h s)(hf: ∀i,i<a→0<f i)(a4:a≤4){ws:List (List Nat)}(hw: ∀w∈ws,∀c∈w,c<b){i k:Nat}(hi:i<a){w:List Nat}(hm:w∈ws)(hk:k∈w):e*e*e≤4*tH a f h s ws i k:=by
 have hL:=gG m hf (hw w hm);have g:=Qf l m a4 hi w f (hw w hm) (fun i hi=>Rat.le_of_lt (hf i hi)) (fun i i' hi nr=>by
  have x1:=(l.f0 i hi).1;have x2:=Rat.mul_le_mul_of_nonneg_left (l.f0 i' nr).2 (Rat.le_of_lt l.e0);grind) hk
 have d:=Cj hL g;have o:=FE (g:=fun w=>cH a h s f w i k/fc a f h s w) ws (fun w hm=>od (IZ m w f (hw w hm) (fun i hi=>Rat.le_of_lt (hf i hi)) i k hi) (gG m hf (hw w hm))) hm;have o2:cH a h s f w i k/fc a f h s w≤tH a f h s ws i k:=o;rw [Rat.div_def] at d o2;grind
end
end Go.Proofs
namespace Go.Proofs
open Go.Ide Go.IntWalk
def SQ (t h:Rat):Rat:=(1+t*(1+t*(1+t*(1+t*1/4)/3)/2))/2+h*((1+t*(1+t*(1+t*1/3)/2))/6+h*((1+t*(1+t*1/2))/24+h*((1+t)/120+h*1/720)))
theorem Ph (t h:Rat):T6 (t+h)=T6 t*(1+h) - h*(t*t*t*t*t*t/720)+h*h*SQ t h:=by unfold T6 SQ;grind
theorem SR {t:Rat}(ht:Bd (1/8) t):Bd 1 (SQ t ep):=by
 have h:Bd (1/1000) ep:=by unfold ep;constructor<;>grind
 have c1:Bd 1 1:=⟨by grind,by grind⟩;have a1:Bd (1/32) (t*1/4):=by obtain ⟨x,y⟩:=ht;constructor<;>grind
 have a2:=ht.mul (c1.add a1);have a3:Bd (1/20) (t*(1+t*1/4)/3):=by obtain ⟨x,y⟩:=a2;constructor<;>grind
 have a4:=ht.mul (c1.add a3);have a5:Bd (1/14) (t*(1+t*(1+t*1/4)/3)/2):=by obtain ⟨x,y⟩:=a4;constructor<;>grind
 have a6:=ht.mul (c1.add a5);have b1:Bd (1/24) (t*1/3):=by obtain ⟨x,y⟩:=ht;constructor<;>grind
 have b2:=ht.mul (c1.add b1);have b3:Bd (1/14) (t*(1+t*1/3)/2):=by obtain ⟨x,y⟩:=b2;constructor<;>grind
 have b4:=ht.mul (c1.add b3);have d1:Bd (1/16) (t*1/2):=by obtain ⟨x,y⟩:=ht;constructor<;>grind
 have d2:=ht.mul (c1.add d1);have e1:Bd (1/50) ((1+t)/120+ep*1/720):=by obtain ⟨x,y⟩:=ht;obtain ⟨z,w⟩:=h;constructor<;>grind
 have e2:=h.mul e1;have e3:Bd (1/10) ((1+t*(1+t*1/2))/24+ep*((1+t)/120+ep*1/720)):=by obtain ⟨x,y⟩:=d2;obtain ⟨z,w⟩:=e2;constructor<;>grind
 have e4:=h.mul e3;have e5:Bd 1 ((1+t*(1+t*(1+t*1/3)/2))/6+ep*((1+t*(1+t*1/2))/24+ep*((1+t)/120+ep*1/720))):=by obtain ⟨x,y⟩:=b4;obtain ⟨z,w⟩:=e4;constructor<;>grind
 have e6:=h.mul e5;unfold SQ;obtain ⟨x,y⟩:=a6;obtain ⟨z,w⟩:=e6;constructor<;>grind
theorem SV {t:Rat}(ht:Bd (1/8) t):Bd (1/100000000) (t*t*t*t*t*t/720 - ep*SQ t ep):=by
 have h:=(((((ht.mul ht).mul ht).mul ht).mul ht).mul ht);have q:=(show Bd ep ep from ⟨by have:=ka;grind,Rat.le_refl⟩).mul (SR ht);unfold ep at q⊢;obtain ⟨x,y⟩:=h;obtain ⟨z,w⟩:=q;constructor<;>grind
def qE:Rat:=1+ep*(2/100000000)
theorem I4:1≤qE:=by unfold qE;have:=ka;grind
theorem FF {t:Rat}(ht:Bd (1/8) t):T6 (t+ep)≤T6 t*cp*qE∧T6 t*cp≤T6 (t+ep)*qE:=by
 obtain ⟨x,y⟩:=SV ht;obtain ⟨u,v⟩:=vY ht;have e:=Ph t ep;have hp:=ka;have m1:=Rat.mul_le_mul_of_nonneg_left x (Rat.le_of_lt hp);have m2:=Rat.mul_le_mul_of_nonneg_left y (Rat.le_of_lt hp);have e2:T6 (t+ep)=T6 t*cp - ep*(t*t*t*t*t*t/720 - ep*SQ t ep):=by rw [e];unfold cp;grind
 generalize ep*(t*t*t*t*t*t/720 - ep*SQ t ep)=d at*;have m3:=Rat.mul_le_mul_of_nonneg_right v (Rat.le_of_lt hp);have hb:T6 t≤T6 t*cp:=by unfold cp;grind
 rw [e2];clear e e2 x y u;have hz:4/5≤T6 t*cp:=by grind
 generalize T6 t*cp=z at*;unfold qE;unfold ep at*;constructor<;>grind
theorem M3: ∀m:Nat,(m:Rat)*ep≤1/4→qE^m≤1+(m:Rat)*ep*(4/100000000)
 |0,_=>by rw [Rat.pow_zero,show ((0:Nat):Rat)=0 from rfl];grind
 |m+1,h=>by
  have e:((m+1:Nat):Rat)=(m:Rat)+1:=by grind
  rw [e] at h⊢;have hp:=ka;have ih:=M3 m (by grind);rw [Rat.pow_succ];have hq:=I4;have g:=Rat.mul_le_mul_of_nonneg_right ih (show 0≤qE by grind);have m1:=Rat.mul_le_mul_of_nonneg_right (show (m:Rat)*ep≤1/4 by grind) (Rat.le_of_lt hp);unfold qE at g⊢;have:((m:Rat)+1)*ep=(m:Rat)*ep+ep:=by grind
  rw [this];generalize (m:Rat)*ep=z at*;refine Rat.le_trans g ?_;clear g ih;grind
theorem DX: ∀m:Nat,1≤qE^m
 |0=>by rw [Rat.pow_zero];exact Rat.le_refl
 |m+1=>by
  rw [Rat.pow_succ];have:=Rat.mul_le_mul_of_nonneg_left I4 (show 0≤qE^m by have:=DX m;grind);have:=DX m;grind
theorem Qg: ∀m:Nat,(m:Rat)*ep≤1/8→T6 ((m:Rat)*ep)≤cp^m*qE^m∧cp^m≤T6 ((m:Rat)*ep)*qE^m
 |0,_=>by
  rw [Rat.pow_zero,Rat.pow_zero,show ((0:Nat):Rat)=0 from rfl,show (0:Rat)*ep=0 by grind];unfold T6;constructor<;>grind
 |m+1,h=>by
  have e:((m+1:Nat):Rat)*ep=(m:Rat)*ep+ep:=by grind
  rw [e] at h⊢;have hp:=ka;have hm:(0:Rat)≤(m:Rat)*ep:=Rat.mul_nonneg Rat.natCast_nonneg (Rat.le_of_lt hp);obtain ⟨i1,i2⟩:=Qg m (by grind);obtain ⟨s1,s2⟩:=FF (t:=(m:Rat)*ep) ⟨by grind,by grind⟩;have hb:=mY;have hq:0<qE:=by have:=I4;grind
  have hbq:=Rat.le_of_lt (Rat.mul_pos hb hq);have hQ:0≤qE^m:=by have:=DX m;grind
  have j1:=Rat.mul_le_mul_of_nonneg_right i1 hbq;have j2:=Rat.mul_le_mul_of_nonneg_right i2 (Rat.le_of_lt hb);have j3:=Rat.mul_le_mul_of_nonneg_right s2 hQ;rw [Rat.pow_succ,Rat.pow_succ];constructor;grind;grind
theorem I5: ∀m:Nat,(m:Rat)*ep≤1/8→T6 (-((m:Rat)*ep))*cp^m≤qE^m∧1≤T6 (-((m:Rat)*ep))*cp^m*qE^m
 |0,_=>by
  rw [Rat.pow_zero,Rat.pow_zero,show ((0:Nat):Rat)=0 from rfl,show -((0:Rat)*ep)=0 by grind];unfold T6;constructor<;>grind
 |m+1,h=>by
  have e:((m+1:Nat):Rat)*ep=(m:Rat)*ep+ep:=by grind
  rw [e] at h⊢;have hp:=ka;have hm:(0:Rat)≤(m:Rat)*ep:=Rat.mul_nonneg Rat.natCast_nonneg (Rat.le_of_lt hp);obtain ⟨i1,i2⟩:=I5 m (by grind);obtain ⟨s1,s2⟩:=FF (t:= -((m:Rat)*ep+ep)) ⟨by grind,by grind⟩;rw [show -((m:Rat)*ep+ep)+ep= -((m:Rat)*ep) by grind] at s1 s2;have hb:=mY;have hq:0<qE:=by have:=I4;grind
  have hQ:0≤qE^m:=by have:=DX m;grind
  have hB:0≤cp^m:=Rat.le_of_lt (Rat.pow_pos hb);have j1:=Rat.mul_le_mul_of_nonneg_right s2 hB;have j2:=Rat.mul_le_mul_of_nonneg_right i1 (Rat.le_of_lt hq);have j3:=Rat.mul_le_mul_of_nonneg_right s1 (Rat.mul_nonneg hB hQ);rw [Rat.pow_succ,Rat.pow_succ];constructor;grind;grind
theorem Qh {m:Nat}(h:(m:Rat)*ep≤1/8):qE^m≤1+1/200000000:=by
 have:=M3 m (by grind);grind
theorem SW {t:Rat}{m:Int}(ht:Bd (1/9) t)(h1:(m:Rat)*ep≤t)(h2:t≤((m:Rat)+1)*ep):cp^m≤T6 t*rp 1∧T6 t≤cp^m*rp 1:=by
 have hp:=ka;obtain ⟨x,y⟩:=ht;have hs:Bd (1/8) ((m:Rat)*ep):=by unfold ep at*;constructor<;>grind
 obtain ⟨l1,l2⟩:=MF (t:=t) (s:=(m:Rat)*ep) (d:=ep) ⟨by grind,by grind⟩ hs ⟨by grind,by grind⟩ (Rat.le_of_lt hp);have key:T6 ((m:Rat)*ep)≤cp^m*(1+1/200000000)∧cp^m≤T6 ((m:Rat)*ep)*(1+1/200000000):=by
  cases m with
  |ofNat n=>
   rw [show Int.ofNat n=((n:Nat):Int) from rfl,Rat.zpow_natCast,Rat.intCast_natCast] at*;obtain ⟨i1,i2⟩:=Qg n hs.2;have q:=Qh hs.2;have a:=Rat.mul_le_mul_of_nonneg_left q (show 0≤cp^n from Rat.le_of_lt (Rat.pow_pos mY));have b:=Rat.mul_le_mul_of_nonneg_left q (mL hs);exact ⟨Rat.le_trans i1 a,Rat.le_trans i2 b⟩
  |negSucc n=>
   rw [show Int.negSucc n= -((n+1:Nat):Int) from rfl,Rat.zpow_neg,Rat.zpow_natCast,Rat.intCast_neg,Rat.intCast_natCast] at*;have hn:((n+1:Nat):Rat)*ep≤1/8:=by have:=hs.1;grind
   obtain ⟨i1,i2⟩:=I5 (n+1) hn;have q:=Qh hn;rw [show -((n+1:Nat):Rat)*ep= -(((n+1:Nat):Rat)*ep) by grind] at*;have hb:0<cp^(n+1):=Rat.pow_pos mY;have e:cp^(n+1)*(cp^(n+1))⁻¹=1:=Rat.mul_inv_cancel _ (by grind);have hi:0≤(cp^(n+1))⁻¹:=AG hb;have hT:=Rat.mul_nonneg (mL hs) (Rat.le_of_lt hb);have j1:=Rat.mul_le_mul_of_nonneg_right (Rat.le_trans i1 q) hi;have j2:=Rat.mul_le_mul_of_nonneg_right (Rat.le_trans i2 (Rat.mul_le_mul_of_nonneg_left q hT)) hi;clear i1 i2 l1 l2 hT q;generalize T6 (-(((n+1:Nat):Rat)*ep))=X at*;generalize (cp^(n+1))⁻¹=I at*;generalize cp^(n+1)=B at*;have z:X*B*I=X:=by rw [Rat.mul_assoc,e];grind
   constructor;rw [z] at j1;grind;rw [show X*B*(1+1/200000000)*I=X*B*I*(1+1/200000000) by grind,z] at j2;grind
 obtain ⟨k1,k2⟩:=key;have hB:=cO m;obtain ⟨_,v⟩:=vY hs;have er:rp 1=100000001/100000000:=by show 1*AA=_;rw [uS];grind
 rw [er];have hep:ep≤1/1000000000:=by unfold ep;grind
 clear h1 h2 hs x y er;generalize T6 ((m:Rat)*ep)=X at*;generalize cp^m=B at*;generalize T6 t=Y at*;generalize ep=E at*;constructor<;>grind
theorem FG (m:Int): ∀n:Nat,yH n (cp^m)=cp^(m*((2^n:Nat):Int))
 |0=>by show cp^m=_;rw [Nat.pow_zero];congr 1;omega
 |n+1=>by
  show yH n (cp^m)*yH n (cp^m)=_;rw [FG m n,←Rat.zpow_add kZ,Nat.pow_succ]
  congr 1
  rw [Int.natCast_mul];have:((2:Nat):Int)=2:=rfl;rw [this];grind
theorem M4 {y s:Rat}{K:Nat}(hy:Bd 28 y)(hs:0<s)(h:Nq K (Ex (y/256)) s)(hK:K≤900000):
 lD (((K:Rat)+256)*102/10000000000+257*ep) y ((kb s:Rat)*ep):=by
 have hp:=ka;have ht:Bd (1/9) (y/256):=by obtain ⟨a,b⟩:=hy;constructor<;>grind
 have ht8:Bd (1/8) (y/256):=ht.mono (by grind);obtain ⟨f1,f2⟩:=qm (x:=y/256) hp;generalize (y/256/ep).floor=m at*;obtain ⟨b1,b2⟩:=SW ht f1 f2;have hT:=mL ht8;have hB:=Rat.le_of_lt (cO m);have n1:Nq 1 (cp^m) (T6 (y/256)):=⟨b1,b2⟩;have n2:=sL 8 n1 hB hT;rw [FG] at n2;have n3:=n2.trans h;have l1:=DS hs;have l2:=DT hs;have tt:=kt (2^8*1+K) (by omega);rw [show ((2^8*1+K:Nat):Rat)=(K:Rat)+256 by grind] at tt;generalize hM:m*((2^8:Nat):Int)=M at*;have hMr:(M:Rat)=(m:Rat)*256:=by rw [←hM,Rat.intCast_mul];rfl
 generalize kb s=N at*;obtain ⟨n4,n5⟩:=n3;have R0:0≤rp (2^8*1+K):=by have:=iR (2^8*1+K);grind
 generalize rp (2^8*1+K)=R at*;generalize ((K:Rat)+256)*102/10000000000=x at*;have key: ∀p q:Int,cp^p≤cp^q*R→((p:Rat) - (q:Rat))*ep≤x:=fun p q hpq=>by
  have hq:=cO (-q);have g:=Rat.mul_le_mul_of_nonneg_right hpq (Rat.le_of_lt hq);rw [←Rat.zpow_add kZ] at g;have e:cp^q*R*cp^(-q)=R:=by
   have:cp^q*cp^(-q)=1:=by rw [←Rat.zpow_add kZ,show q+ -q=0 by omega,Rat.zpow_zero]
   rw [show cp^q*R*cp^(-q)=cp^q*cp^(-q)*R by grind,this];grind
  rw [e] at g;have b:=Cf (p+ -q);rw [Rat.intCast_add,Rat.intCast_neg] at b;grind
 have a1:=key M (N+1) (Rat.le_trans n4 (Rat.mul_le_mul_of_nonneg_right (Rat.le_of_lt l2) R0));have a2:=key N M (Rat.le_trans l1 n5);rw [Rat.intCast_add,hMr] at a1;rw [hMr] at a2;have c1:((1:Int):Rat)=1:=rfl;rw [c1] at a1;constructor<;>grind
end Go.Proofs
namespace Go.Proofs
open Go.Ide Go.IntWalk
theorem M5 {c d y:Nat}(hy:Rg c d y):av .quo .f32 0 y=0:=by
 obtain ⟨m,i,e1,v1⟩:=gZ (x:=0) (by omega);obtain ⟨n,j,e2,v2⟩:=gZ hy.fin;have yl:=hy.lo;rw [v2] at yl;have hn:n≠0:=by
  rintro rfl;have:=bg c;omega
 have hm:m=0:=by
  rw [fx] at v1;have:=bg i;rcases Nat.mul_eq_zero.1 v1.symm with h|h
  exact h;omega
 subst hm;have hf:Ieee.single.fractionBits=23:=rfl;have e3:floatBits .quo .f32 0 y=some (RN (2*(0*2^(23+2+n.log2 - Nat.log2 0)/n)+(0*2^(23+2+n.log2 - Nat.log2 0)%n != 0).toNat) (-149+(i:Int) - (-149+(j:Int)) - ((23+2+n.log2 - Nat.log2 0:Nat):Int) - 1)):=by
  show Ieee.single.div 0 y=_;unfold Ieee.Format.div;rw [e1,e2];unfold Ieee.Datum.quotient;simp only [hf,Nat.shiftLeft_eq];rw [if_neg hn];rfl
 unfold av;rw [e3];simp only;rw [sy];rw [Nat.zero_mul,Nat.zero_div,Nat.zero_mod];rfl
theorem I6 {ws:List Nat}{lo:Nat}(h4:ws.length≤4)(mi:60≤lo)(Vy:lo≤173)(hw: ∀i,i<ws.length→ws.getD i 0=0∨Rg lo 173 (ws.getD i 0))(hx: ∃i,i<ws.length∧Rg lo 173 (ws.getD i 0)):
 qI .f32 (aW ws ws.length) 0=true∧eU (dp ws (aW ws ws.length))=true∧(dp ws (aW ws ws.length)).length=ws.length∧
 (∀i,i<ws.length→(dp ws (aW ws ws.length)).getD i 0≤1065353216∧(ws.getD i 0=0→(dp ws (aW ws ws.length)).getD i 0=0)∧cB 2 (bj ((dp ws (aW ws ws.length)).getD i 0)*bj (aW ws ws.length)) (bj (ws.getD i 0)*2^149))∧
 cB 6 (mb (fun i=>bj ((dp ws (aW ws ws.length)).getD i 0)) ws.length) (2^149)∧Rg lo 177 (aW ws ws.length)∧cB 4 (bj (aW ws ws.length)) (mb (fun i=>bj (ws.getD i 0)) ws.length):=by
 have hl:=qi ws (aW ws ws.length);have ur: ∀i,i<ws.length→ws.getD i 0≤2130706432∧bj (ws.getD i 0)≤2^173:=fun i hi=>by
  rcases hw i hi with h|h
  rw [h,fx];exact ⟨by omega,Nat.zero_le _⟩;exact ⟨h.fin,h.hi⟩
 obtain ⟨s1,s2,s3,s4⟩:=mJ (xs:=ws) (b:=173) (by omega) ur ws.length (Nat.le_refl _) (by omega);have hg: ∀i,i<ws.length→(dp ws (aW ws ws.length)).getD i 0=av .quo .f32 (ws.getD i 0) (aW ws ws.length):=fun i hi=>Fu hi;obtain ⟨i0,PA,h0⟩:=hx;have hT:Rg lo 177 (aW ws ws.length):=⟨s1,Nat.le_trans h0.lo (jy (by have:=h0.fin;omega) (by omega) (s4 i0 PA)),Nat.le_trans s2 (Nat.pow_le_pow_right (by omega) (by omega))⟩;have oS:0<bj (aW ws ws.length):=by have:=hT.lo;have:=bg lo;omega
 have Y8:aW ws ws.length≠0:=by intro e;rw [e,fx] at oS;exact Nat.lt_irrefl _ oS
 have AB: ∀i,i<ws.length→av .quo .f32 (ws.getD i 0) (aW ws ws.length)≤1065353216∧(ws.getD i 0=0→av .quo .f32 (ws.getD i 0) (aW ws ws.length)=0)∧
  cB 2 (bj (av .quo .f32 (ws.getD i 0) (aW ws ws.length))*bj (aW ws ws.length)) (bj (ws.getD i 0)*2^149):=fun i hi=>by
  rcases hw i hi with h|h
  rw [h,M5 hT,fx];exact ⟨by omega,fun _=>rfl,by rw [Nat.zero_mul,Nat.zero_mul];exact cB.refl _ _⟩;obtain ⟨q1,q2⟩:=At h hT (by omega) (by omega) (by omega);have q3:=tA (x:=ws.getD i 0) (y:=aW ws ws.length) (a:=254) h.bd hT.bd (by omega) (by omega) (by have:=h.fin;unfold jx;omega) (by unfold jx;omega) (s4 i hi) Y8;refine ⟨q3,fun e=> ?_,q2⟩;have:=h.lo;rw [e,fx] at this;have:=bg lo;omega
 have n1:cB 2 (mb (fun i=>bj ((dp ws (aW ws ws.length)).getD i 0)) ws.length*bj (aW ws ws.length)) (mb (fun i=>bj (ws.getD i 0)) ws.length*2^149):=by
  rw [ql,ql];exact vQ _ fun i hi=>by rw [hg i hi];exact (AB i hi).2.2
 have n2:cB (2+ws.length) (mb (fun i=>bj ((dp ws (aW ws ws.length)).getD i 0)) ws.length*bj (aW ws ws.length)) (2^149*bj (aW ws ws.length)):=by
  refine n1.trans ?_;rw [Nat.mul_comm (2^149)];exact s3.symm.pJ _
 refine ⟨?_,?_,hl,fun i hi=>by rw [hg i hi];exact AB i hi,(n2.cancel oS).mono (by omega),hT,s3.mono (by omega)⟩;rw [IM s1 (by omega),fx];exact decide_eq_true oS;unfold eU;rw [Bool.and_eq_true];constructor;refine df.2 fun i _ hi=> ?_;have hi:i<ws.length:=by omega
 rw [hg i hi];have q1:=(AB i hi).1;unfold share;rw [P3 (by omega) (by omega),P2 (by omega) (by omega),fx];rw [decide_eq_true (Nat.zero_le _),decide_eq_true (jy (by omega) (by omega) q1)];rfl;obtain ⟨r1,r2,r3,_⟩:=mJ (xs:=dp ws (aW ws ws.length)) (b:=149) (by omega) (fun i hi=>by
  rw [hg i (by omega)];have q1:=(AB i (by omega)).1;exact ⟨by omega,wb q1⟩) ws.length (by omega) (by omega)
 rw [hl];refine Au r1 ?_;exact (r3.trans (n2.cancel oS)).mono (by omega)
theorem SY {x:Nat}{X d:Rat}{lo:Nat}(hx:x≤2130706432)(pr:bj x≤2^173)(hn:Nq 1296 (wS x) X)(hX:X=0∨d≤X)(hd:((2^lo:Nat):Rat)*(100002/100000)≤d*US):(X=0∧x=0)∨(d≤X∧Rg lo 173 x):=by
 have hU:=dH;rcases hX with h|h
 left;refine ⟨h,?_⟩;have h1:=hn.1;rw [h] at h1;have h2:((bj x:Nat):Rat)≤0:=by
  rw [jo hx] at h1;have:=Rat.mul_le_mul_of_nonneg_right h1 (Rat.le_of_lt hU);generalize ((bj x:Nat):Rat)=v at*;generalize US=U at*;have e:v/U*U=v:=by grind
  rw [e] at this;grind
 have h3:bj x≤0:=Rat.natCast_le_natCast.1 h2;refine Nat.eq_zero_of_not_pos fun hp=> ?_;have h4:=jy (x:=1) (y:=x) (by omega) (by omega) hp;have h5:bj 1=1:=by decide
 omega;right;refine ⟨h,hx,?_,pr⟩;have h2:=hn.2;have t:=kt 1296 (by omega);rw [show ((1296:Nat):Rat)=1296 from rfl] at t;have w0:=cT hx;have m1:=Rat.mul_le_mul_of_nonneg_left t w0;have hv:(0:Rat)≤((bj x:Nat):Rat):=Rat.natCast_nonneg;rw [jo hx] at*;refine Rat.natCast_le_natCast.1 ?_;generalize ((bj x:Nat):Rat)=v at*;have e:v/US*US=v:=by grind
 have m2:=Rat.mul_le_mul_of_nonneg_right (show d≤v/US*(1+1296*102/10000000000) by grind) (Rat.le_of_lt hU);rw [show v/US*(1+1296*102/10000000000)*US=v/US*US*(1+1296*102/10000000000) by grind,e] at m2;generalize ((2^lo:Nat):Rat)=z at*;clear hn h2 m1 w0 e t pr;grind
theorem DY {xs:List Nat}{X:Nat→Rat}{d:Rat}{lo:Nat}(h4:xs.length≤4)(mi:60≤lo)(Vy:lo≤173)(hf: ∀i,i<xs.length→xs.getD i 0≤2130706432∧bj (xs.getD i 0)≤2^173∧Nq 1296 (wS (xs.getD i 0)) (X i)∧(X i=0∨d≤X i))(d0:0<d)(hd:((2^lo:Nat):Rat)*(100002/100000)≤d*US)(hx: ∃i,i<xs.length∧X i≠0):
 qI .f32 (aW xs xs.length) 0=true∧eU (dp xs (aW xs xs.length))=true∧(dp xs (aW xs xs.length)).length=xs.length∧
 Nq 72 (ak (fun i=>wS ((dp xs (aW xs xs.length)).getD i 0)) xs.length) 1∧
 ∀i,i<xs.length→(dp xs (aW xs xs.length)).getD i 0≤1065353216∧(X i=0→(dp xs (aW xs xs.length)).getD i 0=0)∧Nq 2664 (wS ((dp xs (aW xs xs.length)).getD i 0)*ak X xs.length) (X i):=by
 have C:=fun i (hi:i<xs.length)=>SY (hf i hi).1 (hf i hi).2.1 (hf i hi).2.2.1 (hf i hi).2.2.2 hd;have X0: ∀i,i<xs.length→0≤X i:=fun i hi=>by rcases (hf i hi).2.2.2 with h|h<;>grind
 obtain ⟨g1,g2,g3,g4,g5,g6,g7⟩:=I6 (ws:=xs) (lo:=lo) h4 mi Vy (fun i hi=>by
  rcases C i hi with h|h
  exact .inl h.2;exact .inr h.2) (by
  obtain ⟨i,hi,jq⟩:=hx;rcases C i hi with h|h
  exact absurd h.1 jq;exact ⟨i,hi,h.2⟩)
 refine ⟨g1,g2,g3,?_,fun i hi=> ?_⟩;have q:=xj g5;rw [rk,mf] at q;have hU:=dH;have e:US/US=1:=by grind
 rw [e] at q;rw [aD xs.length (g:=fun i=>((bj ((dp xs (aW xs xs.length)).getD i 0):Nat):Rat)/US) fun i hi=>jo (by have:=(g4 i hi).1;omega)];exact q;obtain ⟨k1,k2,k3⟩:=g4 i hi;refine ⟨k1,fun h=>k2 (by
  rcases C i hi with h'|h'
  exact h'.2;exfalso;grind),?_⟩
 have hU:=dH;have q:=kY k3;rw [Rat.natCast_mul,Rat.natCast_mul,mf] at q;have n4:=xj g7;rw [rk] at n4;have e:ak (fun i=>((bj (xs.getD i 0):Nat):Rat)/US) xs.length=ak (fun i=>wS (xs.getD i 0)) xs.length:=aD _ fun i hi=>by rw [jo (hf i hi).1]
 rw [e] at n4;have n5:=n4.trans (gv xs.length fun i hi=>(hf i hi).2.2.1);have hk:(dp xs (aW xs xs.length)).getD i 0≤2130706432:=by omega
 have w0:=cT hk;have wq:=jo hk;have wx:=jo (hf i hi).1;have p1:Nq 24 (wS ((dp xs (aW xs xs.length)).getD i 0)*(((bj (aW xs xs.length):Nat):Rat)/US)) (wS (xs.getD i 0)):=by
  refine Nq.cancel (c:=US*US) ?_ (Rat.mul_pos hU hU);rw [wq,wx];generalize ((bj ((dp xs (aW xs xs.length)).getD i 0):Nat):Rat)=A at*;generalize ((bj (aW xs xs.length):Nat):Rat)=B at*;generalize ((bj (xs.getD i 0):Nat):Rat)=C at*;generalize US=U at*;rw [show A/U*(B/U)*(U*U)=A*B by grind,show C/U*(U*U)=C*U by grind];exact q
 have p2:=n5.symm.pJ w0;rw [Rat.mul_comm,Rat.mul_comm _ (wS ((dp xs (aW xs xs.length)).getD i 0))] at p2;exact (p2.trans p1).trans (hf i hi).2.2.1
end Go.Proofs
namespace Go.Proofs
open Go.Ide Go.IntWalk
structure FH (d:Rat)(a b:Nat)(C:Nat→Prop)(fs ss hs:List Nat):Prop where
 m:Model a b fs ss hs
 a4:a≤4
 ef: ∀i,i<a→Rg 127 149 (fs.getD i 0)
 es: ∀i j,i<a→j<a→Rg 130 149 (ss.getD (i*a+j) 0)
 eh: ∀i c,i<a→c<b→C c→Rg 127 149 (hs.getD (i*b+c) 0)∧d≤wS (hs.getD (i*b+c) 0)
 sf:Nq 72 (ak (fun i=>wS (fs.getD i 0)) a) 1
 st: ∀i,i<a→Nq 72 (ak (fun j=>wS (ss.getD (i*a+j) 0)) a) 1
theorem Qi {b x:Nat}(h:Rg b 149 x):wS x≤1:=by
 have n2:=cD h.hi;rw [mf] at n2;rw [jo h.fin];have hU:=dH;generalize ((bj x:Nat):Rat)=v at*;generalize US=U at*;have e:v/U*U=v:=by grind
 refine Rat.le_of_mul_le_mul_right (c:=U) ?_ hU;rw [e];grind
theorem Vz {x b k:Nat}{p:Rat}(h:Rg b 149 x)(hp:p=((2^k:Nat):Rat))(hk:b+k=149):1≤wS x*p:=by
 have n2:=cD h.lo;rw [jo h.fin];have hU:=dH;have e1:US=((2^b:Nat):Rat)*p:=by rw [MK,←hk,Nat.pow_add,Rat.natCast_mul,hp]
 have pk:0<p:=by rw [hp];exact nD k
 generalize ((bj x:Nat):Rat)=v at*;generalize ((2^b:Nat):Rat)=q at*;generalize US=U at*;have e:v/U*U=v:=by grind
 refine Rat.le_of_mul_le_mul_right (c:=U) ?_ hU;rw [show v/U*p*U=v/U*U*p by grind,e];have:=Rat.mul_le_mul_of_nonneg_right n2 (Rat.le_of_lt pk);grind
theorem M6 {x:Nat}(hx:x≤2130706432)(h1:1/8388608≤wS x)(h2:wS x≤2):Rg 126 150 x:=by
 rw [jo hx] at h1 h2;have hU:=dH;have e1:US=8388608*((2^126:Nat):Rat):=by
  rw [MK,show (2:Nat)^149=8388608*2^126 by decide,Rat.natCast_mul];rfl
 have e2:((2^150:Nat):Rat)=2*US:=by
  rw [MK,show (2:Nat)^150=2*2^149 by decide,Rat.natCast_mul];rfl
 refine ⟨hx,Rat.natCast_le_natCast.1 ?_,Rat.natCast_le_natCast.1 ?_⟩;generalize ((bj x:Nat):Rat)=v at*;have p:=Rat.mul_le_mul_of_nonneg_right h1 (Rat.le_of_lt hU);have e:v/US*US=v:=by grind
 rw [e] at p;generalize ((2^126:Nat):Rat)=z at*;grind;rw [e2];generalize ((bj x:Nat):Rat)=v at*;have p:=Rat.mul_le_mul_of_nonneg_right h2 (Rat.le_of_lt hU);have e:v/US*US=v:=by grind
 rw [e] at p;exact p
section
variable {d:Rat} {a b:Nat} {C:Nat→Prop} {fs ss hs:List Nat}
theorem Pj (l:FH d a b C fs ss hs){row:List Nat}{c:Nat}(hc:c<b)(hC:C c)(hr:po a 126 150 row):
 Rg 104 154 (fY b hs row c a)∧Nq 60 (wS (fY b hs row c a)) (ak (fun p=>wS (row.getD p 0)*wS (hs.getD (p*b+c) 0)) a):=by
 have a1:=l.m.n1;have a4:=l.a4;have ht: ∀p,p<a→Rg 104 150 (av .mul .f32 (row.getD p 0) (hs.getD (p*b+c) 0)):=fun p hp=>
  (me (hr p hp) (l.eh p c hp hc hC).1 (by omega) (by omega) (by omega) (by omega)).1.mono (by omega) (by omega)
 obtain ⟨q1,q2,_,q4⟩:=uR (f:=fY b hs row c) (by omega) rfl (fun p=>rfl) a ht (by omega);refine ⟨⟨q1,q4 (by omega),Nat.le_trans q2 (Nat.pow_le_pow_right (by omega) (by omega))⟩,?_⟩;have n1:=Hs (f:=fY b hs row c) (by omega) rfl (fun p=>rfl) a ht (by omega);have n2:=gv (k:=12) a fun p hp=>rj (hr p hp) (l.eh p c hp hc hC).1 (by omega) (by omega) (by omega) (by omega);have p1:0≤wS (fY b hs row c a):=cT q1;have p2:=jY (f:=fun p=>wS (row.getD p 0)*wS (hs.getD (p*b+c) 0)) a fun p hp=>Rat.mul_nonneg (cT (hr p hp).fin) (cT (l.eh p c hp hc hC).1.fin);exact (n1.trans n2).mono p1 p2 (by omega)
theorem M7 (l:FH d a b C fs ss hs){row:List Nat}{c:Nat}(hc:c<b)(hC:C c)(hr:po a 126 150 row){j:Nat}(hj:j<a):
 Rg 85 154 ((ib a b ss hs row c).getD j 0)∧Nq 72 (wS ((ib a b ss hs row c).getD j 0)) (ak (fun p=>wS (row.getD p 0)*wS (hs.getD (p*b+c) 0)*wS (ss.getD (p*a+j) 0)) a):=by
 have a1:=l.m.n1;have a4:=l.a4;have m1:=fun p (hp:p<a)=>me (hr p hp) (l.eh p c hp hc hC).1 (by omega) (by omega) (by omega) (by omega);have ht: ∀p,p<a→Rg 85 150 (av .mul .f32 (av .mul .f32 (row.getD p 0) (hs.getD (p*b+c) 0)) (ss.getD (p*a+j) 0)):=fun p hp=>
  (me (m1 p hp).1 (l.es p j hp hj) (by omega) (by omega) (by omega) (by omega)).1.mono (by omega) (by omega)
 rw [qh hj];obtain ⟨q1,q2,_,q4⟩:=uR (f:=mq a b ss hs row c j) (by omega) rfl (fun p=>rfl) a ht (by omega);refine ⟨⟨q1,q4 (by omega),Nat.le_trans q2 (Nat.pow_le_pow_right (by omega) (by omega))⟩,?_⟩;have n1:=Hs (f:=mq a b ss hs row c j) (by omega) rfl (fun p=>rfl) a ht (by omega);have n2:=gv (k:=24) a (f:=fun p=>wS (av .mul .f32 (av .mul .f32 (row.getD p 0) (hs.getD (p*b+c) 0)) (ss.getD (p*a+j) 0))) (g:=fun p=>wS (row.getD p 0)*wS (hs.getD (p*b+c) 0)*wS (ss.getD (p*a+j) 0)) fun p hp=>by
  have x1:=rj (m1 p hp).1 (l.es p j hp hj) (by omega) (by omega) (by omega) (by omega);have x2:=rj (hr p hp) (l.eh p c hp hc hC).1 (by omega) (by omega) (by omega) (by omega);have x3:=x2.pJ (cT (l.es p j hp hj).fin);exact x1.trans x3
 have p1:=cT q1;have p2:=jY (f:=fun p=>wS (row.getD p 0)*wS (hs.getD (p*b+c) 0)*wS (ss.getD (p*a+j) 0)) a fun p hp=>Rat.mul_nonneg (Rat.mul_nonneg (cT (hr p hp).fin) (cT (l.eh p c hp hc hC).1.fin)) (cT (l.es p j hp hj).fin);exact (n1.trans n2).mono p1 p2 (by omega)
theorem Ki (l:FH d a b C fs ss hs){row:List Nat}{c:Nat}(hc:c<b)(hC:C c)(hd:1/4000000≤d)(hr:po a 126 150 row)(xn:Nq 228 (ak (fun p=>wS (row.getD p 0)) a) 1):
 Rg 104 154 (fY b hs row c a)∧d*(99999/100000)≤wS (fY b hs row c a)∧wS (fY b hs row c a)≤100001/100000∧po a 126 150 (xk a b ss hs row c)∧Nq 228 (ak (fun p=>wS ((xk a b ss hs row c).getD p 0)) a) 1∧
 ∀j,j<a→Nq 96 (wS ((xk a b ss hs row c).getD j 0)*wS (fY b hs row c a)) (ak (fun p=>wS (row.getD p 0)*wS (hs.getD (p*b+c) 0)*wS (ss.getD (p*a+j) 0)) a):=by
 obtain ⟨r1,n1⟩:=Pj l hc hC hr;have hh: ∀p,p<a→d≤wS (hs.getD (p*b+c) 0)∧wS (hs.getD (p*b+c) 0)≤1:=fun p hp=>⟨(l.eh p c hp hc hC).2,Qi (l.eh p c hp hc hC).1⟩;have hss: ∀p j,p<a→j<a→1/524288≤wS (ss.getD (p*a+j) 0)∧wS (ss.getD (p*a+j) 0)≤1:=fun p j hp hj=>by
  have:=Vz (k:=19) (p:=524288) (l.es p j hp hj) rfl (by omega);exact ⟨by grind,Qi (l.es p j hp hj)⟩
 have Wh: ∀p,p<a→0≤wS (row.getD p 0):=fun p hp=>cT (hr p hp).fin;have Y9: ∀p,p<a→0≤wS (row.getD p 0)*wS (hs.getD (p*b+c) 0):=fun p hp=>Rat.mul_nonneg (Wh p hp) (by have:=(hh p hp).1;grind);have x1:ak (fun p=>wS (row.getD p 0)) a*d≤ak (fun p=>wS (row.getD p 0)*wS (hs.getD (p*b+c) 0)) a:=by
  rw [b8];exact gE a fun p hp=>Rat.mul_le_mul_of_nonneg_left (hh p hp).1 (Wh p hp)
 have x2:ak (fun p=>wS (row.getD p 0)*wS (hs.getD (p*b+c) 0)) a≤ak (fun p=>wS (row.getD p 0)) a:=
  gE a fun p hp=>by have:=Rat.mul_le_mul_of_nonneg_left (hh p hp).2 (Wh p hp);grind
 have Qj:0≤wS (fY b hs row c a):=cT r1.fin;have SZ:=fun j (hj:j<a)=>M7 l hc hC hr hj;have y1: ∀j,j<a→ak (fun p=>wS (row.getD p 0)*wS (hs.getD (p*b+c) 0)) a*(1/524288)≤ak (fun p=>wS (row.getD p 0)*wS (hs.getD (p*b+c) 0)*wS (ss.getD (p*a+j) 0)) a:=fun j hj=>by
  rw [b8];exact gE a fun p hp=>Rat.mul_le_mul_of_nonneg_left (hss p j hp hj).1 (Y9 p hp)
 have y2: ∀j,j<a→ak (fun p=>wS (row.getD p 0)*wS (hs.getD (p*b+c) 0)*wS (ss.getD (p*a+j) 0)) a≤ak (fun p=>wS (row.getD p 0)*wS (hs.getD (p*b+c) 0)) a:=fun j hj=>
  gE a fun p hp=>by have:=Rat.mul_le_mul_of_nonneg_left (hss p j hp hj).2 (Y9 p hp);grind
 have Za:Nq 72 (ak (fun j=>ak (fun p=>wS (row.getD p 0)*wS (hs.getD (p*b+c) 0)*wS (ss.getD (p*a+j) 0)) a) a) (ak (fun p=>wS (row.getD p 0)*wS (hs.getD (p*b+c) 0)) a):=by
  rw [xi (fun j p=>wS (row.getD p 0)*wS (hs.getD (p*b+c) 0)*wS (ss.getD (p*a+j) 0)) a a];refine gv a fun p hp=> ?_;have q:=(l.st p hp).pJ (Y9 p hp);rw [b8] at q;rw [aD a (g:=fun j=>wS (ss.getD (p*a+j) 0)*(wS (row.getD p 0)*wS (hs.getD (p*b+c) 0))) fun j hj=>by grind];have e:(1:Rat)*(wS (row.getD p 0)*wS (hs.getD (p*b+c) 0))=wS (row.getD p 0)*wS (hs.getD (p*b+c) 0):=by grind
  rw [e] at q;exact q
 have VA:=kt 228 (by omega);rw [show ((228:Nat):Rat)=228 from rfl] at VA;have t60:=kt 60 (by omega);rw [show ((60:Nat):Rat)=60 from rfl] at t60;have t96:=kt 96 (by omega);rw [show ((96:Nat):Rat)=96 from rfl] at t96;generalize hSg:wS (fY b hs row c a)=S at*;generalize hXg:ak (fun p=>wS (row.getD p 0)*wS (hs.getD (p*b+c) 0)) a=X at*;have hR0:0≤ak (fun p=>wS (row.getD p 0)) a:=jY a Wh;generalize ak (fun p=>wS (row.getD p 0)) a=R at*;obtain ⟨s1,s2⟩:=xn;obtain ⟨n2,n3⟩:=n1;have hRd:=Rat.mul_nonneg hR0 (show 0≤d by grind);have hXn:0≤X:=by grind
 have k1:=Rat.mul_le_mul_of_nonneg_left VA hR0;have k2:=Rat.mul_le_mul_of_nonneg_left t60 hXn;have k3:=Rat.mul_le_mul_of_nonneg_left t60 Qj;have hRl:999997/1000000≤R:=by grind
 have b1:d*(99999/100000)≤S:=by
  have:=Rat.mul_le_mul_of_nonneg_right hRl (show 0≤d by grind);grind
 have b2:S≤100001/100000:=by grind
 have hq: ∀j,j<a→Nq 24 (wS ((xk a b ss hs row c).getD j 0)*S) (wS ((ib a b ss hs row c).getD j 0)):=fun j hj=>by
  have:=SH (SZ j hj).1 r1 (by omega) (by omega) (by omega);rw [Fy hj,←hSg];exact this
 have ur: ∀j,j<a→(xk a b ss hs row c).getD j 0≤2130706432:=fun j hj=>by
  have:=(At (SZ j hj).1 r1 (by omega) (by omega) (by omega)).1;rw [Fy hj];exact this
 have yu: ∀j,j<a→Nq 96 (wS ((xk a b ss hs row c).getD j 0)*S) (ak (fun p=>wS (row.getD p 0)*wS (hs.getD (p*b+c) 0)*wS (ss.getD (p*a+j) 0)) a):=fun j hj=>(hq j hj).trans (SZ j hj).2;have Zb:0<S:=by grind
 refine ⟨r1,b1,b2,fun j hj=> ?_,?_,yu⟩;obtain ⟨z1,z2⟩:=yu j hj;have z3:=y1 j hj;have z4:=y2 j hj;have w0:=cT (ur j hj);generalize ak (fun p=>wS (row.getD p 0)*wS (hs.getD (p*b+c) 0)*wS (ss.getD (p*a+j) 0)) a=Y at*;generalize hV:wS ((xk a b ss hs row c).getD j 0)=v at*;have hY:0≤Y:=by grind
 have u1:=Rat.mul_le_mul_of_nonneg_left t96 hY;have u2:=Rat.mul_le_mul_of_nonneg_left t96 (Rat.mul_nonneg w0 Qj);refine M6 (ur j hj) ?_ ?_;rw [hV];refine Rat.le_of_mul_le_mul_right (c:=S) ?_ Zb;grind;rw [hV];refine Rat.le_of_mul_le_mul_right (c:=S) ?_ Zb;grind;have q1:=gv a yu;rw [←b8] at q1;have q2:=(q1.trans Za).trans ⟨n3,n2⟩;refine Nq.cancel (c:=S) ?_ Zb;have e:(1:Rat)*S=S:=by grind
 rw [e];exact q2
end
end Go.Proofs
namespace Go.Proofs
open Go.Ide Go.IntWalk
def tZ (k0:Nat):Rat:=((5100+513*k0:Nat)+256:Rat)*102/10000000000+1/80000
theorem lD.mono {e f x y:Rat}(h:lD e x y)(hl:e≤f):lD f x y:=by
 obtain ⟨a,b⟩:=h;constructor<;>grind
section
variable {d:Rat} {a b:Nat} {C:Nat→Prop} {fs ss hs:List Nat}
theorem M8 (l:FH d a b C fs ss hs)(hd:1/4000000≤d){k0:Nat}(sY:155/100<d*(99999/100000)*p2 (k0+1)){w:List Int}(hw:bU b w)(hC: ∀i,i<w.length→C (w.getD i 0).toNat)(Ku:w.length≤5):
 ∃total,rounds (cm ((a:Int),(b:Int),fs,ss,hs) w) ((0:Nat),(0:Int),fs)=some (.inl total)∧FS total∧Bd 95 (wS total)∧
  ∃N:Int,lD (w.length*tZ k0) (wS total) ((N:Rat)*ep)∧cp^N≤fc a (fQ fs) (hQ b hs) (sQ a ss) (wN w)*rp 708∧fc a (fQ fs) (hQ b hs) (sQ a ss) (wN w)≤cp^(N+(w.length:Int))*rp 708:=by
 have hm:=l.m;have hinv:=fM (f:=cm ((a:Int),(b:Int),fs,ss,hs) w)
  (fun n st=> ∃(i total:Nat) (row:List Nat) (P:Rat) (N:Int),n=w.length - i∧i≤w.length∧st=(total,(i:Int),row)∧row.length=a∧po a 126 150 row∧FS total∧Bd (19*(i:Rat)) (wS total)∧0<P∧cp^N≤P∧P≤cp^(N+(i:Int))∧
   lD ((i:Rat)*tZ k0) (wS total) ((N:Rat)*ep)∧Nq 228 (ak (fun p=>wS (row.getD p 0)) a) 1∧ ∀j,j<a→Nq (96*i) (wS (row.getD j 0)*P) (ue a (fQ fs) (hQ b hs) (sQ a ss) (wN w) i j))
  (fun z=> ∃(total:Nat) (row:List Nat) (P:Rat) (N:Int),z= .inl total∧row.length=a∧po a 126 150 row∧FS total∧Bd (19*(w.length:Rat)) (wS total)∧0<P∧cp^N≤P∧P≤cp^(N+(w.length:Int))∧
   lD ((w.length:Rat)*tZ k0) (wS total) ((N:Rat)*ep)∧Nq 228 (ak (fun p=>wS (row.getD p 0)) a) 1∧ ∀j,j<a→Nq (96*w.length) (wS (row.getD j 0)*P) (ue a (fQ fs) (hQ b hs) (sQ a ss) (wN w) w.length j)) ?_ w.length ((0:Nat),((0:Nat):Int),fs)
  ⟨0,0,fs,1,0,by omega,by omega,rfl,hm.lf,fun i hi=>(l.ef i hi).mono (by omega) (by omega),IW (b:=1) (by omega) (by rw [fx];omega) (by omega),by rw [yI,show ((0:Nat):Rat)=0 from rfl];constructor<;>grind,by grind,
   by rw [Rat.zpow_zero];exact Rat.le_refl,by rw [show (0:Int)+((0:Nat):Int)=0 from rfl,Rat.zpow_zero];exact Rat.le_refl,by
   rw [yI,show ((0:Nat):Rat)=0 from rfl,show ((0:Int):Rat)=0 from rfl];constructor<;>grind,l.sf.mono (jY a fun p hp=>cT (l.ef p hp).fin) (by grind) (by omega),fun j hj=>by
   have:wS (fs.getD j 0)*1=wS (fs.getD j 0):=by grind
   rw [this];exact Nq.refl (cT (l.ef j hj).fin)⟩
 obtain ⟨z,h1,total,row,P,N,rfl,hl,hr,hF,hB,hP,Wi,Wj,hA,hS,hK⟩:=hinv;refine ⟨total,h1,hF,?_,N,hA,?_⟩;have hi6:=cD Ku;rw [show ((5:Nat):Rat)=5 from rfl] at hi6;obtain ⟨x,y⟩:=hB;constructor<;>grind;have s1:=gv a hK;rw [←b8] at s1;have s2:=hS.pJ (Rat.le_of_lt hP);have e:(1:Rat)*P=P:=by grind
 rw [e] at s2;have s3:=s2.symm.trans s1;have e2:ak (fun j=>ue a (fQ fs) (hQ b hs) (sQ a ss) (wN w) w.length j) a=fc a (fQ fs) (hQ b hs) (sQ a ss) (wN w):=by
  rw [←yM (t:=w.length) (by rw [jJ];exact Nat.le_refl _),List.drop_eq_nil_of_le (by rw [jJ];exact Nat.le_refl _)];exact aD a fun j _=>by show _=_*(1:Rat);grind
 rw [e2] at s3;have hLn:0≤fc a (fQ fs) (hQ b hs) (sQ a ss) (wN w):=by
  obtain ⟨x,y⟩:=s3;have:=iR (228+96*w.length);have g:=Rat.le_of_lt hP;by_cases h0:0≤fc a (fQ fs) (hQ b hs) (sQ a ss) (wN w);exact h0;exfalso;have:=Rat.mul_le_mul_of_nonneg_right (show fc a (fQ fs) (hQ b hs) (sQ a ss) (wN w)≤0 by grind) (show 0≤rp (228+96*w.length) by grind);grind
 obtain ⟨x,y⟩:=s3.mono (Rat.le_of_lt hP) hLn (show 228+96*w.length≤708 by omega);refine ⟨Rat.le_trans Wi x,Rat.le_trans y (Rat.mul_le_mul_of_nonneg_right Wj (by have:=iR 708;grind))⟩;rintro n st ⟨i,total,row,P,N,rfl,hi,rfl,hl,hr,hF,hB,hP,Wi,Wj,hA,hS,hK⟩;by_cases h:i<w.length;left;have hi5:=cD (show i≤4 by omega);rw [show ((4:Nat):Rat)=4 from rfl] at hi5;have PA:(0:Rat)≤(i:Rat):=cD (Nat.zero_le i);obtain ⟨c,hc,eV⟩:=hw i h;have Zc:=hC i h;rw [hc,Int.toNat_natCast] at Zc;obtain ⟨r1,b1,b2,r2,r3,r4⟩:=Ki l eV Zc hd hr hS;obtain ⟨y,k,l1,l2,l3,l4,l5,l6,l7,l8⟩:=SK (r1.fs (by omega)) r1.fin (by grind) (by grind);have Qj:0<wS (fY b hs row c a):=by grind
 have hk:k≤k0:=by
  refine Nat.le_of_not_lt fun hk=> ?_;have:=yJ (show k0+1≤k from hk);have m1:=Rat.mul_le_mul_of_nonneg_left this (Rat.le_of_lt Qj);have m2:=Rat.mul_le_mul_of_nonneg_right b1 (show 0≤p2 (k0+1) by have:=xY (k0+1);grind);grind
 have hdp:qI .f32 (fY b hs row c a) 0=true:=by
  rw [IM r1.fin (by omega),fx];have:=r1.lo;have:=bg 104;exact decide_eq_true (by omega)
 have M9:=MN (fs:=fs) (total:=total) hm (by omega) h hc eV hl hdp l1;have AF:=M4 (l3.mono (by grind)) Qj l8 (by omega);obtain ⟨B1,B2⟩:=hB;obtain ⟨y1,y2⟩:=l3;obtain ⟨a1,a2,a3⟩:=Va (e:=95) hF l2 (by grind) (by grind) (by grind) (by grind);have g1:=DS Qj;have g2:=DT Qj;refine ⟨w.length - (i+1),_,by omega,M9,i+1,_,_,P*wS (fY b hs row c a),N+kb (wS (fY b hs row c a)),rfl,by omega,rfl,?_,r2,a1,?_,Rat.mul_pos hP Qj,?_,?_,?_,r3,?_⟩;unfold xk;rw [List.length_map,lr];rw [Rat.natCast_add,show ((1:Nat):Rat)=1 from rfl];constructor<;>grind;rw [Rat.zpow_add kZ];have z1:=Rat.mul_le_mul_of_nonneg_right Wi (Rat.le_of_lt (cO (kb (wS (fY b hs row c a)))));exact Rat.le_trans z1 (Rat.mul_le_mul_of_nonneg_left g1 (Rat.le_of_lt hP));rw [show N+kb (wS (fY b hs row c a))+((i+1:Nat):Int)=(N+(i:Int))+(kb (wS (fY b hs row c a))+1) by omega,Rat.zpow_add kZ];have z1:=Rat.mul_le_mul_of_nonneg_left (Rat.le_of_lt g2) (Rat.le_of_lt hP);exact Rat.le_trans z1 (Rat.mul_le_mul_of_nonneg_right Wj (Rat.le_of_lt (cO _)));have hkr:=cD (show 5100+513*k≤5100+513*k0 by omega);obtain ⟨n1,n2⟩:=AF;obtain ⟨A1,A2⟩:=hA;rw [Rat.intCast_add,Rat.natCast_add,show ((1:Nat):Rat)=1 from rfl];have hep:257*ep≤1/4000000:=by unfold ep;grind
 unfold tZ at*;generalize ((5100+513*k:Nat):Rat)=K at*;generalize ((5100+513*k0:Nat):Rat)=K0 at*;clear hdp M9 hS hK r4 r3 b1 b2 sY;generalize wS (av .add .f32 total y)=T at*;generalize (kb (wS (fY b hs row c a)):Rat)=L at*;constructor<;>grind;intro j hj;have q1:=(r4 j hj).pJ (Rat.le_of_lt hP);have q2:Nq (96*i) (ak (fun p=>wS (row.getD p 0)*wS (hs.getD (p*b+c) 0)*wS (ss.getD (p*a+j) 0)) a*P) (ue a (fQ fs) (hQ b hs) (sQ a ss) (wN w) (i+1) j):=by
  have e2:ue a (fQ fs) (hQ b hs) (sQ a ss) (wN w) (i+1) j=ak (fun p=>ue a (fQ fs) (hQ b hs) (sQ a ss) (wN w) i p*hQ b hs p c*sQ a ss p j) a:=by
   rw [ue,xr (by omega),hc,Int.toNat_natCast];rfl
  rw [e2,b8];refine gv a fun p hp=> ?_;have x:=(hK p hp).pJ (Rat.mul_nonneg (cT (l.eh p c hp eV Zc).1.fin) (cT (l.es p j hp hj).fin));have f1:wS (row.getD p 0)*P*(wS (hs.getD (p*b+c) 0)*wS (ss.getD (p*a+j) 0))=wS (row.getD p 0)*wS (hs.getD (p*b+c) 0)*wS (ss.getD (p*a+j) 0)*P:=by grind
  have f2:ue a (fQ fs) (hQ b hs) (sQ a ss) (wN w) i p*(wS (hs.getD (p*b+c) 0)*wS (ss.getD (p*a+j) 0))=ue a (fQ fs) (hQ b hs) (sQ a ss) (wN w) i p*hQ b hs p c*sQ a ss p j:=by
   unfold hQ sQ;grind
  rw [f1,f2] at x;exact x
 have q3:=q1.trans q2;rw [show 96*(i+1)=96+96*i by omega];rw [show wS ((xk a b ss hs row c).getD j 0)*(P*wS (fY b hs row c a))=wS ((xk a b ss hs row c).getD j 0)*wS (fY b hs row c a)*P by grind];exact q3;right;have:i=w.length:=by omega
 subst this;refine ⟨.inl total,?_,total,row,P,N,rfl,hl,hr,hF,hB,hP,Wi,Wj,hA,hS,hK⟩;unfold cm;simp only [ai,nX (Nat.le_refl _),cond_false]
end
end Go.Proofs
namespace Go.Proofs
open Go.Ide Go.IntWalk
def Zf (e:Int):Nat:=eg .f64 e
theorem HC: ∀i:Fin 602,av .add .f64 (Zf ((i.val:Int) - 301)) 4607182418800017408=Zf ((i.val:Int) - 300)∧av .sub .f64 (Zf ((i.val:Int) - 300)) 4607182418800017408=Zf ((i.val:Int) - 301)∧Zf ((i.val:Int) - 301)%9223372036854775808≤1032*4503599627370496:=by decide+kernel
theorem S1 {e:Int}(h1: -301≤e)(h2:e≤300):av .add .f64 (Zf e) 4607182418800017408=Zf (e+1):=by
 have:=(HC ⟨(e+301).toNat,by omega⟩).1;simp only at this;rw [show (((e+301).toNat:Nat):Int) - 301=e by omega,show (((e+301).toNat:Nat):Int) - 300=e+1 by omega] at this;exact this
theorem S3 {e:Int}(h1: -300≤e)(h2:e≤301):av .sub .f64 (Zf e) 4607182418800017408=Zf (e - 1):=by
 have:=(HC ⟨(e+300).toNat,by omega⟩).2.1;simp only at this;rw [show (((e+300).toNat:Nat):Int) - 301=e - 1 by omega,show (((e+300).toNat:Nat):Int) - 300=e by omega] at this;exact this
theorem VB {e:Int}(h1: -301≤e)(h2:e≤300):kP (Zf e) 1032:=by
 have:=(HC ⟨(e+301).toNat,by omega⟩).2.2;simp only at this;rw [show (((e+301).toNat:Nat):Int) - 301=e by omega] at this;exact this
theorem I7: ∀(n x:Nat) (e:Int),tz x→x/4503599627370496≤n→874*4503599627370496≤x→0≤e→e+((x/4503599627370496:Nat):Int)≤1151→
 ∃x' e',rounds iH (x,e)=some (x',e')∧rounds cN (x,Zf e)=some (x',Zf e')∧tz x'∧x'<4609434218613702656∧874*4503599627370496≤x'∧0≤e'∧e'+((x'/4503599627370496:Nat):Int)≤1151
 |n,x,e,hx,hn,h1,h2,h3=>by
  have hc:tz 4609434218613702656:=⟨by omega,by omega⟩;rw [bA,bA cN];unfold iH cN;simp only [Ip hx hc];by_cases pv:4609434218613702656≤x;rw [decide_eq_true pv];obtain ⟨q1,q2⟩:=LC hx (by omega);simp only [cond_true,q1];rw [ju (by omega),S1 (by omega) (by omega)]
  match n,hn with
  |0,hn=>omega
  |n+1,hn=>
   obtain ⟨x',e',r1,r2,r3⟩:=I7 n (x - 4503599627370496) (e+1) q2 (by omega) (by omega) (by omega) (by omega);unfold iH at r1;unfold cN at r2;exact ⟨x',e',r1,r2,r3⟩
  rw [decide_eq_false pv];exact ⟨x,e,rfl,rfl,hx,by omega,h1,h2,h3⟩
theorem Na: ∀(n x:Nat) (e:Int),tz x→1024≤n+x/4503599627370496→x<4609434218613702656→874≤e+((x/4503599627370496:Nat):Int)→ -149≤e→e≤277→
 ∃x' e',rounds iG (x,e)=some (x',e')∧rounds bW (x,Zf e)=some (x',Zf e')∧tz x'∧x'<4609434218613702656∧4604930618986332160≤x'∧ -149≤e'∧e'≤277
 |n,x,e,hx,hn,h1,h2,h3,h4=>by
  have hc:tz 4604930618986332160:=⟨by omega,by omega⟩;rw [bA,bA bW];unfold iG bW;simp only [Ob hx hc];by_cases cq:x<4604930618986332160;rw [decide_eq_true cq];obtain ⟨q1,q2⟩:=JS hx (by omega);simp only [cond_true,q1];rw [xP (by omega),S3 (by omega) (by omega)]
  match n,hn with
  |0,hn=>omega
  |n+1,hn=>
   obtain ⟨x',e',r1,r2,r3⟩:=Na n (x+4503599627370496) (e - 1) q2 (by omega) (by omega) (by omega) (by omega) (by omega);unfold iG at r1;unfold bW at r2;exact ⟨x',e',r1,r2,r3⟩
  rw [decide_eq_false cq];exact ⟨x,e,rfl,rfl,hx,h1,by omega,h3,h4⟩
def yp (s:Nat):Nat→Nat
 |0=>0
 |i+1=>av .add .f64 (av .quo .f64 4607182418800017408 (Zf (25 - 2*((i:Nat):Int)))) (av .mul .f64 (av .mul .f64 s s) (yp s i))
theorem I8: ∀i:Fin 13,rT .f64 (Zf (25 - 2*((i.val:Nat):Int))) 4607182418800017408=true∧av .sub .f64 (Zf (25 - 2*((i.val:Nat):Int))) 4611686018427387904=Zf (25 - 2*(((i.val+1:Nat)):Int))∧
 (av .quo .f64 4607182418800017408 (Zf (25 - 2*((i.val:Nat):Int))))%9223372036854775808≤1024*4503599627370496:=by decide+kernel
theorem I9 {s:Nat}(hs:kP s 1026): ∀i,i≤13→kP (yp s i) (1030+7*i)
 |0,_=>by unfold kP yp;omega
 |i+1,hi=>by
  have h1:=I9 hs i (by omega);have h2:kP (av .mul .f64 s s) 1029:=vD hs hs (by omega) (by omega) (by omega) (by omega) (by omega) (by omega);have h3:kP (av .mul .f64 (av .mul .f64 s s) (yp s i)) (1036+7*i):=vD h2 h1 (by omega) (by omega) (by omega) (by omega) (by omega) (by omega);have h4:kP (av .quo .f64 4607182418800017408 (Zf (25 - 2*((i:Nat):Int)))) 1024:=(I8 ⟨i,by omega⟩).2.2;have:=Db (kP.mono h4 (show 1024≤1036+7*i by omega)) h3 (by omega) (by omega);rw [show 1030+7*(i+1)=1036+7*i+1 by omega];exact this
theorem Pk (s:Nat):rounds (fX s) (0,25)=some (yp s 13):=by
 have:=bt (f:=fX s) (fun i q=>(q,25 - 2*((i:Nat):Int))) (fun i q=>av .add .f64 (av .quo .f64 4607182418800017408 (Zf (25 - 2*((i:Nat):Int)))) (av .mul .f64 (av .mul .f64 s s) q)) id (n:=13) (fun i q=>q=yp s i)
  (fun i q hi hq=>⟨by
   unfold fX;simp only [decide_eq_true (show 25 - 2*((i:Nat):Int)≥1 by omega),cond_true];rw [xP (by omega),show 25 - 2*((i:Nat):Int) - 2=25 - 2*((i+1:Nat):Int) by omega];rfl,by rw [hq];rfl⟩)
  (fun q _=>by
   unfold fX;rfl) 13 0 0 (by omega) rfl
 simp only [Int.natCast_zero,Int.mul_zero,Int.sub_zero] at this;rw [this.1,this.2];rfl
theorem Pm (s:Nat):rounds (cj s) (0,4627730092099895296)=some (yp s 13):=by
 have:=bt (f:=cj s) (fun i q=>(q,Zf (25 - 2*((i:Nat):Int)))) (fun i q=>av .add .f64 (av .quo .f64 4607182418800017408 (Zf (25 - 2*((i:Nat):Int)))) (av .mul .f64 (av .mul .f64 s s) q)) id (n:=13) (fun i q=>q=yp s i)
  (fun i q hi hq=>⟨by
   obtain ⟨t1,t2,_⟩:=I8 ⟨i,hi⟩;simp only at t1 t2;unfold cj;simp only [t1,cond_true,t2],by rw [hq];rfl⟩)
  (fun q _=>by
   have:rT .f64 (Zf (25 - 2*((13:Nat):Int))) 4607182418800017408=false:=by decide+kernel
   unfold cj;simp only [this,cond_false];rfl) 13 0 0 (by omega) rfl
 have h25:Zf (25 - 2*((0:Nat):Int))=4627730092099895296:=by decide+kernel
 simp only [h25] at this;rw [this.1,this.2];rfl
theorem rq (m:Nat)(p:Int):Ieee.double.nearest false m p%9223372036854775808=Ieee.double.nearest false m p:=by
 obtain ⟨r,hr,e⟩:=kv false m p;rw [e,gz hr];rfl
theorem Nb {x:Nat}(hx:tz x)(h:x<4609434218613702656):tz (av .add .f64 x 4607182418800017408)∧1023*4503599627370496≤av .add .f64 x 4607182418800017408:=by
 have mi:=hx.lo;have hb:kP x 1024:=by unfold kP;omega
 have h1:kP 4607182418800017408 1024:=by unfold kP;omega
 have hu:=Db hb h1 (by omega) (by omega);have e:=BU hx.rd JP;have hm:0<4503599627370496+x%4503599627370496:=by omega
 have hE:((x/4503599627370496 - 1:Nat):Int)≤1022:=by omega
 generalize 4503599627370496+x%4503599627370496=m at*;generalize ((x/4503599627370496 - 1:Nat):Int)=q at*;rw [bn,bn] at e;have Ll:=Nat.mul_pos hm (bg (-1074+q - min (-1074+q) (-1074+((1022:Nat):Int))).toNat);have BQ:2^(0 - min (-1074+q) (-1074+((1022:Nat):Int))).toNat≤4503599627370496*2^(-1074+((1022:Nat):Int) - min (-1074+q) (-1074+((1022:Nat):Int))).toNat:=by
  rw [show (4503599627370496:Nat)=2^52 by decide,←Nat.pow_add];exact Nat.pow_le_pow_right (by omega) (by omega)
 have zd:min (-1074+q) (-1074+((1022:Nat):Int))≤ -52:=by omega
 generalize min (-1074+q) (-1074+((1022:Nat):Int))=base at*;generalize m*2^(-1074+q - base).toNat=A at*;generalize 4503599627370496*2^(-1074+((1022:Nat):Int) - base).toNat=B at*;rw [if_neg (by omega),decide_eq_false (by omega),show ((A:Int)+(B:Int)).natAbs=A+B by omega] at e;have LD:(0 - base).toNat≤(A+B).log2:=(Nat.le_log2 (by omega)).2 (by omega);have pv:=rH (neg:=false) (mag:=A+B) (p:=base) (L:=1023) (by omega) (by omega) (by omega) (by omega);rw [rq] at pv;rw [lp (fN _ _ _) (Nat.le_refl _)] at e;have Jw:=rq (A+B) base;rw [←e] at pv Jw;unfold kP at hu;rw [Jw] at hu;exact ⟨⟨by omega,by omega⟩,pv⟩
theorem Nc {s K:Nat}(hs:bd s K)(h2:2≤K)(h3:K≤254)(hp:qI .f32 s 0=true):aX .f32 s 0=false∧pz .f32 s 0=false∧pz .f32 s s=true∧tz (bD .f32 .f64 s)∧874*4503599627370496≤bD .f32 .f64 s∧bD .f32 .f64 s≤1151*4503599627370496:=by
 obtain ⟨t,m,i,e,hb⟩:=nY hs h2 h3;have ho:FloatKind.f32.format.order s 0=some .gt:=by unfold qI at hp;exact eq_of_beq hp
 have Mu:FloatKind.f32.format.order s s=some .eq:=uE (f:=Ieee.single) fun a b h=>by
  rw [e] at h;cases h
 have UK:0<Ieee.signed t m (-149+(i:Int) - min (-149+(i:Int)) (-149)).toNat:=by
  have h0:=Im ln e;have:FloatKind.f32.format.order 0 s=some .lt:=by
   have h1:FloatKind.f32.format.order s 0=some (compare (Ieee.signed t m (-149+(i:Int) - min (-149+(i:Int)) (-149)).toNat) (Ieee.signed false 0 (-149 - min (-149+(i:Int)) (-149)).toNat)):=by
    show Ieee.Datum.order (Ieee.single.read s) (Ieee.single.read 0)=_;rw [e,ln];rfl
   rw [h1] at ho;injection ho with ho;have h2:FloatKind.f32.format.order 0 s=some (compare (Ieee.signed false 0 (-149 - min (-149) (-149+(i:Int))).toNat) (Ieee.signed t m (-149+(i:Int) - min (-149) (-149+(i:Int))).toNat)):=by
    show Ieee.Datum.order (Ieee.single.read 0) (Ieee.single.read s)=_;rw [e,ln];rfl
   rw [h2,Int.min_comm (-149)]
   congr 1
   have hz: ∀u,Ieee.signed false 0 u=0:=fun u=>by rw [bn];simp
   rw [hz] at ho⊢;have c1:=C7 (Ieee.signed t m (-149+(i:Int) - min (-149+(i:Int)) (-149)).toNat) 0;have c2:=wQ (Ieee.signed t m (-149+(i:Int) - min (-149+(i:Int)) (-149)).toNat) 0;generalize Ieee.signed t m (-149+(i:Int) - min (-149+(i:Int)) (-149)).toNat=A at*;rw [ho] at c1 c2;have h3: ¬A≤0:=fun h=>by rw [decide_eq_true h] at c2;cases c2
   have h4:=GR 0 A;rw [decide_eq_true (by omega)] at h4;have h4:=eq_of_beq h4;injection h4
  unfold aX at h0;rw [this,Int.min_comm (-149)] at h0;have hz: ∀u,Ieee.signed false 0 u=0:=fun u=>by rw [bn];simp
  rw [hz] at h0;have h0:true=decide (0<Ieee.signed t m (-149+(i:Int) - min (-149+(i:Int)) (-149)).toNat):=h0;exact of_decide_eq_true h0.symm
 have ht:t=false:=by
  cases t with
  |false=>rfl
  |true=>rw [dR] at UK;omega
 subst ht;have hm:m≠0:=by
  rintro rfl;rw [bn] at UK;simp at UK
 refine ⟨by unfold aX;rw [ho];rfl,by unfold pz;rw [ho];rfl,by unfold pz;rw [Mu];rfl,?_⟩;have LD:=wR hm hb;have hx:bD .f32 .f64 s=Ieee.double.nearest false m (-149+(i:Int)):=by
  unfold bD;rw [if_neg (by decide)];have e':FloatKind.decode .f32 s= .number false m (-149+(i:Int)):=e;rw [e'];show bw .f64 (Ieee.double.nearest false m (-149+(i:Int)))=_;exact lp (fN _ _ _) (Nat.le_refl _)
 have pv:=rH (neg:=false) (mag:=m) (p:= -149+(i:Int)) (L:=874) hm (by omega) (by omega) (by omega);have hle:=vE (neg:=false) (mag:=m) (p:= -149+(i:Int)) (K:=1151) (by omega) (by omega);unfold kP at hle;rw [rq] at pv hle;rw [hx];exact ⟨⟨by omega,by omega⟩,pv,hle⟩
theorem Ja {s K:Nat}(hs:bd s K)(h2:2≤K)(h3:K≤254)(hp:qI .f32 s 0=true): ∃y,jG s=some y∧dG s=some y:=by
 obtain ⟨f1,f2,f3,hx,mi,pr⟩:=Nc hs h2 h3 hp;have ur:cP s=some true:=by
  unfold cP;rw [zT hs h2 h3];rfl
 unfold jG dG;rw [ur];simp only [f1,f2,f3,cond_false,Bool.not_true,Option.bind_some];generalize bD .f32 .f64 s=x at*;obtain ⟨g1,g2,g3⟩:=hx.pos;have Cu:tz 9218868437227405311:=⟨by omega,by omega⟩;have g4:qI .f64 x 9218868437227405311=false:=Oc hx Cu (by have:=hx.hi;omega);obtain ⟨x1,e1,a1,a2,a3,a4,a5,a6,a7⟩:=I7 1152 x 0 hx (by omega) mi (by omega) (by omega);obtain ⟨x2,e2,b1,b2,b3,b4,b5,b6,b7⟩:=Na 1024 x1 e1 a3 (by omega) a4 (by omega) (by omega) (by omega);have hz:Zf 0=0:=by decide+kernel
 rw [hz] at a2;have ha:iQ x=some (av .add .f64 (av .mul .f64 4611686018427387904 (av .mul .f64 (av .quo .f64 (av .sub .f64 x2 4607182418800017408) (av .add .f64 x2 4607182418800017408)) (yp (av .quo .f64 (av .sub .f64 x2 4607182418800017408) (av .add .f64 x2 4607182418800017408)) 13))) (av .mul .f64 (Zf e2) 4604418534313441775)):=by
  unfold iQ qX;simp only [g1,g2,g3,g4,Bool.not_true,cond_false,Option.bind_some,show ((1:Int)==0)=false from rfl,show decide ((1:Int)<0)=false from rfl,a1,b1,Pk];rfl
 have hb:e8 x=some (av .add .f64 (av .mul .f64 4611686018427387904 (av .mul .f64 (av .quo .f64 (av .sub .f64 x2 4607182418800017408) (av .add .f64 x2 4607182418800017408)) (yp (av .quo .f64 (av .sub .f64 x2 4607182418800017408) (av .add .f64 x2 4607182418800017408)) 13))) (av .mul .f64 (Zf e2) 4604418534313441775)):=by
  unfold e8;simp only [a2,b2,Option.bind_some,Pm]
 have hxb:kP x2 1024:=by have:=b3.hi;unfold kP;omega
 have h1b:kP 4607182418800017408 1024:=by unfold kP;omega
 obtain ⟨p1,p2⟩:=Nb b3 b4;have Ez:=Oa hxb h1b (by omega) (by omega);have hq:kP (av .quo .f64 (av .sub .f64 x2 4607182418800017408) (av .add .f64 x2 4607182418800017408)) 1026:=Od (K:=1025) (L:=1023) Ez (by omega) (by omega) p1 p2 (by omega) (by omega) (by omega);generalize av .quo .f64 (av .sub .f64 x2 4607182418800017408) (av .add .f64 x2 4607182418800017408)=q at*;have Zd:=I9 hq 13 (by omega);have m1:kP (av .mul .f64 q (yp q 13)) 1124:=vD hq Zd (by omega) (by omega) (by omega) (by omega) (by omega) (by omega);have m2:kP (av .mul .f64 4611686018427387904 (av .mul .f64 q (yp q 13))) 1125:=vD (a:=1024) (by unfold kP;omega) m1 (by omega) (by omega) (by omega) (by omega) (by omega) (by omega);have m3:kP (av .mul .f64 (Zf e2) 4604418534313441775) 1125:=vD (b:=1023) (VB (by omega) (by omega)) (by unfold kP;omega) (by omega) (by omega) (by omega) (by omega) (by omega) (by omega);have hy:=Db m2 m3 (by omega) (by omega);have ja:=JR hy (by omega) (by omega);rw [ha,hb];simp only [Option.bind_some];unfold lX;rw [guard_pos ja];exact ⟨_,rfl,rfl⟩
end Go.Proofs
namespace Go.Proofs
open Go.Ide Go.IntWalk
structure AM (a b:Nat)(fs ss hs:List Nat):Prop where
 sf: ∀i,i<a→nn (fs.getD i 0)
 st: ∀i j,i<a→j<a→nn (ss.getD (i*a+j) 0)
 sh: ∀i j,i<a→j<b→nn (hs.getD (i*b+j) 0)
theorem AN {xs:List Nat}(h:eU xs=true){i:Nat}(hi:i<xs.length):nn (xs.getD i 0):=by
 have hb:=vO h hi;unfold eU at h;rw [Bool.and_eq_true] at h;have hs:=df.1 h.1 i (by omega) (by omega);unfold share at hs;rw [Bool.and_eq_true] at hs;exact LI hs.1 hb
theorem Kj {a b:Nat}{fs ss hs:List Nat}(h:cu (a:Int) (b:Int) fs ss hs=true)(m:Model a b fs ss hs):AM a b fs ss hs:=by
 unfold cu at h;simp only [Bool.and_eq_true,decide_eq_true_eq,beq_iff_eq,Int.toNat_natCast] at h;obtain ⟨_,_,_,_,_,h8,h9,Wc⟩:=h;have l1:=m.lf;have l2:=m.ls;have l3:=m.lh;refine ⟨fun i hi=>AN h8 (by omega),fun i j hi hj=> ?_,fun i j hi hj=> ?_⟩;rw [←dg l2 hi hj];exact AN (df.1 h9 i (by omega) (by omega)) (by rw [bo l2 hi];exact hj);rw [←dg l3 hi hj];exact AN (df.1 Wc i (by omega) (by omega)) (by rw [bo l3 hi];exact hj)
def np (a:Nat)(row:List Nat):Prop:=row.length=a∧ ∀i,i<a→bd (row.getD i 0) 127∧nn (row.getD i 0)
theorem wc {a b:Nat}{fs ss hs:List Nat}(m:Model a b fs ss hs)(mn:AM a b fs ss hs){row:List Nat}(hr:np a row){c:Nat}(hc:c<b): ∀p,p≤a→bd (fY b hs row c p) (127+p)∧jx (fY b hs row c p)
 |0,_=>⟨IF _,by show (0:Nat)<2147483648;omega⟩
 |p+1,hp=>by
  have ld:=m.n2;obtain ⟨h1,h2⟩:=wc m mn hr hc p (by omega);obtain ⟨r1,r2⟩:=hr.2 p (by omega);have b1:bd (av .mul .f32 (row.getD p 0) (hs.getD (p*b+c) 0)) 127:=GQ r1 (m.sh p c (by omega) hc) (by omega) (by omega) (by omega) (by omega) (by omega) (by omega);obtain ⟨_,n1⟩:=Dd r1 (m.sh p c (by omega) hc) (by omega) (by omega) (by omega) (by omega) r2 (mn.sh p c (by omega) hc);have b2:bd (av .mul .f32 (row.getD p 0) (hs.getD (p*b+c) 0)) (127+p):=b1.mono (by omega);exact ⟨Lw (a:=127+p) h1 b2 (by omega) (by omega),add_pos (a:=127+p) h1 b2 (by omega) (by omega) h2 n1⟩
theorem FI {a b:Nat}{fs ss hs:List Nat}(m:Model a b fs ss hs)(mn:AM a b fs ss hs){row:List Nat}(hr:np a row){c j:Nat}(hc:c<b)(hj:j<a): ∀p,p≤a→bd (mq a b ss hs row c j p) (127+p)∧jx (mq a b ss hs row c j p)∧mq a b ss hs row c j p≤fY b hs row c p
 |0,_=>⟨IF _,by show (0:Nat)<2147483648;omega,Nat.le_refl _⟩
 |p+1,hp=>by
  have ld:=m.n2;obtain ⟨h1,h2,h3⟩:=FI m mn hr hc hj p (by omega);obtain ⟨q1,q2⟩:=wc m mn hr hc p (by omega);obtain ⟨r1,r2⟩:=hr.2 p (by omega);have b1:bd (av .mul .f32 (row.getD p 0) (hs.getD (p*b+c) 0)) 127:=GQ r1 (m.sh p c (by omega) hc) (by omega) (by omega) (by omega) (by omega) (by omega) (by omega);obtain ⟨_,n1⟩:=Dd r1 (m.sh p c (by omega) hc) (by omega) (by omega) (by omega) (by omega) r2 (mn.sh p c (by omega) hc);have b3:bd (av .mul .f32 (av .mul .f32 (row.getD p 0) (hs.getD (p*b+c) 0)) (ss.getD (p*a+j) 0)) 127:=GQ b1 (m.st p j (by omega) hj) (by omega) (by omega) (by omega) (by omega) (by omega) (by omega);obtain ⟨_,n3⟩:=Dd b1 (m.st p j (by omega) hj) (by omega) (by omega) (by omega) (by omega) n1 (mn.st p j (by omega) hj);have uW:=JV b1 (m.st p j (by omega) hj) (by omega) (by omega) n1 (mn.st p j (by omega) hj);have b1':bd (av .mul .f32 (row.getD p 0) (hs.getD (p*b+c) 0)) (127+p):=b1.mono (by omega);have Ze:bd (av .mul .f32 (av .mul .f32 (row.getD p 0) (hs.getD (p*b+c) 0)) (ss.getD (p*a+j) 0)) (127+p):=b3.mono (by omega);exact ⟨Lw (a:=127+p) h1 Ze (by omega) (by omega),add_pos (a:=127+p) h1 Ze (by omega) (by omega) h2 n3,LH (a:=127+p) h1 Ze q1 b1' (by omega) (by omega) h2 n3 q2 n1 h3 uW⟩
def Nd (a b:Nat)(ss hs row:List Nat)(c:Nat):List Nat:=(ib a b ss hs row c).map fun x=>av .quo .f32 x (fY b hs row c a)
theorem Pn {a b:Nat}{fs ss hs:List Nat}(m:Model a b fs ss hs)(mn:AM a b fs ss hs){row:List Nat}(hr:np a row){c:Nat}(hc:c<b)(h0:fY b hs row c a≠0):np a (Nd a b ss hs row c):=by
 have ld:=m.n2;have hl:=lr a b ss hs row c;refine ⟨by unfold Nd;rw [List.length_map,hl],fun j hj=> ?_⟩;have e:(Nd a b ss hs row c).getD j 0=av .quo .f32 (mq a b ss hs row c j a) (fY b hs row c a):=by
  unfold Nd;rw [List.getD_eq_getElem?_getD,List.getElem?_map,List.getElem?_eq_getElem (by omega)];show av .quo .f32 (ib a b ss hs row c)[j] _=_;rw [←qh (a:=a) (b:=b) (ss:=ss) (hs:=hs) (row:=row) (c:=c) hj,List.getD_eq_getElem?_getD,List.getElem?_eq_getElem (by omega)];rfl
 rw [e];obtain ⟨h1,h2,h3⟩:=FI m mn hr hc hj a (Nat.le_refl _);obtain ⟨q1,q2⟩:=wc m mn hr hc a (Nat.le_refl _);have:=tA h1 q1 (by omega) (by omega) h2 q2 h3 h0;generalize av .quo .f32 (mq a b ss hs row c j a) (fY b hs row c a)=x at*;exact ⟨by unfold bd;omega,by unfold nn;omega⟩
theorem VC {x:Nat}(h:qI .f32 x 0=true):x≠0:=by
 rintro rfl;revert h;decide
theorem FJ {f:Int×List Nat→Option ((Int×List Nat)⊕List Nat)}(xs:List Nat)(h:Nat→Nat)(lP: ∀(i:Nat) (out:List Nat),i<xs.length→out.length=xs.length→out.getD i 0=xs.getD i 0→f ((i:Int),out)=some (.inl (((i+1:Nat):Int),out.set i (h (xs.getD i 0)))))(mG: ∀out:List Nat,out.length=xs.length→f (((xs.length:Nat):Int),out)=some (.inr out)):rounds f ((0:Int),xs)=some (xs.map h):=by
 have:=bt (f:=f) (fun i out=>(((i:Nat):Int),out)) (fun i out=>out.set i (h (xs.getD i 0))) id (n:=xs.length) (fun i out=>out=(xs.take i).map h++xs.drop i)
  (fun i out hi ho=>⟨lP i out hi (by rw [ho];simp;omega) (by
   rw [ho];simp only [List.getD_eq_getElem?_getD];rw [List.getElem?_append_right (by simp;omega)];simp only [List.length_map,List.length_take,List.getElem?_drop];rw [show i+(i - min i xs.length)=i by omega]),by
   rw [ho,wO hi 0,drop_cons hi 0,wM (by simp;omega)];simp⟩)
  (fun out ho=>mG out (by rw [ho];simp)) xs.length 0 xs (by omega) (by simp)
 simp only [Int.natCast_zero] at this;rw [this.1,show id (pC _ xs.length 0 xs)=pC _ xs.length 0 xs from rfl,this.2];simp
noncomputable def Nf (s:Nat):Nat:=(jG s).getD 0
theorem Po {s K:Nat}(hs:bd s K)(h2:2≤K)(h3:K≤254)(hp:qI .f32 s 0=true):jG s=some (Nf s):=by
 obtain ⟨y,h1,_⟩:=Ja hs h2 h3 hp;unfold Nf;rw [h1];rfl
theorem Pp {s K:Nat}(hs:bd s K)(h2:2≤K)(h3:K≤254)(hp:qI .f32 s 0=true):dG s=some (Nf s):=by
 obtain ⟨y,h1,h4⟩:=Ja hs h2 h3 hp;unfold Nf;rw [h1,h4];rfl
theorem Jb (x:Nat):hZ x=some (bif fin x then (x,true) else (0,false)):=by
 unfold hZ lU;show (bif !(fin x) then _ else _)=_;cases fin x<;>rfl
theorem DZ (x:Nat):iw x=some (bif fin x then (x,true) else (0,false)):=by
 unfold iw cP;show (bif !(fin x) then _ else _)=_;cases fin x<;>rfl
noncomputable def oY (a b:Nat)(ss hs:List Nat)(w:List Int)(i:Nat)(s:List Nat×Nat):(List Nat×Nat)⊕(Nat⊕Unit):=
 bif qI .f32 (fY b hs s.1 (w.getD i 0).toNat a) 0 then .inl (Nd a b ss hs s.1 (w.getD i 0).toNat,av .add .f32 s.2 (Nf (fY b hs s.1 (w.getD i 0).toNat a))) else .inr (.inr ())
theorem qo {n k:Int}{fs ss hs:List Nat}{w:List Int}(g4:w.length≤4294967296):
 ∃r,eo (n,k,fs,ss,hs) w=some r∧du (n,k,fs,ss,hs) w=some r:=by
 unfold eo du;simp only [J6 (w:=w) g4,B4 (w:=w) g4,Option.bind_some];cases h1:mX n k fs ss hs w with
 |false=>exact ⟨_,rfl,rfl⟩
 |true=>
  obtain ⟨a,b,rfl,rfl,m,Ku,hw⟩:=Mg h1;have mn:AM a b fs ss hs:=Kj (by unfold mX at h1;rw [Bool.and_eq_true] at h1;exact h1.1) m;have ld:=m.n2;have dU:=m.k2;have Bu:=m.lh;have Kv:=m.lf;have rN:cc fs=some fs:=by
   unfold cc;rw [guard_pos (by simp only [bO];omega)]
  have inv: ∀i (s:List Nat×Nat),i<w.length→np a s.1→ ∀s',oY a b ss hs w i s= .inl s'→np a s'.1:=by
   intro i s hi eI s' hg;obtain ⟨c,hc,eV⟩:=hw i hi;unfold oY at hg;rw [hc,Int.toNat_natCast] at hg;cases hd:qI .f32 (fY b hs s.1 c a) 0 with
   |false=>rw [hd] at hg;cases hg
   |true=>
    rw [hd] at hg;simp only [cond_true] at hg;injection hg with hg;rw [←hg];exact Pn m mn eI eV (VC hd)
  have s1:=oJ (f:=gV ((a:Int),(b:Int),fs,ss,hs) w) (fun i (s:List Nat×Nat)=>(s.1,s.2,((i:Nat):Int))) (oY a b ss hs w) (fun s=> .inl s.2) (n:=w.length) (fun _ s=>np a s.1)
   (fun i s hi hr=>⟨by
    obtain ⟨c,hc,eV⟩:=hw i hi;have xn:=bt (f:=gU ((a:Int),(b:Int),fs,ss,hs) w (s.1,s.2,((i:Nat):Int))) (fun p z=>(z,((p:Nat):Int))) (fun p z=>av .add .f32 z (av .mul .f32 (s.1.getD p 0) (hs.getD (p*b+c) 0))) id (n:=a) (fun p z=>z=fY b hs s.1 c p)
     (fun p z hp hz=>⟨by
      obtain ⟨e1,e2⟩:=oP (a:=a) (b:=b) (by omega) (by omega) hp eV;have j1:=cZ (i:=p) (n:=s.1.length) (by rw [hr.1];exact hp);have j2:=cZ (i:=p*b+c) (n:=hs.length) (by omega);unfold gU;simp only [nW hp,cond_true,Int.toNat_natCast,cQ hp (show a≤4294967296 by omega),hc,e1];rw [guard_pos j1,guard_pos (cZ hi),guard_pos j2],by rw [hz];rfl⟩)
     (fun z _=>by
      unfold gU;simp only [nX (Nat.le_refl _),cond_false];rfl) a 0 0 (by omega) rfl
    simp only [Int.natCast_zero] at xn;obtain ⟨q1,q2⟩:=wc m mn hr eV a (Nat.le_refl _);unfold gV oY;simp only [nW hi,cond_true,Int.toNat_natCast,xn.1,id,Option.bind_some,xn.2,hc,cQ hi (show w.length≤4294967296 by omega)];cases hd:qI .f32 (fY b hs s.1 c a) 0 with
    |false=>rfl
    |true=>
     have hdiv:=FJ (f:=gT (fY b hs s.1 c a) (ib a b ss hs s.1 c)) (ib a b ss hs s.1 c) (fun x=>av .quo .f32 x (fY b hs s.1 c a))
      (fun j out hj ho Jq=>by
       have j1:=cZ (i:=j) (n:=out.length) (by omega);unfold gT;simp only [nW hj,cond_true,Int.toNat_natCast,cQ hj (show (ib a b ss hs s.1 c).length≤4294967296 by rw [lr];omega),Jq];rw [guard_pos j1])
      (fun out _=>by
       unfold gT;simp only [nX (Nat.le_refl _),cond_false])
     simp only [Bool.not_true,cond_false,cond_true,guard_pos (cZ hi),Mh m eV hr.1,Option.bind_some,hdiv,Po q1 (by omega) (by omega) hd];rfl,inv i s hi hr⟩)
   (fun s _=>by
    unfold gV;simp only [nX (Nat.le_refl _),cond_false]) w.length 0 (fs,0) (by omega) ⟨Kv,fun i hi=>⟨m.sf i hi,mn.sf i hi⟩⟩
  have s2:=oJ (f:=cm ((a:Int),(b:Int),fs,ss,hs) w) (fun i (s:List Nat×Nat)=>(s.2,((i:Nat):Int),s.1)) (oY a b ss hs w) (fun s=> .inl s.2) (n:=w.length) (fun _ s=>np a s.1)
   (fun i s hi hr=>⟨by
    obtain ⟨c,hc,eV⟩:=hw i hi;have xn:=bt (f:=c9 ((a:Int),(b:Int),fs,ss,hs) w (s.2,((i:Nat):Int),s.1)) (fun p z=>(z,((p:Nat):Int))) (fun p z=>av .add .f32 z (av .mul .f32 (s.1.getD p 0) (hs.getD (p*b+c) 0))) id (n:=a) (fun p z=>z=fY b hs s.1 c p)
     (fun p z hp hz=>⟨by
      obtain ⟨e1,e2⟩:=oP (a:=a) (b:=b) (by omega) (by omega) hp eV;have hL:ai s.1=(a:Int):=by unfold ai;rw [hr.1]
      have j2:=cZ (i:=p*b+c) (n:=hs.length) (by omega);unfold c9 cC;simp only [hL,nW hp,cond_true,Int.toNat_natCast,cQ hp (show a≤4294967296 by omega),hc,e1];rw [guard_pos (cZ hp),guard_pos j2];rfl,by rw [hz];rfl⟩)
     (fun z _=>by
      have hL:ai s.1=(a:Int):=by unfold ai;rw [hr.1]
      unfold c9;simp only [hL,nX (Nat.le_refl _),cond_false];rfl) a 0 0 (by omega) rfl
    simp only [Int.natCast_zero] at xn;obtain ⟨q1,q2⟩:=wc m mn hr eV a (Nat.le_refl _);unfold cm oY;simp only [nW hi,cond_true,Int.toNat_natCast,guard_pos (cZ hi),xn.1,id,Option.bind_some,xn.2,hc,cQ hi (show w.length≤4294967296 by omega)];cases hd:qI .f32 (fY b hs s.1 c a) 0 with
    |false=>rfl
    |true=>
     have hdiv:=FJ (f:=c8 (fY b hs s.1 c a) (ib a b ss hs s.1 c)) (ib a b ss hs s.1 c) (fun x=>av .quo .f32 x (fY b hs s.1 c a))
      (fun j out hj ho Jq=>by
       have j1:=cZ (i:=j) (n:=out.length) (by omega);unfold c8;simp only [nW hj,cond_true,Int.toNat_natCast,cQ hj (show (ib a b ss hs s.1 c).length≤4294967296 by rw [lr];omega),Jq];rw [guard_pos j1])
      (fun out _=>by
       unfold c8;simp only [nX (Nat.le_refl _),cond_false])
     simp only [Bool.not_true,cond_false,cond_true,Ap m eV hr.1,Option.bind_some,hdiv,Pp q1 (by omega) (by omega) hd];rfl,inv i s hi hr⟩)
   (fun s _=>by
    unfold cm;simp only [nX (Nat.le_refl _),cond_false]) w.length 0 (fs,0) (by omega) ⟨Kv,fun i hi=>⟨m.sf i hi,mn.sf i hi⟩⟩
  simp only [Int.natCast_zero] at s1 s2;simp only [Bool.not_true,cond_false,rN,Option.bind_some,s1,s2];generalize zQ (oY a b ss hs w) (fun s=>Sum.inl s.2) w.length 0 (fs,0)=z;cases z with
  |inl x=>simp only [Jb,DZ,Option.bind_some];exact ⟨_,rfl,rfl⟩
  |inr u=>exact ⟨_,rfl,rfl⟩
end Go.Proofs
namespace Go.Proofs
open Go.Ide Go.IntWalk
def mh (n k:Int)(fs ss hs:List Nat)(ws:List (List Int)):Bool:=
 cu n k fs ss hs&&((decide (ai ws≥1)&&decide (ai ws≤16))&&gY (fun i=>nf (ws.getD i []) 0 (lO .i64 k 1)&&decide (ai (ws.getD i [])≤12)) ws.length 0)
theorem HE {n k:Int}{fs ss hs:List Nat}{ws:List (List Int)}(h:ws.length≤4294967296)(hh: ∀y∈ws,y.length≤4294967296):kq (n,k,fs,ss,hs) ws=some (mh n k fs ss hs ws):=by
 have:=iA (f:=jT (n,k,fs,ss,hs) ws) (fun i=>((i:Nat):Int)) (fun i=>nf (ws.getD i []) 0 (lO .i64 k 1)&&decide (ai (ws.getD i [])≤12)) (Sum.inl ()) (Sum.inr ()) (n:=ws.length) (fun i hi=>by
  unfold jT;simp only [nW hi,cond_true,guard_pos (cZ hi),Int.toNat_natCast,Me (hh _ (vI hi [])),Option.bind_some,cQ hi h];cases (nf (ws.getD i []) 0 (lO .i64 k 1)&&decide (ai (ws.getD i [])≤12))<;>rfl) (by
  unfold jT;simp only [nX (Nat.le_refl _),cond_false]) ws.length 0 (by omega)
 simp only [Int.natCast_zero] at this;unfold kq mh;simp only [tD,Option.bind_some];cases cu n k fs ss hs with
 |false=>rfl
 |true=>
  simp only [Bool.not_true,cond_false,Bool.true_and];by_cases h1:ai ws<1;rw [decide_eq_true h1,decide_eq_false (show¬ai ws≥1 by omega)];rfl;rw [decide_eq_false h1,decide_eq_true (show ai ws≥1 by omega)];simp only [cond_false,Option.bind_some,Bool.true_and];by_cases h2:ai ws>16;rw [decide_eq_true h2,decide_eq_false (show¬ai ws≤16 by omega)];rfl;rw [decide_eq_false h2,decide_eq_true (show ai ws≤16 by omega),this];cases gY (fun i=>nf (ws.getD i []) 0 (lO .i64 k 1)&&decide (ai (ws.getD i [])≤12)) ws.length 0<;>rfl
theorem ru {n k:Int}{fs ss hs:List Nat}{ws:List (List Int)}(h:ws.length≤4294967296)(hh: ∀y∈ws,y.length≤4294967296):cw (n,k,fs,ss,hs) ws=some (mh n k fs ss hs ws):=by
 unfold cw mh;simp only [xc,Option.bind_some];cases hm:cu n k fs ss hs with
 |false=>rfl
 |true=>
  obtain ⟨a,b,rfl,rfl,m⟩:=qg hm;have h1:=m.k1;have h2:=m.k2;have:=iA (f:=jQ ws (b:Int)) (fun i=>((i:Nat):Int)) (fun i=>nf (ws.getD i []) 0 (lO .i64 (b:Int) 1)&&decide (ai (ws.getD i [])≤12)) (Sum.inl ()) (Sum.inr ()) (n:=ws.length) (fun i hi=>by
   unfold jQ;simp only [nW hi,cond_true,guard_pos (cZ hi),Int.toNat_natCast,Ff (hh _ (vI hi [])),Option.bind_some,cQ hi h,decide_eq_true (show (b:Int)≥1 by omega),decide_eq_true (show (b:Int)≤4 by omega)];cases nf (ws.getD i []) 0 (lO .i64 (b:Int) 1)<;>cases decide (ai (ws.getD i [])≤12)<;>rfl) (by
   unfold jQ;simp only [nX (Nat.le_refl _),cond_false]) ws.length 0 (by omega)
  simp only [Int.natCast_zero] at this;unfold mT;cases decide (ai ws≥1) with
  |false=>rfl
  |true=>
   cases decide (ai ws≤16) with
   |false=>rfl
   |true=>
    simp only [cond_true,this,Option.bind_some,Bool.true_and];cases gY (fun i=>nf (ws.getD i []) 0 (lO .i64 (b:Int) 1)&&decide (ai (ws.getD i [])≤12)) ws.length 0<;>rfl
noncomputable def AO (n k:Int)(fs ss hs:List Nat)(w:List Int):Nat×Bool:=(eo (n,k,fs,ss,hs) w).getD (0,false)
theorem Ng {n k:Int}{fs ss hs:List Nat}{w:List Int}(h:w.length≤4294967296):eo (n,k,fs,ss,hs) w=some (AO n k fs ss hs w):=by
 obtain ⟨r,h1,_⟩:=qo (n:=n) (k:=k) (fs:=fs) (ss:=ss) (hs:=hs) h;unfold AO;rw [h1];rfl
theorem FK {n k:Int}{fs ss hs:List Nat}{w:List Int}(h:w.length≤4294967296):du (n,k,fs,ss,hs) w=some (AO n k fs ss hs w):=by
 obtain ⟨r,h1,h2⟩:=qo (n:=n) (k:=k) (fs:=fs) (ss:=ss) (hs:=hs) h;unfold AO;rw [h1,h2];rfl
noncomputable def ig (n k:Int)(fs ss hs:List Nat)(ws:List (List Int))(i:Nat)(out:List Nat):List Nat⊕(List Nat⊕Unit):=
 bif (AO n k fs ss hs (ws.getD i [])).2 then .inl (out++[(AO n k fs ss hs (ws.getD i [])).1]) else .inr (.inr ())
noncomputable def uf (n k:Int)(fs ss hs:List Nat)(ws:List (List Int)):List Nat⊕Unit:=zQ (ig n k fs ss hs ws) (fun out=> .inl out) ws.length 0 []
theorem FL {α ρ:Type}(g:Nat→List α→List α⊕(List α⊕ρ))(h: ∀i s s',g i s= .inl s'→s'.length=s.length+1)(h2: ∀i s r,g i s= .inr (.inl r)→False): ∀(k i:Nat) (s:List α) (r:List α),zQ g (fun out=> .inl out) k i s= .inl r→r.length=s.length+k
 |0,i,s,r,he=>by
  simp only [zQ] at he;injection he with he;rw [←he];rfl
 |k+1,i,s,r,he=>by
  simp only [zQ] at he;cases hg:g i s with
  |inl s'=>
   rw [hg] at he;simp only at he;rw [FL g h h2 k (i+1) s' r he,h i s s' hg];omega
  |inr q=>
   rw [hg] at he;simp only at he;subst he;exact (h2 i s r hg).elim
theorem Kk {n k:Int}{fs ss hs:List Nat}{ws:List (List Int)}{r:List Nat}(h:uf n k fs ss hs ws= .inl r):r.length=ws.length:=by
 have:=FL (ig n k fs ss hs ws) (fun i s s' hg=>by
  unfold ig at hg;cases hc:(AO n k fs ss hs (ws.getD i [])).2 with
  |false=>rw [hc] at hg;cases hg
  |true=>rw [hc] at hg;simp only [cond_true] at hg;injection hg with hg;rw [←hg];simp) (fun i s r hg=>by
  unfold ig at hg;cases hc:(AO n k fs ss hs (ws.getD i [])).2 with
  |false=>rw [hc] at hg;simp only [cond_false] at hg;injection hg with hg;cases hg
  |true=>rw [hc] at hg;simp only [cond_true] at hg;cases hg) ws.length 0 [] r h
 simpa using this
theorem Kl {n k:Int}{fs ss hs:List Nat}{ws:List (List Int)}(h:ws.length≤1048576)(hh: ∀y∈ws,y.length≤4294967296):kr (n,k,fs,ss,hs) ws=some (match uf n k fs ss hs ws with| .inl r=>(r,true)| .inr _=>([],false)):=by
 have:=oJ (f:=jU (n,k,fs,ss,hs) ws) (fun i (out:List Nat)=>(((i:Nat):Int),out)) (ig n k fs ss hs ws) (fun out=> .inl out) (n:=ws.length) (fun i out=>out.length≤i)
  (fun i out hi ho=>⟨by
   unfold jU ig;simp only [nW hi,cond_true,guard_pos (cZ hi),Int.toNat_natCast,Ng (hh _ (vI hi [])),Option.bind_some,cQ hi (show ws.length≤4294967296 by omega)];rw [guard_pos (by simp only [List.length_singleton,bO];omega)];cases (AO n k fs ss hs (ws.getD i [])).2<;>rfl,fun s' hg=>by
   unfold ig at hg;cases hc:(AO n k fs ss hs (ws.getD i [])).2 with
   |false=>rw [hc] at hg;cases hg
   |true=>rw [hc] at hg;simp only [cond_true] at hg;injection hg with hg;rw [←hg];simp;omega⟩)
  (fun out _=>by
   unfold jU;simp only [nX (Nat.le_refl _),cond_false]) ws.length 0 [] (by omega) (by simp)
 simp only [Int.natCast_zero] at this;unfold kr;rw [this];show Option.bind (some (uf n k fs ss hs ws)) _=_;cases uf n k fs ss hs ws<;>rfl
theorem Ck {n k:Int}{fs ss hs:List Nat}{ws:List (List Int)}(h:ws.length≤1048576)(hh: ∀y∈ws,y.length≤4294967296):jC (n,k,fs,ss,hs) ws=some (bif mh n k fs ss hs ws then (match uf n k fs ss hs ws with| .inl r=>(r,true)| .inr _=>([],false)) else ([],false)):=by
 have:=oJ (f:=mU (n,k,fs,ss,hs) ws) (fun i (out:List Nat)=>(((i:Nat):Int),out)) (ig n k fs ss hs ws) (fun out=> .inl out) (n:=ws.length) (fun i out=>out.length≤i)
  (fun i out hi ho=>⟨by
   unfold mU ig;simp only [nW hi,cond_true,guard_pos (cZ hi),Int.toNat_natCast,FK (hh _ (vI hi [])),Option.bind_some,cQ hi (show ws.length≤4294967296 by omega)];rw [guard_pos (by simp only [List.length_singleton,bO];omega)];cases (AO n k fs ss hs (ws.getD i [])).2<;>rfl,fun s' hg=>by
   unfold ig at hg;cases hc:(AO n k fs ss hs (ws.getD i [])).2 with
   |false=>rw [hc] at hg;cases hg
   |true=>rw [hc] at hg;simp only [cond_true] at hg;injection hg with hg;rw [←hg];simp;omega⟩)
  (fun out _=>by
   unfold mU;simp only [nX (Nat.le_refl _),cond_false]) ws.length 0 [] (by omega) (by simp)
 simp only [Int.natCast_zero] at this;unfold jC;simp only [ru (ws:=ws) (by omega) hh,Option.bind_some];cases mh n k fs ss hs ws with
 |false=>rfl
 |true=>
  simp only [Bool.not_true,cond_false,cond_true];rw [this];show Option.bind (some (uf n k fs ss hs ws)) _=_;cases uf n k fs ss hs ws<;>rfl
theorem Km {x0_0 x0_1:Int}{x0_2 x0_3 x0_4:List Nat}{x1_0:List (List Int)}(g1:x0_2.length≤1048576)(g2:x0_3.length≤1048576)(g3:x0_4.length≤1048576)(g4:x1_0.length≤1048576∧ ∀y∈x1_0,y.length≤1048576):
 ∃r,jH (x0_0,x0_1,x0_2,x0_3,x0_4) x1_0=some r∧eE (x0_0,x0_1,x0_2,x0_3,x0_4) x1_0=some r:=by
 have hh: ∀y∈x1_0,y.length≤4294967296:=fun y hy=>by have:=g4.2 y hy;omega
 have hl:=g4.1;unfold jH eE;simp only [HE (ws:=x1_0) (by omega) hh,Kl hl hh,Ck hl hh,Option.bind_some];cases hw:mh x0_0 x0_1 x0_2 x0_3 x0_4 x1_0 with
 |false=>exact ⟨_,rfl,rfl⟩
 |true=>
  simp only [Bool.not_true,cond_false,cond_true];cases hv:uf x0_0 x0_1 x0_2 x0_3 x0_4 x1_0 with
  |inr u=>exact ⟨_,rfl,rfl⟩
  |inl r=>
   have hrl:=Kk hv;simp only [Bool.not_true,cond_false,OQ (xs:=r) (by omega),vN (xs:=r) (by omega),Option.bind_some,Jb,DZ];exact ⟨_,rfl,rfl⟩
end Go.Proofs
namespace Go.Proofs
open Go.Ide Go.IntWalk
section
variable {d:Rat} {a b:Nat} {C:Nat→Prop} {fs ss hs:List Nat}
theorem Zg (ok:cu (a:Int) (b:Int) fs ss hs=true)(m:Model a b fs ss hs){w:List Int}(hw:bU b w)(Ku:w.length≤12):mX (a:Int) (b:Int) fs ss hs w=true:=by
 have k2:=m.k2;have k1:=m.k1;unfold mX;rw [ok,xP (by omega)];simp only [Bool.true_and,Bool.and_eq_true,decide_eq_true_eq,ai];refine ⟨tB.2 fun i hi=> ?_,by omega⟩;obtain ⟨x,hx,PC⟩:=hw i hi;omega
theorem Jc (ok:cu (a:Int) (b:Int) fs ss hs=true)(m:Model a b fs ss hs){ws:List (List Int)}(h1:1≤ws.length)(YP:ws.length≤16)(hw: ∀i,i<ws.length→bU b (ws.getD i [])∧(ws.getD i []).length≤12):mh (a:Int) (b:Int) fs ss hs ws=true:=by
 have k2:=m.k2;have k1:=m.k1;unfold mh;rw [ok,xP (by omega)];simp only [Bool.true_and,Bool.and_eq_true,decide_eq_true_eq,ai];refine ⟨⟨by omega,by omega⟩,df.2 fun i _ hi=> ?_⟩;obtain ⟨h2,h3⟩:=hw i (by omega);rw [Bool.and_eq_true];refine ⟨tB.2 fun j hj=> ?_,decide_eq_true (by omega)⟩;obtain ⟨x,hx,PC⟩:=h2 j hj;omega
theorem Nh (l:FH d a b C fs ss hs)(ok:cu (a:Int) (b:Int) fs ss hs=true)(hd:1/4000000≤d){k0:Nat}(sY:155/100<d*(99999/100000)*p2 (k0+1)){w:List Int}(hw:bU b w)(hC: ∀i,i<w.length→C (w.getD i 0).toNat)(Ku:w.length≤5):
 AO (a:Int) (b:Int) fs ss hs w=((AO (a:Int) (b:Int) fs ss hs w).1,true)∧FS (AO (a:Int) (b:Int) fs ss hs w).1∧Bd 95 (wS (AO (a:Int) (b:Int) fs ss hs w).1)∧
  ∃N:Int,lD (w.length*tZ k0) (wS (AO (a:Int) (b:Int) fs ss hs w).1) ((N:Rat)*ep)∧cp^N≤fc a (fQ fs) (hQ b hs) (sQ a ss) (wN w)*rp 708∧fc a (fQ fs) (hQ b hs) (sQ a ss) (wN w)≤cp^(N+(w.length:Int))*rp 708:=by
 obtain ⟨total,e1,e2,e3⟩:=M8 l hd sY hw hC Ku;have Kv:=l.m.lf;have ld:=l.m.n2;have rN:cc fs=some fs:=by
  unfold cc;rw [guard_pos (by simp only [bO];omega)]
 have ur:fin total=true:=DA e2.1 (by omega) (by omega);have Zh:iw total=some (total,true):=by
  unfold iw cP;show (bif !(fin total) then _ else _)=_;rw [ur];rfl
 have key:du ((a:Int),(b:Int),fs,ss,hs) w=some (total,true):=by
  unfold du;simp only [B4 (w:=w) (by omega),Zg ok l.m hw (by omega),Option.bind_some,Bool.not_true,cond_false,rN,e1,Zh]
 rw [FK (by omega)] at key;injection key with key;rw [key];exact ⟨rfl,e2,e3⟩
theorem Cl (n k:Int)(ws:List (List Int)): ∀(m i:Nat) (out:List Nat),(∀j,j<i+m→(AO n k fs ss hs (ws.getD j [])).2=true)→
 zQ (ig n k fs ss hs ws) (fun out=> .inl out) m i out= .inl (out++(List.range m).map fun j=>(AO n k fs ss hs (ws.getD (i+j) [])).1)
 |0,i,out,_=>by simp [zQ]
 |m+1,i,out,h=>by
  have eI:ig n k fs ss hs ws i out= .inl (out++[(AO n k fs ss hs (ws.getD i [])).1]):=by
   unfold ig;rw [h i (by omega)];rfl
  rw [zQ,eI];simp only;rw [Cl n k ws m (i+1) _ fun j hj=>h j (by omega)];rw [List.range_succ_eq_map,List.map_cons,List.map_map,List.append_assoc]
  congr 3
  simp only [List.singleton_append,Nat.add_zero]
  congr 1
  refine List.map_congr_left fun j _=> ?_;simp only [Function.comp,Nat.succ_eq_add_one];rw [show i+1+j=i+(j+1) by omega]
noncomputable def rM (n k:Int)(fs ss hs:List Nat)(ws:List (List Int)):List Nat:=(List.range ws.length).map fun j=>(AO n k fs ss hs (ws.getD j [])).1
theorem Kn (n k:Int)(ws:List (List Int))(h: ∀j,j<ws.length→(AO n k fs ss hs (ws.getD j [])).2=true):uf n k fs ss hs ws= .inl (rM n k fs ss hs ws):=by
 unfold uf rM;rw [Cl n k ws ws.length 0 [] fun j hj=>h j (by omega)];simp
theorem AP {g:List Nat→Rat}{ws:List (List Nat)}{i:Nat}(hi:i<ws.length):iS g (ws.take (i+1))=iS g (ws.take i)*g (ws.getD i []):=by
 have app: ∀(xs:List (List Nat)) (w:List Nat),iS g (xs++[w])=iS g xs*g w:=fun xs w=>by
  induction xs with
  |nil=>show g w*1=1*g w;grind
  |cons x xs ih=>show g x*iS g (xs++[w])=g x*iS g xs*g w;rw [ih];grind
 rw [List.take_succ_eq_append_getElem hi,app,List.getD_eq_getElem?_getD,List.getElem?_eq_getElem hi];rfl
theorem Jd (N:Int)(k:Nat):cp^N≤cp^(N+(k:Int)):=by
 have g:=IX k;have g2:(0:Rat)≤(k:Rat)*ep:=Rat.mul_nonneg Rat.natCast_nonneg (Rat.le_of_lt ka);have g3:=Rat.mul_le_mul_of_nonneg_left (show 1≤cp^k by grind) (Rat.le_of_lt (cO N));rw [Rat.mul_one] at g3;rw [Rat.zpow_add kZ,Rat.zpow_natCast];exact g3
theorem HF {B x r:Rat}(hB:0<B)(h:B≤x*r)(hr:1≤r):0≤x:=by
 by_cases h0:0≤x;exact h0;exfalso;have:=Rat.mul_le_mul_of_nonneg_right (show x≤0 by grind) (show 0≤r by grind);grind
theorem S4 {B1 B2 P g r1 r2:Rat}(h1:B1≤P*r1)(h2:B2≤g*r2)(b2:0<B2)(hP:0≤P)(hr:1≤r1):B1*B2≤P*g*(r1*r2):=by
 have z1:=Rat.mul_le_mul_of_nonneg_right h1 (Rat.le_of_lt b2);have z2:=Rat.mul_le_mul_of_nonneg_left h2 (show 0≤P*r1 from Rat.mul_nonneg hP (by grind));rw [show P*g*(r1*r2)=P*r1*(g*r2) by grind];exact Rat.le_trans z1 z2
theorem S5 {B1 B2 B3 P g r1 r2:Rat}(h1:P≤B1*r1)(h2:g≤B2*r2)(b3:B2≤B3)(b2:0<B3)(hP:0≤P)(F9:1≤r2):P*g≤B1*B3*(r1*r2):=by
 have z0:=Rat.mul_le_mul_of_nonneg_right b3 (show 0≤r2 by grind);have z1:=Rat.mul_le_mul_of_nonneg_left (Rat.le_trans h2 z0) hP;have z2:=Rat.mul_le_mul_of_nonneg_right h1 (show 0≤B3*r2 from Rat.mul_nonneg (Rat.le_of_lt b2) (by grind));rw [show B1*B3*(r1*r2)=B1*r1*(B3*r2) by grind];exact Rat.le_trans z1 z2
theorem FM (l:FH d a b C fs ss hs)(ok:cu (a:Int) (b:Int) fs ss hs=true)(hd:1/4000000≤d){k0:Nat}(sY:155/100<d*(99999/100000)*p2 (k0+1)){ws:List (List Int)}(h1:1≤ws.length)(h4:ws.length≤4)(hw: ∀i,i<ws.length→bU b (ws.getD i [])∧(ws.getD i []).length≤5)(hC: ∀i,i<ws.length→ ∀j,j<(ws.getD i []).length→C ((ws.getD i []).getD j 0).toNat):
 ∃xs T,jC ((a:Int),(b:Int),fs,ss,hs) ws=some (xs,true)∧xs.length=ws.length∧(∀i,i<xs.length→FS (xs.getD i 0))∧eE ((a:Int),(b:Int),fs,ss,hs) ws=some (T,true)∧jH ((a:Int),(b:Int),fs,ss,hs) ws=some (T,true)∧FS T∧Bd 400 (wS T)∧
  ∃N:Int,lD (20*tZ k0+1/5000) (wS T) ((N:Rat)*ep)∧cp^N≤iS (fc a (fQ fs) (hQ b hs) (sQ a ss)) (ws.map wN)*rp 2832∧iS (fc a (fQ fs) (hQ b hs) (sQ a ss)) (ws.map wN)≤cp^(N+20)*rp 2832:=by
 have V:=fun i (hi:i<ws.length)=>Nh l ok hd sY (hw i hi).1 (hC i hi) (hw i hi).2;have hh: ∀y∈ws,y.length≤1048576:=fun y hy=>by
  obtain ⟨i,hi,rfl⟩:=List.getElem_of_mem hy;have:=(hw i hi).2;rw [List.getD_eq_getElem?_getD,List.getElem?_eq_getElem hi] at this;have e:(ws[i]:List Int).length≤5:=this;omega
 have hV:=Kn (a:Int) (b:Int) (fs:=fs) (ss:=ss) (hs:=hs) ws fun j hj=>by rw [(V j hj).1]
 have hL:=Ck (n:=(a:Int)) (k:=(b:Int)) (fs:=fs) (ss:=ss) (hs:=hs) (ws:=ws) (by omega) fun y hy=>by have:=hh y hy;omega
 rw [Jc ok l.m h1 (by omega) (fun i hi=>⟨(hw i hi).1,by have:=(hw i hi).2;omega⟩),hV] at hL;simp only [cond_true] at hL;have hlen:(rM (a:Int) (b:Int) fs ss hs ws).length=ws.length:=by simp [rM]
 have NW: ∀i,i<ws.length→(rM (a:Int) (b:Int) fs ss hs ws).getD i 0=(AO (a:Int) (b:Int) fs ss hs (ws.getD i [])).1:=fun i hi=>by
  unfold rM;rw [List.getD_eq_getElem?_getD,List.getElem?_map,List.getElem?_range hi];rfl
 have Xx:(ws.map wN).length=ws.length:=by simp
 have hgw: ∀i,i<ws.length→(ws.map wN).getD i []=wN (ws.getD i []):=fun i hi=>by
  rw [List.getD_eq_getElem?_getD,List.getElem?_map,List.getElem?_eq_getElem hi,List.getD_eq_getElem?_getD,List.getElem?_eq_getElem hi];rfl
 have e0:0≤tZ k0:=by
  unfold tZ;have:(0:Rat)≤((5100+513*k0:Nat):Rat):=Rat.natCast_nonneg;grind
 have Zi: ∀i,i≤ws.length→FS (aW (rM (a:Int) (b:Int) fs ss hs ws) i)∧Bd (96*(i:Rat)) (wS (aW (rM (a:Int) (b:Int) fs ss hs ws) i))∧
  ∃N:Int,lD ((i:Rat)*(5*tZ k0+1/20000)) (wS (aW (rM (a:Int) (b:Int) fs ss hs ws) i)) ((N:Rat)*ep)∧cp^N≤iS (fc a (fQ fs) (hQ b hs) (sQ a ss)) ((ws.map wN).take i)*rp (708*i)∧
   iS (fc a (fQ fs) (hQ b hs) (sQ a ss)) ((ws.map wN).take i)≤cp^(N+5*(i:Int))*rp (708*i):=by
  intro i;induction i with
  |zero=>
   intro _;refine ⟨IW (b:=1) (by unfold aW;omega) (by unfold aW;rw [fx];omega) (by omega),?_,0,?_,?_,?_⟩;show Bd (96*((0:Nat):Rat)) (wS 0);rw [yI,show ((0:Nat):Rat)=0 from rfl];constructor<;>grind;show lD _ (wS 0) _;rw [yI,show ((0:Nat):Rat)=0 from rfl,show ((0:Int):Rat)=0 from rfl];constructor<;>grind;rw [Rat.zpow_zero];show (1:Rat)≤1*1;grind;show (1:Rat)≤cp^(0:Int)*1;rw [Rat.zpow_zero];grind
  |succ i ih=>
   intro hi;obtain ⟨i1,⟨i2,i3⟩,N,⟨i4,i5⟩,i6,i7⟩:=ih (by omega);obtain ⟨v1,v2,⟨v3,v4⟩,M,⟨v5,v6⟩,v7,v8⟩:=V i (by omega);have hi3:=cD (show i≤3 by omega);rw [show ((3:Nat):Rat)=3 from rfl] at hi3;have PA:(0:Rat)≤(i:Rat):=cD (Nat.zero_le i);have hg:=NW i (by omega);rw [←hg] at v2 v3 v4 v5 v6;obtain ⟨a1,a2,a3⟩:=Va (e:=400) i1 v2 (by grind) (by grind) (by grind) (by grind);have Ku:=cD (hw i (by omega)).2;rw [show ((5:Nat):Rat)=5 from rfl] at Ku;have hwe:=Rat.mul_le_mul_of_nonneg_right Ku e0;refine ⟨a1,⟨?_,?_⟩,N+M,⟨?_,?_⟩,?_,?_⟩;rw [Rat.natCast_add,show ((1:Nat):Rat)=1 from rfl];show _≤wS (av .add .f32 _ _);grind;rw [Rat.natCast_add,show ((1:Nat):Rat)=1 from rfl];show wS (av .add .f32 _ _)≤_;grind;rw [Rat.natCast_add,show ((1:Nat):Rat)=1 from rfl,Rat.intCast_add];show wS (av .add .f32 _ _)≤_;grind;rw [Rat.natCast_add,show ((1:Nat):Rat)=1 from rfl,Rat.intCast_add];show _≤wS (av .add .f32 _ _)+_;grind;rw [Rat.zpow_add kZ,AP (by omega),hgw i (by omega),show 708*(i+1)=708*i+708 by omega,mK];exact S4 i6 v7 (cO M) (HF (cO N) i6 (iR _)) (iR _);have up:cp^(M+((ws.getD i []).length:Int))≤cp^(M+5):=by
    have:=(hw i (by omega)).2;obtain ⟨k,hk⟩:=Nat.le.dest this;rw [show M+5=M+((ws.getD i []).length:Int)+(k:Int) by omega];exact Jd ..
   rw [show N+M+5*((i+1:Nat):Int)=(N+5*(i:Int))+(M+5) by omega,Rat.zpow_add kZ,AP (by omega),hgw i (by omega),show 708*(i+1)=708*i+708 by omega,mK];exact S5 i7 v8 up (cO _) (HF (cO N) i6 (iR _)) (iR _)
 obtain ⟨f1,⟨f2,f3⟩,N,f4,f5,f6⟩:=Zi ws.length (Nat.le_refl _);have hi4:=cD h4;rw [show ((4:Nat):Rat)=4 from rfl] at hi4;have PA:(0:Rat)≤(ws.length:Rat):=cD (Nat.zero_le _);rw [List.take_of_length_le (by omega)] at f5 f6;have hT:eE ((a:Int),(b:Int),fs,ss,hs) ws=some (aW (rM (a:Int) (b:Int) fs ss hs ws) ws.length,true):=by
  have ur:fin (aW (rM (a:Int) (b:Int) fs ss hs ws) ws.length)=true:=DA f1.1 (by omega) (by omega);unfold eE;simp only [hL,Option.bind_some,Bool.not_true,cond_false,vN (xs:=rM (a:Int) (b:Int) fs ss hs ws) (by omega),DZ,hlen,ur,cond_true]
 have hP:=HF (cO N) f5 (iR _);have l2:=l.m.ls;have l3:=l.m.lh;have l1:=l.m.lf;have aa:a*a≤4*4:=Nat.mul_le_mul l.a4 l.a4;have ab:a*b≤4*4:=Nat.mul_le_mul l.a4 (by have:=l.m.k2;omega);have a4:=l.a4;obtain ⟨r,s1,s2⟩:=Km (x0_0:=(a:Int)) (x0_1:=(b:Int)) (x0_2:=fs) (x0_3:=ss) (x0_4:=hs) (x1_0:=ws) (by omega) (by omega) (by omega) ⟨by omega,hh⟩;rw [hT] at s2;injection s2 with s2;refine ⟨_,_,hL,hlen,fun i hi=>by rw [NW i (by omega)];exact (V i (by omega)).2.1,hT,by rw [s2];exact s1,f1,⟨by grind,by grind⟩,N,f4.mono ?_,?_,?_⟩;have:=Rat.mul_le_mul_of_nonneg_right hi4 (show 0≤5*tZ k0+1/20000 by grind);grind;refine Rat.le_trans f5 (Rat.mul_le_mul_of_nonneg_left (vX (by omega)) hP);have up:cp^(N+5*(ws.length:Int))≤cp^(N+20):=by
  obtain ⟨k,hk⟩:=Nat.le.dest (show 5*ws.length≤20 by omega);rw [show N+20=N+5*(ws.length:Int)+(k:Int) by omega];exact Jd ..
 have c1:=Rat.mul_le_mul_of_nonneg_right up (show 0≤rp (708*ws.length) by have:=iR (708*ws.length);grind);have c2:=Rat.mul_le_mul_of_nonneg_left (vX (show 708*ws.length≤2832 by omega)) (Rat.le_of_lt (cO (N+20)));exact Rat.le_trans f6 (Rat.le_trans c1 c2)
end
end Go.Proofs
namespace Go.Proofs
open Go.Ide Go.IntWalk
section
variable {a b:Nat} {h s:Nat→Nat→Rat}
theorem Qk (a b:Nat)(h s:Nat→Nat→Rat)(i:Nat): ∀(w:List Nat) (r:Nat→Rat),(∀c∈w,c<b)→ak (fun j=>cS a h s r w i j) a=ak (fun k=>cH a h s r w i k) b
 |[],r,_=>by
  have z: ∀n,ak (fun _=>(0:Rat)) n=0:=fun n=>by
   induction n with
   |zero=>rfl
   |succ n ih=>show ak (fun _=>(0:Rat)) n+0=0;rw [ih];grind
  show ak (fun _=>(0:Rat)) a=ak (fun _=>(0:Rat)) b;rw [z,z]
 |c::w,r,hw=>by
  have hc:c<b:=hw c (List.mem_cons_self ..);have ih:=Qk a b h s i w (qw a h s r c) fun c hc=>hw c (List.mem_cons_of_mem _ hc);show ak (fun j=>r i*h i c*s i j*cV a h s w j+cS a h s (qw a h s r c) w i j) a=ak (fun k=>(if k=c then r i*cV a h s (c::w) i else 0)+cH a h s (qw a h s r c) w i k) b;rw [Cg (fun j=>r i*h i c*s i j*cV a h s w j),Cg (fun k=>if k=c then r i*cV a h s (c::w) i else 0),ih,tN (g:=fun _=>r i*cV a h s (c::w) i) b hc]
  congr 1
  show _=r i*ak (fun j=>h i c*s i j*cV a h s w j) a;rw [jZ];exact aD a fun j _=>by grind
theorem Ni {f:Nat→Rat}{ws:List (List Nat)}(hw: ∀w∈ws,∀c∈w,c<b)(i:Nat):ak (tS a f h s ws i) a=ak (tH a f h s ws i) b:=by
 have e1:ak (tS a f h s ws i) a=dL (fun w=>ak (fun k=>cS a h s f w i k/fc a f h s w) a) ws:=(ly (fun w k=>cS a h s f w i k/fc a f h s w) a ws).symm;have e2:ak (tH a f h s ws i) b=dL (fun w=>ak (fun k=>cH a h s f w i k/fc a f h s w) b) ws:=(ly (fun w k=>cH a h s f w i k/fc a f h s w) b ws).symm;rw [e1,e2];refine mM ws fun w hm=> ?_;have c:=Qk a b h s i w f (hw w hm);have d1:ak (fun k=>cS a h s f w i k/fc a f h s w) a=ak (fun k=>cS a h s f w i k) a*(fc a f h s w)⁻¹:=by
  rw [b8];exact aD a fun k _=>Rat.div_def ..
 have d2:ak (fun k=>cH a h s f w i k/fc a f h s w) b=ak (fun k=>cH a h s f w i k) b*(fc a f h s w)⁻¹:=by
  rw [b8];exact aD b fun k _=>Rat.div_def ..
 rw [d1,d2,c]
end
theorem ry {cnt old:List Nat}{w n:Nat}(h1:cnt.length=n*w)(h2:old.length=n*w): ∀i,i≤n→ ∀p j,p<i→j<w→(bP cnt old w i).getD (p*w+j) 0=(fm (bT cnt w p) (bT old w p)).getD j 0
 |0,_,p,j,hp,_=>absurd hp (Nat.not_lt_zero p)
 |i+1,hi,p,j,hp,hj=>by
  have l1:=bo h1 (show i<n by omega);have l2:=bo h2 (show i<n by omega);have l3:=jK h1 h2 i (by omega);rw [bP,om,l3];by_cases e:p<i;have P0:p*w+w≤i*w:=by rw [←Nat.succ_mul];exact Nat.mul_le_mul_right _ e
  rw [if_pos (by omega)];exact ry h1 h2 i (by omega) p j e hj;have:p=i:=by omega
  subst this;rw [if_neg (by omega),Nat.add_sub_cancel_left]
theorem Nj {xs ys:List Nat}(hl:xs.length=ys.length)(h: ∀j,j<xs.length→xs.getD j 0=ys.getD j 0):xs=ys:=by
 refine List.ext_getElem hl fun j h1 h2=> ?_;have:=h j h1;rw [List.getD_eq_getElem?_getD,List.getElem?_eq_getElem h1,List.getD_eq_getElem?_getD,List.getElem?_eq_getElem h2] at this;exact this
theorem rA {cnt old:List Nat}{w n i:Nat}(h1:cnt.length=n*w)(h2:old.length=n*w)(hi:i<n):bT (bP cnt old w n) w i=fm (bT cnt w i) (bT old w i):=by
 have l1:=bo h1 hi;have l2:=bo h2 hi;have l3:=jK h1 h2 n (Nat.le_refl _);have l4:=bo l3 hi;have l5:=tQ (cnt:=bT cnt w i) (old:=bT old w i) (by omega);refine Nj (by omega) fun j hj=> ?_;rw [dg l3 hi (by omega),ry h1 h2 n (Nat.le_refl _) i j hi (by omega)]
section
variable {a b:Nat} {fs ss hs:List Nat}
theorem Zj (g:mg a b fs ss hs):Qd (1/33) a b (fQ fs) (hQ b hs) (sQ a ss):=by
 have d:=g.d;refine ⟨by grind,by grind,fun i hi=> ?_,fun i c hi hc=> ?_,fun i j hi hj=> ?_⟩;exact DP g.gf (by rw [d.m.lf];exact hi) (d.ef i hi);have:=DP (g.gh i hi) (i:=c) (by rw [bo d.m.lh hi];exact hc) (by rw [dg d.m.lh hi hc];exact d.eh i c hi hc);rw [dg d.m.lh hi hc] at this;exact this;have:=DP (g.gs i hi) (i:=j) (by rw [bo d.m.ls hi];exact hj) (by rw [dg d.m.ls hi hj];exact d.es i j hi hj);rw [dg d.m.ls hi hj] at this;exact this
theorem AQ {x:Nat}{k lo:Nat}{p:Rat}(hx:x≤1065353216)(hp:p=((2^k:Nat):Rat))(hk:lo+k=149)(h:1≤wS x*p):Rg lo 149 x:=by
 have hf:x≤2130706432:=by omega
 refine ⟨hf,?_,wb hx⟩;rw [jo hf] at h;have hU:=dH;have e1:US=((2^lo:Nat):Rat)*p:=by rw [MK,←hk,Nat.pow_add,Rat.natCast_mul,hp]
 have pk:0<p:=by rw [hp];exact nD k
 refine Rat.natCast_le_natCast.1 ?_;generalize ((bj x:Nat):Rat)=v at*;generalize ((2^lo:Nat):Rat)=q at*;have e:v/US*US=v:=by grind
 have m1:=Rat.mul_le_mul_of_nonneg_right h (Rat.le_of_lt hU);rw [show v/US*p*US=v/US*US*p by grind,e,e1] at m1;refine Rat.le_of_mul_le_mul_right (c:=p) ?_ pk;grind
theorem FN: ∀ws:List (List Nat),uV ws=(ws.length:Rat)
 |[]=>rfl
 |w::ws=>by
  show 1+uV ws=_;rw [FN ws,List.length_cons];grind
theorem Je: ∀(ws:List (List Nat)),(∀w∈ws,w.length≤5)→wa ws≤5*(ws.length:Rat)
 |[],_=>by show (0:Rat)≤5*((0:Nat):Rat);rw [show ((0:Nat):Rat)=0 from rfl];grind
 |w::ws,h=>by
  show (w.length:Rat)+wa ws≤_;have h1:=Je ws fun w hw=>h w (List.mem_cons_of_mem _ hw);have h2:=cD (h w (List.mem_cons_self ..));rw [show ((5:Nat):Rat)=5 from rfl] at h2;rw [List.length_cons];grind
theorem AR {f:Nat→Rat}: ∀n i,i<n→(∀j,j<n→0≤f j)→f i≤ak f n
 |n+1,i,hi,h=>by
  have h0:=jY n fun j hj=>h j (by omega);show f i≤ak f n+f n;by_cases e:i=n;subst e;grind;have:=AR n i (by omega) fun j hj=>h j (by omega);have:=h n (by omega);grind
theorem xu {q T X e:Rat}(hq:0≤q)(hT:0<T)(hn:Nq 2664 (q*T) X)(hX:e*T≤4*X):e*(99997/100000)≤4*q:=by
 obtain ⟨_,n2⟩:=hn;have t:=kt 2664 (by omega);rw [show ((2664:Nat):Rat)=2664 from rfl] at t;have m1:=Rat.mul_le_mul_of_nonneg_left t (Rat.mul_nonneg hq (Rat.le_of_lt hT));have m2:e*T≤4*q*(1+2664*102/10000000000)*T:=by grind
 have m3:=Rat.le_of_mul_le_mul_right m2 hT;grind
theorem Cm {l:List Nat}{i:Nat}(h:i<l.length):l.getD i 0∈l:=by
 rw [List.getD_eq_getElem?_getD,List.getElem?_eq_getElem h];exact List.getElem_mem ..
theorem Nk (g:mg a b fs ss hs){ws:List (List Int)}(h1:1≤ws.length)(h4:ws.length≤4)(hw: ∀i,i<ws.length→bU b (ws.getD i [])∧(ws.getD i []).length≤5∧1≤(ws.getD i []).length):
 ∃wj we eI,fW ((a:Int),(b:Int),fs,ss,hs) ws=some (((a:Int),(b:Int),wj,we,eI),true)∧cu (a:Int) (b:Int) wj we eI=true∧FH (1/3000000) a b (fun c=> ∃w∈ws.map wN,c∈w) wj we eI∧
  ((∀i,i<wj.length→wj.getD i 0≤1065353216)∧(∀i,i<we.length→we.getD i 0≤1065353216)∧ ∀i,i<eI.length→eI.getD i 0≤1065353216)∧
  iS (fc a (fQ fs) (hQ b hs) (sQ a ss)) (ws.map wN)*(1 - 44/35000)≤iS (fc a (fQ wj) (hQ b eI) (sQ a we)) (ws.map wN):=by
 have d:=g.d;have m0:=d.m;have a1:=m0.n1;have a4:=d.a4;have b1:=m0.k1;have b4:=m0.k2;have Kv:=m0.lf;have Dz:=m0.ls;have Bu:=m0.lh;have aa:a*a≤4*4:=Nat.mul_le_mul a4 a4;have ab:a*b≤4*4:=Nat.mul_le_mul a4 b4;have pm:=DW g;have lo:=Zj g;have hf:=fun i (hi:i<a)=>oX g hi;obtain ⟨z,x,y,Z,X,Y,hr,cz,cx,cy,eZ,eX,eY⟩:=Kh g h4 fun i hi=>⟨(hw i hi).1,(hw i hi).2.1⟩;have Zk:(ws.map wN).length=ws.length:=by simp
 have hWm: ∀w∈ws.map wN,(∀c∈w,c<b)∧w.length≤5:=fun w hm=>by
  obtain ⟨v,hv,rfl⟩:=List.mem_map.1 hm;obtain ⟨i,hi,rfl⟩:=List.getElem_of_mem hv;have:=hw i hi;rw [List.getD_eq_getElem?_getD,List.getElem?_eq_getElem hi] at this;exact ⟨AI this.1,by rw [jJ];exact this.2.1⟩
 have HG:=fun w hm=>(hWm w hm).1;obtain ⟨w0,Zl,k0,sY⟩: ∃w∈ws.map wN,∃k,k∈w:=by
  refine ⟨wN (ws.getD 0 []),List.mem_map.2 ⟨_,?_,rfl⟩,(wN (ws.getD 0 [])).getD 0 0,?_⟩;rw [List.getD_eq_getElem?_getD,List.getElem?_eq_getElem h1];exact List.getElem_mem ..;exact Cm (by rw [jJ];exact (hw 0 (by omega)).2.2)
 have Zm:=HG w0 Zl k0 sY;generalize hWg:ws.map wN=W at*;have nL:1≤uV W∧uV W≤4:=by
  rw [FN,Zk];have q1:=cD h1;have q2:=cD h4;exact ⟨q1,q2⟩
 have lL:wa W≤20:=by
  have:=Je W fun w hm=>(hWm w hm).2;rw [Zk] at this;have q2:=cD h4;rw [show ((4:Nat):Rat)=4 from rfl] at q2;grind
 have lF:=fun i (hi:i<a)=>Vv lo pm hf a4 HG hi;have lS:=fun i j (hi:i<a) (hj:j<a)=>Vw lo pm hf a4 HG hi hj;have lH:=fun i k (hi:i<a) (hk: ∃w∈W,k∈w)=>(by obtain ⟨w,hm,hk⟩:=hk;exact Vx lo pm hf a4 HG hi hm hk:1/33*(1/33)*(1/33)≤4*tH a (fQ fs) (hQ b hs) (sQ a ss) W i k);have sH: ∀i,i<a→1/143748≤ak (tH a (fQ fs) (hQ b hs) (sQ a ss) W i) b∧ak (tH a (fQ fs) (hQ b hs) (sQ a ss) W i) b≤20:=fun i hi=>by
  have o1:=AR (f:=tH a (fQ fs) (hQ b hs) (sQ a ss) W i) b k0 Zm fun j _=>MY pm hf HG hi;have o2:=lH i k0 hi ⟨w0,Zl,sY⟩;have o3:=AR (f:=fun i=>ak (tH a (fQ fs) (hQ b hs) (sQ a ss) W i) b) a i hi fun j hj=>jY b fun k _=>MY pm hf HG hj;rw [MX pm hf HG] at o3;constructor<;>grind
 have zl:=cz.len;have xl:=cx.len;have yl:=cy.len;obtain ⟨f1,f2,f3,f4,f5⟩:=DY (xs:=z) (X:=Z) (d:=1/150000) (lo:=131) (by omega) (by omega) (by omega) (fun i hi=>by
  refine ⟨cz.fin i (by omega),cz.hi i (by omega),cz.AF i (by omega),.inr ?_⟩;rw [eZ i (by omega)];have:=lF i (by omega);have:=nL.1;grind) (by grind) (by decide+kernel) ⟨0,by omega,by
  rw [eZ 0 (by omega)];have:=lF 0 (by omega);have:=nL.1;grind⟩
 have SS: ∀p,p<a→_:=fun p hp=>DY (xs:=bT x a p) (X:=fun j=>X (p*a+j)) (d:=1/22500000000) (lo:=114) (by rw [bo xl hp];omega) (by omega) (by omega) (fun i hi=>by
  rw [bo xl hp] at hi;rw [dg xl hp hi];have hc:=jg hp hi;refine ⟨cx.fin _ hc,cx.hi _ hc,cx.AF _ hc,.inr ?_⟩;show 1/22500000000≤X (p*a+i);rw [eX,(fo hi).1,(fo hi).2];have l1:=lS p i hp hi;have l2:=(sH p hp).1;rw [Ni HG] at l1;grind) (by grind) (by decide+kernel) ⟨0,by rw [bo xl hp];omega,by
  show X (p*a+0)≠0;rw [eX,(fo a1).1,(fo a1).2];have l1:=lS p 0 hp a1;have l2:=(sH p hp).1;rw [Ni HG] at l1;grind⟩
 have HH: ∀p,p<a→_:=fun p hp=>DY (xs:=bT y b p) (X:=fun j=>Y (p*b+j)) (d:=1/150000) (lo:=131) (by rw [bo yl hp];omega) (by omega) (by omega) (fun i hi=>by
  rw [bo yl hp] at hi;rw [dg yl hp hi];have hc:=jg hp hi;refine ⟨cy.fin _ hc,cy.hi _ hc,cy.AF _ hc,?_⟩;show Y (p*b+i)=0∨1/150000≤Y (p*b+i);rw [eY,(fo hi).1,(fo hi).2];by_cases e: ∃w∈W,i∈w;right;have:=lH p i hp e;grind;left;exact I1 fun w hm hk=>e ⟨w,hm,hk⟩) (by grind) (by decide+kernel) ⟨k0,by rw [bo yl hp];omega,by
  show Y (p*b+k0)≠0;rw [eY,(fo Zm).1,(fo Zm).2];have:=lH p k0 hp ⟨w0,Zl,sY⟩;grind⟩
 have eF:fm z fs=dp z (aW z z.length):=by unfold fm;rw [f1];rfl
 have eS: ∀p,p<a→fm (bT x a p) (bT ss a p)=dp (bT x a p) (aW (bT x a p) (bT x a p).length):=fun p hp=>by unfold fm;rw [(SS p hp).1];rfl
 have eH: ∀p,p<a→fm (bT y b p) (bT hs b p)=dp (bT y b p) (aW (bT y b p) (bT y b p).length):=fun p hp=>by unfold fm;rw [(HH p hp).1];rfl
 have lF':(fm z fs).length=a:=by rw [tQ (by omega)];omega
 have lS':(bP x ss a a).length=a*a:=jK xl Dz a (Nat.le_refl _);have lH':(bP y hs b a).length=a*b:=jK yl Bu a (Nat.le_refl _);have gS: ∀p j,p<a→j<a→(bP x ss a a).getD (p*a+j) 0=(dp (bT x a p) (aW (bT x a p) (bT x a p).length)).getD j 0:=fun p j hp hj=>by
  rw [ry xl Dz a (Nat.le_refl _) p j hp hj,eS p hp]
 have gH: ∀p j,p<a→j<b→(bP y hs b a).getD (p*b+j) 0=(dp (bT y b p) (aW (bT y b p) (bT y b p).length)).getD j 0:=fun p j hp hj=>by
  rw [ry yl Bu a (Nat.le_refl _) p j hp hj,eH p hp]
 have ja:cu (a:Int) (b:Int) (fm z fs) (bP x ss a a) (bP y hs b a)=true:=by
  unfold cu;rw [mo (by rw [←Int.natCast_mul];omega),←Int.natCast_mul,mo (by rw [←Int.natCast_mul];omega),←Int.natCast_mul];simp only [Bool.and_eq_true,decide_eq_true_eq,beq_iff_eq,ai,Int.toNat_natCast];refine ⟨⟨by omega,by omega⟩,⟨by omega,by omega⟩,by omega,by omega,by omega,by rw [eF];exact f2,df.2 fun i _ hi=> ?_,df.2 fun i _ hi=> ?_⟩;rw [rA xl Dz (by omega),eS i (by omega)];exact (SS i (by omega)).2.1;rw [rA yl Bu (by omega),eH i (by omega)];exact (HH i (by omega)).2.1
 obtain ⟨a',b',WU,ke,mm⟩:=qg ja;have ea:a'=a:=by omega
 have eb:b'=b:=by omega
 subst ea eb;have vF: ∀i,i<a'→fQ (fm z fs) i=wS ((dp z (aW z z.length)).getD i 0):=fun i _=>by unfold fQ;rw [eF]
 have vS: ∀p j,p<a'→j<a'→sQ a' (bP x ss a' a') p j=wS ((dp (bT x a' p) (aW (bT x a' p) (bT x a' p).length)).getD j 0):=fun p j hp hj=>by unfold sQ;rw [gS p j hp hj]
 have vH: ∀p j,p<a'→j<b'→hQ b' (bP y hs b' a') p j=wS ((dp (bT y b' p) (aW (bT y b' p) (bT y b' p).length)).getD j 0):=fun p j hp hj=>by unfold hQ;rw [gH p j hp hj]
 have tF1:ak Z z.length=ak (tF a' (fQ fs) (hQ b' hs) (sQ a' ss) W) a':=by rw [zl];exact aD _ fun i hi=>eZ i hi
 have tS1: ∀p,p<a'→ak (fun j=>X (p*a'+j)) (bT x a' p).length=ak (tS a' (fQ fs) (hQ b' hs) (sQ a' ss) W p) a':=fun p hp=>by
  rw [bo xl hp];exact aD _ fun j hj=>by rw [eX,(fo hj).1,(fo hj).2]
 have tH1: ∀p,p<a'→ak (fun j=>Y (p*b'+j)) (bT y b' p).length=ak (tH a' (fQ fs) (hQ b' hs) (sQ a' ss) W p) b':=fun p hp=>by
  rw [bo yl hp];exact aD _ fun j hj=>by rw [eY,(fo hj).1,(fo hj).2]
 have nF: ∀i,i<a'→Nq 2664 (fQ (fm z fs) i*ak (tF a' (fQ fs) (hQ b' hs) (sQ a' ss) W) a') (tF a' (fQ fs) (hQ b' hs) (sQ a' ss) W i):=fun i hi=>by
  have:=(f5 i (by omega)).2.2;rw [tF1,eZ i hi] at this;rw [vF i hi];exact this
 have nS: ∀p j,p<a'→j<a'→Nq 2664 (sQ a' (bP x ss a' a') p j*ak (tS a' (fQ fs) (hQ b' hs) (sQ a' ss) W p) a') (tS a' (fQ fs) (hQ b' hs) (sQ a' ss) W p j):=fun p j hp hj=>by
  have:=((SS p hp).2.2.2.2 j (by rw [bo xl hp];exact hj)).2.2;rw [tS1 p hp,eX,(fo hj).1,(fo hj).2] at this;rw [vS p j hp hj];exact this
 have nH: ∀p j,p<a'→j<b'→Nq 2664 (hQ b' (bP y hs b' a') p j*ak (tH a' (fQ fs) (hQ b' hs) (sQ a' ss) W p) b') (tH a' (fQ fs) (hQ b' hs) (sQ a' ss) W p j):=fun p j hp hj=>by
  have:=((HH p hp).2.2.2.2 j (by rw [bo yl hp];exact hj)).2.2;rw [tH1 p hp,eY,(fo hj).1,(fo hj).2] at this;rw [vH p j hp hj];exact this
 have cF: ∀i,i<a'→(fm z fs).getD i 0≤1065353216:=fun i hi=>by rw [eF];exact (f5 i (by omega)).1
 have cS: ∀p j,p<a'→j<a'→(bP x ss a' a').getD (p*a'+j) 0≤1065353216:=fun p j hp hj=>by rw [gS p j hp hj];exact ((SS p hp).2.2.2.2 j (by rw [bo xl hp];exact hj)).1
 have Zn: ∀p j,p<a'→j<b'→(bP y hs b' a').getD (p*b'+j) 0≤1065353216:=fun p j hp hj=>by rw [gH p j hp hj];exact ((HH p hp).2.2.2.2 j (by rw [bo yl hp];exact hj)).1
 have qF: ∀i,i<a'→1/150000≤fQ (fm z fs) i:=fun i hi=>by
  have sl:=xu (e:=1/33*(1/33)*(1/33)) (cT (x:=(fm z fs).getD i 0) (by have:=cF i hi;omega)) (by rw [Hx pm hf HG];have:=nL.1;grind) (nF i hi) (by rw [Hx pm hf HG];exact lF i hi);show 1/150000≤wS ((fm z fs).getD i 0);grind
 have qS: ∀p j,p<a'→j<a'→1/150000≤sQ a' (bP x ss a' a') p j:=fun p j hp hj=>by
  have sl:=xu (e:=1/33*(1/33)*(1/33)) (cT (x:=(bP x ss a' a').getD (p*a'+j) 0) (by have:=cS p j hp hj;omega)) (by rw [Ni HG];have:=(sH p hp).1;grind) (nS p j hp hj) (lS p j hp hj);show 1/150000≤wS ((bP x ss a' a').getD (p*a'+j) 0);grind
 have qH: ∀p j,p<a'→j<b'→(∃w∈W,j∈w)→1/3000000≤hQ b' (bP y hs b' a') p j:=fun p j hp hj hex=>by
  have sl:=xu (e:=1/33*(1/33)*(1/33)/20) (cT (x:=(bP y hs b' a').getD (p*b'+j) 0) (by have:=Zn p j hp hj;omega)) (by have:=(sH p hp).1;grind) (nH p j hp hj) (by
   have l1:=lH p j hp hex;have l2:=(sH p hp).2;grind)
  show 1/3000000≤wS ((bP y hs b' a').getD (p*b'+j) 0);grind
 have VD: ∀{c i:Nat},0<c→i<a'*c→i/c<a'∧i%c<c∧i/c*c+i%c=i:=fun {c i} hc hi=>⟨Nat.div_lt_of_lt_mul (by rwa [Nat.mul_comm]),Nat.mod_lt _ hc,Nat.div_add_mod' _ _⟩;refine ⟨fm z fs,bP x ss a' a',bP y hs b' a',?_,ja,⟨mm,a4,fun i hi=> ?_,fun p j hp hj=> ?_,fun p j hp hj hex=>⟨?_,qH p j hp hj hex⟩,?_,fun p hp=> ?_⟩,⟨fun i hi=>cF i (by omega),fun i hi=> ?_,fun i hi=> ?_⟩,?_⟩;have hh: ∀v∈ws,v.length≤4294967296:=fun v hv=>by
  obtain ⟨i,hi,rfl⟩:=List.getElem_of_mem hv;have:=(hw i hi).2.1;rw [List.getD_eq_getElem?_getD,List.getElem?_eq_getElem hi] at this;have e:(ws[i]:List Int).length≤5:=this;omega
 unfold fW dK;simp only [ai,Kv,Dz,Bu,Int.toNat_natCast,ru (ws:=ws) (by omega) hh,Jc d.ok m0 h1 (by omega) (fun i hi=>⟨(hw i hi).1,by have:=(hw i hi).2.1;omega⟩),Option.bind_some,Bool.not_true,cond_false];rw [guard_pos ⟨by omega,by omega⟩,guard_pos ⟨by omega,by omega⟩,guard_pos ⟨by omega,by omega⟩];simp only [Option.bind_some];rw [hr];simp only [Option.bind_some,FA m0 zl xl yl,ja,cond_true];refine (AQ (k:=18) (lo:=131) (p:=262144) (cF i hi) rfl (by omega) ?_).mono (by omega) (by omega);have:=qF i hi;unfold fQ at this;grind;refine (AQ (k:=18) (lo:=131) (p:=262144) (cS p j hp hj) rfl (by omega) ?_).mono (by omega) (by omega);have:=qS p j hp hj;unfold sQ at this;grind;refine (AQ (k:=22) (lo:=127) (p:=4194304) (Zn p j hp hj) rfl (by omega) ?_).mono (by omega) (by omega);have:=qH p j hp hj hex;unfold hQ at this;grind;rw [eF,←zl];exact f4;have:=(SS p hp).2.2.2.1;rw [bo xl hp] at this;rw [aD a' (g:=fun j=>wS ((dp (bT x a' p) (aW (bT x a' p) (bT x a' p).length)).getD j 0)) fun j hj=>by rw [gS p j hp hj],bo xl hp];exact this;obtain ⟨q1,q2,q3⟩:=VD (c:=a') (i:=i) (by omega) (by omega);rw [←q3];exact cS _ _ q1 q2;obtain ⟨q1,q2,q3⟩:=VD (c:=b') (i:=i) (by omega) (by omega);rw [←q3];exact Zn _ _ q1 q2;have E:=em (f':=fQ (fm z fs)) (h':=hQ b' (bP y hs b' a')) (s':=sQ a' (bP x ss a' a')) (D1:=rp 2664) (D2:=rp 72) (eta:=1/35000) pm hf HG (fun i hi=>by have:=qF i hi;grind)
  (fun i hi w hm c hc=>by have:=qH i c hi (HG w hm c hc) ⟨w,hm,hc⟩;grind) (fun i j hi hj=>by have:=qS i j hi hj;grind)
  (fun i hi=>by have:=(nF i hi).2;grind) (fun i k hi hk=>by have:=(nH i k hi hk).2;grind) (fun i j hi hj=>by have:=(nS i j hi hj).2;grind)
  (by have:=(oW g.gf Kv d.ef).1;unfold fQ;grind)
  (fun i hi=>by
   have:=(oW (g.gh i hi) (bo Bu hi) (fun j hj=>by rw [dg Bu hi hj];exact d.eh i j hi hj)).1;rw [aD b' (g:=hQ b' hs i) fun j hj=>by rw [dg Bu hi hj];rfl] at this;grind)
  (fun i hi=>by
   have:=(oW (g.gs i hi) (bo Dz hi) (fun j hj=>by rw [dg Dz hi hj];exact d.es i j hi hj)).1;rw [aD a' (g:=sQ a' ss i) fun j hj=>by rw [dg Dz hi hj];rfl] at this;grind)
  (by have:=iR 2664;grind) (by
   have t:=kt (2664+72) (by omega);rw [mK,show ((2664+72:Nat):Rat)=2736 from rfl] at t;unfold ep;grind)
 refine Rat.le_trans ?_ E;have P:=tO (g:=fc a' (fQ fs) (hQ b' hs) (sQ a' ss)) W fun w hm=>gG pm hf (HG w hm);have q:1 - 44/35000≤1 - (uV W+2*wa W)*(1/35000):=by have:=nL.2;grind
 exact Rat.mul_le_mul_of_nonneg_left q (Rat.le_of_lt P)
end
end Go.Proofs
namespace Go.Proofs
open Go.Ide Go.IntWalk
theorem Jf:FD 4576918229304087675∧wD 4576918229304087675=5764607523034235/576460752303423488:=
 ⟨lu (by omega),by rw [ri (c:=5764607523034235) (d:=576460752303423488) (by omega) (by omega) (by decide+kernel)];rfl⟩
theorem Nl {T T':Nat}(hT:FS T)(hT':FS T')(b:Bd 400 (wS T))(b':Bd 400 (wS T'))(u:wS T≤3/1000)(h:wS T≤wS T'+9/1000):
 aX .f64 (bD .f32 .f64 T') (av .sub .f64 (bD .f32 .f64 T) (av .mul .f64 4576918229304087675 (av .sub .f64 4607182418800017408 (bD .f32 .f64 T))))=false:=by
 obtain ⟨x1,x2⟩:=b;obtain ⟨y1,y2⟩:=b';obtain ⟨f1,f2,f3⟩:=YW (e:=400) hT (by grind) (by grind) x1 x2;obtain ⟨g1,g2,g3⟩:=YW (e:=400) hT' (by grind) (by grind) y1 y2;have h1:=nk;have hc:=Jf.2;obtain ⟨s1,s2,s3⟩:=My (e:=402) vW f1 (by grind) (by grind) (by rw [h1];grind) (by rw [h1];grind);rw [h1] at s2 s3;obtain ⟨m1,m2,m3⟩:=Fv (e:=5) Jf.1 s1 (by grind) (by grind) (by rw [hc];grind) (by rw [hc];grind);rw [hc] at m2 m3;obtain ⟨t1,t2,t3⟩:=My (e:=410) f1 m1 (by grind) (by grind) (by grind) (by grind);rw [MC g1 t1];exact decide_eq_false (by grind)
theorem Pq {L L':Rat}{N N':Int}(h1:cp^N≤L*rp 2832)(h2:L'≤cp^(N'+20)*rp 2832)(h3:L*(1 - 44/35000)≤L'):(N:Rat)*ep≤(N':Rat)*ep+133/100000:=by
 have R:=iR 2832;have t:=kt (2832+2832) (by omega);rw [show ((2832+2832:Nat):Rat)=5664 from rfl,mK] at t;have hB:=cO (N'+20);have k1:cp^N*(1 - 44/35000)≤cp^(N'+20)*(rp 2832*rp 2832):=by
  have a:=Rat.mul_le_mul_of_nonneg_right h1 (show (0:Rat)≤1 - 44/35000 by grind);have b:=Rat.mul_le_mul_of_nonneg_right (Rat.le_trans h3 h2) (show 0≤rp 2832 by grind);grind
 have k2:=Rat.mul_le_mul_of_nonneg_left t (Rat.le_of_lt hB);have k3:cp^N≤cp^(N'+20)*(1+1318/1000000):=by
  generalize cp^N=x at*;generalize cp^(N'+20)=y at*;have:=Rat.le_trans k1 k2;grind
 have k4:=Rat.mul_le_mul_of_nonneg_right k3 (Rat.le_of_lt (cO (-(N'+20))));have e:cp^(N'+20)*cp^(-(N'+20))=1:=by rw [←Rat.zpow_add kZ,show N'+20+ -(N'+20)=0 by omega,Rat.zpow_zero]
 rw [←Rat.zpow_add kZ,show cp^(N'+20)*(1+1318/1000000)*cp^(-(N'+20))=cp^(N'+20)*cp^(-(N'+20))*(1+1318/1000000) by grind,e] at k4;have b:=Cf (N+ -(N'+20));rw [Rat.intCast_add,Rat.intCast_neg,Rat.intCast_add] at b;have c20:((20:Int):Rat)=20:=rfl;rw [c20] at b;have e20:20*ep≤1/10000000:=by unfold ep;grind
 grind
section
variable {a b:Nat} {h s:Nat→Nat→Rat}
theorem Nm {r:Rat}(r0:0≤r)(hs: ∀i,i<a→ak (s i) a≤r)(s0: ∀i j,i<a→j<a→0≤s i j)(hh: ∀i c,i<a→c<b→0≤h i c∧h i c≤1): ∀(w:List Nat),(∀c∈w,c<b)→ ∀i,i<a→cV a h s w i≤r^w.length
 |[],_,i,_=>by show (1:Rat)≤r^0;rw [Rat.pow_zero];exact Rat.le_refl
 |c::w,hw,i,hi=>by
  have ih:=Nm r0 hs s0 hh w fun c hc=>hw c (List.mem_cons_of_mem _ hc);have hc:=hh i c hi (hw c (List.mem_cons_self ..));have hp:0≤r^w.length:=Rat.pow_nonneg r0;show ak (fun j=>h i c*s i j*cV a h s w j) a≤r^(w.length+1);have h1:ak (fun j=>h i c*s i j*cV a h s w j) a≤ak (fun j=>s i j*r^w.length) a:=gE a fun j hj=>by
   have x:=s0 i j hi hj;have y1:=Rat.mul_le_mul_of_nonneg_left (ih j hj) (Rat.mul_nonneg hc.1 x);have y2:=Rat.mul_le_mul_of_nonneg_right hc.2 (Rat.mul_nonneg x hp);grind
  rw [←b8] at h1;have h2:=Rat.mul_le_mul_of_nonneg_right (hs i hi) hp;rw [Rat.pow_succ];grind
end
theorem Nn (k:Nat): ∀n:Nat,rp k^n=rp (k*n)
 |0=>by rw [Rat.pow_zero];rfl
 |n+1=>by rw [Rat.pow_succ,Nn k n,Nat.mul_succ,mK]
theorem FO {g:List Nat→Rat}{K:Nat}: ∀ws:List (List Nat),(∀w∈ws,0≤g w∧g w≤rp K)→0≤iS g ws∧iS g ws≤rp (K*ws.length)
 |[],_=>by show (0:Rat)≤1∧(1:Rat)≤rp 0;exact ⟨by grind,by show (1:Rat)≤1;grind⟩
 |w::ws,h=>by
  obtain ⟨h1,h2⟩:=FO ws fun w hw=>h w (List.mem_cons_of_mem _ hw);obtain ⟨h3,h4⟩:=h w (List.mem_cons_self ..);have r:=iR K;refine ⟨Rat.mul_nonneg h3 h1,?_⟩;show g w*iS g ws≤rp (K*(ws.length+1));rw [Nat.mul_succ,mK];have a:=Rat.mul_le_mul_of_nonneg_right h4 h1;have b:=Rat.mul_le_mul_of_nonneg_left h2 (show 0≤rp K by grind);grind
section
variable {a b:Nat} {fs ss hs:List Nat}
theorem S6 (g:mg a b fs ss hs){w:List Nat}(hw: ∀c∈w,c<b)(hl:w.length≤5):fc a (fQ fs) (hQ b hs) (sQ a ss) w≤rp 432:=by
 have d:=g.d;have pm:=DW g;have lo:=Zj g;have r1:=iR 72;have up:=Nm (a:=a) (b:=b) (h:=hQ b hs) (s:=sQ a ss) (r:=rp 72) (by grind) (fun i hi=>by
  have:=(oW (g.gs i hi) (bo d.m.ls hi) (fun j hj=>by rw [dg d.m.ls hi hj];exact d.es i j hi hj)).1;rw [aD a (g:=sQ a ss i) fun j hj=>by rw [dg d.m.ls hi hj];rfl] at this;grind) (fun i j hi hj=>Rat.le_of_lt (pm.s0 i j hi hj)) (fun i c hi hc=>⟨Rat.le_of_lt (pm.h0 i c hi hc),(lo.h0 i c hi hc).2⟩) w hw
 rw [Nn] at up;have h1:fc a (fQ fs) (hQ b hs) (sQ a ss) w≤ak (fun i=>fQ fs i*rp (72*w.length)) a:=gE a fun i hi=>Rat.mul_le_mul_of_nonneg_left (up i hi) (Rat.le_of_lt (oX g hi));rw [←b8] at h1;have acU:=(oW g.gf d.m.lf d.ef).1;have h2:=Rat.mul_le_mul_of_nonneg_right (show ak (fQ fs) a≤rp 72 by unfold fQ;grind) (show 0≤rp (72*w.length) by have:=iR (72*w.length);grind);rw [←mK] at h2;exact Rat.le_trans h1 (Rat.le_trans h2 (vX (by omega)))
theorem Zo (g:mg a b fs ss hs):FH (1/33) a b (fun _=>True) fs ss hs:=by
 have d:=g.d;have lo:=Zj g;refine ⟨d.m,d.a4,fun i hi=>(d.ef i hi).mono (by omega) (by omega),fun i j hi hj=>(d.es i j hi hj).mono (by omega) (by omega),fun i c hi hc _=>⟨(d.eh i c hi hc).mono (by omega) (by omega),(lo.h0 i c hi hc).1⟩,oW g.gf d.m.lf d.ef,fun p hp=> ?_⟩;have:=oW (g.gs p hp) (bo d.m.ls hp) (fun j hj=>by rw [dg d.m.ls hp hj];exact d.es p j hp hj);rw [aD a (g:=fun j=>wS (ss.getD (p*a+j) 0)) fun j hj=>by rw [dg d.m.ls hp hj]] at this;exact this
theorem HI (g:mg a b fs ss hs){ws:List (List Int)}(h1:1≤ws.length)(h4:ws.length≤4)(hw: ∀i,i<ws.length→bU b (ws.getD i [])∧(ws.getD i []).length≤5∧1≤(ws.getD i []).length):
 ∃T T' wj we eI xs,jC ((a:Int),(b:Int),fs,ss,hs) ws=some (xs,true)∧xs.length=ws.length∧(∀i,i<xs.length→FS (xs.getD i 0))∧eE ((a:Int),(b:Int),fs,ss,hs) ws=some (T,true)∧
  fW ((a:Int),(b:Int),fs,ss,hs) ws=some (((a:Int),(b:Int),wj,we,eI),true)∧cu (a:Int) (b:Int) wj we eI=true∧
  ((∀i,i<wj.length→wj.getD i 0≤1065353216)∧(∀i,i<we.length→we.getD i 0≤1065353216)∧ ∀i,i<eI.length→eI.getD i 0≤1065353216)∧
  eE ((a:Int),(b:Int),wj,we,eI) ws=some (T',true)∧jH ((a:Int),(b:Int),wj,we,eI) ws=some (T',true)∧FS T'∧
  aX .f64 (bD .f32 .f64 T') (av .sub .f64 (bD .f32 .f64 T) (av .mul .f64 4576918229304087675 (av .sub .f64 4607182418800017408 (bD .f32 .f64 T))))=false:=by
 obtain ⟨wj,we,eI,e1,ok',l',E,em⟩:=Nk g h1 h4 hw;have Cc:=fun i (hi:i<ws.length)=>(⟨(hw i hi).1,(hw i hi).2.1⟩:bU b (ws.getD i [])∧(ws.getD i []).length≤5);obtain ⟨xs,T,q1,q2,q3,q4,q5,q6,q7,N,q8,q9,q10⟩:=FM (k0:=5) (Zo g) g.d.ok (by grind) (by decide+kernel) h1 h4 Cc fun _ _ _ _=>trivial;obtain ⟨cE,T',p1,p2,p3,p4,p5,p6,p7,N',p8,p9,p10⟩:=FM (k0:=22) l' ok' (by grind) (by decide+kernel) h1 h4 Cc fun i hi j hj=>by
  have hm:(ws.getD i [])∈ws:=by rw [List.getD_eq_getElem?_getD,List.getElem?_eq_getElem hi];exact List.getElem_mem ..
  refine ⟨wN (ws.getD i []),List.mem_map.2 ⟨_,hm,rfl⟩,?_⟩;have:=Cm (l:=wN (ws.getD i [])) (i:=j) (by rw [jJ];exact hj);rw [xr hj] at this;exact this
 have Zk:(ws.map wN).length=ws.length:=by simp
 have P:=FO (g:=fc a (fQ fs) (hQ b hs) (sQ a ss)) (K:=432) (ws.map wN) fun w hm=>by
  obtain ⟨v,hv,rfl⟩:=List.mem_map.1 hm;obtain ⟨i,hi,rfl⟩:=List.getElem_of_mem hv;have:=Cc i hi;rw [List.getD_eq_getElem?_getD,List.getElem?_eq_getElem hi] at this;exact ⟨Rat.le_of_lt (gG (DW g) (fun i hi=>oX g hi) (AI this.1)),S6 g (AI this.1) (by rw [jJ];exact this.2)⟩
 have LG:=Pq q9 p10 em;have U:(N:Rat)*ep≤5/100000:=by
  have a1:=Rat.le_trans P.2 (vX (show 432*(ws.map wN).length≤1728 by omega));have a2:=Rat.mul_le_mul_of_nonneg_right a1 (show 0≤rp 2832 by have:=iR 2832;grind);rw [←mK] at a2;have t:=kt (1728+2832) (by omega);rw [show ((1728+2832:Nat):Rat)=4560 from rfl] at t;have b:=Cf N;grind
 refine ⟨T,T',wj,we,eI,xs,q1,q2,q3,q4,e1,ok',E,p4,p5,p6,Nl q6 p6 q7 p7 ?_ ?_⟩;obtain ⟨x,y⟩:=q8;have e:tZ 5≤1/10000:=by unfold tZ;rw [show ((5100+513*5:Nat):Rat)=7665 from rfl];grind
 grind;obtain ⟨x,y⟩:=q8;obtain ⟨z,w⟩:=p8;have e:tZ 5≤1/10000:=by unfold tZ;rw [show ((5100+513*5:Nat):Rat)=7665 from rfl];grind
 have e':tZ 22≤19/100000:=by unfold tZ;rw [show ((5100+513*22:Nat):Rat)=16386 from rfl];grind
 grind
end
end Go.Proofs
namespace Go.Proofs
open Go.Ide Go.IntWalk
structure nG (m n:Nat)(xs:List Nat):Prop where
 len:xs.length=n
 ok: ∀k,k<n→xs.getD k 0=0∨Rg 149 (149+m) (xs.getD k 0)
theorem nG.zero (n:Nat):nG 0 n (List.replicate n 0):=by
 refine ⟨by simp,fun k hk=> .inl ?_⟩;rw [List.getD_eq_getElem?_getD,List.getElem?_replicate,if_pos hk];rfl
theorem nG.mono {m m' n:Nat}{xs:List Nat}(h:nG m n xs)(hm:m≤m'):nG m' n xs:=
 ⟨h.len,fun k hk=>(h.ok k hk).imp id fun r=>r.mono (by omega) (by omega)⟩
theorem nG.inc {m n:Nat}{xs:List Nat}(h:nG m n xs)(hm:m≤100){k:Nat}(hk:k<n):nG (m+1) n (xs.set k (av .add .f32 (xs.getD k 0) 1065353216)):=by
 refine ⟨by rw [List.length_set];exact h.len,fun j hj=> ?_⟩;by_cases e:j=k;subst e;rw [nh (by rw [h.len];exact hj)];have hx:xs.getD j 0≤2130706432∧bj (xs.getD j 0)≤2^(149+m):=by
  rcases h.ok j hj with z|r
  rw [z,fx];exact ⟨by omega,Nat.zero_le _⟩;exact ⟨r.fin,r.hi⟩
 obtain ⟨a1,a2,_,_,a5⟩:=DE (b:=149+m) hx.1 (show 1065353216≤2130706432 by omega) (by omega) (by omega) hx.2 (by rw [ud];exact Nat.pow_le_pow_right (by omega) (by omega));exact .inr ⟨a1,by rw [←ud];exact jy (by omega) (by omega) a5,a2⟩;rw [getD_set_ne (fun e'=>e e'.symm)];exact (h.ok j hj).imp id fun r=>r.mono (by omega) (by omega)
theorem Cn {xs:List Nat}: ∀n,(∀i,i<n→xs.getD i 0=0)→aW xs n=0
 |0,_=>rfl
 |n+1,h=>by
  show av .add .f32 (aW xs n) (xs.getD n 0)=0;rw [Cn n fun i hi=>h i (by omega),h n (by omega)];have:=IL (x:=0) (y:=0) (by omega) (by omega);rw [fx] at this;rw [this];exact vG _
theorem AS {m:Nat}{cnt old:List Nat}(hm:m≤24)(h4:cnt.length≤4)(hc: ∀i,i<cnt.length→cnt.getD i 0=0∨Rg 149 (149+m) (cnt.getD i 0))(ho:eU old=true):eU (fm cnt old)=true:=by
 by_cases e: ∃i,i<cnt.length∧cnt.getD i 0≠0;obtain ⟨i,hi,jq⟩:=e;obtain ⟨g1,g2,_⟩:=I6 (ws:=cnt) (lo:=149) h4 (by omega) (by omega) (fun i hi=>(hc i hi).imp id fun r=>r.mono (by omega) (by omega)) ⟨i,hi,((hc i hi).resolve_left jq).mono (by omega) (by omega)⟩;unfold fm;rw [g1];exact g2;have z:=Cn (xs:=cnt) cnt.length fun i hi=>Classical.byContradiction fun hn=>e ⟨i,hi,hn⟩;unfold fm;rw [z,show qI .f32 0 0=false by rw [IM (by omega) (by omega)];exact decide_eq_false (Nat.lt_irrefl _)];exact ho
theorem HJ {ts:List Int}{b c:Int}(h:ts.length≤1000)(hh: ∀i,i<ts.length→b≤ts.getD i 0∧ts.getD i 0≤c):eD ts b c=some true:=by
 unfold eD;have:=iA (f:=dF ts b c) (fun i=>((i:Nat):Int)) (fun _=>true) (Sum.inl ()) (Sum.inr ()) (n:=ts.length) (fun i hi=>by
  unfold dF;obtain ⟨h1,h2⟩:=hh i hi;simp only [ai,nW hi,cond_true,guard_pos (cZ hi),Int.toNat_natCast,cQ hi (show ts.length≤4294967296 by omega)];unfold db;simp only [decide_eq_true h2,decide_eq_true (show ts.getD i 0≥b by omega),cond_true,Option.bind_some,Bool.not_true,cond_false]) (by
  unfold dF;simp only [ai,nX (Nat.le_refl _),cond_false]) ts.length 0 (by omega)
 simp only [Int.natCast_zero] at this;rw [this];have e:gY (fun _=>true) ts.length 0=true:=df.2 fun _ _ _=>rfl;rw [e];rfl
section
variable {a b:Nat} {fs ss hs:List Nat}
theorem No (m:Model a b fs ss hs){ws vs:List (List Int)}{i k:Nat}(hw:bU b (ws.getD i []))(hv:bU a (vs.getD i []))(hl:(ws.getD i []).length≤5)(VI:(vs.getD i []).length=(ws.getD i []).length+1)(hk:k≤60)(z x0 y0:List Nat){x y:List Nat}(hx:nG k (a*a) x)(hy:nG k (a*b) y):
 ∃x' y',rounds (iF ((a:Int),(b:Int),fs,ss,hs) ws vs ((i:Int),z,x0,y0)) ((0:Int),x,y)=some (x',y')∧nG (k+5) (a*a) x'∧nG (k+5) (a*b) y':=by
 have ld:=m.n2;have dU:=m.k2;obtain ⟨r,h1,x',y',rfl,cx,cy⟩:=fM (f:=iF ((a:Int),(b:Int),fs,ss,hs) ws vs ((i:Int),z,x0,y0))
  (fun n st=> ∃(j:Nat) (x y:List Nat),n+j=(ws.getD i []).length∧st=((j:Int),x,y)∧nG (k+j) (a*a) x∧nG (k+j) (a*b) y)
  (fun r=> ∃x' y',r=(x',y')∧nG (k+5) (a*a) x'∧nG (k+5) (a*b) y') (by
   rintro n st ⟨j,x,y,hn,rfl,cx,cy⟩;unfold iF;by_cases hj:j<(ws.getD i []).length;obtain ⟨c,hc,eV⟩:=hw j hj;obtain ⟨p,hp,BQ⟩:=hv j (by omega);obtain ⟨q,hq,yu⟩:=hv (j+1) (by omega);obtain ⟨e1,e2⟩:=oP (a:=a) (b:=b) (by omega) (by omega) BQ eV;obtain ⟨e3,e4⟩:=oP (a:=a) (b:=a) (by omega) (by omega) BQ yu;have e5:al .i64 ((j:Nat):Int) 1=((j+1:Nat):Int):=by rw [ju (by omega)];omega
   have j1:=cZ hj;have j2:=cZ (i:=j) (n:=(vs.getD i []).length) (by omega);have j3:=cZ (i:=j+1) (n:=(vs.getD i []).length) (by omega);have j4:=cZ (i:=p*b+c) (n:=y.length) (by rw [cy.len];exact jg BQ eV);have j5:=cZ (i:=p*a+q) (n:=x.length) (by rw [cx.len];exact jg BQ yu);simp only [Int.toNat_natCast,ai,nW hj,cond_true,e5,hp,hq,hc,e1,e3];rw [guard_pos j1,guard_pos j2,guard_pos j4];simp only [Option.bind_some];rw [guard_pos j3,guard_pos j5];exact .inl ⟨n - 1,_,by omega,rfl,j+1,_,_,by omega,rfl,cx.inc (by omega) (jg BQ yu),cy.inc (by omega) (jg BQ eV)⟩;simp only [Int.toNat_natCast,ai,nX (show (ws.getD i []).length≤j by omega),cond_false];exact .inr ⟨_,rfl,x,y,rfl,cx.mono (by omega),cy.mono (by omega)⟩) (ws.getD i []).length ((0:Int),x,y) ⟨0,x,y,by omega,rfl,hx,hy⟩
 exact ⟨x',y',h1,cx,cy⟩
theorem Pr (d:xW a b fs ss hs){ws vs:List (List Int)}(h1:1≤ws.length)(h4:ws.length≤4)(Tc:vs.length=ws.length)(hw: ∀i,i<ws.length→bU b (ws.getD i [])∧(ws.getD i []).length≤5)(hv: ∀i,i<ws.length→bU a (vs.getD i [])∧(vs.getD i []).length=(ws.getD i []).length+1):
 ∃wj we eI,iP ((a:Int),(b:Int),fs,ss,hs) ws vs=some (((a:Int),(b:Int),wj,we,eI),true)∧cu (a:Int) (b:Int) wj we eI=true:=by
 have m0:=d.m;have a1:=m0.n1;have a4:=d.a4;have b1:=m0.k1;have b4:=m0.k2;have Kv:=m0.lf;have Dz:=m0.ls;have Bu:=m0.lh;have aa:a*a≤4*4:=Nat.mul_le_mul a4 a4;have ab:a*b≤4*4:=Nat.mul_le_mul a4 b4;have hh: ∀v∈ws,v.length≤4294967296:=fun v hv=>by
  obtain ⟨i,hi,rfl⟩:=List.getElem_of_mem hv;have:=(hw i hi).2;rw [List.getD_eq_getElem?_getD,List.getElem?_eq_getElem hi] at this;have e:(ws[i]:List Int).length≤5:=this;omega
 obtain ⟨r,hr,z,x,y,rfl,cz,cx,cy⟩:=fM (f:=kT ((a:Int),(b:Int),fs,ss,hs) ws vs)
  (fun n st=> ∃(i:Nat) (z x y:List Nat),n+i=ws.length∧st=((i:Int),z,x,y)∧nG (5*i) a z∧nG (5*i) (a*a) x∧nG (5*i) (a*b) y)
  (fun r=> ∃z x y,r= .inl (z,x,y)∧nG 20 a z∧nG 20 (a*a) x∧nG 20 (a*b) y) (by
   rintro n st ⟨i,z,x,y,hn,rfl,cz,cx,cy⟩;unfold kT;by_cases hi:i<ws.length;obtain ⟨w1,w2⟩:=hw i hi;obtain ⟨v1,v2⟩:=hv i hi;obtain ⟨p,hp,BQ⟩:=v1 0 (by omega);have e5:al .i64 ((i:Nat):Int) 1=((i+1:Nat):Int):=by rw [ju (by omega)];omega
   have j1:=cZ hi;have j2:=cZ (i:=i) (n:=vs.length) (by omega);have j3:(0:Int)≤0∧(0:Int)<((vs.getD i []).length:Int):=⟨by omega,by omega⟩;have j4:=cZ (i:=p) (n:=z.length) (by rw [cz.len];exact BQ);have e6:lO .i64 (a:Int) 1=(a:Int) - 1:=xP (by omega);have aw:=HJ (ts:=vs.getD i []) (b:=0) (c:=(a:Int) - 1) (by omega) fun j hj=>by
    obtain ⟨q,hq,yu⟩:=v1 j hj;omega
   have ah:eG ((a:Int),(b:Int),fs,ss,hs) (ws.getD i []) (vs.getD i [])=some true:=by
    unfold eG;simp only [ai,e6,aw,Option.bind_some,v2];rw [ju (by omega),show (((ws.getD i []).length+1:Nat):Int)=((ws.getD i []).length:Int)+1 by omega,beq_self_eq_true];rfl
   obtain ⟨x',y',yb,cx',cy'⟩:=No m0 (k:=5*i) w1 v1 w2 v2 (by omega) z x y cx cy;simp only [ai,Int.toNat_natCast,nW hi,cond_true,ah,Option.bind_some,Bool.not_true,cond_false,Int.toNat_zero,hp,e5];rw [guard_pos j1,guard_pos j2,guard_pos j3,guard_pos j4,yb];exact .inl ⟨n - 1,_,by omega,rfl,i+1,_,_,_,by omega,rfl,(cz.inc (by omega) BQ).mono (by omega),cx'.mono (by omega),cy'.mono (by omega)⟩;simp only [ai,nX (show ws.length≤i by omega),cond_false];exact .inr ⟨_,rfl,z,x,y,rfl,cz.mono (by omega),cx.mono (by omega),cy.mono (by omega)⟩) ws.length ((0:Int),List.replicate a 0,List.replicate (a*a) 0,List.replicate (a*b) 0)
   ⟨0,_,_,_,by omega,rfl,nG.zero a,nG.zero (a*a),nG.zero (a*b)⟩
 have zl:=cz.len;have xl:=cx.len;have yl:=cy.len;have dk:=d.ok;unfold cu at dk;simp only [Bool.and_eq_true,decide_eq_true_eq,beq_iff_eq,Int.toNat_natCast] at dk;obtain ⟨_,_,_,_,_,k1,k2,k3⟩:=dk;have lF':(fm z fs).length=a:=by rw [tQ (by omega)];omega
 have lS':(bP x ss a a).length=a*a:=jK xl Dz a (Nat.le_refl _);have lH':(bP y hs b a).length=a*b:=jK yl Bu a (Nat.le_refl _);have ja:cu (a:Int) (b:Int) (fm z fs) (bP x ss a a) (bP y hs b a)=true:=by
  unfold cu;rw [mo (by rw [←Int.natCast_mul];omega),←Int.natCast_mul,mo (by rw [←Int.natCast_mul];omega),←Int.natCast_mul];simp only [Bool.and_eq_true,decide_eq_true_eq,beq_iff_eq,ai,Int.toNat_natCast];refine ⟨⟨by omega,by omega⟩,⟨by omega,by omega⟩,by omega,by omega,by omega,?_,df.2 fun i _ hi=> ?_,df.2 fun i _ hi=> ?_⟩;exact AS (m:=20) (by omega) (by omega) (fun i hi=>cz.ok i (by omega)) k1;have nr:i<a:=by omega
  rw [rA xl Dz nr];exact AS (m:=20) (by omega) (by rw [bo xl nr];omega) (fun j hj=>by
   rw [bo xl nr] at hj;rw [dg xl nr hj];exact cx.ok _ (jg nr hj)) (df.1 k2 i (by omega) (by omega))
  have nr:i<a:=by omega
  rw [rA yl Bu nr];exact AS (m:=20) (by omega) (by rw [bo yl nr];omega) (fun j hj=>by
   rw [bo yl nr] at hj;rw [dg yl nr hj];exact cy.ok _ (jg nr hj)) (df.1 k3 i (by omega) (by omega))
 refine ⟨fm z fs,bP x ss a a,bP y hs b a,?_,ja⟩;have jq:((ai vs) != (ai ws))=false:=by simp [ai,Tc]
 unfold iP dK;simp only [jq,ru (ws:=ws) (by omega) hh,Jc d.ok m0 h1 (by omega) (fun i hi=>⟨(hw i hi).1,by have:=(hw i hi).2;omega⟩),Option.bind_some,Bool.not_true,cond_false];simp only [ai,Kv,Dz,Bu,Int.toNat_natCast];rw [guard_pos ⟨by omega,by omega⟩,guard_pos ⟨by omega,by omega⟩,guard_pos ⟨by omega,by omega⟩];simp only [Option.bind_some];rw [hr];simp only [Option.bind_some,FA m0 zl xl yl,ja,cond_true]
end
end Go.Proofs
namespace Go.Proofs
open Go.Ide Go.IntWalk
theorem HK {xs:List Int}{x:Int}{i:Nat}:(xs++[x]).getD i 0=if i<xs.length then xs.getD i 0 else if i=xs.length then x else 0:=by
 simp only [List.getD_eq_getElem?_getD];by_cases h:i<xs.length;rw [if_pos h,List.getElem?_append_left h];rw [if_neg h,List.getElem?_append_right (by omega)];by_cases e:i=xs.length;subst e;simp;rw [if_neg e,List.getElem?_eq_none (by simp;omega)];rfl
theorem wg {c:Nat}{xs:List Int}{x:Int}(h:bU c xs)(h0:0≤x)(h1:x<(c:Int)):bU c (xs++[x]):=fun i hi=>by
 rw [HK];split;rename_i h2;exact h i h2;have e:i=xs.length:=by simp at hi;omega
 rw [if_pos e];exact ⟨x.toNat,by omega,by omega⟩
theorem Jg {x:Nat}(h:FS x):gu x x=some true:=by
 have hx:x≠2143289344:=by
  rintro rfl;have:=h.1;unfold bd at this;omega
 obtain ⟨s,m,i,e,_⟩:=Az h;have f:pz .f32 x x=true:=by
  have:FloatKind.f32.format.order x x=some .eq:=uE (f:=Ieee.single) fun a b h=>by rw [e] at h;cases h
  show (FloatKind.f32.format.order x x==some .eq)=true;rw [this];rfl
 unfold gu n9 lZ;simp only [f,Bool.not_true,cond_false,guard_pos hx,Option.bind_some,beq_self_eq_true]
theorem Co {xs:List Nat}(hl:xs.length≤4294967296)(h: ∀i,i<xs.length→FS (xs.getD i 0)):jV xs xs=some true:=by
 have:=bt (f:=kG xs xs) (fun i (_:Unit)=>((i:Nat):Int)) (fun _ s=>s) (fun _=>(.inl ():Unit⊕Unit)) (n:=xs.length) (fun _ _=>True)
  (fun i s hi _=>⟨by
   unfold kG;simp only [ai,nW hi,cond_true,Int.toNat_natCast,guard_pos (cZ hi),Jg (h i hi),Option.bind_some,Bool.not_true,cond_false,cQ hi hl],trivial⟩)
  (fun s _=>by
   unfold kG;simp only [ai,nX (Nat.le_refl _),cond_false]) xs.length 0 () (by omega) trivial
 simp only [Int.natCast_zero] at this;unfold jV;simp only [bne_self_eq_false,cond_false,this.1,Option.bind_some]
theorem Np {x:Nat}(h:x≤1065353216):FS x:=IW (b:=149) (by omega) (wb h) (by omega)
theorem xw {x:Nat}(h:x≤1065353216):fb x x=some true:=by
 have hf:x≤2130706432:=by omega
 refine Kf ?_ ?_;show (Ieee.single.order x x==some .eq)=true;rw [tJ hf hf];simp [compare,compareOfLessAndEq];have:=(Vo hf (wb h) (by omega)).2.1;omega
section
variable {a b:Nat} {fs ss hs:List Nat}
theorem HL {x0 x1:List Int}(b0:rb x0)(b1:rb x1)(ha:1≤a)(hb:1≤b){y4:Int}(h4:al .i64 (2:Int) y4=(b:Int)){k:Nat}(hk:k≤10)(ws vs:List (List Int)){y:Int}(y0:0≤y)(y1:y<(a:Int)):
 ∃w v,rounds (jh x0 x1 y4 ((a:Int),(b:Int),fs,ss,hs) ((k:Int),ws,vs)) ((0:Int),([]:List Int),([y]:List Int))=some (w,v)∧bU b w∧w.length≤5∧1≤w.length∧bU a v∧v.length=w.length+1:=by
 obtain ⟨n,en,n0,n1⟩:=oR b1 (i:=2+(k:Int)) (n:=5) (by omega);obtain ⟨l,hl⟩: ∃l:Nat,n+1=(l:Int):=⟨(n+1).toNat,by omega⟩;have e2:al .i64 (2:Int) (k:Int)=2+(k:Int):=ju (by omega);have e3:al .i64 (1:Int) n=(l:Int):=by rw [ju (by omega)];omega
 obtain ⟨r,hr,w,v,rfl,h⟩:=fM (f:=jh x0 x1 y4 ((a:Int),(b:Int),fs,ss,hs) ((k:Int),ws,vs))
  (fun m st=> ∃(j:Nat) (w v:List Int),m+j=l∧st=((j:Int),w,v)∧w.length=j∧bU b w∧bU a v∧v.length=j+1)
  (fun r=> ∃w v,r=(w,v)∧bU b w∧w.length≤5∧1≤w.length∧bU a v∧v.length=w.length+1) (by
   rintro m st ⟨j,w,v,hm,rfl,hw,lw,lv,hv⟩;unfold jh;simp only [e2,en,Option.bind_some,e3,h4];by_cases hj:j<l;have e5:aU .i64 (5:Int) (k:Int)=5*(k:Int):=mo (by omega);have e6:al .i64 (5*(k:Int)) (j:Int)=5*(k:Int)+(j:Int):=ju (by omega);obtain ⟨p,ep,p0,p1⟩:=oR b0 (i:=5*(k:Int)+(j:Int)) (n:=(b:Int)) (by omega);obtain ⟨q,eq,q0,q1⟩:=oR b1 (i:=5*(k:Int)+(j:Int)) (n:=(a:Int)) (by omega);simp only [nW hj,cond_true,e5,e6,ep,eq,Option.bind_some,cQ hj (show l≤4294967296 by omega)];rw [guard_pos (by simp only [List.length_singleton,bO];omega),guard_pos (by simp only [List.length_singleton,bO];omega)];exact .inl ⟨m - 1,_,by omega,rfl,j+1,_,_,by omega,rfl,by simp;omega,wg lw p0 (by omega),wg lv q0 (by omega),by simp;omega⟩;simp only [nX (show l≤j by omega),cond_false];exact .inr ⟨_,rfl,w,v,rfl,lw,by omega,by omega,lv,by omega⟩) l ((0:Int),([]:List Int),([y]:List Int)) ⟨0,[],[y],by omega,rfl,rfl,fun i hi=>absurd hi (Nat.not_lt_zero i),fun i hi=>by
   have:i=0:=by simp at hi;omega
   subst this;exact ⟨y.toNat,by show y=_;omega,by omega⟩,rfl⟩
 exact ⟨w,v,hr,h⟩
theorem AT {xs:List (List Int)}{x:List Int}{i:Nat}(h:i≤xs.length):(xs++[x]).getD i []=if i<xs.length then xs.getD i [] else x:=by
 simp only [List.getD_eq_getElem?_getD];by_cases h':i<xs.length;rw [if_pos h',List.getElem?_append_left h'];rw [if_neg h',List.getElem?_append_right (by omega),show i - xs.length=0 by omega];rfl
theorem FP {x0 x1:List Int}(b0:rb x0)(b1:rb x1)(ha:1≤a)(hb:1≤b){y4:Int}(h4:al .i64 (2:Int) y4=(b:Int)):
 ∃ws vs,rounds (ji x0 x1 y4 ((a:Int),(b:Int),fs,ss,hs)) ((0:Int),([]:List (List Int)),([]:List (List Int)))=some (ws,vs)∧1≤ws.length∧ws.length≤4∧vs.length=ws.length∧
  ∀i,i<ws.length→bU b (ws.getD i [])∧(ws.getD i []).length≤5∧1≤(ws.getD i []).length∧bU a (vs.getD i [])∧(vs.getD i []).length=(ws.getD i []).length+1:=by
 obtain ⟨n,en,n0,n1⟩:=oR b1 (i:=1) (n:=4) (by omega);obtain ⟨l,hl⟩: ∃l:Nat,n+1=(l:Int):=⟨(n+1).toNat,by omega⟩;have e3:al .i64 (1:Int) n=(l:Int):=by rw [ju (by omega)];omega
 obtain ⟨r,hr,ws,vs,rfl,h⟩:=fM (f:=ji x0 x1 y4 ((a:Int),(b:Int),fs,ss,hs))
  (fun m st=> ∃(k:Nat) (ws vs:List (List Int)),m+k=l∧st=((k:Int),ws,vs)∧ws.length=k∧vs.length=k∧
   ∀i,i<k→bU b (ws.getD i [])∧(ws.getD i []).length≤5∧1≤(ws.getD i []).length∧bU a (vs.getD i [])∧(vs.getD i []).length=(ws.getD i []).length+1)
  (fun r=> ∃ws vs,r=(ws,vs)∧1≤ws.length∧ws.length≤4∧vs.length=ws.length∧
   ∀i,i<ws.length→bU b (ws.getD i [])∧(ws.getD i []).length≤5∧1≤(ws.getD i []).length∧bU a (vs.getD i [])∧(vs.getD i []).length=(ws.getD i []).length+1) (by
   rintro m st ⟨k,ws,vs,hm,rfl,hw,hv,hh⟩;unfold ji;simp only [en,Option.bind_some,e3];by_cases hk:k<l;have e6:al .i64 (20:Int) (k:Int)=20+(k:Int):=ju (by omega);obtain ⟨y,ey,y0,y1⟩:=oR b1 (i:=20+(k:Int)) (n:=(a:Int)) (by omega);obtain ⟨w,v,ew,w1,w2,w3,w4,w5⟩:=HL (fs:=fs) (ss:=ss) (hs:=hs) b0 b1 ha hb h4 (k:=k) (by omega) ws vs y0 (show y<(a:Int) by omega);simp only [nW hk,cond_true,e6,ey,Option.bind_some,ew,cQ hk (show l≤4294967296 by omega)];rw [guard_pos (by simp only [List.length_singleton,bO];omega),guard_pos (by simp only [List.length_singleton,bO];omega)];refine .inl ⟨m - 1,_,by omega,rfl,k+1,_,_,by omega,rfl,by simp;omega,by simp;omega,fun i hi=> ?_⟩;rw [AT (by omega),AT (by omega),hw,hv];by_cases Tv:i<k;rw [if_pos Tv,if_pos Tv];exact hh i Tv;rw [if_neg Tv,if_neg Tv];exact ⟨w1,w2,w3,w4,w5⟩;simp only [nX (show l≤k by omega),cond_false];exact .inr ⟨_,rfl,ws,vs,rfl,by omega,by omega,by omega,fun i hi=>hh i (by omega)⟩) l ((0:Int),([]:List (List Int)),([]:List (List Int))) ⟨0,[],[],by omega,rfl,rfl,rfl,fun i hi=>absurd hi (Nat.not_lt_zero i)⟩
 exact ⟨ws,vs,hr,h⟩
end
theorem FnLearned_law (x0 x1:List Int)(w0:WfD (.sl (.int .u8)) x0)(w1:WfD (.sl (.int .u8)) x1):ma x0 x1=some true:=by
 unfold ma nZ;by_cases c0:ai x0>(1048576:Int);simp only [c0,decide_true,cond_true,Option.bind_some];by_cases c1:ai x1>(1048576:Int);simp only [c0,c1,decide_true,decide_false,cond_true,cond_false,Option.bind_some];simp only [c0,c1,decide_false,cond_false,Option.bind_some];have b0:=B8 w0 (by simp only [ai] at c0;omega);have b1:=B8 w1 (by simp only [ai] at c1;omega);obtain ⟨y4,e4,p1,p2⟩:=oR b1 (i:=0) (n:=2) (by omega);obtain ⟨b,hb,b2,b3⟩: ∃b:Nat,al .i64 (2:Int) y4=(b:Int)∧2≤b∧b≤3:=⟨(2+y4).toNat,by rw [ju (by omega)];omega,by omega,by omega⟩;obtain ⟨a,fs,ss,hs,eM,g⟩:=Ht b0 (b:=b) (by omega) (by omega);have d:=g.d;have m0:=d.m;have a1:=m0.n1;have a4:=d.a4;obtain ⟨ws,vs,eW,h1,h4,Tc,hw⟩:=FP (fs:=fs) (ss:=ss) (hs:=hs) b0 b1 a1 (show 1≤b by omega) hb;obtain ⟨T,T',wj,we,eI,xs,q1,q2,q3,q4,q5,q6,⟨q7,q8,q9⟩,q10,Ix,Rn,q13⟩:=HI g h1 h4 fun i hi=>⟨(hw i hi).1,(hw i hi).2.1,(hw i hi).2.2.1⟩;obtain ⟨ft,st,ht,f1,f2⟩:=Pr d h1 h4 Tc (fun i hi=>⟨(hw i hi).1,(hw i hi).2.1⟩) fun i hi=>⟨(hw i hi).2.2.2.1,(hw i hi).2.2.2.2⟩;obtain ⟨m',l1,l2,l3⟩:=FB q6;obtain ⟨m9,e17,r1,r2⟩:=oR b1 (i:=9) (n:=8) (by omega);have e18:al .i64 (1:Int) m9=1+m9:=ju (by omega);have hh: ∀v∈ws,v.length≤4294967296:=fun v hv=>by
  obtain ⟨i,hi,rfl⟩:=List.getElem_of_mem hv;have:=(hw i hi).2.1;rw [List.getD_eq_getElem?_getD,List.getElem?_eq_getElem hi] at this;have e:(ws[i]:List Int).length≤5:=this;omega
 have aa:a*a≤4*4:=Nat.mul_le_mul a4 a4;have ab:a*b≤4*4:=Nat.mul_le_mul a4 (by omega);have Kv:=m0.lf;have Dz:=m0.ls;have Bu:=m0.lh;have eR:g9 ((a:Int),(b:Int),fs,ss,hs) ws 1=some (((a:Int),(b:Int),wj,we,eI),true):=by
  have rN: ∀{xs:List Nat},xs.length≤1000→cc xs=some xs:=fun h=>by
   unfold cc;rw [guard_pos (by simp only [bO];omega)]
  have s1:fl ws 1 ((0:Int),(a:Int),(b:Int),fs,ss,hs)=some (.inl ((1:Int),(a:Int),(b:Int),wj,we,eI)):=by
   unfold fl;simp only [q5,Option.bind_some,Bool.not_true,cond_false];rfl
  have s2:fl ws 1 ((1:Int),(a:Int),(b:Int),wj,we,eI)=some (.inr (.inl ((a:Int),(b:Int),wj,we,eI))):=rfl;have hr:rounds (fl ws 1) ((0:Int),(a:Int),(b:Int),fs,ss,hs)=some (.inl ((a:Int),(b:Int),wj,we,eI)):=by
   rw [bA,s1];simp only;rw [bA,s2]
  have Pg:db 1 0 32=some true:=rfl;unfold g9;simp only [ru (ws:=ws) (by omega) hh,Jc d.ok m0 h1 (by omega) (fun i hi=>⟨(hw i hi).1,by have:=(hw i hi).2.1;omega⟩),Option.bind_some,Bool.not_true,cond_false,Pg,rN (show fs.length≤1000 by omega),rN (show ss.length≤1000 by omega),rN (show hs.length≤1000 by omega),hr]
 have eS: ∀w:Int,1≤w→w≤8→fF ((a:Int),(b:Int),fs,ss,hs) ws w=some (xs,true):=fun w h1 h8=>by
  have Pg:db w 1 8=some true:=by
   unfold db;simp only [decide_eq_true (show w≥1 from h1),decide_eq_true h8,cond_true,Option.bind_some]
  unfold fF;simp only [Pg,q1,Option.bind_some,Bool.not_true,cond_false]
 have v1:dT ((a:Int),(b:Int),wj,we,eI)=some true:=by
  unfold dT;simp only [tD,q6,Option.bind_some]
 have v2:dT ((a:Int),(b:Int),ft,st,ht)=some true:=by
  unfold dT;simp only [tD,f2,Option.bind_some]
 have sm:jI ((a:Int),(b:Int),wj,we,eI) ((a:Int),(b:Int),wj,we,eI)=some true:=by
  unfold jI;simp only [beq_self_eq_true,cond_true,uU (xs:=wj) (by omega) fun i hi=>xw (q7 i hi),uU (xs:=we) (by omega) fun i hi=>xw (q8 i hi),uU (xs:=eI) (by omega) fun i hi=>xw (q9 i hi),Option.bind_some]
 have ls:=Co (xs:=we) (by omega) fun i hi=>Np (q8 i hi);have lx:=Co (xs:=xs) (by omega) q3;have lne:((ai xs) != (ai ws))=false:=by simp [ai,q2]
 have wk:(1:Int)≤1+m9∧1+m9≤8:=by omega
 simp only [e4,hb,eM,eW,q4,q5,eR,e17,e18,eS _ wk.1 wk.2,eS 1 (by omega) (by omega),f1,Option.bind_some,Bool.not_true,cond_false,v1,bne_self_eq_false,sm,ls,v2,lne,lx,q10,Ix,cond_true,q13,Jg Rn]
end Go.Proofs
