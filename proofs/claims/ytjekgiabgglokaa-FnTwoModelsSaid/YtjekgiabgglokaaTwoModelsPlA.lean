import Derived.Test.YtjekgiabgglokaaTwoModelsGenC
set_option linter.unusedVariables false
set_option linter.unusedSimpArgs false
set_option linter.unusedSectionVars false
namespace Go.Proofs
open Go.Ide Go.IntWalk
end Go.Proofs
namespace Go.Proofs
open Go.Ide Go.IntWalk
theorem ZX (a b c:Int):cr a b c=some (decide (a≥b)&&decide (a≤c)):=by
 unfold cr;cases h:decide (a≥b)<;>simp
theorem zN (a b c:Int):bf a b c=some (decide (a≥b)&&decide (a≤c)):=by
 unfold bf;cases h:decide (a≥b)<;>simp
def w8 (xs:List Int)(b c:Int):Bool:=xs.all fun x=>decide (x≥b)&&decide (x≤c)
theorem BI {xs:List Int}{b c:Int}:w8 xs b c=true↔ ∀i,i<xs.length→b≤xs.getD i 0∧xs.getD i 0≤c:=by
 unfold w8;rw [List.all_eq_true];constructor;intro h i hi;have:=h xs[i] (List.getElem_mem hi);simp only [Bool.and_eq_true,decide_eq_true_eq] at this;rw [List.getD_eq_getElem?_getD,List.getElem?_eq_getElem hi];exact ⟨this.1,this.2⟩;intro h x hx;obtain ⟨i,hi,rfl⟩:=List.getElem_of_mem hx;have:=h i hi;rw [List.getD_eq_getElem?_getD,List.getElem?_eq_getElem hi] at this;simp only [Bool.and_eq_true,decide_eq_true_eq];exact ⟨this.1,this.2⟩
theorem OK (xs:List Int)(b c:Int):iW (fun i=>decide (xs.getD i 0≥b)&&decide (xs.getD i 0≤c)) xs.length 0=w8 xs b c:=by
 rw [Bool.eq_iff_iff,lE,BI];constructor;intro h i hi;have:=h i (by omega) (by omega);simp only [Bool.and_eq_true,decide_eq_true_eq] at this;exact ⟨this.1,this.2⟩;intro h i _ hi;have:=h i (by omega);simp only [Bool.and_eq_true,decide_eq_true_eq];exact ⟨this.1,this.2⟩
theorem E7 {xs:List Int}{b c:Int}(h:xs.length≤4294967296):jx xs b c=some (w8 xs b c):=by
 unfold jx;have:=n9 (f:=jc xs b c) (fun i=>((i:Nat):Int)) (fun i=>decide (xs.getD i 0≥b)&&decide (xs.getD i 0≤c)) (Sum.inl ()) (Sum.inr ()) (n:=xs.length) (fun i hi=>by
  unfold jc;simp only [nL hi,cond_true,guard_pos (eG hi),Int.toNat_natCast,zN,Option.bind_some,cL hi h];cases (decide (xs.getD i 0≥b)&&decide (xs.getD i 0≤c))<;>rfl) (by
  unfold jc;simp only [nM (Nat.le_refl _),cond_false]) xs.length 0 (by omega)
 rw [OK] at this;simp only [Int.natCast_zero] at this;simp only [this,Option.bind_some];cases w8 xs b c<;>rfl
theorem L9 {xs:List Int}{L:Int}(h:xs.length≤4294967296):mO xs L=some ((decide (L≥1)&&decide (L≤4))&&(decide (af xs≤12)&&w8 xs 0 (b8 .i64 L 1))):=by
 unfold mO;rw [zN,E7 h];cases (decide (L≥1)&&decide (L≤4))<;>cases decide (af xs≤12)<;>simp
def mF (c:Nat)(xs:List Int):Prop:= ∀i,i<xs.length→ ∃a:Nat,xs.getD i 0=(a:Int)∧a<c
structure Plain (m c:Nat)(nx:List Int)(es:List Bool):Prop where
 m1:1≤m
 m2:m≤64
 c1:1≤c
 c2:c≤4
 len:nx.length=m*c
 ends:es.length=m
 tos: ∀i,i<m*c→ ∃t:Nat,nx.getD i 0=(t:Int)∧t<m
section
variable {m c:Nat} {nx:List Int} {es:List Bool} (hp:Plain m c nx es)
include hp
end
end Go.Proofs
namespace Go.Proofs
open Go.Ide Go.IntWalk
def share (x:Nat):Bool:=sx .f32 x 0&&pO .f32 x 1065353216
theorem JB (x:Nat):kh x=some (share x):=by
 unfold kh share;cases sx .f32 x 0<;>rfl
theorem Ma {x:Nat}(h:share x=true):bd x 127:=by
 unfold share at h;rw [Bool.and_eq_true] at h;exact Lc h.1 h.2
def sQ (s:Nat):Bool:=pO .f32 (aq .sub .f32 s 1065353216) 981668463&&sx .f32 (aq .sub .f32 s 1065353216) 3129152111
theorem Sf (s:Nat):(dq (aq .sub .f32 s 1065353216)).bind (fun y=>some (pO .f32 y 981668463))=some (sQ s):=by
 unfold sQ;rw [Ld (c:=981668463) (nc:=3129152111) (mc:=8388608+981668463%8388608) (pc:= -149+((981668463/8388608 - 1:Nat):Int)) (by decide) (by decide)];unfold dq;cases aW .f32 (aq .sub .f32 s 1065353216) 0<;>rfl
def cS (xs:List Nat):Nat→Nat
 |0=>0
 |i+1=>aq .add .f32 (cS xs i) (xs.getD i 0)
def hY (xs:List Nat):Bool:=iW (fun i=>share (xs.getD i 0)) xs.length 0&&sQ (cS xs xs.length)
theorem JC (p:Nat→Bool): ∀k i,iW p (k+1) i=(iW p k i&&p (i+k))
 |0,i=>by simp [iW]
 |k+1,i=>by
  rw [iW,JC p k (i+1),iW,show i+1+k=i+(k+1) by omega,Bool.and_assoc]
theorem Dh {xs:List Nat}(h:xs.length≤4294967296):jv xs=some (hY xs):=by
 have hf: ∀k i,i+k=xs.length→rounds (gZ xs) (cS xs i,(i:Int))=some (bif iW (fun i=>share (xs.getD i 0)) k i then .inl (cS xs xs.length) else .inr ()):=by
  intro k;induction k with
  |zero=>
   intro i hi;have:i=xs.length:=by omega
   subst this;rw [bn];have:gZ xs (cS xs xs.length,(xs.length:Int))=some (.inr (.inl (cS xs xs.length))):=by
    unfold gZ;simp only [nM (Nat.le_refl _),cond_false]
   rw [this];rfl
  |succ k ih=>
   intro i hi;have cp:i<xs.length:=by omega
   rw [bn];have:gZ xs (cS xs i,(i:Int))=some (bif share (xs.getD i 0) then .inl (cS xs (i+1),((i+1:Nat):Int)) else .inr (.inr ())):=by
    unfold gZ;simp only [nL cp,cond_true,guard_pos (eG cp),Int.toNat_natCast,JB,Option.bind_some,cL cp h];cases share (xs.getD i 0)<;>rfl
   rw [this,iW];cases hs:share (xs.getD i 0) with
   |true=>exact ih (i+1) (by omega)
   |false=>rfl
 unfold jv hY;have:=hf xs.length 0 (by omega);simp only [cS,Int.natCast_zero] at this;rw [this];unfold sQ;cases iW (fun i=>share (xs.getD i 0)) xs.length 0 with
 |false=>rfl
 |true=>
  simp only [cond_true,Option.bind_some,Bool.true_and];cases pO .f32 (aq .sub .f32 (cS xs xs.length) 1065353216) 981668463<;>rfl
theorem xU {xs:List Nat}(h:xs.length≤4294967296):kN xs=some (cS xs xs.length):=by
 have:=aM (f:=mC xs) (fun i s=>(s,((i:Nat):Int))) (fun i s=>aq .add .f32 s (xs.getD i 0)) id (n:=xs.length) (fun i s=>s=cS xs i)
  (fun i s hi hs=>⟨by
   unfold mC;simp only [nL hi,cond_true,guard_pos (eG hi),Int.toNat_natCast,cL hi h],by rw [hs];rfl⟩)
  (fun s hs=>by
   unfold mC;simp only [nM (Nat.le_refl _),cond_false];rfl) xs.length 0 0 (by omega) rfl
 unfold kN;simp only [Int.natCast_zero] at this;rw [this.1];simp only [id,Option.bind_some,this.2]
theorem OL {xs:List Nat}(h:xs.length≤4294967296):iL xs=some (hY xs):=by
 unfold iL hY;have:=n9 (f:=iy xs) (fun i=>((i:Nat):Int)) (fun i=>share (xs.getD i 0)) (Sum.inl ()) (Sum.inr ()) (n:=xs.length) (fun i hi=>by
  unfold iy;simp only [nL hi,cond_true,guard_pos (eG hi),Int.toNat_natCast,cL hi h];unfold share;cases sx .f32 (xs.getD i 0) 0<;>cases pO .f32 (xs.getD i 0) 1065353216<;>rfl) (by
  unfold iy;simp only [nM (Nat.le_refl _),cond_false]) xs.length 0 (by omega)
 simp only [Int.natCast_zero] at this;rw [this];cases iW (fun i=>share (xs.getD i 0)) xs.length 0 with
 |false=>rfl
 |true=>
  simp only [cond_true,Option.bind_some,Bool.true_and,xU h];exact Sf _
def cz (xs:List Nat)(w i:Nat):List Nat:=(xs.drop (i*w)).take w
theorem dt {xs:List Nat}{w i n:Nat}(h:xs.length=n*w)(hi:i<n):(cz xs w i).length=w:=by
 have:(i+1)*w≤n*w:=Nat.mul_le_mul_right _ hi;rw [Nat.succ_mul] at this;unfold cz;simp;omega
theorem hZ {xs:List Nat}{w i n k:Nat}(h:xs.length=n*w)(hi:i<n)(hk:k<w):(cz xs w i).getD k 0=xs.getD (i*w+k) 0:=by
 unfold cz;simp only [List.getD_eq_getElem?_getD];rw [List.getElem?_take_of_lt hk,List.getElem?_drop]
def gU (n k:Int)(fs ss hs:List Nat):Bool:=
 (decide (n≥1)&&decide (n≤5))&&((decide (k≥1)&&decide (k≤4))&&((af fs==n)&&((af ss==az .i64 n n)&&((af hs==az .i64 n k)&&(hY fs&&
  (iW (fun i=>hY (cz ss n.toNat i)) n.toNat 0&&iW (fun i=>hY (cz hs k.toNat i)) n.toNat 0))))))
theorem E8 (p q:Nat→Bool): ∀k i,iW (fun i=>p i&&q i) k i=(iW p k i&&iW q k i)
 |0,_=>rfl
 |k+1,i=>by
  simp only [iW,E8 p q k (i+1)];cases p i<;>cases q i<;>cases iW p k (i+1)<;>cases iW q k (i+1)<;>rfl
theorem He {xs:List Nat}{w n i:Nat}(hn:n≤1000)(hw:w≤1000)(hi:i<n):cut xs (az .i64 (i:Int) (w:Int)) (ai .i64 (az .i64 (i:Int) (w:Int)) (w:Int))=cz xs w i∧
 az .i64 (i:Int) (w:Int)=((i*w:Nat):Int)∧ai .i64 (az .i64 (i:Int) (w:Int)) (w:Int)=((i*w+w:Nat):Int)∧az .i64 (ai .i64 (i:Int) 1) (w:Int)=((i*w+w:Nat):Int):=by
 have h1:i*w≤1000*1000:=Nat.mul_le_mul (by omega) hw;have h2:(i+1)*w≤1001*1000:=Nat.mul_le_mul (by omega) hw;rw [Nat.succ_mul] at h2;have e1:az .i64 (i:Int) (w:Int)=((i*w:Nat):Int):=by rw [kb (by rw [←Int.natCast_mul];omega),←Int.natCast_mul]
 have e2:ai .i64 ((i*w:Nat):Int) (w:Int)=((i*w+w:Nat):Int):=by rw [lX (by omega)];omega
 have e3:az .i64 (ai .i64 (i:Int) 1) (w:Int)=((i*w+w:Nat):Int):=by
  rw [lX (by omega),show (i:Int)+1=((i+1:Nat):Int) by omega,kb (by rw [←Int.natCast_mul,Nat.succ_mul];omega),←Int.natCast_mul,Nat.succ_mul]
 refine ⟨?_,e1,by rw [e1,e2],e3⟩;rw [e1,e2];unfold cut cz;simp only [Int.toNat_natCast];rw [show i*w+w - i*w=w by omega]
theorem Hf {xs:List Nat}{w n i:Nat}(h:xs.length=n*w)(hi:i<n):i*w+w≤xs.length:=by
 have:(i+1)*w≤n*w:=Nat.mul_le_mul_right _ hi;rw [Nat.succ_mul] at this;omega
theorem zO {xs:List Nat}{n w:Nat}(hn:n≤1000)(hw:w≤1000):iz xs (n:Int) (w:Int)=some ((af xs==az .i64 (n:Int) (w:Int))&&iW (fun i=>hY (cz xs w i)) n 0):=by
 unfold iz;have e:az .i64 (n:Int) (w:Int)=((n*w:Nat):Int):=by
  have:n*w≤1000*1000:=Nat.mul_le_mul hn hw;rw [kb (by rw [←Int.natCast_mul];omega),←Int.natCast_mul]
 cases hl:(af xs==az .i64 (n:Int) (w:Int)) with
 |false=>simp [bne,hl]
 |true=>
  have hlen:xs.length=n*w:=by
   rw [e] at hl;have:=eq_of_beq hl;simp only [af] at this;omega
  have:=n9 (f:=ky xs (n:Int) (w:Int)) (fun i=>((i:Nat):Int)) (fun i=>hY (cz xs w i)) (Sum.inl ()) (Sum.inr ()) (n:=n) (fun i hi=>by
   obtain ⟨c1,c2,c3,c4⟩:=He (xs:=xs) hn hw hi;have FG:=Hf hlen hi;unfold ky bH;rw [c3,c2] at c1;simp only [nL hi,cond_true,c2,c4,c1];rw [guard_pos ⟨by omega,by omega,by omega,by simp only [af];omega⟩];have hr:(cz xs w i).length≤4294967296:=by rw [dt hlen hi];omega
   simp only [Option.bind_some,OL hr,cL hi (by omega)];cases hY (cz xs w i)<;>rfl) (by
   unfold ky;simp only [nM (Nat.le_refl _),cond_false]) n 0 (by omega)
  simp only [Int.natCast_zero] at this;simp only [bne,hl,Bool.not_true,cond_false,this,Option.bind_some,Bool.true_and];cases iW (fun i=>hY (cz xs w i)) n 0<;>rfl
theorem Mb {xs:List Nat}{n:Nat}(h:xs.length=n):cz xs n 0=xs:=by
 unfold cz;rw [Nat.zero_mul,List.drop_zero,←h,List.take_length]
theorem pF {n k:Int}{fs ss hs:List Nat}:cV (n,k,fs,ss,hs)=some (gU n k fs ss hs):=by
 unfold cV gU;simp only [zN,Option.bind_some];cases hn:(decide (n≥1)&&decide (n≤5)) with
 |false=>rfl
 |true=>
  cases hk:(decide (k≥1)&&decide (k≤4)) with
  |false=>rfl
  |true=>
   simp only [Bool.and_eq_true,decide_eq_true_eq] at hn hk;obtain ⟨a,rfl⟩: ∃a:Nat,n=(a:Int):=⟨n.toNat,by omega⟩;obtain ⟨b,rfl⟩: ∃b:Nat,k=(b:Int):=⟨k.toNat,by omega⟩;have e1:=zO (xs:=fs) (n:=1) (w:=a) (by omega) (by omega);have e0:az .i64 ((1:Nat):Int) (a:Int)=(a:Int):=by rw [kb (by omega)];omega
   rw [e0] at e1;have e2:=zO (xs:=ss) (n:=a) (w:=a) (by omega) (by omega);have e3:=zO (xs:=hs) (n:=a) (w:=b) (by omega) (by omega);simp only [Int.natCast_one] at e1;simp only [e1,e2,e3,cond_true,Option.bind_some,Int.toNat_natCast,Bool.true_and];have hr:af fs=(a:Int)→iW (fun i=>hY (cz fs a i)) 1 0=hY fs:=by
    intro h;simp only [iW,Bool.and_true];rw [Mb (by simp only [af] at h;omega)]
   cases h1:(af fs==(a:Int)) with
   |false=>rfl
   |true=>
    rw [hr (eq_of_beq h1)];cases hY fs<;>cases (af ss==az .i64 (a:Int) (a:Int))<;>cases (af hs==az .i64 (a:Int) (b:Int))<;>cases iW (fun i=>hY (cz ss a i)) a 0<;>cases iW (fun i=>hY (cz hs b i)) a 0<;>rfl
theorem wk {n k:Int}{fs ss hs:List Nat}:kR (n,k,fs,ss,hs)=some (gU n k fs ss hs):=by
 unfold kR gU;simp only [ZX,Option.bind_some];cases hn:(decide (n≥1)&&decide (n≤5)) with
 |false=>rfl
 |true=>
  cases hk:(decide (k≥1)&&decide (k≤4)) with
  |false=>rfl
  |true=>
   simp only [Bool.and_eq_true,decide_eq_true_eq] at hn hk;obtain ⟨a,rfl⟩: ∃a:Nat,n=(a:Int):=⟨n.toNat,by omega⟩;obtain ⟨b,rfl⟩: ∃b:Nat,k=(b:Int):=⟨k.toNat,by omega⟩;simp only [bne,Bool.not_true,cond_false,Bool.true_and,Int.toNat_natCast];cases h1:(af fs==(a:Int)) with
   |false=>rfl
   |true=>
    cases h2:(af ss==az .i64 (a:Int) (a:Int)) with
    |false=>rfl
    |true=>
     cases h3:(af hs==az .i64 (a:Int) (b:Int)) with
     |false=>rfl
     |true=>
      have m1:a*a≤5*5:=Nat.mul_le_mul (by omega) (by omega);have m2:a*b≤5*4:=Nat.mul_le_mul (by omega) (by omega);have l1:fs.length=a:=by have:=eq_of_beq h1;simp only [af] at this;omega
      have l2:ss.length=a*a:=by
       have:=eq_of_beq h2;rw [kb (by rw [←Int.natCast_mul];omega),←Int.natCast_mul] at this;simp only [af] at this;omega
      have l3:hs.length=a*b:=by
       have:=eq_of_beq h3;rw [kb (by rw [←Int.natCast_mul];omega),←Int.natCast_mul] at this;simp only [af] at this;omega
      have:=n9 (f:=mD ((a:Int),(b:Int),fs,ss,hs)) (fun i=>((i:Nat):Int)) (fun i=>hY (cz ss a i)&&hY (cz hs b i)) (Sum.inl ()) (Sum.inr ()) (n:=a) (fun i hi=>by
       obtain ⟨c1,c2,c3,c4⟩:=He (xs:=ss) (w:=a) (n:=a) (by omega) (by omega) hi;obtain ⟨d1,d2,d3,d4⟩:=He (xs:=hs) (w:=b) (n:=a) (by omega) (by omega) hi;have FG:=Hf l2 hi;have adw:=Hf l3 hi;rw [c3,c2] at c1;rw [d3,d2] at d1;have hr:(cz ss a i).length≤4294967296:=by rw [dt l2 hi];omega
       have FF:(cz hs b i).length≤4294967296:=by rw [dt l3 hi];omega
       unfold mD;simp only [nL hi,cond_true];rw [c3,c2,c1,guard_pos ⟨by omega,by omega,by simp only [af];omega⟩,Dh hr];simp only [Option.bind_some];rw [d3,d2,d1,guard_pos ⟨by omega,by omega,by simp only [af];omega⟩,Dh FF];simp only [Option.bind_some,cL hi (show a≤4294967296 by omega)];cases hY (cz ss a i)<;>cases hY (cz hs b i)<;>rfl) (by
       unfold mD;simp only [nM (Nat.le_refl _),cond_false]) a 0 (by omega)
      simp only [Int.natCast_zero] at this;rw [E8] at this;simp only [Dh (xs:=fs) (by omega),Option.bind_some,Bool.not_true,cond_false];cases hY fs with
      |false=>rfl
      |true=>
       simp only [Bool.not_true,cond_false,Option.bind_some,this,Bool.true_and];cases iW (fun i=>hY (cz ss a i)) a 0<;>cases iW (fun i=>hY (cz hs b i)) a 0<;>rfl
end Go.Proofs
namespace Go.Proofs
open Go.Ide Go.IntWalk
structure Model (a b:Nat)(fs ss hs:List Nat):Prop where
 n1:1≤a
 n2:a≤5
 k1:1≤b
 k2:b≤4
 lf:fs.length=a
 ls:ss.length=a*a
 lh:hs.length=a*b
 sf: ∀i,i<a→bd (fs.getD i 0) 127
 st: ∀i j,i<a→j<a→bd (ss.getD (i*a+j) 0) 127
 sh: ∀i j,i<a→j<b→bd (hs.getD (i*b+j) 0) 127
theorem zP {xs:List Nat}(h:hY xs=true){i:Nat}(hi:i<xs.length):bd (xs.getD i 0) 127:=by
 unfold hY at h;rw [Bool.and_eq_true] at h;exact Ma (lE.1 h.1 i (by omega) (by omega))
theorem E9 {n k:Int}{fs ss hs:List Nat}(h:gU n k fs ss hs=true): ∃a b:Nat,n=(a:Int)∧k=(b:Int)∧Model a b fs ss hs:=by
 unfold gU at h;simp only [Bool.and_eq_true,decide_eq_true_eq,beq_iff_eq] at h;obtain ⟨⟨h1,h2⟩,⟨h3,h4⟩,h5,h6,h7,h8,h9,WK⟩:=h;obtain ⟨a,rfl⟩: ∃a:Nat,n=(a:Int):=⟨n.toNat,by omega⟩;obtain ⟨b,rfl⟩: ∃b:Nat,k=(b:Int):=⟨k.toNat,by omega⟩;have m1:a*a≤5*5:=Nat.mul_le_mul (by omega) (by omega);have m2:a*b≤5*4:=Nat.mul_le_mul (by omega) (by omega);rw [kb (by rw [←Int.natCast_mul];omega),←Int.natCast_mul] at h6;rw [kb (by rw [←Int.natCast_mul];omega),←Int.natCast_mul] at h7;simp only [af] at h5 h6 h7;have l1:fs.length=a:=by omega
 have l2:ss.length=a*a:=by omega
 have l3:hs.length=a*b:=by omega
 simp only [Int.toNat_natCast] at h9 WK;refine ⟨a,b,rfl,rfl,by omega,by omega,by omega,by omega,l1,l2,l3,fun i hi=>zP h8 (by omega),fun i j hi hj=> ?_,fun i j hi hj=> ?_⟩;rw [←hZ l2 hi hj];exact zP (lE.1 h9 i (by omega) (by omega)) (by rw [dt l2 hi];exact hj);rw [←hZ l3 hi hj];exact zP (lE.1 WK i (by omega) (by omega)) (by rw [dt l3 hi];exact hj)
def xV (n k:Int)(fs ss hs:List Nat)(w:List Int):Bool:=gU n k fs ss hs&&(w8 w 0 (b8 .i64 k 1)&&decide (af w≤12))
theorem JD {n k:Int}{fs ss hs:List Nat}{w:List Int}(h:w.length≤4294967296):jy (n,k,fs,ss,hs) w=some (xV n k fs ss hs w):=by
 unfold jy xV;simp only [pF,L9 h,Option.bind_some];cases hm:gU n k fs ss hs with
 |false=>rfl
 |true=>
  obtain ⟨a,b,rfl,rfl,m⟩:=E9 hm;have:=m.k1;have:=m.k2;rw [decide_eq_true (show (b:Int)≥1 by omega),decide_eq_true (show (b:Int)≤4 by omega)];cases w8 w 0 (b8 .i64 (b:Int) 1)<;>cases decide (af w≤12)<;>rfl
theorem oJ {a b i j:Nat}(ha:a≤5)(hb:b≤5)(hi:i<a)(hj:j<b):ai .i64 (az .i64 (i:Int) (b:Int)) (j:Int)=((i*b+j:Nat):Int)∧i*b+j<a*b:=by
 refine ⟨Uv (by omega) (by omega) (by omega),?_⟩;have:(i+1)*b≤a*b:=Nat.mul_le_mul_right _ hi;rw [Nat.succ_mul] at this;omega
theorem JE {x:Nat}{K:Nat}(h:bd x K)(h2:2≤K)(h3:K≤254):bT x=some (x,true):=by
 unfold bT bS;rw [tU h h2 h3];rfl
end Go.Proofs
namespace Go.Proofs
open Go.Ide Go.IntWalk
theorem Ir (K:Nat):bd 0 K:=by unfold bd;omega
theorem Is {xs:List Nat}{K:Nat}(hK:2≤K)(h: ∀i,i<xs.length→bd (xs.getD i 0) K): ∀i,i≤xs.length→K+i≤254→bd (cS xs i) (K+i)
 |0,_,_=>Ir _
 |i+1,hi,hk=>by
  have h1:bd (xs.getD i 0) (K+i):=(h i (by omega)).mono (by omega);have h2:bd (cS xs i) (K+i):=Is hK h i (by omega) (by omega);have:=La h2 h1 (by omega) (by omega);exact this
def rH (a b:Nat)(ss hs row:List Nat)(c j:Nat):Nat→Nat
 |0=>0
 |p+1=>aq .add .f32 (rH a b ss hs row c j p) (aq .mul .f32 (aq .mul .f32 (row.getD p 0) (hs.getD (p*b+c) 0)) (ss.getD (p*a+j) 0))
def c8 (a b:Nat)(ss hs row:List Nat)(c:Nat):List Nat:=(List.range a).map fun j=>rH a b ss hs row c j a
theorem BJ (a b:Nat)(ss hs row:List Nat)(c:Nat):(c8 a b ss hs row c).length=a:=by simp [c8]
theorem sR {a b:Nat}{ss hs row:List Nat}{c j:Nat}(hj:j<a):(c8 a b ss hs row c).getD j 0=rH a b ss hs row c j a:=by
 unfold c8;simp [List.getD_eq_getElem?_getD,hj]
theorem Fa {a b:Nat}{fs ss hs:List Nat}(m:Model a b fs ss hs){row:List Nat}{c j K:Nat}(hc:c<b)(hj:j<a)(hK:2≤K)(h: ∀i,i<a→bd (row.getD i 0) K): ∀p,p≤a→K+p≤254→bd (rH a b ss hs row c j p) (K+p)
 |0,_,_=>Ir _
 |p+1,hp,hk=>by
  have h1:bd (aq .mul .f32 (row.getD p 0) (hs.getD (p*b+c) 0)) K:=K9 (h p (by omega)) (m.sh p c (by omega) hc) hK (by omega) (by omega) (by omega) hK (by omega);have h2:bd (aq .mul .f32 (aq .mul .f32 (row.getD p 0) (hs.getD (p*b+c) 0)) (ss.getD (p*a+j) 0)) K:=K9 h1 (m.st p j (by omega) hj) hK (by omega) (by omega) (by omega) hK (by omega);have h3:bd (aq .mul .f32 (aq .mul .f32 (row.getD p 0) (hs.getD (p*b+c) 0)) (ss.getD (p*a+j) 0)) (K+p):=h2.mono (by omega);have h4:bd (rH a b ss hs row c j p) (K+p):=Fa m hc hj hK h p (by omega) (by omega);have:=La h4 h3 (by omega) (by omega);exact this
theorem Mc {a b:Nat}{fs ss hs:List Nat}(m:Model a b fs ss hs){row:List Nat}{c K:Nat}(hc:c<b)(hK:2≤K)(h: ∀i,i<a→bd (row.getD i 0) K)(hk:K+5≤254): ∀j,j<a→bd ((c8 a b ss hs row c).getD j 0) (K+5):=by
 intro j hj;have:=m.n2;rw [sR hj];exact (Fa m hc hj hK h a (Nat.le_refl _) (by omega)).mono (by omega)
theorem Md {f:Int×List Nat→Option ((Int×List Nat)⊕List Nat)}(xs:List Nat)(mL: ∀(i:Nat) (out:List Nat),i<xs.length→out.length=xs.length→out.getD i 0=0→f ((i:Int),out)=some (.inl (((i+1:Nat):Int),out.set i (xs.getD i 0))))(mX: ∀out:List Nat,out.length=xs.length→f (((xs.length:Nat):Int),out)=some (.inr out)):rounds f ((0:Int),List.replicate xs.length 0)=some xs:=by
 have:=aM (f:=f) (fun i out=>(((i:Nat):Int),out)) (fun i out=>out.set i (xs.getD i 0)) id (n:=xs.length) (fun i out=>out=xs.take i++List.replicate (xs.length - i) 0)
  (fun i out hi h=>⟨mL i out hi (by rw [h];simp;omega) (by
   rw [h,List.getD_eq_getElem?_getD,List.getElem?_append_right (by simp;omega)];simp only [List.length_take,List.getElem?_replicate];split<;>rfl),by
   rw [h,sK hi 0,show xs.length - i=(xs.length - (i+1))+1 from by omega,List.replicate_succ,zm (by simp;omega)];simp⟩)
  (fun out h=>mX out (by rw [h];simp)) xs.length 0 (List.replicate xs.length 0) (by omega) (by simp)
 simp only [Int.natCast_zero] at this;rw [this.1,this.2];simp
theorem Me {a b:Nat}{fs ss hs:List Nat}(m:Model a b fs ss hs){row:List Nat}{c:Nat}(hc:c<b)(hr:row.length=a):fH ((a:Int),(b:Int),fs,ss,hs) row (c:Int)=some (c8 a b ss hs row c):=by
 have qI:=m.n2;have fi:=m.k2;have hls:=m.ls;have hlh:=m.lh;have vC:=BJ a b ss hs row c;have:=Md (f:=fY ((a:Int),(b:Int),fs,ss,hs) row (c:Int)) (c8 a b ss hs row c)
  (fun j out hj ho h0=>by
   rw [vC] at hj ho;have:=aM (f:=fX ((a:Int),(b:Int),fs,ss,hs) row (c:Int) ((j:Int),out)) (fun p s=>(((p:Nat):Int),s))
    (fun p s=>s.set j (aq .add .f32 (s.getD j 0) (aq .mul .f32 (aq .mul .f32 (row.getD p 0) (hs.getD (p*b+c) 0)) (ss.getD (p*a+j) 0)))) id (n:=a) (fun p s=>s=out.set j (rH a b ss hs row c j p))
    (fun p s hp hs'=>⟨by
     obtain ⟨e1,e2⟩:=oJ (a:=a) (b:=b) (by omega) (by omega) hp hc;obtain ⟨e3,e4⟩:=oJ (a:=a) (b:=a) (by omega) (by omega) hp hj;have DH:s.length=a:=by rw [hs'];simp [ho]
     have j0:=eG (i:=j) (n:=s.length) (by omega);have j1:=eG (i:=p) (n:=row.length) (by omega);have j3:=eG (i:=p*b+c) (n:=hs.length) (by omega);have j4:=eG (i:=p*a+j) (n:=ss.length) (by omega);unfold fX e7 dw;simp only [nL hp,cond_true,Int.toNat_natCast,cL hp (show a≤4294967296 by omega),e1,e3];rw [guard_pos j0,guard_pos j1,guard_pos j3,Option.bind_some,guard_pos j4,Option.bind_some],by
     rw [hs'];have:(out.set j (rH a b ss hs row c j p)).getD j 0=rH a b ss hs row c j p:=by
      simp [List.getD_eq_getElem?_getD,ho,hj]
     rw [this,List.set_set];rfl⟩)
    (fun s _=>by
     unfold fX;simp only [nM (Nat.le_refl _),cond_false];rfl) a 0 out (by omega) (by
     show out=out.set j 0;apply List.ext_getElem (by simp);intro i h1 h2;rw [List.getElem_set];split;rename_i e;subst e;simpa [List.getD_eq_getElem?_getD,List.getElem?_eq_getElem h1] using h0;rfl)
   simp only [Int.natCast_zero] at this;unfold fY;simp only [nL hj,cond_true,this.1,id,Option.bind_some,cL hj (show a≤4294967296 by omega)];rw [this.2,sR hj])
  (fun out _=>by
   unfold fY;rw [vC];simp only [nM (Nat.le_refl _),cond_false])
 unfold fH;rw [guard_pos ⟨by omega,by simp only;omega⟩];simp only [Int.toNat_natCast];rw [vC] at this;rw [this];rfl
def rowAt (a b:Nat)(fs ss hs:List Nat)(w:List Int):Nat→List Nat
 |0=>fs
 |i+1=>c8 a b ss hs (rowAt a b fs ss hs w i) (w.getD i 0).toNat
theorem wm {a b:Nat}{fs ss hs:List Nat}(m:Model a b fs ss hs)(w:List Int): ∀i,(rowAt a b fs ss hs w i).length=a
 |0=>m.lf
 |i+1=>BJ ..
theorem Fb {a b:Nat}{fs ss hs:List Nat}(m:Model a b fs ss hs){w:List Int}(hw:mF b w)(hl:w.length≤12): ∀i,i≤w.length→ ∀j,j<a→bd ((rowAt a b fs ss hs w i).getD j 0) (127+5*i)
 |0,_=>m.sf
 |i+1,hi=>by
  obtain ⟨c,hc,lQ⟩:=hw i (by omega);rw [rowAt,hc,Int.toNat_natCast,show 127+5*(i+1)=127+5*i+5 by omega];exact Mc m lQ (by omega) (Fb m hw hl i (by omega)) (by omega)
def w9 (a b:Nat)(fs ss hs:List Nat)(w:List Int):List (List Nat):=(List.range (w.length+1)).map (rowAt a b fs ss hs w)
theorem Di (h:Nat→List Nat)(i:Nat):((List.range (i+1)).map h).getD i []=h i:=by
 simp [List.getD_eq_getElem?_getD]
theorem xb {a b:Nat}{fs ss hs:List Nat}(m:Model a b fs ss hs){w:List Int}(hw:mF b w)(hl:w.length≤12):fJ ((a:Int),(b:Int),fs,ss,hs) w=some (w9 a b fs ss hs w):=by
 have:=aM (f:=fZ ((a:Int),(b:Int),fs,ss,hs) w) (fun i out=>(((i:Nat):Int),out)) (fun i out=>out++[rowAt a b fs ss hs w (i+1)]) id (n:=w.length) (fun i out=>out=(List.range (i+1)).map (rowAt a b fs ss hs w))
  (fun i out hi ho=>⟨by
   obtain ⟨c,hc,lQ⟩:=hw i hi;have e:out.getD i []=rowAt a b fs ss hs w i:=by rw [ho];exact Di _ _
   have pd:out.length=i+1:=by rw [ho];simp
   have j1:=eG (i:=i) (n:=out.length) (by omega);unfold fZ;simp only [nL hi,cond_true,Int.toNat_natCast,cL hi (show w.length≤4294967296 by omega),e,hc,Me m lQ (wm m w i),Option.bind_some];rw [guard_pos (eG hi),guard_pos j1,guard_pos (by simp only [pd,List.length_singleton,bg];omega),rowAt,hc,Int.toNat_natCast],by
   rw [ho,List.range_succ (n:=i+1),List.map_append];rfl⟩)
  (fun out _=>by
   unfold fZ;simp only [nM (Nat.le_refl _),cond_false];rfl) w.length 0 [fs] (by omega) rfl
 simp only [Int.natCast_zero] at this;unfold fJ;have ur:dv fs=some fs:=by
  have:=m.lf;have:=m.n2;unfold dv;rw [guard_pos (by simp only [bg];omega)]
 rw [ur];simp only [Option.bind_some];rw [this.1];simp only [id,Option.bind_some,this.2,w9]
end Go.Proofs
namespace Go.Proofs
open Go.Ide Go.IntWalk
section
variable {a b:Nat} {fs ss hs:List Nat}
end
end Go.Proofs
namespace Go.Proofs
open Go.Ide Go.IntWalk
section
variable {a b:Nat} {fs ss hs:List Nat}
def part {α:Type}(h:Nat→α)(d:α)(n i:Nat):List α:=(List.range i).map h++List.replicate (n - i) d
end
end Go.Proofs
namespace Go.Proofs
open Go.Ide Go.IntWalk
theorem xc {τ ρ:Type}{f:τ→Option (τ⊕ρ)}(mk:Nat→τ)(p:Nat→Bool)(a:ρ)(b:Nat→ρ){n:Nat}(mL: ∀i,i<n→f (mk i)=some (bif p i then .inl (mk (i+1)) else .inr (b i)))(mX:f (mk n)=some (.inr a)): ∀(k i:Nat),i+k=n→ ∃j,rounds f (mk i)=some (bif iW p k i then a else b j)
 |0,i,hi=>by
  have:i=n:=by omega
  subst this;rw [bn,mX];exact ⟨0,rfl⟩
 |k+1,i,hi=>by
  rw [bn,mL i (by omega)];simp only [iW];cases p i with
  |true=>simp only [cond_true,Bool.true_and];exact xc mk p a b mL mX k (i+1) (by omega)
  |false=>exact ⟨i,rfl⟩
def fin (x:Nat):Bool:=tg .f32 (aq .sub .f32 x x) 0
def Mf (xs:List Nat):Bool:=iW (fun i=>fin (xs.getD i 0)) xs.length 0
theorem wo {x K:Nat}(h:bd x K)(h2:2≤K)(h3:K≤254):fin x=true:=by
 unfold fin;rw [tU h h2 h3];rfl
theorem Fc {xs:List Nat}(h:xs.length≤4294967296):dN xs=some (Mf xs):=by
 obtain ⟨j,this⟩:=xc (f:=aZ xs) (fun i=>((i:Nat):Int)) (fun i=>fin (xs.getD i 0)) (Sum.inl ()) (fun i=>Sum.inr ((i:Nat):Int)) (n:=xs.length) (fun i hi=>by
  unfold aZ jI bS;simp only [nL hi,cond_true,guard_pos (eG hi),Int.toNat_natCast,Option.bind_some,cL hi h];show _=some (bif tg .f32 (aq .sub .f32 (xs.getD i 0) (xs.getD i 0)) 0 then _ else _);cases tg .f32 (aq .sub .f32 (xs.getD i 0) (xs.getD i 0)) 0<;>rfl) (by
  unfold aZ;simp only [nM (Nat.le_refl _),cond_false]) xs.length 0 (by omega)
 simp only [Int.natCast_zero] at this;unfold dN a8 bo Mf;rw [this];cases iW (fun i=>fin (xs.getD i 0)) xs.length 0 with
 |true=>rfl
 |false=>
  simp only [cond_false,Option.bind_some,ge_iff_le];rw [decide_eq_true (Int.natCast_nonneg j)];rfl
def Bc (xs:List (List Nat)):Nat→List Nat
 |0=>[]
 |i+1=>Bc xs i++xs.getD i []
theorem zQ {xs:List (List Nat)}{c:Nat}(h: ∀i,i<xs.length→(xs.getD i []).length≤c): ∀i,i≤xs.length→(Bc xs i).length≤i*c
 |0,_=>by simp [Bc]
 |i+1,hi=>by
  have h1:=zQ h i (by omega);have h2:=h i (by omega);rw [Bc,List.length_append,Nat.succ_mul];omega
theorem OM {n:Nat}(h:n≤4294967296):cc (n:Int)=some []:=by
 unfold cc;have e:b8 .i64 (n:Int) (b8 .i64 0 0)=(n:Int):=by rw [show b8 .i64 0 0=0 from rfl,EF (by omega)];omega
 rw [e];simp only [show decide ((n:Int)<0)=false from decide_eq_false (by omega),cond_false];cases hd:decide ((n:Int)>0) with
 |false=>rfl
 |true=>
  simp only [cond_true];rw [guard_pos ⟨by omega,by omega⟩,guard_pos ⟨by omega,by simp only [af];omega⟩];rfl
theorem ON {xs:List (List Nat)}{c:Nat}(hc: ∀i,i<xs.length→(xs.getD i []).length≤c)(h:xs.length*c≤1048576)(hl:xs.length≤1048576):bE xs=some (Bc xs xs.length):=by
 have hb: ∀i,i<xs.length→(Bc xs i).length+(xs.getD i []).length≤1048576:=fun i hi=>by
  have h1:=zQ hc i (by omega);have h2:=hc i hi;have h3:(i+1)*c≤xs.length*c:=Nat.mul_le_mul_right _ hi;rw [Nat.succ_mul] at h3;omega
 have h2:=aM (f:=cD xs) (fun i s=>(s,((i:Nat):Int))) (fun i s=>s+((xs.getD i []).length:Int)) id (n:=xs.length) (fun i s=>s=((Bc xs i).length:Int))
  (fun i s hi hs=>⟨by
   have:=hb i hi;have e:ai .i64 s (af (xs.getD i []))=s+((xs.getD i []).length:Int):=by rw [hs];simp only [af];rw [lX (by omega)]
   unfold cD;simp only [nL hi,cond_true,guard_pos (eG hi),Int.toNat_natCast,cL hi (show xs.length≤4294967296 by omega),e];rw [decide_eq_false (by rw [hs];omega)];rfl,by rw [hs,Bc,List.length_append];omega⟩)
  (fun s hs=>by
   unfold cD;simp only [nM (Nat.le_refl _),cond_false];rfl) xs.length 0 0 (by omega) rfl
 have h1:=aM (f:=cB xs) (fun i s=>(((i:Nat):Int),s)) (fun i s=>s++xs.getD i []) id (n:=xs.length) (fun i s=>s=Bc xs i)
  (fun i s hi hs=>⟨by
   have:=hb i hi;unfold cB;simp only [nL hi,cond_true,guard_pos (eG hi),Int.toNat_natCast,cL hi (show xs.length≤4294967296 by omega)];rw [guard_pos (by rw [hs];unfold bg;omega)],by rw [hs];rfl⟩)
  (fun s hs=>by
   unfold cB;simp only [nM (Nat.le_refl _),cond_false];rfl) xs.length 0 [] (by omega) rfl
 have lA:(Bc xs xs.length).length≤4294967296:=by have:=zQ hc xs.length (Nat.le_refl _);omega
 simp only [Int.natCast_zero] at h1 h2;unfold bE;rw [h2.1];simp only [id,Option.bind_some];rw [h2.2,OM lA];simp only [Option.bind_some];rw [h1.1];simp only [id,Option.bind_some,h1.2]
end Go.Proofs
namespace Go.Proofs
open Go.Ide Go.IntWalk
end Go.Proofs
namespace Go.Proofs
open Go.Ide Go.IntWalk
def wq (xs:List Nat)(all:Nat):List Nat:=(List.range xs.length).map fun i=>aq .quo .f32 (xs.getD i 0) all
theorem Mg (xs:List Nat)(all:Nat):(wq xs all).length=xs.length:=by simp [wq]
end Go.Proofs
namespace Go.Proofs
open Go.Ide Go.IntWalk
abbrev Fe:=List Int×Int×Int
def zR (c:List Int):Prop:=c.length≤1048576∧ ∀i,i<c.length→0≤c.getD i 0∧c.getD i 0≤255
theorem BK {x:List Int}(w:WfD (.sl (.int .u8)) x)(h:x.length≤1048576):zR x:=by
 refine ⟨h,fun i hi=> ?_⟩;have:=w.2 i hi;have h2:(Lit.int .u8 (x[i]:Int)).wf=true:=this;rw [List.getD_eq_getElem?_getD,List.getElem?_eq_getElem hi];simp only [Lit.wf,Bool.and_eq_true,decide_eq_true_eq] at h2;have e1:IntKind.u8.min=0:=by decide
 have e2:IntKind.u8.max=255:=by decide
 rw [e1,e2] at h2;simp only [Option.getD_some];omega
structure mP (n:Nat)(s:Fe):Prop where
 code:zR s.1
 at0:0≤s.2.1
 at1:s.2.1+(n:Int)≤1000000000000000000
theorem mP.mono {n m:Nat}{s:Fe}(h:mP n s)(hm:m≤n):mP m s:=⟨h.code,h.at0,by have:=h.at1;omega⟩
theorem mP.from {c:List Int}(h:zR c):nD c=some (c,(0:Int),(0:Int))∧mP 1000000000000000000 (c,(0:Int),(0:Int)):=⟨rfl,h,Int.le_refl _,by simp⟩
theorem Mh (x:Int)(h:0≤x∧x≤255):IntKind.wrap .i64 x=x:=i64_in _ (by omega)
theorem Sg (z:Int): ∃y:Int,IntKind.wrap .i64 (IntKind.wrap .u64 (((BitVec.ofInt (IntKind.bits .u64) z&&& BitVec.ofInt (IntKind.bits .u64) (255:Int)).toNat:Nat):Int))=y∧0≤y∧y≤255:=by
 have h1:(BitVec.ofInt (IntKind.bits .u64) z&&& BitVec.ofInt (IntKind.bits .u64) (255:Int)).toNat≤255:=by
  rw [BitVec.toNat_and];refine Nat.le_trans Nat.and_le_right ?_;decide
 generalize (BitVec.ofInt (IntKind.bits .u64) z&&& BitVec.ofInt (IntKind.bits .u64) (255:Int)).toNat=q at h1;have h2:IntKind.wrap .u64 ((q:Nat):Int)=(q:Int):=by
  unfold IntKind.wrap;simp only [IntKind.bits,IntKind.signed,Bool.false_and,Bool.false_eq_true,if_false];omega
 rw [h2,i64_in _ (by omega)];exact ⟨_,rfl,by omega,by omega⟩
theorem It {n:Nat}{s:Fe}(h:mP (n+1) s): ∃x s',fv s=some (x,s')∧0≤x∧x≤255∧mP n s':=by
 obtain ⟨c,a,z⟩:=s;obtain ⟨hc,h0,h1⟩:=h;have h0:0≤a:=h0;have h1:a+((n+1:Nat):Int)≤1000000000000000000:=h1;have e1:ai .i64 a 1=a+1:=lX (by omega);unfold fv;simp only [e1];have hs: ∀z',mP n (c,a+1,z'):=fun z'=>⟨hc,by show 0≤a+1;omega,by show a+1+(n:Int)≤_;omega⟩;have key: ∀v:Int,0≤v∧v≤255→ ∃x s',(bif decide (a+1≤af c) then some (v,c,a+1,ai .u64 (ai .u64 (az .u64 z 6364136223846793005) (IntKind.wrap .u64 v)) 1442695040888963407)
  else (some (IntKind.wrap .i64 (IntKind.wrap .u64 (((BitVec.ofInt (IntKind.bits .u64) (Int.fdiv (ai .u64 (ai .u64 (az .u64 z 6364136223846793005) (IntKind.wrap .u64 v)) 1442695040888963407) (2^(min (Int.toNat (40:Int)) (IntKind.bits .u64))))&&& BitVec.ofInt (IntKind.bits .u64) (255:Int)).toNat:Nat):Int)))).bind fun q5=>
   some (q5,c,a+1,ai .u64 (ai .u64 (az .u64 z 6364136223846793005) (IntKind.wrap .u64 v)) 1442695040888963407))=some (x,s')∧0≤x∧x≤255∧mP n s':=by
  intro v hv;cases decide (a+1≤af c) with
  |true=>exact ⟨_,_,rfl,hv.1,hv.2,hs _⟩
  |false=>
   obtain ⟨y,e,y1,y2⟩:=Sg (Int.fdiv (ai .u64 (ai .u64 (az .u64 z 6364136223846793005) (IntKind.wrap .u64 v)) 1442695040888963407) (2^(min (Int.toNat (40:Int)) (IntKind.bits .u64))));rw [e];exact ⟨_,_,rfl,y1,y2,hs _⟩
 by_cases cp:a<af c;have hi:a.toNat<c.length:=by simp only [af] at cp;omega
 have hb:=hc.2 a.toNat hi;simp only [cp,decide_true,cond_true];rw [guard_pos ⟨h0,trivial⟩,Mh _ hb];exact key _ hb;simp only [cp,decide_false,cond_false];exact key 0 (by omega)
theorem uZ {x n:Int}(hx:0≤x)(hn:0<n):0≤Int.tmod x n∧Int.tmod x n<n:=by
 rw [Int.tmod_eq_emod_of_nonneg hx];exact ⟨Int.emod_nonneg _ (by omega),Int.emod_lt_of_pos _ hn⟩
theorem Iu {n:Nat}{s:Fe}(h:mP (n+2) s)(k:Int): ∃x s',fw s k=some (x,s')∧0≤x∧(x<k∨x=0)∧mP n s':=by
 unfold fw;by_cases h1:k≤1;simp only [h1,decide_true,cond_true];exact ⟨_,_,rfl,Int.le_refl _,.inr rfl,h.mono (by omega)⟩;simp only [h1,decide_false,cond_false];obtain ⟨x,s1,e1,x1,x2,o1⟩:=It h;simp only [e1,Option.bind_some];by_cases h2:k>200;obtain ⟨y,s2,e2,y1,y2,o2⟩:=It o1;have e3:az .i64 x 256=x*256:=kb (by omega);have e4:ai .i64 (x*256) y=x*256+y:=lX (by omega);simp only [h2,decide_true,cond_true,e2,Option.bind_some,e3,e4];rw [guard_pos (by omega)];have:=uZ (x:=x*256+y) (n:=k) (by omega) (by omega);exact ⟨_,_,rfl,this.1,.inl this.2,o2⟩;simp only [h2,decide_false,cond_false,Option.bind_some];rw [guard_pos (by omega)];have:=uZ (x:=x) (n:=k) (by omega) (by omega);exact ⟨_,_,rfl,this.1,.inl this.2,o1.mono (by omega)⟩
theorem zS {c:List Int}(hc:zR c){i n:Int}(hi:0≤i∧i≤1000000000000): ∃x,jr c i n=some x∧0≤x∧(x<n∨x=0):=by
 unfold jr;by_cases h1:n≤1;simp only [h1,decide_true,cond_true];exact ⟨_,rfl,Int.le_refl _,.inr rfl⟩;simp only [h1,decide_false,cond_false];by_cases cp:i<af c;have hj:i.toNat<c.length:=by simp only [af] at cp;omega
 have hb:=hc.2 i.toNat hj;simp only [cp,decide_true,cond_true];rw [guard_pos ⟨hi.1,trivial⟩,guard_pos (by omega),Mh _ hb];have:=uZ (x:=c.getD i.toNat 0) (n:=n) hb.1 (by omega);exact ⟨_,rfl,this.1,.inl this.2⟩;simp only [cp,decide_false,cond_false];rw [guard_pos (by omega),kb (by omega),lX (by omega)];have:=uZ (x:=i*37+11) (n:=n) (by omega) (by omega);exact ⟨_,rfl,this.1,.inl this.2⟩
end Go.Proofs
namespace Go.Proofs
open Go.Ide Go.IntWalk
end Go.Proofs
namespace Go.Proofs
def dk (k a b:Nat):Prop:=a*8388608^k≤b*8388609^k∧b*8388608^k≤a*8388609^k
theorem DU (k:Nat):8388608^k≤8388609^k:=Nat.pow_le_pow_left (by omega) k
theorem dk.refl (k a:Nat):dk k a a:=⟨Nat.mul_le_mul_left _ (DU k),Nat.mul_le_mul_left _ (DU k)⟩
theorem dk.symm {k a b:Nat}(h:dk k a b):dk k b a:=⟨h.2,h.1⟩
theorem dk.of_eq {k a b:Nat}(h:a=b):dk k a b:=h▸dk.refl k a
theorem BL {k l a b c d:Nat}(h:a*8388608^k≤b*8388609^k)(h':c*8388608^l≤d*8388609^l):a*c*8388608^(k+l)≤b*d*8388609^(k+l):=by
 rw [Nat.pow_add,Nat.pow_add]
 calc a*c*(8388608^k*8388608^l)=a*8388608^k*(c*8388608^l):=by ac_rfl
  _≤b*8388609^k*(d*8388609^l):=Nat.mul_le_mul h h'
  _=b*d*(8388609^k*8388609^l):=by ac_rfl
theorem dk.mul {k l a b c d:Nat}(h:dk k a b)(h':dk l c d):dk (k+l) (a*c) (b*d):=⟨BL h.1 h'.1,BL h.2 h'.2⟩
theorem Ff {k l a b c:Nat}(h:a*8388608^k≤b*8388609^k)(h':b*8388608^l≤c*8388609^l):a*8388608^(k+l)≤c*8388609^(k+l):=by
 rw [Nat.pow_add,Nat.pow_add]
 calc a*(8388608^k*8388608^l)=a*8388608^k*8388608^l:=by ac_rfl
  _≤b*8388609^k*8388608^l:=Nat.mul_le_mul_right _ h
  _=b*8388608^l*8388609^k:=by ac_rfl
  _≤c*8388609^l*8388609^k:=Nat.mul_le_mul_right _ h'
  _=c*(8388609^k*8388609^l):=by ac_rfl
theorem dk.trans {k l a b c:Nat}(h:dk k a b)(h':dk l b c):dk (k+l) a c:=⟨Ff h.1 h'.1,by have:=Ff h'.2 h.2;rwa [Nat.add_comm l k] at this⟩
theorem dk.mono {k l a b:Nat}(h:dk k a b)(hl:k≤l):dk l a b:=by
 have:=h.trans (dk.refl (l - k) b);rwa [show k+(l - k)=l by omega] at this
theorem dk.add {k a b c d:Nat}(h:dk k a b)(h':dk k c d):dk k (a+c) (b+d):=⟨by rw [Nat.add_mul,Nat.add_mul];exact Nat.add_le_add h.1 h'.1,by rw [Nat.add_mul,Nat.add_mul];exact Nat.add_le_add h.2 h'.2⟩
theorem dk.xF {k a b:Nat}(h:dk k a b)(c:Nat):dk k (a*c) (b*c):=h.mul (dk.refl 0 c)
theorem dk.cancel {k a b c:Nat}(h:dk k (a*c) (b*c))(hc:0<c):dk k a b:=by
 obtain ⟨h1,h2⟩:=h;refine ⟨Nat.le_of_mul_le_mul_right (c:=c) ?_ hc,Nat.le_of_mul_le_mul_right (c:=c) ?_ hc⟩
 calc a*8388608^k*c=a*c*8388608^k:=by ac_rfl
  _≤b*c*8388609^k:=h1
  _=b*8388609^k*c:=by ac_rfl
 calc b*8388608^k*c=b*c*8388608^k:=by ac_rfl
  _≤a*c*8388609^k:=h2
  _=a*8388609^k*c:=by ac_rfl
theorem Mi:8388609^200*10000≤8388608^200*10001:=by decide
theorem dk.le {k a b:Nat}(h:dk k a b)(hk:k≤200):a*10000≤b*10001:=by
 have h1:=(h.mono hk).1;have hp:0<8388608^200:=Nat.pow_pos (by omega);refine Nat.le_of_mul_le_mul_right (c:=8388608^200) ?_ hp
 calc a*10000*8388608^200=a*8388608^200*10000:=by ac_rfl
  _≤b*8388609^200*10000:=Nat.mul_le_mul_right _ h1
  _=b*(8388609^200*10000):=by ac_rfl
  _≤b*(8388608^200*10001):=Nat.mul_le_mul_left _ Mi
  _=b*10001*8388608^200:=by ac_rfl
def oW (f:Nat→Nat):Nat→Nat
 |0=>0
 |n+1=>oW f n+f n
theorem Fg {k:Nat}{f g:Nat→Nat}: ∀n,(∀i,i<n→dk k (f i) (g i))→dk k (oW f n) (oW g n)
 |0,_=>dk.refl _ _
 |n+1,h=>(Fg n fun i hi=>h i (by omega)).add (h n (by omega))
theorem zT (f:Nat→Nat)(c:Nat): ∀n,oW f n*c=oW (fun i=>f i*c) n
 |0=>by simp [oW]
 |n+1=>by rw [oW,Nat.add_mul,zT f c n];rfl
theorem Dj {f:Nat→Nat}{c:Nat}: ∀n,(∀i,i<n→f i≤c)→oW f n≤n*c
 |0,_=>by simp [oW]
 |n+1,h=>by
  have:=Dj n fun i hi=>h i (by omega);have:=h n (by omega);rw [oW,Nat.succ_mul];omega
end Go.Proofs
namespace Go.Proofs
open Go.Ide
theorem mQ (n d:Nat):2*(Ieee.Toward.cut .even false n d*2^d)≤2*n+2^d∧2*n≤2*(Ieee.Toward.cut .even false n d*2^d)+2^d:=by
 rw [ry];have hp:=bY d;generalize 2^d=g at*;have h1:=Nat.div_add_mod n g;have h2:=Nat.mod_lt n hp;generalize n/g=q at*;generalize n%g=r at*;have e:(q+(decide (g<2*r)||g==2*r&&q%2==1).toNat)*g=g*q+(decide (g<2*r)||g==2*r&&q%2==1).toNat*g:=by rw [Nat.add_mul,Nat.mul_comm q g]
 rw [e];by_cases c1:g<2*r;rw [decide_eq_true c1];simp only [Bool.true_or,Bool.toNat_true,Nat.one_mul];omega;rw [decide_eq_false c1,Bool.false_or];by_cases c2:g=2*r;cases (g==2*r&&q%2==1)<;>simp only [Bool.toNat_true,Bool.toNat_false,Nat.one_mul,Nat.zero_mul]<;>omega;have:(g==2*r)=false:=beq_eq_false_iff_ne.2 c2;rw [this];simp only [Bool.false_and,Bool.toNat_false,Nat.zero_mul];omega
theorem Hg {t k:Nat}(h1:8388608≤k)(h2:k≤16777216)(h3:t*8388608+k<2147483648):bQ (t*8388608+k)=k*2^t:=by
 unfold bQ;rw [Nat.mod_eq_of_lt h3,if_neg (by omega)];by_cases e:k=16777216;subst e;rw [show (t*8388608+16777216)%8388608=0 by omega,show (t*8388608+16777216)/8388608 - 1=t+1 by omega,Nat.pow_succ];omega;rw [show (t*8388608+k)%8388608=k - 8388608 by omega,show (t*8388608+k)/8388608 - 1=t by omega,show 8388608+(k - 8388608)=k by omega]
theorem BM {k g u:Nat}(hk:8388608≤k)(h:2*(k*g)≤2*u+g∧2*u≤2*(k*g)+g):dk 1 (k*g) u:=by
 unfold dk;rw [Nat.pow_one,Nat.pow_one];have hg:8388608*g≤k*g:=Nat.mul_le_mul_right _ hk;generalize k*g=K at*;omega
theorem u0 {a b:Nat}(h:min a b<b):min a b=a∧a<b:=by
 rcases Nat.le_total a b with h1|h1
 rw [Nat.min_eq_left h1] at h⊢;exact ⟨rfl,h⟩;rw [Nat.min_eq_right h1] at h;exact absurd h (Nat.lt_irrefl _)
theorem JF {k d t s u:Nat}(h1:8388608≤k)(h2:k≤16777216)(hc:2*(k*2^d)≤2*u+2^d∧2*u≤2*(k*2^d)+2^d)(hf:min (t*8388608+k) 2139095040<2139095040)(hd:t+s=d):dk 1 (bQ (min (t*8388608+k) 2139095040)*2^s) u:=by
 obtain ⟨hm,cp⟩:=u0 hf;rw [hm,Hg h1 h2 (Nat.lt_trans cp (by decide)),Nat.mul_assoc,←Nat.pow_add,hd];exact BM h1 hc
theorem Dk {u s:Nat}(h:2^(23+s)≤u)(hf:RN u (-149 - (s:Int))<2139095040):dk 1 (bQ (RN u (-149 - (s:Int)))*2^s) u:=by
 have h0:u≠0:=by have:=bY (23+s);omega
 have hl:23+s≤u.log2:=(Nat.le_log2 h0).2 h;have hk:=sN (neg:=false) (mag:=u) (f:=23) (p:= -149 - (s:Int)) (last:= -149 - (s:Int)+(u.log2:Int) - ((23:Nat):Int)) h0 rfl;have fi:=sM (neg:=false) (mag:=u) (f:=23) (p:= -149 - (s:Int)) (last:= -149 - (s:Int)+(u.log2:Int) - ((23:Nat):Int)) (by omega);have GB:(2:Nat)^(23+1)=16777216:=by decide
 have GC:(2:Nat)^23=8388608:=by decide
 rw [GC] at hk;rw [GB] at fi;have oq:Ieee.single.fractionBits=23:=rfl;have lA:max (-149 - (s:Int)+(u.log2:Int) - ((23:Nat):Int)) (-149)= -149 - (s:Int)+(u.log2:Int) - ((23:Nat):Int):=by omega
 have e1:(-149 - (s:Int) - (-149 - (s:Int)+(u.log2:Int) - ((23:Nat):Int))).toNat=0:=by omega
 have e2:(-149 - (s:Int)+(u.log2:Int) - ((23:Nat):Int) - (-149 - (s:Int))).toNat=u.log2 - 23:=by omega
 have e3:(-149 - (s:Int)+(u.log2:Int) - ((23:Nat):Int) - -149).toNat=u.log2 - 23 - s:=by omega
 rw [e1,e2,Nat.shiftLeft_zero] at hk fi;have hR:RN u (-149 - (s:Int))=min ((u.log2 - 23 - s)*8388608+Ieee.Toward.cut .even false u (u.log2 - 23)) 2139095040:=by
  unfold RN Ieee.Format.nearest;rw [if_neg h0];have hw: ∀r,Ieee.single.word false r=r:=fun r=>rfl;simp only [xy,rk,qi,oq];rw [hw,lA,e1,e2,e3,Nat.shiftLeft_zero]
 rw [hR] at hf⊢;exact JF hk fi (mQ u (u.log2 - 23)) hf (by omega)
def pw (m:Nat):Nat:=(m - 22)*8388608
theorem Mj {m:Nat}(h1:23≤m)(h2:m≤276):bQ (pw m)=2^m:=by
 unfold bQ pw;rw [Nat.mod_eq_of_lt (by omega),if_neg (by omega),show (m - 22)*8388608%8388608=0 by omega,show (m - 22)*8388608/8388608 - 1=m - 23 by omega,Nat.add_zero,show (8388608:Nat)=2^23 from rfl,←Nat.pow_add,show 23+(m - 23)=m by omega]
theorem PX {m s:Nat}(h1:23≤m)(h2:m≤276):RN (2^(m+s)) (-149 - (s:Int))=pw m:=by
 rw [Nat.pow_add,mM,←Mj h1 h2];have hb:bd (pw m) (m - 22):=by unfold bd pw;omega
 by_cases e:m=23;subst e;decide;rw [Lg hb (by omega) (by omega)];exact Nat.mod_eq_of_lt (by unfold pw;omega)
structure Rg (a b x:Nat):Prop where
 fin:x≤2130706432
 lo:2^a≤bQ x
 hi:bQ x≤2^b
theorem Rg.bd {a b x:Nat}(h:Rg a b x):bd x 254:=by have:=h.fin;unfold Go.Ide.bd;omega
theorem Rg.mono {a b c d x:Nat}(h:Rg a b x)(h1:c≤a)(h2:b≤d):Rg c d x:=⟨h.fin,Nat.le_trans (Nat.pow_le_pow_right (by omega) h1) h.lo,Nat.le_trans h.hi (Nat.pow_le_pow_right (by omega) h2)⟩
theorem Vq {u m s:Nat}(h1:23≤m)(h2:m≤276)(h:2^(m+s)≤u):pw m≤RN u (-149 - (s:Int)):=by
 rw [←PX (s:=s) h1 h2];exact sO h
theorem Fh {u m s:Nat}(h1:23≤m)(h2:m≤276)(h:u≤2^(m+s)):RN u (-149 - (s:Int))≤pw m:=by
 rw [←PX (s:=s) h1 h2];exact sO h
theorem Vr {u a b s:Nat}(h1:23≤a)(h2:a≤276)(h3:23≤b)(h4:b≤275)(hl:2^(a+s)≤u)(hh:u≤2^(b+s)):Rg a b (RN u (-149 - (s:Int)))∧dk 1 (bQ (RN u (-149 - (s:Int)))*2^s) u:=by
 have q1:=Vq h1 h2 hl;have q2:=Fh h3 (by omega) hh;have q3:pw b≤2130706432:=by unfold pw;omega
 refine ⟨⟨by omega,?_,?_⟩,Dk (Nat.le_trans (Nat.pow_le_pow_right (by omega) (by omega)) hl) (by omega)⟩;rw [←Mj h1 h2];exact qm (by omega) (by omega) q1;rw [←Mj h3 (by omega)];exact qm (by omega) (by omega) q2
theorem gy {x:Nat}(h:x≤2130706432): ∃m i,Ieee.single.read x= .number false m (-149+((i:Nat):Int))∧bQ x=m*2^i:=by
 have hb:bd x 254:=by unfold bd;omega
 obtain ⟨m,i,e,v⟩:=ql hb (by omega) (by omega);have:(x/2147483648%2==1)=false:=by rw [Nat.div_eq_of_lt (by omega)];rfl
 rw [this] at e;exact ⟨m,i,e,v⟩
theorem OO {x y:Nat}(hx:x≤2130706432)(hy:y≤2130706432):aq .mul .f32 x y=RN (bQ x*bQ y) (-149 - ((149:Nat):Int)):=by
 obtain ⟨m,i,e1,v1⟩:=gy hx;obtain ⟨n,j,e2,v2⟩:=gy hy;have e3:floatBits .mul .f32 x y=some (RN (m*n) (-298+((i+j:Nat):Int))):=by
  show Ieee.single.mul x y=_;unfold Ieee.Format.mul;rw [e1,e2];show some (Ieee.single.nearest _ (m*n) (-149+(i:Int)+(-149+(j:Int))))=_;rw [show -149+(i:Int)+(-149+(j:Int))= -298+((i+j:Nat):Int) by omega];rfl
 unfold aq;rw [e3];simp only;rw [uP,v1,v2];have:=mM (m*n) (i+j) (-298+((i+j:Nat):Int));rw [show -298+((i+j:Nat):Int) - ((i+j:Nat):Int)= -149 - ((149:Nat):Int) by omega] at this;rw [←this]
 congr 1
 rw [Nat.pow_add];ac_rfl
theorem oh {a b c d x y:Nat}(hx:Rg a b x)(hy:Rg c d y)(h1:172≤a+c)(h2:b+d≤424)(h3:a+c≤425)(h4:172≤b+d):Rg (a+c - 149) (b+d - 149) (aq .mul .f32 x y)∧dk 1 (bQ (aq .mul .f32 x y)*2^149) (bQ x*bQ y):=by
 rw [OO hx.fin hy.fin];refine Vr (by omega) (by omega) (by omega) (by omega) ?_ ?_;rw [show a+c - 149+149=a+c by omega,Nat.pow_add];exact Nat.mul_le_mul hx.lo hy.lo;rw [show b+d - 149+149=b+d by omega,Nat.pow_add];exact Nat.mul_le_mul hx.hi hy.hi
theorem OP {x y:Nat}(hx:x≤2130706432)(hy:y≤2130706432):aq .add .f32 x y=RN (bQ x+bQ y) (-149):=by
 refine Li (a:=254) (by unfold bd;omega) (by unfold bd;omega) (by omega) (by omega) (by unfold ni;omega) (by unfold nn;omega)
theorem Mk {b x y:Nat}(hx:x≤2130706432)(hy:y≤2130706432)(hb:23≤b)(o5:b≤274)(h1:bQ x≤2^b)(h2:bQ y≤2^b):
 aq .add .f32 x y≤2130706432∧bQ (aq .add .f32 x y)≤2^(b+1)∧dk 1 (bQ (aq .add .f32 x y)) (bQ x+bQ y)∧x≤aq .add .f32 x y∧y≤aq .add .f32 x y:=by
 rw [OP hx hy];have e0:(-149:Int)= -149 - ((0:Nat):Int):=by omega
 have hle:RN (bQ x+bQ y) (-149)≤pw (b+1):=by
  rw [e0];exact Fh (by omega) (by omega) (by rw [Nat.add_zero,Nat.pow_succ];omega)
 have Sh:pw (b+1)≤2130706432:=by unfold pw;omega
 have Qm:x=RN (bQ x) (-149):=by rw [Lg (K:=254) (by unfold bd;omega) (by omega) (by omega),Nat.mod_eq_of_lt (by omega)]
 have XK:y=RN (bQ y) (-149):=by rw [Lg (K:=254) (by unfold bd;omega) (by omega) (by omega),Nat.mod_eq_of_lt (by omega)]
 refine ⟨by omega,?_,?_,?_,?_⟩;rw [←Mj (m:=b+1) (by omega) (by omega)];exact qm (by omega) (by omega) hle;by_cases hs:2^(23+0)≤bQ x+bQ y;have:=Dk (s:=0) hs (by rw [←e0];omega);rw [←e0,Nat.pow_zero,Nat.mul_one] at this;exact this;have hs:bQ x+bQ y<8388608:=by
  have:(2:Nat)^(23+0)=8388608:=by decide
  omega
 have hv:bQ (bQ x+bQ y)=bQ x+bQ y:=by
  have:bQ (bQ x+bQ y)=if (bQ x+bQ y)%2147483648<8388608 then (bQ x+bQ y)%2147483648 else (8388608+(bQ x+bQ y)%2147483648%8388608)*2^((bQ x+bQ y)%2147483648/8388608 - 1):=rfl
  rw [this,Nat.mod_eq_of_lt (by omega),if_pos hs]
 have:=Lg (x:=bQ x+bQ y) (K:=2) (by unfold bd;omega) (by omega) (by omega);rw [hv,Nat.mod_eq_of_lt (by omega)] at this;rw [this,hv];exact dk.refl _ _
 conv=>lhs;rw [Qm]
 exact sO (by omega)
 conv=>lhs;rw [XK]
 exact sO (by omega)
theorem Ml {m n M:Nat}(hn:0<n)(hM:8388608*n≤m*M):dk 1 ((2*(m*M/n)+(m*M%n != 0).toNat)*n) (2*(m*M)):=by
 have h1:=Nat.div_add_mod (m*M) n;have h2:=Nat.mod_lt (m*M) hn;generalize m*M=z at*;have hb:(z%n=0∧(z%n != 0).toNat=0)∨(0<z%n∧(z%n != 0).toNat=1):=by
  by_cases e:z%n=0;exact .inl ⟨e,by rw [e];rfl⟩;refine .inr ⟨by omega,?_⟩;have:(z%n != 0)=true:=by simpa using e
  rw [this];rfl
 unfold dk;rw [Nat.pow_one,Nat.pow_one,Nat.add_mul,Nat.mul_assoc 2 (z/n) n,Nat.mul_comm (z/n) n];generalize n*(z/n)=q at*;rcases hb with ⟨e,e2⟩|⟨e,e2⟩<;>rw [e2]
 omega;rw [Nat.one_mul];omega
theorem Si {a b c d x y:Nat}(hx:Rg a b x)(hy:Rg c d y)(h1:d≤a+125)(h2:b≤c+125)(h3:c≤b+120):
 aq .quo .f32 x y≤2130706432∧dk 2 (bQ (aq .quo .f32 x y)*bQ y) (bQ x*2^149):=by
 obtain ⟨m,i,e1,v1⟩:=gy hx.fin;obtain ⟨n,j,e2,v2⟩:=gy hy.fin;have xl:=hx.lo;have xh:=hx.hi;have yl:=hy.lo;have yh:=hy.hi;rw [v1] at xl xh;rw [v2] at yl yh;have hn:n≠0:=by
  rintro rfl;have:=bY c;omega
 have hm:m≠0:=by
  rintro rfl;have:=bY a;omega
 have hf:Ieee.single.fractionBits=23:=rfl;have e3:floatBits .quo .f32 x y=some (RN (2*(m*2^(23+2+n.log2 - m.log2)/n)+(m*2^(23+2+n.log2 - m.log2)%n != 0).toNat) (-149+(i:Int) - (-149+(j:Int)) - ((23+2+n.log2 - m.log2:Nat):Int) - 1)):=by
  show Ieee.single.div x y=_;unfold Ieee.Format.div;rw [e1,e2];unfold Ieee.Datum.quotient;simp only [hf,Nat.shiftLeft_eq];rw [if_neg hn];rfl
 unfold aq;rw [e3];simp only;rw [uP];have TK:m<2^(m.log2+1):=Nat.lt_log2_self;have Mm:=Nat.log2_self_le hm;have Xp:=Nat.log2_self_le hn;have OQ:n<2^(n.log2+1):=Nat.lt_log2_self;have Lj:m.log2≤23:=by
  have:=qk e1;have:=(Nat.log2_lt (k:=24) hm).2 (by omega);omega
 have Hh:8388608*n≤m*2^(23+2+n.log2 - m.log2):=by
  have q1:2^m.log2*2^(23+2+n.log2 - m.log2)≤m*2^(23+2+n.log2 - m.log2):=Nat.mul_le_mul_right _ Mm;rw [←Nat.pow_add,show m.log2+(23+2+n.log2 - m.log2)=24+(n.log2+1) by omega,Nat.pow_add] at q1;have GB:(2:Nat)^24=16777216:=by decide
  rw [GB] at q1;omega
 generalize 23+2+n.log2 - m.log2=more at*;have BN:=Ml (Nat.pos_of_ne_zero hn) Hh;have Vs:m*2^more≤(2*(m*2^more/n)+(m*2^more%n != 0).toNat)*n∧(2*(m*2^more/n)+(m*2^more%n != 0).toNat)*n≤4*(m*2^more):=by
  have:=BN;unfold dk at this;rw [Nat.pow_one,Nat.pow_one] at this;generalize (2*(m*2^more/n)+(m*2^more%n != 0).toNat)*n=A at*;generalize m*2^more=B at*;omega
 generalize 2*(m*2^more/n)+(m*2^more%n != 0).toNat=Q at*;have Xw:RN Q (-149+(i:Int) - (-149+(j:Int)) - (more:Int) - 1)=RN (Q*2^(149+i)) (-149 - ((j+more+1:Nat):Int)):=by
  rw [←mM Q (149+i)]
  congr 1
  omega
 rw [Xw];have lo1:2^(a+149+more+j)≤Q*2^(149+i)*2^d:=by
  calc 2^(a+149+more+j)=2^a*(2^149*2^more*2^j):=by rw [Nat.pow_add,Nat.pow_add,Nat.pow_add];ac_rfl
   _≤m*2^i*(2^149*2^more*2^j):=Nat.mul_le_mul_right _ xl
   _=m*2^more*(2^i*2^149*2^j):=by ac_rfl
   _≤Q*n*(2^i*2^149*2^j):=Nat.mul_le_mul_right _ Vs.1
   _=Q*(2^149*2^i)*(n*2^j):=by ac_rfl
   _≤Q*(2^149*2^i)*2^d:=Nat.mul_le_mul_left _ yh
   _=Q*2^(149+i)*2^d:=by rw [Nat.pow_add]
 have lo2:2^(23+(j+more+1))≤Q*2^(149+i):=by
  refine Nat.le_of_mul_le_mul_right (c:=2^d) ?_ (bY d);refine Nat.le_trans ?_ lo1;rw [←Nat.pow_add];exact Nat.pow_le_pow_right (by omega) (by omega)
 have TO:Q*2^(149+i)*2^c≤2^(b+151+more+j):=by
  calc Q*2^(149+i)*2^c≤Q*2^(149+i)*(n*2^j):=Nat.mul_le_mul_left _ yl
   _=Q*n*(2^149*2^i*2^j):=by rw [Nat.pow_add];ac_rfl
   _≤4*(m*2^more)*(2^149*2^i*2^j):=Nat.mul_le_mul_right _ Vs.2
   _=m*2^i*(2^2*2^149*2^more*2^j):=by rw [show (4:Nat)=2^2 from rfl];ac_rfl
   _≤2^b*(2^2*2^149*2^more*2^j):=Nat.mul_le_mul_right _ xh
   _=2^(b+151+more+j):=by rw [←Nat.pow_add,←Nat.pow_add,←Nat.pow_add,←Nat.pow_add];congr 1;omega
 have Wg:Q*2^(149+i)≤2^(b+150 - c+(j+more+1)):=by
  refine Nat.le_of_mul_le_mul_right (c:=2^c) ?_ (bY c);refine Nat.le_trans TO ?_;rw [←Nat.pow_add];exact Nat.pow_le_pow_right (by omega) (by omega)
 have hle:=Fh (m:=b+150 - c) (s:=j+more+1) (by omega) (by omega) Wg;have Sh:pw (b+150 - c)≤2130706432:=by unfold pw;omega
 refine ⟨by omega,?_⟩;have n1:=Dk lo2 (by omega);generalize bQ (RN (Q*2^(149+i)) (-149 - ((j+more+1:Nat):Int)))=v at n1⊢;have n2:=(n1.xF n).trans (by
  have:=BN.xF (2^(149+i));rwa [Nat.mul_right_comm Q n (2^(149+i))] at this)
 refine dk.cancel (c:=2^(more+1)) ?_ (bY _);rw [v1,v2];have ea:v*2^(j+more+1)*n=v*(n*2^j)*2^(more+1):=by
  rw [show j+more+1=j+(more+1) by omega,Nat.pow_add];generalize 2^(more+1)=A;generalize 2^j=B
  ac_rfl
 have eb:2*(m*2^more)*2^(149+i)=m*2^i*2^149*2^(more+1):=by
  rw [Nat.pow_add,Nat.pow_succ 2 more];generalize 2^more=A;generalize 2^i=B;generalize 2^149=C
  ac_rfl
 rw [ea,eb] at n2;exact n2
end Go.Proofs
namespace Go.Proofs
open Go.Ide Go.IntWalk
theorem qw {m n i j:Nat}:(m*2^(-149+(i:Int) - min (-149+(i:Int)) (-149+(j:Int))).toNat≤n*2^(-149+(j:Int) - min (-149+(i:Int)) (-149+(j:Int))).toNat)↔m*2^i≤n*2^j:=by
 rw [show (-149+(i:Int) - min (-149+(i:Int)) (-149+(j:Int))).toNat=i - min i j by omega,show (-149+(j:Int) - min (-149+(i:Int)) (-149+(j:Int))).toNat=j - min i j by omega];exact Jp
theorem xW {x y:Nat}(hx:x≤2130706432)(hy:y≤2130706432):Ieee.single.order x y=some (compare ((bQ x:Nat):Int) ((bQ y:Nat):Int)):=by
 obtain ⟨m,i,e1,v1⟩:=gy hx;obtain ⟨n,j,e2,v2⟩:=gy hy;have:Ieee.single.order x y=some (compare (Ieee.signed false m (-149+(i:Int) - min (-149+(i:Int)) (-149+(j:Int))).toNat) (Ieee.signed false n (-149+(j:Int) - min (-149+(i:Int)) (-149+(j:Int))).toNat)):=by
  show Ieee.Datum.order (Ieee.single.read x) (Ieee.single.read y)=_;rw [e1,e2];rfl
 rw [this,bM,bM];have h1:=qw (m:=m) (n:=n) (i:=i) (j:=j);have h2:=qw (m:=n) (n:=m) (i:=j) (j:=i);rw [Int.min_comm] at h2;rw [←v1,←v2] at h1 h2;generalize m*2^(-149+(i:Int) - min (-149+(i:Int)) (-149+(j:Int))).toNat=A at*;generalize n*2^(-149+(j:Int) - min (-149+(i:Int)) (-149+(j:Int))).toNat=B at*;have cp:A<B↔bQ x<bQ y:=by rw [←Nat.not_le,←Nat.not_le];exact not_congr h2
 have heq:A=B↔bQ x=bQ y:=⟨fun h=>Nat.le_antisymm (h1.1 (Nat.le_of_eq h)) (h2.1 (Nat.le_of_eq h.symm)),fun h=>Nat.le_antisymm (h1.2 (Nat.le_of_eq h)) (h2.2 (Nat.le_of_eq h.symm))⟩;simp only [compare,compareOfLessAndEq,Int.ofNat_lt,Int.ofNat_inj,cp,heq]
theorem Vt {x y:Nat}(hx:x≤2130706432)(hy:y≤2130706432):pO .f32 x y=decide (bQ x≤bQ y):=by
 show (Ieee.single.order x y==some .lt||Ieee.single.order x y==some .eq)=_;rw [xW hx hy,Gz,decide_eq_decide];omega
theorem Vu {x y:Nat}(hx:x≤2130706432)(hy:y≤2130706432):sx .f32 x y=decide (bQ y≤bQ x):=by
 show (Ieee.single.order x y==some .gt||Ieee.single.order x y==some .eq)=_;rw [xW hx hy,Lb,decide_eq_decide];omega
theorem qx:bQ 0=0:=by decide
theorem Fi:bQ 1065353216=2^149:=by decide
theorem xd (mag:Nat)(p:Int):Ieee.single.nearest true mag p%2147483648=RN mag p:=by
 have hr:=zt mag p;unfold RN Ieee.Format.nearest at*;by_cases h0:mag=0;rw [if_pos h0,if_pos h0];decide;rw [if_neg h0] at hr⊢;rw [if_neg h0];have hw: ∀r,Ieee.single.word false r=r:=fun r=>rfl;simp only [qi,hw] at hr⊢;rw [qj (Nat.min_le_right _ _)];simp only [ry]
theorem JG {x y c:Nat}(hx:x≤2130706432)(hy:y≤2130706432)(hc:c≤2130706432)(h1:bQ x≤bQ y+bQ c)(h2:bQ y≤bQ x+bQ c):(aq .sub .f32 x y)%2147483648≤c:=by
 obtain ⟨m,i,e1,v1⟩:=gy hx;obtain ⟨n,j,e2,v2⟩:=gy hy;have H4:RN (bQ c) (-149)=c:=by rw [Lg (K:=254) (by unfold bd;omega) (by omega) (by omega),Nat.mod_eq_of_lt (by omega)]
 rw [rm e1 e2];simp only [Bool.not_false,bM,dB];have q8:min (-149+(i:Int)) (-149+(j:Int))= -149+((min i j:Nat):Int):=by omega
 have e3:(-149+(i:Int) - (-149+((min i j:Nat):Int))).toNat=i - min i j:=by omega
 have e4:(-149+(j:Int) - (-149+((min i j:Nat):Int))).toNat=j - min i j:=by omega
 rw [q8,e3,e4];have sA:bQ x=m*2^(i - min i j)*2^min i j:=by rw [v1,Nat.mul_assoc,←Nat.pow_add,show i - min i j+min i j=i by omega]
 have sB:bQ y=n*2^(j - min i j)*2^min i j:=by rw [v2,Nat.mul_assoc,←Nat.pow_add,show j - min i j+min i j=j by omega]
 generalize m*2^(i - min i j)=A at*;generalize n*2^(j - min i j)=B at*;have key: ∀d:Nat,d*2^min i j≤bQ c→RN d (-149+((min i j:Nat):Int))≤c:=fun d hd=>by
  have:=mM d (min i j) (-149+((min i j:Nat):Int));rw [show -149+((min i j:Nat):Int) - ((min i j:Nat):Int)= -149 by omega] at this;rw [←this];exact Nat.le_trans (sO hd) (Nat.le_of_eq H4)
 have hd:(((A:Nat):Int)+ -((B:Nat):Int)).natAbs*2^min i j≤bQ c:=by
  by_cases Vv:B≤A;rw [show (((A:Nat):Int)+ -((B:Nat):Int)).natAbs=A - B by omega,Nat.sub_mul];omega;rw [show (((A:Nat):Int)+ -((B:Nat):Int)).natAbs=B - A by omega,Nat.sub_mul];omega
 have hk:=key _ hd;generalize (((A:Nat):Int)+ -((B:Nat):Int)).natAbs=D at*;rw [lF (gG _ _ _) (Nat.le_refl _)];cases (if ((A:Nat):Int)+ -((B:Nat):Int)=0 then false&&true else decide (((A:Nat):Int)+ -((B:Nat):Int)<0)) with
 |false=>
  show RN D _%2147483648≤c;have:=zt D (-149+((min i j:Nat):Int));rw [Nat.mod_eq_of_lt (by omega)];exact hk
 |true=>rw [xd];exact hk
theorem Fj {z c:Nat}(hz:z%2147483648≤c)(hc:c≤2130706432):pO .f32 z c=true∧sx .f32 z (2147483648+c)=true:=by
 have hb:bd z 254:=by unfold bd;omega
 obtain ⟨m,i,e1,v1⟩:=ql hb (by omega) (by omega);obtain ⟨n,j,e2,v2⟩:=gy hc;have hbc:bd (2147483648+c) 254:=by unfold bd;omega
 obtain ⟨n',j',e3,v3⟩:=ql hbc (by omega) (by omega);have hs:((2147483648+c)/2147483648%2==1)=true:=by
  have:(2147483648+c)/2147483648=1:=by omega
  rw [this];rfl
 rw [hs] at e3;have hV:bQ z≤bQ c:=by
  have:bQ z=bQ (z%2147483648):=Lh (Nat.mod_mod _ _).symm;rw [this];exact qm (Nat.mod_lt _ (by omega)) (by omega) hz
 have hVc:bQ (2147483648+c)=bQ c:=Lh (by omega);constructor;rw [xR e1 e2];refine decide_eq_true ?_;have h1:=qw (m:=m) (n:=n) (i:=i) (j:=j);rw [←v1,←v2] at h1;have h1:=h1.2 hV;cases (z/2147483648%2==1) with
 |false=>rw [bM,bM];omega
 |true=>rw [dB,bM];omega
 rw [CQ e1 e3];refine decide_eq_true ?_;have h1:=qw (m:=m) (n:=n') (i:=i) (j:=j');rw [←v1,←v3,hVc] at h1;have h1:=h1.2 hV;cases (z/2147483648%2==1) with
 |false=>rw [bM,dB];omega
 |true=>rw [dB,dB];omega
theorem PY:bQ 981668463=8589935*2^116:=by decide
theorem Hi {s:Nat}(hs:s≤2130706432)(h:dk 40 (bQ s) (2^149)):sQ s=true:=by
 have h1:=h.le (by omega);have h2:=h.symm.le (by omega);have e:(2:Nat)^149=8589934592*2^116:=by decide
 have hz:=JG (x:=s) (y:=1065353216) (c:=981668463) hs (by omega) (by omega) (by
  rw [Fi,PY];rw [e] at h1 h2⊢;generalize 2^116=P at*;omega) (by
  rw [Fi,PY];rw [e] at h1 h2⊢;generalize 2^116=P at*;omega)
 have:=Fj hz (by omega);unfold sQ;rw [this.1];exact this.2
theorem wt {xs:List Nat}{b:Nat}(hb:23≤b)(hx: ∀i,i<xs.length→xs.getD i 0≤2130706432∧bQ (xs.getD i 0)≤2^b): ∀n,n≤xs.length→b+n≤274→
 cS xs n≤2130706432∧bQ (cS xs n)≤2^(b+n)∧dk n (bQ (cS xs n)) (oW (fun i=>bQ (xs.getD i 0)) n)∧ ∀i,i<n→xs.getD i 0≤cS xs n
 |0,_,_=>by
  refine ⟨by unfold cS;omega,?_,?_,fun i hi=>absurd hi (Nat.not_lt_zero i)⟩;unfold cS;rw [qx];exact Nat.zero_le _;unfold cS oW;rw [qx];exact dk.refl _ _
 |n+1,hn,hbn=>by
  obtain ⟨h1,h2,h3,h4⟩:=wt hb hx n (by omega) (by omega);obtain ⟨x1,x2⟩:=hx n (by omega);obtain ⟨q1,q2,q3,q4,q5⟩:=Mk (b:=b+n) h1 x1 (by omega) (by omega) h2 (Nat.le_trans x2 (Nat.pow_le_pow_right (by omega) (by omega)));refine ⟨q1,q2,?_,fun i hi=> ?_⟩;have:=q3.trans ((h3.add (dk.refl n (bQ (xs.getD n 0)))));rw [Nat.add_comm 1 n] at this;exact this;show xs.getD i 0≤aq .add .f32 (cS xs n) (xs.getD n 0);by_cases e:i=n;subst e;exact q5;exact Nat.le_trans (h4 i (by omega)) q4
theorem Sj {A B w r T:Nat}(hA:A=64*B)(h0:0<A)(l1:A≤w)(h5:w*A*10000≤r*T*10001)(l5:T*10000≤32*A*10001):B≤r:=by
 have h6:A*10000*10000≤r*32*10001*10001:=by
  refine Nat.le_of_mul_le_mul_right (c:=A) ?_ h0
  calc A*10000*10000*A=A*A*10000*10000:=by rw [Nat.mul_right_comm (A*10000) 10000 A,Nat.mul_right_comm A 10000 A]
   _≤w*A*10000*10000:=Nat.mul_le_mul_right _ (Nat.mul_le_mul_right _ (Nat.mul_le_mul_right _ l1))
   _≤r*T*10001*10000:=Nat.mul_le_mul_right _ h5
   _=r*(T*10000)*10001:=by rw [Nat.mul_right_comm (r*T) 10001 10000,Nat.mul_assoc r T 10000]
   _≤r*(32*A*10001)*10001:=Nat.mul_le_mul_right _ (Nat.mul_le_mul_left _ l5)
   _=r*32*10001*10001*A:=by rw [←Nat.mul_assoc,←Nat.mul_assoc,Nat.mul_right_comm (r*32) A 10001,Nat.mul_right_comm (r*32*10001) A 10001]
 omega
theorem Mn {T S A:Nat}(h1:T*10000≤S*10001)(h2:S≤4*(8*A)):T*10000≤32*A*10001:=by
 have h3:4*(8*A)=32*A:=by rw [←Nat.mul_assoc]
 rw [h3] at h2;exact Nat.le_trans h1 (Nat.mul_le_mul_right _ h2)
def Nz (x:Nat):Prop:=Rg 143 149 x
end Go.Proofs
namespace Go.Proofs
open Go.Ide Go.IntWalk
theorem sS {xs ys:List Nat}{i:Nat}:(xs++ys).getD i 0=if i<xs.length then xs.getD i 0 else ys.getD (i - xs.length) 0:=by
 split;rename_i h;rw [List.getD_eq_getElem?_getD,List.getElem?_append_left h,List.getD_eq_getElem?_getD];rename_i h;rw [List.getD_eq_getElem?_getD,List.getElem?_append_right (by omega),List.getD_eq_getElem?_getD]
theorem Fk {xs ys:List Nat}: ∀n,n≤xs.length→cS (xs++ys) n=cS xs n
 |0,_=>rfl
 |n+1,h=>by
  show aq .add .f32 (cS (xs++ys) n) ((xs++ys).getD n 0)=aq .add .f32 (cS xs n) (xs.getD n 0);rw [Fk n (by omega),sS,if_pos (by omega)]
theorem weight {x:Int}(h:0≤x∧x<5):Rg 149 152 (bK .f32 (ai .i64 (1:Int) x)):=by
 have hx:ai .i64 (1:Int) x=1+x:=lX (by omega);rw [hx];rcases (show x=0∨x=1∨x=2∨x=3∨x=4 by omega) with rfl|rfl|rfl|rfl|rfl
 rw [show bK .f32 (1+0)=1065353216 by decide];exact ⟨by decide,by decide,by decide⟩;rw [show bK .f32 (1+1)=1073741824 by decide];exact ⟨by decide,by decide,by decide⟩;rw [show bK .f32 (1+2)=1077936128 by decide];exact ⟨by decide,by decide,by decide⟩;rw [show bK .f32 (1+3)=1082130432 by decide];exact ⟨by decide,by decide,by decide⟩;rw [show bK .f32 (1+4)=1084227584 by decide];exact ⟨by decide,by decide,by decide⟩
structure kp (a b:Nat)(fs ss hs:List Nat):Prop where
 a4:a≤4
 ok:gU (a:Int) (b:Int) fs ss hs=true
 m:Model a b fs ss hs
 ef: ∀i,i<a→Nz (fs.getD i 0)
 es: ∀i j,i<a→j<a→Nz (ss.getD (i*a+j) 0)
 eh: ∀i j,i<a→j<b→Nz (hs.getD (i*b+j) 0)
theorem CO {a b i j:Nat}(hi:i<a)(hj:j<b):i*b+j<a*b:=by
 have:i*b+b≤a*b:=by rw [←Nat.succ_mul];exact Nat.mul_le_mul_right _ hi
 omega
section
variable {a b:Nat} {fs ss hs:List Nat}
def qG (a lo hi:Nat)(row:List Nat):Prop:= ∀i,i<a→Rg lo hi (row.getD i 0)
theorem qy {f:Nat→Nat}{t:Nat→Nat}{lo hi:Nat}(hb:23≤hi)(h0:f 0=0)(hs: ∀p,f (p+1)=aq .add .f32 (f p) (t p)): ∀n,(∀p,p<n→Rg lo hi (t p))→hi+n≤274→
 f n≤2130706432∧bQ (f n)≤2^(hi+n)∧dk n (bQ (f n)) (oW (fun p=>bQ (t p)) n)∧(1≤n→2^lo≤bQ (f n))
 |0,_,_=>by
  rw [h0,qx];exact ⟨by omega,Nat.zero_le _,dk.refl _ _,fun h=>absurd h (by omega)⟩
 |n+1,ht,hn=>by
  obtain ⟨h1,h2,h3,h4⟩:=qy hb h0 hs n (fun p hp=>ht p (by omega)) (by omega);have hx:=ht n (by omega);obtain ⟨q1,q2,q3,q4,q5⟩:=Mk (b:=hi+n) h1 hx.fin (by omega) (by omega) h2 (Nat.le_trans hx.hi (Nat.pow_le_pow_right (by omega) (by omega)));rw [hs];refine ⟨q1,q2,?_,fun _=> ?_⟩;have:=q3.trans (h3.add (dk.refl n (bQ (t n))));rw [Nat.add_comm 1 n] at this;exact this;exact Nat.le_trans hx.lo (qm (by have:=hx.fin;omega) (by omega) q5)
theorem oK (d:kp a b fs ss hs){row:List Nat}{c lo hi:Nat}(hc:c<b)(hr:qG a lo hi row)(h1:39≤lo)(h2:lo≤hi)(h3:hi≤250):qG a (lo - 12) (hi+4) (c8 a b ss hs row c):=fun j hj=>by
 have a4:=d.a4;rw [sR hj];have ht: ∀p,p<a→Rg (lo - 12) hi (aq .mul .f32 (aq .mul .f32 (row.getD p 0) (hs.getD (p*b+c) 0)) (ss.getD (p*a+j) 0)):=fun p hp=>by
  have m1:=(oh (hr p hp) (d.eh p c hp hc) (by omega) (by omega) (by omega) (by omega)).1;have m2:=(oh m1 (d.es p j hp hj) (by omega) (by omega) (by omega) (by omega)).1;exact m2.mono (by omega) (by omega)
 obtain ⟨q1,q2,_,q4⟩:=qy (f:=rH a b ss hs row c j) (by omega) rfl (fun p=>rfl) a ht (by omega);exact ⟨q1,q4 (by omega),Nat.le_trans q2 (Nat.pow_le_pow_right (by omega) (by omega))⟩
theorem Dl (d:kp a b fs ss hs){w:List Int}(hw:mF b w)(hl:w.length≤6): ∀i,i≤w.length→qG a (143 - 12*i) (149+4*i) (rowAt a b fs ss hs w i)
 |0,_=>fun i hi=>d.ef i hi
 |i+1,hi=>by
  obtain ⟨c,hc,lQ⟩:=hw i (by omega);have:=oK d lQ (Dl d hw hl i (by omega)) (by omega) (by omega) (by omega);rw [rowAt,hc,Int.toNat_natCast];exact fun j hj=>(this j hj).mono (by omega) (by omega)
end
end Go.Proofs
namespace Go.Proofs
open Go.Ide Go.IntWalk
section
variable {a b:Nat} {fs ss hs:List Nat}
end
end Go.Proofs
namespace Go.Proofs
open Go.Ide Go.IntWalk
def pG (u:Nat)(p:Int):Nat:=Ieee.double.nearest false u p
theorem zU (p:Int):pG 0 p=0:=by
 unfold pG Ieee.Format.nearest;rw [if_pos rfl];rfl
theorem sT (u s:Nat)(p:Int):pG (u*2^s) (p - s)=pG u p:=cI
theorem Iv (u:Nat)(p:Int):pG u p≤9218868437227405312:=by
 obtain ⟨r,hr,e⟩:=mY false u p;unfold pG;rw [e];exact hr
theorem Mo {u v:Nat}{p:Int}(h:u≤v):pG u p≤pG v p:=by
 by_cases h0:u=0;subst h0;rw [zU];exact Nat.zero_le _;have h1:v≠0:=by omega
 unfold pG Ieee.Format.nearest;rw [if_neg h0,if_neg h1];have hf:Ieee.double.fractionBits=52:=rfl;simp only [uO,tj,rq,hf];have X0:u.log2≤v.log2:=by
  have a:=Nat.log2_self_le h0;exact (Nat.le_log2 h1).2 (by omega)
 have hw: ∀r,Ieee.double.word false r=r:=fun r=>rfl;rw [hw,hw];refine Nat.le_min.2 ⟨?_,Nat.min_le_right _ _⟩;refine Nat.le_trans (Nat.min_le_left _ _) ?_;by_cases he:max (p+(u.log2:Int) - ((52:Nat):Int)) (-1074)=max (p+(v.log2:Int) - ((52:Nat):Int)) (-1074);rw [he];refine Nat.add_le_add_left (EP ?_) _;rw [Nat.shiftLeft_eq,Nat.shiftLeft_eq];exact Nat.mul_le_mul_right _ h;have hk:=sM (neg:=false) (mag:=u) (f:=52) (p:=p) (last:=max (p+(u.log2:Int) - ((52:Nat):Int)) (-1074)) (by omega);have fi:=sN (neg:=false) (mag:=v) (f:=52) (p:=p) (last:=max (p+(v.log2:Int) - ((52:Nat):Int)) (-1074)) h1 (by omega);have GB:(2:Nat)^(52+1)=9007199254740992:=by decide
 have GC:(2:Nat)^52=4503599627370496:=by decide
 rw [GB] at hk;rw [GC] at fi;have hl:(max (p+(u.log2:Int) - ((52:Nat):Int)) (-1074) - -1074).toNat+1≤(max (p+(v.log2:Int) - ((52:Nat):Int)) (-1074) - -1074).toNat:=by omega
 have:=Nat.mul_le_mul_right 4503599627370496 hl;omega
def eO (x:Nat):Nat:=if x%9223372036854775808<4503599627370496 then x%9223372036854775808 else (4503599627370496+x%9223372036854775808%4503599627370496)*2^(x%9223372036854775808/4503599627370496 - 1)
theorem Dm {x K:Nat}(h:DS x K)(h2:2≤K)(h3:K≤2046): ∃m i,Ieee.double.read x= .number (x/9223372036854775808%2==1) m (-1074+((i:Nat):Int))∧eO x=m*2^i:=by
 unfold DS at h;unfold eO;by_cases pd:x%9223372036854775808<4503599627370496;exact ⟨_,0,EM pd,by rw [if_pos pd,Nat.pow_zero,Nat.mul_one]⟩;exact ⟨_,_,EN (by omega) (by omega),by rw [if_neg pd]⟩
theorem Dn {x y:Nat}(hx:x<9223372036854775808)(hy:y<9223372036854775808)(h:x≤y):eO x≤eO y:=by
 unfold eO;rw [Nat.mod_eq_of_lt hx,Nat.mod_eq_of_lt hy];by_cases h1:x<4503599627370496;rw [if_pos h1];by_cases h2:y<4503599627370496;rw [if_pos h2];exact h;rw [if_neg h2];have:=Nat.mul_le_mul (show 4503599627370496≤4503599627370496+y%4503599627370496 by omega) (show 1≤2^(y/4503599627370496 - 1) from bY _);omega;rw [if_neg h1,if_neg (by omega)];by_cases hq:x/4503599627370496=y/4503599627370496;rw [hq];exact Nat.mul_le_mul_right _ (by omega);have cp:x/4503599627370496<y/4503599627370496:=by omega
 have e1:(4503599627370496+x%4503599627370496)*2^(x/4503599627370496 - 1)≤9007199254740992*2^(x/4503599627370496 - 1):=Nat.mul_le_mul_right _ (by omega);have e2:9007199254740992*2^(x/4503599627370496 - 1)=4503599627370496*2^(x/4503599627370496):=by
  obtain ⟨q,yB⟩: ∃q,x/4503599627370496=q+1:=⟨x/4503599627370496 - 1,by omega⟩;rw [yB,Nat.add_sub_cancel,Nat.pow_succ];omega
 have e3:4503599627370496*2^(x/4503599627370496)≤4503599627370496*2^(y/4503599627370496 - 1):=Nat.mul_le_mul_left _ (Nat.pow_le_pow_right (by omega) (by omega));have e4:4503599627370496*2^(y/4503599627370496 - 1)≤(4503599627370496+y%4503599627370496)*2^(y/4503599627370496 - 1):=Nat.mul_le_mul_right _ (by omega);omega
theorem Vw {x K:Nat}(h:DS x K)(h2:2≤K)(h3:K≤2046):pG (eO x) (-1074)=x%9223372036854775808:=by
 have hb:DS (x%9223372036854775808) K:=by unfold DS at*;rwa [Nat.mod_mod]
 obtain ⟨m,i,e,hv⟩:=Dm hb h2 h3;have cp:x%9223372036854775808<9223372036854775808:=Nat.mod_lt _ (by omega);rw [Nat.div_eq_of_lt cp] at e;have hn:=A4 (x:=x%9223372036854775808) (by omega) e;have hV:eO (x%9223372036854775808)=eO x:=by unfold eO;rw [Nat.mod_mod]
 rw [←hV,hv];have:=sT m i (-1074+(i:Int));rw [show -1074+(i:Int) - (i:Int)= -1074 by omega] at this;rw [this];exact hn
theorem JH (u:Nat)(p:Int):bz .f64 (pG u p)=pG u p:=vQ (ru _ _ _) (Nat.le_refl _)
theorem Sk {x y:Nat}(h:x%9223372036854775808=y%9223372036854775808):eO x=eO y:=by unfold eO;rw [h]
theorem Dp {t k:Nat}(h1:4503599627370496≤k)(h2:k≤9007199254740992)(h3:t*4503599627370496+k<9223372036854775808):eO (t*4503599627370496+k)=k*2^t:=by
 unfold eO;rw [Nat.mod_eq_of_lt h3,if_neg (by omega)];by_cases e:k=9007199254740992;subst e;rw [show (t*4503599627370496+9007199254740992)%4503599627370496=0 by omega,show (t*4503599627370496+9007199254740992)/4503599627370496 - 1=t+1 by omega,Nat.pow_succ];omega;rw [show (t*4503599627370496+k)%4503599627370496=k - 4503599627370496 by omega,show (t*4503599627370496+k)/4503599627370496 - 1=t by omega,show 4503599627370496+(k - 4503599627370496)=k by omega]
theorem Hj {k d t s u:Nat}(h1:4503599627370496≤k)(h2:k≤9007199254740992)(hc:2*(k*2^d)≤2*u+2^d∧2*u≤2*(k*2^d)+2^d)(hf:min (t*4503599627370496+k) 9218868437227405312<9218868437227405312)(hd:t+s=d):dk 1 (eO (min (t*4503599627370496+k) 9218868437227405312)*2^s) u:=by
 obtain ⟨hm,cp⟩:=u0 hf;rw [hm,Dp h1 h2 (Nat.lt_trans cp (by decide)),Nat.mul_assoc,←Nat.pow_add,hd];exact BM (Nat.le_trans (by decide) h1) hc
theorem Mp {u s:Nat}(h:2^(52+s)≤u)(hf:pG u (-1074 - (s:Int))<9218868437227405312):dk 1 (eO (pG u (-1074 - (s:Int)))*2^s) u:=by
 have h0:u≠0:=by have:=bY (52+s);omega
 have hl:52+s≤u.log2:=(Nat.le_log2 h0).2 h;have hk:=sN (neg:=false) (mag:=u) (f:=52) (p:= -1074 - (s:Int)) (last:= -1074 - (s:Int)+(u.log2:Int) - ((52:Nat):Int)) h0 rfl;have fi:=sM (neg:=false) (mag:=u) (f:=52) (p:= -1074 - (s:Int)) (last:= -1074 - (s:Int)+(u.log2:Int) - ((52:Nat):Int)) (by omega);have GB:(2:Nat)^(52+1)=9007199254740992:=by decide
 have GC:(2:Nat)^52=4503599627370496:=by decide
 rw [GC] at hk;rw [GB] at fi;have oq:Ieee.double.fractionBits=52:=rfl;have lA:max (-1074 - (s:Int)+(u.log2:Int) - ((52:Nat):Int)) (-1074)= -1074 - (s:Int)+(u.log2:Int) - ((52:Nat):Int):=by omega
 have e1:(-1074 - (s:Int) - (-1074 - (s:Int)+(u.log2:Int) - ((52:Nat):Int))).toNat=0:=by omega
 have e2:(-1074 - (s:Int)+(u.log2:Int) - ((52:Nat):Int) - (-1074 - (s:Int))).toNat=u.log2 - 52:=by omega
 have e3:(-1074 - (s:Int)+(u.log2:Int) - ((52:Nat):Int) - -1074).toNat=u.log2 - 52 - s:=by omega
 rw [e1,e2,Nat.shiftLeft_zero] at hk fi;have hR:pG u (-1074 - (s:Int))=min ((u.log2 - 52 - s)*4503599627370496+Ieee.Toward.cut .even false u (u.log2 - 52)) 9218868437227405312:=by
  unfold pG Ieee.Format.nearest;rw [if_neg h0];have hw: ∀r,Ieee.double.word false r=r:=fun r=>rfl;simp only [uO,tj,rq,oq];rw [hw,lA,e1,e2,e3,Nat.shiftLeft_zero]
 rw [hR] at hf⊢;exact Hj hk fi (mQ u (u.log2 - 52)) hf (by omega)
def Iw (m:Nat):Nat:=(m - 51)*4503599627370496
theorem Ix {m:Nat}(h1:52≤m)(h2:m≤2097):eO (Iw m)=2^m:=by
 unfold eO Iw;rw [Nat.mod_eq_of_lt (by omega),if_neg (by omega),show (m - 51)*4503599627370496%4503599627370496=0 by omega,show (m - 51)*4503599627370496/4503599627370496 - 1=m - 52 by omega,Nat.add_zero,show (4503599627370496:Nat)=2^52 from rfl,←Nat.pow_add,show 52+(m - 52)=m by omega]
theorem Sl {m s:Nat}(h1:52≤m)(h2:m≤2097):pG (2^(m+s)) (-1074 - (s:Int))=Iw m:=by
 rw [Nat.pow_add,sT,←Ix h1 h2];have hb:DS (Iw m) (m - 51):=by unfold DS Iw;omega
 by_cases e:m=52;subst e;decide;rw [Vw hb (by omega) (by omega)];exact Nat.mod_eq_of_lt (by unfold Iw;omega)
theorem Mq {u m s:Nat}(h1:52≤m)(h2:m≤2097)(h:u≤2^(m+s)):pG u (-1074 - (s:Int))≤Iw m:=by
 rw [←Sl (s:=s) h1 h2];exact Mo h
theorem BO {x:Nat}(h:x≤9214364837600034816): ∃m i,Ieee.double.read x= .number false m (-1074+((i:Nat):Int))∧eO x=m*2^i:=by
 have hb:DS x 2046:=by unfold DS;omega
 obtain ⟨m,i,e,v⟩:=Dm hb (by omega) (by omega);have:(x/9223372036854775808%2==1)=false:=by rw [Nat.div_eq_of_lt (by omega)];rfl
 rw [this] at e;exact ⟨m,i,e,v⟩
theorem Mr {x y:Nat}(hx:x≤9214364837600034816)(hy:y≤9214364837600034816):aq .mul .f64 x y=pG (eO x*eO y) (-1074 - ((1074:Nat):Int)):=by
 obtain ⟨m,i,e1,v1⟩:=BO hx;obtain ⟨n,j,e2,v2⟩:=BO hy;have e3:floatBits .mul .f64 x y=some (pG (m*n) (-2148+((i+j:Nat):Int))):=by
  show Ieee.double.mul x y=_;unfold Ieee.Format.mul;rw [e1,e2];show some (Ieee.double.nearest _ (m*n) (-1074+(i:Int)+(-1074+(j:Int))))=_;rw [show -1074+(i:Int)+(-1074+(j:Int))= -2148+((i+j:Nat):Int) by omega];rfl
 unfold aq;rw [e3];simp only;rw [JH,v1,v2];have:=sT (m*n) (i+j) (-2148+((i+j:Nat):Int));rw [show -2148+((i+j:Nat):Int) - ((i+j:Nat):Int)= -1074 - ((1074:Nat):Int) by omega] at this;rw [←this]
 congr 1
 rw [Nat.pow_add];ac_rfl
theorem Dq (mag:Nat)(p:Int):Ieee.double.nearest true mag p%9223372036854775808=pG mag p:=by
 have hr:=Iv mag p;unfold pG Ieee.Format.nearest at*;by_cases h0:mag=0;rw [if_pos h0,if_pos h0];decide;rw [if_neg h0] at hr⊢;rw [if_neg h0];have hw: ∀r,Ieee.double.word false r=r:=fun r=>rfl;simp only [rq,hw] at hr⊢;rw [w5 (Nat.min_le_right _ _)];simp only [ry]
end Go.Proofs
namespace Go.Proofs
open Go.Ide Go.IntWalk
theorem Ms {x k:Nat}(hk:k=925)(hx:x≤2130706432):aS .f32 .f64 x=pG (bQ x*2^k) (-1074):=by
 obtain ⟨m,i,e,v⟩:=gy hx;have h1:aS .f32 .f64 x=pG m (-149+(i:Int)):=by
  unfold aS;rw [if_neg (by decide)];have e':FloatKind.decode .f32 x= .number false m (-149+(i:Int)):=e;rw [e'];show bz .f64 (Ieee.double.nearest false m (-149+(i:Int)))=_;exact vQ (ru _ _ _) (Nat.le_refl _)
 rw [h1,v];have:=sT m (i+k) (-149+(i:Int));rw [show -149+(i:Int) - ((i+k:Nat):Int)= -1074 by omega,Nat.pow_add,←Nat.mul_assoc] at this;exact this.symm
theorem zV (u:Nat):pG u (-1074)=pG u (-1074 - ((0:Nat):Int)):=by rw [show (-1074:Int) - ((0:Nat):Int)= -1074 by omega]
theorem OS {x k b:Nat}(hk:k=925)(hx:x≤2130706432)(hb:bQ x≤2^b)(o5:b≤276):aS .f32 .f64 x≤9214364837600034816∧eO (aS .f32 .f64 x)≤2^(b+k)∧dk 1 (eO (aS .f32 .f64 x)) (bQ x*2^k):=by
 rw [Ms hk hx];have hle:pG (bQ x*2^k) (-1074)≤Iw (b+k):=by
  rw [zV];refine Mq (by omega) (by omega) ?_;rw [Nat.add_zero,Nat.pow_add];exact Nat.mul_le_mul_right _ hb
 have Sh:Iw (b+k)≤9214364837600034816:=by unfold Iw;omega
 refine ⟨by omega,?_,?_⟩;rw [←Ix (m:=b+k) (by omega) (by omega)];exact Dn (by omega) (by omega) hle;by_cases h0:bQ x=0;rw [h0,Nat.zero_mul,zU];exact dk.of_eq (by unfold eO;decide);have h1:2^(52+0)≤bQ x*2^k:=by
  have:2^52≤2^k:=Nat.pow_le_pow_right (by omega) (by omega);have h2:1*2^k≤bQ x*2^k:=Nat.mul_le_mul_right _ (by omega);rw [Nat.one_mul] at h2;exact Nat.le_trans this h2
 have:=Mp (s:=0) h1 (by rw [←zV];omega);rw [←zV,Nat.pow_zero,Nat.mul_one] at this;exact this
theorem OT:eO 0=0:=by unfold eO;decide
end Go.Proofs
namespace Go.Proofs
open Go.Ide Go.IntWalk
theorem u7 {M k d s u:Nat}(hp:0<2^d)(hc:2*(k*2^d)≤2*u+2^d∧2*u≤2*(k*2^d)+2^d)(hu:2^d*M≤u+2^s*M):
 k*2^d*(2*M)≤u*(2*M)+u+2^s*M∧u*(2*M)≤k*2^d*(2*M)+u+2^s*M:=by
 generalize 2^d=g at*;generalize k*g=K at*;generalize 2^s=t at*;have a:=Nat.mul_le_mul_right M hc.1;have b:=Nat.mul_le_mul_right M hc.2;rw [Nat.add_mul,Nat.mul_assoc,Nat.mul_assoc] at a b;have e1:K*(2*M)=2*(K*M):=by rw [Nat.mul_left_comm]
 have e2:u*(2*M)=2*(u*M):=by rw [Nat.mul_left_comm]
 rw [e1,e2];omega
theorem OU {u s:Nat}(hf:pG u (-1074 - (s:Int))<9218868437227405312):
 eO (pG u (-1074 - (s:Int)))*2^s*9007199254740992≤u*9007199254740992+u+2^s*4503599627370496∧u*9007199254740992≤eO (pG u (-1074 - (s:Int)))*2^s*9007199254740992+u+2^s*4503599627370496:=by
 by_cases h0:u=0;subst h0;rw [zU,OT];omega;have fi:=sM (neg:=false) (mag:=u) (f:=52) (p:= -1074 - (s:Int)) (last:=max (-1074 - (s:Int)+(u.log2:Int) - ((52:Nat):Int)) (-1074)) (by omega);have GB:(2:Nat)^(52+1)=9007199254740992:=by decide
 have GC:(2:Nat)^52=4503599627370496:=by decide
 rw [GB] at fi;have oq:Ieee.double.fractionBits=52:=rfl;by_cases hl:52+s≤u.log2;have hk:=sN (neg:=false) (mag:=u) (f:=52) (p:= -1074 - (s:Int)) (last:= -1074 - (s:Int)+(u.log2:Int) - ((52:Nat):Int)) h0 rfl;have lA:max (-1074 - (s:Int)+(u.log2:Int) - ((52:Nat):Int)) (-1074)= -1074 - (s:Int)+(u.log2:Int) - ((52:Nat):Int):=by omega
 rw [lA] at fi;rw [GC] at hk;have e1:(-1074 - (s:Int) - (-1074 - (s:Int)+(u.log2:Int) - ((52:Nat):Int))).toNat=0:=by omega
 have e2:(-1074 - (s:Int)+(u.log2:Int) - ((52:Nat):Int) - (-1074 - (s:Int))).toNat=u.log2 - 52:=by omega
 have e3:(-1074 - (s:Int)+(u.log2:Int) - ((52:Nat):Int) - -1074).toNat=u.log2 - 52 - s:=by omega
 rw [e1,e2,Nat.shiftLeft_zero] at hk fi;have hR:pG u (-1074 - (s:Int))=min ((u.log2 - 52 - s)*4503599627370496+Ieee.Toward.cut .even false u (u.log2 - 52)) 9218868437227405312:=by
  unfold pG Ieee.Format.nearest;rw [if_neg h0];have hw: ∀r,Ieee.double.word false r=r:=fun r=>rfl;simp only [uO,tj,rq,oq];rw [hw,lA,e1,e2,e3,Nat.shiftLeft_zero]
 rw [hR] at hf⊢;obtain ⟨hm,cp⟩:=u0 hf;rw [hm,Dp hk fi (Nat.lt_trans cp (by decide)),Nat.mul_assoc (Ieee.Toward.cut _ _ _ _),←Nat.pow_add,show u.log2 - 52 - s+s=u.log2 - 52 by omega];have Vx:=Nat.log2_self_le h0;have:=u7 (M:=4503599627370496) (s:=s) (bY (u.log2 - 52)) (mQ u (u.log2 - 52)) (by
  have e:2^(u.log2 - 52)*4503599627370496=2^u.log2:=by rw [←GC,←Nat.pow_add];congr 1;omega
  rw [e];omega)
 exact this;have lA:max (-1074 - (s:Int)+(u.log2:Int) - ((52:Nat):Int)) (-1074)= -1074:=by omega
 rw [lA] at fi;have e1:(-1074 - (s:Int) - -1074).toNat=0:=by omega
 have e2:((-1074:Int) - (-1074 - (s:Int))).toNat=s:=by omega
 have e3:((-1074:Int) - -1074).toNat=0:=by omega
 rw [e1,e2,Nat.shiftLeft_zero] at fi;have hR:pG u (-1074 - (s:Int))=min (Ieee.Toward.cut .even false u s) 9218868437227405312:=by
  unfold pG Ieee.Format.nearest;rw [if_neg h0];have hw: ∀r,Ieee.double.word false r=r:=fun r=>rfl;simp only [uO,tj,rq,oq];rw [hw,lA,e1,e2,e3,Nat.shiftLeft_zero,Nat.zero_mul,Nat.zero_add]
 have ZY:Ieee.Toward.cut .even false u s≤4503599627370496:=by
  have h1:u<2^(52+s):=(Nat.log2_lt h0).1 (by omega);have h2:=(mQ u s).1;rw [Nat.pow_add,GC] at h1;have hp:=bY s;generalize 2^s=g at*;apply Nat.le_of_lt_succ;apply Nat.lt_of_mul_lt_mul_right (a:=g);rw [Nat.succ_mul];omega
 rw [hR,Nat.min_eq_left (by omega)];have hV:eO (Ieee.Toward.cut .even false u s)=Ieee.Toward.cut .even false u s:=by
  have:=Dp (t:=0) (k:=4503599627370496) (by omega) (by omega) (by omega);by_cases e:Ieee.Toward.cut .even false u s=4503599627370496;rw [e];rw [Nat.zero_mul,Nat.zero_add,Nat.pow_zero,Nat.mul_one] at this;exact this;unfold eO;rw [Nat.mod_eq_of_lt (by omega),if_pos (by omega)]
 rw [hV];exact u7 (M:=4503599627370496) (s:=s) (bY s) (mQ u s) (by omega)
end Go.Proofs
namespace Go.Proofs
open Go.Ide Go.IntWalk
def kD:Nat:=1074
theorem Mt:1000≤kD:=by decide
theorem Mu:kD≤1074:=by decide
theorem zW:((kD:Nat):Int)=1074:=rfl
attribute [irreducible] kD
theorem Mv:Iw (26+kD)≤9214364837600034816:=Nat.le_trans (Nat.mul_le_mul_right _ (show 26+kD - 51≤2000 by have:=Mu;omega)) (by decide)
def UD:Rat:=((2^kD:Nat):Rat)
theorem uc {n:Nat}(h:0<n):(0:Rat)<(n:Rat):=by
 have:=(Rat.natCast_lt_natCast (a:=0) (b:=n)).2 h;simpa using this
theorem jz (k:Nat):(0:Rat)<((2^k:Nat):Rat):=uc (bY k)
theorem oX:0<UD:=jz kD
def sg (b:Bool)(r:Rat):Rat:=if b then -r else r
def wD (x:Nat):Rat:=sg (x/9223372036854775808%2==1) ((eO x:Nat):Rat)/UD
def je (e a b:Rat):Prop:=a≤b+e∧b≤a+e
theorem cF {a b:Nat}(h:a≤b):(a:Rat)≤(b:Rat):=Rat.natCast_le_natCast.2 h
theorem Hk (neg:Bool)(u:Nat)(p:Int):Ieee.double.nearest neg u p=(if neg then 9223372036854775808 else 0)+pG u p:=by
 cases neg with
 |false=>simp only [Bool.false_eq_true,if_false,Nat.zero_add];rfl
 |true=>
  have h:=Dq u p;obtain ⟨r,hr,e⟩:=mY true u p;have e2:Ieee.double.word true r=9223372036854775808+r:=by unfold Ieee.Format.word;rw [if_pos rfl,zr]
  rw [e,e2] at h⊢;rw [if_pos rfl,←h];omega
theorem Hl {neg:Bool}{r:Nat}(h:r<9223372036854775808):(((if neg then 9223372036854775808 else 0)+r)/9223372036854775808%2==1)=neg:=by
 cases neg with
 |false=>simp only [Bool.false_eq_true,if_false,Nat.zero_add];rw [Nat.div_eq_of_lt h];rfl
 |true=>
  rw [if_pos rfl,show (9223372036854775808+r)/9223372036854775808=1 by omega];rfl
theorem Hm {neg:Bool}{r:Nat}:eO ((if neg then 9223372036854775808 else 0)+r)=eO r:=by
 apply Sk;cases neg<;>simp
def FD (x:Nat):Prop:=DS x 2046∧eO x≤2^(26+kD)
theorem Sm:(1393796574908163946345982392040522594123776:Rat)≤UD:=by
 have h:2^140≤2^kD:=Nat.pow_le_pow_right (by omega) (Nat.le_trans (by omega) Mt);have:=cF h;unfold UD;exact this
theorem Iy {neg:Bool}{u s:Nat}{v e:Rat}(hv:sg neg ((u:Rat)/(UD*((2^s:Nat):Rat)))=v)(td:1/1152921504606846976≤e)(qB:e≤67108864)(v1: -e≤v)(v2:v≤e):
 FD (Ieee.double.nearest neg u (-1074 - (s:Int)))∧je (e/4503599627370496) (wD (Ieee.double.nearest neg u (-1074 - (s:Int)))) v:=by
 have hp:=jz s;have hU:=oX;have hUb:=Sm;have DM:=Mt;have fi:=Mu;have Sn:0<UD*((2^s:Nat):Rat):=Rat.mul_pos hU hp;have hb:(u:Rat)/(UD*((2^s:Nat):Rat))≤e:=by
  unfold sg at hv;cases neg;simp only [Bool.false_eq_true,if_false] at hv;grind;simp only [if_true] at hv;grind
 have hu:u≤2^((26+kD)+s):=by
  have h1:(u:Rat)≤67108864*(UD*((2^s:Nat):Rat)):=by
   have e2:(u:Rat)/(UD*((2^s:Nat):Rat))*(UD*((2^s:Nat):Rat))=(u:Rat):=by
    generalize UD*((2^s:Nat):Rat)=z at*;grind
   rw [←e2];exact Rat.mul_le_mul_of_nonneg_right (Rat.le_trans hb qB) (Rat.le_of_lt Sn)
  have h2:(67108864:Rat)*(UD*((2^s:Nat):Rat))=((2^((26+kD)+s):Nat):Rat):=by
   rw [Nat.pow_add,Nat.pow_add,Rat.natCast_mul,Rat.natCast_mul,Rat.mul_assoc];rfl
  rw [h2] at h1;exact Rat.natCast_le_natCast.1 h1
 have hle:pG u (-1074 - (s:Int))≤Iw (26+kD):=Mq (by omega) (by omega) hu;have Sh:=Mv;obtain ⟨h1,h2⟩:=OU (u:=u) (s:=s) (by omega);rw [Hk];have hV:eO (pG u (-1074 - (s:Int)))≤2^(26+kD):=by
  rw [←Ix (m:=26+kD) (by omega) (by omega)];exact Dn (by omega) (by omega) hle
 have hr:pG u (-1074 - (s:Int))≤9214364837600034816:=by omega
 clear hu hle Sh;refine ⟨⟨?_,?_⟩,?_⟩;unfold DS;cases neg;simp only [Bool.false_eq_true,if_false];omega;simp only [if_true];omega;rw [Hm];exact hV;clear hV;unfold wD;rw [Hl (by omega),Hm];generalize eO (pG u (-1074 - (s:Int)))=V at*;have n1:=cF h1;have n2:=cF h2;simp only [Rat.natCast_mul,Rat.natCast_add] at n1 n2;clear h1 h2 hr;unfold je;generalize ((2^s:Nat):Rat)=P at*;generalize UD=U at*;generalize (u:Rat)=x at*;generalize (V:Rat)=y at*;have c1:(((9007199254740992:Nat):Rat))=9007199254740992:=rfl;have c2:(((4503599627370496:Nat):Rat))=4503599627370496:=rfl;rw [c1,c2] at n1 n2;have e1:y/U*(U*P)=y*P:=by grind
 have e2:x/(U*P)*(U*P)=x:=by grind
 have e3:1/(2*U)*(U*P)=P/2:=by grind
 have main:y/U≤x/(U*P)+(x/(U*P)/9007199254740992+1/(2*U))∧x/(U*P)≤y/U+(x/(U*P)/9007199254740992+1/(2*U)):=by
  constructor;refine Rat.le_of_mul_le_mul_right ?_ Sn;have:(x/(U*P)+(x/(U*P)/9007199254740992+1/(2*U)))*(U*P)=x+x/9007199254740992+P/2:=by grind
  rw [this,e1];grind;refine Rat.le_of_mul_le_mul_right ?_ Sn;have:(y/U+(x/(U*P)/9007199254740992+1/(2*U)))*(U*P)=y*P+x/9007199254740992+P/2:=by grind
  rw [this,e2];grind
 have hd:1/(2*U)≤1/1393796574908163946345982392040522594123776:=by
  refine Rat.le_of_mul_le_mul_right ?_ (c:=2*U) (by grind);have:1/(2*U)*(2*U)=1:=by grind
  rw [this];grind
 have ZZ:sg neg y/U=sg neg (y/U):=by
  unfold sg;cases neg;simp;simp only [if_true];grind
 rw [ZZ];obtain ⟨m1,m2⟩:=main;generalize y/U=a at*;generalize x/(U*P)=b at*;generalize 1/(2*U)=d at*;unfold sg at hv⊢;cases neg;simp only [Bool.false_eq_true,if_false] at hv⊢;constructor<;>grind;simp only [if_true] at hv⊢;constructor<;>grind
theorem sgC {b:Bool}{r c:Rat}:sg b r/c=sg b (r/c):=by
 unfold sg;cases b;simp;simp only [if_true];grind
theorem om {x:Nat}(h:FD x): ∃sn m i,Ieee.double.read x= .number sn m (-1074+((i:Nat):Int))∧wD x=sg sn (((m*2^i:Nat):Rat)/UD)∧eO x=m*2^i:=by
 obtain ⟨m,i,e,v⟩:=Dm h.1 (by omega) (by omega);refine ⟨_,m,i,e,?_,v⟩;unfold wD;rw [sgC,v]
theorem xe {b:Bool}{m:Nat}:sg b (m:Rat)=(((if b then -(m:Int) else (m:Int)):Int):Rat):=by
 unfold sg;cases b;simp only [Bool.false_eq_true,if_false];rfl;simp only [if_true];rw [Rat.intCast_neg];rfl
theorem lb (b:Bool)(m u:Nat):Ieee.signed b m u=if b then -((m*2^u:Nat):Int) else ((m*2^u:Nat):Int):=by
 cases b;rw [bM];rfl;rw [dB];rfl
theorem Vy {s t:Bool}{m n i j:Nat}{neg:Bool}{z:Int}{e v:Rat}(hz:z=Ieee.signed s m ((-1074+(i:Int)) - min (-1074+(i:Int)) (-1074+(j:Int))).toNat+Ieee.signed t n ((-1074+(j:Int)) - min (-1074+(i:Int)) (-1074+(j:Int))).toNat)(zp:z≠0→neg=decide (z<0))(hv:v=sg s (((m*2^i:Nat):Rat)/UD)+sg t (((n*2^j:Nat):Rat)/UD))(td:1/1152921504606846976≤e)(qB:e≤67108864)(v1: -e≤v)(v2:v≤e):
 FD (Ieee.double.nearest neg z.natAbs (min (-1074+(i:Int)) (-1074+(j:Int))))∧je (e/4503599627370496) (wD (Ieee.double.nearest neg z.natAbs (min (-1074+(i:Int)) (-1074+(j:Int))))) v:=by
 have q8:min (-1074+(i:Int)) (-1074+(j:Int))= -1074+((min i j:Nat):Int):=by omega
 have e3:(-1074+(i:Int) - (-1074+((min i j:Nat):Int))).toNat=i - min i j:=by omega
 have e4:(-1074+(j:Int) - (-1074+((min i j:Nat):Int))).toNat=j - min i j:=by omega
 rw [q8] at hz⊢;rw [e3,e4,lb,lb] at hz;have sA:m*2^i=m*2^(i - min i j)*2^min i j:=by rw [Nat.mul_assoc,←Nat.pow_add,show i - min i j+min i j=i by omega]
 have sB:n*2^j=n*2^(j - min i j)*2^min i j:=by rw [Nat.mul_assoc,←Nat.pow_add,show j - min i j+min i j=j by omega]
 have sc:=cI (f:=Ieee.double) (neg:=neg) (mag:=z.natAbs) (s:=min i j) (place:= -1074+((min i j:Nat):Int));rw [show -1074+((min i j:Nat):Int) - ((min i j:Nat):Int)= -1074 - ((0:Nat):Int) by omega] at sc;rw [←sc];rw [sA,sB] at hv;generalize m*2^(i - min i j)=A at*;generalize n*2^(j - min i j)=B at*;refine Iy ?_ td qB v1 v2;rw [hv,Nat.pow_zero];have hU:=oX;have key:sg neg ((z.natAbs:Nat):Rat)=sg s (A:Rat)+sg t (B:Rat):=by
  suffices yA:(if neg then -((z.natAbs:Nat):Int) else ((z.natAbs:Nat):Int))=(if s then -((A:Nat):Int) else ((A:Nat):Int))+(if t then -((B:Nat):Int) else ((B:Nat):Int)) by
   rw [xe,xe,xe,←Rat.intCast_add,yA]
  rw [←hz];clear hv v1 v2 sc;by_cases h0:z=0;rw [h0];cases neg<;>rfl;rw [zp h0];by_cases h1:z<0;rw [decide_eq_true h1,if_pos rfl];omega;rw [decide_eq_false h1];simp only [Bool.false_eq_true,if_false];omega
 rw [Rat.natCast_mul,Rat.natCast_mul,Rat.natCast_mul];generalize ((2^min i j:Nat):Rat)=P;generalize ((z.natAbs:Nat):Rat)=x at*;generalize (A:Rat)=a at*;generalize (B:Rat)=b at*;generalize UD=U at*;have c1:((1:Nat):Rat)=1:=rfl;rw [c1];unfold sg at key⊢;cases neg<;>cases s<;>cases t<;>simp only [Bool.false_eq_true,if_false,if_true] at key⊢ <;>grind
theorem u9 {x:Nat}(h:FD x):bz .f64 x=x:=vQ h.1 (by omega)
theorem OV {x y:Nat}{e:Rat}(hx:FD x)(hy:FD y)(td:1/1152921504606846976≤e)(qB:e≤67108864)(v1: -e≤wD x+wD y)(v2:wD x+wD y≤e):
 FD (aq .add .f64 x y)∧je (e/4503599627370496) (wD (aq .add .f64 x y)) (wD x+wD y):=by
 obtain ⟨s,m,i,e1,w1,_⟩:=om hx;obtain ⟨t,n,j,e2,w2,_⟩:=om hy;rw [Jn e1 e2];have:=Vy (neg:=(if Ieee.signed s m ((-1074+(i:Int)) - min (-1074+(i:Int)) (-1074+(j:Int))).toNat+Ieee.signed t n ((-1074+(j:Int)) - min (-1074+(i:Int)) (-1074+(j:Int))).toNat=0 then s&&t else Ieee.signed s m ((-1074+(i:Int)) - min (-1074+(i:Int)) (-1074+(j:Int))).toNat+Ieee.signed t n ((-1074+(j:Int)) - min (-1074+(i:Int)) (-1074+(j:Int))).toNat<0)) rfl (fun h=>by rw [if_neg h]) (by rw [←w1,←w2]) td qB v1 v2;rw [u9 this.1];exact this
theorem Mw {x y:Nat}{e:Rat}(hx:FD x)(hy:FD y)(td:1/1152921504606846976≤e)(qB:e≤67108864)(v1: -e≤wD x - wD y)(v2:wD x - wD y≤e):
 FD (aq .sub .f64 x y)∧je (e/4503599627370496) (wD (aq .sub .f64 x y)) (wD x - wD y):=by
 obtain ⟨s,m,i,e1,w1,_⟩:=om hx;obtain ⟨t,n,j,e2,w2,_⟩:=om hy;rw [Jo e1 e2];have hn:sg (!t) (((n*2^j:Nat):Rat)/UD)= -wD y:=by
  rw [w2];unfold sg;cases t;simp;simp
 have:=Vy (neg:=(if Ieee.signed s m ((-1074+(i:Int)) - min (-1074+(i:Int)) (-1074+(j:Int))).toNat+Ieee.signed (!t) n ((-1074+(j:Int)) - min (-1074+(i:Int)) (-1074+(j:Int))).toNat=0 then s&& !t else Ieee.signed s m ((-1074+(i:Int)) - min (-1074+(i:Int)) (-1074+(j:Int))).toNat+Ieee.signed (!t) n ((-1074+(j:Int)) - min (-1074+(i:Int)) (-1074+(j:Int))).toNat<0)) rfl (fun h=>by rw [if_neg h]) (show wD x - wD y=_ by rw [←w1,hn];grind) td qB v1 v2;rw [u9 this.1];exact this
theorem Fl {x y:Nat}{e:Rat}(hx:FD x)(hy:FD y)(td:1/1152921504606846976≤e)(qB:e≤67108864)(v1: -e≤wD x*wD y)(v2:wD x*wD y≤e):
 FD (aq .mul .f64 x y)∧je (e/4503599627370496) (wD (aq .mul .f64 x y)) (wD x*wD y):=by
 obtain ⟨s,m,i,e1,w1,_⟩:=om hx;obtain ⟨t,n,j,e2,w2,_⟩:=om hy;have e3:floatBits .mul .f64 x y=some (Ieee.double.nearest (s^^t) (m*n) (-2148+((i+j:Nat):Int))):=by
  show Ieee.double.mul x y=_;unfold Ieee.Format.mul;rw [e1,e2];show some (Ieee.double.nearest _ (m*n) (-1074+(i:Int)+(-1074+(j:Int))))=_;rw [show -1074+(i:Int)+(-1074+(j:Int))= -2148+((i+j:Nat):Int) by omega]
 have sc:=cI (f:=Ieee.double) (neg:=s^^t) (mag:=m*n) (s:=i+j) (place:= -2148+((i+j:Nat):Int));rw [show -2148+((i+j:Nat):Int) - ((i+j:Nat):Int)= -1074 - ((kD:Nat):Int) by rw [zW];omega] at sc;unfold aq;rw [e3];simp only;rw [←sc];have:=Iy (neg:=s^^t) (u:=m*n*2^(i+j)) (s:=kD) (v:=wD x*wD y) (e:=e) (by
  rw [w1,w2];have e4:m*n*2^(i+j)=(m*2^i)*(n*2^j):=by rw [Nat.pow_add];ac_rfl
  rw [e4,Rat.natCast_mul (m*2^i)];have hU:=oX;have hk:((2^kD:Nat):Rat)=UD:=rfl;rw [hk];generalize UD=U at*;generalize ((m*2^i:Nat):Rat)=a;generalize ((n*2^j:Nat):Rat)=b;unfold sg;cases s<;>cases t<;>simp only [Bool.xor_true,Bool.xor_false,Bool.not_true,Bool.not_false,Bool.false_eq_true,if_false,if_true]<;>grind) td qB v1 v2
 rw [u9 this.1];exact this
end Go.Proofs
namespace Go.Proofs
open Go.Ide Go.IntWalk
theorem Sp {u s:Nat}(hf:RN u (-149 - (s:Int))<2139095040):
 bQ (RN u (-149 - (s:Int)))*2^s*16777216≤u*16777216+u+2^s*8388608∧u*16777216≤bQ (RN u (-149 - (s:Int)))*2^s*16777216+u+2^s*8388608:=by
 by_cases h0:u=0;subst h0;rw [CT,qx];omega;have fi:=sM (neg:=false) (mag:=u) (f:=23) (p:= -149 - (s:Int)) (last:=max (-149 - (s:Int)+(u.log2:Int) - ((23:Nat):Int)) (-149)) (by omega);have GB:(2:Nat)^(23+1)=16777216:=by decide
 have GC:(2:Nat)^23=8388608:=by decide
 rw [GB] at fi;have oq:Ieee.single.fractionBits=23:=rfl;by_cases hl:23+s≤u.log2;have hk:=sN (neg:=false) (mag:=u) (f:=23) (p:= -149 - (s:Int)) (last:= -149 - (s:Int)+(u.log2:Int) - ((23:Nat):Int)) h0 rfl;have lA:max (-149 - (s:Int)+(u.log2:Int) - ((23:Nat):Int)) (-149)= -149 - (s:Int)+(u.log2:Int) - ((23:Nat):Int):=by omega
 rw [lA] at fi;rw [GC] at hk;have e1:(-149 - (s:Int) - (-149 - (s:Int)+(u.log2:Int) - ((23:Nat):Int))).toNat=0:=by omega
 have e2:(-149 - (s:Int)+(u.log2:Int) - ((23:Nat):Int) - (-149 - (s:Int))).toNat=u.log2 - 23:=by omega
 have e3:(-149 - (s:Int)+(u.log2:Int) - ((23:Nat):Int) - -149).toNat=u.log2 - 23 - s:=by omega
 rw [e1,e2,Nat.shiftLeft_zero] at hk fi;have hR:RN u (-149 - (s:Int))=min ((u.log2 - 23 - s)*8388608+Ieee.Toward.cut .even false u (u.log2 - 23)) 2139095040:=by
  unfold RN Ieee.Format.nearest;rw [if_neg h0];have hw: ∀r,Ieee.single.word false r=r:=fun r=>rfl;simp only [xy,rk,qi,oq];rw [hw,lA,e1,e2,e3,Nat.shiftLeft_zero]
 rw [hR] at hf⊢;obtain ⟨hm,cp⟩:=u0 hf;rw [hm,Hg hk fi (Nat.lt_trans cp (by decide)),Nat.mul_assoc (Ieee.Toward.cut _ _ _ _),←Nat.pow_add,show u.log2 - 23 - s+s=u.log2 - 23 by omega];have Vx:=Nat.log2_self_le h0;have:=u7 (M:=8388608) (s:=s) (bY (u.log2 - 23)) (mQ u (u.log2 - 23)) (by
  have e:2^(u.log2 - 23)*8388608=2^u.log2:=by rw [←GC,←Nat.pow_add];congr 1;omega
  rw [e];omega)
 exact this;have lA:max (-149 - (s:Int)+(u.log2:Int) - ((23:Nat):Int)) (-149)= -149:=by omega
 rw [lA] at fi;have e1:(-149 - (s:Int) - -149).toNat=0:=by omega
 have e2:((-149:Int) - (-149 - (s:Int))).toNat=s:=by omega
 have e3:((-149:Int) - -149).toNat=0:=by omega
 rw [e1,e2,Nat.shiftLeft_zero] at fi;have hR:RN u (-149 - (s:Int))=min (Ieee.Toward.cut .even false u s) 2139095040:=by
  unfold RN Ieee.Format.nearest;rw [if_neg h0];have hw: ∀r,Ieee.single.word false r=r:=fun r=>rfl;simp only [xy,rk,qi,oq];rw [hw,lA,e1,e2,e3,Nat.shiftLeft_zero,Nat.zero_mul,Nat.zero_add]
 have ZY:Ieee.Toward.cut .even false u s≤8388608:=by
  have h1:u<2^(23+s):=(Nat.log2_lt h0).1 (by omega);have h2:=(mQ u s).1;rw [Nat.pow_add,GC] at h1;have hp:=bY s;generalize 2^s=g at*;apply Nat.le_of_lt_succ;apply Nat.lt_of_mul_lt_mul_right (a:=g);rw [Nat.succ_mul];omega
 rw [hR,Nat.min_eq_left (by omega)];have hV:bQ (Ieee.Toward.cut .even false u s)=Ieee.Toward.cut .even false u s:=by
  have:=Hg (t:=0) (k:=8388608) (by omega) (by omega) (by omega);by_cases e:Ieee.Toward.cut .even false u s=8388608;rw [e];rw [Nat.zero_mul,Nat.zero_add,Nat.pow_zero,Nat.mul_one] at this;exact this;unfold bQ;rw [Nat.mod_eq_of_lt (by omega),if_pos (by omega)]
 rw [hV];exact u7 (M:=8388608) (s:=s) (bY s) (mQ u s) (by omega)
def kS:Nat:=149
theorem PZ:145≤kS:=by decide
theorem P0:kS≤149:=by decide
theorem zX:((kS:Nat):Int)=149:=rfl
attribute [irreducible] kS
theorem OW:pw (26+kS)≤2130706432:=Nat.le_trans (Nat.mul_le_mul_right _ (show 26+kS - 22≤200 by have:=P0;omega)) (by decide)
def US:Rat:=((2^kS:Nat):Rat)
theorem eJ:0<US:=jz kS
def wS (x:Nat):Rat:=sg (x/2147483648%2==1) ((bQ x:Nat):Rat)/US
def hS:Rat:=1/(2*US)
theorem zY (neg:Bool)(u:Nat)(p:Int):Ieee.single.nearest neg u p=(if neg then 2147483648 else 0)+RN u p:=by
 cases neg with
 |false=>simp only [Bool.false_eq_true,if_false,Nat.zero_add];rfl
 |true=>
  have h:=xd u p;obtain ⟨r,hr,e⟩:=oa true u p;have e2:Ieee.single.word true r=2147483648+r:=by unfold Ieee.Format.word;rw [if_pos rfl,vP]
  rw [e,e2] at h⊢;rw [if_pos rfl,←h];omega
theorem OX {neg:Bool}{r:Nat}(h:r<2147483648):(((if neg then 2147483648 else 0)+r)/2147483648%2==1)=neg:=by
 cases neg with
 |false=>simp only [Bool.false_eq_true,if_false,Nat.zero_add];rw [Nat.div_eq_of_lt h];rfl
 |true=>
  rw [if_pos rfl,show (2147483648+r)/2147483648=1 by omega];rfl
theorem Mx {neg:Bool}{r:Nat}:bQ ((if neg then 2147483648 else 0)+r)=bQ r:=by
 apply Lh;cases neg<;>simp
def FS (x:Nat):Prop:=bd x 254∧bQ x≤2^(26+kS)
theorem Sq:(1393796574908163946345982392040522594123776:Rat)≤US:=by
 have h:2^140≤2^kS:=Nat.pow_le_pow_right (by omega) (Nat.le_trans (by omega) PZ);have:=cF h;unfold US;exact this
theorem Iz {neg:Bool}{u s:Nat}{v e:Rat}(hv:sg neg ((u:Rat)/(US*((2^s:Nat):Rat)))=v)(td:1/1152921504606846976≤e)(qB:e≤67108864)(v1: -e≤v)(v2:v≤e):
 FS (Ieee.single.nearest neg u (-149 - (s:Int)))∧je (e/8388608) (wS (Ieee.single.nearest neg u (-149 - (s:Int)))) v:=by
 have hp:=jz s;have hU:=eJ;have hUb:=Sq;have DM:=PZ;have fi:=P0;have Sn:0<US*((2^s:Nat):Rat):=Rat.mul_pos hU hp;have hb:(u:Rat)/(US*((2^s:Nat):Rat))≤e:=by
  unfold sg at hv;cases neg;simp only [Bool.false_eq_true,if_false] at hv;grind;simp only [if_true] at hv;grind
 have hu:u≤2^((26+kS)+s):=by
  have h1:(u:Rat)≤67108864*(US*((2^s:Nat):Rat)):=by
   have e2:(u:Rat)/(US*((2^s:Nat):Rat))*(US*((2^s:Nat):Rat))=(u:Rat):=by
    generalize US*((2^s:Nat):Rat)=z at*;grind
   rw [←e2];exact Rat.mul_le_mul_of_nonneg_right (Rat.le_trans hb qB) (Rat.le_of_lt Sn)
  have h2:(67108864:Rat)*(US*((2^s:Nat):Rat))=((2^((26+kS)+s):Nat):Rat):=by
   rw [Nat.pow_add,Nat.pow_add,Rat.natCast_mul,Rat.natCast_mul,Rat.mul_assoc];rfl
  rw [h2] at h1;exact Rat.natCast_le_natCast.1 h1
 have hle:RN u (-149 - (s:Int))≤pw (26+kS):=Fh (by omega) (by omega) hu;have Sh:=OW;obtain ⟨h1,h2⟩:=Sp (u:=u) (s:=s) (by omega);rw [zY];have hV:bQ (RN u (-149 - (s:Int)))≤2^(26+kS):=by
  rw [←Mj (m:=26+kS) (by omega) (by omega)];exact qm (by omega) (by omega) hle
 have hr:RN u (-149 - (s:Int))≤2130706432:=by omega
 clear hu hle Sh;refine ⟨⟨?_,?_⟩,?_⟩;unfold bd;cases neg;simp only [Bool.false_eq_true,if_false];omega;simp only [if_true];omega;rw [Mx];exact hV;clear hV;unfold wS;rw [OX (by omega),Mx];generalize bQ (RN u (-149 - (s:Int)))=V at*;have n1:=cF h1;have n2:=cF h2;simp only [Rat.natCast_mul,Rat.natCast_add] at n1 n2;clear h1 h2 hr;unfold je;generalize ((2^s:Nat):Rat)=P at*;generalize US=U at*;generalize (u:Rat)=x at*;generalize (V:Rat)=y at*;have c1:(((16777216:Nat):Rat))=16777216:=rfl;have c2:(((8388608:Nat):Rat))=8388608:=rfl;rw [c1,c2] at n1 n2;have e1:y/U*(U*P)=y*P:=by grind
 have e2:x/(U*P)*(U*P)=x:=by grind
 have e3:1/(2*U)*(U*P)=P/2:=by grind
 have main:y/U≤x/(U*P)+(x/(U*P)/16777216+1/(2*U))∧x/(U*P)≤y/U+(x/(U*P)/16777216+1/(2*U)):=by
  constructor;refine Rat.le_of_mul_le_mul_right ?_ Sn;have:(x/(U*P)+(x/(U*P)/16777216+1/(2*U)))*(U*P)=x+x/16777216+P/2:=by grind
  rw [this,e1];grind;refine Rat.le_of_mul_le_mul_right ?_ Sn;have:(y/U+(x/(U*P)/16777216+1/(2*U)))*(U*P)=y*P+x/16777216+P/2:=by grind
  rw [this,e2];grind
 have hd:1/(2*U)≤1/1393796574908163946345982392040522594123776:=by
  refine Rat.le_of_mul_le_mul_right ?_ (c:=2*U) (by grind);have:1/(2*U)*(2*U)=1:=by grind
  rw [this];grind
 have ZZ:sg neg y/U=sg neg (y/U):=by
  unfold sg;cases neg;simp;simp only [if_true];grind
 rw [ZZ];obtain ⟨m1,m2⟩:=main;generalize y/U=a at*;generalize x/(U*P)=b at*;generalize 1/(2*U)=d at*;unfold sg at hv⊢;cases neg;simp only [Bool.false_eq_true,if_false] at hv⊢;constructor<;>grind;simp only [if_true] at hv⊢;constructor<;>grind
theorem lL {x:Nat}(h:FS x): ∃sn m i,Ieee.single.read x= .number sn m (-149+((i:Nat):Int))∧wS x=sg sn (((m*2^i:Nat):Rat)/US)∧bQ x=m*2^i:=by
 obtain ⟨m,i,e,v⟩:=ql h.1 (by omega) (by omega);refine ⟨_,m,i,e,?_,v⟩;unfold wS;rw [sgC,v]
theorem Vz {s t:Bool}{m n i j:Nat}{neg:Bool}{z:Int}{e v:Rat}(hz:z=Ieee.signed s m ((-149+(i:Int)) - min (-149+(i:Int)) (-149+(j:Int))).toNat+Ieee.signed t n ((-149+(j:Int)) - min (-149+(i:Int)) (-149+(j:Int))).toNat)(zp:z≠0→neg=decide (z<0))(hv:v=sg s (((m*2^i:Nat):Rat)/US)+sg t (((n*2^j:Nat):Rat)/US))(td:1/1152921504606846976≤e)(qB:e≤67108864)(v1: -e≤v)(v2:v≤e):
 FS (Ieee.single.nearest neg z.natAbs (min (-149+(i:Int)) (-149+(j:Int))))∧je (e/8388608) (wS (Ieee.single.nearest neg z.natAbs (min (-149+(i:Int)) (-149+(j:Int))))) v:=by
 have q8:min (-149+(i:Int)) (-149+(j:Int))= -149+((min i j:Nat):Int):=by omega
 have e3:(-149+(i:Int) - (-149+((min i j:Nat):Int))).toNat=i - min i j:=by omega
 have e4:(-149+(j:Int) - (-149+((min i j:Nat):Int))).toNat=j - min i j:=by omega
 rw [q8] at hz⊢;rw [e3,e4,lb,lb] at hz;have sA:m*2^i=m*2^(i - min i j)*2^min i j:=by rw [Nat.mul_assoc,←Nat.pow_add,show i - min i j+min i j=i by omega]
 have sB:n*2^j=n*2^(j - min i j)*2^min i j:=by rw [Nat.mul_assoc,←Nat.pow_add,show j - min i j+min i j=j by omega]
 have sc:=cI (f:=Ieee.single) (neg:=neg) (mag:=z.natAbs) (s:=min i j) (place:= -149+((min i j:Nat):Int));rw [show -149+((min i j:Nat):Int) - ((min i j:Nat):Int)= -149 - ((0:Nat):Int) by omega] at sc;rw [←sc];rw [sA,sB] at hv;generalize m*2^(i - min i j)=A at*;generalize n*2^(j - min i j)=B at*;refine Iz ?_ td qB v1 v2;rw [hv,Nat.pow_zero];have hU:=eJ;have key:sg neg ((z.natAbs:Nat):Rat)=sg s (A:Rat)+sg t (B:Rat):=by
  suffices yA:(if neg then -((z.natAbs:Nat):Int) else ((z.natAbs:Nat):Int))=(if s then -((A:Nat):Int) else ((A:Nat):Int))+(if t then -((B:Nat):Int) else ((B:Nat):Int)) by
   rw [xe,xe,xe,←Rat.intCast_add,yA]
  rw [←hz];clear hv v1 v2 sc;by_cases h0:z=0;rw [h0];cases neg<;>rfl;rw [zp h0];by_cases h1:z<0;rw [decide_eq_true h1,if_pos rfl];omega;rw [decide_eq_false h1];simp only [Bool.false_eq_true,if_false];omega
 rw [Rat.natCast_mul,Rat.natCast_mul,Rat.natCast_mul];generalize ((2^min i j:Nat):Rat)=P;generalize ((z.natAbs:Nat):Rat)=x at*;generalize (A:Rat)=a at*;generalize (B:Rat)=b at*;generalize US=U at*;have c1:((1:Nat):Rat)=1:=rfl;rw [c1];unfold sg at key⊢;cases neg<;>cases s<;>cases t<;>simp only [Bool.false_eq_true,if_false,if_true] at key⊢ <;>grind
theorem vb {x:Nat}(h:FS x):bz .f32 x=x:=lF h.1 (by omega)
theorem VA {x y:Nat}{e:Rat}(hx:FS x)(hy:FS y)(td:1/1152921504606846976≤e)(qB:e≤67108864)(v1: -e≤wS x+wS y)(v2:wS x+wS y≤e):
 FS (aq .add .f32 x y)∧je (e/8388608) (wS (aq .add .f32 x y)) (wS x+wS y):=by
 obtain ⟨s,m,i,e1,w1,_⟩:=lL hx;obtain ⟨t,n,j,e2,w2,_⟩:=lL hy;rw [EK e1 e2];have:=Vz (neg:=(if Ieee.signed s m ((-149+(i:Int)) - min (-149+(i:Int)) (-149+(j:Int))).toNat+Ieee.signed t n ((-149+(j:Int)) - min (-149+(i:Int)) (-149+(j:Int))).toNat=0 then s&&t else Ieee.signed s m ((-149+(i:Int)) - min (-149+(i:Int)) (-149+(j:Int))).toNat+Ieee.signed t n ((-149+(j:Int)) - min (-149+(i:Int)) (-149+(j:Int))).toNat<0)) rfl (fun h=>by rw [if_neg h]) (by rw [←w1,←w2]) td qB v1 v2;rw [vb this.1];exact this
theorem Sr {x y:Nat}{e:Rat}(hx:FS x)(hy:FS y)(td:1/1152921504606846976≤e)(qB:e≤67108864)(v1: -e≤wS x - wS y)(v2:wS x - wS y≤e):
 FS (aq .sub .f32 x y)∧je (e/8388608) (wS (aq .sub .f32 x y)) (wS x - wS y):=by
 obtain ⟨s,m,i,e1,w1,_⟩:=lL hx;obtain ⟨t,n,j,e2,w2,_⟩:=lL hy;rw [rm e1 e2];have hn:sg (!t) (((n*2^j:Nat):Rat)/US)= -wS y:=by
  rw [w2];unfold sg;cases t;simp;simp
 have:=Vz (neg:=(if Ieee.signed s m ((-149+(i:Int)) - min (-149+(i:Int)) (-149+(j:Int))).toNat+Ieee.signed (!t) n ((-149+(j:Int)) - min (-149+(i:Int)) (-149+(j:Int))).toNat=0 then s&& !t else Ieee.signed s m ((-149+(i:Int)) - min (-149+(i:Int)) (-149+(j:Int))).toNat+Ieee.signed (!t) n ((-149+(j:Int)) - min (-149+(i:Int)) (-149+(j:Int))).toNat<0)) rfl (fun h=>by rw [if_neg h]) (show wS x - wS y=_ by rw [←w1,hn];grind) td qB v1 v2;rw [vb this.1];exact this
end Go.Proofs
namespace Go.Proofs
open Go.Ide Go.IntWalk
theorem IA {n M Q:Nat}(hn:0<n)(hQ:Q=2*(M/n)+(M%n != 0).toNat):Q*n≤2*M+n∧2*M≤Q*n+n:=by
 have h1:=Nat.div_add_mod M n;have h2:=Nat.mod_lt M hn;generalize M/n=q at*;generalize M%n=r at*;subst hQ;rw [Nat.add_mul,Nat.mul_assoc,Nat.mul_comm q n];by_cases e:r=0;subst e;simp only [bne_self_eq_false,Bool.toNat_false,Nat.zero_mul];omega;have:(r != 0)=true:=by simpa using e
 rw [this];simp only [Bool.toNat_true,Nat.one_mul];omega
theorem Z0 {s t:Bool}{U a b g M N K e q:Rat}(hU:0<U)(ha:0<a)(hb:0<b)(hg:0<g)(hn:0<N)(m0:0≤M)(n1:K*N≤((2:Nat):Rat)*(M*g)+N)(n2:((2:Nat):Rat)*(M*g)≤K*N+N)(n3:M≠0→N*9007199254740992≤M*g)(n4:M=0→K=0)(hq:q*sg t (N*b/U)=sg s (M*a/U))(he:1/1152921504606846976≤e)(v1: -e≤q)(v2:q≤e):je (e/9007199254740992) (sg (s^^t) (K*a/(b*g*2))) q:=by
 have h2:((2:Nat):Rat)=2:=rfl;rw [h2] at n1 n2;have Ij:0<b*g:=Rat.mul_pos hb hg;have hz: ∃z,z=M*a/(N*b):=⟨_,rfl⟩;obtain ⟨z,hz⟩:=hz;have Z1:0<N*b:=Rat.mul_pos hn hb;have z0:0≤z:=by
  rw [hz];refine Rat.le_of_mul_le_mul_right ?_ Z1;have:M*a/(N*b)*(N*b)=M*a:=by grind
  rw [this,Rat.zero_mul];exact Rat.mul_nonneg m0 (Rat.le_of_lt ha)
 have Z2:q=sg (s^^t) z:=by
  have hNU:N*b/U≠0:=by
   intro h;have:N*b/U*U=N*b:=by grind
   rw [h] at this;grind
  unfold sg at hq⊢;cases s<;>cases t<;>simp only [Bool.xor_true,Bool.xor_false,Bool.not_true,Bool.not_false,Bool.false_eq_true,if_false,if_true] at hq⊢ <;>grind
 have main:je (z/9007199254740992) (K*a/(b*g*2)) z:=by
  by_cases hM:M=0;have hK:=n4 hM;have:z=0:=by rw [hz,hM];grind
  rw [this,hK];constructor<;>grind;have h3:=n3 hM;have hW:0<N*(b*g*2):=Rat.mul_pos hn (by grind);have ez:z*(N*(b*g*2))=2*(M*g)*a:=by rw [hz];grind
  have ek:K*a/(b*g*2)*(N*(b*g*2))=K*N*a:=by grind
  have a1:=Rat.mul_le_mul_of_nonneg_right n1 (Rat.le_of_lt ha);have a2:=Rat.mul_le_mul_of_nonneg_right n2 (Rat.le_of_lt ha);have a3:=Rat.mul_le_mul_of_nonneg_right h3 (Rat.le_of_lt ha);constructor;refine Rat.le_of_mul_le_mul_right ?_ hW;have:(z+z/9007199254740992)*(N*(b*g*2))=z*(N*(b*g*2))+z*(N*(b*g*2))/9007199254740992:=by grind
  rw [this,ek,ez];grind;refine Rat.le_of_mul_le_mul_right ?_ hW;have:(K*a/(b*g*2)+z/9007199254740992)*(N*(b*g*2))=K*a/(b*g*2)*(N*(b*g*2))+z*(N*(b*g*2))/9007199254740992:=by grind
  rw [this,ek,ez];grind
 obtain ⟨k1,k2⟩:=main;generalize K*a/(b*g*2)=k at*;subst Z2;clear hq hz n1 n2 n3 n4;unfold sg at v1 v2⊢;cases s<;>cases t<;>simp only [Bool.xor_true,Bool.xor_false,Bool.not_true,Bool.not_false,Bool.false_eq_true,if_false,if_true] at v1 v2⊢ <;>constructor<;>grind
theorem Z3 {m n:Nat}(hm:m≠0)(h:m<9007199254740992):n*9007199254740992≤m*2^(52+2+n.log2 - m.log2):=by
 have Mm:=Nat.log2_self_le hm;have OQ:n<2^(n.log2+1):=Nat.lt_log2_self;have Lj:m.log2≤52:=by
  have:=(Nat.log2_lt (k:=53) hm).2 (by omega);omega
 have q1:2^m.log2*2^(52+2+n.log2 - m.log2)≤m*2^(52+2+n.log2 - m.log2):=Nat.mul_le_mul_right _ Mm;rw [←Nat.pow_add,show m.log2+(52+2+n.log2 - m.log2)=(n.log2+1)+53 by omega,Nat.pow_add] at q1;have e53:(2:Nat)^53=9007199254740992:=by decide
 rw [e53] at q1;exact Nat.le_trans (Nat.mul_le_mul_right _ (Nat.le_of_lt OQ)) q1
theorem VB {x y:Nat}{e q:Rat}(hx:FD x)(hy:FD y)(Te:wD y≠0)(hq:q*wD y=wD x)(td:1/1152921504606846976≤e)(qB:e≤33554432)(v1: -e≤q)(v2:q≤e):
 FD (aq .quo .f64 x y)∧je (e/1125899906842624) (wD (aq .quo .f64 x y)) q:=by
 obtain ⟨s,m,i,e1,w1,_⟩:=om hx;obtain ⟨t,n,j,e2,w2,_⟩:=om hy;have hU:=oX;have hn:n≠0:=by
  rintro rfl;apply Te;rw [w2,Nat.zero_mul];unfold sg;cases t<;>grind
 have hf:Ieee.double.fractionBits=52:=rfl;have e3:floatBits .quo .f64 x y=some (Ieee.double.nearest (s^^t) (2*(m*2^(52+2+n.log2 - m.log2)/n)+(m*2^(52+2+n.log2 - m.log2)%n != 0).toNat) (-1074+(i:Int) - (-1074+(j:Int)) - ((52+2+n.log2 - m.log2:Nat):Int) - 1)):=by
  show Ieee.double.div x y=_;unfold Ieee.Format.div;rw [e1,e2];unfold Ieee.Datum.quotient;simp only [hf,Nat.shiftLeft_eq];rw [if_neg hn];rfl
 have Hh:m≠0→n*9007199254740992≤m*2^(52+2+n.log2 - m.log2):=fun hm=>Z3 hm (EO e1);unfold aq;rw [e3];simp only;generalize 52+2+n.log2 - m.log2=more at*;obtain ⟨s1,s2⟩:=IA (Nat.pos_of_ne_zero hn) (rfl:2*(m*2^more/n)+(m*2^more%n != 0).toNat=_);have VC:m=0→2*(m*2^more/n)+(m*2^more%n != 0).toNat=0:=by rintro rfl;simp
 generalize 2*(m*2^more/n)+(m*2^more%n != 0).toNat=Q at*;have sc:=cI (f:=Ieee.double) (neg:=s^^t) (mag:=Q) (s:=i+kD) (place:= -1074+(i:Int) - (-1074+(j:Int)) - ((more:Nat):Int) - 1);rw [show -1074+(i:Int) - (-1074+(j:Int)) - ((more:Nat):Int) - 1 - ((i+kD:Nat):Int)= -1074 - ((j+more+1:Nat):Int) by have:=zW;omega] at sc;rw [←sc];have hb:=jz j;have hg:=jz more;have ha:=jz i;have Z4:(0:Rat)<(n:Rat):=uc (Nat.pos_of_ne_zero hn);have n1:=cF s1;have n2:=cF s2;have n3:(m:Rat)≠0→(n:Rat)*9007199254740992≤(m:Rat)*((2^more:Nat):Rat):=by
  intro h;have hm:m≠0:=by rintro rfl;exact h rfl
  have:=cF (Hh hm);rw [Rat.natCast_mul,Rat.natCast_mul] at this;exact this
 have n4:(m:Rat)=0→(Q:Rat)=0:=by
  intro h;have hm:m=0:=by
   have:((m:Nat):Rat)=((0:Nat):Rat):=h;exact Rat.natCast_inj.1 this
  rw [VC hm];rfl
 have m0:(0:Rat)≤(m:Rat):=by have:=cF (Nat.zero_le m);simpa using this
 simp only [Rat.natCast_mul,Rat.natCast_add] at n1 n2;have hv:((Q*2^(i+kD):Nat):Rat)/(UD*((2^(j+more+1):Nat):Rat))=(Q:Rat)*((2^i:Nat):Rat)/(((2^j:Nat):Rat)*((2^more:Nat):Rat)*2):=by
  rw [Nat.pow_add,Nat.pow_succ,Nat.pow_add,Rat.natCast_mul,Rat.natCast_mul,Rat.natCast_mul,Rat.natCast_mul];have hk:((2^kD:Nat):Rat)=UD:=rfl;have h2:((2:Nat):Rat)=2:=rfl;rw [hk,h2];generalize UD=U at*;generalize ((2^i:Nat):Rat)=a at*;generalize ((2^j:Nat):Rat)=b at*;generalize ((2^more:Nat):Rat)=g at*;have:b*g≠0:=Rat.ne_of_gt (Rat.mul_pos hb hg);grind
 have hw:wD x=sg s ((m:Rat)*((2^i:Nat):Rat)/UD):=by rw [w1,Rat.natCast_mul]
 have Tm:wD y=sg t ((n:Rat)*((2^j:Nat):Rat)/UD):=by rw [w2,Rat.natCast_mul]
 rw [hw,Tm] at hq;have key:je (e/9007199254740992) (sg (s^^t) ((Q:Rat)*((2^i:Nat):Rat)/(((2^j:Nat):Rat)*((2^more:Nat):Rat)*2))) q:=by
  clear hv sc e1 e2 e3 s1 s2 VC Hh w1 w2 hw Tm Te hx hy hf;generalize UD=U at*;generalize ((2^i:Nat):Rat)=a at*;generalize ((2^j:Nat):Rat)=b at*;generalize ((2^more:Nat):Rat)=g at*;generalize (m:Rat)=M at*;generalize (n:Rat)=N at*;generalize (Q:Rat)=K at*;exact Z0 hU ha hb hg Z4 m0 n1 n2 n3 n4 hq td v1 v2
 obtain ⟨k1,k2⟩:=key;have Ss:=Iy (neg:=s^^t) (u:=Q*2^(i+kD)) (s:=j+more+1) (e:=2*e) rfl (by grind) (by grind) (by rw [hv];grind) (by rw [hv];grind);rw [u9 Ss.1];refine ⟨Ss.1,?_⟩;obtain ⟨p1,p2⟩:=Ss.2;rw [hv] at p1 p2;constructor<;>grind
end Go.Proofs
namespace Go.Proofs
open Go.Ide Go.IntWalk
theorem My {s:Bool}{m i c:Nat}(h:c≤i):sg s (((m*2^i:Nat):Rat)/UD)=((if s then -((m*2^(i - c):Nat):Int) else ((m*2^(i - c):Nat):Int):Int):Rat)*(((2^c:Nat):Rat)/UD):=by
 rw [show m*2^i=m*2^(i - c)*2^c by rw [Nat.mul_assoc,←Nat.pow_add,show i - c+c=i by omega],←xe,Rat.natCast_mul];generalize ((m*2^(i - c):Nat):Rat)=a;generalize ((2^c:Nat):Rat)=b;have hU:=oX;generalize UD=U at*;unfold sg;cases s;simp only [Bool.false_eq_true,if_false];grind;simp only [if_true];grind
theorem Hn {x y:Nat}(hx:FD x)(hy:FD y): ∃A B:Int,Ieee.double.order x y=some (compare A B)∧(A<B↔wD x<wD y)∧(A=B↔wD x=wD y):=by
 obtain ⟨s,m,i,e1,w1,_⟩:=om hx;obtain ⟨t,n,j,e2,w2,_⟩:=om hy;have q8:min (-1074+(i:Int)) (-1074+(j:Int))= -1074+((min i j:Nat):Int):=by omega
 have e3:(-1074+(i:Int) - (-1074+((min i j:Nat):Int))).toNat=i - min i j:=by omega
 have e4:(-1074+(j:Int) - (-1074+((min i j:Nat):Int))).toNat=j - min i j:=by omega
 have h:Ieee.double.order x y=some (compare (Ieee.signed s m (i - min i j)) (Ieee.signed t n (j - min i j))):=by
  show Ieee.Datum.order (Ieee.double.read x) (Ieee.double.read y)=_;rw [e1,e2];show some (compare (Ieee.signed s m (-1074+(i:Int) - min (-1074+(i:Int)) (-1074+(j:Int))).toNat) (Ieee.signed t n (-1074+(j:Int) - min (-1074+(i:Int)) (-1074+(j:Int))).toNat))=_;rw [q8,e3,e4]
 refine ⟨_,_,h,?_⟩;rw [w1,w2,My (c:=min i j) (by omega),My (c:=min i j) (by omega),lb,lb];generalize (if s then -((m*2^(i - min i j):Nat):Int) else ((m*2^(i - min i j):Nat):Int))=A;generalize (if t then -((n*2^(j - min i j):Nat):Int) else ((n*2^(j - min i j):Nat):Int))=B;have hk:0<((2^min i j:Nat):Rat)/UD:=by
  have h1:=jz (min i j);have h2:=oX;generalize ((2^min i j:Nat):Rat)=a at*;generalize UD=U at*;refine Rat.lt_of_mul_lt_mul_right (c:=U) ?_ (Rat.le_of_lt h2);have:a/U*U=a:=by grind
  rw [this,Rat.zero_mul];exact h1
 generalize ((2^min i j:Nat):Rat)/UD=k at*;have i1:=Rat.intCast_lt_intCast (a:=A) (b:=B);have i2:(A=B↔(A:Rat)=(B:Rat)):=Rat.intCast_inj.symm;rw [←i1,i2];generalize (A:Rat)=a;generalize (B:Rat)=b;constructor;rw [Rat.mul_comm a,Rat.mul_comm b];exact (Rat.mul_lt_mul_left hk).symm;constructor;intro h;rw [h];intro h;grind
theorem IB {x y:Nat}(hx:FD x)(hy:FD y):aW .f64 x y=decide (wD x<wD y):=by
 obtain ⟨A,B,h,h1,h2⟩:=Hn hx hy;have e:aW .f64 x y=(Ieee.double.order x y==some .lt):=rfl;rw [e,h];simp only [compare,compareOfLessAndEq,←h1];by_cases c:A<B;rw [if_pos c,decide_eq_true c];rfl;rw [if_neg c,decide_eq_false c];by_cases d:A=B;rw [if_pos d];rfl;rw [if_neg d];rfl
theorem P1 {x y:Nat}(hx:FD x)(hy:FD y):pP .f64 x y=decide (wD y<wD x):=by
 obtain ⟨A,B,h,h1,h2⟩:=Hn hx hy;have e:pP .f64 x y=(Ieee.double.order x y==some .gt):=rfl;rw [e,h];simp only [compare,compareOfLessAndEq];by_cases c:A<B;have:=h1.1 c;rw [if_pos c,decide_eq_false (by grind)];rfl;rw [if_neg c];have c': ¬wD x<wD y:=fun h=>c (h1.2 h);by_cases d:A=B;have:=h2.1 d;rw [if_pos d,decide_eq_false (by grind)];rfl;have d': ¬wD x=wD y:=fun h=>d (h2.2 h);rw [if_neg d,decide_eq_true (by grind)];rfl
theorem Mz {x y:Nat}(hx:FD x)(hy:FD y):sx .f64 x y=decide (wD y≤wD x):=by
 obtain ⟨A,B,h,h1,h2⟩:=Hn hx hy;have e:sx .f64 x y=(Ieee.double.order x y==some .gt||Ieee.double.order x y==some .eq):=rfl;rw [e,h];simp only [compare,compareOfLessAndEq];by_cases c:A<B;have:=h1.1 c;rw [if_pos c,decide_eq_false (by grind)];rfl;rw [if_neg c];have c': ¬wD x<wD y:=fun h=>c (h1.2 h);rw [decide_eq_true (show wD y≤wD x by grind)];by_cases d:A=B;rw [if_pos d];rfl;rw [if_neg d];rfl
theorem MA {k:Nat}(hk:k=925):UD=((2^k:Nat):Rat)*US:=by
 unfold UD US;rw [←Rat.natCast_mul,←Nat.pow_add];have:kD=k+kS:=by have:=zW;have:=zX;omega
 rw [this]
theorem Z5 {x:Nat}{e:Rat}(hx:FS x)(td:1/1152921504606846976≤e)(qB:e≤67108864)(v1: -e≤wS x)(v2:wS x≤e):FD (aS .f32 .f64 x)∧je (e/4503599627370496) (wD (aS .f32 .f64 x)) (wS x):=by
 obtain ⟨k,hk⟩: ∃k:Nat,k=925:=⟨_,rfl⟩;obtain ⟨s,m,i,e1,w1,_⟩:=lL hx;have h1:aS .f32 .f64 x=bz .f64 (Ieee.double.nearest s m (-149+(i:Int))):=by
  unfold aS;rw [if_neg (by decide)];have e':FloatKind.decode .f32 x= .number s m (-149+(i:Int)):=e1;rw [e'];rfl
 have sc:=cI (f:=Ieee.double) (neg:=s) (mag:=m) (s:=i+k) (place:= -149+(i:Int));rw [show -149+(i:Int) - ((i+k:Nat):Int)= -1074 - ((0:Nat):Int) by omega] at sc;rw [h1,←sc];have:=Iy (neg:=s) (u:=m*2^(i+k)) (s:=0) (v:=wS x) (e:=e) (by
  rw [w1,Nat.pow_add,←Nat.mul_assoc,Rat.natCast_mul (m*2^i)];have hp:=jz k;have hU:=eJ;rw [MA hk];generalize ((2^k:Nat):Rat)=g at*;generalize US=U at*;generalize ((m*2^i:Nat):Rat)=a;have c1:((2^0:Nat):Rat)=1:=rfl;rw [c1];unfold sg;cases s;simp only [Bool.false_eq_true,if_false];grind;simp only [if_true];grind) td qB v1 v2
 rw [u9 this.1];exact this
theorem VD {x:Nat}{e:Rat}(hx:FD x)(td:1/1152921504606846976≤e)(qB:e≤67108864)(v1: -e≤wD x)(v2:wD x≤e):ck .f64 .f32 x=true∧FS (aS .f64 .f32 x)∧je (e/8388608) (wS (aS .f64 .f32 x)) (wD x):=by
 obtain ⟨k,hk⟩: ∃k:Nat,k=925:=⟨_,rfl⟩;obtain ⟨s,m,i,e1,w1,_⟩:=om hx;have e':FloatKind.decode .f64 x= .number s m (-1074+(i:Int)):=e1;have h1:aS .f64 .f32 x=bz .f32 (Ieee.single.nearest s m (-1074+(i:Int))):=by
  unfold aS;rw [if_neg (by decide),e'];rfl
 have sc:=cI (f:=Ieee.single) (neg:=s) (mag:=m) (s:=i) (place:= -1074+(i:Int));rw [show -1074+(i:Int) - ((i:Nat):Int)= -149 - ((k:Nat):Int) by omega] at sc;have:=Iz (neg:=s) (u:=m*2^i) (s:=k) (v:=wD x) (e:=e) (by
  rw [w1];have hp:=jz k;have hU:=eJ;rw [MA hk];generalize ((2^k:Nat):Rat)=g at*;generalize US=U at*;generalize ((m*2^i:Nat):Rat)=a;unfold sg;cases s;simp only [Bool.false_eq_true,if_false];grind;simp only [if_true];grind) td qB v1 v2
 rw [sc] at this;refine ⟨?_,?_⟩;unfold ck;rw [if_neg (by decide),e'];show (!(Ieee.single.read (Ieee.single.nearest s m (-1074+(i:Int)))).isInfinity)=true;obtain ⟨s',m',i',e2,_⟩:=lL this.1;rw [e2];rfl;rw [h1,vb this.1];exact this
end Go.Proofs
namespace Go.Proofs
open Go.Ide Go.IntWalk
def Bd (A a:Rat):Prop:= -A≤a∧a≤A
theorem Bd.mul {A B a b:Rat}(h:Bd A a)(h':Bd B b):Bd (A*B) (a*b):=by
 obtain ⟨h1,h2⟩:=h;obtain ⟨h3,h4⟩:=h';have p1:=Rat.mul_nonneg (show 0≤A - a by grind) (show 0≤B - b by grind);have p2:=Rat.mul_nonneg (show 0≤A+a by grind) (show 0≤B+b by grind);have p3:=Rat.mul_nonneg (show 0≤A - a by grind) (show 0≤B+b by grind);have p4:=Rat.mul_nonneg (show 0≤A+a by grind) (show 0≤B - b by grind);constructor<;>grind
theorem Bd.add {A B a b:Rat}(h:Bd A a)(h':Bd B b):Bd (A+B) (a+b):=by
 obtain ⟨h1,h2⟩:=h;obtain ⟨h3,h4⟩:=h';constructor<;>grind
theorem Bd.mono {A B a:Rat}(h:Bd A a)(hl:A≤B):Bd B a:=by
 obtain ⟨h1,h2⟩:=h;constructor<;>grind
theorem je.bd {e a b:Rat}(h:je e a b):Bd e (a - b):=by
 obtain ⟨h1,h2⟩:=h;constructor<;>grind
theorem pH {x c d:Nat}(h1:x<9223372036854775808)(hd:0<d)(h:eO x*d=c*2^kD):wD x=(c:Rat)/(d:Rat):=by
 have hU:=oX;have hdR:=uc hd;have h2:((eO x:Nat):Rat)*(d:Rat)=(c:Rat)*UD:=by
  rw [←Rat.natCast_mul,h,Rat.natCast_mul];rfl
 unfold wD;rw [Nat.div_eq_of_lt h1];show sg false _/UD=_;unfold sg;simp only [Bool.false_eq_true,if_false];generalize UD=U at*;generalize ((eO x:Nat):Rat)=v at*;generalize (c:Rat)=C at*;generalize (d:Rat)=D at*;grind
theorem kq {x:Nat}(h1:x≤4724276009111650304):FD x:=by
 refine ⟨by unfold DS;omega,?_⟩;have hp:4724276009111650304≤Iw (26+kD):=by
  have:=zW;unfold Iw;omega
 rw [←Ix (m:=26+kD) (by have:=Mt;omega) (by have:=Mu;omega)];have:=Mv;exact Dn (by omega) (by omega) (Nat.le_trans h1 hp)
theorem nk:wD 4607182418800017408=1:=by
 have:=pH (x:=4607182418800017408) (c:=1) (d:=1) (by omega) (by omega) (by decide+kernel);rw [this,show ((1:Nat):Rat)=1 from rfl];grind
theorem xf:FD 4607182418800017408:=kq (by omega)
def T6 (t:Rat):Rat:=1+t*(1+t*(1+t*(1+t*(1+t*(1+t*1/6)/5)/4)/3)/2)/1
end Go.Proofs
namespace Go.Proofs
open Go.Ide Go.IntWalk
def AA:Rat:=100000001/100000000
theorem wu:AA=100000001/100000000:=rfl
attribute [irreducible] AA
def rp:Nat→Rat
 |0=>1
 |k+1=>rp k*AA
theorem qH: ∀k,1≤rp k
 |0=>by unfold rp;grind
 |k+1=>by
  have h:=qH k;have:=Rat.mul_le_mul_of_nonneg_left (show 1≤AA by rw [wu];grind) (show 0≤rp k by grind);unfold rp;grind
theorem zZ (k:Nat): ∀l,rp (k+l)=rp k*rp l
 |0=>by show rp k=rp k*1;grind
 |l+1=>by
  show rp (k+l)*AA=rp k*(rp l*AA);rw [zZ k l];grind
theorem OY {k l:Nat}(h:k≤l):rp k≤rp l:=by
 obtain ⟨d,rfl⟩:=Nat.exists_eq_add_of_le h;rw [zZ];have:=Rat.mul_le_mul_of_nonneg_left (qH d) (show 0≤rp k by have:=qH k;grind);grind
def Nq (k:Nat)(x y:Rat):Prop:=x≤y*rp k∧y≤x*rp k
theorem Nq.symm {k:Nat}{x y:Rat}(h:Nq k x y):Nq k y x:=⟨h.2,h.1⟩
theorem Nq.refl {x:Rat}(h:0≤x):Nq 0 x x:=by
 have:rp 0=1:=rfl;unfold Nq;rw [this];constructor<;>grind
theorem Nq.mono {k l:Nat}{x y:Rat}(h:Nq k x y)(hx:0≤x)(hy:0≤y)(hl:k≤l):Nq l x y:=by
 have m:=OY hl;have a:=Rat.mul_le_mul_of_nonneg_left m hx;have b:=Rat.mul_le_mul_of_nonneg_left m hy;obtain ⟨h1,h2⟩:=h;constructor<;>grind
theorem Nq.trans {k l:Nat}{x y z:Rat}(h:Nq k x y)(h':Nq l y z):Nq (k+l) x z:=by
 obtain ⟨h1,h2⟩:=h;obtain ⟨h3,h4⟩:=h';have pk:0≤rp k:=by have:=qH k;grind
 have pl:0≤rp l:=by have:=qH l;grind
 have a:=Rat.mul_le_mul_of_nonneg_right h3 pk;have b:=Rat.mul_le_mul_of_nonneg_right h2 pl;unfold Nq;rw [zZ];constructor<;>grind
theorem Nq.mul {k l:Nat}{x y z w:Rat}(h:Nq k x y)(h':Nq l z w)(hx:0≤x)(hy:0≤y)(hz:0≤z)(hw:0≤w):Nq (k+l) (x*z) (y*w):=by
 obtain ⟨h1,h2⟩:=h;obtain ⟨h3,h4⟩:=h';have pk:0≤rp k:=by have:=qH k;grind
 have pl:0≤rp l:=by have:=qH l;grind
 have a1:=Rat.mul_le_mul_of_nonneg_right h1 hz;have a2:=Rat.mul_le_mul_of_nonneg_left h3 (Rat.mul_nonneg hy pk);have b1:=Rat.mul_le_mul_of_nonneg_right h2 hw;have b2:=Rat.mul_le_mul_of_nonneg_left h4 (Rat.mul_nonneg hx pk);unfold Nq;rw [zZ];constructor<;>grind
theorem Nq.rJ {e x y:Rat}{k:Nat}(h:je e x y)(hx:e*100000000≤x*(k:Rat))(hy:e*100000000≤y*(k:Rat))(px:0≤x)(py:0≤y):Nq k x y:=by
 have hr: ∀k:Nat,1+(k:Rat)/100000000≤rp k:=by
  intro k;induction k with
  |zero=>show 1+((0:Nat):Rat)/100000000≤1;rw [show ((0:Nat):Rat)=0 from rfl];grind
  |succ k ih=>
   have h1:=qH k;rw [Rat.natCast_add,show ((1:Nat):Rat)=1 from rfl];show _≤rp k*AA;rw [wu];grind
 have hk:=hr k;obtain ⟨h1,h2⟩:=h;have a:=Rat.mul_le_mul_of_nonneg_left hk px;have b:=Rat.mul_le_mul_of_nonneg_left hk py;constructor<;>grind
def xG:Nat→Rat→Rat
 |0,x=>x
 |n+1,x=>xG n x*xG n x
theorem qz: ∀n {x:Rat},0≤x→0≤xG n x
 |0,_,h=>h
 |n+1,_,h=>Rat.mul_nonneg (qz n h) (qz n h)
theorem vc: ∀n {k:Nat} {x y:Rat},Nq k x y→0≤x→0≤y→Nq (2^n*k) (xG n x) (xG n y)
 |0,k,x,y,h,_,_=>by rw [Nat.pow_zero,Nat.one_mul];exact h
 |n+1,k,x,y,h,hx,hy=>by
  have:=vc n h hx hy;have t:=this.mul this (qz n hx) (qz n hy) (qz n hx) (qz n hy);rw [show 2^(n+1)*k=2^n*k+2^n*k by rw [Nat.pow_succ,Nat.mul_assoc,Nat.mul_comm 2 k,Nat.mul_two,Nat.mul_add]];exact t
theorem Dr: ∀n {x y:Rat},xG n (x*y)=xG n x*xG n y
 |0,_,_=>rfl
 |n+1,x,y=>by
  show xG n (x*y)*xG n (x*y)=(xG n x*xG n x)*(xG n y*xG n y);rw [Dr n];grind
end Go.Proofs
namespace Go.Proofs
open Go.Ide Go.IntWalk
theorem MB {r:Nat}(h:r≤4724276009111650304):FD (9223372036854775808+r)∧wD (9223372036854775808+r)= -wD r:=by
 have e1:=Hl (neg:=true) (r:=r) (by omega);have e2:=Hm (neg:=true) (r:=r);have e3:=Hl (neg:=false) (r:=r) (by omega);simp only [if_true,Bool.false_eq_true,if_false,Nat.zero_add] at e1 e2 e3;have hF:=kq h;refine ⟨⟨?_,?_⟩,?_⟩;unfold DS;omega;rw [e2];exact hF.2;unfold wD;rw [e1,e2,e3];unfold sg;have hU:=oX;simp only [if_true,Bool.false_eq_true,if_false];grind
theorem sU {t s p q c d e:Rat}(t1:Bd (1/8) t)(hp:Bd (6/5) q)(ht:je d t s)(ha:je e p q)(c1:1≤c)(d0:0≤d)(e0:0≤e):je (e/8+2*d) (1+t*p/c) (1+s*q/c):=by
 have ci: ∃i,i*c=1∧0≤i∧i≤1:=by
  refine ⟨1/c,by grind,?_,?_⟩;refine Rat.le_of_mul_le_mul_right (c:=c) ?_ (by grind);have:1/c*c=1:=by grind
  rw [this];grind;refine Rat.le_of_mul_le_mul_right (c:=c) ?_ (by grind);have:1/c*c=1:=by grind
  rw [this];grind
 obtain ⟨i,i1,i2,i3⟩:=ci;have b1:=(t1.mul ha.bd).mul (B:=1) (b:=i) ⟨by grind,by grind⟩;have b2:=(ht.bd.mul hp).mul (B:=1) (b:=i) ⟨by grind,by grind⟩;have e1:t*p/c=t*p*i:=by grind
 have e2:s*q/c=s*q*i:=by grind
 rw [e1,e2];obtain ⟨x1,x2⟩:=b1;obtain ⟨x3,x4⟩:=b2;constructor<;>grind
theorem kU {t p c:Rat}(t1:Bd (1/8) t)(hp:Bd (6/5) p)(c1:1≤c):Bd (6/5) (1+t*p/c)∧4/5≤1+t*p/c:=by
 have ci: ∃i,i*c=1∧0≤i∧i≤1:=by
  refine ⟨1/c,by grind,?_,?_⟩;refine Rat.le_of_mul_le_mul_right (c:=c) ?_ (by grind);have:1/c*c=1:=by grind
  rw [this];grind;refine Rat.le_of_mul_le_mul_right (c:=c) ?_ (by grind);have:1/c*c=1:=by grind
  rw [this];grind
 obtain ⟨i,i1,i2,i3⟩:=ci;have b1:=(t1.mul hp).mul (B:=1) (b:=i) ⟨by grind,by grind⟩;have e1:t*p/c=t*p*i:=by grind
 rw [e1];obtain ⟨x1,x2⟩:=b1;refine ⟨⟨by grind,by grind⟩,by grind⟩
theorem xg {t:Rat}(t1:Bd (1/8) t):Bd (6/5) (T6 t)∧4/5≤T6 t:=by
 unfold T6;have h6:=(kU (p:=1) (c:=6) t1 ⟨by grind,by grind⟩ (by grind)).1;have h5:=(kU (c:=5) t1 h6 (by grind)).1;have h4:=(kU (c:=4) t1 h5 (by grind)).1;have h3:=(kU (c:=3) t1 h4 (by grind)).1;have h2:=(kU (c:=2) t1 h3 (by grind)).1;exact kU (c:=1) t1 h2 (by grind)
theorem Su {t s d:Rat}(t1:Bd (1/8) t)(s1:Bd (1/8) s)(h:je d t s)(d0:0≤d):je (3*d) (T6 t) (T6 s):=by
 unfold T6;have h6:=(kU (p:=1) (c:=6) s1 ⟨by grind,by grind⟩ (by grind)).1;have h5:=(kU (c:=5) s1 h6 (by grind)).1;have h4:=(kU (c:=4) s1 h5 (by grind)).1;have h3:=(kU (c:=3) s1 h4 (by grind)).1;have h2:=(kU (c:=2) s1 h3 (by grind)).1;have a6:=sU (p:=1) (q:=1) (c:=6) (e:=0) t1 ⟨by grind,by grind⟩ h ⟨by grind,by grind⟩ (by grind) d0 (by grind);have a5:=sU (c:=5) t1 h6 h a6 (by grind) d0 (by grind);have a4:=sU (c:=4) t1 h5 h a5 (by grind) d0 (by grind);have a3:=sU (c:=3) t1 h4 h a4 (by grind) d0 (by grind);have a2:=sU (c:=2) t1 h3 h a3 (by grind) d0 (by grind);have a1:=sU (c:=1) t1 h2 h a2 (by grind) d0 (by grind);obtain ⟨x1,x2⟩:=a1;constructor<;>grind
end Go.Proofs
namespace Go.Proofs
open Go.Ide Go.IntWalk
theorem Bd.pow {A a:Rat}(h:Bd A a): ∀n:Nat,Bd (A^n) (a^n)
 |0=>by rw [Rat.pow_zero,Rat.pow_zero];exact ⟨by grind,by grind⟩
 |n+1=>by rw [Rat.pow_succ,Rat.pow_succ];exact (Bd.pow h n).mul h
theorem Bd.const {A a c:Rat}(h:Bd A a)(hc:0≤c):Bd (A*c) (a*c):=h.mul ⟨by grind,by grind⟩
def OZ (a b:Rat):Rat:=a^1*b^6*(1/720)+a^2*b^5*(1/240)+a^2*b^6*(1/1440)+a^3*b^4*(1/144)+a^3*b^5*(1/720)+a^3*b^6*(1/4320)+a^4*b^3*(1/144)+a^4*b^4*(1/576)+a^4*b^5*(1/2880)+a^4*b^6*(1/17280)+a^5*b^2*(1/240)+a^5*b^3*(1/720)+a^5*b^4*(1/2880)+a^5*b^5*(1/14400)+a^5*b^6*(1/86400)+a^6*b^1*(1/720)+a^6*b^2*(1/1440)+a^6*b^3*(1/4320)+a^6*b^4*(1/17280)+a^6*b^5*(1/86400)+a^6*b^6*(1/518400)
def JI (r:Rat):Rat:=r^1*r^6*(1/720)+r^2*r^5*(1/240)+r^2*r^6*(1/1440)+r^3*r^4*(1/144)+r^3*r^5*(1/720)+r^3*r^6*(1/4320)+r^4*r^3*(1/144)+r^4*r^4*(1/576)+r^4*r^5*(1/2880)+r^4*r^6*(1/17280)+r^5*r^2*(1/240)+r^5*r^3*(1/720)+r^5*r^4*(1/2880)+r^5*r^5*(1/14400)+r^5*r^6*(1/86400)+r^6*r^1*(1/720)+r^6*r^2*(1/1440)+r^6*r^3*(1/4320)+r^6*r^4*(1/17280)+r^6*r^5*(1/86400)+r^6*r^6*(1/518400)
theorem Ho (a b:Rat):T6 a*T6 b=T6 (a+b)+OZ a b:=by
 unfold T6 OZ;grind
theorem Dt {r a b:Rat}(ha:Bd r a)(hb:Bd r b):Bd (JI r) (OZ a b):=by
 unfold OZ JI;exact ((((((((((((((((((((((ha.pow 1).mul (hb.pow 6)).const (c:=1/720) (by grind)).add (((ha.pow 2).mul (hb.pow 5)).const (c:=1/240) (by grind))).add (((ha.pow 2).mul (hb.pow 6)).const (c:=1/1440) (by grind))).add (((ha.pow 3).mul (hb.pow 4)).const (c:=1/144) (by grind))).add (((ha.pow 3).mul (hb.pow 5)).const (c:=1/720) (by grind))).add (((ha.pow 3).mul (hb.pow 6)).const (c:=1/4320) (by grind))).add (((ha.pow 4).mul (hb.pow 3)).const (c:=1/144) (by grind))).add (((ha.pow 4).mul (hb.pow 4)).const (c:=1/576) (by grind))).add (((ha.pow 4).mul (hb.pow 5)).const (c:=1/2880) (by grind))).add (((ha.pow 4).mul (hb.pow 6)).const (c:=1/17280) (by grind))).add (((ha.pow 5).mul (hb.pow 2)).const (c:=1/240) (by grind))).add (((ha.pow 5).mul (hb.pow 3)).const (c:=1/720) (by grind))).add (((ha.pow 5).mul (hb.pow 4)).const (c:=1/2880) (by grind))).add (((ha.pow 5).mul (hb.pow 5)).const (c:=1/14400) (by grind))).add (((ha.pow 5).mul (hb.pow 6)).const (c:=1/86400) (by grind))).add (((ha.pow 6).mul (hb.pow 1)).const (c:=1/720) (by grind))).add (((ha.pow 6).mul (hb.pow 2)).const (c:=1/1440) (by grind))).add (((ha.pow 6).mul (hb.pow 3)).const (c:=1/4320) (by grind))).add (((ha.pow 6).mul (hb.pow 4)).const (c:=1/17280) (by grind))).add (((ha.pow 6).mul (hb.pow 5)).const (c:=1/86400) (by grind))).add (((ha.pow 6).mul (hb.pow 6)).const (c:=1/518400) (by grind))
def Fm (q:Rat):Rat:=2*q+2*q^3/3+2*q^5/5
def O0 (q:Rat):Rat:=q^7*(-(14/45))+q^8*(-(4/15))+q^9*(-(112/405))+q^10*(-(362/2025))+q^11*(-(178/675))+q^12*(-(46/405))+q^13*(-(286/1215))+q^14*(-(16/405))+q^15*(-(14288/91125))+q^16*(-(548/91125))+q^17*(-(1672/18225))+q^18*(112/32805)+q^19*(-(37252/820125))+q^20*(2486/455625)+q^21*(-(8714/455625))+q^22*(92/30375)+q^23*(-(1036/151875))+q^24*(188/151875)+q^25*(-(7076/3796875))+q^26*(136/421875)+q^27*(-(172/421875))+q^28*(8/140625)+q^29*(-(8/140625))+q^30*(4/703125)+q^31*(-(4/703125))
def O1 (r:Rat):Rat:=r^7*(14/45)+r^8*(4/15)+r^9*(112/405)+r^10*(362/2025)+r^11*(178/675)+r^12*(46/405)+r^13*(286/1215)+r^14*(16/405)+r^15*(14288/91125)+r^16*(548/91125)+r^17*(1672/18225)+r^18*(112/32805)+r^19*(37252/820125)+r^20*(2486/455625)+r^21*(8714/455625)+r^22*(92/30375)+r^23*(1036/151875)+r^24*(188/151875)+r^25*(7076/3796875)+r^26*(136/421875)+r^27*(172/421875)+r^28*(8/140625)+r^29*(8/140625)+r^30*(4/703125)+r^31*(4/703125)
theorem Sv (q:Rat):T6 (Fm q)*(1 - q)=1+q+O0 q:=by
 unfold T6 Fm O0;grind
theorem Bd.m7 {A a c d:Rat}(h:Bd A a)(h1: -d≤c)(h2:c≤d):Bd (A*d) (a*c):=h.mul ⟨h1,h2⟩
theorem O2 {r q:Rat}(hq:Bd r q):Bd (O1 r) (O0 q):=by
 unfold O0 O1;exact (((((((((((((((((((((((((hq.pow 7).m7 (c:=(-(14/45))) (d:=(14/45)) (by grind) (by grind)).add ((hq.pow 8).m7 (c:=(-(4/15))) (d:=(4/15)) (by grind) (by grind))).add ((hq.pow 9).m7 (c:=(-(112/405))) (d:=(112/405)) (by grind) (by grind))).add ((hq.pow 10).m7 (c:=(-(362/2025))) (d:=(362/2025)) (by grind) (by grind))).add ((hq.pow 11).m7 (c:=(-(178/675))) (d:=(178/675)) (by grind) (by grind))).add ((hq.pow 12).m7 (c:=(-(46/405))) (d:=(46/405)) (by grind) (by grind))).add ((hq.pow 13).m7 (c:=(-(286/1215))) (d:=(286/1215)) (by grind) (by grind))).add ((hq.pow 14).m7 (c:=(-(16/405))) (d:=(16/405)) (by grind) (by grind))).add ((hq.pow 15).m7 (c:=(-(14288/91125))) (d:=(14288/91125)) (by grind) (by grind))).add ((hq.pow 16).m7 (c:=(-(548/91125))) (d:=(548/91125)) (by grind) (by grind))).add ((hq.pow 17).m7 (c:=(-(1672/18225))) (d:=(1672/18225)) (by grind) (by grind))).add ((hq.pow 18).m7 (c:=(112/32805)) (d:=(112/32805)) (by grind) (by grind))).add ((hq.pow 19).m7 (c:=(-(37252/820125))) (d:=(37252/820125)) (by grind) (by grind))).add ((hq.pow 20).m7 (c:=(2486/455625)) (d:=(2486/455625)) (by grind) (by grind))).add ((hq.pow 21).m7 (c:=(-(8714/455625))) (d:=(8714/455625)) (by grind) (by grind))).add ((hq.pow 22).m7 (c:=(92/30375)) (d:=(92/30375)) (by grind) (by grind))).add ((hq.pow 23).m7 (c:=(-(1036/151875))) (d:=(1036/151875)) (by grind) (by grind))).add ((hq.pow 24).m7 (c:=(188/151875)) (d:=(188/151875)) (by grind) (by grind))).add ((hq.pow 25).m7 (c:=(-(7076/3796875))) (d:=(7076/3796875)) (by grind) (by grind))).add ((hq.pow 26).m7 (c:=(136/421875)) (d:=(136/421875)) (by grind) (by grind))).add ((hq.pow 27).m7 (c:=(-(172/421875))) (d:=(172/421875)) (by grind) (by grind))).add ((hq.pow 28).m7 (c:=(8/140625)) (d:=(8/140625)) (by grind) (by grind))).add ((hq.pow 29).m7 (c:=(-(8/140625))) (d:=(8/140625)) (by grind) (by grind))).add ((hq.pow 30).m7 (c:=(4/703125)) (d:=(4/703125)) (by grind) (by grind))).add ((hq.pow 31).m7 (c:=(-(4/703125))) (d:=(4/703125)) (by grind) (by grind))
end Go.Proofs
namespace Go.Proofs
open Go.Ide Go.IntWalk
def Ex (t:Rat):Rat:=xG 8 (T6 t)
theorem n2:((2:Nat):Rat)=2:=rfl
theorem oY {t:Rat}(h:Bd (1/8) t):0≤T6 t:=by have:=(xg h).2;grind
theorem rM {t:Rat}(h:Bd (1/8) t):0≤Ex t:=qz 8 (oY h)
theorem P2:JI (1/8)≤1/80000000:=by unfold JI;grind
theorem Sw:JI (21/100)≤1/2000000:=by unfold JI;grind
theorem Sx:O1 (21/100)≤7/1000000:=by unfold O1;grind
theorem MC {a b:Rat}(ha:Bd (1/8) a)(hb:Bd (1/8) b)(Vv:Bd (1/8) (a+b)):Nq 2 (T6 a*T6 b) (T6 (a+b)):=by
 have h1:=Dt ha hb;have h2:=P2;have h3:=Ho a b;have p1:=(xg ha).2;have p2:=(xg hb).2;have p3:=(xg Vv).2;have p4:=Rat.mul_le_mul_of_nonneg_left p2 (show 0≤T6 a by grind);obtain ⟨x1,x2⟩:=h1;refine Nq.rJ (e:=1/80000000) ⟨by grind,by grind⟩ (by rw [n2];grind) (by rw [n2];grind) (by grind) (by grind)
theorem Hp {a b:Rat}(ha:Bd (1/8) a)(hb:Bd (1/8) b)(Vv:Bd (1/8) (a+b)):Nq 512 (Ex a*Ex b) (Ex (a+b)):=by
 have h:=vc 8 (MC ha hb Vv) (Rat.mul_nonneg (oY ha) (oY hb)) (oY Vv);rw [Dr] at h;exact h
theorem Sy {a b d:Rat}{k:Nat}(ha:Bd (1/8) a)(hb:Bd (1/8) b)(h:je d a b)(d0:0≤d)(hk:375000000*d≤(k:Rat)):Nq (256*k) (Ex a) (Ex b):=by
 have h1:=Su ha hb h d0;have p1:=(xg ha).2;have p2:=(xg hb).2;have ou:(0:Rat)≤(k:Rat):=cF (Nat.zero_le k);have q1:=Rat.mul_le_mul_of_nonneg_left p1 ou;have q2:=Rat.mul_le_mul_of_nonneg_left p2 ou;have n:=Nq.rJ (k:=k) h1 (by grind) (by grind) (by grind) (by grind);exact vc 8 n (oY ha) (oY hb)
theorem MD (n:Nat)(x:Rat):xG (n+1) x=xG n (x*x):=by
 rw [Dr];rfl
theorem Bd.half {r t:Rat}(h:Bd r t):Bd r (t/2):=by
 obtain ⟨h1,h2⟩:=h;constructor<;>grind
theorem O3 {t:Rat}(ht:Bd (1/8) t):Nq 2 (T6 (t/2)*T6 (t/2)) (T6 t):=by
 have e:t/2+t/2=t:=by grind
 have:=MC ht.half ht.half (by rw [e];exact ht);rw [e] at this;exact this
theorem wv {t:Rat}(ht:Bd (1/8) t)(n:Nat):Nq (2^n*2) (xG (n+1) (T6 (t/2))) (xG n (T6 t)):=by
 rw [MD];exact vc n (O3 ht) (Rat.mul_nonneg (oY ht.half) (oY ht.half)) (oY ht)
theorem ME {l:Rat}(hl:Bd (42/100) l):Nq 700 (Ex (l/256)) (T6 l):=by
 have b2:Bd (1/8) (l/2/2):=by obtain ⟨h1,h2⟩:=hl;constructor<;>grind
 have b3:=b2.half;have b4:=b3.half;have b5:=b4.half;have b6:=b5.half;have b7:=b6.half;have c7:=wv b7 7;have c6:=wv b6 6;have c5:=wv b5 5;have c4:=wv b4 4;have c3:=wv b3 3;have c2:=wv b2 2;have c:=((((c7.trans c6).trans c5).trans c4).trans c3).trans c2;have e:l/2/2/2/2/2/2/2/2=l/256:=by grind
 rw [e] at c;have r1:=Dt (r:=1/8) b2 b2;have a1:=Ho (l/2/2) (l/2/2);have e1:l/2/2+l/2/2=l/2:=by grind
 rw [e1] at a1;have g1:=P2;have p2:=(xg b2).2;have p22:=Rat.mul_le_mul_of_nonneg_left p2 (show 0≤T6 (l/2/2) by grind);obtain ⟨x1,x2⟩:=r1;have q1:16/25 - 1/80000000≤T6 (l/2):=by grind
 have n1:Nq 2 (T6 (l/2/2)*T6 (l/2/2)) (T6 (l/2)):=Nq.rJ (e:=1/80000000) ⟨by grind,by grind⟩ (by rw [n2];grind) (by rw [n2];grind) (by grind) (by grind);have bh:Bd (21/100) (l/2):=by obtain ⟨h1,h2⟩:=hl;constructor<;>grind
 have r0:=Dt bh bh;have a0:=Ho (l/2) (l/2);have e0:l/2+l/2=l:=by grind
 rw [e0] at a0;have g0:=Sw;have J5:=Rat.mul_le_mul_of_nonneg_left q1 (show 0≤T6 (l/2) by grind);obtain ⟨x3,x4⟩:=r0;have VE:((180:Nat):Rat)=180:=rfl;have n0:Nq 180 (T6 (l/2)*T6 (l/2)) (T6 l):=Nq.rJ (e:=1/2000000) ⟨by grind,by grind⟩ (by rw [VE];grind) (by rw [VE];grind) (by grind) (by grind);have s2:xG 2 (T6 (l/2/2))=(T6 (l/2/2)*T6 (l/2/2))*(T6 (l/2/2)*T6 (l/2/2)):=rfl;rw [s2] at c;have t2:0≤T6 (l/2/2)*T6 (l/2/2):=by grind
 have t1:0≤T6 (l/2):=by grind
 have n11:=n1.mul n1 t2 t1 t2 t1;have all:=(c.trans n11).trans n0;have l0:0≤T6 l:=by grind
 have e9:0≤xG (7+1) (T6 (l/256)):=qz 8 (oY (by obtain ⟨h1,h2⟩:=hl;constructor<;>grind));exact all.mono e9 l0 (by decide)
theorem Hq {q:Rat}(hq:Bd (201/1000) q):Bd (42/100) (Fm q):=by
 have h3:=(hq.pow 3).const (c:=2/3) (by grind);have h5:=(hq.pow 5).const (c:=2/5) (by grind);obtain ⟨a1,a2⟩:=hq;obtain ⟨b1,b2⟩:=h3;obtain ⟨c1,c2⟩:=h5;unfold Fm;constructor<;>grind
theorem Sz {q:Rat}(hq:Bd (201/1000) q):Nq 1700 (Ex (Fm q/256)*(1 - q)) (1+q):=by
 have h1:=ME (Hq hq);have h2:=Sv q;have yB:Bd (21/100) q:=hq.mono (by grind);have h3:=O2 yB;have h4:=Sx;obtain ⟨x1,x2⟩:=h3;obtain ⟨y1,y2⟩:=hq;have VF:((1000:Nat):Rat)=1000:=rfl;have n0:Nq 1000 (T6 (Fm q)*(1 - q)) (1+q):=Nq.rJ (e:=7/1000000) ⟨by grind,by grind⟩ (by rw [VF];grind) (by rw [VF];grind) (by grind) (by grind);have be:Bd (1/8) (Fm q/256):=by
  have:=Hq (q:=q) ⟨y1,y2⟩;obtain ⟨z1,z2⟩:=this;constructor<;>grind
 have tl:0≤T6 (Fm q):=by
  have p:0≤T6 (Fm q)*(1 - q):=by grind
  refine Rat.le_of_mul_le_mul_right (c:=1 - q) ?_ (by grind);grind
 have m:=h1.mul (Nq.refl (x:=1 - q) (by grind)) (rM be) tl (by grind) (by grind);exact m.trans n0
def BP:Rat:=6243314768165359/9007199254740992
theorem SA:Nq 1 (Ex (-BP/256)) (1/2):=by
 have h1:Ex (-BP/256)≤1/2*(1+1/100000000):=by decide+kernel
 have h2:1/2*(1 - 1/200000000)≤Ex (-BP/256):=by decide+kernel
 have r:rp 1=100000001/100000000:=by
  show 1*AA=_;rw [wu];grind
 unfold Nq;rw [r];constructor<;>grind
end Go.Proofs
namespace Go.Proofs
open Go.Ide Go.IntWalk
def p2:Nat→Rat
 |0=>1
 |k+1=>2*p2 k
theorem Aa: ∀k,1≤p2 k
 |0=>by unfold p2;grind
 |k+1=>by have:=Aa k;unfold p2;grind
theorem SB {k:Nat}(h:7≤k):128≤p2 k:=by
 obtain ⟨d,rfl⟩:=Nat.exists_eq_add_of_le h;induction d with
 |zero=>show 128≤p2 7;simp only [p2];grind
 |succ d ih=>have:=ih (by omega);show 128≤2*p2 (7+d);grind
theorem VG {k:Nat}(h:k≤7):p2 k≤128:=by
 have hk:k=0∨k=1∨k=2∨k=3∨k=4∨k=5∨k=6∨k=7:=by omega
 rcases hk with rfl|rfl|rfl|rfl|rfl|rfl|rfl|rfl<;>simp only [p2]<;>grind
theorem w2:FD 4611686018427387904∧wD 4611686018427387904=2:=⟨kq (by omega),by rw [pH (c:=2) (d:=1) (by omega) (by omega) (by decide+kernel),show ((1:Nat):Rat)=1 from rfl,show ((2:Nat):Rat)=2 from rfl];grind⟩
theorem WL:FD 4604930618986332160∧wD 4604930618986332160=3/4:=⟨kq (by omega),by rw [pH (c:=3) (d:=4) (by omega) (by omega) (by decide+kernel),show ((4:Nat):Rat)=4 from rfl,show ((3:Nat):Rat)=3 from rfl]⟩
theorem w0:FD 0∧wD 0=0:=⟨kq (by omega),by rw [pH (c:=0) (d:=1) (by omega) (by omega) (by decide+kernel),show ((1:Nat):Rat)=1 from rfl,show ((0:Nat):Rat)=0 from rfl];grind⟩
theorem WM:FD 4604418534313441775∧wD 4604418534313441775=BP:=⟨kq (by omega),by rw [pH (c:=6243314768165359) (d:=9007199254740992) (by omega) (by omega) (by decide+kernel)];rfl⟩
theorem Tn {m0:Nat}(h0:FD m0)(l0:1/100≤wD m0)(l1:wD m0≤3/2):
 ∃r,rounds dx (m0,(0:Nat))=some r∧ ∃k:Nat,k≤7∧FD r.1∧FD r.2∧je ((k:Rat)/100000000000000) (wD r.2) (-(k:Rat))∧je ((p2 k - 1)/1000000000000000) (wD r.1) (wD m0*p2 k)∧3/4≤wD r.1∧wD r.1≤3/2+1/1000000000000000:=by
 have:=ir (f:=dx) (fun n s=> ∃k:Nat,n=7 - k∧k≤7∧FD s.1∧FD s.2∧je ((k:Rat)/100000000000000) (wD s.2) (-(k:Rat))∧je ((p2 k - 1)/1000000000000000) (wD s.1) (wD m0*p2 k)∧1/200≤wD s.1∧wD s.1≤3/2+1/1000000000000000)
  (fun r=> ∃k:Nat,k≤7∧FD r.1∧FD r.2∧je ((k:Rat)/100000000000000) (wD r.2) (-(k:Rat))∧je ((p2 k - 1)/1000000000000000) (wD r.1) (wD m0*p2 k)∧3/4≤wD r.1∧wD r.1≤3/2+1/1000000000000000) (by
  rintro n ⟨m,e⟩ ⟨k,rfl,hk,hm,he,ha,hb,hp,hq⟩;simp only at hm he ha hb hp hq;unfold dx;simp only;rw [IB hm WL.1,WL.2];by_cases c:wD m<3/4;left;rw [decide_eq_true c];have Im:k<7:=by
   apply Nat.lt_of_not_le;intro h7;have g:=SB h7;have g2:=VG hk;obtain ⟨x1,x2⟩:=hb;have:=Rat.mul_le_mul_of_nonneg_left g (show 0≤wD m0 by grind);grind
  obtain ⟨u1,u2,u3⟩:=Fl (e:=2) hm w2.1 (by grind) (by grind) (by rw [w2.2];grind) (by rw [w2.2];grind);rw [w2.2] at u2 u3;have MF:=cF hk;rw [show ((7:Nat):Rat)=7 from rfl] at MF;have ou:(0:Rat)≤(k:Rat):=cF (Nat.zero_le k);obtain ⟨a1,a2⟩:=ha;obtain ⟨v1,v2,v3⟩:=Mw (e:=10) he xf (by grind) (by grind) (by rw [nk];grind) (by rw [nk];grind);rw [nk] at v2 v3;have gg:=Aa k;obtain ⟨x1,x2⟩:=hb;refine ⟨7 - (k+1),_,by omega,rfl,k+1,rfl,by omega,u1,v1,?_,?_,by grind,by grind⟩;rw [Rat.natCast_add,show ((1:Nat):Rat)=1 from rfl];constructor<;>grind;simp only [p2];constructor<;>grind;right;rw [decide_eq_false c];exact ⟨_,rfl,k,hk,hm,he,ha,hb,by grind,hq⟩) 7 (m0,0) ⟨0,rfl,by omega,h0,w0.1,by
   show je _ (wD 0) _;rw [w0.2,show ((0:Nat):Rat)=0 from rfl];constructor<;>grind,by
   show je _ (wD m0) _;simp only [p2];constructor<;>grind,by show 1/200≤wD m0;grind,by show wD m0≤_;grind⟩
 exact this
theorem jP {q7 s K K':Nat}{c h e:Rat}(hq:FD q7)(hs:FD s)(hK:FD K)(q1:Bd (201/1000) (wD q7))(s1:Bd 2 (wD s))(hc:wD K=c)(c1:1≤c)(Ur:aq .sub .f64 K 4611686018427387904=K')(ha:je e (wD s) h)(e0:0≤e):
 ∃r,ep q7 (s,K)=some (.inl (r,K'))∧FD r∧Bd 2 (wD r)∧je (e*(40401/1000000)+1/10000000000000) (wD r) (1/c+wD q7*wD q7*h):=by
 have ci: ∃i,i*c=1∧0≤i∧i≤1:=by
  refine ⟨1/c,by grind,?_,?_⟩;refine Rat.le_of_mul_le_mul_right (c:=c) ?_ (by grind);have:1/c*c=1:=by grind
  rw [this];grind;refine Rat.le_of_mul_le_mul_right (c:=c) ?_ (by grind);have:1/c*c=1:=by grind
  rw [this];grind
 obtain ⟨i,i1,i2,i3⟩:=ci;have e1:1/c=i:=by grind
 obtain ⟨a1,a2,a3⟩:=VB (e:=1) (q:=i) xf hK (by rw [hc];grind) (by rw [hc,nk];grind) (by grind) (by grind) (by grind) (by grind);have bq:=q1.mul q1;obtain ⟨bq1,bq2⟩:=bq;obtain ⟨b1,b2,b3⟩:=Fl (e:=1/16) hq hq (by grind) (by grind) (by grind) (by grind);have bu:Bd (50000/1000000) (wD (aq .mul .f64 q7 q7)):=by constructor<;>grind
 have bs:=bu.mul s1;obtain ⟨bs1,bs2⟩:=bs;obtain ⟨d1,d2,d3⟩:=Fl (e:=1/4) b1 hs (by grind) (by grind) (by grind) (by grind);have dd:=Bd.mul (A:=1/16/4503599627370496) (a:=wD (aq .mul .f64 q7 q7) - wD q7*wD q7) ⟨by grind,by grind⟩ s1;obtain ⟨dd1,dd2⟩:=dd;obtain ⟨f1,f2,f3⟩:=OV (e:=2) a1 d1 (by grind) (by grind) (by grind) (by grind);have hh:=(q1.mul q1).mul ha.bd;obtain ⟨hh1,hh2⟩:=hh;refine ⟨_,?_,f1,⟨by grind,by grind⟩,?_⟩;unfold ep;simp only;rw [Mz hK xf,nk,decide_eq_true (show 1≤wD K by grind),Ur];rfl;rw [e1];constructor<;>grind
end Go.Proofs
namespace Go.Proofs
open Go.Ide Go.IntWalk
theorem VH:FD 4627730092099895296∧wD 4627730092099895296=25:=⟨kq (by omega),by rw [pH (c:=25) (d:=1) (by omega) (by omega) (by decide+kernel),show ((1:Nat):Rat)=1 from rfl,show ((25:Nat):Rat)=25 from rfl];grind⟩
theorem VI:FD 4627167142146473984∧wD 4627167142146473984=23:=⟨kq (by omega),by rw [pH (c:=23) (d:=1) (by omega) (by omega) (by decide+kernel),show ((1:Nat):Rat)=1 from rfl,show ((23:Nat):Rat)=23 from rfl];grind⟩
theorem VJ:FD 4626604192193052672∧wD 4626604192193052672=21:=⟨kq (by omega),by rw [pH (c:=21) (d:=1) (by omega) (by omega) (by decide+kernel),show ((1:Nat):Rat)=1 from rfl,show ((21:Nat):Rat)=21 from rfl];grind⟩
theorem VK:FD 4626041242239631360∧wD 4626041242239631360=19:=⟨kq (by omega),by rw [pH (c:=19) (d:=1) (by omega) (by omega) (by decide+kernel),show ((1:Nat):Rat)=1 from rfl,show ((19:Nat):Rat)=19 from rfl];grind⟩
theorem VL:FD 4625478292286210048∧wD 4625478292286210048=17:=⟨kq (by omega),by rw [pH (c:=17) (d:=1) (by omega) (by omega) (by decide+kernel),show ((1:Nat):Rat)=1 from rfl,show ((17:Nat):Rat)=17 from rfl];grind⟩
theorem VM:FD 4624633867356078080∧wD 4624633867356078080=15:=⟨kq (by omega),by rw [pH (c:=15) (d:=1) (by omega) (by omega) (by decide+kernel),show ((1:Nat):Rat)=1 from rfl,show ((15:Nat):Rat)=15 from rfl];grind⟩
theorem VN:FD 4623507967449235456∧wD 4623507967449235456=13:=⟨kq (by omega),by rw [pH (c:=13) (d:=1) (by omega) (by omega) (by decide+kernel),show ((1:Nat):Rat)=1 from rfl,show ((13:Nat):Rat)=13 from rfl];grind⟩
theorem VO:FD 4622382067542392832∧wD 4622382067542392832=11:=⟨kq (by omega),by rw [pH (c:=11) (d:=1) (by omega) (by omega) (by decide+kernel),show ((1:Nat):Rat)=1 from rfl,show ((11:Nat):Rat)=11 from rfl];grind⟩
theorem wo9:FD 4621256167635550208∧wD 4621256167635550208=9:=⟨kq (by omega),by rw [pH (c:=9) (d:=1) (by omega) (by omega) (by decide+kernel),show ((1:Nat):Rat)=1 from rfl,show ((9:Nat):Rat)=9 from rfl];grind⟩
theorem wo7:FD 4619567317775286272∧wD 4619567317775286272=7:=⟨kq (by omega),by rw [pH (c:=7) (d:=1) (by omega) (by omega) (by decide+kernel),show ((1:Nat):Rat)=1 from rfl,show ((7:Nat):Rat)=7 from rfl];grind⟩
theorem wo5:FD 4617315517961601024∧wD 4617315517961601024=5:=⟨kq (by omega),by rw [pH (c:=5) (d:=1) (by omega) (by omega) (by decide+kernel),show ((1:Nat):Rat)=1 from rfl,show ((5:Nat):Rat)=5 from rfl];grind⟩
theorem wo3:FD 4613937818241073152∧wD 4613937818241073152=3:=⟨kq (by omega),by rw [pH (c:=3) (d:=1) (by omega) (by omega) (by decide+kernel),show ((1:Nat):Rat)=1 from rfl,show ((3:Nat):Rat)=3 from rfl];grind⟩
theorem wo1:FD 4607182418800017408∧wD 4607182418800017408=1:=⟨xf,nk⟩
theorem wom:FD 13830554455654793216∧wD 13830554455654793216= -1:=by
 have:=MB (r:=4607182418800017408) (by omega);rw [nk] at this;exact this
theorem JJ {q7:Nat}(hq:FD q7)(q1:Bd (201/1000) (wD q7)): ∃r,rounds (ep q7) ((0:Nat),(4627730092099895296:Nat))=some r∧FD r∧Bd 2 (wD r)∧je (1/90000) (wD r) (1+wD q7*wD q7*(1/3+wD q7*wD q7*(1/5))):=by
 have NA: ∀x:Rat,je 0 x x:=fun x=>⟨by grind,by grind⟩;have b27:Bd 2 (wD 0):=by rw [w0.2];exact ⟨by grind,by grind⟩
 have f27:=w0.1;obtain ⟨p25,E0,f25,b25,a25⟩:=jP (K':=4627167142146473984) hq f27 VH.1 q1 b27 VH.2 (by grind) (by decide+kernel) (NA _) (by grind);obtain ⟨p23,r23,f23,b23,a23⟩:=jP (K':=4626604192193052672) hq f25 VI.1 q1 b25 VI.2 (by grind) (by decide+kernel) (NA _) (by grind);obtain ⟨p21,r21,f21,b21,a21⟩:=jP (K':=4626041242239631360) hq f23 VJ.1 q1 b23 VJ.2 (by grind) (by decide+kernel) (NA _) (by grind);obtain ⟨p19,G4,f19,b19,a19⟩:=jP (K':=4625478292286210048) hq f21 VK.1 q1 b21 VK.2 (by grind) (by decide+kernel) (NA _) (by grind);obtain ⟨p17,xA,f17,b17,a17⟩:=jP (K':=4624633867356078080) hq f19 VL.1 q1 b19 VL.2 (by grind) (by decide+kernel) (NA _) (by grind);obtain ⟨p15,rC,f15,b15,a15⟩:=jP (K':=4623507967449235456) hq f17 VM.1 q1 b17 VM.2 (by grind) (by decide+kernel) (NA _) (by grind);obtain ⟨p13,r13,f13,b13,a13⟩:=jP (K':=4622382067542392832) hq f15 VN.1 q1 b15 VN.2 (by grind) (by decide+kernel) (NA _) (by grind);obtain ⟨p11,A6,f11,b11,a11⟩:=jP (K':=4621256167635550208) hq f13 VO.1 q1 b13 VO.2 (by grind) (by decide+kernel) (NA _) (by grind);obtain ⟨p9,r9,f9,b9,a9⟩:=jP (K':=4619567317775286272) hq f11 wo9.1 q1 b11 wo9.2 (by grind) (by decide+kernel) (NA _) (by grind);have a9':Bd (1/5) (wD p9):=by
  have b:=(q1.mul q1).mul b11;obtain ⟨x1,x2⟩:=a9;obtain ⟨x3,x4⟩:=b;constructor<;>grind
 obtain ⟨p7,r7,f7,b7,a7⟩:=jP (K':=4617315517961601024) hq f9 wo7.1 q1 b9 wo7.2 (by grind) (by decide+kernel) (NA _) (by grind);have a7':je (16/100) (wD p7) 0:=by
  have b:=(q1.mul q1).mul a9';obtain ⟨x1,x2⟩:=a7;obtain ⟨x3,x4⟩:=b;constructor<;>grind
 obtain ⟨p5,r5,f5,b5,a5⟩:=jP (K':=4613937818241073152) hq f7 wo5.1 q1 b7 wo5.2 (by grind) (by decide+kernel) a7' (by grind);obtain ⟨p3,r3,f3,b3,a3⟩:=jP (K':=4607182418800017408) hq f5 wo3.1 q1 b5 wo3.2 (by grind) (by decide+kernel) a5 (by grind);obtain ⟨p1,r1,f1,b1,a1⟩:=jP (K':=13830554455654793216) hq f3 wo1.1 q1 b3 wo1.2 (by grind) (by decide+kernel) a3 (by grind);refine ⟨p1,?_,f1,b1,?_⟩;rw [bn,E0];simp only;rw [bn,r23];simp only;rw [bn,r21];simp only;rw [bn,G4];simp only;rw [bn,xA];simp only;rw [bn,rC];simp only;rw [bn,r13];simp only;rw [bn,A6];simp only;rw [bn,r9];simp only;rw [bn,r7];simp only;rw [bn,r5];simp only;rw [bn,r3];simp only;rw [bn,r1];simp only;have mX:ep q7 (p1,13830554455654793216)=some (.inr p1):=by
  unfold ep;simp only;rw [Mz wom.1 xf,wom.2,nk,decide_eq_false (by grind)];rfl
 rw [bn,mX];obtain ⟨x1,x2⟩:=a1;constructor<;>grind
end Go.Proofs
namespace Go.Proofs
open Go.Ide Go.IntWalk
theorem Nq.cancel {k:Nat}{x y c:Rat}(h:Nq k (x*c) (y*c))(hc:0<c):Nq k x y:=by
 obtain ⟨h1,h2⟩:=h;constructor;refine Rat.le_of_mul_le_mul_right (c:=c) ?_ hc;grind;refine Rat.le_of_mul_le_mul_right (c:=c) ?_ hc;grind
def bk (k:Nat):Rat:= -((k:Rat)*BP)/256
theorem IC (k:Nat):bk (k+1)=bk k+bk 1:=by
 unfold bk;rw [Rat.natCast_add,show ((1:Nat):Rat)=1 from rfl];grind
end Go.Proofs
namespace Go.Proofs
open Go.Ide Go.IntWalk
theorem dP: ∀k:Nat,k≤1000000→rp k≤1+(k:Rat)*102/10000000000
 |0,_=>by show (1:Rat)≤1+((0:Nat):Rat)*102/10000000000;rw [show ((0:Nat):Rat)=0 from rfl];grind
 |k+1,hk=>by
  have h:=dP k (by omega);have gM:=cF (show k≤1000000 by omega);rw [show ((1000000:Nat):Rat)=1000000 from rfl] at gM;have h0:(0:Rat)≤(k:Rat):=cF (Nat.zero_le k);rw [Rat.natCast_add,show ((1:Nat):Rat)=1 from rfl];show rp k*AA≤_;have:=Rat.mul_le_mul_of_nonneg_right h (show 0≤AA by rw [wu];grind);rw [wu] at this⊢;grind
theorem Z6:(8388609:Rat)≤8388608*rp 12:=by
 have:rp 12=AA*AA*AA*AA*AA*AA*AA*AA*AA*AA*AA*AA:=by
  simp only [rp];grind
 rw [this,wu];grind
theorem Fo: ∀k:Nat,((8388609^k:Nat):Rat)≤((8388608^k:Nat):Rat)*rp (12*k)
 |0=>by
  show ((1:Nat):Rat)≤((1:Nat):Rat)*1;rw [show ((1:Nat):Rat)=1 from rfl];grind
 |k+1=>by
  have ih:=Fo k;rw [Nat.pow_succ,Nat.pow_succ,Rat.natCast_mul,Rat.natCast_mul,show 12*(k+1)=12*k+12 from rfl,zZ];rw [show ((8388609:Nat):Rat)=8388609 from rfl,show ((8388608:Nat):Rat)=8388608 from rfl];have h1:=Z6;have g1:=qH (12*k);have p:(0:Rat)≤((8388608^k:Nat):Rat):=cF (Nat.zero_le _);have a:=Rat.mul_le_mul_of_nonneg_right ih (show (0:Rat)≤8388609 by grind);have b:=Rat.mul_le_mul_of_nonneg_left h1 (Rat.mul_nonneg p (show 0≤rp (12*k) by grind));grind
theorem ud {k u v:Nat}(h:dk k u v):Nq (12*k) (u:Rat) (v:Rat):=by
 have key: ∀{u v:Nat},u*8388608^k≤v*8388609^k→(u:Rat)≤(v:Rat)*rp (12*k):=by
  intro u v h;have h1:=cF h;rw [Rat.natCast_mul,Rat.natCast_mul] at h1;have h2:=Fo k;have hv:(0:Rat)≤(v:Rat):=cF (Nat.zero_le v);have hp:(0:Rat)<((8388608^k:Nat):Rat):=uc (Nat.pow_pos (by omega));have h3:=Rat.mul_le_mul_of_nonneg_left h2 hv;refine Rat.le_of_mul_le_mul_right (c:=((8388608^k:Nat):Rat)) ?_ hp;grind
 exact ⟨key h.1,key h.2⟩
theorem qL {x:Nat}(h:x≤2130706432):wS x=((bQ x:Nat):Rat)/US:=by
 unfold wS;rw [Nat.div_eq_of_lt (by omega)];rfl
theorem bD {x:Nat}(h:x≤2130706432):0≤wS x:=by
 rw [qL h];have hU:=eJ;have:(0:Rat)≤((bQ x:Nat):Rat):=cF (Nat.zero_le _);generalize ((bQ x:Nat):Rat)=v at*;generalize US=U at*;refine Rat.le_of_mul_le_mul_right (c:=U) ?_ hU;have e:v/U*U=v:=by grind
 rw [e];grind
theorem Fp {x b:Nat}(h:x≤2130706432)(hb:bQ x≤2^b)(h2:b≤175):FS x:=by
 refine ⟨by unfold bd;omega,Nat.le_trans hb (Nat.pow_le_pow_right (by omega) ?_)⟩;have:=zX;omega
theorem Fq:US=((2^149:Nat):Rat):=by
 unfold US;have:kS=149:=by have:=zX;omega
 rw [this]
theorem Rg.fs {a b x:Nat}(h:Rg a b x)(hb:b≤175):FS x:=Fp h.fin h.hi hb
theorem Rg.VP {a b x:Nat}(h:Rg a b x):wS x*US≤((2^b:Nat):Rat):=by
 rw [qL h.fin];have n:=cF h.hi;have hU:=eJ;generalize ((bQ x:Nat):Rat)=v at*;generalize US=U at*;have e:v/U*U=v:=by grind
 rw [e];exact n
end Go.Proofs
namespace Go.Proofs
open Go.Ide Go.IntWalk
theorem Nq.add {k:Nat}{x y z w:Rat}(h:Nq k x y)(h':Nq k z w):Nq k (x+z) (y+w):=by
 obtain ⟨h1,h2⟩:=h;obtain ⟨h3,h4⟩:=h';constructor<;>grind
theorem Nq.xF {k:Nat}{x y c:Rat}(h:Nq k x y)(hc:0≤c):Nq k (x*c) (y*c):=by
 obtain ⟨h1,h2⟩:=h;have a:=Rat.mul_le_mul_of_nonneg_right h1 hc;have b:=Rat.mul_le_mul_of_nonneg_right h2 hc;constructor<;>grind
def au (f:Nat→Rat):Nat→Rat
 |0=>0
 |n+1=>au f n+f n
theorem cu {f:Nat→Rat}: ∀n,(∀i,i<n→0≤f i)→0≤au f n
 |0,_=>by show (0:Rat)≤0;grind
 |n+1,h=>by
  have h1:=cu n (fun i hi=>h i (by omega));have h2:=h n (by omega);show 0≤au f n+f n;grind
theorem cT {k:Nat}{f g:Nat→Rat}: ∀n,(∀i,i<n→Nq k (f i) (g i))→Nq k (au f n) (au g n)
 |0,_=>by
  have:=qH k;show Nq k 0 0;constructor<;>grind
 |n+1,h=>(cT n fun i hi=>h i (by omega)).add (h n (by omega))
theorem fW (f:Nat→Rat)(c:Rat): ∀n,au f n*c=au (fun i=>f i*c) n
 |0=>by show (0:Rat)*c=0;grind
 |n+1=>by
  show (au f n+f n)*c=au (fun i=>f i*c) n+f n*c;rw [←fW f c n];grind
theorem br {f g:Nat→Rat}: ∀n,(∀i,i<n→f i=g i)→au f n=au g n
 |0,_=>rfl
 |n+1,h=>by
  show au f n+f n=au g n+g n;rw [br n fun i hi=>h i (by omega),h n (by omega)]
theorem kr (f g:Nat→Rat): ∀n,au f n+au g n=au (fun i=>f i+g i) n
 |0=>by show (0:Rat)+0=0;grind
 |n+1=>by
  show (au f n+f n)+(au g n+g n)=au (fun i=>f i+g i) n+(f n+g n);rw [←kr f g n];grind
theorem gu (f:Nat→Nat→Rat)(m:Nat): ∀n,au (fun i=>au (f i) m) n=au (fun j=>au (fun i=>f i j) n) m
 |0=>by
  show (0:Rat)=au (fun j=>0) m;induction m with
  |zero=>rfl
  |succ m ih=>show (0:Rat)=au (fun j=>0) m+0;rw [←ih];grind
 |n+1=>by
  show au (fun i=>au (f i) m) n+au (f n) m=au (fun j=>au (fun i=>f i j) n+f n j) m;rw [gu f m n,kr]
theorem sV:((2^149:Nat):Rat)=US:=Fq.symm
theorem rN {a b c d x y:Nat}(hx:Rg a b x)(hy:Rg c d y)(h1:172≤a+c)(h2:b+d≤424)(h3:a+c≤425)(h4:172≤b+d):Nq 12 (wS (aq .mul .f32 x y)) (wS x*wS y):=by
 obtain ⟨r,n⟩:=oh hx hy h1 h2 h3 h4;have q:=ud n;rw [Rat.natCast_mul,Rat.natCast_mul,sV] at q;rw [qL r.fin,qL hx.fin,qL hy.fin];have hU:=eJ;refine Nq.cancel (c:=US*US) ?_ (Rat.mul_pos hU hU);generalize ((bQ (aq .mul .f32 x y):Nat):Rat)=z at*;generalize ((bQ x:Nat):Rat)=u at*;generalize ((bQ y:Nat):Rat)=v at*;generalize US=U at*;have e1:z/U*(U*U)=z*U:=by grind
 have e2:u/U*(v/U)*(U*U)=u*v:=by grind
 rw [e1,e2];exact q
theorem MG {k u v:Nat}(h:dk k u v):Nq (12*k) ((u:Rat)/US) ((v:Rat)/US):=by
 have n:=ud h;have hU:=eJ;refine Nq.cancel (c:=US) ?_ hU;generalize (u:Rat)=a at*;generalize (v:Rat)=b at*;generalize US=U at*;have e1:a/U*U=a:=by grind
 have e2:b/U*U=b:=by grind
 rw [e1,e2];exact n
theorem Du (f:Nat→Nat): ∀n,((oW f n:Nat):Rat)/US=au (fun i=>((f i:Nat):Rat)/US) n
 |0=>by
  show ((0:Nat):Rat)/US=0;rw [show ((0:Nat):Rat)=0 from rfl];grind
 |n+1=>by
  show ((oW f n+f n:Nat):Rat)/US=au _ n+_;rw [←Du f n,Rat.natCast_add];have hU:=eJ;grind
theorem wx {f:Nat→Nat}{t:Nat→Nat}{lo hi:Nat}(hb:23≤hi)(h0:f 0=0)(hs: ∀p,f (p+1)=aq .add .f32 (f p) (t p))(n:Nat)(ht: ∀p,p<n→Rg lo hi (t p))(hn:hi+n≤274):
 Nq (12*n) (wS (f n)) (au (fun p=>wS (t p)) n):=by
 obtain ⟨h1,_,h3,_⟩:=qy hb h0 hs n ht hn;have q:=MG h3;rw [Du] at q;rw [qL h1];rw [br n (g:=fun i=>((bQ (t i):Nat):Rat)/US) fun i hi=>qL (ht i hi).fin];exact q
end Go.Proofs
namespace Go.Proofs
open Go.Ide Go.IntWalk
def Dv (row:List Nat):Prop:=hY row=true∧dk 6 (oW (fun i=>bQ (row.getD i 0)) row.length) (2^149)∧ ∀i,i<row.length→2^149≤33*bQ (row.getD i 0)
theorem SC {A W r T:Nat}(h0:0<A)(l1:A≤W)(h5:W*A*10000≤r*T*10001)(l5:T*10000≤32*A*10001):A≤33*r:=by
 have h1:A*A*10000≤W*A*10000:=Nat.mul_le_mul_right _ (Nat.mul_le_mul_right _ l1);have h2:r*(T*10000)≤r*(32*A*10001):=Nat.mul_le_mul_left _ l5;have h3:A*A*10000*10000≤r*(32*A*10001)*10001:=by
  have a:A*A*10000*10000≤r*T*10001*10000:=Nat.mul_le_mul_right _ (Nat.le_trans h1 h5);have b:r*T*10001*10000=r*(T*10000)*10001:=by ac_rfl
  rw [b] at a;exact Nat.le_trans a (Nat.mul_le_mul_right _ h2)
 have e1:A*A*10000*10000=A*(A*100000000):=by rw [Nat.mul_assoc,Nat.mul_assoc]
 have e2:r*(32*A*10001)*10001=A*(r*32*10001*10001):=by ac_rfl
 rw [e1,e2] at h3;have:=Nat.le_of_mul_le_mul_left h3 h0;omega
theorem O4 {ws:List Nat}(h1:1≤ws.length)(h4:ws.length≤4)(hw: ∀i,i<ws.length→Rg 149 152 (ws.getD i 0)):
 Dv (wq ws (cS ws ws.length))∧(wq ws (cS ws ws.length)).length=ws.length∧ ∀i,i<ws.length→Nz ((wq ws (cS ws ws.length)).getD i 0):=by
 have hl:=Mg ws (cS ws ws.length);obtain ⟨s1,s2,s3,s4⟩:=wt (xs:=ws) (b:=152) (by omega) (fun i hi=>⟨(hw i hi).fin,(hw i hi).hi⟩) ws.length (Nat.le_refl _) (by omega);have hg: ∀i,i<ws.length→(wq ws (cS ws ws.length)).getD i 0=aq .quo .f32 (ws.getD i 0) (cS ws ws.length):=fun i hi=>by
  unfold wq;rw [List.getD_eq_getElem?_getD,List.getElem?_map,List.getElem?_range hi];rfl
 have hT0:=s4 0 (by omega);have hT:Rg 149 156 (cS ws ws.length):=⟨s1,Nat.le_trans (hw 0 (by omega)).lo (qm (by have:=(hw 0 (by omega)).fin;omega) (by omega) hT0),Nat.le_trans s2 (Nat.pow_le_pow_right (by omega) (by omega))⟩;have ID:0<bQ (cS ws ws.length):=by have:=hT.lo;have:=bY 149;omega
 have JK: ∀i,i<ws.length→(Nz (aq .quo .f32 (ws.getD i 0) (cS ws ws.length))∧2^149≤33*bQ (aq .quo .f32 (ws.getD i 0) (cS ws ws.length)))∧dk 2 (bQ (aq .quo .f32 (ws.getD i 0) (cS ws ws.length))*bQ (cS ws ws.length)) (bQ (ws.getD i 0)*2^149):=fun i hi=>by
  obtain ⟨q1,q2⟩:=Si (hw i hi) hT (by omega) (by omega) (by omega);have q3:=Jq (x:=ws.getD i 0) (y:=cS ws ws.length) (a:=254) (hw i hi).bd hT.bd (by omega) (by omega) (by have:=(hw i hi).fin;unfold ni;omega) (by unfold ni;omega) (s4 i hi) (by
   intro e;rw [e,qx] at ID;exact Nat.lt_irrefl _ ID)
  refine ⟨⟨⟨q1,?_,?_⟩,?_⟩,q2⟩;have h5:=q2.symm.le (by omega);have l1:=(hw i hi).lo;have l2:=s3.le (by omega);have l3:=Dj (f:=fun i=>bQ (ws.getD i 0)) (c:=2^152) ws.length (fun j hj=>(hw j hj).hi);have l4:ws.length*2^152≤4*2^152:=Nat.mul_le_mul_right _ h4;generalize bQ (aq .quo .f32 (ws.getD i 0) (cS ws ws.length))=r at*;generalize oW (fun i=>bQ (ws.getD i 0)) ws.length=S at*;generalize bQ (cS ws ws.length)=T at*;have e1:(2:Nat)^149=64*2^143:=by decide
  have e2:(2:Nat)^152=8*2^149:=by decide
  rw [e2] at l3 l4;have h0:=bY 149;generalize bQ (ws.getD i 0)=W at*;generalize (2:Nat)^149=A at*;generalize (2:Nat)^143=B at*;exact Sj e1 h0 l1 h5 (Mn l2 (Nat.le_trans l3 l4));rw [←Fi];exact qm (by omega) (by omega) q3;have h5:=q2.symm.le (by omega);have l1:=(hw i hi).lo;have l2:=s3.le (by omega);have l3:=Dj (f:=fun i=>bQ (ws.getD i 0)) (c:=2^152) ws.length (fun j hj=>(hw j hj).hi);have l4:ws.length*2^152≤4*2^152:=Nat.mul_le_mul_right _ h4;generalize bQ (aq .quo .f32 (ws.getD i 0) (cS ws ws.length))=r at*;generalize oW (fun i=>bQ (ws.getD i 0)) ws.length=S at*;generalize bQ (cS ws ws.length)=T at*;have e2:(2:Nat)^152=8*2^149:=by decide
  rw [e2] at l3 l4;have h0:=bY 149;generalize bQ (ws.getD i 0)=W at*;generalize (2:Nat)^149=A at*;exact SC h0 l1 h5 (Mn l2 (Nat.le_trans l3 l4))
 refine ⟨?_,hl,fun i hi=>by rw [hg i hi];exact (JK i hi).1.1⟩;have n1:dk 2 (oW (fun i=>bQ ((wq ws (cS ws ws.length)).getD i 0)) ws.length*bQ (cS ws ws.length)) (oW (fun i=>bQ (ws.getD i 0)) ws.length*2^149):=by
  rw [zT,zT];exact Fg _ fun i hi=>by rw [hg i hi];exact (JK i hi).2
 have n2:dk (2+ws.length) (oW (fun i=>bQ ((wq ws (cS ws ws.length)).getD i 0)) ws.length*bQ (cS ws ws.length)) (2^149*bQ (cS ws ws.length)):=by
  refine n1.trans ?_;rw [Nat.mul_comm (2^149)];exact s3.symm.xF _
 refine ⟨?_,by rw [hl];exact (n2.cancel ID).mono (by omega),fun i hi=>by rw [hg i (by omega)];exact (JK i (by omega)).1.2⟩;unfold hY;rw [Bool.and_eq_true];constructor;refine lE.2 fun i _ hi=> ?_;have hi:i<ws.length:=by omega
 rw [hg i hi];obtain ⟨⟨q1,_⟩,q2⟩:=JK i hi;unfold share;rw [Vu q1.fin (by omega),Vt q1.fin (by omega),qx,Fi];rw [decide_eq_true (Nat.zero_le _),decide_eq_true q1.hi];rfl;obtain ⟨r1,r2,r3,_⟩:=wt (xs:=wq ws (cS ws ws.length)) (b:=149) (by omega) (fun i hi=>by
  rw [hg i (by omega)];exact ⟨(JK i (by omega)).1.1.fin,(JK i (by omega)).1.1.hi⟩) ws.length (by omega) (by omega)
 rw [hl];refine Hi r1 ?_;exact (r3.trans (n2.cancel ID)).mono (by omega)
theorem MH {xs:List Nat}{sr:Fe}(all:Nat)(h:xs.length≤1000000):rounds (gX (all,sr,xs)) ((0:Int),xs)=some (wq xs all):=by
 have h1:=aM (f:=gX (all,sr,xs)) (fun i out=>(((i:Nat):Int),out)) (fun i out=>out.set i (aq .quo .f32 (out.getD i 0) all)) id (n:=xs.length)
  (fun i out=>out=(List.range i).map (fun i=>aq .quo .f32 (xs.getD i 0) all)++xs.drop i)
  (fun i out hi ho=>by
   have FH:out.length=xs.length:=by rw [ho];simp;omega
   have hg:out.getD i 0=xs.getD i 0:=by
    rw [ho,List.getD_eq_getElem?_getD,List.getElem?_append_right (by simp)];simp [List.getD_eq_getElem?_getD]
   refine ⟨?_,?_⟩;have j1:=eG (i:=i) (n:=out.length) (by omega);unfold gX;simp only [af,nL hi,cond_true,Int.toNat_natCast,cL hi (show xs.length≤4294967296 by omega)];rw [guard_pos j1];rw [hg,ho,drop_cons hi 0,zm (by simp),List.range_succ,List.map_append];simp)
  (fun out _=>by
   unfold gX;simp only [af,nM (Nat.le_refl _),cond_false];rfl) xs.length 0 xs (by omega) (by simp)
 simp only [Int.natCast_zero] at h1;have h2:=h1.2;rw [List.drop_length,List.append_nil] at h2;rw [h1.1];simp only [id];rw [h2];rfl
theorem Ab {k g:Nat}(k1:1≤k)(k4:k≤4){s:Fe}(hs:mP (8+g) s):
 ∃row s',js s (k:Int)=some (row,s')∧Dv row∧row.length=k∧(∀i,i<k→Nz (row.getD i 0))∧mP g s':=by
 obtain ⟨r,er,r1,r2,r3,r4⟩:=ir (f:=oe (k:Int)) (fun m st=> ∃(i:Nat) (s:Fe) (ws:List Nat),m+i=k∧st=(cS ws ws.length,(i:Int),s,ws)∧ws.length=i∧mP (m*2+g) s∧ ∀j,j<ws.length→Rg 149 152 (ws.getD j 0))
  (fun r=>r.1=cS r.2.2 r.2.2.length∧r.2.2.length=k∧mP g r.2.1∧ ∀j,j<r.2.2.length→Rg 149 152 (r.2.2.getD j 0)) (by
   rintro m st ⟨i,s,ws,hm,rfl,hl,Cs,hw⟩;unfold oe;by_cases hi:i<k;obtain ⟨x,s',e,x1,x2,o⟩:=Iu (n:=(m - 1)*2+g) (Cs.mono (by omega)) (5:Int);have QG:=weight (x:=x) (by omega);simp only [nL hi,cond_true,e,Option.bind_some,cL hi (show k≤4294967296 by omega)];rw [guard_pos (by simp only [List.length_singleton,bg];omega)];refine .inl ⟨m - 1,_,by omega,rfl,i+1,s',ws++[bK .f32 (ai .i64 (1:Int) x)],by omega,?_,by simp;omega,o,fun j hj=> ?_⟩
   congr 1
   rw [List.length_append,List.length_singleton];show _=aq .add .f32 (cS (ws++[bK .f32 (ai .i64 (1:Int) x)]) ws.length) ((ws++[bK .f32 (ai .i64 (1:Int) x)]).getD ws.length 0);rw [Fk _ (Nat.le_refl _),sS,if_neg (Nat.lt_irrefl _),Nat.sub_self];rfl;rw [sS];split;rename_i h;exact hw j h;have:j - ws.length=0:=by simp at hj;omega
   rw [this];exact QG;have hik:i=k:=by omega
   simp only [nM (show k≤i by omega),cond_false];exact .inr ⟨_,rfl,rfl,by simp only;omega,Cs.mono (by omega),hw⟩) k ((0:Nat),(0:Int),s,([]:List Nat)) ⟨0,s,[],by omega,rfl,rfl,hs.mono (by omega),fun j hj=>by simp at hj⟩
 obtain ⟨T,s',ws⟩:=r;simp only at r1 r2 r3 r4;obtain ⟨q1,q2,q3⟩:=O4 (ws:=ws) (by omega) (by omega) r4;rw [←r1] at q1 q2 q3;refine ⟨wq ws T,s',?_,q1,by omega,fun i hi=>q3 i (by omega),r3⟩;have hq:rounds (gX (T,s',ws)) ((0:Int),ws)=some (wq ws T):=by
  rw [MH T (by omega)]
 unfold js;simp only [er,hq,Option.bind_some]
structure Ac (w i:Nat)(xs:List Nat):Prop where
 len:xs.length=i*w
 ok: ∀p,p<i→Dv (cz xs w p)
 Z7: ∀p,p<xs.length→Nz (xs.getD p 0)
theorem Ac.snoc {w i:Nat}{xs row:List Nat}(h:Ac w i xs)(hr:Dv row)(hl:row.length=w)(he: ∀j,j<w→Nz (row.getD j 0)):Ac w (i+1) (xs++row):=by
 have hlen:=h.len;refine ⟨by rw [List.length_append,hlen,hl,Nat.succ_mul],fun p hp=> ?_,fun p hp=> ?_⟩;by_cases e:p<i;have Sh:p*w+w≤i*w:=by rw [←Nat.succ_mul];exact Nat.mul_le_mul_right _ e
 have:cz (xs++row) w p=cz xs w p:=by
  unfold cz;rw [List.drop_append_of_le_length (by omega),List.take_append_of_le_length (by rw [List.length_drop];omega)]
 rw [this];exact h.ok p e;have hpi:p=i:=by omega
 subst hpi;have:cz (xs++row) w p=row:=by
  unfold cz;rw [←hlen,List.drop_left,←hl,List.take_length]
 rw [this];exact hr;rw [sS];rw [List.length_append] at hp;split;rename_i h2;exact h.Z7 p h2;exact he _ (by omega)
structure cU (a b:Nat)(fs ss hs:List Nat):Prop where
 d:kp a b fs ss hs
 gf:Dv fs
 gs: ∀p,p<a→Dv (cz ss a p)
 gh: ∀p,p<a→Dv (cz hs b p)
theorem Ad {c:List Int}(hc:zR c){b:Nat}(b1:1≤b)(b4:b≤4): ∃(a:Nat) (fs ss hs:List Nat),iP c (b:Int)=some ((a:Int),(b:Int),fs,ss,hs)∧cU a b fs ss hs:=by
 obtain ⟨ef,of⟩:=mP.from hc
 obtain ⟨x,s1,e1,x1,x2,o1⟩:=Iu (n:=10000) (of.mono (by omega)) (4:Int);obtain ⟨a,ha,a1,a4⟩: ∃a:Nat,ai .i64 (1:Int) x=(a:Int)∧1≤a∧a≤4:=⟨(1+x).toNat,by rw [lX (by omega)];omega,by omega,by omega⟩;obtain ⟨fs,s2,e2,f1,f2,f3,o2⟩:=Ab (k:=a) a1 a4 (g:=5000) (o1.mono (by omega));obtain ⟨r,er,r1,r2⟩:=ir (f:=mg (b:Int) (x,s1)) (fun m st=> ∃(i:Nat) (s:Fe) (ss hs:List Nat),m+i=a∧st=((i:Int),s,ss,hs)∧mP (m*100) s∧Ac a i ss∧Ac b i hs)
  (fun r=>Ac a a r.1∧Ac b a r.2) (by
   rintro m st ⟨i,s,ss,hs,hm,rfl,Bl,h1,h2⟩;unfold mg;simp only [ha];have l1:=h1.len;have l2:=h2.len;by_cases hi:i<a;obtain ⟨row,s3,q1,q2,q3,q4,q5⟩:=Ab (k:=a) a1 a4 (g:=(m - 1)*100+50) (Bl.mono (by omega));obtain ⟨adV,s4,p1,p2,p3,p4,p5⟩:=Ab (k:=b) b1 b4 (g:=(m - 1)*100) (q5.mono (by omega));have V8:i*a≤4*4:=Nat.mul_le_mul (by omega) a4;have hib:i*b≤4*4:=Nat.mul_le_mul (by omega) b4;simp only [nL hi,cond_true,q1,p1,Option.bind_some,cL hi (show a≤4294967296 by omega)];rw [guard_pos (by simp only [bg];omega),guard_pos (by simp only [bg];omega)];exact .inl ⟨m - 1,_,by omega,rfl,i+1,s4,_,_,by omega,rfl,p5,h1.snoc q2 q3 q4,h2.snoc p2 p3 p4⟩;have V8:i=a:=by omega
   rw [V8] at h1 h2;simp only [nM (show a≤i by omega),cond_false];exact .inr ⟨_,rfl,h1,h2⟩) a ((0:Int),s2,([]:List Nat),([]:List Nat)) ⟨0,s2,[],[],by omega,rfl,o2.mono (by omega),⟨by simp,fun p hp=>absurd hp (Nat.not_lt_zero p),fun p hp=>by simp at hp⟩,⟨by simp,fun p hp=>absurd hp (Nat.not_lt_zero p),fun p hp=>by simp at hp⟩⟩
 obtain ⟨ss,hs⟩:=r;simp only at r1 r2;have m1:a*a≤4*4:=Nat.mul_le_mul a4 a4;have m2:a*b≤4*4:=Nat.mul_le_mul a4 b4;have ls:=r1.len;have lh:=r2.len;have jT:gU (a:Int) (b:Int) fs ss hs=true:=by
  unfold gU;rw [kb (by rw [←Int.natCast_mul];omega),←Int.natCast_mul,kb (by rw [←Int.natCast_mul];omega),←Int.natCast_mul];simp only [Bool.and_eq_true,decide_eq_true_eq,beq_iff_eq,af,Int.toNat_natCast];exact ⟨⟨by omega,by omega⟩,⟨by omega,by omega⟩,by omega,by omega,by omega,f1.1,lE.2 fun i _ hi=>(r1.ok i (by omega)).1,lE.2 fun i _ hi=>(r2.ok i (by omega)).1⟩
 obtain ⟨a',b',ha',jS,mm⟩:=E9 jT;have ea:a'=a:=by omega
 have eb:b'=b:=by omega
 subst ea eb;refine ⟨a',fs,ss,hs,?_,⟨a4,jT,mm,fun i hi=>f3 i hi,fun i j hi hj=>r1.Z7 _ (by rw [ls];exact CO hi hj),fun i j hi hj=>r2.Z7 _ (by rw [lh];exact CO hi hj)⟩,f1,r1.ok,r2.ok⟩;unfold iP;simp only [ef,e1,ha,e2,er,Option.bind_some]
end Go.Proofs
namespace Go.Proofs
open Go.Ide Go.IntWalk
section
variable {a b:Nat} {fs ss hs:List Nat}
theorem xX (d:kp a b fs ss hs){row:List Nat}{c lo hi:Nat}(hc:c<b)(hr:qG a lo hi row)(h1:39≤lo)(h2:lo≤hi)(h3:hi≤250){j:Nat}(hj:j<a):
 Nq 72 (wS ((c8 a b ss hs row c).getD j 0)) (au (fun p=>wS (row.getD p 0)*wS (hs.getD (p*b+c) 0)*wS (ss.getD (p*a+j) 0)) a):=by
 have a1:=d.m.n1;have a4:=d.a4;have m1:=fun p (hp:p<a)=>oh (hr p hp) (d.eh p c hp hc) (by omega) (by omega) (by omega) (by omega);have ht: ∀p,p<a→Rg (lo - 12) hi (aq .mul .f32 (aq .mul .f32 (row.getD p 0) (hs.getD (p*b+c) 0)) (ss.getD (p*a+j) 0)):=fun p hp=>
  (oh (m1 p hp).1 (d.es p j hp hj) (by omega) (by omega) (by omega) (by omega)).1.mono (by omega) (by omega)
 rw [sR hj];obtain ⟨q1,_,_,_⟩:=qy (f:=rH a b ss hs row c j) (by omega) rfl (fun p=>rfl) a ht (by omega);have n1:=wx (f:=rH a b ss hs row c j) (by omega) rfl (fun p=>rfl) a ht (by omega);have n2:=cT (k:=24) a (f:=fun p=>wS (aq .mul .f32 (aq .mul .f32 (row.getD p 0) (hs.getD (p*b+c) 0)) (ss.getD (p*a+j) 0))) (g:=fun p=>wS (row.getD p 0)*wS (hs.getD (p*b+c) 0)*wS (ss.getD (p*a+j) 0)) fun p hp=>by
  have x1:=rN (m1 p hp).1 (d.es p j hp hj) (by omega) (by omega) (by omega) (by omega);have x2:=rN (hr p hp) (d.eh p c hp hc) (by omega) (by omega) (by omega) (by omega);have x3:=x2.xF (bD (d.es p j hp hj).fin);exact x1.trans x3
 have p1:=bD q1;have p2:=cu (f:=fun p=>wS (row.getD p 0)*wS (hs.getD (p*b+c) 0)*wS (ss.getD (p*a+j) 0)) a fun p hp=>Rat.mul_nonneg (Rat.mul_nonneg (bD (hr p hp).fin) (bD (d.eh p c hp hc).fin)) (bD (d.es p j hp hj).fin);exact (n1.trans n2).mono p1 p2 (by omega)
theorem vd {row:List Nat}{n:Nat}(h:Dv row)(hl:row.length=n)(he: ∀i,i<n→Nz (row.getD i 0)):Nq 72 (au (fun i=>wS (row.getD i 0)) n) 1:=by
 have q:=MG h.2.1;rw [Du,hl,sV] at q;have hU:=eJ;have e:US/US=1:=by grind
 rw [e] at q;rw [br n (g:=fun i=>((bQ (row.getD i 0):Nat):Rat)/US) fun i hi=>qL (he i hi).fin];exact q
theorem xY {row:List Nat}(h:Dv row){i:Nat}(hi:i<row.length)(he:Nz (row.getD i 0)):1/33≤wS (row.getD i 0)∧wS (row.getD i 0)≤1:=by
 have n:=cF (h.2.2 i hi);rw [Rat.natCast_mul,sV,show ((33:Nat):Rat)=33 from rfl] at n;have n2:=cF he.hi;rw [sV] at n2;rw [qL he.fin];have hU:=eJ;generalize ((bQ (row.getD i 0):Nat):Rat)=v at*;generalize US=U at*;have e:v/U*U=v:=by grind
 constructor;refine Rat.le_of_mul_le_mul_right (c:=U) ?_ hU;rw [e];grind;refine Rat.le_of_mul_le_mul_right (c:=U) ?_ hU;rw [e];grind
end
end Go.Proofs
namespace Go.Proofs
open Go.Ide Go.IntWalk
section
variable {a b:Nat} {fs ss hs:List Nat}
theorem IE {x:Nat}(hx:x≤2130706432)(h1:1/64≤wS x)(h2:wS x≤2):Rg 143 150 x:=by
 rw [qL hx] at h1 h2;have hU:=eJ;have e1:US=64*((2^143:Nat):Rat):=by
  rw [Fq,show (2:Nat)^149=64*2^143 by decide,Rat.natCast_mul];rfl
 have e2:((2^150:Nat):Rat)=2*US:=by
  rw [Fq,show (2:Nat)^150=2*2^149 by decide,Rat.natCast_mul];rfl
 refine ⟨hx,Rat.natCast_le_natCast.1 ?_,Rat.natCast_le_natCast.1 ?_⟩;generalize ((bQ x:Nat):Rat)=v at*;have p:=Rat.mul_le_mul_of_nonneg_right h1 (Rat.le_of_lt hU);have e:v/US*US=v:=by grind
 rw [e] at p;generalize ((2^143:Nat):Rat)=z at*;grind;rw [e2];generalize ((bQ x:Nat):Rat)=v at*;have p:=Rat.mul_le_mul_of_nonneg_right h2 (Rat.le_of_lt hU);have e:v/US*US=v:=by grind
 rw [e] at p;exact p
end
end Go.Proofs
namespace Go.Proofs
open Go.Ide Go.IntWalk
theorem mG {f g:Nat→Rat}: ∀n,(∀i,i<n→f i≤g i)→au f n≤au g n
 |0,_=>Rat.le_refl
 |n+1,h=>by
  have h1:=mG n (fun i hi=>h i (by omega));have h2:=h n (by omega);show au f n+f n≤au g n+g n;grind
section
variable {a b:Nat} {fs ss hs:List Nat}
end
end Go.Proofs
namespace Go.Proofs
open Go.Ide Go.IntWalk
section
variable {a b:Nat} {fs ss hs:List Nat}
theorem lM:wS 0=0:=by
 rw [qL (by omega),qx,show ((0:Nat):Rat)=0 from rfl];have:=eJ;grind
end
end Go.Proofs
namespace Go.Proofs
open Go.Ide Go.IntWalk
section
variable {a b:Nat} {fs ss hs:List Nat}
end
end Go.Proofs
namespace Go.Proofs
open Go.Ide Go.IntWalk
theorem xZ:FD 4562254508917369340∧wD 4562254508917369340=1152921504606847/1152921504606846976:=
 ⟨kq (by omega),by rw [pH (c:=1152921504606847) (d:=1152921504606846976) (by omega) (by omega) (by decide+kernel)];rfl⟩
theorem SD {x y:Nat}{e:Rat}(hx:FD x)(hy:FD y)(td:1/1152921504606846976≤e)(qB:e≤67108864)(h:je e (wD x) (wD y)): ∃z,dE x y=some z∧FD z∧wD z≤e+e/4503599627370496:=by
 obtain ⟨h1,h2⟩:=h;unfold dE;cases aW .f64 x y with
 |true=>
  obtain ⟨s1,s2,s3⟩:=Mw (e:=e) hy hx td qB (by grind) (by grind);exact ⟨_,rfl,s1,by grind⟩
 |false=>
  obtain ⟨s1,s2,s3⟩:=Mw (e:=e) hx hy td qB (by grind) (by grind);exact ⟨_,rfl,s1,by grind⟩
end Go.Proofs
namespace Go.Proofs
open Go.Ide Go.IntWalk
section
variable {a b:Nat} {fs ss hs:List Nat}
end
end Go.Proofs
namespace Go.Proofs
open Go.Ide Go.IntWalk
section
variable {a b:Nat} {fs ss hs:List Nat}
end
end Go.Proofs
namespace Go.Proofs
open Go.Ide Go.IntWalk
theorem SE:wS 1065353216=1:=by
 rw [qL (by omega),Fi,sV];have:=eJ;grind
section
variable {a b:Nat} {fs ss hs:List Nat}
end
end Go.Proofs
namespace Go.Proofs
open Go.Ide Go.IntWalk
theorem P3 {f t:Nat→Nat}{e:Rat}(h0:f 0=0)(hs: ∀p,f (p+1)=aq .add .f64 (f p) (t p))(td:1/1152921504606846976≤e)(qB:e≤4): ∀n,n≤20→(∀p,p<n→FD (t p)∧0≤wD (t p))→au (fun p=>wD (t p)) n≤e/2→
 FD (f n)∧je ((n:Rat)*e/4503599627370496) (wD (f n)) (au (fun p=>wD (t p)) n)
 |0,_,_,_=>by
  rw [h0];refine ⟨w0.1,?_⟩;rw [w0.2,show ((0:Nat):Rat)=0 from rfl];show je _ 0 0;constructor<;>grind
 |n+1,hn,ht,hb=>by
  have t1:=ht n (by omega);have jS:au (fun p=>wD (t p)) n+wD (t n)≤e/2:=hb;obtain ⟨f1,f2,f3⟩:=P3 h0 hs td qB n (by omega) (fun p hp=>ht p (by omega)) (by have:=t1.2;grind);have s0:0≤au (fun p=>wD (t p)) n:=cu n fun p hp=>(ht p (by omega)).2;have WN:=cF (show n≤20 by omega);rw [show ((20:Nat):Rat)=20 from rfl] at WN;have DI:(0:Rat)≤(n:Rat):=cF (Nat.zero_le n);have ne:=Rat.mul_le_mul_of_nonneg_right WN (show 0≤e by grind);have ne0:=Rat.mul_nonneg DI (show 0≤e by grind);obtain ⟨a1,a2,a3⟩:=OV (e:=e) f1 t1.1 td (by grind) (by have:=t1.2;grind) (by grind);rw [hs];refine ⟨a1,?_⟩;have es:au (fun p=>wD (t p)) (n+1)=au (fun p=>wD (t p)) n+wD (t n):=rfl;rw [es,Rat.natCast_add,show ((1:Nat):Rat)=1 from rfl];constructor<;>grind
end Go.Proofs
namespace Go.Proofs
open Go.Ide Go.IntWalk
section
variable {a b:Nat} {fs ss hs:List Nat}
theorem okW (d:kp a b fs ss hs){w:List Int}(hw:mF b w)(WO:w.length≤12):xV (a:Int) (b:Int) fs ss hs w=true:=by
 have k2:=d.m.k2;have k1:=d.m.k1;unfold xV;rw [d.ok,EF (by omega)];simp only [Bool.true_and,Bool.and_eq_true,decide_eq_true_eq,af];refine ⟨BI.2 fun i hi=> ?_,by omega⟩;obtain ⟨x,hx,Qm⟩:=hw i hi;omega
theorem Ae (d:kp a b fs ss hs){w:List Int}(hw:mF b w)(WO:w.length≤12):fl ((a:Int),(b:Int),fs,ss,hs) w=some (cS (rowAt a b fs ss hs w w.length) a,true):=by
 have m:=d.m;have qI:=m.n2;have hlen:=wm m w w.length;have e:(w9 a b fs ss hs w).getD w.length []=rowAt a b fs ss hs w w.length:=Di _ _;have hg:(0:Int)≤af w∧af w<af (w9 a b fs ss hs w):=by
  simp only [af,w9,List.length_map,List.length_range];omega
 have et:(af w).toNat=w.length:=by simp [af]
 have hb:=Is (xs:=rowAt a b fs ss hs w w.length) (K:=127+5*w.length) (by omega) (fun i hi=>Fb m hw WO _ (Nat.le_refl _) i (by omega)) _ (Nat.le_refl _) (by omega);unfold fl cm;simp only [JD (w:=w) (by omega),okW d hw WO,Bool.not_true,cond_false,xb m hw WO,Option.bind_some,guard_pos hg,et,e,xU (xs:=rowAt a b fs ss hs w w.length) (by omega),JE hb (by omega) (by omega)];rw [hlen]
end
end Go.Proofs
namespace Go.Proofs
open Go.Ide Go.IntWalk
theorem wy (f:Nat→Rat)(w:Nat): ∀n,au f (n*w)=au (fun i=>au (fun j=>f (i*w+j)) w) n
 |0=>by rw [Nat.zero_mul];rfl
 |n+1=>by
  have h: ∀m,au f (n*w+m)=au f (n*w)+au (fun j=>f (n*w+j)) m:=fun m=>by
   induction m with
   |zero=>show au f (n*w)=au f (n*w)+0;grind
   |succ m ih=>show au f (n*w+m)+f (n*w+m)=au f (n*w)+(au (fun j=>f (n*w+j)) m+f (n*w+m));rw [ih];grind
  rw [Nat.succ_mul,h w,wy f w n];rfl
theorem MI {x b:Nat}(hx:x≤2130706432)(hb:bQ x≤2^b)(o5:b≤175):FD (aS .f32 .f64 x)∧aS .f32 .f64 x≤9214364837600034816∧0≤wD (aS .f32 .f64 x)∧Nq 12 (wD (aS .f32 .f64 x)) (wS x):=by
 obtain ⟨k,hk⟩: ∃k:Nat,k=925:=⟨_,rfl⟩;obtain ⟨h1,h2,h3⟩:=OS hk hx hb (by omega);have hw:wD (aS .f32 .f64 x)=((eO (aS .f32 .f64 x):Nat):Rat)/UD:=by
  unfold wD;rw [Nat.div_eq_of_lt (by omega)];rfl
 have hU:=oX;have h0:(0:Rat)≤((eO (aS .f32 .f64 x):Nat):Rat):=cF (Nat.zero_le _);refine ⟨⟨by unfold DS;omega,Nat.le_trans h2 (Nat.pow_le_pow_right (by omega) (by have:=zW;omega))⟩,h1,?_,?_⟩;rw [hw];refine Rat.le_of_mul_le_mul_right (c:=UD) ?_ hU;generalize ((eO (aS .f32 .f64 x):Nat):Rat)=v at*;generalize UD=U at*;have e:v/U*U=v:=by grind
 rw [e];grind;have n:=ud h3;rw [Rat.natCast_mul] at n;rw [hw,qL hx];have e:=MA hk;have hS:=eJ;refine Nq.cancel (c:=UD) ?_ hU;generalize ((eO (aS .f32 .f64 x):Nat):Rat)=v at*;generalize ((bQ x:Nat):Rat)=u at*;have e1:v/UD*UD=v:=by grind
 have e2:u/US*UD=u*((2^k:Nat):Rat):=by
  rw [e];generalize ((2^k:Nat):Rat)=p;generalize US=U at*;grind
 rw [e1,e2];exact n
theorem O5 {x y:Nat}(hx:x≤9214364837600034816)(hy:y≤9214364837600034816):0≤wD (aq .mul .f64 x y):=by
 rw [Mr hx hy];have h:=Iv (eO x*eO y) (-1074 - ((1074:Nat):Int));unfold wD;rw [Nat.div_eq_of_lt (by omega)];have hU:=oX;have h0:(0:Rat)≤((eO (pG (eO x*eO y) (-1074 - ((1074:Nat):Int))):Nat):Rat):=cF (Nat.zero_le _);generalize ((eO (pG (eO x*eO y) (-1074 - ((1074:Nat):Int))):Nat):Rat)=v at*;show 0≤v/UD;refine Rat.le_of_mul_le_mul_right (c:=UD) ?_ hU;generalize UD=U at*;have e:v/U*U=v:=by grind
 rw [e];grind
section
variable {a b:Nat} {fs ss hs:List Nat}
theorem nN (d:kp a b fs ss hs){w:List Int}(hw:mF b w)(hl:w.length≤6):Nq 48 (wS (cS (rowAt a b fs ss hs w w.length) a)) (au (fun p=>wS ((rowAt a b fs ss hs w w.length).getD p 0)) a)∧cS (rowAt a b fs ss hs w w.length) a≤2130706432∧bQ (cS (rowAt a b fs ss hs w w.length) a)≤2^(149+4*w.length+4):=by
 have a4:=d.a4;have hr:=Dl d hw hl w.length (Nat.le_refl _);have h:=wx (f:=fun n=>cS (rowAt a b fs ss hs w w.length) n) (lo:=143 - 12*w.length) (hi:=149+4*w.length) (by omega) rfl (fun p=>rfl) a hr (by omega);obtain ⟨q1,q2,_,_⟩:=qy (f:=fun n=>cS (rowAt a b fs ss hs w w.length) n) (lo:=143 - 12*w.length) (hi:=149+4*w.length) (by omega) rfl (fun p=>rfl) a hr (by omega);exact ⟨h.mono (bD q1) (cu a fun p hp=>bD (hr p hp).fin) (by omega),q1,Nat.le_trans q2 (Nat.pow_le_pow_right (by omega) (by omega))⟩
theorem MJ (g:cU a b fs ss hs){p:Nat}(hp:p<a):Nq 72 (au (fun c=>wS (hs.getD (p*b+c) 0)) b) 1:=by
 have lh:=g.d.m.lh;have h:=vd (g.gh p hp) (dt lh hp) (fun i hi=>by rw [hZ lh hp hi];exact g.d.eh p i hp hi);rw [br b (g:=fun c=>wS (hs.getD (p*b+c) 0)) fun c hc=>by rw [hZ lh hp hc]] at h;exact h
theorem ve (g:cU a b fs ss hs){p:Nat}(hp:p<a):Nq 72 (au (fun j=>wS (ss.getD (p*a+j) 0)) a) 1:=by
 have ls:=g.d.m.ls;have h:=vd (g.gs p hp) (dt ls hp) (fun i hi=>by rw [hZ ls hp hi];exact g.d.es p i hp hi);rw [br a (g:=fun c=>wS (ss.getD (p*a+c) 0)) fun c hc=>by rw [hZ ls hp hc]] at h;exact h
theorem Ft (g:cU a b fs ss hs){r:Nat→Rat}(hr: ∀p,p<a→0≤r p):Nq 72 (au (fun c=>au (fun p=>r p*wS (hs.getD (p*b+c) 0)) a) b) (au r a):=by
 rw [gu (fun c p=>r p*wS (hs.getD (p*b+c) 0)) a b];refine cT a fun p hp=> ?_;have h:=(MJ g hp).xF (hr p hp);rw [fW] at h;have e:(1:Rat)*r p=r p:=by grind
 rw [e] at h;rw [br b (g:=fun c=>wS (hs.getD (p*b+c) 0)*r p) fun c hc=>by grind];exact h
theorem vf (g:cU a b fs ss hs){row:List Nat}{lo hi:Nat}(hr:qG a lo hi row)(h1:39≤lo)(h2:lo≤hi)(h3:hi≤250):
 Nq 216 (au (fun c=>au (fun j=>wS ((c8 a b ss hs row c).getD j 0)) a) b) (au (fun p=>wS (row.getD p 0)) a):=by
 have d:=g.d;have hn: ∀p,p<a→0≤wS (row.getD p 0):=fun p hp=>bD (hr p hp).fin;have q1:Nq 144 (au (fun c=>au (fun j=>wS ((c8 a b ss hs row c).getD j 0)) a) b) (au (fun c=>au (fun p=>wS (row.getD p 0)*wS (hs.getD (p*b+c) 0)) a) b):=by
  refine cT b fun c hc=> ?_;have x:=cT a fun j hj=>xX d hc hr h1 h2 h3 (j:=j) hj;refine x.trans (k:=72) (l:=72) ?_;rw [gu (fun j p=>wS (row.getD p 0)*wS (hs.getD (p*b+c) 0)*wS (ss.getD (p*a+j) 0)) a a];refine cT a fun p hp=> ?_;have hX:0≤wS (row.getD p 0)*wS (hs.getD (p*b+c) 0):=Rat.mul_nonneg (hn p hp) (bD (d.eh p c hp hc).fin);have q:=(ve g hp).xF hX;rw [fW] at q;have e:(1:Rat)*(wS (row.getD p 0)*wS (hs.getD (p*b+c) 0))=wS (row.getD p 0)*wS (hs.getD (p*b+c) 0):=by grind
  rw [e] at q;rw [br a (g:=fun j=>wS (ss.getD (p*a+j) 0)*(wS (row.getD p 0)*wS (hs.getD (p*b+c) 0))) fun j hj=>by grind];exact q
 exact q1.trans (Ft g hn)
theorem jA {x y:Nat}(hx:x<b)(hy:y<b):mF b [(x:Int),(y:Int)]:=fun i hi=>by
 match i,hi with
 |0,_=>exact ⟨x,rfl,hx⟩
 |1,_=>exact ⟨y,rfl,hy⟩
theorem SF (g:cU a b fs ss hs):Nq 600 (au (fun x=>au (fun y=>wS (cS (rowAt a b fs ss hs [(x:Int),(y:Int)] 2) a)) b) b) 1:=by
 have d:=g.d;have hf:qG a 143 149 fs:=d.ef;have r1: ∀x,x<b→qG a 131 153 (c8 a b ss hs fs x):=fun x hx=>oK d hx hf (by omega) (by omega) (by omega);have q0:=vd g.gf d.m.lf d.ef;have q1:=vf g hf (by omega) (by omega) (by omega);have q2:Nq 264 (au (fun x=>au (fun y=>wS (cS (rowAt a b fs ss hs [(x:Int),(y:Int)] 2) a)) b) b) (au (fun x=>au (fun j=>wS ((c8 a b ss hs fs x).getD j 0)) a) b):=by
  refine cT b fun x hx=> ?_;refine Nq.trans (k:=48) (l:=216) ?_ (vf g (r1 x hx) (by omega) (by omega) (by omega));refine cT b fun y hy=> ?_;exact (nN d (jA hx hy) (by show 2≤6;omega)).1
 have p0:0≤au (fun x=>au (fun y=>wS (cS (rowAt a b fs ss hs [(x:Int),(y:Int)] 2) a)) b) b:=cu b fun x hx=>cu b fun y hy=>bD (nN d (jA hx hy) (by show 2≤6;omega)).2.1;exact ((q2.trans q1).trans q0).mono p0 (by grind) (by omega)
end
end Go.Proofs
namespace Go.Proofs
open Go.Ide Go.IntWalk
def ue (t:Nat→Nat):Nat→Nat
 |0=>0
 |n+1=>aq .add .f64 (ue t n) (t n)
theorem Af {e:Rat}{f g:Nat→Rat}: ∀n,(∀i,i<n→je e (f i) (g i))→je ((n:Rat)*e) (au f n) (au g n)
 |0,_=>by
  rw [show ((0:Nat):Rat)=0 from rfl];show je (0*e) 0 0;constructor<;>grind
 |n+1,h=>by
  obtain ⟨a1,a2⟩:=Af n fun i hi=>h i (by omega);obtain ⟨b1,b2⟩:=h n (by omega);rw [Rat.natCast_add,show ((1:Nat):Rat)=1 from rfl];show je _ (au f n+f n) (au g n+g n);constructor<;>grind
theorem sW {u:Nat→Rat}: ∀(m:Nat),(∀i,i<m→0≤u i)→ ∀p,p<m→u p≤au u m
 |0,_,p,hp=>absurd hp (Nat.not_lt_zero p)
 |m+1,hu,p,hp=>by
  have h1:=cu m (fun i hi=>hu i (by omega));have h2:=hu m (by omega);show u p≤au u m+u m;by_cases e:p=m;subst e;grind;have:=sW m (fun i hi=>hu i (by omega)) p (by omega);grind
end Go.Proofs
namespace Go.Proofs
open Go.Ide Go.IntWalk
theorem Fu {t:Nat→Nat}: ∀(k i:Nat),uM (fun j s=>aq .add .f64 s (t j)) k i (ue t i)=ue t (i+k)
 |0,i=>rfl
 |k+1,i=>by
  show uM (fun j s=>aq .add .f64 s (t j)) k (i+1) (ue t (i+1))=_;rw [Fu k (i+1),show i+1+k=i+(k+1) by omega]
theorem Hr {x:Nat}(hx:x≤2130706432)(h:wS x≤2):bQ x≤2^150:=by
 rw [qL hx] at h;have hU:=eJ;have e2:((2^150:Nat):Rat)=2*US:=by
  rw [Fq,show (2:Nat)^150=2*2^149 by decide,Rat.natCast_mul];rfl
 refine Rat.natCast_le_natCast.1 ?_;rw [e2];generalize ((bQ x:Nat):Rat)=v at*;have p:=Rat.mul_le_mul_of_nonneg_right h (Rat.le_of_lt hU);have e:v/US*US=v:=by grind
 rw [e] at p;exact p
section
variable {a b:Nat} {fs ss hs:List Nat}
end
end Go.Proofs
namespace Go.Proofs
open Go.Ide Go.IntWalk
theorem yb: ∀{k l:Nat},k≤l→p2 k≤p2 l
 |k,0,h=>by
  have:k=0:=by omega
  subst this;exact Rat.le_refl
 |k,l+1,h=>by
  by_cases e:k=l+1;subst e;exact Rat.le_refl;have h1:=yb (k:=k) (l:=l) (by omega);have h2:=Aa l;show p2 k≤2*p2 l;grind
theorem P4:p2 21=2097152:=by decide+kernel
theorem O6 {k:Nat}(h:21≤k):2097152≤p2 k:=by
 have:=yb h;rw [P4] at this;exact this
theorem Hs {k:Nat}(h:k≤21):p2 k≤2097152:=by
 have:=yb h;rw [P4] at this;exact this
theorem Ht {m0:Nat}(h0:FD m0)(l0:1/1048577≤wD m0)(l1:wD m0≤3/2):
 ∃r,rounds dx (m0,(0:Nat))=some r∧ ∃k:Nat,k≤21∧FD r.1∧FD r.2∧je ((k:Rat)/100000000000000) (wD r.2) (-(k:Rat))∧je ((p2 k - 1)/1000000000000000) (wD r.1) (wD m0*p2 k)∧3/4≤wD r.1∧wD r.1≤3/2+1/1000000000000000:=by
 have:=ir (f:=dx) (fun n s=> ∃k:Nat,n=21 - k∧k≤21∧FD s.1∧FD s.2∧je ((k:Rat)/100000000000000) (wD s.2) (-(k:Rat))∧je ((p2 k - 1)/1000000000000000) (wD s.1) (wD m0*p2 k)∧1/2097155≤wD s.1∧wD s.1≤3/2+1/1000000000000000)
  (fun r=> ∃k:Nat,k≤21∧FD r.1∧FD r.2∧je ((k:Rat)/100000000000000) (wD r.2) (-(k:Rat))∧je ((p2 k - 1)/1000000000000000) (wD r.1) (wD m0*p2 k)∧3/4≤wD r.1∧wD r.1≤3/2+1/1000000000000000) (by
  rintro n ⟨m,e⟩ ⟨k,rfl,hk,hm,he,ha,hb,hp,hq⟩;simp only at hm he ha hb hp hq;unfold dx;simp only;rw [IB hm WL.1,WL.2];by_cases c:wD m<3/4;left;rw [decide_eq_true c];have Im:k<21:=by
   apply Nat.lt_of_not_le;intro h7;have g:=O6 h7;have g2:=Hs hk;obtain ⟨x1,x2⟩:=hb;have:=Rat.mul_le_mul_of_nonneg_left g (show 0≤wD m0 by grind);grind
  obtain ⟨u1,u2,u3⟩:=Fl (e:=2) hm w2.1 (by grind) (by grind) (by rw [w2.2];grind) (by rw [w2.2];grind);rw [w2.2] at u2 u3;have MF:=cF hk;rw [show ((21:Nat):Rat)=21 from rfl] at MF;have ou:(0:Rat)≤(k:Rat):=cF (Nat.zero_le k);obtain ⟨a1,a2⟩:=ha;obtain ⟨v1,v2,v3⟩:=Mw (e:=32) he xf (by grind) (by grind) (by rw [nk];grind) (by rw [nk];grind);rw [nk] at v2 v3;have gg:=Aa k;obtain ⟨x1,x2⟩:=hb;refine ⟨21 - (k+1),_,by omega,rfl,k+1,rfl,by omega,u1,v1,?_,?_,by grind,by grind⟩;rw [Rat.natCast_add,show ((1:Nat):Rat)=1 from rfl];constructor<;>grind;simp only [p2];constructor<;>grind;right;rw [decide_eq_false c];exact ⟨_,rfl,k,hk,hm,he,ha,hb,by grind,hq⟩) 21 (m0,0) ⟨0,rfl,by omega,h0,w0.1,by
   show je _ (wD 0) _;rw [w0.2,show ((0:Nat):Rat)=0 from rfl];constructor<;>grind,by
   show je _ (wD m0) _;simp only [p2];constructor<;>grind,by show 1/2097155≤wD m0;grind,by show wD m0≤_;grind⟩
 exact this
theorem MK {m0:Nat}(h0:FD m0)(l0:1/1048577≤wD m0)(l1:wD m0≤149/100):
 ∃L,iM m0=some L∧FD L∧ ∃(k:Nat) (q:Rat),k≤21∧Bd (201/1000) q∧je (1/210000) (wD L) (Fm q - (k:Rat)*BP)∧je (1/100000000) (1+q) (wD m0*p2 k*(1 - q)):=by
 obtain ⟨⟨m,e⟩,r2,k,hk,hm,he,ha,hb,pd,ui⟩:=Ht h0 l0 (by grind);simp only at hm he ha hb pd ui;have r3:rounds iA (m0,(0:Nat))=some (m0,0):=by
  have w15:FD 4609434218613702656∧wD 4609434218613702656=3/2:=⟨kq (by omega),by rw [pH (c:=3) (d:=2) (by omega) (by omega) (by decide+kernel),show ((2:Nat):Rat)=2 from rfl,show ((3:Nat):Rat)=3 from rfl]⟩;have h:iA (m0,(0:Nat))=some (.inr (m0,0)):=by
   unfold iA;simp only;rw [Mz h0 w15.1,w15.2,decide_eq_false (by grind)];rfl
  rw [bn,h]
 obtain ⟨s1,s2,s3⟩:=Mw (e:=1) hm xf (by grind) (by grind) (by rw [nk];grind) (by rw [nk];grind);obtain ⟨t1,t2,t3⟩:=OV (e:=3) hm xf (by grind) (by grind) (by rw [nk];grind) (by rw [nk];grind);rw [nk] at s2 s3 t2 t3;generalize ha1:aq .sub .f64 m 4607182418800017408=A at*;generalize Ig:aq .add .f64 m 4607182418800017408=B at*;have hB:0<wD B:=by grind
 have hqq: ∃z,z*wD B=wD A:=⟨wD A/wD B,by grind⟩;obtain ⟨z,hz⟩:=hqq;have z1:z≤2005/10000:=by
  refine Rat.le_of_mul_le_mul_right (c:=wD B) ?_ hB;rw [hz];grind
 have z2: -(2005/10000)≤z:=by
  refine Rat.le_of_mul_le_mul_right (c:=wD B) ?_ hB;rw [hz];grind
 obtain ⟨u1,u2,u3⟩:=VB (e:=1) (q:=z) s1 t1 (by grind) hz (by grind) (by grind) (by grind) (by grind);generalize ha3:aq .quo .f64 A B=Q at*;have qb:Bd (201/1000) (wD Q):=⟨by grind,by grind⟩;obtain ⟨R,r1,fR,bR,aR⟩:=JJ u1 qb;have bqr:=qb.mul bR;obtain ⟨c1,c2⟩:=bqr;obtain ⟨d1,d2,d3⟩:=Fl (e:=1) u1 fR (by grind) (by grind) (by grind) (by grind);generalize ha4:aq .mul .f64 Q R=C at*;obtain ⟨e1,e2,e3⟩:=Fl (e:=2) w2.1 d1 (by grind) (by grind) (by rw [w2.2];grind) (by rw [w2.2];grind);rw [w2.2] at e2 e3;generalize ha5:aq .mul .f64 4611686018427387904 C=D at*;have MF:=cF hk;rw [show ((21:Nat):Rat)=21 from rfl] at MF;have ou:(0:Rat)≤(k:Rat):=cF (Nat.zero_le k);obtain ⟨x1,x2⟩:=ha;have bl:Bd 1 BP:=by unfold BP;constructor<;>grind
 have bel:=Bd.mul (A:=22) (a:=wD e) ⟨by grind,by grind⟩ bl;obtain ⟨y1,y2⟩:=bel;obtain ⟨f1,f2,f3⟩:=Fl (e:=22) he WM.1 (by grind) (by grind) (by rw [WM.2];grind) (by rw [WM.2];grind);rw [WM.2] at f2 f3;generalize ha6:aq .mul .f64 e 4604418534313441775=E at*;have bkl:=Bd.mul (A:=21/100000000000000) (a:=wD e - -(k:Rat)) ⟨by grind,by grind⟩ bl;obtain ⟨y3,y4⟩:=bkl;obtain ⟨g1,g2,g3⟩:=OV (e:=32) e1 f1 (by grind) (by grind) (by grind) (by grind);have bRR:=qb.mul aR.bd;obtain ⟨y5,y6⟩:=bRR;refine ⟨_,?_,g1,k,wD Q,hk,qb,?_,?_⟩;unfold iM;rw [r3];simp only [Option.bind_some,r2,ha1,Ig,ha3,r1,ha4,ha5,ha6];have ee:Fm (wD Q)=2*(wD Q*(1+wD Q*wD Q*(1/3+wD Q*wD Q*(1/5)))):=by unfold Fm;grind
 rw [ee];have ey:wD Q*(wD R - (1+wD Q*wD Q*(1/3+wD Q*wD Q*(1/5))))=wD Q*wD R - wD Q*(1+wD Q*wD Q*(1/3+wD Q*wD Q*(1/5))):=by grind
 rw [ey] at y5 y6;have ek:(wD e - -(k:Rat))*BP=wD e*BP+(k:Rat)*BP:=by grind
 rw [ek] at y3 y4;generalize wD Q*(1+wD Q*wD Q*(1/3+wD Q*wD Q*(1/5)))=W at*;generalize wD Q*wD R=V at*;generalize wD e*BP=Y at*;generalize (k:Rat)*BP=Z at*;clear hz z1 z2 u2 u3 s2 s3 t2 t3 aR c1 c2 hb;constructor<;>grind;have zz:=Bd.mul (A:=1/1125899906842624) (a:=wD Q - z) (B:=3) (b:=wD m+1) ⟨by grind,by grind⟩ ⟨by grind,by grind⟩;obtain ⟨z3,z4⟩:=zz;have zb:=Bd.mul (A:=3/4503599627370496) (a:=wD B - (wD m+1)) (B:=1) (b:=z) ⟨by grind,by grind⟩ ⟨by grind,by grind⟩;obtain ⟨z5,z6⟩:=zb;have g:=Hs hk;have Td:Bd (2097152/1000000000000000) (wD m - wD m0*p2 k):=by
  obtain ⟨b1,b2⟩:=hb;constructor<;>grind
 have hm2:=Td.mul (B:=2) (b:=1 - wD Q) ⟨by grind,by grind⟩;obtain ⟨z7,z8⟩:=hm2;constructor<;>grind
theorem Dw {k:Nat}(h:k≤21):Bd (1/8) (bk k):=by
 have MF:=cF h;rw [show ((21:Nat):Rat)=21 from rfl] at MF;have ou:(0:Rat)≤(k:Rat):=cF (Nat.zero_le k);unfold bk BP;constructor<;>grind
theorem ML: ∀k:Nat,k≤21→Nq (513*k) (Ex (bk k)*p2 k) 1
 |0,_=>by
  have:Ex (bk 0)*p2 0=1:=by
   have e:bk 0=0:=by unfold bk;rw [show ((0:Nat):Rat)=0 from rfl];grind
   rw [e];decide+kernel
  rw [this];exact Nq.refl (by grind)
 |k+1,h=>by
  have ih:=ML k (by omega);have b1:Bd (1/8) (bk 1):=Dw (by omega);have bb:=Dw (k:=k) (by omega);have bs:=Dw h;rw [IC] at bs;have s:=(Hp bb b1 bs).symm;have e1:bk 1= -BP/256:=by unfold bk;rw [show ((1:Nat):Rat)=1 from rfl];grind
  have l:=SA;rw [←e1] at l;have g:=Aa k;have x0:=rM bb;have x1:=rM b1;have xs:=rM bs;have m1:=s.mul (Nq.refl (x:=2*p2 k) (by grind)) xs (Rat.mul_nonneg x0 x1) (by grind) (by grind);have p0:=Rat.mul_nonneg x0 (show 0≤p2 k by grind);have m2:=ih.mul (l.mul (Nq.refl (x:=2) (by grind)) x1 (by grind) (by grind) (by grind)) p0 (by grind) (Rat.mul_nonneg x1 (by grind)) (by grind);rw [IC];have e2:Ex (bk k)*Ex (bk 1)*(2*p2 k)=Ex (bk k)*p2 k*(Ex (bk 1)*2):=by grind
  rw [e2] at m1;have m3:=m1.trans m2;have e3:(1:Rat)*(1/2*2)=1:=by grind
  rw [e3] at m3;have e4:Ex (bk k+bk 1)*p2 (k+1)=Ex (bk k+bk 1)*(2*p2 k):=rfl;rw [e4];refine m3.mono (Rat.mul_nonneg xs (by grind)) (by grind) (by omega)
theorem SG {s:Nat}(hs:FS s)(Cs:s≤2130706432)(l0:1/1048576≤wS s)(l1:wS s≤148/100):
 ∃(y k:Nat),eI s=some y∧FS y∧Bd 16 (wS y)∧ -(1/2+7/10*(k:Rat))≤wS y∧wS y≤1/2∧k≤21∧wS s*p2 k≤155/100∧Nq (4800+513*k) (Ex (wS y/256)) (wS s):=by
 obtain ⟨u1,u2,u3⟩:=Z5 (e:=2) hs (by grind) (by grind) (by grind) (by grind);have ot:je (2/4503599627370496) (wD (aS .f32 .f64 s)) (wS s):=⟨u2,u3⟩;obtain ⟨L,r1,fL,k,q,hk,hq,hL,hr⟩:=MK u1 (by grind) (by grind);have hV:0<bQ s:=by
  apply Nat.pos_of_ne_zero;intro h;have:wS s=0:=by
   unfold wS;rw [h,show ((0:Nat):Rat)=0 from rfl];have:=eJ;unfold sg;split<;>grind
  rw [this] at l0;grind
 have ho:=xW Cs (show 0≤2130706432 by omega);rw [qx] at ho;have Z8:compare ((bQ s:Nat):Int) ((0:Nat):Int)= .gt:=by
  simp only [compare,compareOfLessAndEq];rw [if_neg (by omega),if_neg (by omega)]
 rw [Z8] at ho;have f1:tg .f32 s 0=false:=by show (Ieee.single.order s 0==some .eq)=false;rw [ho];rfl
 have f2:aW .f32 s 0=false:=by show (Ieee.single.order s 0==some .lt)=false;rw [ho];rfl
 have DN:=xW Cs Cs;have VQ:compare ((bQ s:Nat):Int) ((bQ s:Nat):Int)= .eq:=by
  simp only [compare,compareOfLessAndEq];rw [if_neg (by omega),if_pos trivial]
 rw [VQ] at DN;have f3:tg .f32 s s=true:=by show (Ieee.single.order s s==some .eq)=true;rw [DN];rfl
 have f4:bS s=some true:=by
  have:=wo hs.1 (by omega) (by omega);unfold bS;unfold fin at this;rw [this]
 have No:wS s*p2 k≤155/100:=by
  have g:=Aa k;have g2:=Hs hk;obtain ⟨x1,x2⟩:=hq;obtain ⟨x3,x4⟩:=hr;have m1:=Rat.mul_le_mul_of_nonneg_right (show wS s≤wD (aS .f32 .f64 s)+2/4503599627370496 by grind) (show 0≤p2 k by grind);have h0:0≤wD (aS .f32 .f64 s)*p2 k:=Rat.mul_nonneg (by grind) (by grind);have m2:=Rat.mul_le_mul_of_nonneg_left (show 799/1000≤1 - q by grind) h0;grind
 have MF:=cF hk;rw [show ((21:Nat):Rat)=21 from rfl] at MF;have ou:(0:Rat)≤(k:Rat):=cF (Nat.zero_le k);have nf:=Hq hq;have Wk:0≤(k:Rat)*BP∧(k:Rat)*BP≤1456/100:=by unfold BP;constructor<;>grind
 have kl3:(k:Rat)*BP≤7/10*(k:Rat):=by unfold BP;grind
 obtain ⟨kl1,kl2⟩:=Wk;obtain ⟨L1,L2⟩:=hL;obtain ⟨el1,el2⟩:=nf;obtain ⟨g1,g2,g3,g4⟩:=VD (e:=16) fL (by grind) (by grind) (by grind) (by grind);generalize hy:aS .f64 .f32 L=y at*;refine ⟨y,k,?_,g2,⟨by grind,by grind⟩,by grind,by grind,hk,No,?_⟩;unfold eI;rw [f1,f2,f3,f4];simp only [Bool.not_true,cond_false,Option.bind_some,r1];rw [guard_pos g1,hy];have ba:Bd (1/8) (Fm q/256):=⟨by grind,by grind⟩;have bb:=Dw hk;have Z9:Bd (1/8) (Fm q/256+bk k):=by unfold bk;constructor<;>grind
 have by':Bd (1/8) (wS y/256):=⟨by grind,by grind⟩
 have JL:je (1/37500000) (wS y/256) (Fm q/256+bk k):=by unfold bk;constructor<;>grind
 have n1:=Sy (k:=10) by' Z9 JL (by grind) (by rw [show ((10:Nat):Rat)=10 from rfl];grind)
 have n2:=(Hp ba bb Z9).symm;have n3:=Sz hq;have n4:=ML k hk;obtain ⟨x1,x2⟩:=hq;have g:=Aa k;have ea:=rM ba;have eb:=rM bb;have ey:=rM by'
 have eab:=rM Z9;have q0:0<1 - q:=by grind
 have w0:0≤wD (aS .f32 .f64 s):=by grind
 have rr:3/4≤1+q:=by grind
 have n5:Nq 2 (1+q) (wD (aS .f32 .f64 s)*p2 k*(1 - q)):=by
  obtain ⟨x3,x4⟩:=hr;exact Nq.rJ ⟨x3,x4⟩ (by rw [show ((2:Nat):Rat)=2 from rfl];grind) (by rw [show ((2:Nat):Rat)=2 from rfl];grind) (by grind) (by grind)
 have n6:Nq 1 (wD (aS .f32 .f64 s)) (wS s):=Nq.rJ ot (by rw [show ((1:Nat):Rat)=1 from rfl];grind) (by rw [show ((1:Nat):Rat)=1 from rfl];grind) w0 (by grind);have m1:=n3.mul n4 (Rat.mul_nonneg ea (by grind)) (by grind) (Rat.mul_nonneg eb (by grind)) (by grind);have e1:(1+q)*1=1+q:=by grind
 rw [e1] at m1;have m2:=m1.trans n5;have e2:Ex (Fm q/256)*(1 - q)*(Ex (bk k)*p2 k)=Ex (Fm q/256)*Ex (bk k)*(p2 k*(1 - q)):=by grind
 have e3:wD (aS .f32 .f64 s)*p2 k*(1 - q)=wD (aS .f32 .f64 s)*(p2 k*(1 - q)):=by grind
 rw [e2,e3] at m2;have m3:=m2.cancel (Rat.mul_pos (by grind) q0);have all:=((n1.trans n2).trans m3).trans n6;exact all.mono ey (by grind) (by omega)
end Go.Proofs
namespace Go.Proofs
open Go.Ide Go.IntWalk
def vg (g:Nat→Nat):Nat→Nat
 |0=>0
 |i+1=>aq .add .f32 (vg g i) (g i)
def MN (n k:Int)(fs ss hs:List Nat)(n' k':Int)(fs' ss' hs':List Nat):Bool:=gU n k fs ss hs&&(gU n' k' fs' ss' hs'&&(k==k'))
theorem O7 {n k:Int}{fs ss hs:List Nat}{n' k':Int}{fs' ss' hs':List Nat}:iq (n,k,fs,ss,hs) (n',k',fs',ss',hs')=some (MN n k fs ss hs n' k' fs' ss' hs'):=by
 unfold iq MN;simp only [pF,Option.bind_some];cases gU n k fs ss hs<;>cases gU n' k' fs' ss' hs'<;>rfl
def table (a':Nat)(g:Nat→Nat→Nat)(n:Nat):List Nat:=(List.range n).map fun i=>g (i/a') (i%a')
theorem sX (a':Nat)(g:Nat→Nat→Nat)(n:Nat):(table a' g n).length=n:=by simp [table]
theorem dm {a' p q:Nat}(hq:q<a'):(p*a'+q)/a'=p∧(p*a'+q)%a'=q:=by
 constructor;rw [Nat.mul_comm,Nat.mul_add_div (by omega),Nat.div_eq_of_lt hq,Nat.add_zero];rw [Nat.mul_comm,Nat.mul_add_mod,Nat.mod_eq_of_lt hq]
theorem Ag {a' p q:Nat}(g:Nat→Nat→Nat)(hq:q<a'):table a' g (p*a'+q)++[g p q]=table a' g (p*a'+(q+1)):=by
 unfold table;rw [show p*a'+(q+1)=(p*a'+q)+1 by omega,List.range_succ,List.map_append];simp only [List.map_cons,List.map_nil,(dm hq).1,(dm hq).2]
theorem BQ {a' p q n:Nat}(g:Nat→Nat→Nat)(hq:q<a')(hn:p*a'+q<n):(table a' g n).getD (p*a'+q) 0=g p q:=by
 unfold table;simp only [List.getD_eq_getElem?_getD,List.getElem?_map,List.getElem?_range hn,Option.map_some,Option.getD_some,(dm hq).1,(dm hq).2]
theorem Hu {a' p:Nat}:p*a'+a'=(p+1)*a'+0:=by rw [Nat.succ_mul];omega
section
variable {a a' b:Nat} {fs ss hs fs' ss' hs':List Nat}
def Ah (b:Nat)(hs hs':List Nat)(p q c:Nat):Nat:=aq .mul .f32 (hs.getD (p*b+c) 0) (hs'.getD (q*b+c) 0)
def BR (b:Nat)(hs hs':List Nat)(p q:Nat):Nat:=vg (Ah b hs hs' p q) b
def m8 (fs fs':List Nat)(p q:Nat):Nat:=aq .mul .f32 (fs.getD p 0) (fs'.getD q 0)
def pI (a a' b:Nat)(ss hs ss' hs' cells:List Nat)(s t i:Nat):Nat:=
 aq .mul .f32 (aq .mul .f32 (aq .mul .f32 (cells.getD i 0) (BR b hs hs' (i/a') (i%a'))) (ss.getD (i/a'*a+s) 0)) (ss'.getD (i%a'*a'+t) 0)
def pJ (a a' b:Nat)(ss hs ss' hs' cells:List Nat)(s t:Nat):Nat:=vg (pI a a' b ss hs ss' hs' cells s t) (a*a')
def Fv (a a' b:Nat)(ss hs ss' hs' cells:List Nat):List Nat:=table a' (pJ a a' b ss hs ss' hs' cells) (a*a')
theorem Dx {i:Nat}(h:i<a*a'):i/a'<a∧i%a'<a':=by
 have:0<a':=by
  rcases Nat.eq_zero_or_pos a' with rfl|h'
  omega;exact h'
 exact ⟨by rw [Nat.div_lt_iff_lt_mul this];exact h,Nat.mod_lt _ this⟩
theorem Hv (h:a≤5)(h':a'≤5):a*a'≤25:=Nat.mul_le_mul h h'
theorem MO (m:Model a b fs ss hs)(m':Model a' b fs' ss' hs'){p q:Nat}(hp:p<a)(hq:q<a'):
 kf ((a:Int),(b:Int),fs,ss,hs) ((a':Int),(b:Int),fs',ss',hs') (p:Int) (q:Int)=some (BR b hs hs' p q):=by
 have:=m.n2;have:=m'.n2;have:=m.k2;have:=m.lh;have:=m'.lh;have r:=aM (f:=jE ((a:Int),(b:Int),fs,ss,hs) ((a':Int),(b:Int),fs',ss',hs') (p:Int) (q:Int)) (fun c s=>(s,((c:Nat):Int)))
  (fun c s=>aq .add .f32 s (Ah b hs hs' p q c)) id (n:=b) (fun c s=>s=vg (Ah b hs hs' p q) c)
  (fun c s hc oz=>⟨by
   obtain ⟨e1,e2⟩:=oJ (a:=a) (b:=b) (by omega) (by omega) hp hc;obtain ⟨e3,e4⟩:=oJ (a:=a') (b:=b) (by omega) (by omega) hq hc;have j3:=eG (i:=p*b+c) (n:=hs.length) (by omega);have j4:=eG (i:=q*b+c) (n:=hs'.length) (by omega);unfold jE e7 Ah;simp only [nL hc,cond_true,Int.toNat_natCast,cL hc (show b≤4294967296 by omega),e1,e3];rw [guard_pos j3,Option.bind_some,guard_pos j4,Option.bind_some],by rw [oz];rfl⟩)
  (fun s _=>by
   unfold jE;simp only [nM (Nat.le_refl _),cond_false];rfl) b 0 0 (by omega) rfl
 simp only [Int.natCast_zero] at r;unfold kf;rw [r.1,id,r.2];rfl
end
end Go.Proofs
namespace Go.Proofs
open Go.Ide Go.IntWalk
section
variable {a a' b:Nat} {fs ss hs fs' ss' hs':List Nat}
theorem Hw {a a' p:Nat}(hp:p<a):p*a'+a'≤a*a':=by
 have:(p+1)*a'≤a*a':=Nat.mul_le_mul_right _ hp;rw [Nat.succ_mul] at this;exact this
theorem JM (m:Model a b fs ss hs)(m':Model a' b fs' ss' hs'):
 rounds (fM ((a:Int),(b:Int),fs,ss,hs) ((a':Int),(b:Int),fs',ss',hs')) ((0:Int),([]:List Nat))=some (table a' (m8 fs fs') (a*a')):=by
 have h25:=Hv m.n2 m'.n2;have Js:=m.lf;have aaa:=m'.lf;have qI:=m.n2;have QP:=m'.n2;have r:=aM (f:=fM ((a:Int),(b:Int),fs,ss,hs) ((a':Int),(b:Int),fs',ss',hs')) (fun p (s:List Nat)=>(((p:Nat):Int),s))
  (fun p s=>table a' (m8 fs fs') ((p+1)*a')) id (n:=fs.length) (fun p s=>s=table a' (m8 fs fs') (p*a'))
  (fun p s hp oz=>⟨by
   have hle:=Hw (a:=a) (a':=a') (p:=p) (by omega);subst oz;have r:=aM (f:=iD ((a:Int),(b:Int),fs,ss,hs) ((a':Int),(b:Int),fs',ss',hs') ((p:Int),table a' (m8 fs fs') (p*a'))) (fun q (s:List Nat)=>(((q:Nat):Int),s))
    (fun q s=>s++[m8 fs fs' p q]) id (n:=fs'.length) (fun q s=>s=table a' (m8 fs fs') (p*a'+q))
    (fun q s hq DO=>⟨by
     subst DO;unfold iD;simp only [nL hq,cond_true,Int.toNat_natCast,cL hq (show fs'.length≤4294967296 by omega)];rw [guard_pos (eG hq),guard_pos (by simp only [sX,List.length_singleton,bg];omega)];rfl,by
     subst DO;rw [Ag _ (by omega)]⟩)
    (fun s _=>by
     unfold iD;simp only [nM (Nat.le_refl _),cond_false];rfl) fs'.length 0 (table a' (m8 fs fs') (p*a')) (by omega) rfl
   simp only [Int.natCast_zero] at r;unfold fM;simp only [nL hp,cond_true,r.1,id,r.2,Option.bind_some,cL hp (show fs.length≤4294967296 by omega)];rw [guard_pos (eG hp),aaa,Hu];rfl,by subst oz;rfl⟩)
  (fun s _=>by
   unfold fM;simp only [nM (Nat.le_refl _),cond_false];rfl) fs.length 0 [] (by omega) (by simp [table])
 simp only [Int.natCast_zero] at r;rw [r.1,id,r.2,Js]
theorem MP {cells:List Nat}{s t p q:Nat}(hq:q<a'):pI a a' b ss hs ss' hs' cells s t (p*a'+q)=
 aq .mul .f32 (aq .mul .f32 (aq .mul .f32 (cells.getD (p*a'+q) 0) (BR b hs hs' p q)) (ss.getD (p*a+s) 0)) (ss'.getD (q*a'+t) 0):=by
 unfold pI;rw [(dm hq).1,(dm hq).2]
theorem MQ (m:Model a b fs ss hs)(m':Model a' b fs' ss' hs'){cells:List Nat}(hc:cells.length=a*a'){s t:Nat}(oz:s<a)(ht:t<a')(l2 l3:List Nat):
 rounds (gY ((a:Int),(b:Int),fs,ss,hs) ((a':Int),(b:Int),fs',ss',hs') cells ((s:Int),l2) ((t:Int),l3)) ((0:Nat),(0:Int))=some (pJ a a' b ss hs ss' hs' cells s t):=by
 have h25:=Hv m.n2 m'.n2;have hls:=m.ls;have ad8:=m'.ls;have qI:=m.n2;have QP:=m'.n2;have r:=aM (f:=gY ((a:Int),(b:Int),fs,ss,hs) ((a':Int),(b:Int),fs',ss',hs') cells ((s:Int),l2) ((t:Int),l3)) (fun p x=>(x,((p:Nat):Int)))
  (fun p _=>vg (pI a a' b ss hs ss' hs' cells s t) ((p+1)*a')) id (n:=a) (fun p x=>x=vg (pI a a' b ss hs ss' hs' cells s t) (p*a'))
  (fun p x hp hx=>⟨by
   have hle:=Hw (a':=a') hp;subst hx;have r:=aM (f:=jF ((a:Int),(b:Int),fs,ss,hs) ((a':Int),(b:Int),fs',ss',hs') cells ((s:Int),l2) ((t:Int),l3) (vg (pI a a' b ss hs ss' hs' cells s t) (p*a'),(p:Int))) (fun q x=>(x,((q:Nat):Int)))
    (fun q x=>aq .add .f32 x (pI a a' b ss hs ss' hs' cells s t (p*a'+q))) id (n:=a') (fun q x=>x=vg (pI a a' b ss hs ss' hs' cells s t) (p*a'+q))
    (fun q x hq hx=>⟨by
     obtain ⟨e1,e2⟩:=oJ (a:=a) (b:=a') (by omega) (by omega) hp hq;obtain ⟨e3,e4⟩:=oJ (a:=a) (b:=a) (by omega) (by omega) hp oz;obtain ⟨e5,e6⟩:=oJ (a:=a') (b:=a') (by omega) (by omega) hq ht;have j1:=eG (i:=p*a'+q) (n:=cells.length) (by omega);have j3:=eG (i:=p*a+s) (n:=ss.length) (by omega);have j4:=eG (i:=q*a'+t) (n:=ss'.length) (by omega);unfold jF dw;simp only [nL hq,cond_true,Int.toNat_natCast,cL hq (show a'≤4294967296 by omega),e1,e3,e5,MO m m' hp hq,Option.bind_some];rw [guard_pos j1,guard_pos j3,Option.bind_some,guard_pos j4,Option.bind_some,MP hq],by rw [hx];rfl⟩)
    (fun x _=>by
     unfold jF;simp only [nM (Nat.le_refl _),cond_false];rfl) a' 0 (vg (pI a a' b ss hs ss' hs' cells s t) (p*a')) (by omega) rfl
   simp only [Int.natCast_zero] at r;unfold gY;simp only [nL hp,cond_true,r.1,id,r.2,Option.bind_some,cL hp (show a≤4294967296 by omega)];rw [Hu];rfl,rfl⟩)
  (fun x _=>by
   unfold gY;simp only [nM (Nat.le_refl _),cond_false];rfl) a 0 0 (by omega) (by simp [vg])
 simp only [Int.natCast_zero] at r;rw [r.1,id,r.2];rfl
def fill (a':Nat)(g:Nat→Nat→Nat)(N n:Nat):List Nat:=table a' g n++List.replicate (N - n) 0
theorem MR {g:Nat→Nat→Nat}{N n:Nat}(h:n≤N):(fill a' g N n).length=N:=by simp [fill,sX];omega
theorem MS {g:Nat→Nat→Nat}{N p q:Nat}(hq:q<a')(h:p*a'+q<N):(fill a' g N (p*a'+q)).set (p*a'+q) (g p q)=fill a' g N (p*a'+(q+1)):=by
 unfold fill;rw [show N - (p*a'+q)=(N - (p*a'+(q+1)))+1 by omega,List.replicate_succ,zm (sX ..),←Ag g hq];simp
theorem MT (m:Model a b fs ss hs)(m':Model a' b fs' ss' hs'){cells:List Nat}(hc:cells.length=a*a'):
 kg ((a:Int),(b:Int),fs,ss,hs) ((a':Int),(b:Int),fs',ss',hs') cells=some (Fv a a' b ss hs ss' hs' cells):=by
 have h25:=Hv m.n2 m'.n2;have qI:=m.n2;have QP:=m'.n2;have r:=aM (f:=jH ((a:Int),(b:Int),fs,ss,hs) ((a':Int),(b:Int),fs',ss',hs') cells) (fun p (s:List Nat)=>(((p:Nat):Int),s))
  (fun p s=>fill a' (pJ a a' b ss hs ss' hs' cells) (a*a') ((p+1)*a')) id (n:=a) (fun p s=>s=fill a' (pJ a a' b ss hs ss' hs' cells) (a*a') (p*a'))
  (fun p s hp oz=>⟨by
   have hle:=Hw (a':=a') hp;subst oz;have r:=aM (f:=jG ((a:Int),(b:Int),fs,ss,hs) ((a':Int),(b:Int),fs',ss',hs') cells ((p:Int),fill a' (pJ a a' b ss hs ss' hs' cells) (a*a') (p*a'))) (fun q (s:List Nat)=>(((q:Nat):Int),s))
    (fun q s=>fill a' (pJ a a' b ss hs ss' hs' cells) (a*a') (p*a'+(q+1))) id (n:=a') (fun q s=>s=fill a' (pJ a a' b ss hs ss' hs' cells) (a*a') (p*a'+q))
    (fun q s hq DO=>⟨by
     subst DO;obtain ⟨e1,e2⟩:=oJ (a:=a) (b:=a') (by omega) (by omega) hp hq;have j1:=eG (i:=p*a'+q) (n:=(fill a' (pJ a a' b ss hs ss' hs' cells) (a*a') (p*a'+q)).length) (by rw [MR (by omega)];omega);unfold jG;simp only [nL hq,cond_true,Int.toNat_natCast,cL hq (show a'≤4294967296 by omega),MQ m m' hc hp hq,Option.bind_some,e1];rw [guard_pos j1,MS hq e2],rfl⟩)
    (fun s _=>by
     unfold jG;simp only [nM (Nat.le_refl _),cond_false];rfl) a' 0 (fill a' (pJ a a' b ss hs ss' hs' cells) (a*a') (p*a')) (by omega) rfl
   simp only [Int.natCast_zero] at r;unfold jH;simp only [nL hp,cond_true,r.1,id,r.2,Option.bind_some,cL hp (show a≤4294967296 by omega)];rw [Hu];rfl,rfl⟩)
  (fun s _=>by
   unfold jH;simp only [nM (Nat.le_refl _),cond_false];rfl) a 0 (List.replicate (a*a') 0) (by omega) (by simp [fill,table])
 simp only [Int.natCast_zero] at r;unfold kg;rw [guard_pos (by simp only [af];omega)];simp only [af,Int.toNat_natCast,hc];rw [r.1,id,r.2];simp [fill,Fv]
def lY (a a' b:Nat)(fs ss hs fs' ss' hs':List Nat):Nat→List Nat
 |0=>table a' (m8 fs fs') (a*a')
 |n+1=>Fv a a' b ss hs ss' hs' (lY a a' b fs ss hs fs' ss' hs' n)
theorem BS (n:Nat):(lY a a' b fs ss hs fs' ss' hs' n).length=a*a':=by
 cases n<;>exact sX ..
theorem JN (m:Model a b fs ss hs)(m':Model a' b fs' ss' hs')(n:Nat)(hn:n≤12):
 rounds (eu ((a:Int),(b:Int),fs,ss,hs) ((a':Int),(b:Int),fs',ss',hs') (n:Int)) ((0:Int),table a' (m8 fs fs') (a*a'))=some (lY a a' b fs ss hs fs' ss' hs' n):=by
 have r:=aM (f:=eu ((a:Int),(b:Int),fs,ss,hs) ((a':Int),(b:Int),fs',ss',hs') (n:Int)) (fun i s=>(((i:Nat):Int),s))
  (fun i _=>lY a a' b fs ss hs fs' ss' hs' (i+1)) id (n:=n) (fun i s=>s=lY a a' b fs ss hs fs' ss' hs' i)
  (fun i s hi oz=>⟨by
   subst oz;unfold eu;simp only [nL hi,cond_true,MT m m' (BS i),Option.bind_some,cL hi (show n≤4294967296 by omega)];rfl,rfl⟩)
  (fun s _=>by
   unfold eu;simp only [nM (Nat.le_refl _),cond_false];rfl) n 0 (table a' (m8 fs fs') (a*a')) (by omega) rfl
 simp only [Int.natCast_zero] at r;rw [r.1,id,r.2]
end
end Go.Proofs
namespace Go.Proofs
open Go.Ide Go.IntWalk
def vh (b:Nat)(ws:List (List Int)):Nat→List (List Int)
 |0=>[]
 |i+1=>vh b ws i++(List.range b).map fun (l:Nat)=>ws.getD i []++[(l:Int)]
def j7 (b:Nat):Nat→List (List Int)
 |0=>[[]]
 |n+1=>vh b (j7 b n) (j7 b n).length
theorem vk (b:Nat)(ws:List (List Int)): ∀i,(vh b ws i).length=i*b
 |0=>by simp [vh]
 |i+1=>by rw [vh,List.length_append,vk b ws i,Nat.succ_mul];simp
theorem Fw {b:Nat}{ws:List (List Int)}{w:List Int}: ∀{i:Nat},i≤ws.length→w∈vh b ws i→ ∃v∈ws,∃l:Nat,l<b∧w=v++[(l:Int)]
 |0,_,h=>by simp [vh] at h
 |i+1,hi,h=>by
  rw [vh] at h;rcases List.mem_append.1 h with h|h
  exact Fw (by omega) h;obtain ⟨l,hl,rfl⟩:=List.mem_map.1 h;refine ⟨ws.getD i [],?_,l,List.mem_range.1 hl,rfl⟩;rw [List.getD_eq_getElem?_getD,List.getElem?_eq_getElem (by omega)];exact List.getElem_mem _
theorem vl (b:Nat): ∀n,(j7 b n).length=b^n
 |0=>rfl
 |n+1=>by rw [j7,vk,vl b n,Nat.pow_succ]
theorem O8 {b n:Nat}(hb:b≤4)(hn:n≤12):(j7 b n).length≤16777216:=by
 rw [vl]
 calc b^n≤4^n:=Nat.pow_le_pow_left hb n
  _≤4^12:=Nat.pow_le_pow_right (by omega) hn
  _=16777216:=by decide
theorem JO {v:List Int}{x:Int}{i:Nat}:(v++[x]).getD i 0=if i<v.length then v.getD i 0 else if i=v.length then x else 0:=by
 simp only [List.getD_eq_getElem?_getD];by_cases h:i<v.length;rw [if_pos h,List.getElem?_append_left h];rw [if_neg h,List.getElem?_append_right (by omega)];by_cases e:i=v.length;rw [if_pos e];simp [e];rw [if_neg e];rw [List.getElem?_eq_none (by simp;omega)];rfl
theorem Fx {b:Nat}: ∀{n:Nat} {w:List Int},w∈j7 b n→w.length=n∧mF b w
 |0,w,h=>by
  have:w=[]:=by simpa [j7] using h
  subst this;exact ⟨rfl,fun i hi=>by simp at hi⟩
 |n+1,w,h=>by
  obtain ⟨v,hv,l,hl,rfl⟩:=Fw (Nat.le_refl _) h;obtain ⟨h1,h2⟩:=Fx hv;refine ⟨by simp [h1],fun i hi=> ?_⟩;rw [JO];by_cases e:i<v.length;rw [if_pos e];exact h2 i e;rw [if_neg e,if_pos (by simp at hi;omega)];exact ⟨l,rfl,hl⟩
theorem MU {b n i:Nat}(h:i<(j7 b n).length):((j7 b n).getD i []).length=n∧mF b ((j7 b n).getD i []):=by
 refine Fx ?_;rw [List.getD_eq_getElem?_getD,List.getElem?_eq_getElem h];exact List.getElem_mem _
theorem O9 {b:Nat}(hb:b≤4)(n:Nat)(hn:n≤12):iw (b:Int) (n:Int)=some (j7 b n):=by
 have:=aM (f:=kx (b:Int) (n:Int)) (fun i ws=>(((i:Nat):Int),ws)) (fun i ws=>vh b ws ws.length) id (n:=n) (fun i ws=>ws=j7 b i)
  (fun i ws hi hw=>⟨by
   have hlw:ws.length≤16777216:=by rw [hw];exact O8 hb (by omega)
   have hle:ws.length*b≤16777216*4:=Nat.mul_le_mul hlw hb;have:=aM (f:=kv (b:Int) (((i:Nat):Int),ws)) (fun j out=>(((j:Nat):Int),out)) (fun j out=>out++(List.range b).map fun (l:Nat)=>ws.getD j []++[(l:Int)]) id (n:=ws.length) (fun j out=>out=vh b ws j)
    (fun j out hj ho=>⟨by
     have Tm:(ws.getD j []).length≤12:=by
      rw [hw] at hj⊢;rw [(MU hj).1];omega
     have FH:out.length+b≤16777216*4:=by
      rw [ho,vk];have:(j+1)*b≤ws.length*b:=Nat.mul_le_mul_right _ hj;rw [Nat.succ_mul] at this;omega
     have:=K8 (f:=kt (b:Int) (((i:Nat):Int),ws) (((j:Nat):Int),out)) (fun (l:Nat)=>ws.getD j []++[(l:Int)]) b out
      (fun l aab hl vx=>by
       have ur:dv (ws.getD j [])=some (ws.getD j []):=by
        unfold dv;rw [guard_pos (by simp only [bg];omega)]
       unfold kt;simp only [nL hl,cond_true,Int.toNat_natCast,ur,Option.bind_some,cL hl (show b≤4294967296 by omega)];rw [guard_pos (by simp only [List.length_singleton,bg];omega),guard_pos (by simp only [List.length_singleton,bg];omega)])
      (fun aab=>by
       unfold kt;simp only [nM (Nat.le_refl _),cond_false])
     unfold kv;simp only [nL hj,cond_true,guard_pos (eG hj),this,Option.bind_some,cL hj (show ws.length≤4294967296 by omega)],by rw [ho];rfl⟩)
    (fun out _=>by
     unfold kv;simp only [nM (Nat.le_refl _),cond_false];rfl) ws.length 0 [] (by omega) rfl
   simp only [Int.natCast_zero] at this;unfold kx;simp only [nL hi,cond_true,this.1,id,Option.bind_some,cL hi (show n≤4294967296 by omega)];rw [this.2],by rw [hw];rfl⟩)
  (fun ws _=>by
   unfold kx;simp only [nM (Nat.le_refl _),cond_false];rfl) n 0 [[]] (by omega) rfl
 simp only [Int.natCast_zero] at this;unfold iw;rw [this.1];simp only [id,Option.bind_some,this.2]
def chF (a b:Nat)(fs ss hs:List Nat)(w:List Int):Nat:=cS (rowAt a b fs ss hs w w.length) a
theorem SH {a b:Nat}{fs ss hs:List Nat}(m:Model a b fs ss hs){w:List Int}(hw:mF b w)(hl:w.length≤12):cm ((a:Int),(b:Int),fs,ss,hs) w=some (chF a b fs ss hs w):=by
 have qI:=m.n2;have hlen:=wm m w w.length;have e:(w9 a b fs ss hs w).getD w.length []=rowAt a b fs ss hs w w.length:=Di _ _;have hg:(0:Int)≤af w∧af w<af (w9 a b fs ss hs w):=by
  simp only [af,w9,List.length_map,List.length_range];omega
 have et:(af w).toNat=w.length:=by simp [af]
 unfold cm chF;simp only [xb m hw hl,Option.bind_some,guard_pos hg,et,e,xU (xs:=rowAt a b fs ss hs w w.length) (by omega),hlen]
theorem Dy (d:Nat):dq d=some (rn d):=by
 unfold dq rn;cases aW .f32 d 0<;>rfl
end Go.Proofs
namespace Go.Proofs
open Go.Ide Go.IntWalk
theorem aac {x y:Nat}{e:Rat}(hx:FS x)(hy:FS y)(td:1/1152921504606846976≤e)(qB:e≤67108864)(v1: -e≤wS x*wS y)(v2:wS x*wS y≤e):
 FS (aq .mul .f32 x y)∧je (e/8388608) (wS (aq .mul .f32 x y)) (wS x*wS y):=by
 obtain ⟨s,m,i,e1,w1,_⟩:=lL hx;obtain ⟨t,n,j,e2,w2,_⟩:=lL hy;have e3:floatBits .mul .f32 x y=some (Ieee.single.nearest (s^^t) (m*n) (-298+((i+j:Nat):Int))):=by
  show Ieee.single.mul x y=_;unfold Ieee.Format.mul;rw [e1,e2];show some (Ieee.single.nearest _ (m*n) (-149+(i:Int)+(-149+(j:Int))))=_;rw [show -149+(i:Int)+(-149+(j:Int))= -298+((i+j:Nat):Int) by omega]
 have sc:=cI (f:=Ieee.single) (neg:=s^^t) (mag:=m*n) (s:=i+j) (place:= -298+((i+j:Nat):Int));rw [show -298+((i+j:Nat):Int) - ((i+j:Nat):Int)= -149 - ((kS:Nat):Int) by rw [zX];omega] at sc;unfold aq;rw [e3];simp only;rw [←sc];have:=Iz (neg:=s^^t) (u:=m*n*2^(i+j)) (s:=kS) (v:=wS x*wS y) (e:=e) (by
  rw [w1,w2];have e4:m*n*2^(i+j)=(m*2^i)*(n*2^j):=by rw [Nat.pow_add];ac_rfl
  rw [e4,Rat.natCast_mul (m*2^i)];have hU:=eJ;have hk:((2^kS:Nat):Rat)=US:=rfl;rw [hk];generalize US=U at*;generalize ((m*2^i:Nat):Rat)=a;generalize ((n*2^j:Nat):Rat)=b;unfold sg;cases s<;>cases t<;>simp only [Bool.xor_true,Bool.xor_false,Bool.not_true,Bool.not_false,Bool.false_eq_true,if_false,if_true]<;>grind) td qB v1 v2
 rw [vb this.1];exact this
theorem VS {s t:Bool}{U a b g M N K e q:Rat}(hU:0<U)(ha:0<a)(hb:0<b)(hg:0<g)(hn:0<N)(m0:0≤M)(n1:K*N≤((2:Nat):Rat)*(M*g)+N)(n2:((2:Nat):Rat)*(M*g)≤K*N+N)(n3:M≠0→N*16777216≤M*g)(n4:M=0→K=0)(hq:q*sg t (N*b/U)=sg s (M*a/U))(he:1/1152921504606846976≤e)(v1: -e≤q)(v2:q≤e):je (e/16777216) (sg (s^^t) (K*a/(b*g*2))) q:=by
 have h2:((2:Nat):Rat)=2:=rfl;rw [h2] at n1 n2;have Ij:0<b*g:=Rat.mul_pos hb hg;have hz: ∃z,z=M*a/(N*b):=⟨_,rfl⟩;obtain ⟨z,hz⟩:=hz;have Z1:0<N*b:=Rat.mul_pos hn hb;have z0:0≤z:=by
  rw [hz];refine Rat.le_of_mul_le_mul_right ?_ Z1;have:M*a/(N*b)*(N*b)=M*a:=by grind
  rw [this,Rat.zero_mul];exact Rat.mul_nonneg m0 (Rat.le_of_lt ha)
 have Z2:q=sg (s^^t) z:=by
  have hNU:N*b/U≠0:=by
   intro h;have:N*b/U*U=N*b:=by grind
   rw [h] at this;grind
  unfold sg at hq⊢;cases s<;>cases t<;>simp only [Bool.xor_true,Bool.xor_false,Bool.not_true,Bool.not_false,Bool.false_eq_true,if_false,if_true] at hq⊢ <;>grind
 have main:je (z/16777216) (K*a/(b*g*2)) z:=by
  by_cases hM:M=0;have hK:=n4 hM;have:z=0:=by rw [hz,hM];grind
  rw [this,hK];constructor<;>grind;have h3:=n3 hM;have hW:0<N*(b*g*2):=Rat.mul_pos hn (by grind);have ez:z*(N*(b*g*2))=2*(M*g)*a:=by rw [hz];grind
  have ek:K*a/(b*g*2)*(N*(b*g*2))=K*N*a:=by grind
  have a1:=Rat.mul_le_mul_of_nonneg_right n1 (Rat.le_of_lt ha);have a2:=Rat.mul_le_mul_of_nonneg_right n2 (Rat.le_of_lt ha);have a3:=Rat.mul_le_mul_of_nonneg_right h3 (Rat.le_of_lt ha);constructor;refine Rat.le_of_mul_le_mul_right ?_ hW;have:(z+z/16777216)*(N*(b*g*2))=z*(N*(b*g*2))+z*(N*(b*g*2))/16777216:=by grind
  rw [this,ek,ez];grind;refine Rat.le_of_mul_le_mul_right ?_ hW;have:(K*a/(b*g*2)+z/16777216)*(N*(b*g*2))=K*a/(b*g*2)*(N*(b*g*2))+z*(N*(b*g*2))/16777216:=by grind
  rw [this,ek,ez];grind
 obtain ⟨k1,k2⟩:=main;generalize K*a/(b*g*2)=k at*;subst Z2;clear hq hz n1 n2 n3 n4;unfold sg at v1 v2⊢;cases s<;>cases t<;>simp only [Bool.xor_true,Bool.xor_false,Bool.not_true,Bool.not_false,Bool.false_eq_true,if_false,if_true] at v1 v2⊢ <;>constructor<;>grind
theorem aad {m n:Nat}(hm:m≠0)(h:m<16777216):n*16777216≤m*2^(23+2+n.log2 - m.log2):=by
 have Mm:=Nat.log2_self_le hm;have OQ:n<2^(n.log2+1):=Nat.lt_log2_self;have Lj:m.log2≤23:=by
  have:=(Nat.log2_lt (k:=24) hm).2 (by omega);omega
 have q1:2^m.log2*2^(23+2+n.log2 - m.log2)≤m*2^(23+2+n.log2 - m.log2):=Nat.mul_le_mul_right _ Mm;rw [←Nat.pow_add,show m.log2+(23+2+n.log2 - m.log2)=(n.log2+1)+24 by omega,Nat.pow_add] at q1;have GB:(2:Nat)^24=16777216:=by decide
 rw [GB] at q1;exact Nat.le_trans (Nat.mul_le_mul_right _ (Nat.le_of_lt OQ)) q1
theorem VT {x y:Nat}{e q:Rat}(hx:FS x)(hy:FS y)(Te:wS y≠0)(hq:q*wS y=wS x)(td:1/1152921504606846976≤e)(qB:e≤33554432)(v1: -e≤q)(v2:q≤e):
 FS (aq .quo .f32 x y)∧je (e/2097152) (wS (aq .quo .f32 x y)) q:=by
 obtain ⟨s,m,i,e1,w1,_⟩:=lL hx;obtain ⟨t,n,j,e2,w2,_⟩:=lL hy;have hU:=eJ;have hn:n≠0:=by
  rintro rfl;apply Te;rw [w2,Nat.zero_mul];unfold sg;cases t<;>grind
 have hf:Ieee.single.fractionBits=23:=rfl;have e3:floatBits .quo .f32 x y=some (Ieee.single.nearest (s^^t) (2*(m*2^(23+2+n.log2 - m.log2)/n)+(m*2^(23+2+n.log2 - m.log2)%n != 0).toNat) (-149+(i:Int) - (-149+(j:Int)) - ((23+2+n.log2 - m.log2:Nat):Int) - 1)):=by
  show Ieee.single.div x y=_;unfold Ieee.Format.div;rw [e1,e2];unfold Ieee.Datum.quotient;simp only [hf,Nat.shiftLeft_eq];rw [if_neg hn];rfl
 have Hh:m≠0→n*16777216≤m*2^(23+2+n.log2 - m.log2):=fun hm=>aad hm (qk e1);unfold aq;rw [e3];simp only;generalize 23+2+n.log2 - m.log2=more at*;obtain ⟨s1,s2⟩:=IA (Nat.pos_of_ne_zero hn) (rfl:2*(m*2^more/n)+(m*2^more%n != 0).toNat=_);have VC:m=0→2*(m*2^more/n)+(m*2^more%n != 0).toNat=0:=by rintro rfl;simp
 generalize 2*(m*2^more/n)+(m*2^more%n != 0).toNat=Q at*;have sc:=cI (f:=Ieee.single) (neg:=s^^t) (mag:=Q) (s:=i+kS) (place:= -149+(i:Int) - (-149+(j:Int)) - ((more:Nat):Int) - 1);rw [show -149+(i:Int) - (-149+(j:Int)) - ((more:Nat):Int) - 1 - ((i+kS:Nat):Int)= -149 - ((j+more+1:Nat):Int) by have:=zX;omega] at sc;rw [←sc];have hb:=jz j;have hg:=jz more;have ha:=jz i;have Z4:(0:Rat)<(n:Rat):=uc (Nat.pos_of_ne_zero hn);have n1:=cF s1;have n2:=cF s2;have n3:(m:Rat)≠0→(n:Rat)*16777216≤(m:Rat)*((2^more:Nat):Rat):=by
  intro h;have hm:m≠0:=by rintro rfl;exact h rfl
  have:=cF (Hh hm);rw [Rat.natCast_mul,Rat.natCast_mul] at this;exact this
 have n4:(m:Rat)=0→(Q:Rat)=0:=by
  intro h;have hm:m=0:=by
   have:((m:Nat):Rat)=((0:Nat):Rat):=h;exact Rat.natCast_inj.1 this
  rw [VC hm];rfl
 have m0:(0:Rat)≤(m:Rat):=by have:=cF (Nat.zero_le m);simpa using this
 simp only [Rat.natCast_mul,Rat.natCast_add] at n1 n2;have hv:((Q*2^(i+kS):Nat):Rat)/(US*((2^(j+more+1):Nat):Rat))=(Q:Rat)*((2^i:Nat):Rat)/(((2^j:Nat):Rat)*((2^more:Nat):Rat)*2):=by
  rw [Nat.pow_add,Nat.pow_succ,Nat.pow_add,Rat.natCast_mul,Rat.natCast_mul,Rat.natCast_mul,Rat.natCast_mul];have hk:((2^kS:Nat):Rat)=US:=rfl;have h2:((2:Nat):Rat)=2:=rfl;rw [hk,h2];generalize US=U at*;generalize ((2^i:Nat):Rat)=a at*;generalize ((2^j:Nat):Rat)=b at*;generalize ((2^more:Nat):Rat)=g at*;have:b*g≠0:=Rat.ne_of_gt (Rat.mul_pos hb hg);grind
 have hw:wS x=sg s ((m:Rat)*((2^i:Nat):Rat)/US):=by rw [w1,Rat.natCast_mul]
 have Tm:wS y=sg t ((n:Rat)*((2^j:Nat):Rat)/US):=by rw [w2,Rat.natCast_mul]
 rw [hw,Tm] at hq;have key:je (e/16777216) (sg (s^^t) ((Q:Rat)*((2^i:Nat):Rat)/(((2^j:Nat):Rat)*((2^more:Nat):Rat)*2))) q:=by
  clear hv sc e1 e2 e3 s1 s2 VC Hh w1 w2 hw Tm Te hx hy hf;generalize US=U at*;generalize ((2^i:Nat):Rat)=a at*;generalize ((2^j:Nat):Rat)=b at*;generalize ((2^more:Nat):Rat)=g at*;generalize (m:Rat)=M at*;generalize (n:Rat)=N at*;generalize (Q:Rat)=K at*;exact VS hU ha hb hg Z4 m0 n1 n2 n3 n4 hq td v1 v2
 obtain ⟨k1,k2⟩:=key;have Ss:=Iz (neg:=s^^t) (u:=Q*2^(i+kS)) (s:=j+more+1) (e:=2*e) rfl (by grind) (by grind) (by rw [hv];grind) (by rw [hv];grind);rw [vb Ss.1];refine ⟨Ss.1,?_⟩;obtain ⟨p1,p2⟩:=Ss.2;rw [hv] at p1 p2;constructor<;>grind
theorem MV {s:Bool}{m i c:Nat}(h:c≤i):sg s (((m*2^i:Nat):Rat)/US)=((if s then -((m*2^(i - c):Nat):Int) else ((m*2^(i - c):Nat):Int):Int):Rat)*(((2^c:Nat):Rat)/US):=by
 rw [show m*2^i=m*2^(i - c)*2^c by rw [Nat.mul_assoc,←Nat.pow_add,show i - c+c=i by omega],←xe,Rat.natCast_mul];generalize ((m*2^(i - c):Nat):Rat)=a;generalize ((2^c:Nat):Rat)=b;have hU:=eJ;generalize US=U at*;unfold sg;cases s;simp only [Bool.false_eq_true,if_false];grind;simp only [if_true];grind
theorem wz {x y:Nat}(hx:FS x)(hy:FS y): ∃A B:Int,Ieee.single.order x y=some (compare A B)∧(A<B↔wS x<wS y)∧(A=B↔wS x=wS y):=by
 obtain ⟨s,m,i,e1,w1,_⟩:=lL hx;obtain ⟨t,n,j,e2,w2,_⟩:=lL hy;have q8:min (-149+(i:Int)) (-149+(j:Int))= -149+((min i j:Nat):Int):=by omega
 have e3:(-149+(i:Int) - (-149+((min i j:Nat):Int))).toNat=i - min i j:=by omega
 have e4:(-149+(j:Int) - (-149+((min i j:Nat):Int))).toNat=j - min i j:=by omega
 have h:Ieee.single.order x y=some (compare (Ieee.signed s m (i - min i j)) (Ieee.signed t n (j - min i j))):=by
  show Ieee.Datum.order (Ieee.single.read x) (Ieee.single.read y)=_;rw [e1,e2];show some (compare (Ieee.signed s m (-149+(i:Int) - min (-149+(i:Int)) (-149+(j:Int))).toNat) (Ieee.signed t n (-149+(j:Int) - min (-149+(i:Int)) (-149+(j:Int))).toNat))=_;rw [q8,e3,e4]
 refine ⟨_,_,h,?_⟩;rw [w1,w2,MV (c:=min i j) (by omega),MV (c:=min i j) (by omega),lb,lb];generalize (if s then -((m*2^(i - min i j):Nat):Int) else ((m*2^(i - min i j):Nat):Int))=A;generalize (if t then -((n*2^(j - min i j):Nat):Int) else ((n*2^(j - min i j):Nat):Int))=B;have hk:0<((2^min i j:Nat):Rat)/US:=by
  have h1:=jz (min i j);have h2:=eJ;generalize ((2^min i j:Nat):Rat)=a at*;generalize US=U at*;refine Rat.lt_of_mul_lt_mul_right (c:=U) ?_ (Rat.le_of_lt h2);have:a/U*U=a:=by grind
  rw [this,Rat.zero_mul];exact h1
 generalize ((2^min i j:Nat):Rat)/US=k at*;have i1:=Rat.intCast_lt_intCast (a:=A) (b:=B);have i2:(A=B↔(A:Rat)=(B:Rat)):=Rat.intCast_inj.symm;rw [←i1,i2];generalize (A:Rat)=a;generalize (B:Rat)=b;constructor;rw [Rat.mul_comm a,Rat.mul_comm b];exact (Rat.mul_lt_mul_left hk).symm;constructor;intro h;rw [h];intro h;grind
theorem Hx {x y:Nat}(hx:FS x)(hy:FS y):aW .f32 x y=decide (wS x<wS y):=by
 obtain ⟨A,B,h,h1,h2⟩:=wz hx hy;have e:aW .f32 x y=(Ieee.single.order x y==some .lt):=rfl;rw [e,h];simp only [compare,compareOfLessAndEq,←h1];by_cases c:A<B;rw [if_pos c,decide_eq_true c];rfl;rw [if_neg c,decide_eq_false c];by_cases d:A=B;rw [if_pos d];rfl;rw [if_neg d];rfl
theorem Hy {x y:Nat}(hx:FS x)(hy:FS y):pP .f32 x y=decide (wS y<wS x):=by
 obtain ⟨A,B,h,h1,h2⟩:=wz hx hy;have e:pP .f32 x y=(Ieee.single.order x y==some .gt):=rfl;rw [e,h];simp only [compare,compareOfLessAndEq];by_cases c:A<B;have:=h1.1 c;rw [if_pos c,decide_eq_false (by grind)];rfl;rw [if_neg c];have c': ¬wS x<wS y:=fun h=>c (h1.2 h);by_cases d:A=B;have:=h2.1 d;rw [if_pos d,decide_eq_false (by grind)];rfl;have d': ¬wS x=wS y:=fun h=>d (h2.2 h);rw [if_neg d,decide_eq_true (by grind)];rfl
theorem SI {x y:Nat}(hx:FS x)(hy:FS y):sx .f32 x y=decide (wS y≤wS x):=by
 obtain ⟨A,B,h,h1,h2⟩:=wz hx hy;have e:sx .f32 x y=(Ieee.single.order x y==some .gt||Ieee.single.order x y==some .eq):=rfl;rw [e,h];simp only [compare,compareOfLessAndEq];by_cases c:A<B;have:=h1.1 c;rw [if_pos c,decide_eq_false (by grind)];rfl;rw [if_neg c];have c': ¬wS x<wS y:=fun h=>c (h1.2 h);rw [decide_eq_true (show wS y≤wS x by grind)];by_cases d:A=B;rw [if_pos d];rfl;rw [if_neg d];rfl
end Go.Proofs
