import Derived.Test.YtjekgiabgglokaaLearnedGenB
set_option linter.unusedVariables false
set_option linter.unusedSimpArgs false
set_option linter.unusedSectionVars false
namespace Go.Proofs
open Go.Ide Go.IntWalk
end Go.Proofs
namespace Go.Proofs
open Go.Ide Go.IntWalk
theorem U1 (a b c:Int):kU a b c=some (decide (a≥b)&&decide (a≤c)):=by
 unfold kU;cases h:decide (a≥b)<;>simp
theorem Al (a b c:Int):db a b c=some (decide (a≥b)&&decide (a≤c)):=by
 unfold db;cases h:decide (a≥b)<;>simp
def nf (xs:List Int)(b c:Int):Bool:=xs.all fun x=>decide (x≥b)&&decide (x≤c)
theorem tB {xs:List Int}{b c:Int}:nf xs b c=true↔ ∀i,i<xs.length→b≤xs.getD i 0∧xs.getD i 0≤c:=by
 unfold nf;rw [List.all_eq_true];constructor;intro h i hi;have:=h xs[i] (List.getElem_mem hi);simp only [Bool.and_eq_true,decide_eq_true_eq] at this;rw [List.getD_eq_getElem?_getD,List.getElem?_eq_getElem hi];exact ⟨this.1,this.2⟩;intro h x hx;obtain ⟨i,hi,rfl⟩:=List.getElem_of_mem hx;have:=h i hi;rw [List.getD_eq_getElem?_getD,List.getElem?_eq_getElem hi] at this;simp only [Bool.and_eq_true,decide_eq_true_eq];exact ⟨this.1,this.2⟩
theorem IE (xs:List Int)(b c:Int):gY (fun i=>decide (xs.getD i 0≥b)&&decide (xs.getD i 0≤c)) xs.length 0=nf xs b c:=by
 rw [Bool.eq_iff_iff,df,tB];constructor;intro h i hi;have:=h i (by omega) (by omega);simp only [Bool.and_eq_true,decide_eq_true_eq] at this;exact ⟨this.1,this.2⟩;intro h i _ hi;have:=h i (by omega);simp only [Bool.and_eq_true,decide_eq_true_eq];exact ⟨this.1,this.2⟩
theorem Fe {xs:List Int}{b c:Int}(h:xs.length≤4294967296):eD xs b c=some (nf xs b c):=by
 unfold eD;have:=iA (f:=dF xs b c) (fun i=>((i:Nat):Int)) (fun i=>decide (xs.getD i 0≥b)&&decide (xs.getD i 0≤c)) (Sum.inl ()) (Sum.inr ()) (n:=xs.length) (fun i hi=>by
  unfold dF;simp only [nW hi,cond_true,guard_pos (cZ hi),Int.toNat_natCast,Al,Option.bind_some,cQ hi h];cases (decide (xs.getD i 0≥b)&&decide (xs.getD i 0≤c))<;>rfl) (by
  unfold dF;simp only [nX (Nat.le_refl _),cond_false]) xs.length 0 (by omega)
 rw [IE] at this;simp only [Int.natCast_zero] at this;simp only [this,Option.bind_some];cases nf xs b c<;>rfl
theorem Me {xs:List Int}{L:Int}(h:xs.length≤4294967296):jS xs L=some (nf xs 0 (lO .i64 L 1)&&decide (ai xs≤12)):=by
 unfold jS;have:=iA (f:=kC xs L) (fun i=>((i:Nat):Int)) (fun i=>decide (xs.getD i 0≥0)&&decide (xs.getD i 0≤lO .i64 L 1)) (Sum.inl ()) (Sum.inr ()) (n:=xs.length) (fun i hi=>by
  unfold kC;simp only [nW hi,cond_true,guard_pos (cZ hi),Int.toNat_natCast,U1,Option.bind_some,cQ hi h];cases (decide (xs.getD i 0≥0)&&decide (xs.getD i 0≤lO .i64 L 1))<;>rfl) (by
  unfold kC;simp only [nX (Nat.le_refl _),cond_false]) xs.length 0 (by omega)
 rw [IE] at this;simp only [Int.natCast_zero] at this;simp only [this,Option.bind_some];cases nf xs 0 (lO .i64 L 1)<;>simp
theorem Ff {xs:List Int}{L:Int}(h:xs.length≤4294967296):lq xs L=some ((decide (L≥1)&&decide (L≤4))&&(decide (ai xs≤12)&&nf xs 0 (lO .i64 L 1))):=by
 unfold lq;rw [Al,Fe h];cases (decide (L≥1)&&decide (L≤4))<;>cases decide (ai xs≤12)<;>simp
def bU (c:Nat)(xs:List Int):Prop:= ∀i,i<xs.length→ ∃a:Nat,xs.getD i 0=(a:Int)∧a<c
structure Plain (m c:Nat)(nx:List Int)(es:List Bool):Prop where
 m1:1≤m
 m2:m≤64
 c1:1≤c
 c2:c≤4
 len:nx.length=m*c
 ends:es.length=m
 tos: ∀i,i<m*c→ ∃t:Nat,nx.getD i 0=(t:Int)∧t<m
section
variable {m c:Nat} {nx:List Int} {es:List Bool} (hp:Plain m c nx es)
include hp
end
end Go.Proofs
namespace Go.Proofs
open Go.Ide Go.IntWalk
def share (x:Nat):Bool:=rT .f32 x 0&&vm .f32 x 1065353216
theorem J4 (x:Nat):kp x=some (share x):=by
 unfold kp share;cases rT .f32 x 0<;>rfl
theorem Mf {x:Nat}(h:share x=true):bd x 127:=by
 unfold share at h;rw [Bool.and_eq_true] at h;exact Lx h.1 h.2
def tC (s:Nat):Bool:=vm .f32 (av .sub .f32 s 1065353216) 981668463&&rT .f32 (av .sub .f32 s 1065353216) 3129152111
theorem Si (s:Nat):(kn (av .sub .f32 s 1065353216)).bind (fun y=>some (vm .f32 y 981668463))=some (tC s):=by
 unfold tC;rw [Lz (c:=981668463) (nc:=3129152111) (mc:=8388608+981668463%8388608) (pc:= -149+((981668463/8388608 - 1:Nat):Int)) (by decide) (by decide)];unfold kn;cases aX .f32 (av .sub .f32 s 1065353216) 0<;>rfl
def aW (xs:List Nat):Nat→Nat
 |0=>0
 |i+1=>av .add .f32 (aW xs i) (xs.getD i 0)
def eU (xs:List Nat):Bool:=gY (fun i=>share (xs.getD i 0)) xs.length 0&&tC (aW xs xs.length)
theorem J5 (p:Nat→Bool): ∀k i,gY p (k+1) i=(gY p k i&&p (i+k))
 |0,i=>by simp [gY]
 |k+1,i=>by
  rw [gY,J5 p k (i+1),gY,show i+1+k=i+(k+1) by omega,Bool.and_assoc]
theorem Dx {xs:List Nat}(h:xs.length≤4294967296):jF xs=some (eU xs):=by
 have hf: ∀k i,i+k=xs.length→rounds (hH xs) (aW xs i,(i:Int))=some (bif gY (fun i=>share (xs.getD i 0)) k i then .inl (aW xs xs.length) else .inr ()):=by
  intro k;induction k with
  |zero=>
   intro i hi;have:i=xs.length:=by omega
   subst this;rw [bA];have:hH xs (aW xs xs.length,(xs.length:Int))=some (.inr (.inl (aW xs xs.length))):=by
    unfold hH;simp only [nX (Nat.le_refl _),cond_false]
   rw [this];rfl
  |succ k ih=>
   intro i hi;have cq:i<xs.length:=by omega
   rw [bA];have:hH xs (aW xs i,(i:Int))=some (bif share (xs.getD i 0) then .inl (aW xs (i+1),((i+1:Nat):Int)) else .inr (.inr ())):=by
    unfold hH;simp only [nW cq,cond_true,guard_pos (cZ cq),Int.toNat_natCast,J4,Option.bind_some,cQ cq h];cases share (xs.getD i 0)<;>rfl
   rw [this,gY];cases hs:share (xs.getD i 0) with
   |true=>exact ih (i+1) (by omega)
   |false=>rfl
 unfold jF eU;have:=hf xs.length 0 (by omega);simp only [aW,Int.natCast_zero] at this;rw [this];unfold tC;cases gY (fun i=>share (xs.getD i 0)) xs.length 0 with
 |false=>rfl
 |true=>
  simp only [cond_true,Option.bind_some,Bool.true_and];cases vm .f32 (av .sub .f32 (aW xs xs.length) 1065353216) 981668463<;>rfl
theorem vN {xs:List Nat}(h:xs.length≤4294967296):jA xs=some (aW xs xs.length):=by
 have:=bt (f:=mS xs) (fun i s=>(s,((i:Nat):Int))) (fun i s=>av .add .f32 s (xs.getD i 0)) id (n:=xs.length) (fun i s=>s=aW xs i)
  (fun i s hi hs=>⟨by
   unfold mS;simp only [nW hi,cond_true,guard_pos (cZ hi),Int.toNat_natCast,cQ hi h],by rw [hs];rfl⟩)
  (fun s hs=>by
   unfold mS;simp only [nX (Nat.le_refl _),cond_false];rfl) xs.length 0 0 (by omega) rfl
 unfold jA;simp only [Int.natCast_zero] at this;rw [this.1];simp only [id,Option.bind_some,this.2]
theorem OP {xs:List Nat}(h:xs.length≤4294967296):iO xs=some (eU xs):=by
 unfold iO eU;have:=iA (f:=iB xs) (fun i=>((i:Nat):Int)) (fun i=>share (xs.getD i 0)) (Sum.inl ()) (Sum.inr ()) (n:=xs.length) (fun i hi=>by
  unfold iB;simp only [nW hi,cond_true,guard_pos (cZ hi),Int.toNat_natCast,cQ hi h];unfold share;cases rT .f32 (xs.getD i 0) 0<;>cases vm .f32 (xs.getD i 0) 1065353216<;>rfl) (by
  unfold iB;simp only [nX (Nat.le_refl _),cond_false]) xs.length 0 (by omega)
 simp only [Int.natCast_zero] at this;rw [this];cases gY (fun i=>share (xs.getD i 0)) xs.length 0 with
 |false=>rfl
 |true=>
  simp only [cond_true,Option.bind_some,Bool.true_and,vN h];exact Si _
def bT (xs:List Nat)(w i:Nat):List Nat:=(xs.drop (i*w)).take w
theorem bo {xs:List Nat}{w i n:Nat}(h:xs.length=n*w)(hi:i<n):(bT xs w i).length=w:=by
 have:(i+1)*w≤n*w:=Nat.mul_le_mul_right _ hi;rw [Nat.succ_mul] at this;unfold bT;simp;omega
theorem dg {xs:List Nat}{w i n k:Nat}(h:xs.length=n*w)(hi:i<n)(hk:k<w):(bT xs w i).getD k 0=xs.getD (i*w+k) 0:=by
 unfold bT;simp only [List.getD_eq_getElem?_getD];rw [List.getElem?_take_of_lt hk,List.getElem?_drop]
def cu (n k:Int)(fs ss hs:List Nat):Bool:=
 (decide (n≥1)&&decide (n≤5))&&((decide (k≥1)&&decide (k≤4))&&((ai fs==n)&&((ai ss==aU .i64 n n)&&((ai hs==aU .i64 n k)&&(eU fs&&
  (gY (fun i=>eU (bT ss n.toNat i)) n.toNat 0&&gY (fun i=>eU (bT hs k.toNat i)) n.toNat 0))))))
theorem Fg (p q:Nat→Bool): ∀k i,gY (fun i=>p i&&q i) k i=(gY p k i&&gY q k i)
 |0,_=>rfl
 |k+1,i=>by
  simp only [gY,Fg p q k (i+1)];cases p i<;>cases q i<;>cases gY p k (i+1)<;>cases gY q k (i+1)<;>rfl
theorem Dy {xs:List Nat}{w n i:Nat}(hn:n≤1000)(hw:w≤1000)(hi:i<n):cut xs (aU .i64 (i:Int) (w:Int)) (al .i64 (aU .i64 (i:Int) (w:Int)) (w:Int))=bT xs w i∧
 aU .i64 (i:Int) (w:Int)=((i*w:Nat):Int)∧al .i64 (aU .i64 (i:Int) (w:Int)) (w:Int)=((i*w+w:Nat):Int)∧aU .i64 (al .i64 (i:Int) 1) (w:Int)=((i*w+w:Nat):Int):=by
 have h1:i*w≤1000*1000:=Nat.mul_le_mul (by omega) hw;have h2:(i+1)*w≤1001*1000:=Nat.mul_le_mul (by omega) hw;rw [Nat.succ_mul] at h2;have e1:aU .i64 (i:Int) (w:Int)=((i*w:Nat):Int):=by rw [mo (by rw [←Int.natCast_mul];omega),←Int.natCast_mul]
 have e2:al .i64 ((i*w:Nat):Int) (w:Int)=((i*w+w:Nat):Int):=by rw [ju (by omega)];omega
 have e3:aU .i64 (al .i64 (i:Int) 1) (w:Int)=((i*w+w:Nat):Int):=by
  rw [ju (by omega),show (i:Int)+1=((i+1:Nat):Int) by omega,mo (by rw [←Int.natCast_mul,Nat.succ_mul];omega),←Int.natCast_mul,Nat.succ_mul]
 refine ⟨?_,e1,by rw [e1,e2],e3⟩;rw [e1,e2];unfold cut bT;simp only [Int.toNat_natCast];rw [show i*w+w - i*w=w by omega]
theorem Am {xs:List Nat}{w n i:Nat}(h:xs.length=n*w)(hi:i<n):i*w+w≤xs.length:=by
 have:(i+1)*w≤n*w:=Nat.mul_le_mul_right _ hi;rw [Nat.succ_mul] at this;omega
theorem An {xs:List Nat}{n w:Nat}(hn:n≤1000)(hw:w≤1000):iD xs (n:Int) (w:Int)=some ((ai xs==aU .i64 (n:Int) (w:Int))&&gY (fun i=>eU (bT xs w i)) n 0):=by
 unfold iD;have e:aU .i64 (n:Int) (w:Int)=((n*w:Nat):Int):=by
  have:n*w≤1000*1000:=Nat.mul_le_mul hn hw;rw [mo (by rw [←Int.natCast_mul];omega),←Int.natCast_mul]
 cases hl:(ai xs==aU .i64 (n:Int) (w:Int)) with
 |false=>simp [bne,hl]
 |true=>
  have hlen:xs.length=n*w:=by
   rw [e] at hl;have:=eq_of_beq hl;simp only [ai] at this;omega
  have:=iA (f:=kx xs (n:Int) (w:Int)) (fun i=>((i:Nat):Int)) (fun i=>eU (bT xs w i)) (Sum.inl ()) (Sum.inr ()) (n:=n) (fun i hi=>by
   obtain ⟨c1,c2,c3,c4⟩:=Dy (xs:=xs) hn hw hi;have CA:=Am hlen hi;unfold kx ei;rw [c3,c2] at c1;simp only [nW hi,cond_true,c2,c4,c1];rw [guard_pos ⟨by omega,by omega,by omega,by simp only [ai];omega⟩];have hr:(bT xs w i).length≤4294967296:=by rw [bo hlen hi];omega
   simp only [Option.bind_some,OP hr,cQ hi (by omega)];cases eU (bT xs w i)<;>rfl) (by
   unfold kx;simp only [nX (Nat.le_refl _),cond_false]) n 0 (by omega)
  simp only [Int.natCast_zero] at this;simp only [bne,hl,Bool.not_true,cond_false,this,Option.bind_some,Bool.true_and];cases gY (fun i=>eU (bT xs w i)) n 0<;>rfl
theorem Ao {xs:List Nat}{n:Nat}(h:xs.length=n):bT xs n 0=xs:=by
 unfold bT;rw [Nat.zero_mul,List.drop_zero,←h,List.take_length]
theorem xc {n k:Int}{fs ss hs:List Nat}:e7 (n,k,fs,ss,hs)=some (cu n k fs ss hs):=by
 unfold e7 cu;simp only [Al,Option.bind_some];cases hn:(decide (n≥1)&&decide (n≤5)) with
 |false=>rfl
 |true=>
  cases hk:(decide (k≥1)&&decide (k≤4)) with
  |false=>rfl
  |true=>
   simp only [Bool.and_eq_true,decide_eq_true_eq] at hn hk;obtain ⟨a,rfl⟩: ∃a:Nat,n=(a:Int):=⟨n.toNat,by omega⟩;obtain ⟨b,rfl⟩: ∃b:Nat,k=(b:Int):=⟨k.toNat,by omega⟩;have e1:=An (xs:=fs) (n:=1) (w:=a) (by omega) (by omega);have e0:aU .i64 ((1:Nat):Int) (a:Int)=(a:Int):=by rw [mo (by omega)];omega
   rw [e0] at e1;have e2:=An (xs:=ss) (n:=a) (w:=a) (by omega) (by omega);have e3:=An (xs:=hs) (n:=a) (w:=b) (by omega) (by omega);simp only [Int.natCast_one] at e1;simp only [e1,e2,e3,cond_true,Option.bind_some,Int.toNat_natCast,Bool.true_and];have hr:ai fs=(a:Int)→gY (fun i=>eU (bT fs a i)) 1 0=eU fs:=by
    intro h;simp only [gY,Bool.and_true];rw [Ao (by simp only [ai] at h;omega)]
   cases h1:(ai fs==(a:Int)) with
   |false=>rfl
   |true=>
    rw [hr (eq_of_beq h1)];cases eU fs<;>cases (ai ss==aU .i64 (a:Int) (a:Int))<;>cases (ai hs==aU .i64 (a:Int) (b:Int))<;>cases gY (fun i=>eU (bT ss a i)) a 0<;>cases gY (fun i=>eU (bT hs b i)) a 0<;>rfl
theorem tD {n k:Int}{fs ss hs:List Nat}:kV (n,k,fs,ss,hs)=some (cu n k fs ss hs):=by
 unfold kV cu;simp only [U1,Option.bind_some];cases hn:(decide (n≥1)&&decide (n≤5)) with
 |false=>rfl
 |true=>
  cases hk:(decide (k≥1)&&decide (k≤4)) with
  |false=>rfl
  |true=>
   simp only [Bool.and_eq_true,decide_eq_true_eq] at hn hk;obtain ⟨a,rfl⟩: ∃a:Nat,n=(a:Int):=⟨n.toNat,by omega⟩;obtain ⟨b,rfl⟩: ∃b:Nat,k=(b:Int):=⟨k.toNat,by omega⟩;simp only [bne,Bool.not_true,cond_false,Bool.true_and,Int.toNat_natCast];cases h1:(ai fs==(a:Int)) with
   |false=>rfl
   |true=>
    cases h2:(ai ss==aU .i64 (a:Int) (a:Int)) with
    |false=>rfl
    |true=>
     cases h3:(ai hs==aU .i64 (a:Int) (b:Int)) with
     |false=>rfl
     |true=>
      have m1:a*a≤5*5:=Nat.mul_le_mul (by omega) (by omega);have m2:a*b≤5*4:=Nat.mul_le_mul (by omega) (by omega);have l1:fs.length=a:=by have:=eq_of_beq h1;simp only [ai] at this;omega
      have l2:ss.length=a*a:=by
       have:=eq_of_beq h2;rw [mo (by rw [←Int.natCast_mul];omega),←Int.natCast_mul] at this;simp only [ai] at this;omega
      have l3:hs.length=a*b:=by
       have:=eq_of_beq h3;rw [mo (by rw [←Int.natCast_mul];omega),←Int.natCast_mul] at this;simp only [ai] at this;omega
      have:=iA (f:=mW ((a:Int),(b:Int),fs,ss,hs)) (fun i=>((i:Nat):Int)) (fun i=>eU (bT ss a i)&&eU (bT hs b i)) (Sum.inl ()) (Sum.inr ()) (n:=a) (fun i hi=>by
       obtain ⟨c1,c2,c3,c4⟩:=Dy (xs:=ss) (w:=a) (n:=a) (by omega) (by omega) hi;obtain ⟨d1,d2,d3,d4⟩:=Dy (xs:=hs) (w:=b) (n:=a) (by omega) (by omega) hi;have CA:=Am l2 hi;have YN:=Am l3 hi;rw [c3,c2] at c1;rw [d3,d2] at d1;have hr:(bT ss a i).length≤4294967296:=by rw [bo l2 hi];omega
       have F9:(bT hs b i).length≤4294967296:=by rw [bo l3 hi];omega
       unfold mW;simp only [nW hi,cond_true];rw [c3,c2,c1,guard_pos ⟨by omega,by omega,by simp only [ai];omega⟩,Dx hr];simp only [Option.bind_some];rw [d3,d2,d1,guard_pos ⟨by omega,by omega,by simp only [ai];omega⟩,Dx F9];simp only [Option.bind_some,cQ hi (show a≤4294967296 by omega)];cases eU (bT ss a i)<;>cases eU (bT hs b i)<;>rfl) (by
       unfold mW;simp only [nX (Nat.le_refl _),cond_false]) a 0 (by omega)
      simp only [Int.natCast_zero] at this;rw [Fg] at this;simp only [Dx (xs:=fs) (by omega),Option.bind_some,Bool.not_true,cond_false];cases eU fs with
      |false=>rfl
      |true=>
       simp only [Bool.not_true,cond_false,Option.bind_some,this,Bool.true_and];cases gY (fun i=>eU (bT ss a i)) a 0<;>cases gY (fun i=>eU (bT hs b i)) a 0<;>rfl
end Go.Proofs
namespace Go.Proofs
open Go.Ide Go.IntWalk
structure Model (a b:Nat)(fs ss hs:List Nat):Prop where
 n1:1≤a
 n2:a≤5
 k1:1≤b
 k2:b≤4
 lf:fs.length=a
 ls:ss.length=a*a
 lh:hs.length=a*b
 sf: ∀i,i<a→bd (fs.getD i 0) 127
 st: ∀i j,i<a→j<a→bd (ss.getD (i*a+j) 0) 127
 sh: ∀i j,i<a→j<b→bd (hs.getD (i*b+j) 0) 127
theorem vO {xs:List Nat}(h:eU xs=true){i:Nat}(hi:i<xs.length):bd (xs.getD i 0) 127:=by
 unfold eU at h;rw [Bool.and_eq_true] at h;exact Mf (df.1 h.1 i (by omega) (by omega))
theorem qg {n k:Int}{fs ss hs:List Nat}(h:cu n k fs ss hs=true): ∃a b:Nat,n=(a:Int)∧k=(b:Int)∧Model a b fs ss hs:=by
 unfold cu at h;simp only [Bool.and_eq_true,decide_eq_true_eq,beq_iff_eq] at h;obtain ⟨⟨h1,h2⟩,⟨h3,h4⟩,h5,h6,h7,h8,h9,Wc⟩:=h;obtain ⟨a,rfl⟩: ∃a:Nat,n=(a:Int):=⟨n.toNat,by omega⟩;obtain ⟨b,rfl⟩: ∃b:Nat,k=(b:Int):=⟨k.toNat,by omega⟩;have m1:a*a≤5*5:=Nat.mul_le_mul (by omega) (by omega);have m2:a*b≤5*4:=Nat.mul_le_mul (by omega) (by omega);rw [mo (by rw [←Int.natCast_mul];omega),←Int.natCast_mul] at h6;rw [mo (by rw [←Int.natCast_mul];omega),←Int.natCast_mul] at h7;simp only [ai] at h5 h6 h7;have l1:fs.length=a:=by omega
 have l2:ss.length=a*a:=by omega
 have l3:hs.length=a*b:=by omega
 simp only [Int.toNat_natCast] at h9 Wc;refine ⟨a,b,rfl,rfl,by omega,by omega,by omega,by omega,l1,l2,l3,fun i hi=>vO h8 (by omega),fun i j hi hj=> ?_,fun i j hi hj=> ?_⟩;rw [←dg l2 hi hj];exact vO (df.1 h9 i (by omega) (by omega)) (by rw [bo l2 hi];exact hj);rw [←dg l3 hi hj];exact vO (df.1 Wc i (by omega) (by omega)) (by rw [bo l3 hi];exact hj)
def mX (n k:Int)(fs ss hs:List Nat)(w:List Int):Bool:=cu n k fs ss hs&&(nf w 0 (lO .i64 k 1)&&decide (ai w≤12))
theorem J6 {n k:Int}{fs ss hs:List Nat}{w:List Int}(h:w.length≤4294967296):lT (n,k,fs,ss,hs) w=some (mX n k fs ss hs w):=by
 unfold lT mX;simp only [tD,Me h,Option.bind_some];cases cu n k fs ss hs<;>rfl
theorem B4 {n k:Int}{fs ss hs:List Nat}{w:List Int}(h:w.length≤4294967296):jB (n,k,fs,ss,hs) w=some (mX n k fs ss hs w):=by
 unfold jB mX;simp only [xc,Ff h,Option.bind_some];cases hm:cu n k fs ss hs with
 |false=>rfl
 |true=>
  obtain ⟨a,b,rfl,rfl,m⟩:=qg hm;have:=m.k1;have:=m.k2;rw [decide_eq_true (show (b:Int)≥1 by omega),decide_eq_true (show (b:Int)≤4 by omega)];cases nf w 0 (lO .i64 (b:Int) 1)<;>cases decide (ai w≤12)<;>rfl
theorem Mg {n k:Int}{fs ss hs:List Nat}{w:List Int}(h:mX n k fs ss hs w=true): ∃a b:Nat,n=(a:Int)∧k=(b:Int)∧Model a b fs ss hs∧w.length≤12∧bU b w:=by
 unfold mX at h;simp only [Bool.and_eq_true,decide_eq_true_eq,ai] at h;obtain ⟨h1,h2,h3⟩:=h;obtain ⟨a,b,rfl,rfl,m⟩:=qg h1;have:=m.k1;have:=m.k2;rw [xP (by omega)] at h2;refine ⟨a,b,rfl,rfl,m,by omega,fun i hi=> ?_⟩;have:=tB.1 h2 i hi;exact ⟨(w.getD i 0).toNat,by omega,by omega⟩
theorem oP {a b i j:Nat}(ha:a≤5)(hb:b≤5)(hi:i<a)(hj:j<b):al .i64 (aU .i64 (i:Int) (b:Int)) (j:Int)=((i*b+j:Nat):Int)∧i*b+j<a*b:=by
 refine ⟨UJ (by omega) (by omega) (by omega),?_⟩;have:(i+1)*b≤a*b:=Nat.mul_le_mul_right _ hi;rw [Nat.succ_mul] at this;omega
end Go.Proofs
namespace Go.Proofs
open Go.Ide Go.IntWalk
theorem IF (K:Nat):bd 0 K:=by unfold bd;omega
theorem OQ {xs:List Nat}(h:xs.length≤4294967296):nd xs=some (aW xs xs.length):=by
 have:=bt (f:=lY xs) (fun i s=>(s,((i:Nat):Int))) (fun i s=>av .add .f32 s (xs.getD i 0)) id (n:=xs.length) (fun i s=>s=aW xs i)
  (fun i s hi hs=>⟨by
   unfold lY;simp only [nW hi,cond_true,guard_pos (cZ hi),Int.toNat_natCast,cQ hi h],by rw [hs];rfl⟩)
  (fun s hs=>by
   unfold lY;simp only [nX (Nat.le_refl _),cond_false];rfl) xs.length 0 0 (by omega) rfl
 unfold nd;simp only [Int.natCast_zero] at this;rw [this.1];simp only [id,Option.bind_some,this.2]
def mq (a b:Nat)(ss hs row:List Nat)(c j:Nat):Nat→Nat
 |0=>0
 |p+1=>av .add .f32 (mq a b ss hs row c j p) (av .mul .f32 (av .mul .f32 (row.getD p 0) (hs.getD (p*b+c) 0)) (ss.getD (p*a+j) 0))
def ib (a b:Nat)(ss hs row:List Nat)(c:Nat):List Nat:=(List.range a).map fun j=>mq a b ss hs row c j a
theorem lr (a b:Nat)(ss hs row:List Nat)(c:Nat):(ib a b ss hs row c).length=a:=by simp [ib]
theorem qh {a b:Nat}{ss hs row:List Nat}{c j:Nat}(hj:j<a):(ib a b ss hs row c).getD j 0=mq a b ss hs row c j a:=by
 unfold ib;simp [List.getD_eq_getElem?_getD,hj]
theorem Mh {a b:Nat}{fs ss hs:List Nat}(m:Model a b fs ss hs){row:List Nat}{c:Nat}(hc:c<b)(hr:row.length=a):lW ((a:Int),(b:Int),fs,ss,hs) row (c:Int)=some (ib a b ss hs row c):=by
 have ld:=m.n2;have dU:=m.k2;have Dz:=m.ls;have Bu:=m.lh;have:=zR (f:=kF ((a:Int),(b:Int),fs,ss,hs) row (c:Int)) (fun j=>mq a b ss hs row c j a) a []
  (fun j out hj ho=>by
   have:=bt (f:=kE ((a:Int),(b:Int),fs,ss,hs) row (c:Int) ((j:Int),out)) (fun p s=>(s,((p:Nat):Int)))
    (fun p s=>av .add .f32 s (av .mul .f32 (av .mul .f32 (row.getD p 0) (hs.getD (p*b+c) 0)) (ss.getD (p*a+j) 0))) id (n:=a) (fun p s=>s=mq a b ss hs row c j p)
    (fun p s hp eI=>⟨by
     obtain ⟨e1,e2⟩:=oP (a:=a) (b:=b) (by omega) (by omega) hp hc;obtain ⟨e3,e4⟩:=oP (a:=a) (b:=a) (by omega) (by omega) hp hj;have j1:=cZ (i:=p) (n:=row.length) (by omega);have j3:=cZ (i:=p*b+c) (n:=hs.length) (by omega);have j4:=cZ (i:=p*a+j) (n:=ss.length) (by omega);unfold kE;simp only [nW hp,cond_true,Int.toNat_natCast,cQ hp (show a≤4294967296 by omega),e1,e3];rw [guard_pos j1,guard_pos j3,guard_pos j4],by rw [eI];rfl⟩)
    (fun s _=>by
     unfold kE;simp only [nX (Nat.le_refl _),cond_false];rfl) a 0 0 (by omega) rfl
   simp only [Int.natCast_zero] at this;unfold kF;simp only [nW hj,cond_true,this.1,id,Option.bind_some,cQ hj (show a≤4294967296 by omega)];rw [guard_pos (by simp only [List.length_nil] at ho;simp only [ho,List.length_singleton,bO];omega),this.2])
  (fun out=>by
   unfold kF;simp only [nX (Nat.le_refl _),cond_false])
 unfold lW;rw [this];rfl
theorem Fh {f:Int×List Nat→Option ((Int×List Nat)⊕List Nat)}(xs:List Nat)(lP: ∀(i:Nat) (out:List Nat),i<xs.length→out.length=xs.length→out.getD i 0=0→f ((i:Int),out)=some (.inl (((i+1:Nat):Int),out.set i (xs.getD i 0))))(mG: ∀out:List Nat,out.length=xs.length→f (((xs.length:Nat):Int),out)=some (.inr out)):rounds f ((0:Int),List.replicate xs.length 0)=some xs:=by
 have:=bt (f:=f) (fun i out=>(((i:Nat):Int),out)) (fun i out=>out.set i (xs.getD i 0)) id (n:=xs.length) (fun i out=>out=xs.take i++List.replicate (xs.length - i) 0)
  (fun i out hi h=>⟨lP i out hi (by rw [h];simp;omega) (by
   rw [h,List.getD_eq_getElem?_getD,List.getElem?_append_right (by simp;omega)];simp only [List.length_take,List.getElem?_replicate];split<;>rfl),by
   rw [h,wO hi 0,show xs.length - i=(xs.length - (i+1))+1 from by omega,List.replicate_succ,wM (by simp;omega)];simp⟩)
  (fun out h=>mG out (by rw [h];simp)) xs.length 0 (List.replicate xs.length 0) (by omega) (by simp)
 simp only [Int.natCast_zero] at this;rw [this.1,this.2];simp
theorem Ap {a b:Nat}{fs ss hs:List Nat}(m:Model a b fs ss hs){row:List Nat}{c:Nat}(hc:c<b)(hr:row.length=a):ej ((a:Int),(b:Int),fs,ss,hs) row (c:Int)=some (ib a b ss hs row c):=by
 have ld:=m.n2;have dU:=m.k2;have Dz:=m.ls;have Bu:=m.lh;have wi:=lr a b ss hs row c;have:=Fh (f:=ga ((a:Int),(b:Int),fs,ss,hs) row (c:Int)) (ib a b ss hs row c)
  (fun j out hj ho h0=>by
   rw [wi] at hj ho;have:=bt (f:=fZ ((a:Int),(b:Int),fs,ss,hs) row (c:Int) ((j:Int),out)) (fun p s=>(((p:Nat):Int),s))
    (fun p s=>s.set j (av .add .f32 (s.getD j 0) (av .mul .f32 (av .mul .f32 (row.getD p 0) (hs.getD (p*b+c) 0)) (ss.getD (p*a+j) 0)))) id (n:=a) (fun p s=>s=out.set j (mq a b ss hs row c j p))
    (fun p s hp eI=>⟨by
     obtain ⟨e1,e2⟩:=oP (a:=a) (b:=b) (by omega) (by omega) hp hc;obtain ⟨e3,e4⟩:=oP (a:=a) (b:=a) (by omega) (by omega) hp hj;have F8:s.length=a:=by rw [eI];simp [ho]
     have j0:=cZ (i:=j) (n:=s.length) (by omega);have j1:=cZ (i:=p) (n:=row.length) (by omega);have j3:=cZ (i:=p*b+c) (n:=hs.length) (by omega);have j4:=cZ (i:=p*a+j) (n:=ss.length) (by omega);unfold fZ cC dS;simp only [nW hp,cond_true,Int.toNat_natCast,cQ hp (show a≤4294967296 by omega),e1,e3];rw [guard_pos j0,guard_pos j1,guard_pos j3,Option.bind_some,guard_pos j4,Option.bind_some],by
     rw [eI];have:(out.set j (mq a b ss hs row c j p)).getD j 0=mq a b ss hs row c j p:=by
      simp [List.getD_eq_getElem?_getD,ho,hj]
     rw [this,List.set_set];rfl⟩)
    (fun s _=>by
     unfold fZ;simp only [nX (Nat.le_refl _),cond_false];rfl) a 0 out (by omega) (by
     show out=out.set j 0;apply List.ext_getElem (by simp);intro i h1 h2;rw [List.getElem_set];split;rename_i e;subst e;simpa [List.getD_eq_getElem?_getD,List.getElem?_eq_getElem h1] using h0;rfl)
   simp only [Int.natCast_zero] at this;unfold ga;simp only [nW hj,cond_true,this.1,id,Option.bind_some,cQ hj (show a≤4294967296 by omega)];rw [this.2,qh hj])
  (fun out _=>by
   unfold ga;rw [wi];simp only [nX (Nat.le_refl _),cond_false])
 unfold ej;rw [guard_pos ⟨by omega,by simp only;omega⟩];simp only [Int.toNat_natCast];rw [wi] at this;rw [this];rfl
def rowAt (a b:Nat)(fs ss hs:List Nat)(w:List Int):Nat→List Nat
 |0=>fs
 |i+1=>ib a b ss hs (rowAt a b fs ss hs w i) (w.getD i 0).toNat
theorem xd {a b:Nat}{fs ss hs:List Nat}(m:Model a b fs ss hs)(w:List Int): ∀i,(rowAt a b fs ss hs w i).length=a
 |0=>m.lf
 |i+1=>lr ..
def rJ (a b:Nat)(fs ss hs:List Nat)(w:List Int):List (List Nat):=(List.range (w.length+1)).map (rowAt a b fs ss hs w)
theorem OS (h:Nat→List Nat)(i:Nat):((List.range (i+1)).map h).getD i []=h i:=by
 simp [List.getD_eq_getElem?_getD]
theorem Fi {a b:Nat}{fs ss hs:List Nat}(m:Model a b fs ss hs){w:List Int}(hw:bU b w)(hl:w.length≤12):fT ((a:Int),(b:Int),fs,ss,hs) w=some (rJ a b fs ss hs w):=by
 have:=bt (f:=gb ((a:Int),(b:Int),fs,ss,hs) w) (fun i out=>(((i:Nat):Int),out)) (fun i out=>out++[rowAt a b fs ss hs w (i+1)]) id (n:=w.length) (fun i out=>out=(List.range (i+1)).map (rowAt a b fs ss hs w))
  (fun i out hi ho=>⟨by
   obtain ⟨c,hc,eV⟩:=hw i hi;have e:out.getD i []=rowAt a b fs ss hs w i:=by rw [ho];exact OS _ _
   have mi:out.length=i+1:=by rw [ho];simp
   have j1:=cZ (i:=i) (n:=out.length) (by omega);unfold gb;simp only [nW hi,cond_true,Int.toNat_natCast,cQ hi (show w.length≤4294967296 by omega),e,hc,Ap m eV (xd m w i),Option.bind_some];rw [guard_pos (cZ hi),guard_pos j1,guard_pos (by simp only [mi,List.length_singleton,bO];omega),rowAt,hc,Int.toNat_natCast],by
   rw [ho,List.range_succ (n:=i+1),List.map_append];rfl⟩)
  (fun out _=>by
   unfold gb;simp only [nX (Nat.le_refl _),cond_false];rfl) w.length 0 [fs] (by omega) rfl
 simp only [Int.natCast_zero] at this;unfold fT;have rN:cc fs=some fs:=by
  have:=m.lf;have:=m.n2;unfold cc;rw [guard_pos (by simp only [bO];omega)]
 rw [rN];simp only [Option.bind_some];rw [this.1];simp only [id,Option.bind_some,this.2,rJ]
end Go.Proofs
namespace Go.Proofs
open Go.Ide Go.IntWalk
section
variable {a b:Nat} {fs ss hs:List Nat}
end
end Go.Proofs
namespace Go.Proofs
open Go.Ide Go.IntWalk
section
variable {a b:Nat} {fs ss hs:List Nat}
end
end Go.Proofs
namespace Go.Proofs
open Go.Ide Go.IntWalk
theorem xU {τ ρ:Type}{f:τ→Option (τ⊕ρ)}(mk:Nat→τ)(p:Nat→Bool)(a:ρ)(b:Nat→ρ){n:Nat}(lP: ∀i,i<n→f (mk i)=some (bif p i then .inl (mk (i+1)) else .inr (b i)))(mG:f (mk n)=some (.inr a)): ∀(k i:Nat),i+k=n→ ∃j,rounds f (mk i)=some (bif gY p k i then a else b j)
 |0,i,hi=>by
  have:i=n:=by omega
  subst this;rw [bA,mG];exact ⟨0,rfl⟩
 |k+1,i,hi=>by
  rw [bA,lP i (by omega)];simp only [gY];cases p i with
  |true=>simp only [cond_true,Bool.true_and];exact xU mk p a b lP mG k (i+1) (by omega)
  |false=>exact ⟨i,rfl⟩
def fin (x:Nat):Bool:=pz .f32 (av .sub .f32 x x) 0
def Fj (xs:List Nat):Bool:=gY (fun i=>fin (xs.getD i 0)) xs.length 0
theorem DA {x K:Nat}(h:bd x K)(h2:2≤K)(h3:K≤254):fin x=true:=by
 unfold fin;rw [zT h h2 h3];rfl
theorem Mi {xs:List Nat}(h:xs.length≤4294967296):jD xs=some (Fj xs):=by
 obtain ⟨j,this⟩:=xU (f:=a8 xs) (fun i=>((i:Nat):Int)) (fun i=>fin (xs.getD i 0)) (Sum.inl ()) (fun i=>Sum.inr ((i:Nat):Int)) (n:=xs.length) (fun i hi=>by
  unfold a8 jR cP;simp only [nW hi,cond_true,guard_pos (cZ hi),Int.toNat_natCast,Option.bind_some,cQ hi h];show _=some (bif pz .f32 (av .sub .f32 (xs.getD i 0) (xs.getD i 0)) 0 then _ else _);cases pz .f32 (av .sub .f32 (xs.getD i 0) (xs.getD i 0)) 0<;>rfl) (by
  unfold a8;simp only [nX (Nat.le_refl _),cond_false]) xs.length 0 (by omega)
 simp only [Int.natCast_zero] at this;unfold jD bf bm Fj;rw [this];cases gY (fun i=>fin (xs.getD i 0)) xs.length 0 with
 |true=>rfl
 |false=>
  simp only [cond_false,Option.bind_some,ge_iff_le];rw [decide_eq_true (Int.natCast_nonneg j)];rfl
theorem J7 {xs:List Nat}(h:xs.length≤4294967296):fj xs=some (bif Fj xs then (xs,true) else ([],false)):=by
 unfold fj;rw [Mi h];cases Fj xs<;>rfl
def YO (xs:List (List Nat)):Nat→List Nat
 |0=>[]
 |i+1=>YO xs i++xs.getD i []
theorem J8 {a b:Nat}{fs ss hs:List Nat}{w:List Int}:(rJ a b fs ss hs w).length=w.length+1:=by simp [rJ]
theorem B5 {a b:Nat}{fs ss hs:List Nat}{w:List Int}{i:Nat}(h:i<w.length+1):(rJ a b fs ss hs w).getD i []=rowAt a b fs ss hs w i:=by
 unfold rJ;simp [List.getD_eq_getElem?_getD,h]
def fY (b:Nat)(hs row:List Nat)(c:Nat):Nat→Nat
 |0=>0
 |p+1=>av .add .f32 (fY b hs row c p) (av .mul .f32 (row.getD p 0) (hs.getD (p*b+c) 0))
end Go.Proofs
namespace Go.Proofs
open Go.Ide Go.IntWalk
def Fk (a b:Nat)(ss hs row:List Nat)(c i:Nat):Nat→Nat
 |0=>0
 |p+1=>av .add .f32 (Fk a b ss hs row c i p) (av .mul .f32 (av .mul .f32 (hs.getD (i*b+c) 0) (ss.getD (i*a+p) 0)) (row.getD p 0))
def rK (a b:Nat)(ss hs row:List Nat)(c:Nat):List Nat:=(List.range a).map fun i=>Fk a b ss hs row c i a
theorem B6 (a b:Nat)(ss hs row:List Nat)(c:Nat):(rK a b ss hs row c).length=a:=by simp [rK]
theorem xe {a b:Nat}{ss hs row:List Nat}{c i:Nat}(hi:i<a):(rK a b ss hs row c).getD i 0=Fk a b ss hs row c i a:=by
 unfold rK;simp [List.getD_eq_getElem?_getD,hi]
def ic (a b:Nat)(ss hs:List Nat)(w:List Int):Nat→List Nat
 |0=>List.replicate a 1065353216
 |k+1=>rK a b ss hs (ic a b ss hs w k) (w.getD (w.length - (k+1)) 0).toNat
theorem vP {a b:Nat}{ss hs:List Nat}(w:List Int): ∀k,(ic a b ss hs w k).length=a
 |0=>by simp [ic]
 |k+1=>B6 ..
def oQ (a b:Nat)(ss hs:List Nat)(w:List Int):List (List Nat):=(List.range (w.length+1)).map fun i=>ic a b ss hs w (w.length - i)
theorem B7 {a b:Nat}{ss hs:List Nat}{w:List Int}:(oQ a b ss hs w).length=w.length+1:=by simp [oQ]
theorem tE {a b:Nat}{ss hs:List Nat}{w:List Int}{i:Nat}(h:i<w.length+1):(oQ a b ss hs w).getD i []=ic a b ss hs w (w.length - i):=by
 unfold oQ;simp [List.getD_eq_getElem?_getD,h]
theorem getD_set_ne {α:Type}{xs:List α}{i j:Nat}{x d:α}(h:i≠j):(xs.set i x).getD j d=xs.getD j d:=by
 simp [List.getD_eq_getElem?_getD,List.getElem?_set_ne h]
theorem nh {α:Type}{xs:List α}{i:Nat}{x d:α}(h:i<xs.length):(xs.set i x).getD i d=x:=by
 simp [List.getD_eq_getElem?_getD,h]
structure uQ (a b:Nat)(ss hs:List Nat)(w:List Int)(k:Nat)(out:List (List Nat)):Prop where
 len:out.length=w.length+1
 done: ∀j,w.length - k≤j→j≤w.length→out.getD j []=ic a b ss hs w (w.length - j)
 todo: ∀j,j<w.length - k→out.getD j []=[]
theorem uQ.all {a b:Nat}{ss hs:List Nat}{w:List Int}{out:List (List Nat)}(h:uQ a b ss hs w w.length out):out=oQ a b ss hs w:=by
 refine List.ext_getElem (by rw [h.len,B7]) fun i h1 h2=> ?_;have e1:out[i]=out.getD i []:=by simp [List.getD_eq_getElem?_getD,h1]
 have e2:(oQ a b ss hs w)[i]=(oQ a b ss hs w).getD i []:=by simp [List.getD_eq_getElem?_getD,h2]
 have hi:=h.len;rw [e1,e2,h.done i (by omega) (by omega),tE (by omega)]
theorem uQ.step {a b:Nat}{ss hs:List Nat}{w:List Int}{k:Nat}{out:List (List Nat)}(h:uQ a b ss hs w k out)(hk:k<w.length):uQ a b ss hs w (k+1) (out.set (w.length - (k+1)) (ic a b ss hs w (k+1))):=by
 have hl:=h.len;refine ⟨by simp [hl],fun j h1 h2=> ?_,fun j hj=> ?_⟩
 ·by_cases e:w.length - (k+1)=j;subst e;rw [nh (by omega),show w.length - (w.length - (k+1))=k+1 by omega]
  ·rw [getD_set_ne e];exact h.done j (by omega) h2
 rw [getD_set_ne (by omega)];exact h.todo j (by omega)
theorem U2 {n k:Nat}(hk:k<n)(hn:n≤4294967296):lO .i64 ((n - (k+1):Nat):Int) 1=(n:Int) - 1 - ((k+1:Nat):Int):=by
 rw [xP (by omega)];omega
theorem Hi: ∀a:Nat,a≤5→aP [1065353216] (a:Int)=some (List.replicate a 1065353216)
 |0,_=>by
  have e:aP [1065353216] ((0:Nat):Int)=(rounds aB ((0:Int),([]:List Nat))).bind fun r=>some r:=by kernel_rfl
  rw [e,gJ.2 ⟨2,show Go.Ide.runN aB 2 ((0:Int),([]:List Nat))=some [] by kernel_rfl⟩];rfl
 |1,_=>by
  have e:aP [1065353216] ((1:Nat):Int)=(rounds aB ((1:Int),[1065353216])).bind fun r=>some r:=by kernel_rfl
  rw [e,gJ.2 ⟨2,show Go.Ide.runN aB 2 ((1:Int),[1065353216])=some [1065353216] by kernel_rfl⟩];rfl
 |2,_=>by
  have e:aP [1065353216] ((2:Nat):Int)=(rounds aB ((1:Int),[1065353216,0])).bind fun r=>some r:=by kernel_rfl
  rw [e,gJ.2 ⟨3,show Go.Ide.runN aB 3 ((1:Int),[1065353216,0])=some [1065353216,1065353216] by kernel_rfl⟩];rfl
 |3,_=>by
  have e:aP [1065353216] ((3:Nat):Int)=(rounds aB ((1:Int),[1065353216,0,0])).bind fun r=>some r:=by kernel_rfl
  rw [e,gJ.2 ⟨4,show Go.Ide.runN aB 4 ((1:Int),[1065353216,0,0])=some [1065353216,1065353216,1065353216] by kernel_rfl⟩];rfl
 |4,_=>by
  have e:aP [1065353216] ((4:Nat):Int)=(rounds aB ((1:Int),[1065353216,0,0,0])).bind fun r=>some r:=by kernel_rfl
  rw [e,gJ.2 ⟨4,show Go.Ide.runN aB 4 ((1:Int),[1065353216,0,0,0])=some [1065353216,1065353216,1065353216,1065353216] by kernel_rfl⟩];rfl
 |5,_=>by
  have e:aP [1065353216] ((5:Nat):Int)=(rounds aB ((1:Int),[1065353216,0,0,0,0])).bind fun r=>some r:=by kernel_rfl
  rw [e,gJ.2 ⟨5,show Go.Ide.runN aB 5 ((1:Int),[1065353216,0,0,0,0])=some [1065353216,1065353216,1065353216,1065353216,1065353216] by kernel_rfl⟩];rfl
 |_+6,h=>by omega
theorem Mj {a b:Nat}{fs ss hs:List Nat}(m:Model a b fs ss hs){w:List Int}(hw:bU b w)(hl:w.length≤12):fi ((a:Int),(b:Int),fs,ss,hs) w=some (oQ a b ss hs w):=by
 have ld:=m.n2;have dU:=m.k2;have Dz:=m.ls;have Bu:=m.lh;have h3:=bt (f:=fu ((a:Int),(b:Int),fs,ss,hs) w) (fun k out=>((w.length:Int) - 1 - ((k:Nat):Int),out)) (fun k out=>out.set (w.length - (k+1)) (ic a b ss hs w (k+1))) id (n:=w.length) (uQ a b ss hs w)
  (fun k out hk ho=>⟨by
   have hat:((w.length:Int) - 1 - ((k:Nat):Int))=((w.length - (k+1):Nat):Int):=by omega
   rw [hat];obtain ⟨c,hc,eV⟩:=hw (w.length - (k+1)) (by omega);have mi:=ho.len;have hnx:out.getD (w.length - k) []=ic a b ss hs w k:=by
    rw [ho.done _ (Nat.le_refl _) (by omega),show w.length - (w.length - k)=k by omega]
   have hrl:=vP (a:=a) (b:=b) (ss:=ss) (hs:=hs) w k;have wi:=B6 a b ss hs (ic a b ss hs w k) c;have h2:=Fh (f:=fq ((a:Int),(b:Int),fs,ss,hs) w (((w.length - (k+1):Nat):Int),out)) (rK a b ss hs (ic a b ss hs w k) c)
    (fun i o hi CD h0=>by
     rw [wi] at hi CD;have h1:=bt (f:=fp ((a:Int),(b:Int),fs,ss,hs) w (((w.length - (k+1):Nat):Int),out) (((i:Nat):Int),o)) (fun p s=>(((p:Nat):Int),s))
      (fun p s=>s.set i (av .add .f32 (s.getD i 0) (av .mul .f32 (av .mul .f32 (hs.getD (i*b+c) 0) (ss.getD (i*a+p) 0)) ((ic a b ss hs w k).getD p 0)))) id (n:=a) (fun p s=>s=o.set i (Fk a b ss hs (ic a b ss hs w k) c i p))
      (fun p s hp eI=>⟨by
       obtain ⟨e1,e2⟩:=oP (a:=a) (b:=b) (by omega) (by omega) hi eV;obtain ⟨e3,e4⟩:=oP (a:=a) (b:=a) (by omega) (by omega) hi hp;have e5:al .i64 (((w.length - (k+1):Nat):Int)) 1=((w.length - k:Nat):Int):=by rw [ju (by omega)];omega
       have F8:s.length=a:=by rw [eI];simp [CD]
       have j0:=cZ (i:=i) (n:=s.length) (by omega);have j5:=cZ (i:=w.length - (k+1)) (n:=w.length) (by omega);have j1:=cZ (i:=i*b+c) (n:=hs.length) (by omega);have j2:=cZ (i:=i*a+p) (n:=ss.length) (by omega);have j3:=cZ (i:=w.length - k) (n:=out.length) (by omega);have j4:=cZ (i:=p) (n:=(ic a b ss hs w k).length) (by omega);unfold fp cC dS;simp only [ai,nW hp,cond_true,Int.toNat_natCast,cQ hp (show a≤4294967296 by omega),hc,e1,e3,e5,hnx];rw [guard_pos j0,guard_pos j5,guard_pos j1,Option.bind_some,guard_pos j2,Option.bind_some,guard_pos j3,guard_pos j4],by
       rw [eI];rw [nh (by omega),List.set_set];rfl⟩)
      (fun s _=>by
       unfold fp;simp only [nX (Nat.le_refl _),cond_false];rfl) a 0 o (by omega) (by
       show o=o.set i 0;apply List.ext_getElem (by simp);intro j h1 h2;rw [List.getElem_set];split;rename_i e;subst e;simpa [List.getD_eq_getElem?_getD,List.getElem?_eq_getElem h1] using h0;rfl)
     simp only [Int.natCast_zero] at h1;unfold fq;simp only [nW hi,cond_true,h1.1,id,Option.bind_some,cQ hi (show a≤4294967296 by omega)];rw [h1.2,xe hi])
    (fun o _=>by
     unfold fq;rw [wi];simp only [nX (Nat.le_refl _),cond_false])
   rw [wi] at h2;have j6:=cZ (i:=w.length - (k+1)) (n:=out.length) (by omega);unfold fu;rw [show decide (((w.length - (k+1):Nat):Int)≥0)=true from decide_eq_true (Int.natCast_nonneg _)];simp only [cond_true,Int.toNat_natCast,ai];rw [guard_pos ⟨by omega,by omega⟩,h2];simp only [Option.bind_some];rw [guard_pos j6,U2 hk (show w.length≤4294967296 by omega),ic,hc,Int.toNat_natCast],ho.step hk⟩)
  (fun out _=>by
   unfold fu;rw [show decide ((w.length:Int) - 1 - ((w.length:Nat):Int)≥0)=false from decide_eq_false (by omega)];rfl) w.length 0 ((List.replicate (w.length+1) ([]:List Nat)).set w.length (List.replicate a 1065353216)) (by omega) ⟨by simp,fun j q1 q2=>by
    have:j=w.length:=by omega
    subst this;rw [nh (by simp),Nat.sub_self,ic],fun j hj=>by
    rw [getD_set_ne (by omega),List.getD_eq_getElem?_getD,List.getElem?_replicate];split<;>rfl⟩
 simp only [Int.natCast_zero,Int.sub_zero] at h3;unfold fi;simp only [ai,List.length_replicate];have e1:al .i64 (w.length:Int) 1=((w.length+1:Nat):Int):=by rw [ju (by omega)];omega
 have e2:lO .i64 (w.length:Int) 1=(w.length:Int) - 1:=by rw [xP (by omega)]
 rw [e1,e2,guard_pos ⟨by omega,by omega⟩,Hi a ld];simp only [Option.bind_some,Int.toNat_natCast];rw [guard_pos ⟨by omega,by omega⟩,h3.1];simp only [id,Option.bind_some];rw [uQ.all h3.2]
end Go.Proofs
namespace Go.Proofs
open Go.Ide Go.IntWalk
def dp (xs:List Nat)(all:Nat):List Nat:=(List.range xs.length).map fun i=>av .quo .f32 (xs.getD i 0) all
theorem qi (xs:List Nat)(all:Nat):(dp xs all).length=xs.length:=by simp [dp]
def OT (xs:List Nat):List Nat×Bool:=
 bif qI .f32 (aW xs xs.length) 0 then (bif Fj (dp xs (aW xs xs.length)) then (dp xs (aW xs xs.length),true) else ([],false)) else ([],false)
theorem Aq {xs:List Nat}(h:xs.length≤1000000):gr xs=some (OT xs):=by
 let all:=aW xs xs.length;have h1:=bt (f:=fU xs all) (fun i out=>(((i:Nat):Int),out)) (fun i out=>out.set i (av .quo .f32 (out.getD i 0) all)) id (n:=xs.length)
  (fun i out=>out=(List.range i).map (fun i=>av .quo .f32 (xs.getD i 0) all)++xs.drop i)
  (fun i out hi ho=>by
   have CD:out.length=xs.length:=by rw [ho];simp;omega
   have hg:out.getD i 0=xs.getD i 0:=by
    rw [ho,List.getD_eq_getElem?_getD,List.getElem?_append_right (by simp)];simp [List.getD_eq_getElem?_getD]
   refine ⟨?_,?_⟩;have j1:=cZ (i:=i) (n:=out.length) (by omega);unfold fU;simp only [ai,nW hi,cond_true,Int.toNat_natCast,cQ hi (show xs.length≤4294967296 by omega)];rw [guard_pos j1];rw [hg,ho,drop_cons hi 0,wM (by simp),List.range_succ,List.map_append];simp)
  (fun out _=>by
   unfold fU;simp only [ai,nX (Nat.le_refl _),cond_false];rfl) xs.length 0 xs (by omega) (by simp)
 simp only [Int.natCast_zero] at h1;unfold gr OT;rw [vN (by omega)];simp only [Option.bind_some];cases qI .f32 (aW xs xs.length) 0 with
 |false=>rfl
 |true=>
  simp only [Bool.not_true,cond_false,cond_true];have h2:=h1.2;rw [List.drop_length,List.append_nil] at h2;rw [show rounds (fU xs (aW xs xs.length)) (0,xs)=some (dp xs (aW xs xs.length)) from by rw [h1.1];simp only [id];rw [h2];rfl];have hl:=qi xs (aW xs xs.length);simp only [Option.bind_some];rw [J7 (by omega)];cases Fj (dp xs (aW xs xs.length))<;>rfl
theorem IG {w:List Int}{a b:Nat}{fs ss hs:List Nat}{k:Nat}(h:k≤w.length):(0:Int)≤(k:Int)∧(k:Int)<ai (rJ a b fs ss hs w):=by
 simp only [ai,J8];omega
theorem DB {w:List Int}{a b:Nat}{ss hs:List Nat}{k:Nat}(h:k≤w.length):(0:Int)≤(k:Int)∧(k:Int)<ai (oQ a b ss hs w):=by
 simp only [ai,B7];omega
def Ar (a:Nat)(f g:List Nat):List Nat:=(List.range a).map fun i=>av .mul .f32 (f.getD i 0) (g.getD i 0)
theorem IH {a b:Nat}{fs ss hs:List Nat}(hn:a≤5){f g:List Nat}(hf:f.length=a)(hg:g.length=a):cI ((a:Int),(b:Int),fs,ss,hs) f g=some (OT (Ar a f g)):=by
 have h1:=zR (f:=fv f g) (fun i=>av .mul .f32 (f.getD i 0) (g.getD i 0)) f.length [] (fun i out hi ho=>by
  have j:=cZ (i:=i) (n:=g.length) (by omega);unfold fv;simp only [ai,nW hi,cond_true,Int.toNat_natCast,cQ hi (show f.length≤4294967296 by omega)];rw [guard_pos (cZ hi),guard_pos j,guard_pos (by simp only [ho,List.length_nil,List.length_singleton,bO];omega)]) (fun out=>by
  unfold fv;simp only [ai,nX (Nat.le_refl _),cond_false])
 rw [List.nil_append] at h1;unfold cI;rw [h1,hf];simp only [Option.bind_some];rw [show (List.range a).map (fun i=>av .mul .f32 (f.getD i 0) (g.getD i 0))=Ar a f g from rfl,Aq (by simp [Ar];omega)];rfl
def Fl (a b:Nat)(ss hs f g:List Nat)(c i k:Nat):Nat:=av .mul .f32 (av .mul .f32 (av .mul .f32 (f.getD i 0) (hs.getD (i*b+c) 0)) (ss.getD (i*a+k) 0)) (g.getD k 0)
def qj (a b:Nat)(ss hs f g:List Nat)(c:Nat):Nat→List Nat
 |0=>[]
 |i+1=>qj a b ss hs f g c i++(List.range a).map (Fl a b ss hs f g c i)
theorem qk (a b:Nat)(ss hs f g:List Nat)(c:Nat): ∀i,(qj a b ss hs f g c i).length=i*a
 |0=>by simp [qj]
 |i+1=>by simp [qj,qk a b ss hs f g c i,Nat.succ_mul]
theorem Mk {a b:Nat}{fs ss hs:List Nat}(m:Model a b fs ss hs){f g:List Nat}{c:Nat}(hf:f.length=a)(hg:g.length=a)(hc:c<b):eQ ((a:Int),(b:Int),fs,ss,hs) f g (c:Int)=some (OT (qj a b ss hs f g c a)):=by
 have ld:=m.n2;have dU:=m.k2;have Dz:=m.ls;have Bu:=m.lh;have h2:=bt (f:=gB ((a:Int),(b:Int),fs,ss,hs) f g (c:Int)) (fun i out=>(((i:Nat):Int),out)) (fun i out=>out++(List.range a).map (Fl a b ss hs f g c i)) id (n:=a) (fun i out=>out=qj a b ss hs f g c i)
  (fun i out hi ho=>by
   have CD:out.length=i*a:=by rw [ho,qk]
   have Qt:i*a≤25:=Nat.le_trans (Nat.mul_le_mul (show i≤5 by omega) ld) (by omega);obtain ⟨e1,e2⟩:=oP (a:=a) (b:=b) (by omega) (by omega) hi hc;have h1:=zR (f:=gA ((a:Int),(b:Int),fs,ss,hs) f g (c:Int) ((i:Int),out)) (Fl a b ss hs f g c i) a out (fun k o hk Wd=>by
    obtain ⟨e3,e4⟩:=oP (a:=a) (b:=a) (by omega) (by omega) hi hk;have j0:=cZ (i:=i) (n:=f.length) (by omega);have j1:=cZ (i:=i*b+c) (n:=hs.length) (by omega);have j2:=cZ (i:=i*a+k) (n:=ss.length) (by omega);have j3:=cZ (i:=k) (n:=g.length) (by omega);unfold gA cC dS;simp only [ai,nW hk,cond_true,Int.toNat_natCast,cQ hk (show a≤4294967296 by omega),e1,e3];rw [guard_pos j0,guard_pos j1,Option.bind_some,guard_pos j2,Option.bind_some,guard_pos j3,guard_pos (by simp only [Wd,List.length_singleton,bO];omega)];rfl) (fun o=>by
    unfold gA;simp only [nX (Nat.le_refl _),cond_false])
   refine ⟨?_,by rw [ho];rfl⟩;unfold gB;simp only [nW hi,cond_true,h1,Option.bind_some,cQ hi (show a≤4294967296 by omega)])
  (fun out _=>by
   unfold gB;simp only [nX (Nat.le_refl _),cond_false];rfl) a 0 [] (by omega) rfl
 simp only [Int.natCast_zero] at h2;have Py:=qk a b ss hs f g c a;have haa:a*a≤25:=Nat.mul_le_mul ld ld;unfold eQ;rw [h2.1];simp only [id,Option.bind_some];rw [h2.2,Aq (by omega)];rfl
end Go.Proofs
namespace Go.Proofs
open Go.Ide Go.IntWalk
abbrev Fm:=List Int×Int×Int
def rb (c:List Int):Prop:=c.length≤1048576∧ ∀i,i<c.length→0≤c.getD i 0∧c.getD i 0≤255
theorem B8 {x:List Int}(w:WfD (.sl (.int .u8)) x)(h:x.length≤1048576):rb x:=by
 refine ⟨h,fun i hi=> ?_⟩;have:=w.2 i hi;have h2:(Lit.int .u8 (x[i]:Int)).wf=true:=this;rw [List.getD_eq_getElem?_getD,List.getElem?_eq_getElem hi];simp only [Lit.wf,Bool.and_eq_true,decide_eq_true_eq] at h2;have e1:IntKind.u8.min=0:=by decide
 have e2:IntKind.u8.max=255:=by decide
 rw [e1,e2] at h2;simp only [Option.getD_some];omega
structure ni (n:Nat)(s:Fm):Prop where
 code:rb s.1
 at0:0≤s.2.1
 at1:s.2.1+(n:Int)≤1000000000000000000
theorem ni.mono {n m:Nat}{s:Fm}(h:ni n s)(hm:m≤n):ni m s:=⟨h.code,h.at0,by have:=h.at1;omega⟩
theorem ni.from {c:List Int}(h:rb c):n7 c=some (c,(0:Int),(0:Int))∧ni 1000000000000000000 (c,(0:Int),(0:Int)):=⟨rfl,h,Int.le_refl _,by simp⟩
theorem Ml (x:Int)(h:0≤x∧x≤255):IntKind.wrap .i64 x=x:=i64_in _ (by omega)
theorem Sj (z:Int): ∃y:Int,IntKind.wrap .i64 (IntKind.wrap .u64 (((BitVec.ofInt (IntKind.bits .u64) z&&& BitVec.ofInt (IntKind.bits .u64) (255:Int)).toNat:Nat):Int))=y∧0≤y∧y≤255:=by
 have h1:(BitVec.ofInt (IntKind.bits .u64) z&&& BitVec.ofInt (IntKind.bits .u64) (255:Int)).toNat≤255:=by
  rw [BitVec.toNat_and];refine Nat.le_trans Nat.and_le_right ?_;decide
 generalize (BitVec.ofInt (IntKind.bits .u64) z&&& BitVec.ofInt (IntKind.bits .u64) (255:Int)).toNat=q at h1;have h2:IntKind.wrap .u64 ((q:Nat):Int)=(q:Int):=by
  unfold IntKind.wrap;simp only [IntKind.bits,IntKind.signed,Bool.false_and,Bool.false_eq_true,if_false];omega
 rw [h2,i64_in _ (by omega)];exact ⟨_,rfl,by omega,by omega⟩
theorem II {n:Nat}{s:Fm}(h:ni (n+1) s): ∃x s',fD s=some (x,s')∧0≤x∧x≤255∧ni n s':=by
 obtain ⟨c,a,z⟩:=s;obtain ⟨hc,h0,h1⟩:=h;have h0:0≤a:=h0;have h1:a+((n+1:Nat):Int)≤1000000000000000000:=h1;have e1:al .i64 a 1=a+1:=ju (by omega);unfold fD;simp only [e1];have hs: ∀z',ni n (c,a+1,z'):=fun z'=>⟨hc,by show 0≤a+1;omega,by show a+1+(n:Int)≤_;omega⟩;have key: ∀v:Int,0≤v∧v≤255→ ∃x s',(bif decide (a+1≤ai c) then some (v,c,a+1,al .u64 (al .u64 (aU .u64 z 6364136223846793005) (IntKind.wrap .u64 v)) 1442695040888963407)
  else (some (IntKind.wrap .i64 (IntKind.wrap .u64 (((BitVec.ofInt (IntKind.bits .u64) (Int.fdiv (al .u64 (al .u64 (aU .u64 z 6364136223846793005) (IntKind.wrap .u64 v)) 1442695040888963407) (2^(min (Int.toNat (40:Int)) (IntKind.bits .u64))))&&& BitVec.ofInt (IntKind.bits .u64) (255:Int)).toNat:Nat):Int)))).bind fun q5=>
   some (q5,c,a+1,al .u64 (al .u64 (aU .u64 z 6364136223846793005) (IntKind.wrap .u64 v)) 1442695040888963407))=some (x,s')∧0≤x∧x≤255∧ni n s':=by
  intro v hv;cases decide (a+1≤ai c) with
  |true=>exact ⟨_,_,rfl,hv.1,hv.2,hs _⟩
  |false=>
   obtain ⟨y,e,y1,y2⟩:=Sj (Int.fdiv (al .u64 (al .u64 (aU .u64 z 6364136223846793005) (IntKind.wrap .u64 v)) 1442695040888963407) (2^(min (Int.toNat (40:Int)) (IntKind.bits .u64))));rw [e];exact ⟨_,_,rfl,y1,y2,hs _⟩
 by_cases cq:a<ai c;have hi:a.toNat<c.length:=by simp only [ai] at cq;omega
 have hb:=hc.2 a.toNat hi;simp only [cq,decide_true,cond_true];rw [guard_pos ⟨h0,trivial⟩,Ml _ hb];exact key _ hb;simp only [cq,decide_false,cond_false];exact key 0 (by omega)
theorem yG {x n:Int}(hx:0≤x)(hn:0<n):0≤Int.tmod x n∧Int.tmod x n<n:=by
 rw [Int.tmod_eq_emod_of_nonneg hx];exact ⟨Int.emod_nonneg _ (by omega),Int.emod_lt_of_pos _ hn⟩
theorem IJ {n:Nat}{s:Fm}(h:ni (n+2) s)(k:Int): ∃x s',fE s k=some (x,s')∧0≤x∧(x<k∨x=0)∧ni n s':=by
 unfold fE;by_cases h1:k≤1;simp only [h1,decide_true,cond_true];exact ⟨_,_,rfl,Int.le_refl _,.inr rfl,h.mono (by omega)⟩;simp only [h1,decide_false,cond_false];obtain ⟨x,s1,e1,x1,x2,o1⟩:=II h;simp only [e1,Option.bind_some];by_cases h2:k>200;obtain ⟨y,s2,e2,y1,y2,o2⟩:=II o1;have e3:aU .i64 x 256=x*256:=mo (by omega);have e4:al .i64 (x*256) y=x*256+y:=ju (by omega);simp only [h2,decide_true,cond_true,e2,Option.bind_some,e3,e4];rw [guard_pos (by omega)];have:=yG (x:=x*256+y) (n:=k) (by omega) (by omega);exact ⟨_,_,rfl,this.1,.inl this.2,o2⟩;simp only [h2,decide_false,cond_false,Option.bind_some];rw [guard_pos (by omega)];have:=yG (x:=x) (n:=k) (by omega) (by omega);exact ⟨_,_,rfl,this.1,.inl this.2,o1.mono (by omega)⟩
theorem oR {c:List Int}(hc:rb c){i n:Int}(hi:0≤i∧i≤1000000000000): ∃x,fO c i n=some x∧0≤x∧(x<n∨x=0):=by
 unfold fO;by_cases h1:n≤1;simp only [h1,decide_true,cond_true];exact ⟨_,rfl,Int.le_refl _,.inr rfl⟩;simp only [h1,decide_false,cond_false];by_cases cq:i<ai c;have hj:i.toNat<c.length:=by simp only [ai] at cq;omega
 have hb:=hc.2 i.toNat hj;simp only [cq,decide_true,cond_true];rw [guard_pos ⟨hi.1,trivial⟩,guard_pos (by omega),Ml _ hb];have:=yG (x:=c.getD i.toNat 0) (n:=n) hb.1 (by omega);exact ⟨_,rfl,this.1,.inl this.2⟩;simp only [cq,decide_false,cond_false];rw [guard_pos (by omega),mo (by omega),ju (by omega)];have:=yG (x:=i*37+11) (n:=n) (by omega) (by omega);exact ⟨_,rfl,this.1,.inl this.2⟩
end Go.Proofs
namespace Go.Proofs
open Go.Ide Go.IntWalk
end Go.Proofs
namespace Go.Proofs
def cB (k a b:Nat):Prop:=a*8388608^k≤b*8388609^k∧b*8388608^k≤a*8388609^k
theorem DU (k:Nat):8388608^k≤8388609^k:=Nat.pow_le_pow_left (by omega) k
theorem cB.refl (k a:Nat):cB k a a:=⟨Nat.mul_le_mul_left _ (DU k),Nat.mul_le_mul_left _ (DU k)⟩
theorem cB.symm {k a b:Nat}(h:cB k a b):cB k b a:=⟨h.2,h.1⟩
theorem cB.of_eq {k a b:Nat}(h:a=b):cB k a b:=h▸cB.refl k a
theorem B9 {k l a b c d:Nat}(h:a*8388608^k≤b*8388609^k)(h':c*8388608^l≤d*8388609^l):a*c*8388608^(k+l)≤b*d*8388609^(k+l):=by
 rw [Nat.pow_add,Nat.pow_add]
 calc a*c*(8388608^k*8388608^l)=a*8388608^k*(c*8388608^l):=by ac_rfl
  _≤b*8388609^k*(d*8388609^l):=Nat.mul_le_mul h h'
  _=b*d*(8388609^k*8388609^l):=by ac_rfl
theorem cB.mul {k l a b c d:Nat}(h:cB k a b)(h':cB l c d):cB (k+l) (a*c) (b*d):=⟨B9 h.1 h'.1,B9 h.2 h'.2⟩
theorem Fo {k l a b c:Nat}(h:a*8388608^k≤b*8388609^k)(h':b*8388608^l≤c*8388609^l):a*8388608^(k+l)≤c*8388609^(k+l):=by
 rw [Nat.pow_add,Nat.pow_add]
 calc a*(8388608^k*8388608^l)=a*8388608^k*8388608^l:=by ac_rfl
  _≤b*8388609^k*8388608^l:=Nat.mul_le_mul_right _ h
  _=b*8388608^l*8388609^k:=by ac_rfl
  _≤c*8388609^l*8388609^k:=Nat.mul_le_mul_right _ h'
  _=c*(8388609^k*8388609^l):=by ac_rfl
theorem cB.trans {k l a b c:Nat}(h:cB k a b)(h':cB l b c):cB (k+l) a c:=⟨Fo h.1 h'.1,by have:=Fo h'.2 h.2;rwa [Nat.add_comm l k] at this⟩
theorem cB.mono {k l a b:Nat}(h:cB k a b)(hl:k≤l):cB l a b:=by
 have:=h.trans (cB.refl (l - k) b);rwa [show k+(l - k)=l by omega] at this
theorem cB.add {k a b c d:Nat}(h:cB k a b)(h':cB k c d):cB k (a+c) (b+d):=⟨by rw [Nat.add_mul,Nat.add_mul];exact Nat.add_le_add h.1 h'.1,by rw [Nat.add_mul,Nat.add_mul];exact Nat.add_le_add h.2 h'.2⟩
theorem cB.pJ {k a b:Nat}(h:cB k a b)(c:Nat):cB k (a*c) (b*c):=h.mul (cB.refl 0 c)
theorem cB.cancel {k a b c:Nat}(h:cB k (a*c) (b*c))(hc:0<c):cB k a b:=by
 obtain ⟨h1,h2⟩:=h;refine ⟨Nat.le_of_mul_le_mul_right (c:=c) ?_ hc,Nat.le_of_mul_le_mul_right (c:=c) ?_ hc⟩
 calc a*8388608^k*c=a*c*8388608^k:=by ac_rfl
  _≤b*c*8388609^k:=h1
  _=b*8388609^k*c:=by ac_rfl
 calc b*8388608^k*c=b*c*8388608^k:=by ac_rfl
  _≤a*c*8388609^k:=h2
  _=a*8388609^k*c:=by ac_rfl
theorem Mm:8388609^200*10000≤8388608^200*10001:=by decide
theorem cB.le {k a b:Nat}(h:cB k a b)(hk:k≤200):a*10000≤b*10001:=by
 have h1:=(h.mono hk).1;have hp:0<8388608^200:=Nat.pow_pos (by omega);refine Nat.le_of_mul_le_mul_right (c:=8388608^200) ?_ hp
 calc a*10000*8388608^200=a*8388608^200*10000:=by ac_rfl
  _≤b*8388609^200*10000:=Nat.mul_le_mul_right _ h1
  _=b*(8388609^200*10000):=by ac_rfl
  _≤b*(8388608^200*10001):=Nat.mul_le_mul_left _ Mm
  _=b*10001*8388608^200:=by ac_rfl
def mb (f:Nat→Nat):Nat→Nat
 |0=>0
 |n+1=>mb f n+f n
theorem vQ {k:Nat}{f g:Nat→Nat}: ∀n,(∀i,i<n→cB k (f i) (g i))→cB k (mb f n) (mb g n)
 |0,_=>cB.refl _ _
 |n+1,h=>(vQ n fun i hi=>h i (by omega)).add (h n (by omega))
theorem ql (f:Nat→Nat)(c:Nat): ∀n,mb f n*c=mb (fun i=>f i*c) n
 |0=>by simp [mb]
 |n+1=>by rw [mb,Nat.add_mul,ql f c n];rfl
theorem DC {f:Nat→Nat}{c:Nat}: ∀n,(∀i,i<n→f i≤c)→mb f n≤n*c
 |0,_=>by simp [mb]
 |n+1,h=>by
  have:=DC n fun i hi=>h i (by omega);have:=h n (by omega);rw [mb,Nat.succ_mul];omega
end Go.Proofs
namespace Go.Proofs
open Go.Ide
theorem nj (n d:Nat):2*(Ieee.Toward.cut .even false n d*2^d)≤2*n+2^d∧2*n≤2*(Ieee.Toward.cut .even false n d*2^d)+2^d:=by
 rw [sx];have hp:=bg d;generalize 2^d=g at*;have h1:=Nat.div_add_mod n g;have h2:=Nat.mod_lt n hp;generalize n/g=q at*;generalize n%g=r at*;have e:(q+(decide (g<2*r)||g==2*r&&q%2==1).toNat)*g=g*q+(decide (g<2*r)||g==2*r&&q%2==1).toNat*g:=by rw [Nat.add_mul,Nat.mul_comm q g]
 rw [e];by_cases c1:g<2*r;rw [decide_eq_true c1];simp only [Bool.true_or,Bool.toNat_true,Nat.one_mul];omega;rw [decide_eq_false c1,Bool.false_or];by_cases c2:g=2*r;cases (g==2*r&&q%2==1)<;>simp only [Bool.toNat_true,Bool.toNat_false,Nat.one_mul,Nat.zero_mul]<;>omega;have:(g==2*r)=false:=beq_eq_false_iff_ne.2 c2;rw [this];simp only [Bool.false_and,Bool.toNat_false,Nat.zero_mul];omega
theorem Hj {t k:Nat}(h1:8388608≤k)(h2:k≤16777216)(h3:t*8388608+k<2147483648):bj (t*8388608+k)=k*2^t:=by
 unfold bj;rw [Nat.mod_eq_of_lt h3,if_neg (by omega)];by_cases e:k=16777216;subst e;rw [show (t*8388608+16777216)%8388608=0 by omega,show (t*8388608+16777216)/8388608 - 1=t+1 by omega,Nat.pow_succ];omega;rw [show (t*8388608+k)%8388608=k - 8388608 by omega,show (t*8388608+k)/8388608 - 1=t by omega,show 8388608+(k - 8388608)=k by omega]
theorem Ca {k g u:Nat}(hk:8388608≤k)(h:2*(k*g)≤2*u+g∧2*u≤2*(k*g)+g):cB 1 (k*g) u:=by
 unfold cB;rw [Nat.pow_one,Nat.pow_one];have hg:8388608*g≤k*g:=Nat.mul_le_mul_right _ hk;generalize k*g=K at*;omega
theorem vR {a b:Nat}(h:min a b<b):min a b=a∧a<b:=by
 rcases Nat.le_total a b with h1|h1
 rw [Nat.min_eq_left h1] at h⊢;exact ⟨rfl,h⟩;rw [Nat.min_eq_right h1] at h;exact absurd h (Nat.lt_irrefl _)
theorem J9 {k d t s u:Nat}(h1:8388608≤k)(h2:k≤16777216)(hc:2*(k*2^d)≤2*u+2^d∧2*u≤2*(k*2^d)+2^d)(hf:min (t*8388608+k) 2139095040<2139095040)(hd:t+s=d):cB 1 (bj (min (t*8388608+k) 2139095040)*2^s) u:=by
 obtain ⟨hm,cq⟩:=vR hf;rw [hm,Hj h1 h2 (Nat.lt_trans cq (by decide)),Nat.mul_assoc,←Nat.pow_add,hd];exact Ca h1 hc
theorem DD {u s:Nat}(h:2^(23+s)≤u)(hf:RN u (-149 - (s:Int))<2139095040):cB 1 (bj (RN u (-149 - (s:Int)))*2^s) u:=by
 have h0:u≠0:=by have:=bg (23+s);omega
 have hl:23+s≤u.log2:=(Nat.le_log2 h0).2 h;have hk:=qU (neg:=false) (mag:=u) (f:=23) (p:= -149 - (s:Int)) (last:= -149 - (s:Int)+(u.log2:Int) - ((23:Nat):Int)) h0 rfl;have dU:=pj (neg:=false) (mag:=u) (f:=23) (p:= -149 - (s:Int)) (last:= -149 - (s:Int)+(u.log2:Int) - ((23:Nat):Int)) (by omega);have JT:(2:Nat)^(23+1)=16777216:=by decide
 have GV:(2:Nat)^23=8388608:=by decide
 rw [GV] at hk;rw [JT] at dU;have qt:Ieee.single.fractionBits=23:=rfl;have m5:max (-149 - (s:Int)+(u.log2:Int) - ((23:Nat):Int)) (-149)= -149 - (s:Int)+(u.log2:Int) - ((23:Nat):Int):=by omega
 have e1:(-149 - (s:Int) - (-149 - (s:Int)+(u.log2:Int) - ((23:Nat):Int))).toNat=0:=by omega
 have e2:(-149 - (s:Int)+(u.log2:Int) - ((23:Nat):Int) - (-149 - (s:Int))).toNat=u.log2 - 23:=by omega
 have e3:(-149 - (s:Int)+(u.log2:Int) - ((23:Nat):Int) - -149).toNat=u.log2 - 23 - s:=by omega
 rw [e1,e2,Nat.shiftLeft_zero] at hk dU;have hR:RN u (-149 - (s:Int))=min ((u.log2 - 23 - s)*8388608+Ieee.Toward.cut .even false u (u.log2 - 23)) 2139095040:=by
  unfold RN Ieee.Format.nearest;rw [if_neg h0];have hw: ∀r,Ieee.single.word false r=r:=fun r=>rfl;simp only [wP,rR,qR,qt];rw [hw,m5,e1,e2,e3,Nat.shiftLeft_zero]
 rw [hR] at hf⊢;exact J9 hk dU (nj u (u.log2 - 23)) hf (by omega)
def pw (m:Nat):Nat:=(m - 22)*8388608
theorem Mn {m:Nat}(h1:23≤m)(h2:m≤276):bj (pw m)=2^m:=by
 unfold bj pw;rw [Nat.mod_eq_of_lt (by omega),if_neg (by omega),show (m - 22)*8388608%8388608=0 by omega,show (m - 22)*8388608/8388608 - 1=m - 23 by omega,Nat.add_zero,show (8388608:Nat)=2^23 from rfl,←Nat.pow_add,show 23+(m - 23)=m by omega]
theorem PZ {m s:Nat}(h1:23≤m)(h2:m≤276):RN (2^(m+s)) (-149 - (s:Int))=pw m:=by
 rw [Nat.pow_add,lQ,←Mn h1 h2];have hb:bd (pw m) (m - 22):=by unfold bd pw;omega
 by_cases e:m=23;subst e;decide;rw [JU hb (by omega) (by omega)];exact Nat.mod_eq_of_lt (by unfold pw;omega)
structure Rg (a b x:Nat):Prop where
 fin:x≤2130706432
 lo:2^a≤bj x
 hi:bj x≤2^b
theorem Rg.bd {a b x:Nat}(h:Rg a b x):bd x 254:=by have:=h.fin;unfold Go.Ide.bd;omega
theorem Rg.mono {a b c d x:Nat}(h:Rg a b x)(h1:c≤a)(h2:b≤d):Rg c d x:=⟨h.fin,Nat.le_trans (Nat.pow_le_pow_right (by omega) h1) h.lo,Nat.le_trans h.hi (Nat.pow_le_pow_right (by omega) h2)⟩
theorem U3 {u m s:Nat}(h1:23≤m)(h2:m≤276)(h:2^(m+s)≤u):pw m≤RN u (-149 - (s:Int)):=by
 rw [←PZ (s:=s) h1 h2];exact pn h
theorem IK {u m s:Nat}(h1:23≤m)(h2:m≤276)(h:u≤2^(m+s)):RN u (-149 - (s:Int))≤pw m:=by
 rw [←PZ (s:=s) h1 h2];exact pn h
theorem U4 {u a b s:Nat}(h1:23≤a)(h2:a≤276)(h3:23≤b)(h4:b≤275)(hl:2^(a+s)≤u)(hh:u≤2^(b+s)):Rg a b (RN u (-149 - (s:Int)))∧cB 1 (bj (RN u (-149 - (s:Int)))*2^s) u:=by
 have q1:=U3 h1 h2 hl;have q2:=IK h3 (by omega) hh;have q3:pw b≤2130706432:=by unfold pw;omega
 refine ⟨⟨by omega,?_,?_⟩,DD (Nat.le_trans (Nat.pow_le_pow_right (by omega) (by omega)) hl) (by omega)⟩;rw [←Mn h1 h2];exact jy (by omega) (by omega) q1;rw [←Mn h3 (by omega)];exact jy (by omega) (by omega) q2
theorem gZ {x:Nat}(h:x≤2130706432): ∃m i,Ieee.single.read x= .number false m (-149+((i:Nat):Int))∧bj x=m*2^i:=by
 have hb:bd x 254:=by unfold bd;omega
 obtain ⟨m,i,e,v⟩:=nv hb (by omega) (by omega);have:(x/2147483648%2==1)=false:=by rw [Nat.div_eq_of_lt (by omega)];rfl
 rw [this] at e;exact ⟨m,i,e,v⟩
theorem OU {x y:Nat}(hx:x≤2130706432)(hy:y≤2130706432):av .mul .f32 x y=RN (bj x*bj y) (-149 - ((149:Nat):Int)):=by
 obtain ⟨m,i,e1,v1⟩:=gZ hx;obtain ⟨n,j,e2,v2⟩:=gZ hy;have e3:floatBits .mul .f32 x y=some (RN (m*n) (-298+((i+j:Nat):Int))):=by
  show Ieee.single.mul x y=_;unfold Ieee.Format.mul;rw [e1,e2];show some (Ieee.single.nearest _ (m*n) (-149+(i:Int)+(-149+(j:Int))))=_;rw [show -149+(i:Int)+(-149+(j:Int))= -298+((i+j:Nat):Int) by omega];rfl
 unfold av;rw [e3];simp only;rw [sy,v1,v2];have:=lQ (m*n) (i+j) (-298+((i+j:Nat):Int));rw [show -298+((i+j:Nat):Int) - ((i+j:Nat):Int)= -149 - ((149:Nat):Int) by omega] at this;rw [←this]
 congr 1
 rw [Nat.pow_add];ac_rfl
theorem me {a b c d x y:Nat}(hx:Rg a b x)(hy:Rg c d y)(h1:172≤a+c)(h2:b+d≤424)(h3:a+c≤425)(h4:172≤b+d):Rg (a+c - 149) (b+d - 149) (av .mul .f32 x y)∧cB 1 (bj (av .mul .f32 x y)*2^149) (bj x*bj y):=by
 rw [OU hx.fin hy.fin];refine U4 (by omega) (by omega) (by omega) (by omega) ?_ ?_;rw [show a+c - 149+149=a+c by omega,Nat.pow_add];exact Nat.mul_le_mul hx.lo hy.lo;rw [show b+d - 149+149=b+d by omega,Nat.pow_add];exact Nat.mul_le_mul hx.hi hy.hi
theorem IL {x y:Nat}(hx:x≤2130706432)(hy:y≤2130706432):av .add .f32 x y=RN (bj x+bj y) (-149):=by
 refine De (a:=254) (by unfold bd;omega) (by unfold bd;omega) (by omega) (by omega) (by unfold jx;omega) (by unfold nn;omega)
theorem DE {b x y:Nat}(hx:x≤2130706432)(hy:y≤2130706432)(hb:23≤b)(o6:b≤274)(h1:bj x≤2^b)(h2:bj y≤2^b):
 av .add .f32 x y≤2130706432∧bj (av .add .f32 x y)≤2^(b+1)∧cB 1 (bj (av .add .f32 x y)) (bj x+bj y)∧x≤av .add .f32 x y∧y≤av .add .f32 x y:=by
 rw [IL hx hy];have e0:(-149:Int)= -149 - ((0:Nat):Int):=by omega
 have hle:RN (bj x+bj y) (-149)≤pw (b+1):=by
  rw [e0];exact IK (by omega) (by omega) (by rw [Nat.add_zero,Nat.pow_succ];omega)
 have P0:pw (b+1)≤2130706432:=by unfold pw;omega
 have PC:x=RN (bj x) (-149):=by rw [JU (K:=254) (by unfold bd;omega) (by omega) (by omega),Nat.mod_eq_of_lt (by omega)]
 have Xf:y=RN (bj y) (-149):=by rw [JU (K:=254) (by unfold bd;omega) (by omega) (by omega),Nat.mod_eq_of_lt (by omega)]
 refine ⟨by omega,?_,?_,?_,?_⟩;rw [←Mn (m:=b+1) (by omega) (by omega)];exact jy (by omega) (by omega) hle;by_cases hs:2^(23+0)≤bj x+bj y;have:=DD (s:=0) hs (by rw [←e0];omega);rw [←e0,Nat.pow_zero,Nat.mul_one] at this;exact this;have hs:bj x+bj y<8388608:=by
  have:(2:Nat)^(23+0)=8388608:=by decide
  omega
 have hv:bj (bj x+bj y)=bj x+bj y:=by
  have:bj (bj x+bj y)=if (bj x+bj y)%2147483648<8388608 then (bj x+bj y)%2147483648 else (8388608+(bj x+bj y)%2147483648%8388608)*2^((bj x+bj y)%2147483648/8388608 - 1):=rfl
  rw [this,Nat.mod_eq_of_lt (by omega),if_pos hs]
 have:=JU (x:=bj x+bj y) (K:=2) (by unfold bd;omega) (by omega) (by omega);rw [hv,Nat.mod_eq_of_lt (by omega)] at this;rw [this,hv];exact cB.refl _ _
 conv=>lhs;rw [PC]
 exact pn (by omega)
 conv=>lhs;rw [Xf]
 exact pn (by omega)
theorem Mo {m n M:Nat}(hn:0<n)(hM:8388608*n≤m*M):cB 1 ((2*(m*M/n)+(m*M%n != 0).toNat)*n) (2*(m*M)):=by
 have h1:=Nat.div_add_mod (m*M) n;have h2:=Nat.mod_lt (m*M) hn;generalize m*M=z at*;have hb:(z%n=0∧(z%n != 0).toNat=0)∨(0<z%n∧(z%n != 0).toNat=1):=by
  by_cases e:z%n=0;exact .inl ⟨e,by rw [e];rfl⟩;refine .inr ⟨by omega,?_⟩;have:(z%n != 0)=true:=by simpa using e
  rw [this];rfl
 unfold cB;rw [Nat.pow_one,Nat.pow_one,Nat.add_mul,Nat.mul_assoc 2 (z/n) n,Nat.mul_comm (z/n) n];generalize n*(z/n)=q at*;rcases hb with ⟨e,e2⟩|⟨e,e2⟩<;>rw [e2]
 omega;rw [Nat.one_mul];omega
theorem At {a b c d x y:Nat}(hx:Rg a b x)(hy:Rg c d y)(h1:d≤a+125)(h2:b≤c+125)(h3:c≤b+120):
 av .quo .f32 x y≤2130706432∧cB 2 (bj (av .quo .f32 x y)*bj y) (bj x*2^149):=by
 obtain ⟨m,i,e1,v1⟩:=gZ hx.fin;obtain ⟨n,j,e2,v2⟩:=gZ hy.fin;have xl:=hx.lo;have xh:=hx.hi;have yl:=hy.lo;have yh:=hy.hi;rw [v1] at xl xh;rw [v2] at yl yh;have hn:n≠0:=by
  rintro rfl;have:=bg c;omega
 have hm:m≠0:=by
  rintro rfl;have:=bg a;omega
 have hf:Ieee.single.fractionBits=23:=rfl;have e3:floatBits .quo .f32 x y=some (RN (2*(m*2^(23+2+n.log2 - m.log2)/n)+(m*2^(23+2+n.log2 - m.log2)%n != 0).toNat) (-149+(i:Int) - (-149+(j:Int)) - ((23+2+n.log2 - m.log2:Nat):Int) - 1)):=by
  show Ieee.single.div x y=_;unfold Ieee.Format.div;rw [e1,e2];unfold Ieee.Datum.quotient;simp only [hf,Nat.shiftLeft_eq];rw [if_neg hn];rfl
 unfold av;rw [e3];simp only;rw [sy];have TW:m<2^(m.log2+1):=Nat.lt_log2_self;have Sk:=Nat.log2_self_le hm;have T8:=Nat.log2_self_le hn;have U5:n<2^(n.log2+1):=Nat.lt_log2_self;have LF:m.log2≤23:=by
  have:=zV e1;have:=(Nat.log2_lt (k:=24) hm).2 (by omega);omega
 have OV:8388608*n≤m*2^(23+2+n.log2 - m.log2):=by
  have q1:2^m.log2*2^(23+2+n.log2 - m.log2)≤m*2^(23+2+n.log2 - m.log2):=Nat.mul_le_mul_right _ Sk;rw [←Nat.pow_add,show m.log2+(23+2+n.log2 - m.log2)=24+(n.log2+1) by omega,Nat.pow_add] at q1;have JT:(2:Nat)^24=16777216:=by decide
  rw [JT] at q1;omega
 generalize 23+2+n.log2 - m.log2=more at*;have P1:=Mo (Nat.pos_of_ne_zero hn) OV;have U6:m*2^more≤(2*(m*2^more/n)+(m*2^more%n != 0).toNat)*n∧(2*(m*2^more/n)+(m*2^more%n != 0).toNat)*n≤4*(m*2^more):=by
  have:=P1;unfold cB at this;rw [Nat.pow_one,Nat.pow_one] at this;generalize (2*(m*2^more/n)+(m*2^more%n != 0).toNat)*n=A at*;generalize m*2^more=B at*;omega
 generalize 2*(m*2^more/n)+(m*2^more%n != 0).toNat=Q at*;have WZ:RN Q (-149+(i:Int) - (-149+(j:Int)) - (more:Int) - 1)=RN (Q*2^(149+i)) (-149 - ((j+more+1:Nat):Int)):=by
  rw [←lQ Q (149+i)]
  congr 1
  omega
 rw [WZ];have lo1:2^(a+149+more+j)≤Q*2^(149+i)*2^d:=by
  calc 2^(a+149+more+j)=2^a*(2^149*2^more*2^j):=by rw [Nat.pow_add,Nat.pow_add,Nat.pow_add];ac_rfl
   _≤m*2^i*(2^149*2^more*2^j):=Nat.mul_le_mul_right _ xl
   _=m*2^more*(2^i*2^149*2^j):=by ac_rfl
   _≤Q*n*(2^i*2^149*2^j):=Nat.mul_le_mul_right _ U6.1
   _=Q*(2^149*2^i)*(n*2^j):=by ac_rfl
   _≤Q*(2^149*2^i)*2^d:=Nat.mul_le_mul_left _ yh
   _=Q*2^(149+i)*2^d:=by rw [Nat.pow_add]
 have lo2:2^(23+(j+more+1))≤Q*2^(149+i):=by
  refine Nat.le_of_mul_le_mul_right (c:=2^d) ?_ (bg d);refine Nat.le_trans ?_ lo1;rw [←Nat.pow_add];exact Nat.pow_le_pow_right (by omega) (by omega)
 have T1:Q*2^(149+i)*2^c≤2^(b+151+more+j):=by
  calc Q*2^(149+i)*2^c≤Q*2^(149+i)*(n*2^j):=Nat.mul_le_mul_left _ yl
   _=Q*n*(2^149*2^i*2^j):=by rw [Nat.pow_add];ac_rfl
   _≤4*(m*2^more)*(2^149*2^i*2^j):=Nat.mul_le_mul_right _ U6.2
   _=m*2^i*(2^2*2^149*2^more*2^j):=by rw [show (4:Nat)=2^2 from rfl];ac_rfl
   _≤2^b*(2^2*2^149*2^more*2^j):=Nat.mul_le_mul_right _ xh
   _=2^(b+151+more+j):=by rw [←Nat.pow_add,←Nat.pow_add,←Nat.pow_add,←Nat.pow_add];congr 1;omega
 have W3:Q*2^(149+i)≤2^(b+150 - c+(j+more+1)):=by
  refine Nat.le_of_mul_le_mul_right (c:=2^c) ?_ (bg c);refine Nat.le_trans T1 ?_;rw [←Nat.pow_add];exact Nat.pow_le_pow_right (by omega) (by omega)
 have hle:=IK (m:=b+150 - c) (s:=j+more+1) (by omega) (by omega) W3;have P0:pw (b+150 - c)≤2130706432:=by unfold pw;omega
 refine ⟨by omega,?_⟩;have n1:=DD lo2 (by omega);generalize bj (RN (Q*2^(149+i)) (-149 - ((j+more+1:Nat):Int)))=v at n1⊢;have n2:=(n1.pJ n).trans (by
  have:=P1.pJ (2^(149+i));rwa [Nat.mul_right_comm Q n (2^(149+i))] at this)
 refine cB.cancel (c:=2^(more+1)) ?_ (bg _);rw [v1,v2];have ea:v*2^(j+more+1)*n=v*(n*2^j)*2^(more+1):=by
  rw [show j+more+1=j+(more+1) by omega,Nat.pow_add];generalize 2^(more+1)=A;generalize 2^j=B
  ac_rfl
 have eb:2*(m*2^more)*2^(149+i)=m*2^i*2^149*2^(more+1):=by
  rw [Nat.pow_add,Nat.pow_succ 2 more];generalize 2^more=A;generalize 2^i=B;generalize 2^149=C
  ac_rfl
 rw [ea,eb] at n2;exact n2
end Go.Proofs
namespace Go.Proofs
open Go.Ide Go.IntWalk
theorem rf {m n i j:Nat}:(m*2^(-149+(i:Int) - min (-149+(i:Int)) (-149+(j:Int))).toNat≤n*2^(-149+(j:Int) - min (-149+(i:Int)) (-149+(j:Int))).toNat)↔m*2^i≤n*2^j:=by
 rw [show (-149+(i:Int) - min (-149+(i:Int)) (-149+(j:Int))).toNat=i - min i j by omega,show (-149+(j:Int) - min (-149+(i:Int)) (-149+(j:Int))).toNat=j - min i j by omega];exact BV
theorem tJ {x y:Nat}(hx:x≤2130706432)(hy:y≤2130706432):Ieee.single.order x y=some (compare ((bj x:Nat):Int) ((bj y:Nat):Int)):=by
 obtain ⟨m,i,e1,v1⟩:=gZ hx;obtain ⟨n,j,e2,v2⟩:=gZ hy;have:Ieee.single.order x y=some (compare (Ieee.signed false m (-149+(i:Int) - min (-149+(i:Int)) (-149+(j:Int))).toNat) (Ieee.signed false n (-149+(j:Int) - min (-149+(i:Int)) (-149+(j:Int))).toNat)):=by
  show Ieee.Datum.order (Ieee.single.read x) (Ieee.single.read y)=_;rw [e1,e2];rfl
 rw [this,bn,bn];have h1:=rf (m:=m) (n:=n) (i:=i) (j:=j);have h2:=rf (m:=n) (n:=m) (i:=j) (j:=i);rw [Int.min_comm] at h2;rw [←v1,←v2] at h1 h2;generalize m*2^(-149+(i:Int) - min (-149+(i:Int)) (-149+(j:Int))).toNat=A at*;generalize n*2^(-149+(j:Int) - min (-149+(i:Int)) (-149+(j:Int))).toNat=B at*;have cq:A<B↔bj x<bj y:=by rw [←Nat.not_le,←Nat.not_le];exact not_congr h2
 have heq:A=B↔bj x=bj y:=⟨fun h=>Nat.le_antisymm (h1.1 (Nat.le_of_eq h)) (h2.1 (Nat.le_of_eq h.symm)),fun h=>Nat.le_antisymm (h1.2 (Nat.le_of_eq h)) (h2.2 (Nat.le_of_eq h.symm))⟩;simp only [compare,compareOfLessAndEq,Int.ofNat_lt,Int.ofNat_inj,cq,heq]
theorem P2 {x y:Nat}(hx:x≤2130706432)(hy:y≤2130706432):vm .f32 x y=decide (bj x≤bj y):=by
 show (Ieee.single.order x y==some .lt||Ieee.single.order x y==some .eq)=_;rw [tJ hx hy,wQ,decide_eq_decide];omega
theorem P3 {x y:Nat}(hx:x≤2130706432)(hy:y≤2130706432):rT .f32 x y=decide (bj y≤bj x):=by
 show (Ieee.single.order x y==some .gt||Ieee.single.order x y==some .eq)=_;rw [tJ hx hy,C7,decide_eq_decide];omega
theorem IM {x y:Nat}(hx:x≤2130706432)(hy:y≤2130706432):qI .f32 x y=decide (bj y<bj x):=by
 show (Ieee.single.order x y==some .gt)=_;rw [tJ hx hy];simp only [compare,compareOfLessAndEq];by_cases c1:((bj x:Nat):Int)<((bj y:Nat):Int);rw [if_pos c1,decide_eq_false (by omega)];rfl;rw [if_neg c1];by_cases c2:((bj x:Nat):Int)=((bj y:Nat):Int);rw [if_pos c2,decide_eq_false (by omega)];rfl;rw [if_neg c2,decide_eq_true (by omega)];rfl
theorem fx:bj 0=0:=by decide
theorem ud:bj 1065353216=2^149:=by decide
theorem xV (mag:Nat)(p:Int):Ieee.single.nearest true mag p%2147483648=RN mag p:=by
 have hr:=Dc mag p;unfold RN Ieee.Format.nearest at*;by_cases h0:mag=0;rw [if_pos h0,if_pos h0];decide;rw [if_neg h0] at hr⊢;rw [if_neg h0];have hw: ∀r,Ieee.single.word false r=r:=fun r=>rfl;simp only [qR,hw] at hr⊢;rw [jv (Nat.min_le_right _ _)];simp only [sx]
theorem Ka {x y c:Nat}(hx:x≤2130706432)(hy:y≤2130706432)(hc:c≤2130706432)(h1:bj x≤bj y+bj c)(h2:bj y≤bj x+bj c):(av .sub .f32 x y)%2147483648≤c:=by
 obtain ⟨m,i,e1,v1⟩:=gZ hx;obtain ⟨n,j,e2,v2⟩:=gZ hy;have FU:RN (bj c) (-149)=c:=by rw [JU (K:=254) (by unfold bd;omega) (by omega) (by omega),Nat.mod_eq_of_lt (by omega)]
 rw [LA e1 e2];simp only [Bool.not_false,bn,dR];have wE:min (-149+(i:Int)) (-149+(j:Int))= -149+((min i j:Nat):Int):=by omega
 have e3:(-149+(i:Int) - (-149+((min i j:Nat):Int))).toNat=i - min i j:=by omega
 have e4:(-149+(j:Int) - (-149+((min i j:Nat):Int))).toNat=j - min i j:=by omega
 rw [wE,e3,e4];have sA:bj x=m*2^(i - min i j)*2^min i j:=by rw [v1,Nat.mul_assoc,←Nat.pow_add,show i - min i j+min i j=i by omega]
 have sB:bj y=n*2^(j - min i j)*2^min i j:=by rw [v2,Nat.mul_assoc,←Nat.pow_add,show j - min i j+min i j=j by omega]
 generalize m*2^(i - min i j)=A at*;generalize n*2^(j - min i j)=B at*;have key: ∀d:Nat,d*2^min i j≤bj c→RN d (-149+((min i j:Nat):Int))≤c:=fun d hd=>by
  have:=lQ d (min i j) (-149+((min i j:Nat):Int));rw [show -149+((min i j:Nat):Int) - ((min i j:Nat):Int)= -149 by omega] at this;rw [←this];exact Nat.le_trans (pn hd) (Nat.le_of_eq FU)
 have hd:(((A:Nat):Int)+ -((B:Nat):Int)).natAbs*2^min i j≤bj c:=by
  by_cases U7:B≤A;rw [show (((A:Nat):Int)+ -((B:Nat):Int)).natAbs=A - B by omega,Nat.sub_mul];omega;rw [show (((A:Nat):Int)+ -((B:Nat):Int)).natAbs=B - A by omega,Nat.sub_mul];omega
 have hk:=key _ hd;generalize (((A:Nat):Int)+ -((B:Nat):Int)).natAbs=D at*;rw [qd (ki _ _ _) (Nat.le_refl _)];cases (if ((A:Nat):Int)+ -((B:Nat):Int)=0 then false&&true else decide (((A:Nat):Int)+ -((B:Nat):Int)<0)) with
 |false=>
  show RN D _%2147483648≤c;have:=Dc D (-149+((min i j:Nat):Int));rw [Nat.mod_eq_of_lt (by omega)];exact hk
 |true=>rw [xV];exact hk
theorem Fp {z c:Nat}(hz:z%2147483648≤c)(hc:c≤2130706432):vm .f32 z c=true∧rT .f32 z (2147483648+c)=true:=by
 have hb:bd z 254:=by unfold bd;omega
 obtain ⟨m,i,e1,v1⟩:=nv hb (by omega) (by omega);obtain ⟨n,j,e2,v2⟩:=gZ hc;have hbc:bd (2147483648+c) 254:=by unfold bd;omega
 obtain ⟨n',j',e3,v3⟩:=nv hbc (by omega) (by omega);have hs:((2147483648+c)/2147483648%2==1)=true:=by
  have:(2147483648+c)/2147483648=1:=by omega
  rw [this];rfl
 rw [hs] at e3;have hV:bj z≤bj c:=by
  have:bj z=bj (z%2147483648):=E8 (Nat.mod_mod _ _).symm;rw [this];exact jy (Nat.mod_lt _ (by omega)) (by omega) hz
 have hVc:bj (2147483648+c)=bj c:=E8 (by omega);constructor;rw [C8 e1 e2];refine decide_eq_true ?_;have h1:=rf (m:=m) (n:=n) (i:=i) (j:=j);rw [←v1,←v2] at h1;have h1:=h1.2 hV;cases (z/2147483648%2==1) with
 |false=>rw [bn,bn];omega
 |true=>rw [dR,bn];omega
 rw [yB e1 e3];refine decide_eq_true ?_;have h1:=rf (m:=m) (n:=n') (i:=i) (j:=j');rw [←v1,←v3,hVc] at h1;have h1:=h1.2 hV;cases (z/2147483648%2==1) with
 |false=>rw [bn,dR];omega
 |true=>rw [dR,dR];omega
theorem P4:bj 981668463=8589935*2^116:=by decide
theorem Au {s:Nat}(hs:s≤2130706432)(h:cB 40 (bj s) (2^149)):tC s=true:=by
 have h1:=h.le (by omega);have h2:=h.symm.le (by omega);have e:(2:Nat)^149=8589934592*2^116:=by decide
 have hz:=Ka (x:=s) (y:=1065353216) (c:=981668463) hs (by omega) (by omega) (by
  rw [ud,P4];rw [e] at h1 h2⊢;generalize 2^116=P at*;omega) (by
  rw [ud,P4];rw [e] at h1 h2⊢;generalize 2^116=P at*;omega)
 have:=Fp hz (by omega);unfold tC;rw [this.1];exact this.2
theorem mJ {xs:List Nat}{b:Nat}(hb:23≤b)(hx: ∀i,i<xs.length→xs.getD i 0≤2130706432∧bj (xs.getD i 0)≤2^b): ∀n,n≤xs.length→b+n≤274→
 aW xs n≤2130706432∧bj (aW xs n)≤2^(b+n)∧cB n (bj (aW xs n)) (mb (fun i=>bj (xs.getD i 0)) n)∧ ∀i,i<n→xs.getD i 0≤aW xs n
 |0,_,_=>by
  refine ⟨by unfold aW;omega,?_,?_,fun i hi=>absurd hi (Nat.not_lt_zero i)⟩;unfold aW;rw [fx];exact Nat.zero_le _;unfold aW mb;rw [fx];exact cB.refl _ _
 |n+1,hn,ZC=>by
  obtain ⟨h1,h2,h3,h4⟩:=mJ hb hx n (by omega) (by omega);obtain ⟨x1,x2⟩:=hx n (by omega);obtain ⟨q1,q2,q3,q4,q5⟩:=DE (b:=b+n) h1 x1 (by omega) (by omega) h2 (Nat.le_trans x2 (Nat.pow_le_pow_right (by omega) (by omega)));refine ⟨q1,q2,?_,fun i hi=> ?_⟩;have:=q3.trans ((h3.add (cB.refl n (bj (xs.getD n 0)))));rw [Nat.add_comm 1 n] at this;exact this;show xs.getD i 0≤av .add .f32 (aW xs n) (xs.getD n 0);by_cases e:i=n;subst e;exact q5;exact Nat.le_trans (h4 i (by omega)) q4
theorem Sl {A B w r T:Nat}(hA:A=64*B)(h0:0<A)(l1:A≤w)(h5:w*A*10000≤r*T*10001)(l5:T*10000≤32*A*10001):B≤r:=by
 have h6:A*10000*10000≤r*32*10001*10001:=by
  refine Nat.le_of_mul_le_mul_right (c:=A) ?_ h0
  calc A*10000*10000*A=A*A*10000*10000:=by rw [Nat.mul_right_comm (A*10000) 10000 A,Nat.mul_right_comm A 10000 A]
   _≤w*A*10000*10000:=Nat.mul_le_mul_right _ (Nat.mul_le_mul_right _ (Nat.mul_le_mul_right _ l1))
   _≤r*T*10001*10000:=Nat.mul_le_mul_right _ h5
   _=r*(T*10000)*10001:=by rw [Nat.mul_right_comm (r*T) 10001 10000,Nat.mul_assoc r T 10000]
   _≤r*(32*A*10001)*10001:=Nat.mul_le_mul_right _ (Nat.mul_le_mul_left _ l5)
   _=r*32*10001*10001*A:=by rw [←Nat.mul_assoc,←Nat.mul_assoc,Nat.mul_right_comm (r*32) A 10001,Nat.mul_right_comm (r*32*10001) A 10001]
 omega
theorem Mp {T S A:Nat}(h1:T*10000≤S*10001)(h2:S≤4*(8*A)):T*10000≤32*A*10001:=by
 have h3:4*(8*A)=32*A:=by rw [←Nat.mul_assoc]
 rw [h3] at h2;exact Nat.le_trans h1 (Nat.mul_le_mul_right _ h2)
def NB (x:Nat):Prop:=Rg 143 149 x
end Go.Proofs
namespace Go.Proofs
open Go.Ide Go.IntWalk
theorem om {xs ys:List Nat}{i:Nat}:(xs++ys).getD i 0=if i<xs.length then xs.getD i 0 else ys.getD (i - xs.length) 0:=by
 split;rename_i h;rw [List.getD_eq_getElem?_getD,List.getElem?_append_left h,List.getD_eq_getElem?_getD];rename_i h;rw [List.getD_eq_getElem?_getD,List.getElem?_append_right (by omega),List.getD_eq_getElem?_getD]
theorem Fq {xs ys:List Nat}: ∀n,n≤xs.length→aW (xs++ys) n=aW xs n
 |0,_=>rfl
 |n+1,h=>by
  show av .add .f32 (aW (xs++ys) n) ((xs++ys).getD n 0)=av .add .f32 (aW xs n) (xs.getD n 0);rw [Fq n (by omega),om,if_pos (by omega)]
theorem weight {x:Int}(h:0≤x∧x<5):Rg 149 152 (eg .f32 (al .i64 (1:Int) x)):=by
 have hx:al .i64 (1:Int) x=1+x:=ju (by omega);rw [hx];rcases (show x=0∨x=1∨x=2∨x=3∨x=4 by omega) with rfl|rfl|rfl|rfl|rfl
 rw [show eg .f32 (1+0)=1065353216 by decide];exact ⟨by decide,by decide,by decide⟩;rw [show eg .f32 (1+1)=1073741824 by decide];exact ⟨by decide,by decide,by decide⟩;rw [show eg .f32 (1+2)=1077936128 by decide];exact ⟨by decide,by decide,by decide⟩;rw [show eg .f32 (1+3)=1082130432 by decide];exact ⟨by decide,by decide,by decide⟩;rw [show eg .f32 (1+4)=1084227584 by decide];exact ⟨by decide,by decide,by decide⟩
structure xW (a b:Nat)(fs ss hs:List Nat):Prop where
 a4:a≤4
 ok:cu (a:Int) (b:Int) fs ss hs=true
 m:Model a b fs ss hs
 ef: ∀i,i<a→NB (fs.getD i 0)
 es: ∀i j,i<a→j<a→NB (ss.getD (i*a+j) 0)
 eh: ∀i j,i<a→j<b→NB (hs.getD (i*b+j) 0)
theorem jg {a b i j:Nat}(hi:i<a)(hj:j<b):i*b+j<a*b:=by
 have:i*b+b≤a*b:=by rw [←Nat.succ_mul];exact Nat.mul_le_mul_right _ hi
 omega
section
variable {a b:Nat} {fs ss hs:List Nat}
def po (a lo hi:Nat)(row:List Nat):Prop:= ∀i,i<a→Rg lo hi (row.getD i 0)
theorem uR {f:Nat→Nat}{t:Nat→Nat}{lo hi:Nat}(hb:23≤hi)(h0:f 0=0)(hs: ∀p,f (p+1)=av .add .f32 (f p) (t p)): ∀n,(∀p,p<n→Rg lo hi (t p))→hi+n≤274→
 f n≤2130706432∧bj (f n)≤2^(hi+n)∧cB n (bj (f n)) (mb (fun p=>bj (t p)) n)∧(1≤n→2^lo≤bj (f n))
 |0,_,_=>by
  rw [h0,fx];exact ⟨by omega,Nat.zero_le _,cB.refl _ _,fun h=>absurd h (by omega)⟩
 |n+1,ht,hn=>by
  obtain ⟨h1,h2,h3,h4⟩:=uR hb h0 hs n (fun p hp=>ht p (by omega)) (by omega);have hx:=ht n (by omega);obtain ⟨q1,q2,q3,q4,q5⟩:=DE (b:=hi+n) h1 hx.fin (by omega) (by omega) h2 (Nat.le_trans hx.hi (Nat.pow_le_pow_right (by omega) (by omega)));rw [hs];refine ⟨q1,q2,?_,fun _=> ?_⟩;have:=q3.trans (h3.add (cB.refl n (bj (t n))));rw [Nat.add_comm 1 n] at this;exact this;exact Nat.le_trans hx.lo (jy (by have:=hx.fin;omega) (by omega) q5)
theorem OW (d:xW a b fs ss hs){row:List Nat}{c lo hi:Nat}(hc:c<b)(hr:po a lo hi row)(h1:39≤lo)(h2:lo≤hi)(h3:hi≤250):po a (lo - 12) (hi+4) (ib a b ss hs row c):=fun j hj=>by
 have a4:=d.a4;rw [qh hj];have ht: ∀p,p<a→Rg (lo - 12) hi (av .mul .f32 (av .mul .f32 (row.getD p 0) (hs.getD (p*b+c) 0)) (ss.getD (p*a+j) 0)):=fun p hp=>by
  have m1:=(me (hr p hp) (d.eh p c hp hc) (by omega) (by omega) (by omega) (by omega)).1;have m2:=(me m1 (d.es p j hp hj) (by omega) (by omega) (by omega) (by omega)).1;exact m2.mono (by omega) (by omega)
 obtain ⟨q1,q2,_,q4⟩:=uR (f:=mq a b ss hs row c j) (by omega) rfl (fun p=>rfl) a ht (by omega);exact ⟨q1,q4 (by omega),Nat.le_trans q2 (Nat.pow_le_pow_right (by omega) (by omega))⟩
theorem DF (d:xW a b fs ss hs){w:List Int}(hw:bU b w)(hl:w.length≤6): ∀i,i≤w.length→po a (143 - 12*i) (149+4*i) (rowAt a b fs ss hs w i)
 |0,_=>fun i hi=>d.ef i hi
 |i+1,hi=>by
  obtain ⟨c,hc,eV⟩:=hw i (by omega);have:=OW d eV (DF d hw hl i (by omega)) (by omega) (by omega) (by omega);rw [rowAt,hc,Int.toNat_natCast];exact fun j hj=>(this j hj).mono (by omega) (by omega)
theorem IN (d:xW a b fs ss hs){row:List Nat}{c lo hi:Nat}(hc:c<b)(hr:po a lo hi row)(h1:39≤lo)(h2:lo≤hi)(h3:hi≤250):
 po a (lo - 12) (hi+4) (rK a b ss hs row c)∧ ∀i,i<a→cB (a+2) (bj ((rK a b ss hs row c).getD i 0)*(2^149*2^149)) (mb (fun p=>bj (hs.getD (i*b+c) 0)*bj (ss.getD (i*a+p) 0)*bj (row.getD p 0)) a):=by
 have a4:=d.a4;have ht: ∀i p,i<a→p<a→Rg (lo - 12) hi (av .mul .f32 (av .mul .f32 (hs.getD (i*b+c) 0) (ss.getD (i*a+p) 0)) (row.getD p 0))∧
  cB 2 (bj (av .mul .f32 (av .mul .f32 (hs.getD (i*b+c) 0) (ss.getD (i*a+p) 0)) (row.getD p 0))*(2^149*2^149)) (bj (hs.getD (i*b+c) 0)*bj (ss.getD (i*a+p) 0)*bj (row.getD p 0)):=fun i p hi hp=>by
  obtain ⟨m1,n1⟩:=me (d.eh i c hi hc) (d.es i p hi hp) (by omega) (by omega) (by omega) (by omega);obtain ⟨m2,n2⟩:=me m1 (hr p hp) (by omega) (by omega) (by omega) (by omega);refine ⟨m2.mono (by omega) (by omega),?_⟩;have n3:=(n2.pJ (2^149)).trans (by
   have:=n1.pJ (bj (row.getD p 0));rwa [Nat.mul_right_comm] at this)
  rwa [Nat.mul_assoc] at n3
 have key:=fun i (Qt:i<a)=>uR (f:=Fk a b ss hs row c i) (lo:=lo - 12) (hi:=hi) (by omega) rfl (fun p=>rfl) a (fun p hp=>(ht i p Qt hp).1) (by omega);constructor;intro i hi;obtain ⟨q1,q2,_,q4⟩:=key i hi;rw [xe hi];exact ⟨q1,q4 (by omega),Nat.le_trans q2 (Nat.pow_le_pow_right (by omega) (by omega))⟩;intro i hi;obtain ⟨_,_,q3,_⟩:=key i hi;rw [xe hi];refine (q3.pJ _).trans ?_;rw [ql];exact vQ _ fun p hp=>(ht i p hi hp).2
theorem Sm:Rg 149 149 1065353216:=⟨by decide,by rw [ud];exact Nat.le_refl _,by rw [ud];exact Nat.le_refl _⟩
theorem DG (d:xW a b fs ss hs){w:List Int}(hw:bU b w)(hl:w.length≤6): ∀k,k≤w.length→po a (149 - 12*k) (149+4*k) (ic a b ss hs w k)
 |0,_=>fun i hi=>by
  rw [ic,List.getD_eq_getElem?_getD,List.getElem?_replicate,if_pos hi];exact Sm
 |k+1,hk=>by
  obtain ⟨c,hc,eV⟩:=hw (w.length - (k+1)) (by omega);have:=(IN d eV (DG d hw hl k (by omega)) (by omega) (by omega) (by omega)).1;rw [ic,hc,Int.toNat_natCast];exact fun j hj=>(this j hj).mono (by omega) (by omega)
end
end Go.Proofs
namespace Go.Proofs
open Go.Ide Go.IntWalk
section
variable {a b:Nat} {fs ss hs:List Nat}
theorem Ft {f g:List Nat}{i:Nat}(hi:i<a):(Ar a f g).getD i 0=av .mul .f32 (f.getD i 0) (g.getD i 0):=by
 unfold Ar;rw [List.getD_eq_getElem?_getD,List.getElem?_map,List.getElem?_range hi];rfl
theorem Cb {f g:List Nat}{c:Nat}: ∀n i j,i<n→j<a→(qj a b ss hs f g c n).getD (i*a+j) 0=Fl a b ss hs f g c i j
 |n+1,i,j,hi,hj=>by
  rw [qj,om,qk];by_cases e:i<n;rw [if_pos (jg e hj)];exact Cb n i j e hj;have CA:i=n:=by omega
  subst CA;rw [if_neg (by omega),show i*a+j - i*a=j by omega,List.getD_eq_getElem?_getD,List.getElem?_map,List.getElem?_range hj];rfl
theorem Fu {xs:List Nat}{all i:Nat}(hi:i<xs.length):(dp xs all).getD i 0=av .quo .f32 (xs.getD i 0) all:=by
 unfold dp;rw [List.getD_eq_getElem?_getD,List.getElem?_map,List.getElem?_range hi];rfl
theorem Kb {xs:List Nat}{lo hi:Nat}(h1:1≤xs.length)(YP:xs.length≤16)(hx: ∀i,i<xs.length→Rg lo hi (xs.getD i 0))(mi:64≤lo)(A3:lo≤hi)(pr:hi≤173):
 OT xs=(dp xs (aW xs xs.length),true)∧0<bj (aW xs xs.length)∧cB xs.length (bj (aW xs xs.length)) (mb (fun i=>bj (xs.getD i 0)) xs.length)∧
  ∀i,i<xs.length→(dp xs (aW xs xs.length)).getD i 0≤1065353216∧cB 2 (bj ((dp xs (aW xs xs.length)).getD i 0)*bj (aW xs xs.length)) (bj (xs.getD i 0)*2^149):=by
 obtain ⟨s1,s2,s3,s4⟩:=mJ (xs:=xs) (b:=hi) (by omega) (fun i hi=>⟨(hx i hi).fin,(hx i hi).hi⟩) xs.length (Nat.le_refl _) (by omega);have hT:Rg lo (hi+16) (aW xs xs.length):=⟨s1,Nat.le_trans (hx 0 (by omega)).lo (jy (by have:=(hx 0 (by omega)).fin;omega) (by omega) (s4 0 (by omega))),Nat.le_trans s2 (Nat.pow_le_pow_right (by omega) (by omega))⟩;have oS:0<bj (aW xs xs.length):=Nat.lt_of_lt_of_le (bg lo) hT.lo;have hq: ∀i,i<xs.length→(dp xs (aW xs xs.length)).getD i 0≤1065353216∧cB 2 (bj ((dp xs (aW xs xs.length)).getD i 0)*bj (aW xs xs.length)) (bj (xs.getD i 0)*2^149):=fun i hi=>by
  rw [Fu hi];obtain ⟨q1,q2⟩:=At (hx i hi) hT (by omega) (by omega) (by omega);refine ⟨tA (x:=xs.getD i 0) (y:=aW xs xs.length) (a:=254) (hx i hi).bd hT.bd (by omega) (by omega) (by have:=(hx i hi).fin;unfold jx;omega) (by unfold jx;omega) (s4 i hi) (fun e=> ?_),q2⟩;rw [e,fx] at oS;exact Nat.lt_irrefl _ oS
 refine ⟨?_,oS,s3,hq⟩;have ur:Fj (dp xs (aW xs xs.length))=true:=by
  unfold Fj;refine df.2 fun i _ hi=> ?_;rw [qi] at hi;exact DA (K:=254) (by have:=(hq i (by omega)).1;unfold bd;omega) (by omega) (by omega)
 unfold OT;rw [IM s1 (by omega),fx,decide_eq_true oS,cond_true,ur,cond_true]
end
end Go.Proofs
namespace Go.Proofs
open Go.Ide Go.IntWalk
def sJ (u:Nat)(p:Int):Nat:=Ieee.double.nearest false u p
theorem Av (p:Int):sJ 0 p=0:=by
 unfold sJ Ieee.Format.nearest;rw [if_pos rfl];rfl
theorem xf (u s:Nat)(p:Int):sJ (u*2^s) (p - s)=sJ u p:=dz
theorem OX (u:Nat)(p:Int):sJ u p≤9218868437227405312:=by
 obtain ⟨r,hr,e⟩:=kv false u p;unfold sJ;rw [e];exact hr
theorem Mq {u v:Nat}{p:Int}(h:u≤v):sJ u p≤sJ v p:=by
 by_cases h0:u=0;subst h0;rw [Av];exact Nat.zero_le _;have h1:v≠0:=by omega
 unfold sJ Ieee.Format.nearest;rw [if_neg h0,if_neg h1];have hf:Ieee.double.fractionBits=52:=rfl;simp only [rG,qe,ph,hf];have LD:u.log2≤v.log2:=by
  have a:=Nat.log2_self_le h0;exact (Nat.le_log2 h1).2 (by omega)
 have hw: ∀r,Ieee.double.word false r=r:=fun r=>rfl;rw [hw,hw];refine Nat.le_min.2 ⟨?_,Nat.min_le_right _ _⟩;refine Nat.le_trans (Nat.min_le_left _ _) ?_;by_cases he:max (p+(u.log2:Int) - ((52:Nat):Int)) (-1074)=max (p+(v.log2:Int) - ((52:Nat):Int)) (-1074);rw [he];refine Nat.add_le_add_left (E7 ?_) _;rw [Nat.shiftLeft_eq,Nat.shiftLeft_eq];exact Nat.mul_le_mul_right _ h;have hk:=pj (neg:=false) (mag:=u) (f:=52) (p:=p) (last:=max (p+(u.log2:Int) - ((52:Nat):Int)) (-1074)) (by omega);have dU:=qU (neg:=false) (mag:=v) (f:=52) (p:=p) (last:=max (p+(v.log2:Int) - ((52:Nat):Int)) (-1074)) h1 (by omega);have JT:(2:Nat)^(52+1)=9007199254740992:=by decide
 have GV:(2:Nat)^52=4503599627370496:=by decide
 rw [JT] at hk;rw [GV] at dU;have hl:(max (p+(u.log2:Int) - ((52:Nat):Int)) (-1074) - -1074).toNat+1≤(max (p+(v.log2:Int) - ((52:Nat):Int)) (-1074) - -1074).toNat:=by omega
 have:=Nat.mul_le_mul_right 4503599627370496 hl;omega
def ie (x:Nat):Nat:=if x%9223372036854775808<4503599627370496 then x%9223372036854775808 else (4503599627370496+x%9223372036854775808%4503599627370496)*2^(x%9223372036854775808/4503599627370496 - 1)
theorem IP {x K:Nat}(h:kP x K)(h2:2≤K)(h3:K≤2046): ∃m i,Ieee.double.read x= .number (x/9223372036854775808%2==1) m (-1074+((i:Nat):Int))∧ie x=m*2^i:=by
 unfold kP at h;unfold ie;by_cases mi:x%9223372036854775808<4503599627370496;exact ⟨_,0,zX mi,by rw [if_pos mi,Nat.pow_zero,Nat.mul_one]⟩;exact ⟨_,_,vC (by omega) (by omega),by rw [if_neg mi]⟩
theorem DH {x y:Nat}(hx:x<9223372036854775808)(hy:y<9223372036854775808)(h:x≤y):ie x≤ie y:=by
 unfold ie;rw [Nat.mod_eq_of_lt hx,Nat.mod_eq_of_lt hy];by_cases h1:x<4503599627370496;rw [if_pos h1];by_cases h2:y<4503599627370496;rw [if_pos h2];exact h;rw [if_neg h2];have:=Nat.mul_le_mul (show 4503599627370496≤4503599627370496+y%4503599627370496 by omega) (show 1≤2^(y/4503599627370496 - 1) from bg _);omega;rw [if_neg h1,if_neg (by omega)];by_cases hq:x/4503599627370496=y/4503599627370496;rw [hq];exact Nat.mul_le_mul_right _ (by omega);have cq:x/4503599627370496<y/4503599627370496:=by omega
 have e1:(4503599627370496+x%4503599627370496)*2^(x/4503599627370496 - 1)≤9007199254740992*2^(x/4503599627370496 - 1):=Nat.mul_le_mul_right _ (by omega);have e2:9007199254740992*2^(x/4503599627370496 - 1)=4503599627370496*2^(x/4503599627370496):=by
  obtain ⟨q,FT⟩: ∃q,x/4503599627370496=q+1:=⟨x/4503599627370496 - 1,by omega⟩;rw [FT,Nat.add_sub_cancel,Nat.pow_succ];omega
 have e3:4503599627370496*2^(x/4503599627370496)≤4503599627370496*2^(y/4503599627370496 - 1):=Nat.mul_le_mul_left _ (Nat.pow_le_pow_right (by omega) (by omega));have e4:4503599627370496*2^(y/4503599627370496 - 1)≤(4503599627370496+y%4503599627370496)*2^(y/4503599627370496 - 1):=Nat.mul_le_mul_right _ (by omega);omega
theorem U8 {x K:Nat}(h:kP x K)(h2:2≤K)(h3:K≤2046):sJ (ie x) (-1074)=x%9223372036854775808:=by
 have hb:kP (x%9223372036854775808) K:=by unfold kP at*;rwa [Nat.mod_mod]
 obtain ⟨m,i,e,hv⟩:=IP hb h2 h3;have cq:x%9223372036854775808<9223372036854775808:=Nat.mod_lt _ (by omega);rw [Nat.div_eq_of_lt cq] at e;have hn:=pD (x:=x%9223372036854775808) (by omega) e;have hV:ie (x%9223372036854775808)=ie x:=by unfold ie;rw [Nat.mod_mod]
 rw [←hV,hv];have:=xf m i (-1074+(i:Int));rw [show -1074+(i:Int) - (i:Int)= -1074 by omega] at this;rw [this];exact hn
theorem Sn {x y:Nat}(h:x%9223372036854775808=y%9223372036854775808):ie x=ie y:=by unfold ie;rw [h]
theorem DI {t k:Nat}(h1:4503599627370496≤k)(h2:k≤9007199254740992)(h3:t*4503599627370496+k<9223372036854775808):ie (t*4503599627370496+k)=k*2^t:=by
 unfold ie;rw [Nat.mod_eq_of_lt h3,if_neg (by omega)];by_cases e:k=9007199254740992;subst e;rw [show (t*4503599627370496+9007199254740992)%4503599627370496=0 by omega,show (t*4503599627370496+9007199254740992)/4503599627370496 - 1=t+1 by omega,Nat.pow_succ];omega;rw [show (t*4503599627370496+k)%4503599627370496=k - 4503599627370496 by omega,show (t*4503599627370496+k)/4503599627370496 - 1=t by omega,show 4503599627370496+(k - 4503599627370496)=k by omega]
theorem Hk {k d t s u:Nat}(h1:4503599627370496≤k)(h2:k≤9007199254740992)(hc:2*(k*2^d)≤2*u+2^d∧2*u≤2*(k*2^d)+2^d)(hf:min (t*4503599627370496+k) 9218868437227405312<9218868437227405312)(hd:t+s=d):cB 1 (ie (min (t*4503599627370496+k) 9218868437227405312)*2^s) u:=by
 obtain ⟨hm,cq⟩:=vR hf;rw [hm,DI h1 h2 (Nat.lt_trans cq (by decide)),Nat.mul_assoc,←Nat.pow_add,hd];exact Ca (Nat.le_trans (by decide) h1) hc
theorem Mr {u s:Nat}(h:2^(52+s)≤u)(hf:sJ u (-1074 - (s:Int))<9218868437227405312):cB 1 (ie (sJ u (-1074 - (s:Int)))*2^s) u:=by
 have h0:u≠0:=by have:=bg (52+s);omega
 have hl:52+s≤u.log2:=(Nat.le_log2 h0).2 h;have hk:=qU (neg:=false) (mag:=u) (f:=52) (p:= -1074 - (s:Int)) (last:= -1074 - (s:Int)+(u.log2:Int) - ((52:Nat):Int)) h0 rfl;have dU:=pj (neg:=false) (mag:=u) (f:=52) (p:= -1074 - (s:Int)) (last:= -1074 - (s:Int)+(u.log2:Int) - ((52:Nat):Int)) (by omega);have JT:(2:Nat)^(52+1)=9007199254740992:=by decide
 have GV:(2:Nat)^52=4503599627370496:=by decide
 rw [GV] at hk;rw [JT] at dU;have qt:Ieee.double.fractionBits=52:=rfl;have m5:max (-1074 - (s:Int)+(u.log2:Int) - ((52:Nat):Int)) (-1074)= -1074 - (s:Int)+(u.log2:Int) - ((52:Nat):Int):=by omega
 have e1:(-1074 - (s:Int) - (-1074 - (s:Int)+(u.log2:Int) - ((52:Nat):Int))).toNat=0:=by omega
 have e2:(-1074 - (s:Int)+(u.log2:Int) - ((52:Nat):Int) - (-1074 - (s:Int))).toNat=u.log2 - 52:=by omega
 have e3:(-1074 - (s:Int)+(u.log2:Int) - ((52:Nat):Int) - -1074).toNat=u.log2 - 52 - s:=by omega
 rw [e1,e2,Nat.shiftLeft_zero] at hk dU;have hR:sJ u (-1074 - (s:Int))=min ((u.log2 - 52 - s)*4503599627370496+Ieee.Toward.cut .even false u (u.log2 - 52)) 9218868437227405312:=by
  unfold sJ Ieee.Format.nearest;rw [if_neg h0];have hw: ∀r,Ieee.double.word false r=r:=fun r=>rfl;simp only [rG,qe,ph,qt];rw [hw,m5,e1,e2,e3,Nat.shiftLeft_zero]
 rw [hR] at hf⊢;exact Hk hk dU (nj u (u.log2 - 52)) hf (by omega)
def IQ (m:Nat):Nat:=(m - 51)*4503599627370496
theorem IS {m:Nat}(h1:52≤m)(h2:m≤2097):ie (IQ m)=2^m:=by
 unfold ie IQ;rw [Nat.mod_eq_of_lt (by omega),if_neg (by omega),show (m - 51)*4503599627370496%4503599627370496=0 by omega,show (m - 51)*4503599627370496/4503599627370496 - 1=m - 52 by omega,Nat.add_zero,show (4503599627370496:Nat)=2^52 from rfl,←Nat.pow_add,show 52+(m - 52)=m by omega]
theorem Sp {m s:Nat}(h1:52≤m)(h2:m≤2097):sJ (2^(m+s)) (-1074 - (s:Int))=IQ m:=by
 rw [Nat.pow_add,xf,←IS h1 h2];have hb:kP (IQ m) (m - 51):=by unfold kP IQ;omega
 by_cases e:m=52;subst e;decide;rw [U8 hb (by omega) (by omega)];exact Nat.mod_eq_of_lt (by unfold IQ;omega)
theorem Ms {u m s:Nat}(h1:52≤m)(h2:m≤2097)(h:u≤2^(m+s)):sJ u (-1074 - (s:Int))≤IQ m:=by
 rw [←Sp (s:=s) h1 h2];exact Mq h
theorem DJ (mag:Nat)(p:Int):Ieee.double.nearest true mag p%9223372036854775808=sJ mag p:=by
 have hr:=OX mag p;unfold sJ Ieee.Format.nearest at*;by_cases h0:mag=0;rw [if_pos h0,if_pos h0];decide;rw [if_neg h0] at hr⊢;rw [if_neg h0];have hw: ∀r,Ieee.double.word false r=r:=fun r=>rfl;simp only [ph,hw] at hr⊢;rw [gz (Nat.min_le_right _ _)];simp only [sx]
end Go.Proofs
namespace Go.Proofs
open Go.Ide Go.IntWalk
theorem Mt {x k:Nat}(hk:k=925)(hx:x≤2130706432):bD .f32 .f64 x=sJ (bj x*2^k) (-1074):=by
 obtain ⟨m,i,e,v⟩:=gZ hx;have h1:bD .f32 .f64 x=sJ m (-149+(i:Int)):=by
  unfold bD;rw [if_neg (by decide)];have e':FloatKind.decode .f32 x= .number false m (-149+(i:Int)):=e;rw [e'];show bw .f64 (Ieee.double.nearest false m (-149+(i:Int)))=_;exact lp (fN _ _ _) (Nat.le_refl _)
 rw [h1,v];have:=xf m (i+k) (-149+(i:Int));rw [show -149+(i:Int) - ((i+k:Nat):Int)= -1074 by omega,Nat.pow_add,←Nat.mul_assoc] at this;exact this.symm
theorem Aw (u:Nat):sJ u (-1074)=sJ u (-1074 - ((0:Nat):Int)):=by rw [show (-1074:Int) - ((0:Nat):Int)= -1074 by omega]
theorem OY {x k b:Nat}(hk:k=925)(hx:x≤2130706432)(hb:bj x≤2^b)(o6:b≤276):bD .f32 .f64 x≤9214364837600034816∧ie (bD .f32 .f64 x)≤2^(b+k)∧cB 1 (ie (bD .f32 .f64 x)) (bj x*2^k):=by
 rw [Mt hk hx];have hle:sJ (bj x*2^k) (-1074)≤IQ (b+k):=by
  rw [Aw];refine Ms (by omega) (by omega) ?_;rw [Nat.add_zero,Nat.pow_add];exact Nat.mul_le_mul_right _ hb
 have P0:IQ (b+k)≤9214364837600034816:=by unfold IQ;omega
 refine ⟨by omega,?_,?_⟩;rw [←IS (m:=b+k) (by omega) (by omega)];exact DH (by omega) (by omega) hle;by_cases h0:bj x=0;rw [h0,Nat.zero_mul,Av];exact cB.of_eq (by unfold ie;decide);have h1:2^(52+0)≤bj x*2^k:=by
  have:2^52≤2^k:=Nat.pow_le_pow_right (by omega) (by omega);have h2:1*2^k≤bj x*2^k:=Nat.mul_le_mul_right _ (by omega);rw [Nat.one_mul] at h2;exact Nat.le_trans this h2
 have:=Mr (s:=0) h1 (by rw [←Aw];omega);rw [←Aw,Nat.pow_zero,Nat.mul_one] at this;exact this
theorem OZ:ie 0=0:=by unfold ie;decide
end Go.Proofs
namespace Go.Proofs
open Go.Ide Go.IntWalk
theorem vU {M k d s u:Nat}(hp:0<2^d)(hc:2*(k*2^d)≤2*u+2^d∧2*u≤2*(k*2^d)+2^d)(hu:2^d*M≤u+2^s*M):
 k*2^d*(2*M)≤u*(2*M)+u+2^s*M∧u*(2*M)≤k*2^d*(2*M)+u+2^s*M:=by
 generalize 2^d=g at*;generalize k*g=K at*;generalize 2^s=t at*;have a:=Nat.mul_le_mul_right M hc.1;have b:=Nat.mul_le_mul_right M hc.2;rw [Nat.add_mul,Nat.mul_assoc,Nat.mul_assoc] at a b;have e1:K*(2*M)=2*(K*M):=by rw [Nat.mul_left_comm]
 have e2:u*(2*M)=2*(u*M):=by rw [Nat.mul_left_comm]
 rw [e1,e2];omega
theorem O0 {u s:Nat}(hf:sJ u (-1074 - (s:Int))<9218868437227405312):
 ie (sJ u (-1074 - (s:Int)))*2^s*9007199254740992≤u*9007199254740992+u+2^s*4503599627370496∧u*9007199254740992≤ie (sJ u (-1074 - (s:Int)))*2^s*9007199254740992+u+2^s*4503599627370496:=by
 by_cases h0:u=0;subst h0;rw [Av,OZ];omega;have dU:=pj (neg:=false) (mag:=u) (f:=52) (p:= -1074 - (s:Int)) (last:=max (-1074 - (s:Int)+(u.log2:Int) - ((52:Nat):Int)) (-1074)) (by omega);have JT:(2:Nat)^(52+1)=9007199254740992:=by decide
 have GV:(2:Nat)^52=4503599627370496:=by decide
 rw [JT] at dU;have qt:Ieee.double.fractionBits=52:=rfl;by_cases hl:52+s≤u.log2;have hk:=qU (neg:=false) (mag:=u) (f:=52) (p:= -1074 - (s:Int)) (last:= -1074 - (s:Int)+(u.log2:Int) - ((52:Nat):Int)) h0 rfl;have m5:max (-1074 - (s:Int)+(u.log2:Int) - ((52:Nat):Int)) (-1074)= -1074 - (s:Int)+(u.log2:Int) - ((52:Nat):Int):=by omega
 rw [m5] at dU;rw [GV] at hk;have e1:(-1074 - (s:Int) - (-1074 - (s:Int)+(u.log2:Int) - ((52:Nat):Int))).toNat=0:=by omega
 have e2:(-1074 - (s:Int)+(u.log2:Int) - ((52:Nat):Int) - (-1074 - (s:Int))).toNat=u.log2 - 52:=by omega
 have e3:(-1074 - (s:Int)+(u.log2:Int) - ((52:Nat):Int) - -1074).toNat=u.log2 - 52 - s:=by omega
 rw [e1,e2,Nat.shiftLeft_zero] at hk dU;have hR:sJ u (-1074 - (s:Int))=min ((u.log2 - 52 - s)*4503599627370496+Ieee.Toward.cut .even false u (u.log2 - 52)) 9218868437227405312:=by
  unfold sJ Ieee.Format.nearest;rw [if_neg h0];have hw: ∀r,Ieee.double.word false r=r:=fun r=>rfl;simp only [rG,qe,ph,qt];rw [hw,m5,e1,e2,e3,Nat.shiftLeft_zero]
 rw [hR] at hf⊢;obtain ⟨hm,cq⟩:=vR hf;rw [hm,DI hk dU (Nat.lt_trans cq (by decide)),Nat.mul_assoc (Ieee.Toward.cut _ _ _ _),←Nat.pow_add,show u.log2 - 52 - s+s=u.log2 - 52 by omega];have Mu:=Nat.log2_self_le h0;have:=vU (M:=4503599627370496) (s:=s) (bg (u.log2 - 52)) (nj u (u.log2 - 52)) (by
  have e:2^(u.log2 - 52)*4503599627370496=2^u.log2:=by rw [←GV,←Nat.pow_add];congr 1;omega
  rw [e];omega)
 exact this;have m5:max (-1074 - (s:Int)+(u.log2:Int) - ((52:Nat):Int)) (-1074)= -1074:=by omega
 rw [m5] at dU;have e1:(-1074 - (s:Int) - -1074).toNat=0:=by omega
 have e2:((-1074:Int) - (-1074 - (s:Int))).toNat=s:=by omega
 have e3:((-1074:Int) - -1074).toNat=0:=by omega
 rw [e1,e2,Nat.shiftLeft_zero] at dU;have hR:sJ u (-1074 - (s:Int))=min (Ieee.Toward.cut .even false u s) 9218868437227405312:=by
  unfold sJ Ieee.Format.nearest;rw [if_neg h0];have hw: ∀r,Ieee.double.word false r=r:=fun r=>rfl;simp only [rG,qe,ph,qt];rw [hw,m5,e1,e2,e3,Nat.shiftLeft_zero,Nat.zero_mul,Nat.zero_add]
 have YQ:Ieee.Toward.cut .even false u s≤4503599627370496:=by
  have h1:u<2^(52+s):=(Nat.log2_lt h0).1 (by omega);have h2:=(nj u s).1;rw [Nat.pow_add,GV] at h1;have hp:=bg s;generalize 2^s=g at*;apply Nat.le_of_lt_succ;apply Nat.lt_of_mul_lt_mul_right (a:=g);rw [Nat.succ_mul];omega
 rw [hR,Nat.min_eq_left (by omega)];have hV:ie (Ieee.Toward.cut .even false u s)=Ieee.Toward.cut .even false u s:=by
  have:=DI (t:=0) (k:=4503599627370496) (by omega) (by omega) (by omega);by_cases e:Ieee.Toward.cut .even false u s=4503599627370496;rw [e];rw [Nat.zero_mul,Nat.zero_add,Nat.pow_zero,Nat.mul_one] at this;exact this;unfold ie;rw [Nat.mod_eq_of_lt (by omega),if_pos (by omega)]
 rw [hV];exact vU (M:=4503599627370496) (s:=s) (bg s) (nj u s) (by omega)
end Go.Proofs
namespace Go.Proofs
open Go.Ide Go.IntWalk
def kD:Nat:=1074
theorem Mv:1000≤kD:=by decide
theorem Mw:kD≤1074:=by decide
theorem Ax:((kD:Nat):Int)=1074:=rfl
attribute [irreducible] kD
theorem Mx:IQ (26+kD)≤9214364837600034816:=Nat.le_trans (Nat.mul_le_mul_right _ (show 26+kD - 51≤2000 by have:=Mw;omega)) (by decide)
def UD:Rat:=((2^kD:Nat):Rat)
theorem DK {n:Nat}(h:0<n):(0:Rat)<(n:Rat):=by
 have:=(Rat.natCast_lt_natCast (a:=0) (b:=n)).2 h;simpa using this
theorem nD (k:Nat):(0:Rat)<((2^k:Nat):Rat):=DK (bg k)
theorem rh:0<UD:=nD kD
def sg (b:Bool)(r:Rat):Rat:=if b then -r else r
def wD (x:Nat):Rat:=sg (x/9223372036854775808%2==1) ((ie x:Nat):Rat)/UD
def hD:Rat:=1/(2*UD)
def lD (e a b:Rat):Prop:=a≤b+e∧b≤a+e
theorem cD {a b:Nat}(h:a≤b):(a:Rat)≤(b:Rat):=Rat.natCast_le_natCast.2 h
theorem Hl (neg:Bool)(u:Nat)(p:Int):Ieee.double.nearest neg u p=(if neg then 9223372036854775808 else 0)+sJ u p:=by
 cases neg with
 |false=>simp only [Bool.false_eq_true,if_false,Nat.zero_add];rfl
 |true=>
  have h:=DJ u p;obtain ⟨r,hr,e⟩:=kv true u p;have e2:Ieee.double.word true r=9223372036854775808+r:=by unfold Ieee.Format.word;rw [if_pos rfl,zW]
  rw [e,e2] at h⊢;rw [if_pos rfl,←h];omega
theorem Hm {neg:Bool}{r:Nat}(h:r<9223372036854775808):(((if neg then 9223372036854775808 else 0)+r)/9223372036854775808%2==1)=neg:=by
 cases neg with
 |false=>simp only [Bool.false_eq_true,if_false,Nat.zero_add];rw [Nat.div_eq_of_lt h];rfl
 |true=>
  rw [if_pos rfl,show (9223372036854775808+r)/9223372036854775808=1 by omega];rfl
theorem Hn {neg:Bool}{r:Nat}:ie ((if neg then 9223372036854775808 else 0)+r)=ie r:=by
 apply Sn;cases neg<;>simp
def FD (x:Nat):Prop:=kP x 2046∧ie x≤2^(26+kD)
theorem Sq:(1393796574908163946345982392040522594123776:Rat)≤UD:=by
 have h:2^140≤2^kD:=Nat.pow_le_pow_right (by omega) (Nat.le_trans (by omega) Mv);have:=cD h;unfold UD;exact this
theorem IT {neg:Bool}{u s:Nat}{v e:Rat}(hv:sg neg ((u:Rat)/(UD*((2^s:Nat):Rat)))=v)(DL:1/1152921504606846976≤e)(xz:e≤67108864)(v1: -e≤v)(v2:v≤e):
 FD (Ieee.double.nearest neg u (-1074 - (s:Int)))∧lD (e/4503599627370496) (wD (Ieee.double.nearest neg u (-1074 - (s:Int)))) v:=by
 have hp:=nD s;have hU:=rh;have hUb:=Sq;have Gq:=Mv;have dU:=Mw;have Sr:0<UD*((2^s:Nat):Rat):=Rat.mul_pos hU hp;have hb:(u:Rat)/(UD*((2^s:Nat):Rat))≤e:=by
  unfold sg at hv;cases neg;simp only [Bool.false_eq_true,if_false] at hv;grind;simp only [if_true] at hv;grind
 have hu:u≤2^((26+kD)+s):=by
  have h1:(u:Rat)≤67108864*(UD*((2^s:Nat):Rat)):=by
   have e2:(u:Rat)/(UD*((2^s:Nat):Rat))*(UD*((2^s:Nat):Rat))=(u:Rat):=by
    generalize UD*((2^s:Nat):Rat)=z at*;grind
   rw [←e2];exact Rat.mul_le_mul_of_nonneg_right (Rat.le_trans hb xz) (Rat.le_of_lt Sr)
  have h2:(67108864:Rat)*(UD*((2^s:Nat):Rat))=((2^((26+kD)+s):Nat):Rat):=by
   rw [Nat.pow_add,Nat.pow_add,Rat.natCast_mul,Rat.natCast_mul,Rat.mul_assoc];rfl
  rw [h2] at h1;exact Rat.natCast_le_natCast.1 h1
 have hle:sJ u (-1074 - (s:Int))≤IQ (26+kD):=Ms (by omega) (by omega) hu;have P0:=Mx;obtain ⟨h1,h2⟩:=O0 (u:=u) (s:=s) (by omega);rw [Hl];have hV:ie (sJ u (-1074 - (s:Int)))≤2^(26+kD):=by
  rw [←IS (m:=26+kD) (by omega) (by omega)];exact DH (by omega) (by omega) hle
 have hr:sJ u (-1074 - (s:Int))≤9214364837600034816:=by omega
 clear hu hle P0;refine ⟨⟨?_,?_⟩,?_⟩;unfold kP;cases neg;simp only [Bool.false_eq_true,if_false];omega;simp only [if_true];omega;rw [Hn];exact hV;clear hV;unfold wD;rw [Hm (by omega),Hn];generalize ie (sJ u (-1074 - (s:Int)))=V at*;have n1:=cD h1;have n2:=cD h2;simp only [Rat.natCast_mul,Rat.natCast_add] at n1 n2;clear h1 h2 hr;unfold lD;generalize ((2^s:Nat):Rat)=P at*;generalize UD=U at*;generalize (u:Rat)=x at*;generalize (V:Rat)=y at*;have c1:(((9007199254740992:Nat):Rat))=9007199254740992:=rfl;have c2:(((4503599627370496:Nat):Rat))=4503599627370496:=rfl;rw [c1,c2] at n1 n2;have e1:y/U*(U*P)=y*P:=by grind
 have e2:x/(U*P)*(U*P)=x:=by grind
 have e3:1/(2*U)*(U*P)=P/2:=by grind
 have main:y/U≤x/(U*P)+(x/(U*P)/9007199254740992+1/(2*U))∧x/(U*P)≤y/U+(x/(U*P)/9007199254740992+1/(2*U)):=by
  constructor;refine Rat.le_of_mul_le_mul_right ?_ Sr;have:(x/(U*P)+(x/(U*P)/9007199254740992+1/(2*U)))*(U*P)=x+x/9007199254740992+P/2:=by grind
  rw [this,e1];grind;refine Rat.le_of_mul_le_mul_right ?_ Sr;have:(y/U+(x/(U*P)/9007199254740992+1/(2*U)))*(U*P)=y*P+x/9007199254740992+P/2:=by grind
  rw [this,e2];grind
 have hd:1/(2*U)≤1/1393796574908163946345982392040522594123776:=by
  refine Rat.le_of_mul_le_mul_right ?_ (c:=2*U) (by grind);have:1/(2*U)*(2*U)=1:=by grind
  rw [this];grind
 have YR:sg neg y/U=sg neg (y/U):=by
  unfold sg;cases neg;simp;simp only [if_true];grind
 rw [YR];obtain ⟨m1,m2⟩:=main;generalize y/U=a at*;generalize x/(U*P)=b at*;generalize 1/(2*U)=d at*;unfold sg at hv⊢;cases neg;simp only [Bool.false_eq_true,if_false] at hv⊢;constructor<;>grind;simp only [if_true] at hv⊢;constructor<;>grind
theorem Z1 {b:Bool}{r c:Rat}:sg b r/c=sg b (r/c):=by
 unfold sg;cases b;simp;simp only [if_true];grind
theorem oU {x:Nat}(h:FD x): ∃sn m i,Ieee.double.read x= .number sn m (-1074+((i:Nat):Int))∧wD x=sg sn (((m*2^i:Nat):Rat)/UD)∧ie x=m*2^i:=by
 obtain ⟨m,i,e,v⟩:=IP h.1 (by omega) (by omega);refine ⟨_,m,i,e,?_,v⟩;unfold wD;rw [Z1,v]
theorem Ay {b:Bool}{m:Nat}:sg b (m:Rat)=(((if b then -(m:Int) else (m:Int)):Int):Rat):=by
 unfold sg;cases b;simp only [Bool.false_eq_true,if_false];rfl;simp only [if_true];rw [Rat.intCast_neg];rfl
theorem oo (b:Bool)(m u:Nat):Ieee.signed b m u=if b then -((m*2^u:Nat):Int) else ((m*2^u:Nat):Int):=by
 cases b;rw [bn];rfl;rw [dR];rfl
theorem U9 {s t:Bool}{m n i j:Nat}{neg:Bool}{z:Int}{e v:Rat}(hz:z=Ieee.signed s m ((-1074+(i:Int)) - min (-1074+(i:Int)) (-1074+(j:Int))).toNat+Ieee.signed t n ((-1074+(j:Int)) - min (-1074+(i:Int)) (-1074+(j:Int))).toNat)(E2:z≠0→neg=decide (z<0))(hv:v=sg s (((m*2^i:Nat):Rat)/UD)+sg t (((n*2^j:Nat):Rat)/UD))(DL:1/1152921504606846976≤e)(xz:e≤67108864)(v1: -e≤v)(v2:v≤e):
 FD (Ieee.double.nearest neg z.natAbs (min (-1074+(i:Int)) (-1074+(j:Int))))∧lD (e/4503599627370496) (wD (Ieee.double.nearest neg z.natAbs (min (-1074+(i:Int)) (-1074+(j:Int))))) v:=by
 have wE:min (-1074+(i:Int)) (-1074+(j:Int))= -1074+((min i j:Nat):Int):=by omega
 have e3:(-1074+(i:Int) - (-1074+((min i j:Nat):Int))).toNat=i - min i j:=by omega
 have e4:(-1074+(j:Int) - (-1074+((min i j:Nat):Int))).toNat=j - min i j:=by omega
 rw [wE] at hz⊢;rw [e3,e4,oo,oo] at hz;have sA:m*2^i=m*2^(i - min i j)*2^min i j:=by rw [Nat.mul_assoc,←Nat.pow_add,show i - min i j+min i j=i by omega]
 have sB:n*2^j=n*2^(j - min i j)*2^min i j:=by rw [Nat.mul_assoc,←Nat.pow_add,show j - min i j+min i j=j by omega]
 have sc:=dz (f:=Ieee.double) (neg:=neg) (mag:=z.natAbs) (s:=min i j) (place:= -1074+((min i j:Nat):Int));rw [show -1074+((min i j:Nat):Int) - ((min i j:Nat):Int)= -1074 - ((0:Nat):Int) by omega] at sc;rw [←sc];rw [sA,sB] at hv;generalize m*2^(i - min i j)=A at*;generalize n*2^(j - min i j)=B at*;refine IT ?_ DL xz v1 v2;rw [hv,Nat.pow_zero];have hU:=rh;have key:sg neg ((z.natAbs:Nat):Rat)=sg s (A:Rat)+sg t (B:Rat):=by
  suffices ze:(if neg then -((z.natAbs:Nat):Int) else ((z.natAbs:Nat):Int))=(if s then -((A:Nat):Int) else ((A:Nat):Int))+(if t then -((B:Nat):Int) else ((B:Nat):Int)) by
   rw [Ay,Ay,Ay,←Rat.intCast_add,ze]
  rw [←hz];clear hv v1 v2 sc;by_cases h0:z=0;rw [h0];cases neg<;>rfl;rw [E2 h0];by_cases h1:z<0;rw [decide_eq_true h1,if_pos rfl];omega;rw [decide_eq_false h1];simp only [Bool.false_eq_true,if_false];omega
 rw [Rat.natCast_mul,Rat.natCast_mul,Rat.natCast_mul];generalize ((2^min i j:Nat):Rat)=P;generalize ((z.natAbs:Nat):Rat)=x at*;generalize (A:Rat)=a at*;generalize (B:Rat)=b at*;generalize UD=U at*;have c1:((1:Nat):Rat)=1:=rfl;rw [c1];unfold sg at key⊢;cases neg<;>cases s<;>cases t<;>simp only [Bool.false_eq_true,if_false,if_true] at key⊢ <;>grind
theorem vV {x:Nat}(h:FD x):bw .f64 x=x:=lp h.1 (by omega)
theorem Ss {x y:Nat}{e:Rat}(hx:FD x)(hy:FD y)(DL:1/1152921504606846976≤e)(xz:e≤67108864)(v1: -e≤wD x+wD y)(v2:wD x+wD y≤e):
 FD (av .add .f64 x y)∧lD (e/4503599627370496) (wD (av .add .f64 x y)) (wD x+wD y):=by
 obtain ⟨s,m,i,e1,w1,_⟩:=oU hx;obtain ⟨t,n,j,e2,w2,_⟩:=oU hy;rw [BU e1 e2];have:=U9 (neg:=(if Ieee.signed s m ((-1074+(i:Int)) - min (-1074+(i:Int)) (-1074+(j:Int))).toNat+Ieee.signed t n ((-1074+(j:Int)) - min (-1074+(i:Int)) (-1074+(j:Int))).toNat=0 then s&&t else Ieee.signed s m ((-1074+(i:Int)) - min (-1074+(i:Int)) (-1074+(j:Int))).toNat+Ieee.signed t n ((-1074+(j:Int)) - min (-1074+(i:Int)) (-1074+(j:Int))).toNat<0)) rfl (fun h=>by rw [if_neg h]) (by rw [←w1,←w2]) DL xz v1 v2;rw [vV this.1];exact this
theorem My {x y:Nat}{e:Rat}(hx:FD x)(hy:FD y)(DL:1/1152921504606846976≤e)(xz:e≤67108864)(v1: -e≤wD x - wD y)(v2:wD x - wD y≤e):
 FD (av .sub .f64 x y)∧lD (e/4503599627370496) (wD (av .sub .f64 x y)) (wD x - wD y):=by
 obtain ⟨s,m,i,e1,w1,_⟩:=oU hx;obtain ⟨t,n,j,e2,w2,_⟩:=oU hy;rw [JQ e1 e2];have hn:sg (!t) (((n*2^j:Nat):Rat)/UD)= -wD y:=by
  rw [w2];unfold sg;cases t;simp;simp
 have:=U9 (neg:=(if Ieee.signed s m ((-1074+(i:Int)) - min (-1074+(i:Int)) (-1074+(j:Int))).toNat+Ieee.signed (!t) n ((-1074+(j:Int)) - min (-1074+(i:Int)) (-1074+(j:Int))).toNat=0 then s&& !t else Ieee.signed s m ((-1074+(i:Int)) - min (-1074+(i:Int)) (-1074+(j:Int))).toNat+Ieee.signed (!t) n ((-1074+(j:Int)) - min (-1074+(i:Int)) (-1074+(j:Int))).toNat<0)) rfl (fun h=>by rw [if_neg h]) (show wD x - wD y=_ by rw [←w1,hn];grind) DL xz v1 v2;rw [vV this.1];exact this
theorem Fv {x y:Nat}{e:Rat}(hx:FD x)(hy:FD y)(DL:1/1152921504606846976≤e)(xz:e≤67108864)(v1: -e≤wD x*wD y)(v2:wD x*wD y≤e):
 FD (av .mul .f64 x y)∧lD (e/4503599627370496) (wD (av .mul .f64 x y)) (wD x*wD y):=by
 obtain ⟨s,m,i,e1,w1,_⟩:=oU hx;obtain ⟨t,n,j,e2,w2,_⟩:=oU hy;have e3:floatBits .mul .f64 x y=some (Ieee.double.nearest (s^^t) (m*n) (-2148+((i+j:Nat):Int))):=by
  show Ieee.double.mul x y=_;unfold Ieee.Format.mul;rw [e1,e2];show some (Ieee.double.nearest _ (m*n) (-1074+(i:Int)+(-1074+(j:Int))))=_;rw [show -1074+(i:Int)+(-1074+(j:Int))= -2148+((i+j:Nat):Int) by omega]
 have sc:=dz (f:=Ieee.double) (neg:=s^^t) (mag:=m*n) (s:=i+j) (place:= -2148+((i+j:Nat):Int));rw [show -2148+((i+j:Nat):Int) - ((i+j:Nat):Int)= -1074 - ((kD:Nat):Int) by rw [Ax];omega] at sc;unfold av;rw [e3];simp only;rw [←sc];have:=IT (neg:=s^^t) (u:=m*n*2^(i+j)) (s:=kD) (v:=wD x*wD y) (e:=e) (by
  rw [w1,w2];have e4:m*n*2^(i+j)=(m*2^i)*(n*2^j):=by rw [Nat.pow_add];ac_rfl
  rw [e4,Rat.natCast_mul (m*2^i)];have hU:=rh;have hk:((2^kD:Nat):Rat)=UD:=rfl;rw [hk];generalize UD=U at*;generalize ((m*2^i:Nat):Rat)=a;generalize ((n*2^j:Nat):Rat)=b;unfold sg;cases s<;>cases t<;>simp only [Bool.xor_true,Bool.xor_false,Bool.not_true,Bool.not_false,Bool.false_eq_true,if_false,if_true]<;>grind) DL xz v1 v2
 rw [vV this.1];exact this
end Go.Proofs
namespace Go.Proofs
open Go.Ide Go.IntWalk
theorem Su {u s:Nat}(hf:RN u (-149 - (s:Int))<2139095040):
 bj (RN u (-149 - (s:Int)))*2^s*16777216≤u*16777216+u+2^s*8388608∧u*16777216≤bj (RN u (-149 - (s:Int)))*2^s*16777216+u+2^s*8388608:=by
 by_cases h0:u=0;subst h0;rw [vG,fx];omega;have dU:=pj (neg:=false) (mag:=u) (f:=23) (p:= -149 - (s:Int)) (last:=max (-149 - (s:Int)+(u.log2:Int) - ((23:Nat):Int)) (-149)) (by omega);have JT:(2:Nat)^(23+1)=16777216:=by decide
 have GV:(2:Nat)^23=8388608:=by decide
 rw [JT] at dU;have qt:Ieee.single.fractionBits=23:=rfl;by_cases hl:23+s≤u.log2;have hk:=qU (neg:=false) (mag:=u) (f:=23) (p:= -149 - (s:Int)) (last:= -149 - (s:Int)+(u.log2:Int) - ((23:Nat):Int)) h0 rfl;have m5:max (-149 - (s:Int)+(u.log2:Int) - ((23:Nat):Int)) (-149)= -149 - (s:Int)+(u.log2:Int) - ((23:Nat):Int):=by omega
 rw [m5] at dU;rw [GV] at hk;have e1:(-149 - (s:Int) - (-149 - (s:Int)+(u.log2:Int) - ((23:Nat):Int))).toNat=0:=by omega
 have e2:(-149 - (s:Int)+(u.log2:Int) - ((23:Nat):Int) - (-149 - (s:Int))).toNat=u.log2 - 23:=by omega
 have e3:(-149 - (s:Int)+(u.log2:Int) - ((23:Nat):Int) - -149).toNat=u.log2 - 23 - s:=by omega
 rw [e1,e2,Nat.shiftLeft_zero] at hk dU;have hR:RN u (-149 - (s:Int))=min ((u.log2 - 23 - s)*8388608+Ieee.Toward.cut .even false u (u.log2 - 23)) 2139095040:=by
  unfold RN Ieee.Format.nearest;rw [if_neg h0];have hw: ∀r,Ieee.single.word false r=r:=fun r=>rfl;simp only [wP,rR,qR,qt];rw [hw,m5,e1,e2,e3,Nat.shiftLeft_zero]
 rw [hR] at hf⊢;obtain ⟨hm,cq⟩:=vR hf;rw [hm,Hj hk dU (Nat.lt_trans cq (by decide)),Nat.mul_assoc (Ieee.Toward.cut _ _ _ _),←Nat.pow_add,show u.log2 - 23 - s+s=u.log2 - 23 by omega];have Mu:=Nat.log2_self_le h0;have:=vU (M:=8388608) (s:=s) (bg (u.log2 - 23)) (nj u (u.log2 - 23)) (by
  have e:2^(u.log2 - 23)*8388608=2^u.log2:=by rw [←GV,←Nat.pow_add];congr 1;omega
  rw [e];omega)
 exact this;have m5:max (-149 - (s:Int)+(u.log2:Int) - ((23:Nat):Int)) (-149)= -149:=by omega
 rw [m5] at dU;have e1:(-149 - (s:Int) - -149).toNat=0:=by omega
 have e2:((-149:Int) - (-149 - (s:Int))).toNat=s:=by omega
 have e3:((-149:Int) - -149).toNat=0:=by omega
 rw [e1,e2,Nat.shiftLeft_zero] at dU;have hR:RN u (-149 - (s:Int))=min (Ieee.Toward.cut .even false u s) 2139095040:=by
  unfold RN Ieee.Format.nearest;rw [if_neg h0];have hw: ∀r,Ieee.single.word false r=r:=fun r=>rfl;simp only [wP,rR,qR,qt];rw [hw,m5,e1,e2,e3,Nat.shiftLeft_zero,Nat.zero_mul,Nat.zero_add]
 have YQ:Ieee.Toward.cut .even false u s≤8388608:=by
  have h1:u<2^(23+s):=(Nat.log2_lt h0).1 (by omega);have h2:=(nj u s).1;rw [Nat.pow_add,GV] at h1;have hp:=bg s;generalize 2^s=g at*;apply Nat.le_of_lt_succ;apply Nat.lt_of_mul_lt_mul_right (a:=g);rw [Nat.succ_mul];omega
 rw [hR,Nat.min_eq_left (by omega)];have hV:bj (Ieee.Toward.cut .even false u s)=Ieee.Toward.cut .even false u s:=by
  have:=Hj (t:=0) (k:=8388608) (by omega) (by omega) (by omega);by_cases e:Ieee.Toward.cut .even false u s=8388608;rw [e];rw [Nat.zero_mul,Nat.zero_add,Nat.pow_zero,Nat.mul_one] at this;exact this;unfold bj;rw [Nat.mod_eq_of_lt (by omega),if_pos (by omega)]
 rw [hV];exact vU (M:=8388608) (s:=s) (bg s) (nj u s) (by omega)
def kS:Nat:=149
theorem P5:145≤kS:=by decide
theorem P6:kS≤149:=by decide
theorem Ho:((kS:Nat):Int)=149:=rfl
attribute [irreducible] kS
theorem O1:pw (26+kS)≤2130706432:=Nat.le_trans (Nat.mul_le_mul_right _ (show 26+kS - 22≤200 by have:=P6;omega)) (by decide)
def US:Rat:=((2^kS:Nat):Rat)
theorem dH:0<US:=nD kS
def wS (x:Nat):Rat:=sg (x/2147483648%2==1) ((bj x:Nat):Rat)/US
def hS:Rat:=1/(2*US)
theorem Hp (neg:Bool)(u:Nat)(p:Int):Ieee.single.nearest neg u p=(if neg then 2147483648 else 0)+RN u p:=by
 cases neg with
 |false=>simp only [Bool.false_eq_true,if_false,Nat.zero_add];rfl
 |true=>
  have h:=xV u p;obtain ⟨r,hr,e⟩:=oK true u p;have e2:Ieee.single.word true r=2147483648+r:=by unfold Ieee.Format.word;rw [if_pos rfl,vA]
  rw [e,e2] at h⊢;rw [if_pos rfl,←h];omega
theorem O2 {neg:Bool}{r:Nat}(h:r<2147483648):(((if neg then 2147483648 else 0)+r)/2147483648%2==1)=neg:=by
 cases neg with
 |false=>simp only [Bool.false_eq_true,if_false,Nat.zero_add];rw [Nat.div_eq_of_lt h];rfl
 |true=>
  rw [if_pos rfl,show (2147483648+r)/2147483648=1 by omega];rfl
theorem Mz {neg:Bool}{r:Nat}:bj ((if neg then 2147483648 else 0)+r)=bj r:=by
 apply E8;cases neg<;>simp
def FS (x:Nat):Prop:=bd x 254∧bj x≤2^(26+kS)
theorem Sv:(1393796574908163946345982392040522594123776:Rat)≤US:=by
 have h:2^140≤2^kS:=Nat.pow_le_pow_right (by omega) (Nat.le_trans (by omega) P5);have:=cD h;unfold US;exact this
theorem P7 {neg:Bool}{u s:Nat}{v e:Rat}(hv:sg neg ((u:Rat)/(US*((2^s:Nat):Rat)))=v)(DL:1/1152921504606846976≤e)(xz:e≤67108864)(v1: -e≤v)(v2:v≤e):
 FS (Ieee.single.nearest neg u (-149 - (s:Int)))∧lD (e/8388608) (wS (Ieee.single.nearest neg u (-149 - (s:Int)))) v:=by
 have hp:=nD s;have hU:=dH;have hUb:=Sv;have Gq:=P5;have dU:=P6;have Sr:0<US*((2^s:Nat):Rat):=Rat.mul_pos hU hp;have hb:(u:Rat)/(US*((2^s:Nat):Rat))≤e:=by
  unfold sg at hv;cases neg;simp only [Bool.false_eq_true,if_false] at hv;grind;simp only [if_true] at hv;grind
 have hu:u≤2^((26+kS)+s):=by
  have h1:(u:Rat)≤67108864*(US*((2^s:Nat):Rat)):=by
   have e2:(u:Rat)/(US*((2^s:Nat):Rat))*(US*((2^s:Nat):Rat))=(u:Rat):=by
    generalize US*((2^s:Nat):Rat)=z at*;grind
   rw [←e2];exact Rat.mul_le_mul_of_nonneg_right (Rat.le_trans hb xz) (Rat.le_of_lt Sr)
  have h2:(67108864:Rat)*(US*((2^s:Nat):Rat))=((2^((26+kS)+s):Nat):Rat):=by
   rw [Nat.pow_add,Nat.pow_add,Rat.natCast_mul,Rat.natCast_mul,Rat.mul_assoc];rfl
  rw [h2] at h1;exact Rat.natCast_le_natCast.1 h1
 have hle:RN u (-149 - (s:Int))≤pw (26+kS):=IK (by omega) (by omega) hu;have P0:=O1;obtain ⟨h1,h2⟩:=Su (u:=u) (s:=s) (by omega);rw [Hp];have hV:bj (RN u (-149 - (s:Int)))≤2^(26+kS):=by
  rw [←Mn (m:=26+kS) (by omega) (by omega)];exact jy (by omega) (by omega) hle
 have hr:RN u (-149 - (s:Int))≤2130706432:=by omega
 clear hu hle P0;refine ⟨⟨?_,?_⟩,?_⟩;unfold bd;cases neg;simp only [Bool.false_eq_true,if_false];omega;simp only [if_true];omega;rw [Mz];exact hV;clear hV;unfold wS;rw [O2 (by omega),Mz];generalize bj (RN u (-149 - (s:Int)))=V at*;have n1:=cD h1;have n2:=cD h2;simp only [Rat.natCast_mul,Rat.natCast_add] at n1 n2;clear h1 h2 hr;unfold lD;generalize ((2^s:Nat):Rat)=P at*;generalize US=U at*;generalize (u:Rat)=x at*;generalize (V:Rat)=y at*;have c1:(((16777216:Nat):Rat))=16777216:=rfl;have c2:(((8388608:Nat):Rat))=8388608:=rfl;rw [c1,c2] at n1 n2;have e1:y/U*(U*P)=y*P:=by grind
 have e2:x/(U*P)*(U*P)=x:=by grind
 have e3:1/(2*U)*(U*P)=P/2:=by grind
 have main:y/U≤x/(U*P)+(x/(U*P)/16777216+1/(2*U))∧x/(U*P)≤y/U+(x/(U*P)/16777216+1/(2*U)):=by
  constructor;refine Rat.le_of_mul_le_mul_right ?_ Sr;have:(x/(U*P)+(x/(U*P)/16777216+1/(2*U)))*(U*P)=x+x/16777216+P/2:=by grind
  rw [this,e1];grind;refine Rat.le_of_mul_le_mul_right ?_ Sr;have:(y/U+(x/(U*P)/16777216+1/(2*U)))*(U*P)=y*P+x/16777216+P/2:=by grind
  rw [this,e2];grind
 have hd:1/(2*U)≤1/1393796574908163946345982392040522594123776:=by
  refine Rat.le_of_mul_le_mul_right ?_ (c:=2*U) (by grind);have:1/(2*U)*(2*U)=1:=by grind
  rw [this];grind
 have YR:sg neg y/U=sg neg (y/U):=by
  unfold sg;cases neg;simp;simp only [if_true];grind
 rw [YR];obtain ⟨m1,m2⟩:=main;generalize y/U=a at*;generalize x/(U*P)=b at*;generalize 1/(2*U)=d at*;unfold sg at hv⊢;cases neg;simp only [Bool.false_eq_true,if_false] at hv⊢;constructor<;>grind;simp only [if_true] at hv⊢;constructor<;>grind
theorem Az {x:Nat}(h:FS x): ∃sn m i,Ieee.single.read x= .number sn m (-149+((i:Nat):Int))∧wS x=sg sn (((m*2^i:Nat):Rat)/US)∧bj x=m*2^i:=by
 obtain ⟨m,i,e,v⟩:=nv h.1 (by omega) (by omega);refine ⟨_,m,i,e,?_,v⟩;unfold wS;rw [Z1,v]
theorem YS {s t:Bool}{m n i j:Nat}{neg:Bool}{z:Int}{e v:Rat}(hz:z=Ieee.signed s m ((-149+(i:Int)) - min (-149+(i:Int)) (-149+(j:Int))).toNat+Ieee.signed t n ((-149+(j:Int)) - min (-149+(i:Int)) (-149+(j:Int))).toNat)(E2:z≠0→neg=decide (z<0))(hv:v=sg s (((m*2^i:Nat):Rat)/US)+sg t (((n*2^j:Nat):Rat)/US))(DL:1/1152921504606846976≤e)(xz:e≤67108864)(v1: -e≤v)(v2:v≤e):
 FS (Ieee.single.nearest neg z.natAbs (min (-149+(i:Int)) (-149+(j:Int))))∧lD (e/8388608) (wS (Ieee.single.nearest neg z.natAbs (min (-149+(i:Int)) (-149+(j:Int))))) v:=by
 have wE:min (-149+(i:Int)) (-149+(j:Int))= -149+((min i j:Nat):Int):=by omega
 have e3:(-149+(i:Int) - (-149+((min i j:Nat):Int))).toNat=i - min i j:=by omega
 have e4:(-149+(j:Int) - (-149+((min i j:Nat):Int))).toNat=j - min i j:=by omega
 rw [wE] at hz⊢;rw [e3,e4,oo,oo] at hz;have sA:m*2^i=m*2^(i - min i j)*2^min i j:=by rw [Nat.mul_assoc,←Nat.pow_add,show i - min i j+min i j=i by omega]
 have sB:n*2^j=n*2^(j - min i j)*2^min i j:=by rw [Nat.mul_assoc,←Nat.pow_add,show j - min i j+min i j=j by omega]
 have sc:=dz (f:=Ieee.single) (neg:=neg) (mag:=z.natAbs) (s:=min i j) (place:= -149+((min i j:Nat):Int));rw [show -149+((min i j:Nat):Int) - ((min i j:Nat):Int)= -149 - ((0:Nat):Int) by omega] at sc;rw [←sc];rw [sA,sB] at hv;generalize m*2^(i - min i j)=A at*;generalize n*2^(j - min i j)=B at*;refine P7 ?_ DL xz v1 v2;rw [hv,Nat.pow_zero];have hU:=dH;have key:sg neg ((z.natAbs:Nat):Rat)=sg s (A:Rat)+sg t (B:Rat):=by
  suffices ze:(if neg then -((z.natAbs:Nat):Int) else ((z.natAbs:Nat):Int))=(if s then -((A:Nat):Int) else ((A:Nat):Int))+(if t then -((B:Nat):Int) else ((B:Nat):Int)) by
   rw [Ay,Ay,Ay,←Rat.intCast_add,ze]
  rw [←hz];clear hv v1 v2 sc;by_cases h0:z=0;rw [h0];cases neg<;>rfl;rw [E2 h0];by_cases h1:z<0;rw [decide_eq_true h1,if_pos rfl];omega;rw [decide_eq_false h1];simp only [Bool.false_eq_true,if_false];omega
 rw [Rat.natCast_mul,Rat.natCast_mul,Rat.natCast_mul];generalize ((2^min i j:Nat):Rat)=P;generalize ((z.natAbs:Nat):Rat)=x at*;generalize (A:Rat)=a at*;generalize (B:Rat)=b at*;generalize US=U at*;have c1:((1:Nat):Rat)=1:=rfl;rw [c1];unfold sg at key⊢;cases neg<;>cases s<;>cases t<;>simp only [Bool.false_eq_true,if_false,if_true] at key⊢ <;>grind
theorem IU {x:Nat}(h:FS x):bw .f32 x=x:=qd h.1 (by omega)
theorem Va {x y:Nat}{e:Rat}(hx:FS x)(hy:FS y)(DL:1/1152921504606846976≤e)(xz:e≤67108864)(v1: -e≤wS x+wS y)(v2:wS x+wS y≤e):
 FS (av .add .f32 x y)∧lD (e/8388608) (wS (av .add .f32 x y)) (wS x+wS y):=by
 obtain ⟨s,m,i,e1,w1,_⟩:=Az hx;obtain ⟨t,n,j,e2,w2,_⟩:=Az hy;rw [E3 e1 e2];have:=YS (neg:=(if Ieee.signed s m ((-149+(i:Int)) - min (-149+(i:Int)) (-149+(j:Int))).toNat+Ieee.signed t n ((-149+(j:Int)) - min (-149+(i:Int)) (-149+(j:Int))).toNat=0 then s&&t else Ieee.signed s m ((-149+(i:Int)) - min (-149+(i:Int)) (-149+(j:Int))).toNat+Ieee.signed t n ((-149+(j:Int)) - min (-149+(i:Int)) (-149+(j:Int))).toNat<0)) rfl (fun h=>by rw [if_neg h]) (by rw [←w1,←w2]) DL xz v1 v2;rw [IU this.1];exact this
end Go.Proofs
namespace Go.Proofs
open Go.Ide Go.IntWalk
theorem O3 {n M Q:Nat}(hn:0<n)(hQ:Q=2*(M/n)+(M%n != 0).toNat):Q*n≤2*M+n∧2*M≤Q*n+n:=by
 have h1:=Nat.div_add_mod M n;have h2:=Nat.mod_lt M hn;generalize M/n=q at*;generalize M%n=r at*;subst hQ;rw [Nat.add_mul,Nat.mul_assoc,Nat.mul_comm q n];by_cases e:r=0;subst e;simp only [bne_self_eq_false,Bool.toNat_false,Nat.zero_mul];omega;have:(r != 0)=true:=by simpa using e
 rw [this];simp only [Bool.toNat_true,Nat.one_mul];omega
theorem YT {s t:Bool}{U a b g M N K e q:Rat}(hU:0<U)(ha:0<a)(hb:0<b)(hg:0<g)(hn:0<N)(m0:0≤M)(n1:K*N≤((2:Nat):Rat)*(M*g)+N)(n2:((2:Nat):Rat)*(M*g)≤K*N+N)(n3:M≠0→N*9007199254740992≤M*g)(n4:M=0→K=0)(hq:q*sg t (N*b/U)=sg s (M*a/U))(he:1/1152921504606846976≤e)(v1: -e≤q)(v2:q≤e):lD (e/9007199254740992) (sg (s^^t) (K*a/(b*g*2))) q:=by
 have h2:((2:Nat):Rat)=2:=rfl;rw [h2] at n1 n2;have We:0<b*g:=Rat.mul_pos hb hg;have hz: ∃z,z=M*a/(N*b):=⟨_,rfl⟩;obtain ⟨z,hz⟩:=hz;have hNb:0<N*b:=Rat.mul_pos hn hb;have z0:0≤z:=by
  rw [hz];refine Rat.le_of_mul_le_mul_right ?_ hNb;have:M*a/(N*b)*(N*b)=M*a:=by grind
  rw [this,Rat.zero_mul];exact Rat.mul_nonneg m0 (Rat.le_of_lt ha)
 have hqz:q=sg (s^^t) z:=by
  have hNU:N*b/U≠0:=by
   intro h;have:N*b/U*U=N*b:=by grind
   rw [h] at this;grind
  unfold sg at hq⊢;cases s<;>cases t<;>simp only [Bool.xor_true,Bool.xor_false,Bool.not_true,Bool.not_false,Bool.false_eq_true,if_false,if_true] at hq⊢ <;>grind
 have main:lD (z/9007199254740992) (K*a/(b*g*2)) z:=by
  by_cases hM:M=0;have hK:=n4 hM;have:z=0:=by rw [hz,hM];grind
  rw [this,hK];constructor<;>grind;have h3:=n3 hM;have hW:0<N*(b*g*2):=Rat.mul_pos hn (by grind);have ez:z*(N*(b*g*2))=2*(M*g)*a:=by rw [hz];grind
  have ek:K*a/(b*g*2)*(N*(b*g*2))=K*N*a:=by grind
  have a1:=Rat.mul_le_mul_of_nonneg_right n1 (Rat.le_of_lt ha);have a2:=Rat.mul_le_mul_of_nonneg_right n2 (Rat.le_of_lt ha);have a3:=Rat.mul_le_mul_of_nonneg_right h3 (Rat.le_of_lt ha);constructor;refine Rat.le_of_mul_le_mul_right ?_ hW;have:(z+z/9007199254740992)*(N*(b*g*2))=z*(N*(b*g*2))+z*(N*(b*g*2))/9007199254740992:=by grind
  rw [this,ek,ez];grind;refine Rat.le_of_mul_le_mul_right ?_ hW;have:(K*a/(b*g*2)+z/9007199254740992)*(N*(b*g*2))=K*a/(b*g*2)*(N*(b*g*2))+z*(N*(b*g*2))/9007199254740992:=by grind
  rw [this,ek,ez];grind
 obtain ⟨k1,k2⟩:=main;generalize K*a/(b*g*2)=k at*;subst hqz;clear hq hz n1 n2 n3 n4;unfold sg at v1 v2⊢;cases s<;>cases t<;>simp only [Bool.xor_true,Bool.xor_false,Bool.not_true,Bool.not_false,Bool.false_eq_true,if_false,if_true] at v1 v2⊢ <;>constructor<;>grind
theorem YU {m n:Nat}(hm:m≠0)(h:m<9007199254740992):n*9007199254740992≤m*2^(52+2+n.log2 - m.log2):=by
 have Sk:=Nat.log2_self_le hm;have U5:n<2^(n.log2+1):=Nat.lt_log2_self;have LF:m.log2≤52:=by
  have:=(Nat.log2_lt (k:=53) hm).2 (by omega);omega
 have q1:2^m.log2*2^(52+2+n.log2 - m.log2)≤m*2^(52+2+n.log2 - m.log2):=Nat.mul_le_mul_right _ Sk;rw [←Nat.pow_add,show m.log2+(52+2+n.log2 - m.log2)=(n.log2+1)+53 by omega,Nat.pow_add] at q1;have e53:(2:Nat)^53=9007199254740992:=by decide
 rw [e53] at q1;exact Nat.le_trans (Nat.mul_le_mul_right _ (Nat.le_of_lt U5)) q1
theorem Vb {x y:Nat}{e q:Rat}(hx:FD x)(hy:FD y)(XC:wD y≠0)(hq:q*wD y=wD x)(DL:1/1152921504606846976≤e)(xz:e≤33554432)(v1: -e≤q)(v2:q≤e):
 FD (av .quo .f64 x y)∧lD (e/1125899906842624) (wD (av .quo .f64 x y)) q:=by
 obtain ⟨s,m,i,e1,w1,_⟩:=oU hx;obtain ⟨t,n,j,e2,w2,_⟩:=oU hy;have hU:=rh;have hn:n≠0:=by
  rintro rfl;apply XC;rw [w2,Nat.zero_mul];unfold sg;cases t<;>grind
 have hf:Ieee.double.fractionBits=52:=rfl;have e3:floatBits .quo .f64 x y=some (Ieee.double.nearest (s^^t) (2*(m*2^(52+2+n.log2 - m.log2)/n)+(m*2^(52+2+n.log2 - m.log2)%n != 0).toNat) (-1074+(i:Int) - (-1074+(j:Int)) - ((52+2+n.log2 - m.log2:Nat):Int) - 1)):=by
  show Ieee.double.div x y=_;unfold Ieee.Format.div;rw [e1,e2];unfold Ieee.Datum.quotient;simp only [hf,Nat.shiftLeft_eq];rw [if_neg hn];rfl
 have OV:m≠0→n*9007199254740992≤m*2^(52+2+n.log2 - m.log2):=fun hm=>YU hm (xQ e1);unfold av;rw [e3];simp only;generalize 52+2+n.log2 - m.log2=more at*;obtain ⟨s1,s2⟩:=O3 (Nat.pos_of_ne_zero hn) (rfl:2*(m*2^more/n)+(m*2^more%n != 0).toNat=_);have Z2:m=0→2*(m*2^more/n)+(m*2^more%n != 0).toNat=0:=by rintro rfl;simp
 generalize 2*(m*2^more/n)+(m*2^more%n != 0).toNat=Q at*;have sc:=dz (f:=Ieee.double) (neg:=s^^t) (mag:=Q) (s:=i+kD) (place:= -1074+(i:Int) - (-1074+(j:Int)) - ((more:Nat):Int) - 1);rw [show -1074+(i:Int) - (-1074+(j:Int)) - ((more:Nat):Int) - 1 - ((i+kD:Nat):Int)= -1074 - ((j+more+1:Nat):Int) by have:=Ax;omega] at sc;rw [←sc];have hb:=nD j;have hg:=nD more;have ha:=nD i;have hnR:(0:Rat)<(n:Rat):=DK (Nat.pos_of_ne_zero hn);have n1:=cD s1;have n2:=cD s2;have n3:(m:Rat)≠0→(n:Rat)*9007199254740992≤(m:Rat)*((2^more:Nat):Rat):=by
  intro h;have hm:m≠0:=by rintro rfl;exact h rfl
  have:=cD (OV hm);rw [Rat.natCast_mul,Rat.natCast_mul] at this;exact this
 have n4:(m:Rat)=0→(Q:Rat)=0:=by
  intro h;have hm:m=0:=by
   have:((m:Nat):Rat)=((0:Nat):Rat):=h;exact Rat.natCast_inj.1 this
  rw [Z2 hm];rfl
 have m0:(0:Rat)≤(m:Rat):=by have:=cD (Nat.zero_le m);simpa using this
 simp only [Rat.natCast_mul,Rat.natCast_add] at n1 n2;have hv:((Q*2^(i+kD):Nat):Rat)/(UD*((2^(j+more+1):Nat):Rat))=(Q:Rat)*((2^i:Nat):Rat)/(((2^j:Nat):Rat)*((2^more:Nat):Rat)*2):=by
  rw [Nat.pow_add,Nat.pow_succ,Nat.pow_add,Rat.natCast_mul,Rat.natCast_mul,Rat.natCast_mul,Rat.natCast_mul];have hk:((2^kD:Nat):Rat)=UD:=rfl;have h2:((2:Nat):Rat)=2:=rfl;rw [hk,h2];generalize UD=U at*;generalize ((2^i:Nat):Rat)=a at*;generalize ((2^j:Nat):Rat)=b at*;generalize ((2^more:Nat):Rat)=g at*;have:b*g≠0:=Rat.ne_of_gt (Rat.mul_pos hb hg);grind
 have hw:wD x=sg s ((m:Rat)*((2^i:Nat):Rat)/UD):=by rw [w1,Rat.natCast_mul]
 have Cc:wD y=sg t ((n:Rat)*((2^j:Nat):Rat)/UD):=by rw [w2,Rat.natCast_mul]
 rw [hw,Cc] at hq;have key:lD (e/9007199254740992) (sg (s^^t) ((Q:Rat)*((2^i:Nat):Rat)/(((2^j:Nat):Rat)*((2^more:Nat):Rat)*2))) q:=by
  clear hv sc e1 e2 e3 s1 s2 Z2 OV w1 w2 hw Cc XC hx hy hf;generalize UD=U at*;generalize ((2^i:Nat):Rat)=a at*;generalize ((2^j:Nat):Rat)=b at*;generalize ((2^more:Nat):Rat)=g at*;generalize (m:Rat)=M at*;generalize (n:Rat)=N at*;generalize (Q:Rat)=K at*;exact YT hU ha hb hg hnR m0 n1 n2 n3 n4 hq DL v1 v2
 obtain ⟨k1,k2⟩:=key;have YV:=IT (neg:=s^^t) (u:=Q*2^(i+kD)) (s:=j+more+1) (e:=2*e) rfl (by grind) (by grind) (by rw [hv];grind) (by rw [hv];grind);rw [vV YV.1];refine ⟨YV.1,?_⟩;obtain ⟨p1,p2⟩:=YV.2;rw [hv] at p1 p2;constructor<;>grind
end Go.Proofs
namespace Go.Proofs
open Go.Ide Go.IntWalk
theorem MA {s:Bool}{m i c:Nat}(h:c≤i):sg s (((m*2^i:Nat):Rat)/UD)=((if s then -((m*2^(i - c):Nat):Int) else ((m*2^(i - c):Nat):Int):Int):Rat)*(((2^c:Nat):Rat)/UD):=by
 rw [show m*2^i=m*2^(i - c)*2^c by rw [Nat.mul_assoc,←Nat.pow_add,show i - c+c=i by omega],←Ay,Rat.natCast_mul];generalize ((m*2^(i - c):Nat):Rat)=a;generalize ((2^c:Nat):Rat)=b;have hU:=rh;generalize UD=U at*;unfold sg;cases s;simp only [Bool.false_eq_true,if_false];grind;simp only [if_true];grind
theorem MB {x y:Nat}(hx:FD x)(hy:FD y): ∃A B:Int,Ieee.double.order x y=some (compare A B)∧(A<B↔wD x<wD y)∧(A=B↔wD x=wD y):=by
 obtain ⟨s,m,i,e1,w1,_⟩:=oU hx;obtain ⟨t,n,j,e2,w2,_⟩:=oU hy;have wE:min (-1074+(i:Int)) (-1074+(j:Int))= -1074+((min i j:Nat):Int):=by omega
 have e3:(-1074+(i:Int) - (-1074+((min i j:Nat):Int))).toNat=i - min i j:=by omega
 have e4:(-1074+(j:Int) - (-1074+((min i j:Nat):Int))).toNat=j - min i j:=by omega
 have h:Ieee.double.order x y=some (compare (Ieee.signed s m (i - min i j)) (Ieee.signed t n (j - min i j))):=by
  show Ieee.Datum.order (Ieee.double.read x) (Ieee.double.read y)=_;rw [e1,e2];show some (compare (Ieee.signed s m (-1074+(i:Int) - min (-1074+(i:Int)) (-1074+(j:Int))).toNat) (Ieee.signed t n (-1074+(j:Int) - min (-1074+(i:Int)) (-1074+(j:Int))).toNat))=_;rw [wE,e3,e4]
 refine ⟨_,_,h,?_⟩;rw [w1,w2,MA (c:=min i j) (by omega),MA (c:=min i j) (by omega),oo,oo];generalize (if s then -((m*2^(i - min i j):Nat):Int) else ((m*2^(i - min i j):Nat):Int))=A;generalize (if t then -((n*2^(j - min i j):Nat):Int) else ((n*2^(j - min i j):Nat):Int))=B;have hk:0<((2^min i j:Nat):Rat)/UD:=by
  have h1:=nD (min i j);have h2:=rh;generalize ((2^min i j:Nat):Rat)=a at*;generalize UD=U at*;refine Rat.lt_of_mul_lt_mul_right (c:=U) ?_ (Rat.le_of_lt h2);have:a/U*U=a:=by grind
  rw [this,Rat.zero_mul];exact h1
 generalize ((2^min i j:Nat):Rat)/UD=k at*;have i1:=Rat.intCast_lt_intCast (a:=A) (b:=B);have i2:(A=B↔(A:Rat)=(B:Rat)):=Rat.intCast_inj.symm;rw [←i1,i2];generalize (A:Rat)=a;generalize (B:Rat)=b;constructor;rw [Rat.mul_comm a,Rat.mul_comm b];exact (Rat.mul_lt_mul_left hk).symm;constructor;intro h;rw [h];intro h;grind
theorem MC {x y:Nat}(hx:FD x)(hy:FD y):aX .f64 x y=decide (wD x<wD y):=by
 obtain ⟨A,B,h,h1,h2⟩:=MB hx hy;have e:aX .f64 x y=(Ieee.double.order x y==some .lt):=rfl;rw [e,h];simp only [compare,compareOfLessAndEq,←h1];by_cases c:A<B;rw [if_pos c,decide_eq_true c];rfl;rw [if_neg c,decide_eq_false c];by_cases d:A=B;rw [if_pos d];rfl;rw [if_neg d];rfl
theorem MD {x y:Nat}(hx:FD x)(hy:FD y):rT .f64 x y=decide (wD y≤wD x):=by
 obtain ⟨A,B,h,h1,h2⟩:=MB hx hy;have e:rT .f64 x y=(Ieee.double.order x y==some .gt||Ieee.double.order x y==some .eq):=rfl;rw [e,h];simp only [compare,compareOfLessAndEq];by_cases c:A<B;have:=h1.1 c;rw [if_pos c,decide_eq_false (by grind)];rfl;rw [if_neg c];have c': ¬wD x<wD y:=fun h=>c (h1.2 h);rw [decide_eq_true (show wD y≤wD x by grind)];by_cases d:A=B;rw [if_pos d];rfl;rw [if_neg d];rfl
theorem ME {k:Nat}(hk:k=925):UD=((2^k:Nat):Rat)*US:=by
 unfold UD US;rw [←Rat.natCast_mul,←Nat.pow_add];have:kD=k+kS:=by have:=Ax;have:=Ho;omega
 rw [this]
theorem YW {x:Nat}{e:Rat}(hx:FS x)(DL:1/1152921504606846976≤e)(xz:e≤67108864)(v1: -e≤wS x)(v2:wS x≤e):FD (bD .f32 .f64 x)∧lD (e/4503599627370496) (wD (bD .f32 .f64 x)) (wS x):=by
 obtain ⟨k,hk⟩: ∃k:Nat,k=925:=⟨_,rfl⟩;obtain ⟨s,m,i,e1,w1,_⟩:=Az hx;have h1:bD .f32 .f64 x=bw .f64 (Ieee.double.nearest s m (-149+(i:Int))):=by
  unfold bD;rw [if_neg (by decide)];have e':FloatKind.decode .f32 x= .number s m (-149+(i:Int)):=e1;rw [e'];rfl
 have sc:=dz (f:=Ieee.double) (neg:=s) (mag:=m) (s:=i+k) (place:= -149+(i:Int));rw [show -149+(i:Int) - ((i+k:Nat):Int)= -1074 - ((0:Nat):Int) by omega] at sc;rw [h1,←sc];have:=IT (neg:=s) (u:=m*2^(i+k)) (s:=0) (v:=wS x) (e:=e) (by
  rw [w1,Nat.pow_add,←Nat.mul_assoc,Rat.natCast_mul (m*2^i)];have hp:=nD k;have hU:=dH;rw [ME hk];generalize ((2^k:Nat):Rat)=g at*;generalize US=U at*;generalize ((m*2^i:Nat):Rat)=a;have c1:((2^0:Nat):Rat)=1:=rfl;rw [c1];unfold sg;cases s;simp only [Bool.false_eq_true,if_false];grind;simp only [if_true];grind) DL xz v1 v2
 rw [vV this.1];exact this
theorem Vc {x:Nat}{e:Rat}(hx:FD x)(DL:1/1152921504606846976≤e)(xz:e≤67108864)(v1: -e≤wD x)(v2:wD x≤e):dC .f64 .f32 x=true∧FS (bD .f64 .f32 x)∧lD (e/8388608) (wS (bD .f64 .f32 x)) (wD x):=by
 obtain ⟨k,hk⟩: ∃k:Nat,k=925:=⟨_,rfl⟩;obtain ⟨s,m,i,e1,w1,_⟩:=oU hx;have e':FloatKind.decode .f64 x= .number s m (-1074+(i:Int)):=e1;have h1:bD .f64 .f32 x=bw .f32 (Ieee.single.nearest s m (-1074+(i:Int))):=by
  unfold bD;rw [if_neg (by decide),e'];rfl
 have sc:=dz (f:=Ieee.single) (neg:=s) (mag:=m) (s:=i) (place:= -1074+(i:Int));rw [show -1074+(i:Int) - ((i:Nat):Int)= -149 - ((k:Nat):Int) by omega] at sc;have:=P7 (neg:=s) (u:=m*2^i) (s:=k) (v:=wD x) (e:=e) (by
  rw [w1];have hp:=nD k;have hU:=dH;rw [ME hk];generalize ((2^k:Nat):Rat)=g at*;generalize US=U at*;generalize ((m*2^i:Nat):Rat)=a;unfold sg;cases s;simp only [Bool.false_eq_true,if_false];grind;simp only [if_true];grind) DL xz v1 v2
 rw [sc] at this;refine ⟨?_,?_⟩;unfold dC;rw [if_neg (by decide),e'];show (!(Ieee.single.read (Ieee.single.nearest s m (-1074+(i:Int)))).isInfinity)=true;obtain ⟨s',m',i',e2,_⟩:=Az this.1;rw [e2];rfl;rw [h1,IU this.1];exact this
end Go.Proofs
namespace Go.Proofs
open Go.Ide Go.IntWalk
def Bd (A a:Rat):Prop:= -A≤a∧a≤A
theorem Bd.mul {A B a b:Rat}(h:Bd A a)(h':Bd B b):Bd (A*B) (a*b):=by
 obtain ⟨h1,h2⟩:=h;obtain ⟨h3,h4⟩:=h';have p1:=Rat.mul_nonneg (show 0≤A - a by grind) (show 0≤B - b by grind);have p2:=Rat.mul_nonneg (show 0≤A+a by grind) (show 0≤B+b by grind);have p3:=Rat.mul_nonneg (show 0≤A - a by grind) (show 0≤B+b by grind);have p4:=Rat.mul_nonneg (show 0≤A+a by grind) (show 0≤B - b by grind);constructor<;>grind
theorem Bd.add {A B a b:Rat}(h:Bd A a)(h':Bd B b):Bd (A+B) (a+b):=by
 obtain ⟨h1,h2⟩:=h;obtain ⟨h3,h4⟩:=h';constructor<;>grind
theorem Bd.mono {A B a:Rat}(h:Bd A a)(hl:A≤B):Bd B a:=by
 obtain ⟨h1,h2⟩:=h;constructor<;>grind
theorem lD.bd {e a b:Rat}(h:lD e a b):Bd e (a - b):=by
 obtain ⟨h1,h2⟩:=h;constructor<;>grind
theorem ri {x c d:Nat}(h1:x<9223372036854775808)(hd:0<d)(h:ie x*d=c*2^kD):wD x=(c:Rat)/(d:Rat):=by
 have hU:=rh;have hdR:=DK hd;have h2:((ie x:Nat):Rat)*(d:Rat)=(c:Rat)*UD:=by
  rw [←Rat.natCast_mul,h,Rat.natCast_mul];rfl
 unfold wD;rw [Nat.div_eq_of_lt h1];show sg false _/UD=_;unfold sg;simp only [Bool.false_eq_true,if_false];generalize UD=U at*;generalize ((ie x:Nat):Rat)=v at*;generalize (c:Rat)=C at*;generalize (d:Rat)=D at*;grind
theorem lu {x:Nat}(h1:x≤4724276009111650304):FD x:=by
 refine ⟨by unfold kP;omega,?_⟩;have hp:4724276009111650304≤IQ (26+kD):=by
  have:=Ax;unfold IQ;omega
 rw [←IS (m:=26+kD) (by have:=Mv;omega) (by have:=Mw;omega)];have:=Mx;exact DH (by omega) (by omega) (Nat.le_trans h1 hp)
theorem nk:wD 4607182418800017408=1:=by
 have:=ri (x:=4607182418800017408) (c:=1) (d:=1) (by omega) (by omega) (by decide+kernel);rw [this,show ((1:Nat):Rat)=1 from rfl];grind
theorem vW:FD 4607182418800017408:=lu (by omega)
def T6 (t:Rat):Rat:=1+t*(1+t*(1+t*(1+t*(1+t*(1+t*1/6)/5)/4)/3)/2)/1
end Go.Proofs
namespace Go.Proofs
open Go.Ide Go.IntWalk
def AA:Rat:=100000001/100000000
theorem uS:AA=100000001/100000000:=rfl
attribute [irreducible] AA
def rp:Nat→Rat
 |0=>1
 |k+1=>rp k*AA
theorem iR: ∀k,1≤rp k
 |0=>by unfold rp;grind
 |k+1=>by
  have h:=iR k;have:=Rat.mul_le_mul_of_nonneg_left (show 1≤AA by rw [uS];grind) (show 0≤rp k by grind);unfold rp;grind
theorem mK (k:Nat): ∀l,rp (k+l)=rp k*rp l
 |0=>by show rp k=rp k*1;grind
 |l+1=>by
  show rp (k+l)*AA=rp k*(rp l*AA);rw [mK k l];grind
theorem vX {k l:Nat}(h:k≤l):rp k≤rp l:=by
 obtain ⟨d,rfl⟩:=Nat.exists_eq_add_of_le h;rw [mK];have:=Rat.mul_le_mul_of_nonneg_left (iR d) (show 0≤rp k by have:=iR k;grind);grind
def Nq (k:Nat)(x y:Rat):Prop:=x≤y*rp k∧y≤x*rp k
theorem Nq.symm {k:Nat}{x y:Rat}(h:Nq k x y):Nq k y x:=⟨h.2,h.1⟩
theorem Nq.refl {x:Rat}(h:0≤x):Nq 0 x x:=by
 have:rp 0=1:=rfl;unfold Nq;rw [this];constructor<;>grind
theorem Nq.mono {k l:Nat}{x y:Rat}(h:Nq k x y)(hx:0≤x)(hy:0≤y)(hl:k≤l):Nq l x y:=by
 have m:=vX hl;have a:=Rat.mul_le_mul_of_nonneg_left m hx;have b:=Rat.mul_le_mul_of_nonneg_left m hy;obtain ⟨h1,h2⟩:=h;constructor<;>grind
theorem Nq.trans {k l:Nat}{x y z:Rat}(h:Nq k x y)(h':Nq l y z):Nq (k+l) x z:=by
 obtain ⟨h1,h2⟩:=h;obtain ⟨h3,h4⟩:=h';have pk:0≤rp k:=by have:=iR k;grind
 have pl:0≤rp l:=by have:=iR l;grind
 have a:=Rat.mul_le_mul_of_nonneg_right h3 pk;have b:=Rat.mul_le_mul_of_nonneg_right h2 pl;unfold Nq;rw [mK];constructor<;>grind
theorem Nq.mul {k l:Nat}{x y z w:Rat}(h:Nq k x y)(h':Nq l z w)(hx:0≤x)(hy:0≤y)(hz:0≤z)(hw:0≤w):Nq (k+l) (x*z) (y*w):=by
 obtain ⟨h1,h2⟩:=h;obtain ⟨h3,h4⟩:=h';have pk:0≤rp k:=by have:=iR k;grind
 have pl:0≤rp l:=by have:=iR l;grind
 have a1:=Rat.mul_le_mul_of_nonneg_right h1 hz;have a2:=Rat.mul_le_mul_of_nonneg_left h3 (Rat.mul_nonneg hy pk);have b1:=Rat.mul_le_mul_of_nonneg_right h2 hw;have b2:=Rat.mul_le_mul_of_nonneg_left h4 (Rat.mul_nonneg hx pk);unfold Nq;rw [mK];constructor<;>grind
theorem Nq.uT {e x y:Rat}{k:Nat}(h:lD e x y)(hx:e*100000000≤x*(k:Rat))(hy:e*100000000≤y*(k:Rat))(px:0≤x)(py:0≤y):Nq k x y:=by
 have hr: ∀k:Nat,1+(k:Rat)/100000000≤rp k:=by
  intro k;induction k with
  |zero=>show 1+((0:Nat):Rat)/100000000≤1;rw [show ((0:Nat):Rat)=0 from rfl];grind
  |succ k ih=>
   have h1:=iR k;rw [Rat.natCast_add,show ((1:Nat):Rat)=1 from rfl];show _≤rp k*AA;rw [uS];grind
 have hk:=hr k;obtain ⟨h1,h2⟩:=h;have a:=Rat.mul_le_mul_of_nonneg_left hk px;have b:=Rat.mul_le_mul_of_nonneg_left hk py;constructor<;>grind
def yH:Nat→Rat→Rat
 |0,x=>x
 |n+1,x=>yH n x*yH n x
theorem sK: ∀n {x:Rat},0≤x→0≤yH n x
 |0,_,h=>h
 |n+1,_,h=>Rat.mul_nonneg (sK n h) (sK n h)
theorem sL: ∀n {k:Nat} {x y:Rat},Nq k x y→0≤x→0≤y→Nq (2^n*k) (yH n x) (yH n y)
 |0,k,x,y,h,_,_=>by rw [Nat.pow_zero,Nat.one_mul];exact h
 |n+1,k,x,y,h,hx,hy=>by
  have:=sL n h hx hy;have t:=this.mul this (sK n hx) (sK n hy) (sK n hx) (sK n hy);rw [show 2^(n+1)*k=2^n*k+2^n*k by rw [Nat.pow_succ,Nat.mul_assoc,Nat.mul_comm 2 k,Nat.mul_two,Nat.mul_add]];exact t
theorem DM: ∀n {x y:Rat},yH n (x*y)=yH n x*yH n y
 |0,_,_=>rfl
 |n+1,x,y=>by
  show yH n (x*y)*yH n (x*y)=(yH n x*yH n x)*(yH n y*yH n y);rw [DM n];grind
end Go.Proofs
namespace Go.Proofs
open Go.Ide Go.IntWalk
theorem Sw {r:Nat}(h:r≤4724276009111650304):FD (9223372036854775808+r)∧wD (9223372036854775808+r)= -wD r:=by
 have e1:=Hm (neg:=true) (r:=r) (by omega);have e2:=Hn (neg:=true) (r:=r);have e3:=Hm (neg:=false) (r:=r) (by omega);simp only [if_true,Bool.false_eq_true,if_false,Nat.zero_add] at e1 e2 e3;have hF:=lu h;refine ⟨⟨?_,?_⟩,?_⟩;unfold kP;omega;rw [e2];exact hF.2;unfold wD;rw [e1,e2,e3];unfold sg;have hU:=rh;simp only [if_true,Bool.false_eq_true,if_false];grind
theorem tK {t s p q c d e:Rat}(t1:Bd (1/8) t)(hp:Bd (6/5) q)(ht:lD d t s)(ha:lD e p q)(c1:1≤c)(d0:0≤d)(e0:0≤e):lD (e/8+2*d) (1+t*p/c) (1+s*q/c):=by
 have ci: ∃i,i*c=1∧0≤i∧i≤1:=by
  refine ⟨1/c,by grind,?_,?_⟩;refine Rat.le_of_mul_le_mul_right (c:=c) ?_ (by grind);have:1/c*c=1:=by grind
  rw [this];grind;refine Rat.le_of_mul_le_mul_right (c:=c) ?_ (by grind);have:1/c*c=1:=by grind
  rw [this];grind
 obtain ⟨i,i1,i2,i3⟩:=ci;have b1:=(t1.mul ha.bd).mul (B:=1) (b:=i) ⟨by grind,by grind⟩;have b2:=(ht.bd.mul hp).mul (B:=1) (b:=i) ⟨by grind,by grind⟩;have e1:t*p/c=t*p*i:=by grind
 have e2:s*q/c=s*q*i:=by grind
 rw [e1,e2];obtain ⟨x1,x2⟩:=b1;obtain ⟨x3,x4⟩:=b2;constructor<;>grind
theorem oV {t p c:Rat}(t1:Bd (1/8) t)(hp:Bd (6/5) p)(c1:1≤c):Bd (6/5) (1+t*p/c)∧4/5≤1+t*p/c:=by
 have ci: ∃i,i*c=1∧0≤i∧i≤1:=by
  refine ⟨1/c,by grind,?_,?_⟩;refine Rat.le_of_mul_le_mul_right (c:=c) ?_ (by grind);have:1/c*c=1:=by grind
  rw [this];grind;refine Rat.le_of_mul_le_mul_right (c:=c) ?_ (by grind);have:1/c*c=1:=by grind
  rw [this];grind
 obtain ⟨i,i1,i2,i3⟩:=ci;have b1:=(t1.mul hp).mul (B:=1) (b:=i) ⟨by grind,by grind⟩;have e1:t*p/c=t*p*i:=by grind
 rw [e1];obtain ⟨x1,x2⟩:=b1;refine ⟨⟨by grind,by grind⟩,by grind⟩
theorem vY {t:Rat}(t1:Bd (1/8) t):Bd (6/5) (T6 t)∧4/5≤T6 t:=by
 unfold T6;have h6:=(oV (p:=1) (c:=6) t1 ⟨by grind,by grind⟩ (by grind)).1;have h5:=(oV (c:=5) t1 h6 (by grind)).1;have h4:=(oV (c:=4) t1 h5 (by grind)).1;have h3:=(oV (c:=3) t1 h4 (by grind)).1;have h2:=(oV (c:=2) t1 h3 (by grind)).1;exact oV (c:=1) t1 h2 (by grind)
theorem MF {t s d:Rat}(t1:Bd (1/8) t)(s1:Bd (1/8) s)(h:lD d t s)(d0:0≤d):lD (3*d) (T6 t) (T6 s):=by
 unfold T6;have h6:=(oV (p:=1) (c:=6) s1 ⟨by grind,by grind⟩ (by grind)).1;have h5:=(oV (c:=5) s1 h6 (by grind)).1;have h4:=(oV (c:=4) s1 h5 (by grind)).1;have h3:=(oV (c:=3) s1 h4 (by grind)).1;have h2:=(oV (c:=2) s1 h3 (by grind)).1;have a6:=tK (p:=1) (q:=1) (c:=6) (e:=0) t1 ⟨by grind,by grind⟩ h ⟨by grind,by grind⟩ (by grind) d0 (by grind);have a5:=tK (c:=5) t1 h6 h a6 (by grind) d0 (by grind);have a4:=tK (c:=4) t1 h5 h a5 (by grind) d0 (by grind);have a3:=tK (c:=3) t1 h4 h a4 (by grind) d0 (by grind);have a2:=tK (c:=2) t1 h3 h a3 (by grind) d0 (by grind);have a1:=tK (c:=1) t1 h2 h a2 (by grind) d0 (by grind);obtain ⟨x1,x2⟩:=a1;constructor<;>grind
end Go.Proofs
namespace Go.Proofs
open Go.Ide Go.IntWalk
theorem Bd.pow {A a:Rat}(h:Bd A a): ∀n:Nat,Bd (A^n) (a^n)
 |0=>by rw [Rat.pow_zero,Rat.pow_zero];exact ⟨by grind,by grind⟩
 |n+1=>by rw [Rat.pow_succ,Rat.pow_succ];exact (Bd.pow h n).mul h
theorem Bd.const {A a c:Rat}(h:Bd A a)(hc:0≤c):Bd (A*c) (a*c):=h.mul ⟨by grind,by grind⟩
def O4 (a b:Rat):Rat:=a^1*b^6*(1/720)+a^2*b^5*(1/240)+a^2*b^6*(1/1440)+a^3*b^4*(1/144)+a^3*b^5*(1/720)+a^3*b^6*(1/4320)+a^4*b^3*(1/144)+a^4*b^4*(1/576)+a^4*b^5*(1/2880)+a^4*b^6*(1/17280)+a^5*b^2*(1/240)+a^5*b^3*(1/720)+a^5*b^4*(1/2880)+a^5*b^5*(1/14400)+a^5*b^6*(1/86400)+a^6*b^1*(1/720)+a^6*b^2*(1/1440)+a^6*b^3*(1/4320)+a^6*b^4*(1/17280)+a^6*b^5*(1/86400)+a^6*b^6*(1/518400)
def Kc (r:Rat):Rat:=r^1*r^6*(1/720)+r^2*r^5*(1/240)+r^2*r^6*(1/1440)+r^3*r^4*(1/144)+r^3*r^5*(1/720)+r^3*r^6*(1/4320)+r^4*r^3*(1/144)+r^4*r^4*(1/576)+r^4*r^5*(1/2880)+r^4*r^6*(1/17280)+r^5*r^2*(1/240)+r^5*r^3*(1/720)+r^5*r^4*(1/2880)+r^5*r^5*(1/14400)+r^5*r^6*(1/86400)+r^6*r^1*(1/720)+r^6*r^2*(1/1440)+r^6*r^3*(1/4320)+r^6*r^4*(1/17280)+r^6*r^5*(1/86400)+r^6*r^6*(1/518400)
theorem Hq (a b:Rat):T6 a*T6 b=T6 (a+b)+O4 a b:=by
 unfold T6 O4;grind
theorem DN {r a b:Rat}(ha:Bd r a)(hb:Bd r b):Bd (Kc r) (O4 a b):=by
 unfold O4 Kc;exact ((((((((((((((((((((((ha.pow 1).mul (hb.pow 6)).const (c:=1/720) (by grind)).add (((ha.pow 2).mul (hb.pow 5)).const (c:=1/240) (by grind))).add (((ha.pow 2).mul (hb.pow 6)).const (c:=1/1440) (by grind))).add (((ha.pow 3).mul (hb.pow 4)).const (c:=1/144) (by grind))).add (((ha.pow 3).mul (hb.pow 5)).const (c:=1/720) (by grind))).add (((ha.pow 3).mul (hb.pow 6)).const (c:=1/4320) (by grind))).add (((ha.pow 4).mul (hb.pow 3)).const (c:=1/144) (by grind))).add (((ha.pow 4).mul (hb.pow 4)).const (c:=1/576) (by grind))).add (((ha.pow 4).mul (hb.pow 5)).const (c:=1/2880) (by grind))).add (((ha.pow 4).mul (hb.pow 6)).const (c:=1/17280) (by grind))).add (((ha.pow 5).mul (hb.pow 2)).const (c:=1/240) (by grind))).add (((ha.pow 5).mul (hb.pow 3)).const (c:=1/720) (by grind))).add (((ha.pow 5).mul (hb.pow 4)).const (c:=1/2880) (by grind))).add (((ha.pow 5).mul (hb.pow 5)).const (c:=1/14400) (by grind))).add (((ha.pow 5).mul (hb.pow 6)).const (c:=1/86400) (by grind))).add (((ha.pow 6).mul (hb.pow 1)).const (c:=1/720) (by grind))).add (((ha.pow 6).mul (hb.pow 2)).const (c:=1/1440) (by grind))).add (((ha.pow 6).mul (hb.pow 3)).const (c:=1/4320) (by grind))).add (((ha.pow 6).mul (hb.pow 4)).const (c:=1/17280) (by grind))).add (((ha.pow 6).mul (hb.pow 5)).const (c:=1/86400) (by grind))).add (((ha.pow 6).mul (hb.pow 6)).const (c:=1/518400) (by grind))
def Fw (q:Rat):Rat:=2*q+2*q^3/3+2*q^5/5
def O5 (q:Rat):Rat:=q^7*(-(14/45))+q^8*(-(4/15))+q^9*(-(112/405))+q^10*(-(362/2025))+q^11*(-(178/675))+q^12*(-(46/405))+q^13*(-(286/1215))+q^14*(-(16/405))+q^15*(-(14288/91125))+q^16*(-(548/91125))+q^17*(-(1672/18225))+q^18*(112/32805)+q^19*(-(37252/820125))+q^20*(2486/455625)+q^21*(-(8714/455625))+q^22*(92/30375)+q^23*(-(1036/151875))+q^24*(188/151875)+q^25*(-(7076/3796875))+q^26*(136/421875)+q^27*(-(172/421875))+q^28*(8/140625)+q^29*(-(8/140625))+q^30*(4/703125)+q^31*(-(4/703125))
def O6 (r:Rat):Rat:=r^7*(14/45)+r^8*(4/15)+r^9*(112/405)+r^10*(362/2025)+r^11*(178/675)+r^12*(46/405)+r^13*(286/1215)+r^14*(16/405)+r^15*(14288/91125)+r^16*(548/91125)+r^17*(1672/18225)+r^18*(112/32805)+r^19*(37252/820125)+r^20*(2486/455625)+r^21*(8714/455625)+r^22*(92/30375)+r^23*(1036/151875)+r^24*(188/151875)+r^25*(7076/3796875)+r^26*(136/421875)+r^27*(172/421875)+r^28*(8/140625)+r^29*(8/140625)+r^30*(4/703125)+r^31*(4/703125)
theorem Sx (q:Rat):T6 (Fw q)*(1 - q)=1+q+O5 q:=by
 unfold T6 Fw O5;grind
theorem Bd.nE {A a c d:Rat}(h:Bd A a)(h1: -d≤c)(h2:c≤d):Bd (A*d) (a*c):=h.mul ⟨h1,h2⟩
theorem O7 {r q:Rat}(hq:Bd r q):Bd (O6 r) (O5 q):=by
 unfold O5 O6;exact (((((((((((((((((((((((((hq.pow 7).nE (c:=(-(14/45))) (d:=(14/45)) (by grind) (by grind)).add ((hq.pow 8).nE (c:=(-(4/15))) (d:=(4/15)) (by grind) (by grind))).add ((hq.pow 9).nE (c:=(-(112/405))) (d:=(112/405)) (by grind) (by grind))).add ((hq.pow 10).nE (c:=(-(362/2025))) (d:=(362/2025)) (by grind) (by grind))).add ((hq.pow 11).nE (c:=(-(178/675))) (d:=(178/675)) (by grind) (by grind))).add ((hq.pow 12).nE (c:=(-(46/405))) (d:=(46/405)) (by grind) (by grind))).add ((hq.pow 13).nE (c:=(-(286/1215))) (d:=(286/1215)) (by grind) (by grind))).add ((hq.pow 14).nE (c:=(-(16/405))) (d:=(16/405)) (by grind) (by grind))).add ((hq.pow 15).nE (c:=(-(14288/91125))) (d:=(14288/91125)) (by grind) (by grind))).add ((hq.pow 16).nE (c:=(-(548/91125))) (d:=(548/91125)) (by grind) (by grind))).add ((hq.pow 17).nE (c:=(-(1672/18225))) (d:=(1672/18225)) (by grind) (by grind))).add ((hq.pow 18).nE (c:=(112/32805)) (d:=(112/32805)) (by grind) (by grind))).add ((hq.pow 19).nE (c:=(-(37252/820125))) (d:=(37252/820125)) (by grind) (by grind))).add ((hq.pow 20).nE (c:=(2486/455625)) (d:=(2486/455625)) (by grind) (by grind))).add ((hq.pow 21).nE (c:=(-(8714/455625))) (d:=(8714/455625)) (by grind) (by grind))).add ((hq.pow 22).nE (c:=(92/30375)) (d:=(92/30375)) (by grind) (by grind))).add ((hq.pow 23).nE (c:=(-(1036/151875))) (d:=(1036/151875)) (by grind) (by grind))).add ((hq.pow 24).nE (c:=(188/151875)) (d:=(188/151875)) (by grind) (by grind))).add ((hq.pow 25).nE (c:=(-(7076/3796875))) (d:=(7076/3796875)) (by grind) (by grind))).add ((hq.pow 26).nE (c:=(136/421875)) (d:=(136/421875)) (by grind) (by grind))).add ((hq.pow 27).nE (c:=(-(172/421875))) (d:=(172/421875)) (by grind) (by grind))).add ((hq.pow 28).nE (c:=(8/140625)) (d:=(8/140625)) (by grind) (by grind))).add ((hq.pow 29).nE (c:=(-(8/140625))) (d:=(8/140625)) (by grind) (by grind))).add ((hq.pow 30).nE (c:=(4/703125)) (d:=(4/703125)) (by grind) (by grind))).add ((hq.pow 31).nE (c:=(-(4/703125))) (d:=(4/703125)) (by grind) (by grind))
end Go.Proofs
namespace Go.Proofs
open Go.Ide Go.IntWalk
def Ex (t:Rat):Rat:=yH 8 (T6 t)
theorem n2:((2:Nat):Rat)=2:=rfl
theorem mL {t:Rat}(h:Bd (1/8) t):0≤T6 t:=by have:=(vY h).2;grind
theorem xX {t:Rat}(h:Bd (1/8) t):0≤Ex t:=sK 8 (mL h)
theorem P8:Kc (1/8)≤1/80000000:=by unfold Kc;grind
theorem Sy:Kc (21/100)≤1/2000000:=by unfold Kc;grind
theorem Sz:O6 (21/100)≤7/1000000:=by unfold O6;grind
theorem MG {a b:Rat}(ha:Bd (1/8) a)(hb:Bd (1/8) b)(U7:Bd (1/8) (a+b)):Nq 2 (T6 a*T6 b) (T6 (a+b)):=by
 have h1:=DN ha hb;have h2:=P8;have h3:=Hq a b;have p1:=(vY ha).2;have p2:=(vY hb).2;have p3:=(vY U7).2;have p4:=Rat.mul_le_mul_of_nonneg_left p2 (show 0≤T6 a by grind);obtain ⟨x1,x2⟩:=h1;refine Nq.uT (e:=1/80000000) ⟨by grind,by grind⟩ (by rw [n2];grind) (by rw [n2];grind) (by grind) (by grind)
theorem MH {a b:Rat}(ha:Bd (1/8) a)(hb:Bd (1/8) b)(U7:Bd (1/8) (a+b)):Nq 512 (Ex a*Ex b) (Ex (a+b)):=by
 have h:=sL 8 (MG ha hb U7) (Rat.mul_nonneg (mL ha) (mL hb)) (mL U7);rw [DM] at h;exact h
theorem SA {a b d:Rat}{k:Nat}(ha:Bd (1/8) a)(hb:Bd (1/8) b)(h:lD d a b)(d0:0≤d)(hk:375000000*d≤(k:Rat)):Nq (256*k) (Ex a) (Ex b):=by
 have h1:=MF ha hb h d0;have p1:=(vY ha).2;have p2:=(vY hb).2;have sY:(0:Rat)≤(k:Rat):=cD (Nat.zero_le k);have q1:=Rat.mul_le_mul_of_nonneg_left p1 sY;have q2:=Rat.mul_le_mul_of_nonneg_left p2 sY;have n:=Nq.uT (k:=k) h1 (by grind) (by grind) (by grind) (by grind);exact sL 8 n (mL ha) (mL hb)
theorem MI (n:Nat)(x:Rat):yH (n+1) x=yH n (x*x):=by
 rw [DM];rfl
theorem Bd.half {r t:Rat}(h:Bd r t):Bd r (t/2):=by
 obtain ⟨h1,h2⟩:=h;constructor<;>grind
theorem O8 {t:Rat}(ht:Bd (1/8) t):Nq 2 (T6 (t/2)*T6 (t/2)) (T6 t):=by
 have e:t/2+t/2=t:=by grind
 have:=MG ht.half ht.half (by rw [e];exact ht);rw [e] at this;exact this
theorem xg {t:Rat}(ht:Bd (1/8) t)(n:Nat):Nq (2^n*2) (yH (n+1) (T6 (t/2))) (yH n (T6 t)):=by
 rw [MI];exact sL n (O8 ht) (Rat.mul_nonneg (mL ht.half) (mL ht.half)) (mL ht)
theorem MJ {l:Rat}(hl:Bd (42/100) l):Nq 700 (Ex (l/256)) (T6 l):=by
 have b2:Bd (1/8) (l/2/2):=by obtain ⟨h1,h2⟩:=hl;constructor<;>grind
 have b3:=b2.half;have b4:=b3.half;have b5:=b4.half;have b6:=b5.half;have b7:=b6.half;have c7:=xg b7 7;have c6:=xg b6 6;have c5:=xg b5 5;have c4:=xg b4 4;have c3:=xg b3 3;have c2:=xg b2 2;have c:=((((c7.trans c6).trans c5).trans c4).trans c3).trans c2;have e:l/2/2/2/2/2/2/2/2=l/256:=by grind
 rw [e] at c;have r1:=DN (r:=1/8) b2 b2;have a1:=Hq (l/2/2) (l/2/2);have e1:l/2/2+l/2/2=l/2:=by grind
 rw [e1] at a1;have g1:=P8;have p2:=(vY b2).2;have p22:=Rat.mul_le_mul_of_nonneg_left p2 (show 0≤T6 (l/2/2) by grind);obtain ⟨x1,x2⟩:=r1;have q1:16/25 - 1/80000000≤T6 (l/2):=by grind
 have n1:Nq 2 (T6 (l/2/2)*T6 (l/2/2)) (T6 (l/2)):=Nq.uT (e:=1/80000000) ⟨by grind,by grind⟩ (by rw [n2];grind) (by rw [n2];grind) (by grind) (by grind);have bh:Bd (21/100) (l/2):=by obtain ⟨h1,h2⟩:=hl;constructor<;>grind
 have r0:=DN bh bh;have a0:=Hq (l/2) (l/2);have e0:l/2+l/2=l:=by grind
 rw [e0] at a0;have g0:=Sy;have Ix:=Rat.mul_le_mul_of_nonneg_left q1 (show 0≤T6 (l/2) by grind);obtain ⟨x3,x4⟩:=r0;have Vd:((180:Nat):Rat)=180:=rfl;have n0:Nq 180 (T6 (l/2)*T6 (l/2)) (T6 l):=Nq.uT (e:=1/2000000) ⟨by grind,by grind⟩ (by rw [Vd];grind) (by rw [Vd];grind) (by grind) (by grind);have s2:yH 2 (T6 (l/2/2))=(T6 (l/2/2)*T6 (l/2/2))*(T6 (l/2/2)*T6 (l/2/2)):=rfl;rw [s2] at c;have t2:0≤T6 (l/2/2)*T6 (l/2/2):=by grind
 have t1:0≤T6 (l/2):=by grind
 have n11:=n1.mul n1 t2 t1 t2 t1;have all:=(c.trans n11).trans n0;have l0:0≤T6 l:=by grind
 have e9:0≤yH (7+1) (T6 (l/256)):=sK 8 (mL (by obtain ⟨h1,h2⟩:=hl;constructor<;>grind));exact all.mono e9 l0 (by decide)
theorem Hr {q:Rat}(hq:Bd (201/1000) q):Bd (42/100) (Fw q):=by
 have h3:=(hq.pow 3).const (c:=2/3) (by grind);have h5:=(hq.pow 5).const (c:=2/5) (by grind);obtain ⟨a1,a2⟩:=hq;obtain ⟨b1,b2⟩:=h3;obtain ⟨c1,c2⟩:=h5;unfold Fw;constructor<;>grind
theorem SB {q:Rat}(hq:Bd (201/1000) q):Nq 1700 (Ex (Fw q/256)*(1 - q)) (1+q):=by
 have h1:=MJ (Hr hq);have h2:=Sx q;have FT:Bd (21/100) q:=hq.mono (by grind);have h3:=O7 FT;have h4:=Sz;obtain ⟨x1,x2⟩:=h3;obtain ⟨y1,y2⟩:=hq;have Ve:((1000:Nat):Rat)=1000:=rfl;have n0:Nq 1000 (T6 (Fw q)*(1 - q)) (1+q):=Nq.uT (e:=7/1000000) ⟨by grind,by grind⟩ (by rw [Ve];grind) (by rw [Ve];grind) (by grind) (by grind);have be:Bd (1/8) (Fw q/256):=by
  have:=Hr (q:=q) ⟨y1,y2⟩;obtain ⟨z1,z2⟩:=this;constructor<;>grind
 have tl:0≤T6 (Fw q):=by
  have p:0≤T6 (Fw q)*(1 - q):=by grind
  refine Rat.le_of_mul_le_mul_right (c:=1 - q) ?_ (by grind);grind
 have m:=h1.mul (Nq.refl (x:=1 - q) (by grind)) (xX be) tl (by grind) (by grind);exact m.trans n0
def Cd:Rat:=6243314768165359/9007199254740992
theorem SC:Nq 1 (Ex (-Cd/256)) (1/2):=by
 have h1:Ex (-Cd/256)≤1/2*(1+1/100000000):=by decide+kernel
 have h2:1/2*(1 - 1/200000000)≤Ex (-Cd/256):=by decide+kernel
 have r:rp 1=100000001/100000000:=by
  show 1*AA=_;rw [uS];grind
 unfold Nq;rw [r];constructor<;>grind
end Go.Proofs
namespace Go.Proofs
open Go.Ide Go.IntWalk
def p2:Nat→Rat
 |0=>1
 |k+1=>2*p2 k
theorem xY: ∀k,1≤p2 k
 |0=>by unfold p2;grind
 |k+1=>by have:=xY k;unfold p2;grind
theorem SE {k:Nat}(h:7≤k):128≤p2 k:=by
 obtain ⟨d,rfl⟩:=Nat.exists_eq_add_of_le h;induction d with
 |zero=>show 128≤p2 7;simp only [p2];grind
 |succ d ih=>have:=ih (by omega);show 128≤2*p2 (7+d);grind
theorem Vf {k:Nat}(h:k≤7):p2 k≤128:=by
 have hk:k=0∨k=1∨k=2∨k=3∨k=4∨k=5∨k=6∨k=7:=by omega
 rcases hk with rfl|rfl|rfl|rfl|rfl|rfl|rfl|rfl<;>simp only [p2]<;>grind
theorem w2:FD 4611686018427387904∧wD 4611686018427387904=2:=⟨lu (by omega),by rw [ri (c:=2) (d:=1) (by omega) (by omega) (by decide+kernel),show ((1:Nat):Rat)=1 from rfl,show ((2:Nat):Rat)=2 from rfl];grind⟩
theorem Wf:FD 4604930618986332160∧wD 4604930618986332160=3/4:=⟨lu (by omega),by rw [ri (c:=3) (d:=4) (by omega) (by omega) (by decide+kernel),show ((4:Nat):Rat)=4 from rfl,show ((3:Nat):Rat)=3 from rfl]⟩
theorem w0:FD 0∧wD 0=0:=⟨lu (by omega),by rw [ri (c:=0) (d:=1) (by omega) (by omega) (by decide+kernel),show ((1:Nat):Rat)=1 from rfl,show ((0:Nat):Rat)=0 from rfl];grind⟩
theorem Wg:FD 4604418534313441775∧wD 4604418534313441775=Cd:=⟨lu (by omega),by rw [ri (c:=6243314768165359) (d:=9007199254740992) (by omega) (by omega) (by decide+kernel)];rfl⟩
theorem Tu {m0:Nat}(h0:FD m0)(l0:1/100≤wD m0)(l1:wD m0≤3/2):
 ∃r,rounds bW (m0,(0:Nat))=some r∧ ∃k:Nat,k≤7∧FD r.1∧FD r.2∧lD ((k:Rat)/100000000000000) (wD r.2) (-(k:Rat))∧lD ((p2 k - 1)/1000000000000000) (wD r.1) (wD m0*p2 k)∧3/4≤wD r.1∧wD r.1≤3/2+1/1000000000000000:=by
 have:=fM (f:=bW) (fun n s=> ∃k:Nat,n=7 - k∧k≤7∧FD s.1∧FD s.2∧lD ((k:Rat)/100000000000000) (wD s.2) (-(k:Rat))∧lD ((p2 k - 1)/1000000000000000) (wD s.1) (wD m0*p2 k)∧1/200≤wD s.1∧wD s.1≤3/2+1/1000000000000000)
  (fun r=> ∃k:Nat,k≤7∧FD r.1∧FD r.2∧lD ((k:Rat)/100000000000000) (wD r.2) (-(k:Rat))∧lD ((p2 k - 1)/1000000000000000) (wD r.1) (wD m0*p2 k)∧3/4≤wD r.1∧wD r.1≤3/2+1/1000000000000000) (by
  rintro n ⟨m,e⟩ ⟨k,rfl,hk,hm,he,ha,hb,hp,hq⟩;simp only at hm he ha hb hp hq;unfold bW;simp only;rw [MC hm Wf.1,Wf.2];by_cases c:wD m<3/4;left;rw [decide_eq_true c];have BZ:k<7:=by
   apply Nat.lt_of_not_le;intro h7;have g:=SE h7;have g2:=Vf hk;obtain ⟨x1,x2⟩:=hb;have:=Rat.mul_le_mul_of_nonneg_left g (show 0≤wD m0 by grind);grind
  obtain ⟨u1,u2,u3⟩:=Fv (e:=2) hm w2.1 (by grind) (by grind) (by rw [w2.2];grind) (by rw [w2.2];grind);rw [w2.2] at u2 u3;have O9:=cD hk;rw [show ((7:Nat):Rat)=7 from rfl] at O9;have sY:(0:Rat)≤(k:Rat):=cD (Nat.zero_le k);obtain ⟨a1,a2⟩:=ha;obtain ⟨v1,v2,v3⟩:=My (e:=10) he vW (by grind) (by grind) (by rw [nk];grind) (by rw [nk];grind);rw [nk] at v2 v3;have gg:=xY k;obtain ⟨x1,x2⟩:=hb;refine ⟨7 - (k+1),_,by omega,rfl,k+1,rfl,by omega,u1,v1,?_,?_,by grind,by grind⟩;rw [Rat.natCast_add,show ((1:Nat):Rat)=1 from rfl];constructor<;>grind;simp only [p2];constructor<;>grind;right;rw [decide_eq_false c];exact ⟨_,rfl,k,hk,hm,he,ha,hb,by grind,hq⟩) 7 (m0,0) ⟨0,rfl,by omega,h0,w0.1,by
   show lD _ (wD 0) _;rw [w0.2,show ((0:Nat):Rat)=0 from rfl];constructor<;>grind,by
   show lD _ (wD m0) _;simp only [p2];constructor<;>grind,by show 1/200≤wD m0;grind,by show wD m0≤_;grind⟩
 exact this
theorem jX {q7 s K K':Nat}{c h e:Rat}(hq:FD q7)(hs:FD s)(hK:FD K)(q1:Bd (201/1000) (wD q7))(s1:Bd 2 (wD s))(hc:wD K=c)(c1:1≤c)(Xu:av .sub .f64 K 4611686018427387904=K')(ha:lD e (wD s) h)(e0:0≤e):
 ∃r,cj q7 (s,K)=some (.inl (r,K'))∧FD r∧Bd 2 (wD r)∧lD (e*(40401/1000000)+1/10000000000000) (wD r) (1/c+wD q7*wD q7*h):=by
 have ci: ∃i,i*c=1∧0≤i∧i≤1:=by
  refine ⟨1/c,by grind,?_,?_⟩;refine Rat.le_of_mul_le_mul_right (c:=c) ?_ (by grind);have:1/c*c=1:=by grind
  rw [this];grind;refine Rat.le_of_mul_le_mul_right (c:=c) ?_ (by grind);have:1/c*c=1:=by grind
  rw [this];grind
 obtain ⟨i,i1,i2,i3⟩:=ci;have e1:1/c=i:=by grind
 obtain ⟨a1,a2,a3⟩:=Vb (e:=1) (q:=i) vW hK (by rw [hc];grind) (by rw [hc,nk];grind) (by grind) (by grind) (by grind) (by grind);have bq:=q1.mul q1;obtain ⟨bq1,bq2⟩:=bq;obtain ⟨b1,b2,b3⟩:=Fv (e:=1/16) hq hq (by grind) (by grind) (by grind) (by grind);have bu:Bd (50000/1000000) (wD (av .mul .f64 q7 q7)):=by constructor<;>grind
 have bs:=bu.mul s1;obtain ⟨bs1,bs2⟩:=bs;obtain ⟨d1,d2,d3⟩:=Fv (e:=1/4) b1 hs (by grind) (by grind) (by grind) (by grind);have dd:=Bd.mul (A:=1/16/4503599627370496) (a:=wD (av .mul .f64 q7 q7) - wD q7*wD q7) ⟨by grind,by grind⟩ s1;obtain ⟨dd1,dd2⟩:=dd;obtain ⟨f1,f2,f3⟩:=Ss (e:=2) a1 d1 (by grind) (by grind) (by grind) (by grind);have hh:=(q1.mul q1).mul ha.bd;obtain ⟨hh1,hh2⟩:=hh;refine ⟨_,?_,f1,⟨by grind,by grind⟩,?_⟩;unfold cj;simp only;rw [MD hK vW,nk,decide_eq_true (show 1≤wD K by grind),Xu];rfl;rw [e1];constructor<;>grind
end Go.Proofs
namespace Go.Proofs
open Go.Ide Go.IntWalk
theorem Vg:FD 4627730092099895296∧wD 4627730092099895296=25:=⟨lu (by omega),by rw [ri (c:=25) (d:=1) (by omega) (by omega) (by decide+kernel),show ((1:Nat):Rat)=1 from rfl,show ((25:Nat):Rat)=25 from rfl];grind⟩
theorem Vh:FD 4627167142146473984∧wD 4627167142146473984=23:=⟨lu (by omega),by rw [ri (c:=23) (d:=1) (by omega) (by omega) (by decide+kernel),show ((1:Nat):Rat)=1 from rfl,show ((23:Nat):Rat)=23 from rfl];grind⟩
theorem Vi:FD 4626604192193052672∧wD 4626604192193052672=21:=⟨lu (by omega),by rw [ri (c:=21) (d:=1) (by omega) (by omega) (by decide+kernel),show ((1:Nat):Rat)=1 from rfl,show ((21:Nat):Rat)=21 from rfl];grind⟩
theorem Vj:FD 4626041242239631360∧wD 4626041242239631360=19:=⟨lu (by omega),by rw [ri (c:=19) (d:=1) (by omega) (by omega) (by decide+kernel),show ((1:Nat):Rat)=1 from rfl,show ((19:Nat):Rat)=19 from rfl];grind⟩
theorem Vk:FD 4625478292286210048∧wD 4625478292286210048=17:=⟨lu (by omega),by rw [ri (c:=17) (d:=1) (by omega) (by omega) (by decide+kernel),show ((1:Nat):Rat)=1 from rfl,show ((17:Nat):Rat)=17 from rfl];grind⟩
theorem Vl:FD 4624633867356078080∧wD 4624633867356078080=15:=⟨lu (by omega),by rw [ri (c:=15) (d:=1) (by omega) (by omega) (by decide+kernel),show ((1:Nat):Rat)=1 from rfl,show ((15:Nat):Rat)=15 from rfl];grind⟩
theorem Vm:FD 4623507967449235456∧wD 4623507967449235456=13:=⟨lu (by omega),by rw [ri (c:=13) (d:=1) (by omega) (by omega) (by decide+kernel),show ((1:Nat):Rat)=1 from rfl,show ((13:Nat):Rat)=13 from rfl];grind⟩
theorem Vn:FD 4622382067542392832∧wD 4622382067542392832=11:=⟨lu (by omega),by rw [ri (c:=11) (d:=1) (by omega) (by omega) (by decide+kernel),show ((1:Nat):Rat)=1 from rfl,show ((11:Nat):Rat)=11 from rfl];grind⟩
theorem Z3:FD 4621256167635550208∧wD 4621256167635550208=9:=⟨lu (by omega),by rw [ri (c:=9) (d:=1) (by omega) (by omega) (by decide+kernel),show ((1:Nat):Rat)=1 from rfl,show ((9:Nat):Rat)=9 from rfl];grind⟩
theorem Z4:FD 4619567317775286272∧wD 4619567317775286272=7:=⟨lu (by omega),by rw [ri (c:=7) (d:=1) (by omega) (by omega) (by decide+kernel),show ((1:Nat):Rat)=1 from rfl,show ((7:Nat):Rat)=7 from rfl];grind⟩
theorem Z5:FD 4617315517961601024∧wD 4617315517961601024=5:=⟨lu (by omega),by rw [ri (c:=5) (d:=1) (by omega) (by omega) (by decide+kernel),show ((1:Nat):Rat)=1 from rfl,show ((5:Nat):Rat)=5 from rfl];grind⟩
theorem Z6:FD 4613937818241073152∧wD 4613937818241073152=3:=⟨lu (by omega),by rw [ri (c:=3) (d:=1) (by omega) (by omega) (by decide+kernel),show ((1:Nat):Rat)=1 from rfl,show ((3:Nat):Rat)=3 from rfl];grind⟩
theorem Z7:FD 4607182418800017408∧wD 4607182418800017408=1:=⟨vW,nk⟩
theorem Z8:FD 13830554455654793216∧wD 13830554455654793216= -1:=by
 have:=Sw (r:=4607182418800017408) (by omega);rw [nk] at this;exact this
theorem Kd {q7:Nat}(hq:FD q7)(q1:Bd (201/1000) (wD q7)): ∃r,rounds (cj q7) ((0:Nat),(4627730092099895296:Nat))=some r∧FD r∧Bd 2 (wD r)∧lD (1/90000) (wD r) (1+wD q7*wD q7*(1/3+wD q7*wD q7*(1/5))):=by
 have NC: ∀x:Rat,lD 0 x x:=fun x=>⟨by grind,by grind⟩;have b27:Bd 2 (wD 0):=by rw [w0.2];exact ⟨by grind,by grind⟩
 have f27:=w0.1;obtain ⟨p25,Om,f25,b25,a25⟩:=jX (K':=4627167142146473984) hq f27 Vg.1 q1 b27 Vg.2 (by grind) (by decide+kernel) (NC _) (by grind);obtain ⟨p23,OI,f23,b23,a23⟩:=jX (K':=4626604192193052672) hq f25 Vh.1 q1 b25 Vh.2 (by grind) (by decide+kernel) (NC _) (by grind);obtain ⟨p21,UQ,f21,b21,a21⟩:=jX (K':=4626041242239631360) hq f23 Vi.1 q1 b23 Vi.2 (by grind) (by decide+kernel) (NC _) (by grind);obtain ⟨p19,Ol,f19,b19,a19⟩:=jX (K':=4625478292286210048) hq f21 Vj.1 q1 b21 Vj.2 (by grind) (by decide+kernel) (NC _) (by grind);obtain ⟨p17,Af,f17,b17,a17⟩:=jX (K':=4624633867356078080) hq f19 Vk.1 q1 b19 Vk.2 (by grind) (by decide+kernel) (NC _) (by grind);obtain ⟨p15,yE,f15,b15,a15⟩:=jX (K':=4623507967449235456) hq f17 Vl.1 q1 b17 Vl.2 (by grind) (by decide+kernel) (NC _) (by grind);obtain ⟨p13,wZ,f13,b13,a13⟩:=jX (K':=4622382067542392832) hq f15 Vm.1 q1 b15 Vm.2 (by grind) (by decide+kernel) (NC _) (by grind);obtain ⟨p11,Fb,f11,Z9,a11⟩:=jX (K':=4621256167635550208) hq f13 Vn.1 q1 b13 Vn.2 (by grind) (by decide+kernel) (NC _) (by grind);obtain ⟨p9,r9,f9,b9,a9⟩:=jX (K':=4619567317775286272) hq f11 Z3.1 q1 Z9 Z3.2 (by grind) (by decide+kernel) (NC _) (by grind);have a9':Bd (1/5) (wD p9):=by
  have b:=(q1.mul q1).mul Z9;obtain ⟨x1,x2⟩:=a9;obtain ⟨x3,x4⟩:=b;constructor<;>grind
 obtain ⟨p7,r7,f7,b7,a7⟩:=jX (K':=4617315517961601024) hq f9 Z4.1 q1 b9 Z4.2 (by grind) (by decide+kernel) (NC _) (by grind);have a7':lD (16/100) (wD p7) 0:=by
  have b:=(q1.mul q1).mul a9';obtain ⟨x1,x2⟩:=a7;obtain ⟨x3,x4⟩:=b;constructor<;>grind
 obtain ⟨p5,r5,f5,b5,a5⟩:=jX (K':=4613937818241073152) hq f7 Z5.1 q1 b7 Z5.2 (by grind) (by decide+kernel) a7' (by grind);obtain ⟨p3,r3,f3,b3,a3⟩:=jX (K':=4607182418800017408) hq f5 Z6.1 q1 b5 Z6.2 (by grind) (by decide+kernel) a5 (by grind);obtain ⟨p1,r1,f1,b1,a1⟩:=jX (K':=13830554455654793216) hq f3 Z7.1 q1 b3 Z7.2 (by grind) (by decide+kernel) a3 (by grind);refine ⟨p1,?_,f1,b1,?_⟩;rw [bA,Om];simp only;rw [bA,OI];simp only;rw [bA,UQ];simp only;rw [bA,Ol];simp only;rw [bA,Af];simp only;rw [bA,yE];simp only;rw [bA,wZ];simp only;rw [bA,Fb];simp only;rw [bA,r9];simp only;rw [bA,r7];simp only;rw [bA,r5];simp only;rw [bA,r3];simp only;rw [bA,r1];simp only;have mG:cj q7 (p1,13830554455654793216)=some (.inr p1):=by
  unfold cj;simp only;rw [MD Z8.1 vW,Z8.2,nk,decide_eq_false (by grind)];rfl
 rw [bA,mG];obtain ⟨x1,x2⟩:=a1;constructor<;>grind
end Go.Proofs
namespace Go.Proofs
open Go.Ide Go.IntWalk
theorem Nq.cancel {k:Nat}{x y c:Rat}(h:Nq k (x*c) (y*c))(hc:0<c):Nq k x y:=by
 obtain ⟨h1,h2⟩:=h;constructor;refine Rat.le_of_mul_le_mul_right (c:=c) ?_ hc;grind;refine Rat.le_of_mul_le_mul_right (c:=c) ?_ hc;grind
def bk (k:Nat):Rat:= -((k:Rat)*Cd)/256
theorem IV (k:Nat):bk (k+1)=bk k+bk 1:=by
 unfold bk;rw [Rat.natCast_add,show ((1:Nat):Rat)=1 from rfl];grind
end Go.Proofs
namespace Go.Proofs
open Go.Ide Go.IntWalk
theorem kt: ∀k:Nat,k≤1000000→rp k≤1+(k:Rat)*102/10000000000
 |0,_=>by show (1:Rat)≤1+((0:Nat):Rat)*102/10000000000;rw [show ((0:Nat):Rat)=0 from rfl];grind
 |k+1,hk=>by
  have h:=kt k (by omega);have gP:=cD (show k≤1000000 by omega);rw [show ((1000000:Nat):Rat)=1000000 from rfl] at gP;have h0:(0:Rat)≤(k:Rat):=cD (Nat.zero_le k);rw [Rat.natCast_add,show ((1:Nat):Rat)=1 from rfl];show rp k*AA≤_;have:=Rat.mul_le_mul_of_nonneg_right h (show 0≤AA by rw [uS];grind);rw [uS] at this⊢;grind
theorem YX:(8388609:Rat)≤8388608*rp 12:=by
 have:rp 12=AA*AA*AA*AA*AA*AA*AA*AA*AA*AA*AA*AA:=by
  simp only [rp];grind
 rw [this,uS];grind
theorem Fx: ∀k:Nat,((8388609^k:Nat):Rat)≤((8388608^k:Nat):Rat)*rp (12*k)
 |0=>by
  show ((1:Nat):Rat)≤((1:Nat):Rat)*1;rw [show ((1:Nat):Rat)=1 from rfl];grind
 |k+1=>by
  have ih:=Fx k;rw [Nat.pow_succ,Nat.pow_succ,Rat.natCast_mul,Rat.natCast_mul,show 12*(k+1)=12*k+12 from rfl,mK];rw [show ((8388609:Nat):Rat)=8388609 from rfl,show ((8388608:Nat):Rat)=8388608 from rfl];have h1:=YX;have g1:=iR (12*k);have p:(0:Rat)≤((8388608^k:Nat):Rat):=cD (Nat.zero_le _);have a:=Rat.mul_le_mul_of_nonneg_right ih (show (0:Rat)≤8388609 by grind);have b:=Rat.mul_le_mul_of_nonneg_left h1 (Rat.mul_nonneg p (show 0≤rp (12*k) by grind));grind
theorem kY {k u v:Nat}(h:cB k u v):Nq (12*k) (u:Rat) (v:Rat):=by
 have key: ∀{u v:Nat},u*8388608^k≤v*8388609^k→(u:Rat)≤(v:Rat)*rp (12*k):=by
  intro u v h;have h1:=cD h;rw [Rat.natCast_mul,Rat.natCast_mul] at h1;have h2:=Fx k;have hv:(0:Rat)≤(v:Rat):=cD (Nat.zero_le v);have hp:(0:Rat)<((8388608^k:Nat):Rat):=DK (Nat.pow_pos (by omega));have h3:=Rat.mul_le_mul_of_nonneg_left h2 hv;refine Rat.le_of_mul_le_mul_right (c:=((8388608^k:Nat):Rat)) ?_ hp;grind
 exact ⟨key h.1,key h.2⟩
theorem jo {x:Nat}(h:x≤2130706432):wS x=((bj x:Nat):Rat)/US:=by
 unfold wS;rw [Nat.div_eq_of_lt (by omega)];rfl
theorem cT {x:Nat}(h:x≤2130706432):0≤wS x:=by
 rw [jo h];have hU:=dH;have:(0:Rat)≤((bj x:Nat):Rat):=cD (Nat.zero_le _);generalize ((bj x:Nat):Rat)=v at*;generalize US=U at*;refine Rat.le_of_mul_le_mul_right (c:=U) ?_ hU;have e:v/U*U=v:=by grind
 rw [e];grind
theorem IW {x b:Nat}(h:x≤2130706432)(hb:bj x≤2^b)(h2:b≤175):FS x:=by
 refine ⟨by unfold bd;omega,Nat.le_trans hb (Nat.pow_le_pow_right (by omega) ?_)⟩;have:=Ho;omega
theorem MK:US=((2^149:Nat):Rat):=by
 unfold US;have:kS=149:=by have:=Ho;omega
 rw [this]
theorem Rg.fs {a b x:Nat}(h:Rg a b x)(hb:b≤175):FS x:=IW h.fin h.hi hb
theorem Rg.SF {a b x:Nat}(h:Rg a b x):((2^a:Nat):Rat)≤wS x*US:=by
 rw [jo h.fin];have n:=cD h.lo;have hU:=dH;generalize ((bj x:Nat):Rat)=v at*;generalize US=U at*;have e:v/U*U=v:=by grind
 rw [e];exact n
end Go.Proofs
namespace Go.Proofs
open Go.Ide Go.IntWalk
theorem Nq.add {k:Nat}{x y z w:Rat}(h:Nq k x y)(h':Nq k z w):Nq k (x+z) (y+w):=by
 obtain ⟨h1,h2⟩:=h;obtain ⟨h3,h4⟩:=h';constructor<;>grind
theorem Nq.pJ {k:Nat}{x y c:Rat}(h:Nq k x y)(hc:0≤c):Nq k (x*c) (y*c):=by
 obtain ⟨h1,h2⟩:=h;have a:=Rat.mul_le_mul_of_nonneg_right h1 hc;have b:=Rat.mul_le_mul_of_nonneg_right h2 hc;constructor<;>grind
def ak (f:Nat→Rat):Nat→Rat
 |0=>0
 |n+1=>ak f n+f n
theorem jY {f:Nat→Rat}: ∀n,(∀i,i<n→0≤f i)→0≤ak f n
 |0,_=>by show (0:Rat)≤0;grind
 |n+1,h=>by
  have h1:=jY n (fun i hi=>h i (by omega));have h2:=h n (by omega);show 0≤ak f n+f n;grind
theorem gv {k:Nat}{f g:Nat→Rat}: ∀n,(∀i,i<n→Nq k (f i) (g i))→Nq k (ak f n) (ak g n)
 |0,_=>by
  have:=iR k;show Nq k 0 0;constructor<;>grind
 |n+1,h=>(gv n fun i hi=>h i (by omega)).add (h n (by omega))
theorem b8 (f:Nat→Rat)(c:Rat): ∀n,ak f n*c=ak (fun i=>f i*c) n
 |0=>by show (0:Rat)*c=0;grind
 |n+1=>by
  show (ak f n+f n)*c=ak (fun i=>f i*c) n+f n*c;rw [←b8 f c n];grind
theorem aD {f g:Nat→Rat}: ∀n,(∀i,i<n→f i=g i)→ak f n=ak g n
 |0,_=>rfl
 |n+1,h=>by
  show ak f n+f n=ak g n+g n;rw [aD n fun i hi=>h i (by omega),h n (by omega)]
theorem dI (f g:Nat→Rat): ∀n,ak f n+ak g n=ak (fun i=>f i+g i) n
 |0=>by show (0:Rat)+0=0;grind
 |n+1=>by
  show (ak f n+f n)+(ak g n+g n)=ak (fun i=>f i+g i) n+(f n+g n);rw [←dI f g n];grind
theorem xi (f:Nat→Nat→Rat)(m:Nat): ∀n,ak (fun i=>ak (f i) m) n=ak (fun j=>ak (fun i=>f i j) n) m
 |0=>by
  show (0:Rat)=ak (fun j=>0) m;induction m with
  |zero=>rfl
  |succ m ih=>show (0:Rat)=ak (fun j=>0) m+0;rw [←ih];grind
 |n+1=>by
  show ak (fun i=>ak (f i) m) n+ak (f n) m=ak (fun j=>ak (fun i=>f i j) n+f n j) m;rw [xi f m n,dI]
theorem mf:((2^149:Nat):Rat)=US:=MK.symm
theorem rj {a b c d x y:Nat}(hx:Rg a b x)(hy:Rg c d y)(h1:172≤a+c)(h2:b+d≤424)(h3:a+c≤425)(h4:172≤b+d):Nq 12 (wS (av .mul .f32 x y)) (wS x*wS y):=by
 obtain ⟨r,n⟩:=me hx hy h1 h2 h3 h4;have q:=kY n;rw [Rat.natCast_mul,Rat.natCast_mul,mf] at q;rw [jo r.fin,jo hx.fin,jo hy.fin];have hU:=dH;refine Nq.cancel (c:=US*US) ?_ (Rat.mul_pos hU hU);generalize ((bj (av .mul .f32 x y):Nat):Rat)=z at*;generalize ((bj x:Nat):Rat)=u at*;generalize ((bj y:Nat):Rat)=v at*;generalize US=U at*;have e1:z/U*(U*U)=z*U:=by grind
 have e2:u/U*(v/U)*(U*U)=u*v:=by grind
 rw [e1,e2];exact q
theorem SG {x y:Nat}(hx:x≤2130706432)(hy:y≤2130706432):wS x+wS y=((bj x+bj y:Nat):Rat)/US:=by
 rw [jo hx,jo hy,Rat.natCast_add];have hU:=dH;grind
theorem xj {k u v:Nat}(h:cB k u v):Nq (12*k) ((u:Rat)/US) ((v:Rat)/US):=by
 have n:=kY h;have hU:=dH;refine Nq.cancel (c:=US) ?_ hU;generalize (u:Rat)=a at*;generalize (v:Rat)=b at*;generalize US=U at*;have e1:a/U*U=a:=by grind
 have e2:b/U*U=b:=by grind
 rw [e1,e2];exact n
theorem rk (f:Nat→Nat): ∀n,((mb f n:Nat):Rat)/US=ak (fun i=>((f i:Nat):Rat)/US) n
 |0=>by
  show ((0:Nat):Rat)/US=0;rw [show ((0:Nat):Rat)=0 from rfl];grind
 |n+1=>by
  show ((mb f n+f n:Nat):Rat)/US=ak _ n+_;rw [←rk f n,Rat.natCast_add];have hU:=dH;grind
theorem Hs {f:Nat→Nat}{t:Nat→Nat}{lo hi:Nat}(hb:23≤hi)(h0:f 0=0)(hs: ∀p,f (p+1)=av .add .f32 (f p) (t p))(n:Nat)(ht: ∀p,p<n→Rg lo hi (t p))(hn:hi+n≤274):
 Nq (12*n) (wS (f n)) (ak (fun p=>wS (t p)) n):=by
 obtain ⟨h1,_,h3,_⟩:=uR hb h0 hs n ht hn;have q:=xj h3;rw [rk] at q;rw [jo h1];rw [aD n (g:=fun i=>((bj (t i):Nat):Rat)/US) fun i hi=>jo (ht i hi).fin];exact q
theorem SH {a b c d x y:Nat}(hx:Rg a b x)(hy:Rg c d y)(h1:d≤a+125)(h2:b≤c+125)(h3:c≤b+120):Nq 24 (wS (av .quo .f32 x y)*wS y) (wS x):=by
 obtain ⟨r,n⟩:=At hx hy h1 h2 h3;have q:=kY n;rw [Rat.natCast_mul,Rat.natCast_mul,mf] at q;rw [jo r,jo hx.fin,jo hy.fin];have hU:=dH;refine Nq.cancel (c:=US*US) ?_ (Rat.mul_pos hU hU);generalize ((bj (av .quo .f32 x y):Nat):Rat)=z at*;generalize ((bj x:Nat):Rat)=u at*;generalize ((bj y:Nat):Rat)=v at*;generalize US=U at*;have e1:z/U*(v/U)*(U*U)=z*v:=by grind
 have e2:u/U*(U*U)=u*U:=by grind
 rw [e1,e2];exact q
end Go.Proofs
namespace Go.Proofs
open Go.Ide Go.IntWalk
def DO (row:List Nat):Prop:=eU row=true∧cB 6 (mb (fun i=>bj (row.getD i 0)) row.length) (2^149)∧ ∀i,i<row.length→2^149≤33*bj (row.getD i 0)
theorem SI {A W r T:Nat}(h0:0<A)(l1:A≤W)(h5:W*A*10000≤r*T*10001)(l5:T*10000≤32*A*10001):A≤33*r:=by
 have h1:A*A*10000≤W*A*10000:=Nat.mul_le_mul_right _ (Nat.mul_le_mul_right _ l1);have h2:r*(T*10000)≤r*(32*A*10001):=Nat.mul_le_mul_left _ l5;have h3:A*A*10000*10000≤r*(32*A*10001)*10001:=by
  have a:A*A*10000*10000≤r*T*10001*10000:=Nat.mul_le_mul_right _ (Nat.le_trans h1 h5);have b:r*T*10001*10000=r*(T*10000)*10001:=by ac_rfl
  rw [b] at a;exact Nat.le_trans a (Nat.mul_le_mul_right _ h2)
 have e1:A*A*10000*10000=A*(A*100000000):=by rw [Nat.mul_assoc,Nat.mul_assoc]
 have e2:r*(32*A*10001)*10001=A*(r*32*10001*10001):=by ac_rfl
 rw [e1,e2] at h3;have:=Nat.le_of_mul_le_mul_left h3 h0;omega
theorem Pa {ws:List Nat}(h1:1≤ws.length)(h4:ws.length≤4)(hw: ∀i,i<ws.length→Rg 149 152 (ws.getD i 0)):
 DO (dp ws (aW ws ws.length))∧(dp ws (aW ws ws.length)).length=ws.length∧ ∀i,i<ws.length→NB ((dp ws (aW ws ws.length)).getD i 0):=by
 have hl:=qi ws (aW ws ws.length);obtain ⟨s1,s2,s3,s4⟩:=mJ (xs:=ws) (b:=152) (by omega) (fun i hi=>⟨(hw i hi).fin,(hw i hi).hi⟩) ws.length (Nat.le_refl _) (by omega);have hg: ∀i,i<ws.length→(dp ws (aW ws ws.length)).getD i 0=av .quo .f32 (ws.getD i 0) (aW ws ws.length):=fun i hi=>by
  unfold dp;rw [List.getD_eq_getElem?_getD,List.getElem?_map,List.getElem?_range hi];rfl
 have hT0:=s4 0 (by omega);have hT:Rg 149 156 (aW ws ws.length):=⟨s1,Nat.le_trans (hw 0 (by omega)).lo (jy (by have:=(hw 0 (by omega)).fin;omega) (by omega) hT0),Nat.le_trans s2 (Nat.pow_le_pow_right (by omega) (by omega))⟩;have oS:0<bj (aW ws ws.length):=by have:=hT.lo;have:=bg 149;omega
 have AB: ∀i,i<ws.length→(NB (av .quo .f32 (ws.getD i 0) (aW ws ws.length))∧2^149≤33*bj (av .quo .f32 (ws.getD i 0) (aW ws ws.length)))∧cB 2 (bj (av .quo .f32 (ws.getD i 0) (aW ws ws.length))*bj (aW ws ws.length)) (bj (ws.getD i 0)*2^149):=fun i hi=>by
  obtain ⟨q1,q2⟩:=At (hw i hi) hT (by omega) (by omega) (by omega);have q3:=tA (x:=ws.getD i 0) (y:=aW ws ws.length) (a:=254) (hw i hi).bd hT.bd (by omega) (by omega) (by have:=(hw i hi).fin;unfold jx;omega) (by unfold jx;omega) (s4 i hi) (by
   intro e;rw [e,fx] at oS;exact Nat.lt_irrefl _ oS)
  refine ⟨⟨⟨q1,?_,?_⟩,?_⟩,q2⟩;have h5:=q2.symm.le (by omega);have l1:=(hw i hi).lo;have l2:=s3.le (by omega);have l3:=DC (f:=fun i=>bj (ws.getD i 0)) (c:=2^152) ws.length (fun j hj=>(hw j hj).hi);have l4:ws.length*2^152≤4*2^152:=Nat.mul_le_mul_right _ h4;generalize bj (av .quo .f32 (ws.getD i 0) (aW ws ws.length))=r at*;generalize mb (fun i=>bj (ws.getD i 0)) ws.length=S at*;generalize bj (aW ws ws.length)=T at*;have e1:(2:Nat)^149=64*2^143:=by decide
  have e2:(2:Nat)^152=8*2^149:=by decide
  rw [e2] at l3 l4;have h0:=bg 149;generalize bj (ws.getD i 0)=W at*;generalize (2:Nat)^149=A at*;generalize (2:Nat)^143=B at*;exact Sl e1 h0 l1 h5 (Mp l2 (Nat.le_trans l3 l4));rw [←ud];exact jy (by omega) (by omega) q3;have h5:=q2.symm.le (by omega);have l1:=(hw i hi).lo;have l2:=s3.le (by omega);have l3:=DC (f:=fun i=>bj (ws.getD i 0)) (c:=2^152) ws.length (fun j hj=>(hw j hj).hi);have l4:ws.length*2^152≤4*2^152:=Nat.mul_le_mul_right _ h4;generalize bj (av .quo .f32 (ws.getD i 0) (aW ws ws.length))=r at*;generalize mb (fun i=>bj (ws.getD i 0)) ws.length=S at*;generalize bj (aW ws ws.length)=T at*;have e2:(2:Nat)^152=8*2^149:=by decide
  rw [e2] at l3 l4;have h0:=bg 149;generalize bj (ws.getD i 0)=W at*;generalize (2:Nat)^149=A at*;exact SI h0 l1 h5 (Mp l2 (Nat.le_trans l3 l4))
 refine ⟨?_,hl,fun i hi=>by rw [hg i hi];exact (AB i hi).1.1⟩;have n1:cB 2 (mb (fun i=>bj ((dp ws (aW ws ws.length)).getD i 0)) ws.length*bj (aW ws ws.length)) (mb (fun i=>bj (ws.getD i 0)) ws.length*2^149):=by
  rw [ql,ql];exact vQ _ fun i hi=>by rw [hg i hi];exact (AB i hi).2
 have n2:cB (2+ws.length) (mb (fun i=>bj ((dp ws (aW ws ws.length)).getD i 0)) ws.length*bj (aW ws ws.length)) (2^149*bj (aW ws ws.length)):=by
  refine n1.trans ?_;rw [Nat.mul_comm (2^149)];exact s3.symm.pJ _
 refine ⟨?_,by rw [hl];exact (n2.cancel oS).mono (by omega),fun i hi=>by rw [hg i (by omega)];exact (AB i (by omega)).1.2⟩;unfold eU;rw [Bool.and_eq_true];constructor;refine df.2 fun i _ hi=> ?_;have hi:i<ws.length:=by omega
 rw [hg i hi];obtain ⟨⟨q1,_⟩,q2⟩:=AB i hi;unfold share;rw [P3 q1.fin (by omega),P2 q1.fin (by omega),fx,ud];rw [decide_eq_true (Nat.zero_le _),decide_eq_true q1.hi];rfl;obtain ⟨r1,r2,r3,_⟩:=mJ (xs:=dp ws (aW ws ws.length)) (b:=149) (by omega) (fun i hi=>by
  rw [hg i (by omega)];exact ⟨(AB i (by omega)).1.1.fin,(AB i (by omega)).1.1.hi⟩) ws.length (by omega) (by omega)
 rw [hl];refine Au r1 ?_;exact (r3.trans (n2.cancel oS)).mono (by omega)
theorem ML {xs:List Nat}{sr:Fm}(all:Nat)(h:xs.length≤1000000):rounds (g8 (all,sr,xs)) ((0:Int),xs)=some (dp xs all):=by
 have h1:=bt (f:=g8 (all,sr,xs)) (fun i out=>(((i:Nat):Int),out)) (fun i out=>out.set i (av .quo .f32 (out.getD i 0) all)) id (n:=xs.length)
  (fun i out=>out=(List.range i).map (fun i=>av .quo .f32 (xs.getD i 0) all)++xs.drop i)
  (fun i out hi ho=>by
   have CD:out.length=xs.length:=by rw [ho];simp;omega
   have hg:out.getD i 0=xs.getD i 0:=by
    rw [ho,List.getD_eq_getElem?_getD,List.getElem?_append_right (by simp)];simp [List.getD_eq_getElem?_getD]
   refine ⟨?_,?_⟩;have j1:=cZ (i:=i) (n:=out.length) (by omega);unfold g8;simp only [ai,nW hi,cond_true,Int.toNat_natCast,cQ hi (show xs.length≤4294967296 by omega)];rw [guard_pos j1];rw [hg,ho,drop_cons hi 0,wM (by simp),List.range_succ,List.map_append];simp)
  (fun out _=>by
   unfold g8;simp only [ai,nX (Nat.le_refl _),cond_false];rfl) xs.length 0 xs (by omega) (by simp)
 simp only [Int.natCast_zero] at h1;have h2:=h1.2;rw [List.drop_length,List.append_nil] at h2;rw [h1.1];simp only [id];rw [h2];rfl
theorem AD {k g:Nat}(k1:1≤k)(k4:k≤4){s:Fm}(hs:ni (8+g) s):
 ∃row s',jz s (k:Int)=some (row,s')∧DO row∧row.length=k∧(∀i,i<k→NB (row.getD i 0))∧ni g s':=by
 obtain ⟨r,er,r1,r2,r3,r4⟩:=fM (f:=oM (k:Int)) (fun m st=> ∃(i:Nat) (s:Fm) (ws:List Nat),m+i=k∧st=(aW ws ws.length,(i:Int),s,ws)∧ws.length=i∧ni (m*2+g) s∧ ∀j,j<ws.length→Rg 149 152 (ws.getD j 0))
  (fun r=>r.1=aW r.2.2 r.2.2.length∧r.2.2.length=k∧ni g r.2.1∧ ∀j,j<r.2.2.length→Rg 149 152 (r.2.2.getD j 0)) (by
   rintro m st ⟨i,s,ws,hm,rfl,hl,EC,hw⟩;unfold oM;by_cases hi:i<k;obtain ⟨x,s',e,x1,x2,o⟩:=IJ (n:=(m - 1)*2+g) (EC.mono (by omega)) (5:Int);have QU:=weight (x:=x) (by omega);simp only [nW hi,cond_true,e,Option.bind_some,cQ hi (show k≤4294967296 by omega)];rw [guard_pos (by simp only [List.length_singleton,bO];omega)];refine .inl ⟨m - 1,_,by omega,rfl,i+1,s',ws++[eg .f32 (al .i64 (1:Int) x)],by omega,?_,by simp;omega,o,fun j hj=> ?_⟩
   congr 1
   rw [List.length_append,List.length_singleton];show _=av .add .f32 (aW (ws++[eg .f32 (al .i64 (1:Int) x)]) ws.length) ((ws++[eg .f32 (al .i64 (1:Int) x)]).getD ws.length 0);rw [Fq _ (Nat.le_refl _),om,if_neg (Nat.lt_irrefl _),Nat.sub_self];rfl;rw [om];split;rename_i h;exact hw j h;have:j - ws.length=0:=by simp at hj;omega
   rw [this];exact QU;have Tv:i=k:=by omega
   simp only [nX (show k≤i by omega),cond_false];exact .inr ⟨_,rfl,rfl,by simp only;omega,EC.mono (by omega),hw⟩) k ((0:Nat),(0:Int),s,([]:List Nat)) ⟨0,s,[],by omega,rfl,rfl,hs.mono (by omega),fun j hj=>by simp at hj⟩
 obtain ⟨T,s',ws⟩:=r;simp only at r1 r2 r3 r4;obtain ⟨q1,q2,q3⟩:=Pa (ws:=ws) (by omega) (by omega) r4;rw [←r1] at q1 q2 q3;refine ⟨dp ws T,s',?_,q1,by omega,fun i hi=>q3 i (by omega),r3⟩;have hq:rounds (g8 (T,s',ws)) ((0:Int),ws)=some (dp ws T):=by
  rw [ML T (by omega)]
 unfold jz;simp only [er,hq,Option.bind_some]
structure AE (w i:Nat)(xs:List Nat):Prop where
 len:xs.length=i*w
 ok: ∀p,p<i→DO (bT xs w p)
 YY: ∀p,p<xs.length→NB (xs.getD p 0)
theorem AE.snoc {w i:Nat}{xs row:List Nat}(h:AE w i xs)(hr:DO row)(hl:row.length=w)(he: ∀j,j<w→NB (row.getD j 0)):AE w (i+1) (xs++row):=by
 have hlen:=h.len;refine ⟨by rw [List.length_append,hlen,hl,Nat.succ_mul],fun p hp=> ?_,fun p hp=> ?_⟩;by_cases e:p<i;have P0:p*w+w≤i*w:=by rw [←Nat.succ_mul];exact Nat.mul_le_mul_right _ e
 have:bT (xs++row) w p=bT xs w p:=by
  unfold bT;rw [List.drop_append_of_le_length (by omega),List.take_append_of_le_length (by rw [List.length_drop];omega)]
 rw [this];exact h.ok p e;have hpi:p=i:=by omega
 subst hpi;have:bT (xs++row) w p=row:=by
  unfold bT;rw [←hlen,List.drop_left,←hl,List.take_length]
 rw [this];exact hr;rw [om];rw [List.length_append] at hp;split;rename_i h2;exact h.YY p h2;exact he _ (by omega)
structure mg (a b:Nat)(fs ss hs:List Nat):Prop where
 d:xW a b fs ss hs
 gf:DO fs
 gs: ∀p,p<a→DO (bT ss a p)
 gh: ∀p,p<a→DO (bT hs b p)
theorem Ht {c:List Int}(hc:rb c){b:Nat}(b1:1≤b)(b4:b≤4): ∃(a:Nat) (fs ss hs:List Nat),kj c (b:Int)=some ((a:Int),(b:Int),fs,ss,hs)∧mg a b fs ss hs:=by
 obtain ⟨ef,of⟩:=ni.from hc
 obtain ⟨x,s1,e1,x1,x2,o1⟩:=IJ (n:=10000) (of.mono (by omega)) (4:Int);obtain ⟨a,ha,a1,a4⟩: ∃a:Nat,al .i64 (1:Int) x=(a:Int)∧1≤a∧a≤4:=⟨(1+x).toNat,by rw [ju (by omega)];omega,by omega,by omega⟩;obtain ⟨fs,s2,e2,f1,f2,f3,o2⟩:=AD (k:=a) a1 a4 (g:=5000) (o1.mono (by omega));obtain ⟨r,er,r1,r2⟩:=fM (f:=mH (b:Int) (x,s1)) (fun m st=> ∃(i:Nat) (s:Fm) (ss hs:List Nat),m+i=a∧st=((i:Int),s,ss,hs)∧ni (m*100) s∧AE a i ss∧AE b i hs)
  (fun r=>AE a a r.1∧AE b a r.2) (by
   rintro m st ⟨i,s,ss,hs,hm,rfl,By,h1,h2⟩;unfold mH;simp only [ha];have l1:=h1.len;have l2:=h2.len;by_cases hi:i<a;obtain ⟨row,s3,q1,q2,q3,q4,q5⟩:=AD (k:=a) a1 a4 (g:=(m - 1)*100+50) (By.mono (by omega));obtain ⟨ab5,s4,p1,p2,p3,p4,p5⟩:=AD (k:=b) b1 b4 (g:=(m - 1)*100) (q5.mono (by omega));have Qt:i*a≤4*4:=Nat.mul_le_mul (by omega) a4;have hib:i*b≤4*4:=Nat.mul_le_mul (by omega) b4;simp only [nW hi,cond_true,q1,p1,Option.bind_some,cQ hi (show a≤4294967296 by omega)];rw [guard_pos (by simp only [bO];omega),guard_pos (by simp only [bO];omega)];exact .inl ⟨m - 1,_,by omega,rfl,i+1,s4,_,_,by omega,rfl,p5,h1.snoc q2 q3 q4,h2.snoc p2 p3 p4⟩;have Qt:i=a:=by omega
   rw [Qt] at h1 h2;simp only [nX (show a≤i by omega),cond_false];exact .inr ⟨_,rfl,h1,h2⟩) a ((0:Int),s2,([]:List Nat),([]:List Nat)) ⟨0,s2,[],[],by omega,rfl,o2.mono (by omega),⟨by simp,fun p hp=>absurd hp (Nat.not_lt_zero p),fun p hp=>by simp at hp⟩,⟨by simp,fun p hp=>absurd hp (Nat.not_lt_zero p),fun p hp=>by simp at hp⟩⟩
 obtain ⟨ss,hs⟩:=r;simp only at r1 r2;have m1:a*a≤4*4:=Nat.mul_le_mul a4 a4;have m2:a*b≤4*4:=Nat.mul_le_mul a4 b4;have ls:=r1.len;have lh:=r2.len;have ja:cu (a:Int) (b:Int) fs ss hs=true:=by
  unfold cu;rw [mo (by rw [←Int.natCast_mul];omega),←Int.natCast_mul,mo (by rw [←Int.natCast_mul];omega),←Int.natCast_mul];simp only [Bool.and_eq_true,decide_eq_true_eq,beq_iff_eq,ai,Int.toNat_natCast];exact ⟨⟨by omega,by omega⟩,⟨by omega,by omega⟩,by omega,by omega,by omega,f1.1,df.2 fun i _ hi=>(r1.ok i (by omega)).1,df.2 fun i _ hi=>(r2.ok i (by omega)).1⟩
 obtain ⟨a',b',WU,ke,mm⟩:=qg ja;have ea:a'=a:=by omega
 have eb:b'=b:=by omega
 subst ea eb;refine ⟨a',fs,ss,hs,?_,⟨a4,ja,mm,fun i hi=>f3 i hi,fun i j hi hj=>r1.YY _ (by rw [ls];exact jg hi hj),fun i j hi hj=>r2.YY _ (by rw [lh];exact jg hi hj)⟩,f1,r1.ok,r2.ok⟩;unfold kj;simp only [ef,e1,ha,e2,er,Option.bind_some]
end Go.Proofs
namespace Go.Proofs
open Go.Ide Go.IntWalk
section
variable {a b:Nat} {fs ss hs:List Nat}
theorem Pb (d:xW a b fs ss hs){row:List Nat}{c lo hi:Nat}(hc:c<b)(hr:po a lo hi row)(h1:39≤lo)(h2:lo≤hi)(h3:hi≤250){j:Nat}(hj:j<a):
 Nq 72 (wS ((ib a b ss hs row c).getD j 0)) (ak (fun p=>wS (row.getD p 0)*wS (hs.getD (p*b+c) 0)*wS (ss.getD (p*a+j) 0)) a):=by
 have a1:=d.m.n1;have a4:=d.a4;have m1:=fun p (hp:p<a)=>me (hr p hp) (d.eh p c hp hc) (by omega) (by omega) (by omega) (by omega);have ht: ∀p,p<a→Rg (lo - 12) hi (av .mul .f32 (av .mul .f32 (row.getD p 0) (hs.getD (p*b+c) 0)) (ss.getD (p*a+j) 0)):=fun p hp=>
  (me (m1 p hp).1 (d.es p j hp hj) (by omega) (by omega) (by omega) (by omega)).1.mono (by omega) (by omega)
 rw [qh hj];obtain ⟨q1,_,_,_⟩:=uR (f:=mq a b ss hs row c j) (by omega) rfl (fun p=>rfl) a ht (by omega);have n1:=Hs (f:=mq a b ss hs row c j) (by omega) rfl (fun p=>rfl) a ht (by omega);have n2:=gv (k:=24) a (f:=fun p=>wS (av .mul .f32 (av .mul .f32 (row.getD p 0) (hs.getD (p*b+c) 0)) (ss.getD (p*a+j) 0))) (g:=fun p=>wS (row.getD p 0)*wS (hs.getD (p*b+c) 0)*wS (ss.getD (p*a+j) 0)) fun p hp=>by
  have x1:=rj (m1 p hp).1 (d.es p j hp hj) (by omega) (by omega) (by omega) (by omega);have x2:=rj (hr p hp) (d.eh p c hp hc) (by omega) (by omega) (by omega) (by omega);have x3:=x2.pJ (cT (d.es p j hp hj).fin);exact x1.trans x3
 have p1:=cT q1;have p2:=jY (f:=fun p=>wS (row.getD p 0)*wS (hs.getD (p*b+c) 0)*wS (ss.getD (p*a+j) 0)) a fun p hp=>Rat.mul_nonneg (Rat.mul_nonneg (cT (hr p hp).fin) (cT (d.eh p c hp hc).fin)) (cT (d.es p j hp hj).fin);exact (n1.trans n2).mono p1 p2 (by omega)
theorem oW {row:List Nat}{n:Nat}(h:DO row)(hl:row.length=n)(he: ∀i,i<n→NB (row.getD i 0)):Nq 72 (ak (fun i=>wS (row.getD i 0)) n) 1:=by
 have q:=xj h.2.1;rw [rk,hl,mf] at q;have hU:=dH;have e:US/US=1:=by grind
 rw [e] at q;rw [aD n (g:=fun i=>((bj (row.getD i 0):Nat):Rat)/US) fun i hi=>jo (he i hi).fin];exact q
theorem DP {row:List Nat}(h:DO row){i:Nat}(hi:i<row.length)(he:NB (row.getD i 0)):1/33≤wS (row.getD i 0)∧wS (row.getD i 0)≤1:=by
 have n:=cD (h.2.2 i hi);rw [Rat.natCast_mul,mf,show ((33:Nat):Rat)=33 from rfl] at n;have n2:=cD he.hi;rw [mf] at n2;rw [jo he.fin];have hU:=dH;generalize ((bj (row.getD i 0):Nat):Rat)=v at*;generalize US=U at*;have e:v/U*U=v:=by grind
 constructor;refine Rat.le_of_mul_le_mul_right (c:=U) ?_ hU;rw [e];grind;refine Rat.le_of_mul_le_mul_right (c:=U) ?_ hU;rw [e];grind
end
end Go.Proofs
namespace Go.Proofs
open Go.Ide Go.IntWalk
theorem Ke {f:Int×List Nat→Option ((Int×List Nat)⊕List Nat)}(xs:List Nat)(h:Nat→Nat)(lP: ∀(i:Nat) (out:List Nat),i<xs.length→out.length=xs.length→out.getD i 0=xs.getD i 0→f ((i:Int),out)=some (.inl (((i+1:Nat):Int),out.set i (h (xs.getD i 0)))))(mG: ∀out:List Nat,out.length=xs.length→f (((xs.length:Nat):Int),out)=some (.inr out)):rounds f ((0:Int),xs)=some (xs.map h):=by
 have:=bt (f:=f) (fun i out=>(((i:Nat):Int),out)) (fun i out=>out.set i (h (xs.getD i 0))) id (n:=xs.length) (fun i out=>out=(xs.take i).map h++xs.drop i)
  (fun i out hi ho=>⟨lP i out hi (by rw [ho];simp;omega) (by
   rw [ho];simp only [List.getD_eq_getElem?_getD];rw [List.getElem?_append_right (by simp;omega)];simp only [List.length_map,List.length_take,List.getElem?_drop];rw [show i+(i - min i xs.length)=i by omega]),by
   rw [ho,wO hi 0,drop_cons hi 0,wM (by simp;omega)];simp⟩)
  (fun out ho=>mG out (by rw [ho];simp)) xs.length 0 xs (by omega) (by simp)
 simp only [Int.natCast_zero] at this;rw [this.1,show id (pC _ xs.length 0 xs)=pC _ xs.length 0 xs from rfl,this.2];simp
def xk (a b:Nat)(ss hs row:List Nat)(c:Nat):List Nat:=(ib a b ss hs row c).map fun x=>av .quo .f32 x (fY b hs row c a)
section
variable {a b:Nat} {fs ss hs:List Nat}
theorem MN (m:Model a b fs ss hs){w:List Int}{i c total y:Nat}{row:List Nat}(Ku:w.length≤12)(hi:i<w.length)(hc:w.getD i 0=(c:Int))(eV:c<b)(hl:row.length=a)(hd:qI .f32 (fY b hs row c a) 0=true)(hy:dG (fY b hs row c a)=some y):
 cm ((a:Int),(b:Int),fs,ss,hs) w (total,(i:Int),row)=some (.inl (av .add .f32 total y,((i+1:Nat):Int),xk a b ss hs row c)):=by
 have ld:=m.n2;have dU:=m.k2;have Bu:=m.lh;have xn:=bt (f:=c9 ((a:Int),(b:Int),fs,ss,hs) w (total,((i:Nat):Int),row)) (fun p z=>(z,((p:Nat):Int))) (fun p z=>av .add .f32 z (av .mul .f32 (row.getD p 0) (hs.getD (p*b+c) 0))) id (n:=a) (fun p z=>z=fY b hs row c p)
  (fun p z hp hz=>⟨by
   obtain ⟨e1,e2⟩:=oP (a:=a) (b:=b) (by omega) (by omega) hp eV;have hL:ai row=(a:Int):=by unfold ai;rw [hl]
   have j2:=cZ (i:=p*b+c) (n:=hs.length) (by omega);unfold c9 cC;simp only [hL,nW hp,cond_true,Int.toNat_natCast,cQ hp (show a≤4294967296 by omega),hc,e1];rw [guard_pos (cZ hp),guard_pos j2];rfl,by rw [hz];rfl⟩)
  (fun z _=>by
   have hL:ai row=(a:Int):=by unfold ai;rw [hl]
   unfold c9;simp only [hL,nX (Nat.le_refl _),cond_false];rfl) a 0 0 (by omega) rfl
 simp only [Int.natCast_zero] at xn;have hdiv:=Ke (f:=c8 (fY b hs row c a) (ib a b ss hs row c)) (ib a b ss hs row c) (fun x=>av .quo .f32 x (fY b hs row c a))
  (fun j out hj ho Jq=>by
   have j1:=cZ (i:=j) (n:=out.length) (by omega);unfold c8;simp only [nW hj,cond_true,Int.toNat_natCast,cQ hj (show (ib a b ss hs row c).length≤4294967296 by rw [lr];omega),Jq];rw [guard_pos j1])
  (fun out _=>by
   unfold c8;simp only [nX (Nat.le_refl _),cond_false])
 unfold cm;simp only [nW hi,cond_true,Int.toNat_natCast,guard_pos (cZ hi),xn.1,id,Option.bind_some,xn.2,hc,cQ hi (show w.length≤4294967296 by omega),hd,Bool.not_true,cond_false,Ap m eV hl,hdiv,hy];rfl
theorem Fy {row:List Nat}{c j:Nat}(hj:j<a):(xk a b ss hs row c).getD j 0=av .quo .f32 ((ib a b ss hs row c).getD j 0) (fY b hs row c a):=by
 have hl:=lr a b ss hs row c;unfold xk;rw [List.getD_eq_getElem?_getD,List.getElem?_map,List.getElem?_eq_getElem (by omega),List.getD_eq_getElem?_getD,List.getElem?_eq_getElem (by omega)];rfl
end
end Go.Proofs
namespace Go.Proofs
open Go.Ide Go.IntWalk
theorem gE {f g:Nat→Rat}: ∀n,(∀i,i<n→f i≤g i)→ak f n≤ak g n
 |0,_=>Rat.le_refl
 |n+1,h=>by
  have h1:=gE n (fun i hi=>h i (by omega));have h2:=h n (by omega);show ak f n+f n≤ak g n+g n;grind
section
variable {a b:Nat} {fs ss hs:List Nat}
end
end Go.Proofs
namespace Go.Proofs
open Go.Ide Go.IntWalk
section
variable {a b:Nat} {fs ss hs:List Nat}
theorem yI:wS 0=0:=by
 rw [jo (by omega),fx,show ((0:Nat):Rat)=0 from rfl];have:=dH;grind
end
end Go.Proofs
namespace Go.Proofs
open Go.Ide Go.IntWalk
section
variable {a b:Nat} {fs ss hs:List Nat}
end
end Go.Proofs
namespace Go.Proofs
open Go.Ide Go.IntWalk
end Go.Proofs
namespace Go.Proofs
open Go.Ide Go.IntWalk
section
variable {a b:Nat} {fs ss hs:List Nat}
theorem Pc (d:xW a b fs ss hs){row:List Nat}{c lo hi:Nat}(hc:c<b)(hr:po a lo hi row)(h1:39≤lo)(h2:lo≤hi)(h3:hi≤250){i:Nat}(nr:i<a):
 Nq 72 (wS ((rK a b ss hs row c).getD i 0)) (ak (fun p=>wS (hs.getD (i*b+c) 0)*wS (ss.getD (i*a+p) 0)*wS (row.getD p 0)) a):=by
 have a4:=d.a4;obtain ⟨r,n⟩:=IN d hc hr h1 h2 h3;have q:=kY (n i nr);rw [Rat.natCast_mul,Rat.natCast_mul,mf] at q;have hU:=dH;have cs:=rk (fun p=>bj (hs.getD (i*b+c) 0)*bj (ss.getD (i*a+p) 0)*bj (row.getD p 0)) a;have e:ak (fun p=>((bj (hs.getD (i*b+c) 0)*bj (ss.getD (i*a+p) 0)*bj (row.getD p 0):Nat):Rat)/US) a=ak (fun p=>wS (hs.getD (i*b+c) 0)*wS (ss.getD (i*a+p) 0)*wS (row.getD p 0)) a*(US*US):=by
  rw [b8];refine aD a fun p hp=> ?_;rw [jo (d.eh i c nr hc).fin,jo (d.es i p nr hp).fin,jo (hr p hp).fin,Rat.natCast_mul,Rat.natCast_mul];grind
 rw [e] at cs;have w:=jo (r i nr).fin;have p0:=cT (r i nr).fin;have p1:=jY (f:=fun p=>wS (hs.getD (i*b+c) 0)*wS (ss.getD (i*a+p) 0)*wS (row.getD p 0)) a fun p hp=>Rat.mul_nonneg (Rat.mul_nonneg (cT (d.eh i c nr hc).fin) (cT (d.es i p nr hp).fin)) (cT (hr p hp).fin);generalize ak (fun p=>wS (hs.getD (i*b+c) 0)*wS (ss.getD (i*a+p) 0)*wS (row.getD p 0)) a=S at*;generalize ((mb (fun p=>bj (hs.getD (i*b+c) 0)*bj (ss.getD (i*a+p) 0)*bj (row.getD p 0)) a:Nat):Rat)=T at*;generalize ((bj ((rK a b ss hs row c).getD i 0):Nat):Rat)=v at*;have m:Nq (12*(a+2)) (wS ((rK a b ss hs row c).getD i 0)) S:=by
  refine Nq.cancel (c:=US*US*US) ?_ (Rat.mul_pos (Rat.mul_pos hU hU) hU);rw [w];generalize US=U at*;have e1:v/U*(U*U*U)=v*(U*U):=by grind
  have e2:S*(U*U*U)=T:=by grind
  rw [e1,e2];exact q
 exact m.mono p0 p1 (by omega)
end
end Go.Proofs
namespace Go.Proofs
open Go.Ide Go.IntWalk
section
variable {a b:Nat} {fs ss hs:List Nat}
end
end Go.Proofs
namespace Go.Proofs
open Go.Ide Go.IntWalk
theorem SJ:wS 1065353216=1:=by
 rw [jo (by omega),ud,mf];have:=dH;grind
section
variable {a b:Nat} {fs ss hs:List Nat}
end
end Go.Proofs
namespace Go.Proofs
open Go.Ide Go.IntWalk
end Go.Proofs
namespace Go.Proofs
open Go.Ide Go.IntWalk
section
variable {a b:Nat} {fs ss hs:List Nat}
end
theorem Kf {x:Nat}(h:pz .f32 x x=true)(h2:bD .f32 .f64 x≠9221120237041090560):fb x x=some true:=by
 unfold fb l9;simp only [h,Bool.not_true,cond_false,cond_true,Option.bind_some,guard_pos h2,beq_self_eq_true]
theorem uU {xs:List Nat}(hl:xs.length≤4294967296)(h: ∀i,i<xs.length→fb (xs.getD i 0) (xs.getD i 0)=some true):iI xs xs=some true:=by
 have:=bt (f:=aI xs xs) (fun i (_:Unit)=>((i:Nat):Int)) (fun _ s=>s) (fun _=>(.inl ():Unit⊕Unit)) (n:=xs.length) (fun _ _=>True)
  (fun i s hi _=>⟨by
   unfold aI;simp only [ai,nW hi,cond_true,Int.toNat_natCast,guard_pos (cZ hi),h i hi,Option.bind_some,Bool.not_true,cond_false,cQ hi hl],trivial⟩)
  (fun s _=>by
   unfold aI;simp only [ai,nX (Nat.le_refl _),cond_false]) xs.length 0 () (by omega) trivial
 simp only [Int.natCast_zero] at this;unfold iI aL;simp only [bne_self_eq_false,cond_false,this.1,Option.bind_some]
end Go.Proofs
namespace Go.Proofs
open Go.Ide Go.IntWalk
theorem Ce (f:Nat→Rat)(w:Nat): ∀n,ak f (n*w)=ak (fun i=>ak (fun j=>f (i*w+j)) w) n
 |0=>by rw [Nat.zero_mul];rfl
 |n+1=>by
  have h: ∀m,ak f (n*w+m)=ak f (n*w)+ak (fun j=>f (n*w+j)) m:=fun m=>by
   induction m with
   |zero=>show ak f (n*w)=ak f (n*w)+0;grind
   |succ m ih=>show ak f (n*w+m)+f (n*w+m)=ak f (n*w)+(ak (fun j=>f (n*w+j)) m+f (n*w+m));rw [ih];grind
  rw [Nat.succ_mul,h w,Ce f w n];rfl
theorem Vo {x b:Nat}(hx:x≤2130706432)(hb:bj x≤2^b)(o6:b≤175):FD (bD .f32 .f64 x)∧bD .f32 .f64 x≤9214364837600034816∧0≤wD (bD .f32 .f64 x)∧Nq 12 (wD (bD .f32 .f64 x)) (wS x):=by
 obtain ⟨k,hk⟩: ∃k:Nat,k=925:=⟨_,rfl⟩;obtain ⟨h1,h2,h3⟩:=OY hk hx hb (by omega);have hw:wD (bD .f32 .f64 x)=((ie (bD .f32 .f64 x):Nat):Rat)/UD:=by
  unfold wD;rw [Nat.div_eq_of_lt (by omega)];rfl
 have hU:=rh;have h0:(0:Rat)≤((ie (bD .f32 .f64 x):Nat):Rat):=cD (Nat.zero_le _);refine ⟨⟨by unfold kP;omega,Nat.le_trans h2 (Nat.pow_le_pow_right (by omega) (by have:=Ax;omega))⟩,h1,?_,?_⟩;rw [hw];refine Rat.le_of_mul_le_mul_right (c:=UD) ?_ hU;generalize ((ie (bD .f32 .f64 x):Nat):Rat)=v at*;generalize UD=U at*;have e:v/U*U=v:=by grind
 rw [e];grind;have n:=kY h3;rw [Rat.natCast_mul] at n;rw [hw,jo hx];have e:=ME hk;have hS:=dH;refine Nq.cancel (c:=UD) ?_ hU;generalize ((ie (bD .f32 .f64 x):Nat):Rat)=v at*;generalize ((bj x:Nat):Rat)=u at*;have e1:v/UD*UD=v:=by grind
 have e2:u/US*UD=u*((2^k:Nat):Rat):=by
  rw [e];generalize ((2^k:Nat):Rat)=p;generalize US=U at*;grind
 rw [e1,e2];exact n
section
variable {a b:Nat} {fs ss hs:List Nat}
end
end Go.Proofs
namespace Go.Proofs
open Go.Ide Go.IntWalk
end Go.Proofs
namespace Go.Proofs
open Go.Ide Go.IntWalk
section
variable {a b:Nat} {fs ss hs:List Nat}
end
end Go.Proofs
namespace Go.Proofs
open Go.Ide Go.IntWalk
theorem yJ: ∀{k l:Nat},k≤l→p2 k≤p2 l
 |k,0,h=>by
  have:k=0:=by omega
  subst this;exact Rat.le_refl
 |k,l+1,h=>by
  by_cases e:k=l+1;subst e;exact Rat.le_refl;have h1:=yJ (k:=k) (l:=l) (by omega);have h2:=xY l;show p2 k≤2*p2 l;grind
theorem P9:p2 23=8388608:=by decide+kernel
theorem Pd {k:Nat}(h:23≤k):8388608≤p2 k:=by
 have:=yJ h;rw [P9] at this;exact this
theorem Hu {k:Nat}(h:k≤23):p2 k≤8388608:=by
 have:=yJ h;rw [P9] at this;exact this
theorem Hv {m0:Nat}(h0:FD m0)(l0:1/4194305≤wD m0)(l1:wD m0≤3/2):
 ∃r,rounds bW (m0,(0:Nat))=some r∧ ∃k:Nat,k≤23∧FD r.1∧FD r.2∧lD ((k:Rat)/100000000000000) (wD r.2) (-(k:Rat))∧lD ((p2 k - 1)/1000000000000000) (wD r.1) (wD m0*p2 k)∧3/4≤wD r.1∧wD r.1≤3/2+1/1000000000000000:=by
 have:=fM (f:=bW) (fun n s=> ∃k:Nat,n=23 - k∧k≤23∧FD s.1∧FD s.2∧lD ((k:Rat)/100000000000000) (wD s.2) (-(k:Rat))∧lD ((p2 k - 1)/1000000000000000) (wD s.1) (wD m0*p2 k)∧1/8388620≤wD s.1∧wD s.1≤3/2+1/1000000000000000)
  (fun r=> ∃k:Nat,k≤23∧FD r.1∧FD r.2∧lD ((k:Rat)/100000000000000) (wD r.2) (-(k:Rat))∧lD ((p2 k - 1)/1000000000000000) (wD r.1) (wD m0*p2 k)∧3/4≤wD r.1∧wD r.1≤3/2+1/1000000000000000) (by
  rintro n ⟨m,e⟩ ⟨k,rfl,hk,hm,he,ha,hb,hp,hq⟩;simp only at hm he ha hb hp hq;unfold bW;simp only;rw [MC hm Wf.1,Wf.2];by_cases c:wD m<3/4;left;rw [decide_eq_true c];have BZ:k<23:=by
   apply Nat.lt_of_not_le;intro h7;have g:=Pd h7;have g2:=Hu hk;obtain ⟨x1,x2⟩:=hb;have:=Rat.mul_le_mul_of_nonneg_left g (show 0≤wD m0 by grind);grind
  obtain ⟨u1,u2,u3⟩:=Fv (e:=2) hm w2.1 (by grind) (by grind) (by rw [w2.2];grind) (by rw [w2.2];grind);rw [w2.2] at u2 u3;have O9:=cD hk;rw [show ((23:Nat):Rat)=23 from rfl] at O9;have sY:(0:Rat)≤(k:Rat):=cD (Nat.zero_le k);obtain ⟨a1,a2⟩:=ha;obtain ⟨v1,v2,v3⟩:=My (e:=32) he vW (by grind) (by grind) (by rw [nk];grind) (by rw [nk];grind);rw [nk] at v2 v3;have gg:=xY k;obtain ⟨x1,x2⟩:=hb;refine ⟨23 - (k+1),_,by omega,rfl,k+1,rfl,by omega,u1,v1,?_,?_,by grind,by grind⟩;rw [Rat.natCast_add,show ((1:Nat):Rat)=1 from rfl];constructor<;>grind;simp only [p2];constructor<;>grind;right;rw [decide_eq_false c];exact ⟨_,rfl,k,hk,hm,he,ha,hb,by grind,hq⟩) 23 (m0,0) ⟨0,rfl,by omega,h0,w0.1,by
   show lD _ (wD 0) _;rw [w0.2,show ((0:Nat):Rat)=0 from rfl];constructor<;>grind,by
   show lD _ (wD m0) _;simp only [p2];constructor<;>grind,by show 1/8388620≤wD m0;grind,by show wD m0≤_;grind⟩
 exact this
theorem MO {m0:Nat}(h0:FD m0)(l0:1/4194305≤wD m0)(l1:wD m0≤149/100):
 ∃L,e8 m0=some L∧FD L∧ ∃(k:Nat) (q:Rat),k≤23∧Bd (201/1000) q∧lD (1/210000) (wD L) (Fw q - (k:Rat)*Cd)∧lD (3/100000000) (1+q) (wD m0*p2 k*(1 - q)):=by
 obtain ⟨⟨m,e⟩,r2,k,hk,hm,he,ha,hb,mi,pr⟩:=Hv h0 l0 (by grind);simp only at hm he ha hb mi pr;have r3:rounds cN (m0,(0:Nat))=some (m0,0):=by
  have w15:FD 4609434218613702656∧wD 4609434218613702656=3/2:=⟨lu (by omega),by rw [ri (c:=3) (d:=2) (by omega) (by omega) (by decide+kernel),show ((2:Nat):Rat)=2 from rfl,show ((3:Nat):Rat)=3 from rfl]⟩;have h:cN (m0,(0:Nat))=some (.inr (m0,0)):=by
   unfold cN;simp only;rw [MD h0 w15.1,w15.2,decide_eq_false (by grind)];rfl
  rw [bA,h]
 obtain ⟨s1,s2,s3⟩:=My (e:=1) hm vW (by grind) (by grind) (by rw [nk];grind) (by rw [nk];grind);obtain ⟨t1,t2,t3⟩:=Ss (e:=3) hm vW (by grind) (by grind) (by rw [nk];grind) (by rw [nk];grind);rw [nk] at s2 s3 t2 t3;generalize ha1:av .sub .f64 m 4607182418800017408=A at*;generalize uY:av .add .f64 m 4607182418800017408=B at*;have hB:0<wD B:=by grind
 have hqq: ∃z,z*wD B=wD A:=⟨wD A/wD B,by grind⟩;obtain ⟨z,hz⟩:=hqq;have z1:z≤2005/10000:=by
  refine Rat.le_of_mul_le_mul_right (c:=wD B) ?_ hB;rw [hz];grind
 have z2: -(2005/10000)≤z:=by
  refine Rat.le_of_mul_le_mul_right (c:=wD B) ?_ hB;rw [hz];grind
 obtain ⟨u1,u2,u3⟩:=Vb (e:=1) (q:=z) s1 t1 (by grind) hz (by grind) (by grind) (by grind) (by grind);generalize ha3:av .quo .f64 A B=Q at*;have qb:Bd (201/1000) (wD Q):=⟨by grind,by grind⟩;obtain ⟨R,r1,fR,bR,aR⟩:=Kd u1 qb;have bqr:=qb.mul bR;obtain ⟨c1,c2⟩:=bqr;obtain ⟨d1,d2,d3⟩:=Fv (e:=1) u1 fR (by grind) (by grind) (by grind) (by grind);generalize ha4:av .mul .f64 Q R=C at*;obtain ⟨e1,e2,e3⟩:=Fv (e:=2) w2.1 d1 (by grind) (by grind) (by rw [w2.2];grind) (by rw [w2.2];grind);rw [w2.2] at e2 e3;generalize ha5:av .mul .f64 4611686018427387904 C=D at*;have O9:=cD hk;rw [show ((23:Nat):Rat)=23 from rfl] at O9;have sY:(0:Rat)≤(k:Rat):=cD (Nat.zero_le k);obtain ⟨x1,x2⟩:=ha;have bl:Bd 1 Cd:=by unfold Cd;constructor<;>grind
 have bel:=Bd.mul (A:=24) (a:=wD e) ⟨by grind,by grind⟩ bl;obtain ⟨y1,y2⟩:=bel;obtain ⟨f1,f2,f3⟩:=Fv (e:=24) he Wg.1 (by grind) (by grind) (by rw [Wg.2];grind) (by rw [Wg.2];grind);rw [Wg.2] at f2 f3;generalize ha6:av .mul .f64 e 4604418534313441775=E at*;have bkl:=Bd.mul (A:=23/100000000000000) (a:=wD e - -(k:Rat)) ⟨by grind,by grind⟩ bl;obtain ⟨y3,y4⟩:=bkl;obtain ⟨g1,g2,g3⟩:=Ss (e:=32) e1 f1 (by grind) (by grind) (by grind) (by grind);have bRR:=qb.mul aR.bd;obtain ⟨y5,y6⟩:=bRR;refine ⟨_,?_,g1,k,wD Q,hk,qb,?_,?_⟩;unfold e8;rw [r3];simp only [Option.bind_some,r2,ha1,uY,ha3,r1,ha4,ha5,ha6];have ee:Fw (wD Q)=2*(wD Q*(1+wD Q*wD Q*(1/3+wD Q*wD Q*(1/5)))):=by unfold Fw;grind
 rw [ee];have ey:wD Q*(wD R - (1+wD Q*wD Q*(1/3+wD Q*wD Q*(1/5))))=wD Q*wD R - wD Q*(1+wD Q*wD Q*(1/3+wD Q*wD Q*(1/5))):=by grind
 rw [ey] at y5 y6;have ek:(wD e - -(k:Rat))*Cd=wD e*Cd+(k:Rat)*Cd:=by grind
 rw [ek] at y3 y4;generalize wD Q*(1+wD Q*wD Q*(1/3+wD Q*wD Q*(1/5)))=W at*;generalize wD Q*wD R=V at*;generalize wD e*Cd=Y at*;generalize (k:Rat)*Cd=Z at*;clear hz z1 z2 u2 u3 s2 s3 t2 t3 aR c1 c2 hb;constructor<;>grind;have zz:=Bd.mul (A:=1/1125899906842624) (a:=wD Q - z) (B:=3) (b:=wD m+1) ⟨by grind,by grind⟩ ⟨by grind,by grind⟩;obtain ⟨z3,z4⟩:=zz;have zb:=Bd.mul (A:=3/4503599627370496) (a:=wD B - (wD m+1)) (B:=1) (b:=z) ⟨by grind,by grind⟩ ⟨by grind,by grind⟩;obtain ⟨z5,z6⟩:=zb;have g:=Hu hk;have Xy:Bd (8388608/1000000000000000) (wD m - wD m0*p2 k):=by
  obtain ⟨b1,b2⟩:=hb;constructor<;>grind
 have hm2:=Xy.mul (B:=2) (b:=1 - wD Q) ⟨by grind,by grind⟩;obtain ⟨z7,z8⟩:=hm2;constructor<;>grind
theorem DQ {k:Nat}(h:k≤23):Bd (1/8) (bk k):=by
 have O9:=cD h;rw [show ((23:Nat):Rat)=23 from rfl] at O9;have sY:(0:Rat)≤(k:Rat):=cD (Nat.zero_le k);unfold bk Cd;constructor<;>grind
theorem MP: ∀k:Nat,k≤23→Nq (513*k) (Ex (bk k)*p2 k) 1
 |0,_=>by
  have:Ex (bk 0)*p2 0=1:=by
   have e:bk 0=0:=by unfold bk;rw [show ((0:Nat):Rat)=0 from rfl];grind
   rw [e];decide+kernel
  rw [this];exact Nq.refl (by grind)
 |k+1,h=>by
  have ih:=MP k (by omega);have b1:Bd (1/8) (bk 1):=DQ (by omega);have bb:=DQ (k:=k) (by omega);have bs:=DQ h;rw [IV] at bs;have s:=(MH bb b1 bs).symm;have e1:bk 1= -Cd/256:=by unfold bk;rw [show ((1:Nat):Rat)=1 from rfl];grind
  have l:=SC;rw [←e1] at l;have g:=xY k;have x0:=xX bb;have x1:=xX b1;have xs:=xX bs;have m1:=s.mul (Nq.refl (x:=2*p2 k) (by grind)) xs (Rat.mul_nonneg x0 x1) (by grind) (by grind);have p0:=Rat.mul_nonneg x0 (show 0≤p2 k by grind);have m2:=ih.mul (l.mul (Nq.refl (x:=2) (by grind)) x1 (by grind) (by grind) (by grind)) p0 (by grind) (Rat.mul_nonneg x1 (by grind)) (by grind);rw [IV];have e2:Ex (bk k)*Ex (bk 1)*(2*p2 k)=Ex (bk k)*p2 k*(Ex (bk 1)*2):=by grind
  rw [e2] at m1;have m3:=m1.trans m2;have e3:(1:Rat)*(1/2*2)=1:=by grind
  rw [e3] at m3;have e4:Ex (bk k+bk 1)*p2 (k+1)=Ex (bk k+bk 1)*(2*p2 k):=rfl;rw [e4];refine m3.mono (Rat.mul_nonneg xs (by grind)) (by grind) (by omega)
theorem SK {s:Nat}(hs:FS s)(EC:s≤2130706432)(l0:1/4194304≤wS s)(l1:wS s≤148/100):
 ∃(y k:Nat),dG s=some y∧FS y∧Bd 18 (wS y)∧ -(1/2+7/10*(k:Rat))≤wS y∧wS y≤1/2∧k≤23∧wS s*p2 k≤155/100∧Nq (5100+513*k) (Ex (wS y/256)) (wS s):=by
 obtain ⟨u1,u2,u3⟩:=YW (e:=2) hs (by grind) (by grind) (by grind) (by grind);have o5:lD (2/4503599627370496) (wD (bD .f32 .f64 s)) (wS s):=⟨u2,u3⟩;obtain ⟨L,r1,fL,k,q,hk,hq,hL,hr⟩:=MO u1 (by grind) (by grind);have hV:0<bj s:=by
  apply Nat.pos_of_ne_zero;intro h;have:wS s=0:=by
   unfold wS;rw [h,show ((0:Nat):Rat)=0 from rfl];have:=dH;unfold sg;split<;>grind
  rw [this] at l0;grind
 have ho:=tJ EC (show 0≤2130706432 by omega);rw [fx] at ho;have YZ:compare ((bj s:Nat):Int) ((0:Nat):Int)= .gt:=by
  simp only [compare,compareOfLessAndEq];rw [if_neg (by omega),if_neg (by omega)]
 rw [YZ] at ho;have f1:pz .f32 s 0=false:=by show (Ieee.single.order s 0==some .eq)=false;rw [ho];rfl
 have f2:aX .f32 s 0=false:=by show (Ieee.single.order s 0==some .lt)=false;rw [ho];rfl
 have D6:=tJ EC EC;have Vp:compare ((bj s:Nat):Int) ((bj s:Nat):Int)= .eq:=by
  simp only [compare,compareOfLessAndEq];rw [if_neg (by omega),if_pos trivial]
 rw [Vp] at D6;have f3:pz .f32 s s=true:=by show (Ieee.single.order s s==some .eq)=true;rw [D6];rfl
 have f4:cP s=some true:=by
  have:=DA hs.1 (by omega) (by omega);unfold cP;unfold fin at this;rw [this]
 have PF:wS s*p2 k≤155/100:=by
  have g:=xY k;have g2:=Hu hk;obtain ⟨x1,x2⟩:=hq;obtain ⟨x3,x4⟩:=hr;have m1:=Rat.mul_le_mul_of_nonneg_right (show wS s≤wD (bD .f32 .f64 s)+2/4503599627370496 by grind) (show 0≤p2 k by grind);have h0:0≤wD (bD .f32 .f64 s)*p2 k:=Rat.mul_nonneg (by grind) (by grind);have m2:=Rat.mul_le_mul_of_nonneg_left (show 799/1000≤1 - q by grind) h0;grind
 have O9:=cD hk;rw [show ((23:Nat):Rat)=23 from rfl] at O9;have sY:(0:Rat)≤(k:Rat):=cD (Nat.zero_le k);have oZ:=Hr hq;have VT:0≤(k:Rat)*Cd∧(k:Rat)*Cd≤1600/100:=by unfold Cd;constructor<;>grind
 have kl3:(k:Rat)*Cd≤7/10*(k:Rat):=by unfold Cd;grind
 obtain ⟨kl1,kl2⟩:=VT;obtain ⟨L1,L2⟩:=hL;obtain ⟨el1,el2⟩:=oZ;obtain ⟨g1,g2,g3,g4⟩:=Vc (e:=18) fL (by grind) (by grind) (by grind) (by grind);generalize hy:bD .f64 .f32 L=y at*;refine ⟨y,k,?_,g2,⟨by grind,by grind⟩,by grind,by grind,hk,PF,?_⟩;unfold dG;rw [f1,f2,f3,f4];simp only [Bool.not_true,cond_false,Option.bind_some,r1];rw [guard_pos g1,hy];have ba:Bd (1/8) (Fw q/256):=⟨by grind,by grind⟩;have bb:=DQ hk;have Y1:Bd (1/8) (Fw q/256+bk k):=by unfold bk;constructor<;>grind
 have by':Bd (1/8) (wS y/256):=⟨by grind,by grind⟩
 have AF:lD (1/36000000) (wS y/256) (Fw q/256+bk k):=by unfold bk;constructor<;>grind
 have n1:=SA (k:=11) by' Y1 AF (by grind) (by rw [show ((11:Nat):Rat)=11 from rfl];grind)
 have n2:=(MH ba bb Y1).symm;have n3:=SB hq;have n4:=MP k hk;obtain ⟨x1,x2⟩:=hq;have g:=xY k;have ea:=xX ba;have eb:=xX bb;have ey:=xX by'
 have eab:=xX Y1;have q0:0<1 - q:=by grind
 have w0:0≤wD (bD .f32 .f64 s):=by grind
 have rr:3/4≤1+q:=by grind
 have n5:Nq 5 (1+q) (wD (bD .f32 .f64 s)*p2 k*(1 - q)):=by
  obtain ⟨x3,x4⟩:=hr;exact Nq.uT ⟨x3,x4⟩ (by rw [show ((5:Nat):Rat)=5 from rfl];grind) (by rw [show ((5:Nat):Rat)=5 from rfl];grind) (by grind) (by grind)
 have n6:Nq 1 (wD (bD .f32 .f64 s)) (wS s):=Nq.uT o5 (by rw [show ((1:Nat):Rat)=1 from rfl];grind) (by rw [show ((1:Nat):Rat)=1 from rfl];grind) w0 (by grind);have m1:=n3.mul n4 (Rat.mul_nonneg ea (by grind)) (by grind) (Rat.mul_nonneg eb (by grind)) (by grind);have e1:(1+q)*1=1+q:=by grind
 rw [e1] at m1;have m2:=m1.trans n5;have e2:Ex (Fw q/256)*(1 - q)*(Ex (bk k)*p2 k)=Ex (Fw q/256)*Ex (bk k)*(p2 k*(1 - q)):=by grind
 have e3:wD (bD .f32 .f64 s)*p2 k*(1 - q)=wD (bD .f32 .f64 s)*(p2 k*(1 - q)):=by grind
 rw [e2,e3] at m2;have m3:=m2.cancel (Rat.mul_pos (by grind) q0);have all:=((n1.trans n2).trans m3).trans n6;exact all.mono ey (by grind) (by omega)
end Go.Proofs
namespace Go.Proofs
def ep:Rat:=1/1073741824
def cp:Rat:=1+ep
theorem ka:0<ep:=by unfold ep;grind
theorem mY:0<cp:=by unfold cp;have:=ka;grind
theorem kZ:cp≠0:=by have:=mY;grind
theorem AG {x:Rat}(h:0<x):0≤x⁻¹:=Rat.le_of_lt (Rat.inv_pos.2 h)
theorem IX: ∀n:Nat,1+(n:Rat)*ep≤cp^n
 |0=>by rw [Rat.pow_zero,show ((0:Nat):Rat)=0 from rfl];grind
 |n+1=>by
  have ih:=IX n;rw [Rat.pow_succ,show ((n+1:Nat):Rat)=(n:Rat)+1 by grind];have h:=Rat.mul_le_mul_of_nonneg_right ih (Rat.le_of_lt mY);have hn:(0:Rat)≤(n:Rat):=Rat.natCast_nonneg;have hp:=ka;have h2:0≤(n:Rat)*ep*ep:=Rat.mul_nonneg (Rat.mul_nonneg hn (Rat.le_of_lt hp)) (Rat.le_of_lt hp);unfold cp at*;grind
theorem Qa: ∀n:Nat,(1 - (n:Rat)*ep)*cp^n≤1
 |0=>by rw [Rat.pow_zero,show ((0:Nat):Rat)=0 from rfl];grind
 |n+1=>by
  have ih:=Qa n;have hp:=ka;have hn:(0:Rat)≤(n:Rat):=Rat.natCast_nonneg;have hb:0≤cp^n:=Rat.le_of_lt (Rat.pow_pos mY);have h2:0≤(((n:Rat)+1)*ep*ep)*cp^n:=Rat.mul_nonneg (Rat.mul_nonneg (Rat.mul_nonneg (by grind) (Rat.le_of_lt hp)) (Rat.le_of_lt hp)) hb;rw [Rat.pow_succ,show ((n+1:Nat):Rat)=(n:Rat)+1 by grind];have e:(1 - ((n:Rat)+1)*ep)*(cp^n*cp)=(1 - (n:Rat)*ep)*cp^n - (((n:Rat)+1)*ep*ep)*cp^n:=by unfold cp;grind
  rw [e];grind
theorem Cf (n:Int):1+(n:Rat)*ep≤cp^n:=by
 cases n with
 |ofNat n=>rw [show (Int.ofNat n)=((n:Nat):Int) from rfl,Rat.zpow_natCast];exact IX n
 |negSucc n=>
  rw [show Int.negSucc n= -((n+1:Nat):Int) from rfl,Rat.zpow_neg,Rat.zpow_natCast];have h:=Qa (n+1);have hb:0<cp^(n+1):=Rat.pow_pos mY;have e:cp^(n+1)*(cp^(n+1))⁻¹=1:=Rat.mul_inv_cancel _ (by grind);have hi:0≤(cp^(n+1))⁻¹:=AG hb;have h2:=Rat.mul_le_mul_of_nonneg_right h hi;rw [show (1 - ((n+1:Nat):Rat)*ep)*cp^(n+1)*(cp^(n+1))⁻¹=(1 - ((n+1:Nat):Rat)*ep)*(cp^(n+1)*(cp^(n+1))⁻¹) by grind,e] at h2;have e2:((-((n+1:Nat):Int):Int):Rat)= -((n+1:Nat):Rat):=by rw [Rat.intCast_neg,Rat.intCast_natCast]
  rw [e2];grind
theorem cO (n:Int):0<cp^n:=Rat.zpow_pos mY
theorem MQ {P:Nat→Prop}(h0:P 0): ∀M:Nat,¬P M→ ∃k,P k∧ ¬P (k+1)
 |0,h=>absurd h0 h
 |M+1,h=>by
  by_cases hm:P M;exact ⟨M,hm,h⟩;exact MQ h0 M hm
theorem IY (x:Rat): ∃N:Nat,x<cp^N:=by
 obtain ⟨N,hN⟩: ∃N:Nat,x/ep<(N:Rat):=by
  refine ⟨(x/ep).floor.toNat+1,?_⟩;have h:=Rat.lt_floor_add_one (x/ep);have h2:(x/ep).floor≤((x/ep).floor.toNat:Int):=by omega
  have h3:(((x/ep).floor:Int):Rat)≤(((x/ep).floor.toNat:Int):Rat):=Rat.intCast_le_intCast.2 h2;rw [Rat.intCast_natCast] at h3;rw [Rat.intCast_add] at h;rw [show (((x/ep).floor.toNat+1:Nat):Rat)=((x/ep).floor.toNat:Rat)+1 by grind];have:((1:Int):Rat)=1:=rfl;grind
 refine ⟨N,?_⟩;have h:=IX N;have hp:=ka;have h2:x<(N:Rat)*ep:=(Rat.div_lt_iff hp).1 hN;grind
theorem DR {x:Rat}(hx:0<x): ∃n:Int,cp^n≤x∧x<cp^(n+1):=by
 obtain ⟨A,hA⟩:=IY x;obtain ⟨C,hC⟩:=IY (1/x);have h0:cp^(((0:Nat):Int) - (C:Int))≤x:=by
  rw [show ((0:Nat):Int) - (C:Int)= -(C:Int) by omega,Rat.zpow_neg,Rat.zpow_natCast];have hb:0<cp^C:=Rat.pow_pos mY;have e:cp^C*(cp^C)⁻¹=1:=Rat.mul_inv_cancel _ (by grind);have hi:0≤(cp^C)⁻¹:=AG hb;have h1:1<cp^C*x:=(Rat.div_lt_iff hx).1 hC;have h2:=Rat.mul_le_mul_of_nonneg_right (Rat.le_of_lt h1) hi;rw [show cp^C*x*(cp^C)⁻¹=(cp^C*(cp^C)⁻¹)*x by grind,e] at h2;grind
 obtain ⟨k,h1,h2⟩:=MQ (P:=fun k=>cp^((k:Int) - (C:Int))≤x) h0 (A+C) (by
  show¬cp^(((A+C:Nat):Int) - (C:Int))≤x;rw [show ((A+C:Nat):Int) - (C:Int)=(A:Int) by omega,Rat.zpow_natCast];grind)
 refine ⟨(k:Int) - C,h1,?_⟩;rw [show (k:Int) - C+1=((k+1:Nat):Int) - C by omega];have: ¬cp^(((k+1:Nat):Int) - (C:Int))≤x:=h2;grind
open Classical in
noncomputable def kb (x:Rat):Int:=if h:0<x then (DR h).choose else 0
theorem DS {x:Rat}(h:0<x):cp^(kb x)≤x:=by unfold kb;rw [dif_pos h];exact (DR h).choose_spec.1
theorem DT {x:Rat}(h:0<x):x<cp^(kb x+1):=by unfold kb;rw [dif_pos h];exact (DR h).choose_spec.2
theorem MR {x:Rat}(h:0<x):1 - 1/x≤((kb x:Rat)+1)*ep:=by
 have h1:=DT h;have h2:=Cf (-(kb x+1));have hb:=cO (kb x+1);rw [Rat.zpow_neg] at h2;have e:cp^(kb x+1)*(cp^(kb x+1))⁻¹=1:=Rat.mul_inv_cancel _ (by grind);have h3:(cp^(kb x+1))⁻¹≤1/x:=by
  have h4:=Rat.mul_le_mul_of_nonneg_right (Rat.mul_le_mul_of_nonneg_left (Rat.le_of_lt h1) (AG hb)) (AG h);have e3:x*x⁻¹=1:=Rat.mul_inv_cancel _ (by grind);rw [show (cp^(kb x+1))⁻¹*x*x⁻¹=(cp^(kb x+1))⁻¹*(x*x⁻¹) by grind,e3,show (cp^(kb x+1))⁻¹*cp^(kb x+1)*x⁻¹=(cp^(kb x+1)*(cp^(kb x+1))⁻¹)*x⁻¹ by grind,e] at h4;grind
 have e2:((-(kb x+1):Int):Rat)= -((kb x:Rat)+1):=by grind
 rw [e2] at h2;grind
theorem MS {n:Nat}{q:Nat→Rat}{y:Nat→Int}{s:Int}(hq: ∀i,i<n→0≤q i)(hs:(s:Rat)*ak q n≤ak (fun i=>q i*(y i:Rat)) n):
 cp^s*ak q n≤ak (fun i=>q i*cp^(y i)) n:=by
 have hb:=cO s;have h1:ak (fun i=>cp^s*(q i*(1+((y i:Rat) - (s:Rat))*ep))) n≤ak (fun i=>q i*cp^(y i)) n:=by
  refine gE n fun i hi=> ?_;have e:cp^(y i)=cp^s*cp^(y i - s):=by rw [←Rat.zpow_add kZ];congr 1;omega
  rw [e];have h:=Cf (y i - s);rw [show ((y i - s:Int):Rat)=(y i:Rat) - (s:Rat) by grind] at h;have h2:=Rat.mul_le_mul_of_nonneg_left h (Rat.mul_nonneg (Rat.le_of_lt hb) (hq i hi));grind
 have e:ak (fun i=>cp^s*(q i*(1+((y i:Rat) - (s:Rat))*ep))) n=cp^s*(ak q n+(ak (fun i=>q i*(y i:Rat)) n - (s:Rat)*ak q n)*ep):=by
  clear h1 hs hq;induction n with
  |zero=>show (0:Rat)=cp^s*(0+(0 - (s:Rat)*0)*ep);grind
  |succ n ih=>
   show ak _ n+_=cp^s*((ak q n+q n)+((ak _ n+q n*(y n:Rat)) - (s:Rat)*(ak q n+q n))*ep);rw [ih];grind
 rw [e] at h1;have h3:0≤(ak (fun i=>q i*(y i:Rat)) n - (s:Rat)*ak q n)*ep:=Rat.mul_nonneg (by grind) (Rat.le_of_lt ka);have h4:=Rat.mul_le_mul_of_nonneg_left (show ak q n≤ak q n+(ak (fun i=>q i*(y i:Rat)) n - (s:Rat)*ak q n)*ep by grind) (Rat.le_of_lt hb);grind
end Go.Proofs
namespace Go.Proofs
def cV (a:Nat)(h s:Nat→Nat→Rat):List Nat→Nat→Rat
 |[],_=>1
 |c::w,i=>ak (fun j=>h i c*s i j*cV a h s w j) a
def qw (a:Nat)(h s:Nat→Nat→Rat)(r:Nat→Rat)(c j:Nat):Rat:=ak (fun i=>r i*h i c*s i j) a
def cH (a:Nat)(h s:Nat→Nat→Rat):(Nat→Rat)→List Nat→Nat→Nat→Rat
 |_,[],_,_=>0
 |r,c::w,i,k=>(if k=c then r i*cV a h s (c::w) i else 0)+cH a h s (qw a h s r c) w i k
def cS (a:Nat)(h s:Nat→Nat→Rat):(Nat→Rat)→List Nat→Nat→Nat→Rat
 |_,[],_,_=>0
 |r,c::w,i,j=>r i*h i c*s i j*cV a h s w j+cS a h s (qw a h s r c) w i j
noncomputable def xp (a:Nat)(h s:Nat→Nat→Rat)(lh ls:Nat→Nat→Int):List Nat→Nat→Int
 |[],_=>0
 |c::w,i=>(ak (fun j=>h i c*s i j*cV a h s w j*((lh i c+ls i j+xp a h s lh ls w j:Int):Rat)) a/cV a h s (c::w) i).floor
theorem qm {x y:Rat}(hy:0<y):((x/y).floor:Rat)*y≤x∧x≤(((x/y).floor:Rat)+1)*y:=by
 have h1:=Rat.floor_le (x/y);have h2:=Rat.lt_floor_add_one (x/y);rw [Rat.intCast_add,show ((1:Int):Rat)=1 from rfl] at h2;have e:x/y*y=x:=Rat.div_mul_cancel (by grind);have h3:=Rat.mul_le_mul_of_nonneg_right h1 (Rat.le_of_lt hy);have h4:=Rat.mul_le_mul_of_nonneg_right (Rat.le_of_lt h2) (Rat.le_of_lt hy);rw [e] at h3 h4;exact ⟨h3,h4⟩
theorem jZ (f:Nat→Rat)(c:Rat)(n:Nat):c*ak f n=ak (fun i=>c*f i) n:=by
 rw [Rat.mul_comm,b8];exact aD n fun i _=>Rat.mul_comm ..
theorem qn {f:Nat→Rat}{n:Nat}(h0:0<n)(h: ∀i,i<n→0<f i):0<ak f n:=by
 obtain ⟨m,rfl⟩: ∃m,n=m+1:=⟨n - 1,by omega⟩;have h1:=jY (f:=f) m fun i hi=>Rat.le_of_lt (h i (by omega));have h2:=h m (by omega);show 0<ak f m+f m;grind
structure oc (a b:Nat)(h s:Nat→Nat→Rat):Prop where
 a1:0<a
 h0: ∀i c,i<a→c<b→0<h i c
 s0: ∀i j,i<a→j<a→0<s i j
section
variable {a b:Nat} {h s h' s':Nat→Nat→Rat} {lh ls:Nat→Nat→Int}
theorem dW (m:oc a b h s): ∀(w:List Nat),(∀c∈w,c<b)→ ∀i,i<a→0<cV a h s w i
 |[],_,_,_=>by show (0:Rat)<1;grind
 |c::w,hw,i,hi=>qn m.a1 fun j hj=>
  Rat.mul_pos (Rat.mul_pos (m.h0 i c hi (hw c (List.mem_cons_self ..))) (m.s0 i j hi hj)) (dW m w (fun c hc=>hw c (List.mem_cons_of_mem _ hc)) j hj)
theorem xq (m:oc a b h s){r:Nat→Rat}(hr: ∀i,i<a→0≤r i){c:Nat}(hc:c<b): ∀j,j<a→0≤qw a h s r c j:=fun j hj=>
 jY a fun i hi=>Rat.mul_nonneg (Rat.mul_nonneg (hr i hi) (Rat.le_of_lt (m.h0 i c hi hc))) (Rat.le_of_lt (m.s0 i j hi hj))
theorem Pe (m:oc a b h s){r:Nat→Rat}(hr: ∀i,i<a→0<r i){c:Nat}(hc:c<b): ∀j,j<a→0<qw a h s r c j:=fun j hj=>
 qn m.a1 fun i hi=>Rat.mul_pos (Rat.mul_pos (hr i hi) (m.h0 i c hi hc)) (m.s0 i j hi hj)
theorem tL (r:Nat→Rat)(c:Nat)(g:Nat→Rat):
 ak (fun i=>r i*ak (fun j=>h i c*s i j*g j) a) a=ak (fun j=>qw a h s r c j*g j) a:=by
 have e1: ∀i,i<a→r i*ak (fun j=>h i c*s i j*g j) a=ak (fun j=>r i*h i c*s i j*g j) a:=fun i _=>by
  rw [jZ];exact aD a fun j _=>by grind
 rw [aD a e1,xi];exact aD a fun j _=>by unfold qw;rw [b8]
theorem MT (m:oc a b h s): ∀(w:List Nat),(∀c∈w,c<b)→(∀i c,i<a→c∈w→cp^(lh i c)*h i c≤h' i c)→(∀i j,i<a→j<a→w≠[]→cp^(ls i j)*s i j≤s' i j)→
 ∀i,i<a→cp^(xp a h s lh ls w i)*cV a h s w i≤cV a h' s' w i
 |[],_,_,_,i,_=>by
  show cp^(0:Int)*1≤1;rw [Rat.zpow_zero];grind
 |c::w,hw,H,S,i,hi=>by
  have hc:c<b:=hw c (List.mem_cons_self ..);have Cc: ∀c∈w,c<b:=fun c hc=>hw c (List.mem_cons_of_mem _ hc);have ih:=MT m w Cc (fun i c hi hc=>H i c hi (List.mem_cons_of_mem _ hc)) (fun i j hi hj _=>S i j hi hj (by simp));have hB:=dW m (c::w) hw i hi;have hq: ∀j,j<a→0≤h i c*s i j*cV a h s w j:=fun j hj=>
   Rat.mul_nonneg (Rat.mul_nonneg (Rat.le_of_lt (m.h0 i c hi hc)) (Rat.le_of_lt (m.s0 i j hi hj))) (Rat.le_of_lt (dW m w Cc j hj))
  have J:=MS (n:=a) (q:=fun j=>h i c*s i j*cV a h s w j) (y:=fun j=>lh i c+ls i j+xp a h s lh ls w j) (s:=xp a h s lh ls (c::w) i) hq (qm hB).1;refine Rat.le_trans J (gE a fun j hj=> ?_);have h1:=H i c hi (List.mem_cons_self ..);have h2:=S i j hi hj (by simp);have h3:=ih j hj;have p1:0≤cp^(lh i c)*h i c:=Rat.mul_nonneg (Rat.le_of_lt (cO _)) (Rat.le_of_lt (m.h0 i c hi hc));have p2:0≤cp^(ls i j)*s i j:=Rat.mul_nonneg (Rat.le_of_lt (cO _)) (Rat.le_of_lt (m.s0 i j hi hj));have p3:0≤cp^(xp a h s lh ls w j)*cV a h s w j:=Rat.mul_nonneg (Rat.le_of_lt (cO _)) (Rat.le_of_lt (dW m w Cc j hj));have q1:(cp^(lh i c)*h i c)*(cp^(ls i j)*s i j)≤h' i c*s' i j:=
   Rat.le_trans (Rat.mul_le_mul_of_nonneg_right h1 p2) (Rat.mul_le_mul_of_nonneg_left h2 (Rat.le_trans p1 h1))
  have q2:(cp^(lh i c)*h i c)*(cp^(ls i j)*s i j)*(cp^(xp a h s lh ls w j)*cV a h s w j)≤h' i c*s' i j*cV a h' s' w j:=
   Rat.le_trans (Rat.mul_le_mul_of_nonneg_right q1 p3) (Rat.mul_le_mul_of_nonneg_left h3 (Rat.le_trans (Rat.mul_nonneg p1 p2) q1))
  show h i c*s i j*cV a h s w j*cp^(lh i c+ls i j+xp a h s lh ls w j)≤h' i c*s' i j*cV a h' s' w j;rw [Rat.zpow_add kZ,Rat.zpow_add kZ];grind
theorem tN {g:Nat→Rat}{c:Nat}: ∀n,c<n→ak (fun k=>(if k=c then g k else 0)) n=g c
 |0,h=>absurd h (by omega)
 |n+1,h=>by
  show ak (fun k=>(if k=c then g k else 0)) n+(if n=c then g n else 0)=g c;by_cases e:n=c;subst e;rw [if_pos rfl,aD n (g:=fun _=>0) fun i hi=>by rw [if_neg (by omega)]];have: ∀n,ak (fun _=>(0:Rat)) n=0:=fun n=>by
   induction n with
   |zero=>rfl
   |succ n ih=>show ak (fun _=>(0:Rat)) n+0=0;rw [ih];grind
  rw [this];grind;rw [if_neg e,tN n (by omega)];grind
theorem Cg (f g:Nat→Rat)(n:Nat):ak (fun i=>f i+g i) n=ak f n+ak g n:=(dI f g n).symm
theorem MU (m:oc a b h s): ∀(w:List Nat) (r:Nat→Rat),(∀c∈w,c<b)→(∀i,i<a→0≤r i)→
 ak (fun i=>ak (fun k=>cH a h s r w i k*(lh i k:Rat)) b) a+ak (fun i=>ak (fun j=>cS a h s r w i j*(ls i j:Rat)) a) a≤
  ak (fun i=>r i*(cV a h s w i*(xp a h s lh ls w i:Rat))) a+(w.length:Rat)*ak (fun i=>r i*cV a h s w i) a
 |[],r,_,_=>by
  have z: ∀(f:Nat→Rat) n,(∀i,f i=0)→ak f n=0:=fun f n hf=>by
   induction n with
   |zero=>rfl
   |succ n ih=>show ak f n+f n=0;rw [ih,hf n];grind
  rw [z _ a fun i=>z _ b fun k=>by show (0:Rat)*_=0;grind,z _ a fun i=>z _ a fun k=>by show (0:Rat)*_=0;grind,
   z (fun i=>r i*(cV a h s [] i*(xp a h s lh ls [] i:Rat))) a fun i=>by show r i*(1*((0:Int):Rat))=0;rw [show ((0:Int):Rat)=0 from rfl];grind]
  show (0:Rat)+0≤0+((0:Nat):Rat)*_;rw [show ((0:Nat):Rat)=0 from rfl];grind
 |c::w,r,hw,hr=>by
  have hc:c<b:=hw c (List.mem_cons_self ..);have Cc: ∀c∈w,c<b:=fun c hc=>hw c (List.mem_cons_of_mem _ hc);have ih:=MU m w (qw a h s r c) Cc (xq m hr hc);have eH:ak (fun i=>ak (fun k=>cH a h s r (c::w) i k*(lh i k:Rat)) b) a=
   ak (fun i=>r i*cV a h s (c::w) i*(lh i c:Rat)) a+ak (fun i=>ak (fun k=>cH a h s (qw a h s r c) w i k*(lh i k:Rat)) b) a:=by
   rw [dI];refine aD a fun i _=> ?_;rw [←tN (g:=fun k=>r i*cV a h s (c::w) i*(lh i k:Rat)) b hc,dI];refine aD b fun k _=> ?_;show ((if k=c then r i*cV a h s (c::w) i else 0)+cH a h s (qw a h s r c) w i k)*(lh i k:Rat)=_;by_cases e:k=c;rw [if_pos e,if_pos e];grind;rw [if_neg e,if_neg e];grind
  have eS:ak (fun i=>ak (fun j=>cS a h s r (c::w) i j*(ls i j:Rat)) a) a=
   ak (fun i=>ak (fun j=>r i*h i c*s i j*cV a h s w j*(ls i j:Rat)) a) a+ak (fun i=>ak (fun j=>cS a h s (qw a h s r c) w i j*(ls i j:Rat)) a) a:=by
   rw [dI];refine aD a fun i _=> ?_;rw [dI];refine aD a fun j _=> ?_;show (r i*h i c*s i j*cV a h s w j+cS a h s (qw a h s r c) w i j)*(ls i j:Rat)=_;grind
  have hL:ak (fun i=>r i*cV a h s (c::w) i) a=ak (fun j=>qw a h s r c j*cV a h s w j) a:=tL r c _;have hD:ak (fun i=>r i*ak (fun j=>h i c*s i j*(cV a h s w j*(xp a h s lh ls w j:Rat))) a) a=ak (fun j=>qw a h s r c j*(cV a h s w j*(xp a h s lh ls w j:Rat))) a:=tL r c _;have key:ak (fun i=>r i*cV a h s (c::w) i*(lh i c:Rat)) a+ak (fun i=>ak (fun j=>r i*h i c*s i j*cV a h s w j*(ls i j:Rat)) a) a+
   ak (fun i=>r i*ak (fun j=>h i c*s i j*(cV a h s w j*(xp a h s lh ls w j:Rat))) a) a≤
   ak (fun i=>r i*(cV a h s (c::w) i*(xp a h s lh ls (c::w) i:Rat))) a+ak (fun i=>r i*cV a h s (c::w) i) a:=by
   rw [dI,dI,dI];refine gE a fun i hi=> ?_;have f2:=(qm (x:=ak (fun j=>h i c*s i j*cV a h s w j*((lh i c+ls i j+xp a h s lh ls w j:Int):Rat)) a) (dW m (c::w) hw i hi)).2;have e1:ak (fun j=>h i c*s i j*cV a h s w j*((lh i c+ls i j+xp a h s lh ls w j:Int):Rat)) a=
    cV a h s (c::w) i*(lh i c:Rat)+(ak (fun j=>h i c*s i j*cV a h s w j*(ls i j:Rat)) a+ak (fun j=>h i c*s i j*(cV a h s w j*(xp a h s lh ls w j:Rat))) a):=by
    show _=ak (fun j=>h i c*s i j*cV a h s w j) a*(lh i c:Rat)+_;rw [b8,dI,dI];refine aD a fun j _=> ?_;rw [Rat.intCast_add,Rat.intCast_add];grind
   have e2:ak (fun j=>r i*h i c*s i j*cV a h s w j*(ls i j:Rat)) a=r i*ak (fun j=>h i c*s i j*cV a h s w j*(ls i j:Rat)) a:=by
    rw [jZ];exact aD a fun j _=>by grind
   rw [e2];have f3:=Rat.mul_le_mul_of_nonneg_left f2 (hr i hi);have e3:(xp a h s lh ls (c::w) i)=(ak (fun j=>h i c*s i j*cV a h s w j*((lh i c+ls i j+xp a h s lh ls w j:Int):Rat)) a/cV a h s (c::w) i).floor:=rfl;rw [←e3,e1] at f3;grind
  rw [eH,eS,show (((c::w).length:Nat):Rat)=(w.length:Rat)+1 by rw [List.length_cons];grind];rw [hL] at*;rw [hD] at key;grind
noncomputable def Vq (a:Nat)(f:Nat→Rat)(h s:Nat→Nat→Rat)(lf:Nat→Int)(lh ls:Nat→Nat→Int)(w:List Nat):Int:=
 (ak (fun i=>f i*cV a h s w i*((lf i+xp a h s lh ls w i:Int):Rat)) a/ak (fun i=>f i*cV a h s w i) a).floor
theorem SL (m:oc a b h s){f f':Nat→Rat}{lf:Nat→Int}{w:List Nat}(hw: ∀c∈w,c<b)(hf: ∀i,i<a→0<f i)(F: ∀i,i<a→cp^(lf i)*f i≤f' i)(H: ∀i c,i<a→c∈w→cp^(lh i c)*h i c≤h' i c)(S: ∀i j,i<a→j<a→w≠[]→cp^(ls i j)*s i j≤s' i j):
 cp^(Vq a f h s lf lh ls w)*ak (fun i=>f i*cV a h s w i) a≤ak (fun i=>f' i*cV a h' s' w i) a:=by
 have hp: ∀i,i<a→0<f i*cV a h s w i:=fun i hi=>Rat.mul_pos (hf i hi) (dW m w hw i hi);have J:=MS (n:=a) (q:=fun i=>f i*cV a h s w i) (y:=fun i=>lf i+xp a h s lh ls w i) (s:=Vq a f h s lf lh ls w) (fun i hi=>Rat.le_of_lt (hp i hi)) (qm (qn m.a1 hp)).1;refine Rat.le_trans J (gE a fun i hi=> ?_);have h1:=F i hi;have h2:=MT m w hw H S i hi;have p1:0≤cp^(lf i)*f i:=Rat.mul_nonneg (Rat.le_of_lt (cO _)) (Rat.le_of_lt (hf i hi));have p2:0≤cp^(xp a h s lh ls w i)*cV a h s w i:=Rat.mul_nonneg (Rat.le_of_lt (cO _)) (Rat.le_of_lt (dW m w hw i hi));have q1:(cp^(lf i)*f i)*(cp^(xp a h s lh ls w i)*cV a h s w i)≤f' i*cV a h' s' w i:=
  Rat.le_trans (Rat.mul_le_mul_of_nonneg_right h1 p2) (Rat.mul_le_mul_of_nonneg_left h2 (Rat.le_trans p1 h1))
 show f i*cV a h s w i*cp^(lf i+xp a h s lh ls w i)≤_;rw [Rat.zpow_add kZ];grind
theorem SM (m:oc a b h s){f:Nat→Rat}{lf:Nat→Int}{w:List Nat}(hw: ∀c∈w,c<b)(hf: ∀i,i<a→0<f i):
 ak (fun i=>f i*cV a h s w i*(lf i:Rat)) a+ak (fun i=>ak (fun k=>cH a h s f w i k*(lh i k:Rat)) b) a+ak (fun i=>ak (fun j=>cS a h s f w i j*(ls i j:Rat)) a) a≤
  ((Vq a f h s lf lh ls w:Rat)+1+(w.length:Rat))*ak (fun i=>f i*cV a h s w i) a:=by
 have hp: ∀i,i<a→0<f i*cV a h s w i:=fun i hi=>Rat.mul_pos (hf i hi) (dW m w hw i hi);have u:=MU (lh:=lh) (ls:=ls) m w f hw fun i hi=>Rat.le_of_lt (hf i hi);have f2:=(qm (x:=ak (fun i=>f i*cV a h s w i*((lf i+xp a h s lh ls w i:Int):Rat)) a) (qn m.a1 hp)).2;have e1:ak (fun i=>f i*cV a h s w i*((lf i+xp a h s lh ls w i:Int):Rat)) a=ak (fun i=>f i*cV a h s w i*(lf i:Rat)) a+ak (fun i=>f i*(cV a h s w i*(xp a h s lh ls w i:Rat))) a:=by
  rw [dI];refine aD a fun i _=> ?_;rw [Rat.intCast_add];grind
 have e3:Vq a f h s lf lh ls w=(ak (fun i=>f i*cV a h s w i*((lf i+xp a h s lh ls w i:Int):Rat)) a/ak (fun i=>f i*cV a h s w i) a).floor:=rfl;rw [←e3,e1] at f2;grind
end
end Go.Proofs
