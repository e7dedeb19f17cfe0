import Derived.WalkKit
set_option linter.unusedVariables false
set_option linter.unusedSimpArgs false
set_option linter.unusedSectionVars false
namespace Go.Ide
inductive Ty where
 |int (k:IntKind)
 |cD (k:FloatKind)
 |bool
 |str
 |sl (t:Ty)
 |pair (a b:Ty)
 |st (t:Ty)
 |own (t:Ty)
 |bx (t:Ty)
 |cl (f:FuncId) (t:Ty)
 deriving DecidableEq
@[reducible] def Ty.D:Ty→Type
 | .int _=>Int
 | .cD _=>Nat
 | .bool=>Bool
 | .str=>List UInt8
 | .sl t=>List t.D
 | .pair a b=>a.D×b.D
 | .st t=>t.D
 | .own t=>List t.D
 | .bx t=>List t.D
 | .cl _ t=>t.D
def Ty.dH:(t:Ty)→t.D
 | .int _=>(0:Int)
 | .cD _=>(0:Nat)
 | .bool=>false
 | .str=>([]:List UInt8)
 | .sl t=>([]:List t.D)
 | .pair a b=>(a.dH,b.dH)
 | .st t=>t.dH
 | .own t=>([]:List t.D)
 | .bx t=>([]:List t.D)
 | .cl _ t=>t.dH
def Ty.size:Ty→Nat
 | .pair a b=>a.size+b.size
 | .st t=>t.size
 |_=>1
def Ty.rj:Ty→List Nat
 | .pair a b=>a.size::b.rj
 |t=>[t.size]
def Ty.rH:Ty→Bool
 | .st _=>true
 |_=>false
inductive aq where
 |aB (t:Ty) (x:t.D)
 |ptr (c off:Nat)
 |bT (c i sz off:Nat)
 |ip (t:Ty) (x:t.D) (off:Nat)
 |all (c:Nat)
 |ref (c off len:Nat)
 |row (c i o:Nat)
 |xS (c i o j sz off:Nat)
 |az
 |fn (f:FuncId)
 |lK (f:FuncId) (t:Ty) (x:t.D)
 |cls (f:FuncId) (ks:List Nat)
 |yF (f:FuncId) (t:Ty) (x:t.D)
 |kG (c:Nat)
 |cV
 |bad
inductive au where
 |one (c:aq)
 |agg (cs:List aq)
 |zq (vs:List (Bool×List aq))
 |A9
 |cV
inductive Chunk where
 |box (cs:List aq)
 |seq (t:Ty) (xs:List t.D)
 |nu (t:Ty) (xs:List t.D) (i:Nat) (cs:List aq) (ks:List Nat)
 |mp (t u:Ty) (xs:List (t.D×u.D))
 |gh (cs:List aq) (vs:List Value)
 |n9 (T e:TypeId) (xs:List UInt8)
 |gone
abbrev Mem:=List (Nat×Chunk)
abbrev Fr:=List (Nat×au)
def lk {α:Type}(k:Nat):List (Nat×α)→Option α
 |[]=>none
 |p::r=>bif Nat.beq k p.1 then some p.2 else lk k r
structure St where
 fr:Fr
 mem:Mem
 nx:Nat
def bA {a b:Ty}(h:a=b)(x:a.D):b.D:=h▸x
def Ty.er:Ty→Ty
 | .own t=> .sl t.er
 | .sl t=> .sl t.er
 | .bx t=> .bx t.er
 | .cl f t=> .cl f t
 | .pair a b=> .pair a.er b.er
 | .st t=> .st t.er
 | .int k=> .int k
 | .cD k=> .cD k
 | .bool=> .bool
 | .str=> .str
theorem Ty.vM:(t:Ty)→t.er.D=t.D
 | .own t=>congrArg List (vM t)
 | .sl t=>congrArg List (vM t)
 | .bx t=>congrArg List (vM t)
 | .cl _ _=>rfl
 | .pair a b=>by show (a.er.D×b.er.D)=(a.D×b.D);rw [vM a,vM b]
 | .st t=>vM t
 | .int _=>rfl
 | .cD _=>rfl
 | .bool=>rfl
 | .str=>rfl
def yG {A B:Type}(h:A=B)(x:A):B:=h▸x
def A0 {t:Ty}(x:t.D):t.er.D:=yG t.vM.symm x
def Ty.iS:Ty→Bool
 | .own _=>false
 | .sl t=>t.iS
 | .bx t=>t.iS
 | .pair a b=>a.iS&&b.iS
 | .st t=>t.iS
 |_=>true
def cW:(t:Ty)→t.D→Nat→Option (Σ e:Ty,List e.D)
 | .own e,x,o=>(match o with|0=>some ⟨e,x⟩|_+1=>none)
 | .pair a b,x,o=>bif Nat.blt o a.size then cW a x.1 o else cW b x.2 (o - a.size)
 | .st t,x,o=>cW t x o
 | .int _,_,_=>none
 | .cD _,_,_=>none
 | .bool,_,_=>none
 | .str,_,_=>none
 | .sl _,_,_=>none
 | .bx _,_,_=>none
 | .cl _ _,_,_=>none
def bh:Ty→Nat→List Nat
 | .own _,o=>[o]
 | .pair a b,o=>bh a o++bh b (o+a.size)
 | .st t,o=>bh t o
 | .int _,_=>[]
 | .cD _,_=>[]
 | .bool,_=>[]
 | .str,_=>[]
 | .sl _,_=>[]
 | .bx _,_=>[]
 | .cl _ _,_=>[]
def tT:(t:Ty)→t.D→Nat→(e:Ty)→List e.D→t.D
 | .own e',x,o,e,ys=>(match o with|0=>if h:e=e' then bA (a:= .sl e) (b:= .sl e') (congrArg Ty.sl h) ys else x|_+1=>x)
 | .pair a b,x,o,e,ys=>bif Nat.blt o a.size then (tT a x.1 o e ys,x.2) else (x.1,tT b x.2 (o - a.size) e ys)
 | .st t,x,o,e,ys=>tT t x o e ys
 | .int _,x,_,_,_=>x
 | .cD _,x,_,_,_=>x
 | .bool,x,_,_,_=>x
 | .str,x,_,_,_=>x
 | .sl _,x,_,_,_=>x
 | .bx _,x,_,_,_=>x
 | .cl _ _,x,_,_,_=>x
def cI (m:Mem)(t:Ty):aq→Option t.D
 | .aB t' x=>if h:t'=t then some (bA h x) else none
 | .all c=>match t with
  | .sl e=>(match lk c m with
   |some (.seq e' xs)=>if h:e'=e then some (bA (congrArg Ty.sl h) xs) else if h:e'.er=e then some (bA (congrArg Ty.sl h) (A0 (t:= .sl e') xs)) else none
   |_=>none)
  |_=>none
 | .row c i o=>match t with
  | .sl e=>(match lk c m with
   |some (.seq e1 xs)=>(match cW e1 (xs.getD i e1.dH) o with
    |some ⟨e',ys⟩=>if h:e'=e then some (bA (congrArg Ty.sl h) ys) else none
    |none=>none)
   |_=>none)
  |_=>none
 | .ref c off len=>match t with
  | .sl e=>(match lk c m with
   |some (.seq e' xs)=>if h:e'=e then some (bA (congrArg Ty.sl h) ((xs.drop off).take len)) else none
   |_=>none)
  |_=>none
 | .az=>match t with
  | .sl e=>some ([]:List e.D)
  |_=>none
 | .bT c i sz off=>match t with
  | .bx e=>(match lk c m with
   |some (.seq e' xs)=>if h:e'=e then (bif Nat.beq i 0&&(Nat.beq off 0&&Nat.beq sz e.size) then some (bA (congrArg Ty.bx h) xs) else none) else none
   |_=>none)
  |_=>none
 |_=>none
def b9 (m:Mem)(t:Ty):List aq→Option (t.D×List aq)
 |c::r=>(match cI m t c with
  |some x=>some (x,r)
  |none=>none)
 |[]=>none
def impl (m:Mem):(t:Ty)→List aq→Option (t.D×List aq)
 | .pair a b,cs=>match impl m a cs with
  |some (x,r)=>(match impl m b r with
   |some (y,r')=>some ((x,y),r')
   |none=>none)
  |none=>none
 | .st t,cs=>impl m t cs
 | .int k,cs=>b9 m (.int k) cs
 | .cD k,cs=>b9 m (.cD k) cs
 | .bool,cs=>b9 m .bool cs
 | .str,cs=>b9 m .str cs
 | .sl t,cs=>b9 m (.sl t) cs
 | .own t,cs=>b9 m (.own t) cs
 | .bx t,cs=>b9 m (.bx t) cs
 | .cl f t,cs=>b9 m (.cl f t) cs
def au.cells:au→List aq
 | .one c=>[c]
 | .agg cs=>cs
 |_=>[]
def jA (m:Mem)(t:Ty)(v:au):Option t.D:=
 match v,t.rH with
 | .one c,false=>(match impl m t [c] with|some (x,[])=>some x|_=>none)
 | .agg cs,true=>(match impl m t cs with|some (x,[])=>some x|_=>none)
 |_,_=>none
def fx:(t:Ty)→t.D→List aq
 | .pair a b,x=>fx a x.1++fx b x.2
 | .st t,x=>fx t x
 | .int k,x=>[.aB (.int k) x]
 | .cD k,x=>[.aB (.cD k) x]
 | .bool,x=>[.aB .bool x]
 | .str,x=>[.aB .str x]
 | .sl t,x=>[.aB (.sl t) x]
 | .own t,x=>[.aB (.own t) x]
 | .bx t,x=>[.aB (.bx t) x]
 | .cl f t,x=>[.aB (.cl f t) x]
def yH (c i:Nat):(t:Ty)→Nat→t.D→List aq
 | .pair a b,o,x=>yH c i a o x.1++yH c i b (o+a.size) x.2
 | .st t,o,x=>yH c i t o x
 | .own _,o,_=>[.row c i o]
 | .int k,_,x=>[.aB (.int k) x]
 | .cD k,_,x=>[.aB (.cD k) x]
 | .bool,_,x=>[.aB .bool x]
 | .str,_,x=>[.aB .str x]
 | .sl t,_,x=>[.aB (.sl t) x]
 | .bx t,_,x=>[.aB (.bx t) x]
 | .cl f t,_,x=>[.aB (.cl f t) x]
def dn:(t:Ty)→t.D→Nat→List aq×List Chunk
 | .pair a b,x,n=>((dn a x.1 n).1++(dn b x.2 (n+(dn a x.1 n).2.length)).1,(dn a x.1 n).2++(dn b x.2 (n+(dn a x.1 n).2.length)).2)
 | .st t,x,n=>dn t x n
 | .own t,x,n=>([.all n],[.seq t x])
 | .int k,x,_=>([.aB (.int k) x],[])
 | .cD k,x,_=>([.aB (.cD k) x],[])
 | .bool,x,_=>([.aB .bool x],[])
 | .str,x,_=>([.aB .str x],[])
 | .sl t,x,_=>([.aB (.sl t) x],[])
 | .bx t,x,_=>([.aB (.bx t) x],[])
 | .cl f t,x,_=>([.aB (.cl f t) x],[])
def kC (m:Mem):(t:Ty)→List aq→Option ((t.D×List Nat)×List aq)
 | .pair a b,cs=>match kC m a cs with
  |some ((x,ks),r)=>(match kC m b r with
   |some ((y,ls),r')=>some (((x,y),ks++ls),r')
   |none=>none)
  |none=>none
 | .st t,cs=>kC m t cs
 | .own t,cs=>(match cs with
  | .az::r=>some ((([]:List t.D),[]),r)
  | .all c::r=>(match lk c m with
   |some (.seq e xs)=>if h:e=t then some ((bA (a:= .sl e) (b:= .sl t) (congrArg Ty.sl h) xs,[c]),r) else none
   |_=>none)
  |_=>none)
 | .int k,cs=>(b9 [] (.int k) cs).map fun p=>((p.1,[]),p.2)
 | .cD k,cs=>(b9 [] (.cD k) cs).map fun p=>((p.1,[]),p.2)
 | .bool,cs=>(b9 [] .bool cs).map fun p=>((p.1,[]),p.2)
 | .str,cs=>(b9 [] .str cs).map fun p=>((p.1,[]),p.2)
 | .sl t,cs=>(b9 [] (.sl t) cs).map fun p=>((p.1,[]),p.2)
 | .bx t,cs=>(b9 [] (.bx t) cs).map fun p=>((p.1,[]),p.2)
 | .cl f t,cs=>(b9 [] (.cl f t) cs).map fun p=>((p.1,[]),p.2)
def bH:(t:Ty)→t.D→Nat→List aq×List Chunk
 | .pair a b,x,n=>((bH a x.1 n).1++(bH b x.2 (n+(bH a x.1 n).2.length)).1,(bH a x.1 n).2++(bH b x.2 (n+(bH a x.1 n).2.length)).2)
 | .st t,x,n=>bH t x n
 | .int k,x,_=>([.aB (.int k) x],[])
 | .cD k,x,_=>([.aB (.cD k) x],[])
 | .bool,x,_=>([.aB .bool x],[])
 | .str,x,_=>([.aB .str x],[])
 | .sl t,x,n=>([.all n],[.seq t x])
 | .own t,x,n=>([.all n],[.seq t x])
 | .bx t,x,n=>([.bT n 0 t.size 0],[.seq t x])
 | .cl f t,x,_=>([.aB (.cl f t) x],[])
def aZ:Nat→List Chunk→Mem
 |_,[]=>[]
 |n,c::r=>(n,c)::aZ (n+1) r
def aq.ok:aq→Bool
 | .bad=>false
 |_=>true
def au.ok:au→Bool
 | .one c=>c.ok
 | .agg cs=>cs.all aq.ok
 |_=>false
end Go.Ide
namespace Go.Ide
def pow10Cells:Array Value:=((List.range 20).map fun i=>Value.int .u64 ((10^i:Nat):Int)).toArray
def ErrV (w:World)(b:Nat):Prop:= ∃ev,w.cell? ⟨b,0,none⟩=some ev∧(ev= .nilIface∨ ∃te pe,ev= .iface te pe)
def Glob.ok (w:World)(S:Nat→Prop):Prop:=
 ((S 0∧ ∃m,w.cell? ⟨0,0,none⟩=some (.int .i64 m))∧S 1∧ ∃t fr,w.heap[1]? =some (.cells pow10Cells t fr))∧(S 4∧ErrV w 4)∧S 5∧ErrV w 5
theorem ErrV.mono {w w':World}{b:Nat}(h:w'.heap[b]? =w.heap[b]?)(he:ErrV w b):ErrV w' b:=by
 obtain ⟨ev,h1,h2⟩:=he;exact ⟨ev,(World.cell?_of_block h).trans h1,h2⟩
theorem Glob.mono {w w':World}{S S':Nat→Prop}(h: ∀b,S b→S' b∧w'.heap[b]? =w.heap[b]?)(hw:Glob.ok w S):Glob.ok w' S':=by
 obtain ⟨⟨⟨h0,m,hm⟩,h1,t,fr,ht⟩,⟨h6,e6⟩,h7,e7⟩:=hw;exact ⟨⟨⟨(h 0 h0).1,m,(World.cell?_of_block (h 0 h0).2).trans hm⟩,(h 1 h1).1,t,fr,(h 1 h1).2.trans ht⟩,⟨(h 4 h6).1,e6.mono (h 4 h6).2⟩,(h 5 h7).1,e7.mono (h 5 h7).2⟩
theorem Glob.HJ {w:World}{S:Nat→Prop}(h:Glob.ok w S): ∃m,w.cell? ⟨0,0,none⟩=some (.int .i64 m):=h.1.1.2
theorem Glob.pow {w:World}{S:Nat→Prop}(h:Glob.ok w S):S 1∧ ∃t fr,w.heap[1]? =some (.cells pow10Cells t fr):=h.1.2
end Go.Ide
namespace Go.Ide
def aK {α β:Type}(R:α→β→Prop):List α→List β→Prop
 |[],[]=>True
 |a::as,b::bs=>R a b∧aK R as bs
 |_,_=>False
theorem aK.length {α β:Type}{R:α→β→Prop}: ∀{as:List α} {bs:List β},aK R as bs→as.length=bs.length
 |[],[],_=>rfl
 |_::_,_::_,h=>by simp [aK.length h.2]
 |[],_::_,h=>h.elim
 |_::_,[],h=>h.elim
theorem aK.mono {α β:Type}{R R':α→β→Prop}(hR: ∀a b,R a b→R' a b): ∀{as:List α} {bs:List β},aK R as bs→aK R' as bs
 |[],[],_=>trivial
 |_::_,_::_,h=>⟨hR _ _ h.1,aK.mono hR h.2⟩
 |[],_::_,h=>h.elim
 |_::_,[],h=>h.elim
theorem aK.append {α β:Type}{R:α→β→Prop}: ∀{as:List α} {bs:List β} {Rp:List α} {Xx:List β},aK R as bs→aK R Rp Xx→aK R (as++Rp) (bs++Xx)
 |[],[],_,_,_,h'=>h'
 |_::_,_::_,_,_,h,h'=>⟨h.1,aK.append h.2 h'⟩
 |[],_::_,_,_,h,_=>h.elim
 |_::_,[],_,_,h,_=>h.elim
theorem aK.take {α β:Type}{R:α→β→Prop}: ∀(n:Nat) {as:List α} {bs:List β},aK R as bs→aK R (as.take n) (bs.take n)
 |0,_,_,_=>by simp [aK]
 |_+1,[],[],_=>by simp [aK]
 |n+1,_::_,_::_,h=>by simpa [aK] using ⟨h.1,aK.take n h.2⟩
 |_+1,[],_::_,h=>h.elim
 |_+1,_::_,[],h=>h.elim
theorem aK.drop {α β:Type}{R:α→β→Prop}: ∀(n:Nat) {as:List α} {bs:List β},aK R as bs→aK R (as.drop n) (bs.drop n)
 |0,_,_,h=>by simpa using h
 |_+1,[],[],_=>by simp [aK]
 |n+1,_::_,_::_,h=>by simpa using aK.drop n h.2
 |_+1,[],_::_,h=>h.elim
 |_+1,_::_,[],h=>h.elim
theorem aK.get {α β:Type}{R:α→β→Prop}: ∀{as:List α} {bs:List β} (i:Nat),aK R as bs→ ∀a,as[i]? =some a→ ∃b,bs[i]? =some b∧R a b
 |[],[],_,_,a,h=>by simp at h
 |_::_,b::_,0,h,a,ha=>by simp at ha;subst ha;exact ⟨b,rfl,h.1⟩
 |_::_,_::_,i+1,h,a,ha=>by simpa using aK.get i h.2 a (by simpa using ha)
 |[],_::_,_,h,_,_=>h.elim
 |_::_,[],_,h,_,_=>h.elim
def bO:FloatKind→Nat→Nat
 | .f32,b=>if b%2147483648>2139095040 then 2143289344 else b
 | .f64,b=>if b%9223372036854775808>9218868437227405312 then 9221120237041090560 else b
def cg (w:World)(b:Nat)(arr:Array Value):Prop:=
 ∃T lo hi,w.heap[b]? =some (.cells arr T (lo,hi))∧(lo=hi∨arr.size≤lo)
theorem cg.Rq {w:World}{b:Nat}{arr:Array Value}(h:cg w b arr){o:Nat}(ho:o<arr.size):w.frozen? ⟨b,o,none⟩=false:=by
 obtain ⟨T,lo,hi,h,hf⟩:=h;simp only [World.frozen?,h,Bool.and_eq_false_iff,decide_eq_false_iff_not];omega
theorem cg.cell {w:World}{b:Nat}{arr:Array Value}(h:cg w b arr)(o:Nat):w.cell? ⟨b,o,none⟩=arr[o]? :=by
 obtain ⟨T,lo,hi,h,_⟩:=h;simp [World.cell?,h]
theorem cg.lt {w:World}{b:Nat}{arr:Array Value}(h:cg w b arr):b<w.heap.size:=by
 obtain ⟨T,lo,hi,h,_⟩:=h;exact (Array.getElem?_eq_some_iff.1 h).1
theorem cg.ar {w w':World}{b:Nat}{arr:Array Value}(h:cg w b arr)(e:w'.heap[b]? =w.heap[b]?):cg w' b arr:=by
 obtain ⟨T,lo,hi,h,hf⟩:=h;exact ⟨T,lo,hi,by rw [e,h],hf⟩
theorem cg.eq {w:World}{b:Nat}{arr aA:Array Value}(h:cg w b arr)(h':cg w b aA):arr=aA:=by
 obtain ⟨T,lo,hi,h,_⟩:=h;obtain ⟨T',lo',vw,h',_⟩:=h';rw [h] at h';injection h' with h';injection h'
theorem cg.new (w:World)(arr:Array Value)(T:TypeId):cg (w.alloc (.cells arr T)) w.heap.size arr:=
 ⟨T,0,0,heap_alloc_new w _,.inl rfl⟩
theorem jK {w w':World}{a:Addr}(e:w'.heap[a.block]? =w.heap[a.block]?):w'.cell? a=w.cell? a:=World.cell?_of_block e
theorem dM (a:Addr)(n:Nat):(a.add n).block=a.block:=by unfold Addr.add;split<;>rfl
theorem add_add (a:Addr)(n m:Nat):(a.add n).add m=a.add (n+m):=by
 unfold Addr.add;split;rename_i h;subst h;simp;split;rename_i h;subst h;simp [*];simp only [Nat.add_eq_zero_iff];rw [if_neg (by omega)];simp [Nat.add_assoc]
theorem aX (b o n:Nat):(⟨b,o,none⟩:Addr).add n=⟨b,o+n,none⟩:=by
 unfold Addr.add;split;rename_i h;subst h;rfl;rfl
def nv (S:Nat→Prop)(w:World):List Nat→List Value→List Value→Prop
 |[],_,[]=>True
 |n::ns,vs,p::ps=>(∃ad:Addr,p= .pointer (some ad)∧S ad.block∧ ∀j v,(vs.take n)[j]? =some v→w.cell? (ad.add j)=some v)∧nv S w ns (vs.drop n) ps
 |_,_,_=>False
theorem nv.ar {S S':Nat→Prop}{w w':World}(h: ∀b,S b→S' b∧w'.heap[b]? =w.heap[b]?): ∀{ns:List Nat} {vs ps:List Value},nv S w ns vs ps→nv S' w' ns vs ps
 |[],_,[],_=>trivial
 |_::_,_,_::_,⟨⟨ad,e,hs,hc⟩,hr⟩=>⟨⟨ad,e,(h _ hs).1,fun j v hv=>(jK (by rw [dM];exact (h _ hs).2)).trans (hc j v hv)⟩,nv.ar h hr⟩
 |[],_,_::_,h=>h.elim
 |_::_,_,[],h=>h.elim
def aR (S:Nat→Prop)(w:World):(t:Ty)→List Value→t.D→Prop
 | .int k,cs,n=>cs=[.int k n]
 | .cD k,cs,n=> ∃b,cs=[.float k b]∧bO k b=n
 | .bool,cs,b=>cs=[.bool b]
 | .str,cs,s=>cs=[.string ⟨s.toArray⟩]
 | .pair a b,cs,x=> ∃c1 c2,cs=c1++c2∧aR S w a c1 x.1∧aR S w b c2 x.2
 | .st t,cs,x=>aR S w t cs x
 | .sl t,cs,xs=> ∃a cap,cs=[.slice a (List.length xs) cap]∧List.length xs≤cap∧ ∀i (h:i<List.length xs),∃(ad:Addr) (es:List Value),a=some ad∧S ad.block∧
  (∀j v,es[j]? =some v→w.cell? (ad.add (i*t.size+j))=some v)∧aR S w t es xs[i]
 | .own t,cs,xs=> ∃a cap,cs=[.slice a (List.length xs) cap]∧List.length xs≤cap∧ ∀i (h:i<List.length xs),∃(ad:Addr) (es:List Value),a=some ad∧S ad.block∧
  (∀j v,es[j]? =some v→w.cell? (ad.add (i*t.size+j))=some v)∧aR S w t es xs[i]
 | .bx t,cs,xs=> ∃ad:Addr,cs=[.pointer (some ad)]∧ ∀i (h:i<List.length xs),∃es:List Value,S ad.block∧
  (∀j v,es[j]? =some v→w.cell? (ad.add (i*t.size+j))=some v)∧aR S w t es xs[i]
 | .cl f t,cs,x=> ∃vs ps:List Value,cs=[.func (.func f) #[] ps.toArray]∧aR S w t vs x∧nv S w t.rj vs ps
theorem aR.ar {S S':Nat→Prop}{w w':World}(h: ∀b,S b→S' b∧w'.heap[b]? =w.heap[b]?): ∀(t:Ty) (cs:List Value) (x:t.D),aR S w t cs x→aR S' w' t cs x
 | .int _,_,_,hr=>hr
 | .cD _,_,_,hr=>hr
 | .bool,_,_,hr=>hr
 | .str,_,_,hr=>hr
 | .pair a b,_,x,⟨c1,c2,e,h1,h2⟩=>⟨c1,c2,e,aR.ar h a c1 x.1 h1,aR.ar h b c2 x.2 h2⟩
 | .st t,cs,x,hr=>aR.ar h t cs x hr
 | .sl t,_,xs,⟨a,cap,e,hc,hr⟩=>⟨a,cap,e,hc,fun i hi=>by
  obtain ⟨ad,es,ea,hs,aM,bf⟩:=hr i hi;exact ⟨ad,es,ea,(h _ hs).1,fun j v hv=>(jK (by rw [dM];exact (h _ hs).2)).trans (aM j v hv),aR.ar h t es _ bf⟩⟩
 | .own t,_,xs,⟨a,cap,e,hc,hr⟩=>⟨a,cap,e,hc,fun i hi=>by
  obtain ⟨ad,es,ea,hs,aM,bf⟩:=hr i hi;exact ⟨ad,es,ea,(h _ hs).1,fun j v hv=>(jK (by rw [dM];exact (h _ hs).2)).trans (aM j v hv),aR.ar h t es _ bf⟩⟩
 | .bx t,_,xs,⟨ad,e,hr⟩=>⟨ad,e,fun i hi=>by
  obtain ⟨es,hs,aM,bf⟩:=hr i hi;exact ⟨es,(h _ hs).1,fun j v hv=>(jK (by rw [dM];exact (h _ hs).2)).trans (aM j v hv),aR.ar h t es _ bf⟩⟩
 | .cl f t,_,x,⟨vs,ps,e,hr,hp⟩=>⟨vs,ps,e,aR.ar h t vs x hr,nv.ar h hp⟩
theorem aR.len {S:Nat→Prop}{w:World}: ∀(t:Ty) (cs:List Value) (x:t.D),aR S w t cs x→cs.length=t.size
 | .int _,_,_,hr=>by subst hr;rfl
 | .cD _,_,_,⟨_,e,_⟩=>by subst e;rfl
 | .bool,_,_,hr=>by subst hr;rfl
 | .str,_,_,hr=>by subst hr;rfl
 | .pair a b,_,x,⟨c1,c2,e,h1,h2⟩=>by subst e;simp [Ty.size,aR.len a c1 x.1 h1,aR.len b c2 x.2 h2]
 | .st t,cs,x,hr=>aR.len t cs x hr
 | .sl t,_,xs,⟨a,cap,e,_⟩=>by subst e;rfl
 | .own t,_,xs,⟨a,cap,e,_⟩=>by subst e;rfl
 | .bx t,_,xs,⟨ad,e,_⟩=>by subst e;rfl
 | .cl f t,_,x,⟨_,_,e,_⟩=>by subst e;rfl
structure GM where
 f:Nat→List Nat→Option Nat
@[reducible] def GM.at (g:GM)(k:Nat):Option Nat:=g.f k []
instance:CoeFun GM (fun _=>Nat→Option Nat):=⟨GM.at⟩
def cz (m:Mem)(c:Nat)(t:Ty)(xs:List t.D):Prop:=lk c m=some (.seq t xs)∨ ∃i cs ks,lk c m=some (.nu t xs i cs ks)
theorem cz.toSeq {m:Mem}{c:Nat}{t t':Ty}{xs:List t.D}{bF:List t'.D}(h:lk c m=some (.seq t xs))(h':cz m c t' bF):Ide.lk c m=some (.seq t' bF):=by
 rcases h' with h'|⟨i,cs,ks,h'⟩
 exact h';rw [h] at h';cases h'
def gA (gc:Option Nat)(w:World)(sz n:Nat)(v:Value):Prop:=
 match gc with
 |none=> ∃a,v= .slice a 0 0
 |some b=> ∃cap arr,v= .slice (some ⟨b,0,none⟩) n cap∧n≤cap∧cg w b arr∧cap*sz≤arr.size∧cap≤maxLen
def UW (gc:Option Nat)(w:World)(sz n off len:Nat)(v:Value):Prop:=
 off+len≤n∧((len=0∧(off=0→gc=none)∧ ∃a,v= .slice a 0 0)∨ ∃b cap arr,gc=some b∧v= .slice (some ⟨b,off*sz,none⟩) len cap∧len≤cap∧cg w b arr∧(off+cap)*sz≤arr.size∧cap≤maxLen)
def CR (g:GM)(m:Mem)(S:Nat→Prop)(w:World):aq→Value→Prop
 | .aB t x,v=>aR S w t [v] x
 | .ptr c off,v=>lk c m≠none∧ ∃b,g c=some b∧v= .pointer (some ⟨b,off,none⟩)
 | .bT c i sz off,v=>lk c m≠none∧ ∃b,g c=some b∧v= .pointer (some ⟨b,i*sz+off,none⟩)
 | .ip t x off,v=> ∃(ad:Addr) (es:List Value),v= .pointer (some (ad.add off))∧S ad.block∧(∀j u,es[j]? =some u→w.cell? (ad.add j)=some u)∧aR S w t es x
 | .all c,v=>lk c m≠none∧v.oneCell'=true∧ ∀t xs,cz m c t xs→gA (g c) w t.size xs.length v
 | .ref c off len,v=>lk c m≠none∧v.oneCell'=true∧ ∀t xs,cz m c t xs→UW (g c) w t.size xs.length off len v
 | .row c i o,v=>lk c m≠none∧v.oneCell'=true∧ ∀t xs,lk c m=some (.seq t xs)→i<xs.length∧ ∀e ys,cW t (xs.getD i t.dH) o=some ⟨e,ys⟩→gA (g.f c [i,o]) w e.size ys.length v
 | .xS c i o j sz off,v=>lk c m≠none∧ ∃b,v= .pointer (some ⟨b,j*sz+off,none⟩)∧ ∀t xs,lk c m=some (.seq t xs)→i<xs.length∧g.f c [i,o]=some b
 | .az,v=> ∃a,v= .slice a 0 0
 | .fn f,v=>v= .func (.func f) #[] #[]
 | .lK f t x,v=> ∃(ad:Addr) (es:List Value),v= .func (.func f) #[] #[.pointer (some ad)]∧S ad.block∧(∀j u,es[j]? =some u→w.cell? (ad.add j)=some u)∧aR S w t es x
 | .cls f ks,v=> ∃ps:List Value,v= .func (.func f) #[] ps.toArray∧aK (fun k p=>lk k m≠none∧ ∃b,g k=some b∧p= .pointer (some ⟨b,0,none⟩)) ks ps
 | .yF f t x,v=> ∃(ad De:Addr) (es:List Value),v= .pointer (some De)∧S De.block∧w.cell? De=some (.func (.func f) #[] #[.pointer (some ad)])∧S ad.block∧(∀j u,es[j]? =some u→w.cell? (ad.add j)=some u)∧aR S w t es x
 | .kG c,v=>lk c m≠none∧ ∃b,g c=some b∧v= .map (some b)
 | .cV,v=>v.oneCell'=true
 | .bad,_=>True
def CV (g:GM)(m:Mem)(S:Nat→Prop)(w:World)(ag:Bool)(cs:List aq)(v:Value):Prop:=
 match ag,cs with
 |true,cs=> ∃vs:List Value,v= .agg vs.toArray∧aK (CR g m S w) cs vs
 |false,[c]=>CR g m S w c v
 |false,_=>False
def VR (g:GM)(m:Mem)(S:Nat→Prop)(w:World):au→Value→Prop
 | .one c,v=>CR g m S w c v
 | .agg cs,v=> ∃vs:List Value,v= .agg vs.toArray∧aK (CR g m S w) cs vs
 | .zq ts,v=> ∃vs:List Value,v= .tuple vs.toArray∧aK (fun t v=>CV g m S w t.1 t.2 v) ts vs
 | .A9,v=>v=undef
 | .cV,_=>True
def Ba (S:Nat→Prop)(w:World)(t:Ty)(xs:List t.D)(arr:Array Value):Prop:=
 ∀i (h:i<xs.length),∃es,(∀j v,es[j]? =some v→arr[i*t.size+j]? =some v)∧aR S w t es xs[i]
def cf (S:Nat→Prop)(w:World):(t:Ty)→(List Nat→Option Nat)→Nat→List Value→t.D→Prop
 | .own t,γ,o,cs,xs=> ∃v,cs=[v]∧gA (γ [o]) w t.size (List.length xs) v∧match γ [o] with
  |none=>List.length xs=0
  |some b=> ∃arr,cg w b arr∧ ∀i (h:i<List.length xs),∃es:List Value,(∀j v,es[j]? =some v→arr[i*t.size+j]? =some v)∧cf S w t (fun p=>γ (o::i::p)) 0 es xs[i]
 | .pair a b,γ,o,cs,x=> ∃c1 c2,cs=c1++c2∧cf S w a γ o c1 x.1∧cf S w b γ (o+a.size) c2 x.2
 | .st t,γ,o,cs,x=>cf S w t γ o cs x
 | .int k,_,_,cs,x=>aR S w (.int k) cs x
 | .cD k,_,_,cs,x=>aR S w (.cD k) cs x
 | .bool,_,_,cs,x=>aR S w .bool cs x
 | .str,_,_,cs,x=>aR S w .str cs x
 | .sl t,_,_,cs,x=>aR S w (.sl t) cs x
 | .bx t,_,_,cs,x=>aR S w (.bx t) cs x
 | .cl f t,_,_,cs,x=>aR S w (.cl f t) cs x
def dw (S:Nat→Prop)(w:World)(γ:List Nat→Option Nat)(t:Ty)(xs:List t.D)(arr:Array Value):Prop:=
 ∀i (h:i<xs.length),∃es,(∀j v,es[j]? =some v→arr[i*t.size+j]? =some v)∧cf S w t (fun p=>γ (i::p)) 0 es xs[i]
def Chunk.owns:Chunk→List Nat→Prop
 | .gone,_=>False
 | .nu t _ i _ _,p=> ∀o r,p=i::o::r→o ∉ bh t 0
 |_,_=>True
theorem Chunk.vN {ch:Chunk}(h:ch≠ .gone):ch.owns []:=by
 cases ch<;>first|exact absurd rfl h|trivial|(intro o r e;cases e)
theorem Chunk.nw {ch:Chunk}{p:List Nat}(h:ch.owns p):ch≠ .gone:=by
 rintro rfl;exact h
def rI (w:World)(t:Ty)(v:Value)(x:t.D):Prop:=
 (t.rH=true∧ ∃cs:List Value,v= .agg cs.toArray∧aR (fun _=>False) w t cs x)∨(t.rH=false∧aR (fun _=>False) w t [v] x)
theorem rI.ar {w w':World}{t:Ty}{v:Value}{x:t.D}(h:rI w t v x):rI w' t v x:=by
 rcases h with ⟨h0,cs,h1,h2⟩|⟨h0,h2⟩
 exact .inl ⟨h0,cs,h1,aR.ar (fun b hb=>hb.elim) t cs x h2⟩;exact .inr ⟨h0,aR.ar (fun b hb=>hb.elim) t [v] x h2⟩
def sG (gc:Option Nat)(w:World)(e:TypeId)(v:Value)(xs:List Value):Prop:=
 match gc with
 |none=>v= .slice none 0 0∧xs=[]
 |some g=> ∃cap cur,v= .slice (some ⟨g,0,none⟩) xs.length cap∧w.heap[g]? =some (.cells cur e (0,0))∧xs.length≤cap∧cap≤maxLen∧cur.size=cap∧cur.toList.take xs.length=xs
theorem sG.ar {gc:Option Nat}{w w':World}{e:TypeId}{v:Value}{xs:List Value}(h:sG gc w e v xs)(hb: ∀g,gc=some g→w'.heap[g]? =w.heap[g]?):sG gc w' e v xs:=by
 cases gc with
 |none=>exact h
 |some g=>
  obtain ⟨cap,cur,h1,h2,h3⟩:=h;exact ⟨cap,cur,h1,(hb g rfl).trans h2,h3⟩
def jT (xs:List UInt8):List Value:=xs.map fun x=> .int .u8 x.toNat
def gU (g:GM)(m:Mem)(S:Nat→Prop)(w:World)(γ:List Nat→Option Nat):Chunk→Prop
 | .gone=>True
 | .mp t u xs=> ∃b es ck,γ []=some b∧w.heap[b]? =some (.map es ck)∧aK (fun (x:t.D×u.D) (e:MapEntry)=>rI w t e.key x.1∧rI w u e.val x.2) xs es.toList
 | .gh cs vs=>(∀p,γ p=none)∧aK (CR g m S w) cs vs
 | .n9 T e xs=>(∀p,p≠[]→p≠[0]→γ p=none)∧ ∃b p v,γ []=some b∧(p= .pointer none∨p= .pointer (some ⟨b,0,none⟩))∧w.heap[b]? =some (.cells #[p,v] T (0,0))∧sG (γ [0]) w e v (jT xs)
 | .box cs=> ∃b arr,γ []=some b∧cg w b arr∧aK (CR g m S w) cs arr.toList
 | .seq t xs=>match γ [] with
  |none=>xs=[]
  |some b=> ∃arr,cg w b arr∧dw S w γ t xs arr
 | .nu t xs i cs ks=>aK (fun o k=>lk k m≠none∧g.f k=fun p=>γ (i::o::p)) (bh t 0) ks∧ ∃b arr,γ []=some b∧cg w b arr∧i<xs.length∧
  (∀j (h:j<xs.length),j≠i→ ∃es,(∀q v,es[q]? =some v→arr[j*t.size+q]? =some v)∧cf S w t (fun p=>γ (j::p)) 0 es xs[j])∧
  ∃es,es.length=t.size∧(∀q v,es[q]? =some v→arr[i*t.size+q]? =some v)∧aK (CR g m S w) cs es
structure Cx where
 P:Program
 N:Nat
 w0:World
 S:Nat→Prop
 F:List Nat
 own:List (Nat×(List Nat→Option Nat))
 nd:Bool
def Cx.HK (cx:Cx):Prop:= ∀b,b∈cx.F→ ∃p,p∈cx.own∧ ∃q,p.2 q=some b
structure aH (F:List Nat)(w w':World):Prop where
 os:w'.os=w.os
 tape:w'.tape=w.tape
 output:w'.output=w.output
 size:w.heap.size≤w'.heap.size
 block: ∀b,b<w.heap.size→b ∉ F→w'.heap[b]? =w.heap[b]?
 sz: ∀b arr,cg w b arr→ ∃aA,cg w' b aA∧aA.size=arr.size
theorem aH.refl (F:List Nat)(w:World):aH F w w:=⟨rfl,rfl,rfl,Nat.le_refl _,fun _ _ _=>rfl,fun _ arr h=>⟨arr,h,rfl⟩⟩
theorem aH.trans {F:List Nat}{a b c:World}(h:aH F a b)(k:aH F b c):aH F a c:=
 ⟨k.os.trans h.os,k.tape.trans h.tape,k.output.trans h.output,Nat.le_trans h.size k.size,fun i hi hf=>(k.block i (Nat.lt_of_lt_of_le hi h.size) hf).trans (h.block i hi hf),
  fun b arr hb=>let ⟨arr1,h1,e1⟩:=h.sz b arr hb;let ⟨mc,h2,e2⟩:=k.sz b arr1 h1;⟨mc,h2,e2.trans e1⟩⟩
def Live (g:GM)(m:Mem)(b:Nat):Prop:= ∃k p ch,lk k m=some ch∧ch.owns p∧g.f k p=some b
def Cx.safe (cx:Cx)(g:GM)(m:Mem)(w:World)(b:Nat):Prop:=
 b<w.heap.size∧(b<cx.w0.heap.size→cx.S b)∧ ¬Live g m b
def Rr (cx:Cx):Prop:=Glob.ok cx.w0 cx.S∧ ∀b,cx.S b→b<cx.w0.heap.size∧b ∉ cx.F
def xT (cx:Cx)(g:GM)(m:Mem)(w:World)(ds:List Deferred):Prop:=
 (cx.nd=true→ds=[])∧ ∃Ds:List Nat,ds=Ds.map (fun D=>{target:= .collected D,args:= #[]})∧Ds.Nodup∧ ∀D∈Ds,w.heap[D]? =some (.deferred (some []))∧cx.w0.heap.size≤D∧ ¬Live g m D
theorem xT.nil {cx:Cx}{g:GM}{m:Mem}{w:World}:xT cx g m w []:=⟨fun _=>rfl,[],rfl,List.nodup_nil,fun _ h=>by simp at h⟩
theorem xT.ar {cx:Cx}{g g':GM}{m m':Mem}{w w':World}{ds:List Deferred}(h:xT cx g m w ds)(hs: ∀b,cx.safe g m w b→cx.safe g' m' w' b∧w'.heap[b]? =w.heap[b]?):xT cx g' m' w' ds:=by
 obtain ⟨h0,Ds,e,hn,h⟩:=h;refine ⟨h0,Ds,e,hn,fun D hD=> ?_⟩;obtain ⟨hD,hw,hl⟩:=h D hD;obtain ⟨k1,k2⟩:=hs D ⟨(Array.getElem?_eq_some_iff.1 hD).1,fun hlt=>by omega,hl⟩;exact ⟨k2.trans hD,hw,k1.2.2⟩
structure bD (cx:Cx)(g:GM)(st:St)(a:Act)(w:World):Prop where
 defers:xT cx g st.mem w a.defers
 size:a.tmps.size=cx.N
 fr: ∀t v,lk t st.fr=some v→VR g st.mem (cx.safe g st.mem w) w v (a.tmps.getD t undef)
 mem: ∀k ch,lk k st.mem=some ch→gU g st.mem (cx.safe g st.mem w) w (g.f k) ch
 eH: ∀k k' p p' ch gV b,lk k st.mem=some ch→ch.owns p→lk k' st.mem=some gV→gV.owns p'→g.f k p=some b→g.f k' p'=some b→k=k'∧p=p'
 gp: ∀k p ch b,lk k st.mem=some ch→ch.owns p→g.f k p=some b→cx.w0.heap.size≤b∨b∈cx.F
 lt: ∀k p ch b,lk k st.mem=some ch→ch.owns p→g.f k p=some b→b<w.heap.size
 ar:aH cx.F cx.w0 w
 own: ∀p∈cx.own,g.f p.1=p.2∧lk p.1 st.mem≠none
 gl:Rr cx
theorem bD.Lf {cx:Cx}{g:GM}{st:St}{a:Act}{w:World}(h:bD cx g st a w):Glob.ok w (cx.safe g st.mem w):=
 Glob.mono (fun b hb=>by
  obtain ⟨h1,h2⟩:=h.gl.2 b hb;refine ⟨⟨Nat.lt_of_lt_of_le h1 h.ar.size,fun _=>hb,fun ⟨k,p,ch,q1,q2,q3⟩=> ?_⟩,h.ar.block b h1 h2⟩;rcases h.gp k p ch b q1 q2 q3 with hx|hx
  omega;exact h2 hx) h.gl.1
theorem bD.Lg {cx:Cx}{g:GM}{st:St}{a:Act}{w:World}(h:bD cx g st a w){k:Nat}{ch:Chunk}{b:Nat}(hk:lk k st.mem=some ch)(hc:ch≠ .gone)(hg:g k=some b):b<w.heap.size:=
 h.lt k [] ch b hk (Chunk.vN hc) hg
def bu (t:Ty)(xs bF:List t.D):Prop:=
 xs.length=bF.length∧ ∀i o e sD,cW t (bF.getD i t.dH) o=some ⟨e,sD⟩→ ∃ys,cW t (xs.getD i t.dH) o=some ⟨e,ys⟩∧ys.length=sD.length
theorem bu.refl (t:Ty)(xs:List t.D):bu t xs xs:=⟨rfl,fun _ _ _ ys h=>⟨ys,h,rfl⟩⟩
structure Stays0 (g g':GM)(m m':Mem)(S S':Nat→Prop)(w w':World):Prop where
 safe: ∀b,S b→S' b∧w'.heap[b]? =w.heap[b]?
 me: ∀c,lk c m≠none→lk c m'≠none∧g' c=g c
 old: ∀c t xs,lk c m≠none→cz m' c t xs→ ∃bF,cz m c t bF∧bF.length=xs.length
 cg: ∀c t xs b arr,lk c m≠none→cz m' c t xs→g c=some b→Ide.cg w b arr→ ∃aA,Ide.cg w' b aA∧aA.size=arr.size
structure gq (g g':GM)(m m':Mem)(S S':Nat→Prop)(w w':World):Prop extends Stays0 g g' m m' S S' w w' where
 Bb: ∀c,lk c m≠none→g'.f c=g.f c
 rows: ∀c t bF,lk c m≠none→lk c m'=some (.seq t bF)→ ∃xs,lk c m=some (.seq t xs)∧bu t xs bF∧
  ∀i o b arr,g.f c [i,o]=some b→Ide.cg w b arr→ ∃aA,Ide.cg w' b aA∧aA.size=arr.size
def aq.M1:aq→Bool
 | .row _ _ _=>true
 | .xS _ _ _ _ _ _=>true
 |_=>false
theorem gA.stays {gc:Option Nat}{w w':World}{sz n:Nat}{v:Value}(h:gA gc w sz n v)(hb: ∀b arr,gc=some b→cg w b arr→ ∃aA,cg w' b aA∧aA.size=arr.size):gA gc w' sz n v:=by
 unfold gA at h⊢;cases gc with
 |none=>exact h
 |some b=>
  obtain ⟨cap,arr,e,h1,h2,h3,h4⟩:=h;obtain ⟨aA,iE,db⟩:=hb b arr rfl h2;exact ⟨cap,aA,e,h1,iE,by omega,h4⟩
theorem CR.NY {g g':GM}{m m':Mem}{S S':Nat→Prop}{w w':World}(h:Stays0 g g' m m' S S' w w'){c:aq}{v:Value}(hn:c.M1=false)(hr:CR g m S w c v):CR g' m' S' w' c v:=by
 cases c with
 |aB t x=>exact aR.ar h.safe t [v] x hr
 |ptr c off=>obtain ⟨hp,b,hg,e⟩:=hr;exact ⟨(h.me c hp).1,b,(h.me c hp).2.trans hg,e⟩
 |bT c i sz off=>obtain ⟨hp,b,hg,e⟩:=hr;exact ⟨(h.me c hp).1,b,(h.me c hp).2.trans hg,e⟩
 |ip t x off=>
  obtain ⟨ad,es,e,hs,aM,bf⟩:=hr;exact ⟨ad,es,e,(h.safe _ hs).1,fun j u hu=>(jK (by rw [dM];exact (h.safe _ hs).2)).trans (aM j u hu),aR.ar h.safe t es x bf⟩
 |all c=>
  obtain ⟨hp,ho,hr⟩:=hr;refine ⟨(h.me c hp).1,ho,fun t xs hl=> ?_⟩;obtain ⟨bF,dB,hlen⟩:=h.old c t xs hp hl;have hx:=hr t bF dB;rw [(h.me c hp).2,←hlen];exact hx.stays fun b arr hg hb=>h.cg c t xs b arr hp hl hg hb
 |ref c off len=>
  obtain ⟨hp,ho,hr⟩:=hr;refine ⟨(h.me c hp).1,ho,fun t xs hl=> ?_⟩;obtain ⟨bF,dB,hlen⟩:=h.old c t xs hp hl;obtain ⟨hle,hx⟩:=hr t bF dB;refine ⟨by omega,?_⟩;rw [(h.me c hp).2];rcases hx with hx|⟨b,cap,arr,hg,e,h1,h2,h3,h4⟩
  exact .inl hx;obtain ⟨aA,iE,db⟩:=h.cg c t xs b arr hp hl hg h2;exact .inr ⟨b,cap,aA,hg,e,h1,iE,by omega,h4⟩
 |row c i o=>cases hn
 |xS c i o j sz off=>cases hn
 |az=>exact hr
 |fn f=>exact hr
 |lK f t x=>
  obtain ⟨ad,es,e,hs,aM,bf⟩:=hr;exact ⟨ad,es,e,(h.safe _ hs).1,fun j u hu=>(jK (by rw [dM];exact (h.safe _ hs).2)).trans (aM j u hu),aR.ar h.safe t es x bf⟩
 |cls f ks=>
  obtain ⟨ps,e,hr⟩:=hr;exact ⟨ps,e,hr.mono fun k p ⟨hp,b,hg,e⟩=>⟨(h.me k hp).1,b,(h.me k hp).2.trans hg,e⟩⟩
 |yF f t x=>
  obtain ⟨ad,De,es,e,db,Bc,hs,aM,bf⟩:=hr;exact ⟨ad,De,es,e,(h.safe _ db).1,(jK (h.safe _ db).2).trans Bc,(h.safe _ hs).1,fun j u hu=>(jK (by rw [dM];exact (h.safe _ hs).2)).trans (aM j u hu),aR.ar h.safe t es x bf⟩
 |kG c=>obtain ⟨hp,b,hg,e⟩:=hr;exact ⟨(h.me c hp).1,b,(h.me c hp).2.trans hg,e⟩
 |cV=>exact hr
 |bad=>trivial
theorem CR.stays {g g':GM}{m m':Mem}{S S':Nat→Prop}{w w':World}(h:gq g g' m m' S S' w w'){c:aq}{v:Value}(hr:CR g m S w c v):CR g' m' S' w' c v:=by
 cases hn:c.M1 with
 |false=>exact CR.NY h.toStays0 hn hr
 |true=>
  cases c with
  |row c i o=>
   obtain ⟨hp,ho,hr⟩:=hr;refine ⟨(h.me c hp).1,ho,fun t bF hl=> ?_⟩;obtain ⟨xs,dB,⟨hlen,hsh⟩,hb⟩:=h.rows c t bF hp hl;obtain ⟨hi,hx⟩:=hr t xs dB;refine ⟨by omega,fun e sD hy=> ?_⟩;obtain ⟨ys,Lh,KX⟩:=hsh i o e sD hy;have:=hx e ys Lh;rw [h.Bb c hp,←KX];exact this.stays fun b arr e iE=>hb i o b arr e iE
  |xS c i o j sz off=>
   obtain ⟨hp,b,e,hr⟩:=hr;refine ⟨(h.me c hp).1,b,e,fun t bF hl=> ?_⟩;obtain ⟨xs,dB,⟨hlen,hsh⟩,hb⟩:=h.rows c t bF hp hl;obtain ⟨hi,hg⟩:=hr t xs dB;exact ⟨by omega,by rw [h.Bb c hp];exact hg⟩
  |_=>cases hn
theorem VR.stays {g g':GM}{m m':Mem}{S S':Nat→Prop}{w w':World}(h:gq g g' m m' S S' w w'): ∀{c:au} {v:Value},VR g m S w c v→VR g' m' S' w' c v
 | .one _,_,hr=>CR.stays h hr
 | .agg _,_,⟨vs,e,hr⟩=>⟨vs,e,hr.mono fun _ _=>CR.stays h⟩
 | .zq _,_,⟨vs,e,hr⟩=>⟨vs,e,hr.mono fun t v hc=>by
  unfold CV at hc⊢;split at hc;obtain ⟨us,e',hu⟩:=hc;exact ⟨us,e',hu.mono fun _ _=>CR.stays h⟩;exact CR.stays h hc;exact hc.elim⟩
 | .A9,_,h=>h
 | .cV,_,_=>trivial
theorem cf.ar {S S':Nat→Prop}{w w':World}(h: ∀b,S b→S' b∧w'.heap[b]? =w.heap[b]?): ∀(t:Ty) {γ:List Nat→Option Nat} {o:Nat} {cs:List Value} {x:t.D},(∀p b,γ p=some b→w'.heap[b]? =w.heap[b]?)→cf S w t γ o cs x→cf S' w' t γ o cs x
 | .own t,γ,o,cs,xs,hγ,⟨v,e,ha,hr⟩=>by
  refine ⟨v,e,ha.stays fun b arr hg hb=>⟨arr,hb.ar (hγ _ b hg),rfl⟩,?_⟩;cases hg:γ [o] with
  |none=>rw [hg] at hr;exact hr
  |some b=>
   rw [hg] at hr;obtain ⟨arr,hb,hi⟩:=hr;exact ⟨arr,hb.ar (hγ _ b hg),fun i hl=>let ⟨es,h1,h2⟩:=hi i hl;⟨es,h1,cf.ar h t (fun p b hp=>hγ _ b hp) h2⟩⟩
 | .pair a b,γ,o,cs,x,hγ,⟨c1,c2,e,h1,h2⟩=>⟨c1,c2,e,cf.ar h a hγ h1,cf.ar h b hγ h2⟩
 | .st t,γ,o,cs,x,hγ,hr=>cf.ar h t (o:=o) (cs:=cs) (x:=x) hγ hr
 | .int k,_,_,cs,x,_,hr=>aR.ar h (.int k) cs x hr
 | .cD k,_,_,cs,x,_,hr=>aR.ar h (.cD k) cs x hr
 | .bool,_,_,cs,x,_,hr=>aR.ar h .bool cs x hr
 | .str,_,_,cs,x,_,hr=>aR.ar h .str cs x hr
 | .sl t,_,_,cs,x,_,hr=>aR.ar h (.sl t) cs x hr
 | .bx t,_,_,cs,x,_,hr=>aR.ar h (.bx t) cs x hr
 | .cl f t,_,_,cs,x,_,hr=>aR.ar h (.cl f t) cs x hr
theorem cf.data {S S':Nat→Prop}{w:World}(h: ∀b,S b→S' b): ∀(t:Ty) {γ:List Nat→Option Nat} {o:Nat} {cs:List Value} {x:t.D},(∀p b,γ p=some b→S' b)→cf S w t γ o cs x→aR S' w t cs x
 | .own t,γ,o,cs,xs,hγ,⟨v,e,ha,hr⟩=>by
  subst e;cases hg:γ [o] with
  |none=>
   rw [hg] at hr ha;obtain ⟨a,ha⟩:=ha;subst ha;have h0:List.length xs=0:=hr;exact ⟨a,0,by rw [h0],by omega,fun i hi=>by omega⟩
  |some b=>
   rw [hg] at hr ha;obtain ⟨cap,sH,e,h1,_⟩:=ha;subst e;obtain ⟨arr,hb,hi⟩:=hr;refine ⟨_,cap,rfl,h1,fun i hl=> ?_⟩;obtain ⟨es,h2,h3⟩:=hi i hl;refine ⟨⟨b,0,none⟩,es,rfl,hγ _ b hg,fun j v hv=> ?_,cf.data h t (fun p b hp=>hγ _ b hp) h3⟩;rw [aX,hb.cell,Nat.zero_add];exact h2 j v hv
 | .pair a b,γ,o,cs,x,hγ,⟨c1,c2,e,h1,h2⟩=>⟨c1,c2,e,cf.data h a hγ h1,cf.data h b hγ h2⟩
 | .st t,γ,o,cs,x,hγ,hr=>cf.data h t (o:=o) (cs:=cs) (x:=x) hγ hr
 | .int k,_,_,cs,x,_,hr=>aR.ar (fun b hb=>⟨h b hb,rfl⟩) (.int k) cs x hr
 | .cD k,_,_,cs,x,_,hr=>aR.ar (fun b hb=>⟨h b hb,rfl⟩) (.cD k) cs x hr
 | .bool,_,_,cs,x,_,hr=>aR.ar (fun b hb=>⟨h b hb,rfl⟩) .bool cs x hr
 | .str,_,_,cs,x,_,hr=>aR.ar (fun b hb=>⟨h b hb,rfl⟩) .str cs x hr
 | .sl t,_,_,cs,x,_,hr=>aR.ar (fun b hb=>⟨h b hb,rfl⟩) (.sl t) cs x hr
 | .bx t,_,_,cs,x,_,hr=>aR.ar (fun b hb=>⟨h b hb,rfl⟩) (.bx t) cs x hr
 | .cl f t,_,_,cs,x,_,hr=>aR.ar (fun b hb=>⟨h b hb,rfl⟩) (.cl f t) cs x hr
def Ty.top:Ty→Bool
 | .own _=>false
 | .pair a b=>a.top&&b.top
 | .st t=>t.top
 | .sl t=>t.iS
 | .bx t=>t.iS
 |_=>true
theorem cf.pN {S:Nat→Prop}{w:World}: ∀(t:Ty) {γ:List Nat→Option Nat} {o:Nat} {cs:List Value} {x:t.D},t.top=true→aR S w t cs x→cf S w t γ o cs x
 | .own t,_,_,_,_,ht,_=>by cases ht
 | .pair a b,γ,o,cs,x,ht,⟨c1,c2,e,h1,h2⟩=>by
  simp only [Ty.top,Bool.and_eq_true] at ht;exact ⟨c1,c2,e,cf.pN a ht.1 h1,cf.pN b ht.2 h2⟩
 | .st t,γ,o,cs,x,ht,hr=>cf.pN t (o:=o) (cs:=cs) (x:=x) ht hr
 | .int k,_,_,cs,x,_,hr=>hr
 | .cD k,_,_,cs,x,_,hr=>hr
 | .bool,_,_,cs,x,_,hr=>hr
 | .str,_,_,cs,x,_,hr=>hr
 | .sl t,_,_,cs,x,_,hr=>hr
 | .bx t,_,_,cs,x,_,hr=>hr
 | .cl f t,_,_,cs,x,_,hr=>hr
theorem cf.rep {S:Nat→Prop}{w:World}: ∀(t:Ty) {γ:List Nat→Option Nat} {o:Nat} {cs:List Value} {x:t.D},t.top=true→cf S w t γ o cs x→aR S w t cs x
 | .own t,_,_,_,_,ht,_=>by cases ht
 | .pair a b,γ,o,cs,x,ht,⟨c1,c2,e,h1,h2⟩=>by
  simp only [Ty.top,Bool.and_eq_true] at ht;exact ⟨c1,c2,e,cf.rep a ht.1 h1,cf.rep b ht.2 h2⟩
 | .st t,γ,o,cs,x,ht,hr=>cf.rep t (o:=o) (cs:=cs) (x:=x) ht hr
 | .int k,_,_,cs,x,_,hr=>hr
 | .cD k,_,_,cs,x,_,hr=>hr
 | .bool,_,_,cs,x,_,hr=>hr
 | .str,_,_,cs,x,_,hr=>hr
 | .sl t,_,_,cs,x,_,hr=>hr
 | .bx t,_,_,cs,x,_,hr=>hr
 | .cl f t,_,_,cs,x,_,hr=>hr
theorem cf.len {S:Nat→Prop}{w:World}: ∀(t:Ty) {γ:List Nat→Option Nat} {o:Nat} {cs:List Value} {x:t.D},cf S w t γ o cs x→cs.length=t.size
 | .own t,_,_,_,_,⟨v,e,_⟩=>by subst e;rfl
 | .pair a b,γ,o,cs,x,⟨c1,c2,e,h1,h2⟩=>by subst e;simp [Ty.size,cf.len a h1,cf.len b h2]
 | .st t,γ,o,cs,x,hr=>cf.len t (o:=o) (cs:=cs) (x:=x) hr
 | .int k,_,_,cs,x,hr=>aR.len (.int k) cs x hr
 | .cD k,_,_,cs,x,hr=>aR.len (.cD k) cs x hr
 | .bool,_,_,cs,x,hr=>aR.len .bool cs x hr
 | .str,_,_,cs,x,hr=>aR.len .str cs x hr
 | .sl t,_,_,cs,x,hr=>aR.len (.sl t) cs x hr
 | .bx t,_,_,cs,x,hr=>aR.len (.bx t) cs x hr
 | .cl f t,_,_,cs,x,hr=>aR.len (.cl f t) cs x hr
theorem dw.ar {S S':Nat→Prop}{w w':World}(h: ∀b,S b→S' b∧w'.heap[b]? =w.heap[b]?){γ:List Nat→Option Nat}(hγ: ∀p b,γ p=some b→w'.heap[b]? =w.heap[b]?){t:Ty}{xs:List t.D}{arr:Array Value}(hr:dw S w γ t xs arr):dw S' w' γ t xs arr:=
 fun i hi=>let ⟨es,h1,h2⟩:=hr i hi;⟨es,h1,cf.ar h t (fun _ b hp=>hγ _ b hp) h2⟩
theorem dw.data {S S':Nat→Prop}{w:World}(h: ∀b,S b→S' b){γ:List Nat→Option Nat}(hγ: ∀p b,γ p=some b→S' b){t:Ty}{xs:List t.D}{arr:Array Value}(hr:dw S w γ t xs arr):Ba S' w t xs arr:=
 fun i hi=>let ⟨es,h1,h2⟩:=hr i hi;⟨es,h1,cf.data h t (fun _ b hp=>hγ _ b hp) h2⟩
theorem dw.kH {S:Nat→Prop}{w:World}{γ:List Nat→Option Nat}{t:Ty}{xs:List t.D}{arr:Array Value}(ht:t.top=true)(hr:Ba S w t xs arr):dw S w γ t xs arr:=
 fun i hi=>let ⟨es,h1,h2⟩:=hr i hi;⟨es,h1,cf.pN t ht h2⟩
theorem dw.Gi {S:Nat→Prop}{w:World}{γ:List Nat→Option Nat}{t:Ty}{xs:List t.D}{arr:Array Value}(ht:t.top=true)(hr:dw S w γ t xs arr):Ba S w t xs arr:=
 fun i hi=>let ⟨es,h1,h2⟩:=hr i hi;⟨es,h1,cf.rep t ht h2⟩
end Go.Ide
namespace Go.Ide
inductive Mode where
 |bl (t:Ty)
 |gW (t:Ty)
 |own (t:Ty)
 |mv (t:Ty)
 |fn
 |lK (t:Ty)
 |nl
inductive Arg where
 |bl (t:Ty) (x:t.D)
 |gW (t:Ty) (x:t.D)
 |own (t:Ty) (x:t.D)
 |mv (t:Ty) (x:t.D)
 |fn (f:FuncId)
 |lK (f:FuncId) (t:Ty) (x:t.D)
 |nl
structure TD where
 t:Ty
 x:t.D
structure RV where
 fresh:Bool
 t:Ty
 x:t.D
inductive Hint where
 |no
 |tv (b:Bool)
 |ty (t:Ty)
 |Rs (t:Ty)
 |nu
 |call (ms:List Mode) (rs:List RV) (outs:List TD)
def Ty.flat:Ty→Bool
 | .sl _=>false
 | .own _=>false
 | .bx _=>false
 | .cl _ _=>false
 | .pair a b=>a.flat&&b.flat
 | .st t=>t.flat
 |_=>true
def Ty.gJ:Ty→Bool
 | .sl _=>false
 | .bx _=>false
 | .cl _ _=>false
 | .own t=>t.gJ
 | .pair a b=>a.gJ&&b.gJ
 | .st t=>t.gJ
 |_=>true
def Ty.jL:Ty→Bool
 | .sl t=>t.gJ
 | .own t=>t.gJ
 | .bx t=>t.gJ
 | .cl _ _=>false
 | .pair a b=>a.jL&&b.jL
 | .st t=>t.jL
 |_=>true
def RV.sI (r:RV):Bool:=if r.fresh then r.t.jL else r.t.flat
def cJ (m:Mem):(t:Ty)→List aq→Option (List Nat×List aq)
 | .pair a b,cs=>match cJ m a cs with
  |some (x,r)=>(match cJ m b r with
   |some (y,r')=>some (x++y,r')
   |none=>none)
  |none=>none
 | .st t,cs=>cJ m t cs
 | .sl t,cs=>match cs with
  | .all c::r=>(match lk c m with
   |some (.seq e _)=>if e=t then some ([c],r) else none
   |_=>none)
  | .az::r=>some ([],r)
  |_=>none
 | .own t,cs=>match cs with
  | .all c::r=>(match lk c m with
   |some (.seq e _)=>if e=t then some ([c],r) else none
   |_=>none)
  | .az::r=>some ([],r)
  |_=>none
 | .bx t,cs=>match cs with
  | .bT c i sz off::r=>(match lk c m with
   |some (.seq e _)=>if e=t then some ([c],r) else none
   |_=>none)
  |_=>none
 |_,cs=>match cs with
  | .aB _ _::r=>some ([],r)
  |_=>none
def jV:(t:Ty)→List aq→Option (List Nat×List aq)
 | .pair a b,cs=>match jV a cs with
  |some (x,r)=>(match jV b r with
   |some (y,r')=>some (x++y,r')
   |none=>none)
  |none=>none
 | .st t,cs=>jV t cs
 | .sl _,cs=>match cs with
  | .all c::r=>some ([c],r)
  | .az::r=>some ([],r)
  |_=>none
 | .own _,cs=>match cs with
  | .all c::r=>some ([c],r)
  | .az::r=>some ([],r)
  |_=>none
 | .bx _,cs=>match cs with
  | .bT c i sz off::r=>some ([c],r)
  |_=>none
 |_,cs=>match cs with
  | .aB _ _::r=>some ([],r)
  |_=>none
structure bm where
 val:au
 new:Mem
 jU:Mem
 cond:List Prop
def aS:List Prop→Prop
 |[]=>True
 |p::r=>p∧aS r
theorem aS.append: ∀{a b:List Prop},aS (a++b)→aS a∧aS b
 |[],_,h=>⟨trivial,h⟩
 |_::_,_,h=>⟨⟨h.1,(aS.append h.2).1⟩,(aS.append h.2).2⟩
def bn (v:au):Option bm:=some ⟨v,[],[],[]⟩
def fj (v:au)(cs:List Prop):Option bm:=some ⟨v,[],[],cs⟩
def Rt:Value→aq
 | .int k n=> .aB (.int k) n
 | .bool b=> .aB .bool b
 | .float k b=> .aB (.cD k) (bO k b)
 | .string s=> .aB .str s.data.toList
 | .slice none 0 0=> .az
 | .agg _=> .bad
 | .tuple _=> .bad
 |_=> .cV
def oo:Value→au
 | .agg cs=> .agg (cs.toList.map Rt)
 | .tuple _=> .cV
 |v=> .one (Rt v)
def ev (fr:Fr):Operand→Option au
 | .tmp t=>lk t fr
 | .const v=>some (oo v)
 | .func f=>some (.one (.fn f))
 | .global _=>none
def vO (P:Program)(T:TypeId):Option Bool:=
 match P.underlying T with
 |some (.struct _)=>some true
 |some (.array _ _)=>some true
 |some _=>some false
 |none=>none
def cc (P:Program)(T:TypeId):Option Nat:=(P.info? T).map (·.size)
def M3 (ag:Bool)(cs:List aq):Option au:=
 match ag,cs with
 |true,cs=>some (.agg cs)
 |false,[c]=>some (.one c)
 |_,_=>none
def mf (m:Mem)(n:Nat):aq→Option (List aq×List Prop)
 | .ptr c off=>match lk c m with
  |some (.box cs)=>bif Nat.ble (off+n) cs.length then some ((cs.drop off).take n,[]) else none
  |_=>none
 | .bT c i sz off=>none
 | .ip t x off=>bif Nat.ble (off+n) (fx t x).length then some (((fx t x).drop off).take n,[]) else none
 |_=>none
def oq (P:Program)(m:Mem)(T:TypeId)(v:au):Option bm:=
 match v,cc P T,vO P T with
 | .one (.bT c i sz off),some n,some ag=>(match lk c m with
  |some (.seq t xs)=>bif Nat.ble (off+n) t.size&&Nat.beq sz t.size then
   (match M3 ag (((yH c i t 0 (xs.getD i t.dH)).drop off).take n) with
   |some r=>fj r [i<xs.length]
   |none=>none) else none
  |some (.nu t xs j cs _)=>bif Nat.ble (off+n) t.size&&Nat.beq sz t.size then
   (match M3 ag ((cs.drop off).take n) with
   |some r=>fj r [i=j]
   |none=>none) else none
  |_=>none)
 | .one (.xS c i o j sz off),some n,some ag=>(match lk c m with
  |some (.seq t xs)=>(match cW t (xs.getD i t.dH) o with
   |some ⟨e,ys⟩=>bif (Nat.ble (off+n) e.size&&Nat.beq sz e.size)&&e.top then
    (match M3 ag (((fx e (ys.getD j e.dH)).drop off).take n) with
    |some r=>fj r [j<ys.length]
    |none=>none) else none
   |none=>none)
  |_=>none)
 | .one c,some n,some ag=>(match mf m n c with
  |some (cs,_)=>(match M3 ag cs with
   |some r=>bn r
   |none=>none)
  |none=>none)
 |_,_,_=>none
def aq.HL:aq→Bool
 | .aB (.own _) _=>false
 |_=>true
def oQ (P:Program)(m:Mem)(T:TypeId)(a v:au):Option bm:=
 match a,cc P T with
 | .one (.ptr c off),some n=>(match lk c m with
  |some (.box cs)=>bif (Nat.beq v.cells.length n&&Nat.ble (off+n) cs.length)&&v.ok then some ⟨.cV,[],[(c,.box (cs.take off++v.cells++cs.drop (off+n)))],[]⟩ else none
  |_=>none)
 | .one (.bT c i sz off),some n=>(match lk c m with
  |some (.seq t xs)=>bif (Nat.beq v.cells.length n&&Nat.ble (off+n) t.size)&&(Nat.beq sz t.size&&v.ok)&&v.cells.all aq.HL then
   (match impl [] t ((fx t (xs.getD i t.dH)).take off++v.cells++(fx t (xs.getD i t.dH)).drop (off+n)) with
   |some (x,[])=>some ⟨.cV,[],[(c,.seq t (xs.set i x))],[i<xs.length]⟩
   |_=>none) else none
  |some (.nu t xs j cs ks)=>bif (Nat.beq v.cells.length n&&Nat.ble (off+n) t.size)&&(Nat.beq sz t.size&&v.ok) then
   some ⟨.cV,[],[(c,.nu t xs j (cs.take off++v.cells++cs.drop (off+n)) ks)],[i=j]⟩ else none
  |_=>none)
 | .one (.xS c i o j sz off),some n=>(match lk c m with
  |some (.seq t xs)=>(match cW t (xs.getD i t.dH) o with
   |some ⟨e,ys⟩=>bif (Nat.beq v.cells.length n&&Nat.ble (off+n) e.size)&&(Nat.beq sz e.size&&v.ok)&&e.top then
    (match impl [] e ((fx e (ys.getD j e.dH)).take off++v.cells++(fx e (ys.getD j e.dH)).drop (off+n)) with
    |some (y,[])=>some ⟨.cV,[],[(c,.seq t (xs.set i (tT t (xs.getD i t.dH) o e (ys.set j y))))],[j<ys.length]⟩
    |_=>none) else none
   |none=>none)
  |_=>none)
 |_,_=>none
def jB (P:Program)(m:Mem)(T:TypeId)(x i:au):Option bm:=
 match P.underlying T,i with
 |some (.slice e),.one (.aB (.int _) n)=>(match x,cc P e with
  | .one (.aB (.sl t) xs),some k=>bif Nat.beq k t.size then fj (.one (.ip t (xs.getD (Int.toNat n) t.dH) 0)) [(0:Int)≤n∧n<((List.length xs:Nat):Int)] else none
  | .one (.all c),some k=>(match lk c m with
   |some (.seq t xs)=>bif Nat.beq k t.size then fj (.one (.bT c (Int.toNat n) k 0)) [(0:Int)≤n∧n<((List.length xs:Nat):Int)] else none
   |some (.nu t xs _ _ _)=>bif Nat.beq k t.size then fj (.one (.bT c (Int.toNat n) k 0)) [(0:Int)≤n∧n<((List.length xs:Nat):Int)] else none
   |_=>none)
  | .one (.row c i o),some k=>(match lk c m with
   |some (.seq t xs)=>(match cW t (xs.getD i t.dH) o with
    |some ⟨e,ys⟩=>bif Nat.beq k e.size then fj (.one (.xS c i o (Int.toNat n) k 0)) [(0:Int)≤n∧n<((List.length ys:Nat):Int)] else none
    |none=>none)
   |_=>none)
  | .one (.ref c off len),some k=>(match lk c m with
   |some (.seq t _)=>bif Nat.beq k t.size then fj (.one (.bT c (off+Int.toNat n) k 0)) [(0:Int)≤n∧n<(len:Int)] else none
   |_=>none)
  |_,_=>none)
 |_,_=>none
def sJ (P:Program)(T:TypeId)(x i:au):Option bm:=
 match P.underlying T,x,i with
 |some (.array len e),.one (.bT c k sz 0),.one (.aB (.int _) n)=>(match cc P e with
  |some z=>bif Nat.beq (z/sz*sz) z then fj (.one (.bT c (k+z/sz*Int.toNat n) sz 0)) [(0:Int)≤n∧n<(len:Int)] else none
  |none=>none)
 |_,_,_=>none
def gY (P:Program)(m:Mem)(T:TypeId)(x i:au):Option bm:=
 match sJ P T x i with
 |some e=>some e
 |none=>jB P m T x i
def oR (P:Program)(T:TypeId)(x:au)(f:Nat):Option bm:=
 match P.underlying T with
 |some (.struct fs)=>(match fs[f]? with
  |some fd=>(match x,cc P fd.type with
   | .one (.ptr c off),some (_+1)=>bn (.one (.ptr c (off+fd.offset)))
   | .one (.ip t y off),some (_+1)=>bn (.one (.ip t y (off+fd.offset)))
   | .one (.bT c i sz off),some (_+1)=>bn (.one (.bT c i sz (off+fd.offset)))
   | .one (.xS c i o j sz off),some (_+1)=>bn (.one (.xS c i o j sz (off+fd.offset)))
   |_,_=>none)
  |none=>none)
 |_=>none
def rJ (m:Mem):au→Option bm
 | .one (.aB (.sl _) xs)=>bn (.one (.aB (.int .i64) ((List.length xs:Nat):Int)))
 | .one (.aB .str xs)=>bn (.one (.aB (.int .i64) ((List.length xs:Nat):Int)))
 | .one (.all c)=>match lk c m with
  |some (.seq _ xs)=>bn (.one (.aB (.int .i64) ((List.length xs:Nat):Int)))
  |some (.nu _ xs _ _ _)=>bn (.one (.aB (.int .i64) ((List.length xs:Nat):Int)))
  |_=>none
 | .one (.row c i o)=>match lk c m with
  |some (.seq t xs)=>(match cW t (xs.getD i t.dH) o with
   |some ⟨_,ys⟩=>bn (.one (.aB (.int .i64) ((List.length ys:Nat):Int)))
   |none=>none)
  |_=>none
 | .one (.ref c _ len)=>match lk c m with
  |some (.seq _ _)=>bn (.one (.aB (.int .i64) ((len:Nat):Int)))
  |_=>none
 | .one .az=>bn (.one (.aB (.int .i64) (0:Int)))
 |_=>none
def mg (m:Mem)(t:Ty):au→Option (List t.D×List (Nat×Chunk))
 | .one .az=>some ([],[])
 | .one (.all c)=>match lk c m with
  |some (.seq t' xs)=>if h:t'=t then some (bA (congrArg Ty.sl h) xs,[(c,.gone)]) else none
  |_=>none
 | .one (.ref c 0 len)=>match lk c m with
  |some (.seq t' xs)=>if h:t'=t then some (bA (congrArg Ty.sl h) (xs.take len),[(c,.gone)]) else none
  |_=>none
 |_=>none
def av:Nat:=4294967296
def lY (m:Mem):au→Bool
 | .one (.all c)=>(match lk c m with
  |some (.seq t _)=>t.top
  |_=>false)
 | .one (.row _ _ _)=>false
 |_=>true
def qz (P:Program)(m:Mem)(nx:Nat)(T T':TypeId)(t:Ty)(s x:au):Option bm:=
 match P.underlying T with
 |some (.slice e)=>(match P.info? e with
  |some i=>bif ((Nat.beq T T'&&Nat.beq i.size t.size)&&(Nat.ble i.bytes 32768&&i.zero.isSome)&&(i.zero.map fun z=>Nat.beq z.cells.size t.size).getD false)&&(t.top&&lY m x) then
   (match mg m t s,jA m (.sl t) x with
   |some (xs,up),some ys=>some ⟨.one (.all nx),[(nx,.seq t (xs++ys))],up,[List.length xs+List.length ys≤av]⟩
   |_,_=>none) else none
  |none=>none)
 |_=>none
def Df (P:Program)(nx:Nat)(T:TypeId):Option bm:=
 match P.info? T with
 |some i=>(match i.zero with
  |some z=>bif (oo z).ok then some ⟨.one (.ptr nx 0),[(nx,.box (oo z).cells)],[],[]⟩ else none
  |none=>none)
 |none=>none
def Li (nx:Nat)(v:au):Option bm:=
 match v with
 | .one c=>bif c.ok then some ⟨.one (.ptr nx 0),[(nx,.box [c])],[],[]⟩ else none
 | .agg cs=>bif cs.all aq.ok then some ⟨.one (.ptr nx 0),[(nx,.box cs)],[],[]⟩ else none
 |_=>none
def yI (place:Nat→Option (Nat×Nat))(cells:List aq):List (Nat×au)→Option (List aq)
 |[]=>some cells
 |(i,v)::rest=>match place i with
  |none=>none
  |some (off,size)=>bif (Nat.beq v.cells.length size&&Nat.ble (off+v.cells.length) cells.length)&&v.ok then
   yI place (cells.take off++v.cells++cells.drop (off+v.cells.length)) rest else none
def xO (fr:Fr):List (Nat×Operand)→Option (List (Nat×au))
 |[]=>some []
 |(i,x)::r=>match ev fr x,xO fr r with
  |some v,some l=>some ((i,v)::l)
  |_,_=>none
def qA (P:Program):List Field→Option (List (Nat×Nat))
 |[]=>some []
 |f::r=>match cc P f.type,qA P r with
  |some n,some l=>some ((f.offset,n)::l)
  |_,_=>none
def Dg (P:Program)(T:TypeId)(parts:List (Nat×au)):Option bm:=
 match P.info? T,P.underlying T with
 |some i,some (.struct fs)=>(match i.zero,qA P fs.toList with
  |some z,some pl=>bif (oo z).ok then (match yI (fun j=>pl[j]?) (oo z).cells parts with
   |some cs=>bn (.agg cs)
   |none=>none) else none
  |_,_=>none)
 |_,_=>none
def tU (t:Ty):Nat→List (Nat×au)→Option (List t.D)
 |_,[]=>some []
 |i,(j,v)::r=>bif Nat.beq i j then (match jA [] t v,tU t (i+1) r with
  |some x,some l=>some (x::l)
  |_,_=>none) else none
def iX:List Nat→Bool
 |[]=>true
 |k::r=>(r.all fun q=> !Nat.beq k q)&&iX r
def pO (P:Program)(nx:Nat)(T:TypeId)(t:Ty)(len:Nat)(parts:List (Nat×au)):Option bm:=
 match P.underlying T with
 |some (.slice e)=>bif ((cc P e==some t.size&&(((P.info? e).bind (·.zero)).map fun z=>Nat.beq z.cells.size t.size)==some true)&&(Nat.beq parts.length len&&Nat.ble (len*t.size) 65536))&&t.top then
  (match tU t 0 parts with
  |some xs=>some ⟨.one (.all nx),[(nx,.seq t xs)],[],[]⟩
  |none=>none) else none
 |_=>none
def Dh (P:Program)(T:TypeId)(len:Nat)(parts:List (Nat×au)):Option bm:=
 match P.underlying T with
 |some (.slice e)=>bif ((cc P e).isSome&&Nat.beq len 0)&&parts.isEmpty then bn (.one .az) else none
 |_=>none
def E6 (P:Program)(T:TypeId)(t:Ty):Option t.D:=
 match P.info? T with
 |some i=>(match i.zero with
  |some z=>if t.top then jA [] t (oo z) else if (oo z).ok then (match kC [] t (oo z).cells with
   |some ((x,[]),[])=>some x
   |_=>none) else none
  |none=>none)
 |none=>none
def rK (P:Program)(nx:Nat)(T:TypeId)(t:Ty)(len cap:au):Option bm:=
 match P.underlying T,len,cap with
 |some (.slice e),.one (.aB (.int _) n),.one (.aB (.int _) c)=>(match P.info? e,E6 P e t with
  |some i,some z=>bif Nat.beq i.size t.size&&Nat.ble i.bytes 32768 then
   some ⟨.one (.all nx),[(nx,.seq t (List.replicate (Int.toNat n) z))],[],[(0:Int)≤n∧n≤c∧(c:Int)≤4294967296]⟩ else none
  |_,_=>none)
 |_,_,_=>none
def M4:Option au→Option Int
 |none=>some 0
 |some (.one (.aB (.int _) n))=>some n
 |_=>none
def NZ (len:Nat):Option au→Option Int
 |none=>some (len:Int)
 |some (.one (.aB (.int _) n))=>some n
 |_=>none
def cut {α:Type}(xs:List α)(lo hi:Int):List α:=(xs.drop lo.toNat).take (hi.toNat - lo.toNat)
def rL (P:Program)(m:Mem)(T:TypeId)(x:au)(lo hi:Option au):Option bm:=
 match P.underlying T,x with
 |some .string,.one (.aB .str xs)=>(match M4 lo,NZ (List.length xs) hi with
  |some l,some h=>fj (.one (.aB .str (cut xs l h))) [(0:Int)≤l∧l≤h∧h≤((List.length xs:Nat):Int)]
  |_,_=>none)
 |some (.slice e),.one .az=>(match M4 lo,NZ 0 hi with
  |some l,some h=>bif (cc P e).isSome then fj (.one .az) [(0:Int)≤l∧l≤h∧h≤0] else none
  |_,_=>none)
 |some (.slice e),.one (.aB (.sl t) xs)=>(match M4 lo,NZ (List.length xs) hi with
  |some l,some h=>bif cc P e==some t.size then fj (.one (.aB (.sl t) (cut xs l h))) [(0:Int)≤l∧l≤h∧h≤((List.length xs:Nat):Int)] else none
  |_,_=>none)
 |some (.slice e),.one (.all c)=>(match lk c m with
  |some (.seq t xs)=>(match M4 lo,NZ (List.length xs) hi with
   |some l,some h=>bif cc P e==some t.size then fj (.one (.ref c l.toNat (h.toNat - l.toNat))) [(0:Int)≤l∧l≤h∧h≤((List.length xs:Nat):Int)] else none
   |_,_=>none)
  |_=>none)
 |some (.slice e),.one (.ref c off len)=>(match lk c m with
  |some (.seq t _)=>(match M4 lo,NZ len hi with
   |some l,some h=>bif cc P e==some t.size then fj (.one (.ref c (off+l.toNat) (h.toNat - l.toNat))) [(0:Int)≤l∧l≤h∧h≤(len:Int)] else none
   |_,_=>none)
  |_=>none)
 |_,_=>none
def M5 (op:BinOp)(k:IntKind)(x y:Int):Option Int:=
 match op with
 | .and=>some (k.wrap (BitVec.ofInt k.bits x&&& BitVec.ofInt k.bits y).toNat)
 | .or=>some (k.wrap (BitVec.ofInt k.bits x|||BitVec.ofInt k.bits y).toNat)
 | .xor=>some (k.wrap (BitVec.ofInt k.bits x^^^BitVec.ofInt k.bits y).toNat)
 | .andNot=>some (k.wrap (BitVec.ofInt k.bits x&&& ~~~(BitVec.ofInt k.bits y)).toNat)
 |_=>none
def Lj (op:BinOp)(k:IntKind)(x y:Int):Option bm:=
 match op with
 | .add=>bn (.one (.aB (.int k) (k.wrap (x+y))))
 | .sub=>bn (.one (.aB (.int k) (k.wrap (x - y))))
 | .mul=>bn (.one (.aB (.int k) (k.wrap (x*y))))
 | .quo=>fj (.one (.aB (.int k) (k.wrap (x.tdiv y)))) [y≠0]
 | .rem=>fj (.one (.aB (.int k) (x.tmod y))) [y≠0]
 | .eql=>bn (.one (.aB .bool (x==y)))
 | .neq=>bn (.one (.aB .bool (x != y)))
 | .lss=>bn (.one (.aB .bool (decide (x<y))))
 | .leq=>bn (.one (.aB .bool (decide (x≤y))))
 | .gtr=>bn (.one (.aB .bool (decide (x>y))))
 | .geq=>bn (.one (.aB .bool (decide (x≥y))))
 |op=>match M5 op k x y with
  |some r=>bn (.one (.aB (.int k) r))
  |none=>none
def Di (op:BinOp)(k:IntKind)(x y:Int):Option bm:=
 match op with
 | .shl=>fj (.one (.aB (.int k) (k.wrap (x*2^(min y.toNat k.bits))))) [(0:Int)≤y]
 | .shr=>fj (.one (.aB (.int k) (x.fdiv (2^(min y.toNat k.bits))))) [(0:Int)≤y]
 |_=>none
def N0 (op:BinOp)(x y:List UInt8):Option bm:=
 match op with
 | .eql=>bn (.one (.aB .bool (x==y)))
 | .neq=>bn (.one (.aB .bool (x != y)))
 | .add=>fj (.one (.aB .str (x++y))) [x.length+y.length≤av]
 | .lss=>bn (.one (.aB .bool (Op.bytesLess x y)))
 |_=>none
def vx:BinOp→Bool
 | .shl=>true
 | .shr=>true
 |_=>false
def Gj (P:Program)(T:TypeId)(op:BinOp)(x y:au):Option bm:=
 match x,y with
 | .one (.aB (.int k) a),.one (.aB (.int k') b)=>if vx op then Di op k a b else if k=k' then Lj op k a b else none
 | .one (.aB .str a),.one (.aB .str b)=>N0 op a b
 | .one (.aB .bool a),.one (.aB .bool b)=>(match op,P.underlying T with
  | .eql,some .bool=>bn (.one (.aB .bool (a==b)))
  | .neq,some .bool=>bn (.one (.aB .bool (a != b)))
  |_,_=>none)
 |_,_=>none
def Ua (op:UnOp)(x:au):Option bm:=
 match op,x with
 | .not,.one (.aB .bool b)=>bn (.one (.aB .bool (!b)))
 | .neg,.one (.aB (.int k) n)=>bn (.one (.aB (.int k) (k.wrap (0 - n))))
 |_,_=>none
def vP (P:Program)(T U:TypeId)(x:au):Option bm:=
 match P.underlying T,P.underlying U,x with
 |some (.int _),some (.int k),.one (.aB (.int _) n)=>bn (.one (.aB (.int k) (k.wrap n)))
 |some .string,some .string,.one (.aB .str s)=>bn (.one (.aB .str s))
 |_,_,_=>none
def sK (x:au)(i:Nat):Option bm:=
 match x with
 | .zq ts=>(match ts[i]? with
  |some (ag,cs)=>(match M3 ag cs with
   |some v=>bn v
   |none=>none)
  |none=>none)
 |_=>none
def N1 (x y:au):Option bm:=
 match x,y with
 | .one (.aB (.int k) a),.one (.aB (.int k') b)=>if k=k' then bn (.one (.aB (.int k) (if b<a then b else a))) else none
 |_,_=>none
def N2 (x y:au):Option bm:=
 match x,y with
 | .one (.aB (.int k) a),.one (.aB (.int k') b)=>if k=k' then bn (.one (.aB (.int k) (if b>a then b else a))) else none
 |_,_=>none
end Go.Ide
namespace Go.Ide
theorem aw {α:Type}(k k':Nat)(v:α)(l:List (Nat×α)):lk k ((k',v)::l)=if k=k' then some v else lk k l:=by
 simp only [lk];by_cases h:k=k';subst h;simp;have:Nat.beq k k'=false:=by rw [←Bool.not_eq_true];intro e;exact h (Nat.eq_of_beq_eq_true e)
 rw [if_neg h,this];rfl
theorem eB {α:Type}(k:Nat):lk k ([]:List (Nat×α))=none:=rfl
theorem a8 {α:Type}(k:Nat)(l l':List (Nat×α)):lk k (l++l')=(lk k l).or (lk k l'):=by
 induction l with
 |nil=>simp [eB]
 |cons p l ih=>
  obtain ⟨k',v⟩:=p;rw [List.cons_append,aw,aw,ih];split<;>simp
def St.put (st:St)(d:Option Tmp)(v:au):St:=
 match d with
 |some t=>{st with fr:=(t,v)::st.fr}
 |none=>st
def St.gZ (st:St)(m:Mem)(nx:Nat):St:=⟨st.fr,m,nx⟩
section
variable {cx:Cx} {g g':GM} {st:St} {a:Act} {w w':World}
theorem bD.put (h:bD cx g st a w){v:au}{val:Value}(hv:VR g st.mem (cx.safe g st.mem w) w v val)(d:Option Tmp)(hd: ∀t,d=some t→t<cx.N):
 bD cx g (st.put d v) (a.put d val) w:=by
 cases d with
 |none=>exact h
 |some t=>
  have ht:t<a.tmps.size:=by rw [h.size];exact hd t rfl
  refine ⟨h.defers,by simp [Act.put,h.size],fun t' v' hl=> ?_,h.mem,h.eH,h.gp,h.lt,h.ar,h.own,h.gl⟩;simp only [St.put] at hl;rw [aw] at hl;simp only [Act.put,Array.getD_eq_getD_getElem?,Array.getElem?_setIfInBounds];by_cases he:t'=t;subst he;rw [if_pos rfl] at hl;injection hl with hl;subst hl;simpa [ht,St.put] using hv;rw [if_neg he] at hl;rw [if_neg (fun e=>he e.symm)];have:=h.fr t' v' hl;simpa [Array.getD_eq_getD_getElem?,St.put] using this
def Chunk.vQ (ch:Chunk)(t:Ty)(xs:List t.D):Prop:=ch= .seq t xs∨ ∃i cs ks,ch= .nu t xs i cs ks
theorem cz.of {m:Mem}{c:Nat}{ch:Chunk}{t:Ty}{xs:List t.D}(h:lk c m=some ch):cz m c t xs↔ch.vQ t xs:=by
 unfold cz Chunk.vQ;rw [h];simp
structure u9 (cx:Cx)(g g':GM)(m m':Mem)(w w':World)(G:List Nat):Prop where
 ar:aH G w w'
 live: ∀b,b∈G→Live g m b
 addr: ∀k,lk k m≠none→g'.f k=g.f k
 old: ∀k ch,lk k m=some ch→
  (lk k m'=some ch∧(∀p b,ch.owns p→g.f k p=some b→b ∉ G))∨
  (lk k m'=some .gone)∨
  (ch≠ .gone∧(∃gV,lk k m'=some gV∧gV≠ .gone∧(∀p,gV.owns p→ch.owns p)∧(∀t xs,gV.vQ t xs→ ∃bF,ch.vQ t bF∧bF.length=xs.length)∧
   (∀t bF,gV= .seq t bF→ ∃xs,ch= .seq t xs∧bu t xs bF)∧
   (∀p b arr,ch.owns p→g.f k p=some b→cg w b arr→ ∃aA,cg w' b aA∧aA.size=arr.size)∧
   gU g' m' (cx.safe g' m' w') w' (g'.f k) gV))
 new: ∀k ch,lk k m=none→lk k m'=some ch→gU g' m' (cx.safe g' m' w') w' (g'.f k) ch∧
  (∀p b,ch.owns p→g'.f k p=some b→(w.heap.size≤b∨b∈G)∧b<w'.heap.size∧ ∀k' p' gV,lk k' m'=some gV→gV.owns p'→g'.f k' p'=some b→k'=k∧p'=p)
theorem u9.vR {G:List Nat}{m m':Mem}(t:u9 cx g g' m m' w w' G){k:Nat}{ch gV:Chunk}(h:lk k m=some ch)(h':lk k m'=some gV){p:List Nat}(hn:gV.owns p):ch.owns p:=by
 rcases t.old k _ h with ⟨e,_⟩|e|⟨hc,c',e,_,ho,_⟩
 rw [h'] at e;injection e with e;subst e;exact hn
 rw [h'] at e;injection e with e;subst e;exact hn.elim
 rw [h'] at e;injection e with e;subst e;exact ho p hn
theorem u9.stays {G:List Nat}{m m':Mem}(t:u9 cx g g' m m' w w' G):
 gq g g' m m' (cx.safe g m w) (cx.safe g' m' w') w w':=by
 refine ⟨⟨fun b hs=> ?_,fun c hc=>⟨?_,congrFun (t.addr c hc) []⟩,fun c ty xs hc hl=> ?_,fun c ty xs b arr hc hl hg hb=> ?_⟩,t.addr,fun c ty bF hc hl=> ?_⟩;obtain ⟨h1,h2,h3⟩:=hs;have hG:b ∉ G:=fun hb=>h3 (t.live b hb);refine ⟨⟨Nat.lt_of_lt_of_le h1 t.ar.size,h2,?_⟩,t.ar.block b h1 hG⟩;rintro ⟨k,p,ch,hk,hn,hg⟩;cases ho:lk k m with
 |none=>
  rcases ((t.new k ch ho hk).2 p b hn hg).1 with hx|hx
  omega;exact hG hx
 |some c0=>
  exact h3 ⟨k,p,c0,ho,t.vR ho hk hn,by rw [←t.addr k (by rw [ho];simp)];exact hg⟩
 cases ho:lk c m with
 |none=>exact absurd ho hc
 |some c0=>
  rcases t.old c _ ho with ⟨e,_⟩|e|⟨_,c',e,_⟩<;>rw [e]<;>simp
 cases ho:lk c m with
 |none=>exact absurd ho hc
 |some c0=>
  rcases t.old c _ ho with ⟨e,_⟩|e|⟨_,c',e,_,_,h3,_⟩
  exact ⟨xs,(cz.of ho).2 ((cz.of e).1 hl),rfl⟩;have:=(cz.of e).1 hl;rcases this with h|⟨_,_,_,h⟩<;>cases h
  obtain ⟨bF,e',hlen⟩:=h3 ty xs ((cz.of e).1 hl);exact ⟨bF,(cz.of ho).2 e',hlen⟩
 cases ho:lk c m with
 |none=>exact absurd ho hc
 |some c0=>
  rcases t.old c _ ho with ⟨e,hk⟩|e|⟨hn,c',e,_,_,_,_,h4,_⟩
  have hs:=(cz.of e).1 hl;exact ⟨arr,hb.ar (t.ar.block b hb.lt (hk [] b (by rcases hs with rfl|⟨i,cs,ks,rfl⟩<;>first|trivial|(intro o r e;cases e)) hg)),rfl⟩;have:=(cz.of e).1 hl;rcases this with h|⟨_,_,_,h⟩<;>cases h
  exact h4 [] b arr (Chunk.vN hn) hg hb
 cases ho:lk c m with
 |none=>exact absurd ho hc
 |some c0=>
  rcases t.old c _ ho with ⟨e,hk⟩|e|⟨_,c',e,_,_,_,h5,h4,_⟩
  rw [hl] at e;injection e with e;subst e
  exact ⟨bF,rfl,bu.refl _ _,fun i o b arr hg hb=>⟨arr,hb.ar (t.ar.block b hb.lt (hk [i,o] b trivial hg)),rfl⟩⟩;rw [hl] at e;cases e;rw [hl] at e;injection e with e;subst e
  obtain ⟨xs,rfl,hs⟩:=h5 ty bF rfl;exact ⟨xs,rfl,hs,fun i o b arr hg hb=>h4 [i,o] b arr trivial hg hb⟩
theorem gU.stays {m m':Mem}{S S':Nat→Prop}(h:gq g g' m m' S S' w w'){γ:List Nat→Option Nat}{ch:Chunk}(hb: ∀p b,ch.owns p→γ p=some b→w'.heap[b]? =w.heap[b]?)(hr:gU g m S w γ ch):gU g' m' S' w' γ ch:=by
 cases ch with
 |gone=>trivial
 |box cs=>
  obtain ⟨b,arr,e,iT,hc⟩:=hr;exact ⟨b,arr,e,iT.ar (hb [] b trivial e),hc.mono fun _ _=>CR.stays h⟩
 |mp t u xs=>
  obtain ⟨b,es,ck,e,hw,hc⟩:=hr;exact ⟨b,es,ck,e,(hb [] b trivial e).trans hw,hc.mono fun _ _ ⟨k1,k2⟩=>⟨k1.ar,k2.ar⟩⟩
 |gh cs vs=>exact ⟨hr.1,hr.2.mono fun _ _=>CR.stays h⟩
 |n9 T e xs=>exact ⟨hr.1,let ⟨b,p,v,h1,h2,h3,h4⟩:=hr.2;⟨b,p,v,h1,h2,(hb [] b trivial h1).trans h3,h4.ar fun g hg=>hb [0] g trivial hg⟩⟩
 |seq t xs=>
  cases hγ:γ [] with
  |none=>simp only [gU,hγ] at hr⊢;exact hr
  |some b=>
   simp only [gU,hγ] at hr⊢;obtain ⟨arr,iT,he⟩:=hr;exact ⟨arr,iT.ar (hb [] b trivial hγ),he.ar h.safe fun p b hp=>hb p b trivial hp⟩
 |nu t xs i cs ks=>
  obtain ⟨E7,b,arr,e,iT,hi,hj,es,h1,h2,h3⟩:=hr;refine ⟨E7.mono fun o k hk=>⟨(h.me k hk.1).1,(h.Bb k hk.1).trans hk.2⟩,b,arr,e,iT.ar (hb [] b (by intro o r e;cases e) e),hi,fun j hl cX=> ?_,es,h1,h2,h3.mono fun _ _=>CR.stays h⟩;obtain ⟨es,k1,k2⟩:=hj j hl cX;exact ⟨es,k1,cf.ar h.safe t (fun p b hp=>hb (j::p) b (by intro o r e;injection e with e;exact absurd e cX) hp) k2⟩
theorem bD.tV {G:List Nat}{m':Mem}{nx':Nat}(h:bD cx g st a w)(t:u9 cx g g' st.mem m' w w' G):
 bD cx g' (st.gZ m' nx') a w':=by
 have hs:=t.stays;refine ⟨h.defers.ar hs.safe,h.size,fun t' v hl=>VR.stays hs (h.fr t' v hl),fun k ch hk=> ?_,?_,fun k p ch b hk hn hg=> ?_,fun k p ch b hk hn hg=> ?_,?_,fun p hp=>⟨(t.addr p.1 (h.own p hp).2).trans (h.own p hp).1,(hs.me p.1 (h.own p hp).2).1⟩,h.gl⟩;change lk k m'=some ch at hk;cases ho:lk k st.mem with
 |none=>exact (t.new k ch ho hk).1
 |some c0=>
  have oO:=t.addr k (by rw [ho];simp);rcases t.old k _ ho with ⟨e,hb⟩|e|⟨_,c',e,_,_,_,_,_,h5⟩
  rw [hk] at e;injection e with e;subst e
  rw [oO];refine gU.stays hs (fun p b hn hg=> ?_) (h.mem k ch ho);exact t.ar.block b (h.lt k p ch b ho hn hg) (hb p b hn hg);rw [hk] at e;injection e with e;subst e;trivial
  rw [hk] at e;injection e with e;subst e;exact h5
 intro k k' p p' ch gV b hk hn dS xU hg gb;change lk k m'=some ch at hk;change lk k' m'=some gV at dS;cases ho:lk k st.mem with
 |none=>
  have:=((t.new k ch ho hk).2 p b hn hg).2.2 k' p' gV dS xU gb;exact ⟨this.1.symm,this.2.symm⟩
 |some c0=>
  cases uE:lk k' st.mem with
  |none=>exact ((t.new k' gV uE dS).2 p' b xU gb).2.2 k p ch hk hn hg
  |some Yy=>
   refine h.eH k k' p p' c0 Yy b ho (t.vR ho hk hn) uE (t.vR uE dS xU) ?_ ?_;rw [←t.addr k (by rw [ho];simp)];exact hg;rw [←t.addr k' (by rw [uE];simp)];exact gb
 change lk k m'=some ch at hk;cases ho:lk k st.mem with
 |none=>
  rcases ((t.new k ch ho hk).2 p b hn hg).1 with hx|hx
  exact .inl (Nat.le_trans h.ar.size hx);obtain ⟨k2,p2,c2,h2,rk,sL⟩:=t.live b hx;exact h.gp k2 p2 c2 b h2 rk sL
 |some c0=>
  exact h.gp k p c0 b ho (t.vR ho hk hn) (by rw [←t.addr k (by rw [ho];simp)];exact hg)
 change lk k m'=some ch at hk;cases ho:lk k st.mem with
 |none=>exact ((t.new k ch ho hk).2 p b hn hg).2.1
 |some c0=>exact Nat.lt_of_lt_of_le (h.lt k p c0 b ho (t.vR ho hk hn) (by rw [←t.addr k (by rw [ho];simp)];exact hg)) t.ar.size
 refine ⟨t.ar.os.trans h.ar.os,t.ar.tape.trans h.ar.tape,t.ar.output.trans h.ar.output,Nat.le_trans h.ar.size t.ar.size,fun b hb hf=> ?_,
  fun b arr hb=>let ⟨arr1,h1,e1⟩:=h.ar.sz b arr hb;let ⟨mc,h2,e2⟩:=t.ar.sz b arr1 h1;⟨mc,h2,e2.trans e1⟩⟩
 rw [t.ar.block b (Nat.lt_of_lt_of_le hb h.ar.size) ?_];exact h.ar.block b hb hf;intro hG;obtain ⟨k2,p2,c2,h2,rk,sL⟩:=t.live b hG;rcases h.gp k2 p2 c2 b h2 rk sL with hx|hx
 omega;exact hf hx
theorem aH.alloc (G:List Nat)(w:World)(o:Obj):aH G w (w.alloc o):=
 ⟨rfl,rfl,rfl,by simp,fun b hb _=>RowKit.Below.heap_alloc w o b hb,fun b arr hb=>⟨arr,hb.ar (RowKit.Below.heap_alloc w o b hb.lt),rfl⟩⟩
theorem aH.drew (G:List Nat)(w:World):aH G w w.drew:=⟨rfl,rfl,rfl,Nat.le_refl _,fun _ _ _=>rfl,fun _ arr hb=>⟨arr,hb,rfl⟩⟩
def dK (m l:Mem):Prop:= ∀p∈l,lk p.1 m=none
def ot (b:Option Nat):List Nat→Option Nat:=fun p=>if p=[] then b else none
def GM.set (g:GM)(k:Nat)(γ:List Nat→Option Nat):GM:=⟨fun q=>if q=k then γ else g.f q⟩
theorem GM.vS (g:GM)(k:Nat)(γ:List Nat→Option Nat):(g.set k γ).f k=γ:=if_pos rfl
theorem GM.Dj (g:GM){k q:Nat}(γ:List Nat→Option Nat)(h:q≠k):(g.set k γ).f q=g.f q:=if_neg h
theorem bD.N3 {ch:Chunk}(h:bD cx g st a w)(jW:lk st.nx st.mem=none)(hk:aH [] w w')(hlt:w.heap.size<w'.heap.size)(hc: ∀g':GM,(∀k,lk k st.mem≠none→g'.f k=g.f k)→g'.f st.nx=ot (some w.heap.size)→ ∀S',(∀b,cx.safe g st.mem w b→S' b)→gU g' ((st.nx,ch)::st.mem) S' w' (ot (some w.heap.size)) ch):
 ∃g':GM,(g'.f st.nx=ot (some w.heap.size))∧bD cx g' (st.gZ ((st.nx,ch)::st.mem) (st.nx+1)) a w'∧gq g g' st.mem ((st.nx,ch)::st.mem) (cx.safe g st.mem w) (cx.safe g' ((st.nx,ch)::st.mem) w') w w':=by
 have gb: ∀k,lk k st.mem≠none→(g.set st.nx (ot (some w.heap.size))).f k=g.f k:=fun k cX=>GM.Dj _ _ (fun e=>cX (by rw [e];exact jW));have iF:=GM.vS g st.nx (ot (some w.heap.size));revert gb iF;generalize g.set st.nx (ot (some w.heap.size))=g';intro gb iF;have h1: ∀p b,ot (some w.heap.size) p=some b→p=[]∧b=w.heap.size:=by
  intro p b hp;unfold ot at hp;split at hp;injection hp with hp;exact ⟨by assumption,hp.symm⟩;cases hp
 have bS: ∀b,cx.safe g st.mem w b→cx.safe g' ((st.nx,ch)::st.mem) w' b:=by
  intro b ⟨h2,h3,h4⟩;refine ⟨Nat.lt_of_lt_of_le h2 hk.size,h3,?_⟩;rintro ⟨k,p,c,od,hn,hg⟩;rw [aw] at od;by_cases e:k=st.nx;subst e;rw [iF] at hg;have:=(h1 p b hg).2;omega;rw [if_neg e] at od;exact h4 ⟨k,p,c,od,hn,by rw [←gb k (by rw [od];simp)];exact hg⟩
 have t:u9 cx g g' st.mem ((st.nx,ch)::st.mem) w w' []:=by
  refine ⟨hk,(fun b hb=>by simp at hb),gb,fun k c0 ho=> ?_,fun k c0 ho fR=> ?_⟩;left;rw [aw,if_neg (fun e=>by rw [e,jW] at ho;cases ho)];exact ⟨ho,fun _ _ _ _=>by simp⟩;rw [aw] at fR;by_cases e:k=st.nx;subst e;rw [if_pos rfl] at fR;injection fR with fR;subst fR;refine ⟨by rw [iF];exact hc g' gb iF _ bS,fun p b hn hg=> ?_⟩;rw [iF] at hg;obtain ⟨rfl,rfl⟩:=h1 p b hg;refine ⟨.inl (Nat.le_refl _),hlt,fun k' p' gV dS xU Dk=> ?_⟩;rw [aw] at dS;by_cases e:k'=st.nx;subst e;rw [iF] at Dk;exact ⟨rfl,(h1 p' _ Dk).1⟩;rw [if_neg e] at dS;have:=h.lt k' p' gV _ dS xU (by rw [←gb k' (by rw [dS];simp)];exact Dk);omega;rw [if_neg e] at fR;rw [fR] at ho;cases ho
 exact ⟨g',iF,h.tV t,t.stays⟩
theorem bD.new {ch:Chunk}{arr:Array Value}(h:bD cx g st a w)(jW:lk st.nx st.mem=none)(hk:aH [] w w')(hb:cg w' w.heap.size arr)(hc: ∀g':GM,(∀k,lk k st.mem≠none→g'.f k=g.f k)→g'.f st.nx=ot (some w.heap.size)→ ∀S',(∀b,cx.safe g st.mem w b→S' b)→gU g' ((st.nx,ch)::st.mem) S' w' (ot (some w.heap.size)) ch):
 ∃g':GM,(g'.f st.nx=ot (some w.heap.size))∧bD cx g' (st.gZ ((st.nx,ch)::st.mem) (st.nx+1)) a w'∧gq g g' st.mem ((st.nx,ch)::st.mem) (cx.safe g st.mem w) (cx.safe g' ((st.nx,ch)::st.mem) w') w w':=
 h.N3 jW hk hb.lt hc
end
end Go.Ide
namespace Go.Ide
section
variable {g:GM} {m m0:Mem} {S S2:Nat→Prop} {w:World}
def gr (g:GM)(m m0:Mem)(S2:Nat→Prop)(w:World):Prop:=
 ∀k t xs,lk k m0=some (.seq t xs)→lk k m=some (.seq t xs)∧
  (∀p b,g.f k p=some b→S2 b)∧(match g k with|none=>xs=[]|some b=> ∃arr,cg w b arr∧dw S2 w (g.f k) t xs arr)
theorem gr.nil:gr g m [] S2 w:=fun k t xs h=>by simp [eB] at h
theorem aR.of_slice {t:Ty}{xs:List t.D}{b o cap:Nat}{arr:Array Value}(hS:S2 b)(hb:cg w b arr)(hc:xs.length≤cap)(h: ∀i (hi:i<xs.length),∃es:List Value,(∀j v,es[j]? =some v→arr[o+(i*t.size+j)]? =some v)∧aR S2 w t es xs[i]):
 aR S2 w (.sl t) [.slice (some ⟨b,o,none⟩) xs.length cap] xs:=by
 refine ⟨some ⟨b,o,none⟩,cap,rfl,hc,fun i hi=> ?_⟩;obtain ⟨es,h1,h2⟩:=h i hi;refine ⟨⟨b,o,none⟩,es,rfl,hS,fun j v hv=> ?_,h2⟩;rw [aX,hb.cell];exact h1 j v hv
theorem vT {A B:Type}(h:A=B)(hl:List A=List B)(xs:List A):yG hl xs=xs.map (yG h):=by
 subst h;show xs=List.map (fun x=>x) xs;simp
theorem Dl {A B C D:Type}(h:A=B)(h':C=D)(hp:(A×C)=(B×D))(x:A×C):yG hp x=(yG h x.1,yG h' x.2):=by
 subst h;subst h';rfl
theorem E8 {t:Ty}(ih: ∀(cs:List Value) (x:t.D),aR S w t cs x→aR S w t.er cs (A0 x)){cs:List Value}{xs:List t.D}(h:aR S w (.sl t) cs xs)(hs:t.er.size=t.size):aR S w (.sl t.er) cs (A0 (t:= .sl t) xs):=by
 obtain ⟨a,cap,e,h1,h2⟩:=h;have hx:(A0 (t:= .sl t) xs:List t.er.D)=List.map A0 xs:=vT t.vM.symm _ xs;show aR S w (.sl t.er) cs (A0 (t:= .sl t) xs:List t.er.D);rw [hx];refine ⟨a,cap,by rw [List.length_map];exact e,by rw [List.length_map];exact h1,fun i hi=> ?_⟩;have vw:i<List.length xs:=by rw [List.length_map] at hi;exact hi
 obtain ⟨ad,es,k1,k2,k3,k4⟩:=h2 i vw;refine ⟨ad,es,k1,k2,by rw [hs];exact k3,?_⟩;rw [List.getElem_map];exact ih es _ k4
theorem Lk {t:Ty}(ih: ∀(cs:List Value) (x:t.D),aR S w t cs x→aR S w t.er cs (A0 x)){cs:List Value}{xs:List t.D}(h:aR S w (.bx t) cs xs)(hs:t.er.size=t.size):aR S w (.bx t.er) cs (A0 (t:= .bx t) xs):=by
 obtain ⟨a,e,h2⟩:=h;have hx:(A0 (t:= .bx t) xs:List t.er.D)=List.map A0 xs:=vT t.vM.symm _ xs;show aR S w (.bx t.er) cs (A0 (t:= .bx t) xs:List t.er.D);rw [hx];refine ⟨a,e,fun i hi=> ?_⟩;have vw:i<List.length xs:=by rw [List.length_map] at hi;exact hi
 obtain ⟨es,k2,k3,k4⟩:=h2 i vw;refine ⟨es,k2,by rw [hs];exact k3,?_⟩;rw [List.getElem_map];exact ih es _ k4
theorem qB:(t:Ty)→t.er.size=t.size
 | .own _=>rfl
 | .sl _=>rfl
 | .bx _=>rfl
 | .cl _ _=>rfl
 | .pair a b=>by simp only [Ty.er,Ty.size,qB a,qB b]
 | .st t=>qB t
 | .int _=>rfl
 | .cD _=>rfl
 | .bool=>rfl
 | .str=>rfl
theorem oS: ∀(t:Ty) (cs:List Value) (x:t.D),aR S w t cs x→aR S w t.er cs (A0 x)
 | .own t,cs,xs,h=>E8 (t:=t) (fun cs x=>oS t cs x) h (qB t)
 | .sl t,cs,xs,h=>E8 (t:=t) (fun cs x=>oS t cs x) h (qB t)
 | .bx t,cs,xs,h=>Lk (t:=t) (fun cs x=>oS t cs x) h (qB t)
 | .cl f t,cs,x,h=>h
 | .pair a b,cs,x,⟨c1,c2,e,h1,h2⟩=>by
  have hx:A0 (t:= .pair a b) x=(A0 x.1,A0 x.2):=Dl a.vM.symm b.vM.symm _ x;rw [hx];exact ⟨c1,c2,e,oS a c1 _ h1,oS b c2 _ h2⟩
 | .st t,cs,x,h=>oS t cs x h
 | .int k,cs,x,h=>h
 | .cD k,cs,x,h=>h
 | .bool,cs,x,h=>h
 | .str,cs,x,h=>h
theorem vU: ∀(t:Ty) {x:t.D} {o:Nat} {r:Σ e:Ty,List e.D},cW t x o=some r→o<t.size
 | .own t,x,o,r,h=>by
  cases o with
  |zero=>exact Nat.zero_lt_one
  |succ o=>cases h
 | .pair a b,x,o,r,h=>by
  unfold cW at h;cases hb:Nat.blt o a.size with
  |true=>
   have:o<a.size:=Nat.le_of_ble_eq_true hb;simp only [Ty.size];omega
  |false=>
   rw [hb] at h;have:=vU b h;have h2: ¬o<a.size:=by
    intro hc;have:Nat.blt o a.size=true:=Nat.ble_eq_true_of_le hc;rw [hb] at this;cases this
   simp only [Ty.size];omega
 | .st t,x,o,r,h=>vU t (x:=x) h
 | .int _,_,_,_,h=>by cases h
 | .cD _,_,_,_,h=>by cases h
 | .bool,_,_,_,h=>by cases h
 | .str,_,_,_,h=>by cases h
 | .sl _,_,_,_,h=>by cases h
 | .bx _,_,_,_,h=>by cases h
 | .cl _ _,_,_,_,h=>by cases h
theorem mh {a b:Nat}:Nat.blt a b=true↔a<b:=by
 constructor;intro h;exact Nat.le_of_ble_eq_true h;intro h;exact Nat.ble_eq_true_of_le h
theorem jM {a b:Nat}(h: ¬a<b):Nat.blt a b=false:=by
 cases hb:Nat.blt a b with
 |true=>exact absurd (mh.1 hb) h
 |false=>rfl
theorem cf.slot: ∀(t:Ty) {γ:List Nat→Option Nat} {o0 o:Nat} {cs:List Value} {x:t.D} {e:Ty} {ys:List e.D},cf S w t γ o0 cs x→cW t x o=some ⟨e,ys⟩→
 ∃u,cs[o]? =some u∧cf S w (.own e) γ (o0+o) [u] ys
 | .own t,γ,o0,o,cs,xs,e,ys,h,hs=>by
  cases o with
  |zero=>
   have hs:some (⟨t,xs⟩:Σ e:Ty,List e.D)=some ⟨e,ys⟩:=hs;injection hs with hs;injection hs with h1 h2;subst h1;have h2:=eq_of_heq h2;subst h2;obtain ⟨v,e,h3⟩:=h;subst e;exact ⟨v,rfl,v,rfl,h3⟩
  |succ o=>cases hs
 | .pair a b,γ,o0,o,cs,x,e,ys,⟨c1,c2,ec,h1,h2⟩,hs=>by
  unfold cW at hs;by_cases hb:o<a.size;rw [mh.2 hb] at hs;obtain ⟨u,k1,k2⟩:=cf.slot a h1 hs;refine ⟨u,?_,k2⟩;subst ec;rw [List.getElem?_append_left (by rw [cf.len a h1];exact hb)];exact k1;rw [jM hb] at hs;obtain ⟨u,k1,k2⟩:=cf.slot b h2 hs;refine ⟨u,?_,?_⟩;subst ec;rw [List.getElem?_append_right (by rw [cf.len a h1];omega),cf.len a h1];exact k1;rw [show o0+o=o0+a.size+(o - a.size) from by omega];exact k2
 | .st t,γ,o0,o,cs,x,e,ys,h,hs=>cf.slot t (cs:=cs) (x:=x) h hs
 | .int _,_,_,_,_,_,_,_,_,hs=>by cases hs
 | .cD _,_,_,_,_,_,_,_,_,hs=>by cases hs
 | .bool,_,_,_,_,_,_,_,_,hs=>by cases hs
 | .str,_,_,_,_,_,_,_,_,hs=>by cases hs
 | .sl _,_,_,_,_,_,_,_,_,hs=>by cases hs
 | .bx _,_,_,_,_,_,_,_,_,hs=>by cases hs
 | .cl _ _,_,_,_,_,_,_,_,_,hs=>by cases hs
theorem Ll {t:Ty}{γ:List Nat→Option Nat}{o:Nat}{u v:Value}{xs:List t.D}(hγ: ∀p b,γ p=some b→S2 b)(hu:cf S2 w (.own t) γ o [u] xs)(hv:gA (γ [o]) w t.size xs.length v):aR S2 w (.sl t) [v] xs:=
 cf.data (fun _ h=>h) (.own t) hγ ⟨v,rfl,hv,hu.choose_spec.2.2⟩
theorem pP (hS: ∀b,S b→S2 b)(hm:gr g m m0 S2 w){t:Ty}{c:aq}{x:t.D}{v:Value}(h:cI m0 t c=some x)(hr:CR g m S w c v):aR S2 w t [v] x:=by
 cases c with
 |aB t' y=>
  simp only [cI] at h;split at h;rename_i e;subst e;injection h with h;subst h;exact aR.ar (fun b hb=>⟨hS b hb,rfl⟩) t' [v] y hr;cases h
 |all c=>
  simp only [cI] at h;split at h;rename_i e;split at h;rename_i e' xs hl;obtain ⟨dB,C8,hc⟩:=hm c e' xs hl;have hx:=hr.2.2 e' xs (.inl dB);have key:aR S2 w (.sl e') [v] xs:=by
   unfold gA at hx;cases hg:g c with
   |none=>
    rw [hg] at hx hc;obtain ⟨a,ha⟩:=hx;subst ha;have hn:xs=[]:=hc;subst hn;exact ⟨a,0,rfl,Nat.le_refl _,fun i hi=>by simp at hi⟩
   |some b=>
    rw [hg] at hx hc;obtain ⟨cap,arr,e1,h1,h2,h3,h4⟩:=hx;obtain ⟨aA,iE,Ru⟩:=hc;subst e1;refine aR.of_slice (xs:=xs) (C8 [] b hg) iE h1 fun i hi=> ?_;obtain ⟨es,k1,k2⟩:=Ru.data (fun _ h=>h) C8 i hi;exact ⟨es,fun j v hv=>by rw [Nat.zero_add];exact k1 j v hv,k2⟩
  split at h;rename_i he;subst he;injection h with h;subst h;exact key;split at h;rename_i he;subst he;injection h with h;subst h;exact oS (.sl e') [v] xs key;cases h;cases h;cases h
 |row c i o=>
  simp only [cI] at h;split at h;rename_i e;split at h;rename_i e1 xs hl;split at h;rename_i e' ys hs;split at h;rename_i he;subst he;injection h with h;subst h;obtain ⟨dB,C8,hc⟩:=hm c e1 xs hl;obtain ⟨hi,hx⟩:=hr.2.2 e1 xs dB;have hx:=hx e' ys hs;cases hg:g c with
  |none=>rw [hg] at hc;have hn:xs=[]:=hc;subst hn;simp at hi
  |some b=>
   rw [hg] at hc;obtain ⟨arr,hb,he⟩:=hc;obtain ⟨es,_,k2⟩:=he i hi;have hd:xs.getD i e1.dH=xs[i]:=by simp [List.getD,hi]
   rw [hd] at hs;obtain ⟨u,_,k3⟩:=cf.slot e1 k2 hs;rw [Nat.zero_add] at k3;exact Ll (fun p b hp=>C8 _ b hp) k3 hx
  cases h;cases h;cases h;cases h
 |xS c i o j sz off=>simp [cI] at h
 |ref c off len=>
  simp only [cI] at h;split at h;rename_i e;split at h;rename_i e' xs hl;split at h;rename_i he;subst he;injection h with h;subst h;obtain ⟨dB,C8,hc⟩:=hm c e' xs hl;obtain ⟨hle,hx⟩:=hr.2.2 e' xs (.inl dB);have hlen:((xs.drop off).take len).length=len:=by simp;omega
  rcases hx with ⟨h0,_,a,ha⟩|⟨b,cap,arr,hg,e1,h1,h2,h3,h4⟩
  subst ha;subst h0;exact ⟨a,0,by simp [bA],by simp [bA],fun i hi=>by simp [bA] at hi⟩;rw [hg] at hc;obtain ⟨aA,iE,Ru⟩:=hc;subst e1;have:=aR.of_slice (S2:=S2) (w:=w) (t:=e') (xs:=(xs.drop off).take len) (o:=off*e'.size) (cap:=cap) (C8 [] b hg) iE (by omega) fun i hi=>by
   have vw:off+i<xs.length:=by rw [hlen] at hi;omega
   obtain ⟨es,k1,k2⟩:=Ru.data (fun _ h=>h) C8 (off+i) vw;refine ⟨es,fun j v hv=> ?_,?_⟩;have:=k1 j v hv;rw [Nat.add_mul] at this;rw [←Nat.add_assoc];exact this;simpa using k2
  rw [hlen] at this;exact this;cases h;cases h;cases h
 |az=>
  simp only [cI] at h;split at h;injection h with h;subst h;obtain ⟨a,ha⟩:=hr;subst ha;exact ⟨a,0,rfl,Nat.le_refl _,fun i hi=>by simp at hi⟩;cases h
 |ptr c off=>simp [cI] at h
 |bT c i sz off=>
  simp only [cI] at h;split at h;rename_i e;split at h;rename_i e' xs hl;split at h;rename_i he;subst he;cases hb:(Nat.beq i 0&&(Nat.beq off 0&&Nat.beq sz e'.size)) with
  |false=>rw [hb] at h;cases h
  |true=>
   rw [hb] at h;simp only [cond_true] at h;injection h with h;subst h;simp only [Bool.and_eq_true] at hb;obtain ⟨h1,h2,h3⟩:=hb;have h1:=Nat.eq_of_beq_eq_true h1;have h2:=Nat.eq_of_beq_eq_true h2;subst h1;subst h2;obtain ⟨dB,C8,hc⟩:=hm c e' xs hl;obtain ⟨_,b,hg,ev⟩:=hr;rw [hg] at hc;obtain ⟨arr,iE,Ru⟩:=hc;refine ⟨⟨b,0,none⟩,by rw [ev];simp,fun i hi=> ?_⟩;obtain ⟨es,k1,k2⟩:=Ru.data (fun _ h=>h) C8 i hi;refine ⟨es,C8 [] b hg,fun j v hv=> ?_,k2⟩;rw [aX,iE.cell,Nat.zero_add];exact k1 j v hv
  cases h;cases h;cases h
 |ip t x off=>simp [cI] at h
 |fn f=>simp [cI] at h
 |lK f t' x=>simp [cI] at h
 |cls f ks=>simp [cI] at h
 |yF f t' x=>simp [cI] at h
 |kG c=>simp [cI] at h
 |cV=>simp [cI] at h
 |bad=>simp [cI] at h
theorem jX (hS: ∀b,S b→S2 b)(hm:gr g m m0 S2 w){t:Ty}{cs:List aq}{x:t.D}{r:List aq}{vs:List Value}(h:b9 m0 t cs=some (x,r))(hr:aK (CR g m S w) cs vs):
 ∃v1 v2,vs=v1++v2∧aR S2 w t v1 x∧aK (CR g m S w) r v2:=by
 cases cs with
 |nil=>simp [b9] at h
 |cons c cs=>
  cases vs with
  |nil=>exact hr.elim
  |cons v vs=>
   simp only [b9] at h;split at h;rename_i y hy;injection h with h;injection h with h1 h2;subst h1;subst h2;exact ⟨[v],vs,rfl,pP hS hm hy hr.1,hr.2⟩;cases h
theorem hH (hS: ∀b,S b→S2 b)(hm:gr g m m0 S2 w): ∀(t:Ty) {cs:List aq} {x:t.D} {r:List aq} {vs:List Value},impl m0 t cs=some (x,r)→aK (CR g m S w) cs vs→
 ∃v1 v2,vs=v1++v2∧aR S2 w t v1 x∧aK (CR g m S w) r v2
 | .int k,cs,x,r,vs,h,hr=>jX hS hm (t:= .int k) (cs:=cs) h hr
 | .cD k,cs,x,r,vs,h,hr=>jX hS hm (t:= .cD k) (cs:=cs) h hr
 | .bool,cs,x,r,vs,h,hr=>jX hS hm (t:= .bool) (cs:=cs) h hr
 | .str,cs,x,r,vs,h,hr=>jX hS hm (t:= .str) (cs:=cs) h hr
 | .sl t,cs,x,r,vs,h,hr=>jX hS hm (t:= .sl t) (cs:=cs) h hr
 | .own t,cs,x,r,vs,h,hr=>jX hS hm (t:= .own t) (cs:=cs) h hr
 | .bx t,cs,x,r,vs,h,hr=>jX hS hm (t:= .bx t) (cs:=cs) h hr
 | .cl f t,cs,x,r,vs,h,hr=>jX hS hm (t:= .cl f t) (cs:=cs) h hr
 | .st t,cs,x,r,vs,h,hr=>hH hS hm t h hr
 | .pair a b,cs,x,r,vs,h,hr=>by
  simp only [impl] at h;split at h;rename_i y r1 h1;split at h;rename_i z r2 h2;injection h with h;injection h with e1 e2;subst e1;subst e2;obtain ⟨v1,v2,rfl,k1,k2⟩:=hH hS hm a h1 hr;obtain ⟨v3,v4,rfl,k3,k4⟩:=hH hS hm b h2 k2;exact ⟨v1++v3,v4,by simp,⟨v1,v3,rfl,k1,k3⟩,k4⟩;cases h;cases h
def cE (t:Ty)(cs:List Value)(v:Value):Prop:=if t.rH then v= .agg cs.toArray else cs=[v]
theorem mF (hS: ∀b,S b→S2 b)(hm:gr g m m0 S2 w){t:Ty}{v:au}{x:t.D}{val:Value}(h:jA m0 t v=some x)(hr:VR g m S w v val):
 ∃cs,cE t cs val∧aR S2 w t cs x:=by
 unfold jA at h;split at h;rename_i c hJ;split at h;rename_i y he;injection h with h;subst h;obtain ⟨v1,v2,e,h1,h2⟩:=hH (vs:=[val]) hS hm t he ⟨hr,trivial⟩;have:v2=[]:=by cases v2 with|nil=>rfl|cons=>exact h2.elim
 subst this;simp at e;subst e;exact ⟨[val],by simp [cE,hJ],h1⟩;cases h;rename_i cs hJ;split at h;rename_i y he;injection h with h;subst h;obtain ⟨vs,e,gL⟩:=hr;obtain ⟨v1,v2,e2,h1,h2⟩:=hH hS hm t he gL;have:v2=[]:=by cases v2 with|nil=>rfl|cons=>exact h2.elim
 subst this;simp at e2;subst e2;exact ⟨vs,by simp [cE,hJ,e],h1⟩;cases h;cases h
theorem jY: ∀(t:Ty) {cs:List Value} {x:t.D},aR S w t cs x→aK (CR g m S w) (fx t x) cs
 | .int _,_,_,h=>by subst h;exact ⟨rfl,trivial⟩
 | .cD _,_,_,⟨b,e,h⟩=>by subst e;exact ⟨⟨b,rfl,h⟩,trivial⟩
 | .bool,_,_,h=>by subst h;exact ⟨rfl,trivial⟩
 | .str,_,_,h=>by subst h;exact ⟨rfl,trivial⟩
 | .sl t,_,_,⟨a,cap,e,h⟩=>by subst e;exact ⟨⟨a,cap,rfl,h⟩,trivial⟩
 | .own t,_,_,⟨a,cap,e,h⟩=>by subst e;exact ⟨⟨a,cap,rfl,h⟩,trivial⟩
 | .bx t,_,_,⟨a,e,h⟩=>by subst e;exact ⟨⟨a,rfl,h⟩,trivial⟩
 | .cl f t,_,_,⟨vs,ps,e,h⟩=>by subst e;exact ⟨⟨vs,ps,rfl,h⟩,trivial⟩
 | .pair a b,_,_,⟨c1,c2,e,h1,h2⟩=>by subst e;exact (jY a h1).append (jY b h2)
 | .st t,_,_,h=>jY t (cs:=_) h
theorem qC {c i:Nat}: ∀(t:Ty) {γ:List Nat→Option Nat} {o0:Nat} {cs:List Value} {x:t.D},cf S w t γ o0 cs x→
 (∀o e ys v,cW t x o=some ⟨e,ys⟩→gA (γ [o0+o]) w e.size ys.length v→CR g m S w (.row c i (o0+o)) v)→aK (CR g m S w) (yH c i t o0 x) cs
 | .own t,γ,o0,cs,xs,⟨v,e,h1,_⟩,vV=>by subst e;exact ⟨vV 0 t xs v rfl h1,trivial⟩
 | .pair a b,γ,o0,cs,x,⟨c1,c2,e,h1,h2⟩,vV=>by
  subst e;refine (qC a h1 fun o e ys v hs ha=>vV o e ys v ?_ ha).append (qC b h2 fun o e ys v hs ha=> ?_);unfold cW;rw [mh.2 (vU a hs)];exact hs;have:=vV (a.size+o) e ys v (by unfold cW;rw [jM (by omega),Nat.add_sub_cancel_left];exact hs) (by rw [←Nat.add_assoc];exact ha);rw [←Nat.add_assoc] at this;exact this
 | .st t,γ,o0,cs,x,h,vV=>qC t (cs:=cs) (x:=x) h vV
 | .int _,_,_,_,_,h,_=>by have h:=h;subst h;exact ⟨rfl,trivial⟩
 | .cD _,_,_,_,_,⟨b,e,h⟩,_=>by subst e;exact ⟨⟨b,rfl,h⟩,trivial⟩
 | .bool,_,_,_,_,h,_=>by have h:=h;subst h;exact ⟨rfl,trivial⟩
 | .str,_,_,_,_,h,_=>by have h:=h;subst h;exact ⟨rfl,trivial⟩
 | .sl t,_,_,_,_,⟨a,cap,e,h⟩,_=>by subst e;exact ⟨⟨a,cap,rfl,h⟩,trivial⟩
 | .bx t,_,_,_,_,⟨a,e,h⟩,_=>by subst e;exact ⟨⟨a,rfl,h⟩,trivial⟩
 | .cl f t,_,_,_,_,⟨vs,ps,e,h⟩,_=>by subst e;exact ⟨⟨vs,ps,rfl,h⟩,trivial⟩
theorem HM (v:Value):CR g m S w (Rt v) v:=by
 unfold Rt;split;exact rfl;exact rfl;exact ⟨_,rfl,rfl⟩;rename_i s;simp [CR,aR];exact ⟨none,rfl⟩;trivial;trivial;rename_i h1 h2 h3 h4 h5 h6 h7;cases v<;>first
  |rfl
  |exact absurd rfl (h6 _)
  |exact absurd rfl (h7 _)
theorem E9: ∀(l:List Value),aK (CR g m S w) (l.map Rt) l
 |[]=>trivial
 |v::l=>⟨HM v,E9 l⟩
theorem sM (v:Value):VR g m S w (oo v) v:=by
 unfold oo;split;rename_i cs;exact ⟨cs.toList,by simp,E9 _⟩;trivial;exact HM v
theorem ba {cx:Cx}{st:St}{a:Act}(h:bD cx g st a w){x:Operand}{v:au}(he:ev st.fr x=some v):VR g st.mem (cx.safe g st.mem w) w v (a.eval x):=by
 cases x with
 |tmp t=>exact h.fr t v he
 |const c=>simp only [ev] at he;injection he with he;subst he;exact sM c
 |func f=>simp only [ev] at he;injection he with he;subst he;exact rfl
 |global g=>simp [ev] at he
end
end Go.Ide
namespace Go.Ide
section
variable {P:Program} {g:GM} {m:Mem} {S:Nat→Prop} {w:World}
theorem aO {a b:Nat}(h:Nat.beq a b=true):a=b:=Nat.eq_of_beq_eq_true h
theorem gB {a b:Nat}(h:Nat.ble a b=true):a≤b:=Nat.le_of_ble_eq_true h
theorem bw {T:TypeId}{n:Nat}(h:cc P T=some n):(sizeOf T).run P w= .ok n w:=by
 unfold cc at h;cases hi:P.info? T with
 |none=>rw [hi] at h;cases h
 |some i=>rw [hi] at h;injection h with h;subst h;simp [sizeOf,typeInfo,hi]
theorem rM {T:TypeId}{ag:Bool}(h:vO P T=some ag):(isAgg T).run P w= .ok ag w:=by
 unfold vO at h;cases hu:P.underlying T with
 |none=>rw [hu] at h;cases h
 |some d=>
  rw [hu] at h;simp only [isAgg,Sem.run_bind,run_underlying hu,Result.andThen_ok];cases d<;>simp_all
theorem zr {ag:Bool}{kI:List aq}{iv:au}{cs:List Value}(h:M3 ag kI=some iv)(hr:aK (CR g m S w) kI cs):
 ∃r,(if ag then r=Value.agg cs.toArray else cs=[r])∧VR g m S w iv r:=by
 unfold M3 at h;split at h;injection h with h;subst h;exact ⟨_,rfl,cs,rfl,hr⟩;injection h with h;subst h;cases cs with
 |nil=>exact hr.elim
 |cons v vs=>
  cases vs with
  |nil=>exact ⟨v,rfl,hr.1⟩
  |cons=>exact hr.2.elim
 cases h
theorem ny {T:TypeId}{n:Nat}{ag:Bool}(hs:cc P T=some n)(ha:vO P T=some ag){ad:Addr}{cs:List Value}(hl:cs.length=n)(hc: ∀j v,cs[j]? =some v→w.cell? (ad.add j)=some v){r:Value}(hr:if ag then r=Value.agg cs.toArray else cs=[r]):
 (Instr.loadAt T (.pointer (some ad))).run P w= .ok r w:=by
 cases ag with
 |true=>
  simp only [if_true] at hr;subst hr;subst hl;simp [Instr.loadAt,Instr.sureAddr,loadVar,rM ha,bw hs,run_loadCells_list w ad cs hc]
 |false=>
  simp only [Bool.false_eq_true,if_false] at hr;subst hr;have:=hc 0 r rfl;rw [show ad.add 0=ad from by simp [Addr.add]] at this;simp [Instr.loadAt,Instr.sureAddr,loadVar,rM ha,this]
theorem aR.mi: ∀(t:Ty) {cs:List Value} {x:t.D},aR S w t cs x→ ∀v∈cs,v.oneCell'=true
 | .int _,_,_,h,v,hv=>by subst h;simp at hv;subst hv;rfl
 | .cD _,_,_,⟨b,e,h⟩,v,hv=>by subst e;simp at hv;subst hv;rfl
 | .bool,_,_,h,v,hv=>by subst h;simp at hv;subst hv;rfl
 | .str,_,_,h,v,hv=>by subst h;simp at hv;subst hv;rfl
 | .sl t,_,_,⟨a,cap,e,h⟩,v,hv=>by subst e;simp at hv;subst hv;rfl
 | .bx t,_,_,⟨a,e,h⟩,v,hv=>by subst e;simp at hv;subst hv;rfl
 | .cl f t,_,_,⟨vs,ps,e,h⟩,v,hv=>by subst e;simp at hv;subst hv;rfl
 | .own t,_,_,⟨a,cap,e,h⟩,v,hv=>by subst e;simp at hv;subst hv;rfl
 | .pair a b,_,_,⟨c1,c2,e,h1,h2⟩,v,hv=>by
  subst e;rcases List.mem_append.1 hv with h|h
  exact aR.mi a h1 v h;exact aR.mi b h2 v h
 | .st t,_,_,h,v,hv=>aR.mi t (cs:=_) h v hv
theorem vW {c:aq}{v:Value}(ho:c.ok=true)(h:CR g m S w c v):v.oneCell'=true:=by
 cases c with
 |aB t x=>exact aR.mi t (cs:=[v]) h v (by simp)
 |ptr c off=>obtain ⟨_,b,_,e⟩:=h;subst e;rfl
 |bT c i sz off=>obtain ⟨_,b,_,e⟩:=h;subst e;rfl
 |ip t x off=>obtain ⟨ad,es,e,_⟩:=h;subst e;rfl
 |all c=>exact h.2.1
 |ref c off len=>exact h.2.1
 |row c i o=>exact h.2.1
 |xS c i o j sz off=>obtain ⟨_,b,e,_⟩:=h;subst e;rfl
 |az=>obtain ⟨a,e⟩:=h;subst e;rfl
 |fn f=>have:v=_:=h;subst this;rfl
 |lK f t x=>obtain ⟨ad,es,e,_⟩:=h;subst e;rfl
 |cls f ks=>obtain ⟨ps,e,_⟩:=h;subst e;rfl
 |yF f t x=>obtain ⟨_,_,_,e,_⟩:=h;subst e;rfl
 |kG c=>obtain ⟨_,b,_,e⟩:=h;subst e;rfl
 |cV=>exact h
 |bad=>cases ho
theorem Fa: ∀{cs:List aq} {vs:List Value},cs.all aq.ok=true→aK (CR g m S w) cs vs→ ∀v∈vs,v.oneCell'=true
 |[],[],_,_,v,hv=>by simp at hv
 |c::cs,u::vs,ho,h,v,hv=>by
  simp only [List.all_cons,Bool.and_eq_true] at ho;rcases List.mem_cons.1 hv with rfl|hv
  exact vW ho.1 h.1;exact Fa ho.2 h.2 v hv
 |[],_::_,_,h,_,_=>h.elim
 |_::_,[],_,h,_,_=>h.elim
theorem tW {u:Value}(h:u.oneCell'=true):u.cells= #[u]:=by cases u<;>first|rfl|cases h
theorem iG {v:au}{u:Value}(ho:v.ok=true)(h:VR g m S w v u): ∃vs,u.cells.toList=vs∧aK (CR g m S w) v.cells vs:=by
 cases v with
 |one c=>exact ⟨[u],by rw [tW (vW ho h)],h,trivial⟩
 |agg cs=>obtain ⟨vs,rfl,gL⟩:=h;exact ⟨vs,rfl,gL⟩
 |zq=>cases ho
 |A9=>cases ho
 |cV=>cases ho
theorem oT {v:au}{u:Value}(ho:v.ok=true)(h:VR g m S w v u): ∀x∈u.cells.toList,x.oneCell'=true:=by
 cases v with
 |one c=>intro x hx;rw [tW (vW ho h)] at hx;simp at hx;subst hx;exact vW ho h
 |agg cs=>obtain ⟨vs,rfl,gL⟩:=h;exact Fa ho gL
 |zq=>cases ho
 |A9=>cases ho
 |cV=>cases ho
def jk (g:GM)(m:Mem)(S:Nat→Prop)(w:World):Prop:= ∀k ch,lk k m=some ch→gU g m S w (g.f k) ch
theorem Bd {n:Nat}{c:aq}{kI:List aq}{Hu:List Prop}(hm:jk g m S w)(h:mf m n c=some (kI,Hu)){v:Value}(hr:CR g m S w c v):
 ∃ad cs,v= .pointer (some ad)∧cs.length=n∧(∀j u,cs[j]? =some u→w.cell? (ad.add j)=some u)∧aK (CR g m S w) kI cs:=by
 unfold mf at h;split at h;rename_i c off;split at h;rename_i cs hl;cases hb:Nat.ble (off+n) cs.length with
 |false=>simp [hb] at h
 |true=>
  rw [hb] at h;simp only [cond_true] at h;injection h with h;injection h with h1 h2;subst h1;have hle:=gB hb;obtain ⟨b,arr,hg,iT,aP⟩:=hm c _ hl;obtain ⟨_,b',gb,e⟩:=hr;have gb:g.f c []=some b':=gb;rw [hg] at gb;injection gb with gb;subst gb;have hlen:=aP.length;refine ⟨⟨b,off,none⟩,(arr.toList.drop off).take n,e,by simp at hlen⊢;omega,fun j u hu=> ?_,(aP.drop off).take n⟩;rw [aX,iT.cell];rw [List.getElem?_take] at hu;split at hu;simpa using hu;cases hu
 cases h;cases h;rename_i t x off;cases hb:Nat.ble (off+n) (fx t x).length with
 |false=>simp [hb] at h
 |true=>
  rw [hb] at h;simp only [cond_true] at h;injection h with h;injection h with h1 h2;subst h1;have hle:=gB hb;obtain ⟨ad,es,e,hs,aM,bf⟩:=hr;have aP:aK (CR g m S w) (fx t x) es:=jY t bf;have hlen:=aP.length;refine ⟨ad.add off,(es.drop off).take n,e,by simp;omega,fun j u hu=> ?_,(aP.drop off).take n⟩;rw [add_add];rw [List.getElem?_take] at hu;split at hu;exact aM _ u (by simpa using hu);cases hu
 cases h
def aG (P:Program)(g:GM)(m:Mem)(S:Nat→Prop)(w:World)(s:Sem Value)(e:bm):Prop:=
 e.new=[]∧e.jU=[]∧ ∃r,s.run P w= .ok r w∧VR g m S w e.val r
theorem aG.mk {v:au}{s:Sem Value}{r:Value}{e:bm}(he:e.new=[]∧e.jU=[]∧e.val=v)(h:s.run P w= .ok r w)(hr:VR g m S w v r):aG P g m S w s e:=
 ⟨he.1,he.2.1,r,h,by rw [he.2.2];exact hr⟩
theorem aC {v:au}{e:bm}(h:bn v=some e):e.new=[]∧e.jU=[]∧e.val=v:=by
 unfold bn at h;injection h with h;subst h;exact ⟨rfl,rfl,rfl⟩
theorem bU {v:au}{cs:List Prop}{e:bm}(h:fj v cs=some e):(e.new=[]∧e.jU=[]∧e.val=v)∧e.cond=cs:=by
 unfold fj at h;injection h with h;subst h;exact ⟨⟨rfl,rfl,rfl⟩,rfl⟩
theorem getD_eq {α:Type}{xs:List α}{i:Nat}{d:α}(h:i<xs.length):xs.getD i d=xs[i]:=by
 simp [List.getD,h]
theorem dw.at_ {γ:List Nat→Option Nat}{t:Ty}{xs:List t.D}{arr:Array Value}(h:dw S w γ t xs arr){i:Nat}(hi:i<xs.length):
 ∃es:List Value,es.length=t.size∧(∀j v,es[j]? =some v→arr[i*t.size+j]? =some v)∧cf S w t (fun p=>γ (i::p)) 0 es (xs.getD i t.dH):=by
 obtain ⟨es,h1,h2⟩:=h i hi;exact ⟨es,cf.len t h2,h1,by rw [getD_eq hi];exact h2⟩
theorem gA.one {gc:Option Nat}{sz n:Nat}{v:Value}(h:gA gc w sz n v):v.oneCell'=true:=by
 unfold gA at h;cases gc with
 |none=>obtain ⟨a,rfl⟩:=h;rfl
 |some b=>obtain ⟨cap,arr,rfl,_⟩:=h;rfl
theorem N4 {c i o:Nat}{t e:Ty}{xs:List t.D}{ys:List e.D}{v:Value}(hl:lk c m=some (.seq t xs))(hi:i<xs.length)(hs:cW t (xs.getD i t.dH) o=some ⟨e,ys⟩)(ha:gA (g.f c [i,o]) w e.size ys.length v):
 CR g m S w (.row c i o) v:=by
 refine ⟨by rw [hl];simp,ha.one,fun t' bF dB=> ?_⟩;rw [hl] at dB;injection dB with dB;injection dB with h1 h2;subst h1;have h2:=eq_of_heq h2;subst h2;refine ⟨hi,fun e' sD db=> ?_⟩;rw [hs] at db;injection db with db;injection db with h1 h2;subst h1;have h2:=eq_of_heq h2;subst h2;exact ha
theorem ou {c i o:Nat}{t e:Ty}{xs:List t.D}{ys:List e.D}(hm:jk g m S w)(hl:lk c m=some (.seq t xs))(hi:i<xs.length)(hs:cW t (xs.getD i t.dH) o=some ⟨e,ys⟩):
 match g.f c [i,o] with
 |none=>ys.length=0
 |some b=> ∃arr,cg w b arr∧ ∀j (h:j<ys.length),∃es:List Value,(∀q v,es[q]? =some v→arr[j*e.size+q]? =some v)∧cf S w e (fun p=>g.f c (i::o::j::p)) 0 es ys[j]:=by
 have bK:=hm c _ hl;unfold gU at bK;cases hg:g.f c [] with
 |none=>rw [hg] at bK;have hn:xs=[]:=bK;subst hn;simp at hi
 |some b=>
  rw [hg] at bK;obtain ⟨arr,hb,he⟩:=bK;obtain ⟨es,_,_,h3⟩:=he.at_ hi;obtain ⟨u,_,v,_,_,h4⟩:=cf.slot t h3 hs;rw [Nat.zero_add] at h4;exact h4
theorem pQ {T:TypeId}{v:au}{e:bm}{va:Value}(hm:jk g m S w)(h:oq P m T v=some e)(hc:aS e.cond)(hr:VR g m S w v va):aG P g m S w (Instr.loadAt T va) e:=by
 unfold oq at h;split at h;rename_i c i sz off n ag hs ha;split at h;rename_i t xs hl;cases fy:(Nat.ble (off+n) t.size&&Nat.beq sz t.size) with
 |false=>simp [fy] at h
 |true=>
  rw [fy] at h;simp only [cond_true] at h;simp only [Bool.and_eq_true] at fy;obtain ⟨hn,hz⟩:=fy;have hn:=gB hn;have hz:=aO hz;split at h;rename_i r Lm;obtain ⟨he,lZ⟩:=bU h;rw [lZ] at hc;have hi:i<xs.length:=hc.1;obtain ⟨_,b,hg,e1⟩:=hr;have bK:=hm c _ hl;unfold gU at bK;have hg:g.f c []=some b:=hg;rw [hg] at bK;obtain ⟨arr,iT,fA⟩:=bK;obtain ⟨es,hlen,aM,bf⟩:=fA.at_ hi;have aP:aK (CR g m S w) (yH c i t 0 (xs.getD i t.dH)) es:=qC t bf fun o e ys v hs ha=>by
   rw [Nat.zero_add] at ha⊢;exact N4 hl hi hs ha
  obtain ⟨rv,h1,h2⟩:=zr (g:=g) (m:=m) Lm ((aP.drop off).take n);subst e1;refine aG.mk he (ny hs ha (cs:=(es.drop off).take n) (by simp;omega) (fun j u hu=> ?_) h1) h2;rw [aX,iT.cell,hz,Nat.add_assoc];rw [List.getElem?_take] at hu;split at hu;exact aM _ u (by simpa using hu);cases hu;cases h
 rename_i t xs jj kI ks hl;cases fy:(Nat.ble (off+n) t.size&&Nat.beq sz t.size) with
 |false=>simp [fy] at h
 |true=>
  rw [fy] at h;simp only [cond_true] at h;simp only [Bool.and_eq_true] at fy;obtain ⟨hn,hz⟩:=fy;have hn:=gB hn;have hz:=aO hz;split at h;rename_i r Lm;obtain ⟨he,lZ⟩:=bU h;rw [lZ] at hc;have hi:i=jj:=hc.1;subst hi;obtain ⟨_,b,hg,e1⟩:=hr;obtain ⟨_,b',arr,gb,iT,_,_,es,hlen,aM,aP⟩:=hm c _ hl;have hg:g.f c []=some b:=hg;rw [hg] at gb;injection gb with gb;subst gb;obtain ⟨rv,h1,h2⟩:=zr (g:=g) (m:=m) Lm ((aP.drop off).take n);subst e1;refine aG.mk he (ny hs ha (cs:=(es.drop off).take n) (by simp;omega) (fun j u hu=> ?_) h1) h2;rw [aX,iT.cell,hz,Nat.add_assoc];rw [List.getElem?_take] at hu;split at hu;exact aM _ u (by simpa using hu);cases hu;cases h
 cases h;rename_i c i o j sz off n ag hs ha;split at h;rename_i t xs hl;split at h;rename_i e ys Fb;cases fy:((Nat.ble (off+n) e.size&&Nat.beq sz e.size)&&e.top) with
 |false=>simp [fy] at h
 |true=>
  rw [fy] at h;simp only [cond_true] at h;simp only [Bool.and_eq_true] at fy;obtain ⟨⟨hn,hz⟩,ht⟩:=fy;have hn:=gB hn;have hz:=aO hz;split at h;rename_i r Lm;obtain ⟨he,lZ⟩:=bU h;rw [lZ] at hc;have hj:j<ys.length:=hc.1;obtain ⟨_,b,e1,Hv⟩:=hr;obtain ⟨hi,hg⟩:=Hv t xs hl;have hb:=ou hm hl hi Fb;rw [hg] at hb;obtain ⟨arr,iT,fA⟩:=hb;obtain ⟨es,aM,lr⟩:=fA j hj;have hlen:=cf.len e lr;have aP:aK (CR g m S w) (fx e (ys.getD j e.dH)) es:=jY e (by rw [getD_eq hj];exact cf.rep e ht lr);obtain ⟨rv,h1,h2⟩:=zr (g:=g) (m:=m) Lm ((aP.drop off).take n);subst e1;refine aG.mk he (ny hs ha (cs:=(es.drop off).take n) (by simp;omega) (fun q u hu=> ?_) h1) h2;rw [aX,iT.cell,hz,Nat.add_assoc];rw [List.getElem?_take] at hu;split at hu;exact aM _ u (by simpa using hu);cases hu;cases h
 cases h;cases h;rename_i c n ag _ _ hs ha;split at h;rename_i kI Hu Yz;split at h;rename_i r Lm;obtain ⟨ad,cs,e1,hlen,aM,aP⟩:=Bd hm Yz (show CR g m S w c va from hr);obtain ⟨rv,h1,h2⟩:=zr Lm aP;subst e1;exact aG.mk (aC h) (ny hs ha hlen aM h1) h2;cases h;cases h;cases h
end
end Go.Ide
namespace Go.Ide
section
variable {P:Program} {g:GM} {m:Mem} {S:Nat→Prop} {w:World}
theorem toNat_lt {n:Int}{l:Nat}(h0:0≤n)(h1:n<(l:Int)):n.toNat<l:=by omega
theorem UX {n:Int}(h:0≤n): ¬n<0:=by omega
theorem HN {n:Int}(h0:0≤n)(h1:n<((0:Nat):Int)):False:=by omega
theorem tX {T:TypeId}{x i:au}{e:bm}{xa ia:Value}(hm:jk g m S w)(h:jB P m T x i=some e)(hc:aS e.cond)(hx:VR g m S w x xa)(hi:VR g m S w i ia):
 aG P g m S w (Instr.indexAt T xa ia) e:=by
 unfold jB at h;split at h;rename_i el k n hu;have UY:ia= .int k n:=by have:[ia]=[Value.int k n]:=hi;simpa using this
 subst UY;split at h;rename_i t xs kz hs;cases hb:Nat.beq kz t.size with
 |false=>simp [hb] at h
 |true=>
  rw [hb] at h;simp only [cond_true] at h;have hz:=aO hb;obtain ⟨he,lZ⟩:=bU h;rw [lZ] at hc;obtain ⟨⟨h0,h1⟩,_⟩:=hc;obtain ⟨a,cap,e1,hcap,lr⟩:=hx;have Ln:xa= .slice a (List.length xs) cap:=by simpa using e1
  subst Ln;have hlt:Int.toNat n<List.length xs:=toNat_lt h0 h1;obtain ⟨ad,es,ea,hS,aM,bf⟩:=lr n.toNat hlt;subst ea;refine aG.mk he (r:= .pointer (some (ad.add (n.toNat*kz)))) ?_ ⟨ad.add (n.toNat*kz),es,by simp [Addr.add],by rw [dM];exact hS,fun j u hj=> ?_,?_⟩;simp [Instr.indexAt,asIntOf,run_underlying hu,bw hs,h0,h1];rw [add_add,hz];exact aM j u hj;rw [getD_eq hlt];exact bf
 rename_i c kz hs;split at h;rename_i t xs hl;cases hb:Nat.beq kz t.size with
 |false=>simp [hb] at h
 |true=>
  rw [hb] at h;simp only [cond_true] at h;obtain ⟨he,lZ⟩:=bU h;rw [lZ] at hc;obtain ⟨⟨h0,h1⟩,_⟩:=hc;have bK:=hm c _ hl;have aP:=hx.2.2 t xs (.inl hl);unfold gA at aP;unfold gU at bK;cases hg:g.f c [] with
  |none=>
   rw [hg] at bK;have:xs=[]:=bK;subst this;exact (HN h0 h1).elim
  |some b=>
   have aP:match g.f c [] with|none=>_|some b=>_:=aP
   rw [hg] at aP;obtain ⟨cap,arr,e1,_,iT,_⟩:=aP;subst e1;refine aG.mk he (r:= .pointer (some ⟨b,n.toNat*kz,none⟩)) ?_ ⟨hx.1,b,hg,rfl⟩;simp [Instr.indexAt,asIntOf,run_underlying hu,bw hs,h0,h1,aX]
 rename_i t xs jj kI ks hl;cases hb:Nat.beq kz t.size with
 |false=>simp [hb] at h
 |true=>
  rw [hb] at h;simp only [cond_true] at h;obtain ⟨he,lZ⟩:=bU h;rw [lZ] at hc;obtain ⟨⟨h0,h1⟩,_⟩:=hc;obtain ⟨_,b,arr,hg,_⟩:=hm c _ hl;have aP:=hx.2.2 t xs (.inr ⟨_,_,_,hl⟩);unfold gA at aP;have aP:match g.f c [] with|none=>_|some b=>_:=aP
  rw [hg] at aP;obtain ⟨cap,arr,e1,_,iT,_⟩:=aP;subst e1;refine aG.mk he (r:= .pointer (some ⟨b,n.toNat*kz,none⟩)) ?_ ⟨hx.1,b,hg,rfl⟩;simp [Instr.indexAt,asIntOf,run_underlying hu,bw hs,h0,h1,aX]
 cases h;rename_i c i o kz hs;split at h;rename_i t xs hl;split at h;rename_i e ys Fb;cases hb:Nat.beq kz e.size with
 |false=>simp [hb] at h
 |true=>
  rw [hb] at h;simp only [cond_true] at h;obtain ⟨he,lZ⟩:=bU h;rw [lZ] at hc;obtain ⟨⟨h0,h1⟩,_⟩:=hc;obtain ⟨hi,Gk⟩:=hx.2.2 t xs hl;have aP:=Gk e ys Fb;have M6:=ou hm hl hi Fb;unfold gA at aP;cases hg:g.f c [i,o] with
  |none=>
   rw [hg] at M6;have Ub:ys.length=0:=M6;exact (HN h0 (by rw [←Ub];exact h1)).elim
  |some b=>
   rw [hg] at aP;obtain ⟨cap,arr,e1,_,iT,_⟩:=aP;subst e1;refine aG.mk he (r:= .pointer (some ⟨b,n.toNat*kz,none⟩)) ?_ ⟨hx.1,b,rfl,fun t' bF dB=>⟨?_,hg⟩⟩;simp [Instr.indexAt,asIntOf,run_underlying hu,bw hs,h0,h1,aX];exact (hx.2.2 t' bF dB).1
 cases h;cases h;rename_i c off len kz hs;split at h;rename_i t xs hl;cases hb:Nat.beq kz t.size with
 |false=>simp [hb] at h
 |true=>
  rw [hb] at h;simp only [cond_true] at h;have hz:=aO hb;obtain ⟨he,lZ⟩:=bU h;rw [lZ] at hc;obtain ⟨⟨h0,h1⟩,_⟩:=hc;obtain ⟨hle,Gk⟩:=hx.2.2 t xs (.inl hl);rcases Gk with ⟨pG,_⟩|⟨b,cap,arr,hg,e1,_⟩
  subst pG;exact (HN h0 h1).elim;subst e1;refine aG.mk he (r:= .pointer (some ⟨b,(off+n.toNat)*kz,none⟩)) ?_ ⟨hx.1,b,hg,rfl⟩;simp [Instr.indexAt,asIntOf,run_underlying hu,bw hs,h0,h1,aX,Nat.add_mul,hz]
 cases h;cases h;cases h
theorem sN {T:TypeId}{x i:au}{e:bm}{xa ia:Value}(hm:jk g m S w)(h:gY P m T x i=some e)(hc:aS e.cond)(hx:VR g m S w x xa)(hi:VR g m S w i ia):
 aG P g m S w (Instr.indexAt T xa ia) e:=by
 unfold gY at h;split at h;rename_i e' hA;injection h with h;subst h;unfold sJ at hA;split at hA;rename_i len el c k sz kk n hu;have UY:ia= .int kk n:=by have:[ia]=[Value.int kk n]:=hi;simpa using this
 subst UY;split at hA;rename_i z hz;cases hb:Nat.beq (z/sz*sz) z with
 |false=>simp [hb] at hA
 |true=>
  rw [hb] at hA;simp only [cond_true] at hA;have hq:=aO hb;obtain ⟨he,lZ⟩:=bU hA;rw [lZ] at hc;obtain ⟨⟨h0,h1⟩,_⟩:=hc;obtain ⟨hp,b,hg,e1⟩:=hx;subst e1;refine aG.mk he (r:= .pointer (some ⟨b,(k+z/sz*n.toNat)*sz+0,none⟩)) ?_ ⟨hp,b,hg,rfl⟩;have e2:(k+z/sz*n.toNat)*sz=k*sz+n.toNat*z:=by
   rw [Nat.add_mul,Nat.mul_right_comm,hq,Nat.mul_comm z]
  simp [Instr.indexAt,asIntOf,run_underlying hu,bw hz,h0,h1,Instr.sureAddr,aX,e2]
 cases hA;cases hA;exact tX hm h hc hx hi
theorem tY {T:TypeId}{x:au}{f:Nat}{e:bm}{xa:Value}(h:oR P T x f=some e)(hx:VR g m S w x xa):
 aG P g m S w (Instr.fieldAt T xa f) e:=by
 unfold oR at h;split at h;rename_i fs hu;split at h;rename_i fd hf;split at h;rename_i c off n hs;obtain ⟨hp,b,hg,e1⟩:=hx;subst e1;refine aG.mk (aC h) (r:= .pointer (some ⟨b,off+fd.offset,none⟩)) ?_ ⟨hp,b,hg,rfl⟩;simp [Instr.fieldAt,run_underlying hu,hf,Instr.sureAddr,fieldPlace,bw hs,aX];rename_i t y off n hs;obtain ⟨ad,es,e1,hS,aM,bf⟩:=hx;subst e1;refine aG.mk (aC h) (r:= .pointer (some (ad.add (off+fd.offset)))) ?_ ⟨ad,es,rfl,hS,aM,bf⟩;simp [Instr.fieldAt,run_underlying hu,hf,Instr.sureAddr,fieldPlace,bw hs,add_add];rename_i c i sz off n hs;obtain ⟨hp,b,hg,e1⟩:=hx;subst e1;refine aG.mk (aC h) (r:= .pointer (some ⟨b,i*sz+(off+fd.offset),none⟩)) ?_ ⟨hp,b,hg,rfl⟩;simp [Instr.fieldAt,run_underlying hu,hf,Instr.sureAddr,fieldPlace,bw hs,aX,Nat.add_assoc];rename_i c i o j sz off n hs;obtain ⟨hp,b,e1,Gk⟩:=hx;subst e1;refine aG.mk (aC h) (r:= .pointer (some ⟨b,j*sz+(off+fd.offset),none⟩)) ?_ ⟨hp,b,rfl,Gk⟩;simp [Instr.fieldAt,run_underlying hu,hf,Instr.sureAddr,fieldPlace,bw hs,aX,Nat.add_assoc];cases h;cases h;cases h
theorem dx {k:IntKind}{n:Int}{v:Value}(h:CR g m S w (.aB (.int k) n) v):v= .int k n:=by
 have:[v]=[Value.int k n]:=h;simpa using this
theorem mG {b:Bool}{v:Value}(h:CR g m S w (.aB .bool b) v):v= .bool b:=by
 have:[v]=[Value.bool b]:=h;simpa using this
theorem jZ {s:List UInt8}{v:Value}(h:CR g m S w (.aB .str s) v):v= .string ⟨s.toArray⟩:=by
 have:[v]=[Value.string ⟨s.toArray⟩]:=h;simpa using this
theorem HO {x:au}{e:bm}{xa:Value}(hm:jk g m S w)(h:rJ m x=some e)(hx:VR g m S w x xa):
 ∃n:Nat,(e.new=[]∧e.jU=[]∧e.val= .one (.aB (.int .i64) ((n:Nat):Int)))∧((∃a c,xa= .slice a n c)∨(∃s:ByteArray,xa= .string s∧s.size=n)):=by
 unfold rJ at h;split at h;rename_i t xs;obtain ⟨a,cap,e1,_⟩:=hx;exact ⟨_,aC h,.inl ⟨a,cap,by simpa using e1⟩⟩;rename_i xs;have:=jZ (g:=g) (m:=m) (S:=S) (w:=w) hx;exact ⟨_,aC h,.inr ⟨_,this,by simp [ByteArray.size]⟩⟩;rename_i c;split at h;rename_i t xs hl;have aP:=hx.2.2 t xs (.inl hl);have bK:=hm c _ hl;unfold gA at aP;unfold gU at bK;have aP:match g.f c [] with|none=>_|some b=>_:=aP
 cases hg:g.f c [] with
 |none=>
  rw [hg] at aP bK;obtain ⟨a,ha⟩:=aP;have:xs=[]:=bK;subst this;exact ⟨0,aC h,.inl ⟨a,0,ha⟩⟩
 |some b=>
  rw [hg] at aP;obtain ⟨cap,arr,e1,_⟩:=aP;exact ⟨_,aC h,.inl ⟨_,cap,e1⟩⟩
 rename_i t xs jj kI ks hl;obtain ⟨_,b,arr,hg,_⟩:=hm c _ hl;have aP:=hx.2.2 t xs (.inr ⟨_,_,_,hl⟩);unfold gA at aP;have aP:match g.f c [] with|none=>_|some b=>_:=aP
 rw [hg] at aP;obtain ⟨cap,arr,e1,_⟩:=aP;exact ⟨_,aC h,.inl ⟨_,cap,e1⟩⟩;cases h;rename_i c i o;split at h;rename_i t xs hl;split at h;rename_i e ys Fb;obtain ⟨hi,Gk⟩:=hx.2.2 t xs hl;have aP:=Gk e ys Fb;have M6:=ou hm hl hi Fb;unfold gA at aP;cases hg:g.f c [i,o] with
 |none=>
  rw [hg] at aP M6;obtain ⟨a,ha⟩:=aP;have h0:List.length ys=0:=M6;exact ⟨0,by rw [←h0];exact aC h,.inl ⟨a,0,ha⟩⟩
 |some b=>
  rw [hg] at aP;obtain ⟨cap,arr,e1,_⟩:=aP;exact ⟨_,aC h,.inl ⟨_,cap,e1⟩⟩
 cases h;cases h;rename_i c off len;split at h;rename_i t xs hl;obtain ⟨_,Gk⟩:=hx.2.2 t xs (.inl hl);rcases Gk with ⟨pG,_,a,ha⟩|⟨b,cap,arr,hg,e1,_⟩
 subst pG;exact ⟨_,aC h,.inl ⟨a,0,ha⟩⟩;exact ⟨_,aC h,.inl ⟨_,cap,e1⟩⟩;cases h;obtain ⟨a,ha⟩:=hx;exact ⟨0,aC h,.inl ⟨a,0,ha⟩⟩;cases h
def Dm (P:Program)(T:TypeId):Bool:=
 match P.underlying T with
 |some (.slice _)=>true
 |some .string=>true
 |_=>false
theorem kJ {T ty:TypeId}{x:au}{e:bm}{xa:Value}{Ts:Array TypeId}(hm:jk g m S w)(hT:Dm P T=true)(h:rJ m x=some e)(hx:VR g m S w x xa)(Xy:Ts[0]? =some T)(hk: ∀(s:ByteArray),xa= .string s→P.underlying T=some .string)(dS: ∀a n c,xa= .slice a n c→ ∃el,P.underlying T=some (.slice el)):
 aG P g m S w (Builtin.len_ Ts ty #[xa]) e:=by
 obtain ⟨n,he,hv⟩:=HO hm h hx;refine aG.mk he (r:= .int .i64 (n:Int)) ?_ rfl;rcases hv with ⟨a,c,rfl⟩|⟨s,rfl,hs⟩
 obtain ⟨el,hu⟩:=dS a n c rfl;simp [Builtin.len_,Xy,run_underlying hu,goInt];simp [Builtin.len_,Xy,run_underlying (hk s rfl),goInt,hs]
theorem Dn {op:BinOp}{k:IntKind}{x y:Int}{e:bm}{T:TypeId}(hs:vx op=false)(h:Lj op k x y=some e)(hc:aS e.cond):
 aG P g m S w (binOp op T (.int k x) (.int k y)) e:=by
 cases op<;>simp only [vx,Bool.true_eq_false] at hs<;>simp only [Lj,M5] at h
 case add=>exact aG.mk (aC h) (by simp [binOp,Op.intArith]) rfl
 case sub=>exact aG.mk (aC h) (by simp [binOp,Op.intArith]) rfl
 case mul=>exact aG.mk (aC h) (by simp [binOp,Op.intArith]) rfl
 case quo=>
  obtain ⟨he,lZ⟩:=bU h;rw [lZ] at hc;have hy: ¬y=0:=hc.1;exact aG.mk he (r:= .int k (k.wrap (x.tdiv y))) (by simp [binOp,Op.intDiv,hy]) rfl
 case rem=>
  obtain ⟨he,lZ⟩:=bU h;rw [lZ] at hc;have hy: ¬y=0:=hc.1;exact aG.mk he (r:= .int k (x.tmod y)) (by simp [binOp,Op.intDiv,hy]) rfl
 case eql=>exact aG.mk (aC h) (by simp [binOp,Op.intCmp]) rfl
 case neq=>exact aG.mk (aC h) (by simp [binOp,Op.intCmp]) rfl
 case lss=>exact aG.mk (aC h) (by simp [binOp,Op.intCmp]) rfl
 case leq=>exact aG.mk (aC h) (by simp [binOp,Op.intCmp]) rfl
 case gtr=>exact aG.mk (aC h) (by simp [binOp,Op.intCmp]) rfl
 case geq=>exact aG.mk (aC h) (by simp [binOp,Op.intCmp]) rfl
 case and=>exact aG.mk (aC h) (by simp [binOp,Op.intBits]) rfl
 case or=>exact aG.mk (aC h) (by simp [binOp,Op.intBits]) rfl
 case xor=>exact aG.mk (aC h) (by simp [binOp,Op.intBits]) rfl
 case andNot=>exact aG.mk (aC h) (by simp [binOp,Op.intBits]) rfl
 all_goals cases h
theorem toList_str (a:List UInt8):(⟨a.toArray⟩:ByteArray).toList=a:=by
 rw [ByteArray.toList_eq]
theorem uF {T:TypeId}(hu:P.underlying T=some .bool)(a b:Bool):(Op.equal T (.bool a) (.bool b)).run P w= .ok (a==b) w:=by
 have h: ∀d:Nat,(Op.equalIn (d+1) T (.bool a) (.bool b)).run P w= .ok (a==b) w:=fun d=>by
  rw [Op.equalIn];simp [run_underlying hu]
 exact h 9999
theorem Dp {op:BinOp}{x y:au}{e:bm}{T:TypeId}{xa ya:Value}(h:Gj P T op x y=some e)(hc:aS e.cond)(hx:VR g m S w x xa)(hy:VR g m S w y ya):
 aG P g m S w (binOp op T xa ya) e:=by
 unfold Gj at h;split at h
 ·rename_i k a k' b;have e1:=dx (g:=g) (m:=m) (S:=S) (w:=w) hx;have e2:=dx (g:=g) (m:=m) (S:=S) (w:=w) hy;subst e1;subst e2;split at h
  ·rename_i hs;cases op<;>simp only [vx,Bool.false_eq_true] at hs<;>simp only [Di] at h
   all_goals
    obtain ⟨he,lZ⟩:=bU h;rw [lZ] at hc;have h0: ¬b<0:=UX hc.1;exact aG.mk he (by simp [binOp,Op.shift,h0]) rfl
  rename_i hs;split at h;rename_i hk;subst hk;exact Dn (by simpa using hs) h hc;cases h
 rename_i a b;have e1:=jZ (g:=g) (m:=m) (S:=S) (w:=w) hx;have e2:=jZ (g:=g) (m:=m) (S:=S) (w:=w) hy;subst e1;subst e2;unfold N0 at h;split at h;exact aG.mk (aC h) (r:= .bool (a==b)) (by simp [binOp,Op.stringOp,toList_str]) rfl;exact aG.mk (aC h) (r:= .bool (a != b)) (by simp [binOp,Op.stringOp,toList_str,bne]) rfl;obtain ⟨he,lZ⟩:=bU h;rw [lZ] at hc;have h0:a.length+b.length≤av:=hc.1;refine aG.mk he (r:= .string ⟨(a++b).toArray⟩) ?_ rfl;have h1: ¬(((⟨a.toArray⟩:ByteArray).size+(⟨b.toArray⟩:ByteArray).size:Nat):Int)>IntKind.i64.max:=by
  simp only [ByteArray.size,List.size_toArray];unfold av at h0;have:IntKind.i64.max=9223372036854775807:=by decide
  rw [this];omega
 simp only [binOp,Op.stringOp];rw [if_neg h1];simp [ByteArray.append_eq,ByteArray.ext_iff];exact aG.mk (aC h) (r:= .bool (Op.bytesLess a b)) (by simp [binOp,Op.stringOp,toList_str]) rfl;cases h;rename_i a b;have e1:=mG (g:=g) (m:=m) (S:=S) (w:=w) hx;have e2:=mG (g:=g) (m:=m) (S:=S) (w:=w) hy;subst e1;subst e2;split at h;rename_i hu;exact aG.mk (aC h) (r:= .bool (a==b)) (by simp only [binOp];simp [uF hu]) rfl;rename_i hu;exact aG.mk (aC h) (r:= .bool (a != b)) (by simp only [binOp];simp [uF hu,bne]) rfl;cases h;cases h
end
end Go.Ide
namespace Go.Ide
section
variable {P:Program} {g:GM} {m:Mem} {S:Nat→Prop} {w:World}
def OR (g:GM)(m:Mem)(S:Nat→Prop)(w:World):Option au→Option Value→Prop
 |none,none=>True
 |some v,some u=>VR g m S w v u
 |_,_=>False
theorem qD {lo:Option au}{lv:Option Value}{l:Int}(h:M4 lo=some l)(hr:OR g m S w lo lv):(lv=none∧l=0)∨ ∃k,lv=some (.int k l):=by
 unfold M4 at h;split at h;cases lv with
 |none=>injection h with h;exact .inl ⟨rfl,h.symm⟩
 |some=>exact hr.elim
 rename_i k n;cases lv with
 |none=>exact hr.elim
 |some v=>
  injection h with h;subst h;exact .inr ⟨k,by rw [dx (g:=g) (m:=m) (S:=S) (w:=w) hr]⟩
 cases h
theorem sO {hi:Option au}{hv:Option Value}{len:Nat}{h:Int}(he:NZ len hi=some h)(hr:OR g m S w hi hv):(hv=none∧h=len)∨ ∃k,hv=some (.int k h):=by
 unfold NZ at he;split at he;cases hv with
 |none=>injection he with he;exact .inl ⟨rfl,he.symm⟩
 |some=>exact hr.elim
 rename_i k n;cases hv with
 |none=>exact hr.elim
 |some v=>
  injection he with he;subst he;exact .inr ⟨k,by rw [dx (g:=g) (m:=m) (S:=S) (w:=w) hr]⟩
 cases he
theorem vX {lv hv:Option Value}{l h:Int}{len cap:Nat}{b:Bool}(hl:(lv=none∧l=0)∨ ∃k,lv=some (.int k l))(hh:(hv=none∧h=len)∨ ∃k,hv=some (.int k h))(h0:0≤l)(h1:l≤h)(h2:h≤(len:Int))(h3:len≤cap):(Instr.sliceBounds b len cap lv hv none).run P w= .ok (l.toNat,h.toNat,cap) w:=by
 have e1:l≤((h.toNat:Nat):Int):=by omega
 have e2:h≤(cap:Int):=by omega
 have e3:0≤h:=by omega
 have e4: ¬(max h 0<l):=by omega
 rcases hl with ⟨rfl,rfl⟩|⟨k,rfl⟩<;>rcases hh with ⟨rfl,hx⟩|⟨k',rfl⟩
 subst hx;simp [Instr.sliceBounds];simp [Instr.sliceBounds,Instr.sliceBound,asIntOf,e3,e2];subst hx;simp [Instr.sliceBounds,Instr.sliceBound,asIntOf,h0,h1];simp [Instr.sliceBounds,Instr.sliceBound,asIntOf,h0,e2,e3,e4]
theorem qE (off:Nat): ∀(vs:List Value) (k:Nat) (arr:Array Value),off+k+vs.length≤arr.size→
 ((vs.zipIdx k).foldl (fun cs (p:Value×Nat)=>cs.setIfInBounds (off+p.2) p.1) arr).toList=arr.toList.take (off+k)++vs++arr.toList.drop (off+k+vs.length)
 |[],k,arr,h=>by simp
 |v::vs,k,arr,h=>by
  simp only [List.zipIdx_cons,List.foldl_cons];simp only [List.length_cons] at h;rw [qE off vs (k+1) _ (by simp;omega)];have hlt:off+k<arr.toList.length:=by simp;omega
  simp only [Array.toList_setIfInBounds,List.length_cons];rw [List.drop_set_of_lt (by omega),show off+(k+1)=off+k+1 from by omega,List.take_set,List.take_succ_eq_append_getElem hlt,
   List.set_append_right _ _ (by simp;omega)]
  simp [show off+k+1+vs.length=off+k+(vs.length+1) from by omega,Nat.min_eq_left (Nat.le_of_lt (show off+k<arr.size by simpa using hlt))]
theorem vY (place:Nat→Option (Nat×Nat)): ∀{parts:List (Nat×au)} {vparts:List (Nat×Value)} {kI r:List aq} {arr:Array Value},
 yI place kI parts=some r→aK (CR g m S w) kI arr.toList→aK (fun (p:Nat×au) (q:Nat×Value)=>p.1=q.1∧VR g m S w p.2 q.2) parts vparts→
 ∃aA,Instr.fill place arr vparts=some aA∧aK (CR g m S w) r aA.toList
 |[],[],kI,r,arr,h,hc,_=>by
  simp only [yI] at h;injection h with h;subst h
  exact ⟨arr,rfl,hc⟩
 |(i,v)::parts,(j,u)::vparts,kI,r,arr,h,hc,hp=>by
  obtain ⟨⟨Be,hv⟩,Bf⟩:=hp;have Be:i=j:=Be;subst Be;simp only [yI] at h;cases QR:place i with
  |none=>simp [QR] at h
  |some p=>
   obtain ⟨off,size⟩:=p;simp only [QR] at h;cases hb:((v.cells.length.beq size&&(off+v.cells.length).ble kI.length)&&v.ok) with
   |false=>simp [hb] at h
   |true=>
    rw [hb] at h;simp only [cond_true] at h;simp only [Bool.and_eq_true] at hb;have h1:=aO hb.1.1;have h2:=gB hb.1.2;obtain ⟨vs,hu,gL⟩:=iG hb.2 hv;have hlen:=gL.length;have UZ:=hc.length;simp only [Array.length_toList] at UZ;have YA:u.cells.size=vs.length:=by rw [←Array.length_toList,hu]
    have pR:(u.cells.zipIdx.foldl (fun cs (p:Value×Nat)=>cs.setIfInBounds (off+p.2) p.1) arr).toList=arr.toList.take off++vs++arr.toList.drop (off+vs.length):=by
     have:=qE off vs 0 arr (by omega);rw [←Array.foldl_toList,Array.toList_zipIdx,hu];simpa using this
    have Bc:aK (CR g m S w) (kI.take off++v.cells++kI.drop (off+v.cells.length)) (u.cells.zipIdx.foldl (fun cs (p:Value×Nat)=>cs.setIfInBounds (off+p.2) p.1) arr).toList:=by
     rw [pR,←hlen];exact ((hc.take off).append gL).append (hc.drop _)
    obtain ⟨aA,e1,e2⟩:=vY place h Bc Bf;refine ⟨aA,?_,e2⟩;simp only [Instr.fill,QR];rw [if_neg (by simp;omega)];exact e1
 |[],_::_,_,_,_,_,_,hp=>hp.elim
 |_::_,[],_,_,_,_,_,hp=>hp.elim
theorem Dq {α:Type}{xs:List α}{l h:Int}(h0:0≤l)(h1:l≤h)(h2:h≤(xs.length:Int)):(cut xs l h).length=h.toNat - l.toNat:=by
 unfold cut;simp;omega
theorem Fc {α:Type}{xs:List α}{l h:Int}{i:Nat}(hi:i<(cut xs l h).length)(hj:l.toNat+i<xs.length):(cut xs l h)[i]=xs[l.toNat+i]:=by
 have hk:i<h.toNat - l.toNat:=by have:=hi;simp [cut] at this;omega
 have e:(cut xs l h)[i]? =xs[l.toNat+i]? :=by
  unfold cut;rw [List.getElem?_take,if_pos hk,List.getElem?_drop]
 rw [List.getElem?_eq_getElem hi,List.getElem?_eq_getElem hj] at e;exact Option.some.inj e
theorem iH {T el:TypeId}{k:Nat}(hu:P.underlying T=some (.slice el))(hs:cc P el=some k){a:Option Addr}{len cap:Nat}{lv hv:Option Value}{l h:Int}(hl:(lv=none∧l=0)∨ ∃k,lv=some (.int k l))(hh:(hv=none∧h=len)∨ ∃k,hv=some (.int k h))(h0:0≤l)(h1:l≤h)(h2:h≤(len:Int))(h3:len≤cap):
 (Instr.sliceAt T (.slice a len cap) lv hv none).run P w= .ok (.slice (if cap=l.toNat then a else a.map (·.add (l.toNat*k))) (h.toNat - l.toNat) (cap - l.toNat)) w:=by
 simp [Instr.sliceAt,Instr.slice,run_underlying hu,vX hl hh h0 h1 h2 h3,bw hs]
theorem zt {T:TypeId}{x:au}{lo hi:Option au}{e:bm}{xa:Value}{lv hv:Option Value}(hm:jk g m S w)(h:rL P m T x lo hi=some e)(hc:aS e.cond)(hx:VR g m S w x xa)(HP:OR g m S w lo lv)(HQ:OR g m S w hi hv):aG P g m S w (Instr.sliceAt T xa lv hv none) e:=by
 unfold rL at h;split at h;rename_i xs hu;split at h;rename_i l h' hl hh;obtain ⟨he,lZ⟩:=bU h;rw [lZ] at hc;obtain ⟨⟨h0,h1,h2⟩,_⟩:=hc;have Ln:=jZ (g:=g) (m:=m) (S:=S) (w:=w) hx;subst Ln;have dB:=qD hl HP;have HS:=sO hh HQ;refine aG.mk he (r:= .string ⟨(cut xs l h').toArray⟩) ?_ rfl;have cY:(⟨xs.toArray⟩:ByteArray).size=List.length xs:=by simp [ByteArray.size]
 have hb:=vX (P:=P) (w:=w) (b:=false) (len:=(⟨xs.toArray⟩:ByteArray).size) (cap:=(⟨xs.toArray⟩:ByteArray).size) dB (by rw [cY];exact HS) h0 h1 (by rw [cY];exact h2) (Nat.le_refl _);simp only [Instr.sliceAt,Instr.slice,Sem.run_bind,run_underlying hu,Result.andThen_ok,hb];simp [hb,cut,ByteArray.ext_iff];cases h;rename_i el hu;split at h;rename_i l h' hl hh;cases hb:(cc P el).isSome with
 |false=>simp [hb] at h
 |true=>
  rw [hb] at h;simp only [cond_true] at h;obtain ⟨sz,hs⟩:=Option.isSome_iff_exists.1 hb;obtain ⟨he,lZ⟩:=bU h;rw [lZ] at hc;obtain ⟨⟨h0,h1,h2⟩,_⟩:=hc;obtain ⟨a,e1⟩:=hx;subst e1;have dB:=qD hl HP;have HS:=sO hh HQ;have tP:l=0:=Int.le_antisymm (Int.le_trans h1 h2) h0;have Rv:h'=0:=Int.le_antisymm h2 (Int.le_trans h0 h1);subst tP;subst Rv;exact aG.mk he (iH (cap:=0) hu hs dB HS h0 h1 (Int.le_refl _) (Nat.le_refl _)) ⟨a,by simp⟩
 cases h;rename_i el t xs hu;split at h;rename_i l h' hl hh;cases hb:(cc P el==some t.size) with
 |false=>simp [hb] at h
 |true=>
  rw [hb] at h;simp only [cond_true] at h;have hs:cc P el=some t.size:=by simpa using hb
  obtain ⟨he,lZ⟩:=bU h;rw [lZ] at hc;obtain ⟨⟨h0,h1,h2⟩,_⟩:=hc;obtain ⟨a,cap,e1,hcap,lr⟩:=hx;have Ln:xa= .slice a (List.length xs) cap:=by simpa using e1
  subst Ln;have dB:=qD hl HP;have HS:=sO hh HQ;have hlen:=Dq (xs:=xs) h0 h1 h2;refine aG.mk he (iH hu hs dB HS h0 h1 h2 hcap) ?_;refine ⟨if cap=l.toNat then a else a.map (·.add (l.toNat*t.size)),cap - l.toNat,by rw [hlen],by rw [hlen];omega,fun i hi=> ?_⟩;have vw:i<h'.toNat - l.toNat:=by rw [hlen] at hi;exact hi
  have hj:l.toNat+i<List.length xs:=by omega
  obtain ⟨ad,es,ea,hS,aM,bf⟩:=lr (l.toNat+i) hj;subst ea;refine ⟨ad.add (l.toNat*t.size),es,by rw [if_neg (by omega)];rfl,by rw [dM];exact hS,fun j u hu=> ?_,?_⟩;rw [add_add,←Nat.add_assoc,←Nat.add_mul];exact aM j u hu;rw [Fc hi hj];exact bf
 cases h;rename_i el c hu;split at h;rename_i t xs l0;split at h;rename_i l h' hl hh;cases hb:(cc P el==some t.size) with
 |false=>simp [hb] at h
 |true=>
  rw [hb] at h;simp only [cond_true] at h;have hs:cc P el=some t.size:=by simpa using hb
  obtain ⟨he,lZ⟩:=bU h;rw [lZ] at hc;obtain ⟨⟨h0,h1,h2⟩,_⟩:=hc;have dB:=qD hl HP;have HS:=sO hh HQ;have aP:=hx.2.2 t xs (.inl l0);unfold gA at aP;cases hg:g c with
  |none=>
   rw [hg] at aP;obtain ⟨a,ha⟩:=aP;subst ha;have bK:=hm c _ l0;unfold gU at bK;have gb:g.f c []=none:=hg;rw [gb] at bK;have:xs=[]:=bK;subst this;have tP:l=0:=by simp at h2;omega
   have Rv:h'=0:=by simp at h2;omega
   subst tP;subst Rv;refine aG.mk he (iH (cap:=0) hu hs dB HS h0 h1 h2 (Nat.le_refl _)) ⟨hx.1,rfl,fun t' bF nN=> ?_⟩;exact ⟨by simp,.inl ⟨by simp,fun _=>hg,a,by simp⟩⟩
  |some b=>
   rw [hg] at aP;obtain ⟨cap,arr,e1,hcap,iT,gC,zu⟩:=aP;subst e1;refine aG.mk he (iH hu hs dB HS h0 h1 h2 hcap) ⟨hx.1,rfl,fun t' bF nN=> ?_⟩;have nN:=cz.toSeq l0 nN;rw [l0] at nN;injection nN with nN;injection nN with ht sP;subst ht;have sP:=eq_of_heq sP;subst sP;refine ⟨by omega,?_⟩;by_cases ma:cap=l.toNat;by_cases tP:l.toNat=0;right;refine ⟨b,0,arr,hg,?_,by omega,iT,by rw [tP];simp,by omega⟩;rw [if_pos ma,tP,Nat.zero_mul]
   congr 1<;>omega
   left;refine ⟨by omega,fun hz=>absurd hz tP,some ⟨b,0,none⟩,?_⟩;rw [if_pos ma]
   congr 1<;>omega
   right;refine ⟨b,cap - l.toNat,arr,hg,?_,by omega,iT,by rw [show l.toNat+(cap - l.toNat)=cap from by omega];exact gC,by omega⟩;rw [if_neg ma];simp [aX]
 cases h;cases h;rename_i el c off len hu;split at h;rename_i t xs l0;split at h;rename_i l h' hl hh;cases hb:(cc P el==some t.size) with
 |false=>simp [hb] at h
 |true=>
  rw [hb] at h;simp only [cond_true] at h;have hs:cc P el=some t.size:=by simpa using hb
  obtain ⟨he,lZ⟩:=bU h;rw [lZ] at hc;obtain ⟨⟨h0,h1,h2⟩,_⟩:=hc;have dB:=qD hl HP;have HS:=sO hh HQ;obtain ⟨hle,Gk⟩:=hx.2.2 t xs (.inl l0);rcases Gk with ⟨pG,U0,a,ha⟩|⟨b,cap,arr,hg,e1,hcap,iT,gC,zu⟩
  subst ha;subst pG;have tP:l=0:=by omega
  have Rv:h'=0:=by omega
  subst tP;subst Rv;refine aG.mk he (iH (cap:=0) hu hs dB HS h0 h1 h2 (Nat.le_refl _)) ⟨hx.1,rfl,fun t' bF nN=> ?_⟩;have nN:=cz.toSeq l0 nN;rw [l0] at nN;injection nN with nN;injection nN with ht sP;subst ht;have sP:=eq_of_heq sP;subst sP;exact ⟨by simp;omega,.inl ⟨by simp,fun hz=>U0 (by simpa using hz),a,by simp⟩⟩;subst e1;refine aG.mk he (iH hu hs dB HS h0 h1 h2 hcap) ⟨hx.1,rfl,fun t' bF nN=> ?_⟩;have nN:=cz.toSeq l0 nN;rw [l0] at nN;injection nN with nN;injection nN with ht sP;subst ht;have sP:=eq_of_heq sP;subst sP;refine ⟨by omega,?_⟩;by_cases ma:cap=l.toNat;by_cases tP:off+l.toNat=0;right;have U1:off=0:=by omega
  have KY:l.toNat=0:=by omega
  refine ⟨b,0,arr,hg,?_,by omega,iT,by rw [tP];simp,by omega⟩;rw [if_pos ma,U1,KY];simp only [Nat.zero_mul,Nat.add_zero]
  congr 1<;>omega
  left;refine ⟨by omega,fun hz=>absurd hz tP,some ⟨b,off*t.size,none⟩,?_⟩;rw [if_pos ma]
  congr 1<;>omega
  right;refine ⟨b,cap - l.toNat,arr,hg,?_,by omega,iT,by rw [show off+l.toNat+(cap - l.toNat)=off+cap from by omega];exact gC,by omega⟩;rw [if_neg ma];simp [aX,Nat.add_mul]
 cases h;cases h;cases h
end
end Go.Ide
namespace Go.Ide
section
variable {P:Program} {g:GM} {m:Mem} {S:Nat→Prop} {w:World}
theorem vZ: ∀{fs:List Field} {pl:List (Nat×Nat)},qA P fs=some pl→fs.mapM (fun f=>(P.info? f.type).map fun i=>(f.offset,i.size))=some pl
 |[],pl,h=>by simp only [qA] at h;injection h with h;subst h;rfl
 |f::fs,pl,h=>by
  simp only [qA,cc] at h;cases hi:P.info? f.type with
  |none=>simp [hi] at h
  |some i=>
   simp only [hi,Option.map_some] at h;cases hr:qA P fs with
   |none=>simp [hr] at h
   |some l=>
    simp only [hr] at h;injection h with h;subst h;simp [List.mapM_cons,hi,vZ hr]
theorem kK (z:Value)(hz:(oo z).ok=true):aK (CR g m S w) (oo z).cells z.cells.toList:=by
 obtain ⟨vs,e,h⟩:=iG hz (sM (g:=g) (m:=m) (S:=S) (w:=w) z);rw [e];exact h
theorem zw {T:TypeId}{parts:List (Nat×au)}{vparts:Array (Nat×Value)}{e:bm}(h:Dg P T parts=some e)(hp:aK (fun (p:Nat×au) (q:Nat×Value)=>p.1=q.1∧VR g m S w p.2 q.2) parts vparts.toList):aG P g m S w (Instr.build T vparts) e:=by
 unfold Dg at h;split at h;rename_i i fs hi hu;split at h;rename_i z pl hz QR;cases jz:(oo z).ok with
 |false=>simp [jz] at h
 |true=>
  simp only [jz,cond_true] at h;split at h;rename_i cs hf;obtain ⟨aA,h1,h2⟩:=vY (fun j=>pl[j]?) hf (kK (g:=g) (m:=m) (S:=S) (w:=w) z jz) hp;refine aG.mk (aC h) (run_build w T vparts aA ?_) ⟨aA.toList,by simp,h2⟩;unfold Program.built;simp only [hi,hu,hz,vZ QR];simpa using h1;cases h
 cases h;cases h
theorem Gl {op:UnOp}{x:au}{e:bm}{xa:Value}(h:Ua op x=some e)(hx:VR g m S w x xa):aG P g m S w (Op.unary op xa) e:=by
 unfold Ua at h;split at h;rename_i b;have:=mG (g:=g) (m:=m) (S:=S) (w:=w) hx;subst this;exact aG.mk (aC h) (r:= .bool (!b)) (by simp [Op.unary]) rfl;rename_i k n;have:=dx (g:=g) (m:=m) (S:=S) (w:=w) hx;subst this;exact aG.mk (aC h) (r:= .int k (k.wrap (0 - n))) (by simp [Op.unary,Op.intArith]) rfl;cases h
theorem wa {T U:TypeId}{x:au}{e:bm}{xa:Value}(h:vP P T U x=some e)(hx:VR g m S w x xa):aG P g m S w (convert T U xa) e:=by
 unfold vP at h;split at h;rename_i k1 k k2 n h1 h2;have:=dx (g:=g) (m:=m) (S:=S) (w:=w) hx;subst this;exact aG.mk (aC h) (r:= .int k (k.wrap n)) (by simp [convert,run_underlying h1,run_underlying h2,Conv.intToInt]) rfl;rename_i s h1 h2;have:=jZ (g:=g) (m:=m) (S:=S) (w:=w) hx;subst this;exact aG.mk (aC h) (r:= .string ⟨List.toArray s⟩) (by simp [convert,run_underlying h1,run_underlying h2]) rfl;cases h
theorem wb {x:au}{i:Nat}{e:bm}{xa:Value}(h:sK x i=some e)(hx:VR g m S w x xa):aG P g m S w (Instr.extract xa i) e:=by
 unfold sK at h;split at h;rename_i ts;split at h;rename_i ag cs ht;split at h;rename_i v hv;obtain ⟨vs,e1,aP⟩:=hx;subst e1;obtain ⟨u,hu,HU⟩:=aP.get i _ ht;refine aG.mk (aC h) (r:=u) (by simp [Instr.extract,hu]) ?_;unfold M3 at hv;unfold CV at HU;split at hv;injection hv with hv;subst hv;exact HU;injection hv with hv;subst hv;exact HU;cases hv;cases h;cases h;cases h
theorem Dr {x y:au}{e:bm}{xa ya:Value}{Ts:Array TypeId}{T:TypeId}(h:N1 x y=some e)(hx:VR g m S w x xa)(hy:VR g m S w y ya):aG P g m S w (Builtin.min_ Ts T #[xa,ya]) e:=by
 unfold N1 at h;split at h;rename_i k a k' b;split at h;rename_i hk;subst hk;have h1:=dx (g:=g) (m:=m) (S:=S) (w:=w) hx;have h2:=dx (g:=g) (m:=m) (S:=S) (w:=w) hy;subst h1;subst h2;exact aG.mk (aC h) (r:= .int k (if b<a then b else a)) (by simp [Builtin.min_,Builtin.min2]) rfl;cases h;cases h
theorem Dt {x y:au}{e:bm}{xa ya:Value}{Ts:Array TypeId}{T:TypeId}(h:N2 x y=some e)(hx:VR g m S w x xa)(hy:VR g m S w y ya):aG P g m S w (Builtin.max_ Ts T #[xa,ya]) e:=by
 unfold N2 at h;split at h;rename_i k a k' b;split at h;rename_i hk;subst hk;have h1:=dx (g:=g) (m:=m) (S:=S) (w:=w) hx;have h2:=dx (g:=g) (m:=m) (S:=S) (w:=w) hy;subst h1;subst h2;exact aG.mk (aC h) (r:= .int k (if b>a then b else a)) (by simp [Builtin.max_,Builtin.max2]) rfl;cases h;cases h
end
section
variable {cx:Cx} {g:GM} {st:St} {a:Act} {w:World}
def nk (cx:Cx)(st:St)(a:Act)(e:bm)(val:Value)(w':World):Prop:=
 ∃g',bD cx g' (st.gZ (e.jU++e.new++st.mem) (st.nx+e.new.length)) a w'∧VR g' (e.jU++e.new++st.mem) (cx.safe g' (e.jU++e.new++st.mem) w') w' e.val val
def gd (cx:Cx)(st:St)(a:Act)(w:World)(s:Sem Value)(e:bm):Prop:=
 ∃val w',s.run cx.P w= .ok val w'∧nk cx st a e val w'
theorem aG.runs {s:Sem Value}{e:bm}(h:bD cx g st a w)(hg:aG cx.P g st.mem (cx.safe g st.mem w) w s e):gd cx st a w s e:=by
 obtain ⟨h1,h2,r,h3,h4⟩:=hg;refine ⟨r,w,h3,g,?_,?_⟩;rw [h1,h2];exact h;rw [h1,h2];exact h4
theorem nk.new {e:bm}{ch:Chunk}{arr:Array Value}{val:Value}{w':World}(h:bD cx g st a w)(hw:dK st.mem e.new)(he:e.new=[(st.nx,ch)]∧e.jU=[])(hk:aH [] w w')(hb:cg w' w.heap.size arr)(hc: ∀g':GM,(∀k,lk k st.mem≠none→g'.f k=g.f k)→g'.f st.nx=ot (some w.heap.size)→ ∀S',(∀b,cx.safe g st.mem w b→S' b)→gU g' ((st.nx,ch)::st.mem) S' w' (ot (some w.heap.size)) ch)(hv: ∀g':GM,g' st.nx=some w.heap.size→ ∀S',VR g' ((st.nx,ch)::st.mem) S' w' e.val val):nk cx st a e val w':=by
 obtain ⟨g',iF,hs,_⟩:=h.new (hw (st.nx,ch) (by rw [he.1];simp)) hk hb hc;refine ⟨g',?_,?_⟩;rw [he.1,he.2];exact hs;rw [he.1,he.2];exact hv g' (by show g'.f st.nx []=_;rw [iF];rfl) _
theorem Gm {ch:Chunk}{g':GM}{S':Nat→Prop}{w':World}(jW:lk st.nx st.mem=none)(hk:aH [] w w')(hg: ∀k,lk k st.mem≠none→g'.f k=g.f k)(hS: ∀b,cx.safe g st.mem w b→S' b):
 gq g g' st.mem ((st.nx,ch)::st.mem) (cx.safe g st.mem w) S' w w':=by
 have cX: ∀c,lk c st.mem≠none→lk c ((st.nx,ch)::st.mem)=lk c st.mem:=fun c hc=>by
  rw [aw,if_neg (fun e=>hc (by rw [e];exact jW))]
 refine ⟨⟨fun b hb=>⟨hS b hb,hk.block b hb.1 (by simp)⟩,fun c hc=>⟨by rw [cX c hc];exact hc,congrFun (hg c hc) []⟩,fun c t xs hc hl=>⟨xs,by unfold cz at hl⊢;rw [←cX c hc];exact hl,rfl⟩,fun c t xs b arr hc hl rA hb=>⟨arr,hb.ar (hk.block b hb.lt (by simp)),rfl⟩⟩,
  hg,fun c t xs hc hl=>⟨xs,by rw [←cX c hc];exact hl,bu.refl _ _,fun i o b arr rA hb=>⟨arr,hb.ar (hk.block b hb.lt (by simp)),rfl⟩⟩⟩
theorem Du {v:au}{e:bm}{va:Value}{T:TypeId}(h:bD cx g st a w)(hw:dK st.mem e.new)(he:Li st.nx v=some e)(hv:VR g st.mem (cx.safe g st.mem w) w v va):gd cx st a w (Instr.box T va) e:=by
 have key: ∀cs:List aq,v.ok=true→v.cells=cs→e=⟨.one (.ptr st.nx 0),[(st.nx,.box cs)],[],[]⟩→gd cx st a w (Instr.box T va) e:=by
  intro cs jz hcs YB;obtain ⟨vs,gL,aP⟩:=iG jz hv;subst YB;refine ⟨.pointer (some ⟨w.heap.size,0,none⟩),w.alloc (.cells va.cells T),by simp [Instr.box,newVar,newRow],?_⟩;refine nk.new h hw ⟨rfl,rfl⟩ (aH.alloc _ _ _) (cg.new w _ T) (fun g' hg iF S' hS=> ?_) (fun g' iF S'=>⟨by simp [aw],w.heap.size,iF,rfl⟩);refine ⟨w.heap.size,va.cells,rfl,cg.new w _ T,?_⟩;rw [gL,←hcs];exact aP.mono fun _ _=>CR.stays (Gm (hw (st.nx,.box cs) (by simp)) (aH.alloc _ _ _) hg hS)
 cases v with
 |one c=>
  simp only [Li] at he;cases hc:c.ok with
  |false=>simp [hc] at he
  |true=>
   simp only [hc,cond_true] at he;injection he with he;exact key [c] hc rfl he.symm
 |agg cs=>
  simp only [Li] at he;cases hc:cs.all aq.ok with
  |false=>simp [hc] at he
  |true=>
   simp only [hc,cond_true] at he;injection he with he;exact key cs hc rfl he.symm
 |zq=>cases he
 |A9=>cases he
 |cV=>cases he
theorem zx {T:TypeId}{e:bm}(h:bD cx g st a w)(hw:dK st.mem e.new)(he:Df cx.P st.nx T=some e):gd cx st a w (Instr.alloc T true (.tuple #[])) e:=by
 unfold Df at he;split at he;rename_i i hi;split at he;rename_i z hz;cases jz:(oo z).ok with
 |false=>simp [jz] at he
 |true=>
  simp only [jz,cond_true] at he;injection he with he;subst he;refine ⟨.pointer (some ⟨w.heap.size,0,none⟩),w.alloc (.cells z.cells T),by simp [Instr.alloc,zeroValue,typeInfo,hi,hz,newVar,newRow],?_⟩;refine nk.new h hw ⟨rfl,rfl⟩ (aH.alloc _ _ _) (cg.new w _ T) (fun g' hg iF S' hS=> ?_) (fun g' iF S'=>⟨by simp [aw],w.heap.size,iF,rfl⟩);exact ⟨w.heap.size,z.cells,rfl,cg.new w _ T,kK z jz⟩
 cases he;cases he
def HV (nx:Nat)(t:Ty)(v:au):Option bm:=
 bif v.ok&&t.top then (match impl [] t v.cells with
  |some (x,[])=>some ⟨.one (.bT nx 0 t.size 0),[(nx,.seq t [x])],[],[]⟩
  |_=>none) else none
theorem Bg {v:au}{t:Ty}{e:bm}{va:Value}{T:TypeId}(h:bD cx g st a w)(hw:dK st.mem e.new)(he:HV st.nx t v=some e)(hv:VR g st.mem (cx.safe g st.mem w) w v va):gd cx st a w (Instr.box T va) e:=by
 unfold HV at he;cases jz:(v.ok&&t.top) with
 |false=>rw [jz] at he;cases he
 |true=>
  rw [jz] at he;simp only [cond_true] at he;simp only [Bool.and_eq_true] at jz;split at he;rename_i x hx;injection he with he;subst he;obtain ⟨vs,gL,aP⟩:=iG jz.1 hv;refine ⟨.pointer (some ⟨w.heap.size,0,none⟩),w.alloc (.cells va.cells T),by simp [Instr.box,newVar,newRow],?_⟩;refine nk.new h hw ⟨rfl,rfl⟩ (aH.alloc _ _ _) (cg.new w _ T) (fun g' hg iF S' hS=> ?_) (fun g' iF S'=>⟨by simp [aw],w.heap.size,iF,by simp⟩);refine ⟨va.cells,cg.new w _ T,dw.kH jz.2 fun i hi=> ?_⟩;have U2:i=0:=by simp at hi;exact hi
  subst U2;obtain ⟨v1,v2,e1,r1,r2⟩:=hH (S2:=cx.safe g st.mem w) (fun _ h=>h) gr.nil t hx aP;have:v2=[]:=by cases v2 with|nil=>rfl|cons=>exact r2.elim
  subst this;rw [List.append_nil] at e1;refine ⟨vs,fun j v hv=> ?_,by rw [e1];exact aR.ar (fun b hb=>⟨hS b hb,RowKit.Below.heap_alloc w _ b hb.1⟩) t v1 x r1⟩;rw [Nat.zero_mul,Nat.zero_add,←Array.getElem?_toList,gL];exact hv;cases he
def zy (P:Program)(nx:Nat)(T:TypeId)(t:Ty):Option bm:=
 match P.info? T with
 |some i=>(match i.zero with
  |some z=>bif (oo z).ok&&t.top then (match impl [] t (oo z).cells with
   |some (x,[])=>some ⟨.one (.bT nx 0 t.size 0),[(nx,.seq t [x])],[],[]⟩
   |_=>none) else none
  |none=>none)
 |none=>none
theorem xV {T:TypeId}{t:Ty}{e:bm}(h:bD cx g st a w)(hw:dK st.mem e.new)(he:zy cx.P st.nx T t=some e):gd cx st a w (Instr.alloc T true (.tuple #[])) e:=by
 unfold zy at he;split at he;rename_i i hi;split at he;rename_i z hz;cases jz:((oo z).ok&&t.top) with
 |false=>rw [jz] at he;cases he
 |true=>
  rw [jz] at he;simp only [cond_true] at he;simp only [Bool.and_eq_true] at jz;split at he;rename_i x hx;injection he with he;subst he;refine ⟨.pointer (some ⟨w.heap.size,0,none⟩),w.alloc (.cells z.cells T),by simp [Instr.alloc,zeroValue,typeInfo,hi,hz,newVar,newRow],?_⟩;refine nk.new h hw ⟨rfl,rfl⟩ (aH.alloc _ _ _) (cg.new w _ T) (fun g' hg iF S' hS=> ?_) (fun g' iF S'=>⟨by simp [aw],w.heap.size,iF,by simp⟩);refine ⟨z.cells,cg.new w _ T,dw.kH jz.2 fun i hi=> ?_⟩;have U2:i=0:=by simp at hi;exact hi
  subst U2;obtain ⟨v1,v2,e1,r1,r2⟩:=hH (g:=⟨fun _ _=>none⟩) (m:=[]) (S:=S') (S2:=S') (w:=w.alloc (.cells z.cells T)) (fun _ h=>h) gr.nil t hx (kK z jz.1);have:v2=[]:=by cases v2 with|nil=>rfl|cons=>exact r2.elim
  subst this;rw [List.append_nil] at e1;refine ⟨z.cells.toList,fun j v hv=> ?_,by rw [e1];exact r1⟩;rw [Nat.zero_mul,Nat.zero_add,←Array.getElem?_toList];exact hv;cases he
 cases he;cases he
end
end Go.Ide
namespace Go.Ide
theorem Ty.size_pos: ∀(t:Ty),0<t.size
 | .int _=>Nat.one_pos
 | .cD _=>Nat.one_pos
 | .bool=>Nat.one_pos
 | .str=>Nat.one_pos
 | .sl _=>Nat.one_pos
 | .bx _=>Nat.one_pos
 | .cl _ _=>Nat.one_pos
 | .own _=>Nat.one_pos
 | .pair a _=>Nat.lt_of_lt_of_le (Ty.size_pos a) (Nat.le_add_right _ _)
 | .st t=>Ty.size_pos t
theorem zz {sz:Nat}{Q:Nat→List Value→Prop}: ∀(n:Nat),(∀i,i<n→ ∃es,es.length=sz∧Q i es)→
 ∃l:List Value,l.length=n*sz∧ ∀i,i<n→ ∃es,es.length=sz∧Q i es∧ ∀j,j<sz→l[i*sz+j]? =es[j]?
 |0,_=>⟨[],by simp,fun i hi=>by omega⟩
 |n+1,h=>by
  obtain ⟨l,hl,hq⟩:=zz n fun i hi=>h i (by omega);obtain ⟨es,he,yJ⟩:=h n (by omega);refine ⟨l++es,by simp [hl,he,Nat.add_mul],fun i hi=> ?_⟩;by_cases zA:i=n;subst zA;refine ⟨es,he,yJ,fun j hj=> ?_⟩;rw [List.getElem?_append_right (by omega)]
  congr 1
  omega;obtain ⟨es',h1,h2,h3⟩:=hq i (by omega);refine ⟨es',h1,h2,fun j hj=> ?_⟩;rw [List.getElem?_append_left];exact h3 j hj;rw [hl];have:(i+1)*sz≤n*sz:=Nat.mul_le_mul_right _ (by omega);rw [Nat.add_mul] at this;omega
section
variable {P:Program} {g:GM} {m:Mem} {S S2:Nat→Prop} {w:World}
def dN (S:Nat→Prop)(w:World)(t:Ty)(xs:List t.D)(l:List Value):Prop:=
 ∀i (h:i<xs.length),∃es,(∀j,j<t.size→l[i*t.size+j]? =es[j]?)∧aR S w t es xs[i]
theorem dN.toR {t:Ty}{xs:List t.D}{arr:Array Value}(h:dN S w t xs arr.toList):Ba S w t xs arr:=fun i hi=>by
 obtain ⟨es,h1,h2⟩:=h i hi;refine ⟨es,fun j v hv=> ?_,h2⟩;have hj:j<t.size:=by rw [←aR.len t es _ h2];exact (List.getElem?_eq_some_iff.1 hv).1
 rw [←Array.getElem?_toList,h1 j hj];exact hv
theorem Ba.toL {t:Ty}{xs:List t.D}{arr:Array Value}(h:Ba S w t xs arr):dN S w t xs arr.toList:=fun i hi=>by
 obtain ⟨es,h1,h2⟩:=h i hi;refine ⟨es,fun j hj=> ?_,h2⟩;have Fe:j<es.length:=by rw [aR.len t es _ h2];exact hj
 rw [Array.getElem?_toList,h1 j es[j] (List.getElem?_eq_getElem Fe)];rw [List.getElem?_eq_getElem Fe]
theorem dN.app {t:Ty}{xs ys:List t.D}{l1 l2 rest:List Value}(h1:dN S w t xs l1)(hl:l1.length=xs.length*t.size)(h2:dN S w t ys l2)(A4:l2.length=ys.length*t.size):
 dN S w t (xs++ys) (l1++l2++rest):=fun i hi=>by
 by_cases hx:i<xs.length;obtain ⟨es,k1,k2⟩:=h1 i hx;refine ⟨es,fun j hj=> ?_,by rw [List.getElem_append_left hx];exact k2⟩;have:(i+1)*t.size≤xs.length*t.size:=Nat.mul_le_mul_right _ (by omega);rw [Nat.add_mul] at this;rw [List.append_assoc,List.getElem?_append_left (by omega)];exact k1 j hj;have vw:i - xs.length<ys.length:=by rw [List.length_append] at hi;omega
 obtain ⟨es,k1,k2⟩:=h2 (i - xs.length) vw;refine ⟨es,fun j hj=> ?_,by rw [List.getElem_append_right (by omega)];exact k2⟩;have hmul:i*t.size=(i - xs.length)*t.size+xs.length*t.size:=by rw [←Nat.add_mul];congr 1;omega
 have:(i - xs.length+1)*t.size≤ys.length*t.size:=Nat.mul_le_mul_right _ (by omega);rw [Nat.add_mul] at this;rw [List.append_assoc,List.getElem?_append_right (by omega),List.getElem?_append_left (by omega)];rw [←k1 j hj]
 congr 1
 omega
theorem dN.take {t:Ty}{xs:List t.D}{l:List Value}{n:Nat}(h:dN S w t xs l)(hn:n≤xs.length):dN S w t (xs.take n) (l.take (n*t.size)):=fun i hi=>by
 have vw:i<n:=by rw [List.length_take] at hi;omega
 obtain ⟨es,k1,k2⟩:=h i (by omega);refine ⟨es,fun j hj=> ?_,by rw [List.getElem_take];exact k2⟩;have:(i+1)*t.size≤n*t.size:=Nat.mul_le_mul_right _ (by omega);rw [Nat.add_mul] at this;rw [List.getElem?_take,if_pos (by omega)];exact k1 j hj
theorem aR.zz {t:Ty}{xs:List t.D}{v:Value}(h:aR S w (.sl t) [v] xs):
 ∃a cap news,v= .slice a xs.length cap∧xs.length≤cap∧news.length=xs.length*t.size∧dN S w t xs news∧(∀u∈news,u.oneCell'=true)∧
  (xs=[]∨ ∃ad,a=some ad∧ ∀k u,news[k]? =some u→w.cell? (ad.add k)=some u):=by
 obtain ⟨a,cap,e,hc,lr⟩:=h;have e:v= .slice a (List.length xs) cap:=by simpa using e
 subst e;obtain ⟨l,hl,hq⟩:=Ide.zz (sz:=t.size) (Q:=fun i es=> ∃h:i<List.length xs,∃ad,a=some ad∧(∀j u,es[j]? =some u→w.cell? (ad.add (i*t.size+j))=some u)∧aR S w t es xs[i]) (List.length xs) fun i hi=>by
  obtain ⟨ad,es,ea,_,h1,h2⟩:=lr i hi;exact ⟨es,aR.len t es _ h2,hi,ad,ea,h1,h2⟩
 have cY:=t.size_pos;have aM: ∀k u,l[k]? =some u→ ∃ad,a=some ad∧w.cell? (ad.add k)=some u∧u.oneCell'=true:=by
  intro k u hk;have hlt:k<List.length xs*t.size:=by rw [←hl];exact (List.getElem?_eq_some_iff.1 hk).1
  have hi:k/t.size<List.length xs:=Nat.div_lt_of_lt_mul (by rw [Nat.mul_comm];exact hlt);obtain ⟨es,he,⟨_,ad,ea,h1,h2⟩,h3⟩:=hq (k/t.size) hi;have Gn:k%t.size<t.size:=Nat.mod_lt _ cY;have fR:k/t.size*t.size+k%t.size=k:=by rw [Nat.mul_comm];exact Nat.div_add_mod k t.size
  have h4:=h3 (k%t.size) Gn;rw [fR,hk] at h4;refine ⟨ad,ea,?_,?_⟩;have:=h1 (k%t.size) u h4.symm;rw [fR] at this;exact this;exact aR.mi t h2 u (List.mem_of_getElem? h4.symm)
 refine ⟨a,cap,l,rfl,hc,hl,fun i hi=> ?_,fun u hu=> ?_,?_⟩;obtain ⟨es,he,⟨_,ad,ea,h1,h2⟩,h3⟩:=hq i hi;exact ⟨es,h3,h2⟩;obtain ⟨k,hk,e⟩:=List.getElem_of_mem hu;obtain ⟨_,_,_,h⟩:=aM k u (by rw [List.getElem?_eq_getElem hk,e]);exact h;cases hx:xs with
 |nil=>exact .inl rfl
 |cons x r=>
  right;obtain ⟨ad,es,ea,_⟩:=lr 0 (by rw [hx];simp);refine ⟨ad,ea,fun k u hk=> ?_⟩;obtain ⟨De,Lo,h,_⟩:=aM k u hk;rw [ea] at Lo;injection Lo with Lo;subst Lo;exact h
theorem aH.setCell (w:World)(p:Addr)(v:Value):aH [p.block] w (w.setCell p v):=
 ⟨rfl,rfl,rfl,by simp,fun q _ hn=>RowKit.Below.heap_setCell w p v q (by simpa using hn),fun b arr hb=>by
  by_cases e:b=p.block;subst e;obtain ⟨T,lo,hi,hh,hf⟩:=hb;refine ⟨if p.spot.isSome then arr else arr.setIfInBounds p.off v,⟨T,lo,hi,by simp [World.setCell,Array.getElem?_modify,hh],?_⟩,by split<;>simp⟩;split<;>simpa using hf;exact ⟨arr,hb.ar (RowKit.Below.heap_setCell w p v b e),rfl⟩⟩
theorem dU {b:Nat}: ∀(vs:List Value) (o i:Nat) (w:World) (arr:Array Value),cg w b arr→o+i+vs.length≤arr.size→(∀v∈vs,v.oneCell'=true)→
 ∃w' aA,(storeCells ⟨b,o,none⟩ vs i).run P w= .ok () w'∧cg w' b aA∧aA.toList=arr.toList.take (o+i)++vs++arr.toList.drop (o+i+vs.length)∧aH [b] w w'∧w'.heap.size=w.heap.size
 |[],o,i,w,arr,hb,_,_=>⟨w,arr,rfl,hb,by simp,aH.refl _ _,rfl⟩
 |v::vs,o,i,w,arr,hb,hle,h1=>by
  simp only [List.length_cons] at hle;have hlt:o+i<arr.size:=by omega
  have hJ:(store ((⟨b,o,none⟩:Addr).add i) v).run P w= .ok () (w.setCell ⟨b,o+i,none⟩ v):=by
   rw [aX,run_store P w _ v _ (h1 v (by simp)),hb.cell,Array.getElem?_eq_getElem hlt];have hf:=hb.Rq hlt;simp [hf]
  have iE:cg (w.setCell ⟨b,o+i,none⟩ v) b (arr.setIfInBounds (o+i) v):=by
   obtain ⟨T,lo,hi,hh,hf⟩:=hb;exact ⟨T,lo,hi,by simp [World.setCell,Array.getElem?_modify,hh],by simpa using hf⟩
  obtain ⟨w',aA,e,k1,k2,k3,k4⟩:=dU vs o (i+1) (w.setCell ⟨b,o+i,none⟩ v) _ iE (by simp;omega) (fun x hx=>h1 x (by simp [hx]));refine ⟨w',aA,?_,k1,?_,aH.trans (aH.setCell w ⟨b,o+i,none⟩ v) k3,by rw [k4];simp⟩;simp only [storeCells,Sem.run_bind,hJ,Result.andThen_ok,e];have N5:o+i<arr.toList.length:=by simpa using hlt
  rw [k2];simp only [Array.toList_setIfInBounds,List.length_cons];rw [List.drop_set_of_lt (by omega),show o+(i+1)=o+i+1 from by omega,List.take_set,List.take_succ_eq_append_getElem N5,List.set_append_right _ _ (by simp;omega)];simp [show o+i+1+vs.length=o+i+(vs.length+1) from by omega,Nat.min_eq_left (Nat.le_of_lt hlt)]
theorem dy {size n:Nat}{a:Option Addr}{len cap:Nat}{cs:List Value}(hl:cs.length=n*size)(h:n=0∨ ∃ad,a=some ad∧ ∀j v,cs[j]? =some v→w.cell? (ad.add j)=some v):
 (Builtin.firstCells size n (.slice a len cap)).run P w= .ok cs.toArray w:=by
 rcases h with rfl|⟨ad,rfl,h⟩
 have:cs=[]:=List.eq_nil_of_length_eq_zero (by simpa using hl);subst this;cases a with
 |none=>simp [Builtin.firstCells]
 |some ad=>simp [Builtin.firstCells,loadCells,loadCellsFrom]
 exact run_firstCells_some w size n ad len cap cs hl h
theorem sQ {t ty e:TypeId}{i:TypeInfo}{z:Value}(ht:P.underlying t=some (.slice e))(hi:P.info? e=some i)(hz:i.zero=some z){base:Option Addr}{n cap:Nat}{olds:List Value}(HP:olds.length=n*i.size)(ho:n=0∨ ∃ad,base=some ad∧ ∀j v,olds[j]? =some v→w.cell? (ad.add j)=some v){a:Option Addr}{k c:Nat}{news:List Value}(hl:news.length=k*i.size)(hn:k=0∨ ∃ad,a=some ad∧ ∀j v,news[j]? =some v→w.cell? (ad.add j)=some v)(hg:cap<n+k)(hb:(n+k)*i.bytes≤140737488355328)(YC:n+k≤9223372036854775807):
 (Builtin.append_ #[t,t] ty #[.slice base n cap,.slice a k c]).run P w=
  .ok (.slice (some ⟨w.heap.size,0,none⟩) (n+k) (grownCap w (n+k) cap e))
   (w.drew.alloc (.cells (olds.toArray++news.toArray++Builtin.zeroCells z.cells (grownCap w (n+k) cap e - (n+k))) e)):=by
 have iU: ¬(n+k≤cap):=by omega
 have HW: ¬(9223372036854775807<((n:Int)+(k:Int))):=by omega
 have Xz:=growslice_fits (old:=cap) hg hb;have HX: ¬(281474976710656<Builtin.nextslicecap (n+k) cap*i.bytes):=by omega
 have hf:=dy (P:=P) (w:=w.drew) (len:=k) (cap:=c) hl hn;have Rw:=dy (P:=P) (w:=w.drew) (len:=n) (cap:=cap) HP ho;simp [Builtin.append_,run_underlying ht,sizeOf,typeInfo,zeroValue,hi,hz,Builtin.lenOf,iU,HW,HX,Question.forced,hf,Rw,newRow,grownCap]
 congr 2
 apply Array.ext';simp [List.append_assoc]
theorem sR {t ty e:TypeId}{i:TypeInfo}(ht:P.underlying t=some (.slice e))(hi:P.info? e=some i){b n cap:Nat}{arr:Array Value}(hb:cg w b arr){a:Option Addr}{k c:Nat}{news:List Value}(hl:news.length=k*i.size)(hn:k=0∨ ∃ad,a=some ad∧ ∀j v,news[j]? =some v→w.cell? (ad.add j)=some v)(h1: ∀u∈news,u.oneCell'=true)(iU:n+k≤cap)(gC:(n+k)*i.size≤arr.size):
 ∃w' aA,(Builtin.append_ #[t,t] ty #[.slice (some ⟨b,0,none⟩) n cap,.slice a k c]).run P w= .ok (.slice (some ⟨b,0,none⟩) (n+k) cap) w'∧cg w' b aA∧
  aA.toList=arr.toList.take (n*i.size)++news++arr.toList.drop (n*i.size+news.length)∧aH [b] w w'∧w'.heap.size=w.heap.size:=by
 have hf:=dy (P:=P) (w:=w) (len:=k) (cap:=c) hl hn;obtain ⟨w',aA,e,k1,k2,k3,k4⟩:=dU (P:=P) news (n*i.size) 0 w arr hb (by rw [hl,Nat.add_zero,←Nat.add_mul];exact gC) h1;refine ⟨w',aA,?_,k1,by simpa using k2,k3,k4⟩;have ha:(⟨b,0,none⟩:Addr).add (n*i.size)=⟨b,n*i.size,none⟩:=by rw [aX];simp
 simp [Builtin.append_,run_underlying ht,sizeOf,typeInfo,hi,Builtin.lenOf,iU,hf,ha,e]
theorem oU {t ty e:TypeId}{i:TypeInfo}(ht:P.underlying t=some (.slice e))(hi:P.info? e=some i){base a:Option Addr}{c:Nat}:
 (Builtin.append_ #[t,t] ty #[.slice base 0 0,.slice a 0 c]).run P w= .ok (.slice base 0 0) w:=by
 have hf:=dy (P:=P) (w:=w) (size:=i.size) (n:=0) (a:=a) (len:=0) (cap:=c) (cs:=[]) (by simp) (.inl rfl);cases base<;>simp [Builtin.append_,run_underlying ht,sizeOf,typeInfo,hi,Builtin.lenOf,hf,storeCells]
end
end Go.Ide
namespace Go.Ide
section
variable {P:Program} {g:GM} {m:Mem} {S S2:Nat→Prop} {w:World}
theorem dN.mi {t:Ty}{xs:List t.D}{l:List Value}(h:dN S w t xs l)(hl:l.length=xs.length*t.size): ∀u∈l,u.oneCell'=true:=by
 intro u hu;obtain ⟨k,hk,e⟩:=List.getElem_of_mem hu;have cY:=t.size_pos;have hi:k/t.size<xs.length:=Nat.div_lt_of_lt_mul (by rw [Nat.mul_comm];omega);obtain ⟨es,h1,h2⟩:=h (k/t.size) hi;have h3:=h1 (k%t.size) (Nat.mod_lt _ cY);have fR:k/t.size*t.size+k%t.size=k:=by rw [Nat.mul_comm];exact Nat.div_add_mod k t.size
 rw [fR,List.getElem?_eq_getElem hk,e] at h3;exact aR.mi t h2 u (List.mem_of_getElem? h3.symm)
structure Src (S:Nat→Prop)(w:World)(t:Ty)(ys:List t.D)(v:Value)(news:List Value):Prop where
 len:news.length=ys.length*t.size
 Gi:dN S w t ys news
 val: ∃a cap,v= .slice a ys.length cap∧(ys.length=0∨ ∃ad,a=some ad∧ ∀k u,news[k]? =some u→w.cell? (ad.add k)=some u)
theorem Ff {t:Ty}{xs:List t.D}{b off len:Nat}{arr:Array Value}{cap:Nat}(hb:cg w b arr)(he:Ba S w t xs arr)(hle:off+len≤xs.length)(gC:(off+len)*t.size≤arr.size):
 Src S w t ((xs.drop off).take len) (.slice (some ⟨b,off*t.size,none⟩) len cap) ((arr.toList.drop (off*t.size)).take (len*t.size)):=by
 have hlen:((xs.drop off).take len).length=len:=by simp;omega
 refine ⟨?_,fun i hi=> ?_,some ⟨b,off*t.size,none⟩,cap,by rw [hlen],.inr ⟨_,rfl,fun k u hu=> ?_⟩⟩;rw [hlen];simp;rw [Nat.add_mul] at gC;omega;have vw:i<len:=by rw [hlen] at hi;exact hi
 obtain ⟨es,k1,k2⟩:=he.toL (off+i) (by omega);refine ⟨es,fun j hj=> ?_,by simpa using k2⟩;have:(i+1)*t.size≤len*t.size:=Nat.mul_le_mul_right _ (by omega);rw [Nat.add_mul] at this;rw [List.getElem?_take,if_pos (by omega),List.getElem?_drop,←k1 j hj,Nat.add_mul,Nat.add_assoc];rw [aX,hb.cell];rw [List.getElem?_take] at hu;split at hu;simpa using hu;cases hu
theorem Src.nil {t:Ty}{a:Option Addr}{c:Nat}:Src S w t ([]:List t.D) (.slice a 0 c) []:=
 ⟨by simp,fun i hi=>by simp at hi,a,c,rfl,.inl rfl⟩
theorem ov: ∀(t:Ty),t.iS=true→t.er=t
 | .own _,h=>by cases h
 | .sl t,h=>congrArg Ty.sl (ov t h)
 | .bx t,h=>congrArg Ty.bx (ov t h)
 | .cl _ _,_=>rfl
 | .pair a b,h=>by
  simp only [Ty.iS,Bool.and_eq_true] at h;simp only [Ty.er,ov a h.1,ov b h.2]
 | .st t,h=>congrArg Ty.st (ov t h)
 | .int _,_=>rfl
 | .cD _,_=>rfl
 | .bool,_=>rfl
 | .str,_=>rfl
theorem qF: ∀(t:Ty),t.top=true→t.iS=true
 | .own _,h=>by cases h
 | .sl t,h=>h
 | .bx t,h=>h
 | .cl _ _,_=>rfl
 | .pair a b,h=>by
  simp only [Ty.top,Bool.and_eq_true] at h;simp only [Ty.iS,qF a h.1,qF b h.2,Bool.and_self]
 | .st t,h=>qF t h
 | .int _,_=>rfl
 | .cD _,_=>rfl
 | .bool,_=>rfl
 | .str,_=>rfl
theorem N6 (t:Ty){e:Ty}(h:t.top=true)(he:t.er=e):t=e:=by
 rw [←he,ov t (qF t h)]
theorem zB (hm:jk g m S w){t:Ty}{x:au}{ys:List t.D}{v:Value}(h:jA m (.sl t) x=some ys)(jz:lY m x=true)(ht:t.top=true)(hr:VR g m S w x v): ∃news,Src S w t ys v news:=by
 unfold jA at h;split at h;rename_i c hJ;split at h;rename_i y he;injection h with h;subst h;simp only [impl,b9] at he;split at he;rename_i z hz;injection he with he;injection he with he _;subst he;have hr:CR g m S w c v:=hr;cases c with
 |aB t' q=>
  simp only [cI] at hz;split at hz;rename_i e;subst e;injection hz with hz;subst hz;obtain ⟨a,cap,news,e1,h1,h2,h3,h4,h5⟩:=aR.zz (xs:=q) (t:=t) hr;refine ⟨news,h2,h3,a,cap,e1,?_⟩;rcases h5 with h5|h5
  left;rw [h5];rfl;exact .inr h5;cases hz
 |all c=>
  simp only [cI] at hz;split at hz;rename_i e' xs hl;split at hz;rename_i Lp;subst Lp;injection hz with hz;subst hz;have hx:=hr.2.2 e' xs (.inl hl);have bK:=hm c _ hl;unfold gA at hx;unfold gU at bK;have hx:match g.f c [] with|none=>_|some b=>_:=hx
  cases hg:g.f c [] with
  |none=>
   rw [hg] at hx bK;obtain ⟨a,ha⟩:=hx;have:xs=[]:=bK;subst this;subst ha;exact ⟨[],Src.nil⟩
  |some b=>
   rw [hg] at hx bK;obtain ⟨cap,arr,e1,k1,k2,k3,k4⟩:=hx;obtain ⟨aA,iE,lr⟩:=bK;have:=k2.eq iE;subst this;subst e1;have:=Ff (off:=0) (len:=xs.length) (cap:=cap) k2 (lr.Gi ht) (by omega) (by rw [Nat.zero_add];exact Nat.le_trans (Nat.mul_le_mul_right _ k1) k3);simp only [List.drop_zero,List.take_length,Nat.zero_mul] at this;exact ⟨_,this⟩
  rename_i cX;split at hz;rename_i Lp;simp only [lY,hl] at jz;exact absurd (N6 e' jz Lp) cX;cases hz;cases hz
 |row c i o=>cases jz
 |xS c i o j sz off=>simp [cI] at hz
 |ref c off len=>
  simp only [cI] at hz;split at hz;rename_i e' xs hl;split at hz;rename_i Lp;subst Lp;injection hz with hz;subst hz;obtain ⟨hle,hx⟩:=hr.2.2 e' xs (.inl hl);have bK:=hm c _ hl;unfold gU at bK;rcases hx with ⟨h0,_,a,ha⟩|⟨b,cap,arr,hg,e1,k1,k2,k3,k4⟩
  subst h0;subst ha;have:(xs.drop off).take 0=([]:List e'.D):=rfl;exact ⟨[],by simp [bA],fun i hi=>by simp [bA] at hi,a,0,by simp [bA],.inl (by simp [bA])⟩;have hg:g.f c []=some b:=hg;rw [hg] at bK;obtain ⟨aA,iE,lr⟩:=bK;have:=k2.eq iE;subst this;have lr:=lr.Gi ht;subst e1;exact ⟨_,Ff (cap:=cap) k2 lr hle (Nat.le_trans (Nat.mul_le_mul_right _ (by omega)) k3)⟩;cases hz;cases hz
 |az=>
  simp only [cI] at hz;injection hz with hz;subst hz;obtain ⟨a,ha⟩:=hr;subst ha;exact ⟨[],Src.nil⟩
 |ptr c off=>simp [cI] at hz
 |bT c i sz off=>simp [cI] at hz
 |ip t x off=>simp [cI] at hz
 |fn f=>simp [cI] at hz
 |lK f t' x=>simp [cI] at hz
 |cls f ks=>simp [cI] at hz
 |yF f t' x=>simp [cI] at hz
 |kG c=>simp [cI] at hz
 |cV=>simp [cI] at hz
 |bad=>simp [cI] at hz
 cases he;cases h;rename_i hJ;cases hJ;cases h
def U3 (g:GM)(m:Mem)(S:Nat→Prop)(w:World)(t:Ty)(xs:List t.D)(up:Mem)(v:Value):Prop:=
 (up=[]∨ ∃c ch,up=[(c,.gone)]∧lk c m=some ch∧ch≠ .gone)∧
 ((xs=[]∧ ∃a,v= .slice a 0 0)∨
  ∃c ch b cap arr,up=[(c,.gone)]∧lk c m=some ch∧ch≠ .gone∧g c=some b∧v= .slice (some ⟨b,0,none⟩) xs.length cap∧xs.length≤cap∧cg w b arr∧cap*t.size≤arr.size∧cap≤maxLen∧
   dN S w t xs (arr.toList.take (xs.length*t.size)))
theorem Bh (hm:jk g m S w){t:Ty}{x:au}{xs:List t.D}{up:Mem}{v:Value}(h:mg m t x=some (xs,up))(ht:t.top=true)(hr:VR g m S w x v):U3 g m S w t xs up v:=by
 unfold mg at h;split at h;injection h with h;injection h with h1 h2;subst h1;subst h2;exact ⟨.inl rfl,.inl ⟨rfl,hr⟩⟩;rename_i c;split at h;rename_i t' ys hl;split at h;rename_i he;subst he;injection h with h;injection h with h1 h2;subst h1;subst h2;refine ⟨.inr ⟨c,_,rfl,hl,by simp⟩,?_⟩;have hx:=hr.2.2 t' ys (.inl hl);have bK:=hm c _ hl;unfold gA at hx;unfold gU at bK;have hx:match g.f c [] with|none=>_|some b=>_:=hx
 cases hg:g.f c [] with
 |none=>
  rw [hg] at hx bK;exact .inl ⟨bK,hx⟩
 |some b=>
  rw [hg] at hx bK;obtain ⟨cap,arr,e1,k1,k2,k3,k4⟩:=hx;obtain ⟨aA,iE,lr⟩:=bK;have:=k2.eq iE;subst this;have:=(lr.Gi ht).toL.take (n:=ys.length) (Nat.le_refl _);rw [List.take_length] at this;exact .inr ⟨c,_,b,cap,arr,rfl,hl,by simp,hg,e1,k1,k2,k3,k4,this⟩
 cases h;cases h;rename_i c len;split at h;rename_i t' ys hl;split at h;rename_i he;subst he;injection h with h;injection h with h1 h2;subst h1;subst h2;refine ⟨.inr ⟨c,_,rfl,hl,by simp⟩,?_⟩;obtain ⟨hle,hx⟩:=hr.2.2 t' ys (.inl hl);have bK:=hm c _ hl;unfold gU at bK;have hlen:(ys.take len).length=len:=by simp;omega
 rcases hx with ⟨h0,_,a,ha⟩|⟨b,cap,arr,hg,e1,k1,k2,k3,k4⟩
 subst h0;exact .inl ⟨rfl,a,ha⟩;have gb:g.f c []=some b:=hg;rw [gb] at bK;obtain ⟨aA,iE,lr⟩:=bK;have:=k2.eq iE;subst this;have lr:=lr.Gi ht;rw [Nat.zero_mul] at e1;rw [Nat.zero_add] at k3;refine .inr ⟨c,_,b,cap,arr,rfl,hl,by simp,hg,?_,?_,k2,k3,k4,?_⟩;show v= .slice _ (ys.take len).length cap;rw [hlen];exact e1;show (ys.take len).length≤cap;rw [hlen];exact k1;show dN S w t' (ys.take len) (arr.toList.take ((ys.take len).length*t'.size));rw [hlen];exact lr.toL.take (by omega);cases h;cases h;cases h
end
section
variable {cx:Cx} {g:GM} {st:St} {a:Act} {w w':World}
def zC (m up:Mem):Prop:= ∀p∈up,p.2= .gone∧lk p.1 m≠none
theorem zC.lk {m up:Mem}(h:zC m up){k:Nat}{ch:Chunk}(hk:lk k up=some ch):ch= .gone∧Ide.lk k m≠none:=by
 induction up with
 |nil=>cases hk
 |cons p up ih=>
  obtain ⟨k',c'⟩:=p;rw [aw] at hk;split at hk;rename_i e;injection hk with hk;subst hk;subst e;exact h (k,c') (by simp);exact ih (fun q hq=>h q (by simp [hq])) hk
theorem bD.newAt (h:bD cx g st a w)(jW:lk st.nx st.mem=none){up:Mem}{G:List Nat}{γ:List Nat→Option Nat}{ch:Chunk}(oe:zC st.mem up)(hk:aH G w w')(hG: ∀b∈G,∃c p lA,lk c up=some .gone∧lk c st.mem=some lA∧lA.owns p∧g.f c p=some b)(hγ: ∀p b,γ p=some b→b<w'.heap.size∧(w.heap.size≤b∨b∈G))(U4: ∀p q b,γ p=some b→γ q=some b→p=q)(hc: ∀g' m' S',(∀b,cx.safe g st.mem w b→S' b∧w'.heap[b]? =w.heap[b]?)→gU g' m' S' w' γ ch):
 ∃g':GM,g'.f st.nx=γ∧bD cx g' (st.gZ (up++[(st.nx,ch)]++st.mem) (st.nx+1)) a w':=by
 have gb: ∀k,lk k st.mem≠none→(g.set st.nx γ).f k=g.f k:=fun k cX=>GM.Dj _ _ (fun e=>cX (by rw [e];exact jW));have iF:=GM.vS g st.nx γ;revert gb iF;generalize g.set st.nx γ=g';intro gb iF;have Rx: ∀b,b∈G→Live g st.mem b:=fun b hb=>by
  obtain ⟨c,p,lA,_,h2,h3,h4⟩:=hG b hb;exact ⟨c,p,lA,h2,h3,h4⟩
 have HY:lk st.nx up=none:=by
  cases hu:lk st.nx up with
  |none=>rfl
  |some c=>exact absurd jW (oe.lk hu).2
 have l0: ∀k,lk k (up++[(st.nx,ch)]++st.mem)=(lk k up).or (if k=st.nx then some ch else lk k st.mem):=fun k=>by
  rw [List.append_assoc,a8,List.singleton_append,aw]
 have hold: ∀k lA,lk k st.mem=some lA→(lk k up=none∧lk k (up++[(st.nx,ch)]++st.mem)=some lA∧(∀p b,lA.owns p→g.f k p=some b→b ∉ G))∨lk k (up++[(st.nx,ch)]++st.mem)=some .gone:=by
  intro k lA C9;have Ry:k≠st.nx:=fun e=>by rw [e,jW] at C9;cases C9
  cases hu:lk k up with
  |none=>
   left;refine ⟨rfl,by rw [l0,hu,if_neg Ry,C9];rfl,fun p b hn oO hb=> ?_⟩;obtain ⟨c,q,Uc,h1,h2,h3,h4⟩:=hG b hb;have:=(h.eH k c p q lA Uc b C9 hn h2 h3 oO h4).1;subst this;rw [hu] at h1;cases h1
  |some c0=>
   right;rw [l0,hu,(oe.lk hu).1];rfl
 have Rz:lk st.nx (up++[(st.nx,ch)]++st.mem)=some ch:=by rw [l0,HY,if_pos rfl];rfl
 have sS: ∀k,lk k st.mem=none→k≠st.nx→lk k (up++[(st.nx,ch)]++st.mem)=none:=by
  intro k C9 Ry;cases hu:lk k up with
  |none=>rw [l0,hu,if_neg Ry,C9];rfl
  |some c0=>exact absurd C9 (oe.lk hu).2
 have RA: ∀k' gV p,lk k' (up++[(st.nx,ch)]++st.mem)=some gV→gV.owns p→k'≠st.nx→lk k' st.mem=some gV∧ ∀b,g.f k' p=some b→b ∉ G:=by
  intro k' gV p dS xU Ry;cases ho:lk k' st.mem with
  |none=>rw [sS k' ho Ry] at dS;cases dS
  |some c0=>
   rcases hold k' c0 ho with ⟨_,e1,e2⟩|e1
   rw [dS] at e1;injection e1 with e1;subst e1;exact ⟨rfl,fun b hb=>e2 p b xU hb⟩
   rw [dS] at e1;injection e1 with e1;subst e1;exact xU.elim
 have t:u9 cx g g' st.mem (up++[(st.nx,ch)]++st.mem) w w' G:=by
  refine ⟨hk,Rx,gb,fun k c0 ho=> ?_,fun k c0 ho fR=> ?_⟩;rcases hold k c0 ho with ⟨_,e1,e2⟩|e1
  exact .inl ⟨e1,e2⟩;exact .inr (.inl e1);by_cases e:k=st.nx;subst e;rw [Rz] at fR;injection fR with fR;subst fR;refine ⟨?_,fun p b hn hg=> ?_⟩;rw [iF];refine hc g' _ _ fun b hb=> ?_;obtain ⟨h1,h2,h3⟩:=hb;have XA:b ∉ G:=fun hb=>h3 (Rx b hb);refine ⟨⟨Nat.lt_of_lt_of_le h1 hk.size,h2,?_⟩,hk.block b h1 XA⟩;rintro ⟨k,p,c,od,hn,hg⟩;by_cases e:k=st.nx;subst e;rw [iF] at hg;rcases (hγ p b hg).2 with hx|hx
  omega;exact XA hx;obtain ⟨h4,_⟩:=RA k c p od hn e;exact h3 ⟨k,p,c,h4,hn,by rw [←gb k (by rw [h4];simp)];exact hg⟩;rw [iF] at hg;refine ⟨(hγ p b hg).2,(hγ p b hg).1,fun k' p' gV dS xU Dk=> ?_⟩;by_cases e:k'=st.nx;subst e;rw [iF] at Dk;exact ⟨rfl,U4 p' p b Dk hg⟩;obtain ⟨h4,h5⟩:=RA k' gV p' dS xU e;have RB:g.f k' p'=some b:=by rw [←gb k' (by rw [h4];simp)];exact Dk
  rcases (hγ p b hg).2 with hx|hx
  have:=h.lt k' p' gV b h4 xU RB;omega;exact absurd hx (h5 b RB);rw [sS k ho e] at fR;cases fR
 exact ⟨g',iF,h.tV t⟩
theorem qG {o:Option Nat}{p:List Nat}{b:Nat}(h:ot o p=some b):p=[]∧o=some b:=by
 unfold ot at h;split at h;exact ⟨by assumption,h⟩;cases h
theorem nk.newAt {e:bm}{up:Mem}{G:List Nat}{gk:Option Nat}{t:Ty}{xs:List t.D}{val:Value}(h:bD cx g st a w)(hw:dK st.mem e.new)(he:e.new=[(st.nx,.seq t xs)]∧e.jU=up∧e.val= .one (.all st.nx))(oe:up=[]∨ ∃c lA,up=[(c,.gone)]∧lk c st.mem=some lA∧lA≠ .gone)(hk:aH G w w')(hG:G=[]∨ ∃c b lA,up=[(c,.gone)]∧lk c st.mem=some lA∧lA≠ .gone∧g c=some b∧G=[b])(oO: ∀b,gk=some b→w.heap.size≤b∨b∈G)(hlt: ∀b,gk=some b→b<w'.heap.size)(hc: ∀S',(∀b,cx.safe g st.mem w b→S' b∧w'.heap[b]? =w.heap[b]?)→match gk with|none=>xs=[]|some b=> ∃arr,cg w' b arr∧dw S' w' (ot gk) t xs arr)(hv:gA gk w' t.size xs.length val):nk cx st a e val w':=by
 have jW:lk st.nx st.mem=none:=hw (st.nx,.seq t xs) (by rw [he.1];simp);have RC:zC st.mem up:=by
  intro p hp;rcases oe with rfl|⟨c,lA,rfl,h1,h2⟩
  simp at hp;simp at hp;subst hp;exact ⟨rfl,by rw [h1];simp⟩
 obtain ⟨g',iF,hs⟩:=h.newAt (ch:= .seq t xs) (γ:=ot gk) jW RC hk (fun b hb=>by
  rcases hG with rfl|⟨c,b',lA,rfl,h2,h3,h4,rfl⟩
  simp at hb;simp at hb;subst hb;exact ⟨c,[],lA,by simp [aw],h2,Chunk.vN h3,h4⟩)
  (fun p b hp=>⟨hlt b (qG hp).2,oO b (qG hp).2⟩) (fun p q b hp hq=>by rw [(qG hp).1,(qG hq).1]) (fun g' m' S' hS=>by
   have:=hc S' hS;cases gk with
   |none=>simp only [gU,ot,if_true];exact this
   |some b=>
    obtain ⟨arr,h1,h2⟩:=this;simp only [gU,ot,if_true];exact ⟨arr,h1,h2⟩)
 refine ⟨g',?_,?_⟩;rw [he.1,he.2.1];exact hs;rw [he.1,he.2.1,he.2.2];have hl:lk st.nx (up++[(st.nx,.seq t xs)]++st.mem)=some (.seq t xs):=by
  rcases oe with rfl|⟨c,Uc,rfl,A5,hn1⟩
  simp [aw];have:st.nx≠c:=fun e=>by rw [←e,jW] at A5;cases A5
  simp [aw,if_neg this]
 refine ⟨by rw [hl];simp,?_,fun t' bF dB=> ?_⟩;unfold gA at hv;cases gk with
 |none=>obtain ⟨a,rfl⟩:=hv;rfl
 |some b=>obtain ⟨cap,arr,rfl,_⟩:=hv;rfl
 have dB:=cz.toSeq hl dB;rw [hl] at dB;injection dB with dB;injection dB with ht sP;subst ht;have sP:=eq_of_heq sP;subst sP;rw [show g' st.nx=gk from by show g'.f st.nx []=gk;rw [iF];rfl];exact hv
theorem xW {T T':TypeId}{ty:TypeId}{t:Ty}{s x:au}{e:bm}{sv xv:Value}(h:bD cx g st a w)(hw:dK st.mem e.new)(he:qz cx.P st.mem st.nx T T' t s x=some e)(hc:aS e.cond)(hs:VR g st.mem (cx.safe g st.mem w) w s sv)(hx:VR g st.mem (cx.safe g st.mem w) w x xv):gd cx st a w (Builtin.append_ #[T,T'] ty #[sv,xv]) e:=by
 unfold qz at he;split at he;rename_i el hu;split at he;rename_i i hi;cases hb:(((Nat.beq T T'&&Nat.beq i.size t.size)&&(Nat.ble i.bytes 32768&&i.zero.isSome)&&(i.zero.map fun z=>Nat.beq z.cells.size t.size).getD false)&&(t.top&&lY st.mem x)) with
 |false=>simp [hb] at he
 |true=>
  rw [hb] at he;simp only [cond_true] at he;simp only [Bool.and_eq_true] at hb;obtain ⟨⟨⟨⟨hT,cY⟩,xX,RD⟩,Fg⟩,nm,HZ⟩:=hb;have hT:=aO hT;subst hT;have cY:=aO cY;have xX:=gB xX;obtain ⟨z,hz⟩:=Option.isSome_iff_exists.1 RD;rw [hz] at Fg;have Fg:z.cells.size=t.size:=aO (by simpa using Fg);split at he;rename_i xs up ys yK U5;injection he with he;subst he;have hlen:xs.length+ys.length≤av:=hc.1;unfold av at hlen;obtain ⟨oe,U6⟩:=Bh h.mem yK nm hs;obtain ⟨news,A6⟩:=zB h.mem U5 HZ nm hx;obtain ⟨ax,vb,ex,Hw⟩:=A6.val;subst ex;have rN:(xs.length+ys.length)*i.bytes≤140737488355328:=by
   calc (xs.length+ys.length)*i.bytes≤4294967296*32768:=Nat.mul_le_mul hlen xX
    _=140737488355328:=by decide
  have xY:news.length=ys.length*i.size:=by rw [cY];exact A6.len
  have grow: ∀(base:Option Addr) (cap:Nat) (olds:List Value),olds.length=xs.length*i.size→(xs.length=0∨ ∃ad,base=some ad∧ ∀j v,olds[j]? =some v→w.cell? (ad.add j)=some v)→
   dN (cx.safe g st.mem w) w t xs olds→cap<xs.length+ys.length→(up=[]∨ ∃c lA,up=[(c,.gone)]∧lk c st.mem=some lA∧lA≠ .gone)→
   gd cx st a w (Builtin.append_ #[T,T] ty #[.slice base xs.length cap,.slice ax ys.length vb]) ⟨.one (.all st.nx),[(st.nx,.seq t (xs++ys))],up,[List.length xs+List.length ys≤av]⟩:=by
   intro base cap olds Fh ho fA hlt oe;have pL:=grownCap_ge w (xs.length+ys.length) cap el;have Fi:=grownCap_le_maxLen w (xs.length+ys.length) cap el (by unfold maxLen;omega);have hr:=sQ (P:=cx.P) (ty:=ty) (c:=vb) hu hi hz Fh ho xY Hw hlt rN (by omega);have df:aH [] w (w.drew.alloc (.cells (olds.toArray++news.toArray++Builtin.zeroCells z.cells (grownCap w (xs.length+ys.length) cap el - (xs.length+ys.length))) el)):=
    (aH.drew [] w).trans (aH.alloc _ _ _)
   have cm:=cg.new w.drew (olds.toArray++news.toArray++Builtin.zeroCells z.cells (grownCap w (xs.length+ys.length) cap el - (xs.length+ys.length))) el;refine ⟨_,_,hr,?_⟩;refine nk.newAt (G:=[]) (gk:=some w.heap.size) h hw ⟨rfl,rfl,rfl⟩ oe df (.inl rfl) (fun b hb=>by injection hb with hb;left;omega) (fun b hb=>by injection hb with hb;subst hb;exact cm.lt) (fun S' hS=>⟨_,cm,?_⟩) ?_;refine dw.kH nm (dN.toR ?_);simp only [Array.toList_append];have h1:dN S' (w.drew.alloc (.cells (olds.toArray++news.toArray++Builtin.zeroCells z.cells (grownCap w (xs.length+ys.length) cap el - (xs.length+ys.length))) el)) t xs olds:=fun i hi=>by
    obtain ⟨es,k1,k2⟩:=fA i hi;exact ⟨es,k1,aR.ar hS t es _ k2⟩
   have h2:dN S' (w.drew.alloc (.cells (olds.toArray++news.toArray++Builtin.zeroCells z.cells (grownCap w (xs.length+ys.length) cap el - (xs.length+ys.length))) el)) t ys news:=fun i hi=>by
    obtain ⟨es,k1,k2⟩:=A6.Gi i hi;exact ⟨es,k1,aR.ar hS t es _ k2⟩
   exact dN.app h1 (by rw [Fh,cY]) h2 A6.len;refine ⟨grownCap w (xs.length+ys.length) cap el,_,?_,by rw [List.length_append];exact pL,cm,?_,Fi⟩;rw [List.length_append];simp only [Array.size_append,List.size_toArray,size_zeroCells,Fg,Fh,xY,cY,←Nat.add_mul];exact Nat.mul_le_mul_right _ (by omega)
  rcases U6 with ⟨RE,ab,eb⟩|⟨c,ch,b,cap,arr,e1,e2,e3,e4,e5,hcap,cm,gC,zu,fA⟩
  subst eb;subst RE;by_cases hy:ys.length=0;have Lh:ys=[]:=List.eq_nil_of_length_eq_zero hy;subst Lh;refine ⟨_,_,oU (P:=cx.P) hu hi,?_⟩;exact nk.newAt (G:=[]) (gk:=none) h hw ⟨rfl,rfl,rfl⟩ oe (aH.refl _ _) (.inl rfl) (fun b hb=>by cases hb) (fun b hb=>by cases hb) (fun S' hS=>rfl) ⟨ab,rfl⟩;exact grow ab 0 [] (by simp) (.inl rfl) (fun i hi=>by simp at hi) (by simp;omega) oe;subst e5;by_cases iU:xs.length+ys.length≤cap;have pS:(xs.length+ys.length)*i.size≤arr.size:=by rw [cY];exact Nat.le_trans (Nat.mul_le_mul_right _ iU) gC
  obtain ⟨w',aA,hr,iE,dB,dS,db⟩:=sR (P:=cx.P) (ty:=ty) hu hi cm (c:=vb) xY Hw (A6.Gi.mi A6.len) iU pS;refine ⟨_,_,hr,?_⟩;refine nk.newAt (G:=[b]) (gk:=some b) h hw ⟨rfl,rfl,rfl⟩ oe dS (.inr ⟨c,b,ch,e1,e2,e3,e4,rfl⟩) (fun b' oP=>by injection oP with oP;subst oP;right;simp) (fun b' oP=>by injection oP with oP;subst oP;exact iE.lt) (fun S' hS=>⟨aA,iE,?_⟩) ?_;refine dw.kH nm (dN.toR ?_);rw [dB,cY];have h1:dN S' w' t xs (arr.toList.take (xs.length*t.size)):=fun i hi=>by
   obtain ⟨es,k1,k2⟩:=fA i hi;exact ⟨es,k1,aR.ar hS t es _ k2⟩
  have h2:dN S' w' t ys news:=fun i hi=>by
   obtain ⟨es,k1,k2⟩:=A6.Gi i hi;exact ⟨es,k1,aR.ar hS t es _ k2⟩
  refine dN.app h1 ?_ h2 A6.len;have:xs.length*t.size≤arr.size:=Nat.le_trans (Nat.mul_le_mul_right _ hcap) gC;simp;omega;refine ⟨cap,aA,by rw [List.length_append],by rw [List.length_append];exact iU,iE,?_,zu⟩;have:aA.size=arr.size:=by
   rw [←Array.length_toList,dB];simp;rw [cY] at pS xY⊢;rw [Nat.add_mul] at pS;omega
  rw [this];exact gC;have hle:xs.length*t.size≤arr.size:=Nat.le_trans (Nat.mul_le_mul_right _ hcap) gC;exact grow _ cap (arr.toList.take (xs.length*t.size)) (by rw [cY];simp;omega) (.inr ⟨_,rfl,fun j v hj=>by
   rw [aX,cm.cell];rw [List.getElem?_take] at hj;split at hj;simpa using hj;cases hj⟩) fA (by omega) oe
  cases he
 cases he;cases he
end
end Go.Ide
namespace Go.Ide
section
variable {P:Program} {g:GM} {m:Mem} {S:Nat→Prop} {w:World}
theorem pT {t:Ty}{cs:List Value}{v:Value}{x:t.D}(h:cE t cs v)(hr:aR S w t cs x):v.cells.toList=cs:=by
 unfold cE at h;split at h;subst h;rfl;subst h;rw [tW (aR.mi t hr v (by simp))]
theorem rO {t:Ty}: ∀{parts:List (Nat×au)} {vparts:List (Nat×Value)} {i:Nat} {xs:List t.D} {arr:Array Value},
 tU t i parts=some xs→aK (fun (p:Nat×au) (q:Nat×Value)=>p.1=q.1∧VR g m S w p.2 q.2) parts vparts→(i+parts.length)*t.size≤arr.size→
 ∃aA news,Instr.fill (fun j=>some (j*t.size,t.size)) arr vparts=some aA∧news.length=xs.length*t.size∧dN S w t xs news∧parts.length=xs.length∧
  aA.toList=arr.toList.take (i*t.size)++news++arr.toList.drop ((i+xs.length)*t.size)
 |[],[],i,xs,arr,h,_,hle=>by
  simp only [tU] at h;injection h with h;subst h;exact ⟨arr,[],rfl,by simp,fun i hi=>by simp at hi,rfl,by simp⟩
 |(j,v)::parts,(j',u)::vparts,i,xs,arr,h,hp,hle=>by
  obtain ⟨⟨hj,hv⟩,Bf⟩:=hp;have hj:j=j':=hj;subst hj;simp only [tU] at h;cases hb:Nat.beq i j with
  |false=>simp [hb] at h
  |true=>
   rw [hb] at h;simp only [cond_true] at h;have hb:=aO hb;subst hb;split at h;rename_i x l hx hl;injection h with h;subst h;obtain ⟨cs,hval,bf⟩:=mF (S2:=S) (fun _ h=>h) gr.nil hx hv;have iY:=pT hval bf;have ma:=aR.len t cs x bf;simp only [List.length_cons] at hle;have cY:u.cells.size=t.size:=by rw [←Array.length_toList,iY,ma]
   have U7:(i+1)*t.size≤arr.size:=Nat.le_trans (Nat.mul_le_mul_right _ (by omega)) hle;rw [Nat.add_mul] at U7;have pR:(u.cells.zipIdx.foldl (fun cs (p:Value×Nat)=>cs.setIfInBounds (i*t.size+p.2) p.1) arr).toList=arr.toList.take (i*t.size)++cs++arr.toList.drop (i*t.size+cs.length):=by
    have:=qE (i*t.size) cs 0 arr (by omega);rw [←Array.foldl_toList,Array.toList_zipIdx,iY];simpa using this
   have uG:(u.cells.zipIdx.foldl (fun cs (p:Value×Nat)=>cs.setIfInBounds (i*t.size+p.2) p.1) arr).size=arr.size:=by
    rw [←Array.length_toList,pR];simp;omega
   obtain ⟨aA,news,e1,e2,e3,e4,e5⟩:=rO (arr:=u.cells.zipIdx.foldl (fun cs (p:Value×Nat)=>cs.setIfInBounds (i*t.size+p.2) p.1) arr) hl Bf (by rw [uG];rw [show i+1+parts.length=i+(parts.length+1) from by omega];exact hle);refine ⟨aA,cs++news,?_,by simp [ma,e2,Nat.add_mul,Nat.add_comm],?_,by simp [e4],?_⟩;simp only [Instr.fill];rw [if_neg (by simp;omega)];exact e1;have h1:dN S w t [x] cs:=fun k hk=>by
    have hk:k=0:=by simp at hk;exact hk
    subst hk;exact ⟨cs,fun j _=>by simp,by simpa using bf⟩
   have:=dN.app (rest:=[]) h1 (by simp [ma]) e3 e2;simpa using this;rw [e5,pR];have hk:(i+1)*t.size=i*t.size+cs.length:=by rw [Nat.add_mul,ma];omega
   have RF:(arr.toList.take (i*t.size)++cs).length=(i+1)*t.size:=by rw [hk];simp;omega
   rw [List.take_append_of_le_length (by omega),List.take_of_length_le (by omega)];have hd:(i+1+l.length)*t.size=(arr.toList.take (i*t.size)++cs).length+l.length*t.size:=by rw [RF,Nat.add_mul (i+1)]
   rw [hd,List.drop_append,List.drop_drop];have:(i+(x::l).length)*t.size=i*t.size+cs.length+l.length*t.size:=by
    rw [List.length_cons,show i+(l.length+1)=(i+1)+l.length from by omega,Nat.add_mul (i+1),hk]
   rw [this];simp [List.append_assoc];cases h
 |[],_::_,_,_,_,_,hp,_=>hp.elim
 |_::_,[],_,_,_,_,hp,_=>hp.elim
end
section
variable {cx:Cx} {g:GM} {st:St} {a:Act} {w w':World}
theorem kL {g:GM}{m:Mem}{S:Nat→Prop}{w:World}{t:Ty}{cs:List aq}{x:t.D}{ks:List Nat}{r:List aq}{vs:List Value}(h:(b9 [] t cs).map (fun p=>((p.1,([]:List Nat)),p.2))=some ((x,ks),r))(hr:aK (CR g m S w) cs vs):
 ∃v1 v2,vs=v1++v2∧aR S w t v1 x∧aK (CR g m S w) r v2:=by
 cases hi:b9 [] t cs with
 |none=>rw [hi] at h;cases h
 |some p=>
  rw [hi] at h;obtain ⟨y,r'⟩:=p;injection h with h;injection h with h1 h2;injection h1 with h1 _;subst h1;subst h2;exact jX (fun _ h=>h) gr.nil hi hr
theorem ow {g:GM}{m:Mem}{S:Nat→Prop}{w:World}: ∀(t:Ty) {γ:List Nat→Option Nat} {o:Nat} {cs:List aq} {x:t.D} {ks:List Nat} {r:List aq} {vs:List Value},kC [] t cs=some ((x,ks),r)→aK (CR g m S w) cs vs→(∀p,γ p=none)→
 ∃v1 v2,vs=v1++v2∧cf S w t γ o v1 x∧aK (CR g m S w) r v2
 | .own t,γ,o,cs,x,ks,r,vs,h,hr,hγ=>by
  simp only [kC] at h;split at h;injection h with h;injection h with h1 h2;injection h1 with h1 _;subst h1;subst h2;cases vs with
  |nil=>exact hr.elim
  |cons v vs=>
   obtain ⟨a,ha⟩:=hr.1;refine ⟨[v],vs,rfl,⟨v,rfl,?_,?_⟩,hr.2⟩;rw [hγ];exact ⟨a,ha⟩;rw [hγ];rfl
  simp [eB] at h;cases h
 | .pair a b,γ,o,cs,x,ks,r,vs,h,hr,hγ=>by
  simp only [kC] at h;split at h;rename_i y k1 r1 h1;split at h;rename_i z k2 r2 h2;injection h with h;injection h with e1 e2;injection e1 with e1 _;subst e1;subst e2;obtain ⟨v1,v2,rfl,q1,q2⟩:=ow (γ:=γ) (o:=o) a h1 hr hγ;obtain ⟨v3,v4,rfl,q3,q4⟩:=ow (γ:=γ) (o:=o+a.size) b h2 q2 hγ;exact ⟨v1++v3,v4,by simp,⟨v1,v3,rfl,q1,q3⟩,q4⟩;cases h;cases h
 | .st t,γ,o,cs,x,ks,r,vs,h,hr,hγ=>ow (γ:=γ) (o:=o) t (cs:=cs) (x:=x) h hr hγ
 | .int k,_,_,_,_,_,_,_,h,hr,_=>kL (t:= .int k) h hr
 | .cD k,_,_,_,_,_,_,_,h,hr,_=>kL (t:= .cD k) h hr
 | .bool,_,_,_,_,_,_,_,h,hr,_=>kL (t:= .bool) h hr
 | .str,_,_,_,_,_,_,_,h,hr,_=>kL (t:= .str) h hr
 | .sl t,_,_,_,_,_,_,_,h,hr,_=>kL (t:= .sl t) h hr
 | .bx t,_,_,_,_,_,_,_,h,hr,_=>kL (t:= .bx t) h hr
 | .cl f t,_,_,_,_,_,_,_,h,hr,_=>kL (t:= .cl f t) h hr
theorem sT {T:TypeId}{t:Ty}{len:Nat}{parts:List (Nat×au)}{vparts:Array (Nat×Value)}{e:bm}(h:bD cx g st a w)(hw:dK st.mem e.new)(he:pO cx.P st.nx T t len parts=some e)(hp:aK (fun (p:Nat×au) (q:Nat×Value)=>p.1=q.1∧VR g st.mem (cx.safe g st.mem w) w p.2 q.2) parts vparts.toList):gd cx st a w (Instr.buildSlice T len vparts) e:=by
 unfold pO at he;split at he;rename_i el hu;cases hb:(((cc cx.P el==some t.size&&(((cx.P.info? el).bind (·.zero)).map fun z=>Nat.beq z.cells.size t.size)==some true)&&(Nat.beq parts.length len&&Nat.ble (len*t.size) 65536))&&t.top) with
 |false=>rw [hb] at he;cases he
 |true=>
  rw [hb] at he;simp only [cond_true] at he;simp only [Bool.and_eq_true,beq_iff_eq] at hb;obtain ⟨⟨⟨hs,hz⟩,hn,Lq⟩,nm⟩:=hb;have hn:=aO hn;have Lq:=gB Lq;subst hn;split at he;rename_i xs hx;injection he with he;subst he;cases hi:cx.P.info? el with
  |none=>simp [cc,hi] at hs
  |some i=>
   rw [hi] at hz;simp only [Option.bind_some] at hz;cases zE:i.zero with
   |none=>simp [zE] at hz
   |some z=>
    rw [zE] at hz;have hz:Nat.beq z.cells.size t.size=true:=by simpa using hz
    have hz:=aO hz;let base:Array Value:=(Array.range (parts.length*t.size)).map fun k=>(if parts.length*t.size=0 then #[] else z.cells)[k%(if parts.length*t.size=0 then #[] else z.cells).size]!;have QS:base.size=parts.length*t.size:=by simp [base]
    obtain ⟨aA,news,e1,e2,e3,e4,e5⟩:=rO (g:=g) (m:=st.mem) (S:=cx.safe g st.mem w) (w:=w) (arr:=base) hx hp (by rw [QS,Nat.zero_add];exact Nat.le_refl _);have fS:(Instr.buildSlice T parts.length vparts).run cx.P w= .ok (.slice (some ⟨w.heap.size,0,none⟩) parts.length parts.length) (w.alloc (.cells aA el)):=by
     have Dv: ¬(16777216<parts.length*t.size):=by omega
     by_cases h0:parts.length*t.size=0;have Fj:Instr.fill (fun j=>some (j*t.size,t.size)) ((Array.range (parts.length*t.size)).map fun k=>(#[]:Array Value)[k%(#[]:Array Value).size]!) vparts.toList=some aA:=by
      have:=e1;simp only [base,h0,if_true] at this;rw [h0];exact this
     simp only [Instr.buildSlice,Sem.run_bind,run_underlying hu,Result.andThen_ok,bw hs];simp [h0,Dv] at Fj⊢;simp [Fj,newRow];have Fj:Instr.fill (fun j=>some (j*t.size,t.size)) ((Array.range (parts.length*t.size)).map fun k=>z.cells[k%z.cells.size]!) vparts.toList=some aA:=by
      have:=e1;simp only [base,h0,if_false] at this;exact this
     simp only [Instr.buildSlice,Sem.run_bind,run_underlying hu,Result.andThen_ok,bw hs];simp [h0,Dv,zeroValue,typeInfo,hi,zE] at Fj⊢;simp [Fj,newRow]
    refine ⟨_,_,fS,?_⟩;have hlen:aA.toList=news:=by
     rw [e5,←e4];simp only [Nat.zero_mul,Nat.zero_add,List.take_zero,List.nil_append];rw [List.drop_of_length_le (by rw [Array.length_toList,QS];exact Nat.le_refl _)];simp
    have N7:aA.size=xs.length*t.size:=by rw [←Array.length_toList,hlen,e2]
    refine nk.newAt (G:=[]) (up:=[]) (gk:=some w.heap.size) h hw ⟨rfl,rfl,rfl⟩ (.inl rfl) (aH.alloc _ _ _) (.inl rfl) (fun b hb=>by injection hb with hb;left;omega) (fun b hb=>by injection hb with hb;subst hb;exact (cg.new w aA el).lt) (fun S' hS=>⟨aA,cg.new w aA el,?_⟩) ?_;refine dw.kH nm (dN.toR ?_);rw [hlen];exact fun i hi=>by
     obtain ⟨es,k1,k2⟩:=e3 i hi;exact ⟨es,k1,aR.ar hS t es _ k2⟩
    refine ⟨xs.length,aA,by rw [e4],Nat.le_refl _,cg.new w aA el,by rw [N7];exact Nat.le_refl _,?_⟩;have:=t.size_pos;have h1:xs.length≤xs.length*t.size:=Nat.le_mul_of_pos_right _ this;rw [e4] at Lq;unfold maxLen;omega
  cases he
 cases he
theorem tZ {T:TypeId}{t:Ty}{len cap:au}{e:bm}{lv cv:Value}(h:bD cx g st a w)(hw:dK st.mem e.new)(he:rK cx.P st.nx T t len cap=some e)(hc:aS e.cond)(hl:VR g st.mem (cx.safe g st.mem w) w len lv)(HU:VR g st.mem (cx.safe g st.mem w) w cap cv):gd cx st a w (Instr.makeSlice T lv cv) e:=by
 unfold rK at he;split at he;rename_i el kl n kc c hu;split at he;rename_i i z0 hi pG;cases hb:(Nat.beq i.size t.size&&Nat.ble i.bytes 32768) with
 |false=>simp [hb] at he
 |true=>
  rw [hb] at he;simp only [cond_true] at he;simp only [Bool.and_eq_true] at hb;have cY:=aO hb.1;have xX:=gB hb.2;injection he with he;subst he;obtain ⟨⟨h0,h1,h2⟩,_⟩:=hc;have e1:=dx (g:=g) (m:=st.mem) (S:=cx.safe g st.mem w) (w:=w) hl;have e2:=dx (g:=g) (m:=st.mem) (S:=cx.safe g st.mem w) (w:=w) HU;subst e1;subst e2;obtain ⟨k,rfl⟩:=Int.eq_ofNat_of_zero_le (show (0:Int)≤c from Int.le_trans h0 h1);obtain ⟨k0,rfl⟩:=Int.eq_ofNat_of_zero_le (show (0:Int)≤n from h0);have hk:k≤4294967296:=by have:((k:Nat):Int)≤4294967296:=h2;omega
  have C9:k0≤k:=by have:((k0:Nat):Int)≤((k:Nat):Int):=h1;omega
  unfold E6 at pG;rw [hi] at pG;cases zE:i.zero with
  |none=>simp [zE] at pG
  |some z=>
   simp only [zE] at pG;have rN:(i.bytes:Int)*(k:Int)≤281474976710656:=by
    have:i.bytes*k≤32768*4294967296:=Nat.mul_le_mul xX hk;have h3:((i.bytes*k:Nat):Int)≤281474976710656:=by omega
    rwa [Int.natCast_mul] at h3
   have fS:=run_make (P:=cx.P) w T el i z hu hi zE kl kc (k0:Int) (k:Int) (by omega) h1 rN (by omega);refine ⟨_,_,fS,?_⟩;have bf: ∀(S':Nat→Prop) (w':World) (γ:List Nat→Option Nat),(∀p,γ p=none)→cf S' w' t γ 0 z.cells.toList z0:=fun S' w' γ hγ=>by
    split at pG;rename_i nm;obtain ⟨cs,hval,bf⟩:=mF (g:=⟨fun _ _=>none⟩) (m:=[]) (S:=S') (S2:=S') (fun _ h=>h) gr.nil pG (sM (w:=w') z);rw [pT hval bf];exact cf.pN t nm bf;split at pG;rename_i jz;split at pG;rename_i x hx;injection pG with pG;subst pG;obtain ⟨v1,v2,e,h1,h2⟩:=ow (g:=⟨fun _ _=>none⟩) (m:=[]) (S:=S') (w:=w') (γ:=γ) (o:=0) t hx (kK z jz) hγ;have:v2=[]:=by cases v2 with|nil=>rfl|cons=>exact h2.elim
    subst this;rw [List.append_nil] at e;rw [e];exact h1;cases pG;cases pG
   have sU:z.cells.size=t.size:=by rw [←Array.length_toList];exact cf.len t (bf (fun _=>True) w (fun _=>none) (fun _=>rfl))
   have XB:=t.size_pos;simp only [Int.toNat_natCast] at fS⊢;have iY: ∀q,q<k*t.size→(madeCells z.cells (k*i.size))[q]? =z.cells[q%t.size]? :=fun q hq=>by
    have cX:k*t.size≠0:=by omega
    have Gn:q%t.size<z.cells.size:=by rw [sU];exact Nat.mod_lt _ XB
    rw [cY];simp [madeCells,hq,sU,Array.getElem?_eq_getElem Gn,getElem!_pos z.cells (q%t.size) Gn]
   have U8:(madeCells z.cells (k*i.size)).size=k*t.size:=by rw [cY];simp [madeCells]
   refine nk.newAt (G:=[]) (up:=[]) (gk:=some w.heap.size) h hw ⟨rfl,rfl,rfl⟩ (.inl rfl) (aH.alloc _ _ _) (.inl rfl) (fun b hb=>by injection hb with hb;left;omega) (fun b hb=>by injection hb with hb;subst hb;exact (cg.new w _ el).lt) (fun S' hS=>⟨_,cg.new w _ el,?_⟩) ?_;intro i' vw;simp only [List.length_replicate,Int.toNat_natCast] at vw;refine ⟨z.cells.toList,fun j u hj=> ?_,?_⟩;have Fe:j<t.size:=by rw [←sU,←Array.length_toList];exact (List.getElem?_eq_some_iff.1 hj).1
   have hlt:i'*t.size+j<k*t.size:=by
    have:(i'+1)*t.size≤k*t.size:=Nat.mul_le_mul_right _ (by omega);rw [Nat.add_mul] at this;omega
   rw [iY _ hlt];have:(i'*t.size+j)%t.size=j:=by rw [Nat.add_comm,Nat.mul_comm,Nat.add_mul_mod_self_left];exact Nat.mod_eq_of_lt Fe
   rw [this,←Array.getElem?_toList];exact hj;simp only [List.getElem_replicate];exact bf _ _ _ (fun p=>rfl);refine ⟨k,_,by simp,by simpa using C9,cg.new w _ el,by rw [U8];exact Nat.le_refl _,by unfold maxLen;omega⟩
 cases he;cases he
theorem bD.grow {w':World}(h:bD cx g st a w)(hk:aH [] w w'):bD cx g (st.gZ st.mem st.nx) a w':=h.tV (G:=[]) ⟨hk,fun b hb=>(by simp at hb),fun _ _=>rfl,fun k ch hk=> .inl ⟨hk,fun _ b _ _ hb=>by simp at hb⟩,fun k ch hk dS=>by
 rw [hk] at dS;cases dS⟩
theorem zF {T:TypeId}{len:Nat}{parts:List (Nat×au)}{vparts:Array (Nat×Value)}{e:bm}(h:bD cx g st a w)(he:Dh cx.P T len parts=some e)(hp:aK (fun (p:Nat×au) (q:Nat×Value)=>p.1=q.1∧VR g st.mem (cx.safe g st.mem w) w p.2 q.2) parts vparts.toList):gd cx st a w (Instr.buildSlice T len vparts) e:=by
 unfold Dh at he;split at he;rename_i el hu;cases hb:(((cc cx.P el).isSome&&Nat.beq len 0)&&parts.isEmpty) with
 |false=>rw [hb] at he;cases he
 |true=>
  rw [hb] at he;simp only [cond_true] at he;simp only [Bool.and_eq_true,List.isEmpty_iff] at hb;obtain ⟨⟨hs,hn⟩,YD⟩:=hb;have hn:=aO hn;subst hn;subst YD;obtain ⟨k,hs⟩:=Option.isSome_iff_exists.1 hs;have hv:vparts= #[]:=by
   cases hq:vparts.toList with
   |nil=>exact Array.toList_eq_nil_iff.1 hq
   |cons x xs=>rw [hq] at hp;exact hp.elim
  subst hv;have fS:(Instr.buildSlice T 0 #[]).run cx.P w= .ok (.slice (some ⟨w.heap.size,0,none⟩) 0 0) (w.alloc (.cells #[] el)):=by
   simp only [Instr.buildSlice,Sem.run_bind,run_underlying hu,Result.andThen_ok,bw hs];simp [newRow,Instr.fill]
   congr 2
   apply Array.ext';simp
  injection he with he;subst he;exact ⟨_,_,fS,g,h.grow (aH.alloc _ _ _),_,rfl⟩
 cases he
end
end Go.Ide
namespace Go.Ide
section
variable {cx:Cx} {g:GM} {st:St} {a:Act} {w w':World}
structure H0 (g:GM)(st:St)(w w':World)(c b:Nat)(p0:List Nat)(ch gV:Chunk):Prop where
 lk:Ide.lk c st.mem=some ch
 Fk:ch.owns p0
 at_:g.f c p0=some b
 ar:aH [b] w w'
 sz: ∃arr aA,cg w b arr∧cg w' b aA∧aA.size=arr.size
 owns: ∀p,gV.owns p→ch.owns p
 ng:gV≠ .gone
 shape: ∀t xs,gV.vQ t xs→ ∃bF,ch.vQ t bF∧bF.length=xs.length
 rows: ∀t bF,gV= .seq t bF→ ∃xs,ch= .seq t xs∧bu t xs bF
theorem H0.cg {c b:Nat}{p0:List Nat}{ch gV:Chunk}(q:H0 g st w w' c b p0 ch gV){b':Nat}{sH:Array Value}(Lr:cg w b' sH): ∃aA,Ide.cg w' b' aA∧aA.size=sH.size:=by
 by_cases e:b'=b;subst e;obtain ⟨arr,aA,h1,h2,h3⟩:=q.sz;have:=Lr.eq h1;subst this;exact ⟨aA,h2,h3⟩;exact ⟨sH,Lr.ar (q.ar.block b' Lr.lt (by simp [e])),rfl⟩
theorem H0.stays {c b:Nat}{p0:List Nat}{ch gV:Chunk}(q:H0 g st w w' c b p0 ch gV):
 gq g g st.mem ((c,gV)::st.mem) (cx.safe g st.mem w) (cx.safe g ((c,gV)::st.mem) w') w w':=by
 refine ⟨⟨fun b' hs=> ?_,fun k dS=>⟨by rw [aw];split<;>simp_all,rfl⟩,fun k t xs dS hl=> ?_,fun k t xs b' sH dS hl gb Lr=>q.cg Lr⟩,fun _ _=>rfl,fun k t bF dS hl=> ?_⟩;obtain ⟨h1,h2,h3⟩:=hs;have cX:b'≠b:=fun e=>h3 ⟨c,p0,ch,q.lk,q.Fk,by rw [e];exact q.at_⟩;refine ⟨⟨Nat.lt_of_lt_of_le h1 q.ar.size,h2,?_⟩,q.ar.block b' h1 (by simp [cX])⟩;rintro ⟨k,p,c0,od,zG,Ls⟩;rw [aw] at od;by_cases e:k=c;subst e;rw [if_pos rfl] at od;injection od with od;subst od;exact h3 ⟨k,p,ch,q.lk,q.owns p zG,Ls⟩;rw [if_neg e] at od;exact h3 ⟨k,p,c0,od,zG,Ls⟩;by_cases e:k=c;subst e;have dB:=(cz.of (ch:=gV) (by rw [aw,if_pos rfl])).1 hl;obtain ⟨bF,e1,e2⟩:=q.shape t xs dB;exact ⟨bF,(cz.of q.lk).2 e1,e2⟩;refine ⟨xs,?_,rfl⟩;unfold cz at hl⊢;rw [aw,if_neg e] at hl;exact hl;rw [aw] at hl;by_cases e:k=c;subst e;rw [if_pos rfl] at hl;injection hl with hl;obtain ⟨xs,e1,e2⟩:=q.rows t bF hl;exact ⟨xs,by rw [q.lk,e1],e2,fun i o b' arr hg hb=>q.cg hb⟩;rw [if_neg e] at hl;exact ⟨bF,hl,bu.refl _ _,fun i o b' arr hg hb=>q.cg hb⟩
theorem bD.N8 (h:bD cx g st a w){c b:Nat}{p0:List Nat}{ch gV:Chunk}(q:H0 g st w w' c b p0 ch gV)(hc:gU g ((c,gV)::st.mem) (cx.safe g ((c,gV)::st.mem) w') w' (g.f c) gV):bD cx g (st.gZ ((c,gV)::st.mem) st.nx) a w':=by
 have t:u9 cx g g st.mem ((c,gV)::st.mem) w w' [b]:=by
  refine ⟨q.ar,fun b' hb=>by simp at hb;subst hb;exact ⟨c,p0,ch,q.lk,q.Fk,q.at_⟩,fun _ _=>rfl,fun k c0 ho=> ?_,fun k c0 ho fR=> ?_⟩;by_cases e:k=c;subst e;rw [q.lk] at ho;injection ho with ho;subst ho;exact .inr (.inr ⟨Chunk.nw q.Fk,gV,by rw [aw,if_pos rfl],q.ng,q.owns,q.shape,q.rows,fun p b2 mc _ sL oP=>q.cg oP,hc⟩);refine .inl ⟨by rw [aw,if_neg e];exact ho,fun p b2 zG sL hm=> ?_⟩;simp at hm;subst hm;exact e (h.eH k c p p0 c0 ch b2 ho zG q.lk q.Fk sL q.at_).1;rw [aw] at fR;by_cases e:k=c;subst e;rw [q.lk] at ho;cases ho;rw [if_neg e,ho] at fR;cases fR
 exact h.tV t
def Bi (cx:Cx)(st:St)(a:Act)(w:World)(s:Sem Unit)(e:bm):Prop:=
 ∃w',s.run cx.P w= .ok () w'∧nk cx st a e undef w'
theorem j1 {P:Program}{T:TypeId}{n b o:Nat}{arr:Array Value}{v:Value}(hs:cc P T=some n)(hb:cg w b arr)(hn:v.cells.toList.length=n)(hle:o+n≤arr.size)(h1: ∀x∈v.cells.toList,x.oneCell'=true):
 ∃w' aA,(Instr.storeAt T (.pointer (some ⟨b,o,none⟩)) v).run P w= .ok () w'∧cg w' b aA∧aA.toList=arr.toList.take o++v.cells.toList++arr.toList.drop (o+n)∧aH [b] w w'∧aA.size=arr.size:=by
 obtain ⟨w',aA,e,k1,k2,k3,k4⟩:=dU (P:=P) v.cells.toList o 0 w arr hb (by omega) h1;simp only [Nat.add_zero] at k2;rw [hn] at k2;refine ⟨w',aA,?_,k1,k2,k3,?_⟩;have cY:v.cells.size=n:=by rw [←Array.length_toList];exact hn
 simp [Instr.storeAt,Instr.sureAddr,storeVar,bw hs,cY,e];rw [←Array.length_toList,k2];simp [hn];omega
def CE (g:GM)(m:Mem)(S:Nat→Prop)(w:World)(γ:List Nat→Option Nat)(o:Nat)(c:aq)(v:Value):Prop:=
 match c with
 | .aB (.own e) y=>cf S w (.own e) γ o [v] y
 |c=>CR g m S w c v
def kM (g:GM)(m:Mem)(S:Nat→Prop)(w:World)(γ:List Nat→Option Nat):Nat→List aq→List Value→Prop
 |_,[],[]=>True
 |o,c::cs,v::vs=>CE g m S w γ o c v∧kM g m S w γ (o+1) cs vs
 |_,_,_=>False
section
variable {m:Mem} {S:Nat→Prop} {γ:List Nat→Option Nat}
theorem kM.append: ∀{o:Nat} {cs ds:List aq} {vs us:List Value},kM g m S w γ o cs vs→kM g m S w γ (o+cs.length) ds us→kM g m S w γ o (cs++ds) (vs++us)
 |_,[],_,[],_,_,h=>h
 |o,_::cs,_,_::_,_,h,h'=>⟨h.1,kM.append h.2 (by rw [show o+1+cs.length=o+(cs.length+1) from by omega];exact h')⟩
 |_,[],_,_::_,_,h,_=>h.elim
 |_,_::_,_,[],_,h,_=>h.elim
theorem kM.take: ∀(n:Nat) {o:Nat} {cs:List aq} {vs:List Value},kM g m S w γ o cs vs→kM g m S w γ o (cs.take n) (vs.take n)
 |0,_,_,_,_=>by simp [kM]
 |_+1,_,[],[],_=>by simp [kM]
 |n+1,_,_::_,_::_,h=>⟨h.1,kM.take n h.2⟩
 |_+1,_,[],_::_,h=>h.elim
 |_+1,_,_::_,[],h=>h.elim
theorem kM.drop: ∀(n:Nat) {o:Nat} {cs:List aq} {vs:List Value},kM g m S w γ o cs vs→kM g m S w γ (o+n) (cs.drop n) (vs.drop n)
 |0,_,_,_,h=>by simpa using h
 |n+1,o,[],[],_=>by simp [kM]
 |n+1,o,_::_,_::_,h=>by
  have:=kM.drop n h.2;rw [show o+1+n=o+(n+1) from by omega] at this;simpa using this
 |_+1,_,[],_::_,h=>h.elim
 |_+1,_,_::_,[],h=>h.elim
theorem CE.of {o:Nat}{c:aq}{v:Value}(hf:c.HL=true)(h:CR g m S w c v):CE g m S w γ o c v:=by
 unfold CE;split;cases hf;exact h
theorem kM.Fl: ∀{o:Nat} {cs:List aq} {vs:List Value},cs.all aq.HL=true→aK (CR g m S w) cs vs→kM g m S w γ o cs vs
 |_,[],[],_,_=>trivial
 |_,_::_,_::_,hf,h=>by
  simp only [List.all_cons,Bool.and_eq_true] at hf;exact ⟨CE.of hf.1 h.1,kM.Fl hf.2 h.2⟩
 |_,[],_::_,_,h=>h.elim
 |_,_::_,[],_,h=>h.elim
theorem j3: ∀(t:Ty) (x:t.D),(fx t x).length=t.size
 | .int _,_=>rfl
 | .cD _,_=>rfl
 | .bool,_=>rfl
 | .str,_=>rfl
 | .sl _,_=>rfl
 | .bx _,_=>rfl
 | .cl _ _,_=>rfl
 | .own _,_=>rfl
 | .pair a b,x=>by simp only [fx,List.length_append,j3 a,j3 b,Ty.size]
 | .st t,x=>j3 t x
theorem zH: ∀(t:Ty) {o:Nat} {cs:List Value} {x:t.D},cf S w t γ o cs x→kM g m S w γ o (fx t x) cs
 | .int _,_,_,_,h=>by have h:=h;subst h;exact ⟨rfl,trivial⟩
 | .cD _,_,_,_,⟨b,e,h⟩=>by subst e;exact ⟨⟨b,rfl,h⟩,trivial⟩
 | .bool,_,_,_,h=>by have h:=h;subst h;exact ⟨rfl,trivial⟩
 | .str,_,_,_,h=>by have h:=h;subst h;exact ⟨rfl,trivial⟩
 | .sl t,_,_,_,⟨a,cap,e,h⟩=>by subst e;exact ⟨⟨a,cap,rfl,h⟩,trivial⟩
 | .bx t,_,_,_,⟨a,e,h⟩=>by subst e;exact ⟨⟨a,rfl,h⟩,trivial⟩
 | .cl f t,_,_,_,⟨vs,ps,e,h⟩=>by subst e;exact ⟨⟨vs,ps,rfl,h⟩,trivial⟩
 | .own t,_,_,_,⟨v,e,h⟩=>by subst e;exact ⟨⟨v,rfl,h⟩,trivial⟩
 | .pair a b,o,_,x,⟨c1,c2,e,h1,h2⟩=>by
  subst e;exact (zH a h1).append (by rw [j3];exact zH b h2)
 | .st t,_,_,_,h=>zH t (cs:=_) h
theorem oV {t:Ty}(ht: ∀e,Ty.own e≠t)(h1:t.size=1){o:Nat}{cs:List aq}{x:t.D}{r:List aq}{vs:List Value}(h:b9 [] t cs=some (x,r))(hr:kM g m S w γ o cs vs):
 ∃v1 v2,vs=v1++v2∧aR S w t v1 x∧kM g m S w γ (o+t.size) r v2:=by
 cases cs with
 |nil=>simp [b9] at h
 |cons c cs=>
  cases vs with
  |nil=>exact hr.elim
  |cons v vs=>
   simp only [b9] at h;split at h;rename_i y hy;injection h with h;injection h with e1 e2;subst e1;subst e2;refine ⟨[v],vs,rfl,?_,by rw [h1];exact hr.2⟩;have hc:=hr.1;unfold CE at hc;split at hc;simp only [cI] at hy;split at hy;rename_i e;exact absurd e (ht _);cases hy;exact pP (fun _ h=>h) gr.nil hy hc;cases h
theorem zI: ∀(t:Ty) {o:Nat} {cs:List aq} {x:t.D} {r:List aq} {vs:List Value},impl [] t cs=some (x,r)→kM g m S w γ o cs vs→
 ∃v1 v2,vs=v1++v2∧cf S w t γ o v1 x∧kM g m S w γ (o+t.size) r v2
 | .int k,_,_,_,_,_,h,hr=>oV (t:= .int k) (fun _ e=>by cases e) rfl h hr
 | .cD k,_,_,_,_,_,h,hr=>oV (t:= .cD k) (fun _ e=>by cases e) rfl h hr
 | .bool,_,_,_,_,_,h,hr=>oV (t:= .bool) (fun _ e=>by cases e) rfl h hr
 | .str,_,_,_,_,_,h,hr=>oV (t:= .str) (fun _ e=>by cases e) rfl h hr
 | .sl t,_,_,_,_,_,h,hr=>oV (t:= .sl t) (fun _ e=>by cases e) rfl h hr
 | .bx t,_,_,_,_,_,h,hr=>oV (t:= .bx t) (fun _ e=>by cases e) rfl h hr
 | .cl f t,_,_,_,_,_,h,hr=>oV (t:= .cl f t) (fun _ e=>by cases e) rfl h hr
 | .own t,o,cs,x,r,vs,h,hr=>by
  simp only [impl] at h;cases cs with
  |nil=>simp [b9] at h
  |cons c cs=>
   cases vs with
   |nil=>exact hr.elim
   |cons v vs=>
    simp only [b9] at h;split at h;rename_i y hy;injection h with h;injection h with e1 e2;subst e1;subst e2;refine ⟨[v],vs,rfl,?_,hr.2⟩;cases c<;>simp only [cI] at hy<;>first|cases hy|skip
    rename_i t' q;split at hy;rename_i e;subst e;injection hy with hy;subst hy;exact hr.1;cases hy;cases h
 | .st t,_,_,_,_,_,h,hr=>zI t h hr
 | .pair a b,o,cs,x,r,vs,h,hr=>by
  simp only [impl] at h;split at h;rename_i y r1 h1;split at h;rename_i z r2 h2;injection h with h;injection h with e1 e2;subst e1;subst e2;obtain ⟨v1,v2,rfl,k1,k2⟩:=zI a h1 hr;obtain ⟨v3,v4,rfl,k3,k4⟩:=zI b h2 k2;refine ⟨v1++v3,v4,by simp,⟨v1,v3,rfl,k1,k3⟩,?_⟩;rw [show o+(Ty.pair a b).size=o+a.size+b.size from by simp only [Ty.size];omega];exact k4;cases h;cases h
end
theorem Dw {arr aA:Array Value}{A7 vs:List Value}{i sz off n:Nat}(hl:A7.length=sz)(zJ: ∀j v,A7[j]? =some v→arr[i*sz+j]? =some v)(XC:vs.length=n)(hle:off+n≤sz)(gC:i*sz+sz≤arr.size)(k2:aA.toList=arr.toList.take (i*sz+off)++vs++arr.toList.drop (i*sz+off+n)): ∀j v,(A7.take off++vs++A7.drop (off+n))[j]? =some v→aA[i*sz+j]? =some v:=by
 intro j v hv;have hj:j<sz:=by
  have:=(List.getElem?_eq_some_iff.1 hv).1;simp at this;omega
 have hold: ∀j,j<sz→arr.toList[i*sz+j]? =A7[j]? :=fun j hj=>by
  rw [List.getElem?_eq_getElem (by omega:j<A7.length),Array.getElem?_toList];exact zJ j _ (List.getElem?_eq_getElem (by omega))
 rw [←Array.getElem?_toList,k2,←hv];by_cases h1:j<off;rw [List.append_assoc,List.getElem?_append_left (by simp;omega),List.getElem?_take,if_pos (by omega),List.append_assoc,List.getElem?_append_left (by simp;omega),List.getElem?_take,if_pos h1];exact hold j hj;by_cases h2:j<off+n;rw [List.append_assoc,List.getElem?_append_right (by simp;omega),List.getElem?_append_left (by simp;omega),List.append_assoc,List.getElem?_append_right (by simp;omega),List.getElem?_append_left (by simp;omega)]
 congr 1
 simp;omega;rw [List.getElem?_append_right (by simp;omega),List.getElem?_append_right (by simp;omega),List.getElem?_drop,List.getElem?_drop];simp only [List.length_append,List.length_take,Array.length_toList,XC];rw [show i*sz+off+n+(i*sz+j - (min (i*sz+off) arr.size+n))=i*sz+j by omega,show off+n+(j - (min off A7.length+n))=j by omega];exact hold j hj
theorem zK {arr aA:Array Value}{vs:List Value}{i sz off n:Nat}(XC:vs.length=n)(hle:off+n≤sz)(gC:i*sz+sz≤arr.size)(k2:aA.toList=arr.toList.take (i*sz+off)++vs++arr.toList.drop (i*sz+off+n)){q:Nat}(hq:q≠i){j:Nat}(hj:j<sz):aA[q*sz+j]? =arr[q*sz+j]? :=by
 rw [←Array.getElem?_toList,←Array.getElem?_toList,k2];by_cases hlt:q<i;have:(q+1)*sz≤i*sz:=Nat.mul_le_mul_right _ (by omega);rw [Nat.add_mul] at this;rw [List.append_assoc,List.getElem?_append_left (by simp;omega),List.getElem?_take,if_pos (by omega)];have:(i+1)*sz≤q*sz:=Nat.mul_le_mul_right _ (by omega);rw [Nat.add_mul] at this;rw [List.getElem?_append_right (by simp;omega),List.getElem?_drop]
 congr 1
 simp;omega
theorem Dx {arr:Array Value}{es:List Value}{i sz:Nat}(hz:0<sz)(hl:es.length=sz)(hc: ∀j v,es[j]? =some v→arr[i*sz+j]? =some v):i*sz+sz≤arr.size:=by
 have:=hc (sz - 1) es[sz - 1] (List.getElem?_eq_getElem (by omega));have:=(Array.getElem?_eq_some_iff.1 this).1;omega
theorem qH {t t':Ty}{xs:List t.D}{bF:List t'.D}(h:(Chunk.seq t xs).vQ t' bF): ∃e:t=t',e▸xs=bF:=by
 rcases h with h|⟨_,_,_,h⟩
 injection h with e1 e2;subst e1;exact ⟨rfl,eq_of_heq e2⟩;cases h
theorem hU {m:Mem}{t:Ty}{cs:List aq}{x:t.D}{r:List aq}(h:b9 m t cs=some (x,r)):r=cs.drop 1:=by
 cases cs with
 |nil=>simp [b9] at h
 |cons c cs=>
  simp only [b9] at h;split at h;injection h with h;injection h with _ h;exact h.symm
  cases h
theorem qI {m:Mem}: ∀(t:Ty) {cs:List aq} {x:t.D} {r:List aq},impl m t cs=some (x,r)→r=cs.drop t.size
 | .int k,_,_,_,h=>hU (t:= .int k) h
 | .cD k,_,_,_,h=>hU (t:= .cD k) h
 | .bool,_,_,_,h=>hU (t:= .bool) h
 | .str,_,_,_,h=>hU (t:= .str) h
 | .sl t,_,_,_,h=>hU (t:= .sl t) h
 | .bx t,_,_,_,h=>hU (t:= .bx t) h
 | .cl f t,_,_,_,h=>hU (t:= .cl f t) h
 | .own t,_,_,_,h=>hU (t:= .own t) h
 | .st t,_,_,_,h=>qI t h
 | .pair a b,cs,x,r,h=>by
  simp only [impl] at h;split at h;rename_i y r1 h1;split at h;rename_i z r2 h2;injection h with h;injection h with _ e2;subst e2;rw [qI b h2,qI a h1,List.drop_drop];rfl;cases h;cases h
theorem qJ: ∀(t:Ty) {cs:List aq} {x:t.D} {r:List aq} {o:Nat} {e:Ty} {ys:List e.D},impl [] t cs=some (x,r)→cW t x o=some ⟨e,ys⟩→cs[o]? =some (.aB (.own e) ys)
 | .int _,_,_,_,_,_,_,_,hs=>by cases hs
 | .cD _,_,_,_,_,_,_,_,hs=>by cases hs
 | .bool,_,_,_,_,_,_,_,hs=>by cases hs
 | .str,_,_,_,_,_,_,_,hs=>by cases hs
 | .sl _,_,_,_,_,_,_,_,hs=>by cases hs
 | .bx _,_,_,_,_,_,_,_,hs=>by cases hs
 | .cl _ _,_,_,_,_,_,_,_,hs=>by cases hs
 | .st t,_,x,_,_,_,_,h,hs=>qJ t (x:=x) h hs
 | .own t,cs,x,r,o,e,ys,h,hs=>by
  cases o with
  |succ o=>cases hs
  |zero=>
   have hs:some (⟨t,x⟩:Σ e:Ty,List e.D)=some ⟨e,ys⟩:=hs;injection hs with hs;injection hs with h1 h2;subst h1;have h2:=eq_of_heq h2;subst h2;simp only [impl] at h;cases cs with
   |nil=>simp [b9] at h
   |cons c cs=>
    simp only [b9] at h;split at h;rename_i y hy;injection h with h;injection h with e1 _;subst e1;cases c<;>simp only [cI] at hy<;>first|cases hy|skip
    rename_i t' q;split at hy;rename_i e;subst e;injection hy with hy;subst hy;rfl;cases hy;cases h
 | .pair a b,cs,x,r,o,e,ys,h,hs=>by
  simp only [impl] at h;split at h;rename_i y r1 h1;split at h;rename_i z r2 h2;injection h with h;injection h with e1 e2;subst e1;unfold cW at hs;by_cases hb:o<a.size;rw [mh.2 hb] at hs;exact qJ a h1 hs;rw [jM hb] at hs;have:=qJ b h2 hs;rw [qI a h1,List.getElem?_drop,show a.size+(o - a.size)=o from by omega] at this;exact this;cases h;cases h
theorem qK: ∀(t:Ty) {x:t.D} {o:Nat} {e:Ty} {ys:List e.D},(fx t x)[o]? =some (.aB (.own e) ys)→cW t x o=some ⟨e,ys⟩
 | .int _,x,o,e,ys,h=>by cases o<;>simp [fx] at h
 | .cD _,x,o,e,ys,h=>by cases o<;>simp [fx] at h
 | .bool,x,o,e,ys,h=>by cases o<;>simp [fx] at h
 | .str,x,o,e,ys,h=>by cases o<;>simp [fx] at h
 | .sl _,x,o,e,ys,h=>by cases o<;>simp [fx] at h
 | .bx _,x,o,e,ys,h=>by cases o<;>simp [fx] at h
 | .cl _ _,x,o,e,ys,h=>by cases o<;>simp [fx] at h
 | .st t,x,o,e,ys,h=>qK t (x:=x) h
 | .own t,x,o,e,ys,h=>by
  cases o with
  |succ o=>simp [fx] at h
  |zero=>
   simp only [fx,List.getElem?_cons_zero] at h;injection h with h;injection h with h1 h2;injection h1 with h1;subst h1;have h2:=eq_of_heq h2;subst h2;rfl
 | .pair a b,x,o,e,ys,h=>by
  unfold cW;simp only [fx] at h;by_cases hb:o<a.size;rw [mh.2 hb];rw [List.getElem?_append_left (by rw [j3];exact hb)] at h;exact qK a h;rw [jM hb];rw [List.getElem?_append_right (by rw [j3];omega),j3] at h;exact qK b h
theorem Dy {t:Ty}{x0 x:t.D}{cs:List aq}{off:Nat}(hf:cs.all aq.HL=true)(hle:off+cs.length≤t.size)(h:impl [] t ((fx t x0).take off++cs++(fx t x0).drop (off+cs.length))=some (x,[])){o:Nat}{e:Ty}{ys:List e.D}(hs:cW t x o=some ⟨e,ys⟩):
 cW t x0 o=some ⟨e,ys⟩:=by
 have:=qJ t h hs;apply qK;have hl:=j3 t x0;by_cases h1:o<off;rw [List.append_assoc,List.getElem?_append_left (by simp;omega),List.getElem?_take,if_pos h1] at this;exact this;by_cases h2:o<off+cs.length;rw [List.append_assoc,List.getElem?_append_right (by simp;omega),List.getElem?_append_left (by simp;omega)] at this;have:=List.all_eq_true.1 hf _ (List.mem_of_getElem? this);cases this;rw [List.getElem?_append_right (by simp;omega),List.getElem?_drop] at this;simp only [List.length_append,List.length_take,hl] at this;rw [show off+cs.length+(o - (min off t.size+cs.length))=o from by omega] at this;exact this
theorem cf.Bj {S S':Nat→Prop}{w w':World}(h: ∀b,S b→S' b∧w'.heap[b]? =w.heap[b]?): ∀(t:Ty) {γ:List Nat→Option Nat} {o:Nat} {cs:List Value} {x:t.D},
 (∀q p b,o≤q→q<o+t.size→γ (q::p)=some b→w'.heap[b]? =w.heap[b]?)→cf S w t γ o cs x→cf S' w' t γ o cs x
 | .own t,γ,o,cs,xs,hγ,⟨v,e,ha,hr⟩=>by
  have hγ:=fun p b=>hγ o p b (Nat.le_refl _) (by simp [Ty.size]);refine ⟨v,e,ha.stays fun b arr hg hb=>⟨arr,hb.ar (hγ _ b hg),rfl⟩,?_⟩;cases hg:γ [o] with
  |none=>rw [hg] at hr;exact hr
  |some b=>
   rw [hg] at hr;obtain ⟨arr,hb,hi⟩:=hr;exact ⟨arr,hb.ar (hγ _ b hg),fun i hl=>let ⟨es,h1,h2⟩:=hi i hl;⟨es,h1,cf.ar h t (fun p b hp=>hγ _ b hp) h2⟩⟩
 | .pair a b,γ,o,cs,x,hγ,⟨c1,c2,e,h1,h2⟩=>⟨c1,c2,e,cf.Bj h a (fun q p b' h1 h2=>hγ q p b' h1 (by simp only [Ty.size];omega)) h1,cf.Bj h b (fun q p b' h1 h2=>hγ q p b' (by omega) (by simp only [Ty.size];omega)) h2⟩
 | .st t,γ,o,cs,x,hγ,hr=>cf.Bj h t (o:=o) (cs:=cs) (x:=x) hγ hr
 | .int k,_,_,cs,x,_,hr=>aR.ar h (.int k) cs x hr
 | .cD k,_,_,cs,x,_,hr=>aR.ar h (.cD k) cs x hr
 | .bool,_,_,cs,x,_,hr=>aR.ar h .bool cs x hr
 | .str,_,_,cs,x,_,hr=>aR.ar h .str cs x hr
 | .sl t,_,_,cs,x,_,hr=>aR.ar h (.sl t) cs x hr
 | .bx t,_,_,cs,x,_,hr=>aR.ar h (.bx t) cs x hr
 | .cl f t,_,_,cs,x,_,hr=>aR.ar h (.cl f t) cs x hr
theorem cf.put {S S':Nat→Prop}{w w':World}(h: ∀b,S b→S' b∧w'.heap[b]? =w.heap[b]?): ∀(t:Ty) {γ:List Nat→Option Nat} {o0 o:Nat} {cs:List Value} {x:t.D} {e:Ty} {ys sD:List e.D},
 cf S w t γ o0 cs x→cW t x o=some ⟨e,ys⟩→(∀q p b,q≠o0+o→γ (q::p)=some b→w'.heap[b]? =w.heap[b]?)→
 (∀u,cf S w (.own e) γ (o0+o) [u] ys→cf S' w' (.own e) γ (o0+o) [u] sD)→cf S' w' t γ o0 cs (tT t x o e sD)
 | .own t,γ,o0,o,cs,xs,e,ys,sD,hr,hs,hγ,hn=>by
  cases o with
  |succ o=>cases hs
  |zero=>
   have hs:some (⟨t,xs⟩:Σ e:Ty,List e.D)=some ⟨e,ys⟩:=hs;injection hs with hs;injection hs with h1 h2;subst h1;have h2:=eq_of_heq h2;subst h2;have hp:tT (.own t) xs 0 t sD=sD:=by simp [tT,bA]
   rw [hp];obtain ⟨v,e,h3⟩:=hr;subst e;exact hn v ⟨v,rfl,h3⟩
 | .pair a b,γ,o0,o,cs,x,e,ys,sD,⟨c1,c2,ec,h1,h2⟩,hs,hγ,hn=>by
  unfold cW at hs;unfold tT;by_cases hb:o<a.size;rw [mh.2 hb] at hs⊢;exact ⟨c1,c2,ec,cf.put h a h1 hs hγ hn,cf.Bj h b (fun q p b' k1 k2 hp=>hγ q p b' (by omega) hp) h2⟩;rw [jM hb] at hs⊢;refine ⟨c1,c2,ec,cf.Bj h a (fun q p b' k1 k2 hp=>hγ q p b' (by omega) hp) h1,cf.put h b h2 hs (fun q p b' k hp=>hγ q p b' (by omega) hp) ?_⟩;rw [show o0+a.size+(o - a.size)=o0+o from by omega];exact hn
 | .st t,γ,o0,o,cs,x,e,ys,sD,hr,hs,hγ,hn=>cf.put h t (cs:=cs) (x:=x) hr hs hγ hn
 | .int _,_,_,_,_,_,_,_,_,_,hs,_,_=>by cases hs
 | .cD _,_,_,_,_,_,_,_,_,_,hs,_,_=>by cases hs
 | .bool,_,_,_,_,_,_,_,_,_,hs,_,_=>by cases hs
 | .str,_,_,_,_,_,_,_,_,_,hs,_,_=>by cases hs
 | .sl _,_,_,_,_,_,_,_,_,_,hs,_,_=>by cases hs
 | .bx _,_,_,_,_,_,_,_,_,_,hs,_,_=>by cases hs
 | .cl _ _,_,_,_,_,_,_,_,_,_,hs,_,_=>by cases hs
theorem qL: ∀(t:Ty) {x:t.D} {o o':Nat} {e e':Ty} {ys sD:List e.D} {zs:List e'.D},cW t x o=some ⟨e,ys⟩→sD.length=ys.length→cW t (tT t x o e sD) o'=some ⟨e',zs⟩→
 ∃XD,cW t x o'=some ⟨e',XD⟩∧XD.length=zs.length
 | .own t,x,o,o',e,e',ys,sD,zs,hs,hl,h=>by
  cases o with
  |succ o=>cases hs
  |zero=>
   cases o' with
   |succ o'=>cases h
   |zero=>
    have hs:some (⟨t,x⟩:Σ e:Ty,List e.D)=some ⟨e,ys⟩:=hs;injection hs with hs;injection hs with h1 h2;subst h1;have h2:=eq_of_heq h2;subst h2;have hp:tT (.own t) x 0 t sD=sD:=by simp [tT,bA]
    rw [hp] at h;have h:some (⟨t,sD⟩:Σ e:Ty,List e.D)=some ⟨e',zs⟩:=h;injection h with h;injection h with h1 h2;subst h1;have h2:=eq_of_heq h2;subst h2;exact ⟨x,rfl,hl.symm⟩
 | .pair a b,x,o,o',e,e',ys,sD,zs,hs,hl,h=>by
  unfold cW at hs h⊢;unfold tT at h;by_cases hb:o<a.size;rw [mh.2 hb] at hs h;by_cases iE:o'<a.size;rw [mh.2 iE] at h⊢;exact qL a hs hl h;rw [jM iE] at h⊢;exact ⟨zs,h,rfl⟩;rw [jM hb] at hs h;by_cases iE:o'<a.size;rw [mh.2 iE] at h⊢;exact ⟨zs,h,rfl⟩;rw [jM iE] at h⊢;exact qL b hs hl h
 | .st t,x,o,o',e,e',ys,sD,zs,hs,hl,h=>qL t (x:=x) hs hl h
 | .int _,_,_,_,_,_,_,_,_,hs,_,_=>by cases hs
 | .cD _,_,_,_,_,_,_,_,_,hs,_,_=>by cases hs
 | .bool,_,_,_,_,_,_,_,_,hs,_,_=>by cases hs
 | .str,_,_,_,_,_,_,_,_,hs,_,_=>by cases hs
 | .sl _,_,_,_,_,_,_,_,_,hs,_,_=>by cases hs
 | .bx _,_,_,_,_,_,_,_,_,hs,_,_=>by cases hs
 | .cl _ _,_,_,_,_,_,_,_,_,hs,_,_=>by cases hs
theorem sV {T:TypeId}{x v:au}{e:bm}{xa va:Value}(h:bD cx g st a w)(he:oQ cx.P st.mem T x v=some e)(hc:aS e.cond)(hx:VR g st.mem (cx.safe g st.mem w) w x xa)(hv:VR g st.mem (cx.safe g st.mem w) w v va):Bi cx st a w (Instr.storeAt T xa va) e:=by
 unfold oQ at he;split at he;rename_i c off n hs;split at he;rename_i cs hl;cases hb:((Nat.beq v.cells.length n&&Nat.ble (off+n) cs.length)&&v.ok) with
 |false=>simp [hb] at he
 |true=>
  rw [hb] at he;simp only [cond_true] at he;simp only [Bool.and_eq_true] at hb;obtain ⟨⟨hn,hle⟩,jz⟩:=hb;have hn:=aO hn;have hle:=gB hle;injection he with he;subst he;obtain ⟨_,b',gb,N9⟩:=hx;subst N9;obtain ⟨b,arr,hg,cm,aP⟩:=h.mem c _ hl;have gb:g.f c []=some b':=gb;rw [hg] at gb;injection gb with gb;subst gb;obtain ⟨vs,xO,gL⟩:=iG jz hv;have QT:=gL.length;have kD:=aP.length;simp only [Array.length_toList] at kD;obtain ⟨w',aA,fS,k1,k2,k3,k4⟩:=j1 (P:=cx.P) (o:=off) hs cm (v:=va) (by rw [xO];omega) (by omega) (oT jz hv);have q:H0 g st w w' c b [] (.box cs) (.box (cs.take off++v.cells++cs.drop (off+n))):=
   ⟨hl,trivial,hg,k3,⟨arr,aA,cm,k1,k4⟩,fun _ _=>trivial,by simp,fun t xs e=>(by rcases e with e|⟨_,_,_,e⟩<;>cases e),fun t xs e=>(by cases e)⟩
  refine ⟨w',fS,g,?_,trivial⟩;refine h.N8 q ⟨b,aA,hg,k1,?_⟩;rw [k2,xO];exact (((aP.take off).append gL).append (aP.drop _)).mono fun _ _=>CR.stays q.stays
 cases he;rename_i c i sz off n hs;split at he;rename_i t xs hl;cases hb:((Nat.beq v.cells.length n&&Nat.ble (off+n) t.size)&&(Nat.beq sz t.size&&v.ok)&&v.cells.all aq.HL) with
 |false=>simp [hb] at he
 |true=>
  rw [hb] at he;simp only [cond_true] at he;simp only [Bool.and_eq_true] at hb;obtain ⟨⟨⟨hn,hle⟩,hz,jz⟩,M7⟩:=hb;have hn:=aO hn;have hle:=gB hle;have hz:=aO hz;split at he;rename_i x Ud;injection he with he;subst he;have hi:i<xs.length:=hc.1;obtain ⟨_,b,gb,N9⟩:=hx;subst N9;have bK:=h.mem c _ hl;have hg:g.f c []=some b:=gb;unfold gU at bK;rw [hg] at bK;obtain ⟨arr,cm,fA⟩:=bK;obtain ⟨A7,tP,zJ,KZ⟩:=fA.at_ hi;obtain ⟨vs,xO,gL⟩:=iG jz hv;have QT:=gL.length;have Bk:=zH (g:=g) (m:=st.mem) t KZ;have hE:kM g st.mem (cx.safe g st.mem w) w (fun p=>g.f c (i::p)) 0 ((fx t (xs.getD i t.dH)).take off++v.cells++(fx t (xs.getD i t.dH)).drop (off+n)) (A7.take off++vs++A7.drop (off+n)):=by
   refine ((Bk.take off).append (kM.Fl M7 gL)).append ?_;have:=Bk.drop (off+n);rw [show 0+(List.take off (fx t (xs.getD i t.dH))++v.cells).length=0+(off+n) from by simp [j3,hn];omega];exact this
  obtain ⟨cs,v2,RH,bf,Oa⟩:=zI t Ud hE;have:v2=[]:=by cases v2 with|nil=>rfl|cons=>exact Oa.elim
  subst this;rw [List.append_nil] at RH;have gC:=Dx t.size_pos tP zJ;subst hz;obtain ⟨w',aA,fS,k1,k2,k3,k4⟩:=j1 (P:=cx.P) (o:=i*t.size+off) hs cm (v:=va) (by rw [xO];omega) (by omega) (oT jz hv);rw [xO] at k2;have q:H0 g st w w' c b [] (.seq t xs) (.seq t (xs.set i x)):=
   ⟨hl,trivial,hg,k3,⟨arr,aA,cm,k1,k4⟩,fun _ _=>trivial,by simp,fun t' bF e=>by
    obtain ⟨e,e2⟩:=qH e;subst e;subst e2;exact ⟨xs,.inl rfl,by simp⟩,fun t' bF e=>by
    injection e with e1 e2;subst e1;have e2:=eq_of_heq e2;subst e2;refine ⟨xs,rfl,by simp,fun q o e sD db=> ?_⟩;by_cases Dz:q=i;subst Dz;rw [show (xs.set q x).getD q t.dH=x from by simp [List.getD,hi]] at db;exact ⟨sD,Dy M7 (by rw [hn];exact hle) (by rw [hn];exact Ud) db,rfl⟩;rw [show (xs.set i x).getD q t.dH=xs.getD q t.dH from by simp [List.getD,List.getElem?_set_ne (fun e=>Dz e.symm)]] at db;exact ⟨sD,db,rfl⟩⟩
  refine ⟨w',fS,g,?_,trivial⟩;refine h.N8 q ?_;unfold gU;rw [hg];have df: ∀p b',g.f c (p)=some b'→p≠[]→w'.heap[b']? =w.heap[b']? :=fun p b' hp cX=>by
   refine k3.block b' (h.lt c p _ b' hl trivial hp) ?_;intro hm;simp at hm;subst hm;exact cX (h.eH c c p [] _ _ b' hl trivial hl trivial hp hg).2
  refine ⟨aA,k1,fun qq hq=> ?_⟩;have QU:qq<xs.length:=by simpa using hq
  by_cases Dz:qq=i;subst Dz;refine ⟨cs,?_,?_⟩;rw [←RH];exact Dw tP zJ (by omega) hle gC k2;rw [List.getElem_set_self];exact cf.ar q.stays.safe t (fun p b' hp=>df _ b' hp (by simp)) bf;obtain ⟨es,e1,e2⟩:=fA qq QU;have yJ:=cf.len t e2;refine ⟨es,fun j u hu=> ?_,by rw [List.getElem_set_ne (fun e=>Dz e.symm)];exact cf.ar q.stays.safe t (fun p b' hp=>df _ b' hp (by simp)) e2⟩;rw [zK (by omega) hle gC k2 Dz (by rw [←yJ];exact (List.getElem?_eq_some_iff.1 hu).1)];exact e1 j u hu;cases he
 rename_i t xs jj kI ks hl;cases hb:((Nat.beq v.cells.length n&&Nat.ble (off+n) t.size)&&(Nat.beq sz t.size&&v.ok)) with
 |false=>simp [hb] at he
 |true=>
  rw [hb] at he;simp only [cond_true] at he;simp only [Bool.and_eq_true] at hb;obtain ⟨⟨hn,hle⟩,hz,jz⟩:=hb;have hn:=aO hn;have hle:=gB hle;have hz:=aO hz;injection he with he;subst he;have Be:i=jj:=hc.1;subst Be;obtain ⟨_,b',gb,N9⟩:=hx;subst N9;obtain ⟨E7,b,arr,hg,cm,hi,Lt,A7,tP,zJ,aP⟩:=h.mem c _ hl;have gb:g.f c []=some b':=gb;rw [hg] at gb;injection gb with gb;subst gb;obtain ⟨vs,xO,gL⟩:=iG jz hv;have QT:=gL.length;have kD:=aP.length;have gC:=Dx t.size_pos tP zJ;subst hz;obtain ⟨w',aA,fS,k1,k2,k3,k4⟩:=j1 (P:=cx.P) (o:=i*t.size+off) hs cm (v:=va) (by rw [xO];omega) (by omega) (oT jz hv);rw [xO] at k2;have XE:(Chunk.nu t xs i kI ks).owns []:=by intro o r e;cases e
  have q:H0 g st w w' c b [] (.nu t xs i kI ks) (.nu t xs i (kI.take off++v.cells++kI.drop (off+n)) ks):=
   ⟨hl,XE,hg,k3,⟨arr,aA,cm,k1,k4⟩,fun _ hp=>hp,by simp,fun t' bF e=>(by
    rcases e with e|⟨_,_,_,e⟩
    cases e;injection e with e1 e2;subst e1;have e2:=eq_of_heq e2;subst e2;exact ⟨xs,.inr ⟨_,_,_,rfl⟩,rfl⟩),fun t' bF e=>(by cases e)⟩
  refine ⟨w',fS,g,?_,trivial⟩;refine h.N8 q ?_;have df: ∀j p b',j≠i→g.f c (j::p)=some b'→w'.heap[b']? =w.heap[b']? :=fun j p b' cX hp=>by
   have ho:(Chunk.nu t xs i kI ks).owns (j::p):=by intro o r e;injection e with e;exact absurd e cX
   refine k3.block b' (h.lt c _ _ b' hl ho hp) ?_;intro hm;simp at hm;subst hm;have:=(h.eH c c _ _ _ _ b' hl ho hl XE hp hg).2;cases this
  refine ⟨E7.mono fun o k hk=>⟨(q.stays (cx:=cx)).me k hk.1 |>.1,hk.2⟩,b,aA,hg,k1,hi,fun j hj cX=> ?_,A7.take off++vs++A7.drop (off+n),?_,?_,?_⟩;obtain ⟨es,e1,e2⟩:=Lt j hj cX;have yJ:=cf.len t e2;refine ⟨es,fun p u hu=> ?_,cf.ar q.stays.safe t (fun p b' hp=>df j p b' cX hp) e2⟩;rw [zK (by omega) hle gC k2 cX (by rw [←yJ];exact (List.getElem?_eq_some_iff.1 hu).1)];exact e1 p u hu;simp;omega;exact Dw tP zJ (by omega) hle gC k2;exact (((aP.take off).append gL).append (aP.drop _)).mono fun _ _=>CR.stays q.stays
 cases he;rename_i c i o j sz off n hs;split at he;rename_i t xs hl;split at he;rename_i e ys Fb;cases hb:((Nat.beq v.cells.length n&&Nat.ble (off+n) e.size)&&(Nat.beq sz e.size&&v.ok)&&e.top) with
 |false=>simp [hb] at he
 |true=>
  rw [hb] at he;simp only [cond_true] at he;simp only [Bool.and_eq_true] at hb;obtain ⟨⟨⟨hn,hle⟩,hz,jz⟩,nm⟩:=hb;have hn:=aO hn;have hle:=gB hle;have hz:=aO hz;split at he;rename_i y Ud;injection he with he;subst he;have hj:j<ys.length:=hc.1;obtain ⟨_,b,N9,QV⟩:=hx;subst N9;obtain ⟨hi,hg⟩:=QV t xs hl;have M6:=ou h.mem hl hi Fb;rw [hg] at M6;obtain ⟨arr,cm,fA⟩:=M6;obtain ⟨A7,zJ,KZ⟩:=fA j hj;have tP:=cf.len e KZ;have U9:aR (cx.safe g st.mem w) w e A7 (ys.getD j e.dH):=by rw [getD_eq hj];exact cf.rep e nm KZ
  obtain ⟨vs,xO,gL⟩:=iG jz hv;have QT:=gL.length;have Bk:aK (CR g st.mem (cx.safe g st.mem w) w) (fx e (ys.getD j e.dH)) A7:=jY e U9;obtain ⟨cs,v2,RH,bf,Oa⟩:=hH (S2:=cx.safe g st.mem w) (fun _ h=>h) gr.nil e Ud (((Bk.take off).append gL).append (Bk.drop (off+n)));have:v2=[]:=by cases v2 with|nil=>rfl|cons=>exact Oa.elim
  subst this;rw [List.append_nil] at RH;have gC:=Dx e.size_pos tP zJ;subst hz;obtain ⟨w',aA,fS,k1,k2,k3,k4⟩:=j1 (P:=cx.P) (o:=j*e.size+off) hs cm (v:=va) (by rw [xO];omega) (by omega) (oT jz hv);rw [xO] at k2;have q:H0 g st w w' c b [i,o] (.seq t xs) (.seq t (xs.set i (tT t (xs.getD i t.dH) o e (ys.set j y)))):=
   ⟨hl,trivial,hg,k3,⟨arr,aA,cm,k1,k4⟩,fun _ _=>trivial,by simp,fun t' bF e=>(by
    obtain ⟨e,e2⟩:=qH e;subst e;subst e2;exact ⟨xs,.inl rfl,by simp⟩),fun t' bF e=>(by
    injection e with e1 e2;subst e1;have e2:=eq_of_heq e2;subst e2;refine ⟨xs,rfl,by simp,fun q o' e' sD db=> ?_⟩;by_cases Dz:q=i;subst Dz;rw [show∀z,(xs.set q z).getD q t.dH=z from fun z=>by simp [List.getD,hi]] at db;exact qL t Fb (by simp) db;rw [show∀z,(xs.set i z).getD q t.dH=xs.getD q t.dH from fun z=>by simp [List.getD,List.getElem?_set_ne (fun e=>Dz e.symm)]] at db;exact ⟨sD,db,rfl⟩)⟩
  refine ⟨w',fS,g,?_,trivial⟩;refine h.N8 q ?_;have df: ∀p b',g.f c p=some b'→p≠[i,o]→w'.heap[b']? =w.heap[b']? :=fun p b' hp cX=>by
   refine k3.block b' (h.lt c p _ b' hl trivial hp) ?_;intro hm;simp at hm;subst hm;exact cX (h.eH c c p [i,o] _ _ b' hl trivial hl trivial hp hg).2
  have hJ:=(q.stays (cx:=cx)).safe;have bK:=h.mem c _ hl;unfold gU at bK⊢;cases Ls:g.f c [] with
  |none=>rw [Ls] at bK;have Va:xs=[]:=bK;subst Va;simp at hi
  |some b0=>
   rw [Ls] at bK;obtain ⟨sH,RI,RJ⟩:=bK;refine ⟨sH,RI.ar (df [] b0 Ls (by simp)),fun qq hq=> ?_⟩;have QU:qq<xs.length:=by simpa using hq
   obtain ⟨es,e1,e2⟩:=RJ qq QU;refine ⟨es,e1,?_⟩;by_cases Dz:qq=i;subst Dz;rw [List.getElem_set_self];have hd:xs.getD qq t.dH=xs[qq]:=getD_eq QU;rw [←hd] at e2;refine cf.put hJ t e2 Fb (fun r p b' hr hp=>df _ b' hp (by intro e;injection e with _ e;injection e with e _;omega)) fun u hu=> ?_;rw [Nat.zero_add] at hu⊢;obtain ⟨v1,ev,ha,_⟩:=hu;refine ⟨v1,ev,?_,?_⟩;rw [List.length_set];exact ha.stays fun b' arr1 _ iE=>q.cg iE;have DA:(fun p=>g.f c (qq::p)) [o]=some b:=hg;rw [DA];refine ⟨aA,k1,fun j' Fe=> ?_⟩;have DB:j'<ys.length:=by simpa using Fe
   by_cases Vb:j'=j;subst Vb;refine ⟨cs,?_,?_⟩;rw [←RH];exact Dw tP zJ (by omega) hle gC k2;rw [List.getElem_set_self];exact cf.pN e nm (aR.ar hJ e cs y bf);obtain ⟨XF,d1,d2⟩:=fA j' DB;have Vc:=cf.len e d2;refine ⟨XF,fun p u' Fm=> ?_,?_⟩;rw [zK (by omega) hle gC k2 Vb (by rw [←Vc];exact (List.getElem?_eq_some_iff.1 Fm).1)];exact d1 p u' Fm;rw [List.getElem_set_ne (fun e=>Vb e.symm)];exact cf.pN e nm (aR.ar hJ e XF _ (cf.rep e nm d2));rw [List.getElem_set_ne (fun e=>Dz e.symm)];exact cf.ar hJ t (fun p b' hp=>df _ b' hp (by intro e;injection e with e _;exact Dz e)) e2
  cases he
 cases he;cases he;cases he
end
end Go.Ide
namespace Go.Ide
def vd (A:List (List Nat→Option Nat))(F:List Nat):Prop:= ∀b,b∈F↔ ∃γ,γ∈A∧ ∃p,γ p=some b
def ox (A:List (List Nat→Option Nat)):Prop:=
 A.Pairwise (fun γ γ'=> ∀p q b,γ p=some b→γ' q=some b→False)∧ ∀γ,γ∈A→ ∀p q b,γ p=some b→γ q=some b→p=q
def RL (S:Nat→Prop)(w:World)(t:Ty)(v:Value)(xs:List t.D)(γ:List Nat→Option Nat):Prop:=
 ∃b cap arr,γ []=some b∧v= .slice (some ⟨b,0,none⟩) xs.length cap∧xs.length≤cap∧0<cap∧cg w b arr∧cap*t.size≤arr.size∧cap≤maxLen∧dw S w γ t xs arr
def eI (S:Nat→Prop)(w:World)(t:Ty)(cs:List Value)(xs:List t.D)(A:List (List Nat→Option Nat)):Prop:=
 (A=[fun _=>none]∧xs=[]∧ ∃a,cs=[.slice a 0 0])∨ ∃v γ,A=[γ]∧cs=[v]∧RL S w t v xs γ
def yL (S:Nat→Prop)(w:World)(t:Ty)(cs:List Value)(xs:List t.D)(A:List (List Nat→Option Nat)):Prop:=
 ∃γ b arr,A=[γ]∧cs=[.pointer (some ⟨b,0,none⟩)]∧γ []=some b∧cg w b arr∧dw S w γ t xs arr
def cy (S:Nat→Prop)(w:World):(t:Ty)→List Value→t.D→List (List Nat→Option Nat)→Prop
 | .pair a b,cs,x,A=> ∃c1 c2 A1 A2,cs=c1++c2∧A=A1++A2∧cy S w a c1 x.1 A1∧cy S w b c2 x.2 A2
 | .st t,cs,x,A=>cy S w t cs x A
 | .sl t,cs,xs,A=>eI S w t cs xs A
 | .own t,cs,xs,A=>eI S w t cs xs A
 | .bx t,cs,xs,A=>yL S w t cs xs A
 | .cl f t,cs,x,A=>A=[]∧aR S w (.cl f t) cs x
 | .int k,cs,x,A=>A=[]∧aR S w (.int k) cs x
 | .cD k,cs,x,A=>A=[]∧aR S w (.cD k) cs x
 | .bool,cs,x,A=>A=[]∧aR S w .bool cs x
 | .str,cs,x,A=>A=[]∧aR S w .str cs x
def rP:(t:Ty)→t.D→t.D→Prop
 | .pair a b,x,y=>rP a x.1 y.1∧rP b x.2 y.2
 | .st t,x,y=>rP t x y
 | .sl t,x,y=>bu t x y
 | .own t,x,y=>bu t x y
 | .bx t,x,y=>bu t x y
 | .cl _ _,_,_=>True
 | .int _,_,_=>True
 | .cD _,_,_=>True
 | .bool,_,_=>True
 | .str,_,_=>True
def xZ (S:Nat→Prop)(w:World):Arg→Value→List (List Nat→Option Nat)→Prop
 | .bl t x,v,A=>A=[]∧ ∃cs,cE t cs v∧aR S w t cs x
 | .gW t x,v,A=>A=[]∧ ∃(ad:Addr) (es:List Value),v= .pointer (some ad)∧S ad.block∧(∀j u,es[j]? =some u→w.cell? (ad.add j)=some u)∧aR S w t es x
 | .own t x,v,A=> ∃cs,cE t cs v∧cy S w t cs x A
 | .mv t x,v,A=> ∃cs,cE t cs v∧cy S w t cs x A
 | .fn f,v,A=>A=[]∧v= .func (.func f) #[] #[]
 | .lK f t x,v,A=>A=[]∧ ∃(ad:Addr) (es:List Value),v= .func (.func f) #[] #[.pointer (some ad)]∧S ad.block∧(∀j u,es[j]? =some u→w.cell? (ad.add j)=some u)∧aR S w t es x
 | .nl,v,A=>A=[]∧ ∃a,v= .slice a 0 0
def nz (S:Nat→Prop)(w:World):List Arg→List Value→List (List (List Nat→Option Nat))→Prop
 |[],[],[]=>True
 |a::as,v::vs,A::As=>xZ S w a v A∧nz S w as vs As
 |_,_,_=>False
def fV (S:Nat→Prop)(w:World):List Arg→List Value→List (List (List Nat→Option Nat))→List TD→Prop
 |[],[],[],[]=>True
 | .own t x::as,v::vs,A::As,o::os=>(∃(h:o.t=t) (cs:List Value),cE t cs v∧cy S w t cs (bA h o.x) A∧rP t x (bA h o.x))∧fV S w as vs As os
 | .bl _ _::as,_::vs,_::As,os=>fV S w as vs As os
 | .gW _ _::as,_::vs,_::As,os=>fV S w as vs As os
 | .mv _ _::as,_::vs,_::As,os=>fV S w as vs As os
 | .fn _::as,_::vs,_::As,os=>fV S w as vs As os
 | .lK _ _ _::as,_::vs,_::As,os=>fV S w as vs As os
 | .nl::as,_::vs,_::As,os=>fV S w as vs As os
 |_,_,_,_=>False
def tQ (b:Nat):List Arg→List (List (List Nat→Option Nat))→Prop
 | .mv _ _::as,A::As=>(∃γ,γ∈A∧ ∃p,γ p=some b)∨tQ b as As
 |_::as,_::As=>tQ b as As
 |_,_=>False
theorem tQ.sub {b:Nat}: ∀{as:List Arg} {As:List (List (List Nat→Option Nat))},tQ b as As→ ∃γ,γ∈As.flatten∧ ∃p,γ p=some b
 |[],_,h=>by simp [tQ] at h
 |_::_,[],h=>by simp [tQ] at h
 |a::as,A::As,h=>by
  have up:tQ b as As→ ∃γ,γ∈(A::As).flatten∧ ∃p,γ p=some b:=fun h=>by
   obtain ⟨γ,h1,h2⟩:=tQ.sub h;exact ⟨γ,by rw [List.flatten_cons];exact List.mem_append.2 (.inr h1),h2⟩
  cases a with
  |mv t x=>
   rcases h with ⟨γ,h1,h2⟩|h
   exact ⟨γ,by rw [List.flatten_cons];exact List.mem_append.2 (.inl h1),h2⟩;exact up h
  |_=>exact up h
def wc (S:Nat→Prop)(w:World)(r:RV)(v:Value)(A:List (List Nat→Option Nat)):Prop:=
 if r.fresh then∃cs,cE r.t cs v∧cy S w r.t cs r.x A else A=[]∧ ∃cs,cE r.t cs v∧aR S w r.t cs r.x
def lL (S:Nat→Prop)(w:World):List RV→List Value→List (List Nat→Option Nat)→Prop
 |[],[],A=>A=[]
 |r::rs,v::vs,A=> ∃A1 A2,A=A1++A2∧wc S w r v A1∧lL S w rs vs A2
 |_,_,_=>False
def Bl:List Value→Value→Prop
 |[u],v=>v=u
 |vs,v=>v= .tuple vs.toArray
def Gp (S:Nat→Prop)(w:World)(rs:List RV)(v:Value)(A:List (List Nat→Option Nat)):Prop:=
 ∃vs,lL S w rs vs A∧Bl vs v
def j4 (P:Program)(f:FuncId):Prop:= ∃fn,P.funcs[f]? =some fn∧(fn.name=="runtime.NumGoroutine")=false∧fn.body.isNone=false
def hZ (S:Nat→Prop)(w w':World)(F':List Nat)(b:Nat):Prop:=b<w'.heap.size∧(b<w.heap.size→S b)∧b ∉ F'
def CallOK (P:Program)(f:FuncId)(args:List Arg)(rs:List RV)(outs:List TD):Prop:=
 j4 P f∧ ∀(w:World) (S:Nat→Prop) (vals:List Value) (As:List (List (List Nat→Option Nat))) (F:List Nat),vd As.flatten F→ox As.flatten→
  (∀b,S b→b<w.heap.size∧b ∉ F)→(∀b,b∈F→b<w.heap.size)→nz S w args vals As→Glob.ok w S→
  Calls P f vals.toArray w fun e w'=> ∃v A' F',e= .returned v∧vd A' F'∧ox A'∧Gp (hZ S w w' F') w' rs v A'∧(∀b,b∈F'→(w.heap.size≤b∨tQ b args As)∧b<w'.heap.size)∧
   aH F w w'∧fV (hZ S w w' F') w' args vals As outs
def gu (m:Mem):Mode→au→Option Arg
 | .bl t,v=>match jA m t v with
  |some x=>some (.bl t x)
  |none=>none
 | .own t,v=>match jA m t v with
  |some x=>some (.own t x)
  |none=>none
 | .mv t,v=>match jA m t v with
  |some x=>some (.mv t x)
  |none=>none
 | .gW t,.one (.ip t' x off)=>match impl m t (((fx t' x).drop off).take t.size) with
  |some (y,[])=>some (.gW t y)
  |_=>none
 | .fn,.one (.fn f)=>some (.fn f)
 | .lK t,.one (.lK f t' x)=>if h:t'=t then some (.lK f t (bA h x)) else none
 | .nl,.one .az=>some .nl
 |_,_=>none
def np (mp m:Mem):Mode→au→Option Arg
 | .gW t,.one (.ptr c off)=>match lk c mp with
  |some (.box cs)=>(match impl m t ((cs.drop off).take t.size) with
   |some (y,[])=>some (.gW t y)
   |_=>none)
  |_=>none
 |md,v=>gu m md v
def ct (m mp m2:Mem):List Mode→List au→Option (List Arg)
 |[],[]=>some []
 | .own t::ms,v::vs=>match gu m (.own t) v,ct m mp m2 ms vs with
  |some a,some as=>some (a::as)
  |_,_=>none
 | .mv t::ms,v::vs=>match gu m (.mv t) v,ct m mp m2 ms vs with
  |some a,some as=>some (a::as)
  |_,_=>none
 |md::ms,v::vs=>match np mp m2 md v,ct m mp m2 ms vs with
  |some a,some as=>some (a::as)
  |_,_=>none
 |_,_=>none
def cK (m:Mem):List Mode→List au→Option (List Nat)
 |[],[]=>some []
 | .own t::ms,v::vs=>match cJ m t v.cells,cK m ms vs with
  |some (ks,[]),some l=>some (ks++l)
  |_,_=>none
 | .mv t::ms,v::vs=>match cJ m t v.cells,cK m ms vs with
  |some (ks,[]),some l=>some (ks++l)
  |_,_=>none
 |_::ms,_::vs=>cK m ms vs
 |_,_=>none
def mH:(t:Ty)→List aq→t.D→Option (Mem×List aq)
 | .pair a b,cs,x=>match mH a cs x.1 with
  |some (u1,r)=>(match mH b r x.2 with
   |some (u2,r')=>some (u1++u2,r')
   |none=>none)
  |none=>none
 | .st t,cs,x=>mH t cs x
 | .sl t,cs,xs=>match cs with
  | .all c::r=>some ([(c,.seq t xs)],r)
  | .az::r=>some ([],r)
  |_=>none
 | .own t,cs,xs=>match cs with
  | .all c::r=>some ([(c,.seq t xs)],r)
  | .az::r=>some ([],r)
  |_=>none
 | .bx t,cs,xs=>match cs with
  | .bT c _ _ _::r=>some ([(c,.seq t xs)],r)
  |_=>none
 | .int _,cs,_=>match cs with
  | .aB _ _::r=>some ([],r)
  |_=>none
 | .cD _,cs,_=>match cs with
  | .aB _ _::r=>some ([],r)
  |_=>none
 | .bool,cs,_=>match cs with
  | .aB _ _::r=>some ([],r)
  |_=>none
 | .str,cs,_=>match cs with
  | .aB _ _::r=>some ([],r)
  |_=>none
 | .cl _ _,cs,_=>match cs with
  | .aB _ _::r=>some ([],r)
  |_=>none
def cP:List Mode→List au→List TD→Option Mem
 |[],[],[]=>some []
 | .own t::ms,v::vs,o::os=>if h:o.t=t then (match mH t v.cells (bA h o.x),cP ms vs os with
  |some (u,[]),some l=>some (u++l)
  |_,_=>none) else none
 | .mv t::ms,v::vs,os=>match jV t v.cells,cP ms vs os with
  |some (ks,[]),some l=>some (ks.map (fun k=>(k,Chunk.gone))++l)
  |_,_=>none
 | .bl _::ms,_::vs,os=>cP ms vs os
 | .gW _::ms,_::vs,os=>cP ms vs os
 | .fn::ms,_::vs,os=>cP ms vs os
 | .lK _::ms,_::vs,os=>cP ms vs os
 | .nl::ms,_::vs,os=>cP ms vs os
 |_,_,_=>none
def j5:List RV→Nat→List (Bool×List aq)×List Chunk
 |[],_=>([],[])
 |r::rs,n=>
  let p:List aq×List Chunk:=if r.fresh then bH r.t r.x n else (fx r.t r.x,[])
  let q:=j5 rs (n+p.2.length)
  ((r.t.rH,p.1)::q.1,p.2++q.2)
def Gq:List (Bool×List aq)→au
 |[(true,cs)]=> .agg cs
 |[(false,[c])]=> .one c
 |[_]=> .cV
 |l=> .zq l
def dO:List Mode→Bool
 |[]=>true
 | .own t::ms=>t.jL&&dO ms
 |_::ms=>dO ms
def iS:List Mode→Bool
 |[]=>true
 | .own _::_=>false
 | .mv _::_=>false
 |_::ms=>iS ms
def uH (P:Program)(m:Mem)(nx:Nat)(ms:List Mode)(rs:List RV)(outs:List TD)(f:FuncId)(vs:List au):Option bm:=
 match cK m ms vs,cP ms vs outs with
 |some ks,some up=>(match ct [] [] [] ms vs with
  |some as=>bif ks.isEmpty&&iS ms then some ⟨Gq (j5 rs nx).1,aZ nx (j5 rs nx).2,up,[CallOK P f as rs outs]⟩ else none
  |none=>bif iX ks then (bif rs.all RV.sI&&dO ms then (match ct m m ((ks.map fun k=>(k,Chunk.gone))++m) ms vs with
   |some as=>some ⟨Gq (j5 rs nx).1,aZ nx (j5 rs nx).2,up,[CallOK P f as rs outs]⟩
   |none=>none) else (match ct m [] [] ms vs with
   |some as=>some ⟨Gq (j5 rs nx).1,aZ nx (j5 rs nx).2,up,[CallOK P f as rs outs]⟩
   |none=>none)) else none)
 |_,_=>none
end Go.Ide
