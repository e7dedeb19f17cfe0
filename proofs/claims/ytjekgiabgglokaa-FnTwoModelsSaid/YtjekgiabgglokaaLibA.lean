import Derived.WalkKit
set_option linter.unusedVariables false
set_option linter.unusedSimpArgs false
set_option linter.unusedSectionVars false
namespace Go.Ide
inductive Ty where
 |int (k:IntKind)
 |aW (k:FloatKind)
 |bool
 |str
 |sl (t:Ty)
 |pair (a b:Ty)
 |st (t:Ty)
 |own (t:Ty)
 |bx (t:Ty)
 deriving DecidableEq
@[reducible] def Ty.D:Ty→Type
 | .int _=>Int
 | .aW _=>Nat
 | .bool=>Bool
 | .str=>List UInt8
 | .sl t=>List t.D
 | .pair a b=>a.D×b.D
 | .st t=>t.D
 | .own t=>List t.D
 | .bx t=>List t.D
def Ty.ga:(t:Ty)→t.D
 | .int _=>(0:Int)
 | .aW _=>(0:Nat)
 | .bool=>false
 | .str=>([]:List UInt8)
 | .sl t=>([]:List t.D)
 | .pair a b=>(a.ga,b.ga)
 | .st t=>t.ga
 | .own t=>([]:List t.D)
 | .bx t=>([]:List t.D)
def Ty.size:Ty→Nat
 | .pair a b=>a.size+b.size
 | .st t=>t.size
 |_=>1
def Ty.ye:Ty→Bool
 | .st _=>true
 |_=>false
inductive aA where
 |aw (t:Ty) (x:t.D)
 |ptr (c off:Nat)
 |dI (c i sz off:Nat)
 |ip (t:Ty) (x:t.D) (off:Nat)
 |all (c:Nat)
 |ref (c off len:Nat)
 |row (c i o:Nat)
 |AB (c i o j sz off:Nat)
 |al
 |fn (f:FuncId)
 |nr (f:FuncId) (t:Ty) (x:t.D)
 |gv
 |bad
inductive aD where
 |one (c:aA)
 |agg (cs:List aA)
 |FE (vs:List (Bool×List aA))
 |DF
 |gv
inductive Chunk where
 |box (cs:List aA)
 |seq (t:Ty) (xs:List t.D)
 |o8 (t:Ty) (xs:List t.D) (i:Nat) (cs:List aA) (ks:List Nat)
 |gone
abbrev Mem:=List (Nat×Chunk)
abbrev Fr:=List (Nat×aD)
def lk {α:Type}(k:Nat):List (Nat×α)→Option α
 |[]=>none
 |p::r=>bif Nat.beq k p.1 then some p.2 else lk k r
structure St where
 fr:Fr
 mem:Mem
 nx:Nat
def cJ {a b:Ty}(h:a=b)(x:a.D):b.D:=h▸x
def Ty.er:Ty→Ty
 | .own t=> .sl t.er
 | .sl t=> .sl t.er
 | .bx t=> .bx t.er
 | .pair a b=> .pair a.er b.er
 | .st t=> .st t.er
 | .int k=> .int k
 | .aW k=> .aW k
 | .bool=> .bool
 | .str=> .str
theorem Ty.yf:(t:Ty)→t.er.D=t.D
 | .own t=>congrArg List (yf t)
 | .sl t=>congrArg List (yf t)
 | .bx t=>congrArg List (yf t)
 | .pair a b=>by show (a.er.D×b.er.D)=(a.D×b.D);rw [yf a,yf b]
 | .st t=>yf t
 | .int _=>rfl
 | .aW _=>rfl
 | .bool=>rfl
 | .str=>rfl
def Bg {A B:Type}(h:A=B)(x:A):B:=h▸x
def DG {t:Ty}(x:t.D):t.er.D:=Bg t.yf.symm x
def Ty.jR:Ty→Bool
 | .own _=>false
 | .sl t=>t.jR
 | .bx t=>t.jR
 | .pair a b=>a.jR&&b.jR
 | .st t=>t.jR
 |_=>true
def eP:(t:Ty)→t.D→Nat→Option (Σ e:Ty,List e.D)
 | .own e,x,o=>(match o with|0=>some ⟨e,x⟩|_+1=>none)
 | .pair a b,x,o=>bif Nat.blt o a.size then eP a x.1 o else eP b x.2 (o - a.size)
 | .st t,x,o=>eP t x o
 | .int _,_,_=>none
 | .aW _,_,_=>none
 | .bool,_,_=>none
 | .str,_,_=>none
 | .sl _,_,_=>none
 | .bx _,_,_=>none
def bU:Ty→Nat→List Nat
 | .own _,o=>[o]
 | .pair a b,o=>bU a o++bU b (o+a.size)
 | .st t,o=>bU t o
 | .int _,_=>[]
 | .aW _,_=>[]
 | .bool,_=>[]
 | .str,_=>[]
 | .sl _,_=>[]
 | .bx _,_=>[]
def vu:(t:Ty)→t.D→Nat→(e:Ty)→List e.D→t.D
 | .own e',x,o,e,ys=>(match o with|0=>if h:e=e' then cJ (a:= .sl e) (b:= .sl e') (congrArg Ty.sl h) ys else x|_+1=>x)
 | .pair a b,x,o,e,ys=>bif Nat.blt o a.size then (vu a x.1 o e ys,x.2) else (x.1,vu b x.2 (o - a.size) e ys)
 | .st t,x,o,e,ys=>vu t x o e ys
 | .int _,x,_,_,_=>x
 | .aW _,x,_,_,_=>x
 | .bool,x,_,_,_=>x
 | .str,x,_,_,_=>x
 | .sl _,x,_,_,_=>x
 | .bx _,x,_,_,_=>x
def eE (m:Mem)(t:Ty):aA→Option t.D
 | .aw t' x=>if h:t'=t then some (cJ h x) else none
 | .all c=>match t with
  | .sl e=>(match lk c m with
   |some (.seq e' xs)=>if h:e'=e then some (cJ (congrArg Ty.sl h) xs) else if h:e'.er=e then some (cJ (congrArg Ty.sl h) (DG (t:= .sl e') xs)) else none
   |_=>none)
  |_=>none
 | .row c i o=>match t with
  | .sl e=>(match lk c m with
   |some (.seq e1 xs)=>(match eP e1 (xs.getD i e1.ga) o with
    |some ⟨e',ys⟩=>if h:e'=e then some (cJ (congrArg Ty.sl h) ys) else none
    |none=>none)
   |_=>none)
  |_=>none
 | .ref c off len=>match t with
  | .sl e=>(match lk c m with
   |some (.seq e' xs)=>if h:e'=e then some (cJ (congrArg Ty.sl h) ((xs.drop off).take len)) else none
   |_=>none)
  |_=>none
 | .al=>match t with
  | .sl e=>some ([]:List e.D)
  |_=>none
 | .dI c i sz off=>match t with
  | .bx e=>(match lk c m with
   |some (.seq e' xs)=>if h:e'=e then (bif Nat.beq i 0&&(Nat.beq off 0&&Nat.beq sz e.size) then some (cJ (congrArg Ty.bx h) xs) else none) else none
   |_=>none)
  |_=>none
 |_=>none
def c9 (m:Mem)(t:Ty):List aA→Option (t.D×List aA)
 |c::r=>(match eE m t c with
  |some x=>some (x,r)
  |none=>none)
 |[]=>none
def impl (m:Mem):(t:Ty)→List aA→Option (t.D×List aA)
 | .pair a b,cs=>match impl m a cs with
  |some (x,r)=>(match impl m b r with
   |some (y,r')=>some ((x,y),r')
   |none=>none)
  |none=>none
 | .st t,cs=>impl m t cs
 | .int k,cs=>c9 m (.int k) cs
 | .aW k,cs=>c9 m (.aW k) cs
 | .bool,cs=>c9 m .bool cs
 | .str,cs=>c9 m .str cs
 | .sl t,cs=>c9 m (.sl t) cs
 | .own t,cs=>c9 m (.own t) cs
 | .bx t,cs=>c9 m (.bx t) cs
def aD.cells:aD→List aA
 | .one c=>[c]
 | .agg cs=>cs
 |_=>[]
def lZ (m:Mem)(t:Ty)(v:aD):Option t.D:=
 match v,t.ye with
 | .one c,false=>(match impl m t [c] with|some (x,[])=>some x|_=>none)
 | .agg cs,true=>(match impl m t cs with|some (x,[])=>some x|_=>none)
 |_,_=>none
def ib:(t:Ty)→t.D→List aA
 | .pair a b,x=>ib a x.1++ib b x.2
 | .st t,x=>ib t x
 | .int k,x=>[.aw (.int k) x]
 | .aW k,x=>[.aw (.aW k) x]
 | .bool,x=>[.aw .bool x]
 | .str,x=>[.aw .str x]
 | .sl t,x=>[.aw (.sl t) x]
 | .own t,x=>[.aw (.own t) x]
 | .bx t,x=>[.aw (.bx t) x]
def Bh (c i:Nat):(t:Ty)→Nat→t.D→List aA
 | .pair a b,o,x=>Bh c i a o x.1++Bh c i b (o+a.size) x.2
 | .st t,o,x=>Bh c i t o x
 | .own _,o,_=>[.row c i o]
 | .int k,_,x=>[.aw (.int k) x]
 | .aW k,_,x=>[.aw (.aW k) x]
 | .bool,_,x=>[.aw .bool x]
 | .str,_,x=>[.aw .str x]
 | .sl t,_,x=>[.aw (.sl t) x]
 | .bx t,_,x=>[.aw (.bx t) x]
def eQ:(t:Ty)→t.D→Nat→List aA×List Chunk
 | .pair a b,x,n=>((eQ a x.1 n).1++(eQ b x.2 (n+(eQ a x.1 n).2.length)).1,(eQ a x.1 n).2++(eQ b x.2 (n+(eQ a x.1 n).2.length)).2)
 | .st t,x,n=>eQ t x n
 | .own t,x,n=>([.all n],[.seq t x])
 | .int k,x,_=>([.aw (.int k) x],[])
 | .aW k,x,_=>([.aw (.aW k) x],[])
 | .bool,x,_=>([.aw .bool x],[])
 | .str,x,_=>([.aw .str x],[])
 | .sl t,x,_=>([.aw (.sl t) x],[])
 | .bx t,x,_=>([.aw (.bx t) x],[])
def lT (m:Mem):(t:Ty)→List aA→Option ((t.D×List Nat)×List aA)
 | .pair a b,cs=>match lT m a cs with
  |some ((x,ks),r)=>(match lT m b r with
   |some ((y,ls),r')=>some (((x,y),ks++ls),r')
   |none=>none)
  |none=>none
 | .st t,cs=>lT m t cs
 | .own t,cs=>(match cs with
  | .al::r=>some ((([]:List t.D),[]),r)
  | .all c::r=>(match lk c m with
   |some (.seq e xs)=>if h:e=t then some ((cJ (a:= .sl e) (b:= .sl t) (congrArg Ty.sl h) xs,[c]),r) else none
   |_=>none)
  |_=>none)
 | .int k,cs=>(c9 [] (.int k) cs).map fun p=>((p.1,[]),p.2)
 | .aW k,cs=>(c9 [] (.aW k) cs).map fun p=>((p.1,[]),p.2)
 | .bool,cs=>(c9 [] .bool cs).map fun p=>((p.1,[]),p.2)
 | .str,cs=>(c9 [] .str cs).map fun p=>((p.1,[]),p.2)
 | .sl t,cs=>(c9 [] (.sl t) cs).map fun p=>((p.1,[]),p.2)
 | .bx t,cs=>(c9 [] (.bx t) cs).map fun p=>((p.1,[]),p.2)
def cA:(t:Ty)→t.D→Nat→List aA×List Chunk
 | .pair a b,x,n=>((cA a x.1 n).1++(cA b x.2 (n+(cA a x.1 n).2.length)).1,(cA a x.1 n).2++(cA b x.2 (n+(cA a x.1 n).2.length)).2)
 | .st t,x,n=>cA t x n
 | .int k,x,_=>([.aw (.int k) x],[])
 | .aW k,x,_=>([.aw (.aW k) x],[])
 | .bool,x,_=>([.aw .bool x],[])
 | .str,x,_=>([.aw .str x],[])
 | .sl t,x,n=>([.all n],[.seq t x])
 | .own t,x,n=>([.all n],[.seq t x])
 | .bx t,x,n=>([.dI n 0 t.size 0],[.seq t x])
def bI:Nat→List Chunk→Mem
 |_,[]=>[]
 |n,c::r=>(n,c)::bI (n+1) r
def aA.ok:aA→Bool
 | .bad=>false
 |_=>true
def aD.ok:aD→Bool
 | .one c=>c.ok
 | .agg cs=>cs.all aA.ok
 |_=>false
end Go.Ide
namespace Go.Ide
def BZ.ok (_:World)(_:Nat→Prop):Prop:=True
theorem BZ.mono {w w':World}{S S':Nat→Prop}(_: ∀b,S b→S' b∧w'.heap[b]? =w.heap[b]?)(_:BZ.ok w S):BZ.ok w' S':=trivial
end Go.Ide
namespace Go.Ide
def bC {α β:Type}(R:α→β→Prop):List α→List β→Prop
 |[],[]=>True
 |a::as,b::bs=>R a b∧bC R as bs
 |_,_=>False
theorem bC.length {α β:Type}{R:α→β→Prop}: ∀{as:List α} {bs:List β},bC R as bs→as.length=bs.length
 |[],[],_=>rfl
 |_::_,_::_,h=>by simp [bC.length h.2]
 |[],_::_,h=>h.elim
 |_::_,[],h=>h.elim
theorem bC.mono {α β:Type}{R R':α→β→Prop}(hR: ∀a b,R a b→R' a b): ∀{as:List α} {bs:List β},bC R as bs→bC R' as bs
 |[],[],_=>trivial
 |_::_,_::_,h=>⟨hR _ _ h.1,bC.mono hR h.2⟩
 |[],_::_,h=>h.elim
 |_::_,[],h=>h.elim
theorem bC.append {α β:Type}{R:α→β→Prop}: ∀{as:List α} {bs:List β} {To:List α} {bs':List β},bC R as bs→bC R To bs'→bC R (as++To) (bs++bs')
 |[],[],_,_,_,h'=>h'
 |_::_,_::_,_,_,h,h'=>⟨h.1,bC.append h.2 h'⟩
 |[],_::_,_,_,h,_=>h.elim
 |_::_,[],_,_,h,_=>h.elim
theorem bC.take {α β:Type}{R:α→β→Prop}: ∀(n:Nat) {as:List α} {bs:List β},bC R as bs→bC R (as.take n) (bs.take n)
 |0,_,_,_=>by simp [bC]
 |_+1,[],[],_=>by simp [bC]
 |n+1,_::_,_::_,h=>by simpa [bC] using ⟨h.1,bC.take n h.2⟩
 |_+1,[],_::_,h=>h.elim
 |_+1,_::_,[],h=>h.elim
theorem bC.drop {α β:Type}{R:α→β→Prop}: ∀(n:Nat) {as:List α} {bs:List β},bC R as bs→bC R (as.drop n) (bs.drop n)
 |0,_,_,h=>by simpa using h
 |_+1,[],[],_=>by simp [bC]
 |n+1,_::_,_::_,h=>by simpa using bC.drop n h.2
 |_+1,[],_::_,h=>h.elim
 |_+1,_::_,[],h=>h.elim
theorem bC.get {α β:Type}{R:α→β→Prop}: ∀{as:List α} {bs:List β} (i:Nat),bC R as bs→ ∀a,as[i]? =some a→ ∃b,bs[i]? =some b∧R a b
 |[],[],_,_,a,h=>by simp at h
 |_::_,b::_,0,h,a,ha=>by simp at ha;subst ha;exact ⟨b,rfl,h.1⟩
 |_::_,_::_,i+1,h,a,ha=>by simpa using bC.get i h.2 a (by simpa using ha)
 |[],_::_,_,h,_,_=>h.elim
 |_::_,[],_,h,_,_=>h.elim
def bz:FloatKind→Nat→Nat
 | .f32,b=>if b%2147483648>2139095040 then 2143289344 else b
 | .f64,b=>if b%9223372036854775808>9218868437227405312 then 9221120237041090560 else b
def dc (w:World)(b:Nat)(arr:Array Value):Prop:=
 ∃T lo hi,w.heap[b]? =some (.cells arr T (lo,hi))∧(lo=hi∨arr.size≤lo)
theorem dc.Tp {w:World}{b:Nat}{arr:Array Value}(h:dc w b arr){o:Nat}(ho:o<arr.size):w.frozen? ⟨b,o,none⟩=false:=by
 obtain ⟨T,lo,hi,h,hf⟩:=h;simp only [World.frozen?,h,Bool.and_eq_false_iff,decide_eq_false_iff_not];omega
theorem dc.cell {w:World}{b:Nat}{arr:Array Value}(h:dc w b arr)(o:Nat):w.cell? ⟨b,o,none⟩=arr[o]? :=by
 obtain ⟨T,lo,hi,h,_⟩:=h;simp [World.cell?,h]
theorem dc.lt {w:World}{b:Nat}{arr:Array Value}(h:dc w b arr):b<w.heap.size:=by
 obtain ⟨T,lo,hi,h,_⟩:=h;exact (Array.getElem?_eq_some_iff.1 h).1
theorem dc.keep {w w':World}{b:Nat}{arr:Array Value}(h:dc w b arr)(e:w'.heap[b]? =w.heap[b]?):dc w' b arr:=by
 obtain ⟨T,lo,hi,h,hf⟩:=h;exact ⟨T,lo,hi,by rw [e,h],hf⟩
theorem dc.eq {w:World}{b:Nat}{arr aG:Array Value}(h:dc w b arr)(h':dc w b aG):arr=aG:=by
 obtain ⟨T,lo,hi,h,_⟩:=h;obtain ⟨T',lo',xi,h',_⟩:=h';rw [h] at h';injection h' with h';injection h'
theorem dc.new (w:World)(arr:Array Value)(T:TypeId):dc (w.alloc (.cells arr T)) w.heap.size arr:=
 ⟨T,0,0,heap_alloc_new w _,.inl rfl⟩
theorem o9 {w w':World}{a:Addr}(e:w'.heap[a.block]? =w.heap[a.block]?):w'.cell? a=w.cell? a:=World.cell?_of_block e
theorem gV (a:Addr)(n:Nat):(a.add n).block=a.block:=by unfold Addr.add;split<;>rfl
theorem add_add (a:Addr)(n m:Nat):(a.add n).add m=a.add (n+m):=by
 unfold Addr.add;split;rename_i h;subst h;simp;split;rename_i h;subst h;simp [*];simp only [Nat.add_eq_zero_iff];rw [if_neg (by omega)];simp [Nat.add_assoc]
theorem bP (b o n:Nat):(⟨b,o,none⟩:Addr).add n=⟨b,o+n,none⟩:=by
 unfold Addr.add;split;rename_i h;subst h;rfl;rfl
def bO (S:Nat→Prop)(w:World):(t:Ty)→List Value→t.D→Prop
 | .int k,cs,n=>cs=[.int k n]
 | .aW k,cs,n=> ∃b,cs=[.float k b]∧bz k b=n
 | .bool,cs,b=>cs=[.bool b]
 | .str,cs,s=>cs=[.string ⟨s.toArray⟩]
 | .pair a b,cs,x=> ∃c1 c2,cs=c1++c2∧bO S w a c1 x.1∧bO S w b c2 x.2
 | .st t,cs,x=>bO S w t cs x
 | .sl t,cs,xs=> ∃a cap,cs=[.slice a (List.length xs) cap]∧List.length xs≤cap∧ ∀i (h:i<List.length xs),∃(ad:Addr) (es:List Value),a=some ad∧S ad.block∧
  (∀j v,es[j]? =some v→w.cell? (ad.add (i*t.size+j))=some v)∧bO S w t es xs[i]
 | .own t,cs,xs=> ∃a cap,cs=[.slice a (List.length xs) cap]∧List.length xs≤cap∧ ∀i (h:i<List.length xs),∃(ad:Addr) (es:List Value),a=some ad∧S ad.block∧
  (∀j v,es[j]? =some v→w.cell? (ad.add (i*t.size+j))=some v)∧bO S w t es xs[i]
 | .bx t,cs,xs=> ∃ad:Addr,cs=[.pointer (some ad)]∧ ∀i (h:i<List.length xs),∃es:List Value,S ad.block∧
  (∀j v,es[j]? =some v→w.cell? (ad.add (i*t.size+j))=some v)∧bO S w t es xs[i]
theorem bO.keep {S S':Nat→Prop}{w w':World}(h: ∀b,S b→S' b∧w'.heap[b]? =w.heap[b]?): ∀(t:Ty) (cs:List Value) (x:t.D),bO S w t cs x→bO S' w' t cs x
 | .int _,_,_,hr=>hr
 | .aW _,_,_,hr=>hr
 | .bool,_,_,hr=>hr
 | .str,_,_,hr=>hr
 | .pair a b,_,x,⟨c1,c2,e,h1,h2⟩=>⟨c1,c2,e,bO.keep h a c1 x.1 h1,bO.keep h b c2 x.2 h2⟩
 | .st t,cs,x,hr=>bO.keep h t cs x hr
 | .sl t,_,xs,⟨a,cap,e,hc,hr⟩=>⟨a,cap,e,hc,fun i hi=>by
  obtain ⟨ad,es,ea,hs,bA,cN⟩:=hr i hi;exact ⟨ad,es,ea,(h _ hs).1,fun j v hv=>(o9 (by rw [gV];exact (h _ hs).2)).trans (bA j v hv),bO.keep h t es _ cN⟩⟩
 | .own t,_,xs,⟨a,cap,e,hc,hr⟩=>⟨a,cap,e,hc,fun i hi=>by
  obtain ⟨ad,es,ea,hs,bA,cN⟩:=hr i hi;exact ⟨ad,es,ea,(h _ hs).1,fun j v hv=>(o9 (by rw [gV];exact (h _ hs).2)).trans (bA j v hv),bO.keep h t es _ cN⟩⟩
 | .bx t,_,xs,⟨ad,e,hr⟩=>⟨ad,e,fun i hi=>by
  obtain ⟨es,hs,bA,cN⟩:=hr i hi;exact ⟨es,(h _ hs).1,fun j v hv=>(o9 (by rw [gV];exact (h _ hs).2)).trans (bA j v hv),bO.keep h t es _ cN⟩⟩
theorem bO.len {S:Nat→Prop}{w:World}: ∀(t:Ty) (cs:List Value) (x:t.D),bO S w t cs x→cs.length=t.size
 | .int _,_,_,hr=>by subst hr;rfl
 | .aW _,_,_,⟨_,e,_⟩=>by subst e;rfl
 | .bool,_,_,hr=>by subst hr;rfl
 | .str,_,_,hr=>by subst hr;rfl
 | .pair a b,_,x,⟨c1,c2,e,h1,h2⟩=>by subst e;simp [Ty.size,bO.len a c1 x.1 h1,bO.len b c2 x.2 h2]
 | .st t,cs,x,hr=>bO.len t cs x hr
 | .sl t,_,xs,⟨a,cap,e,_⟩=>by subst e;rfl
 | .own t,_,xs,⟨a,cap,e,_⟩=>by subst e;rfl
 | .bx t,_,xs,⟨ad,e,_⟩=>by subst e;rfl
structure GM where
 f:Nat→List Nat→Option Nat
@[reducible] def GM.at (g:GM)(k:Nat):Option Nat:=g.f k []
instance:CoeFun GM (fun _=>Nat→Option Nat):=⟨GM.at⟩
def dF (m:Mem)(c:Nat)(t:Ty)(xs:List t.D):Prop:=lk c m=some (.seq t xs)∨ ∃i cs ks,lk c m=some (.o8 t xs i cs ks)
theorem dF.toSeq {m:Mem}{c:Nat}{t t':Ty}{xs:List t.D}{cK:List t'.D}(h:lk c m=some (.seq t xs))(h':dF m c t' cK):Ide.lk c m=some (.seq t' cK):=by
 rcases h' with h'|⟨i,cs,ks,h'⟩
 exact h';rw [h] at h';cases h'
def gL (gc:Option Nat)(w:World)(sz n:Nat)(v:Value):Prop:=
 match gc with
 |none=> ∃a,v= .slice a 0 0
 |some b=> ∃cap arr,v= .slice (some ⟨b,0,none⟩) n cap∧n≤cap∧dc w b arr∧cap*sz≤arr.size∧cap≤maxLen
def WT (gc:Option Nat)(w:World)(sz n off len:Nat)(v:Value):Prop:=
 off+len≤n∧((len=0∧(off=0→gc=none)∧ ∃a,v= .slice a 0 0)∨ ∃b cap arr,gc=some b∧v= .slice (some ⟨b,off*sz,none⟩) len cap∧len≤cap∧dc w b arr∧(off+cap)*sz≤arr.size∧cap≤maxLen)
def CR (g:GM)(m:Mem)(S:Nat→Prop)(w:World):aA→Value→Prop
 | .aw t x,v=>bO S w t [v] x
 | .ptr c off,v=>lk c m≠none∧ ∃b,g c=some b∧v= .pointer (some ⟨b,off,none⟩)
 | .dI c i sz off,v=>lk c m≠none∧ ∃b,g c=some b∧v= .pointer (some ⟨b,i*sz+off,none⟩)
 | .ip t x off,v=> ∃(ad:Addr) (es:List Value),v= .pointer (some (ad.add off))∧S ad.block∧(∀j u,es[j]? =some u→w.cell? (ad.add j)=some u)∧bO S w t es x
 | .all c,v=>lk c m≠none∧v.oneCell'=true∧ ∀t xs,dF m c t xs→gL (g c) w t.size xs.length v
 | .ref c off len,v=>lk c m≠none∧v.oneCell'=true∧ ∀t xs,dF m c t xs→WT (g c) w t.size xs.length off len v
 | .row c i o,v=>lk c m≠none∧v.oneCell'=true∧ ∀t xs,lk c m=some (.seq t xs)→i<xs.length∧ ∀e ys,eP t (xs.getD i t.ga) o=some ⟨e,ys⟩→gL (g.f c [i,o]) w e.size ys.length v
 | .AB c i o j sz off,v=>lk c m≠none∧ ∃b,v= .pointer (some ⟨b,j*sz+off,none⟩)∧ ∀t xs,lk c m=some (.seq t xs)→i<xs.length∧g.f c [i,o]=some b
 | .al,v=> ∃a,v= .slice a 0 0
 | .fn f,v=>v= .func (.func f) #[] #[]
 | .nr f t x,v=> ∃(ad:Addr) (es:List Value),v= .func (.func f) #[] #[.pointer (some ad)]∧S ad.block∧(∀j u,es[j]? =some u→w.cell? (ad.add j)=some u)∧bO S w t es x
 | .gv,v=>v.oneCell'=true
 | .bad,_=>True
def CV (g:GM)(m:Mem)(S:Nat→Prop)(w:World)(ag:Bool)(cs:List aA)(v:Value):Prop:=
 match ag,cs with
 |true,cs=> ∃vs:List Value,v= .agg vs.toArray∧bC (CR g m S w) cs vs
 |false,[c]=>CR g m S w c v
 |false,_=>False
def VR (g:GM)(m:Mem)(S:Nat→Prop)(w:World):aD→Value→Prop
 | .one c,v=>CR g m S w c v
 | .agg cs,v=> ∃vs:List Value,v= .agg vs.toArray∧bC (CR g m S w) cs vs
 | .FE ts,v=> ∃vs:List Value,v= .tuple vs.toArray∧bC (fun t v=>CV g m S w t.1 t.2 v) ts vs
 | .DF,v=>v=undef
 | .gv,_=>True
def DT (S:Nat→Prop)(w:World)(t:Ty)(xs:List t.D)(arr:Array Value):Prop:=
 ∀i (h:i<xs.length),∃es,(∀j v,es[j]? =some v→arr[i*t.size+j]? =some v)∧bO S w t es xs[i]
def cW (S:Nat→Prop)(w:World):(t:Ty)→(List Nat→Option Nat)→Nat→List Value→t.D→Prop
 | .own t,γ,o,cs,xs=> ∃v,cs=[v]∧gL (γ [o]) w t.size (List.length xs) v∧match γ [o] with
  |none=>List.length xs=0
  |some b=> ∃arr,dc w b arr∧ ∀i (h:i<List.length xs),∃es:List Value,(∀j v,es[j]? =some v→arr[i*t.size+j]? =some v)∧cW S w t (fun p=>γ (o::i::p)) 0 es xs[i]
 | .pair a b,γ,o,cs,x=> ∃c1 c2,cs=c1++c2∧cW S w a γ o c1 x.1∧cW S w b γ (o+a.size) c2 x.2
 | .st t,γ,o,cs,x=>cW S w t γ o cs x
 | .int k,_,_,cs,x=>bO S w (.int k) cs x
 | .aW k,_,_,cs,x=>bO S w (.aW k) cs x
 | .bool,_,_,cs,x=>bO S w .bool cs x
 | .str,_,_,cs,x=>bO S w .str cs x
 | .sl t,_,_,cs,x=>bO S w (.sl t) cs x
 | .bx t,_,_,cs,x=>bO S w (.bx t) cs x
def fm (S:Nat→Prop)(w:World)(γ:List Nat→Option Nat)(t:Ty)(xs:List t.D)(arr:Array Value):Prop:=
 ∀i (h:i<xs.length),∃es,(∀j v,es[j]? =some v→arr[i*t.size+j]? =some v)∧cW S w t (fun p=>γ (i::p)) 0 es xs[i]
def Chunk.owns:Chunk→List Nat→Prop
 | .gone,_=>False
 | .o8 t _ i _ _,p=> ∀o r,p=i::o::r→o ∉ bU t 0
 |_,_=>True
theorem Chunk.yg {ch:Chunk}(h:ch≠ .gone):ch.owns []:=by
 cases ch<;>first|exact absurd rfl h|trivial|(intro o r e;cases e)
theorem Chunk.HH {ch:Chunk}{p:List Nat}(h:ch.owns p):ch≠ .gone:=by
 rintro rfl;exact h
def jf (g:GM)(m:Mem)(S:Nat→Prop)(w:World)(γ:List Nat→Option Nat):Chunk→Prop
 | .gone=>True
 | .box cs=> ∃b arr,γ []=some b∧dc w b arr∧bC (CR g m S w) cs arr.toList
 | .seq t xs=>match γ [] with
  |none=>xs=[]
  |some b=> ∃arr,dc w b arr∧fm S w γ t xs arr
 | .o8 t xs i cs ks=>bC (fun o k=>lk k m≠none∧g.f k=fun p=>γ (i::o::p)) (bU t 0) ks∧ ∃b arr,γ []=some b∧dc w b arr∧i<xs.length∧
  (∀j (h:j<xs.length),j≠i→ ∃es,(∀q v,es[q]? =some v→arr[j*t.size+q]? =some v)∧cW S w t (fun p=>γ (j::p)) 0 es xs[j])∧
  ∃es,es.length=t.size∧(∀q v,es[q]? =some v→arr[i*t.size+q]? =some v)∧bC (CR g m S w) cs es
structure Cx where
 P:Program
 N:Nat
 w0:World
 S:Nat→Prop
 F:List Nat
 own:List (Nat×(List Nat→Option Nat))
def Cx.SY (cx:Cx):Prop:= ∀b,b∈cx.F→ ∃p,p∈cx.own∧ ∃q,p.2 q=some b
structure bJ (F:List Nat)(w w':World):Prop where
 os:w'.os=w.os
 tape:w'.tape=w.tape
 output:w'.output=w.output
 size:w.heap.size≤w'.heap.size
 block: ∀b,b<w.heap.size→b ∉ F→w'.heap[b]? =w.heap[b]?
 sz: ∀b arr,dc w b arr→ ∃aG,dc w' b aG∧aG.size=arr.size
theorem bJ.refl (F:List Nat)(w:World):bJ F w w:=⟨rfl,rfl,rfl,Nat.le_refl _,fun _ _ _=>rfl,fun _ arr h=>⟨arr,h,rfl⟩⟩
theorem bJ.trans {F:List Nat}{a b c:World}(h:bJ F a b)(k:bJ F b c):bJ F a c:=
 ⟨k.os.trans h.os,k.tape.trans h.tape,k.output.trans h.output,Nat.le_trans h.size k.size,fun i hi hf=>(k.block i (Nat.lt_of_lt_of_le hi h.size) hf).trans (h.block i hi hf),
  fun b arr hb=>let ⟨arr1,h1,e1⟩:=h.sz b arr hb;let ⟨lP,h2,e2⟩:=k.sz b arr1 h1;⟨lP,h2,e2.trans e1⟩⟩
def Live (g:GM)(m:Mem)(b:Nat):Prop:= ∃k p ch,lk k m=some ch∧ch.owns p∧g.f k p=some b
def Cx.safe (cx:Cx)(g:GM)(m:Mem)(w:World)(b:Nat):Prop:=
 b<w.heap.size∧(b<cx.w0.heap.size→cx.S b)∧ ¬Live g m b
def Tq (cx:Cx):Prop:=BZ.ok cx.w0 cx.S∧ ∀b,cx.S b→b<cx.w0.heap.size∧b ∉ cx.F
def FL (cx:Cx)(g:GM)(m:Mem)(w:World)(ds:List Deferred):Prop:=
 ∃Ds:List Nat,ds=Ds.map (fun D=>{target:= .collected D,args:= #[]})∧Ds.Nodup∧ ∀D∈Ds,w.heap[D]? =some (.deferred (some []))∧cx.w0.heap.size≤D∧ ¬Live g m D
theorem FL.nil {cx:Cx}{g:GM}{m:Mem}{w:World}:FL cx g m w []:=⟨[],rfl,List.nodup_nil,fun _ h=>by simp at h⟩
theorem FL.keep {cx:Cx}{g g':GM}{m m':Mem}{w w':World}{ds:List Deferred}(h:FL cx g m w ds)(hs: ∀b,cx.safe g m w b→cx.safe g' m' w' b∧w'.heap[b]? =w.heap[b]?):FL cx g' m' w' ds:=by
 obtain ⟨Ds,e,hn,h⟩:=h;refine ⟨Ds,e,hn,fun D hD=> ?_⟩;obtain ⟨hD,hw,hl⟩:=h D hD;obtain ⟨k1,k2⟩:=hs D ⟨(Array.getElem?_eq_some_iff.1 hD).1,fun cp=>by omega,hl⟩;exact ⟨k2.trans hD,hw,k1.2.2⟩
structure cX (cx:Cx)(g:GM)(st:St)(a:Act)(w:World):Prop where
 defers:FL cx g st.mem w a.defers
 size:a.tmps.size=cx.N
 fr: ∀t v,lk t st.fr=some v→VR g st.mem (cx.safe g st.mem w) w v (a.tmps.getD t undef)
 mem: ∀k ch,lk k st.mem=some ch→jf g st.mem (cx.safe g st.mem w) w (g.f k) ch
 jU: ∀k k' p p' ch ji b,lk k st.mem=some ch→ch.owns p→lk k' st.mem=some ji→ji.owns p'→g.f k p=some b→g.f k' p'=some b→k=k'∧p=p'
 nO: ∀k p ch b,lk k st.mem=some ch→ch.owns p→g.f k p=some b→cx.w0.heap.size≤b∨b∈cx.F
 lt: ∀k p ch b,lk k st.mem=some ch→ch.owns p→g.f k p=some b→b<w.heap.size
 keep:bJ cx.F cx.w0 w
 own: ∀p∈cx.own,g.f p.1=p.2∧lk p.1 st.mem≠none
 gl:Tq cx
theorem cX.P8 {cx:Cx}{g:GM}{st:St}{a:Act}{w:World}(h:cX cx g st a w):BZ.ok w (cx.safe g st.mem w):=
 BZ.mono (fun b hb=>by
  obtain ⟨h1,h2⟩:=h.gl.2 b hb;refine ⟨⟨Nat.lt_of_lt_of_le h1 h.keep.size,fun _=>hb,fun ⟨k,p,ch,q1,q2,q3⟩=> ?_⟩,h.keep.block b h1 h2⟩;rcases h.nO k p ch b q1 q2 q3 with hx|hx
  omega;exact h2 hx) h.gl.1
theorem cX.NB {cx:Cx}{g:GM}{st:St}{a:Act}{w:World}(h:cX cx g st a w){k:Nat}{ch:Chunk}{b:Nat}(hk:lk k st.mem=some ch)(hc:ch≠ .gone)(hg:g k=some b):b<w.heap.size:=
 h.lt k [] ch b hk (Chunk.yg hc) hg
def cy (t:Ty)(xs cK:List t.D):Prop:=
 xs.length=cK.length∧ ∀i o e vq,eP t (cK.getD i t.ga) o=some ⟨e,vq⟩→ ∃ys,eP t (xs.getD i t.ga) o=some ⟨e,ys⟩∧ys.length=vq.length
theorem cy.refl (t:Ty)(xs:List t.D):cy t xs xs:=⟨rfl,fun _ _ _ ys h=>⟨ys,h,rfl⟩⟩
structure Stays0 (g g':GM)(m m':Mem)(S S':Nat→Prop)(w w':World):Prop where
 safe: ∀b,S b→S' b∧w'.heap[b]? =w.heap[b]?
 tq: ∀c,lk c m≠none→lk c m'≠none∧g' c=g c
 old: ∀c t xs,lk c m≠none→dF m' c t xs→ ∃cK,dF m c t cK∧cK.length=xs.length
 dc: ∀c t xs b arr,lk c m≠none→dF m' c t xs→g c=some b→Ide.dc w b arr→ ∃aG,Ide.dc w' b aG∧aG.size=arr.size
structure na (g g':GM)(m m':Mem)(S S':Nat→Prop)(w w':World):Prop extends Stays0 g g' m m' S S' w w' where
 HI: ∀c,lk c m≠none→g'.f c=g.f c
 rows: ∀c t cK,lk c m≠none→lk c m'=some (.seq t cK)→ ∃xs,lk c m=some (.seq t xs)∧cy t xs cK∧
  ∀i o b arr,g.f c [i,o]=some b→Ide.dc w b arr→ ∃aG,Ide.dc w' b aG∧aG.size=arr.size
def aA.wH:aA→Bool
 | .row _ _ _=>true
 | .AB _ _ _ _ _ _=>true
 |_=>false
theorem gL.stays {gc:Option Nat}{w w':World}{sz n:Nat}{v:Value}(h:gL gc w sz n v)(hb: ∀b arr,gc=some b→dc w b arr→ ∃aG,dc w' b aG∧aG.size=arr.size):gL gc w' sz n v:=by
 unfold gL at h⊢;cases gc with
 |none=>exact h
 |some b=>
  obtain ⟨cap,arr,e,h1,h2,h3,h4⟩:=h;obtain ⟨aG,jS,hs'⟩:=hb b arr rfl h2;exact ⟨cap,aG,e,h1,jS,by omega,h4⟩
theorem CR.J9 {g g':GM}{m m':Mem}{S S':Nat→Prop}{w w':World}(h:Stays0 g g' m m' S S' w w'){c:aA}{v:Value}(hn:c.wH=false)(hr:CR g m S w c v):CR g' m' S' w' c v:=by
 cases c with
 |aw t x=>exact bO.keep h.safe t [v] x hr
 |ptr c off=>obtain ⟨hp,b,hg,e⟩:=hr;exact ⟨(h.tq c hp).1,b,(h.tq c hp).2.trans hg,e⟩
 |dI c i sz off=>obtain ⟨hp,b,hg,e⟩:=hr;exact ⟨(h.tq c hp).1,b,(h.tq c hp).2.trans hg,e⟩
 |ip t x off=>
  obtain ⟨ad,es,e,hs,bA,cN⟩:=hr;exact ⟨ad,es,e,(h.safe _ hs).1,fun j u hu=>(o9 (by rw [gV];exact (h.safe _ hs).2)).trans (bA j u hu),bO.keep h.safe t es x cN⟩
 |all c=>
  obtain ⟨hp,ho,hr⟩:=hr;refine ⟨(h.tq c hp).1,ho,fun t xs hl=> ?_⟩;obtain ⟨cK,fb,hlen⟩:=h.old c t xs hp hl;have hx:=hr t cK fb;rw [(h.tq c hp).2,←hlen];exact hx.stays fun b arr hg hb=>h.dc c t xs b arr hp hl hg hb
 |ref c off len=>
  obtain ⟨hp,ho,hr⟩:=hr;refine ⟨(h.tq c hp).1,ho,fun t xs hl=> ?_⟩;obtain ⟨cK,fb,hlen⟩:=h.old c t xs hp hl;obtain ⟨hle,hx⟩:=hr t cK fb;refine ⟨by omega,?_⟩;rw [(h.tq c hp).2];rcases hx with hx|⟨b,cap,arr,hg,e,h1,h2,h3,h4⟩
  exact .inl hx;obtain ⟨aG,jS,hs'⟩:=h.dc c t xs b arr hp hl hg h2;exact .inr ⟨b,cap,aG,hg,e,h1,jS,by omega,h4⟩
 |row c i o=>cases hn
 |AB c i o j sz off=>cases hn
 |al=>exact hr
 |fn f=>exact hr
 |nr f t x=>
  obtain ⟨ad,es,e,hs,bA,cN⟩:=hr;exact ⟨ad,es,e,(h.safe _ hs).1,fun j u hu=>(o9 (by rw [gV];exact (h.safe _ hs).2)).trans (bA j u hu),bO.keep h.safe t es x cN⟩
 |gv=>exact hr
 |bad=>trivial
theorem CR.stays {g g':GM}{m m':Mem}{S S':Nat→Prop}{w w':World}(h:na g g' m m' S S' w w'){c:aA}{v:Value}(hr:CR g m S w c v):CR g' m' S' w' c v:=by
 cases hn:c.wH with
 |false=>exact CR.J9 h.toStays0 hn hr
 |true=>
  cases c with
  |row c i o=>
   obtain ⟨hp,ho,hr⟩:=hr;refine ⟨(h.tq c hp).1,ho,fun t cK hl=> ?_⟩;obtain ⟨xs,fb,⟨hlen,vr⟩,hb⟩:=h.rows c t cK hp hl;obtain ⟨hi,hx⟩:=hr t xs fb;refine ⟨by omega,fun e vq hy=> ?_⟩;obtain ⟨ys,NC,Nj⟩:=vr i o e vq hy;have:=hx e ys NC;rw [h.HI c hp,←Nj];exact this.stays fun b arr e jS=>hb i o b arr e jS
  |AB c i o j sz off=>
   obtain ⟨hp,b,e,hr⟩:=hr;refine ⟨(h.tq c hp).1,b,e,fun t cK hl=> ?_⟩;obtain ⟨xs,fb,⟨hlen,vr⟩,hb⟩:=h.rows c t cK hp hl;obtain ⟨hi,hg⟩:=hr t xs fb;exact ⟨by omega,by rw [h.HI c hp];exact hg⟩
  |_=>cases hn
theorem VR.stays {g g':GM}{m m':Mem}{S S':Nat→Prop}{w w':World}(h:na g g' m m' S S' w w'): ∀{c:aD} {v:Value},VR g m S w c v→VR g' m' S' w' c v
 | .one _,_,hr=>CR.stays h hr
 | .agg _,_,⟨vs,e,hr⟩=>⟨vs,e,hr.mono fun _ _=>CR.stays h⟩
 | .FE _,_,⟨vs,e,hr⟩=>⟨vs,e,hr.mono fun t v hc=>by
  unfold CV at hc⊢;split at hc;obtain ⟨us,e',hu⟩:=hc;exact ⟨us,e',hu.mono fun _ _=>CR.stays h⟩;exact CR.stays h hc;exact hc.elim⟩
 | .DF,_,h=>h
 | .gv,_,_=>trivial
theorem cW.keep {S S':Nat→Prop}{w w':World}(h: ∀b,S b→S' b∧w'.heap[b]? =w.heap[b]?): ∀(t:Ty) {γ:List Nat→Option Nat} {o:Nat} {cs:List Value} {x:t.D},(∀p b,γ p=some b→w'.heap[b]? =w.heap[b]?)→cW S w t γ o cs x→cW S' w' t γ o cs x
 | .own t,γ,o,cs,xs,hγ,⟨v,e,ha,hr⟩=>by
  refine ⟨v,e,ha.stays fun b arr hg hb=>⟨arr,hb.keep (hγ _ b hg),rfl⟩,?_⟩;cases hg:γ [o] with
  |none=>rw [hg] at hr;exact hr
  |some b=>
   rw [hg] at hr;obtain ⟨arr,hb,hi⟩:=hr;exact ⟨arr,hb.keep (hγ _ b hg),fun i hl=>let ⟨es,h1,h2⟩:=hi i hl;⟨es,h1,cW.keep h t (fun p b hp=>hγ _ b hp) h2⟩⟩
 | .pair a b,γ,o,cs,x,hγ,⟨c1,c2,e,h1,h2⟩=>⟨c1,c2,e,cW.keep h a hγ h1,cW.keep h b hγ h2⟩
 | .st t,γ,o,cs,x,hγ,hr=>cW.keep h t (o:=o) (cs:=cs) (x:=x) hγ hr
 | .int k,_,_,cs,x,_,hr=>bO.keep h (.int k) cs x hr
 | .aW k,_,_,cs,x,_,hr=>bO.keep h (.aW k) cs x hr
 | .bool,_,_,cs,x,_,hr=>bO.keep h .bool cs x hr
 | .str,_,_,cs,x,_,hr=>bO.keep h .str cs x hr
 | .sl t,_,_,cs,x,_,hr=>bO.keep h (.sl t) cs x hr
 | .bx t,_,_,cs,x,_,hr=>bO.keep h (.bx t) cs x hr
theorem cW.data {S S':Nat→Prop}{w:World}(h: ∀b,S b→S' b): ∀(t:Ty) {γ:List Nat→Option Nat} {o:Nat} {cs:List Value} {x:t.D},(∀p b,γ p=some b→S' b)→cW S w t γ o cs x→bO S' w t cs x
 | .own t,γ,o,cs,xs,hγ,⟨v,e,ha,hr⟩=>by
  subst e;cases hg:γ [o] with
  |none=>
   rw [hg] at hr ha;obtain ⟨a,ha⟩:=ha;subst ha;have h0:List.length xs=0:=hr;exact ⟨a,0,by rw [h0],by omega,fun i hi=>by omega⟩
  |some b=>
   rw [hg] at hr ha;obtain ⟨cap,vv,e,h1,_⟩:=ha;subst e;obtain ⟨arr,hb,hi⟩:=hr;refine ⟨_,cap,rfl,h1,fun i hl=> ?_⟩;obtain ⟨es,h2,h3⟩:=hi i hl;refine ⟨⟨b,0,none⟩,es,rfl,hγ _ b hg,fun j v hv=> ?_,cW.data h t (fun p b hp=>hγ _ b hp) h3⟩;rw [bP,hb.cell,Nat.zero_add];exact h2 j v hv
 | .pair a b,γ,o,cs,x,hγ,⟨c1,c2,e,h1,h2⟩=>⟨c1,c2,e,cW.data h a hγ h1,cW.data h b hγ h2⟩
 | .st t,γ,o,cs,x,hγ,hr=>cW.data h t (o:=o) (cs:=cs) (x:=x) hγ hr
 | .int k,_,_,cs,x,_,hr=>bO.keep (fun b hb=>⟨h b hb,rfl⟩) (.int k) cs x hr
 | .aW k,_,_,cs,x,_,hr=>bO.keep (fun b hb=>⟨h b hb,rfl⟩) (.aW k) cs x hr
 | .bool,_,_,cs,x,_,hr=>bO.keep (fun b hb=>⟨h b hb,rfl⟩) .bool cs x hr
 | .str,_,_,cs,x,_,hr=>bO.keep (fun b hb=>⟨h b hb,rfl⟩) .str cs x hr
 | .sl t,_,_,cs,x,_,hr=>bO.keep (fun b hb=>⟨h b hb,rfl⟩) (.sl t) cs x hr
 | .bx t,_,_,cs,x,_,hr=>bO.keep (fun b hb=>⟨h b hb,rfl⟩) (.bx t) cs x hr
def Ty.top:Ty→Bool
 | .own _=>false
 | .pair a b=>a.top&&b.top
 | .st t=>t.top
 | .sl t=>t.jR
 | .bx t=>t.jR
 |_=>true
theorem cW.qP {S:Nat→Prop}{w:World}: ∀(t:Ty) {γ:List Nat→Option Nat} {o:Nat} {cs:List Value} {x:t.D},t.top=true→bO S w t cs x→cW S w t γ o cs x
 | .own t,_,_,_,_,ht,_=>by cases ht
 | .pair a b,γ,o,cs,x,ht,⟨c1,c2,e,h1,h2⟩=>by
  simp only [Ty.top,Bool.and_eq_true] at ht;exact ⟨c1,c2,e,cW.qP a ht.1 h1,cW.qP b ht.2 h2⟩
 | .st t,γ,o,cs,x,ht,hr=>cW.qP t (o:=o) (cs:=cs) (x:=x) ht hr
 | .int k,_,_,cs,x,_,hr=>hr
 | .aW k,_,_,cs,x,_,hr=>hr
 | .bool,_,_,cs,x,_,hr=>hr
 | .str,_,_,cs,x,_,hr=>hr
 | .sl t,_,_,cs,x,_,hr=>hr
 | .bx t,_,_,cs,x,_,hr=>hr
theorem cW.rep {S:Nat→Prop}{w:World}: ∀(t:Ty) {γ:List Nat→Option Nat} {o:Nat} {cs:List Value} {x:t.D},t.top=true→cW S w t γ o cs x→bO S w t cs x
 | .own t,_,_,_,_,ht,_=>by cases ht
 | .pair a b,γ,o,cs,x,ht,⟨c1,c2,e,h1,h2⟩=>by
  simp only [Ty.top,Bool.and_eq_true] at ht;exact ⟨c1,c2,e,cW.rep a ht.1 h1,cW.rep b ht.2 h2⟩
 | .st t,γ,o,cs,x,ht,hr=>cW.rep t (o:=o) (cs:=cs) (x:=x) ht hr
 | .int k,_,_,cs,x,_,hr=>hr
 | .aW k,_,_,cs,x,_,hr=>hr
 | .bool,_,_,cs,x,_,hr=>hr
 | .str,_,_,cs,x,_,hr=>hr
 | .sl t,_,_,cs,x,_,hr=>hr
 | .bx t,_,_,cs,x,_,hr=>hr
theorem cW.len {S:Nat→Prop}{w:World}: ∀(t:Ty) {γ:List Nat→Option Nat} {o:Nat} {cs:List Value} {x:t.D},cW S w t γ o cs x→cs.length=t.size
 | .own t,_,_,_,_,⟨v,e,_⟩=>by subst e;rfl
 | .pair a b,γ,o,cs,x,⟨c1,c2,e,h1,h2⟩=>by subst e;simp [Ty.size,cW.len a h1,cW.len b h2]
 | .st t,γ,o,cs,x,hr=>cW.len t (o:=o) (cs:=cs) (x:=x) hr
 | .int k,_,_,cs,x,hr=>bO.len (.int k) cs x hr
 | .aW k,_,_,cs,x,hr=>bO.len (.aW k) cs x hr
 | .bool,_,_,cs,x,hr=>bO.len .bool cs x hr
 | .str,_,_,cs,x,hr=>bO.len .str cs x hr
 | .sl t,_,_,cs,x,hr=>bO.len (.sl t) cs x hr
 | .bx t,_,_,cs,x,hr=>bO.len (.bx t) cs x hr
theorem fm.keep {S S':Nat→Prop}{w w':World}(h: ∀b,S b→S' b∧w'.heap[b]? =w.heap[b]?){γ:List Nat→Option Nat}(hγ: ∀p b,γ p=some b→w'.heap[b]? =w.heap[b]?){t:Ty}{xs:List t.D}{arr:Array Value}(hr:fm S w γ t xs arr):fm S' w' γ t xs arr:=
 fun i hi=>let ⟨es,h1,h2⟩:=hr i hi;⟨es,h1,cW.keep h t (fun _ b hp=>hγ _ b hp) h2⟩
theorem fm.data {S S':Nat→Prop}{w:World}(h: ∀b,S b→S' b){γ:List Nat→Option Nat}(hγ: ∀p b,γ p=some b→S' b){t:Ty}{xs:List t.D}{arr:Array Value}(hr:fm S w γ t xs arr):DT S' w t xs arr:=
 fun i hi=>let ⟨es,h1,h2⟩:=hr i hi;⟨es,h1,cW.data h t (fun _ b hp=>hγ _ b hp) h2⟩
theorem fm.oL {S:Nat→Prop}{w:World}{γ:List Nat→Option Nat}{t:Ty}{xs:List t.D}{arr:Array Value}(ht:t.top=true)(hr:DT S w t xs arr):fm S w γ t xs arr:=
 fun i hi=>let ⟨es,h1,h2⟩:=hr i hi;⟨es,h1,cW.qP t ht h2⟩
theorem fm.IL {S:Nat→Prop}{w:World}{γ:List Nat→Option Nat}{t:Ty}{xs:List t.D}{arr:Array Value}(ht:t.top=true)(hr:fm S w γ t xs arr):DT S w t xs arr:=
 fun i hi=>let ⟨es,h1,h2⟩:=hr i hi;⟨es,h1,cW.rep t ht h2⟩
end Go.Ide
namespace Go.Ide
inductive Mode where
 |an (t:Ty)
 |jk (t:Ty)
 |own (t:Ty)
 |mv (t:Ty)
 |fn
 |nr (t:Ty)
 |nl
inductive Arg where
 |an (t:Ty) (x:t.D)
 |jk (t:Ty) (x:t.D)
 |own (t:Ty) (x:t.D)
 |mv (t:Ty) (x:t.D)
 |fn (f:FuncId)
 |nr (f:FuncId) (t:Ty) (x:t.D)
 |nl
structure TD where
 t:Ty
 x:t.D
structure RV where
 fresh:Bool
 t:Ty
 x:t.D
inductive Hint where
 |no
 |tv (b:Bool)
 |ty (t:Ty)
 |WU (t:Ty)
 |o8
 |call (ms:List Mode) (rs:List RV) (outs:List TD)
def Ty.flat:Ty→Bool
 | .sl _=>false
 | .own _=>false
 | .bx _=>false
 | .pair a b=>a.flat&&b.flat
 | .st t=>t.flat
 |_=>true
def Ty.iY:Ty→Bool
 | .sl _=>false
 | .bx _=>false
 | .own t=>t.iY
 | .pair a b=>a.iY&&b.iY
 | .st t=>t.iY
 |_=>true
def Ty.kW:Ty→Bool
 | .sl t=>t.iY
 | .own t=>t.iY
 | .bx t=>t.iY
 | .pair a b=>a.kW&&b.kW
 | .st t=>t.kW
 |_=>true
def RV.uj (r:RV):Bool:=if r.fresh then r.t.kW else r.t.flat
def dJ (m:Mem):(t:Ty)→List aA→Option (List Nat×List aA)
 | .pair a b,cs=>match dJ m a cs with
  |some (x,r)=>(match dJ m b r with
   |some (y,r')=>some (x++y,r')
   |none=>none)
  |none=>none
 | .st t,cs=>dJ m t cs
 | .sl t,cs=>match cs with
  | .all c::r=>(match lk c m with
   |some (.seq e _)=>if e=t then some ([c],r) else none
   |_=>none)
  | .al::r=>some ([],r)
  |_=>none
 | .own t,cs=>match cs with
  | .all c::r=>(match lk c m with
   |some (.seq e _)=>if e=t then some ([c],r) else none
   |_=>none)
  | .al::r=>some ([],r)
  |_=>none
 | .bx t,cs=>match cs with
  | .dI c i sz off::r=>(match lk c m with
   |some (.seq e _)=>if e=t then some ([c],r) else none
   |_=>none)
  |_=>none
 |_,cs=>match cs with
  | .aw _ _::r=>some ([],r)
  |_=>none
def lp:(t:Ty)→List aA→Option (List Nat×List aA)
 | .pair a b,cs=>match lp a cs with
  |some (x,r)=>(match lp b r with
   |some (y,r')=>some (x++y,r')
   |none=>none)
  |none=>none
 | .st t,cs=>lp t cs
 | .sl _,cs=>match cs with
  | .all c::r=>some ([c],r)
  | .al::r=>some ([],r)
  |_=>none
 | .own _,cs=>match cs with
  | .all c::r=>some ([c],r)
  | .al::r=>some ([],r)
  |_=>none
 | .bx _,cs=>match cs with
  | .dI c i sz off::r=>some ([c],r)
  |_=>none
 |_,cs=>match cs with
  | .aw _ _::r=>some ([],r)
  |_=>none
structure cf where
 val:aD
 new:Mem
 l6:Mem
 cond:List Prop
def bB:List Prop→Prop
 |[]=>True
 |p::r=>p∧bB r
theorem bB.append: ∀{a b:List Prop},bB (a++b)→bB a∧bB b
 |[],_,h=>⟨trivial,h⟩
 |_::_,_,h=>⟨⟨h.1,(bB.append h.2).1⟩,(bB.append h.2).2⟩
def ca (v:aD):Option cf:=some ⟨v,[],[],[]⟩
def gI (v:aD)(cs:List Prop):Option cf:=some ⟨v,[],[],cs⟩
def Tr:Value→aA
 | .int k n=> .aw (.int k) n
 | .bool b=> .aw .bool b
 | .float k b=> .aw (.aW k) (bz k b)
 | .string s=> .aw .str s.data.toList
 | .slice none 0 0=> .al
 | .agg _=> .bad
 | .tuple _=> .bad
 |_=> .gv
def qQ:Value→aD
 | .agg cs=> .agg (cs.toList.map Tr)
 | .tuple _=> .gv
 |v=> .one (Tr v)
def ev (fr:Fr):Operand→Option aD
 | .tmp t=>lk t fr
 | .const v=>some (qQ v)
 | .func f=>some (.one (.fn f))
 | .global _=>none
def B6 (P:Program)(T:TypeId):Option Bool:=
 match P.underlying T with
 |some (.struct _)=>some true
 |some (.array _ _)=>some true
 |some _=>some false
 |none=>none
def cY (P:Program)(T:TypeId):Option Nat:=(P.info? T).map (·.size)
def Pn (ag:Bool)(cs:List aA):Option aD:=
 match ag,cs with
 |true,cs=>some (.agg cs)
 |false,[c]=>some (.one c)
 |_,_=>none
def ns (m:Mem)(n:Nat):aA→Option (List aA×List Prop)
 | .ptr c off=>match lk c m with
  |some (.box cs)=>bif Nat.ble (off+n) cs.length then some ((cs.drop off).take n,[]) else none
  |_=>none
 | .dI c i sz off=>none
 | .ip t x off=>bif Nat.ble (off+n) (ib t x).length then some (((ib t x).drop off).take n,[]) else none
 |_=>none
def pa (P:Program)(m:Mem)(T:TypeId)(v:aD):Option cf:=
 match v,cY P T,B6 P T with
 | .one (.dI c i sz off),some n,some ag=>(match lk c m with
  |some (.seq t xs)=>bif Nat.ble (off+n) t.size&&Nat.beq sz t.size then
   (match Pn ag (((Bh c i t 0 (xs.getD i t.ga)).drop off).take n) with
   |some r=>gI r [i<xs.length]
   |none=>none) else none
  |some (.o8 t xs j cs _)=>bif Nat.ble (off+n) t.size&&Nat.beq sz t.size then
   (match Pn ag ((cs.drop off).take n) with
   |some r=>gI r [i=j]
   |none=>none) else none
  |_=>none)
 | .one (.AB c i o j sz off),some n,some ag=>(match lk c m with
  |some (.seq t xs)=>(match eP t (xs.getD i t.ga) o with
   |some ⟨e,ys⟩=>bif (Nat.ble (off+n) e.size&&Nat.beq sz e.size)&&e.top then
    (match Pn ag (((ib e (ys.getD j e.ga)).drop off).take n) with
    |some r=>gI r [j<ys.length]
    |none=>none) else none
   |none=>none)
  |_=>none)
 | .one c,some n,some ag=>(match ns m n c with
  |some (cs,_)=>(match Pn ag cs with
   |some r=>ca r
   |none=>none)
  |none=>none)
 |_,_,_=>none
def aA.Ka:aA→Bool
 | .aw (.own _) _=>false
 |_=>true
def pS (P:Program)(m:Mem)(T:TypeId)(a v:aD):Option cf:=
 match a,cY P T with
 | .one (.ptr c off),some n=>(match lk c m with
  |some (.box cs)=>bif (Nat.beq v.cells.length n&&Nat.ble (off+n) cs.length)&&v.ok then some ⟨.gv,[],[(c,.box (cs.take off++v.cells++cs.drop (off+n)))],[]⟩ else none
  |_=>none)
 | .one (.dI c i sz off),some n=>(match lk c m with
  |some (.seq t xs)=>bif (Nat.beq v.cells.length n&&Nat.ble (off+n) t.size)&&(Nat.beq sz t.size&&v.ok)&&v.cells.all aA.Ka then
   (match impl [] t ((ib t (xs.getD i t.ga)).take off++v.cells++(ib t (xs.getD i t.ga)).drop (off+n)) with
   |some (x,[])=>some ⟨.gv,[],[(c,.seq t (xs.set i x))],[i<xs.length]⟩
   |_=>none) else none
  |some (.o8 t xs j cs ks)=>bif (Nat.beq v.cells.length n&&Nat.ble (off+n) t.size)&&(Nat.beq sz t.size&&v.ok) then
   some ⟨.gv,[],[(c,.o8 t xs j (cs.take off++v.cells++cs.drop (off+n)) ks)],[i=j]⟩ else none
  |_=>none)
 | .one (.AB c i o j sz off),some n=>(match lk c m with
  |some (.seq t xs)=>(match eP t (xs.getD i t.ga) o with
   |some ⟨e,ys⟩=>bif (Nat.beq v.cells.length n&&Nat.ble (off+n) e.size)&&(Nat.beq sz e.size&&v.ok)&&e.top then
    (match impl [] e ((ib e (ys.getD j e.ga)).take off++v.cells++(ib e (ys.getD j e.ga)).drop (off+n)) with
    |some (y,[])=>some ⟨.gv,[],[(c,.seq t (xs.set i (vu t (xs.getD i t.ga) o e (ys.set j y))))],[j<ys.length]⟩
    |_=>none) else none
   |none=>none)
  |_=>none)
 |_,_=>none
def kE (P:Program)(m:Mem)(T:TypeId)(x i:aD):Option cf:=
 match P.underlying T,i with
 |some (.slice e),.one (.aw (.int _) n)=>(match x,cY P e with
  | .one (.aw (.sl t) xs),some k=>bif Nat.beq k t.size then gI (.one (.ip t (xs.getD (Int.toNat n) t.ga) 0)) [(0:Int)≤n∧n<((List.length xs:Nat):Int)] else none
  | .one (.all c),some k=>(match lk c m with
   |some (.seq t xs)=>bif Nat.beq k t.size then gI (.one (.dI c (Int.toNat n) k 0)) [(0:Int)≤n∧n<((List.length xs:Nat):Int)] else none
   |some (.o8 t xs _ _ _)=>bif Nat.beq k t.size then gI (.one (.dI c (Int.toNat n) k 0)) [(0:Int)≤n∧n<((List.length xs:Nat):Int)] else none
   |_=>none)
  | .one (.row c i o),some k=>(match lk c m with
   |some (.seq t xs)=>(match eP t (xs.getD i t.ga) o with
    |some ⟨e,ys⟩=>bif Nat.beq k e.size then gI (.one (.AB c i o (Int.toNat n) k 0)) [(0:Int)≤n∧n<((List.length ys:Nat):Int)] else none
    |none=>none)
   |_=>none)
  | .one (.ref c off len),some k=>(match lk c m with
   |some (.seq t _)=>bif Nat.beq k t.size then gI (.one (.dI c (off+Int.toNat n) k 0)) [(0:Int)≤n∧n<(len:Int)] else none
   |_=>none)
  |_,_=>none)
 |_,_=>none
def pT (P:Program)(T:TypeId)(x:aD)(f:Nat):Option cf:=
 match P.underlying T with
 |some (.struct fs)=>(match fs[f]? with
  |some fd=>(match x,cY P fd.type with
   | .one (.ptr c off),some (_+1)=>ca (.one (.ptr c (off+fd.offset)))
   | .one (.ip t y off),some (_+1)=>ca (.one (.ip t y (off+fd.offset)))
   | .one (.dI c i sz off),some (_+1)=>ca (.one (.dI c i sz (off+fd.offset)))
   | .one (.AB c i o j sz off),some (_+1)=>ca (.one (.AB c i o j sz (off+fd.offset)))
   |_,_=>none)
  |none=>none)
 |_=>none
def tu (m:Mem):aD→Option cf
 | .one (.aw (.sl _) xs)=>ca (.one (.aw (.int .i64) ((List.length xs:Nat):Int)))
 | .one (.aw .str xs)=>ca (.one (.aw (.int .i64) ((List.length xs:Nat):Int)))
 | .one (.all c)=>match lk c m with
  |some (.seq _ xs)=>ca (.one (.aw (.int .i64) ((List.length xs:Nat):Int)))
  |some (.o8 _ xs _ _ _)=>ca (.one (.aw (.int .i64) ((List.length xs:Nat):Int)))
  |_=>none
 | .one (.row c i o)=>match lk c m with
  |some (.seq t xs)=>(match eP t (xs.getD i t.ga) o with
   |some ⟨_,ys⟩=>ca (.one (.aw (.int .i64) ((List.length ys:Nat):Int)))
   |none=>none)
  |_=>none
 | .one (.ref c _ len)=>match lk c m with
  |some (.seq _ _)=>ca (.one (.aw (.int .i64) ((len:Nat):Int)))
  |_=>none
 | .one .al=>ca (.one (.aw (.int .i64) (0:Int)))
 |_=>none
def nt (m:Mem)(t:Ty):aD→Option (List t.D×List (Nat×Chunk))
 | .one .al=>some ([],[])
 | .one (.all c)=>match lk c m with
  |some (.seq t' xs)=>if h:t'=t then some (cJ (congrArg Ty.sl h) xs,[(c,.gone)]) else none
  |_=>none
 | .one (.ref c 0 len)=>match lk c m with
  |some (.seq t' xs)=>if h:t'=t then some (cJ (congrArg Ty.sl h) (xs.take len),[(c,.gone)]) else none
  |_=>none
 |_=>none
def bg:Nat:=4294967296
def nb (m:Mem):aD→Bool
 | .one (.all c)=>(match lk c m with
  |some (.seq t _)=>t.top
  |_=>false)
 | .one (.row _ _ _)=>false
 |_=>true
def rQ (P:Program)(m:Mem)(nx:Nat)(T T':TypeId)(t:Ty)(s x:aD):Option cf:=
 match P.underlying T with
 |some (.slice e)=>(match P.info? e with
  |some i=>bif ((Nat.beq T T'&&Nat.beq i.size t.size)&&(Nat.ble i.bytes 32768&&i.zero.isSome)&&(i.zero.map fun z=>Nat.beq z.cells.size t.size).getD false)&&(t.top&&nb m x) then
   (match nt m t s,lZ m (.sl t) x with
   |some (xs,up),some ys=>some ⟨.one (.all nx),[(nx,.seq t (xs++ys))],up,[List.length xs+List.length ys≤bg]⟩
   |_,_=>none) else none
  |none=>none)
 |_=>none
def FM (P:Program)(nx:Nat)(T:TypeId):Option cf:=
 match P.info? T with
 |some i=>(match i.zero with
  |some z=>bif (qQ z).ok then some ⟨.one (.ptr nx 0),[(nx,.box (qQ z).cells)],[],[]⟩ else none
  |none=>none)
 |none=>none
def ND (nx:Nat)(v:aD):Option cf:=
 match v with
 | .one c=>bif c.ok then some ⟨.one (.ptr nx 0),[(nx,.box [c])],[],[]⟩ else none
 | .agg cs=>bif cs.all aA.ok then some ⟨.one (.ptr nx 0),[(nx,.box cs)],[],[]⟩ else none
 |_=>none
def DV (place:Nat→Option (Nat×Nat))(cells:List aA):List (Nat×aD)→Option (List aA)
 |[]=>some cells
 |(i,v)::rest=>match place i with
  |none=>none
  |some (off,size)=>bif (Nat.beq v.cells.length size&&Nat.ble (off+v.cells.length) cells.length)&&v.ok then
   DV place (cells.take off++v.cells++cells.drop (off+v.cells.length)) rest else none
def AD (fr:Fr):List (Nat×Operand)→Option (List (Nat×aD))
 |[]=>some []
 |(i,x)::r=>match ev fr x,AD fr r with
  |some v,some l=>some ((i,v)::l)
  |_,_=>none
def rR (P:Program):List Field→Option (List (Nat×Nat))
 |[]=>some []
 |f::r=>match cY P f.type,rR P r with
  |some n,some l=>some ((f.offset,n)::l)
  |_,_=>none
def FN (P:Program)(T:TypeId)(parts:List (Nat×aD)):Option cf:=
 match P.info? T,P.underlying T with
 |some i,some (.struct fs)=>(match i.zero,rR P fs.toList with
  |some z,some pl=>bif (qQ z).ok then (match DV (fun j=>pl[j]?) (qQ z).cells parts with
   |some cs=>ca (.agg cs)
   |none=>none) else none
  |_,_=>none)
 |_,_=>none
def vw (t:Ty):Nat→List (Nat×aD)→Option (List t.D)
 |_,[]=>some []
 |i,(j,v)::r=>bif Nat.beq i j then (match lZ [] t v,vw t (i+1) r with
  |some x,some l=>some (x::l)
  |_,_=>none) else none
def l7:List Nat→Bool
 |[]=>true
 |k::r=>(r.all fun q=> !Nat.beq k q)&&l7 r
def qR (P:Program)(nx:Nat)(T:TypeId)(t:Ty)(len:Nat)(parts:List (Nat×aD)):Option cf:=
 match P.underlying T with
 |some (.slice e)=>bif ((cY P e==some t.size&&(((P.info? e).bind (·.zero)).map fun z=>Nat.beq z.cells.size t.size)==some true)&&(Nat.beq parts.length len&&Nat.ble (len*t.size) 65536))&&t.top then
  (match vw t 0 parts with
  |some xs=>some ⟨.one (.all nx),[(nx,.seq t xs)],[],[]⟩
  |none=>none) else none
 |_=>none
def FO (P:Program)(T:TypeId)(len:Nat)(parts:List (Nat×aD)):Option cf:=
 match P.underlying T with
 |some (.slice e)=>bif ((cY P e).isSome&&Nat.beq len 0)&&parts.isEmpty then ca (.one .al) else none
 |_=>none
def HJ (P:Program)(T:TypeId)(t:Ty):Option t.D:=
 match P.info? T with
 |some i=>(match i.zero with
  |some z=>if t.top then lZ [] t (qQ z) else if (qQ z).ok then (match lT [] t (qQ z).cells with
   |some ((x,[]),[])=>some x
   |_=>none) else none
  |none=>none)
 |none=>none
def tw (P:Program)(nx:Nat)(T:TypeId)(t:Ty)(len cap:aD):Option cf:=
 match P.underlying T,len,cap with
 |some (.slice e),.one (.aw (.int _) n),.one (.aw (.int _) c)=>(match P.info? e,HJ P e t with
  |some i,some z=>bif Nat.beq i.size t.size&&Nat.ble i.bytes 32768 then
   some ⟨.one (.all nx),[(nx,.seq t (List.replicate (Int.toNat n) z))],[],[(0:Int)≤n∧n≤c∧(c:Int)≤4294967296]⟩ else none
  |_,_=>none)
 |_,_,_=>none
def Po:Option aD→Option Int
 |none=>some 0
 |some (.one (.aw (.int _) n))=>some n
 |_=>none
def P9 (len:Nat):Option aD→Option Int
 |none=>some (len:Int)
 |some (.one (.aw (.int _) n))=>some n
 |_=>none
def cut {α:Type}(xs:List α)(lo hi:Int):List α:=(xs.drop lo.toNat).take (hi.toNat - lo.toNat)
def tx (P:Program)(m:Mem)(T:TypeId)(x:aD)(lo hi:Option aD):Option cf:=
 match P.underlying T,x with
 |some .string,.one (.aw .str xs)=>(match Po lo,P9 (List.length xs) hi with
  |some l,some h=>gI (.one (.aw .str (cut xs l h))) [(0:Int)≤l∧l≤h∧h≤((List.length xs:Nat):Int)]
  |_,_=>none)
 |some (.slice e),.one .al=>(match Po lo,P9 0 hi with
  |some l,some h=>bif (cY P e).isSome then gI (.one .al) [(0:Int)≤l∧l≤h∧h≤0] else none
  |_,_=>none)
 |some (.slice e),.one (.aw (.sl t) xs)=>(match Po lo,P9 (List.length xs) hi with
  |some l,some h=>bif cY P e==some t.size then gI (.one (.aw (.sl t) (cut xs l h))) [(0:Int)≤l∧l≤h∧h≤((List.length xs:Nat):Int)] else none
  |_,_=>none)
 |some (.slice e),.one (.all c)=>(match lk c m with
  |some (.seq t xs)=>(match Po lo,P9 (List.length xs) hi with
   |some l,some h=>bif cY P e==some t.size then gI (.one (.ref c l.toNat (h.toNat - l.toNat))) [(0:Int)≤l∧l≤h∧h≤((List.length xs:Nat):Int)] else none
   |_,_=>none)
  |_=>none)
 |some (.slice e),.one (.ref c off len)=>(match lk c m with
  |some (.seq t _)=>(match Po lo,P9 len hi with
   |some l,some h=>bif cY P e==some t.size then gI (.one (.ref c (off+l.toNat) (h.toNat - l.toNat))) [(0:Int)≤l∧l≤h∧h≤(len:Int)] else none
   |_,_=>none)
  |_=>none)
 |_,_=>none
def Pp (op:BinOp)(k:IntKind)(x y:Int):Option Int:=
 match op with
 | .and=>some (k.wrap (BitVec.ofInt k.bits x&&& BitVec.ofInt k.bits y).toNat)
 | .or=>some (k.wrap (BitVec.ofInt k.bits x|||BitVec.ofInt k.bits y).toNat)
 | .xor=>some (k.wrap (BitVec.ofInt k.bits x^^^BitVec.ofInt k.bits y).toNat)
 | .andNot=>some (k.wrap (BitVec.ofInt k.bits x&&& ~~~(BitVec.ofInt k.bits y)).toNat)
 |_=>none
def NF (op:BinOp)(k:IntKind)(x y:Int):Option cf:=
 match op with
 | .add=>ca (.one (.aw (.int k) (k.wrap (x+y))))
 | .sub=>ca (.one (.aw (.int k) (k.wrap (x - y))))
 | .mul=>ca (.one (.aw (.int k) (k.wrap (x*y))))
 | .quo=>gI (.one (.aw (.int k) (k.wrap (x.tdiv y)))) [y≠0]
 | .rem=>gI (.one (.aw (.int k) (x.tmod y))) [y≠0]
 | .eql=>ca (.one (.aw .bool (x==y)))
 | .neq=>ca (.one (.aw .bool (x != y)))
 | .lss=>ca (.one (.aw .bool (decide (x<y))))
 | .leq=>ca (.one (.aw .bool (decide (x≤y))))
 | .gtr=>ca (.one (.aw .bool (decide (x>y))))
 | .geq=>ca (.one (.aw .bool (decide (x≥y))))
 |op=>match Pp op k x y with
  |some r=>ca (.one (.aw (.int k) r))
  |none=>none
def FP (op:BinOp)(k:IntKind)(x y:Int):Option cf:=
 match op with
 | .shl=>gI (.one (.aw (.int k) (k.wrap (x*2^(min y.toNat k.bits))))) [(0:Int)≤y]
 | .shr=>gI (.one (.aw (.int k) (x.fdiv (2^(min y.toNat k.bits))))) [(0:Int)≤y]
 |_=>none
def Qa (op:BinOp)(x y:List UInt8):Option cf:=
 match op with
 | .eql=>ca (.one (.aw .bool (x==y)))
 | .neq=>ca (.one (.aw .bool (x != y)))
 | .add=>gI (.one (.aw .str (x++y))) [x.length+y.length≤bg]
 | .lss=>ca (.one (.aw .bool (Op.bytesLess x y)))
 |_=>none
def xI:BinOp→Bool
 | .shl=>true
 | .shr=>true
 |_=>false
def IM (P:Program)(T:TypeId)(op:BinOp)(x y:aD):Option cf:=
 match x,y with
 | .one (.aw (.int k) a),.one (.aw (.int k') b)=>if xI op then FP op k a b else if k=k' then NF op k a b else none
 | .one (.aw .str a),.one (.aw .str b)=>Qa op a b
 | .one (.aw .bool a),.one (.aw .bool b)=>(match op,P.underlying T with
  | .eql,some .bool=>ca (.one (.aw .bool (a==b)))
  | .neq,some .bool=>ca (.one (.aw .bool (a != b)))
  |_,_=>none)
 |_,_=>none
def V6 (op:UnOp)(x:aD):Option cf:=
 match op,x with
 | .not,.one (.aw .bool b)=>ca (.one (.aw .bool (!b)))
 | .neg,.one (.aw (.int k) n)=>ca (.one (.aw (.int k) (k.wrap (0 - n))))
 |_,_=>none
def yi (P:Program)(T U:TypeId)(x:aD):Option cf:=
 match P.underlying T,P.underlying U,x with
 |some (.int _),some (.int k),.one (.aw (.int _) n)=>ca (.one (.aw (.int k) (k.wrap n)))
 |some .string,some .string,.one (.aw .str s)=>ca (.one (.aw .str s))
 |_,_,_=>none
def uk (x:aD)(i:Nat):Option cf:=
 match x with
 | .FE ts=>(match ts[i]? with
  |some (ag,cs)=>(match Pn ag cs with
   |some v=>ca v
   |none=>none)
  |none=>none)
 |_=>none
def Kb (b:Bool)(c x y:aD):Option cf:=
 match c with
 | .one (.aw .bool t)=>gI (if b then x else y) [t=b]
 |_=>none
def Qb (x y:aD):Option cf:=
 match x,y with
 | .one (.aw (.int k) a),.one (.aw (.int k') b)=>if k=k' then ca (.one (.aw (.int k) (if b<a then b else a))) else none
 |_,_=>none
def Qc (x y:aD):Option cf:=
 match x,y with
 | .one (.aw (.int k) a),.one (.aw (.int k') b)=>if k=k' then ca (.one (.aw (.int k) (if b>a then b else a))) else none
 |_,_=>none
end Go.Ide
namespace Go.Ide
theorem aL {α:Type}(k k':Nat)(v:α)(l:List (Nat×α)):lk k ((k',v)::l)=if k=k' then some v else lk k l:=by
 simp only [lk];by_cases h:k=k';subst h;simp;have:Nat.beq k k'=false:=by rw [←Bool.not_eq_true];intro e;exact h (Nat.eq_of_beq_eq_true e)
 rw [if_neg h,this];rfl
theorem gE {α:Type}(k:Nat):lk k ([]:List (Nat×α))=none:=rfl
theorem bN {α:Type}(k:Nat)(l l':List (Nat×α)):lk k (l++l')=(lk k l).or (lk k l'):=by
 induction l with
 |nil=>simp [gE]
 |cons p l ih=>
  obtain ⟨k',v⟩:=p;rw [List.cons_append,aL,aL,ih];split<;>simp
def St.put (st:St)(d:Option Tmp)(v:aD):St:=
 match d with
 |some t=>{st with fr:=(t,v)::st.fr}
 |none=>st
def St.l8 (st:St)(m:Mem)(nx:Nat):St:=⟨st.fr,m,nx⟩
section
variable {cx:Cx} {g g':GM} {st:St} {a:Act} {w w':World}
theorem cX.put (h:cX cx g st a w){v:aD}{val:Value}(hv:VR g st.mem (cx.safe g st.mem w) w v val)(d:Option Tmp)(hd: ∀t,d=some t→t<cx.N):
 cX cx g (st.put d v) (a.put d val) w:=by
 cases d with
 |none=>exact h
 |some t=>
  have ht:t<a.tmps.size:=by rw [h.size];exact hd t rfl
  refine ⟨h.defers,by simp [Act.put,h.size],fun t' v' hl=> ?_,h.mem,h.jU,h.nO,h.lt,h.keep,h.own,h.gl⟩;simp only [St.put] at hl;rw [aL] at hl;simp only [Act.put,Array.getD_eq_getD_getElem?,Array.getElem?_setIfInBounds];by_cases he:t'=t;subst he;rw [if_pos rfl] at hl;injection hl with hl;subst hl;simpa [ht,St.put] using hv;rw [if_neg he] at hl;rw [if_neg (fun e=>he e.symm)];have:=h.fr t' v' hl;simpa [Array.getD_eq_getD_getElem?,St.put] using this
def Chunk.yj (ch:Chunk)(t:Ty)(xs:List t.D):Prop:=ch= .seq t xs∨ ∃i cs ks,ch= .o8 t xs i cs ks
theorem dF.of {m:Mem}{c:Nat}{ch:Chunk}{t:Ty}{xs:List t.D}(h:lk c m=some ch):dF m c t xs↔ch.yj t xs:=by
 unfold dF Chunk.yj;rw [h];simp
structure AE (cx:Cx)(g g':GM)(m m':Mem)(w w':World)(G:List Nat):Prop where
 keep:bJ G w w'
 live: ∀b,b∈G→Live g m b
 addr: ∀k,lk k m≠none→g'.f k=g.f k
 old: ∀k ch,lk k m=some ch→
  (lk k m'=some ch∧(∀p b,ch.owns p→g.f k p=some b→b ∉ G))∨
  (lk k m'=some .gone)∨
  (ch≠ .gone∧(∃ji,lk k m'=some ji∧ji≠ .gone∧(∀p,ji.owns p→ch.owns p)∧(∀t xs,ji.yj t xs→ ∃cK,ch.yj t cK∧cK.length=xs.length)∧
   (∀t cK,ji= .seq t cK→ ∃xs,ch= .seq t xs∧cy t xs cK)∧
   (∀p b arr,ch.owns p→g.f k p=some b→dc w b arr→ ∃aG,dc w' b aG∧aG.size=arr.size)∧
   jf g' m' (cx.safe g' m' w') w' (g'.f k) ji))
 new: ∀k ch,lk k m=none→lk k m'=some ch→jf g' m' (cx.safe g' m' w') w' (g'.f k) ch∧
  (∀p b,ch.owns p→g'.f k p=some b→(w.heap.size≤b∨b∈G)∧b<w'.heap.size∧ ∀k' p' ji,lk k' m'=some ji→ji.owns p'→g'.f k' p'=some b→k'=k∧p'=p)
theorem AE.yk {G:List Nat}{m m':Mem}(t:AE cx g g' m m' w w' G){k:Nat}{ch ji:Chunk}(h:lk k m=some ch)(h':lk k m'=some ji){p:List Nat}(hn:ji.owns p):ch.owns p:=by
 rcases t.old k _ h with ⟨e,_⟩|e|⟨hc,c',e,_,ho,_⟩
 rw [h'] at e;injection e with e;subst e;exact hn
 rw [h'] at e;injection e with e;subst e;exact hn.elim
 rw [h'] at e;injection e with e;subst e;exact ho p hn
theorem AE.stays {G:List Nat}{m m':Mem}(t:AE cx g g' m m' w w' G):
 na g g' m m' (cx.safe g m w) (cx.safe g' m' w') w w':=by
 refine ⟨⟨fun b hs=> ?_,fun c hc=>⟨?_,congrFun (t.addr c hc) []⟩,fun c ty xs hc hl=> ?_,fun c ty xs b arr hc hl hg hb=> ?_⟩,t.addr,fun c ty cK hc hl=> ?_⟩;obtain ⟨h1,h2,h3⟩:=hs;have hG:b ∉ G:=fun hb=>h3 (t.live b hb);refine ⟨⟨Nat.lt_of_lt_of_le h1 t.keep.size,h2,?_⟩,t.keep.block b h1 hG⟩;rintro ⟨k,p,ch,hk,hn,hg⟩;cases ho:lk k m with
 |none=>
  rcases ((t.new k ch ho hk).2 p b hn hg).1 with hx|hx
  omega;exact hG hx
 |some c0=>
  exact h3 ⟨k,p,c0,ho,t.yk ho hk hn,by rw [←t.addr k (by rw [ho];simp)];exact hg⟩
 cases ho:lk c m with
 |none=>exact absurd ho hc
 |some c0=>
  rcases t.old c _ ho with ⟨e,_⟩|e|⟨_,c',e,_⟩<;>rw [e]<;>simp
 cases ho:lk c m with
 |none=>exact absurd ho hc
 |some c0=>
  rcases t.old c _ ho with ⟨e,_⟩|e|⟨_,c',e,_,_,h3,_⟩
  exact ⟨xs,(dF.of ho).2 ((dF.of e).1 hl),rfl⟩;have:=(dF.of e).1 hl;rcases this with h|⟨_,_,_,h⟩<;>cases h
  obtain ⟨cK,e',hlen⟩:=h3 ty xs ((dF.of e).1 hl);exact ⟨cK,(dF.of ho).2 e',hlen⟩
 cases ho:lk c m with
 |none=>exact absurd ho hc
 |some c0=>
  rcases t.old c _ ho with ⟨e,hk⟩|e|⟨hn,c',e,_,_,_,_,h4,_⟩
  have hs:=(dF.of e).1 hl;exact ⟨arr,hb.keep (t.keep.block b hb.lt (hk [] b (by rcases hs with rfl|⟨i,cs,ks,rfl⟩<;>first|trivial|(intro o r e;cases e)) hg)),rfl⟩;have:=(dF.of e).1 hl;rcases this with h|⟨_,_,_,h⟩<;>cases h
  exact h4 [] b arr (Chunk.yg hn) hg hb
 cases ho:lk c m with
 |none=>exact absurd ho hc
 |some c0=>
  rcases t.old c _ ho with ⟨e,hk⟩|e|⟨_,c',e,_,_,_,h5,h4,_⟩
  rw [hl] at e;injection e with e;subst e
  exact ⟨cK,rfl,cy.refl _ _,fun i o b arr hg hb=>⟨arr,hb.keep (t.keep.block b hb.lt (hk [i,o] b trivial hg)),rfl⟩⟩;rw [hl] at e;cases e;rw [hl] at e;injection e with e;subst e
  obtain ⟨xs,rfl,hs⟩:=h5 ty cK rfl;exact ⟨xs,rfl,hs,fun i o b arr hg hb=>h4 [i,o] b arr trivial hg hb⟩
theorem jf.stays {m m':Mem}{S S':Nat→Prop}(h:na g g' m m' S S' w w'){γ:List Nat→Option Nat}{ch:Chunk}(hb: ∀p b,ch.owns p→γ p=some b→w'.heap[b]? =w.heap[b]?)(hr:jf g m S w γ ch):jf g' m' S' w' γ ch:=by
 cases ch with
 |gone=>trivial
 |box cs=>
  obtain ⟨b,arr,e,jV,hc⟩:=hr;exact ⟨b,arr,e,jV.keep (hb [] b trivial e),hc.mono fun _ _=>CR.stays h⟩
 |seq t xs=>
  cases hγ:γ [] with
  |none=>simp only [jf,hγ] at hr⊢;exact hr
  |some b=>
   simp only [jf,hγ] at hr⊢;obtain ⟨arr,jV,he⟩:=hr;exact ⟨arr,jV.keep (hb [] b trivial hγ),he.keep h.safe fun p b hp=>hb p b trivial hp⟩
 |o8 t xs i cs ks=>
  obtain ⟨HK,b,arr,e,jV,hi,hj,es,h1,h2,h3⟩:=hr;refine ⟨HK.mono fun o k hk=>⟨(h.tq k hk.1).1,(h.HI k hk.1).trans hk.2⟩,b,arr,e,jV.keep (hb [] b (by intro o r e;cases e) e),hi,fun j hl jg=> ?_,es,h1,h2,h3.mono fun _ _=>CR.stays h⟩;obtain ⟨es,k1,k2⟩:=hj j hl jg;exact ⟨es,k1,cW.keep h.safe t (fun p b hp=>hb (j::p) b (by intro o r e;injection e with e;exact absurd e jg) hp) k2⟩
theorem cX.AF {G:List Nat}{m':Mem}{nx':Nat}(h:cX cx g st a w)(t:AE cx g g' st.mem m' w w' G):
 cX cx g' (st.l8 m' nx') a w':=by
 have hs:=t.stays;refine ⟨h.defers.keep hs.safe,h.size,fun t' v hl=>VR.stays hs (h.fr t' v hl),fun k ch hk=> ?_,?_,fun k p ch b hk hn hg=> ?_,fun k p ch b hk hn hg=> ?_,?_,fun p hp=>⟨(t.addr p.1 (h.own p hp).2).trans (h.own p hp).1,(hs.tq p.1 (h.own p hp).2).1⟩,h.gl⟩;change lk k m'=some ch at hk;cases ho:lk k st.mem with
 |none=>exact (t.new k ch ho hk).1
 |some c0=>
  have pN:=t.addr k (by rw [ho];simp);rcases t.old k _ ho with ⟨e,hb⟩|e|⟨_,c',e,_,_,_,_,_,h5⟩
  rw [hk] at e;injection e with e;subst e
  rw [pN];refine jf.stays hs (fun p b hn hg=> ?_) (h.mem k ch ho);exact t.keep.block b (h.lt k p ch b ho hn hg) (hb p b hn hg);rw [hk] at e;injection e with e;subst e;trivial
  rw [hk] at e;injection e with e;subst e;exact h5
 intro k k' p p' ch ji b hk hn gM xj hg jl;change lk k m'=some ch at hk;change lk k' m'=some ji at gM;cases ho:lk k st.mem with
 |none=>
  have:=((t.new k ch ho hk).2 p b hn hg).2.2 k' p' ji gM xj jl;exact ⟨this.1.symm,this.2.symm⟩
 |some c0=>
  cases vx:lk k' st.mem with
  |none=>exact ((t.new k' ji vx gM).2 p' b xj jl).2.2 k p ch hk hn hg
  |some c0'=>
   refine h.jU k k' p p' c0 c0' b ho (t.yk ho hk hn) vx (t.yk vx gM xj) ?_ ?_;rw [←t.addr k (by rw [ho];simp)];exact hg;rw [←t.addr k' (by rw [vx];simp)];exact jl
 change lk k m'=some ch at hk;cases ho:lk k st.mem with
 |none=>
  rcases ((t.new k ch ho hk).2 p b hn hg).1 with hx|hx
  exact .inl (Nat.le_trans h.keep.size hx);obtain ⟨k2,p2,c2,h2,qI,wI⟩:=t.live b hx;exact h.nO k2 p2 c2 b h2 qI wI
 |some c0=>
  exact h.nO k p c0 b ho (t.yk ho hk hn) (by rw [←t.addr k (by rw [ho];simp)];exact hg)
 change lk k m'=some ch at hk;cases ho:lk k st.mem with
 |none=>exact ((t.new k ch ho hk).2 p b hn hg).2.1
 |some c0=>exact Nat.lt_of_lt_of_le (h.lt k p c0 b ho (t.yk ho hk hn) (by rw [←t.addr k (by rw [ho];simp)];exact hg)) t.keep.size
 refine ⟨t.keep.os.trans h.keep.os,t.keep.tape.trans h.keep.tape,t.keep.output.trans h.keep.output,Nat.le_trans h.keep.size t.keep.size,fun b hb hf=> ?_,
  fun b arr hb=>let ⟨arr1,h1,e1⟩:=h.keep.sz b arr hb;let ⟨lP,h2,e2⟩:=t.keep.sz b arr1 h1;⟨lP,h2,e2.trans e1⟩⟩
 rw [t.keep.block b (Nat.lt_of_lt_of_le hb h.keep.size) ?_];exact h.keep.block b hb hf;intro hG;obtain ⟨k2,p2,c2,h2,qI,wI⟩:=t.live b hG;rcases h.nO k2 p2 c2 b h2 qI wI with hx|hx
 omega;exact hf hx
theorem bJ.alloc (G:List Nat)(w:World)(o:Obj):bJ G w (w.alloc o):=
 ⟨rfl,rfl,rfl,by simp,fun b hb _=>RowKit.Below.heap_alloc w o b hb,fun b arr hb=>⟨arr,hb.keep (RowKit.Below.heap_alloc w o b hb.lt),rfl⟩⟩
theorem bJ.drew (G:List Nat)(w:World):bJ G w w.drew:=⟨rfl,rfl,rfl,Nat.le_refl _,fun _ _ _=>rfl,fun _ arr hb=>⟨arr,hb,rfl⟩⟩
def fE (m l:Mem):Prop:= ∀p∈l,lk p.1 m=none
def sZ (b:Option Nat):List Nat→Option Nat:=fun p=>if p=[] then b else none
def GM.set (g:GM)(k:Nat)(γ:List Nat→Option Nat):GM:=⟨fun q=>if q=k then γ else g.f q⟩
theorem GM.DW (g:GM)(k:Nat)(γ:List Nat→Option Nat):(g.set k γ).f k=γ:=if_pos rfl
theorem GM.Kc (g:GM){k q:Nat}(γ:List Nat→Option Nat)(h:q≠k):(g.set k γ).f q=g.f q:=if_neg h
theorem cX.new {ch:Chunk}{arr:Array Value}(h:cX cx g st a w)(oq:lk st.nx st.mem=none)(hk:bJ [] w w')(hb:dc w' w.heap.size arr)(hc: ∀g':GM,(∀k,lk k st.mem≠none→g'.f k=g.f k)→g'.f st.nx=sZ (some w.heap.size)→ ∀S',(∀b,cx.safe g st.mem w b→S' b)→jf g' ((st.nx,ch)::st.mem) S' w' (sZ (some w.heap.size)) ch):
 ∃g':GM,(g'.f st.nx=sZ (some w.heap.size))∧cX cx g' (st.l8 ((st.nx,ch)::st.mem) (st.nx+1)) a w'∧na g g' st.mem ((st.nx,ch)::st.mem) (cx.safe g st.mem w) (cx.safe g' ((st.nx,ch)::st.mem) w') w w':=by
 have jl: ∀k,lk k st.mem≠none→(g.set st.nx (sZ (some w.heap.size))).f k=g.f k:=fun k jg=>GM.Kc _ _ (fun e=>jg (by rw [e];exact oq));have mS:=GM.DW g st.nx (sZ (some w.heap.size));revert jl mS;generalize g.set st.nx (sZ (some w.heap.size))=g';intro jl mS;have h1: ∀p b,sZ (some w.heap.size) p=some b→p=[]∧b=w.heap.size:=by
  intro p b hp;unfold sZ at hp;split at hp;injection hp with hp;exact ⟨by assumption,hp.symm⟩;cases hp
 have di: ∀b,cx.safe g st.mem w b→cx.safe g' ((st.nx,ch)::st.mem) w' b:=by
  intro b ⟨h2,h3,h4⟩;refine ⟨Nat.lt_of_lt_of_le h2 hk.size,h3,?_⟩;rintro ⟨k,p,c,vy,hn,hg⟩;rw [aL] at vy;by_cases e:k=st.nx;subst e;rw [mS] at hg;have:=(h1 p b hg).2;omega;rw [if_neg e] at vy;exact h4 ⟨k,p,c,vy,hn,by rw [←jl k (by rw [vy];simp)];exact hg⟩
 have t:AE cx g g' st.mem ((st.nx,ch)::st.mem) w w' []:=by
  refine ⟨hk,(fun b hb=>by simp at hb),jl,fun k c0 ho=> ?_,fun k c0 ho fi=> ?_⟩;left;rw [aL,if_neg (fun e=>by rw [e,oq] at ho;cases ho)];exact ⟨ho,fun _ _ _ _=>by simp⟩;rw [aL] at fi;by_cases e:k=st.nx;subst e;rw [if_pos rfl] at fi;injection fi with fi;subst fi;refine ⟨by rw [mS];exact hc g' jl mS _ di,fun p b hn hg=> ?_⟩;rw [mS] at hg;obtain ⟨rfl,rfl⟩:=h1 p b hg;refine ⟨.inl (Nat.le_refl _),hb.lt,fun k' p' ji gM xj FQ=> ?_⟩;rw [aL] at gM;by_cases e:k'=st.nx;subst e;rw [mS] at FQ;exact ⟨rfl,(h1 p' _ FQ).1⟩;rw [if_neg e] at gM;have:=h.lt k' p' ji _ gM xj (by rw [←jl k' (by rw [gM];simp)];exact FQ);omega;rw [if_neg e] at fi;rw [fi] at ho;cases ho
 exact ⟨g',mS,h.AF t,t.stays⟩
end
end Go.Ide
namespace Go.Ide
section
variable {g:GM} {m m0:Mem} {S S2:Nat→Prop} {w:World}
def iZ (g:GM)(m m0:Mem)(S2:Nat→Prop)(w:World):Prop:=
 ∀k t xs,lk k m0=some (.seq t xs)→lk k m=some (.seq t xs)∧
  (∀p b,g.f k p=some b→S2 b)∧(match g k with|none=>xs=[]|some b=> ∃arr,dc w b arr∧fm S2 w (g.f k) t xs arr)
theorem iZ.nil:iZ g m [] S2 w:=fun k t xs h=>by simp [gE] at h
theorem bO.of_slice {t:Ty}{xs:List t.D}{b o cap:Nat}{arr:Array Value}(hS:S2 b)(hb:dc w b arr)(hc:xs.length≤cap)(h: ∀i (hi:i<xs.length),∃es:List Value,(∀j v,es[j]? =some v→arr[o+(i*t.size+j)]? =some v)∧bO S2 w t es xs[i]):
 bO S2 w (.sl t) [.slice (some ⟨b,o,none⟩) xs.length cap] xs:=by
 refine ⟨some ⟨b,o,none⟩,cap,rfl,hc,fun i hi=> ?_⟩;obtain ⟨es,h1,h2⟩:=h i hi;refine ⟨⟨b,o,none⟩,es,rfl,hS,fun j v hv=> ?_,h2⟩;rw [bP,hb.cell];exact h1 j v hv
theorem ym {A B:Type}(h:A=B)(hl:List A=List B)(xs:List A):Bg hl xs=xs.map (Bg h):=by
 subst h;show xs=List.map (fun x=>x) xs;simp
theorem FR {A B C D:Type}(h:A=B)(h':C=D)(hp:(A×C)=(B×D))(x:A×C):Bg hp x=(Bg h x.1,Bg h' x.2):=by
 subst h;subst h';rfl
theorem HL {t:Ty}(ih: ∀(cs:List Value) (x:t.D),bO S w t cs x→bO S w t.er cs (DG x)){cs:List Value}{xs:List t.D}(h:bO S w (.sl t) cs xs)(hs:t.er.size=t.size):bO S w (.sl t.er) cs (DG (t:= .sl t) xs):=by
 obtain ⟨a,cap,e,h1,h2⟩:=h;have hx:(DG (t:= .sl t) xs:List t.er.D)=List.map DG xs:=ym t.yf.symm _ xs;show bO S w (.sl t.er) cs (DG (t:= .sl t) xs:List t.er.D);rw [hx];refine ⟨a,cap,by rw [List.length_map];exact e,by rw [List.length_map];exact h1,fun i hi=> ?_⟩;have xi:i<List.length xs:=by rw [List.length_map] at hi;exact hi
 obtain ⟨ad,es,k1,k2,k3,k4⟩:=h2 i xi;refine ⟨ad,es,k1,k2,by rw [hs];exact k3,?_⟩;rw [List.getElem_map];exact ih es _ k4
theorem NG {t:Ty}(ih: ∀(cs:List Value) (x:t.D),bO S w t cs x→bO S w t.er cs (DG x)){cs:List Value}{xs:List t.D}(h:bO S w (.bx t) cs xs)(hs:t.er.size=t.size):bO S w (.bx t.er) cs (DG (t:= .bx t) xs):=by
 obtain ⟨a,e,h2⟩:=h;have hx:(DG (t:= .bx t) xs:List t.er.D)=List.map DG xs:=ym t.yf.symm _ xs;show bO S w (.bx t.er) cs (DG (t:= .bx t) xs:List t.er.D);rw [hx];refine ⟨a,e,fun i hi=> ?_⟩;have xi:i<List.length xs:=by rw [List.length_map] at hi;exact hi
 obtain ⟨es,k2,k3,k4⟩:=h2 i xi;refine ⟨es,k2,by rw [hs];exact k3,?_⟩;rw [List.getElem_map];exact ih es _ k4
theorem rT:(t:Ty)→t.er.size=t.size
 | .own _=>rfl
 | .sl _=>rfl
 | .bx _=>rfl
 | .pair a b=>by simp only [Ty.er,Ty.size,rT a,rT b]
 | .st t=>rT t
 | .int _=>rfl
 | .aW _=>rfl
 | .bool=>rfl
 | .str=>rfl
theorem pU: ∀(t:Ty) (cs:List Value) (x:t.D),bO S w t cs x→bO S w t.er cs (DG x)
 | .own t,cs,xs,h=>HL (t:=t) (fun cs x=>pU t cs x) h (rT t)
 | .sl t,cs,xs,h=>HL (t:=t) (fun cs x=>pU t cs x) h (rT t)
 | .bx t,cs,xs,h=>NG (t:=t) (fun cs x=>pU t cs x) h (rT t)
 | .pair a b,cs,x,⟨c1,c2,e,h1,h2⟩=>by
  have hx:DG (t:= .pair a b) x=(DG x.1,DG x.2):=FR a.yf.symm b.yf.symm _ x;rw [hx];exact ⟨c1,c2,e,pU a c1 _ h1,pU b c2 _ h2⟩
 | .st t,cs,x,h=>pU t cs x h
 | .int k,cs,x,h=>h
 | .aW k,cs,x,h=>h
 | .bool,cs,x,h=>h
 | .str,cs,x,h=>h
theorem yn: ∀(t:Ty) {x:t.D} {o:Nat} {r:Σ e:Ty,List e.D},eP t x o=some r→o<t.size
 | .own t,x,o,r,h=>by
  cases o with
  |zero=>exact Nat.zero_lt_one
  |succ o=>cases h
 | .pair a b,x,o,r,h=>by
  unfold eP at h;cases hb:Nat.blt o a.size with
  |true=>
   have:o<a.size:=Nat.le_of_ble_eq_true hb;simp only [Ty.size];omega
  |false=>
   rw [hb] at h;have:=yn b h;have h2: ¬o<a.size:=by
    intro hc;have:Nat.blt o a.size=true:=Nat.ble_eq_true_of_le hc;rw [hb] at this;cases this
   simp only [Ty.size];omega
 | .st t,x,o,r,h=>yn t (x:=x) h
 | .int _,_,_,_,h=>by cases h
 | .aW _,_,_,_,h=>by cases h
 | .bool,_,_,_,h=>by cases h
 | .str,_,_,_,h=>by cases h
 | .sl _,_,_,_,h=>by cases h
 | .bx _,_,_,_,h=>by cases h
theorem nu {a b:Nat}:Nat.blt a b=true↔a<b:=by
 constructor;intro h;exact Nat.le_of_ble_eq_true h;intro h;exact Nat.ble_eq_true_of_le h
theorem kX {a b:Nat}(h: ¬a<b):Nat.blt a b=false:=by
 cases hb:Nat.blt a b with
 |true=>exact absurd (nu.1 hb) h
 |false=>rfl
theorem cW.slot: ∀(t:Ty) {γ:List Nat→Option Nat} {o0 o:Nat} {cs:List Value} {x:t.D} {e:Ty} {ys:List e.D},cW S w t γ o0 cs x→eP t x o=some ⟨e,ys⟩→
 ∃u,cs[o]? =some u∧cW S w (.own e) γ (o0+o) [u] ys
 | .own t,γ,o0,o,cs,xs,e,ys,h,hs=>by
  cases o with
  |zero=>
   have hs:some (⟨t,xs⟩:Σ e:Ty,List e.D)=some ⟨e,ys⟩:=hs;injection hs with hs;injection hs with h1 h2;subst h1;have h2:=eq_of_heq h2;subst h2;obtain ⟨v,e,h3⟩:=h;subst e;exact ⟨v,rfl,v,rfl,h3⟩
  |succ o=>cases hs
 | .pair a b,γ,o0,o,cs,x,e,ys,⟨c1,c2,ec,h1,h2⟩,hs=>by
  unfold eP at hs;by_cases hb:o<a.size;rw [nu.2 hb] at hs;obtain ⟨u,k1,k2⟩:=cW.slot a h1 hs;refine ⟨u,?_,k2⟩;subst ec;rw [List.getElem?_append_left (by rw [cW.len a h1];exact hb)];exact k1;rw [kX hb] at hs;obtain ⟨u,k1,k2⟩:=cW.slot b h2 hs;refine ⟨u,?_,?_⟩;subst ec;rw [List.getElem?_append_right (by rw [cW.len a h1];omega),cW.len a h1];exact k1;rw [show o0+o=o0+a.size+(o - a.size) from by omega];exact k2
 | .st t,γ,o0,o,cs,x,e,ys,h,hs=>cW.slot t (cs:=cs) (x:=x) h hs
 | .int _,_,_,_,_,_,_,_,_,hs=>by cases hs
 | .aW _,_,_,_,_,_,_,_,_,hs=>by cases hs
 | .bool,_,_,_,_,_,_,_,_,hs=>by cases hs
 | .str,_,_,_,_,_,_,_,_,hs=>by cases hs
 | .sl _,_,_,_,_,_,_,_,_,hs=>by cases hs
 | .bx _,_,_,_,_,_,_,_,_,hs=>by cases hs
theorem NH {t:Ty}{γ:List Nat→Option Nat}{o:Nat}{u v:Value}{xs:List t.D}(hγ: ∀p b,γ p=some b→S2 b)(hu:cW S2 w (.own t) γ o [u] xs)(hv:gL (γ [o]) w t.size xs.length v):bO S2 w (.sl t) [v] xs:=
 cW.data (fun _ h=>h) (.own t) hγ ⟨v,rfl,hv,hu.choose_spec.2.2⟩
theorem qS (hS: ∀b,S b→S2 b)(hm:iZ g m m0 S2 w){t:Ty}{c:aA}{x:t.D}{v:Value}(h:eE m0 t c=some x)(hr:CR g m S w c v):bO S2 w t [v] x:=by
 cases c with
 |aw t' y=>
  simp only [eE] at h;split at h;rename_i e;subst e;injection h with h;subst h;exact bO.keep (fun b hb=>⟨hS b hb,rfl⟩) t' [v] y hr;cases h
 |all c=>
  simp only [eE] at h;split at h;rename_i e;split at h;rename_i e' xs hl;obtain ⟨fb,JZ,hc⟩:=hm c e' xs hl;have hx:=hr.2.2 e' xs (.inl fb);have key:bO S2 w (.sl e') [v] xs:=by
   unfold gL at hx;cases hg:g c with
   |none=>
    rw [hg] at hx hc;obtain ⟨a,ha⟩:=hx;subst ha;have hn:xs=[]:=hc;subst hn;exact ⟨a,0,rfl,Nat.le_refl _,fun i hi=>by simp at hi⟩
   |some b=>
    rw [hg] at hx hc;obtain ⟨cap,arr,e1,h1,h2,h3,h4⟩:=hx;obtain ⟨aG,jS,Tt⟩:=hc;subst e1;refine bO.of_slice (xs:=xs) (JZ [] b hg) jS h1 fun i hi=> ?_;obtain ⟨es,k1,k2⟩:=Tt.data (fun _ h=>h) JZ i hi;exact ⟨es,fun j v hv=>by rw [Nat.zero_add];exact k1 j v hv,k2⟩
  split at h;rename_i he;subst he;injection h with h;subst h;exact key;split at h;rename_i he;subst he;injection h with h;subst h;exact pU (.sl e') [v] xs key;cases h;cases h;cases h
 |row c i o=>
  simp only [eE] at h;split at h;rename_i e;split at h;rename_i e1 xs hl;split at h;rename_i e' ys hs;split at h;rename_i he;subst he;injection h with h;subst h;obtain ⟨fb,JZ,hc⟩:=hm c e1 xs hl;obtain ⟨hi,hx⟩:=hr.2.2 e1 xs fb;have hx:=hx e' ys hs;cases hg:g c with
  |none=>rw [hg] at hc;have hn:xs=[]:=hc;subst hn;simp at hi
  |some b=>
   rw [hg] at hc;obtain ⟨arr,hb,he⟩:=hc;obtain ⟨es,_,k2⟩:=he i hi;have hd:xs.getD i e1.ga=xs[i]:=by simp [List.getD,hi]
   rw [hd] at hs;obtain ⟨u,_,k3⟩:=cW.slot e1 k2 hs;rw [Nat.zero_add] at k3;exact NH (fun p b hp=>JZ _ b hp) k3 hx
  cases h;cases h;cases h;cases h
 |AB c i o j sz off=>simp [eE] at h
 |ref c off len=>
  simp only [eE] at h;split at h;rename_i e;split at h;rename_i e' xs hl;split at h;rename_i he;subst he;injection h with h;subst h;obtain ⟨fb,JZ,hc⟩:=hm c e' xs hl;obtain ⟨hle,hx⟩:=hr.2.2 e' xs (.inl fb);have hlen:((xs.drop off).take len).length=len:=by simp;omega
  rcases hx with ⟨h0,_,a,ha⟩|⟨b,cap,arr,hg,e1,h1,h2,h3,h4⟩
  subst ha;subst h0;exact ⟨a,0,by simp [cJ],by simp [cJ],fun i hi=>by simp [cJ] at hi⟩;rw [hg] at hc;obtain ⟨aG,jS,Tt⟩:=hc;subst e1;have:=bO.of_slice (S2:=S2) (w:=w) (t:=e') (xs:=(xs.drop off).take len) (o:=off*e'.size) (cap:=cap) (JZ [] b hg) jS (by omega) fun i hi=>by
   have xi:off+i<xs.length:=by rw [hlen] at hi;omega
   obtain ⟨es,k1,k2⟩:=Tt.data (fun _ h=>h) JZ (off+i) xi;refine ⟨es,fun j v hv=> ?_,?_⟩;have:=k1 j v hv;rw [Nat.add_mul] at this;rw [←Nat.add_assoc];exact this;simpa using k2
  rw [hlen] at this;exact this;cases h;cases h;cases h
 |al=>
  simp only [eE] at h;split at h;injection h with h;subst h;obtain ⟨a,ha⟩:=hr;subst ha;exact ⟨a,0,rfl,Nat.le_refl _,fun i hi=>by simp at hi⟩;cases h
 |ptr c off=>simp [eE] at h
 |dI c i sz off=>
  simp only [eE] at h;split at h;rename_i e;split at h;rename_i e' xs hl;split at h;rename_i he;subst he;cases hb:(Nat.beq i 0&&(Nat.beq off 0&&Nat.beq sz e'.size)) with
  |false=>rw [hb] at h;cases h
  |true=>
   rw [hb] at h;simp only [cond_true] at h;injection h with h;subst h;simp only [Bool.and_eq_true] at hb;obtain ⟨h1,h2,h3⟩:=hb;have h1:=Nat.eq_of_beq_eq_true h1;have h2:=Nat.eq_of_beq_eq_true h2;subst h1;subst h2;obtain ⟨fb,JZ,hc⟩:=hm c e' xs hl;obtain ⟨_,b,hg,ev⟩:=hr;rw [hg] at hc;obtain ⟨arr,jS,Tt⟩:=hc;refine ⟨⟨b,0,none⟩,by rw [ev];simp,fun i hi=> ?_⟩;obtain ⟨es,k1,k2⟩:=Tt.data (fun _ h=>h) JZ i hi;refine ⟨es,JZ [] b hg,fun j v hv=> ?_,k2⟩;rw [bP,jS.cell,Nat.zero_add];exact k1 j v hv
  cases h;cases h;cases h
 |ip t x off=>simp [eE] at h
 |fn f=>simp [eE] at h
 |nr f t' x=>simp [eE] at h
 |gv=>simp [eE] at h
 |bad=>simp [eE] at h
theorem mH (hS: ∀b,S b→S2 b)(hm:iZ g m m0 S2 w){t:Ty}{cs:List aA}{x:t.D}{r:List aA}{vs:List Value}(h:c9 m0 t cs=some (x,r))(hr:bC (CR g m S w) cs vs):
 ∃v1 v2,vs=v1++v2∧bO S2 w t v1 x∧bC (CR g m S w) r v2:=by
 cases cs with
 |nil=>simp [c9] at h
 |cons c cs=>
  cases vs with
  |nil=>exact hr.elim
  |cons v vs=>
   simp only [c9] at h;split at h;rename_i y hy;injection h with h;injection h with h1 h2;subst h1;subst h2;exact ⟨[v],vs,rfl,qS hS hm hy hr.1,hr.2⟩;cases h
theorem jm (hS: ∀b,S b→S2 b)(hm:iZ g m m0 S2 w): ∀(t:Ty) {cs:List aA} {x:t.D} {r:List aA} {vs:List Value},impl m0 t cs=some (x,r)→bC (CR g m S w) cs vs→
 ∃v1 v2,vs=v1++v2∧bO S2 w t v1 x∧bC (CR g m S w) r v2
 | .int k,cs,x,r,vs,h,hr=>mH hS hm (t:= .int k) (cs:=cs) h hr
 | .aW k,cs,x,r,vs,h,hr=>mH hS hm (t:= .aW k) (cs:=cs) h hr
 | .bool,cs,x,r,vs,h,hr=>mH hS hm (t:= .bool) (cs:=cs) h hr
 | .str,cs,x,r,vs,h,hr=>mH hS hm (t:= .str) (cs:=cs) h hr
 | .sl t,cs,x,r,vs,h,hr=>mH hS hm (t:= .sl t) (cs:=cs) h hr
 | .own t,cs,x,r,vs,h,hr=>mH hS hm (t:= .own t) (cs:=cs) h hr
 | .bx t,cs,x,r,vs,h,hr=>mH hS hm (t:= .bx t) (cs:=cs) h hr
 | .st t,cs,x,r,vs,h,hr=>jm hS hm t h hr
 | .pair a b,cs,x,r,vs,h,hr=>by
  simp only [impl] at h;split at h;rename_i y r1 h1;split at h;rename_i z r2 h2;injection h with h;injection h with e1 e2;subst e1;subst e2;obtain ⟨v1,v2,rfl,k1,k2⟩:=jm hS hm a h1 hr;obtain ⟨v3,v4,rfl,k3,k4⟩:=jm hS hm b h2 k2;exact ⟨v1++v3,v4,by simp,⟨v1,v3,rfl,k1,k3⟩,k4⟩;cases h;cases h
def dT (t:Ty)(cs:List Value)(v:Value):Prop:=if t.ye then v= .agg cs.toArray else cs=[v]
theorem pb (hS: ∀b,S b→S2 b)(hm:iZ g m m0 S2 w){t:Ty}{v:aD}{x:t.D}{val:Value}(h:lZ m0 t v=some x)(hr:VR g m S w v val):
 ∃cs,dT t cs val∧bO S2 w t cs x:=by
 unfold lZ at h;split at h;rename_i c kF;split at h;rename_i y he;injection h with h;subst h;obtain ⟨v1,v2,e,h1,h2⟩:=jm (vs:=[val]) hS hm t he ⟨hr,trivial⟩;have:v2=[]:=by cases v2 with|nil=>rfl|cons=>exact h2.elim
 subst this;simp at e;subst e;exact ⟨[val],by simp [dT,kF],h1⟩;cases h;rename_i cs kF;split at h;rename_i y he;injection h with h;subst h;obtain ⟨vs,e,kG⟩:=hr;obtain ⟨v1,v2,e2,h1,h2⟩:=jm hS hm t he kG;have:v2=[]:=by cases v2 with|nil=>rfl|cons=>exact h2.elim
 subst this;simp at e2;subst e2;exact ⟨vs,by simp [dT,kF,e],h1⟩;cases h;cases h
theorem lq: ∀(t:Ty) {cs:List Value} {x:t.D},bO S w t cs x→bC (CR g m S w) (ib t x) cs
 | .int _,_,_,h=>by subst h;exact ⟨rfl,trivial⟩
 | .aW _,_,_,⟨b,e,h⟩=>by subst e;exact ⟨⟨b,rfl,h⟩,trivial⟩
 | .bool,_,_,h=>by subst h;exact ⟨rfl,trivial⟩
 | .str,_,_,h=>by subst h;exact ⟨rfl,trivial⟩
 | .sl t,_,_,⟨a,cap,e,h⟩=>by subst e;exact ⟨⟨a,cap,rfl,h⟩,trivial⟩
 | .own t,_,_,⟨a,cap,e,h⟩=>by subst e;exact ⟨⟨a,cap,rfl,h⟩,trivial⟩
 | .bx t,_,_,⟨a,e,h⟩=>by subst e;exact ⟨⟨a,rfl,h⟩,trivial⟩
 | .pair a b,_,_,⟨c1,c2,e,h1,h2⟩=>by subst e;exact (lq a h1).append (lq b h2)
 | .st t,_,_,h=>lq t (cs:=_) h
theorem rU {c i:Nat}: ∀(t:Ty) {γ:List Nat→Option Nat} {o0:Nat} {cs:List Value} {x:t.D},cW S w t γ o0 cs x→
 (∀o e ys v,eP t x o=some ⟨e,ys⟩→gL (γ [o0+o]) w e.size ys.length v→CR g m S w (.row c i (o0+o)) v)→bC (CR g m S w) (Bh c i t o0 x) cs
 | .own t,γ,o0,cs,xs,⟨v,e,h1,_⟩,yp=>by subst e;exact ⟨yp 0 t xs v rfl h1,trivial⟩
 | .pair a b,γ,o0,cs,x,⟨c1,c2,e,h1,h2⟩,yp=>by
  subst e;refine (rU a h1 fun o e ys v hs ha=>yp o e ys v ?_ ha).append (rU b h2 fun o e ys v hs ha=> ?_);unfold eP;rw [nu.2 (yn a hs)];exact hs;have:=yp (a.size+o) e ys v (by unfold eP;rw [kX (by omega),Nat.add_sub_cancel_left];exact hs) (by rw [←Nat.add_assoc];exact ha);rw [←Nat.add_assoc] at this;exact this
 | .st t,γ,o0,cs,x,h,yp=>rU t (cs:=cs) (x:=x) h yp
 | .int _,_,_,_,_,h,_=>by have h:=h;subst h;exact ⟨rfl,trivial⟩
 | .aW _,_,_,_,_,⟨b,e,h⟩,_=>by subst e;exact ⟨⟨b,rfl,h⟩,trivial⟩
 | .bool,_,_,_,_,h,_=>by have h:=h;subst h;exact ⟨rfl,trivial⟩
 | .str,_,_,_,_,h,_=>by have h:=h;subst h;exact ⟨rfl,trivial⟩
 | .sl t,_,_,_,_,⟨a,cap,e,h⟩,_=>by subst e;exact ⟨⟨a,cap,rfl,h⟩,trivial⟩
 | .bx t,_,_,_,_,⟨a,e,h⟩,_=>by subst e;exact ⟨⟨a,rfl,h⟩,trivial⟩
theorem Kd (v:Value):CR g m S w (Tr v) v:=by
 unfold Tr;split;exact rfl;exact rfl;exact ⟨_,rfl,rfl⟩;rename_i s;simp [CR,bO];exact ⟨none,rfl⟩;trivial;trivial;rename_i h1 h2 h3 h4 h5 h6 h7;cases v<;>first
  |rfl
  |exact absurd rfl (h6 _)
  |exact absurd rfl (h7 _)
theorem HM: ∀(l:List Value),bC (CR g m S w) (l.map Tr) l
 |[]=>trivial
 |v::l=>⟨Kd v,HM l⟩
theorem xJ (v:Value):VR g m S w (qQ v) v:=by
 unfold qQ;split;rename_i cs;exact ⟨cs.toList,by simp,HM _⟩;trivial;exact Kd v
theorem cg {cx:Cx}{st:St}{a:Act}(h:cX cx g st a w){x:Operand}{v:aD}(he:ev st.fr x=some v):VR g st.mem (cx.safe g st.mem w) w v (a.eval x):=by
 cases x with
 |tmp t=>exact h.fr t v he
 |const c=>simp only [ev] at he;injection he with he;subst he;exact xJ c
 |func f=>simp only [ev] at he;injection he with he;subst he;exact rfl
 |global g=>simp [ev] at he
end
end Go.Ide
namespace Go.Ide
section
variable {P:Program} {g:GM} {m:Mem} {S:Nat→Prop} {w:World}
theorem bG {a b:Nat}(h:Nat.beq a b=true):a=b:=Nat.eq_of_beq_eq_true h
theorem iT {a b:Nat}(h:Nat.ble a b=true):a≤b:=Nat.le_of_ble_eq_true h
theorem cG {T:TypeId}{n:Nat}(h:cY P T=some n):(sizeOf T).run P w= .ok n w:=by
 unfold cY at h;cases hi:P.info? T with
 |none=>rw [hi] at h;cases h
 |some i=>rw [hi] at h;injection h with h;subst h;simp [sizeOf,typeInfo,hi]
theorem yq {T:TypeId}{ag:Bool}(h:B6 P T=some ag):(isAgg T).run P w= .ok ag w:=by
 unfold B6 at h;cases hu:P.underlying T with
 |none=>rw [hu] at h;cases h
 |some d=>
  rw [hu] at h;simp only [isAgg,Sem.run_bind,run_underlying hu,Result.andThen_ok];cases d<;>simp_all
theorem B7 {ag:Bool}{l9:List aA}{iv:aD}{cs:List Value}(h:Pn ag l9=some iv)(hr:bC (CR g m S w) l9 cs):
 ∃r,(if ag then r=Value.agg cs.toArray else cs=[r])∧VR g m S w iv r:=by
 unfold Pn at h;split at h;injection h with h;subst h;exact ⟨_,rfl,cs,rfl,hr⟩;injection h with h;subst h;cases cs with
 |nil=>exact hr.elim
 |cons v vs=>
  cases vs with
  |nil=>exact ⟨v,rfl,hr.1⟩
  |cons=>exact hr.2.elim
 cases h
theorem oC {T:TypeId}{n:Nat}{ag:Bool}(hs:cY P T=some n)(ha:B6 P T=some ag){ad:Addr}{cs:List Value}(hl:cs.length=n)(hc: ∀j v,cs[j]? =some v→w.cell? (ad.add j)=some v){r:Value}(hr:if ag then r=Value.agg cs.toArray else cs=[r]):
 (Instr.loadAt T (.pointer (some ad))).run P w= .ok r w:=by
 cases ag with
 |true=>
  simp only [if_true] at hr;subst hr;subst hl;simp [Instr.loadAt,Instr.sureAddr,loadVar,yq ha,cG hs,run_loadCells_list w ad cs hc]
 |false=>
  simp only [Bool.false_eq_true,if_false] at hr;subst hr;have:=hc 0 r rfl;rw [show ad.add 0=ad from by simp [Addr.add]] at this;simp [Instr.loadAt,Instr.sureAddr,loadVar,yq ha,this]
theorem bO.nP: ∀(t:Ty) {cs:List Value} {x:t.D},bO S w t cs x→ ∀v∈cs,v.oneCell'=true
 | .int _,_,_,h,v,hv=>by subst h;simp at hv;subst hv;rfl
 | .aW _,_,_,⟨b,e,h⟩,v,hv=>by subst e;simp at hv;subst hv;rfl
 | .bool,_,_,h,v,hv=>by subst h;simp at hv;subst hv;rfl
 | .str,_,_,h,v,hv=>by subst h;simp at hv;subst hv;rfl
 | .sl t,_,_,⟨a,cap,e,h⟩,v,hv=>by subst e;simp at hv;subst hv;rfl
 | .bx t,_,_,⟨a,e,h⟩,v,hv=>by subst e;simp at hv;subst hv;rfl
 | .own t,_,_,⟨a,cap,e,h⟩,v,hv=>by subst e;simp at hv;subst hv;rfl
 | .pair a b,_,_,⟨c1,c2,e,h1,h2⟩,v,hv=>by
  subst e;rcases List.mem_append.1 hv with h|h
  exact bO.nP a h1 v h;exact bO.nP b h2 v h
 | .st t,_,_,h,v,hv=>bO.nP t (cs:=_) h v hv
theorem yr {c:aA}{v:Value}(ho:c.ok=true)(h:CR g m S w c v):v.oneCell'=true:=by
 cases c with
 |aw t x=>exact bO.nP t (cs:=[v]) h v (by simp)
 |ptr c off=>obtain ⟨_,b,_,e⟩:=h;subst e;rfl
 |dI c i sz off=>obtain ⟨_,b,_,e⟩:=h;subst e;rfl
 |ip t x off=>obtain ⟨ad,es,e,_⟩:=h;subst e;rfl
 |all c=>exact h.2.1
 |ref c off len=>exact h.2.1
 |row c i o=>exact h.2.1
 |AB c i o j sz off=>obtain ⟨_,b,e,_⟩:=h;subst e;rfl
 |al=>obtain ⟨a,e⟩:=h;subst e;rfl
 |fn f=>have:v=_:=h;subst this;rfl
 |nr f t x=>obtain ⟨ad,es,e,_⟩:=h;subst e;rfl
 |gv=>exact h
 |bad=>cases ho
theorem HN: ∀{cs:List aA} {vs:List Value},cs.all aA.ok=true→bC (CR g m S w) cs vs→ ∀v∈vs,v.oneCell'=true
 |[],[],_,_,v,hv=>by simp at hv
 |c::cs,u::vs,ho,h,v,hv=>by
  simp only [List.all_cons,Bool.and_eq_true] at ho;rcases List.mem_cons.1 hv with rfl|hv
  exact yr ho.1 h.1;exact HN ho.2 h.2 v hv
 |[],_::_,_,h,_,_=>h.elim
 |_::_,[],_,h,_,_=>h.elim
theorem rV {u:Value}(h:u.oneCell'=true):u.cells= #[u]:=by cases u<;>first|rfl|cases h
theorem jB {v:aD}{u:Value}(ho:v.ok=true)(h:VR g m S w v u): ∃vs,u.cells.toList=vs∧bC (CR g m S w) v.cells vs:=by
 cases v with
 |one c=>exact ⟨[u],by rw [rV (yr ho h)],h,trivial⟩
 |agg cs=>obtain ⟨vs,rfl,kG⟩:=h;exact ⟨vs,rfl,kG⟩
 |FE=>cases ho
 |DF=>cases ho
 |gv=>cases ho
theorem pW {v:aD}{u:Value}(ho:v.ok=true)(h:VR g m S w v u): ∀x∈u.cells.toList,x.oneCell'=true:=by
 cases v with
 |one c=>intro x hx;rw [rV (yr ho h)] at hx;simp at hx;subst hx;exact yr ho h
 |agg cs=>obtain ⟨vs,rfl,kG⟩:=h;exact HN ho kG
 |FE=>cases ho
 |DF=>cases ho
 |gv=>cases ho
def kY (g:GM)(m:Mem)(S:Nat→Prop)(w:World):Prop:= ∀k ch,lk k m=some ch→jf g m S w (g.f k) ch
theorem DX {n:Nat}{c:aA}{l9:List aA}{V7:List Prop}(hm:kY g m S w)(h:ns m n c=some (l9,V7)){v:Value}(hr:CR g m S w c v):
 ∃ad cs,v= .pointer (some ad)∧cs.length=n∧(∀j u,cs[j]? =some u→w.cell? (ad.add j)=some u)∧bC (CR g m S w) l9 cs:=by
 unfold ns at h;split at h;rename_i c off;split at h;rename_i cs hl;cases hb:Nat.ble (off+n) cs.length with
 |false=>simp [hb] at h
 |true=>
  rw [hb] at h;simp only [cond_true] at h;injection h with h;injection h with h1 h2;subst h1;have hle:=iT hb;obtain ⟨b,arr,hg,jV,bF⟩:=hm c _ hl;obtain ⟨_,b',jl,e⟩:=hr;have jl:g.f c []=some b':=jl;rw [hg] at jl;injection jl with jl;subst jl;have hlen:=bF.length;refine ⟨⟨b,off,none⟩,(arr.toList.drop off).take n,e,by simp at hlen⊢;omega,fun j u hu=> ?_,(bF.drop off).take n⟩;rw [bP,jV.cell];rw [List.getElem?_take] at hu;split at hu;simpa using hu;cases hu
 cases h;cases h;rename_i t x off;cases hb:Nat.ble (off+n) (ib t x).length with
 |false=>simp [hb] at h
 |true=>
  rw [hb] at h;simp only [cond_true] at h;injection h with h;injection h with h1 h2;subst h1;have hle:=iT hb;obtain ⟨ad,es,e,hs,bA,cN⟩:=hr;have bF:bC (CR g m S w) (ib t x) es:=lq t cN;have hlen:=bF.length;refine ⟨ad.add off,(es.drop off).take n,e,by simp;omega,fun j u hu=> ?_,(bF.drop off).take n⟩;rw [add_add];rw [List.getElem?_take] at hu;split at hu;exact bA _ u (by simpa using hu);cases hu
 cases h
def aP (P:Program)(g:GM)(m:Mem)(S:Nat→Prop)(w:World)(s:Sem Value)(e:cf):Prop:=
 e.new=[]∧e.l6=[]∧ ∃r,s.run P w= .ok r w∧VR g m S w e.val r
theorem aP.mk {v:aD}{s:Sem Value}{r:Value}{e:cf}(he:e.new=[]∧e.l6=[]∧e.val=v)(h:s.run P w= .ok r w)(hr:VR g m S w v r):aP P g m S w s e:=
 ⟨he.1,he.2.1,r,h,by rw [he.2.2];exact hr⟩
theorem aJ {v:aD}{e:cf}(h:ca v=some e):e.new=[]∧e.l6=[]∧e.val=v:=by
 unfold ca at h;injection h with h;subst h;exact ⟨rfl,rfl,rfl⟩
theorem cO {v:aD}{cs:List Prop}{e:cf}(h:gI v cs=some e):(e.new=[]∧e.l6=[]∧e.val=v)∧e.cond=cs:=by
 unfold gI at h;injection h with h;subst h;exact ⟨⟨rfl,rfl,rfl⟩,rfl⟩
theorem getD_eq {α:Type}{xs:List α}{i:Nat}{d:α}(h:i<xs.length):xs.getD i d=xs[i]:=by
 simp [List.getD,h]
theorem fm.at_ {γ:List Nat→Option Nat}{t:Ty}{xs:List t.D}{arr:Array Value}(h:fm S w γ t xs arr){i:Nat}(hi:i<xs.length):
 ∃es:List Value,es.length=t.size∧(∀j v,es[j]? =some v→arr[i*t.size+j]? =some v)∧cW S w t (fun p=>γ (i::p)) 0 es (xs.getD i t.ga):=by
 obtain ⟨es,h1,h2⟩:=h i hi;exact ⟨es,cW.len t h2,h1,by rw [getD_eq hi];exact h2⟩
theorem gL.one {gc:Option Nat}{sz n:Nat}{v:Value}(h:gL gc w sz n v):v.oneCell'=true:=by
 unfold gL at h;cases gc with
 |none=>obtain ⟨a,rfl⟩:=h;rfl
 |some b=>obtain ⟨cap,arr,rfl,_⟩:=h;rfl
theorem Qd {c i o:Nat}{t e:Ty}{xs:List t.D}{ys:List e.D}{v:Value}(hl:lk c m=some (.seq t xs))(hi:i<xs.length)(hs:eP t (xs.getD i t.ga) o=some ⟨e,ys⟩)(ha:gL (g.f c [i,o]) w e.size ys.length v):
 CR g m S w (.row c i o) v:=by
 refine ⟨by rw [hl];simp,ha.one,fun t' cK fb=> ?_⟩;rw [hl] at fb;injection fb with fb;injection fb with h1 h2;subst h1;have h2:=eq_of_heq h2;subst h2;refine ⟨hi,fun e' vq hs'=> ?_⟩;rw [hs] at hs';injection hs' with hs';injection hs' with h1 h2;subst h1;have h2:=eq_of_heq h2;subst h2;exact ha
theorem rW {c i o:Nat}{t e:Ty}{xs:List t.D}{ys:List e.D}(hm:kY g m S w)(hl:lk c m=some (.seq t xs))(hi:i<xs.length)(hs:eP t (xs.getD i t.ga) o=some ⟨e,ys⟩):
 match g.f c [i,o] with
 |none=>ys.length=0
 |some b=> ∃arr,dc w b arr∧ ∀j (h:j<ys.length),∃es:List Value,(∀q v,es[q]? =some v→arr[j*e.size+q]? =some v)∧cW S w e (fun p=>g.f c (i::o::j::p)) 0 es ys[j]:=by
 have cH:=hm c _ hl;unfold jf at cH;cases hg:g.f c [] with
 |none=>rw [hg] at cH;have hn:xs=[]:=cH;subst hn;simp at hi
 |some b=>
  rw [hg] at cH;obtain ⟨arr,hb,he⟩:=cH;obtain ⟨es,_,_,h3⟩:=he.at_ hi;obtain ⟨u,_,v,_,_,h4⟩:=cW.slot t h3 hs;rw [Nat.zero_add] at h4;exact h4
theorem qT {T:TypeId}{v:aD}{e:cf}{va:Value}(hm:kY g m S w)(h:pa P m T v=some e)(hc:bB e.cond)(hr:VR g m S w v va):aP P g m S w (Instr.loadAt T va) e:=by
 unfold pa at h;split at h;rename_i c i sz off n ag hs ha;split at h;rename_i t xs hl;cases gW:(Nat.ble (off+n) t.size&&Nat.beq sz t.size) with
 |false=>simp [gW] at h
 |true=>
  rw [gW] at h;simp only [cond_true] at h;simp only [Bool.and_eq_true] at gW;obtain ⟨hn,hz⟩:=gW;have hn:=iT hn;have hz:=bG hz;split at h;rename_i r Qe;obtain ⟨he,ow⟩:=cO h;rw [ow] at hc;have hi:i<xs.length:=hc.1;obtain ⟨_,b,hg,e1⟩:=hr;have cH:=hm c _ hl;unfold jf at cH;have hg:g.f c []=some b:=hg;rw [hg] at cH;obtain ⟨arr,jV,gF⟩:=cH;obtain ⟨es,hlen,bA,cN⟩:=gF.at_ hi;have bF:bC (CR g m S w) (Bh c i t 0 (xs.getD i t.ga)) es:=rU t cN fun o e ys v hs ha=>by
   rw [Nat.zero_add] at ha⊢;exact Qd hl hi hs ha
  obtain ⟨rv,h1,h2⟩:=B7 (g:=g) (m:=m) Qe ((bF.drop off).take n);subst e1;refine aP.mk he (oC hs ha (cs:=(es.drop off).take n) (by simp;omega) (fun j u hu=> ?_) h1) h2;rw [bP,jV.cell,hz,Nat.add_assoc];rw [List.getElem?_take] at hu;split at hu;exact bA _ u (by simpa using hu);cases hu;cases h
 rename_i t xs jj l9 ks hl;cases gW:(Nat.ble (off+n) t.size&&Nat.beq sz t.size) with
 |false=>simp [gW] at h
 |true=>
  rw [gW] at h;simp only [cond_true] at h;simp only [Bool.and_eq_true] at gW;obtain ⟨hn,hz⟩:=gW;have hn:=iT hn;have hz:=bG hz;split at h;rename_i r Qe;obtain ⟨he,ow⟩:=cO h;rw [ow] at hc;have hi:i=jj:=hc.1;subst hi;obtain ⟨_,b,hg,e1⟩:=hr;obtain ⟨_,b',arr,jl,jV,_,_,es,hlen,bA,bF⟩:=hm c _ hl;have hg:g.f c []=some b:=hg;rw [hg] at jl;injection jl with jl;subst jl;obtain ⟨rv,h1,h2⟩:=B7 (g:=g) (m:=m) Qe ((bF.drop off).take n);subst e1;refine aP.mk he (oC hs ha (cs:=(es.drop off).take n) (by simp;omega) (fun j u hu=> ?_) h1) h2;rw [bP,jV.cell,hz,Nat.add_assoc];rw [List.getElem?_take] at hu;split at hu;exact bA _ u (by simpa using hu);cases hu;cases h
 cases h;rename_i c i o j sz off n ag hs ha;split at h;rename_i t xs hl;split at h;rename_i e ys DH;cases gW:((Nat.ble (off+n) e.size&&Nat.beq sz e.size)&&e.top) with
 |false=>simp [gW] at h
 |true=>
  rw [gW] at h;simp only [cond_true] at h;simp only [Bool.and_eq_true] at gW;obtain ⟨⟨hn,hz⟩,ht⟩:=gW;have hn:=iT hn;have hz:=bG hz;split at h;rename_i r Qe;obtain ⟨he,ow⟩:=cO h;rw [ow] at hc;have hj:j<ys.length:=hc.1;obtain ⟨_,b,e1,FF⟩:=hr;obtain ⟨hi,hg⟩:=FF t xs hl;have hb:=rW hm hl hi DH;rw [hg] at hb;obtain ⟨arr,jV,gF⟩:=hb;obtain ⟨es,bA,nf⟩:=gF j hj;have hlen:=cW.len e nf;have bF:bC (CR g m S w) (ib e (ys.getD j e.ga)) es:=lq e (by rw [getD_eq hj];exact cW.rep e ht nf);obtain ⟨rv,h1,h2⟩:=B7 (g:=g) (m:=m) Qe ((bF.drop off).take n);subst e1;refine aP.mk he (oC hs ha (cs:=(es.drop off).take n) (by simp;omega) (fun q u hu=> ?_) h1) h2;rw [bP,jV.cell,hz,Nat.add_assoc];rw [List.getElem?_take] at hu;split at hu;exact bA _ u (by simpa using hu);cases hu;cases h
 cases h;cases h;rename_i c n ag _ _ hs ha;split at h;rename_i l9 V7 hca;split at h;rename_i r Qe;obtain ⟨ad,cs,e1,hlen,bA,bF⟩:=DX hm hca (show CR g m S w c va from hr);obtain ⟨rv,h1,h2⟩:=B7 Qe bF;subst e1;exact aP.mk (aJ h) (oC hs ha hlen bA h1) h2;cases h;cases h;cases h
end
end Go.Ide
namespace Go.Ide
section
variable {P:Program} {g:GM} {m:Mem} {S:Nat→Prop} {w:World}
theorem toNat_lt {n:Int}{l:Nat}(h0:0≤n)(h1:n<(l:Int)):n.toNat<l:=by omega
theorem WV {n:Int}(h:0≤n): ¬n<0:=by omega
theorem HO {n:Int}(h0:0≤n)(h1:n<((0:Nat):Int)):False:=by omega
theorem vz {T:TypeId}{x i:aD}{e:cf}{xa ia:Value}(hm:kY g m S w)(h:kE P m T x i=some e)(hc:bB e.cond)(hx:VR g m S w x xa)(hi:VR g m S w i ia):
 aP P g m S w (Instr.indexAt T xa ia) e:=by
 unfold kE at h;split at h;rename_i el k n hu;have V8:ia= .int k n:=by have:[ia]=[Value.int k n]:=hi;simpa using this
 subst V8;split at h;rename_i t xs kz hs;cases hb:Nat.beq kz t.size with
 |false=>simp [hb] at h
 |true=>
  rw [hb] at h;simp only [cond_true] at h;have hz:=bG hb;obtain ⟨he,ow⟩:=cO h;rw [ow] at hc;obtain ⟨⟨h0,h1⟩,_⟩:=hc;obtain ⟨a,cap,e1,tz,nf⟩:=hx;have NI:xa= .slice a (List.length xs) cap:=by simpa using e1
  subst NI;have cp:Int.toNat n<List.length xs:=toNat_lt h0 h1;obtain ⟨ad,es,ea,hS,bA,cN⟩:=nf n.toNat cp;subst ea;refine aP.mk he (r:= .pointer (some (ad.add (n.toNat*kz)))) ?_ ⟨ad.add (n.toNat*kz),es,by simp [Addr.add],by rw [gV];exact hS,fun j u hj=> ?_,?_⟩;simp [Instr.indexAt,asIntOf,run_underlying hu,cG hs,h0,h1];rw [add_add,hz];exact bA j u hj;rw [getD_eq cp];exact cN
 rename_i c kz hs;split at h;rename_i t xs hl;cases hb:Nat.beq kz t.size with
 |false=>simp [hb] at h
 |true=>
  rw [hb] at h;simp only [cond_true] at h;obtain ⟨he,ow⟩:=cO h;rw [ow] at hc;obtain ⟨⟨h0,h1⟩,_⟩:=hc;have cH:=hm c _ hl;have bF:=hx.2.2 t xs (.inl hl);unfold gL at bF;unfold jf at cH;cases hg:g.f c [] with
  |none=>
   rw [hg] at cH;have:xs=[]:=cH;subst this;exact (HO h0 h1).elim
  |some b=>
   have bF:match g.f c [] with|none=>_|some b=>_:=bF
   rw [hg] at bF;obtain ⟨cap,arr,e1,_,jV,_⟩:=bF;subst e1;refine aP.mk he (r:= .pointer (some ⟨b,n.toNat*kz,none⟩)) ?_ ⟨hx.1,b,hg,rfl⟩;simp [Instr.indexAt,asIntOf,run_underlying hu,cG hs,h0,h1,bP]
 rename_i t xs jj l9 ks hl;cases hb:Nat.beq kz t.size with
 |false=>simp [hb] at h
 |true=>
  rw [hb] at h;simp only [cond_true] at h;obtain ⟨he,ow⟩:=cO h;rw [ow] at hc;obtain ⟨⟨h0,h1⟩,_⟩:=hc;obtain ⟨_,b,arr,hg,_⟩:=hm c _ hl;have bF:=hx.2.2 t xs (.inr ⟨_,_,_,hl⟩);unfold gL at bF;have bF:match g.f c [] with|none=>_|some b=>_:=bF
  rw [hg] at bF;obtain ⟨cap,arr,e1,_,jV,_⟩:=bF;subst e1;refine aP.mk he (r:= .pointer (some ⟨b,n.toNat*kz,none⟩)) ?_ ⟨hx.1,b,hg,rfl⟩;simp [Instr.indexAt,asIntOf,run_underlying hu,cG hs,h0,h1,bP]
 cases h;rename_i c i o kz hs;split at h;rename_i t xs hl;split at h;rename_i e ys DH;cases hb:Nat.beq kz e.size with
 |false=>simp [hb] at h
 |true=>
  rw [hb] at h;simp only [cond_true] at h;obtain ⟨he,ow⟩:=cO h;rw [ow] at hc;obtain ⟨⟨h0,h1⟩,_⟩:=hc;obtain ⟨hi,IN⟩:=hx.2.2 t xs hl;have bF:=IN e ys DH;have Pq:=rW hm hl hi DH;unfold gL at bF;cases hg:g.f c [i,o] with
  |none=>
   rw [hg] at Pq;have V9:ys.length=0:=Pq;exact (HO h0 (by rw [←V9];exact h1)).elim
  |some b=>
   rw [hg] at bF;obtain ⟨cap,arr,e1,_,jV,_⟩:=bF;subst e1;refine aP.mk he (r:= .pointer (some ⟨b,n.toNat*kz,none⟩)) ?_ ⟨hx.1,b,rfl,fun t' cK fb=>⟨?_,hg⟩⟩;simp [Instr.indexAt,asIntOf,run_underlying hu,cG hs,h0,h1,bP];exact (hx.2.2 t' cK fb).1
 cases h;cases h;rename_i c off len kz hs;split at h;rename_i t xs hl;cases hb:Nat.beq kz t.size with
 |false=>simp [hb] at h
 |true=>
  rw [hb] at h;simp only [cond_true] at h;have hz:=bG hb;obtain ⟨he,ow⟩:=cO h;rw [ow] at hc;obtain ⟨⟨h0,h1⟩,_⟩:=hc;obtain ⟨hle,IN⟩:=hx.2.2 t xs (.inl hl);rcases IN with ⟨ta,_⟩|⟨b,cap,arr,hg,e1,_⟩
  subst ta;exact (HO h0 h1).elim;subst e1;refine aP.mk he (r:= .pointer (some ⟨b,(off+n.toNat)*kz,none⟩)) ?_ ⟨hx.1,b,hg,rfl⟩;simp [Instr.indexAt,asIntOf,run_underlying hu,cG hs,h0,h1,bP,Nat.add_mul,hz]
 cases h;cases h;cases h
theorem vA {T:TypeId}{x:aD}{f:Nat}{e:cf}{xa:Value}(h:pT P T x f=some e)(hx:VR g m S w x xa):
 aP P g m S w (Instr.fieldAt T xa f) e:=by
 unfold pT at h;split at h;rename_i fs hu;split at h;rename_i fd hf;split at h;rename_i c off n hs;obtain ⟨hp,b,hg,e1⟩:=hx;subst e1;refine aP.mk (aJ h) (r:= .pointer (some ⟨b,off+fd.offset,none⟩)) ?_ ⟨hp,b,hg,rfl⟩;simp [Instr.fieldAt,run_underlying hu,hf,Instr.sureAddr,fieldPlace,cG hs,bP];rename_i t y off n hs;obtain ⟨ad,es,e1,hS,bA,cN⟩:=hx;subst e1;refine aP.mk (aJ h) (r:= .pointer (some (ad.add (off+fd.offset)))) ?_ ⟨ad,es,rfl,hS,bA,cN⟩;simp [Instr.fieldAt,run_underlying hu,hf,Instr.sureAddr,fieldPlace,cG hs,add_add];rename_i c i sz off n hs;obtain ⟨hp,b,hg,e1⟩:=hx;subst e1;refine aP.mk (aJ h) (r:= .pointer (some ⟨b,i*sz+(off+fd.offset),none⟩)) ?_ ⟨hp,b,hg,rfl⟩;simp [Instr.fieldAt,run_underlying hu,hf,Instr.sureAddr,fieldPlace,cG hs,bP,Nat.add_assoc];rename_i c i o j sz off n hs;obtain ⟨hp,b,e1,IN⟩:=hx;subst e1;refine aP.mk (aJ h) (r:= .pointer (some ⟨b,j*sz+(off+fd.offset),none⟩)) ?_ ⟨hp,b,rfl,IN⟩;simp [Instr.fieldAt,run_underlying hu,hf,Instr.sureAddr,fieldPlace,cG hs,bP,Nat.add_assoc];cases h;cases h;cases h
theorem eS {k:IntKind}{n:Int}{v:Value}(h:CR g m S w (.aw (.int k) n) v):v= .int k n:=by
 have:[v]=[Value.int k n]:=h;simpa using this
theorem nQ {b:Bool}{v:Value}(h:CR g m S w (.aw .bool b) v):v= .bool b:=by
 have:[v]=[Value.bool b]:=h;simpa using this
theorem mw {s:List UInt8}{v:Value}(h:CR g m S w (.aw .str s) v):v= .string ⟨s.toArray⟩:=by
 have:[v]=[Value.string ⟨s.toArray⟩]:=h;simpa using this
theorem Ke {x:aD}{e:cf}{xa:Value}(hm:kY g m S w)(h:tu m x=some e)(hx:VR g m S w x xa):
 ∃n:Nat,(e.new=[]∧e.l6=[]∧e.val= .one (.aw (.int .i64) ((n:Nat):Int)))∧((∃a c,xa= .slice a n c)∨(∃s:ByteArray,xa= .string s∧s.size=n)):=by
 unfold tu at h;split at h;rename_i t xs;obtain ⟨a,cap,e1,_⟩:=hx;exact ⟨_,aJ h,.inl ⟨a,cap,by simpa using e1⟩⟩;rename_i xs;have:=mw (g:=g) (m:=m) (S:=S) (w:=w) hx;exact ⟨_,aJ h,.inr ⟨_,this,by simp [ByteArray.size]⟩⟩;rename_i c;split at h;rename_i t xs hl;have bF:=hx.2.2 t xs (.inl hl);have cH:=hm c _ hl;unfold gL at bF;unfold jf at cH;have bF:match g.f c [] with|none=>_|some b=>_:=bF
 cases hg:g.f c [] with
 |none=>
  rw [hg] at bF cH;obtain ⟨a,ha⟩:=bF;have:xs=[]:=cH;subst this;exact ⟨0,aJ h,.inl ⟨a,0,ha⟩⟩
 |some b=>
  rw [hg] at bF;obtain ⟨cap,arr,e1,_⟩:=bF;exact ⟨_,aJ h,.inl ⟨_,cap,e1⟩⟩
 rename_i t xs jj l9 ks hl;obtain ⟨_,b,arr,hg,_⟩:=hm c _ hl;have bF:=hx.2.2 t xs (.inr ⟨_,_,_,hl⟩);unfold gL at bF;have bF:match g.f c [] with|none=>_|some b=>_:=bF
 rw [hg] at bF;obtain ⟨cap,arr,e1,_⟩:=bF;exact ⟨_,aJ h,.inl ⟨_,cap,e1⟩⟩;cases h;rename_i c i o;split at h;rename_i t xs hl;split at h;rename_i e ys DH;obtain ⟨hi,IN⟩:=hx.2.2 t xs hl;have bF:=IN e ys DH;have Pq:=rW hm hl hi DH;unfold gL at bF;cases hg:g.f c [i,o] with
 |none=>
  rw [hg] at bF Pq;obtain ⟨a,ha⟩:=bF;have h0:List.length ys=0:=Pq;exact ⟨0,by rw [←h0];exact aJ h,.inl ⟨a,0,ha⟩⟩
 |some b=>
  rw [hg] at bF;obtain ⟨cap,arr,e1,_⟩:=bF;exact ⟨_,aJ h,.inl ⟨_,cap,e1⟩⟩
 cases h;cases h;rename_i c off len;split at h;rename_i t xs hl;obtain ⟨_,IN⟩:=hx.2.2 t xs (.inl hl);rcases IN with ⟨ta,_,a,ha⟩|⟨b,cap,arr,hg,e1,_⟩
 subst ta;exact ⟨_,aJ h,.inl ⟨a,0,ha⟩⟩;exact ⟨_,aJ h,.inl ⟨_,cap,e1⟩⟩;cases h;obtain ⟨a,ha⟩:=hx;exact ⟨0,aJ h,.inl ⟨a,0,ha⟩⟩;cases h
def FT (P:Program)(T:TypeId):Bool:=
 match P.underlying T with
 |some (.slice _)=>true
 |some .string=>true
 |_=>false
theorem ma {T ty:TypeId}{x:aD}{e:cf}{xa:Value}{Ts:Array TypeId}(hm:kY g m S w)(hT:FT P T=true)(h:tu m x=some e)(hx:VR g m S w x xa)(hTs:Ts[0]? =some T)(hk: ∀(s:ByteArray),xa= .string s→P.underlying T=some .string)(gM: ∀a n c,xa= .slice a n c→ ∃el,P.underlying T=some (.slice el)):
 aP P g m S w (Builtin.len_ Ts ty #[xa]) e:=by
 obtain ⟨n,he,hv⟩:=Ke hm h hx;refine aP.mk he (r:= .int .i64 (n:Int)) ?_ rfl;rcases hv with ⟨a,c,rfl⟩|⟨s,rfl,hs⟩
 obtain ⟨el,hu⟩:=gM a n c rfl;simp [Builtin.len_,hTs,run_underlying hu,goInt];simp [Builtin.len_,hTs,run_underlying (hk s rfl),goInt,hs]
theorem FU {op:BinOp}{k:IntKind}{x y:Int}{e:cf}{T:TypeId}(hs:xI op=false)(h:NF op k x y=some e)(hc:bB e.cond):
 aP P g m S w (binOp op T (.int k x) (.int k y)) e:=by
 cases op<;>simp only [xI,Bool.true_eq_false] at hs<;>simp only [NF,Pp] at h
 case add=>exact aP.mk (aJ h) (by simp [binOp,Op.intArith]) rfl
 case sub=>exact aP.mk (aJ h) (by simp [binOp,Op.intArith]) rfl
 case mul=>exact aP.mk (aJ h) (by simp [binOp,Op.intArith]) rfl
 case quo=>
  obtain ⟨he,ow⟩:=cO h;rw [ow] at hc;have hy: ¬y=0:=hc.1;exact aP.mk he (r:= .int k (k.wrap (x.tdiv y))) (by simp [binOp,Op.intDiv,hy]) rfl
 case rem=>
  obtain ⟨he,ow⟩:=cO h;rw [ow] at hc;have hy: ¬y=0:=hc.1;exact aP.mk he (r:= .int k (x.tmod y)) (by simp [binOp,Op.intDiv,hy]) rfl
 case eql=>exact aP.mk (aJ h) (by simp [binOp,Op.intCmp]) rfl
 case neq=>exact aP.mk (aJ h) (by simp [binOp,Op.intCmp]) rfl
 case lss=>exact aP.mk (aJ h) (by simp [binOp,Op.intCmp]) rfl
 case leq=>exact aP.mk (aJ h) (by simp [binOp,Op.intCmp]) rfl
 case gtr=>exact aP.mk (aJ h) (by simp [binOp,Op.intCmp]) rfl
 case geq=>exact aP.mk (aJ h) (by simp [binOp,Op.intCmp]) rfl
 case and=>exact aP.mk (aJ h) (by simp [binOp,Op.intBits]) rfl
 case or=>exact aP.mk (aJ h) (by simp [binOp,Op.intBits]) rfl
 case xor=>exact aP.mk (aJ h) (by simp [binOp,Op.intBits]) rfl
 case andNot=>exact aP.mk (aJ h) (by simp [binOp,Op.intBits]) rfl
 all_goals cases h
theorem toList_str (a:List UInt8):(⟨a.toArray⟩:ByteArray).toList=a:=by
 rw [ByteArray.toList_eq]
theorem wJ {T:TypeId}(hu:P.underlying T=some .bool)(a b:Bool):(Op.equal T (.bool a) (.bool b)).run P w= .ok (a==b) w:=by
 have h: ∀d:Nat,(Op.equalIn (d+1) T (.bool a) (.bool b)).run P w= .ok (a==b) w:=fun d=>by
  rw [Op.equalIn];simp [run_underlying hu]
 exact h 9999
theorem FV {op:BinOp}{x y:aD}{e:cf}{T:TypeId}{xa ya:Value}(h:IM P T op x y=some e)(hc:bB e.cond)(hx:VR g m S w x xa)(hy:VR g m S w y ya):
 aP P g m S w (binOp op T xa ya) e:=by
 unfold IM at h;split at h
 ·rename_i k a k' b;have e1:=eS (g:=g) (m:=m) (S:=S) (w:=w) hx;have e2:=eS (g:=g) (m:=m) (S:=S) (w:=w) hy;subst e1;subst e2;split at h
  ·rename_i hs;cases op<;>simp only [xI,Bool.false_eq_true] at hs<;>simp only [FP] at h
   all_goals
    obtain ⟨he,ow⟩:=cO h;rw [ow] at hc;have h0: ¬b<0:=WV hc.1;exact aP.mk he (by simp [binOp,Op.shift,h0]) rfl
  rename_i hs;split at h;rename_i hk;subst hk;exact FU (by simpa using hs) h hc;cases h
 rename_i a b;have e1:=mw (g:=g) (m:=m) (S:=S) (w:=w) hx;have e2:=mw (g:=g) (m:=m) (S:=S) (w:=w) hy;subst e1;subst e2;unfold Qa at h;split at h;exact aP.mk (aJ h) (r:= .bool (a==b)) (by simp [binOp,Op.stringOp,toList_str]) rfl;exact aP.mk (aJ h) (r:= .bool (a != b)) (by simp [binOp,Op.stringOp,toList_str,bne]) rfl;obtain ⟨he,ow⟩:=cO h;rw [ow] at hc;have h0:a.length+b.length≤bg:=hc.1;refine aP.mk he (r:= .string ⟨(a++b).toArray⟩) ?_ rfl;have h1: ¬(((⟨a.toArray⟩:ByteArray).size+(⟨b.toArray⟩:ByteArray).size:Nat):Int)>IntKind.i64.max:=by
  simp only [ByteArray.size,List.size_toArray];unfold bg at h0;have:IntKind.i64.max=9223372036854775807:=by decide
  rw [this];omega
 simp only [binOp,Op.stringOp];rw [if_neg h1];simp [ByteArray.append_eq,ByteArray.ext_iff];exact aP.mk (aJ h) (r:= .bool (Op.bytesLess a b)) (by simp [binOp,Op.stringOp,toList_str]) rfl;cases h;rename_i a b;have e1:=nQ (g:=g) (m:=m) (S:=S) (w:=w) hx;have e2:=nQ (g:=g) (m:=m) (S:=S) (w:=w) hy;subst e1;subst e2;split at h;rename_i hu;exact aP.mk (aJ h) (r:= .bool (a==b)) (by simp only [binOp];simp [wJ hu]) rfl;rename_i hu;exact aP.mk (aJ h) (r:= .bool (a != b)) (by simp only [binOp];simp [wJ hu,bne]) rfl;cases h;cases h
end
end Go.Ide
namespace Go.Ide
section
variable {P:Program} {g:GM} {m:Mem} {S:Nat→Prop} {w:World}
def OR (g:GM)(m:Mem)(S:Nat→Prop)(w:World):Option aD→Option Value→Prop
 |none,none=>True
 |some v,some u=>VR g m S w v u
 |_,_=>False
theorem rX {lo:Option aD}{lv:Option Value}{l:Int}(h:Po lo=some l)(hr:OR g m S w lo lv):(lv=none∧l=0)∨ ∃k,lv=some (.int k l):=by
 unfold Po at h;split at h;cases lv with
 |none=>injection h with h;exact .inl ⟨rfl,h.symm⟩
 |some=>exact hr.elim
 rename_i k n;cases lv with
 |none=>exact hr.elim
 |some v=>
  injection h with h;subst h;exact .inr ⟨k,by rw [eS (g:=g) (m:=m) (S:=S) (w:=w) hr]⟩
 cases h
theorem um {hi:Option aD}{hv:Option Value}{len:Nat}{h:Int}(he:P9 len hi=some h)(hr:OR g m S w hi hv):(hv=none∧h=len)∨ ∃k,hv=some (.int k h):=by
 unfold P9 at he;split at he;cases hv with
 |none=>injection he with he;exact .inl ⟨rfl,he.symm⟩
 |some=>exact hr.elim
 rename_i k n;cases hv with
 |none=>exact hr.elim
 |some v=>
  injection he with he;subst he;exact .inr ⟨k,by rw [eS (g:=g) (m:=m) (S:=S) (w:=w) hr]⟩
 cases he
theorem yt {lv hv:Option Value}{l h:Int}{len cap:Nat}{b:Bool}(hl:(lv=none∧l=0)∨ ∃k,lv=some (.int k l))(hh:(hv=none∧h=len)∨ ∃k,hv=some (.int k h))(h0:0≤l)(h1:l≤h)(h2:h≤(len:Int))(h3:len≤cap):(Instr.sliceBounds b len cap lv hv none).run P w= .ok (l.toNat,h.toNat,cap) w:=by
 have e1:l≤((h.toNat:Nat):Int):=by omega
 have e2:h≤(cap:Int):=by omega
 have e3:0≤h:=by omega
 have e4: ¬(max h 0<l):=by omega
 rcases hl with ⟨rfl,rfl⟩|⟨k,rfl⟩<;>rcases hh with ⟨rfl,hx⟩|⟨k',rfl⟩
 subst hx;simp [Instr.sliceBounds];simp [Instr.sliceBounds,Instr.sliceBound,asIntOf,e3,e2];subst hx;simp [Instr.sliceBounds,Instr.sliceBound,asIntOf,h0,h1];simp [Instr.sliceBounds,Instr.sliceBound,asIntOf,h0,e2,e3,e4]
theorem rY (off:Nat): ∀(vs:List Value) (k:Nat) (arr:Array Value),off+k+vs.length≤arr.size→
 ((vs.zipIdx k).foldl (fun cs (p:Value×Nat)=>cs.setIfInBounds (off+p.2) p.1) arr).toList=arr.toList.take (off+k)++vs++arr.toList.drop (off+k+vs.length)
 |[],k,arr,h=>by simp
 |v::vs,k,arr,h=>by
  simp only [List.zipIdx_cons,List.foldl_cons];simp only [List.length_cons] at h;rw [rY off vs (k+1) _ (by simp;omega)];have cp:off+k<arr.toList.length:=by simp;omega
  simp only [Array.toList_setIfInBounds,List.length_cons];rw [List.drop_set_of_lt (by omega),show off+(k+1)=off+k+1 from by omega,List.take_set,List.take_succ_eq_append_getElem cp,
   List.set_append_right _ _ (by simp;omega)]
  simp [show off+k+1+vs.length=off+k+(vs.length+1) from by omega,Nat.min_eq_left (Nat.le_of_lt (show off+k<arr.size by simpa using cp))]
theorem DY (place:Nat→Option (Nat×Nat)): ∀{parts:List (Nat×aD)} {vparts:List (Nat×Value)} {l9 r:List aA} {arr:Array Value},
 DV place l9 parts=some r→bC (CR g m S w) l9 arr.toList→bC (fun (p:Nat×aD) (q:Nat×Value)=>p.1=q.1∧VR g m S w p.2 q.2) parts vparts→
 ∃aG,Instr.fill place arr vparts=some aG∧bC (CR g m S w) r aG.toList
 |[],[],l9,r,arr,h,hc,_=>by
  simp only [DV] at h;injection h with h;subst h
  exact ⟨arr,rfl,hc⟩
 |(i,v)::parts,(j,u)::vparts,l9,r,arr,h,hc,hp=>by
  obtain ⟨⟨Bi,hv⟩,yu⟩:=hp;have Bi:i=j:=Bi;subst Bi;simp only [DV] at h;cases Qf:place i with
  |none=>simp [Qf] at h
  |some p=>
   obtain ⟨off,size⟩:=p;simp only [Qf] at h;cases hb:((v.cells.length.beq size&&(off+v.cells.length).ble l9.length)&&v.ok) with
   |false=>simp [hb] at h
   |true=>
    rw [hb] at h;simp only [cond_true] at h;simp only [Bool.and_eq_true] at hb;have h1:=bG hb.1.1;have h2:=iT hb.1.2;obtain ⟨vs,hu,kG⟩:=jB hb.2 hv;have hlen:=kG.length;have WW:=hc.length;simp only [Array.length_toList] at WW;have abI:u.cells.size=vs.length:=by rw [←Array.length_toList,hu]
    have uo:(u.cells.zipIdx.foldl (fun cs (p:Value×Nat)=>cs.setIfInBounds (off+p.2) p.1) arr).toList=arr.toList.take off++vs++arr.toList.drop (off+vs.length):=by
     have:=rY off vs 0 arr (by omega);rw [←Array.foldl_toList,Array.toList_zipIdx,hu];simpa using this
    have Nk:bC (CR g m S w) (l9.take off++v.cells++l9.drop (off+v.cells.length)) (u.cells.zipIdx.foldl (fun cs (p:Value×Nat)=>cs.setIfInBounds (off+p.2) p.1) arr).toList:=by
     rw [uo,←hlen];exact ((hc.take off).append kG).append (hc.drop _)
    obtain ⟨aG,e1,e2⟩:=DY place h Nk yu;refine ⟨aG,?_,e2⟩;simp only [Instr.fill,Qf];rw [if_neg (by simp;omega)];exact e1
 |[],_::_,_,_,_,_,_,hp=>hp.elim
 |_::_,[],_,_,_,_,_,hp=>hp.elim
theorem FW {α:Type}{xs:List α}{l h:Int}(h0:0≤l)(h1:l≤h)(h2:h≤(xs.length:Int)):(cut xs l h).length=h.toNat - l.toNat:=by
 unfold cut;simp;omega
theorem HP {α:Type}{xs:List α}{l h:Int}{i:Nat}(hi:i<(cut xs l h).length)(hj:l.toNat+i<xs.length):(cut xs l h)[i]=xs[l.toNat+i]:=by
 have hk:i<h.toNat - l.toNat:=by have:=hi;simp [cut] at this;omega
 have e:(cut xs l h)[i]? =xs[l.toNat+i]? :=by
  unfold cut;rw [List.getElem?_take,if_pos hk,List.getElem?_drop]
 rw [List.getElem?_eq_getElem hi,List.getElem?_eq_getElem hj] at e;exact Option.some.inj e
theorem jC {T el:TypeId}{k:Nat}(hu:P.underlying T=some (.slice el))(hs:cY P el=some k){a:Option Addr}{len cap:Nat}{lv hv:Option Value}{l h:Int}(hl:(lv=none∧l=0)∨ ∃k,lv=some (.int k l))(hh:(hv=none∧h=len)∨ ∃k,hv=some (.int k h))(h0:0≤l)(h1:l≤h)(h2:h≤(len:Int))(h3:len≤cap):
 (Instr.sliceAt T (.slice a len cap) lv hv none).run P w= .ok (.slice (if cap=l.toNat then a else a.map (·.add (l.toNat*k))) (h.toNat - l.toNat) (cap - l.toNat)) w:=by
 simp [Instr.sliceAt,Instr.slice,run_underlying hu,yt hl hh h0 h1 h2 h3,cG hs]
theorem B8 {T:TypeId}{x:aD}{lo hi:Option aD}{e:cf}{xa:Value}{lv hv:Option Value}(hm:kY g m S w)(h:tx P m T x lo hi=some e)(hc:bB e.cond)(hx:VR g m S w x xa)(pd:OR g m S w lo lv)(ui:OR g m S w hi hv):aP P g m S w (Instr.sliceAt T xa lv hv none) e:=by
 unfold tx at h;split at h;rename_i xs hu;split at h;rename_i l h' hl hh;obtain ⟨he,ow⟩:=cO h;rw [ow] at hc;obtain ⟨⟨h0,h1,h2⟩,_⟩:=hc;have NI:=mw (g:=g) (m:=m) (S:=S) (w:=w) hx;subst NI;have fb:=rX hl pd;have Kf:=um hh ui;refine aP.mk he (r:= .string ⟨(cut xs l h').toArray⟩) ?_ rfl;have eK:(⟨xs.toArray⟩:ByteArray).size=List.length xs:=by simp [ByteArray.size]
 have hb:=yt (P:=P) (w:=w) (b:=false) (len:=(⟨xs.toArray⟩:ByteArray).size) (cap:=(⟨xs.toArray⟩:ByteArray).size) fb (by rw [eK];exact Kf) h0 h1 (by rw [eK];exact h2) (Nat.le_refl _);simp only [Instr.sliceAt,Instr.slice,Sem.run_bind,run_underlying hu,Result.andThen_ok,hb];simp [hb,cut,ByteArray.ext_iff];cases h;rename_i el hu;split at h;rename_i l h' hl hh;cases hb:(cY P el).isSome with
 |false=>simp [hb] at h
 |true=>
  rw [hb] at h;simp only [cond_true] at h;obtain ⟨sz,hs⟩:=Option.isSome_iff_exists.1 hb;obtain ⟨he,ow⟩:=cO h;rw [ow] at hc;obtain ⟨⟨h0,h1,h2⟩,_⟩:=hc;obtain ⟨a,e1⟩:=hx;subst e1;have fb:=rX hl pd;have Kf:=um hh ui;have vB:l=0:=Int.le_antisymm (Int.le_trans h1 h2) h0;have Tu:h'=0:=Int.le_antisymm h2 (Int.le_trans h0 h1);subst vB;subst Tu;exact aP.mk he (jC (cap:=0) hu hs fb Kf h0 h1 (Int.le_refl _) (Nat.le_refl _)) ⟨a,by simp⟩
 cases h;rename_i el t xs hu;split at h;rename_i l h' hl hh;cases hb:(cY P el==some t.size) with
 |false=>simp [hb] at h
 |true=>
  rw [hb] at h;simp only [cond_true] at h;have hs:cY P el=some t.size:=by simpa using hb
  obtain ⟨he,ow⟩:=cO h;rw [ow] at hc;obtain ⟨⟨h0,h1,h2⟩,_⟩:=hc;obtain ⟨a,cap,e1,tz,nf⟩:=hx;have NI:xa= .slice a (List.length xs) cap:=by simpa using e1
  subst NI;have fb:=rX hl pd;have Kf:=um hh ui;have hlen:=FW (xs:=xs) h0 h1 h2;refine aP.mk he (jC hu hs fb Kf h0 h1 h2 tz) ?_;refine ⟨if cap=l.toNat then a else a.map (·.add (l.toNat*t.size)),cap - l.toNat,by rw [hlen],by rw [hlen];omega,fun i hi=> ?_⟩;have xi:i<h'.toNat - l.toNat:=by rw [hlen] at hi;exact hi
  have hj:l.toNat+i<List.length xs:=by omega
  obtain ⟨ad,es,ea,hS,bA,cN⟩:=nf (l.toNat+i) hj;subst ea;refine ⟨ad.add (l.toNat*t.size),es,by rw [if_neg (by omega)];rfl,by rw [gV];exact hS,fun j u hu=> ?_,?_⟩;rw [add_add,←Nat.add_assoc,←Nat.add_mul];exact bA j u hu;rw [HP hi hj];exact cN
 cases h;rename_i el c hu;split at h;rename_i t xs rZ;split at h;rename_i l h' hl hh;cases hb:(cY P el==some t.size) with
 |false=>simp [hb] at h
 |true=>
  rw [hb] at h;simp only [cond_true] at h;have hs:cY P el=some t.size:=by simpa using hb
  obtain ⟨he,ow⟩:=cO h;rw [ow] at hc;obtain ⟨⟨h0,h1,h2⟩,_⟩:=hc;have fb:=rX hl pd;have Kf:=um hh ui;have bF:=hx.2.2 t xs (.inl rZ);unfold gL at bF;cases hg:g c with
  |none=>
   rw [hg] at bF;obtain ⟨a,ha⟩:=bF;subst ha;have cH:=hm c _ rZ;unfold jf at cH;have jl:g.f c []=none:=hg;rw [jl] at cH;have:xs=[]:=cH;subst this;have vB:l=0:=by simp at h2;omega
   have Tu:h'=0:=by simp at h2;omega
   subst vB;subst Tu;refine aP.mk he (jC (cap:=0) hu hs fb Kf h0 h1 h2 (Nat.le_refl _)) ⟨hx.1,rfl,fun t' cK oM=> ?_⟩;exact ⟨by simp,.inl ⟨by simp,fun _=>hg,a,by simp⟩⟩
  |some b=>
   rw [hg] at bF;obtain ⟨cap,arr,e1,tz,jV,iU,FX⟩:=bF;subst e1;refine aP.mk he (jC hu hs fb Kf h0 h1 h2 tz) ⟨hx.1,rfl,fun t' cK oM=> ?_⟩;have oM:=dF.toSeq rZ oM;rw [rZ] at oM;injection oM with oM;injection oM with ht uq;subst ht;have uq:=eq_of_heq uq;subst uq;refine ⟨by omega,?_⟩;by_cases ur:cap=l.toNat;by_cases vB:l.toNat=0;right;refine ⟨b,0,arr,hg,?_,by omega,jV,by rw [vB];simp,by omega⟩;rw [if_pos ur,vB,Nat.zero_mul]
   congr 1<;>omega
   left;refine ⟨by omega,fun hz=>absurd hz vB,some ⟨b,0,none⟩,?_⟩;rw [if_pos ur]
   congr 1<;>omega
   right;refine ⟨b,cap - l.toNat,arr,hg,?_,by omega,jV,by rw [show l.toNat+(cap - l.toNat)=cap from by omega];exact iU,by omega⟩;rw [if_neg ur];simp [bP]
 cases h;cases h;rename_i el c off len hu;split at h;rename_i t xs rZ;split at h;rename_i l h' hl hh;cases hb:(cY P el==some t.size) with
 |false=>simp [hb] at h
 |true=>
  rw [hb] at h;simp only [cond_true] at h;have hs:cY P el=some t.size:=by simpa using hb
  obtain ⟨he,ow⟩:=cO h;rw [ow] at hc;obtain ⟨⟨h0,h1,h2⟩,_⟩:=hc;have fb:=rX hl pd;have Kf:=um hh ui;obtain ⟨hle,IN⟩:=hx.2.2 t xs (.inl rZ);rcases IN with ⟨ta,hz1,a,ha⟩|⟨b,cap,arr,hg,e1,tz,jV,iU,FX⟩
  subst ha;subst ta;have vB:l=0:=by omega
  have Tu:h'=0:=by omega
  subst vB;subst Tu;refine aP.mk he (jC (cap:=0) hu hs fb Kf h0 h1 h2 (Nat.le_refl _)) ⟨hx.1,rfl,fun t' cK oM=> ?_⟩;have oM:=dF.toSeq rZ oM;rw [rZ] at oM;injection oM with oM;injection oM with ht uq;subst ht;have uq:=eq_of_heq uq;subst uq;exact ⟨by simp;omega,.inl ⟨by simp,fun hz=>hz1 (by simpa using hz),a,by simp⟩⟩;subst e1;refine aP.mk he (jC hu hs fb Kf h0 h1 h2 tz) ⟨hx.1,rfl,fun t' cK oM=> ?_⟩;have oM:=dF.toSeq rZ oM;rw [rZ] at oM;injection oM with oM;injection oM with ht uq;subst ht;have uq:=eq_of_heq uq;subst uq;refine ⟨by omega,?_⟩;by_cases ur:cap=l.toNat;by_cases vB:off+l.toNat=0;right;have WX:off=0:=by omega
  have Nl:l.toNat=0:=by omega
  refine ⟨b,0,arr,hg,?_,by omega,jV,by rw [vB];simp,by omega⟩;rw [if_pos ur,WX,Nl];simp only [Nat.zero_mul,Nat.add_zero]
  congr 1<;>omega
  left;refine ⟨by omega,fun hz=>absurd hz vB,some ⟨b,off*t.size,none⟩,?_⟩;rw [if_pos ur]
  congr 1<;>omega
  right;refine ⟨b,cap - l.toNat,arr,hg,?_,by omega,jV,by rw [show off+l.toNat+(cap - l.toNat)=off+cap from by omega];exact iU,by omega⟩;rw [if_neg ur];simp [bP,Nat.add_mul]
 cases h;cases h;cases h
end
end Go.Ide
namespace Go.Ide
section
variable {P:Program} {g:GM} {m:Mem} {S:Nat→Prop} {w:World}
theorem yw: ∀{fs:List Field} {pl:List (Nat×Nat)},rR P fs=some pl→fs.mapM (fun f=>(P.info? f.type).map fun i=>(f.offset,i.size))=some pl
 |[],pl,h=>by simp only [rR] at h;injection h with h;subst h;rfl
 |f::fs,pl,h=>by
  simp only [rR,cY] at h;cases hi:P.info? f.type with
  |none=>simp [hi] at h
  |some i=>
   simp only [hi,Option.map_some] at h;cases hr:rR P fs with
   |none=>simp [hr] at h
   |some l=>
    simp only [hr] at h;injection h with h;subst h;simp [List.mapM_cons,hi,yw hr]
theorem nR (z:Value)(hz:(qQ z).ok=true):bC (CR g m S w) (qQ z).cells z.cells.toList:=by
 obtain ⟨vs,e,h⟩:=jB hz (xJ (g:=g) (m:=m) (S:=S) (w:=w) z);rw [e];exact h
theorem B9 {T:TypeId}{parts:List (Nat×aD)}{vparts:Array (Nat×Value)}{e:cf}(h:FN P T parts=some e)(hp:bC (fun (p:Nat×aD) (q:Nat×Value)=>p.1=q.1∧VR g m S w p.2 q.2) parts vparts.toList):aP P g m S w (Instr.build T vparts) e:=by
 unfold FN at h;split at h;rename_i i fs hi hu;split at h;rename_i z pl hz Qf;cases jT:(qQ z).ok with
 |false=>simp [jT] at h
 |true=>
  simp only [jT,cond_true] at h;split at h;rename_i cs hf;obtain ⟨aG,h1,h2⟩:=DY (fun j=>pl[j]?) hf (nR (g:=g) (m:=m) (S:=S) (w:=w) z jT) hp;refine aP.mk (aJ h) (run_build w T vparts aG ?_) ⟨aG.toList,by simp,h2⟩;unfold Program.built;simp only [hi,hu,hz,yw Qf];simpa using h1;cases h
 cases h;cases h
theorem IP {op:UnOp}{x:aD}{e:cf}{xa:Value}(h:V6 op x=some e)(hx:VR g m S w x xa):aP P g m S w (Op.unary op xa) e:=by
 unfold V6 at h;split at h;rename_i b;have:=nQ (g:=g) (m:=m) (S:=S) (w:=w) hx;subst this;exact aP.mk (aJ h) (r:= .bool (!b)) (by simp [Op.unary]) rfl;rename_i k n;have:=eS (g:=g) (m:=m) (S:=S) (w:=w) hx;subst this;exact aP.mk (aJ h) (r:= .int k (k.wrap (0 - n))) (by simp [Op.unary,Op.intArith]) rfl;cases h
theorem yx {T U:TypeId}{x:aD}{e:cf}{xa:Value}(h:yi P T U x=some e)(hx:VR g m S w x xa):aP P g m S w (convert T U xa) e:=by
 unfold yi at h;split at h;rename_i k1 k k2 n h1 h2;have:=eS (g:=g) (m:=m) (S:=S) (w:=w) hx;subst this;exact aP.mk (aJ h) (r:= .int k (k.wrap n)) (by simp [convert,run_underlying h1,run_underlying h2,Conv.intToInt]) rfl;rename_i s h1 h2;have:=mw (g:=g) (m:=m) (S:=S) (w:=w) hx;subst this;exact aP.mk (aJ h) (r:= .string ⟨List.toArray s⟩) (by simp [convert,run_underlying h1,run_underlying h2]) rfl;cases h
theorem yy {x:aD}{i:Nat}{e:cf}{xa:Value}(h:uk x i=some e)(hx:VR g m S w x xa):aP P g m S w (Instr.extract xa i) e:=by
 unfold uk at h;split at h;rename_i ts;split at h;rename_i ag cs ht;split at h;rename_i v hv;obtain ⟨vs,e1,bF⟩:=hx;subst e1;obtain ⟨u,hu,Kg⟩:=bF.get i _ ht;refine aP.mk (aJ h) (r:=u) (by simp [Instr.extract,hu]) ?_;unfold Pn at hv;unfold CV at Kg;split at hv;injection hv with hv;subst hv;exact Kg;injection hv with hv;subst hv;exact Kg;cases hv;cases h;cases h;cases h
theorem FY {x y:aD}{e:cf}{xa ya:Value}{Ts:Array TypeId}{T:TypeId}(h:Qb x y=some e)(hx:VR g m S w x xa)(hy:VR g m S w y ya):aP P g m S w (Builtin.min_ Ts T #[xa,ya]) e:=by
 unfold Qb at h;split at h;rename_i k a k' b;split at h;rename_i hk;subst hk;have h1:=eS (g:=g) (m:=m) (S:=S) (w:=w) hx;have h2:=eS (g:=g) (m:=m) (S:=S) (w:=w) hy;subst h1;subst h2;exact aP.mk (aJ h) (r:= .int k (if b<a then b else a)) (by simp [Builtin.min_,Builtin.min2]) rfl;cases h;cases h
theorem FZ {x y:aD}{e:cf}{xa ya:Value}{Ts:Array TypeId}{T:TypeId}(h:Qc x y=some e)(hx:VR g m S w x xa)(hy:VR g m S w y ya):aP P g m S w (Builtin.max_ Ts T #[xa,ya]) e:=by
 unfold Qc at h;split at h;rename_i k a k' b;split at h;rename_i hk;subst hk;have h1:=eS (g:=g) (m:=m) (S:=S) (w:=w) hx;have h2:=eS (g:=g) (m:=m) (S:=S) (w:=w) hy;subst h1;subst h2;exact aP.mk (aJ h) (r:= .int k (if b>a then b else a)) (by simp [Builtin.max_,Builtin.max2]) rfl;cases h;cases h
end
section
variable {cx:Cx} {g:GM} {st:St} {a:Act} {w:World}
def oZ (cx:Cx)(st:St)(a:Act)(e:cf)(val:Value)(w':World):Prop:=
 ∃g',cX cx g' (st.l8 (e.l6++e.new++st.mem) (st.nx+e.new.length)) a w'∧VR g' (e.l6++e.new++st.mem) (cx.safe g' (e.l6++e.new++st.mem) w') w' e.val val
def j8 (cx:Cx)(st:St)(a:Act)(w:World)(s:Sem Value)(e:cf):Prop:=
 ∃val w',s.run cx.P w= .ok val w'∧oZ cx st a e val w'
theorem aP.runs {s:Sem Value}{e:cf}(h:cX cx g st a w)(hg:aP cx.P g st.mem (cx.safe g st.mem w) w s e):j8 cx st a w s e:=by
 obtain ⟨h1,h2,r,h3,h4⟩:=hg;refine ⟨r,w,h3,g,?_,?_⟩;rw [h1,h2];exact h;rw [h1,h2];exact h4
theorem oZ.new {e:cf}{ch:Chunk}{arr:Array Value}{val:Value}{w':World}(h:cX cx g st a w)(hw:fE st.mem e.new)(he:e.new=[(st.nx,ch)]∧e.l6=[])(hk:bJ [] w w')(hb:dc w' w.heap.size arr)(hc: ∀g':GM,(∀k,lk k st.mem≠none→g'.f k=g.f k)→g'.f st.nx=sZ (some w.heap.size)→ ∀S',(∀b,cx.safe g st.mem w b→S' b)→jf g' ((st.nx,ch)::st.mem) S' w' (sZ (some w.heap.size)) ch)(hv: ∀g':GM,g' st.nx=some w.heap.size→ ∀S',VR g' ((st.nx,ch)::st.mem) S' w' e.val val):oZ cx st a e val w':=by
 obtain ⟨g',mS,hs,_⟩:=h.new (hw (st.nx,ch) (by rw [he.1];simp)) hk hb hc;refine ⟨g',?_,?_⟩;rw [he.1,he.2];exact hs;rw [he.1,he.2];exact hv g' (by show g'.f st.nx []=_;rw [mS];rfl) _
theorem IQ {ch:Chunk}{g':GM}{S':Nat→Prop}{w':World}(oq:lk st.nx st.mem=none)(hk:bJ [] w w')(hg: ∀k,lk k st.mem≠none→g'.f k=g.f k)(hS: ∀b,cx.safe g st.mem w b→S' b):
 na g g' st.mem ((st.nx,ch)::st.mem) (cx.safe g st.mem w) S' w w':=by
 have jg: ∀c,lk c st.mem≠none→lk c ((st.nx,ch)::st.mem)=lk c st.mem:=fun c hc=>by
  rw [aL,if_neg (fun e=>hc (by rw [e];exact oq))]
 refine ⟨⟨fun b hb=>⟨hS b hb,hk.block b hb.1 (by simp)⟩,fun c hc=>⟨by rw [jg c hc];exact hc,congrFun (hg c hc) []⟩,fun c t xs hc hl=>⟨xs,by unfold dF at hl⊢;rw [←jg c hc];exact hl,rfl⟩,fun c t xs b arr hc hl Au hb=>⟨arr,hb.keep (hk.block b hb.lt (by simp)),rfl⟩⟩,
  hg,fun c t xs hc hl=>⟨xs,by rw [←jg c hc];exact hl,cy.refl _ _,fun i o b arr Au hb=>⟨arr,hb.keep (hk.block b hb.lt (by simp)),rfl⟩⟩⟩
theorem F3 {v:aD}{e:cf}{va:Value}{T:TypeId}(h:cX cx g st a w)(hw:fE st.mem e.new)(he:ND st.nx v=some e)(hv:VR g st.mem (cx.safe g st.mem w) w v va):j8 cx st a w (Instr.box T va) e:=by
 have key: ∀cs:List aA,v.ok=true→v.cells=cs→e=⟨.one (.ptr st.nx 0),[(st.nx,.box cs)],[],[]⟩→j8 cx st a w (Instr.box T va) e:=by
  intro cs jT Nm WY;obtain ⟨vs,kG,bF⟩:=jB jT hv;subst WY;refine ⟨.pointer (some ⟨w.heap.size,0,none⟩),w.alloc (.cells va.cells T),by simp [Instr.box,newVar,newRow],?_⟩;refine oZ.new h hw ⟨rfl,rfl⟩ (bJ.alloc _ _ _) (dc.new w _ T) (fun g' hg mS S' hS=> ?_) (fun g' mS S'=>⟨by simp [aL],w.heap.size,mS,rfl⟩);refine ⟨w.heap.size,va.cells,rfl,dc.new w _ T,?_⟩;rw [kG,←Nm];exact bF.mono fun _ _=>CR.stays (IQ (hw (st.nx,.box cs) (by simp)) (bJ.alloc _ _ _) hg hS)
 cases v with
 |one c=>
  simp only [ND] at he;cases hc:c.ok with
  |false=>simp [hc] at he
  |true=>
   simp only [hc,cond_true] at he;injection he with he;exact key [c] hc rfl he.symm
 |agg cs=>
  simp only [ND] at he;cases hc:cs.all aA.ok with
  |false=>simp [hc] at he
  |true=>
   simp only [hc,cond_true] at he;injection he with he;exact key cs hc rfl he.symm
 |FE=>cases he
 |DF=>cases he
 |gv=>cases he
theorem Ca {T:TypeId}{e:cf}(h:cX cx g st a w)(hw:fE st.mem e.new)(he:FM cx.P st.nx T=some e):j8 cx st a w (Instr.alloc T true (.tuple #[])) e:=by
 unfold FM at he;split at he;rename_i i hi;split at he;rename_i z hz;cases jT:(qQ z).ok with
 |false=>simp [jT] at he
 |true=>
  simp only [jT,cond_true] at he;injection he with he;subst he;refine ⟨.pointer (some ⟨w.heap.size,0,none⟩),w.alloc (.cells z.cells T),by simp [Instr.alloc,zeroValue,typeInfo,hi,hz,newVar,newRow],?_⟩;refine oZ.new h hw ⟨rfl,rfl⟩ (bJ.alloc _ _ _) (dc.new w _ T) (fun g' hg mS S' hS=> ?_) (fun g' mS S'=>⟨by simp [aL],w.heap.size,mS,rfl⟩);exact ⟨w.heap.size,z.cells,rfl,dc.new w _ T,nR z jT⟩
 cases he;cases he
def Kh (nx:Nat)(t:Ty)(v:aD):Option cf:=
 bif v.ok&&t.top then (match impl [] t v.cells with
  |some (x,[])=>some ⟨.one (.dI nx 0 t.size 0),[(nx,.seq t [x])],[],[]⟩
  |_=>none) else none
theorem DZ {v:aD}{t:Ty}{e:cf}{va:Value}{T:TypeId}(h:cX cx g st a w)(hw:fE st.mem e.new)(he:Kh st.nx t v=some e)(hv:VR g st.mem (cx.safe g st.mem w) w v va):j8 cx st a w (Instr.box T va) e:=by
 unfold Kh at he;cases jT:(v.ok&&t.top) with
 |false=>rw [jT] at he;cases he
 |true=>
  rw [jT] at he;simp only [cond_true] at he;simp only [Bool.and_eq_true] at jT;split at he;rename_i x hx;injection he with he;subst he;obtain ⟨vs,kG,bF⟩:=jB jT.1 hv;refine ⟨.pointer (some ⟨w.heap.size,0,none⟩),w.alloc (.cells va.cells T),by simp [Instr.box,newVar,newRow],?_⟩;refine oZ.new h hw ⟨rfl,rfl⟩ (bJ.alloc _ _ _) (dc.new w _ T) (fun g' hg mS S' hS=> ?_) (fun g' mS S'=>⟨by simp [aL],w.heap.size,mS,by simp⟩);refine ⟨va.cells,dc.new w _ T,fm.oL jT.2 fun i hi=> ?_⟩;have Qg:i=0:=by simp at hi;exact hi
  subst Qg;obtain ⟨v1,v2,e1,r1,r2⟩:=jm (S2:=cx.safe g st.mem w) (fun _ h=>h) iZ.nil t hx bF;have:v2=[]:=by cases v2 with|nil=>rfl|cons=>exact r2.elim
  subst this;rw [List.append_nil] at e1;refine ⟨vs,fun j v hv=> ?_,by rw [e1];exact bO.keep (fun b hb=>⟨hS b hb,RowKit.Below.heap_alloc w _ b hb.1⟩) t v1 x r1⟩;rw [Nat.zero_mul,Nat.zero_add,←Array.getElem?_toList,kG];exact hv;cases he
def Cb (P:Program)(nx:Nat)(T:TypeId)(t:Ty):Option cf:=
 match P.info? T with
 |some i=>(match i.zero with
  |some z=>bif (qQ z).ok&&t.top then (match impl [] t (qQ z).cells with
   |some (x,[])=>some ⟨.one (.dI nx 0 t.size 0),[(nx,.seq t [x])],[],[]⟩
   |_=>none) else none
  |none=>none)
 |none=>none
theorem AG {T:TypeId}{t:Ty}{e:cf}(h:cX cx g st a w)(hw:fE st.mem e.new)(he:Cb cx.P st.nx T t=some e):j8 cx st a w (Instr.alloc T true (.tuple #[])) e:=by
 unfold Cb at he;split at he;rename_i i hi;split at he;rename_i z hz;cases jT:((qQ z).ok&&t.top) with
 |false=>rw [jT] at he;cases he
 |true=>
  rw [jT] at he;simp only [cond_true] at he;simp only [Bool.and_eq_true] at jT;split at he;rename_i x hx;injection he with he;subst he;refine ⟨.pointer (some ⟨w.heap.size,0,none⟩),w.alloc (.cells z.cells T),by simp [Instr.alloc,zeroValue,typeInfo,hi,hz,newVar,newRow],?_⟩;refine oZ.new h hw ⟨rfl,rfl⟩ (bJ.alloc _ _ _) (dc.new w _ T) (fun g' hg mS S' hS=> ?_) (fun g' mS S'=>⟨by simp [aL],w.heap.size,mS,by simp⟩);refine ⟨z.cells,dc.new w _ T,fm.oL jT.2 fun i hi=> ?_⟩;have Qg:i=0:=by simp at hi;exact hi
  subst Qg;obtain ⟨v1,v2,e1,r1,r2⟩:=jm (g:=⟨fun _ _=>none⟩) (m:=[]) (S:=S') (S2:=S') (w:=w.alloc (.cells z.cells T)) (fun _ h=>h) iZ.nil t hx (nR z jT.1);have:v2=[]:=by cases v2 with|nil=>rfl|cons=>exact r2.elim
  subst this;rw [List.append_nil] at e1;refine ⟨z.cells.toList,fun j v hv=> ?_,by rw [e1];exact r1⟩;rw [Nat.zero_mul,Nat.zero_add,←Array.getElem?_toList];exact hv;cases he
 cases he;cases he
end
end Go.Ide
namespace Go.Ide
theorem Ty.size_pos: ∀(t:Ty),0<t.size
 | .int _=>Nat.one_pos
 | .aW _=>Nat.one_pos
 | .bool=>Nat.one_pos
 | .str=>Nat.one_pos
 | .sl _=>Nat.one_pos
 | .bx _=>Nat.one_pos
 | .own _=>Nat.one_pos
 | .pair a _=>Nat.lt_of_lt_of_le (Ty.size_pos a) (Nat.le_add_right _ _)
 | .st t=>Ty.size_pos t
theorem Cc {sz:Nat}{Q:Nat→List Value→Prop}: ∀(n:Nat),(∀i,i<n→ ∃es,es.length=sz∧Q i es)→
 ∃l:List Value,l.length=n*sz∧ ∀i,i<n→ ∃es,es.length=sz∧Q i es∧ ∀j,j<sz→l[i*sz+j]? =es[j]?
 |0,_=>⟨[],by simp,fun i hi=>by omega⟩
 |n+1,h=>by
  obtain ⟨l,hl,hq⟩:=Cc n fun i hi=>h i (by omega);obtain ⟨es,he,Tv⟩:=h n (by omega);refine ⟨l++es,by simp [hl,he,Nat.add_mul],fun i hi=> ?_⟩;by_cases FG:i=n;subst FG;refine ⟨es,he,Tv,fun j hj=> ?_⟩;rw [List.getElem?_append_right (by omega)]
  congr 1
  omega;obtain ⟨es',h1,h2,h3⟩:=hq i (by omega);refine ⟨es',h1,h2,fun j hj=> ?_⟩;rw [List.getElem?_append_left];exact h3 j hj;rw [hl];have:(i+1)*sz≤n*sz:=Nat.mul_le_mul_right _ (by omega);rw [Nat.add_mul] at this;omega
section
variable {P:Program} {g:GM} {m:Mem} {S S2:Nat→Prop} {w:World}
def fo (S:Nat→Prop)(w:World)(t:Ty)(xs:List t.D)(l:List Value):Prop:=
 ∀i (h:i<xs.length),∃es,(∀j,j<t.size→l[i*t.size+j]? =es[j]?)∧bO S w t es xs[i]
theorem fo.toR {t:Ty}{xs:List t.D}{arr:Array Value}(h:fo S w t xs arr.toList):DT S w t xs arr:=fun i hi=>by
 obtain ⟨es,h1,h2⟩:=h i hi;refine ⟨es,fun j v hv=> ?_,h2⟩;have hj:j<t.size:=by rw [←bO.len t es _ h2];exact (List.getElem?_eq_some_iff.1 hv).1
 rw [←Array.getElem?_toList,h1 j hj];exact hv
theorem DT.toL {t:Ty}{xs:List t.D}{arr:Array Value}(h:DT S w t xs arr):fo S w t xs arr.toList:=fun i hi=>by
 obtain ⟨es,h1,h2⟩:=h i hi;refine ⟨es,fun j hj=> ?_,h2⟩;have J0:j<es.length:=by rw [bO.len t es _ h2];exact hj
 rw [Array.getElem?_toList,h1 j es[j] (List.getElem?_eq_getElem J0)];rw [List.getElem?_eq_getElem J0]
theorem fo.app {t:Ty}{xs ys:List t.D}{l1 l2 rest:List Value}(h1:fo S w t xs l1)(hl:l1.length=xs.length*t.size)(h2:fo S w t ys l2)(Cd:l2.length=ys.length*t.size):
 fo S w t (xs++ys) (l1++l2++rest):=fun i hi=>by
 by_cases hx:i<xs.length;obtain ⟨es,k1,k2⟩:=h1 i hx;refine ⟨es,fun j hj=> ?_,by rw [List.getElem_append_left hx];exact k2⟩;have:(i+1)*t.size≤xs.length*t.size:=Nat.mul_le_mul_right _ (by omega);rw [Nat.add_mul] at this;rw [List.append_assoc,List.getElem?_append_left (by omega)];exact k1 j hj;have xi:i - xs.length<ys.length:=by rw [List.length_append] at hi;omega
 obtain ⟨es,k1,k2⟩:=h2 (i - xs.length) xi;refine ⟨es,fun j hj=> ?_,by rw [List.getElem_append_right (by omega)];exact k2⟩;have hmul:i*t.size=(i - xs.length)*t.size+xs.length*t.size:=by rw [←Nat.add_mul];congr 1;omega
 have:(i - xs.length+1)*t.size≤ys.length*t.size:=Nat.mul_le_mul_right _ (by omega);rw [Nat.add_mul] at this;rw [List.append_assoc,List.getElem?_append_right (by omega),List.getElem?_append_left (by omega)];rw [←k1 j hj]
 congr 1
 omega
theorem fo.take {t:Ty}{xs:List t.D}{l:List Value}{n:Nat}(h:fo S w t xs l)(hn:n≤xs.length):fo S w t (xs.take n) (l.take (n*t.size)):=fun i hi=>by
 have xi:i<n:=by rw [List.length_take] at hi;omega
 obtain ⟨es,k1,k2⟩:=h i (by omega);refine ⟨es,fun j hj=> ?_,by rw [List.getElem_take];exact k2⟩;have:(i+1)*t.size≤n*t.size:=Nat.mul_le_mul_right _ (by omega);rw [Nat.add_mul] at this;rw [List.getElem?_take,if_pos (by omega)];exact k1 j hj
theorem bO.Cc {t:Ty}{xs:List t.D}{v:Value}(h:bO S w (.sl t) [v] xs):
 ∃a cap news,v= .slice a xs.length cap∧xs.length≤cap∧news.length=xs.length*t.size∧fo S w t xs news∧(∀u∈news,u.oneCell'=true)∧
  (xs=[]∨ ∃ad,a=some ad∧ ∀k u,news[k]? =some u→w.cell? (ad.add k)=some u):=by
 obtain ⟨a,cap,e,hc,nf⟩:=h;have e:v= .slice a (List.length xs) cap:=by simpa using e
 subst e;obtain ⟨l,hl,hq⟩:=Ide.Cc (sz:=t.size) (Q:=fun i es=> ∃h:i<List.length xs,∃ad,a=some ad∧(∀j u,es[j]? =some u→w.cell? (ad.add (i*t.size+j))=some u)∧bO S w t es xs[i]) (List.length xs) fun i hi=>by
  obtain ⟨ad,es,ea,_,h1,h2⟩:=nf i hi;exact ⟨es,bO.len t es _ h2,hi,ad,ea,h1,h2⟩
 have eK:=t.size_pos;have bA: ∀k u,l[k]? =some u→ ∃ad,a=some ad∧w.cell? (ad.add k)=some u∧u.oneCell'=true:=by
  intro k u hk;have cp:k<List.length xs*t.size:=by rw [←hl];exact (List.getElem?_eq_some_iff.1 hk).1
  have hi:k/t.size<List.length xs:=Nat.div_lt_of_lt_mul (by rw [Nat.mul_comm];exact cp);obtain ⟨es,he,⟨_,ad,ea,h1,h2⟩,h3⟩:=hq (k/t.size) hi;have yz:k%t.size<t.size:=Nat.mod_lt _ eK;have fi:k/t.size*t.size+k%t.size=k:=by rw [Nat.mul_comm];exact Nat.div_add_mod k t.size
  have h4:=h3 (k%t.size) yz;rw [fi,hk] at h4;refine ⟨ad,ea,?_,?_⟩;have:=h1 (k%t.size) u h4.symm;rw [fi] at this;exact this;exact bO.nP t h2 u (List.mem_of_getElem? h4.symm)
 refine ⟨a,cap,l,rfl,hc,hl,fun i hi=> ?_,fun u hu=> ?_,?_⟩;obtain ⟨es,he,⟨_,ad,ea,h1,h2⟩,h3⟩:=hq i hi;exact ⟨es,h3,h2⟩;obtain ⟨k,hk,e⟩:=List.getElem_of_mem hu;obtain ⟨_,_,_,h⟩:=bA k u (by rw [List.getElem?_eq_getElem hk,e]);exact h;cases hx:xs with
 |nil=>exact .inl rfl
 |cons x r=>
  right;obtain ⟨ad,es,ea,_⟩:=nf 0 (by rw [hx];simp);refine ⟨ad,ea,fun k u hk=> ?_⟩;obtain ⟨ad',Wa,h,_⟩:=bA k u hk;rw [ea] at Wa;injection Wa with Wa;subst Wa;exact h
theorem bJ.setCell (w:World)(p:Addr)(v:Value):bJ [p.block] w (w.setCell p v):=
 ⟨rfl,rfl,rfl,by simp,fun q _ hn=>RowKit.Below.heap_setCell w p v q (by simpa using hn),fun b arr hb=>by
  by_cases e:b=p.block;subst e;obtain ⟨T,lo,hi,hh,hf⟩:=hb;refine ⟨if p.spot.isSome then arr else arr.setIfInBounds p.off v,⟨T,lo,hi,by simp [World.setCell,Array.getElem?_modify,hh],?_⟩,by split<;>simp⟩;split<;>simpa using hf;exact ⟨arr,hb.keep (RowKit.Below.heap_setCell w p v b e),rfl⟩⟩
theorem fF {b:Nat}: ∀(vs:List Value) (o i:Nat) (w:World) (arr:Array Value),dc w b arr→o+i+vs.length≤arr.size→(∀v∈vs,v.oneCell'=true)→
 ∃w' aG,(storeCells ⟨b,o,none⟩ vs i).run P w= .ok () w'∧dc w' b aG∧aG.toList=arr.toList.take (o+i)++vs++arr.toList.drop (o+i+vs.length)∧bJ [b] w w'∧w'.heap.size=w.heap.size
 |[],o,i,w,arr,hb,_,_=>⟨w,arr,rfl,hb,by simp,bJ.refl _ _,rfl⟩
 |v::vs,o,i,w,arr,hb,hle,h1=>by
  simp only [List.length_cons] at hle;have cp:o+i<arr.size:=by omega
  have kF:(store ((⟨b,o,none⟩:Addr).add i) v).run P w= .ok () (w.setCell ⟨b,o+i,none⟩ v):=by
   rw [bP,run_store P w _ v _ (h1 v (by simp)),hb.cell,Array.getElem?_eq_getElem cp];have hf:=hb.Tp cp;simp [hf]
  have jS:dc (w.setCell ⟨b,o+i,none⟩ v) b (arr.setIfInBounds (o+i) v):=by
   obtain ⟨T,lo,hi,hh,hf⟩:=hb;exact ⟨T,lo,hi,by simp [World.setCell,Array.getElem?_modify,hh],by simpa using hf⟩
  obtain ⟨w',aG,e,k1,k2,k3,k4⟩:=fF vs o (i+1) (w.setCell ⟨b,o+i,none⟩ v) _ jS (by simp;omega) (fun x hx=>h1 x (by simp [hx]));refine ⟨w',aG,?_,k1,?_,bJ.trans (bJ.setCell w ⟨b,o+i,none⟩ v) k3,by rw [k4];simp⟩;simp only [storeCells,Sem.run_bind,kF,Result.andThen_ok,e];have WZ:o+i<arr.toList.length:=by simpa using cp
  rw [k2];simp only [Array.toList_setIfInBounds,List.length_cons];rw [List.drop_set_of_lt (by omega),show o+(i+1)=o+i+1 from by omega,List.take_set,List.take_succ_eq_append_getElem WZ,List.set_append_right _ _ (by simp;omega)];simp [show o+i+1+vs.length=o+i+(vs.length+1) from by omega,Nat.min_eq_left (Nat.le_of_lt cp)]
theorem eT {size n:Nat}{a:Option Addr}{len cap:Nat}{cs:List Value}(hl:cs.length=n*size)(h:n=0∨ ∃ad,a=some ad∧ ∀j v,cs[j]? =some v→w.cell? (ad.add j)=some v):
 (Builtin.firstCells size n (.slice a len cap)).run P w= .ok cs.toArray w:=by
 rcases h with rfl|⟨ad,rfl,h⟩
 have:cs=[]:=List.eq_nil_of_length_eq_zero (by simpa using hl);subst this;cases a with
 |none=>simp [Builtin.firstCells]
 |some ad=>simp [Builtin.firstCells,loadCells,loadCellsFrom]
 exact run_firstCells_some w size n ad len cap cs hl h
theorem uu {t ty e:TypeId}{i:TypeInfo}{z:Value}(ht:P.underlying t=some (.slice e))(hi:P.info? e=some i)(hz:i.zero=some z){base:Option Addr}{n cap:Nat}{jW:List Value}(pd:jW.length=n*i.size)(ho:n=0∨ ∃ad,base=some ad∧ ∀j v,jW[j]? =some v→w.cell? (ad.add j)=some v){a:Option Addr}{k c:Nat}{news:List Value}(hl:news.length=k*i.size)(hn:k=0∨ ∃ad,a=some ad∧ ∀j v,news[j]? =some v→w.cell? (ad.add j)=some v)(hg:cap<n+k)(hb:(n+k)*i.bytes≤140737488355328)(h63:n+k≤9223372036854775807):
 (Builtin.append_ #[t,t] ty #[.slice base n cap,.slice a k c]).run P w=
  .ok (.slice (some ⟨w.heap.size,0,none⟩) (n+k) (grownCap w (n+k) cap e))
   (w.drew.alloc (.cells (jW.toArray++news.toArray++Builtin.zeroCells z.cells (grownCap w (n+k) cap e - (n+k))) e)):=by
 have lu: ¬(n+k≤cap):=by omega
 have Ki: ¬(9223372036854775807<((n:Int)+(k:Int))):=by omega
 have h48:=growslice_fits (old:=cap) hg hb;have Kj: ¬(281474976710656<Builtin.nextslicecap (n+k) cap*i.bytes):=by omega
 have hf:=eT (P:=P) (w:=w.drew) (len:=k) (cap:=c) hl hn;have Tw:=eT (P:=P) (w:=w.drew) (len:=n) (cap:=cap) pd ho;simp [Builtin.append_,run_underlying ht,sizeOf,typeInfo,zeroValue,hi,hz,Builtin.lenOf,lu,Ki,Kj,Question.forced,hf,Tw,newRow,grownCap]
 congr 2
 apply Array.ext';simp [List.append_assoc]
theorem uv {t ty e:TypeId}{i:TypeInfo}(ht:P.underlying t=some (.slice e))(hi:P.info? e=some i){b n cap:Nat}{arr:Array Value}(hb:dc w b arr){a:Option Addr}{k c:Nat}{news:List Value}(hl:news.length=k*i.size)(hn:k=0∨ ∃ad,a=some ad∧ ∀j v,news[j]? =some v→w.cell? (ad.add j)=some v)(h1: ∀u∈news,u.oneCell'=true)(lu:n+k≤cap)(iU:(n+k)*i.size≤arr.size):
 ∃w' aG,(Builtin.append_ #[t,t] ty #[.slice (some ⟨b,0,none⟩) n cap,.slice a k c]).run P w= .ok (.slice (some ⟨b,0,none⟩) (n+k) cap) w'∧dc w' b aG∧
  aG.toList=arr.toList.take (n*i.size)++news++arr.toList.drop (n*i.size+news.length)∧bJ [b] w w'∧w'.heap.size=w.heap.size:=by
 have hf:=eT (P:=P) (w:=w) (len:=k) (cap:=c) hl hn;obtain ⟨w',aG,e,k1,k2,k3,k4⟩:=fF (P:=P) news (n*i.size) 0 w arr hb (by rw [hl,Nat.add_zero,←Nat.add_mul];exact iU) h1;refine ⟨w',aG,?_,k1,by simpa using k2,k3,k4⟩;have ha:(⟨b,0,none⟩:Addr).add (n*i.size)=⟨b,n*i.size,none⟩:=by rw [bP];simp
 simp [Builtin.append_,run_underlying ht,sizeOf,typeInfo,hi,Builtin.lenOf,lu,hf,ha,e]
theorem pX {t ty e:TypeId}{i:TypeInfo}(ht:P.underlying t=some (.slice e))(hi:P.info? e=some i){base a:Option Addr}{c:Nat}:
 (Builtin.append_ #[t,t] ty #[.slice base 0 0,.slice a 0 c]).run P w= .ok (.slice base 0 0) w:=by
 have hf:=eT (P:=P) (w:=w) (size:=i.size) (n:=0) (a:=a) (len:=0) (cap:=c) (cs:=[]) (by simp) (.inl rfl);cases base<;>simp [Builtin.append_,run_underlying ht,sizeOf,typeInfo,hi,Builtin.lenOf,hf,storeCells]
end
end Go.Ide
namespace Go.Ide
section
variable {P:Program} {g:GM} {m:Mem} {S S2:Nat→Prop} {w:World}
theorem fo.nP {t:Ty}{xs:List t.D}{l:List Value}(h:fo S w t xs l)(hl:l.length=xs.length*t.size): ∀u∈l,u.oneCell'=true:=by
 intro u hu;obtain ⟨k,hk,e⟩:=List.getElem_of_mem hu;have eK:=t.size_pos;have hi:k/t.size<xs.length:=Nat.div_lt_of_lt_mul (by rw [Nat.mul_comm];omega);obtain ⟨es,h1,h2⟩:=h (k/t.size) hi;have h3:=h1 (k%t.size) (Nat.mod_lt _ eK);have fi:k/t.size*t.size+k%t.size=k:=by rw [Nat.mul_comm];exact Nat.div_add_mod k t.size
 rw [fi,List.getElem?_eq_getElem hk,e] at h3;exact bO.nP t h2 u (List.mem_of_getElem? h3.symm)
structure Src (S:Nat→Prop)(w:World)(t:Ty)(ys:List t.D)(v:Value)(news:List Value):Prop where
 len:news.length=ys.length*t.size
 IL:fo S w t ys news
 val: ∃a cap,v= .slice a ys.length cap∧(ys.length=0∨ ∃ad,a=some ad∧ ∀k u,news[k]? =some u→w.cell? (ad.add k)=some u)
theorem HQ {t:Ty}{xs:List t.D}{b off len:Nat}{arr:Array Value}{cap:Nat}(hb:dc w b arr)(he:DT S w t xs arr)(hle:off+len≤xs.length)(iU:(off+len)*t.size≤arr.size):
 Src S w t ((xs.drop off).take len) (.slice (some ⟨b,off*t.size,none⟩) len cap) ((arr.toList.drop (off*t.size)).take (len*t.size)):=by
 have hlen:((xs.drop off).take len).length=len:=by simp;omega
 refine ⟨?_,fun i hi=> ?_,some ⟨b,off*t.size,none⟩,cap,by rw [hlen],.inr ⟨_,rfl,fun k u hu=> ?_⟩⟩;rw [hlen];simp;rw [Nat.add_mul] at iU;omega;have xi:i<len:=by rw [hlen] at hi;exact hi
 obtain ⟨es,k1,k2⟩:=he.toL (off+i) (by omega);refine ⟨es,fun j hj=> ?_,by simpa using k2⟩;have:(i+1)*t.size≤len*t.size:=Nat.mul_le_mul_right _ (by omega);rw [Nat.add_mul] at this;rw [List.getElem?_take,if_pos (by omega),List.getElem?_drop,←k1 j hj,Nat.add_mul,Nat.add_assoc];rw [bP,hb.cell];rw [List.getElem?_take] at hu;split at hu;simpa using hu;cases hu
theorem Src.nil {t:Ty}{a:Option Addr}{c:Nat}:Src S w t ([]:List t.D) (.slice a 0 c) []:=
 ⟨by simp,fun i hi=>by simp at hi,a,c,rfl,.inl rfl⟩
theorem pe: ∀(t:Ty),t.jR=true→t.er=t
 | .own _,h=>by cases h
 | .sl t,h=>congrArg Ty.sl (pe t h)
 | .bx t,h=>congrArg Ty.bx (pe t h)
 | .pair a b,h=>by
  simp only [Ty.jR,Bool.and_eq_true] at h;simp only [Ty.er,pe a h.1,pe b h.2]
 | .st t,h=>congrArg Ty.st (pe t h)
 | .int _,_=>rfl
 | .aW _,_=>rfl
 | .bool,_=>rfl
 | .str,_=>rfl
theorem sb: ∀(t:Ty),t.top=true→t.jR=true
 | .own _,h=>by cases h
 | .sl t,h=>h
 | .bx t,h=>h
 | .pair a b,h=>by
  simp only [Ty.top,Bool.and_eq_true] at h;simp only [Ty.jR,sb a h.1,sb b h.2,Bool.and_self]
 | .st t,h=>sb t h
 | .int _,_=>rfl
 | .aW _,_=>rfl
 | .bool,_=>rfl
 | .str,_=>rfl
theorem Qh (t:Ty){e:Ty}(h:t.top=true)(he:t.er=e):t=e:=by
 rw [←he,pe t (sb t h)]
theorem Ce (hm:kY g m S w){t:Ty}{x:aD}{ys:List t.D}{v:Value}(h:lZ m (.sl t) x=some ys)(jT:nb m x=true)(ht:t.top=true)(hr:VR g m S w x v): ∃news,Src S w t ys v news:=by
 unfold lZ at h;split at h;rename_i c kF;split at h;rename_i y he;injection h with h;subst h;simp only [impl,c9] at he;split at he;rename_i z hz;injection he with he;injection he with he _;subst he;have hr:CR g m S w c v:=hr;cases c with
 |aw t' q=>
  simp only [eE] at hz;split at hz;rename_i e;subst e;injection hz with hz;subst hz;obtain ⟨a,cap,news,e1,h1,h2,h3,h4,h5⟩:=bO.Cc (xs:=q) (t:=t) hr;refine ⟨news,h2,h3,a,cap,e1,?_⟩;rcases h5 with h5|h5
  left;rw [h5];rfl;exact .inr h5;cases hz
 |all c=>
  simp only [eE] at hz;split at hz;rename_i e' xs hl;split at hz;rename_i qB;subst qB;injection hz with hz;subst hz;have hx:=hr.2.2 e' xs (.inl hl);have cH:=hm c _ hl;unfold gL at hx;unfold jf at cH;have hx:match g.f c [] with|none=>_|some b=>_:=hx
  cases hg:g.f c [] with
  |none=>
   rw [hg] at hx cH;obtain ⟨a,ha⟩:=hx;have:xs=[]:=cH;subst this;subst ha;exact ⟨[],Src.nil⟩
  |some b=>
   rw [hg] at hx cH;obtain ⟨cap,arr,e1,k1,k2,k3,k4⟩:=hx;obtain ⟨aG,jS,nf⟩:=cH;have:=k2.eq jS;subst this;subst e1;have:=HQ (off:=0) (len:=xs.length) (cap:=cap) k2 (nf.IL ht) (by omega) (by rw [Nat.zero_add];exact Nat.le_trans (Nat.mul_le_mul_right _ k1) k3);simp only [List.drop_zero,List.take_length,Nat.zero_mul] at this;exact ⟨_,this⟩
  rename_i jg;split at hz;rename_i qB;simp only [nb,hl] at jT;exact absurd (Qh e' jT qB) jg;cases hz;cases hz
 |row c i o=>cases jT
 |AB c i o j sz off=>simp [eE] at hz
 |ref c off len=>
  simp only [eE] at hz;split at hz;rename_i e' xs hl;split at hz;rename_i qB;subst qB;injection hz with hz;subst hz;obtain ⟨hle,hx⟩:=hr.2.2 e' xs (.inl hl);have cH:=hm c _ hl;unfold jf at cH;rcases hx with ⟨h0,_,a,ha⟩|⟨b,cap,arr,hg,e1,k1,k2,k3,k4⟩
  subst h0;subst ha;have:(xs.drop off).take 0=([]:List e'.D):=rfl;exact ⟨[],by simp [cJ],fun i hi=>by simp [cJ] at hi,a,0,by simp [cJ],.inl (by simp [cJ])⟩;have hg:g.f c []=some b:=hg;rw [hg] at cH;obtain ⟨aG,jS,nf⟩:=cH;have:=k2.eq jS;subst this;have nf:=nf.IL ht;subst e1;exact ⟨_,HQ (cap:=cap) k2 nf hle (Nat.le_trans (Nat.mul_le_mul_right _ (by omega)) k3)⟩;cases hz;cases hz
 |al=>
  simp only [eE] at hz;injection hz with hz;subst hz;obtain ⟨a,ha⟩:=hr;subst ha;exact ⟨[],Src.nil⟩
 |ptr c off=>simp [eE] at hz
 |dI c i sz off=>simp [eE] at hz
 |ip t x off=>simp [eE] at hz
 |fn f=>simp [eE] at hz
 |nr f t' x=>simp [eE] at hz
 |gv=>simp [eE] at hz
 |bad=>simp [eE] at hz
 cases he;cases h;rename_i kF;cases kF;cases h
def W0 (g:GM)(m:Mem)(S:Nat→Prop)(w:World)(t:Ty)(xs:List t.D)(up:Mem)(v:Value):Prop:=
 (up=[]∨ ∃c ch,up=[(c,.gone)]∧lk c m=some ch∧ch≠ .gone)∧
 ((xs=[]∧ ∃a,v= .slice a 0 0)∨
  ∃c ch b cap arr,up=[(c,.gone)]∧lk c m=some ch∧ch≠ .gone∧g c=some b∧v= .slice (some ⟨b,0,none⟩) xs.length cap∧xs.length≤cap∧dc w b arr∧cap*t.size≤arr.size∧cap≤maxLen∧
   fo S w t xs (arr.toList.take (xs.length*t.size)))
theorem D0 (hm:kY g m S w){t:Ty}{x:aD}{xs:List t.D}{up:Mem}{v:Value}(h:nt m t x=some (xs,up))(ht:t.top=true)(hr:VR g m S w x v):W0 g m S w t xs up v:=by
 unfold nt at h;split at h;injection h with h;injection h with h1 h2;subst h1;subst h2;exact ⟨.inl rfl,.inl ⟨rfl,hr⟩⟩;rename_i c;split at h;rename_i t' ys hl;split at h;rename_i he;subst he;injection h with h;injection h with h1 h2;subst h1;subst h2;refine ⟨.inr ⟨c,_,rfl,hl,by simp⟩,?_⟩;have hx:=hr.2.2 t' ys (.inl hl);have cH:=hm c _ hl;unfold gL at hx;unfold jf at cH;have hx:match g.f c [] with|none=>_|some b=>_:=hx
 cases hg:g.f c [] with
 |none=>
  rw [hg] at hx cH;exact .inl ⟨cH,hx⟩
 |some b=>
  rw [hg] at hx cH;obtain ⟨cap,arr,e1,k1,k2,k3,k4⟩:=hx;obtain ⟨aG,jS,nf⟩:=cH;have:=k2.eq jS;subst this;have:=(nf.IL ht).toL.take (n:=ys.length) (Nat.le_refl _);rw [List.take_length] at this;exact .inr ⟨c,_,b,cap,arr,rfl,hl,by simp,hg,e1,k1,k2,k3,k4,this⟩
 cases h;cases h;rename_i c len;split at h;rename_i t' ys hl;split at h;rename_i he;subst he;injection h with h;injection h with h1 h2;subst h1;subst h2;refine ⟨.inr ⟨c,_,rfl,hl,by simp⟩,?_⟩;obtain ⟨hle,hx⟩:=hr.2.2 t' ys (.inl hl);have cH:=hm c _ hl;unfold jf at cH;have hlen:(ys.take len).length=len:=by simp;omega
 rcases hx with ⟨h0,_,a,ha⟩|⟨b,cap,arr,hg,e1,k1,k2,k3,k4⟩
 subst h0;exact .inl ⟨rfl,a,ha⟩;have jl:g.f c []=some b:=hg;rw [jl] at cH;obtain ⟨aG,jS,nf⟩:=cH;have:=k2.eq jS;subst this;have nf:=nf.IL ht;rw [Nat.zero_mul] at e1;rw [Nat.zero_add] at k3;refine .inr ⟨c,_,b,cap,arr,rfl,hl,by simp,hg,?_,?_,k2,k3,k4,?_⟩;show v= .slice _ (ys.take len).length cap;rw [hlen];exact e1;show (ys.take len).length≤cap;rw [hlen];exact k1;show fo S w t' (ys.take len) (arr.toList.take ((ys.take len).length*t'.size));rw [hlen];exact nf.toL.take (by omega);cases h;cases h;cases h
end
section
variable {cx:Cx} {g:GM} {st:St} {a:Act} {w w':World}
def Cf (m up:Mem):Prop:= ∀p∈up,p.2= .gone∧lk p.1 m≠none
theorem Cf.lk {m up:Mem}(h:Cf m up){k:Nat}{ch:Chunk}(hk:lk k up=some ch):ch= .gone∧Ide.lk k m≠none:=by
 induction up with
 |nil=>cases hk
 |cons p up ih=>
  obtain ⟨k',c'⟩:=p;rw [aL] at hk;split at hk;rename_i e;injection hk with hk;subst hk;subst e;exact h (k,c') (by simp);exact ih (fun q hq=>h q (by simp [hq])) hk
theorem cX.newAt (h:cX cx g st a w)(oq:lk st.nx st.mem=none){up:Mem}{G:List Nat}{γ:List Nat→Option Nat}{ch:Chunk}(ot:Cf st.mem up)(hk:bJ G w w')(hG: ∀b∈G,∃c p oN,lk c up=some .gone∧lk c st.mem=some oN∧oN.owns p∧g.f c p=some b)(hγ: ∀p b,γ p=some b→b<w'.heap.size∧(w.heap.size≤b∨b∈G))(W1: ∀p q b,γ p=some b→γ q=some b→p=q)(hc: ∀g' m' S',(∀b,cx.safe g st.mem w b→S' b∧w'.heap[b]? =w.heap[b]?)→jf g' m' S' w' γ ch):
 ∃g':GM,g'.f st.nx=γ∧cX cx g' (st.l8 (up++[(st.nx,ch)]++st.mem) (st.nx+1)) a w':=by
 have jl: ∀k,lk k st.mem≠none→(g.set st.nx γ).f k=g.f k:=fun k jg=>GM.Kc _ _ (fun e=>jg (by rw [e];exact oq));have mS:=GM.DW g st.nx γ;revert jl mS;generalize g.set st.nx γ=g';intro jl mS;have Tx: ∀b,b∈G→Live g st.mem b:=fun b hb=>by
  obtain ⟨c,p,oN,_,h2,h3,h4⟩:=hG b hb;exact ⟨c,p,oN,h2,h3,h4⟩
 have Kk:lk st.nx up=none:=by
  cases hu:lk st.nx up with
  |none=>rfl
  |some c=>exact absurd oq (ot.lk hu).2
 have rZ: ∀k,lk k (up++[(st.nx,ch)]++st.mem)=(lk k up).or (if k=st.nx then some ch else lk k st.mem):=fun k=>by
  rw [List.append_assoc,bN,List.singleton_append,aL]
 have hold: ∀k oN,lk k st.mem=some oN→(lk k up=none∧lk k (up++[(st.nx,ch)]++st.mem)=some oN∧(∀p b,oN.owns p→g.f k p=some b→b ∉ G))∨lk k (up++[(st.nx,ch)]++st.mem)=some .gone:=by
  intro k oN ou;have SZ:k≠st.nx:=fun e=>by rw [e,oq] at ou;cases ou
  cases hu:lk k up with
  |none=>
   left;refine ⟨rfl,by rw [rZ,hu,if_neg SZ,ou];rfl,fun p b hn pN hb=> ?_⟩;obtain ⟨c,q,ch1,h1,h2,h3,h4⟩:=hG b hb;have:=(h.jU k c p q oN ch1 b ou hn h2 h3 pN h4).1;subst this;rw [hu] at h1;cases h1
  |some c0=>
   right;rw [rZ,hu,(ot.lk hu).1];rfl
 have Tz:lk st.nx (up++[(st.nx,ch)]++st.mem)=some ch:=by rw [rZ,Kk,if_pos rfl];rfl
 have uw: ∀k,lk k st.mem=none→k≠st.nx→lk k (up++[(st.nx,ch)]++st.mem)=none:=by
  intro k ou SZ;cases hu:lk k up with
  |none=>rw [rZ,hu,if_neg SZ,ou];rfl
  |some c0=>exact absurd ou (ot.lk hu).2
 have TA: ∀k' ji p,lk k' (up++[(st.nx,ch)]++st.mem)=some ji→ji.owns p→k'≠st.nx→lk k' st.mem=some ji∧ ∀b,g.f k' p=some b→b ∉ G:=by
  intro k' ji p gM xj SZ;cases ho:lk k' st.mem with
  |none=>rw [uw k' ho SZ] at gM;cases gM
  |some c0=>
   rcases hold k' c0 ho with ⟨_,e1,e2⟩|e1
   rw [gM] at e1;injection e1 with e1;subst e1;exact ⟨rfl,fun b hb=>e2 p b xj hb⟩
   rw [gM] at e1;injection e1 with e1;subst e1;exact xj.elim
 have t:AE cx g g' st.mem (up++[(st.nx,ch)]++st.mem) w w' G:=by
  refine ⟨hk,Tx,jl,fun k c0 ho=> ?_,fun k c0 ho fi=> ?_⟩;rcases hold k c0 ho with ⟨_,e1,e2⟩|e1
  exact .inl ⟨e1,e2⟩;exact .inr (.inl e1);by_cases e:k=st.nx;subst e;rw [Tz] at fi;injection fi with fi;subst fi;refine ⟨?_,fun p b hn hg=> ?_⟩;rw [mS];refine hc g' _ _ fun b hb=> ?_;obtain ⟨h1,h2,h3⟩:=hb;have hG':b ∉ G:=fun hb=>h3 (Tx b hb);refine ⟨⟨Nat.lt_of_lt_of_le h1 hk.size,h2,?_⟩,hk.block b h1 hG'⟩;rintro ⟨k,p,c,vy,hn,hg⟩;by_cases e:k=st.nx;subst e;rw [mS] at hg;rcases (hγ p b hg).2 with hx|hx
  omega;exact hG' hx;obtain ⟨h4,_⟩:=TA k c p vy hn e;exact h3 ⟨k,p,c,h4,hn,by rw [←jl k (by rw [h4];simp)];exact hg⟩;rw [mS] at hg;refine ⟨(hγ p b hg).2,(hγ p b hg).1,fun k' p' ji gM xj FQ=> ?_⟩;by_cases e:k'=st.nx;subst e;rw [mS] at FQ;exact ⟨rfl,W1 p' p b FQ hg⟩;obtain ⟨h4,h5⟩:=TA k' ji p' gM xj e;have TB:g.f k' p'=some b:=by rw [←jl k' (by rw [h4];simp)];exact FQ
  rcases (hγ p b hg).2 with hx|hx
  have:=h.lt k' p' ji b h4 xj TB;omega;exact absurd hx (h5 b TB);rw [uw k ho e] at fi;cases fi
 exact ⟨g',mS,h.AF t⟩
theorem sd {o:Option Nat}{p:List Nat}{b:Nat}(h:sZ o p=some b):p=[]∧o=some b:=by
 unfold sZ at h;split at h;exact ⟨by assumption,h⟩;cases h
theorem oZ.newAt {e:cf}{up:Mem}{G:List Nat}{gk:Option Nat}{t:Ty}{xs:List t.D}{val:Value}(h:cX cx g st a w)(hw:fE st.mem e.new)(he:e.new=[(st.nx,.seq t xs)]∧e.l6=up∧e.val= .one (.all st.nx))(ot:up=[]∨ ∃c oN,up=[(c,.gone)]∧lk c st.mem=some oN∧oN≠ .gone)(hk:bJ G w w')(hG:G=[]∨ ∃c b oN,up=[(c,.gone)]∧lk c st.mem=some oN∧oN≠ .gone∧g c=some b∧G=[b])(pN: ∀b,gk=some b→w.heap.size≤b∨b∈G)(cp: ∀b,gk=some b→b<w'.heap.size)(hc: ∀S',(∀b,cx.safe g st.mem w b→S' b∧w'.heap[b]? =w.heap[b]?)→match gk with|none=>xs=[]|some b=> ∃arr,dc w' b arr∧fm S' w' (sZ gk) t xs arr)(hv:gL gk w' t.size xs.length val):oZ cx st a e val w':=by
 have oq:lk st.nx st.mem=none:=hw (st.nx,.seq t xs) (by rw [he.1];simp);have Qi:Cf st.mem up:=by
  intro p hp;rcases ot with rfl|⟨c,oN,rfl,h1,h2⟩
  simp at hp;simp at hp;subst hp;exact ⟨rfl,by rw [h1];simp⟩
 obtain ⟨g',mS,hs⟩:=h.newAt (ch:= .seq t xs) (γ:=sZ gk) oq Qi hk (fun b hb=>by
  rcases hG with rfl|⟨c,b',oN,rfl,h2,h3,h4,rfl⟩
  simp at hb;simp at hb;subst hb;exact ⟨c,[],oN,by simp [aL],h2,Chunk.yg h3,h4⟩)
  (fun p b hp=>⟨cp b (sd hp).2,pN b (sd hp).2⟩) (fun p q b hp hq=>by rw [(sd hp).1,(sd hq).1]) (fun g' m' S' hS=>by
   have:=hc S' hS;cases gk with
   |none=>simp only [jf,sZ,if_true];exact this
   |some b=>
    obtain ⟨arr,h1,h2⟩:=this;simp only [jf,sZ,if_true];exact ⟨arr,h1,h2⟩)
 refine ⟨g',?_,?_⟩;rw [he.1,he.2.1];exact hs;rw [he.1,he.2.1,he.2.2];have hl:lk st.nx (up++[(st.nx,.seq t xs)]++st.mem)=some (.seq t xs):=by
  rcases ot with rfl|⟨c,ch1,rfl,Av,Bj⟩
  simp [aL];have:st.nx≠c:=fun e=>by rw [←e,oq] at Av;cases Av
  simp [aL,if_neg this]
 refine ⟨by rw [hl];simp,?_,fun t' cK fb=> ?_⟩;unfold gL at hv;cases gk with
 |none=>obtain ⟨a,rfl⟩:=hv;rfl
 |some b=>obtain ⟨cap,arr,rfl,_⟩:=hv;rfl
 have fb:=dF.toSeq hl fb;rw [hl] at fb;injection fb with fb;injection fb with ht uq;subst ht;have uq:=eq_of_heq uq;subst uq;rw [show g' st.nx=gk from by show g'.f st.nx []=gk;rw [mS];rfl];exact hv
theorem AH {T T':TypeId}{ty:TypeId}{t:Ty}{s x:aD}{e:cf}{sv xv:Value}(h:cX cx g st a w)(hw:fE st.mem e.new)(he:rQ cx.P st.mem st.nx T T' t s x=some e)(hc:bB e.cond)(hs:VR g st.mem (cx.safe g st.mem w) w s sv)(hx:VR g st.mem (cx.safe g st.mem w) w x xv):j8 cx st a w (Builtin.append_ #[T,T'] ty #[sv,xv]) e:=by
 unfold rQ at he;split at he;rename_i el hu;split at he;rename_i i hi;cases hb:(((Nat.beq T T'&&Nat.beq i.size t.size)&&(Nat.ble i.bytes 32768&&i.zero.isSome)&&(i.zero.map fun z=>Nat.beq z.cells.size t.size).getD false)&&(t.top&&nb st.mem x)) with
 |false=>simp [hb] at he
 |true=>
  rw [hb] at he;simp only [cond_true] at he;simp only [Bool.and_eq_true] at hb;obtain ⟨⟨⟨⟨hT,eK⟩,D1,TC⟩,HS⟩,pf,Kl⟩:=hb;have hT:=bG hT;subst hT;have eK:=bG eK;have D1:=iT D1;obtain ⟨z,hz⟩:=Option.isSome_iff_exists.1 TC;rw [hz] at HS;have HS:z.cells.size=t.size:=bG (by simpa using HS);split at he;rename_i xs up ys Bk W2;injection he with he;subst he;have hlen:xs.length+ys.length≤bg:=hc.1;unfold bg at hlen;obtain ⟨ot,W3⟩:=D0 h.mem Bk pf hs;obtain ⟨news,Bl⟩:=Ce h.mem W2 Kl pf hx;obtain ⟨ax,xk,ex,Qj⟩:=Bl.val;subst ex;have tA:(xs.length+ys.length)*i.bytes≤140737488355328:=by
   calc (xs.length+ys.length)*i.bytes≤4294967296*32768:=Nat.mul_le_mul hlen D1
    _=140737488355328:=by decide
  have vC:news.length=ys.length*i.size:=by rw [eK];exact Bl.len
  have grow: ∀(base:Option Addr) (cap:Nat) (jW:List Value),jW.length=xs.length*i.size→(xs.length=0∨ ∃ad,base=some ad∧ ∀j v,jW[j]? =some v→w.cell? (ad.add j)=some v)→
   fo (cx.safe g st.mem w) w t xs jW→cap<xs.length+ys.length→(up=[]∨ ∃c oN,up=[(c,.gone)]∧lk c st.mem=some oN∧oN≠ .gone)→
   j8 cx st a w (Builtin.append_ #[T,T] ty #[.slice base xs.length cap,.slice ax ys.length xk]) ⟨.one (.all st.nx),[(st.nx,.seq t (xs++ys))],up,[List.length xs+List.length ys≤bg]⟩:=by
   intro base cap jW FH ho gF cp ot;have qU:=grownCap_ge w (xs.length+ys.length) cap el;have J1:=grownCap_le_maxLen w (xs.length+ys.length) cap el (by unfold maxLen;omega);have hr:=uu (P:=cx.P) (ty:=ty) (c:=xk) hu hi hz FH ho vC Qj cp tA (by omega);have eU:bJ [] w (w.drew.alloc (.cells (jW.toArray++news.toArray++Builtin.zeroCells z.cells (grownCap w (xs.length+ys.length) cap el - (xs.length+ys.length))) el)):=
    (bJ.drew [] w).trans (bJ.alloc _ _ _)
   have de:=dc.new w.drew (jW.toArray++news.toArray++Builtin.zeroCells z.cells (grownCap w (xs.length+ys.length) cap el - (xs.length+ys.length))) el;refine ⟨_,_,hr,?_⟩;refine oZ.newAt (G:=[]) (gk:=some w.heap.size) h hw ⟨rfl,rfl,rfl⟩ ot eU (.inl rfl) (fun b hb=>by injection hb with hb;left;omega) (fun b hb=>by injection hb with hb;subst hb;exact de.lt) (fun S' hS=>⟨_,de,?_⟩) ?_;refine fm.oL pf (fo.toR ?_);simp only [Array.toList_append];have h1:fo S' (w.drew.alloc (.cells (jW.toArray++news.toArray++Builtin.zeroCells z.cells (grownCap w (xs.length+ys.length) cap el - (xs.length+ys.length))) el)) t xs jW:=fun i hi=>by
    obtain ⟨es,k1,k2⟩:=gF i hi;exact ⟨es,k1,bO.keep hS t es _ k2⟩
   have h2:fo S' (w.drew.alloc (.cells (jW.toArray++news.toArray++Builtin.zeroCells z.cells (grownCap w (xs.length+ys.length) cap el - (xs.length+ys.length))) el)) t ys news:=fun i hi=>by
    obtain ⟨es,k1,k2⟩:=Bl.IL i hi;exact ⟨es,k1,bO.keep hS t es _ k2⟩
   exact fo.app h1 (by rw [FH,eK]) h2 Bl.len;refine ⟨grownCap w (xs.length+ys.length) cap el,_,?_,by rw [List.length_append];exact qU,de,?_,J1⟩;rw [List.length_append];simp only [Array.size_append,List.size_toArray,size_zeroCells,HS,FH,vC,eK,←Nat.add_mul];exact Nat.mul_le_mul_right _ (by omega)
  rcases W3 with ⟨W4,ab,eb⟩|⟨c,ch,b,cap,arr,e1,e2,e3,e4,e5,tz,de,iU,FX,gF⟩
  subst eb;subst W4;by_cases hy:ys.length=0;have NC:ys=[]:=List.eq_nil_of_length_eq_zero hy;subst NC;refine ⟨_,_,pX (P:=cx.P) hu hi,?_⟩;exact oZ.newAt (G:=[]) (gk:=none) h hw ⟨rfl,rfl,rfl⟩ ot (bJ.refl _ _) (.inl rfl) (fun b hb=>by cases hb) (fun b hb=>by cases hb) (fun S' hS=>rfl) ⟨ab,rfl⟩;exact grow ab 0 [] (by simp) (.inl rfl) (fun i hi=>by simp at hi) (by simp;omega) ot;subst e5;by_cases lu:xs.length+ys.length≤cap;have qV:(xs.length+ys.length)*i.size≤arr.size:=by rw [eK];exact Nat.le_trans (Nat.mul_le_mul_right _ lu) iU
  obtain ⟨w',aG,hr,jS,fb,gM,hs'⟩:=uv (P:=cx.P) (ty:=ty) hu hi de (c:=xk) vC Qj (Bl.IL.nP Bl.len) lu qV;refine ⟨_,_,hr,?_⟩;refine oZ.newAt (G:=[b]) (gk:=some b) h hw ⟨rfl,rfl,rfl⟩ ot gM (.inr ⟨c,b,ch,e1,e2,e3,e4,rfl⟩) (fun b' o5=>by injection o5 with o5;subst o5;right;simp) (fun b' o5=>by injection o5 with o5;subst o5;exact jS.lt) (fun S' hS=>⟨aG,jS,?_⟩) ?_;refine fm.oL pf (fo.toR ?_);rw [fb,eK];have h1:fo S' w' t xs (arr.toList.take (xs.length*t.size)):=fun i hi=>by
   obtain ⟨es,k1,k2⟩:=gF i hi;exact ⟨es,k1,bO.keep hS t es _ k2⟩
  have h2:fo S' w' t ys news:=fun i hi=>by
   obtain ⟨es,k1,k2⟩:=Bl.IL i hi;exact ⟨es,k1,bO.keep hS t es _ k2⟩
  refine fo.app h1 ?_ h2 Bl.len;have:xs.length*t.size≤arr.size:=Nat.le_trans (Nat.mul_le_mul_right _ tz) iU;simp;omega;refine ⟨cap,aG,by rw [List.length_append],by rw [List.length_append];exact lu,jS,?_,FX⟩;have:aG.size=arr.size:=by
   rw [←Array.length_toList,fb];simp;rw [eK] at qV vC⊢;rw [Nat.add_mul] at qV;omega
  rw [this];exact iU;have hle:xs.length*t.size≤arr.size:=Nat.le_trans (Nat.mul_le_mul_right _ tz) iU;exact grow _ cap (arr.toList.take (xs.length*t.size)) (by rw [eK];simp;omega) (.inr ⟨_,rfl,fun j v hj=>by
   rw [bP,de.cell];rw [List.getElem?_take] at hj;split at hj;simpa using hj;cases hj⟩) gF (by omega) ot
  cases he
 cases he;cases he
end
end Go.Ide
namespace Go.Ide
section
variable {P:Program} {g:GM} {m:Mem} {S:Nat→Prop} {w:World}
theorem qW {t:Ty}{cs:List Value}{v:Value}{x:t.D}(h:dT t cs v)(hr:bO S w t cs x):v.cells.toList=cs:=by
 unfold dT at h;split at h;subst h;rfl;subst h;rw [rV (bO.nP t hr v (by simp))]
theorem tB {t:Ty}: ∀{parts:List (Nat×aD)} {vparts:List (Nat×Value)} {i:Nat} {xs:List t.D} {arr:Array Value},
 vw t i parts=some xs→bC (fun (p:Nat×aD) (q:Nat×Value)=>p.1=q.1∧VR g m S w p.2 q.2) parts vparts→(i+parts.length)*t.size≤arr.size→
 ∃aG news,Instr.fill (fun j=>some (j*t.size,t.size)) arr vparts=some aG∧news.length=xs.length*t.size∧fo S w t xs news∧parts.length=xs.length∧
  aG.toList=arr.toList.take (i*t.size)++news++arr.toList.drop ((i+xs.length)*t.size)
 |[],[],i,xs,arr,h,_,hle=>by
  simp only [vw] at h;injection h with h;subst h;exact ⟨arr,[],rfl,by simp,fun i hi=>by simp at hi,rfl,by simp⟩
 |(j,v)::parts,(j',u)::vparts,i,xs,arr,h,hp,hle=>by
  obtain ⟨⟨hj,hv⟩,yu⟩:=hp;have hj:j=j':=hj;subst hj;simp only [vw] at h;cases hb:Nat.beq i j with
  |false=>simp [hb] at h
  |true=>
   rw [hb] at h;simp only [cond_true] at h;have hb:=bG hb;subst hb;split at h;rename_i x l hx hl;injection h with h;subst h;obtain ⟨cs,hval,cN⟩:=pb (S2:=S) (fun _ h=>h) iZ.nil hx hv;have mT:=qW hval cN;have ur:=bO.len t cs x cN;simp only [List.length_cons] at hle;have eK:u.cells.size=t.size:=by rw [←Array.length_toList,mT,ur]
   have W5:(i+1)*t.size≤arr.size:=Nat.le_trans (Nat.mul_le_mul_right _ (by omega)) hle;rw [Nat.add_mul] at W5;have uo:(u.cells.zipIdx.foldl (fun cs (p:Value×Nat)=>cs.setIfInBounds (i*t.size+p.2) p.1) arr).toList=arr.toList.take (i*t.size)++cs++arr.toList.drop (i*t.size+cs.length):=by
    have:=rY (i*t.size) cs 0 arr (by omega);rw [←Array.foldl_toList,Array.toList_zipIdx,mT];simpa using this
   have wK:(u.cells.zipIdx.foldl (fun cs (p:Value×Nat)=>cs.setIfInBounds (i*t.size+p.2) p.1) arr).size=arr.size:=by
    rw [←Array.length_toList,uo];simp;omega
   obtain ⟨aG,news,e1,e2,e3,e4,e5⟩:=tB (arr:=u.cells.zipIdx.foldl (fun cs (p:Value×Nat)=>cs.setIfInBounds (i*t.size+p.2) p.1) arr) hl yu (by rw [wK];rw [show i+1+parts.length=i+(parts.length+1) from by omega];exact hle);refine ⟨aG,cs++news,?_,by simp [ur,e2,Nat.add_mul,Nat.add_comm],?_,by simp [e4],?_⟩;simp only [Instr.fill];rw [if_neg (by simp;omega)];exact e1;have h1:fo S w t [x] cs:=fun k hk=>by
    have hk:k=0:=by simp at hk;exact hk
    subst hk;exact ⟨cs,fun j _=>by simp,by simpa using cN⟩
   have:=fo.app (rest:=[]) h1 (by simp [ur]) e3 e2;simpa using this;rw [e5,uo];have hk:(i+1)*t.size=i*t.size+cs.length:=by rw [Nat.add_mul,ur];omega
   have TE:(arr.toList.take (i*t.size)++cs).length=(i+1)*t.size:=by rw [hk];simp;omega
   rw [List.take_append_of_le_length (by omega),List.take_of_length_le (by omega)];have hd:(i+1+l.length)*t.size=(arr.toList.take (i*t.size)++cs).length+l.length*t.size:=by rw [TE,Nat.add_mul (i+1)]
   rw [hd,List.drop_append,List.drop_drop];have:(i+(x::l).length)*t.size=i*t.size+cs.length+l.length*t.size:=by
    rw [List.length_cons,show i+(l.length+1)=(i+1)+l.length from by omega,Nat.add_mul (i+1),hk]
   rw [this];simp [List.append_assoc];cases h
 |[],_::_,_,_,_,_,hp,_=>hp.elim
 |_::_,[],_,_,_,_,hp,_=>hp.elim
end
section
variable {cx:Cx} {g:GM} {st:St} {a:Act} {w w':World}
theorem nH {g:GM}{m:Mem}{S:Nat→Prop}{w:World}{t:Ty}{cs:List aA}{x:t.D}{ks:List Nat}{r:List aA}{vs:List Value}(h:(c9 [] t cs).map (fun p=>((p.1,([]:List Nat)),p.2))=some ((x,ks),r))(hr:bC (CR g m S w) cs vs):
 ∃v1 v2,vs=v1++v2∧bO S w t v1 x∧bC (CR g m S w) r v2:=by
 cases hi:c9 [] t cs with
 |none=>rw [hi] at h;cases h
 |some p=>
  rw [hi] at h;obtain ⟨y,r'⟩:=p;injection h with h;injection h with h1 h2;injection h1 with h1 _;subst h1;subst h2;exact mH (fun _ h=>h) iZ.nil hi hr
theorem pg {g:GM}{m:Mem}{S:Nat→Prop}{w:World}: ∀(t:Ty) {γ:List Nat→Option Nat} {o:Nat} {cs:List aA} {x:t.D} {ks:List Nat} {r:List aA} {vs:List Value},lT [] t cs=some ((x,ks),r)→bC (CR g m S w) cs vs→(∀p,γ p=none)→
 ∃v1 v2,vs=v1++v2∧cW S w t γ o v1 x∧bC (CR g m S w) r v2
 | .own t,γ,o,cs,x,ks,r,vs,h,hr,hγ=>by
  simp only [lT] at h;split at h;injection h with h;injection h with h1 h2;injection h1 with h1 _;subst h1;subst h2;cases vs with
  |nil=>exact hr.elim
  |cons v vs=>
   obtain ⟨a,ha⟩:=hr.1;refine ⟨[v],vs,rfl,⟨v,rfl,?_,?_⟩,hr.2⟩;rw [hγ];exact ⟨a,ha⟩;rw [hγ];rfl
  simp [gE] at h;cases h
 | .pair a b,γ,o,cs,x,ks,r,vs,h,hr,hγ=>by
  simp only [lT] at h;split at h;rename_i y k1 r1 h1;split at h;rename_i z k2 r2 h2;injection h with h;injection h with e1 e2;injection e1 with e1 _;subst e1;subst e2;obtain ⟨v1,v2,rfl,q1,q2⟩:=pg (γ:=γ) (o:=o) a h1 hr hγ;obtain ⟨v3,v4,rfl,q3,q4⟩:=pg (γ:=γ) (o:=o+a.size) b h2 q2 hγ;exact ⟨v1++v3,v4,by simp,⟨v1,v3,rfl,q1,q3⟩,q4⟩;cases h;cases h
 | .st t,γ,o,cs,x,ks,r,vs,h,hr,hγ=>pg (γ:=γ) (o:=o) t (cs:=cs) (x:=x) h hr hγ
 | .int k,_,_,_,_,_,_,_,h,hr,_=>nH (t:= .int k) h hr
 | .aW k,_,_,_,_,_,_,_,h,hr,_=>nH (t:= .aW k) h hr
 | .bool,_,_,_,_,_,_,_,h,hr,_=>nH (t:= .bool) h hr
 | .str,_,_,_,_,_,_,_,h,hr,_=>nH (t:= .str) h hr
 | .sl t,_,_,_,_,_,_,_,h,hr,_=>nH (t:= .sl t) h hr
 | .bx t,_,_,_,_,_,_,_,h,hr,_=>nH (t:= .bx t) h hr
theorem ux {T:TypeId}{t:Ty}{len:Nat}{parts:List (Nat×aD)}{vparts:Array (Nat×Value)}{e:cf}(h:cX cx g st a w)(hw:fE st.mem e.new)(he:qR cx.P st.nx T t len parts=some e)(hp:bC (fun (p:Nat×aD) (q:Nat×Value)=>p.1=q.1∧VR g st.mem (cx.safe g st.mem w) w p.2 q.2) parts vparts.toList):j8 cx st a w (Instr.buildSlice T len vparts) e:=by
 unfold qR at he;split at he;rename_i el hu;cases hb:(((cY cx.P el==some t.size&&(((cx.P.info? el).bind (·.zero)).map fun z=>Nat.beq z.cells.size t.size)==some true)&&(Nat.beq parts.length len&&Nat.ble (len*t.size) 65536))&&t.top) with
 |false=>rw [hb] at he;cases he
 |true=>
  rw [hb] at he;simp only [cond_true] at he;simp only [Bool.and_eq_true,beq_iff_eq] at hb;obtain ⟨⟨⟨hs,hz⟩,hn,NJ⟩,pf⟩:=hb;have hn:=bG hn;have NJ:=iT NJ;subst hn;split at he;rename_i xs hx;injection he with he;subst he;cases hi:cx.P.info? el with
  |none=>simp [cY,hi] at hs
  |some i=>
   rw [hi] at hz;simp only [Option.bind_some] at hz;cases yA:i.zero with
   |none=>simp [yA] at hz
   |some z=>
    rw [yA] at hz;have hz:Nat.beq z.cells.size t.size=true:=by simpa using hz
    have hz:=bG hz;let base:Array Value:=(Array.range (parts.length*t.size)).map fun k=>(if parts.length*t.size=0 then #[] else z.cells)[k%(if parts.length*t.size=0 then #[] else z.cells).size]!;have S3:base.size=parts.length*t.size:=by simp [base]
    obtain ⟨aG,news,e1,e2,e3,e4,e5⟩:=tB (g:=g) (m:=st.mem) (S:=cx.safe g st.mem w) (w:=w) (arr:=base) hx hp (by rw [S3,Nat.zero_add];exact Nat.le_refl _);have jX:(Instr.buildSlice T parts.length vparts).run cx.P w= .ok (.slice (some ⟨w.heap.size,0,none⟩) parts.length parts.length) (w.alloc (.cells aG el)):=by
     have F4: ¬(16777216<parts.length*t.size):=by omega
     by_cases h0:parts.length*t.size=0;have HU:Instr.fill (fun j=>some (j*t.size,t.size)) ((Array.range (parts.length*t.size)).map fun k=>(#[]:Array Value)[k%(#[]:Array Value).size]!) vparts.toList=some aG:=by
      have:=e1;simp only [base,h0,if_true] at this;rw [h0];exact this
     simp only [Instr.buildSlice,Sem.run_bind,run_underlying hu,Result.andThen_ok,cG hs];simp [h0,F4] at HU⊢;simp [HU,newRow];have HU:Instr.fill (fun j=>some (j*t.size,t.size)) ((Array.range (parts.length*t.size)).map fun k=>z.cells[k%z.cells.size]!) vparts.toList=some aG:=by
      have:=e1;simp only [base,h0,if_false] at this;exact this
     simp only [Instr.buildSlice,Sem.run_bind,run_underlying hu,Result.andThen_ok,cG hs];simp [h0,F4,zeroValue,typeInfo,hi,yA] at HU⊢;simp [HU,newRow]
    refine ⟨_,_,jX,?_⟩;have hlen:aG.toList=news:=by
     rw [e5,←e4];simp only [Nat.zero_mul,Nat.zero_add,List.take_zero,List.nil_append];rw [List.drop_of_length_le (by rw [Array.length_toList,S3];exact Nat.le_refl _)];simp
    have Qk:aG.size=xs.length*t.size:=by rw [←Array.length_toList,hlen,e2]
    refine oZ.newAt (G:=[]) (up:=[]) (gk:=some w.heap.size) h hw ⟨rfl,rfl,rfl⟩ (.inl rfl) (bJ.alloc _ _ _) (.inl rfl) (fun b hb=>by injection hb with hb;left;omega) (fun b hb=>by injection hb with hb;subst hb;exact (dc.new w aG el).lt) (fun S' hS=>⟨aG,dc.new w aG el,?_⟩) ?_;refine fm.oL pf (fo.toR ?_);rw [hlen];exact fun i hi=>by
     obtain ⟨es,k1,k2⟩:=e3 i hi;exact ⟨es,k1,bO.keep hS t es _ k2⟩
    refine ⟨xs.length,aG,by rw [e4],Nat.le_refl _,dc.new w aG el,by rw [Qk];exact Nat.le_refl _,?_⟩;have:=t.size_pos;have h1:xs.length≤xs.length*t.size:=Nat.le_mul_of_pos_right _ this;rw [e4] at NJ;unfold maxLen;omega
  cases he
 cases he
theorem vD {T:TypeId}{t:Ty}{len cap:aD}{e:cf}{lv cv:Value}(h:cX cx g st a w)(hw:fE st.mem e.new)(he:tw cx.P st.nx T t len cap=some e)(hc:bB e.cond)(hl:VR g st.mem (cx.safe g st.mem w) w len lv)(Kg:VR g st.mem (cx.safe g st.mem w) w cap cv):j8 cx st a w (Instr.makeSlice T lv cv) e:=by
 unfold tw at he;split at he;rename_i el kl n kc c hu;split at he;rename_i i z0 hi ta;cases hb:(Nat.beq i.size t.size&&Nat.ble i.bytes 32768) with
 |false=>simp [hb] at he
 |true=>
  rw [hb] at he;simp only [cond_true] at he;simp only [Bool.and_eq_true] at hb;have eK:=bG hb.1;have D1:=iT hb.2;injection he with he;subst he;obtain ⟨⟨h0,h1,h2⟩,_⟩:=hc;have e1:=eS (g:=g) (m:=st.mem) (S:=cx.safe g st.mem w) (w:=w) hl;have e2:=eS (g:=g) (m:=st.mem) (S:=cx.safe g st.mem w) (w:=w) Kg;subst e1;subst e2;obtain ⟨k,rfl⟩:=Int.eq_ofNat_of_zero_le (show (0:Int)≤c from Int.le_trans h0 h1);obtain ⟨k0,rfl⟩:=Int.eq_ofNat_of_zero_le (show (0:Int)≤n from h0);have hk:k≤4294967296:=by have:((k:Nat):Int)≤4294967296:=h2;omega
  have ou:k0≤k:=by have:((k0:Nat):Int)≤((k:Nat):Int):=h1;omega
  unfold HJ at ta;rw [hi] at ta;cases yA:i.zero with
  |none=>simp [yA] at ta
  |some z=>
   simp only [yA] at ta;have tA:(i.bytes:Int)*(k:Int)≤281474976710656:=by
    have:i.bytes*k≤32768*4294967296:=Nat.mul_le_mul D1 hk;have h3:((i.bytes*k:Nat):Int)≤281474976710656:=by omega
    rwa [Int.natCast_mul] at h3
   have jX:=run_make (P:=cx.P) w T el i z hu hi yA kl kc (k0:Int) (k:Int) (by omega) h1 tA (by omega);refine ⟨_,_,jX,?_⟩;have cN: ∀(S':Nat→Prop) (w':World) (γ:List Nat→Option Nat),(∀p,γ p=none)→cW S' w' t γ 0 z.cells.toList z0:=fun S' w' γ hγ=>by
    split at ta;rename_i pf;obtain ⟨cs,hval,cN⟩:=pb (g:=⟨fun _ _=>none⟩) (m:=[]) (S:=S') (S2:=S') (fun _ h=>h) iZ.nil ta (xJ (w:=w') z);rw [qW hval cN];exact cW.qP t pf cN;split at ta;rename_i jT;split at ta;rename_i x hx;injection ta with ta;subst ta;obtain ⟨v1,v2,e,h1,h2⟩:=pg (g:=⟨fun _ _=>none⟩) (m:=[]) (S:=S') (w:=w') (γ:=γ) (o:=0) t hx (nR z jT) hγ;have:v2=[]:=by cases v2 with|nil=>rfl|cons=>exact h2.elim
    subst this;rw [List.append_nil] at e;rw [e];exact h1;cases ta;cases ta
   have uy:z.cells.size=t.size:=by rw [←Array.length_toList];exact cW.len t (cN (fun _=>True) w (fun _=>none) (fun _=>rfl))
   have hzp:=t.size_pos;simp only [Int.toNat_natCast] at jX⊢;have mT: ∀q,q<k*t.size→(madeCells z.cells (k*i.size))[q]? =z.cells[q%t.size]? :=fun q hq=>by
    have jg:k*t.size≠0:=by omega
    have yz:q%t.size<z.cells.size:=by rw [uy];exact Nat.mod_lt _ hzp
    rw [eK];simp [madeCells,hq,uy,Array.getElem?_eq_getElem yz,getElem!_pos z.cells (q%t.size) yz]
   have W6:(madeCells z.cells (k*i.size)).size=k*t.size:=by rw [eK];simp [madeCells]
   refine oZ.newAt (G:=[]) (up:=[]) (gk:=some w.heap.size) h hw ⟨rfl,rfl,rfl⟩ (.inl rfl) (bJ.alloc _ _ _) (.inl rfl) (fun b hb=>by injection hb with hb;left;omega) (fun b hb=>by injection hb with hb;subst hb;exact (dc.new w _ el).lt) (fun S' hS=>⟨_,dc.new w _ el,?_⟩) ?_;intro i' xi;simp only [List.length_replicate,Int.toNat_natCast] at xi;refine ⟨z.cells.toList,fun j u hj=> ?_,?_⟩;have J0:j<t.size:=by rw [←uy,←Array.length_toList];exact (List.getElem?_eq_some_iff.1 hj).1
   have cp:i'*t.size+j<k*t.size:=by
    have:(i'+1)*t.size≤k*t.size:=Nat.mul_le_mul_right _ (by omega);rw [Nat.add_mul] at this;omega
   rw [mT _ cp];have:(i'*t.size+j)%t.size=j:=by rw [Nat.add_comm,Nat.mul_comm,Nat.add_mul_mod_self_left];exact Nat.mod_eq_of_lt J0
   rw [this,←Array.getElem?_toList];exact hj;simp only [List.getElem_replicate];exact cN _ _ _ (fun p=>rfl);refine ⟨k,_,by simp,by simpa using ou,dc.new w _ el,by rw [W6];exact Nat.le_refl _,by unfold maxLen;omega⟩
 cases he;cases he
theorem cX.grow {w':World}(h:cX cx g st a w)(hk:bJ [] w w'):cX cx g (st.l8 st.mem st.nx) a w':=h.AF (G:=[]) ⟨hk,fun b hb=>(by simp at hb),fun _ _=>rfl,fun k ch hk=> .inl ⟨hk,fun _ b _ _ hb=>by simp at hb⟩,fun k ch hk gM=>by
 rw [hk] at gM;cases gM⟩
theorem Cg {T:TypeId}{len:Nat}{parts:List (Nat×aD)}{vparts:Array (Nat×Value)}{e:cf}(h:cX cx g st a w)(he:FO cx.P T len parts=some e)(hp:bC (fun (p:Nat×aD) (q:Nat×Value)=>p.1=q.1∧VR g st.mem (cx.safe g st.mem w) w p.2 q.2) parts vparts.toList):j8 cx st a w (Instr.buildSlice T len vparts) e:=by
 unfold FO at he;split at he;rename_i el hu;cases hb:(((cY cx.P el).isSome&&Nat.beq len 0)&&parts.isEmpty) with
 |false=>rw [hb] at he;cases he
 |true=>
  rw [hb] at he;simp only [cond_true] at he;simp only [Bool.and_eq_true,List.isEmpty_iff] at hb;obtain ⟨⟨hs,hn⟩,hpe⟩:=hb;have hn:=bG hn;subst hn;subst hpe;obtain ⟨k,hs⟩:=Option.isSome_iff_exists.1 hs;have hv:vparts= #[]:=by
   cases hq:vparts.toList with
   |nil=>exact Array.toList_eq_nil_iff.1 hq
   |cons x xs=>rw [hq] at hp;exact hp.elim
  subst hv;have jX:(Instr.buildSlice T 0 #[]).run cx.P w= .ok (.slice (some ⟨w.heap.size,0,none⟩) 0 0) (w.alloc (.cells #[] el)):=by
   simp only [Instr.buildSlice,Sem.run_bind,run_underlying hu,Result.andThen_ok,cG hs];simp [newRow,Instr.fill]
   congr 2
   apply Array.ext';simp
  injection he with he;subst he;exact ⟨_,_,jX,g,h.grow (bJ.alloc _ _ _),_,rfl⟩
 cases he
end
end Go.Ide
namespace Go.Ide
section
variable {cx:Cx} {g:GM} {st:St} {a:Act} {w w':World}
structure Km (g:GM)(st:St)(w w':World)(c b:Nat)(p0:List Nat)(ch ji:Chunk):Prop where
 lk:Ide.lk c st.mem=some ch
 HV:ch.owns p0
 at_:g.f c p0=some b
 keep:bJ [b] w w'
 sz: ∃arr aG,dc w b arr∧dc w' b aG∧aG.size=arr.size
 owns: ∀p,ji.owns p→ch.owns p
 ng:ji≠ .gone
 shape: ∀t xs,ji.yj t xs→ ∃cK,ch.yj t cK∧cK.length=xs.length
 rows: ∀t cK,ji= .seq t cK→ ∃xs,ch= .seq t xs∧cy t xs cK
theorem Km.dc {c b:Nat}{p0:List Nat}{ch ji:Chunk}(q:Km g st w w' c b p0 ch ji){b':Nat}{vv:Array Value}(wL:dc w b' vv): ∃aG,Ide.dc w' b' aG∧aG.size=vv.size:=by
 by_cases e:b'=b;subst e;obtain ⟨arr,aG,h1,h2,h3⟩:=q.sz;have:=wL.eq h1;subst this;exact ⟨aG,h2,h3⟩;exact ⟨vv,wL.keep (q.keep.block b' wL.lt (by simp [e])),rfl⟩
theorem Km.stays {c b:Nat}{p0:List Nat}{ch ji:Chunk}(q:Km g st w w' c b p0 ch ji):
 na g g st.mem ((c,ji)::st.mem) (cx.safe g st.mem w) (cx.safe g ((c,ji)::st.mem) w') w w':=by
 refine ⟨⟨fun b' hs=> ?_,fun k gM=>⟨by rw [aL];split<;>simp_all,rfl⟩,fun k t xs gM hl=> ?_,fun k t xs b' vv gM hl jl wL=>q.dc wL⟩,fun _ _=>rfl,fun k t cK gM hl=> ?_⟩;obtain ⟨h1,h2,h3⟩:=hs;have jg:b'≠b:=fun e=>h3 ⟨c,p0,ch,q.lk,q.HV,by rw [e];exact q.at_⟩;refine ⟨⟨Nat.lt_of_lt_of_le h1 q.keep.size,h2,?_⟩,q.keep.block b' h1 (by simp [jg])⟩;rintro ⟨k,p,c0,vy,DI,D2⟩;rw [aL] at vy;by_cases e:k=c;subst e;rw [if_pos rfl] at vy;injection vy with vy;subst vy;exact h3 ⟨k,p,ch,q.lk,q.owns p DI,D2⟩;rw [if_neg e] at vy;exact h3 ⟨k,p,c0,vy,DI,D2⟩;by_cases e:k=c;subst e;have fb:=(dF.of (ch:=ji) (by rw [aL,if_pos rfl])).1 hl;obtain ⟨cK,e1,e2⟩:=q.shape t xs fb;exact ⟨cK,(dF.of q.lk).2 e1,e2⟩;refine ⟨xs,?_,rfl⟩;unfold dF at hl⊢;rw [aL,if_neg e] at hl;exact hl;rw [aL] at hl;by_cases e:k=c;subst e;rw [if_pos rfl] at hl;injection hl with hl;obtain ⟨xs,e1,e2⟩:=q.rows t cK hl;exact ⟨xs,by rw [q.lk,e1],e2,fun i o b' arr hg hb=>q.dc hb⟩;rw [if_neg e] at hl;exact ⟨cK,hl,cy.refl _ _,fun i o b' arr hg hb=>q.dc hb⟩
theorem cX.qN (h:cX cx g st a w){c b:Nat}{p0:List Nat}{ch ji:Chunk}(q:Km g st w w' c b p0 ch ji)(hc:jf g ((c,ji)::st.mem) (cx.safe g ((c,ji)::st.mem) w') w' (g.f c) ji):cX cx g (st.l8 ((c,ji)::st.mem) st.nx) a w':=by
 have t:AE cx g g st.mem ((c,ji)::st.mem) w w' [b]:=by
  refine ⟨q.keep,fun b' hb=>by simp at hb;subst hb;exact ⟨c,p0,ch,q.lk,q.HV,q.at_⟩,fun _ _=>rfl,fun k c0 ho=> ?_,fun k c0 ho fi=> ?_⟩;by_cases e:k=c;subst e;rw [q.lk] at ho;injection ho with ho;subst ho;exact .inr (.inr ⟨Chunk.HH q.HV,ji,by rw [aL,if_pos rfl],q.ng,q.owns,q.shape,q.rows,fun p b2 lP _ wI o5=>q.dc o5,hc⟩);refine .inl ⟨by rw [aL,if_neg e];exact ho,fun p b2 DI wI hm=> ?_⟩;simp at hm;subst hm;exact e (h.jU k c p p0 c0 ch b2 ho DI q.lk q.HV wI q.at_).1;rw [aL] at fi;by_cases e:k=c;subst e;rw [q.lk] at ho;cases ho;rw [if_neg e,ho] at fi;cases fi
 exact h.AF t
def D3 (cx:Cx)(st:St)(a:Act)(w:World)(s:Sem Unit)(e:cf):Prop:=
 ∃w',s.run cx.P w= .ok () w'∧oZ cx st a e undef w'
theorem lx {P:Program}{T:TypeId}{n b o:Nat}{arr:Array Value}{v:Value}(hs:cY P T=some n)(hb:dc w b arr)(hn:v.cells.toList.length=n)(hle:o+n≤arr.size)(h1: ∀x∈v.cells.toList,x.oneCell'=true):
 ∃w' aG,(Instr.storeAt T (.pointer (some ⟨b,o,none⟩)) v).run P w= .ok () w'∧dc w' b aG∧aG.toList=arr.toList.take o++v.cells.toList++arr.toList.drop (o+n)∧bJ [b] w w'∧aG.size=arr.size:=by
 obtain ⟨w',aG,e,k1,k2,k3,k4⟩:=fF (P:=P) v.cells.toList o 0 w arr hb (by omega) h1;simp only [Nat.add_zero] at k2;rw [hn] at k2;refine ⟨w',aG,?_,k1,k2,k3,?_⟩;have eK:v.cells.size=n:=by rw [←Array.length_toList];exact hn
 simp [Instr.storeAt,Instr.sureAddr,storeVar,cG hs,eK,e];rw [←Array.length_toList,k2];simp [hn];omega
def CE (g:GM)(m:Mem)(S:Nat→Prop)(w:World)(γ:List Nat→Option Nat)(o:Nat)(c:aA)(v:Value):Prop:=
 match c with
 | .aw (.own e) y=>cW S w (.own e) γ o [v] y
 |c=>CR g m S w c v
def mb (g:GM)(m:Mem)(S:Nat→Prop)(w:World)(γ:List Nat→Option Nat):Nat→List aA→List Value→Prop
 |_,[],[]=>True
 |o,c::cs,v::vs=>CE g m S w γ o c v∧mb g m S w γ (o+1) cs vs
 |_,_,_=>False
section
variable {m:Mem} {S:Nat→Prop} {γ:List Nat→Option Nat}
theorem mb.append: ∀{o:Nat} {cs ds:List aA} {vs us:List Value},mb g m S w γ o cs vs→mb g m S w γ (o+cs.length) ds us→mb g m S w γ o (cs++ds) (vs++us)
 |_,[],_,[],_,_,h=>h
 |o,_::cs,_,_::_,_,h,h'=>⟨h.1,mb.append h.2 (by rw [show o+1+cs.length=o+(cs.length+1) from by omega];exact h')⟩
 |_,[],_,_::_,_,h,_=>h.elim
 |_,_::_,_,[],_,h,_=>h.elim
theorem mb.take: ∀(n:Nat) {o:Nat} {cs:List aA} {vs:List Value},mb g m S w γ o cs vs→mb g m S w γ o (cs.take n) (vs.take n)
 |0,_,_,_,_=>by simp [mb]
 |_+1,_,[],[],_=>by simp [mb]
 |n+1,_,_::_,_::_,h=>⟨h.1,mb.take n h.2⟩
 |_+1,_,[],_::_,h=>h.elim
 |_+1,_,_::_,[],h=>h.elim
theorem mb.drop: ∀(n:Nat) {o:Nat} {cs:List aA} {vs:List Value},mb g m S w γ o cs vs→mb g m S w γ (o+n) (cs.drop n) (vs.drop n)
 |0,_,_,_,h=>by simpa using h
 |n+1,o,[],[],_=>by simp [mb]
 |n+1,o,_::_,_::_,h=>by
  have:=mb.drop n h.2;rw [show o+1+n=o+(n+1) from by omega] at this;simpa using this
 |_+1,_,[],_::_,h=>h.elim
 |_+1,_,_::_,[],h=>h.elim
theorem CE.of {o:Nat}{c:aA}{v:Value}(hf:c.Ka=true)(h:CR g m S w c v):CE g m S w γ o c v:=by
 unfold CE;split;cases hf;exact h
theorem mb.HW: ∀{o:Nat} {cs:List aA} {vs:List Value},cs.all aA.Ka=true→bC (CR g m S w) cs vs→mb g m S w γ o cs vs
 |_,[],[],_,_=>trivial
 |_,_::_,_::_,hf,h=>by
  simp only [List.all_cons,Bool.and_eq_true] at hf;exact ⟨CE.of hf.1 h.1,mb.HW hf.2 h.2⟩
 |_,[],_::_,_,h=>h.elim
 |_,_::_,[],_,h=>h.elim
theorem ly: ∀(t:Ty) (x:t.D),(ib t x).length=t.size
 | .int _,_=>rfl
 | .aW _,_=>rfl
 | .bool,_=>rfl
 | .str,_=>rfl
 | .sl _,_=>rfl
 | .bx _,_=>rfl
 | .own _,_=>rfl
 | .pair a b,x=>by simp only [ib,List.length_append,ly a,ly b,Ty.size]
 | .st t,x=>ly t x
theorem Ch: ∀(t:Ty) {o:Nat} {cs:List Value} {x:t.D},cW S w t γ o cs x→mb g m S w γ o (ib t x) cs
 | .int _,_,_,_,h=>by have h:=h;subst h;exact ⟨rfl,trivial⟩
 | .aW _,_,_,_,⟨b,e,h⟩=>by subst e;exact ⟨⟨b,rfl,h⟩,trivial⟩
 | .bool,_,_,_,h=>by have h:=h;subst h;exact ⟨rfl,trivial⟩
 | .str,_,_,_,h=>by have h:=h;subst h;exact ⟨rfl,trivial⟩
 | .sl t,_,_,_,⟨a,cap,e,h⟩=>by subst e;exact ⟨⟨a,cap,rfl,h⟩,trivial⟩
 | .bx t,_,_,_,⟨a,e,h⟩=>by subst e;exact ⟨⟨a,rfl,h⟩,trivial⟩
 | .own t,_,_,_,⟨v,e,h⟩=>by subst e;exact ⟨⟨v,rfl,h⟩,trivial⟩
 | .pair a b,o,_,x,⟨c1,c2,e,h1,h2⟩=>by
  subst e;exact (Ch a h1).append (by rw [ly];exact Ch b h2)
 | .st t,_,_,_,h=>Ch t (cs:=_) h
theorem se {t:Ty}(ht: ∀e,Ty.own e≠t)(h1:t.size=1){o:Nat}{cs:List aA}{x:t.D}{r:List aA}{vs:List Value}(h:c9 [] t cs=some (x,r))(hr:mb g m S w γ o cs vs):
 ∃v1 v2,vs=v1++v2∧bO S w t v1 x∧mb g m S w γ (o+t.size) r v2:=by
 cases cs with
 |nil=>simp [c9] at h
 |cons c cs=>
  cases vs with
  |nil=>exact hr.elim
  |cons v vs=>
   simp only [c9] at h;split at h;rename_i y hy;injection h with h;injection h with e1 e2;subst e1;subst e2;refine ⟨[v],vs,rfl,?_,by rw [h1];exact hr.2⟩;have hc:=hr.1;unfold CE at hc;split at hc;simp only [eE] at hy;split at hy;rename_i e;exact absurd e (ht _);cases hy;exact qS (fun _ h=>h) iZ.nil hy hc;cases h
theorem Ci: ∀(t:Ty) {o:Nat} {cs:List aA} {x:t.D} {r:List aA} {vs:List Value},impl [] t cs=some (x,r)→mb g m S w γ o cs vs→
 ∃v1 v2,vs=v1++v2∧cW S w t γ o v1 x∧mb g m S w γ (o+t.size) r v2
 | .int k,_,_,_,_,_,h,hr=>se (t:= .int k) (fun _ e=>by cases e) rfl h hr
 | .aW k,_,_,_,_,_,h,hr=>se (t:= .aW k) (fun _ e=>by cases e) rfl h hr
 | .bool,_,_,_,_,_,h,hr=>se (t:= .bool) (fun _ e=>by cases e) rfl h hr
 | .str,_,_,_,_,_,h,hr=>se (t:= .str) (fun _ e=>by cases e) rfl h hr
 | .sl t,_,_,_,_,_,h,hr=>se (t:= .sl t) (fun _ e=>by cases e) rfl h hr
 | .bx t,_,_,_,_,_,h,hr=>se (t:= .bx t) (fun _ e=>by cases e) rfl h hr
 | .own t,o,cs,x,r,vs,h,hr=>by
  simp only [impl] at h;cases cs with
  |nil=>simp [c9] at h
  |cons c cs=>
   cases vs with
   |nil=>exact hr.elim
   |cons v vs=>
    simp only [c9] at h;split at h;rename_i y hy;injection h with h;injection h with e1 e2;subst e1;subst e2;refine ⟨[v],vs,rfl,?_,hr.2⟩;cases c<;>simp only [eE] at hy<;>first|cases hy|skip
    rename_i t' q;split at hy;rename_i e;subst e;injection hy with hy;subst hy;exact hr.1;cases hy;cases h
 | .st t,_,_,_,_,_,h,hr=>Ci t h hr
 | .pair a b,o,cs,x,r,vs,h,hr=>by
  simp only [impl] at h;split at h;rename_i y r1 h1;split at h;rename_i z r2 h2;injection h with h;injection h with e1 e2;subst e1;subst e2;obtain ⟨v1,v2,rfl,k1,k2⟩:=Ci a h1 hr;obtain ⟨v3,v4,rfl,k3,k4⟩:=Ci b h2 k2;refine ⟨v1++v3,v4,by simp,⟨v1,v3,rfl,k1,k3⟩,?_⟩;rw [show o+(Ty.pair a b).size=o+a.size+b.size from by simp only [Ty.size];omega];exact k4;cases h;cases h
end
theorem F5 {arr aG:Array Value}{DJ vs:List Value}{i sz off n:Nat}(hl:DJ.length=sz)(HX: ∀j v,DJ[j]? =some v→arr[i*sz+j]? =some v)(hvn:vs.length=n)(hle:off+n≤sz)(iU:i*sz+sz≤arr.size)(k2:aG.toList=arr.toList.take (i*sz+off)++vs++arr.toList.drop (i*sz+off+n)): ∀j v,(DJ.take off++vs++DJ.drop (off+n))[j]? =some v→aG[i*sz+j]? =some v:=by
 intro j v hv;have hj:j<sz:=by
  have:=(List.getElem?_eq_some_iff.1 hv).1;simp at this;omega
 have hold: ∀j,j<sz→arr.toList[i*sz+j]? =DJ[j]? :=fun j hj=>by
  rw [List.getElem?_eq_getElem (by omega:j<DJ.length),Array.getElem?_toList];exact HX j _ (List.getElem?_eq_getElem (by omega))
 rw [←Array.getElem?_toList,k2,←hv];by_cases h1:j<off;rw [List.append_assoc,List.getElem?_append_left (by simp;omega),List.getElem?_take,if_pos (by omega),List.append_assoc,List.getElem?_append_left (by simp;omega),List.getElem?_take,if_pos h1];exact hold j hj;by_cases h2:j<off+n;rw [List.append_assoc,List.getElem?_append_right (by simp;omega),List.getElem?_append_left (by simp;omega),List.append_assoc,List.getElem?_append_right (by simp;omega),List.getElem?_append_left (by simp;omega)]
 congr 1
 simp;omega;rw [List.getElem?_append_right (by simp;omega),List.getElem?_append_right (by simp;omega),List.getElem?_drop,List.getElem?_drop];simp only [List.length_append,List.length_take,Array.length_toList,hvn];rw [show i*sz+off+n+(i*sz+j - (min (i*sz+off) arr.size+n))=i*sz+j by omega,show off+n+(j - (min off DJ.length+n))=j by omega];exact hold j hj
theorem Cj {arr aG:Array Value}{vs:List Value}{i sz off n:Nat}(hvn:vs.length=n)(hle:off+n≤sz)(iU:i*sz+sz≤arr.size)(k2:aG.toList=arr.toList.take (i*sz+off)++vs++arr.toList.drop (i*sz+off+n)){q:Nat}(hq:q≠i){j:Nat}(hj:j<sz):aG[q*sz+j]? =arr[q*sz+j]? :=by
 rw [←Array.getElem?_toList,←Array.getElem?_toList,k2];by_cases cp:q<i;have:(q+1)*sz≤i*sz:=Nat.mul_le_mul_right _ (by omega);rw [Nat.add_mul] at this;rw [List.append_assoc,List.getElem?_append_left (by simp;omega),List.getElem?_take,if_pos (by omega)];have:(i+1)*sz≤q*sz:=Nat.mul_le_mul_right _ (by omega);rw [Nat.add_mul] at this;rw [List.getElem?_append_right (by simp;omega),List.getElem?_drop]
 congr 1
 simp;omega
theorem F6 {arr:Array Value}{es:List Value}{i sz:Nat}(hz:0<sz)(hl:es.length=sz)(hc: ∀j v,es[j]? =some v→arr[i*sz+j]? =some v):i*sz+sz≤arr.size:=by
 have:=hc (sz - 1) es[sz - 1] (List.getElem?_eq_getElem (by omega));have:=(Array.getElem?_eq_some_iff.1 this).1;omega
theorem si {t t':Ty}{xs:List t.D}{cK:List t'.D}(h:(Chunk.seq t xs).yj t' cK): ∃e:t=t',e▸xs=cK:=by
 rcases h with h|⟨_,_,_,h⟩
 injection h with e1 e2;subst e1;exact ⟨rfl,eq_of_heq e2⟩;cases h
theorem kH {m:Mem}{t:Ty}{cs:List aA}{x:t.D}{r:List aA}(h:c9 m t cs=some (x,r)):r=cs.drop 1:=by
 cases cs with
 |nil=>simp [c9] at h
 |cons c cs=>
  simp only [c9] at h;split at h;injection h with h;injection h with _ h;exact h.symm
  cases h
theorem sj {m:Mem}: ∀(t:Ty) {cs:List aA} {x:t.D} {r:List aA},impl m t cs=some (x,r)→r=cs.drop t.size
 | .int k,_,_,_,h=>kH (t:= .int k) h
 | .aW k,_,_,_,h=>kH (t:= .aW k) h
 | .bool,_,_,_,h=>kH (t:= .bool) h
 | .str,_,_,_,h=>kH (t:= .str) h
 | .sl t,_,_,_,h=>kH (t:= .sl t) h
 | .bx t,_,_,_,h=>kH (t:= .bx t) h
 | .own t,_,_,_,h=>kH (t:= .own t) h
 | .st t,_,_,_,h=>sj t h
 | .pair a b,cs,x,r,h=>by
  simp only [impl] at h;split at h;rename_i y r1 h1;split at h;rename_i z r2 h2;injection h with h;injection h with _ e2;subst e2;rw [sj b h2,sj a h1,List.drop_drop];rfl;cases h;cases h
theorem sm: ∀(t:Ty) {cs:List aA} {x:t.D} {r:List aA} {o:Nat} {e:Ty} {ys:List e.D},impl [] t cs=some (x,r)→eP t x o=some ⟨e,ys⟩→cs[o]? =some (.aw (.own e) ys)
 | .int _,_,_,_,_,_,_,_,hs=>by cases hs
 | .aW _,_,_,_,_,_,_,_,hs=>by cases hs
 | .bool,_,_,_,_,_,_,_,hs=>by cases hs
 | .str,_,_,_,_,_,_,_,hs=>by cases hs
 | .sl _,_,_,_,_,_,_,_,hs=>by cases hs
 | .bx _,_,_,_,_,_,_,_,hs=>by cases hs
 | .st t,_,x,_,_,_,_,h,hs=>sm t (x:=x) h hs
 | .own t,cs,x,r,o,e,ys,h,hs=>by
  cases o with
  |succ o=>cases hs
  |zero=>
   have hs:some (⟨t,x⟩:Σ e:Ty,List e.D)=some ⟨e,ys⟩:=hs;injection hs with hs;injection hs with h1 h2;subst h1;have h2:=eq_of_heq h2;subst h2;simp only [impl] at h;cases cs with
   |nil=>simp [c9] at h
   |cons c cs=>
    simp only [c9] at h;split at h;rename_i y hy;injection h with h;injection h with e1 _;subst e1;cases c<;>simp only [eE] at hy<;>first|cases hy|skip
    rename_i t' q;split at hy;rename_i e;subst e;injection hy with hy;subst hy;rfl;cases hy;cases h
 | .pair a b,cs,x,r,o,e,ys,h,hs=>by
  simp only [impl] at h;split at h;rename_i y r1 h1;split at h;rename_i z r2 h2;injection h with h;injection h with e1 e2;subst e1;unfold eP at hs;by_cases hb:o<a.size;rw [nu.2 hb] at hs;exact sm a h1 hs;rw [kX hb] at hs;have:=sm b h2 hs;rw [sj a h1,List.getElem?_drop,show a.size+(o - a.size)=o from by omega] at this;exact this;cases h;cases h
theorem so: ∀(t:Ty) {x:t.D} {o:Nat} {e:Ty} {ys:List e.D},(ib t x)[o]? =some (.aw (.own e) ys)→eP t x o=some ⟨e,ys⟩
 | .int _,x,o,e,ys,h=>by cases o<;>simp [ib] at h
 | .aW _,x,o,e,ys,h=>by cases o<;>simp [ib] at h
 | .bool,x,o,e,ys,h=>by cases o<;>simp [ib] at h
 | .str,x,o,e,ys,h=>by cases o<;>simp [ib] at h
 | .sl _,x,o,e,ys,h=>by cases o<;>simp [ib] at h
 | .bx _,x,o,e,ys,h=>by cases o<;>simp [ib] at h
 | .st t,x,o,e,ys,h=>so t (x:=x) h
 | .own t,x,o,e,ys,h=>by
  cases o with
  |succ o=>simp [ib] at h
  |zero=>
   simp only [ib,List.getElem?_cons_zero] at h;injection h with h;injection h with h1 h2;injection h1 with h1;subst h1;have h2:=eq_of_heq h2;subst h2;rfl
 | .pair a b,x,o,e,ys,h=>by
  unfold eP;simp only [ib] at h;by_cases hb:o<a.size;rw [nu.2 hb];rw [List.getElem?_append_left (by rw [ly];exact hb)] at h;exact so a h;rw [kX hb];rw [List.getElem?_append_right (by rw [ly];omega),ly] at h;exact so b h
theorem F7 {t:Ty}{x0 x:t.D}{cs:List aA}{off:Nat}(hf:cs.all aA.Ka=true)(hle:off+cs.length≤t.size)(h:impl [] t ((ib t x0).take off++cs++(ib t x0).drop (off+cs.length))=some (x,[])){o:Nat}{e:Ty}{ys:List e.D}(hs:eP t x o=some ⟨e,ys⟩):
 eP t x0 o=some ⟨e,ys⟩:=by
 have:=sm t h hs;apply so;have hl:=ly t x0;by_cases h1:o<off;rw [List.append_assoc,List.getElem?_append_left (by simp;omega),List.getElem?_take,if_pos h1] at this;exact this;by_cases h2:o<off+cs.length;rw [List.append_assoc,List.getElem?_append_right (by simp;omega),List.getElem?_append_left (by simp;omega)] at this;have:=List.all_eq_true.1 hf _ (List.mem_of_getElem? this);cases this;rw [List.getElem?_append_right (by simp;omega),List.getElem?_drop] at this;simp only [List.length_append,List.length_take,hl] at this;rw [show off+cs.length+(o - (min off t.size+cs.length))=o from by omega] at this;exact this
theorem cW.D4 {S S':Nat→Prop}{w w':World}(h: ∀b,S b→S' b∧w'.heap[b]? =w.heap[b]?): ∀(t:Ty) {γ:List Nat→Option Nat} {o:Nat} {cs:List Value} {x:t.D},
 (∀q p b,o≤q→q<o+t.size→γ (q::p)=some b→w'.heap[b]? =w.heap[b]?)→cW S w t γ o cs x→cW S' w' t γ o cs x
 | .own t,γ,o,cs,xs,hγ,⟨v,e,ha,hr⟩=>by
  have hγ:=fun p b=>hγ o p b (Nat.le_refl _) (by simp [Ty.size]);refine ⟨v,e,ha.stays fun b arr hg hb=>⟨arr,hb.keep (hγ _ b hg),rfl⟩,?_⟩;cases hg:γ [o] with
  |none=>rw [hg] at hr;exact hr
  |some b=>
   rw [hg] at hr;obtain ⟨arr,hb,hi⟩:=hr;exact ⟨arr,hb.keep (hγ _ b hg),fun i hl=>let ⟨es,h1,h2⟩:=hi i hl;⟨es,h1,cW.keep h t (fun p b hp=>hγ _ b hp) h2⟩⟩
 | .pair a b,γ,o,cs,x,hγ,⟨c1,c2,e,h1,h2⟩=>⟨c1,c2,e,cW.D4 h a (fun q p b' h1 h2=>hγ q p b' h1 (by simp only [Ty.size];omega)) h1,cW.D4 h b (fun q p b' h1 h2=>hγ q p b' (by omega) (by simp only [Ty.size];omega)) h2⟩
 | .st t,γ,o,cs,x,hγ,hr=>cW.D4 h t (o:=o) (cs:=cs) (x:=x) hγ hr
 | .int k,_,_,cs,x,_,hr=>bO.keep h (.int k) cs x hr
 | .aW k,_,_,cs,x,_,hr=>bO.keep h (.aW k) cs x hr
 | .bool,_,_,cs,x,_,hr=>bO.keep h .bool cs x hr
 | .str,_,_,cs,x,_,hr=>bO.keep h .str cs x hr
 | .sl t,_,_,cs,x,_,hr=>bO.keep h (.sl t) cs x hr
 | .bx t,_,_,cs,x,_,hr=>bO.keep h (.bx t) cs x hr
theorem cW.put {S S':Nat→Prop}{w w':World}(h: ∀b,S b→S' b∧w'.heap[b]? =w.heap[b]?): ∀(t:Ty) {γ:List Nat→Option Nat} {o0 o:Nat} {cs:List Value} {x:t.D} {e:Ty} {ys vq:List e.D},
 cW S w t γ o0 cs x→eP t x o=some ⟨e,ys⟩→(∀q p b,q≠o0+o→γ (q::p)=some b→w'.heap[b]? =w.heap[b]?)→
 (∀u,cW S w (.own e) γ (o0+o) [u] ys→cW S' w' (.own e) γ (o0+o) [u] vq)→cW S' w' t γ o0 cs (vu t x o e vq)
 | .own t,γ,o0,o,cs,xs,e,ys,vq,hr,hs,hγ,hn=>by
  cases o with
  |succ o=>cases hs
  |zero=>
   have hs:some (⟨t,xs⟩:Σ e:Ty,List e.D)=some ⟨e,ys⟩:=hs;injection hs with hs;injection hs with h1 h2;subst h1;have h2:=eq_of_heq h2;subst h2;have hp:vu (.own t) xs 0 t vq=vq:=by simp [vu,cJ]
   rw [hp];obtain ⟨v,e,h3⟩:=hr;subst e;exact hn v ⟨v,rfl,h3⟩
 | .pair a b,γ,o0,o,cs,x,e,ys,vq,⟨c1,c2,ec,h1,h2⟩,hs,hγ,hn=>by
  unfold eP at hs;unfold vu;by_cases hb:o<a.size;rw [nu.2 hb] at hs⊢;exact ⟨c1,c2,ec,cW.put h a h1 hs hγ hn,cW.D4 h b (fun q p b' k1 k2 hp=>hγ q p b' (by omega) hp) h2⟩;rw [kX hb] at hs⊢;refine ⟨c1,c2,ec,cW.D4 h a (fun q p b' k1 k2 hp=>hγ q p b' (by omega) hp) h1,cW.put h b h2 hs (fun q p b' k hp=>hγ q p b' (by omega) hp) ?_⟩;rw [show o0+a.size+(o - a.size)=o0+o from by omega];exact hn
 | .st t,γ,o0,o,cs,x,e,ys,vq,hr,hs,hγ,hn=>cW.put h t (cs:=cs) (x:=x) hr hs hγ hn
 | .int _,_,_,_,_,_,_,_,_,_,hs,_,_=>by cases hs
 | .aW _,_,_,_,_,_,_,_,_,_,hs,_,_=>by cases hs
 | .bool,_,_,_,_,_,_,_,_,_,hs,_,_=>by cases hs
 | .str,_,_,_,_,_,_,_,_,_,hs,_,_=>by cases hs
 | .sl _,_,_,_,_,_,_,_,_,_,hs,_,_=>by cases hs
 | .bx _,_,_,_,_,_,_,_,_,_,hs,_,_=>by cases hs
theorem su: ∀(t:Ty) {x:t.D} {o o':Nat} {e e':Ty} {ys vq:List e.D} {zs:List e'.D},eP t x o=some ⟨e,ys⟩→vq.length=ys.length→eP t (vu t x o e vq) o'=some ⟨e',zs⟩→
 ∃zs0,eP t x o'=some ⟨e',zs0⟩∧zs0.length=zs.length
 | .own t,x,o,o',e,e',ys,vq,zs,hs,hl,h=>by
  cases o with
  |succ o=>cases hs
  |zero=>
   cases o' with
   |succ o'=>cases h
   |zero=>
    have hs:some (⟨t,x⟩:Σ e:Ty,List e.D)=some ⟨e,ys⟩:=hs;injection hs with hs;injection hs with h1 h2;subst h1;have h2:=eq_of_heq h2;subst h2;have hp:vu (.own t) x 0 t vq=vq:=by simp [vu,cJ]
    rw [hp] at h;have h:some (⟨t,vq⟩:Σ e:Ty,List e.D)=some ⟨e',zs⟩:=h;injection h with h;injection h with h1 h2;subst h1;have h2:=eq_of_heq h2;subst h2;exact ⟨x,rfl,hl.symm⟩
 | .pair a b,x,o,o',e,e',ys,vq,zs,hs,hl,h=>by
  unfold eP at hs h⊢;unfold vu at h;by_cases hb:o<a.size;rw [nu.2 hb] at hs h;by_cases jS:o'<a.size;rw [nu.2 jS] at h⊢;exact su a hs hl h;rw [kX jS] at h⊢;exact ⟨zs,h,rfl⟩;rw [kX hb] at hs h;by_cases jS:o'<a.size;rw [nu.2 jS] at h⊢;exact ⟨zs,h,rfl⟩;rw [kX jS] at h⊢;exact su b hs hl h
 | .st t,x,o,o',e,e',ys,vq,zs,hs,hl,h=>su t (x:=x) hs hl h
 | .int _,_,_,_,_,_,_,_,_,hs,_,_=>by cases hs
 | .aW _,_,_,_,_,_,_,_,_,hs,_,_=>by cases hs
 | .bool,_,_,_,_,_,_,_,_,hs,_,_=>by cases hs
 | .str,_,_,_,_,_,_,_,_,hs,_,_=>by cases hs
 | .sl _,_,_,_,_,_,_,_,_,hs,_,_=>by cases hs
 | .bx _,_,_,_,_,_,_,_,_,hs,_,_=>by cases hs
theorem uz {T:TypeId}{x v:aD}{e:cf}{xa va:Value}(h:cX cx g st a w)(he:pS cx.P st.mem T x v=some e)(hc:bB e.cond)(hx:VR g st.mem (cx.safe g st.mem w) w x xa)(hv:VR g st.mem (cx.safe g st.mem w) w v va):D3 cx st a w (Instr.storeAt T xa va) e:=by
 unfold pS at he;split at he;rename_i c off n hs;split at he;rename_i cs hl;cases hb:((Nat.beq v.cells.length n&&Nat.ble (off+n) cs.length)&&v.ok) with
 |false=>simp [hb] at he
 |true=>
  rw [hb] at he;simp only [cond_true] at he;simp only [Bool.and_eq_true] at hb;obtain ⟨⟨hn,hle⟩,jT⟩:=hb;have hn:=bG hn;have hle:=iT hle;injection he with he;subst he;obtain ⟨_,b',jl,Ql⟩:=hx;subst Ql;obtain ⟨b,arr,hg,de,bF⟩:=h.mem c _ hl;have jl:g.f c []=some b':=jl;rw [hg] at jl;injection jl with jl;subst jl;obtain ⟨vs,AD,kG⟩:=jB jT hv;have W7:=kG.length;have my:=bF.length;simp only [Array.length_toList] at my;obtain ⟨w',aG,jX,k1,k2,k3,k4⟩:=lx (P:=cx.P) (o:=off) hs de (v:=va) (by rw [AD];omega) (by omega) (pW jT hv);have q:Km g st w w' c b [] (.box cs) (.box (cs.take off++v.cells++cs.drop (off+n))):=
   ⟨hl,trivial,hg,k3,⟨arr,aG,de,k1,k4⟩,fun _ _=>trivial,by simp,fun t xs e=>(by rcases e with e|⟨_,_,_,e⟩<;>cases e),fun t xs e=>(by cases e)⟩
  refine ⟨w',jX,g,?_,trivial⟩;refine h.qN q ⟨b,aG,hg,k1,?_⟩;rw [k2,AD];exact (((bF.take off).append kG).append (bF.drop _)).mono fun _ _=>CR.stays q.stays
 cases he;rename_i c i sz off n hs;split at he;rename_i t xs hl;cases hb:((Nat.beq v.cells.length n&&Nat.ble (off+n) t.size)&&(Nat.beq sz t.size&&v.ok)&&v.cells.all aA.Ka) with
 |false=>simp [hb] at he
 |true=>
  rw [hb] at he;simp only [cond_true] at he;simp only [Bool.and_eq_true] at hb;obtain ⟨⟨⟨hn,hle⟩,hz,jT⟩,Pr⟩:=hb;have hn:=bG hn;have hle:=iT hle;have hz:=bG hz;split at he;rename_i x Wb;injection he with he;subst he;have hi:i<xs.length:=hc.1;obtain ⟨_,b,jl,Ql⟩:=hx;subst Ql;have cH:=h.mem c _ hl;have hg:g.f c []=some b:=jl;unfold jf at cH;rw [hg] at cH;obtain ⟨arr,de,gF⟩:=cH;obtain ⟨DJ,vB,HX,S4⟩:=gF.at_ hi;obtain ⟨vs,AD,kG⟩:=jB jT hv;have W7:=kG.length;have D5:=Ch (g:=g) (m:=st.mem) t S4;have hE:mb g st.mem (cx.safe g st.mem w) w (fun p=>g.f c (i::p)) 0 ((ib t (xs.getD i t.ga)).take off++v.cells++(ib t (xs.getD i t.ga)).drop (off+n)) (DJ.take off++vs++DJ.drop (off+n)):=by
   refine ((D5.take off).append (mb.HW Pr kG)).append ?_;have:=D5.drop (off+n);rw [show 0+(List.take off (ib t (xs.getD i t.ga))++v.cells).length=0+(off+n) from by simp [ly,hn];omega];exact this
  obtain ⟨cs,v2,TF,cN,mU⟩:=Ci t Wb hE;have:v2=[]:=by cases v2 with|nil=>rfl|cons=>exact mU.elim
  subst this;rw [List.append_nil] at TF;have iU:=F6 t.size_pos vB HX;subst hz;obtain ⟨w',aG,jX,k1,k2,k3,k4⟩:=lx (P:=cx.P) (o:=i*t.size+off) hs de (v:=va) (by rw [AD];omega) (by omega) (pW jT hv);rw [AD] at k2;have q:Km g st w w' c b [] (.seq t xs) (.seq t (xs.set i x)):=
   ⟨hl,trivial,hg,k3,⟨arr,aG,de,k1,k4⟩,fun _ _=>trivial,by simp,fun t' cK e=>by
    obtain ⟨e,e2⟩:=si e;subst e;subst e2;exact ⟨xs,.inl rfl,by simp⟩,fun t' cK e=>by
    injection e with e1 e2;subst e1;have e2:=eq_of_heq e2;subst e2;refine ⟨xs,rfl,by simp,fun q o e vq hs'=> ?_⟩;by_cases F8:q=i;subst F8;rw [show (xs.set q x).getD q t.ga=x from by simp [List.getD,hi]] at hs';exact ⟨vq,F7 Pr (by rw [hn];exact hle) (by rw [hn];exact Wb) hs',rfl⟩;rw [show (xs.set i x).getD q t.ga=xs.getD q t.ga from by simp [List.getD,List.getElem?_set_ne (fun e=>F8 e.symm)]] at hs';exact ⟨vq,hs',rfl⟩⟩
  refine ⟨w',jX,g,?_,trivial⟩;refine h.qN q ?_;unfold jf;rw [hg];have eU: ∀p b',g.f c (p)=some b'→p≠[]→w'.heap[b']? =w.heap[b']? :=fun p b' hp jg=>by
   refine k3.block b' (h.lt c p _ b' hl trivial hp) ?_;intro hm;simp at hm;subst hm;exact jg (h.jU c c p [] _ _ b' hl trivial hl trivial hp hg).2
  refine ⟨aG,k1,fun qq hq=> ?_⟩;have yB:qq<xs.length:=by simpa using hq
  by_cases F8:qq=i;subst F8;refine ⟨cs,?_,?_⟩;rw [←TF];exact F5 vB HX (by omega) hle iU k2;rw [List.getElem_set_self];exact cW.keep q.stays.safe t (fun p b' hp=>eU _ b' hp (by simp)) cN;obtain ⟨es,e1,e2⟩:=gF qq yB;have Tv:=cW.len t e2;refine ⟨es,fun j u hu=> ?_,by rw [List.getElem_set_ne (fun e=>F8 e.symm)];exact cW.keep q.stays.safe t (fun p b' hp=>eU _ b' hp (by simp)) e2⟩;rw [Cj (by omega) hle iU k2 F8 (by rw [←Tv];exact (List.getElem?_eq_some_iff.1 hu).1)];exact e1 j u hu;cases he
 rename_i t xs jj l9 ks hl;cases hb:((Nat.beq v.cells.length n&&Nat.ble (off+n) t.size)&&(Nat.beq sz t.size&&v.ok)) with
 |false=>simp [hb] at he
 |true=>
  rw [hb] at he;simp only [cond_true] at he;simp only [Bool.and_eq_true] at hb;obtain ⟨⟨hn,hle⟩,hz,jT⟩:=hb;have hn:=bG hn;have hle:=iT hle;have hz:=bG hz;injection he with he;subst he;have Bi:i=jj:=hc.1;subst Bi;obtain ⟨_,b',jl,Ql⟩:=hx;subst Ql;obtain ⟨HK,b,arr,hg,de,hi,NK,DJ,vB,HX,bF⟩:=h.mem c _ hl;have jl:g.f c []=some b':=jl;rw [hg] at jl;injection jl with jl;subst jl;obtain ⟨vs,AD,kG⟩:=jB jT hv;have W7:=kG.length;have my:=bF.length;have iU:=F6 t.size_pos vB HX;subst hz;obtain ⟨w',aG,jX,k1,k2,k3,k4⟩:=lx (P:=cx.P) (o:=i*t.size+off) hs de (v:=va) (by rw [AD];omega) (by omega) (pW jT hv);rw [AD] at k2;have hon:(Chunk.o8 t xs i l9 ks).owns []:=by intro o r e;cases e
  have q:Km g st w w' c b [] (.o8 t xs i l9 ks) (.o8 t xs i (l9.take off++v.cells++l9.drop (off+n)) ks):=
   ⟨hl,hon,hg,k3,⟨arr,aG,de,k1,k4⟩,fun _ hp=>hp,by simp,fun t' cK e=>(by
    rcases e with e|⟨_,_,_,e⟩
    cases e;injection e with e1 e2;subst e1;have e2:=eq_of_heq e2;subst e2;exact ⟨xs,.inr ⟨_,_,_,rfl⟩,rfl⟩),fun t' cK e=>(by cases e)⟩
  refine ⟨w',jX,g,?_,trivial⟩;refine h.qN q ?_;have eU: ∀j p b',j≠i→g.f c (j::p)=some b'→w'.heap[b']? =w.heap[b']? :=fun j p b' jg hp=>by
   have ho:(Chunk.o8 t xs i l9 ks).owns (j::p):=by intro o r e;injection e with e;exact absurd e jg
   refine k3.block b' (h.lt c _ _ b' hl ho hp) ?_;intro hm;simp at hm;subst hm;have:=(h.jU c c _ _ _ _ b' hl ho hl hon hp hg).2;cases this
  refine ⟨HK.mono fun o k hk=>⟨(q.stays (cx:=cx)).tq k hk.1 |>.1,hk.2⟩,b,aG,hg,k1,hi,fun j hj jg=> ?_,DJ.take off++vs++DJ.drop (off+n),?_,?_,?_⟩;obtain ⟨es,e1,e2⟩:=NK j hj jg;have Tv:=cW.len t e2;refine ⟨es,fun p u hu=> ?_,cW.keep q.stays.safe t (fun p b' hp=>eU j p b' jg hp) e2⟩;rw [Cj (by omega) hle iU k2 jg (by rw [←Tv];exact (List.getElem?_eq_some_iff.1 hu).1)];exact e1 p u hu;simp;omega;exact F5 vB HX (by omega) hle iU k2;exact (((bF.take off).append kG).append (bF.drop _)).mono fun _ _=>CR.stays q.stays
 cases he;rename_i c i o j sz off n hs;split at he;rename_i t xs hl;split at he;rename_i e ys DH;cases hb:((Nat.beq v.cells.length n&&Nat.ble (off+n) e.size)&&(Nat.beq sz e.size&&v.ok)&&e.top) with
 |false=>simp [hb] at he
 |true=>
  rw [hb] at he;simp only [cond_true] at he;simp only [Bool.and_eq_true] at hb;obtain ⟨⟨⟨hn,hle⟩,hz,jT⟩,pf⟩:=hb;have hn:=bG hn;have hle:=iT hle;have hz:=bG hz;split at he;rename_i y Wb;injection he with he;subst he;have hj:j<ys.length:=hc.1;obtain ⟨_,b,Ql,Qm⟩:=hx;subst Ql;obtain ⟨hi,hg⟩:=Qm t xs hl;have Pq:=rW h.mem hl hi DH;rw [hg] at Pq;obtain ⟨arr,de,gF⟩:=Pq;obtain ⟨DJ,HX,S4⟩:=gF j hj;have vB:=cW.len e S4;have W8:bO (cx.safe g st.mem w) w e DJ (ys.getD j e.ga):=by rw [getD_eq hj];exact cW.rep e pf S4
  obtain ⟨vs,AD,kG⟩:=jB jT hv;have W7:=kG.length;have D5:bC (CR g st.mem (cx.safe g st.mem w) w) (ib e (ys.getD j e.ga)) DJ:=lq e W8;obtain ⟨cs,v2,TF,cN,mU⟩:=jm (S2:=cx.safe g st.mem w) (fun _ h=>h) iZ.nil e Wb (((D5.take off).append kG).append (D5.drop (off+n)));have:v2=[]:=by cases v2 with|nil=>rfl|cons=>exact mU.elim
  subst this;rw [List.append_nil] at TF;have iU:=F6 e.size_pos vB HX;subst hz;obtain ⟨w',aG,jX,k1,k2,k3,k4⟩:=lx (P:=cx.P) (o:=j*e.size+off) hs de (v:=va) (by rw [AD];omega) (by omega) (pW jT hv);rw [AD] at k2;have q:Km g st w w' c b [i,o] (.seq t xs) (.seq t (xs.set i (vu t (xs.getD i t.ga) o e (ys.set j y)))):=
   ⟨hl,trivial,hg,k3,⟨arr,aG,de,k1,k4⟩,fun _ _=>trivial,by simp,fun t' cK e=>(by
    obtain ⟨e,e2⟩:=si e;subst e;subst e2;exact ⟨xs,.inl rfl,by simp⟩),fun t' cK e=>(by
    injection e with e1 e2;subst e1;have e2:=eq_of_heq e2;subst e2;refine ⟨xs,rfl,by simp,fun q o' e' vq hs'=> ?_⟩;by_cases F8:q=i;subst F8;rw [show∀z,(xs.set q z).getD q t.ga=z from fun z=>by simp [List.getD,hi]] at hs';exact su t DH (by simp) hs';rw [show∀z,(xs.set i z).getD q t.ga=xs.getD q t.ga from fun z=>by simp [List.getD,List.getElem?_set_ne (fun e=>F8 e.symm)]] at hs';exact ⟨vq,hs',rfl⟩)⟩
  refine ⟨w',jX,g,?_,trivial⟩;refine h.qN q ?_;have eU: ∀p b',g.f c p=some b'→p≠[i,o]→w'.heap[b']? =w.heap[b']? :=fun p b' hp jg=>by
   refine k3.block b' (h.lt c p _ b' hl trivial hp) ?_;intro hm;simp at hm;subst hm;exact jg (h.jU c c p [i,o] _ _ b' hl trivial hl trivial hp hg).2
  have kF:=(q.stays (cx:=cx)).safe;have cH:=h.mem c _ hl;unfold jf at cH⊢;cases D2:g.f c [] with
  |none=>rw [D2] at cH;have W9:xs=[]:=cH;subst W9;simp at hi
  |some b0=>
   rw [D2] at cH;obtain ⟨vv,Kn,TG⟩:=cH;refine ⟨vv,Kn.keep (eU [] b0 D2 (by simp)),fun qq hq=> ?_⟩;have yB:qq<xs.length:=by simpa using hq
   obtain ⟨es,e1,e2⟩:=TG qq yB;refine ⟨es,e1,?_⟩;by_cases F8:qq=i;subst F8;rw [List.getElem_set_self];have hd:xs.getD qq t.ga=xs[qq]:=getD_eq yB;rw [←hd] at e2;refine cW.put kF t e2 DH (fun r p b' hr hp=>eU _ b' hp (by intro e;injection e with _ e;injection e with e _;omega)) fun u hu=> ?_;rw [Nat.zero_add] at hu⊢;obtain ⟨v1,ev,ha,_⟩:=hu;refine ⟨v1,ev,?_,?_⟩;rw [List.length_set];exact ha.stays fun b' arr1 _ jS=>q.dc jS;have xK:(fun p=>g.f c (qq::p)) [o]=some b:=hg;rw [xK];refine ⟨aG,k1,fun j' J0=> ?_⟩;have Ko:j'<ys.length:=by simpa using J0
   by_cases Xa:j'=j;subst Xa;refine ⟨cs,?_,?_⟩;rw [←TF];exact F5 vB HX (by omega) hle iU k2;rw [List.getElem_set_self];exact cW.qP e pf (bO.keep kF e cs y cN);obtain ⟨es1,d1,d2⟩:=gF j' Ko;have Xb:=cW.len e d2;refine ⟨es1,fun p u' J2=> ?_,?_⟩;rw [Cj (by omega) hle iU k2 Xa (by rw [←Xb];exact (List.getElem?_eq_some_iff.1 J2).1)];exact d1 p u' J2;rw [List.getElem_set_ne (fun e=>Xa e.symm)];exact cW.qP e pf (bO.keep kF e es1 _ (cW.rep e pf d2));rw [List.getElem_set_ne (fun e=>F8 e.symm)];exact cW.keep kF t (fun p b' hp=>eU _ b' hp (by intro e;injection e with e _;exact F8 e)) e2
  cases he
 cases he;cases he;cases he
end
end Go.Ide
namespace Go.Ide
def yC (A:List (List Nat→Option Nat))(F:List Nat):Prop:= ∀b,b∈F↔ ∃γ,γ∈A∧ ∃p,γ p=some b
def pY (A:List (List Nat→Option Nat)):Prop:=
 A.Pairwise (fun γ γ'=> ∀p q b,γ p=some b→γ' q=some b→False)∧ ∀γ,γ∈A→ ∀p q b,γ p=some b→γ q=some b→p=q
def TH (S:Nat→Prop)(w:World)(t:Ty)(v:Value)(xs:List t.D)(γ:List Nat→Option Nat):Prop:=
 ∃b cap arr,γ []=some b∧v= .slice (some ⟨b,0,none⟩) xs.length cap∧xs.length≤cap∧0<cap∧dc w b arr∧cap*t.size≤arr.size∧cap≤maxLen∧fm S w γ t xs arr
def gw (S:Nat→Prop)(w:World)(t:Ty)(cs:List Value)(xs:List t.D)(A:List (List Nat→Option Nat)):Prop:=
 (A=[fun _=>none]∧xs=[]∧ ∃a,cs=[.slice a 0 0])∨ ∃v γ,A=[γ]∧cs=[v]∧TH S w t v xs γ
def Bm (S:Nat→Prop)(w:World)(t:Ty)(cs:List Value)(xs:List t.D)(A:List (List Nat→Option Nat)):Prop:=
 ∃γ b arr,A=[γ]∧cs=[.pointer (some ⟨b,0,none⟩)]∧γ []=some b∧dc w b arr∧fm S w γ t xs arr
def du (S:Nat→Prop)(w:World):(t:Ty)→List Value→t.D→List (List Nat→Option Nat)→Prop
 | .pair a b,cs,x,A=> ∃c1 c2 A1 A2,cs=c1++c2∧A=A1++A2∧du S w a c1 x.1 A1∧du S w b c2 x.2 A2
 | .st t,cs,x,A=>du S w t cs x A
 | .sl t,cs,xs,A=>gw S w t cs xs A
 | .own t,cs,xs,A=>gw S w t cs xs A
 | .bx t,cs,xs,A=>Bm S w t cs xs A
 | .int k,cs,x,A=>A=[]∧bO S w (.int k) cs x
 | .aW k,cs,x,A=>A=[]∧bO S w (.aW k) cs x
 | .bool,cs,x,A=>A=[]∧bO S w .bool cs x
 | .str,cs,x,A=>A=[]∧bO S w .str cs x
def tC:(t:Ty)→t.D→t.D→Prop
 | .pair a b,x,y=>tC a x.1 y.1∧tC b x.2 y.2
 | .st t,x,y=>tC t x y
 | .sl t,x,y=>cy t x y
 | .own t,x,y=>cy t x y
 | .bx t,x,y=>cy t x y
 | .int _,_,_=>True
 | .aW _,_,_=>True
 | .bool,_,_=>True
 | .str,_,_=>True
def IS (S:Nat→Prop)(w:World):Arg→Value→List (List Nat→Option Nat)→Prop
 | .an t x,v,A=>A=[]∧ ∃cs,dT t cs v∧bO S w t cs x
 | .jk t x,v,A=>A=[]∧ ∃(ad:Addr) (es:List Value),v= .pointer (some ad)∧S ad.block∧(∀j u,es[j]? =some u→w.cell? (ad.add j)=some u)∧bO S w t es x
 | .own t x,v,A=> ∃cs,dT t cs v∧du S w t cs x A
 | .mv t x,v,A=> ∃cs,dT t cs v∧du S w t cs x A
 | .fn f,v,A=>A=[]∧v= .func (.func f) #[] #[]
 | .nr f t x,v,A=>A=[]∧ ∃(ad:Addr) (es:List Value),v= .func (.func f) #[] #[.pointer (some ad)]∧S ad.block∧(∀j u,es[j]? =some u→w.cell? (ad.add j)=some u)∧bO S w t es x
 | .nl,v,A=>A=[]∧ ∃a,v= .slice a 0 0
def qC (S:Nat→Prop)(w:World):List Arg→List Value→List (List (List Nat→Option Nat))→Prop
 |[],[],[]=>True
 |a::as,v::vs,A::As=>IS S w a v A∧qC S w as vs As
 |_,_,_=>False
def i4 (S:Nat→Prop)(w:World):List Arg→List Value→List (List (List Nat→Option Nat))→List TD→Prop
 |[],[],[],[]=>True
 | .own t x::as,v::vs,A::As,o::os=>(∃(h:o.t=t) (cs:List Value),dT t cs v∧du S w t cs (cJ h o.x) A∧tC t x (cJ h o.x))∧i4 S w as vs As os
 | .an _ _::as,_::vs,_::As,os=>i4 S w as vs As os
 | .jk _ _::as,_::vs,_::As,os=>i4 S w as vs As os
 | .mv _ _::as,_::vs,_::As,os=>i4 S w as vs As os
 | .fn _::as,_::vs,_::As,os=>i4 S w as vs As os
 | .nr _ _ _::as,_::vs,_::As,os=>i4 S w as vs As os
 | .nl::as,_::vs,_::As,os=>i4 S w as vs As os
 |_,_,_,_=>False
def vE (b:Nat):List Arg→List (List (List Nat→Option Nat))→Prop
 | .mv _ _::as,A::As=>(∃γ,γ∈A∧ ∃p,γ p=some b)∨vE b as As
 |_::as,_::As=>vE b as As
 |_,_=>False
theorem vE.sub {b:Nat}: ∀{as:List Arg} {As:List (List (List Nat→Option Nat))},vE b as As→ ∃γ,γ∈As.flatten∧ ∃p,γ p=some b
 |[],_,h=>by simp [vE] at h
 |_::_,[],h=>by simp [vE] at h
 |a::as,A::As,h=>by
  have up:vE b as As→ ∃γ,γ∈(A::As).flatten∧ ∃p,γ p=some b:=fun h=>by
   obtain ⟨γ,h1,h2⟩:=vE.sub h;exact ⟨γ,by rw [List.flatten_cons];exact List.mem_append.2 (.inr h1),h2⟩
  cases a with
  |mv t x=>
   rcases h with ⟨γ,h1,h2⟩|h
   exact ⟨γ,by rw [List.flatten_cons];exact List.mem_append.2 (.inl h1),h2⟩;exact up h
  |_=>exact up h
def yD (S:Nat→Prop)(w:World)(r:RV)(v:Value)(A:List (List Nat→Option Nat)):Prop:=
 if r.fresh then∃cs,dT r.t cs v∧du S w r.t cs r.x A else A=[]∧ ∃cs,dT r.t cs v∧bO S w r.t cs r.x
def nv (S:Nat→Prop)(w:World):List RV→List Value→List (List Nat→Option Nat)→Prop
 |[],[],A=>A=[]
 |r::rs,v::vs,A=> ∃A1 A2,A=A1++A2∧yD S w r v A1∧nv S w rs vs A2
 |_,_,_=>False
def HY:List Value→Value→Prop
 |[u],v=>v=u
 |vs,v=>v= .tuple vs.toArray
def Kp (S:Nat→Prop)(w:World)(rs:List RV)(v:Value)(A:List (List Nat→Option Nat)):Prop:=
 ∃vs,nv S w rs vs A∧HY vs v
def Ck (P:Program)(f:FuncId):Prop:= ∃fn,P.funcs[f]? =some fn∧(fn.name=="runtime.NumGoroutine")=false∧fn.body.isNone=false
def kI (S:Nat→Prop)(w w':World)(F':List Nat)(b:Nat):Prop:=b<w'.heap.size∧(b<w.heap.size→S b)∧b ∉ F'
def CallOK (P:Program)(f:FuncId)(args:List Arg)(rs:List RV)(outs:List TD):Prop:=
 Ck P f∧ ∀(w:World) (S:Nat→Prop) (vals:List Value) (As:List (List (List Nat→Option Nat))) (F:List Nat),yC As.flatten F→pY As.flatten→
  (∀b,S b→b<w.heap.size∧b ∉ F)→(∀b,b∈F→b<w.heap.size)→qC S w args vals As→BZ.ok w S→
  Calls P f vals.toArray w fun e w'=> ∃v A' F',e= .returned v∧yC A' F'∧pY A'∧Kp (kI S w w' F') w' rs v A'∧(∀b,b∈F'→(w.heap.size≤b∨vE b args As)∧b<w'.heap.size)∧
   bJ F w w'∧i4 (kI S w w' F') w' args vals As outs
def iH (m:Mem):Mode→aD→Option Arg
 | .an t,v=>match lZ m t v with
  |some x=>some (.an t x)
  |none=>none
 | .own t,v=>match lZ m t v with
  |some x=>some (.own t x)
  |none=>none
 | .mv t,v=>match lZ m t v with
  |some x=>some (.mv t x)
  |none=>none
 | .jk t,.one (.ip t' x off)=>match impl m t (((ib t' x).drop off).take t.size) with
  |some (y,[])=>some (.jk t y)
  |_=>none
 | .fn,.one (.fn f)=>some (.fn f)
 | .nr t,.one (.nr f t' x)=>if h:t'=t then some (.nr f t (cJ h x)) else none
 | .nl,.one .al=>some .nl
 |_,_=>none
def ox (mp m:Mem):Mode→aD→Option Arg
 | .jk t,.one (.ptr c off)=>match lk c mp with
  |some (.box cs)=>(match impl m t ((cs.drop off).take t.size) with
   |some (y,[])=>some (.jk t y)
   |_=>none)
  |_=>none
 |md,v=>iH m md v
def dn (m mp m2:Mem):List Mode→List aD→Option (List Arg)
 |[],[]=>some []
 | .own t::ms,v::vs=>match iH m (.own t) v,dn m mp m2 ms vs with
  |some a,some as=>some (a::as)
  |_,_=>none
 | .mv t::ms,v::vs=>match iH m (.mv t) v,dn m mp m2 ms vs with
  |some a,some as=>some (a::as)
  |_,_=>none
 |md::ms,v::vs=>match ox mp m2 md v,dn m mp m2 ms vs with
  |some a,some as=>some (a::as)
  |_,_=>none
 |_,_=>none
def dK (m:Mem):List Mode→List aD→Option (List Nat)
 |[],[]=>some []
 | .own t::ms,v::vs=>match dJ m t v.cells,dK m ms vs with
  |some (ks,[]),some l=>some (ks++l)
  |_,_=>none
 | .mv t::ms,v::vs=>match dJ m t v.cells,dK m ms vs with
  |some (ks,[]),some l=>some (ks++l)
  |_,_=>none
 |_::ms,_::vs=>dK m ms vs
 |_,_=>none
def nS:(t:Ty)→List aA→t.D→Option (Mem×List aA)
 | .pair a b,cs,x=>match nS a cs x.1 with
  |some (u1,r)=>(match nS b r x.2 with
   |some (u2,r')=>some (u1++u2,r')
   |none=>none)
  |none=>none
 | .st t,cs,x=>nS t cs x
 | .sl t,cs,xs=>match cs with
  | .all c::r=>some ([(c,.seq t xs)],r)
  | .al::r=>some ([],r)
  |_=>none
 | .own t,cs,xs=>match cs with
  | .all c::r=>some ([(c,.seq t xs)],r)
  | .al::r=>some ([],r)
  |_=>none
 | .bx t,cs,xs=>match cs with
  | .dI c _ _ _::r=>some ([(c,.seq t xs)],r)
  |_=>none
 | .int _,cs,_=>match cs with
  | .aw _ _::r=>some ([],r)
  |_=>none
 | .aW _,cs,_=>match cs with
  | .aw _ _::r=>some ([],r)
  |_=>none
 | .bool,cs,_=>match cs with
  | .aw _ _::r=>some ([],r)
  |_=>none
 | .str,cs,_=>match cs with
  | .aw _ _::r=>some ([],r)
  |_=>none
def dQ:List Mode→List aD→List TD→Option Mem
 |[],[],[]=>some []
 | .own t::ms,v::vs,o::os=>if h:o.t=t then (match nS t v.cells (cJ h o.x),dQ ms vs os with
  |some (u,[]),some l=>some (u++l)
  |_,_=>none) else none
 | .mv t::ms,v::vs,os=>match lp t v.cells,dQ ms vs os with
  |some (ks,[]),some l=>some (ks.map (fun k=>(k,Chunk.gone))++l)
  |_,_=>none
 | .an _::ms,_::vs,os=>dQ ms vs os
 | .jk _::ms,_::vs,os=>dQ ms vs os
 | .fn::ms,_::vs,os=>dQ ms vs os
 | .nr _::ms,_::vs,os=>dQ ms vs os
 | .nl::ms,_::vs,os=>dQ ms vs os
 |_,_,_=>none
def lz:List RV→Nat→List (Bool×List aA)×List Chunk
 |[],_=>([],[])
 |r::rs,n=>
  let p:List aA×List Chunk:=if r.fresh then cA r.t r.x n else (ib r.t r.x,[])
  let q:=lz rs (n+p.2.length)
  ((r.t.ye,p.1)::q.1,p.2++q.2)
def IT:List (Bool×List aA)→aD
 |[(true,cs)]=> .agg cs
 |[(false,[c])]=> .one c
 |[_]=> .gv
 |l=> .FE l
def ft:List Mode→Bool
 |[]=>true
 | .own t::ms=>t.kW&&ft ms
 |_::ms=>ft ms
def jR:List Mode→Bool
 |[]=>true
 | .own _::_=>false
 | .mv _::_=>false
 |_::ms=>jR ms
def yE (P:Program)(m:Mem)(nx:Nat)(ms:List Mode)(rs:List RV)(outs:List TD)(f:FuncId)(vs:List aD):Option cf:=
 match dK m ms vs,dQ ms vs outs with
 |some ks,some up=>(match dn [] [] [] ms vs with
  |some as=>bif ks.isEmpty&&jR ms then some ⟨IT (lz rs nx).1,bI nx (lz rs nx).2,up,[CallOK P f as rs outs]⟩ else none
  |none=>bif l7 ks then (bif rs.all RV.uj&&ft ms then (match dn m m ((ks.map fun k=>(k,Chunk.gone))++m) ms vs with
   |some as=>some ⟨IT (lz rs nx).1,bI nx (lz rs nx).2,up,[CallOK P f as rs outs]⟩
   |none=>none) else (match dn m [] [] ms vs with
   |some as=>some ⟨IT (lz rs nx).1,bI nx (lz rs nx).2,up,[CallOK P f as rs outs]⟩
   |none=>none)) else none)
 |_,_=>none
end Go.Ide
