import Derived.WalkKit
set_option linter.unusedVariables false
set_option linter.unusedSimpArgs false
set_option linter.unusedSectionVars false
namespace Go.Ide
inductive Ty where
 |int (k:IntKind)
 |aX (k:FloatKind)
 |bool
 |str
 |sl (t:Ty)
 |pair (a b:Ty)
 |st (t:Ty)
 |own (t:Ty)
 |bx (t:Ty)
 deriving DecidableEq
@[reducible] def Ty.D:Ty→Type
 | .int _=>Int
 | .aX _=>Nat
 | .bool=>Bool
 | .str=>List UInt8
 | .sl t=>List t.D
 | .pair a b=>a.D×b.D
 | .st t=>t.D
 | .own t=>List t.D
 | .bx t=>List t.D
def Ty.gd:(t:Ty)→t.D
 | .int _=>(0:Int)
 | .aX _=>(0:Nat)
 | .bool=>false
 | .str=>([]:List UInt8)
 | .sl t=>([]:List t.D)
 | .pair a b=>(a.gd,b.gd)
 | .st t=>t.gd
 | .own t=>([]:List t.D)
 | .bx t=>([]:List t.D)
def Ty.size:Ty→Nat
 | .pair a b=>a.size+b.size
 | .st t=>t.size
 |_=>1
def Ty.yN:Ty→Bool
 | .st _=>true
 |_=>false
inductive aA where
 |aq (t:Ty) (x:t.D)
 |ptr (c off:Nat)
 |iy (c i sz off:Nat)
 |ip (t:Ty) (x:t.D) (off:Nat)
 |all (c:Nat)
 |ref (c off len:Nat)
 |row (c i o:Nat)
 |AW (c i o j sz off:Nat)
 |ar
 |fn (f:FuncId)
 |nM (f:FuncId) (t:Ty) (x:t.D)
 |jk
 |bad
inductive aE where
 |one (c:aA)
 |agg (cs:List aA)
 |HM (vs:List (Bool×List aA))
 |FQ
 |jk
inductive Chunk where
 |box (cs:List aA)
 |seq (t:Ty) (xs:List t.D)
 |rB (t:Ty) (xs:List t.D) (i:Nat) (cs:List aA) (ks:List Nat)
 |gone
abbrev Mem:=List (Nat×Chunk)
abbrev Fr:=List (Nat×aE)
def lk {α:Type}(k:Nat):List (Nat×α)→Option α
 |[]=>none
 |p::r=>bif Nat.beq k p.1 then some p.2 else lk k r
structure St where
 fr:Fr
 mem:Mem
 nx:Nat
def cG {a b:Ty}(h:a=b)(x:a.D):b.D:=h▸x
def Ty.er:Ty→Ty
 | .own t=> .sl t.er
 | .sl t=> .sl t.er
 | .bx t=> .bx t.er
 | .pair a b=> .pair a.er b.er
 | .st t=> .st t.er
 | .int k=> .int k
 | .aX k=> .aX k
 | .bool=> .bool
 | .str=> .str
theorem Ty.yO:(t:Ty)→t.er.D=t.D
 | .own t=>congrArg List (yO t)
 | .sl t=>congrArg List (yO t)
 | .bx t=>congrArg List (yO t)
 | .pair a b=>by show (a.er.D×b.er.D)=(a.D×b.D);rw [yO a,yO b]
 | .st t=>yO t
 | .int _=>rfl
 | .aX _=>rfl
 | .bool=>rfl
 | .str=>rfl
def Bw {A B:Type}(h:A=B)(x:A):B:=h▸x
def D0 {t:Ty}(x:t.D):t.er.D:=Bw t.yO.symm x
def Ty.j7:Ty→Bool
 | .own _=>false
 | .sl t=>t.j7
 | .bx t=>t.j7
 | .pair a b=>a.j7&&b.j7
 | .st t=>t.j7
 |_=>true
def eJ:(t:Ty)→t.D→Nat→Option (Σ e:Ty,List e.D)
 | .own e,x,o=>(match o with|0=>some ⟨e,x⟩|_+1=>none)
 | .pair a b,x,o=>bif Nat.blt o a.size then eJ a x.1 o else eJ b x.2 (o - a.size)
 | .st t,x,o=>eJ t x o
 | .int _,_,_=>none
 | .aX _,_,_=>none
 | .bool,_,_=>none
 | .str,_,_=>none
 | .sl _,_,_=>none
 | .bx _,_,_=>none
def bX:Ty→Nat→List Nat
 | .own _,o=>[o]
 | .pair a b,o=>bX a o++bX b (o+a.size)
 | .st t,o=>bX t o
 | .int _,_=>[]
 | .aX _,_=>[]
 | .bool,_=>[]
 | .str,_=>[]
 | .sl _,_=>[]
 | .bx _,_=>[]
def wm:(t:Ty)→t.D→Nat→(e:Ty)→List e.D→t.D
 | .own e',x,o,e,ys=>(match o with|0=>if h:e=e' then cG (a:= .sl e) (b:= .sl e') (congrArg Ty.sl h) ys else x|_+1=>x)
 | .pair a b,x,o,e,ys=>bif Nat.blt o a.size then (wm a x.1 o e ys,x.2) else (x.1,wm b x.2 (o - a.size) e ys)
 | .st t,x,o,e,ys=>wm t x o e ys
 | .int _,x,_,_,_=>x
 | .aX _,x,_,_,_=>x
 | .bool,x,_,_,_=>x
 | .str,x,_,_,_=>x
 | .sl _,x,_,_,_=>x
 | .bx _,x,_,_,_=>x
def eu (m:Mem)(t:Ty):aA→Option t.D
 | .aq t' x=>if h:t'=t then some (cG h x) else none
 | .all c=>match t with
  | .sl e=>(match lk c m with
   |some (.seq e' xs)=>if h:e'=e then some (cG (congrArg Ty.sl h) xs) else if h:e'.er=e then some (cG (congrArg Ty.sl h) (D0 (t:= .sl e') xs)) else none
   |_=>none)
  |_=>none
 | .row c i o=>match t with
  | .sl e=>(match lk c m with
   |some (.seq e1 xs)=>(match eJ e1 (xs.getD i e1.gd) o with
    |some ⟨e',ys⟩=>if h:e'=e then some (cG (congrArg Ty.sl h) ys) else none
    |none=>none)
   |_=>none)
  |_=>none
 | .ref c off len=>match t with
  | .sl e=>(match lk c m with
   |some (.seq e' xs)=>if h:e'=e then some (cG (congrArg Ty.sl h) ((xs.drop off).take len)) else none
   |_=>none)
  |_=>none
 | .ar=>match t with
  | .sl e=>some ([]:List e.D)
  |_=>none
 | .iy c i sz off=>match t with
  | .bx e=>(match lk c m with
   |some (.seq e' xs)=>if h:e'=e then (bif Nat.beq i 0&&(Nat.beq off 0&&Nat.beq sz e.size) then some (cG (congrArg Ty.bx h) xs) else none) else none
   |_=>none)
  |_=>none
 |_=>none
def cW (m:Mem)(t:Ty):List aA→Option (t.D×List aA)
 |c::r=>(match eu m t c with
  |some x=>some (x,r)
  |none=>none)
 |[]=>none
def impl (m:Mem):(t:Ty)→List aA→Option (t.D×List aA)
 | .pair a b,cs=>match impl m a cs with
  |some (x,r)=>(match impl m b r with
   |some (y,r')=>some ((x,y),r')
   |none=>none)
  |none=>none
 | .st t,cs=>impl m t cs
 | .int k,cs=>cW m (.int k) cs
 | .aX k,cs=>cW m (.aX k) cs
 | .bool,cs=>cW m .bool cs
 | .str,cs=>cW m .str cs
 | .sl t,cs=>cW m (.sl t) cs
 | .own t,cs=>cW m (.own t) cs
 | .bx t,cs=>cW m (.bx t) cs
def aE.cells:aE→List aA
 | .one c=>[c]
 | .agg cs=>cs
 |_=>[]
def mr (m:Mem)(t:Ty)(v:aE):Option t.D:=
 match v,t.yN with
 | .one c,false=>(match impl m t [c] with|some (x,[])=>some x|_=>none)
 | .agg cs,true=>(match impl m t cs with|some (x,[])=>some x|_=>none)
 |_,_=>none
def il:(t:Ty)→t.D→List aA
 | .pair a b,x=>il a x.1++il b x.2
 | .st t,x=>il t x
 | .int k,x=>[.aq (.int k) x]
 | .aX k,x=>[.aq (.aX k) x]
 | .bool,x=>[.aq .bool x]
 | .str,x=>[.aq .str x]
 | .sl t,x=>[.aq (.sl t) x]
 | .own t,x=>[.aq (.own t) x]
 | .bx t,x=>[.aq (.bx t) x]
def Bx (c i:Nat):(t:Ty)→Nat→t.D→List aA
 | .pair a b,o,x=>Bx c i a o x.1++Bx c i b (o+a.size) x.2
 | .st t,o,x=>Bx c i t o x
 | .own _,o,_=>[.row c i o]
 | .int k,_,x=>[.aq (.int k) x]
 | .aX k,_,x=>[.aq (.aX k) x]
 | .bool,_,x=>[.aq .bool x]
 | .str,_,x=>[.aq .str x]
 | .sl t,_,x=>[.aq (.sl t) x]
 | .bx t,_,x=>[.aq (.bx t) x]
def eK:(t:Ty)→t.D→Nat→List aA×List Chunk
 | .pair a b,x,n=>((eK a x.1 n).1++(eK b x.2 (n+(eK a x.1 n).2.length)).1,(eK a x.1 n).2++(eK b x.2 (n+(eK a x.1 n).2.length)).2)
 | .st t,x,n=>eK t x n
 | .own t,x,n=>([.all n],[.seq t x])
 | .int k,x,_=>([.aq (.int k) x],[])
 | .aX k,x,_=>([.aq (.aX k) x],[])
 | .bool,x,_=>([.aq .bool x],[])
 | .str,x,_=>([.aq .str x],[])
 | .sl t,x,_=>([.aq (.sl t) x],[])
 | .bx t,x,_=>([.aq (.bx t) x],[])
def mj (m:Mem):(t:Ty)→List aA→Option ((t.D×List Nat)×List aA)
 | .pair a b,cs=>match mj m a cs with
  |some ((x,ks),r)=>(match mj m b r with
   |some ((y,ls),r')=>some (((x,y),ks++ls),r')
   |none=>none)
  |none=>none
 | .st t,cs=>mj m t cs
 | .own t,cs=>(match cs with
  | .ar::r=>some ((([]:List t.D),[]),r)
  | .all c::r=>(match lk c m with
   |some (.seq e xs)=>if h:e=t then some ((cG (a:= .sl e) (b:= .sl t) (congrArg Ty.sl h) xs,[c]),r) else none
   |_=>none)
  |_=>none)
 | .int k,cs=>(cW [] (.int k) cs).map fun p=>((p.1,[]),p.2)
 | .aX k,cs=>(cW [] (.aX k) cs).map fun p=>((p.1,[]),p.2)
 | .bool,cs=>(cW [] .bool cs).map fun p=>((p.1,[]),p.2)
 | .str,cs=>(cW [] .str cs).map fun p=>((p.1,[]),p.2)
 | .sl t,cs=>(cW [] (.sl t) cs).map fun p=>((p.1,[]),p.2)
 | .bx t,cs=>(cW [] (.bx t) cs).map fun p=>((p.1,[]),p.2)
def cn:(t:Ty)→t.D→Nat→List aA×List Chunk
 | .pair a b,x,n=>((cn a x.1 n).1++(cn b x.2 (n+(cn a x.1 n).2.length)).1,(cn a x.1 n).2++(cn b x.2 (n+(cn a x.1 n).2.length)).2)
 | .st t,x,n=>cn t x n
 | .int k,x,_=>([.aq (.int k) x],[])
 | .aX k,x,_=>([.aq (.aX k) x],[])
 | .bool,x,_=>([.aq .bool x],[])
 | .str,x,_=>([.aq .str x],[])
 | .sl t,x,n=>([.all n],[.seq t x])
 | .own t,x,n=>([.all n],[.seq t x])
 | .bx t,x,n=>([.iy n 0 t.size 0],[.seq t x])
def bG:Nat→List Chunk→Mem
 |_,[]=>[]
 |n,c::r=>(n,c)::bG (n+1) r
def aA.ok:aA→Bool
 | .bad=>false
 |_=>true
def aE.ok:aE→Bool
 | .one c=>c.ok
 | .agg cs=>cs.all aA.ok
 |_=>false
end Go.Ide
namespace Go.Ide
def Cp.ok (_:World)(_:Nat→Prop):Prop:=True
theorem Cp.mono {w w':World}{S S':Nat→Prop}(_: ∀b,S b→S' b∧w'.heap[b]? =w.heap[b]?)(_:Cp.ok w S):Cp.ok w' S':=trivial
end Go.Ide
namespace Go.Ide
def bB {α β:Type}(R:α→β→Prop):List α→List β→Prop
 |[],[]=>True
 |a::as,b::bs=>R a b∧bB R as bs
 |_,_=>False
theorem bB.length {α β:Type}{R:α→β→Prop}: ∀{as:List α} {bs:List β},bB R as bs→as.length=bs.length
 |[],[],_=>rfl
 |_::_,_::_,h=>by simp [bB.length h.2]
 |[],_::_,h=>h.elim
 |_::_,[],h=>h.elim
theorem bB.mono {α β:Type}{R R':α→β→Prop}(hR: ∀a b,R a b→R' a b): ∀{as:List α} {bs:List β},bB R as bs→bB R' as bs
 |[],[],_=>trivial
 |_::_,_::_,h=>⟨hR _ _ h.1,bB.mono hR h.2⟩
 |[],_::_,h=>h.elim
 |_::_,[],h=>h.elim
theorem bB.append {α β:Type}{R:α→β→Prop}: ∀{as:List α} {bs:List β} {Tx:List α} {Zp:List β},bB R as bs→bB R Tx Zp→bB R (as++Tx) (bs++Zp)
 |[],[],_,_,_,h'=>h'
 |_::_,_::_,_,_,h,h'=>⟨h.1,bB.append h.2 h'⟩
 |[],_::_,_,_,h,_=>h.elim
 |_::_,[],_,_,h,_=>h.elim
theorem bB.take {α β:Type}{R:α→β→Prop}: ∀(n:Nat) {as:List α} {bs:List β},bB R as bs→bB R (as.take n) (bs.take n)
 |0,_,_,_=>by simp [bB]
 |_+1,[],[],_=>by simp [bB]
 |n+1,_::_,_::_,h=>by simpa [bB] using ⟨h.1,bB.take n h.2⟩
 |_+1,[],_::_,h=>h.elim
 |_+1,_::_,[],h=>h.elim
theorem bB.drop {α β:Type}{R:α→β→Prop}: ∀(n:Nat) {as:List α} {bs:List β},bB R as bs→bB R (as.drop n) (bs.drop n)
 |0,_,_,h=>by simpa using h
 |_+1,[],[],_=>by simp [bB]
 |n+1,_::_,_::_,h=>by simpa using bB.drop n h.2
 |_+1,[],_::_,h=>h.elim
 |_+1,_::_,[],h=>h.elim
theorem bB.get {α β:Type}{R:α→β→Prop}: ∀{as:List α} {bs:List β} (i:Nat),bB R as bs→ ∀a,as[i]? =some a→ ∃b,bs[i]? =some b∧R a b
 |[],[],_,_,a,h=>by simp at h
 |_::_,b::_,0,h,a,ha=>by simp at ha;subst ha;exact ⟨b,rfl,h.1⟩
 |_::_,_::_,i+1,h,a,ha=>by simpa using bB.get i h.2 a (by simpa using ha)
 |[],_::_,_,h,_,_=>h.elim
 |_::_,[],_,h,_,_=>h.elim
def bw:FloatKind→Nat→Nat
 | .f32,b=>if b%2147483648>2139095040 then 2143289344 else b
 | .f64,b=>if b%9223372036854775808>9218868437227405312 then 9221120237041090560 else b
def dy (w:World)(b:Nat)(arr:Array Value):Prop:=
 ∃T lo hi,w.heap[b]? =some (.cells arr T (lo,hi))∧(lo=hi∨arr.size≤lo)
theorem dy.Wk {w:World}{b:Nat}{arr:Array Value}(h:dy w b arr){o:Nat}(ho:o<arr.size):w.frozen? ⟨b,o,none⟩=false:=by
 obtain ⟨T,lo,hi,h,hf⟩:=h;simp only [World.frozen?,h,Bool.and_eq_false_iff,decide_eq_false_iff_not];omega
theorem dy.cell {w:World}{b:Nat}{arr:Array Value}(h:dy w b arr)(o:Nat):w.cell? ⟨b,o,none⟩=arr[o]? :=by
 obtain ⟨T,lo,hi,h,_⟩:=h;simp [World.cell?,h]
theorem dy.lt {w:World}{b:Nat}{arr:Array Value}(h:dy w b arr):b<w.heap.size:=by
 obtain ⟨T,lo,hi,h,_⟩:=h;exact (Array.getElem?_eq_some_iff.1 h).1
theorem dy.keep {w w':World}{b:Nat}{arr:Array Value}(h:dy w b arr)(e:w'.heap[b]? =w.heap[b]?):dy w' b arr:=by
 obtain ⟨T,lo,hi,h,hf⟩:=h;exact ⟨T,lo,hi,by rw [e,h],hf⟩
theorem dy.eq {w:World}{b:Nat}{arr aG:Array Value}(h:dy w b arr)(h':dy w b aG):arr=aG:=by
 obtain ⟨T,lo,hi,h,_⟩:=h;obtain ⟨T',lo',nr,h',_⟩:=h';rw [h] at h';injection h' with h';injection h'
theorem dy.new (w:World)(arr:Array Value)(T:TypeId):dy (w.alloc (.cells arr T)) w.heap.size arr:=
 ⟨T,0,0,heap_alloc_new w _,.inl rfl⟩
theorem pM {w w':World}{a:Addr}(e:w'.heap[a.block]? =w.heap[a.block]?):w'.cell? a=w.cell? a:=World.cell?_of_block e
theorem gW (a:Addr)(n:Nat):(a.add n).block=a.block:=by unfold Addr.add;split<;>rfl
theorem add_add (a:Addr)(n m:Nat):(a.add n).add m=a.add (n+m):=by
 unfold Addr.add;split;rename_i h;subst h;simp;split;rename_i h;subst h;simp [*];simp only [Nat.add_eq_zero_iff];rw [if_neg (by omega)];simp [Nat.add_assoc]
theorem bY (b o n:Nat):(⟨b,o,none⟩:Addr).add n=⟨b,o+n,none⟩:=by
 unfold Addr.add;split;rename_i h;subst h;rfl;rfl
def bS (S:Nat→Prop)(w:World):(t:Ty)→List Value→t.D→Prop
 | .int k,cs,n=>cs=[.int k n]
 | .aX k,cs,n=> ∃b,cs=[.float k b]∧bw k b=n
 | .bool,cs,b=>cs=[.bool b]
 | .str,cs,s=>cs=[.string ⟨s.toArray⟩]
 | .pair a b,cs,x=> ∃c1 c2,cs=c1++c2∧bS S w a c1 x.1∧bS S w b c2 x.2
 | .st t,cs,x=>bS S w t cs x
 | .sl t,cs,xs=> ∃a cap,cs=[.slice a (List.length xs) cap]∧List.length xs≤cap∧ ∀i (h:i<List.length xs),∃(ad:Addr) (es:List Value),a=some ad∧S ad.block∧
  (∀j v,es[j]? =some v→w.cell? (ad.add (i*t.size+j))=some v)∧bS S w t es xs[i]
 | .own t,cs,xs=> ∃a cap,cs=[.slice a (List.length xs) cap]∧List.length xs≤cap∧ ∀i (h:i<List.length xs),∃(ad:Addr) (es:List Value),a=some ad∧S ad.block∧
  (∀j v,es[j]? =some v→w.cell? (ad.add (i*t.size+j))=some v)∧bS S w t es xs[i]
 | .bx t,cs,xs=> ∃ad:Addr,cs=[.pointer (some ad)]∧ ∀i (h:i<List.length xs),∃es:List Value,S ad.block∧
  (∀j v,es[j]? =some v→w.cell? (ad.add (i*t.size+j))=some v)∧bS S w t es xs[i]
theorem bS.keep {S S':Nat→Prop}{w w':World}(h: ∀b,S b→S' b∧w'.heap[b]? =w.heap[b]?): ∀(t:Ty) (cs:List Value) (x:t.D),bS S w t cs x→bS S' w' t cs x
 | .int _,_,_,hr=>hr
 | .aX _,_,_,hr=>hr
 | .bool,_,_,hr=>hr
 | .str,_,_,hr=>hr
 | .pair a b,_,x,⟨c1,c2,e,h1,h2⟩=>⟨c1,c2,e,bS.keep h a c1 x.1 h1,bS.keep h b c2 x.2 h2⟩
 | .st t,cs,x,hr=>bS.keep h t cs x hr
 | .sl t,_,xs,⟨a,cap,e,hc,hr⟩=>⟨a,cap,e,hc,fun i hi=>by
  obtain ⟨ad,es,ea,hs,br,cJ⟩:=hr i hi;exact ⟨ad,es,ea,(h _ hs).1,fun j v hv=>(pM (by rw [gW];exact (h _ hs).2)).trans (br j v hv),bS.keep h t es _ cJ⟩⟩
 | .own t,_,xs,⟨a,cap,e,hc,hr⟩=>⟨a,cap,e,hc,fun i hi=>by
  obtain ⟨ad,es,ea,hs,br,cJ⟩:=hr i hi;exact ⟨ad,es,ea,(h _ hs).1,fun j v hv=>(pM (by rw [gW];exact (h _ hs).2)).trans (br j v hv),bS.keep h t es _ cJ⟩⟩
 | .bx t,_,xs,⟨ad,e,hr⟩=>⟨ad,e,fun i hi=>by
  obtain ⟨es,hs,br,cJ⟩:=hr i hi;exact ⟨es,(h _ hs).1,fun j v hv=>(pM (by rw [gW];exact (h _ hs).2)).trans (br j v hv),bS.keep h t es _ cJ⟩⟩
theorem bS.len {S:Nat→Prop}{w:World}: ∀(t:Ty) (cs:List Value) (x:t.D),bS S w t cs x→cs.length=t.size
 | .int _,_,_,hr=>by subst hr;rfl
 | .aX _,_,_,⟨_,e,_⟩=>by subst e;rfl
 | .bool,_,_,hr=>by subst hr;rfl
 | .str,_,_,hr=>by subst hr;rfl
 | .pair a b,_,x,⟨c1,c2,e,h1,h2⟩=>by subst e;simp [Ty.size,bS.len a c1 x.1 h1,bS.len b c2 x.2 h2]
 | .st t,cs,x,hr=>bS.len t cs x hr
 | .sl t,_,xs,⟨a,cap,e,_⟩=>by subst e;rfl
 | .own t,_,xs,⟨a,cap,e,_⟩=>by subst e;rfl
 | .bx t,_,xs,⟨ad,e,_⟩=>by subst e;rfl
structure GM where
 f:Nat→List Nat→Option Nat
@[reducible] def GM.at (g:GM)(k:Nat):Option Nat:=g.f k []
instance:CoeFun GM (fun _=>Nat→Option Nat):=⟨GM.at⟩
def dM (m:Mem)(c:Nat)(t:Ty)(xs:List t.D):Prop:=lk c m=some (.seq t xs)∨ ∃i cs ks,lk c m=some (.rB t xs i cs ks)
theorem dM.toSeq {m:Mem}{c:Nat}{t t':Ty}{xs:List t.D}{cE:List t'.D}(h:lk c m=some (.seq t xs))(h':dM m c t' cE):Ide.lk c m=some (.seq t' cE):=by
 rcases h' with h'|⟨i,cs,ks,h'⟩
 exact h';rw [h] at h';cases h'
def jl (gc:Option Nat)(w:World)(sz n:Nat)(v:Value):Prop:=
 match gc with
 |none=> ∃a,v= .slice a 0 0
 |some b=> ∃cap arr,v= .slice (some ⟨b,0,none⟩) n cap∧n≤cap∧dy w b arr∧cap*sz≤arr.size∧cap≤maxLen
def Wl (gc:Option Nat)(w:World)(sz n off len:Nat)(v:Value):Prop:=
 off+len≤n∧((len=0∧(off=0→gc=none)∧ ∃a,v= .slice a 0 0)∨ ∃b cap arr,gc=some b∧v= .slice (some ⟨b,off*sz,none⟩) len cap∧len≤cap∧dy w b arr∧(off+cap)*sz≤arr.size∧cap≤maxLen)
def CR (g:GM)(m:Mem)(S:Nat→Prop)(w:World):aA→Value→Prop
 | .aq t x,v=>bS S w t [v] x
 | .ptr c off,v=>lk c m≠none∧ ∃b,g c=some b∧v= .pointer (some ⟨b,off,none⟩)
 | .iy c i sz off,v=>lk c m≠none∧ ∃b,g c=some b∧v= .pointer (some ⟨b,i*sz+off,none⟩)
 | .ip t x off,v=> ∃(ad:Addr) (es:List Value),v= .pointer (some (ad.add off))∧S ad.block∧(∀j u,es[j]? =some u→w.cell? (ad.add j)=some u)∧bS S w t es x
 | .all c,v=>lk c m≠none∧v.oneCell'=true∧ ∀t xs,dM m c t xs→jl (g c) w t.size xs.length v
 | .ref c off len,v=>lk c m≠none∧v.oneCell'=true∧ ∀t xs,dM m c t xs→Wl (g c) w t.size xs.length off len v
 | .row c i o,v=>lk c m≠none∧v.oneCell'=true∧ ∀t xs,lk c m=some (.seq t xs)→i<xs.length∧ ∀e ys,eJ t (xs.getD i t.gd) o=some ⟨e,ys⟩→jl (g.f c [i,o]) w e.size ys.length v
 | .AW c i o j sz off,v=>lk c m≠none∧ ∃b,v= .pointer (some ⟨b,j*sz+off,none⟩)∧ ∀t xs,lk c m=some (.seq t xs)→i<xs.length∧g.f c [i,o]=some b
 | .ar,v=> ∃a,v= .slice a 0 0
 | .fn f,v=>v= .func (.func f) #[] #[]
 | .nM f t x,v=> ∃(ad:Addr) (es:List Value),v= .func (.func f) #[] #[.pointer (some ad)]∧S ad.block∧(∀j u,es[j]? =some u→w.cell? (ad.add j)=some u)∧bS S w t es x
 | .jk,v=>v.oneCell'=true
 | .bad,_=>True
def CV (g:GM)(m:Mem)(S:Nat→Prop)(w:World)(ag:Bool)(cs:List aA)(v:Value):Prop:=
 match ag,cs with
 |true,cs=> ∃vs:List Value,v= .agg vs.toArray∧bB (CR g m S w) cs vs
 |false,[c]=>CR g m S w c v
 |false,_=>False
def VR (g:GM)(m:Mem)(S:Nat→Prop)(w:World):aE→Value→Prop
 | .one c,v=>CR g m S w c v
 | .agg cs,v=> ∃vs:List Value,v= .agg vs.toArray∧bB (CR g m S w) cs vs
 | .HM ts,v=> ∃vs:List Value,v= .tuple vs.toArray∧bB (fun t v=>CV g m S w t.1 t.2 v) ts vs
 | .FQ,v=>v=undef
 | .jk,_=>True
def Eb (S:Nat→Prop)(w:World)(t:Ty)(xs:List t.D)(arr:Array Value):Prop:=
 ∀i (h:i<xs.length),∃es,(∀j v,es[j]? =some v→arr[i*t.size+j]? =some v)∧bS S w t es xs[i]
def cX (S:Nat→Prop)(w:World):(t:Ty)→(List Nat→Option Nat)→Nat→List Value→t.D→Prop
 | .own t,γ,o,cs,xs=> ∃v,cs=[v]∧jl (γ [o]) w t.size (List.length xs) v∧match γ [o] with
  |none=>List.length xs=0
  |some b=> ∃arr,dy w b arr∧ ∀i (h:i<List.length xs),∃es:List Value,(∀j v,es[j]? =some v→arr[i*t.size+j]? =some v)∧cX S w t (fun p=>γ (o::i::p)) 0 es xs[i]
 | .pair a b,γ,o,cs,x=> ∃c1 c2,cs=c1++c2∧cX S w a γ o c1 x.1∧cX S w b γ (o+a.size) c2 x.2
 | .st t,γ,o,cs,x=>cX S w t γ o cs x
 | .int k,_,_,cs,x=>bS S w (.int k) cs x
 | .aX k,_,_,cs,x=>bS S w (.aX k) cs x
 | .bool,_,_,cs,x=>bS S w .bool cs x
 | .str,_,_,cs,x=>bS S w .str cs x
 | .sl t,_,_,cs,x=>bS S w (.sl t) cs x
 | .bx t,_,_,cs,x=>bS S w (.bx t) cs x
def fA (S:Nat→Prop)(w:World)(γ:List Nat→Option Nat)(t:Ty)(xs:List t.D)(arr:Array Value):Prop:=
 ∀i (h:i<xs.length),∃es,(∀j v,es[j]? =some v→arr[i*t.size+j]? =some v)∧cX S w t (fun p=>γ (i::p)) 0 es xs[i]
def Chunk.owns:Chunk→List Nat→Prop
 | .gone,_=>False
 | .rB t _ i _ _,p=> ∀o r,p=i::o::r→o ∉ bX t 0
 |_,_=>True
theorem Chunk.yP {ch:Chunk}(h:ch≠ .gone):ch.owns []:=by
 cases ch<;>first|exact absurd rfl h|trivial|(intro o r e;cases e)
theorem Chunk.HN {ch:Chunk}{p:List Nat}(h:ch.owns p):ch≠ .gone:=by
 rintro rfl;exact h
def kd (g:GM)(m:Mem)(S:Nat→Prop)(w:World)(γ:List Nat→Option Nat):Chunk→Prop
 | .gone=>True
 | .box cs=> ∃b arr,γ []=some b∧dy w b arr∧bB (CR g m S w) cs arr.toList
 | .seq t xs=>match γ [] with
  |none=>xs=[]
  |some b=> ∃arr,dy w b arr∧fA S w γ t xs arr
 | .rB t xs i cs ks=>bB (fun o k=>lk k m≠none∧g.f k=fun p=>γ (i::o::p)) (bX t 0) ks∧ ∃b arr,γ []=some b∧dy w b arr∧i<xs.length∧
  (∀j (h:j<xs.length),j≠i→ ∃es,(∀q v,es[q]? =some v→arr[j*t.size+q]? =some v)∧cX S w t (fun p=>γ (j::p)) 0 es xs[j])∧
  ∃es,es.length=t.size∧(∀q v,es[q]? =some v→arr[i*t.size+q]? =some v)∧bB (CR g m S w) cs es
structure Cx where
 P:Program
 N:Nat
 w0:World
 S:Nat→Prop
 F:List Nat
 own:List (Nat×(List Nat→Option Nat))
def Cx.S7 (cx:Cx):Prop:= ∀b,b∈cx.F→ ∃p,p∈cx.own∧ ∃q,p.2 q=some b
structure bK (F:List Nat)(w w':World):Prop where
 os:w'.os=w.os
 tape:w'.tape=w.tape
 output:w'.output=w.output
 size:w.heap.size≤w'.heap.size
 block: ∀b,b<w.heap.size→b ∉ F→w'.heap[b]? =w.heap[b]?
 sz: ∀b arr,dy w b arr→ ∃aG,dy w' b aG∧aG.size=arr.size
theorem bK.refl (F:List Nat)(w:World):bK F w w:=⟨rfl,rfl,rfl,Nat.le_refl _,fun _ _ _=>rfl,fun _ arr h=>⟨arr,h,rfl⟩⟩
theorem bK.trans {F:List Nat}{a b c:World}(h:bK F a b)(k:bK F b c):bK F a c:=
 ⟨k.os.trans h.os,k.tape.trans h.tape,k.output.trans h.output,Nat.le_trans h.size k.size,fun i hi hf=>(k.block i (Nat.lt_of_lt_of_le hi h.size) hf).trans (h.block i hi hf),
  fun b arr hb=>let ⟨arr1,h1,e1⟩:=h.sz b arr hb;let ⟨qx,h2,e2⟩:=k.sz b arr1 h1;⟨qx,h2,e2.trans e1⟩⟩
def Live (g:GM)(m:Mem)(b:Nat):Prop:= ∃k p ch,lk k m=some ch∧ch.owns p∧g.f k p=some b
def Cx.safe (cx:Cx)(g:GM)(m:Mem)(w:World)(b:Nat):Prop:=
 b<w.heap.size∧(b<cx.w0.heap.size→cx.S b)∧ ¬Live g m b
def Tz (cx:Cx):Prop:=Cp.ok cx.w0 cx.S∧ ∀b,cx.S b→b<cx.w0.heap.size∧b ∉ cx.F
def FX (cx:Cx)(g:GM)(m:Mem)(w:World)(ds:List Deferred):Prop:=
 ∃Ds:List Nat,ds=Ds.map (fun D=>{target:= .collected D,args:= #[]})∧Ds.Nodup∧ ∀D∈Ds,w.heap[D]? =some (.deferred (some []))∧cx.w0.heap.size≤D∧ ¬Live g m D
theorem FX.nil {cx:Cx}{g:GM}{m:Mem}{w:World}:FX cx g m w []:=⟨[],rfl,List.nodup_nil,fun _ h=>by simp at h⟩
theorem FX.keep {cx:Cx}{g g':GM}{m m':Mem}{w w':World}{ds:List Deferred}(h:FX cx g m w ds)(hs: ∀b,cx.safe g m w b→cx.safe g' m' w' b∧w'.heap[b]? =w.heap[b]?):FX cx g' m' w' ds:=by
 obtain ⟨Ds,e,hn,h⟩:=h;refine ⟨Ds,e,hn,fun D hD=> ?_⟩;obtain ⟨hD,hw,hl⟩:=h D hD;obtain ⟨k1,k2⟩:=hs D ⟨(Array.getElem?_eq_some_iff.1 hD).1,fun cq=>by omega,hl⟩;exact ⟨k2.trans hD,hw,k1.2.2⟩
structure dw (cx:Cx)(g:GM)(st:St)(a:Act)(w:World):Prop where
 defers:FX cx g st.mem w a.defers
 size:a.tmps.size=cx.N
 fr: ∀t v,lk t st.fr=some v→VR g st.mem (cx.safe g st.mem w) w v (a.tmps.getD t undef)
 mem: ∀k ch,lk k st.mem=some ch→kd g st.mem (cx.safe g st.mem w) w (g.f k) ch
 lz: ∀k k' p p' ch jM b,lk k st.mem=some ch→ch.owns p→lk k' st.mem=some jM→jM.owns p'→g.f k p=some b→g.f k' p'=some b→k=k'∧p=p'
 rC: ∀k p ch b,lk k st.mem=some ch→ch.owns p→g.f k p=some b→cx.w0.heap.size≤b∨b∈cx.F
 lt: ∀k p ch b,lk k st.mem=some ch→ch.owns p→g.f k p=some b→b<w.heap.size
 keep:bK cx.F cx.w0 w
 own: ∀p∈cx.own,g.f p.1=p.2∧lk p.1 st.mem≠none
 gl:Tz cx
theorem dw.Ql {cx:Cx}{g:GM}{st:St}{a:Act}{w:World}(h:dw cx g st a w):Cp.ok w (cx.safe g st.mem w):=
 Cp.mono (fun b hb=>by
  obtain ⟨h1,h2⟩:=h.gl.2 b hb;refine ⟨⟨Nat.lt_of_lt_of_le h1 h.keep.size,fun _=>hb,fun ⟨k,p,ch,q1,q2,q3⟩=> ?_⟩,h.keep.block b h1 h2⟩;rcases h.rC k p ch b q1 q2 q3 with hx|hx
  omega;exact h2 hx) h.gl.1
theorem dw.ND {cx:Cx}{g:GM}{st:St}{a:Act}{w:World}(h:dw cx g st a w){k:Nat}{ch:Chunk}{b:Nat}(hk:lk k st.mem=some ch)(hc:ch≠ .gone)(hg:g k=some b):b<w.heap.size:=
 h.lt k [] ch b hk (Chunk.yP hc) hg
def cl (t:Ty)(xs cE:List t.D):Prop:=
 xs.length=cE.length∧ ∀i o e wh,eJ t (cE.getD i t.gd) o=some ⟨e,wh⟩→ ∃ys,eJ t (xs.getD i t.gd) o=some ⟨e,ys⟩∧ys.length=wh.length
theorem cl.refl (t:Ty)(xs:List t.D):cl t xs xs:=⟨rfl,fun _ _ _ ys h=>⟨ys,h,rfl⟩⟩
structure Stays0 (g g':GM)(m m':Mem)(S S':Nat→Prop)(w w':World):Prop where
 safe: ∀b,S b→S' b∧w'.heap[b]? =w.heap[b]?
 u5: ∀c,lk c m≠none→lk c m'≠none∧g' c=g c
 old: ∀c t xs,lk c m≠none→dM m' c t xs→ ∃cE,dM m c t cE∧cE.length=xs.length
 dy: ∀c t xs b arr,lk c m≠none→dM m' c t xs→g c=some b→Ide.dy w b arr→ ∃aG,Ide.dy w' b aG∧aG.size=arr.size
structure nI (g g':GM)(m m':Mem)(S S':Nat→Prop)(w w':World):Prop extends Stays0 g g' m m' S S' w w' where
 HO: ∀c,lk c m≠none→g'.f c=g.f c
 rows: ∀c t cE,lk c m≠none→lk c m'=some (.seq t cE)→ ∃xs,lk c m=some (.seq t xs)∧cl t xs cE∧
  ∀i o b arr,g.f c [i,o]=some b→Ide.dy w b arr→ ∃aG,Ide.dy w' b aG∧aG.size=arr.size
def aA.Ps:aA→Bool
 | .row _ _ _=>true
 | .AW _ _ _ _ _ _=>true
 |_=>false
theorem jl.stays {gc:Option Nat}{w w':World}{sz n:Nat}{v:Value}(h:jl gc w sz n v)(hb: ∀b arr,gc=some b→dy w b arr→ ∃aG,dy w' b aG∧aG.size=arr.size):jl gc w' sz n v:=by
 unfold jl at h⊢;cases gc with
 |none=>exact h
 |some b=>
  obtain ⟨cap,arr,e,h1,h2,h3,h4⟩:=h;obtain ⟨aG,ke,eI⟩:=hb b arr rfl h2;exact ⟨cap,aG,e,h1,ke,by omega,h4⟩
theorem CR.Qm {g g':GM}{m m':Mem}{S S':Nat→Prop}{w w':World}(h:Stays0 g g' m m' S S' w w'){c:aA}{v:Value}(hn:c.Ps=false)(hr:CR g m S w c v):CR g' m' S' w' c v:=by
 cases c with
 |aq t x=>exact bS.keep h.safe t [v] x hr
 |ptr c off=>obtain ⟨hp,b,hg,e⟩:=hr;exact ⟨(h.u5 c hp).1,b,(h.u5 c hp).2.trans hg,e⟩
 |iy c i sz off=>obtain ⟨hp,b,hg,e⟩:=hr;exact ⟨(h.u5 c hp).1,b,(h.u5 c hp).2.trans hg,e⟩
 |ip t x off=>
  obtain ⟨ad,es,e,hs,br,cJ⟩:=hr;exact ⟨ad,es,e,(h.safe _ hs).1,fun j u hu=>(pM (by rw [gW];exact (h.safe _ hs).2)).trans (br j u hu),bS.keep h.safe t es x cJ⟩
 |all c=>
  obtain ⟨hp,ho,hr⟩:=hr;refine ⟨(h.u5 c hp).1,ho,fun t xs hl=> ?_⟩;obtain ⟨cE,fe,hlen⟩:=h.old c t xs hp hl;have hx:=hr t cE fe;rw [(h.u5 c hp).2,←hlen];exact hx.stays fun b arr hg hb=>h.dy c t xs b arr hp hl hg hb
 |ref c off len=>
  obtain ⟨hp,ho,hr⟩:=hr;refine ⟨(h.u5 c hp).1,ho,fun t xs hl=> ?_⟩;obtain ⟨cE,fe,hlen⟩:=h.old c t xs hp hl;obtain ⟨hle,hx⟩:=hr t cE fe;refine ⟨by omega,?_⟩;rw [(h.u5 c hp).2];rcases hx with hx|⟨b,cap,arr,hg,e,h1,h2,h3,h4⟩
  exact .inl hx;obtain ⟨aG,ke,eI⟩:=h.dy c t xs b arr hp hl hg h2;exact .inr ⟨b,cap,aG,hg,e,h1,ke,by omega,h4⟩
 |row c i o=>cases hn
 |AW c i o j sz off=>cases hn
 |ar=>exact hr
 |fn f=>exact hr
 |nM f t x=>
  obtain ⟨ad,es,e,hs,br,cJ⟩:=hr;exact ⟨ad,es,e,(h.safe _ hs).1,fun j u hu=>(pM (by rw [gW];exact (h.safe _ hs).2)).trans (br j u hu),bS.keep h.safe t es x cJ⟩
 |jk=>exact hr
 |bad=>trivial
theorem CR.stays {g g':GM}{m m':Mem}{S S':Nat→Prop}{w w':World}(h:nI g g' m m' S S' w w'){c:aA}{v:Value}(hr:CR g m S w c v):CR g' m' S' w' c v:=by
 cases hn:c.Ps with
 |false=>exact CR.Qm h.toStays0 hn hr
 |true=>
  cases c with
  |row c i o=>
   obtain ⟨hp,ho,hr⟩:=hr;refine ⟨(h.u5 c hp).1,ho,fun t cE hl=> ?_⟩;obtain ⟨xs,fe,⟨hlen,uW⟩,hb⟩:=h.rows c t cE hp hl;obtain ⟨hi,hx⟩:=hr t xs fe;refine ⟨by omega,fun e wh hy=> ?_⟩;obtain ⟨ys,FY,Pt⟩:=uW i o e wh hy;have:=hx e ys FY;rw [h.HO c hp,←Pt];exact this.stays fun b arr e ke=>hb i o b arr e ke
  |AW c i o j sz off=>
   obtain ⟨hp,b,e,hr⟩:=hr;refine ⟨(h.u5 c hp).1,b,e,fun t cE hl=> ?_⟩;obtain ⟨xs,fe,⟨hlen,uW⟩,hb⟩:=h.rows c t cE hp hl;obtain ⟨hi,hg⟩:=hr t xs fe;exact ⟨by omega,by rw [h.HO c hp];exact hg⟩
  |_=>cases hn
theorem VR.stays {g g':GM}{m m':Mem}{S S':Nat→Prop}{w w':World}(h:nI g g' m m' S S' w w'): ∀{c:aE} {v:Value},VR g m S w c v→VR g' m' S' w' c v
 | .one _,_,hr=>CR.stays h hr
 | .agg _,_,⟨vs,e,hr⟩=>⟨vs,e,hr.mono fun _ _=>CR.stays h⟩
 | .HM _,_,⟨vs,e,hr⟩=>⟨vs,e,hr.mono fun t v hc=>by
  unfold CV at hc⊢;split at hc;obtain ⟨us,e',hu⟩:=hc;exact ⟨us,e',hu.mono fun _ _=>CR.stays h⟩;exact CR.stays h hc;exact hc.elim⟩
 | .FQ,_,h=>h
 | .jk,_,_=>trivial
theorem cX.keep {S S':Nat→Prop}{w w':World}(h: ∀b,S b→S' b∧w'.heap[b]? =w.heap[b]?): ∀(t:Ty) {γ:List Nat→Option Nat} {o:Nat} {cs:List Value} {x:t.D},(∀p b,γ p=some b→w'.heap[b]? =w.heap[b]?)→cX S w t γ o cs x→cX S' w' t γ o cs x
 | .own t,γ,o,cs,xs,hγ,⟨v,e,ha,hr⟩=>by
  refine ⟨v,e,ha.stays fun b arr hg hb=>⟨arr,hb.keep (hγ _ b hg),rfl⟩,?_⟩;cases hg:γ [o] with
  |none=>rw [hg] at hr;exact hr
  |some b=>
   rw [hg] at hr;obtain ⟨arr,hb,hi⟩:=hr;exact ⟨arr,hb.keep (hγ _ b hg),fun i hl=>let ⟨es,h1,h2⟩:=hi i hl;⟨es,h1,cX.keep h t (fun p b hp=>hγ _ b hp) h2⟩⟩
 | .pair a b,γ,o,cs,x,hγ,⟨c1,c2,e,h1,h2⟩=>⟨c1,c2,e,cX.keep h a hγ h1,cX.keep h b hγ h2⟩
 | .st t,γ,o,cs,x,hγ,hr=>cX.keep h t (o:=o) (cs:=cs) (x:=x) hγ hr
 | .int k,_,_,cs,x,_,hr=>bS.keep h (.int k) cs x hr
 | .aX k,_,_,cs,x,_,hr=>bS.keep h (.aX k) cs x hr
 | .bool,_,_,cs,x,_,hr=>bS.keep h .bool cs x hr
 | .str,_,_,cs,x,_,hr=>bS.keep h .str cs x hr
 | .sl t,_,_,cs,x,_,hr=>bS.keep h (.sl t) cs x hr
 | .bx t,_,_,cs,x,_,hr=>bS.keep h (.bx t) cs x hr
theorem cX.data {S S':Nat→Prop}{w:World}(h: ∀b,S b→S' b): ∀(t:Ty) {γ:List Nat→Option Nat} {o:Nat} {cs:List Value} {x:t.D},(∀p b,γ p=some b→S' b)→cX S w t γ o cs x→bS S' w t cs x
 | .own t,γ,o,cs,xs,hγ,⟨v,e,ha,hr⟩=>by
  subst e;cases hg:γ [o] with
  |none=>
   rw [hg] at hr ha;obtain ⟨a,ha⟩:=ha;subst ha;have h0:List.length xs=0:=hr;exact ⟨a,0,by rw [h0],by omega,fun i hi=>by omega⟩
  |some b=>
   rw [hg] at hr ha;obtain ⟨cap,xZ,e,h1,_⟩:=ha;subst e;obtain ⟨arr,hb,hi⟩:=hr;refine ⟨_,cap,rfl,h1,fun i hl=> ?_⟩;obtain ⟨es,h2,h3⟩:=hi i hl;refine ⟨⟨b,0,none⟩,es,rfl,hγ _ b hg,fun j v hv=> ?_,cX.data h t (fun p b hp=>hγ _ b hp) h3⟩;rw [bY,hb.cell,Nat.zero_add];exact h2 j v hv
 | .pair a b,γ,o,cs,x,hγ,⟨c1,c2,e,h1,h2⟩=>⟨c1,c2,e,cX.data h a hγ h1,cX.data h b hγ h2⟩
 | .st t,γ,o,cs,x,hγ,hr=>cX.data h t (o:=o) (cs:=cs) (x:=x) hγ hr
 | .int k,_,_,cs,x,_,hr=>bS.keep (fun b hb=>⟨h b hb,rfl⟩) (.int k) cs x hr
 | .aX k,_,_,cs,x,_,hr=>bS.keep (fun b hb=>⟨h b hb,rfl⟩) (.aX k) cs x hr
 | .bool,_,_,cs,x,_,hr=>bS.keep (fun b hb=>⟨h b hb,rfl⟩) .bool cs x hr
 | .str,_,_,cs,x,_,hr=>bS.keep (fun b hb=>⟨h b hb,rfl⟩) .str cs x hr
 | .sl t,_,_,cs,x,_,hr=>bS.keep (fun b hb=>⟨h b hb,rfl⟩) (.sl t) cs x hr
 | .bx t,_,_,cs,x,_,hr=>bS.keep (fun b hb=>⟨h b hb,rfl⟩) (.bx t) cs x hr
def Ty.top:Ty→Bool
 | .own _=>false
 | .pair a b=>a.top&&b.top
 | .st t=>t.top
 | .sl t=>t.j7
 | .bx t=>t.j7
 |_=>true
theorem cX.rU {S:Nat→Prop}{w:World}: ∀(t:Ty) {γ:List Nat→Option Nat} {o:Nat} {cs:List Value} {x:t.D},t.top=true→bS S w t cs x→cX S w t γ o cs x
 | .own t,_,_,_,_,ht,_=>by cases ht
 | .pair a b,γ,o,cs,x,ht,⟨c1,c2,e,h1,h2⟩=>by
  simp only [Ty.top,Bool.and_eq_true] at ht;exact ⟨c1,c2,e,cX.rU a ht.1 h1,cX.rU b ht.2 h2⟩
 | .st t,γ,o,cs,x,ht,hr=>cX.rU t (o:=o) (cs:=cs) (x:=x) ht hr
 | .int k,_,_,cs,x,_,hr=>hr
 | .aX k,_,_,cs,x,_,hr=>hr
 | .bool,_,_,cs,x,_,hr=>hr
 | .str,_,_,cs,x,_,hr=>hr
 | .sl t,_,_,cs,x,_,hr=>hr
 | .bx t,_,_,cs,x,_,hr=>hr
theorem cX.rep {S:Nat→Prop}{w:World}: ∀(t:Ty) {γ:List Nat→Option Nat} {o:Nat} {cs:List Value} {x:t.D},t.top=true→cX S w t γ o cs x→bS S w t cs x
 | .own t,_,_,_,_,ht,_=>by cases ht
 | .pair a b,γ,o,cs,x,ht,⟨c1,c2,e,h1,h2⟩=>by
  simp only [Ty.top,Bool.and_eq_true] at ht;exact ⟨c1,c2,e,cX.rep a ht.1 h1,cX.rep b ht.2 h2⟩
 | .st t,γ,o,cs,x,ht,hr=>cX.rep t (o:=o) (cs:=cs) (x:=x) ht hr
 | .int k,_,_,cs,x,_,hr=>hr
 | .aX k,_,_,cs,x,_,hr=>hr
 | .bool,_,_,cs,x,_,hr=>hr
 | .str,_,_,cs,x,_,hr=>hr
 | .sl t,_,_,cs,x,_,hr=>hr
 | .bx t,_,_,cs,x,_,hr=>hr
theorem cX.len {S:Nat→Prop}{w:World}: ∀(t:Ty) {γ:List Nat→Option Nat} {o:Nat} {cs:List Value} {x:t.D},cX S w t γ o cs x→cs.length=t.size
 | .own t,_,_,_,_,⟨v,e,_⟩=>by subst e;rfl
 | .pair a b,γ,o,cs,x,⟨c1,c2,e,h1,h2⟩=>by subst e;simp [Ty.size,cX.len a h1,cX.len b h2]
 | .st t,γ,o,cs,x,hr=>cX.len t (o:=o) (cs:=cs) (x:=x) hr
 | .int k,_,_,cs,x,hr=>bS.len (.int k) cs x hr
 | .aX k,_,_,cs,x,hr=>bS.len (.aX k) cs x hr
 | .bool,_,_,cs,x,hr=>bS.len .bool cs x hr
 | .str,_,_,cs,x,hr=>bS.len .str cs x hr
 | .sl t,_,_,cs,x,hr=>bS.len (.sl t) cs x hr
 | .bx t,_,_,cs,x,hr=>bS.len (.bx t) cs x hr
theorem fA.keep {S S':Nat→Prop}{w w':World}(h: ∀b,S b→S' b∧w'.heap[b]? =w.heap[b]?){γ:List Nat→Option Nat}(hγ: ∀p b,γ p=some b→w'.heap[b]? =w.heap[b]?){t:Ty}{xs:List t.D}{arr:Array Value}(hr:fA S w γ t xs arr):fA S' w' γ t xs arr:=
 fun i hi=>let ⟨es,h1,h2⟩:=hr i hi;⟨es,h1,cX.keep h t (fun _ b hp=>hγ _ b hp) h2⟩
theorem fA.data {S S':Nat→Prop}{w:World}(h: ∀b,S b→S' b){γ:List Nat→Option Nat}(hγ: ∀p b,γ p=some b→S' b){t:Ty}{xs:List t.D}{arr:Array Value}(hr:fA S w γ t xs arr):Eb S' w t xs arr:=
 fun i hi=>let ⟨es,h1,h2⟩:=hr i hi;⟨es,h1,cX.data h t (fun _ b hp=>hγ _ b hp) h2⟩
theorem fA.pq {S:Nat→Prop}{w:World}{γ:List Nat→Option Nat}{t:Ty}{xs:List t.D}{arr:Array Value}(ht:t.top=true)(hr:Eb S w t xs arr):fA S w γ t xs arr:=
 fun i hi=>let ⟨es,h1,h2⟩:=hr i hi;⟨es,h1,cX.rU t ht h2⟩
theorem fA.Jh {S:Nat→Prop}{w:World}{γ:List Nat→Option Nat}{t:Ty}{xs:List t.D}{arr:Array Value}(ht:t.top=true)(hr:fA S w γ t xs arr):Eb S w t xs arr:=
 fun i hi=>let ⟨es,h1,h2⟩:=hr i hi;⟨es,h1,cX.rep t ht h2⟩
end Go.Ide
namespace Go.Ide
inductive Mode where
 |au (t:Ty)
 |gO (t:Ty)
 |own (t:Ty)
 |mv (t:Ty)
 |fn
 |nM (t:Ty)
 |nl
inductive Arg where
 |au (t:Ty) (x:t.D)
 |gO (t:Ty) (x:t.D)
 |own (t:Ty) (x:t.D)
 |mv (t:Ty) (x:t.D)
 |fn (f:FuncId)
 |nM (f:FuncId) (t:Ty) (x:t.D)
 |nl
structure TD where
 t:Ty
 x:t.D
structure RV where
 fresh:Bool
 t:Ty
 x:t.D
inductive Hint where
 |no
 |tv (b:Bool)
 |ty (t:Ty)
 |Wm (t:Ty)
 |rB
 |call (ms:List Mode) (rs:List RV) (outs:List TD)
def Ty.flat:Ty→Bool
 | .sl _=>false
 | .own _=>false
 | .bx _=>false
 | .pair a b=>a.flat&&b.flat
 | .st t=>t.flat
 |_=>true
def Ty.iZ:Ty→Bool
 | .sl _=>false
 | .bx _=>false
 | .own t=>t.iZ
 | .pair a b=>a.iZ&&b.iZ
 | .st t=>t.iZ
 |_=>true
def Ty.lb:Ty→Bool
 | .sl t=>t.iZ
 | .own t=>t.iZ
 | .bx t=>t.iZ
 | .pair a b=>a.lb&&b.lb
 | .st t=>t.lb
 |_=>true
def RV.u6 (r:RV):Bool:=if r.fresh then r.t.lb else r.t.flat
def dA (m:Mem):(t:Ty)→List aA→Option (List Nat×List aA)
 | .pair a b,cs=>match dA m a cs with
  |some (x,r)=>(match dA m b r with
   |some (y,r')=>some (x++y,r')
   |none=>none)
  |none=>none
 | .st t,cs=>dA m t cs
 | .sl t,cs=>match cs with
  | .all c::r=>(match lk c m with
   |some (.seq e _)=>if e=t then some ([c],r) else none
   |_=>none)
  | .ar::r=>some ([],r)
  |_=>none
 | .own t,cs=>match cs with
  | .all c::r=>(match lk c m with
   |some (.seq e _)=>if e=t then some ([c],r) else none
   |_=>none)
  | .ar::r=>some ([],r)
  |_=>none
 | .bx t,cs=>match cs with
  | .iy c i sz off::r=>(match lk c m with
   |some (.seq e _)=>if e=t then some ([c],r) else none
   |_=>none)
  |_=>none
 |_,cs=>match cs with
  | .aq _ _::r=>some ([],r)
  |_=>none
def lE:(t:Ty)→List aA→Option (List Nat×List aA)
 | .pair a b,cs=>match lE a cs with
  |some (x,r)=>(match lE b r with
   |some (y,r')=>some (x++y,r')
   |none=>none)
  |none=>none
 | .st t,cs=>lE t cs
 | .sl _,cs=>match cs with
  | .all c::r=>some ([c],r)
  | .ar::r=>some ([],r)
  |_=>none
 | .own _,cs=>match cs with
  | .all c::r=>some ([c],r)
  | .ar::r=>some ([],r)
  |_=>none
 | .bx _,cs=>match cs with
  | .iy c i sz off::r=>some ([c],r)
  |_=>none
 |_,cs=>match cs with
  | .aq _ _::r=>some ([],r)
  |_=>none
structure ca where
 val:aE
 new:Mem
 mu:Mem
 cond:List Prop
def bH:List Prop→Prop
 |[]=>True
 |p::r=>p∧bH r
theorem bH.append: ∀{a b:List Prop},bH (a++b)→bH a∧bH b
 |[],_,h=>⟨trivial,h⟩
 |_::_,_,h=>⟨⟨h.1,(bH.append h.2).1⟩,(bH.append h.2).2⟩
def bZ (v:aE):Option ca:=some ⟨v,[],[],[]⟩
def gM (v:aE)(cs:List Prop):Option ca:=some ⟨v,[],[],cs⟩
def TA:Value→aA
 | .int k n=> .aq (.int k) n
 | .bool b=> .aq .bool b
 | .float k b=> .aq (.aX k) (bw k b)
 | .string s=> .aq .str s.data.toList
 | .slice none 0 0=> .ar
 | .agg _=> .bad
 | .tuple _=> .bad
 |_=> .jk
def rV:Value→aE
 | .agg cs=> .agg (cs.toList.map TA)
 | .tuple _=> .jk
 |v=> .one (TA v)
def ev (fr:Fr):Operand→Option aE
 | .tmp t=>lk t fr
 | .const v=>some (rV v)
 | .func f=>some (.one (.fn f))
 | .global _=>none
def Cq (P:Program)(T:TypeId):Option Bool:=
 match P.underlying T with
 |some (.struct _)=>some true
 |some (.array _ _)=>some true
 |some _=>some false
 |none=>none
def dq (P:Program)(T:TypeId):Option Nat:=(P.info? T).map (·.size)
def Pu (ag:Bool)(cs:List aA):Option aE:=
 match ag,cs with
 |true,cs=>some (.agg cs)
 |false,[c]=>some (.one c)
 |_,_=>none
def nN (m:Mem)(n:Nat):aA→Option (List aA×List Prop)
 | .ptr c off=>match lk c m with
  |some (.box cs)=>bif Nat.ble (off+n) cs.length then some ((cs.drop off).take n,[]) else none
  |_=>none
 | .iy c i sz off=>none
 | .ip t x off=>bif Nat.ble (off+n) (il t x).length then some (((il t x).drop off).take n,[]) else none
 |_=>none
def pN (P:Program)(m:Mem)(T:TypeId)(v:aE):Option ca:=
 match v,dq P T,Cq P T with
 | .one (.iy c i sz off),some n,some ag=>(match lk c m with
  |some (.seq t xs)=>bif Nat.ble (off+n) t.size&&Nat.beq sz t.size then
   (match Pu ag (((Bx c i t 0 (xs.getD i t.gd)).drop off).take n) with
   |some r=>gM r [i<xs.length]
   |none=>none) else none
  |some (.rB t xs j cs _)=>bif Nat.ble (off+n) t.size&&Nat.beq sz t.size then
   (match Pu ag ((cs.drop off).take n) with
   |some r=>gM r [i=j]
   |none=>none) else none
  |_=>none)
 | .one (.AW c i o j sz off),some n,some ag=>(match lk c m with
  |some (.seq t xs)=>(match eJ t (xs.getD i t.gd) o with
   |some ⟨e,ys⟩=>bif (Nat.ble (off+n) e.size&&Nat.beq sz e.size)&&e.top then
    (match Pu ag (((il e (ys.getD j e.gd)).drop off).take n) with
    |some r=>gM r [j<ys.length]
    |none=>none) else none
   |none=>none)
  |_=>none)
 | .one c,some n,some ag=>(match nN m n c with
  |some (cs,_)=>(match Pu ag cs with
   |some r=>bZ r
   |none=>none)
  |none=>none)
 |_,_,_=>none
def aA.Kw:aA→Bool
 | .aq (.own _) _=>false
 |_=>true
def qy (P:Program)(m:Mem)(T:TypeId)(a v:aE):Option ca:=
 match a,dq P T with
 | .one (.ptr c off),some n=>(match lk c m with
  |some (.box cs)=>bif (Nat.beq v.cells.length n&&Nat.ble (off+n) cs.length)&&v.ok then some ⟨.jk,[],[(c,.box (cs.take off++v.cells++cs.drop (off+n)))],[]⟩ else none
  |_=>none)
 | .one (.iy c i sz off),some n=>(match lk c m with
  |some (.seq t xs)=>bif (Nat.beq v.cells.length n&&Nat.ble (off+n) t.size)&&(Nat.beq sz t.size&&v.ok)&&v.cells.all aA.Kw then
   (match impl [] t ((il t (xs.getD i t.gd)).take off++v.cells++(il t (xs.getD i t.gd)).drop (off+n)) with
   |some (x,[])=>some ⟨.jk,[],[(c,.seq t (xs.set i x))],[i<xs.length]⟩
   |_=>none) else none
  |some (.rB t xs j cs ks)=>bif (Nat.beq v.cells.length n&&Nat.ble (off+n) t.size)&&(Nat.beq sz t.size&&v.ok) then
   some ⟨.jk,[],[(c,.rB t xs j (cs.take off++v.cells++cs.drop (off+n)) ks)],[i=j]⟩ else none
  |_=>none)
 | .one (.AW c i o j sz off),some n=>(match lk c m with
  |some (.seq t xs)=>(match eJ t (xs.getD i t.gd) o with
   |some ⟨e,ys⟩=>bif (Nat.beq v.cells.length n&&Nat.ble (off+n) e.size)&&(Nat.beq sz e.size&&v.ok)&&e.top then
    (match impl [] e ((il e (ys.getD j e.gd)).take off++v.cells++(il e (ys.getD j e.gd)).drop (off+n)) with
    |some (y,[])=>some ⟨.jk,[],[(c,.seq t (xs.set i (wm t (xs.getD i t.gd) o e (ys.set j y))))],[j<ys.length]⟩
    |_=>none) else none
   |none=>none)
  |_=>none)
 |_,_=>none
def kH (P:Program)(m:Mem)(T:TypeId)(x i:aE):Option ca:=
 match P.underlying T,i with
 |some (.slice e),.one (.aq (.int _) n)=>(match x,dq P e with
  | .one (.aq (.sl t) xs),some k=>bif Nat.beq k t.size then gM (.one (.ip t (xs.getD (Int.toNat n) t.gd) 0)) [(0:Int)≤n∧n<((List.length xs:Nat):Int)] else none
  | .one (.all c),some k=>(match lk c m with
   |some (.seq t xs)=>bif Nat.beq k t.size then gM (.one (.iy c (Int.toNat n) k 0)) [(0:Int)≤n∧n<((List.length xs:Nat):Int)] else none
   |some (.rB t xs _ _ _)=>bif Nat.beq k t.size then gM (.one (.iy c (Int.toNat n) k 0)) [(0:Int)≤n∧n<((List.length xs:Nat):Int)] else none
   |_=>none)
  | .one (.row c i o),some k=>(match lk c m with
   |some (.seq t xs)=>(match eJ t (xs.getD i t.gd) o with
    |some ⟨e,ys⟩=>bif Nat.beq k e.size then gM (.one (.AW c i o (Int.toNat n) k 0)) [(0:Int)≤n∧n<((List.length ys:Nat):Int)] else none
    |none=>none)
   |_=>none)
  | .one (.ref c off len),some k=>(match lk c m with
   |some (.seq t _)=>bif Nat.beq k t.size then gM (.one (.iy c (off+Int.toNat n) k 0)) [(0:Int)≤n∧n<(len:Int)] else none
   |_=>none)
  |_,_=>none)
 |_,_=>none
def qz (P:Program)(T:TypeId)(x:aE)(f:Nat):Option ca:=
 match P.underlying T with
 |some (.struct fs)=>(match fs[f]? with
  |some fd=>(match x,dq P fd.type with
   | .one (.ptr c off),some (_+1)=>bZ (.one (.ptr c (off+fd.offset)))
   | .one (.ip t y off),some (_+1)=>bZ (.one (.ip t y (off+fd.offset)))
   | .one (.iy c i sz off),some (_+1)=>bZ (.one (.iy c i sz (off+fd.offset)))
   | .one (.AW c i o j sz off),some (_+1)=>bZ (.one (.AW c i o j sz (off+fd.offset)))
   |_,_=>none)
  |none=>none)
 |_=>none
def ug (m:Mem):aE→Option ca
 | .one (.aq (.sl _) xs)=>bZ (.one (.aq (.int .i64) ((List.length xs:Nat):Int)))
 | .one (.aq .str xs)=>bZ (.one (.aq (.int .i64) ((List.length xs:Nat):Int)))
 | .one (.all c)=>match lk c m with
  |some (.seq _ xs)=>bZ (.one (.aq (.int .i64) ((List.length xs:Nat):Int)))
  |some (.rB _ xs _ _ _)=>bZ (.one (.aq (.int .i64) ((List.length xs:Nat):Int)))
  |_=>none
 | .one (.row c i o)=>match lk c m with
  |some (.seq t xs)=>(match eJ t (xs.getD i t.gd) o with
   |some ⟨_,ys⟩=>bZ (.one (.aq (.int .i64) ((List.length ys:Nat):Int)))
   |none=>none)
  |_=>none
 | .one (.ref c _ len)=>match lk c m with
  |some (.seq _ _)=>bZ (.one (.aq (.int .i64) ((len:Nat):Int)))
  |_=>none
 | .one .ar=>bZ (.one (.aq (.int .i64) (0:Int)))
 |_=>none
def nO (m:Mem)(t:Ty):aE→Option (List t.D×List (Nat×Chunk))
 | .one .ar=>some ([],[])
 | .one (.all c)=>match lk c m with
  |some (.seq t' xs)=>if h:t'=t then some (cG (congrArg Ty.sl h) xs,[(c,.gone)]) else none
  |_=>none
 | .one (.ref c 0 len)=>match lk c m with
  |some (.seq t' xs)=>if h:t'=t then some (cG (congrArg Ty.sl h) (xs.take len),[(c,.gone)]) else none
  |_=>none
 |_=>none
def bO:Nat:=4294967296
def nJ (m:Mem):aE→Bool
 | .one (.all c)=>(match lk c m with
  |some (.seq t _)=>t.top
  |_=>false)
 | .one (.row _ _ _)=>false
 |_=>true
def sO (P:Program)(m:Mem)(nx:Nat)(T T':TypeId)(t:Ty)(s x:aE):Option ca:=
 match P.underlying T with
 |some (.slice e)=>(match P.info? e with
  |some i=>bif ((Nat.beq T T'&&Nat.beq i.size t.size)&&(Nat.ble i.bytes 32768&&i.zero.isSome)&&(i.zero.map fun z=>Nat.beq z.cells.size t.size).getD false)&&(t.top&&nJ m x) then
   (match nO m t s,mr m (.sl t) x with
   |some (xs,up),some ys=>some ⟨.one (.all nx),[(nx,.seq t (xs++ys))],up,[List.length xs+List.length ys≤bO]⟩
   |_,_=>none) else none
  |none=>none)
 |_=>none
def FZ (P:Program)(nx:Nat)(T:TypeId):Option ca:=
 match P.info? T with
 |some i=>(match i.zero with
  |some z=>bif (rV z).ok then some ⟨.one (.ptr nx 0),[(nx,.box (rV z).cells)],[],[]⟩ else none
  |none=>none)
 |none=>none
def NF (nx:Nat)(v:aE):Option ca:=
 match v with
 | .one c=>bif c.ok then some ⟨.one (.ptr nx 0),[(nx,.box [c])],[],[]⟩ else none
 | .agg cs=>bif cs.all aA.ok then some ⟨.one (.ptr nx 0),[(nx,.box cs)],[],[]⟩ else none
 |_=>none
def Ec (place:Nat→Option (Nat×Nat))(cells:List aA):List (Nat×aE)→Option (List aA)
 |[]=>some cells
 |(i,v)::rest=>match place i with
  |none=>none
  |some (off,size)=>bif (Nat.beq v.cells.length size&&Nat.ble (off+v.cells.length) cells.length)&&v.ok then
   Ec place (cells.take off++v.cells++cells.drop (off+v.cells.length)) rest else none
def AX (fr:Fr):List (Nat×Operand)→Option (List (Nat×aE))
 |[]=>some []
 |(i,x)::r=>match ev fr x,AX fr r with
  |some v,some l=>some ((i,v)::l)
  |_,_=>none
def sP (P:Program):List Field→Option (List (Nat×Nat))
 |[]=>some []
 |f::r=>match dq P f.type,sP P r with
  |some n,some l=>some ((f.offset,n)::l)
  |_,_=>none
def F3 (P:Program)(T:TypeId)(parts:List (Nat×aE)):Option ca:=
 match P.info? T,P.underlying T with
 |some i,some (.struct fs)=>(match i.zero,sP P fs.toList with
  |some z,some pl=>bif (rV z).ok then (match Ec (fun j=>pl[j]?) (rV z).cells parts with
   |some cs=>bZ (.agg cs)
   |none=>none) else none
  |_,_=>none)
 |_,_=>none
def wo (t:Ty):Nat→List (Nat×aE)→Option (List t.D)
 |_,[]=>some []
 |i,(j,v)::r=>bif Nat.beq i j then (match mr [] t v,wo t (i+1) r with
  |some x,some l=>some (x::l)
  |_,_=>none) else none
def mw:List Nat→Bool
 |[]=>true
 |k::r=>(r.all fun q=> !Nat.beq k q)&&mw r
def rW (P:Program)(nx:Nat)(T:TypeId)(t:Ty)(len:Nat)(parts:List (Nat×aE)):Option ca:=
 match P.underlying T with
 |some (.slice e)=>bif ((dq P e==some t.size&&(((P.info? e).bind (·.zero)).map fun z=>Nat.beq z.cells.size t.size)==some true)&&(Nat.beq parts.length len&&Nat.ble (len*t.size) 65536))&&t.top then
  (match wo t 0 parts with
  |some xs=>some ⟨.one (.all nx),[(nx,.seq t xs)],[],[]⟩
  |none=>none) else none
 |_=>none
def F4 (P:Program)(T:TypeId)(len:Nat)(parts:List (Nat×aE)):Option ca:=
 match P.underlying T with
 |some (.slice e)=>bif ((dq P e).isSome&&Nat.beq len 0)&&parts.isEmpty then bZ (.one .ar) else none
 |_=>none
def HP (P:Program)(T:TypeId)(t:Ty):Option t.D:=
 match P.info? T with
 |some i=>(match i.zero with
  |some z=>if t.top then mr [] t (rV z) else if (rV z).ok then (match mj [] t (rV z).cells with
   |some ((x,[]),[])=>some x
   |_=>none) else none
  |none=>none)
 |none=>none
def uh (P:Program)(nx:Nat)(T:TypeId)(t:Ty)(len cap:aE):Option ca:=
 match P.underlying T,len,cap with
 |some (.slice e),.one (.aq (.int _) n),.one (.aq (.int _) c)=>(match P.info? e,HP P e t with
  |some i,some z=>bif Nat.beq i.size t.size&&Nat.ble i.bytes 32768 then
   some ⟨.one (.all nx),[(nx,.seq t (List.replicate (Int.toNat n) z))],[],[(0:Int)≤n∧n≤c∧(c:Int)≤4294967296]⟩ else none
  |_,_=>none)
 |_,_,_=>none
def Pv:Option aE→Option Int
 |none=>some 0
 |some (.one (.aq (.int _) n))=>some n
 |_=>none
def Qn (len:Nat):Option aE→Option Int
 |none=>some (len:Int)
 |some (.one (.aq (.int _) n))=>some n
 |_=>none
def cut {α:Type}(xs:List α)(lo hi:Int):List α:=(xs.drop lo.toNat).take (hi.toNat - lo.toNat)
def ui (P:Program)(m:Mem)(T:TypeId)(x:aE)(lo hi:Option aE):Option ca:=
 match P.underlying T,x with
 |some .string,.one (.aq .str xs)=>(match Pv lo,Qn (List.length xs) hi with
  |some l,some h=>gM (.one (.aq .str (cut xs l h))) [(0:Int)≤l∧l≤h∧h≤((List.length xs:Nat):Int)]
  |_,_=>none)
 |some (.slice e),.one .ar=>(match Pv lo,Qn 0 hi with
  |some l,some h=>bif (dq P e).isSome then gM (.one .ar) [(0:Int)≤l∧l≤h∧h≤0] else none
  |_,_=>none)
 |some (.slice e),.one (.aq (.sl t) xs)=>(match Pv lo,Qn (List.length xs) hi with
  |some l,some h=>bif dq P e==some t.size then gM (.one (.aq (.sl t) (cut xs l h))) [(0:Int)≤l∧l≤h∧h≤((List.length xs:Nat):Int)] else none
  |_,_=>none)
 |some (.slice e),.one (.all c)=>(match lk c m with
  |some (.seq t xs)=>(match Pv lo,Qn (List.length xs) hi with
   |some l,some h=>bif dq P e==some t.size then gM (.one (.ref c l.toNat (h.toNat - l.toNat))) [(0:Int)≤l∧l≤h∧h≤((List.length xs:Nat):Int)] else none
   |_,_=>none)
  |_=>none)
 |some (.slice e),.one (.ref c off len)=>(match lk c m with
  |some (.seq t _)=>(match Pv lo,Qn len hi with
   |some l,some h=>bif dq P e==some t.size then gM (.one (.ref c (off+l.toNat) (h.toNat - l.toNat))) [(0:Int)≤l∧l≤h∧h≤(len:Int)] else none
   |_,_=>none)
  |_=>none)
 |_,_=>none
def Pw (op:BinOp)(k:IntKind)(x y:Int):Option Int:=
 match op with
 | .and=>some (k.wrap (BitVec.ofInt k.bits x&&& BitVec.ofInt k.bits y).toNat)
 | .or=>some (k.wrap (BitVec.ofInt k.bits x|||BitVec.ofInt k.bits y).toNat)
 | .xor=>some (k.wrap (BitVec.ofInt k.bits x^^^BitVec.ofInt k.bits y).toNat)
 | .andNot=>some (k.wrap (BitVec.ofInt k.bits x&&& ~~~(BitVec.ofInt k.bits y)).toNat)
 |_=>none
def NG (op:BinOp)(k:IntKind)(x y:Int):Option ca:=
 match op with
 | .add=>bZ (.one (.aq (.int k) (k.wrap (x+y))))
 | .sub=>bZ (.one (.aq (.int k) (k.wrap (x - y))))
 | .mul=>bZ (.one (.aq (.int k) (k.wrap (x*y))))
 | .quo=>gM (.one (.aq (.int k) (k.wrap (x.tdiv y)))) [y≠0]
 | .rem=>gM (.one (.aq (.int k) (x.tmod y))) [y≠0]
 | .eql=>bZ (.one (.aq .bool (x==y)))
 | .neq=>bZ (.one (.aq .bool (x != y)))
 | .lss=>bZ (.one (.aq .bool (decide (x<y))))
 | .leq=>bZ (.one (.aq .bool (decide (x≤y))))
 | .gtr=>bZ (.one (.aq .bool (decide (x>y))))
 | .geq=>bZ (.one (.aq .bool (decide (x≥y))))
 |op=>match Pw op k x y with
  |some r=>bZ (.one (.aq (.int k) r))
  |none=>none
def F5 (op:BinOp)(k:IntKind)(x y:Int):Option ca:=
 match op with
 | .shl=>gM (.one (.aq (.int k) (k.wrap (x*2^(min y.toNat k.bits))))) [(0:Int)≤y]
 | .shr=>gM (.one (.aq (.int k) (x.fdiv (2^(min y.toNat k.bits))))) [(0:Int)≤y]
 |_=>none
def Qo (op:BinOp)(x y:List UInt8):Option ca:=
 match op with
 | .eql=>bZ (.one (.aq .bool (x==y)))
 | .neq=>bZ (.one (.aq .bool (x != y)))
 | .add=>gM (.one (.aq .str (x++y))) [x.length+y.length≤bO]
 | .lss=>bZ (.one (.aq .bool (Op.bytesLess x y)))
 |_=>none
def yq:BinOp→Bool
 | .shl=>true
 | .shr=>true
 |_=>false
def Ji (P:Program)(T:TypeId)(op:BinOp)(x y:aE):Option ca:=
 match x,y with
 | .one (.aq (.int k) a),.one (.aq (.int k') b)=>if yq op then F5 op k a b else if k=k' then NG op k a b else none
 | .one (.aq .str a),.one (.aq .str b)=>Qo op a b
 | .one (.aq .bool a),.one (.aq .bool b)=>(match op,P.underlying T with
  | .eql,some .bool=>bZ (.one (.aq .bool (a==b)))
  | .neq,some .bool=>bZ (.one (.aq .bool (a != b)))
  |_,_=>none)
 |_,_=>none
def VE (op:UnOp)(x:aE):Option ca:=
 match op,x with
 | .not,.one (.aq .bool b)=>bZ (.one (.aq .bool (!b)))
 | .neg,.one (.aq (.int k) n)=>bZ (.one (.aq (.int k) (k.wrap (0 - n))))
 |_,_=>none
def yQ (P:Program)(T U:TypeId)(x:aE):Option ca:=
 match P.underlying T,P.underlying U,x with
 |some (.int _),some (.int k),.one (.aq (.int _) n)=>bZ (.one (.aq (.int k) (k.wrap n)))
 |some .string,some .string,.one (.aq .str s)=>bZ (.one (.aq .str s))
 |_,_,_=>none
def u7 (x:aE)(i:Nat):Option ca:=
 match x with
 | .HM ts=>(match ts[i]? with
  |some (ag,cs)=>(match Pu ag cs with
   |some v=>bZ v
   |none=>none)
  |none=>none)
 |_=>none
def Kx (b:Bool)(c x y:aE):Option ca:=
 match c with
 | .one (.aq .bool t)=>gM (if b then x else y) [t=b]
 |_=>none
def Qp (x y:aE):Option ca:=
 match x,y with
 | .one (.aq (.int k) a),.one (.aq (.int k') b)=>if k=k' then bZ (.one (.aq (.int k) (if b<a then b else a))) else none
 |_,_=>none
def Qq (x y:aE):Option ca:=
 match x,y with
 | .one (.aq (.int k) a),.one (.aq (.int k') b)=>if k=k' then bZ (.one (.aq (.int k) (if b>a then b else a))) else none
 |_,_=>none
end Go.Ide
namespace Go.Ide
theorem aS {α:Type}(k k':Nat)(v:α)(l:List (Nat×α)):lk k ((k',v)::l)=if k=k' then some v else lk k l:=by
 simp only [lk];by_cases h:k=k';subst h;simp;have:Nat.beq k k'=false:=by rw [←Bool.not_eq_true];intro e;exact h (Nat.eq_of_beq_eq_true e)
 rw [if_neg h,this];rfl
theorem gI {α:Type}(k:Nat):lk k ([]:List (Nat×α))=none:=rfl
theorem bQ {α:Type}(k:Nat)(l l':List (Nat×α)):lk k (l++l')=(lk k l).or (lk k l'):=by
 induction l with
 |nil=>simp [gI]
 |cons p l ih=>
  obtain ⟨k',v⟩:=p;rw [List.cons_append,aS,aS,ih];split<;>simp
def St.put (st:St)(d:Option Tmp)(v:aE):St:=
 match d with
 |some t=>{st with fr:=(t,v)::st.fr}
 |none=>st
def St.my (st:St)(m:Mem)(nx:Nat):St:=⟨st.fr,m,nx⟩
section
variable {cx:Cx} {g g':GM} {st:St} {a:Act} {w w':World}
theorem dw.put (h:dw cx g st a w){v:aE}{val:Value}(hv:VR g st.mem (cx.safe g st.mem w) w v val)(d:Option Tmp)(hd: ∀t,d=some t→t<cx.N):
 dw cx g (st.put d v) (a.put d val) w:=by
 cases d with
 |none=>exact h
 |some t=>
  have ht:t<a.tmps.size:=by rw [h.size];exact hd t rfl
  refine ⟨h.defers,by simp [Act.put,h.size],fun t' v' hl=> ?_,h.mem,h.lz,h.rC,h.lt,h.keep,h.own,h.gl⟩;simp only [St.put] at hl;rw [aS] at hl;simp only [Act.put,Array.getD_eq_getD_getElem?,Array.getElem?_setIfInBounds];by_cases he:t'=t;subst he;rw [if_pos rfl] at hl;injection hl with hl;subst hl;simpa [ht,St.put] using hv;rw [if_neg he] at hl;rw [if_neg (fun e=>he e.symm)];have:=h.fr t' v' hl;simpa [Array.getD_eq_getD_getElem?,St.put] using this
def Chunk.yR (ch:Chunk)(t:Ty)(xs:List t.D):Prop:=ch= .seq t xs∨ ∃i cs ks,ch= .rB t xs i cs ks
theorem dM.of {m:Mem}{c:Nat}{ch:Chunk}{t:Ty}{xs:List t.D}(h:lk c m=some ch):dM m c t xs↔ch.yR t xs:=by
 unfold dM Chunk.yR;rw [h];simp
structure AY (cx:Cx)(g g':GM)(m m':Mem)(w w':World)(G:List Nat):Prop where
 keep:bK G w w'
 live: ∀b,b∈G→Live g m b
 addr: ∀k,lk k m≠none→g'.f k=g.f k
 old: ∀k ch,lk k m=some ch→
  (lk k m'=some ch∧(∀p b,ch.owns p→g.f k p=some b→b ∉ G))∨
  (lk k m'=some .gone)∨
  (ch≠ .gone∧(∃jM,lk k m'=some jM∧jM≠ .gone∧(∀p,jM.owns p→ch.owns p)∧(∀t xs,jM.yR t xs→ ∃cE,ch.yR t cE∧cE.length=xs.length)∧
   (∀t cE,jM= .seq t cE→ ∃xs,ch= .seq t xs∧cl t xs cE)∧
   (∀p b arr,ch.owns p→g.f k p=some b→dy w b arr→ ∃aG,dy w' b aG∧aG.size=arr.size)∧
   kd g' m' (cx.safe g' m' w') w' (g'.f k) jM))
 new: ∀k ch,lk k m=none→lk k m'=some ch→kd g' m' (cx.safe g' m' w') w' (g'.f k) ch∧
  (∀p b,ch.owns p→g'.f k p=some b→(w.heap.size≤b∨b∈G)∧b<w'.heap.size∧ ∀k' p' jM,lk k' m'=some jM→jM.owns p'→g'.f k' p'=some b→k'=k∧p'=p)
theorem AY.yS {G:List Nat}{m m':Mem}(t:AY cx g g' m m' w w' G){k:Nat}{ch jM:Chunk}(h:lk k m=some ch)(h':lk k m'=some jM){p:List Nat}(hn:jM.owns p):ch.owns p:=by
 rcases t.old k _ h with ⟨e,_⟩|e|⟨hc,c',e,_,ho,_⟩
 rw [h'] at e;injection e with e;subst e;exact hn
 rw [h'] at e;injection e with e;subst e;exact hn.elim
 rw [h'] at e;injection e with e;subst e;exact ho p hn
theorem AY.stays {G:List Nat}{m m':Mem}(t:AY cx g g' m m' w w' G):
 nI g g' m m' (cx.safe g m w) (cx.safe g' m' w') w w':=by
 refine ⟨⟨fun b hs=> ?_,fun c hc=>⟨?_,congrFun (t.addr c hc) []⟩,fun c ty xs hc hl=> ?_,fun c ty xs b arr hc hl hg hb=> ?_⟩,t.addr,fun c ty cE hc hl=> ?_⟩;obtain ⟨h1,h2,h3⟩:=hs;have hG:b ∉ G:=fun hb=>h3 (t.live b hb);refine ⟨⟨Nat.lt_of_lt_of_le h1 t.keep.size,h2,?_⟩,t.keep.block b h1 hG⟩;rintro ⟨k,p,ch,hk,hn,hg⟩;cases ho:lk k m with
 |none=>
  rcases ((t.new k ch ho hk).2 p b hn hg).1 with hx|hx
  omega;exact hG hx
 |some c0=>
  exact h3 ⟨k,p,c0,ho,t.yS ho hk hn,by rw [←t.addr k (by rw [ho];simp)];exact hg⟩
 cases ho:lk c m with
 |none=>exact absurd ho hc
 |some c0=>
  rcases t.old c _ ho with ⟨e,_⟩|e|⟨_,c',e,_⟩<;>rw [e]<;>simp
 cases ho:lk c m with
 |none=>exact absurd ho hc
 |some c0=>
  rcases t.old c _ ho with ⟨e,_⟩|e|⟨_,c',e,_,_,h3,_⟩
  exact ⟨xs,(dM.of ho).2 ((dM.of e).1 hl),rfl⟩;have:=(dM.of e).1 hl;rcases this with h|⟨_,_,_,h⟩<;>cases h
  obtain ⟨cE,e',hlen⟩:=h3 ty xs ((dM.of e).1 hl);exact ⟨cE,(dM.of ho).2 e',hlen⟩
 cases ho:lk c m with
 |none=>exact absurd ho hc
 |some c0=>
  rcases t.old c _ ho with ⟨e,hk⟩|e|⟨hn,c',e,_,_,_,_,h4,_⟩
  have hs:=(dM.of e).1 hl;exact ⟨arr,hb.keep (t.keep.block b hb.lt (hk [] b (by rcases hs with rfl|⟨i,cs,ks,rfl⟩<;>first|trivial|(intro o r e;cases e)) hg)),rfl⟩;have:=(dM.of e).1 hl;rcases this with h|⟨_,_,_,h⟩<;>cases h
  exact h4 [] b arr (Chunk.yP hn) hg hb
 cases ho:lk c m with
 |none=>exact absurd ho hc
 |some c0=>
  rcases t.old c _ ho with ⟨e,hk⟩|e|⟨_,c',e,_,_,_,h5,h4,_⟩
  rw [hl] at e;injection e with e;subst e
  exact ⟨cE,rfl,cl.refl _ _,fun i o b arr hg hb=>⟨arr,hb.keep (t.keep.block b hb.lt (hk [i,o] b trivial hg)),rfl⟩⟩;rw [hl] at e;cases e;rw [hl] at e;injection e with e;subst e
  obtain ⟨xs,rfl,hs⟩:=h5 ty cE rfl;exact ⟨xs,rfl,hs,fun i o b arr hg hb=>h4 [i,o] b arr trivial hg hb⟩
theorem kd.stays {m m':Mem}{S S':Nat→Prop}(h:nI g g' m m' S S' w w'){γ:List Nat→Option Nat}{ch:Chunk}(hb: ∀p b,ch.owns p→γ p=some b→w'.heap[b]? =w.heap[b]?)(hr:kd g m S w γ ch):kd g' m' S' w' γ ch:=by
 cases ch with
 |gone=>trivial
 |box cs=>
  obtain ⟨b,arr,e,jL,hc⟩:=hr;exact ⟨b,arr,e,jL.keep (hb [] b trivial e),hc.mono fun _ _=>CR.stays h⟩
 |seq t xs=>
  cases hγ:γ [] with
  |none=>simp only [kd,hγ] at hr⊢;exact hr
  |some b=>
   simp only [kd,hγ] at hr⊢;obtain ⟨arr,jL,he⟩:=hr;exact ⟨arr,jL.keep (hb [] b trivial hγ),he.keep h.safe fun p b hp=>hb p b trivial hp⟩
 |rB t xs i cs ks=>
  obtain ⟨HQ,b,arr,e,jL,hi,hj,es,h1,h2,h3⟩:=hr;refine ⟨HQ.mono fun o k hk=>⟨(h.u5 k hk.1).1,(h.HO k hk.1).trans hk.2⟩,b,arr,e,jL.keep (hb [] b (by intro o r e;cases e) e),hi,fun j hl jq=> ?_,es,h1,h2,h3.mono fun _ _=>CR.stays h⟩;obtain ⟨es,k1,k2⟩:=hj j hl jq;exact ⟨es,k1,cX.keep h.safe t (fun p b hp=>hb (j::p) b (by intro o r e;injection e with e;exact absurd e jq) hp) k2⟩
theorem dw.AZ {G:List Nat}{m':Mem}{nx':Nat}(h:dw cx g st a w)(t:AY cx g g' st.mem m' w w' G):
 dw cx g' (st.my m' nx') a w':=by
 have hs:=t.stays;refine ⟨h.defers.keep hs.safe,h.size,fun t' v hl=>VR.stays hs (h.fr t' v hl),fun k ch hk=> ?_,?_,fun k p ch b hk hn hg=> ?_,fun k p ch b hk hn hg=> ?_,?_,fun p hp=>⟨(t.addr p.1 (h.own p hp).2).trans (h.own p hp).1,(hs.u5 p.1 (h.own p hp).2).1⟩,h.gl⟩;change lk k m'=some ch at hk;cases ho:lk k st.mem with
 |none=>exact (t.new k ch ho hk).1
 |some c0=>
  have qp:=t.addr k (by rw [ho];simp);rcases t.old k _ ho with ⟨e,hb⟩|e|⟨_,c',e,_,_,_,_,_,h5⟩
  rw [hk] at e;injection e with e;subst e
  rw [qp];refine kd.stays hs (fun p b hn hg=> ?_) (h.mem k ch ho);exact t.keep.block b (h.lt k p ch b ho hn hg) (hb p b hn hg);rw [hk] at e;injection e with e;subst e;trivial
  rw [hk] at e;injection e with e;subst e;exact h5
 intro k k' p p' ch jM b hk hn gP Cr hg j8;change lk k m'=some ch at hk;change lk k' m'=some jM at gP;cases ho:lk k st.mem with
 |none=>
  have:=((t.new k ch ho hk).2 p b hn hg).2.2 k' p' jM gP Cr j8;exact ⟨this.1.symm,this.2.symm⟩
 |some c0=>
  cases xx:lk k' st.mem with
  |none=>exact ((t.new k' jM xx gP).2 p' b Cr j8).2.2 k p ch hk hn hg
  |some c0'=>
   refine h.lz k k' p p' c0 c0' b ho (t.yS ho hk hn) xx (t.yS xx gP Cr) ?_ ?_;rw [←t.addr k (by rw [ho];simp)];exact hg;rw [←t.addr k' (by rw [xx];simp)];exact j8
 change lk k m'=some ch at hk;cases ho:lk k st.mem with
 |none=>
  rcases ((t.new k ch ho hk).2 p b hn hg).1 with hx|hx
  exact .inl (Nat.le_trans h.keep.size hx);obtain ⟨k2,p2,c2,h2,ld,u9⟩:=t.live b hx;exact h.rC k2 p2 c2 b h2 ld u9
 |some c0=>
  exact h.rC k p c0 b ho (t.yS ho hk hn) (by rw [←t.addr k (by rw [ho];simp)];exact hg)
 change lk k m'=some ch at hk;cases ho:lk k st.mem with
 |none=>exact ((t.new k ch ho hk).2 p b hn hg).2.1
 |some c0=>exact Nat.lt_of_lt_of_le (h.lt k p c0 b ho (t.yS ho hk hn) (by rw [←t.addr k (by rw [ho];simp)];exact hg)) t.keep.size
 refine ⟨t.keep.os.trans h.keep.os,t.keep.tape.trans h.keep.tape,t.keep.output.trans h.keep.output,Nat.le_trans h.keep.size t.keep.size,fun b hb hf=> ?_,
  fun b arr hb=>let ⟨arr1,h1,e1⟩:=h.keep.sz b arr hb;let ⟨qx,h2,e2⟩:=t.keep.sz b arr1 h1;⟨qx,h2,e2.trans e1⟩⟩
 rw [t.keep.block b (Nat.lt_of_lt_of_le hb h.keep.size) ?_];exact h.keep.block b hb hf;intro hG;obtain ⟨k2,p2,c2,h2,ld,u9⟩:=t.live b hG;rcases h.rC k2 p2 c2 b h2 ld u9 with hx|hx
 omega;exact hf hx
theorem bK.alloc (G:List Nat)(w:World)(o:Obj):bK G w (w.alloc o):=
 ⟨rfl,rfl,rfl,by simp,fun b hb _=>RowKit.Below.heap_alloc w o b hb,fun b arr hb=>⟨arr,hb.keep (RowKit.Below.heap_alloc w o b hb.lt),rfl⟩⟩
theorem bK.drew (G:List Nat)(w:World):bK G w w.drew:=⟨rfl,rfl,rfl,Nat.le_refl _,fun _ _ _=>rfl,fun _ arr hb=>⟨arr,hb,rfl⟩⟩
def fH (m l:Mem):Prop:= ∀p∈l,lk p.1 m=none
def tR (b:Option Nat):List Nat→Option Nat:=fun p=>if p=[] then b else none
def GM.set (g:GM)(k:Nat)(γ:List Nat→Option Nat):GM:=⟨fun q=>if q=k then γ else g.f q⟩
theorem GM.Ed (g:GM)(k:Nat)(γ:List Nat→Option Nat):(g.set k γ).f k=γ:=if_pos rfl
theorem GM.Ky (g:GM){k q:Nat}(γ:List Nat→Option Nat)(h:q≠k):(g.set k γ).f q=g.f q:=if_neg h
theorem dw.new {ch:Chunk}{arr:Array Value}(h:dw cx g st a w)(qt:lk st.nx st.mem=none)(hk:bK [] w w')(hb:dy w' w.heap.size arr)(hc: ∀g':GM,(∀k,lk k st.mem≠none→g'.f k=g.f k)→g'.f st.nx=tR (some w.heap.size)→ ∀S',(∀b,cx.safe g st.mem w b→S' b)→kd g' ((st.nx,ch)::st.mem) S' w' (tR (some w.heap.size)) ch):
 ∃g':GM,(g'.f st.nx=tR (some w.heap.size))∧dw cx g' (st.my ((st.nx,ch)::st.mem) (st.nx+1)) a w'∧nI g g' st.mem ((st.nx,ch)::st.mem) (cx.safe g st.mem w) (cx.safe g' ((st.nx,ch)::st.mem) w') w w':=by
 have j8: ∀k,lk k st.mem≠none→(g.set st.nx (tR (some w.heap.size))).f k=g.f k:=fun k jq=>GM.Ky _ _ (fun e=>jq (by rw [e];exact qt));have nq:=GM.Ed g st.nx (tR (some w.heap.size));revert j8 nq;generalize g.set st.nx (tR (some w.heap.size))=g';intro j8 nq;have h1: ∀p b,tR (some w.heap.size) p=some b→p=[]∧b=w.heap.size:=by
  intro p b hp;unfold tR at hp;split at hp;injection hp with hp;exact ⟨by assumption,hp.symm⟩;cases hp
 have dN: ∀b,cx.safe g st.mem w b→cx.safe g' ((st.nx,ch)::st.mem) w' b:=by
  intro b ⟨h2,h3,h4⟩;refine ⟨Nat.lt_of_lt_of_le h2 hk.size,h3,?_⟩;rintro ⟨k,p,c,vb,hn,hg⟩;rw [aS] at vb;by_cases e:k=st.nx;subst e;rw [nq] at hg;have:=(h1 p b hg).2;omega;rw [if_neg e] at vb;exact h4 ⟨k,p,c,vb,hn,by rw [←j8 k (by rw [vb];simp)];exact hg⟩
 have t:AY cx g g' st.mem ((st.nx,ch)::st.mem) w w' []:=by
  refine ⟨hk,(fun b hb=>by simp at hb),j8,fun k c0 ho=> ?_,fun k c0 ho dU=> ?_⟩;left;rw [aS,if_neg (fun e=>by rw [e,qt] at ho;cases ho)];exact ⟨ho,fun _ _ _ _=>by simp⟩;rw [aS] at dU;by_cases e:k=st.nx;subst e;rw [if_pos rfl] at dU;injection dU with dU;subst dU;refine ⟨by rw [nq];exact hc g' j8 nq _ dN,fun p b hn hg=> ?_⟩;rw [nq] at hg;obtain ⟨rfl,rfl⟩:=h1 p b hg;refine ⟨.inl (Nat.le_refl _),hb.lt,fun k' p' jM gP Cr F6=> ?_⟩;rw [aS] at gP;by_cases e:k'=st.nx;subst e;rw [nq] at F6;exact ⟨rfl,(h1 p' _ F6).1⟩;rw [if_neg e] at gP;have:=h.lt k' p' jM _ gP Cr (by rw [←j8 k' (by rw [gP];simp)];exact F6);omega;rw [if_neg e] at dU;rw [dU] at ho;cases ho
 exact ⟨g',nq,h.AZ t,t.stays⟩
end
end Go.Ide
namespace Go.Ide
section
variable {g:GM} {m m0:Mem} {S S2:Nat→Prop} {w:World}
def i9 (g:GM)(m m0:Mem)(S2:Nat→Prop)(w:World):Prop:=
 ∀k t xs,lk k m0=some (.seq t xs)→lk k m=some (.seq t xs)∧
  (∀p b,g.f k p=some b→S2 b)∧(match g k with|none=>xs=[]|some b=> ∃arr,dy w b arr∧fA S2 w (g.f k) t xs arr)
theorem i9.nil:i9 g m [] S2 w:=fun k t xs h=>by simp [gI] at h
theorem bS.of_slice {t:Ty}{xs:List t.D}{b o cap:Nat}{arr:Array Value}(hS:S2 b)(hb:dy w b arr)(hc:xs.length≤cap)(h: ∀i (hi:i<xs.length),∃es:List Value,(∀j v,es[j]? =some v→arr[o+(i*t.size+j)]? =some v)∧bS S2 w t es xs[i]):
 bS S2 w (.sl t) [.slice (some ⟨b,o,none⟩) xs.length cap] xs:=by
 refine ⟨some ⟨b,o,none⟩,cap,rfl,hc,fun i hi=> ?_⟩;obtain ⟨es,h1,h2⟩:=h i hi;refine ⟨⟨b,o,none⟩,es,rfl,hS,fun j v hv=> ?_,h2⟩;rw [bY,hb.cell];exact h1 j v hv
theorem yT {A B:Type}(h:A=B)(hl:List A=List B)(xs:List A):Bw hl xs=xs.map (Bw h):=by
 subst h;show xs=List.map (fun x=>x) xs;simp
theorem F7 {A B C D:Type}(h:A=B)(h':C=D)(hp:(A×C)=(B×D))(x:A×C):Bw hp x=(Bw h x.1,Bw h' x.2):=by
 subst h;subst h';rfl
theorem HS {t:Ty}(ih: ∀(cs:List Value) (x:t.D),bS S w t cs x→bS S w t.er cs (D0 x)){cs:List Value}{xs:List t.D}(h:bS S w (.sl t) cs xs)(hs:t.er.size=t.size):bS S w (.sl t.er) cs (D0 (t:= .sl t) xs):=by
 obtain ⟨a,cap,e,h1,h2⟩:=h;have hx:(D0 (t:= .sl t) xs:List t.er.D)=List.map D0 xs:=yT t.yO.symm _ xs;show bS S w (.sl t.er) cs (D0 (t:= .sl t) xs:List t.er.D);rw [hx];refine ⟨a,cap,by rw [List.length_map];exact e,by rw [List.length_map];exact h1,fun i hi=> ?_⟩;have nr:i<List.length xs:=by rw [List.length_map] at hi;exact hi
 obtain ⟨ad,es,k1,k2,k3,k4⟩:=h2 i nr;refine ⟨ad,es,k1,k2,by rw [hs];exact k3,?_⟩;rw [List.getElem_map];exact ih es _ k4
theorem NH {t:Ty}(ih: ∀(cs:List Value) (x:t.D),bS S w t cs x→bS S w t.er cs (D0 x)){cs:List Value}{xs:List t.D}(h:bS S w (.bx t) cs xs)(hs:t.er.size=t.size):bS S w (.bx t.er) cs (D0 (t:= .bx t) xs):=by
 obtain ⟨a,e,h2⟩:=h;have hx:(D0 (t:= .bx t) xs:List t.er.D)=List.map D0 xs:=yT t.yO.symm _ xs;show bS S w (.bx t.er) cs (D0 (t:= .bx t) xs:List t.er.D);rw [hx];refine ⟨a,e,fun i hi=> ?_⟩;have nr:i<List.length xs:=by rw [List.length_map] at hi;exact hi
 obtain ⟨es,k2,k3,k4⟩:=h2 i nr;refine ⟨es,k2,by rw [hs];exact k3,?_⟩;rw [List.getElem_map];exact ih es _ k4
theorem sR:(t:Ty)→t.er.size=t.size
 | .own _=>rfl
 | .sl _=>rfl
 | .bx _=>rfl
 | .pair a b=>by simp only [Ty.er,Ty.size,sR a,sR b]
 | .st t=>sR t
 | .int _=>rfl
 | .aX _=>rfl
 | .bool=>rfl
 | .str=>rfl
theorem qA: ∀(t:Ty) (cs:List Value) (x:t.D),bS S w t cs x→bS S w t.er cs (D0 x)
 | .own t,cs,xs,h=>HS (t:=t) (fun cs x=>qA t cs x) h (sR t)
 | .sl t,cs,xs,h=>HS (t:=t) (fun cs x=>qA t cs x) h (sR t)
 | .bx t,cs,xs,h=>NH (t:=t) (fun cs x=>qA t cs x) h (sR t)
 | .pair a b,cs,x,⟨c1,c2,e,h1,h2⟩=>by
  have hx:D0 (t:= .pair a b) x=(D0 x.1,D0 x.2):=F7 a.yO.symm b.yO.symm _ x;rw [hx];exact ⟨c1,c2,e,qA a c1 _ h1,qA b c2 _ h2⟩
 | .st t,cs,x,h=>qA t cs x h
 | .int k,cs,x,h=>h
 | .aX k,cs,x,h=>h
 | .bool,cs,x,h=>h
 | .str,cs,x,h=>h
theorem yU: ∀(t:Ty) {x:t.D} {o:Nat} {r:Σ e:Ty,List e.D},eJ t x o=some r→o<t.size
 | .own t,x,o,r,h=>by
  cases o with
  |zero=>exact Nat.zero_lt_one
  |succ o=>cases h
 | .pair a b,x,o,r,h=>by
  unfold eJ at h;cases hb:Nat.blt o a.size with
  |true=>
   have:o<a.size:=Nat.le_of_ble_eq_true hb;simp only [Ty.size];omega
  |false=>
   rw [hb] at h;have:=yU b h;have h2: ¬o<a.size:=by
    intro hc;have:Nat.blt o a.size=true:=Nat.ble_eq_true_of_le hc;rw [hb] at this;cases this
   simp only [Ty.size];omega
 | .st t,x,o,r,h=>yU t (x:=x) h
 | .int _,_,_,_,h=>by cases h
 | .aX _,_,_,_,h=>by cases h
 | .bool,_,_,_,h=>by cases h
 | .str,_,_,_,h=>by cases h
 | .sl _,_,_,_,h=>by cases h
 | .bx _,_,_,_,h=>by cases h
theorem nP {a b:Nat}:Nat.blt a b=true↔a<b:=by
 constructor;intro h;exact Nat.le_of_ble_eq_true h;intro h;exact Nat.ble_eq_true_of_le h
theorem lg {a b:Nat}(h: ¬a<b):Nat.blt a b=false:=by
 cases hb:Nat.blt a b with
 |true=>exact absurd (nP.1 hb) h
 |false=>rfl
theorem cX.slot: ∀(t:Ty) {γ:List Nat→Option Nat} {o0 o:Nat} {cs:List Value} {x:t.D} {e:Ty} {ys:List e.D},cX S w t γ o0 cs x→eJ t x o=some ⟨e,ys⟩→
 ∃u,cs[o]? =some u∧cX S w (.own e) γ (o0+o) [u] ys
 | .own t,γ,o0,o,cs,xs,e,ys,h,hs=>by
  cases o with
  |zero=>
   have hs:some (⟨t,xs⟩:Σ e:Ty,List e.D)=some ⟨e,ys⟩:=hs;injection hs with hs;injection hs with h1 h2;subst h1;have h2:=eq_of_heq h2;subst h2;obtain ⟨v,e,h3⟩:=h;subst e;exact ⟨v,rfl,v,rfl,h3⟩
  |succ o=>cases hs
 | .pair a b,γ,o0,o,cs,x,e,ys,⟨c1,c2,ec,h1,h2⟩,hs=>by
  unfold eJ at hs;by_cases hb:o<a.size;rw [nP.2 hb] at hs;obtain ⟨u,k1,k2⟩:=cX.slot a h1 hs;refine ⟨u,?_,k2⟩;subst ec;rw [List.getElem?_append_left (by rw [cX.len a h1];exact hb)];exact k1;rw [lg hb] at hs;obtain ⟨u,k1,k2⟩:=cX.slot b h2 hs;refine ⟨u,?_,?_⟩;subst ec;rw [List.getElem?_append_right (by rw [cX.len a h1];omega),cX.len a h1];exact k1;rw [show o0+o=o0+a.size+(o - a.size) from by omega];exact k2
 | .st t,γ,o0,o,cs,x,e,ys,h,hs=>cX.slot t (cs:=cs) (x:=x) h hs
 | .int _,_,_,_,_,_,_,_,_,hs=>by cases hs
 | .aX _,_,_,_,_,_,_,_,_,hs=>by cases hs
 | .bool,_,_,_,_,_,_,_,_,hs=>by cases hs
 | .str,_,_,_,_,_,_,_,_,hs=>by cases hs
 | .sl _,_,_,_,_,_,_,_,_,hs=>by cases hs
 | .bx _,_,_,_,_,_,_,_,_,hs=>by cases hs
theorem NI {t:Ty}{γ:List Nat→Option Nat}{o:Nat}{u v:Value}{xs:List t.D}(hγ: ∀p b,γ p=some b→S2 b)(hu:cX S2 w (.own t) γ o [u] xs)(hv:jl (γ [o]) w t.size xs.length v):bS S2 w (.sl t) [v] xs:=
 cX.data (fun _ h=>h) (.own t) hγ ⟨v,rfl,hv,hu.choose_spec.2.2⟩
theorem rX (hS: ∀b,S b→S2 b)(hm:i9 g m m0 S2 w){t:Ty}{c:aA}{x:t.D}{v:Value}(h:eu m0 t c=some x)(hr:CR g m S w c v):bS S2 w t [v] x:=by
 cases c with
 |aq t' y=>
  simp only [eu] at h;split at h;rename_i e;subst e;injection h with h;subst h;exact bS.keep (fun b hb=>⟨hS b hb,rfl⟩) t' [v] y hr;cases h
 |all c=>
  simp only [eu] at h;split at h;rename_i e;split at h;rename_i e' xs hl;obtain ⟨fe,Ko,hc⟩:=hm c e' xs hl;have hx:=hr.2.2 e' xs (.inl fe);have key:bS S2 w (.sl e') [v] xs:=by
   unfold jl at hx;cases hg:g c with
   |none=>
    rw [hg] at hx hc;obtain ⟨a,ha⟩:=hx;subst ha;have hn:xs=[]:=hc;subst hn;exact ⟨a,0,rfl,Nat.le_refl _,fun i hi=>by simp at hi⟩
   |some b=>
    rw [hg] at hx hc;obtain ⟨cap,arr,e1,h1,h2,h3,h4⟩:=hx;obtain ⟨aG,ke,TB⟩:=hc;subst e1;refine bS.of_slice (xs:=xs) (Ko [] b hg) ke h1 fun i hi=> ?_;obtain ⟨es,k1,k2⟩:=TB.data (fun _ h=>h) Ko i hi;exact ⟨es,fun j v hv=>by rw [Nat.zero_add];exact k1 j v hv,k2⟩
  split at h;rename_i he;subst he;injection h with h;subst h;exact key;split at h;rename_i he;subst he;injection h with h;subst h;exact qA (.sl e') [v] xs key;cases h;cases h;cases h
 |row c i o=>
  simp only [eu] at h;split at h;rename_i e;split at h;rename_i e1 xs hl;split at h;rename_i e' ys hs;split at h;rename_i he;subst he;injection h with h;subst h;obtain ⟨fe,Ko,hc⟩:=hm c e1 xs hl;obtain ⟨hi,hx⟩:=hr.2.2 e1 xs fe;have hx:=hx e' ys hs;cases hg:g c with
  |none=>rw [hg] at hc;have hn:xs=[]:=hc;subst hn;simp at hi
  |some b=>
   rw [hg] at hc;obtain ⟨arr,hb,he⟩:=hc;obtain ⟨es,_,k2⟩:=he i hi;have hd:xs.getD i e1.gd=xs[i]:=by simp [List.getD,hi]
   rw [hd] at hs;obtain ⟨u,_,k3⟩:=cX.slot e1 k2 hs;rw [Nat.zero_add] at k3;exact NI (fun p b hp=>Ko _ b hp) k3 hx
  cases h;cases h;cases h;cases h
 |AW c i o j sz off=>simp [eu] at h
 |ref c off len=>
  simp only [eu] at h;split at h;rename_i e;split at h;rename_i e' xs hl;split at h;rename_i he;subst he;injection h with h;subst h;obtain ⟨fe,Ko,hc⟩:=hm c e' xs hl;obtain ⟨hle,hx⟩:=hr.2.2 e' xs (.inl fe);have hlen:((xs.drop off).take len).length=len:=by simp;omega
  rcases hx with ⟨h0,_,a,ha⟩|⟨b,cap,arr,hg,e1,h1,h2,h3,h4⟩
  subst ha;subst h0;exact ⟨a,0,by simp [cG],by simp [cG],fun i hi=>by simp [cG] at hi⟩;rw [hg] at hc;obtain ⟨aG,ke,TB⟩:=hc;subst e1;have:=bS.of_slice (S2:=S2) (w:=w) (t:=e') (xs:=(xs.drop off).take len) (o:=off*e'.size) (cap:=cap) (Ko [] b hg) ke (by omega) fun i hi=>by
   have nr:off+i<xs.length:=by rw [hlen] at hi;omega
   obtain ⟨es,k1,k2⟩:=TB.data (fun _ h=>h) Ko (off+i) nr;refine ⟨es,fun j v hv=> ?_,?_⟩;have:=k1 j v hv;rw [Nat.add_mul] at this;rw [←Nat.add_assoc];exact this;simpa using k2
  rw [hlen] at this;exact this;cases h;cases h;cases h
 |ar=>
  simp only [eu] at h;split at h;injection h with h;subst h;obtain ⟨a,ha⟩:=hr;subst ha;exact ⟨a,0,rfl,Nat.le_refl _,fun i hi=>by simp at hi⟩;cases h
 |ptr c off=>simp [eu] at h
 |iy c i sz off=>
  simp only [eu] at h;split at h;rename_i e;split at h;rename_i e' xs hl;split at h;rename_i he;subst he;cases hb:(Nat.beq i 0&&(Nat.beq off 0&&Nat.beq sz e'.size)) with
  |false=>rw [hb] at h;cases h
  |true=>
   rw [hb] at h;simp only [cond_true] at h;injection h with h;subst h;simp only [Bool.and_eq_true] at hb;obtain ⟨h1,h2,h3⟩:=hb;have h1:=Nat.eq_of_beq_eq_true h1;have h2:=Nat.eq_of_beq_eq_true h2;subst h1;subst h2;obtain ⟨fe,Ko,hc⟩:=hm c e' xs hl;obtain ⟨_,b,hg,ev⟩:=hr;rw [hg] at hc;obtain ⟨arr,ke,TB⟩:=hc;refine ⟨⟨b,0,none⟩,by rw [ev];simp,fun i hi=> ?_⟩;obtain ⟨es,k1,k2⟩:=TB.data (fun _ h=>h) Ko i hi;refine ⟨es,Ko [] b hg,fun j v hv=> ?_,k2⟩;rw [bY,ke.cell,Nat.zero_add];exact k1 j v hv
  cases h;cases h;cases h
 |ip t x off=>simp [eu] at h
 |fn f=>simp [eu] at h
 |nM f t' x=>simp [eu] at h
 |jk=>simp [eu] at h
 |bad=>simp [eu] at h
theorem mZ (hS: ∀b,S b→S2 b)(hm:i9 g m m0 S2 w){t:Ty}{cs:List aA}{x:t.D}{r:List aA}{vs:List Value}(h:cW m0 t cs=some (x,r))(hr:bB (CR g m S w) cs vs):
 ∃v1 v2,vs=v1++v2∧bS S2 w t v1 x∧bB (CR g m S w) r v2:=by
 cases cs with
 |nil=>simp [cW] at h
 |cons c cs=>
  cases vs with
  |nil=>exact hr.elim
  |cons v vs=>
   simp only [cW] at h;split at h;rename_i y hy;injection h with h;injection h with h1 h2;subst h1;subst h2;exact ⟨[v],vs,rfl,rX hS hm hy hr.1,hr.2⟩;cases h
theorem jr (hS: ∀b,S b→S2 b)(hm:i9 g m m0 S2 w): ∀(t:Ty) {cs:List aA} {x:t.D} {r:List aA} {vs:List Value},impl m0 t cs=some (x,r)→bB (CR g m S w) cs vs→
 ∃v1 v2,vs=v1++v2∧bS S2 w t v1 x∧bB (CR g m S w) r v2
 | .int k,cs,x,r,vs,h,hr=>mZ hS hm (t:= .int k) (cs:=cs) h hr
 | .aX k,cs,x,r,vs,h,hr=>mZ hS hm (t:= .aX k) (cs:=cs) h hr
 | .bool,cs,x,r,vs,h,hr=>mZ hS hm (t:= .bool) (cs:=cs) h hr
 | .str,cs,x,r,vs,h,hr=>mZ hS hm (t:= .str) (cs:=cs) h hr
 | .sl t,cs,x,r,vs,h,hr=>mZ hS hm (t:= .sl t) (cs:=cs) h hr
 | .own t,cs,x,r,vs,h,hr=>mZ hS hm (t:= .own t) (cs:=cs) h hr
 | .bx t,cs,x,r,vs,h,hr=>mZ hS hm (t:= .bx t) (cs:=cs) h hr
 | .st t,cs,x,r,vs,h,hr=>jr hS hm t h hr
 | .pair a b,cs,x,r,vs,h,hr=>by
  simp only [impl] at h;split at h;rename_i y r1 h1;split at h;rename_i z r2 h2;injection h with h;injection h with e1 e2;subst e1;subst e2;obtain ⟨v1,v2,rfl,k1,k2⟩:=jr hS hm a h1 hr;obtain ⟨v3,v4,rfl,k3,k4⟩:=jr hS hm b h2 k2;exact ⟨v1++v3,v4,by simp,⟨v1,v3,rfl,k1,k3⟩,k4⟩;cases h;cases h
def dO (t:Ty)(cs:List Value)(v:Value):Prop:=if t.yN then v= .agg cs.toArray else cs=[v]
theorem pO (hS: ∀b,S b→S2 b)(hm:i9 g m m0 S2 w){t:Ty}{v:aE}{x:t.D}{val:Value}(h:mr m0 t v=some x)(hr:VR g m S w v val):
 ∃cs,dO t cs val∧bS S2 w t cs x:=by
 unfold mr at h;split at h;rename_i c mN;split at h;rename_i y he;injection h with h;subst h;obtain ⟨v1,v2,e,h1,h2⟩:=jr (vs:=[val]) hS hm t he ⟨hr,trivial⟩;have:v2=[]:=by cases v2 with|nil=>rfl|cons=>exact h2.elim
 subst this;simp at e;subst e;exact ⟨[val],by simp [dO,mN],h1⟩;cases h;rename_i cs mN;split at h;rename_i y he;injection h with h;subst h;obtain ⟨vs,e,kI⟩:=hr;obtain ⟨v1,v2,e2,h1,h2⟩:=jr hS hm t he kI;have:v2=[]:=by cases v2 with|nil=>rfl|cons=>exact h2.elim
 subst this;simp at e2;subst e2;exact ⟨vs,by simp [dO,mN,e],h1⟩;cases h;cases h
theorem lG: ∀(t:Ty) {cs:List Value} {x:t.D},bS S w t cs x→bB (CR g m S w) (il t x) cs
 | .int _,_,_,h=>by subst h;exact ⟨rfl,trivial⟩
 | .aX _,_,_,⟨b,e,h⟩=>by subst e;exact ⟨⟨b,rfl,h⟩,trivial⟩
 | .bool,_,_,h=>by subst h;exact ⟨rfl,trivial⟩
 | .str,_,_,h=>by subst h;exact ⟨rfl,trivial⟩
 | .sl t,_,_,⟨a,cap,e,h⟩=>by subst e;exact ⟨⟨a,cap,rfl,h⟩,trivial⟩
 | .own t,_,_,⟨a,cap,e,h⟩=>by subst e;exact ⟨⟨a,cap,rfl,h⟩,trivial⟩
 | .bx t,_,_,⟨a,e,h⟩=>by subst e;exact ⟨⟨a,rfl,h⟩,trivial⟩
 | .pair a b,_,_,⟨c1,c2,e,h1,h2⟩=>by subst e;exact (lG a h1).append (lG b h2)
 | .st t,_,_,h=>lG t (cs:=_) h
theorem sS {c i:Nat}: ∀(t:Ty) {γ:List Nat→Option Nat} {o0:Nat} {cs:List Value} {x:t.D},cX S w t γ o0 cs x→
 (∀o e ys v,eJ t x o=some ⟨e,ys⟩→jl (γ [o0+o]) w e.size ys.length v→CR g m S w (.row c i (o0+o)) v)→bB (CR g m S w) (Bx c i t o0 x) cs
 | .own t,γ,o0,cs,xs,⟨v,e,h1,_⟩,Jj=>by subst e;exact ⟨Jj 0 t xs v rfl h1,trivial⟩
 | .pair a b,γ,o0,cs,x,⟨c1,c2,e,h1,h2⟩,Jj=>by
  subst e;refine (sS a h1 fun o e ys v hs ha=>Jj o e ys v ?_ ha).append (sS b h2 fun o e ys v hs ha=> ?_);unfold eJ;rw [nP.2 (yU a hs)];exact hs;have:=Jj (a.size+o) e ys v (by unfold eJ;rw [lg (by omega),Nat.add_sub_cancel_left];exact hs) (by rw [←Nat.add_assoc];exact ha);rw [←Nat.add_assoc] at this;exact this
 | .st t,γ,o0,cs,x,h,Jj=>sS t (cs:=cs) (x:=x) h Jj
 | .int _,_,_,_,_,h,_=>by have h:=h;subst h;exact ⟨rfl,trivial⟩
 | .aX _,_,_,_,_,⟨b,e,h⟩,_=>by subst e;exact ⟨⟨b,rfl,h⟩,trivial⟩
 | .bool,_,_,_,_,h,_=>by have h:=h;subst h;exact ⟨rfl,trivial⟩
 | .str,_,_,_,_,h,_=>by have h:=h;subst h;exact ⟨rfl,trivial⟩
 | .sl t,_,_,_,_,⟨a,cap,e,h⟩,_=>by subst e;exact ⟨⟨a,cap,rfl,h⟩,trivial⟩
 | .bx t,_,_,_,_,⟨a,e,h⟩,_=>by subst e;exact ⟨⟨a,rfl,h⟩,trivial⟩
theorem Kz (v:Value):CR g m S w (TA v) v:=by
 unfold TA;split;exact rfl;exact rfl;exact ⟨_,rfl,rfl⟩;rename_i s;simp [CR,bS];exact ⟨none,rfl⟩;trivial;trivial;rename_i h1 h2 h3 h4 h5 h6 h7;cases v<;>first
  |rfl
  |exact absurd rfl (h6 _)
  |exact absurd rfl (h7 _)
theorem HU: ∀(l:List Value),bB (CR g m S w) (l.map TA) l
 |[]=>trivial
 |v::l=>⟨Kz v,HU l⟩
theorem yr (v:Value):VR g m S w (rV v) v:=by
 unfold rV;split;rename_i cs;exact ⟨cs.toList,by simp,HU _⟩;trivial;exact Kz v
theorem ck {cx:Cx}{st:St}{a:Act}(h:dw cx g st a w){x:Operand}{v:aE}(he:ev st.fr x=some v):VR g st.mem (cx.safe g st.mem w) w v (a.eval x):=by
 cases x with
 |tmp t=>exact h.fr t v he
 |const c=>simp only [ev] at he;injection he with he;subst he;exact yr c
 |func f=>simp only [ev] at he;injection he with he;subst he;exact rfl
 |global g=>simp [ev] at he
end
end Go.Ide
namespace Go.Ide
section
variable {P:Program} {g:GM} {m:Mem} {S:Nat→Prop} {w:World}
theorem bL {a b:Nat}(h:Nat.beq a b=true):a=b:=Nat.eq_of_beq_eq_true h
theorem iT {a b:Nat}(h:Nat.ble a b=true):a≤b:=Nat.le_of_ble_eq_true h
theorem cL {T:TypeId}{n:Nat}(h:dq P T=some n):(sizeOf T).run P w= .ok n w:=by
 unfold dq at h;cases hi:P.info? T with
 |none=>rw [hi] at h;cases h
 |some i=>rw [hi] at h;injection h with h;subst h;simp [sizeOf,typeInfo,hi]
theorem yV {T:TypeId}{ag:Bool}(h:Cq P T=some ag):(isAgg T).run P w= .ok ag w:=by
 unfold Cq at h;cases hu:P.underlying T with
 |none=>rw [hu] at h;cases h
 |some d=>
  rw [hu] at h;simp only [isAgg,Sem.run_bind,run_underlying hu,Result.andThen_ok];cases d<;>simp_all
theorem Cs {ag:Bool}{mO:List aA}{iv:aE}{cs:List Value}(h:Pu ag mO=some iv)(hr:bB (CR g m S w) mO cs):
 ∃r,(if ag then r=Value.agg cs.toArray else cs=[r])∧VR g m S w iv r:=by
 unfold Pu at h;split at h;injection h with h;subst h;exact ⟨_,rfl,cs,rfl,hr⟩;injection h with h;subst h;cases cs with
 |nil=>exact hr.elim
 |cons v vs=>
  cases vs with
  |nil=>exact ⟨v,rfl,hr.1⟩
  |cons=>exact hr.2.elim
 cases h
theorem pe {T:TypeId}{n:Nat}{ag:Bool}(hs:dq P T=some n)(ha:Cq P T=some ag){ad:Addr}{cs:List Value}(hl:cs.length=n)(hc: ∀j v,cs[j]? =some v→w.cell? (ad.add j)=some v){r:Value}(hr:if ag then r=Value.agg cs.toArray else cs=[r]):
 (Instr.loadAt T (.pointer (some ad))).run P w= .ok r w:=by
 cases ag with
 |true=>
  simp only [if_true] at hr;subst hr;subst hl;simp [Instr.loadAt,Instr.sureAddr,loadVar,yV ha,cL hs,run_loadCells_list w ad cs hc]
 |false=>
  simp only [Bool.false_eq_true,if_false] at hr;subst hr;have:=hc 0 r rfl;rw [show ad.add 0=ad from by simp [Addr.add]] at this;simp [Instr.loadAt,Instr.sureAddr,loadVar,yV ha,this]
theorem bS.oq: ∀(t:Ty) {cs:List Value} {x:t.D},bS S w t cs x→ ∀v∈cs,v.oneCell'=true
 | .int _,_,_,h,v,hv=>by subst h;simp at hv;subst hv;rfl
 | .aX _,_,_,⟨b,e,h⟩,v,hv=>by subst e;simp at hv;subst hv;rfl
 | .bool,_,_,h,v,hv=>by subst h;simp at hv;subst hv;rfl
 | .str,_,_,h,v,hv=>by subst h;simp at hv;subst hv;rfl
 | .sl t,_,_,⟨a,cap,e,h⟩,v,hv=>by subst e;simp at hv;subst hv;rfl
 | .bx t,_,_,⟨a,e,h⟩,v,hv=>by subst e;simp at hv;subst hv;rfl
 | .own t,_,_,⟨a,cap,e,h⟩,v,hv=>by subst e;simp at hv;subst hv;rfl
 | .pair a b,_,_,⟨c1,c2,e,h1,h2⟩,v,hv=>by
  subst e;rcases List.mem_append.1 hv with h|h
  exact bS.oq a h1 v h;exact bS.oq b h2 v h
 | .st t,_,_,h,v,hv=>bS.oq t (cs:=_) h v hv
theorem yW {c:aA}{v:Value}(ho:c.ok=true)(h:CR g m S w c v):v.oneCell'=true:=by
 cases c with
 |aq t x=>exact bS.oq t (cs:=[v]) h v (by simp)
 |ptr c off=>obtain ⟨_,b,_,e⟩:=h;subst e;rfl
 |iy c i sz off=>obtain ⟨_,b,_,e⟩:=h;subst e;rfl
 |ip t x off=>obtain ⟨ad,es,e,_⟩:=h;subst e;rfl
 |all c=>exact h.2.1
 |ref c off len=>exact h.2.1
 |row c i o=>exact h.2.1
 |AW c i o j sz off=>obtain ⟨_,b,e,_⟩:=h;subst e;rfl
 |ar=>obtain ⟨a,e⟩:=h;subst e;rfl
 |fn f=>have:v=_:=h;subst this;rfl
 |nM f t x=>obtain ⟨ad,es,e,_⟩:=h;subst e;rfl
 |jk=>exact h
 |bad=>cases ho
theorem HV: ∀{cs:List aA} {vs:List Value},cs.all aA.ok=true→bB (CR g m S w) cs vs→ ∀v∈vs,v.oneCell'=true
 |[],[],_,_,v,hv=>by simp at hv
 |c::cs,u::vs,ho,h,v,hv=>by
  simp only [List.all_cons,Bool.and_eq_true] at ho;rcases List.mem_cons.1 hv with rfl|hv
  exact yW ho.1 h.1;exact HV ho.2 h.2 v hv
 |[],_::_,_,h,_,_=>h.elim
 |_::_,[],_,h,_,_=>h.elim
theorem wt {u:Value}(h:u.oneCell'=true):u.cells= #[u]:=by cases u<;>first|rfl|cases h
theorem jN {v:aE}{u:Value}(ho:v.ok=true)(h:VR g m S w v u): ∃vs,u.cells.toList=vs∧bB (CR g m S w) v.cells vs:=by
 cases v with
 |one c=>exact ⟨[u],by rw [wt (yW ho h)],h,trivial⟩
 |agg cs=>obtain ⟨vs,rfl,kI⟩:=h;exact ⟨vs,rfl,kI⟩
 |HM=>cases ho
 |FQ=>cases ho
 |jk=>cases ho
theorem qB {v:aE}{u:Value}(ho:v.ok=true)(h:VR g m S w v u): ∀x∈u.cells.toList,x.oneCell'=true:=by
 cases v with
 |one c=>intro x hx;rw [wt (yW ho h)] at hx;simp at hx;subst hx;exact yW ho h
 |agg cs=>obtain ⟨vs,rfl,kI⟩:=h;exact HV ho kI
 |HM=>cases ho
 |FQ=>cases ho
 |jk=>cases ho
def lj (g:GM)(m:Mem)(S:Nat→Prop)(w:World):Prop:= ∀k ch,lk k m=some ch→kd g m S w (g.f k) ch
theorem Ee {n:Nat}{c:aA}{mO:List aA}{VF:List Prop}(hm:lj g m S w)(h:nN m n c=some (mO,VF)){v:Value}(hr:CR g m S w c v):
 ∃ad cs,v= .pointer (some ad)∧cs.length=n∧(∀j u,cs[j]? =some u→w.cell? (ad.add j)=some u)∧bB (CR g m S w) mO cs:=by
 unfold nN at h;split at h;rename_i c off;split at h;rename_i cs hl;cases hb:Nat.ble (off+n) cs.length with
 |false=>simp [hb] at h
 |true=>
  rw [hb] at h;simp only [cond_true] at h;injection h with h;injection h with h1 h2;subst h1;have hle:=iT hb;obtain ⟨b,arr,hg,jL,bN⟩:=hm c _ hl;obtain ⟨_,b',j8,e⟩:=hr;have j8:g.f c []=some b':=j8;rw [hg] at j8;injection j8 with j8;subst j8;have hlen:=bN.length;refine ⟨⟨b,off,none⟩,(arr.toList.drop off).take n,e,by simp at hlen⊢;omega,fun j u hu=> ?_,(bN.drop off).take n⟩;rw [bY,jL.cell];rw [List.getElem?_take] at hu;split at hu;simpa using hu;cases hu
 cases h;cases h;rename_i t x off;cases hb:Nat.ble (off+n) (il t x).length with
 |false=>simp [hb] at h
 |true=>
  rw [hb] at h;simp only [cond_true] at h;injection h with h;injection h with h1 h2;subst h1;have hle:=iT hb;obtain ⟨ad,es,e,hs,br,cJ⟩:=hr;have bN:bB (CR g m S w) (il t x) es:=lG t cJ;have hlen:=bN.length;refine ⟨ad.add off,(es.drop off).take n,e,by simp;omega,fun j u hu=> ?_,(bN.drop off).take n⟩;rw [add_add];rw [List.getElem?_take] at hu;split at hu;exact br _ u (by simpa using hu);cases hu
 cases h
def aQ (P:Program)(g:GM)(m:Mem)(S:Nat→Prop)(w:World)(s:Sem Value)(e:ca):Prop:=
 e.new=[]∧e.mu=[]∧ ∃r,s.run P w= .ok r w∧VR g m S w e.val r
theorem aQ.mk {v:aE}{s:Sem Value}{r:Value}{e:ca}(he:e.new=[]∧e.mu=[]∧e.val=v)(h:s.run P w= .ok r w)(hr:VR g m S w v r):aQ P g m S w s e:=
 ⟨he.1,he.2.1,r,h,by rw [he.2.2];exact hr⟩
theorem aH {v:aE}{e:ca}(h:bZ v=some e):e.new=[]∧e.mu=[]∧e.val=v:=by
 unfold bZ at h;injection h with h;subst h;exact ⟨rfl,rfl,rfl⟩
theorem cK {v:aE}{cs:List Prop}{e:ca}(h:gM v cs=some e):(e.new=[]∧e.mu=[]∧e.val=v)∧e.cond=cs:=by
 unfold gM at h;injection h with h;subst h;exact ⟨⟨rfl,rfl,rfl⟩,rfl⟩
theorem getD_eq {α:Type}{xs:List α}{i:Nat}{d:α}(h:i<xs.length):xs.getD i d=xs[i]:=by
 simp [List.getD,h]
theorem fA.at_ {γ:List Nat→Option Nat}{t:Ty}{xs:List t.D}{arr:Array Value}(h:fA S w γ t xs arr){i:Nat}(hi:i<xs.length):
 ∃es:List Value,es.length=t.size∧(∀j v,es[j]? =some v→arr[i*t.size+j]? =some v)∧cX S w t (fun p=>γ (i::p)) 0 es (xs.getD i t.gd):=by
 obtain ⟨es,h1,h2⟩:=h i hi;exact ⟨es,cX.len t h2,h1,by rw [getD_eq hi];exact h2⟩
theorem jl.one {gc:Option Nat}{sz n:Nat}{v:Value}(h:jl gc w sz n v):v.oneCell'=true:=by
 unfold jl at h;cases gc with
 |none=>obtain ⟨a,rfl⟩:=h;rfl
 |some b=>obtain ⟨cap,arr,rfl,_⟩:=h;rfl
theorem Qr {c i o:Nat}{t e:Ty}{xs:List t.D}{ys:List e.D}{v:Value}(hl:lk c m=some (.seq t xs))(hi:i<xs.length)(hs:eJ t (xs.getD i t.gd) o=some ⟨e,ys⟩)(ha:jl (g.f c [i,o]) w e.size ys.length v):
 CR g m S w (.row c i o) v:=by
 refine ⟨by rw [hl];simp,ha.one,fun t' cE fe=> ?_⟩;rw [hl] at fe;injection fe with fe;injection fe with h1 h2;subst h1;have h2:=eq_of_heq h2;subst h2;refine ⟨hi,fun e' wh eI=> ?_⟩;rw [hs] at eI;injection eI with eI;injection eI with h1 h2;subst h1;have h2:=eq_of_heq h2;subst h2;exact ha
theorem sT {c i o:Nat}{t e:Ty}{xs:List t.D}{ys:List e.D}(hm:lj g m S w)(hl:lk c m=some (.seq t xs))(hi:i<xs.length)(hs:eJ t (xs.getD i t.gd) o=some ⟨e,ys⟩):
 match g.f c [i,o] with
 |none=>ys.length=0
 |some b=> ∃arr,dy w b arr∧ ∀j (h:j<ys.length),∃es:List Value,(∀q v,es[q]? =some v→arr[j*e.size+q]? =some v)∧cX S w e (fun p=>g.f c (i::o::j::p)) 0 es ys[j]:=by
 have cY:=hm c _ hl;unfold kd at cY;cases hg:g.f c [] with
 |none=>rw [hg] at cY;have hn:xs=[]:=cY;subst hn;simp at hi
 |some b=>
  rw [hg] at cY;obtain ⟨arr,hb,he⟩:=cY;obtain ⟨es,_,_,h3⟩:=he.at_ hi;obtain ⟨u,_,v,_,_,h4⟩:=cX.slot t h3 hs;rw [Nat.zero_add] at h4;exact h4
theorem rY {T:TypeId}{v:aE}{e:ca}{va:Value}(hm:lj g m S w)(h:pN P m T v=some e)(hc:bH e.cond)(hr:VR g m S w v va):aQ P g m S w (Instr.loadAt T va) e:=by
 unfold pN at h;split at h;rename_i c i sz off n ag hs ha;split at h;rename_i t xs hl;cases gX:(Nat.ble (off+n) t.size&&Nat.beq sz t.size) with
 |false=>simp [gX] at h
 |true=>
  rw [gX] at h;simp only [cond_true] at h;simp only [Bool.and_eq_true] at gX;obtain ⟨hn,hz⟩:=gX;have hn:=iT hn;have hz:=bL hz;split at h;rename_i r Qs;obtain ⟨he,pb⟩:=cK h;rw [pb] at hc;have hi:i<xs.length:=hc.1;obtain ⟨_,b,hg,e1⟩:=hr;have cY:=hm c _ hl;unfold kd at cY;have hg:g.f c []=some b:=hg;rw [hg] at cY;obtain ⟨arr,jL,iJ⟩:=cY;obtain ⟨es,hlen,br,cJ⟩:=iJ.at_ hi;have bN:bB (CR g m S w) (Bx c i t 0 (xs.getD i t.gd)) es:=sS t cJ fun o e ys v hs ha=>by
   rw [Nat.zero_add] at ha⊢;exact Qr hl hi hs ha
  obtain ⟨rv,h1,h2⟩:=Cs (g:=g) (m:=m) Qs ((bN.drop off).take n);subst e1;refine aQ.mk he (pe hs ha (cs:=(es.drop off).take n) (by simp;omega) (fun j u hu=> ?_) h1) h2;rw [bY,jL.cell,hz,Nat.add_assoc];rw [List.getElem?_take] at hu;split at hu;exact br _ u (by simpa using hu);cases hu;cases h
 rename_i t xs jj mO ks hl;cases gX:(Nat.ble (off+n) t.size&&Nat.beq sz t.size) with
 |false=>simp [gX] at h
 |true=>
  rw [gX] at h;simp only [cond_true] at h;simp only [Bool.and_eq_true] at gX;obtain ⟨hn,hz⟩:=gX;have hn:=iT hn;have hz:=bL hz;split at h;rename_i r Qs;obtain ⟨he,pb⟩:=cK h;rw [pb] at hc;have hi:i=jj:=hc.1;subst hi;obtain ⟨_,b,hg,e1⟩:=hr;obtain ⟨_,b',arr,j8,jL,_,_,es,hlen,br,bN⟩:=hm c _ hl;have hg:g.f c []=some b:=hg;rw [hg] at j8;injection j8 with j8;subst j8;obtain ⟨rv,h1,h2⟩:=Cs (g:=g) (m:=m) Qs ((bN.drop off).take n);subst e1;refine aQ.mk he (pe hs ha (cs:=(es.drop off).take n) (by simp;omega) (fun j u hu=> ?_) h1) h2;rw [bY,jL.cell,hz,Nat.add_assoc];rw [List.getElem?_take] at hu;split at hu;exact br _ u (by simpa using hu);cases hu;cases h
 cases h;rename_i c i o j sz off n ag hs ha;split at h;rename_i t xs hl;split at h;rename_i e ys F8;cases gX:((Nat.ble (off+n) e.size&&Nat.beq sz e.size)&&e.top) with
 |false=>simp [gX] at h
 |true=>
  rw [gX] at h;simp only [cond_true] at h;simp only [Bool.and_eq_true] at gX;obtain ⟨⟨hn,hz⟩,ht⟩:=gX;have hn:=iT hn;have hz:=bL hz;split at h;rename_i r Qs;obtain ⟨he,pb⟩:=cK h;rw [pb] at hc;have hj:j<ys.length:=hc.1;obtain ⟨_,b,e1,F9⟩:=hr;obtain ⟨hi,hg⟩:=F9 t xs hl;have hb:=sT hm hl hi F8;rw [hg] at hb;obtain ⟨arr,jL,iJ⟩:=hb;obtain ⟨es,br,oZ⟩:=iJ j hj;have hlen:=cX.len e oZ;have bN:bB (CR g m S w) (il e (ys.getD j e.gd)) es:=lG e (by rw [getD_eq hj];exact cX.rep e ht oZ);obtain ⟨rv,h1,h2⟩:=Cs (g:=g) (m:=m) Qs ((bN.drop off).take n);subst e1;refine aQ.mk he (pe hs ha (cs:=(es.drop off).take n) (by simp;omega) (fun q u hu=> ?_) h1) h2;rw [bY,jL.cell,hz,Nat.add_assoc];rw [List.getElem?_take] at hu;split at hu;exact br _ u (by simpa using hu);cases hu;cases h
 cases h;cases h;rename_i c n ag _ _ hs ha;split at h;rename_i mO VF hca;split at h;rename_i r Qs;obtain ⟨ad,cs,e1,hlen,br,bN⟩:=Ee hm hca (show CR g m S w c va from hr);obtain ⟨rv,h1,h2⟩:=Cs Qs bN;subst e1;exact aQ.mk (aH h) (pe hs ha hlen br h1) h2;cases h;cases h;cases h
end
end Go.Ide
namespace Go.Ide
section
variable {P:Program} {g:GM} {m:Mem} {S:Nat→Prop} {w:World}
theorem toNat_lt {n:Int}{l:Nat}(h0:0≤n)(h1:n<(l:Int)):n.toNat<l:=by omega
theorem Wn {n:Int}(h:0≤n): ¬n<0:=by omega
theorem KA {n:Int}(h0:0≤n)(h1:n<((0:Nat):Int)):False:=by omega
theorem wu {T:TypeId}{x i:aE}{e:ca}{xa ia:Value}(hm:lj g m S w)(h:kH P m T x i=some e)(hc:bH e.cond)(hx:VR g m S w x xa)(hi:VR g m S w i ia):
 aQ P g m S w (Instr.indexAt T xa ia) e:=by
 unfold kH at h;split at h;rename_i el k n hu;have Qt:ia= .int k n:=by have:[ia]=[Value.int k n]:=hi;simpa using this
 subst Qt;split at h;rename_i t xs kz hs;cases hb:Nat.beq kz t.size with
 |false=>simp [hb] at h
 |true=>
  rw [hb] at h;simp only [cond_true] at h;have hz:=bL hb;obtain ⟨he,pb⟩:=cK h;rw [pb] at hc;obtain ⟨⟨h0,h1⟩,_⟩:=hc;obtain ⟨a,cap,e1,uj,oZ⟩:=hx;have NJ:xa= .slice a (List.length xs) cap:=by simpa using e1
  subst NJ;have cq:Int.toNat n<List.length xs:=toNat_lt h0 h1;obtain ⟨ad,es,ea,hS,br,cJ⟩:=oZ n.toNat cq;subst ea;refine aQ.mk he (r:= .pointer (some (ad.add (n.toNat*kz)))) ?_ ⟨ad.add (n.toNat*kz),es,by simp [Addr.add],by rw [gW];exact hS,fun j u hj=> ?_,?_⟩;simp [Instr.indexAt,asIntOf,run_underlying hu,cL hs,h0,h1];rw [add_add,hz];exact br j u hj;rw [getD_eq cq];exact cJ
 rename_i c kz hs;split at h;rename_i t xs hl;cases hb:Nat.beq kz t.size with
 |false=>simp [hb] at h
 |true=>
  rw [hb] at h;simp only [cond_true] at h;obtain ⟨he,pb⟩:=cK h;rw [pb] at hc;obtain ⟨⟨h0,h1⟩,_⟩:=hc;have cY:=hm c _ hl;have bN:=hx.2.2 t xs (.inl hl);unfold jl at bN;unfold kd at cY;cases hg:g.f c [] with
  |none=>
   rw [hg] at cY;have:xs=[]:=cY;subst this;exact (KA h0 h1).elim
  |some b=>
   have bN:match g.f c [] with|none=>_|some b=>_:=bN
   rw [hg] at bN;obtain ⟨cap,arr,e1,_,jL,_⟩:=bN;subst e1;refine aQ.mk he (r:= .pointer (some ⟨b,n.toNat*kz,none⟩)) ?_ ⟨hx.1,b,hg,rfl⟩;simp [Instr.indexAt,asIntOf,run_underlying hu,cL hs,h0,h1,bY]
 rename_i t xs jj mO ks hl;cases hb:Nat.beq kz t.size with
 |false=>simp [hb] at h
 |true=>
  rw [hb] at h;simp only [cond_true] at h;obtain ⟨he,pb⟩:=cK h;rw [pb] at hc;obtain ⟨⟨h0,h1⟩,_⟩:=hc;obtain ⟨_,b,arr,hg,_⟩:=hm c _ hl;have bN:=hx.2.2 t xs (.inr ⟨_,_,_,hl⟩);unfold jl at bN;have bN:match g.f c [] with|none=>_|some b=>_:=bN
  rw [hg] at bN;obtain ⟨cap,arr,e1,_,jL,_⟩:=bN;subst e1;refine aQ.mk he (r:= .pointer (some ⟨b,n.toNat*kz,none⟩)) ?_ ⟨hx.1,b,hg,rfl⟩;simp [Instr.indexAt,asIntOf,run_underlying hu,cL hs,h0,h1,bY]
 cases h;rename_i c i o kz hs;split at h;rename_i t xs hl;split at h;rename_i e ys F8;cases hb:Nat.beq kz e.size with
 |false=>simp [hb] at h
 |true=>
  rw [hb] at h;simp only [cond_true] at h;obtain ⟨he,pb⟩:=cK h;rw [pb] at hc;obtain ⟨⟨h0,h1⟩,_⟩:=hc;obtain ⟨hi,yb⟩:=hx.2.2 t xs hl;have bN:=yb e ys F8;have Px:=sT hm hl hi F8;unfold jl at bN;cases hg:g.f c [i,o] with
  |none=>
   rw [hg] at Px;have VG:ys.length=0:=Px;exact (KA h0 (by rw [←VG];exact h1)).elim
  |some b=>
   rw [hg] at bN;obtain ⟨cap,arr,e1,_,jL,_⟩:=bN;subst e1;refine aQ.mk he (r:= .pointer (some ⟨b,n.toNat*kz,none⟩)) ?_ ⟨hx.1,b,rfl,fun t' cE fe=>⟨?_,hg⟩⟩;simp [Instr.indexAt,asIntOf,run_underlying hu,cL hs,h0,h1,bY];exact (hx.2.2 t' cE fe).1
 cases h;cases h;rename_i c off len kz hs;split at h;rename_i t xs hl;cases hb:Nat.beq kz t.size with
 |false=>simp [hb] at h
 |true=>
  rw [hb] at h;simp only [cond_true] at h;have hz:=bL hb;obtain ⟨he,pb⟩:=cK h;rw [pb] at hc;obtain ⟨⟨h0,h1⟩,_⟩:=hc;obtain ⟨hle,yb⟩:=hx.2.2 t xs (.inl hl);rcases yb with ⟨tT,_⟩|⟨b,cap,arr,hg,e1,_⟩
  subst tT;exact (KA h0 h1).elim;subst e1;refine aQ.mk he (r:= .pointer (some ⟨b,(off+n.toNat)*kz,none⟩)) ?_ ⟨hx.1,b,hg,rfl⟩;simp [Instr.indexAt,asIntOf,run_underlying hu,cL hs,h0,h1,bY,Nat.add_mul,hz]
 cases h;cases h;cases h
theorem wv {T:TypeId}{x:aE}{f:Nat}{e:ca}{xa:Value}(h:qz P T x f=some e)(hx:VR g m S w x xa):
 aQ P g m S w (Instr.fieldAt T xa f) e:=by
 unfold qz at h;split at h;rename_i fs hu;split at h;rename_i fd hf;split at h;rename_i c off n hs;obtain ⟨hp,b,hg,e1⟩:=hx;subst e1;refine aQ.mk (aH h) (r:= .pointer (some ⟨b,off+fd.offset,none⟩)) ?_ ⟨hp,b,hg,rfl⟩;simp [Instr.fieldAt,run_underlying hu,hf,Instr.sureAddr,fieldPlace,cL hs,bY];rename_i t y off n hs;obtain ⟨ad,es,e1,hS,br,cJ⟩:=hx;subst e1;refine aQ.mk (aH h) (r:= .pointer (some (ad.add (off+fd.offset)))) ?_ ⟨ad,es,rfl,hS,br,cJ⟩;simp [Instr.fieldAt,run_underlying hu,hf,Instr.sureAddr,fieldPlace,cL hs,add_add];rename_i c i sz off n hs;obtain ⟨hp,b,hg,e1⟩:=hx;subst e1;refine aQ.mk (aH h) (r:= .pointer (some ⟨b,i*sz+(off+fd.offset),none⟩)) ?_ ⟨hp,b,hg,rfl⟩;simp [Instr.fieldAt,run_underlying hu,hf,Instr.sureAddr,fieldPlace,cL hs,bY,Nat.add_assoc];rename_i c i o j sz off n hs;obtain ⟨hp,b,e1,yb⟩:=hx;subst e1;refine aQ.mk (aH h) (r:= .pointer (some ⟨b,j*sz+(off+fd.offset),none⟩)) ?_ ⟨hp,b,rfl,yb⟩;simp [Instr.fieldAt,run_underlying hu,hf,Instr.sureAddr,fieldPlace,cL hs,bY,Nat.add_assoc];cases h;cases h;cases h
theorem eL {k:IntKind}{n:Int}{v:Value}(h:CR g m S w (.aq (.int k) n) v):v= .int k n:=by
 have:[v]=[Value.int k n]:=h;simpa using this
theorem ot {b:Bool}{v:Value}(h:CR g m S w (.aq .bool b) v):v= .bool b:=by
 have:[v]=[Value.bool b]:=h;simpa using this
theorem mP {s:List UInt8}{v:Value}(h:CR g m S w (.aq .str s) v):v= .string ⟨s.toArray⟩:=by
 have:[v]=[Value.string ⟨s.toArray⟩]:=h;simpa using this
theorem KB {x:aE}{e:ca}{xa:Value}(hm:lj g m S w)(h:ug m x=some e)(hx:VR g m S w x xa):
 ∃n:Nat,(e.new=[]∧e.mu=[]∧e.val= .one (.aq (.int .i64) ((n:Nat):Int)))∧((∃a c,xa= .slice a n c)∨(∃s:ByteArray,xa= .string s∧s.size=n)):=by
 unfold ug at h;split at h;rename_i t xs;obtain ⟨a,cap,e1,_⟩:=hx;exact ⟨_,aH h,.inl ⟨a,cap,by simpa using e1⟩⟩;rename_i xs;have:=mP (g:=g) (m:=m) (S:=S) (w:=w) hx;exact ⟨_,aH h,.inr ⟨_,this,by simp [ByteArray.size]⟩⟩;rename_i c;split at h;rename_i t xs hl;have bN:=hx.2.2 t xs (.inl hl);have cY:=hm c _ hl;unfold jl at bN;unfold kd at cY;have bN:match g.f c [] with|none=>_|some b=>_:=bN
 cases hg:g.f c [] with
 |none=>
  rw [hg] at bN cY;obtain ⟨a,ha⟩:=bN;have:xs=[]:=cY;subst this;exact ⟨0,aH h,.inl ⟨a,0,ha⟩⟩
 |some b=>
  rw [hg] at bN;obtain ⟨cap,arr,e1,_⟩:=bN;exact ⟨_,aH h,.inl ⟨_,cap,e1⟩⟩
 rename_i t xs jj mO ks hl;obtain ⟨_,b,arr,hg,_⟩:=hm c _ hl;have bN:=hx.2.2 t xs (.inr ⟨_,_,_,hl⟩);unfold jl at bN;have bN:match g.f c [] with|none=>_|some b=>_:=bN
 rw [hg] at bN;obtain ⟨cap,arr,e1,_⟩:=bN;exact ⟨_,aH h,.inl ⟨_,cap,e1⟩⟩;cases h;rename_i c i o;split at h;rename_i t xs hl;split at h;rename_i e ys F8;obtain ⟨hi,yb⟩:=hx.2.2 t xs hl;have bN:=yb e ys F8;have Px:=sT hm hl hi F8;unfold jl at bN;cases hg:g.f c [i,o] with
 |none=>
  rw [hg] at bN Px;obtain ⟨a,ha⟩:=bN;have h0:List.length ys=0:=Px;exact ⟨0,by rw [←h0];exact aH h,.inl ⟨a,0,ha⟩⟩
 |some b=>
  rw [hg] at bN;obtain ⟨cap,arr,e1,_⟩:=bN;exact ⟨_,aH h,.inl ⟨_,cap,e1⟩⟩
 cases h;cases h;rename_i c off len;split at h;rename_i t xs hl;obtain ⟨_,yb⟩:=hx.2.2 t xs (.inl hl);rcases yb with ⟨tT,_,a,ha⟩|⟨b,cap,arr,hg,e1,_⟩
 subst tT;exact ⟨_,aH h,.inl ⟨a,0,ha⟩⟩;exact ⟨_,aH h,.inl ⟨_,cap,e1⟩⟩;cases h;obtain ⟨a,ha⟩:=hx;exact ⟨0,aH h,.inl ⟨a,0,ha⟩⟩;cases h
def Ga (P:Program)(T:TypeId):Bool:=
 match P.underlying T with
 |some (.slice _)=>true
 |some .string=>true
 |_=>false
theorem mz {T ty:TypeId}{x:aE}{e:ca}{xa:Value}{Ts:Array TypeId}(hm:lj g m S w)(hT:Ga P T=true)(h:ug m x=some e)(hx:VR g m S w x xa)(Zq:Ts[0]? =some T)(hk: ∀(s:ByteArray),xa= .string s→P.underlying T=some .string)(gP: ∀a n c,xa= .slice a n c→ ∃el,P.underlying T=some (.slice el)):
 aQ P g m S w (Builtin.len_ Ts ty #[xa]) e:=by
 obtain ⟨n,he,hv⟩:=KB hm h hx;refine aQ.mk he (r:= .int .i64 (n:Int)) ?_ rfl;rcases hv with ⟨a,c,rfl⟩|⟨s,rfl,hs⟩
 obtain ⟨el,hu⟩:=gP a n c rfl;simp [Builtin.len_,Zq,run_underlying hu,goInt];simp [Builtin.len_,Zq,run_underlying (hk s rfl),goInt,hs]
theorem Gb {op:BinOp}{k:IntKind}{x y:Int}{e:ca}{T:TypeId}(hs:yq op=false)(h:NG op k x y=some e)(hc:bH e.cond):
 aQ P g m S w (binOp op T (.int k x) (.int k y)) e:=by
 cases op<;>simp only [yq,Bool.true_eq_false] at hs<;>simp only [NG,Pw] at h
 case add=>exact aQ.mk (aH h) (by simp [binOp,Op.intArith]) rfl
 case sub=>exact aQ.mk (aH h) (by simp [binOp,Op.intArith]) rfl
 case mul=>exact aQ.mk (aH h) (by simp [binOp,Op.intArith]) rfl
 case quo=>
  obtain ⟨he,pb⟩:=cK h;rw [pb] at hc;have hy: ¬y=0:=hc.1;exact aQ.mk he (r:= .int k (k.wrap (x.tdiv y))) (by simp [binOp,Op.intDiv,hy]) rfl
 case rem=>
  obtain ⟨he,pb⟩:=cK h;rw [pb] at hc;have hy: ¬y=0:=hc.1;exact aQ.mk he (r:= .int k (x.tmod y)) (by simp [binOp,Op.intDiv,hy]) rfl
 case eql=>exact aQ.mk (aH h) (by simp [binOp,Op.intCmp]) rfl
 case neq=>exact aQ.mk (aH h) (by simp [binOp,Op.intCmp]) rfl
 case lss=>exact aQ.mk (aH h) (by simp [binOp,Op.intCmp]) rfl
 case leq=>exact aQ.mk (aH h) (by simp [binOp,Op.intCmp]) rfl
 case gtr=>exact aQ.mk (aH h) (by simp [binOp,Op.intCmp]) rfl
 case geq=>exact aQ.mk (aH h) (by simp [binOp,Op.intCmp]) rfl
 case and=>exact aQ.mk (aH h) (by simp [binOp,Op.intBits]) rfl
 case or=>exact aQ.mk (aH h) (by simp [binOp,Op.intBits]) rfl
 case xor=>exact aQ.mk (aH h) (by simp [binOp,Op.intBits]) rfl
 case andNot=>exact aQ.mk (aH h) (by simp [binOp,Op.intBits]) rfl
 all_goals cases h
theorem toList_str (a:List UInt8):(⟨a.toArray⟩:ByteArray).toList=a:=by
 rw [ByteArray.toList_eq]
theorem xy {T:TypeId}(hu:P.underlying T=some .bool)(a b:Bool):(Op.equal T (.bool a) (.bool b)).run P w= .ok (a==b) w:=by
 have h: ∀d:Nat,(Op.equalIn (d+1) T (.bool a) (.bool b)).run P w= .ok (a==b) w:=fun d=>by
  rw [Op.equalIn];simp [run_underlying hu]
 exact h 9999
theorem Gc {op:BinOp}{x y:aE}{e:ca}{T:TypeId}{xa ya:Value}(h:Ji P T op x y=some e)(hc:bH e.cond)(hx:VR g m S w x xa)(hy:VR g m S w y ya):
 aQ P g m S w (binOp op T xa ya) e:=by
 unfold Ji at h;split at h
 ·rename_i k a k' b;have e1:=eL (g:=g) (m:=m) (S:=S) (w:=w) hx;have e2:=eL (g:=g) (m:=m) (S:=S) (w:=w) hy;subst e1;subst e2;split at h
  ·rename_i hs;cases op<;>simp only [yq,Bool.false_eq_true] at hs<;>simp only [F5] at h
   all_goals
    obtain ⟨he,pb⟩:=cK h;rw [pb] at hc;have h0: ¬b<0:=Wn hc.1;exact aQ.mk he (by simp [binOp,Op.shift,h0]) rfl
  rename_i hs;split at h;rename_i hk;subst hk;exact Gb (by simpa using hs) h hc;cases h
 rename_i a b;have e1:=mP (g:=g) (m:=m) (S:=S) (w:=w) hx;have e2:=mP (g:=g) (m:=m) (S:=S) (w:=w) hy;subst e1;subst e2;unfold Qo at h;split at h;exact aQ.mk (aH h) (r:= .bool (a==b)) (by simp [binOp,Op.stringOp,toList_str]) rfl;exact aQ.mk (aH h) (r:= .bool (a != b)) (by simp [binOp,Op.stringOp,toList_str,bne]) rfl;obtain ⟨he,pb⟩:=cK h;rw [pb] at hc;have h0:a.length+b.length≤bO:=hc.1;refine aQ.mk he (r:= .string ⟨(a++b).toArray⟩) ?_ rfl;have h1: ¬(((⟨a.toArray⟩:ByteArray).size+(⟨b.toArray⟩:ByteArray).size:Nat):Int)>IntKind.i64.max:=by
  simp only [ByteArray.size,List.size_toArray];unfold bO at h0;have:IntKind.i64.max=9223372036854775807:=by decide
  rw [this];omega
 simp only [binOp,Op.stringOp];rw [if_neg h1];simp [ByteArray.append_eq,ByteArray.ext_iff];exact aQ.mk (aH h) (r:= .bool (Op.bytesLess a b)) (by simp [binOp,Op.stringOp,toList_str]) rfl;cases h;rename_i a b;have e1:=ot (g:=g) (m:=m) (S:=S) (w:=w) hx;have e2:=ot (g:=g) (m:=m) (S:=S) (w:=w) hy;subst e1;subst e2;split at h;rename_i hu;exact aQ.mk (aH h) (r:= .bool (a==b)) (by simp only [binOp];simp [xy hu]) rfl;rename_i hu;exact aQ.mk (aH h) (r:= .bool (a != b)) (by simp only [binOp];simp [xy hu,bne]) rfl;cases h;cases h
end
end Go.Ide
namespace Go.Ide
section
variable {P:Program} {g:GM} {m:Mem} {S:Nat→Prop} {w:World}
def OR (g:GM)(m:Mem)(S:Nat→Prop)(w:World):Option aE→Option Value→Prop
 |none,none=>True
 |some v,some u=>VR g m S w v u
 |_,_=>False
theorem sU {lo:Option aE}{lv:Option Value}{l:Int}(h:Pv lo=some l)(hr:OR g m S w lo lv):(lv=none∧l=0)∨ ∃k,lv=some (.int k l):=by
 unfold Pv at h;split at h;cases lv with
 |none=>injection h with h;exact .inl ⟨rfl,h.symm⟩
 |some=>exact hr.elim
 rename_i k n;cases lv with
 |none=>exact hr.elim
 |some v=>
  injection h with h;subst h;exact .inr ⟨k,by rw [eL (g:=g) (m:=m) (S:=S) (w:=w) hr]⟩
 cases h
theorem vc {hi:Option aE}{hv:Option Value}{len:Nat}{h:Int}(he:Qn len hi=some h)(hr:OR g m S w hi hv):(hv=none∧h=len)∨ ∃k,hv=some (.int k h):=by
 unfold Qn at he;split at he;cases hv with
 |none=>injection he with he;exact .inl ⟨rfl,he.symm⟩
 |some=>exact hr.elim
 rename_i k n;cases hv with
 |none=>exact hr.elim
 |some v=>
  injection he with he;subst he;exact .inr ⟨k,by rw [eL (g:=g) (m:=m) (S:=S) (w:=w) hr]⟩
 cases he
theorem yX {lv hv:Option Value}{l h:Int}{len cap:Nat}{b:Bool}(hl:(lv=none∧l=0)∨ ∃k,lv=some (.int k l))(hh:(hv=none∧h=len)∨ ∃k,hv=some (.int k h))(h0:0≤l)(h1:l≤h)(h2:h≤(len:Int))(h3:len≤cap):(Instr.sliceBounds b len cap lv hv none).run P w= .ok (l.toNat,h.toNat,cap) w:=by
 have e1:l≤((h.toNat:Nat):Int):=by omega
 have e2:h≤(cap:Int):=by omega
 have e3:0≤h:=by omega
 have e4: ¬(max h 0<l):=by omega
 rcases hl with ⟨rfl,rfl⟩|⟨k,rfl⟩<;>rcases hh with ⟨rfl,hx⟩|⟨k',rfl⟩
 subst hx;simp [Instr.sliceBounds];simp [Instr.sliceBounds,Instr.sliceBound,asIntOf,e3,e2];subst hx;simp [Instr.sliceBounds,Instr.sliceBound,asIntOf,h0,h1];simp [Instr.sliceBounds,Instr.sliceBound,asIntOf,h0,e2,e3,e4]
theorem sV (off:Nat): ∀(vs:List Value) (k:Nat) (arr:Array Value),off+k+vs.length≤arr.size→
 ((vs.zipIdx k).foldl (fun cs (p:Value×Nat)=>cs.setIfInBounds (off+p.2) p.1) arr).toList=arr.toList.take (off+k)++vs++arr.toList.drop (off+k+vs.length)
 |[],k,arr,h=>by simp
 |v::vs,k,arr,h=>by
  simp only [List.zipIdx_cons,List.foldl_cons];simp only [List.length_cons] at h;rw [sV off vs (k+1) _ (by simp;omega)];have cq:off+k<arr.toList.length:=by simp;omega
  simp only [Array.toList_setIfInBounds,List.length_cons];rw [List.drop_set_of_lt (by omega),show off+(k+1)=off+k+1 from by omega,List.take_set,List.take_succ_eq_append_getElem cq,
   List.set_append_right _ _ (by simp;omega)]
  simp [show off+k+1+vs.length=off+k+(vs.length+1) from by omega,Nat.min_eq_left (Nat.le_of_lt (show off+k<arr.size by simpa using cq))]
theorem Ef (place:Nat→Option (Nat×Nat)): ∀{parts:List (Nat×aE)} {vparts:List (Nat×Value)} {mO r:List aA} {arr:Array Value},
 Ec place mO parts=some r→bB (CR g m S w) mO arr.toList→bB (fun (p:Nat×aE) (q:Nat×Value)=>p.1=q.1∧VR g m S w p.2 q.2) parts vparts→
 ∃aG,Instr.fill place arr vparts=some aG∧bB (CR g m S w) r aG.toList
 |[],[],mO,r,arr,h,hc,_=>by
  simp only [Ec] at h;injection h with h;subst h
  exact ⟨arr,rfl,hc⟩
 |(i,v)::parts,(j,u)::vparts,mO,r,arr,h,hc,hp=>by
  obtain ⟨⟨Gd,hv⟩,Eg⟩:=hp;have Gd:i=j:=Gd;subst Gd;simp only [Ec] at h;cases Py:place i with
  |none=>simp [Py] at h
  |some p=>
   obtain ⟨off,size⟩:=p;simp only [Py] at h;cases hb:((v.cells.length.beq size&&(off+v.cells.length).ble mO.length)&&v.ok) with
   |false=>simp [hb] at h
   |true=>
    rw [hb] at h;simp only [cond_true] at h;simp only [Bool.and_eq_true] at hb;have h1:=bL hb.1.1;have h2:=iT hb.1.2;obtain ⟨vs,hu,kI⟩:=jN hb.2 hv;have hlen:=kI.length;have Wo:=hc.length;simp only [Array.length_toList] at Wo;have aaq:u.cells.size=vs.length:=by rw [←Array.length_toList,hu]
    have vd:(u.cells.zipIdx.foldl (fun cs (p:Value×Nat)=>cs.setIfInBounds (off+p.2) p.1) arr).toList=arr.toList.take off++vs++arr.toList.drop (off+vs.length):=by
     have:=sV off vs 0 arr (by omega);rw [←Array.foldl_toList,Array.toList_zipIdx,hu];simpa using this
    have Pz:bB (CR g m S w) (mO.take off++v.cells++mO.drop (off+v.cells.length)) (u.cells.zipIdx.foldl (fun cs (p:Value×Nat)=>cs.setIfInBounds (off+p.2) p.1) arr).toList:=by
     rw [vd,←hlen];exact ((hc.take off).append kI).append (hc.drop _)
    obtain ⟨aG,e1,e2⟩:=Ef place h Pz Eg;refine ⟨aG,?_,e2⟩;simp only [Instr.fill,Py];rw [if_neg (by simp;omega)];exact e1
 |[],_::_,_,_,_,_,_,hp=>hp.elim
 |_::_,[],_,_,_,_,_,hp=>hp.elim
theorem Ge {α:Type}{xs:List α}{l h:Int}(h0:0≤l)(h1:l≤h)(h2:h≤(xs.length:Int)):(cut xs l h).length=h.toNat - l.toNat:=by
 unfold cut;simp;omega
theorem HW {α:Type}{xs:List α}{l h:Int}{i:Nat}(hi:i<(cut xs l h).length)(hj:l.toNat+i<xs.length):(cut xs l h)[i]=xs[l.toNat+i]:=by
 have hk:i<h.toNat - l.toNat:=by have:=hi;simp [cut] at this;omega
 have e:(cut xs l h)[i]? =xs[l.toNat+i]? :=by
  unfold cut;rw [List.getElem?_take,if_pos hk,List.getElem?_drop]
 rw [List.getElem?_eq_getElem hi,List.getElem?_eq_getElem hj] at e;exact Option.some.inj e
theorem jO {T el:TypeId}{k:Nat}(hu:P.underlying T=some (.slice el))(hs:dq P el=some k){a:Option Addr}{len cap:Nat}{lv hv:Option Value}{l h:Int}(hl:(lv=none∧l=0)∨ ∃k,lv=some (.int k l))(hh:(hv=none∧h=len)∨ ∃k,hv=some (.int k h))(h0:0≤l)(h1:l≤h)(h2:h≤(len:Int))(h3:len≤cap):
 (Instr.sliceAt T (.slice a len cap) lv hv none).run P w= .ok (.slice (if cap=l.toNat then a else a.map (·.add (l.toNat*k))) (h.toNat - l.toNat) (cap - l.toNat)) w:=by
 simp [Instr.sliceAt,Instr.slice,run_underlying hu,yX hl hh h0 h1 h2 h3,cL hs]
theorem Ct {T:TypeId}{x:aE}{lo hi:Option aE}{e:ca}{xa:Value}{lv hv:Option Value}(hm:lj g m S w)(h:ui P m T x lo hi=some e)(hc:bH e.cond)(hx:VR g m S w x xa)(mi:OR g m S w lo lv)(pr:OR g m S w hi hv):aQ P g m S w (Instr.sliceAt T xa lv hv none) e:=by
 unfold ui at h;split at h;rename_i xs hu;split at h;rename_i l h' hl hh;obtain ⟨he,pb⟩:=cK h;rw [pb] at hc;obtain ⟨⟨h0,h1,h2⟩,_⟩:=hc;have NJ:=mP (g:=g) (m:=m) (S:=S) (w:=w) hx;subst NJ;have fe:=sU hl mi;have KC:=vc hh pr;refine aQ.mk he (r:= .string ⟨(cut xs l h').toArray⟩) ?_ rfl;have fG:(⟨xs.toArray⟩:ByteArray).size=List.length xs:=by simp [ByteArray.size]
 have hb:=yX (P:=P) (w:=w) (b:=false) (len:=(⟨xs.toArray⟩:ByteArray).size) (cap:=(⟨xs.toArray⟩:ByteArray).size) fe (by rw [fG];exact KC) h0 h1 (by rw [fG];exact h2) (Nat.le_refl _);simp only [Instr.sliceAt,Instr.slice,Sem.run_bind,run_underlying hu,Result.andThen_ok,hb];simp [hb,cut,ByteArray.ext_iff];cases h;rename_i el hu;split at h;rename_i l h' hl hh;cases hb:(dq P el).isSome with
 |false=>simp [hb] at h
 |true=>
  rw [hb] at h;simp only [cond_true] at h;obtain ⟨sz,hs⟩:=Option.isSome_iff_exists.1 hb;obtain ⟨he,pb⟩:=cK h;rw [pb] at hc;obtain ⟨⟨h0,h1,h2⟩,_⟩:=hc;obtain ⟨a,e1⟩:=hx;subst e1;have fe:=sU hl mi;have KC:=vc hh pr;have wy:l=0:=Int.le_antisymm (Int.le_trans h1 h2) h0;have TC:h'=0:=Int.le_antisymm h2 (Int.le_trans h0 h1);subst wy;subst TC;exact aQ.mk he (jO (cap:=0) hu hs fe KC h0 h1 (Int.le_refl _) (Nat.le_refl _)) ⟨a,by simp⟩
 cases h;rename_i el t xs hu;split at h;rename_i l h' hl hh;cases hb:(dq P el==some t.size) with
 |false=>simp [hb] at h
 |true=>
  rw [hb] at h;simp only [cond_true] at h;have hs:dq P el=some t.size:=by simpa using hb
  obtain ⟨he,pb⟩:=cK h;rw [pb] at hc;obtain ⟨⟨h0,h1,h2⟩,_⟩:=hc;obtain ⟨a,cap,e1,uj,oZ⟩:=hx;have NJ:xa= .slice a (List.length xs) cap:=by simpa using e1
  subst NJ;have fe:=sU hl mi;have KC:=vc hh pr;have hlen:=Ge (xs:=xs) h0 h1 h2;refine aQ.mk he (jO hu hs fe KC h0 h1 h2 uj) ?_;refine ⟨if cap=l.toNat then a else a.map (·.add (l.toNat*t.size)),cap - l.toNat,by rw [hlen],by rw [hlen];omega,fun i hi=> ?_⟩;have nr:i<h'.toNat - l.toNat:=by rw [hlen] at hi;exact hi
  have hj:l.toNat+i<List.length xs:=by omega
  obtain ⟨ad,es,ea,hS,br,cJ⟩:=oZ (l.toNat+i) hj;subst ea;refine ⟨ad.add (l.toNat*t.size),es,by rw [if_neg (by omega)];rfl,by rw [gW];exact hS,fun j u hu=> ?_,?_⟩;rw [add_add,←Nat.add_assoc,←Nat.add_mul];exact br j u hu;rw [HW hi hj];exact cJ
 cases h;rename_i el c hu;split at h;rename_i t xs sW;split at h;rename_i l h' hl hh;cases hb:(dq P el==some t.size) with
 |false=>simp [hb] at h
 |true=>
  rw [hb] at h;simp only [cond_true] at h;have hs:dq P el=some t.size:=by simpa using hb
  obtain ⟨he,pb⟩:=cK h;rw [pb] at hc;obtain ⟨⟨h0,h1,h2⟩,_⟩:=hc;have fe:=sU hl mi;have KC:=vc hh pr;have bN:=hx.2.2 t xs (.inl sW);unfold jl at bN;cases hg:g c with
  |none=>
   rw [hg] at bN;obtain ⟨a,ha⟩:=bN;subst ha;have cY:=hm c _ sW;unfold kd at cY;have j8:g.f c []=none:=hg;rw [j8] at cY;have:xs=[]:=cY;subst this;have wy:l=0:=by simp at h2;omega
   have TC:h'=0:=by simp at h2;omega
   subst wy;subst TC;refine aQ.mk he (jO (cap:=0) hu hs fe KC h0 h1 h2 (Nat.le_refl _)) ⟨hx.1,rfl,fun t' cE pt=> ?_⟩;exact ⟨by simp,.inl ⟨by simp,fun _=>hg,a,by simp⟩⟩
  |some b=>
   rw [hg] at bN;obtain ⟨cap,arr,e1,uj,jL,iU,Cu⟩:=bN;subst e1;refine aQ.mk he (jO hu hs fe KC h0 h1 h2 uj) ⟨hx.1,rfl,fun t' cE pt=> ?_⟩;have pt:=dM.toSeq sW pt;rw [sW] at pt;injection pt with pt;injection pt with ht ve;subst ht;have ve:=eq_of_heq ve;subst ve;refine ⟨by omega,?_⟩;by_cases rN:cap=l.toNat;by_cases wy:l.toNat=0;right;refine ⟨b,0,arr,hg,?_,by omega,jL,by rw [wy];simp,by omega⟩;rw [if_pos rN,wy,Nat.zero_mul]
   congr 1<;>omega
   left;refine ⟨by omega,fun hz=>absurd hz wy,some ⟨b,0,none⟩,?_⟩;rw [if_pos rN]
   congr 1<;>omega
   right;refine ⟨b,cap - l.toNat,arr,hg,?_,by omega,jL,by rw [show l.toNat+(cap - l.toNat)=cap from by omega];exact iU,by omega⟩;rw [if_neg rN];simp [bY]
 cases h;cases h;rename_i el c off len hu;split at h;rename_i t xs sW;split at h;rename_i l h' hl hh;cases hb:(dq P el==some t.size) with
 |false=>simp [hb] at h
 |true=>
  rw [hb] at h;simp only [cond_true] at h;have hs:dq P el=some t.size:=by simpa using hb
  obtain ⟨he,pb⟩:=cK h;rw [pb] at hc;obtain ⟨⟨h0,h1,h2⟩,_⟩:=hc;have fe:=sU hl mi;have KC:=vc hh pr;obtain ⟨hle,yb⟩:=hx.2.2 t xs (.inl sW);rcases yb with ⟨tT,hz1,a,ha⟩|⟨b,cap,arr,hg,e1,uj,jL,iU,Cu⟩
  subst ha;subst tT;have wy:l=0:=by omega
  have TC:h'=0:=by omega
  subst wy;subst TC;refine aQ.mk he (jO (cap:=0) hu hs fe KC h0 h1 h2 (Nat.le_refl _)) ⟨hx.1,rfl,fun t' cE pt=> ?_⟩;have pt:=dM.toSeq sW pt;rw [sW] at pt;injection pt with pt;injection pt with ht ve;subst ht;have ve:=eq_of_heq ve;subst ve;exact ⟨by simp;omega,.inl ⟨by simp,fun hz=>hz1 (by simpa using hz),a,by simp⟩⟩;subst e1;refine aQ.mk he (jO hu hs fe KC h0 h1 h2 uj) ⟨hx.1,rfl,fun t' cE pt=> ?_⟩;have pt:=dM.toSeq sW pt;rw [sW] at pt;injection pt with pt;injection pt with ht ve;subst ht;have ve:=eq_of_heq ve;subst ve;refine ⟨by omega,?_⟩;by_cases rN:cap=l.toNat;by_cases wy:off+l.toNat=0;right;have Wp:off=0:=by omega
  have Nr:l.toNat=0:=by omega
  refine ⟨b,0,arr,hg,?_,by omega,jL,by rw [wy];simp,by omega⟩;rw [if_pos rN,Wp,Nr];simp only [Nat.zero_mul,Nat.add_zero]
  congr 1<;>omega
  left;refine ⟨by omega,fun hz=>absurd hz wy,some ⟨b,off*t.size,none⟩,?_⟩;rw [if_pos rN]
  congr 1<;>omega
  right;refine ⟨b,cap - l.toNat,arr,hg,?_,by omega,jL,by rw [show off+l.toNat+(cap - l.toNat)=off+cap from by omega];exact iU,by omega⟩;rw [if_neg rN];simp [bY,Nat.add_mul]
 cases h;cases h;cases h
end
end Go.Ide
namespace Go.Ide
section
variable {P:Program} {g:GM} {m:Mem} {S:Nat→Prop} {w:World}
theorem yY: ∀{fs:List Field} {pl:List (Nat×Nat)},sP P fs=some pl→fs.mapM (fun f=>(P.info? f.type).map fun i=>(f.offset,i.size))=some pl
 |[],pl,h=>by simp only [sP] at h;injection h with h;subst h;rfl
 |f::fs,pl,h=>by
  simp only [sP,dq] at h;cases hi:P.info? f.type with
  |none=>simp [hi] at h
  |some i=>
   simp only [hi,Option.map_some] at h;cases hr:sP P fs with
   |none=>simp [hr] at h
   |some l=>
    simp only [hr] at h;injection h with h;subst h;simp [List.mapM_cons,hi,yY hr]
theorem ou (z:Value)(hz:(rV z).ok=true):bB (CR g m S w) (rV z).cells z.cells.toList:=by
 obtain ⟨vs,e,h⟩:=jN hz (yr (g:=g) (m:=m) (S:=S) (w:=w) z);rw [e];exact h
theorem Cv {T:TypeId}{parts:List (Nat×aE)}{vparts:Array (Nat×Value)}{e:ca}(h:F3 P T parts=some e)(hp:bB (fun (p:Nat×aE) (q:Nat×Value)=>p.1=q.1∧VR g m S w p.2 q.2) parts vparts.toList):aQ P g m S w (Instr.build T vparts) e:=by
 unfold F3 at h;split at h;rename_i i fs hi hu;split at h;rename_i z pl hz Py;cases ja:(rV z).ok with
 |false=>simp [ja] at h
 |true=>
  simp only [ja,cond_true] at h;split at h;rename_i cs hf;obtain ⟨aG,h1,h2⟩:=Ef (fun j=>pl[j]?) hf (ou (g:=g) (m:=m) (S:=S) (w:=w) z ja) hp;refine aQ.mk (aH h) (run_build w T vparts aG ?_) ⟨aG.toList,by simp,h2⟩;unfold Program.built;simp only [hi,hu,hz,yY Py];simpa using h1;cases h
 cases h;cases h
theorem Jk {op:UnOp}{x:aE}{e:ca}{xa:Value}(h:VE op x=some e)(hx:VR g m S w x xa):aQ P g m S w (Op.unary op xa) e:=by
 unfold VE at h;split at h;rename_i b;have:=ot (g:=g) (m:=m) (S:=S) (w:=w) hx;subst this;exact aQ.mk (aH h) (r:= .bool (!b)) (by simp [Op.unary]) rfl;rename_i k n;have:=eL (g:=g) (m:=m) (S:=S) (w:=w) hx;subst this;exact aQ.mk (aH h) (r:= .int k (k.wrap (0 - n))) (by simp [Op.unary,Op.intArith]) rfl;cases h
theorem yZ {T U:TypeId}{x:aE}{e:ca}{xa:Value}(h:yQ P T U x=some e)(hx:VR g m S w x xa):aQ P g m S w (convert T U xa) e:=by
 unfold yQ at h;split at h;rename_i k1 k k2 n h1 h2;have:=eL (g:=g) (m:=m) (S:=S) (w:=w) hx;subst this;exact aQ.mk (aH h) (r:= .int k (k.wrap n)) (by simp [convert,run_underlying h1,run_underlying h2,Conv.intToInt]) rfl;rename_i s h1 h2;have:=mP (g:=g) (m:=m) (S:=S) (w:=w) hx;subst this;exact aQ.mk (aH h) (r:= .string ⟨List.toArray s⟩) (by simp [convert,run_underlying h1,run_underlying h2]) rfl;cases h
theorem za {x:aE}{i:Nat}{e:ca}{xa:Value}(h:u7 x i=some e)(hx:VR g m S w x xa):aQ P g m S w (Instr.extract xa i) e:=by
 unfold u7 at h;split at h;rename_i ts;split at h;rename_i ag cs ht;split at h;rename_i v hv;obtain ⟨vs,e1,bN⟩:=hx;subst e1;obtain ⟨u,hu,KD⟩:=bN.get i _ ht;refine aQ.mk (aH h) (r:=u) (by simp [Instr.extract,hu]) ?_;unfold Pu at hv;unfold CV at KD;split at hv;injection hv with hv;subst hv;exact KD;injection hv with hv;subst hv;exact KD;cases hv;cases h;cases h;cases h
theorem Gf {x y:aE}{e:ca}{xa ya:Value}{Ts:Array TypeId}{T:TypeId}(h:Qp x y=some e)(hx:VR g m S w x xa)(hy:VR g m S w y ya):aQ P g m S w (Builtin.min_ Ts T #[xa,ya]) e:=by
 unfold Qp at h;split at h;rename_i k a k' b;split at h;rename_i hk;subst hk;have h1:=eL (g:=g) (m:=m) (S:=S) (w:=w) hx;have h2:=eL (g:=g) (m:=m) (S:=S) (w:=w) hy;subst h1;subst h2;exact aQ.mk (aH h) (r:= .int k (if b<a then b else a)) (by simp [Builtin.min_,Builtin.min2]) rfl;cases h;cases h
theorem Gg {x y:aE}{e:ca}{xa ya:Value}{Ts:Array TypeId}{T:TypeId}(h:Qq x y=some e)(hx:VR g m S w x xa)(hy:VR g m S w y ya):aQ P g m S w (Builtin.max_ Ts T #[xa,ya]) e:=by
 unfold Qq at h;split at h;rename_i k a k' b;split at h;rename_i hk;subst hk;have h1:=eL (g:=g) (m:=m) (S:=S) (w:=w) hx;have h2:=eL (g:=g) (m:=m) (S:=S) (w:=w) hy;subst h1;subst h2;exact aQ.mk (aH h) (r:= .int k (if b>a then b else a)) (by simp [Builtin.max_,Builtin.max2]) rfl;cases h;cases h
end
section
variable {cx:Cx} {g:GM} {st:St} {a:Act} {w:World}
def pK (cx:Cx)(st:St)(a:Act)(e:ca)(val:Value)(w':World):Prop:=
 ∃g',dw cx g' (st.my (e.mu++e.new++st.mem) (st.nx+e.new.length)) a w'∧VR g' (e.mu++e.new++st.mem) (cx.safe g' (e.mu++e.new++st.mem) w') w' e.val val
def kf (cx:Cx)(st:St)(a:Act)(w:World)(s:Sem Value)(e:ca):Prop:=
 ∃val w',s.run cx.P w= .ok val w'∧pK cx st a e val w'
theorem aQ.runs {s:Sem Value}{e:ca}(h:dw cx g st a w)(hg:aQ cx.P g st.mem (cx.safe g st.mem w) w s e):kf cx st a w s e:=by
 obtain ⟨h1,h2,r,h3,h4⟩:=hg;refine ⟨r,w,h3,g,?_,?_⟩;rw [h1,h2];exact h;rw [h1,h2];exact h4
theorem pK.new {e:ca}{ch:Chunk}{arr:Array Value}{val:Value}{w':World}(h:dw cx g st a w)(hw:fH st.mem e.new)(he:e.new=[(st.nx,ch)]∧e.mu=[])(hk:bK [] w w')(hb:dy w' w.heap.size arr)(hc: ∀g':GM,(∀k,lk k st.mem≠none→g'.f k=g.f k)→g'.f st.nx=tR (some w.heap.size)→ ∀S',(∀b,cx.safe g st.mem w b→S' b)→kd g' ((st.nx,ch)::st.mem) S' w' (tR (some w.heap.size)) ch)(hv: ∀g':GM,g' st.nx=some w.heap.size→ ∀S',VR g' ((st.nx,ch)::st.mem) S' w' e.val val):pK cx st a e val w':=by
 obtain ⟨g',nq,hs,_⟩:=h.new (hw (st.nx,ch) (by rw [he.1];simp)) hk hb hc;refine ⟨g',?_,?_⟩;rw [he.1,he.2];exact hs;rw [he.1,he.2];exact hv g' (by show g'.f st.nx []=_;rw [nq];rfl) _
theorem Jl {ch:Chunk}{g':GM}{S':Nat→Prop}{w':World}(qt:lk st.nx st.mem=none)(hk:bK [] w w')(hg: ∀k,lk k st.mem≠none→g'.f k=g.f k)(hS: ∀b,cx.safe g st.mem w b→S' b):
 nI g g' st.mem ((st.nx,ch)::st.mem) (cx.safe g st.mem w) S' w w':=by
 have jq: ∀c,lk c st.mem≠none→lk c ((st.nx,ch)::st.mem)=lk c st.mem:=fun c hc=>by
  rw [aS,if_neg (fun e=>hc (by rw [e];exact qt))]
 refine ⟨⟨fun b hb=>⟨hS b hb,hk.block b hb.1 (by simp)⟩,fun c hc=>⟨by rw [jq c hc];exact hc,congrFun (hg c hc) []⟩,fun c t xs hc hl=>⟨xs,by unfold dM at hl⊢;rw [←jq c hc];exact hl,rfl⟩,fun c t xs b arr hc hl Jm hb=>⟨arr,hb.keep (hk.block b hb.lt (by simp)),rfl⟩⟩,
  hg,fun c t xs hc hl=>⟨xs,by rw [←jq c hc];exact hl,cl.refl _ _,fun i o b arr Jm hb=>⟨arr,hb.keep (hk.block b hb.lt (by simp)),rfl⟩⟩⟩
theorem Gh {v:aE}{e:ca}{va:Value}{T:TypeId}(h:dw cx g st a w)(hw:fH st.mem e.new)(he:NF st.nx v=some e)(hv:VR g st.mem (cx.safe g st.mem w) w v va):kf cx st a w (Instr.box T va) e:=by
 have key: ∀cs:List aA,v.ok=true→v.cells=cs→e=⟨.one (.ptr st.nx 0),[(st.nx,.box cs)],[],[]⟩→kf cx st a w (Instr.box T va) e:=by
  intro cs ja Ns Wq;obtain ⟨vs,kI,bN⟩:=jN ja hv;subst Wq;refine ⟨.pointer (some ⟨w.heap.size,0,none⟩),w.alloc (.cells va.cells T),by simp [Instr.box,newVar,newRow],?_⟩;refine pK.new h hw ⟨rfl,rfl⟩ (bK.alloc _ _ _) (dy.new w _ T) (fun g' hg nq S' hS=> ?_) (fun g' nq S'=>⟨by simp [aS],w.heap.size,nq,rfl⟩);refine ⟨w.heap.size,va.cells,rfl,dy.new w _ T,?_⟩;rw [kI,←Ns];exact bN.mono fun _ _=>CR.stays (Jl (hw (st.nx,.box cs) (by simp)) (bK.alloc _ _ _) hg hS)
 cases v with
 |one c=>
  simp only [NF] at he;cases hc:c.ok with
  |false=>simp [hc] at he
  |true=>
   simp only [hc,cond_true] at he;injection he with he;exact key [c] hc rfl he.symm
 |agg cs=>
  simp only [NF] at he;cases hc:cs.all aA.ok with
  |false=>simp [hc] at he
  |true=>
   simp only [hc,cond_true] at he;injection he with he;exact key cs hc rfl he.symm
 |HM=>cases he
 |FQ=>cases he
 |jk=>cases he
theorem Cw {T:TypeId}{e:ca}(h:dw cx g st a w)(hw:fH st.mem e.new)(he:FZ cx.P st.nx T=some e):kf cx st a w (Instr.alloc T true (.tuple #[])) e:=by
 unfold FZ at he;split at he;rename_i i hi;split at he;rename_i z hz;cases ja:(rV z).ok with
 |false=>simp [ja] at he
 |true=>
  simp only [ja,cond_true] at he;injection he with he;subst he;refine ⟨.pointer (some ⟨w.heap.size,0,none⟩),w.alloc (.cells z.cells T),by simp [Instr.alloc,zeroValue,typeInfo,hi,hz,newVar,newRow],?_⟩;refine pK.new h hw ⟨rfl,rfl⟩ (bK.alloc _ _ _) (dy.new w _ T) (fun g' hg nq S' hS=> ?_) (fun g' nq S'=>⟨by simp [aS],w.heap.size,nq,rfl⟩);exact ⟨w.heap.size,z.cells,rfl,dy.new w _ T,ou z ja⟩
 cases he;cases he
def KE (nx:Nat)(t:Ty)(v:aE):Option ca:=
 bif v.ok&&t.top then (match impl [] t v.cells with
  |some (x,[])=>some ⟨.one (.iy nx 0 t.size 0),[(nx,.seq t [x])],[],[]⟩
  |_=>none) else none
theorem Eh {v:aE}{t:Ty}{e:ca}{va:Value}{T:TypeId}(h:dw cx g st a w)(hw:fH st.mem e.new)(he:KE st.nx t v=some e)(hv:VR g st.mem (cx.safe g st.mem w) w v va):kf cx st a w (Instr.box T va) e:=by
 unfold KE at he;cases ja:(v.ok&&t.top) with
 |false=>rw [ja] at he;cases he
 |true=>
  rw [ja] at he;simp only [cond_true] at he;simp only [Bool.and_eq_true] at ja;split at he;rename_i x hx;injection he with he;subst he;obtain ⟨vs,kI,bN⟩:=jN ja.1 hv;refine ⟨.pointer (some ⟨w.heap.size,0,none⟩),w.alloc (.cells va.cells T),by simp [Instr.box,newVar,newRow],?_⟩;refine pK.new h hw ⟨rfl,rfl⟩ (bK.alloc _ _ _) (dy.new w _ T) (fun g' hg nq S' hS=> ?_) (fun g' nq S'=>⟨by simp [aS],w.heap.size,nq,by simp⟩);refine ⟨va.cells,dy.new w _ T,fA.pq ja.2 fun i hi=> ?_⟩;have PA:i=0:=by simp at hi;exact hi
  subst PA;obtain ⟨v1,v2,e1,r1,r2⟩:=jr (S2:=cx.safe g st.mem w) (fun _ h=>h) i9.nil t hx bN;have:v2=[]:=by cases v2 with|nil=>rfl|cons=>exact r2.elim
  subst this;rw [List.append_nil] at e1;refine ⟨vs,fun j v hv=> ?_,by rw [e1];exact bS.keep (fun b hb=>⟨hS b hb,RowKit.Below.heap_alloc w _ b hb.1⟩) t v1 x r1⟩;rw [Nat.zero_mul,Nat.zero_add,←Array.getElem?_toList,kI];exact hv;cases he
def Cy (P:Program)(nx:Nat)(T:TypeId)(t:Ty):Option ca:=
 match P.info? T with
 |some i=>(match i.zero with
  |some z=>bif (rV z).ok&&t.top then (match impl [] t (rV z).cells with
   |some (x,[])=>some ⟨.one (.iy nx 0 t.size 0),[(nx,.seq t [x])],[],[]⟩
   |_=>none) else none
  |none=>none)
 |none=>none
theorem A0 {T:TypeId}{t:Ty}{e:ca}(h:dw cx g st a w)(hw:fH st.mem e.new)(he:Cy cx.P st.nx T t=some e):kf cx st a w (Instr.alloc T true (.tuple #[])) e:=by
 unfold Cy at he;split at he;rename_i i hi;split at he;rename_i z hz;cases ja:((rV z).ok&&t.top) with
 |false=>rw [ja] at he;cases he
 |true=>
  rw [ja] at he;simp only [cond_true] at he;simp only [Bool.and_eq_true] at ja;split at he;rename_i x hx;injection he with he;subst he;refine ⟨.pointer (some ⟨w.heap.size,0,none⟩),w.alloc (.cells z.cells T),by simp [Instr.alloc,zeroValue,typeInfo,hi,hz,newVar,newRow],?_⟩;refine pK.new h hw ⟨rfl,rfl⟩ (bK.alloc _ _ _) (dy.new w _ T) (fun g' hg nq S' hS=> ?_) (fun g' nq S'=>⟨by simp [aS],w.heap.size,nq,by simp⟩);refine ⟨z.cells,dy.new w _ T,fA.pq ja.2 fun i hi=> ?_⟩;have PA:i=0:=by simp at hi;exact hi
  subst PA;obtain ⟨v1,v2,e1,r1,r2⟩:=jr (g:=⟨fun _ _=>none⟩) (m:=[]) (S:=S') (S2:=S') (w:=w.alloc (.cells z.cells T)) (fun _ h=>h) i9.nil t hx (ou z ja.1);have:v2=[]:=by cases v2 with|nil=>rfl|cons=>exact r2.elim
  subst this;rw [List.append_nil] at e1;refine ⟨z.cells.toList,fun j v hv=> ?_,by rw [e1];exact r1⟩;rw [Nat.zero_mul,Nat.zero_add,←Array.getElem?_toList];exact hv;cases he
 cases he;cases he
end
end Go.Ide
namespace Go.Ide
theorem Ty.size_pos: ∀(t:Ty),0<t.size
 | .int _=>Nat.one_pos
 | .aX _=>Nat.one_pos
 | .bool=>Nat.one_pos
 | .str=>Nat.one_pos
 | .sl _=>Nat.one_pos
 | .bx _=>Nat.one_pos
 | .own _=>Nat.one_pos
 | .pair a _=>Nat.lt_of_lt_of_le (Ty.size_pos a) (Nat.le_add_right _ _)
 | .st t=>Ty.size_pos t
theorem Cz {sz:Nat}{Q:Nat→List Value→Prop}: ∀(n:Nat),(∀i,i<n→ ∃es,es.length=sz∧Q i es)→
 ∃l:List Value,l.length=n*sz∧ ∀i,i<n→ ∃es,es.length=sz∧Q i es∧ ∀j,j<sz→l[i*sz+j]? =es[j]?
 |0,_=>⟨[],by simp,fun i hi=>by omega⟩
 |n+1,h=>by
  obtain ⟨l,hl,hq⟩:=Cz n fun i hi=>h i (by omega);obtain ⟨es,he,TE⟩:=h n (by omega);refine ⟨l++es,by simp [hl,he,Nat.add_mul],fun i hi=> ?_⟩;by_cases CA:i=n;subst CA;refine ⟨es,he,TE,fun j hj=> ?_⟩;rw [List.getElem?_append_right (by omega)]
  congr 1
  omega;obtain ⟨es',h1,h2,h3⟩:=hq i (by omega);refine ⟨es',h1,h2,fun j hj=> ?_⟩;rw [List.getElem?_append_left];exact h3 j hj;rw [hl];have:(i+1)*sz≤n*sz:=Nat.mul_le_mul_right _ (by omega);rw [Nat.add_mul] at this;omega
section
variable {P:Program} {g:GM} {m:Mem} {S S2:Nat→Prop} {w:World}
def fB (S:Nat→Prop)(w:World)(t:Ty)(xs:List t.D)(l:List Value):Prop:=
 ∀i (h:i<xs.length),∃es,(∀j,j<t.size→l[i*t.size+j]? =es[j]?)∧bS S w t es xs[i]
theorem fB.toR {t:Ty}{xs:List t.D}{arr:Array Value}(h:fB S w t xs arr.toList):Eb S w t xs arr:=fun i hi=>by
 obtain ⟨es,h1,h2⟩:=h i hi;refine ⟨es,fun j v hv=> ?_,h2⟩;have hj:j<t.size:=by rw [←bS.len t es _ h2];exact (List.getElem?_eq_some_iff.1 hv).1
 rw [←Array.getElem?_toList,h1 j hj];exact hv
theorem Eb.toL {t:Ty}{xs:List t.D}{arr:Array Value}(h:Eb S w t xs arr):fB S w t xs arr.toList:=fun i hi=>by
 obtain ⟨es,h1,h2⟩:=h i hi;refine ⟨es,fun j hj=> ?_,h2⟩;have FR:j<es.length:=by rw [bS.len t es _ h2];exact hj
 rw [Array.getElem?_toList,h1 j es[j] (List.getElem?_eq_getElem FR)];rw [List.getElem?_eq_getElem FR]
theorem fB.app {t:Ty}{xs ys:List t.D}{l1 l2 rest:List Value}(h1:fB S w t xs l1)(hl:l1.length=xs.length*t.size)(h2:fB S w t ys l2)(A3:l2.length=ys.length*t.size):
 fB S w t (xs++ys) (l1++l2++rest):=fun i hi=>by
 by_cases hx:i<xs.length;obtain ⟨es,k1,k2⟩:=h1 i hx;refine ⟨es,fun j hj=> ?_,by rw [List.getElem_append_left hx];exact k2⟩;have:(i+1)*t.size≤xs.length*t.size:=Nat.mul_le_mul_right _ (by omega);rw [Nat.add_mul] at this;rw [List.append_assoc,List.getElem?_append_left (by omega)];exact k1 j hj;have nr:i - xs.length<ys.length:=by rw [List.length_append] at hi;omega
 obtain ⟨es,k1,k2⟩:=h2 (i - xs.length) nr;refine ⟨es,fun j hj=> ?_,by rw [List.getElem_append_right (by omega)];exact k2⟩;have hmul:i*t.size=(i - xs.length)*t.size+xs.length*t.size:=by rw [←Nat.add_mul];congr 1;omega
 have:(i - xs.length+1)*t.size≤ys.length*t.size:=Nat.mul_le_mul_right _ (by omega);rw [Nat.add_mul] at this;rw [List.append_assoc,List.getElem?_append_right (by omega),List.getElem?_append_left (by omega)];rw [←k1 j hj]
 congr 1
 omega
theorem fB.take {t:Ty}{xs:List t.D}{l:List Value}{n:Nat}(h:fB S w t xs l)(hn:n≤xs.length):fB S w t (xs.take n) (l.take (n*t.size)):=fun i hi=>by
 have nr:i<n:=by rw [List.length_take] at hi;omega
 obtain ⟨es,k1,k2⟩:=h i (by omega);refine ⟨es,fun j hj=> ?_,by rw [List.getElem_take];exact k2⟩;have:(i+1)*t.size≤n*t.size:=Nat.mul_le_mul_right _ (by omega);rw [Nat.add_mul] at this;rw [List.getElem?_take,if_pos (by omega)];exact k1 j hj
theorem bS.Cz {t:Ty}{xs:List t.D}{v:Value}(h:bS S w (.sl t) [v] xs):
 ∃a cap news,v= .slice a xs.length cap∧xs.length≤cap∧news.length=xs.length*t.size∧fB S w t xs news∧(∀u∈news,u.oneCell'=true)∧
  (xs=[]∨ ∃ad,a=some ad∧ ∀k u,news[k]? =some u→w.cell? (ad.add k)=some u):=by
 obtain ⟨a,cap,e,hc,oZ⟩:=h;have e:v= .slice a (List.length xs) cap:=by simpa using e
 subst e;obtain ⟨l,hl,hq⟩:=Ide.Cz (sz:=t.size) (Q:=fun i es=> ∃h:i<List.length xs,∃ad,a=some ad∧(∀j u,es[j]? =some u→w.cell? (ad.add (i*t.size+j))=some u)∧bS S w t es xs[i]) (List.length xs) fun i hi=>by
  obtain ⟨ad,es,ea,_,h1,h2⟩:=oZ i hi;exact ⟨es,bS.len t es _ h2,hi,ad,ea,h1,h2⟩
 have fG:=t.size_pos;have br: ∀k u,l[k]? =some u→ ∃ad,a=some ad∧w.cell? (ad.add k)=some u∧u.oneCell'=true:=by
  intro k u hk;have cq:k<List.length xs*t.size:=by rw [←hl];exact (List.getElem?_eq_some_iff.1 hk).1
  have hi:k/t.size<List.length xs:=Nat.div_lt_of_lt_mul (by rw [Nat.mul_comm];exact cq);obtain ⟨es,he,⟨_,ad,ea,h1,h2⟩,h3⟩:=hq (k/t.size) hi;have zc:k%t.size<t.size:=Nat.mod_lt _ fG;have dU:k/t.size*t.size+k%t.size=k:=by rw [Nat.mul_comm];exact Nat.div_add_mod k t.size
  have h4:=h3 (k%t.size) zc;rw [dU,hk] at h4;refine ⟨ad,ea,?_,?_⟩;have:=h1 (k%t.size) u h4.symm;rw [dU] at this;exact this;exact bS.oq t h2 u (List.mem_of_getElem? h4.symm)
 refine ⟨a,cap,l,rfl,hc,hl,fun i hi=> ?_,fun u hu=> ?_,?_⟩;obtain ⟨es,he,⟨_,ad,ea,h1,h2⟩,h3⟩:=hq i hi;exact ⟨es,h3,h2⟩;obtain ⟨k,hk,e⟩:=List.getElem_of_mem hu;obtain ⟨_,_,_,h⟩:=br k u (by rw [List.getElem?_eq_getElem hk,e]);exact h;cases hx:xs with
 |nil=>exact .inl rfl
 |cons x r=>
  right;obtain ⟨ad,es,ea,_⟩:=oZ 0 (by rw [hx];simp);refine ⟨ad,ea,fun k u hk=> ?_⟩;obtain ⟨ad',S8,h,_⟩:=br k u hk;rw [ea] at S8;injection S8 with S8;subst S8;exact h
theorem bK.setCell (w:World)(p:Addr)(v:Value):bK [p.block] w (w.setCell p v):=
 ⟨rfl,rfl,rfl,by simp,fun q _ hn=>RowKit.Below.heap_setCell w p v q (by simpa using hn),fun b arr hb=>by
  by_cases e:b=p.block;subst e;obtain ⟨T,lo,hi,hh,hf⟩:=hb;refine ⟨if p.spot.isSome then arr else arr.setIfInBounds p.off v,⟨T,lo,hi,by simp [World.setCell,Array.getElem?_modify,hh],?_⟩,by split<;>simp⟩;split<;>simpa using hf;exact ⟨arr,hb.keep (RowKit.Below.heap_setCell w p v b e),rfl⟩⟩
theorem fI {b:Nat}: ∀(vs:List Value) (o i:Nat) (w:World) (arr:Array Value),dy w b arr→o+i+vs.length≤arr.size→(∀v∈vs,v.oneCell'=true)→
 ∃w' aG,(storeCells ⟨b,o,none⟩ vs i).run P w= .ok () w'∧dy w' b aG∧aG.toList=arr.toList.take (o+i)++vs++arr.toList.drop (o+i+vs.length)∧bK [b] w w'∧w'.heap.size=w.heap.size
 |[],o,i,w,arr,hb,_,_=>⟨w,arr,rfl,hb,by simp,bK.refl _ _,rfl⟩
 |v::vs,o,i,w,arr,hb,hle,h1=>by
  simp only [List.length_cons] at hle;have cq:o+i<arr.size:=by omega
  have mN:(store ((⟨b,o,none⟩:Addr).add i) v).run P w= .ok () (w.setCell ⟨b,o+i,none⟩ v):=by
   rw [bY,run_store P w _ v _ (h1 v (by simp)),hb.cell,Array.getElem?_eq_getElem cq];have hf:=hb.Wk cq;simp [hf]
  have ke:dy (w.setCell ⟨b,o+i,none⟩ v) b (arr.setIfInBounds (o+i) v):=by
   obtain ⟨T,lo,hi,hh,hf⟩:=hb;exact ⟨T,lo,hi,by simp [World.setCell,Array.getElem?_modify,hh],by simpa using hf⟩
  obtain ⟨w',aG,e,k1,k2,k3,k4⟩:=fI vs o (i+1) (w.setCell ⟨b,o+i,none⟩ v) _ ke (by simp;omega) (fun x hx=>h1 x (by simp [hx]));refine ⟨w',aG,?_,k1,?_,bK.trans (bK.setCell w ⟨b,o+i,none⟩ v) k3,by rw [k4];simp⟩;simp only [storeCells,Sem.run_bind,mN,Result.andThen_ok,e];have TF:o+i<arr.toList.length:=by simpa using cq
  rw [k2];simp only [Array.toList_setIfInBounds,List.length_cons];rw [List.drop_set_of_lt (by omega),show o+(i+1)=o+i+1 from by omega,List.take_set,List.take_succ_eq_append_getElem TF,List.set_append_right _ _ (by simp;omega)];simp [show o+i+1+vs.length=o+i+(vs.length+1) from by omega,Nat.min_eq_left (Nat.le_of_lt cq)]
theorem eN {size n:Nat}{a:Option Addr}{len cap:Nat}{cs:List Value}(hl:cs.length=n*size)(h:n=0∨ ∃ad,a=some ad∧ ∀j v,cs[j]? =some v→w.cell? (ad.add j)=some v):
 (Builtin.firstCells size n (.slice a len cap)).run P w= .ok cs.toArray w:=by
 rcases h with rfl|⟨ad,rfl,h⟩
 have:cs=[]:=List.eq_nil_of_length_eq_zero (by simpa using hl);subst this;cases a with
 |none=>simp [Builtin.firstCells]
 |some ad=>simp [Builtin.firstCells,loadCells,loadCellsFrom]
 exact run_firstCells_some w size n ad len cap cs hl h
theorem vf {t ty e:TypeId}{i:TypeInfo}{z:Value}(ht:P.underlying t=some (.slice e))(hi:P.info? e=some i)(hz:i.zero=some z){base:Option Addr}{n cap:Nat}{j9:List Value}(mi:j9.length=n*i.size)(ho:n=0∨ ∃ad,base=some ad∧ ∀j v,j9[j]? =some v→w.cell? (ad.add j)=some v){a:Option Addr}{k c:Nat}{news:List Value}(hl:news.length=k*i.size)(hn:k=0∨ ∃ad,a=some ad∧ ∀j v,news[j]? =some v→w.cell? (ad.add j)=some v)(hg:cap<n+k)(hb:(n+k)*i.bytes≤140737488355328)(h63:n+k≤9223372036854775807):
 (Builtin.append_ #[t,t] ty #[.slice base n cap,.slice a k c]).run P w=
  .ok (.slice (some ⟨w.heap.size,0,none⟩) (n+k) (grownCap w (n+k) cap e))
   (w.drew.alloc (.cells (j9.toArray++news.toArray++Builtin.zeroCells z.cells (grownCap w (n+k) cap e - (n+k))) e)):=by
 have lI: ¬(n+k≤cap):=by omega
 have KF: ¬(9223372036854775807<((n:Int)+(k:Int))):=by omega
 have Zr:=growslice_fits (old:=cap) hg hb;have KG: ¬(281474976710656<Builtin.nextslicecap (n+k) cap*i.bytes):=by omega
 have hf:=eN (P:=P) (w:=w.drew) (len:=k) (cap:=c) hl hn;have TG:=eN (P:=P) (w:=w.drew) (len:=n) (cap:=cap) mi ho;simp [Builtin.append_,run_underlying ht,sizeOf,typeInfo,zeroValue,hi,hz,Builtin.lenOf,lI,KF,KG,Question.forced,hf,TG,newRow,grownCap]
 congr 2
 apply Array.ext';simp [List.append_assoc]
theorem vg {t ty e:TypeId}{i:TypeInfo}(ht:P.underlying t=some (.slice e))(hi:P.info? e=some i){b n cap:Nat}{arr:Array Value}(hb:dy w b arr){a:Option Addr}{k c:Nat}{news:List Value}(hl:news.length=k*i.size)(hn:k=0∨ ∃ad,a=some ad∧ ∀j v,news[j]? =some v→w.cell? (ad.add j)=some v)(h1: ∀u∈news,u.oneCell'=true)(lI:n+k≤cap)(iU:(n+k)*i.size≤arr.size):
 ∃w' aG,(Builtin.append_ #[t,t] ty #[.slice (some ⟨b,0,none⟩) n cap,.slice a k c]).run P w= .ok (.slice (some ⟨b,0,none⟩) (n+k) cap) w'∧dy w' b aG∧
  aG.toList=arr.toList.take (n*i.size)++news++arr.toList.drop (n*i.size+news.length)∧bK [b] w w'∧w'.heap.size=w.heap.size:=by
 have hf:=eN (P:=P) (w:=w) (len:=k) (cap:=c) hl hn;obtain ⟨w',aG,e,k1,k2,k3,k4⟩:=fI (P:=P) news (n*i.size) 0 w arr hb (by rw [hl,Nat.add_zero,←Nat.add_mul];exact iU) h1;refine ⟨w',aG,?_,k1,by simpa using k2,k3,k4⟩;have ha:(⟨b,0,none⟩:Addr).add (n*i.size)=⟨b,n*i.size,none⟩:=by rw [bY];simp
 simp [Builtin.append_,run_underlying ht,sizeOf,typeInfo,hi,Builtin.lenOf,lI,hf,ha,e]
theorem qC {t ty e:TypeId}{i:TypeInfo}(ht:P.underlying t=some (.slice e))(hi:P.info? e=some i){base a:Option Addr}{c:Nat}:
 (Builtin.append_ #[t,t] ty #[.slice base 0 0,.slice a 0 c]).run P w= .ok (.slice base 0 0) w:=by
 have hf:=eN (P:=P) (w:=w) (size:=i.size) (n:=0) (a:=a) (len:=0) (cap:=c) (cs:=[]) (by simp) (.inl rfl);cases base<;>simp [Builtin.append_,run_underlying ht,sizeOf,typeInfo,hi,Builtin.lenOf,hf,storeCells]
end
end Go.Ide
namespace Go.Ide
section
variable {P:Program} {g:GM} {m:Mem} {S S2:Nat→Prop} {w:World}
theorem fB.oq {t:Ty}{xs:List t.D}{l:List Value}(h:fB S w t xs l)(hl:l.length=xs.length*t.size): ∀u∈l,u.oneCell'=true:=by
 intro u hu;obtain ⟨k,hk,e⟩:=List.getElem_of_mem hu;have fG:=t.size_pos;have hi:k/t.size<xs.length:=Nat.div_lt_of_lt_mul (by rw [Nat.mul_comm];omega);obtain ⟨es,h1,h2⟩:=h (k/t.size) hi;have h3:=h1 (k%t.size) (Nat.mod_lt _ fG);have dU:k/t.size*t.size+k%t.size=k:=by rw [Nat.mul_comm];exact Nat.div_add_mod k t.size
 rw [dU,List.getElem?_eq_getElem hk,e] at h3;exact bS.oq t h2 u (List.mem_of_getElem? h3.symm)
structure Src (S:Nat→Prop)(w:World)(t:Ty)(ys:List t.D)(v:Value)(news:List Value):Prop where
 len:news.length=ys.length*t.size
 Jh:fB S w t ys news
 val: ∃a cap,v= .slice a ys.length cap∧(ys.length=0∨ ∃ad,a=some ad∧ ∀k u,news[k]? =some u→w.cell? (ad.add k)=some u)
theorem HX {t:Ty}{xs:List t.D}{b off len:Nat}{arr:Array Value}{cap:Nat}(hb:dy w b arr)(he:Eb S w t xs arr)(hle:off+len≤xs.length)(iU:(off+len)*t.size≤arr.size):
 Src S w t ((xs.drop off).take len) (.slice (some ⟨b,off*t.size,none⟩) len cap) ((arr.toList.drop (off*t.size)).take (len*t.size)):=by
 have hlen:((xs.drop off).take len).length=len:=by simp;omega
 refine ⟨?_,fun i hi=> ?_,some ⟨b,off*t.size,none⟩,cap,by rw [hlen],.inr ⟨_,rfl,fun k u hu=> ?_⟩⟩;rw [hlen];simp;rw [Nat.add_mul] at iU;omega;have nr:i<len:=by rw [hlen] at hi;exact hi
 obtain ⟨es,k1,k2⟩:=he.toL (off+i) (by omega);refine ⟨es,fun j hj=> ?_,by simpa using k2⟩;have:(i+1)*t.size≤len*t.size:=Nat.mul_le_mul_right _ (by omega);rw [Nat.add_mul] at this;rw [List.getElem?_take,if_pos (by omega),List.getElem?_drop,←k1 j hj,Nat.add_mul,Nat.add_assoc];rw [bY,hb.cell];rw [List.getElem?_take] at hu;split at hu;simpa using hu;cases hu
theorem Src.nil {t:Ty}{a:Option Addr}{c:Nat}:Src S w t ([]:List t.D) (.slice a 0 c) []:=
 ⟨by simp,fun i hi=>by simp at hi,a,c,rfl,.inl rfl⟩
theorem pP: ∀(t:Ty),t.j7=true→t.er=t
 | .own _,h=>by cases h
 | .sl t,h=>congrArg Ty.sl (pP t h)
 | .bx t,h=>congrArg Ty.bx (pP t h)
 | .pair a b,h=>by
  simp only [Ty.j7,Bool.and_eq_true] at h;simp only [Ty.er,pP a h.1,pP b h.2]
 | .st t,h=>congrArg Ty.st (pP t h)
 | .int _,_=>rfl
 | .aX _,_=>rfl
 | .bool,_=>rfl
 | .str,_=>rfl
theorem sX: ∀(t:Ty),t.top=true→t.j7=true
 | .own _,h=>by cases h
 | .sl t,h=>h
 | .bx t,h=>h
 | .pair a b,h=>by
  simp only [Ty.top,Bool.and_eq_true] at h;simp only [Ty.j7,sX a h.1,sX b h.2,Bool.and_self]
 | .st t,h=>sX t h
 | .int _,_=>rfl
 | .aX _,_=>rfl
 | .bool,_=>rfl
 | .str,_=>rfl
theorem Qu (t:Ty){e:Ty}(h:t.top=true)(he:t.er=e):t=e:=by
 rw [←he,pP t (sX t h)]
theorem CB (hm:lj g m S w){t:Ty}{x:aE}{ys:List t.D}{v:Value}(h:mr m (.sl t) x=some ys)(ja:nJ m x=true)(ht:t.top=true)(hr:VR g m S w x v): ∃news,Src S w t ys v news:=by
 unfold mr at h;split at h;rename_i c mN;split at h;rename_i y he;injection h with h;subst h;simp only [impl,cW] at he;split at he;rename_i z hz;injection he with he;injection he with he _;subst he;have hr:CR g m S w c v:=hr;cases c with
 |aq t' q=>
  simp only [eu] at hz;split at hz;rename_i e;subst e;injection hz with hz;subst hz;obtain ⟨a,cap,news,e1,h1,h2,h3,h4,h5⟩:=bS.Cz (xs:=q) (t:=t) hr;refine ⟨news,h2,h3,a,cap,e1,?_⟩;rcases h5 with h5|h5
  left;rw [h5];rfl;exact .inr h5;cases hz
 |all c=>
  simp only [eu] at hz;split at hz;rename_i e' xs hl;split at hz;rename_i xz;subst xz;injection hz with hz;subst hz;have hx:=hr.2.2 e' xs (.inl hl);have cY:=hm c _ hl;unfold jl at hx;unfold kd at cY;have hx:match g.f c [] with|none=>_|some b=>_:=hx
  cases hg:g.f c [] with
  |none=>
   rw [hg] at hx cY;obtain ⟨a,ha⟩:=hx;have:xs=[]:=cY;subst this;subst ha;exact ⟨[],Src.nil⟩
  |some b=>
   rw [hg] at hx cY;obtain ⟨cap,arr,e1,k1,k2,k3,k4⟩:=hx;obtain ⟨aG,ke,oZ⟩:=cY;have:=k2.eq ke;subst this;subst e1;have:=HX (off:=0) (len:=xs.length) (cap:=cap) k2 (oZ.Jh ht) (by omega) (by rw [Nat.zero_add];exact Nat.le_trans (Nat.mul_le_mul_right _ k1) k3);simp only [List.drop_zero,List.take_length,Nat.zero_mul] at this;exact ⟨_,this⟩
  rename_i jq;split at hz;rename_i xz;simp only [nJ,hl] at ja;exact absurd (Qu e' ja xz) jq;cases hz;cases hz
 |row c i o=>cases ja
 |AW c i o j sz off=>simp [eu] at hz
 |ref c off len=>
  simp only [eu] at hz;split at hz;rename_i e' xs hl;split at hz;rename_i xz;subst xz;injection hz with hz;subst hz;obtain ⟨hle,hx⟩:=hr.2.2 e' xs (.inl hl);have cY:=hm c _ hl;unfold kd at cY;rcases hx with ⟨h0,_,a,ha⟩|⟨b,cap,arr,hg,e1,k1,k2,k3,k4⟩
  subst h0;subst ha;have:(xs.drop off).take 0=([]:List e'.D):=rfl;exact ⟨[],by simp [cG],fun i hi=>by simp [cG] at hi,a,0,by simp [cG],.inl (by simp [cG])⟩;have hg:g.f c []=some b:=hg;rw [hg] at cY;obtain ⟨aG,ke,oZ⟩:=cY;have:=k2.eq ke;subst this;have oZ:=oZ.Jh ht;subst e1;exact ⟨_,HX (cap:=cap) k2 oZ hle (Nat.le_trans (Nat.mul_le_mul_right _ (by omega)) k3)⟩;cases hz;cases hz
 |ar=>
  simp only [eu] at hz;injection hz with hz;subst hz;obtain ⟨a,ha⟩:=hr;subst ha;exact ⟨[],Src.nil⟩
 |ptr c off=>simp [eu] at hz
 |iy c i sz off=>simp [eu] at hz
 |ip t x off=>simp [eu] at hz
 |fn f=>simp [eu] at hz
 |nM f t' x=>simp [eu] at hz
 |jk=>simp [eu] at hz
 |bad=>simp [eu] at hz
 cases he;cases h;rename_i mN;cases mN;cases h
def Wr (g:GM)(m:Mem)(S:Nat→Prop)(w:World)(t:Ty)(xs:List t.D)(up:Mem)(v:Value):Prop:=
 (up=[]∨ ∃c ch,up=[(c,.gone)]∧lk c m=some ch∧ch≠ .gone)∧
 ((xs=[]∧ ∃a,v= .slice a 0 0)∨
  ∃c ch b cap arr,up=[(c,.gone)]∧lk c m=some ch∧ch≠ .gone∧g c=some b∧v= .slice (some ⟨b,0,none⟩) xs.length cap∧xs.length≤cap∧dy w b arr∧cap*t.size≤arr.size∧cap≤maxLen∧
   fB S w t xs (arr.toList.take (xs.length*t.size)))
theorem Ei (hm:lj g m S w){t:Ty}{x:aE}{xs:List t.D}{up:Mem}{v:Value}(h:nO m t x=some (xs,up))(ht:t.top=true)(hr:VR g m S w x v):Wr g m S w t xs up v:=by
 unfold nO at h;split at h;injection h with h;injection h with h1 h2;subst h1;subst h2;exact ⟨.inl rfl,.inl ⟨rfl,hr⟩⟩;rename_i c;split at h;rename_i t' ys hl;split at h;rename_i he;subst he;injection h with h;injection h with h1 h2;subst h1;subst h2;refine ⟨.inr ⟨c,_,rfl,hl,by simp⟩,?_⟩;have hx:=hr.2.2 t' ys (.inl hl);have cY:=hm c _ hl;unfold jl at hx;unfold kd at cY;have hx:match g.f c [] with|none=>_|some b=>_:=hx
 cases hg:g.f c [] with
 |none=>
  rw [hg] at hx cY;exact .inl ⟨cY,hx⟩
 |some b=>
  rw [hg] at hx cY;obtain ⟨cap,arr,e1,k1,k2,k3,k4⟩:=hx;obtain ⟨aG,ke,oZ⟩:=cY;have:=k2.eq ke;subst this;have:=(oZ.Jh ht).toL.take (n:=ys.length) (Nat.le_refl _);rw [List.take_length] at this;exact .inr ⟨c,_,b,cap,arr,rfl,hl,by simp,hg,e1,k1,k2,k3,k4,this⟩
 cases h;cases h;rename_i c len;split at h;rename_i t' ys hl;split at h;rename_i he;subst he;injection h with h;injection h with h1 h2;subst h1;subst h2;refine ⟨.inr ⟨c,_,rfl,hl,by simp⟩,?_⟩;obtain ⟨hle,hx⟩:=hr.2.2 t' ys (.inl hl);have cY:=hm c _ hl;unfold kd at cY;have hlen:(ys.take len).length=len:=by simp;omega
 rcases hx with ⟨h0,_,a,ha⟩|⟨b,cap,arr,hg,e1,k1,k2,k3,k4⟩
 subst h0;exact .inl ⟨rfl,a,ha⟩;have j8:g.f c []=some b:=hg;rw [j8] at cY;obtain ⟨aG,ke,oZ⟩:=cY;have:=k2.eq ke;subst this;have oZ:=oZ.Jh ht;rw [Nat.zero_mul] at e1;rw [Nat.zero_add] at k3;refine .inr ⟨c,_,b,cap,arr,rfl,hl,by simp,hg,?_,?_,k2,k3,k4,?_⟩;show v= .slice _ (ys.take len).length cap;rw [hlen];exact e1;show (ys.take len).length≤cap;rw [hlen];exact k1;show fB S w t' (ys.take len) (arr.toList.take ((ys.take len).length*t'.size));rw [hlen];exact oZ.toL.take (by omega);cases h;cases h;cases h
end
section
variable {cx:Cx} {g:GM} {st:St} {a:Act} {w w':World}
def CC (m up:Mem):Prop:= ∀p∈up,p.2= .gone∧lk p.1 m≠none
theorem CC.lk {m up:Mem}(h:CC m up){k:Nat}{ch:Chunk}(hk:lk k up=some ch):ch= .gone∧Ide.lk k m≠none:=by
 induction up with
 |nil=>cases hk
 |cons p up ih=>
  obtain ⟨k',c'⟩:=p;rw [aS] at hk;split at hk;rename_i e;injection hk with hk;subst hk;subst e;exact h (k,c') (by simp);exact ih (fun q hq=>h q (by simp [hq])) hk
theorem dw.newAt (h:dw cx g st a w)(qt:lk st.nx st.mem=none){up:Mem}{G:List Nat}{γ:List Nat→Option Nat}{ch:Chunk}(o5:CC st.mem up)(hk:bK G w w')(hG: ∀b∈G,∃c p ua,lk c up=some .gone∧lk c st.mem=some ua∧ua.owns p∧g.f c p=some b)(hγ: ∀p b,γ p=some b→b<w'.heap.size∧(w.heap.size≤b∨b∈G))(Ws: ∀p q b,γ p=some b→γ q=some b→p=q)(hc: ∀g' m' S',(∀b,cx.safe g st.mem w b→S' b∧w'.heap[b]? =w.heap[b]?)→kd g' m' S' w' γ ch):
 ∃g':GM,g'.f st.nx=γ∧dw cx g' (st.my (up++[(st.nx,ch)]++st.mem) (st.nx+1)) a w':=by
 have j8: ∀k,lk k st.mem≠none→(g.set st.nx γ).f k=g.f k:=fun k jq=>GM.Ky _ _ (fun e=>jq (by rw [e];exact qt));have nq:=GM.Ed g st.nx γ;revert j8 nq;generalize g.set st.nx γ=g';intro j8 nq;have TH: ∀b,b∈G→Live g st.mem b:=fun b hb=>by
  obtain ⟨c,p,ua,_,h2,h3,h4⟩:=hG b hb;exact ⟨c,p,ua,h2,h3,h4⟩
 have KH:lk st.nx up=none:=by
  cases hu:lk st.nx up with
  |none=>rfl
  |some c=>exact absurd qt (o5.lk hu).2
 have sW: ∀k,lk k (up++[(st.nx,ch)]++st.mem)=(lk k up).or (if k=st.nx then some ch else lk k st.mem):=fun k=>by
  rw [List.append_assoc,bQ,List.singleton_append,aS]
 have hold: ∀k ua,lk k st.mem=some ua→(lk k up=none∧lk k (up++[(st.nx,ch)]++st.mem)=some ua∧(∀p b,ua.owns p→g.f k p=some b→b ∉ G))∨lk k (up++[(st.nx,ch)]++st.mem)=some .gone:=by
  intro k ua sY;have TI:k≠st.nx:=fun e=>by rw [e,qt] at sY;cases sY
  cases hu:lk k up with
  |none=>
   left;refine ⟨rfl,by rw [sW,hu,if_neg TI,sY];rfl,fun p b hn qp hb=> ?_⟩;obtain ⟨c,q,Zs,h1,h2,h3,h4⟩:=hG b hb;have:=(h.lz k c p q ua Zs b sY hn h2 h3 qp h4).1;subst this;rw [hu] at h1;cases h1
  |some c0=>
   right;rw [sW,hu,(o5.lk hu).1];rfl
 have TJ:lk st.nx (up++[(st.nx,ch)]++st.mem)=some ch:=by rw [sW,KH,if_pos rfl];rfl
 have vh: ∀k,lk k st.mem=none→k≠st.nx→lk k (up++[(st.nx,ch)]++st.mem)=none:=by
  intro k sY TI;cases hu:lk k up with
  |none=>rw [sW,hu,if_neg TI,sY];rfl
  |some c0=>exact absurd sY (o5.lk hu).2
 have TK: ∀k' jM p,lk k' (up++[(st.nx,ch)]++st.mem)=some jM→jM.owns p→k'≠st.nx→lk k' st.mem=some jM∧ ∀b,g.f k' p=some b→b ∉ G:=by
  intro k' jM p gP Cr TI;cases ho:lk k' st.mem with
  |none=>rw [vh k' ho TI] at gP;cases gP
  |some c0=>
   rcases hold k' c0 ho with ⟨_,e1,e2⟩|e1
   rw [gP] at e1;injection e1 with e1;subst e1;exact ⟨rfl,fun b hb=>e2 p b Cr hb⟩
   rw [gP] at e1;injection e1 with e1;subst e1;exact Cr.elim
 have t:AY cx g g' st.mem (up++[(st.nx,ch)]++st.mem) w w' G:=by
  refine ⟨hk,TH,j8,fun k c0 ho=> ?_,fun k c0 ho dU=> ?_⟩;rcases hold k c0 ho with ⟨_,e1,e2⟩|e1
  exact .inl ⟨e1,e2⟩;exact .inr (.inl e1);by_cases e:k=st.nx;subst e;rw [TJ] at dU;injection dU with dU;subst dU;refine ⟨?_,fun p b hn hg=> ?_⟩;rw [nq];refine hc g' _ _ fun b hb=> ?_;obtain ⟨h1,h2,h3⟩:=hb;have Zt:b ∉ G:=fun hb=>h3 (TH b hb);refine ⟨⟨Nat.lt_of_lt_of_le h1 hk.size,h2,?_⟩,hk.block b h1 Zt⟩;rintro ⟨k,p,c,vb,hn,hg⟩;by_cases e:k=st.nx;subst e;rw [nq] at hg;rcases (hγ p b hg).2 with hx|hx
  omega;exact Zt hx;obtain ⟨h4,_⟩:=TK k c p vb hn e;exact h3 ⟨k,p,c,h4,hn,by rw [←j8 k (by rw [h4];simp)];exact hg⟩;rw [nq] at hg;refine ⟨(hγ p b hg).2,(hγ p b hg).1,fun k' p' jM gP Cr F6=> ?_⟩;by_cases e:k'=st.nx;subst e;rw [nq] at F6;exact ⟨rfl,Ws p' p b F6 hg⟩;obtain ⟨h4,h5⟩:=TK k' jM p' gP Cr e;have TL:g.f k' p'=some b:=by rw [←j8 k' (by rw [h4];simp)];exact F6
  rcases (hγ p b hg).2 with hx|hx
  have:=h.lt k' p' jM b h4 Cr TL;omega;exact absurd hx (h5 b TL);rw [vh k ho e] at dU;cases dU
 exact ⟨g',nq,h.AZ t⟩
theorem sZ {o:Option Nat}{p:List Nat}{b:Nat}(h:tR o p=some b):p=[]∧o=some b:=by
 unfold tR at h;split at h;exact ⟨by assumption,h⟩;cases h
theorem pK.newAt {e:ca}{up:Mem}{G:List Nat}{gk:Option Nat}{t:Ty}{xs:List t.D}{val:Value}(h:dw cx g st a w)(hw:fH st.mem e.new)(he:e.new=[(st.nx,.seq t xs)]∧e.mu=up∧e.val= .one (.all st.nx))(o5:up=[]∨ ∃c ua,up=[(c,.gone)]∧lk c st.mem=some ua∧ua≠ .gone)(hk:bK G w w')(hG:G=[]∨ ∃c b ua,up=[(c,.gone)]∧lk c st.mem=some ua∧ua≠ .gone∧g c=some b∧G=[b])(qp: ∀b,gk=some b→w.heap.size≤b∨b∈G)(cq: ∀b,gk=some b→b<w'.heap.size)(hc: ∀S',(∀b,cx.safe g st.mem w b→S' b∧w'.heap[b]? =w.heap[b]?)→match gk with|none=>xs=[]|some b=> ∃arr,dy w' b arr∧fA S' w' (tR gk) t xs arr)(hv:jl gk w' t.size xs.length val):pK cx st a e val w':=by
 have qt:lk st.nx st.mem=none:=hw (st.nx,.seq t xs) (by rw [he.1];simp);have TM:CC st.mem up:=by
  intro p hp;rcases o5 with rfl|⟨c,ua,rfl,h1,h2⟩
  simp at hp;simp at hp;subst hp;exact ⟨rfl,by rw [h1];simp⟩
 obtain ⟨g',nq,hs⟩:=h.newAt (ch:= .seq t xs) (γ:=tR gk) qt TM hk (fun b hb=>by
  rcases hG with rfl|⟨c,b',ua,rfl,h2,h3,h4,rfl⟩
  simp at hb;simp at hb;subst hb;exact ⟨c,[],ua,by simp [aS],h2,Chunk.yP h3,h4⟩)
  (fun p b hp=>⟨cq b (sZ hp).2,qp b (sZ hp).2⟩) (fun p q b hp hq=>by rw [(sZ hp).1,(sZ hq).1]) (fun g' m' S' hS=>by
   have:=hc S' hS;cases gk with
   |none=>simp only [kd,tR,if_true];exact this
   |some b=>
    obtain ⟨arr,h1,h2⟩:=this;simp only [kd,tR,if_true];exact ⟨arr,h1,h2⟩)
 refine ⟨g',?_,?_⟩;rw [he.1,he.2.1];exact hs;rw [he.1,he.2.1,he.2.2];have hl:lk st.nx (up++[(st.nx,.seq t xs)]++st.mem)=some (.seq t xs):=by
  rcases o5 with rfl|⟨c,Zs,rfl,HY,yt⟩
  simp [aS];have:st.nx≠c:=fun e=>by rw [←e,qt] at HY;cases HY
  simp [aS,if_neg this]
 refine ⟨by rw [hl];simp,?_,fun t' cE fe=> ?_⟩;unfold jl at hv;cases gk with
 |none=>obtain ⟨a,rfl⟩:=hv;rfl
 |some b=>obtain ⟨cap,arr,rfl,_⟩:=hv;rfl
 have fe:=dM.toSeq hl fe;rw [hl] at fe;injection fe with fe;injection fe with ht ve;subst ht;have ve:=eq_of_heq ve;subst ve;rw [show g' st.nx=gk from by show g'.f st.nx []=gk;rw [nq];rfl];exact hv
theorem A4 {T T':TypeId}{ty:TypeId}{t:Ty}{s x:aE}{e:ca}{sv xv:Value}(h:dw cx g st a w)(hw:fH st.mem e.new)(he:sO cx.P st.mem st.nx T T' t s x=some e)(hc:bH e.cond)(hs:VR g st.mem (cx.safe g st.mem w) w s sv)(hx:VR g st.mem (cx.safe g st.mem w) w x xv):kf cx st a w (Builtin.append_ #[T,T'] ty #[sv,xv]) e:=by
 unfold sO at he;split at he;rename_i el hu;split at he;rename_i i hi;cases hb:(((Nat.beq T T'&&Nat.beq i.size t.size)&&(Nat.ble i.bytes 32768&&i.zero.isSome)&&(i.zero.map fun z=>Nat.beq z.cells.size t.size).getD false)&&(t.top&&nJ st.mem x)) with
 |false=>simp [hb] at he
 |true=>
  rw [hb] at he;simp only [cond_true] at he;simp only [Bool.and_eq_true] at hb;obtain ⟨⟨⟨⟨hT,fG⟩,Ej,TN⟩,HZ⟩,pQ,KI⟩:=hb;have hT:=bL hT;subst hT;have fG:=bL fG;have Ej:=iT Ej;obtain ⟨z,hz⟩:=Option.isSome_iff_exists.1 TN;rw [hz] at HZ;have HZ:z.cells.size=t.size:=bL (by simpa using HZ);split at he;rename_i xs up ys zd Wt;injection he with he;subst he;have hlen:xs.length+ys.length≤bO:=hc.1;unfold bO at hlen;obtain ⟨o5,Wu⟩:=Ei h.mem zd pQ hs;obtain ⟨news,By⟩:=CB h.mem Wt KI pQ hx;obtain ⟨ax,yc,ex,Qv⟩:=By.val;subst ex;have uk:(xs.length+ys.length)*i.bytes≤140737488355328:=by
   calc (xs.length+ys.length)*i.bytes≤4294967296*32768:=Nat.mul_le_mul hlen Ej
    _=140737488355328:=by decide
  have wi:news.length=ys.length*i.size:=by rw [fG];exact By.len
  have grow: ∀(base:Option Addr) (cap:Nat) (j9:List Value),j9.length=xs.length*i.size→(xs.length=0∨ ∃ad,base=some ad∧ ∀j v,j9[j]? =some v→w.cell? (ad.add j)=some v)→
   fB (cx.safe g st.mem w) w t xs j9→cap<xs.length+ys.length→(up=[]∨ ∃c ua,up=[(c,.gone)]∧lk c st.mem=some ua∧ua≠ .gone)→
   kf cx st a w (Builtin.append_ #[T,T] ty #[.slice base xs.length cap,.slice ax ys.length yc]) ⟨.one (.all st.nx),[(st.nx,.seq t (xs++ys))],up,[List.length xs+List.length ys≤bO]⟩:=by
   intro base cap j9 CD ho iJ cq o5;have pv:=grownCap_ge w (xs.length+ys.length) cap el;have Kp:=grownCap_le_maxLen w (xs.length+ys.length) cap el (by unfold maxLen;omega);have hr:=vf (P:=cx.P) (ty:=ty) (c:=yc) hu hi hz CD ho wi Qv cq uk (by omega);have eO:bK [] w (w.drew.alloc (.cells (j9.toArray++news.toArray++Builtin.zeroCells z.cells (grownCap w (xs.length+ys.length) cap el - (xs.length+ys.length))) el)):=
    (bK.drew [] w).trans (bK.alloc _ _ _)
   have dx:=dy.new w.drew (j9.toArray++news.toArray++Builtin.zeroCells z.cells (grownCap w (xs.length+ys.length) cap el - (xs.length+ys.length))) el;refine ⟨_,_,hr,?_⟩;refine pK.newAt (G:=[]) (gk:=some w.heap.size) h hw ⟨rfl,rfl,rfl⟩ o5 eO (.inl rfl) (fun b hb=>by injection hb with hb;left;omega) (fun b hb=>by injection hb with hb;subst hb;exact dx.lt) (fun S' hS=>⟨_,dx,?_⟩) ?_;refine fA.pq pQ (fB.toR ?_);simp only [Array.toList_append];have h1:fB S' (w.drew.alloc (.cells (j9.toArray++news.toArray++Builtin.zeroCells z.cells (grownCap w (xs.length+ys.length) cap el - (xs.length+ys.length))) el)) t xs j9:=fun i hi=>by
    obtain ⟨es,k1,k2⟩:=iJ i hi;exact ⟨es,k1,bS.keep hS t es _ k2⟩
   have h2:fB S' (w.drew.alloc (.cells (j9.toArray++news.toArray++Builtin.zeroCells z.cells (grownCap w (xs.length+ys.length) cap el - (xs.length+ys.length))) el)) t ys news:=fun i hi=>by
    obtain ⟨es,k1,k2⟩:=By.Jh i hi;exact ⟨es,k1,bS.keep hS t es _ k2⟩
   exact fB.app h1 (by rw [CD,fG]) h2 By.len;refine ⟨grownCap w (xs.length+ys.length) cap el,_,?_,by rw [List.length_append];exact pv,dx,?_,Kp⟩;rw [List.length_append];simp only [Array.size_append,List.size_toArray,size_zeroCells,HZ,CD,wi,fG,←Nat.add_mul];exact Nat.mul_le_mul_right _ (by omega)
  rcases Wu with ⟨VH,ab,eb⟩|⟨c,ch,b,cap,arr,e1,e2,e3,e4,e5,uj,dx,iU,Cu,iJ⟩
  subst eb;subst VH;by_cases hy:ys.length=0;have FY:ys=[]:=List.eq_nil_of_length_eq_zero hy;subst FY;refine ⟨_,_,qC (P:=cx.P) hu hi,?_⟩;exact pK.newAt (G:=[]) (gk:=none) h hw ⟨rfl,rfl,rfl⟩ o5 (bK.refl _ _) (.inl rfl) (fun b hb=>by cases hb) (fun b hb=>by cases hb) (fun S' hS=>rfl) ⟨ab,rfl⟩;exact grow ab 0 [] (by simp) (.inl rfl) (fun i hi=>by simp at hi) (by simp;omega) o5;subst e5;by_cases lI:xs.length+ys.length≤cap;have rZ:(xs.length+ys.length)*i.size≤arr.size:=by rw [fG];exact Nat.le_trans (Nat.mul_le_mul_right _ lI) iU
  obtain ⟨w',aG,hr,ke,fe,gP,eI⟩:=vg (P:=cx.P) (ty:=ty) hu hi dx (c:=yc) wi Qv (By.Jh.oq By.len) lI rZ;refine ⟨_,_,hr,?_⟩;refine pK.newAt (G:=[b]) (gk:=some b) h hw ⟨rfl,rfl,rfl⟩ o5 gP (.inr ⟨c,b,ch,e1,e2,e3,e4,rfl⟩) (fun b' o6=>by injection o6 with o6;subst o6;right;simp) (fun b' o6=>by injection o6 with o6;subst o6;exact ke.lt) (fun S' hS=>⟨aG,ke,?_⟩) ?_;refine fA.pq pQ (fB.toR ?_);rw [fe,fG];have h1:fB S' w' t xs (arr.toList.take (xs.length*t.size)):=fun i hi=>by
   obtain ⟨es,k1,k2⟩:=iJ i hi;exact ⟨es,k1,bS.keep hS t es _ k2⟩
  have h2:fB S' w' t ys news:=fun i hi=>by
   obtain ⟨es,k1,k2⟩:=By.Jh i hi;exact ⟨es,k1,bS.keep hS t es _ k2⟩
  refine fB.app h1 ?_ h2 By.len;have:xs.length*t.size≤arr.size:=Nat.le_trans (Nat.mul_le_mul_right _ uj) iU;simp;omega;refine ⟨cap,aG,by rw [List.length_append],by rw [List.length_append];exact lI,ke,?_,Cu⟩;have:aG.size=arr.size:=by
   rw [←Array.length_toList,fe];simp;rw [fG] at rZ wi⊢;rw [Nat.add_mul] at rZ;omega
  rw [this];exact iU;have hle:xs.length*t.size≤arr.size:=Nat.le_trans (Nat.mul_le_mul_right _ uj) iU;exact grow _ cap (arr.toList.take (xs.length*t.size)) (by rw [fG];simp;omega) (.inr ⟨_,rfl,fun j v hj=>by
   rw [bY,dx.cell];rw [List.getElem?_take] at hj;split at hj;simpa using hj;cases hj⟩) iJ (by omega) o5
  cases he
 cases he;cases he
end
end Go.Ide
namespace Go.Ide
section
variable {P:Program} {g:GM} {m:Mem} {S:Nat→Prop} {w:World}
theorem sb {t:Ty}{cs:List Value}{v:Value}{x:t.D}(h:dO t cs v)(hr:bS S w t cs x):v.cells.toList=cs:=by
 unfold dO at h;split at h;subst h;rfl;subst h;rw [wt (bS.oq t hr v (by simp))]
theorem um {t:Ty}: ∀{parts:List (Nat×aE)} {vparts:List (Nat×Value)} {i:Nat} {xs:List t.D} {arr:Array Value},
 wo t i parts=some xs→bB (fun (p:Nat×aE) (q:Nat×Value)=>p.1=q.1∧VR g m S w p.2 q.2) parts vparts→(i+parts.length)*t.size≤arr.size→
 ∃aG news,Instr.fill (fun j=>some (j*t.size,t.size)) arr vparts=some aG∧news.length=xs.length*t.size∧fB S w t xs news∧parts.length=xs.length∧
  aG.toList=arr.toList.take (i*t.size)++news++arr.toList.drop ((i+xs.length)*t.size)
 |[],[],i,xs,arr,h,_,hle=>by
  simp only [wo] at h;injection h with h;subst h;exact ⟨arr,[],rfl,by simp,fun i hi=>by simp at hi,rfl,by simp⟩
 |(j,v)::parts,(j',u)::vparts,i,xs,arr,h,hp,hle=>by
  obtain ⟨⟨hj,hv⟩,Eg⟩:=hp;have hj:j=j':=hj;subst hj;simp only [wo] at h;cases hb:Nat.beq i j with
  |false=>simp [hb] at h
  |true=>
   rw [hb] at h;simp only [cond_true] at h;have hb:=bL hb;subst hb;split at h;rename_i x l hx hl;injection h with h;subst h;obtain ⟨cs,hval,cJ⟩:=pO (S2:=S) (fun _ h=>h) i9.nil hx hv;have ns:=sb hval cJ;have rN:=bS.len t cs x cJ;simp only [List.length_cons] at hle;have fG:u.cells.size=t.size:=by rw [←Array.length_toList,ns,rN]
   have Wv:(i+1)*t.size≤arr.size:=Nat.le_trans (Nat.mul_le_mul_right _ (by omega)) hle;rw [Nat.add_mul] at Wv;have vd:(u.cells.zipIdx.foldl (fun cs (p:Value×Nat)=>cs.setIfInBounds (i*t.size+p.2) p.1) arr).toList=arr.toList.take (i*t.size)++cs++arr.toList.drop (i*t.size+cs.length):=by
    have:=sV (i*t.size) cs 0 arr (by omega);rw [←Array.foldl_toList,Array.toList_zipIdx,ns];simpa using this
   have xA:(u.cells.zipIdx.foldl (fun cs (p:Value×Nat)=>cs.setIfInBounds (i*t.size+p.2) p.1) arr).size=arr.size:=by
    rw [←Array.length_toList,vd];simp;omega
   obtain ⟨aG,news,e1,e2,e3,e4,e5⟩:=um (arr:=u.cells.zipIdx.foldl (fun cs (p:Value×Nat)=>cs.setIfInBounds (i*t.size+p.2) p.1) arr) hl Eg (by rw [xA];rw [show i+1+parts.length=i+(parts.length+1) from by omega];exact hle);refine ⟨aG,cs++news,?_,by simp [rN,e2,Nat.add_mul,Nat.add_comm],?_,by simp [e4],?_⟩;simp only [Instr.fill];rw [if_neg (by simp;omega)];exact e1;have h1:fB S w t [x] cs:=fun k hk=>by
    have hk:k=0:=by simp at hk;exact hk
    subst hk;exact ⟨cs,fun j _=>by simp,by simpa using cJ⟩
   have:=fB.app (rest:=[]) h1 (by simp [rN]) e3 e2;simpa using this;rw [e5,vd];have hk:(i+1)*t.size=i*t.size+cs.length:=by rw [Nat.add_mul,rN];omega
   have TO:(arr.toList.take (i*t.size)++cs).length=(i+1)*t.size:=by rw [hk];simp;omega
   rw [List.take_append_of_le_length (by omega),List.take_of_length_le (by omega)];have hd:(i+1+l.length)*t.size=(arr.toList.take (i*t.size)++cs).length+l.length*t.size:=by rw [TO,Nat.add_mul (i+1)]
   rw [hd,List.drop_append,List.drop_drop];have:(i+(x::l).length)*t.size=i*t.size+cs.length+l.length*t.size:=by
    rw [List.length_cons,show i+(l.length+1)=(i+1)+l.length from by omega,Nat.add_mul (i+1),hk]
   rw [this];simp [List.append_assoc];cases h
 |[],_::_,_,_,_,_,hp,_=>hp.elim
 |_::_,[],_,_,_,_,hp,_=>hp.elim
end
section
variable {cx:Cx} {g:GM} {st:St} {a:Act} {w w':World}
theorem oe {g:GM}{m:Mem}{S:Nat→Prop}{w:World}{t:Ty}{cs:List aA}{x:t.D}{ks:List Nat}{r:List aA}{vs:List Value}(h:(cW [] t cs).map (fun p=>((p.1,([]:List Nat)),p.2))=some ((x,ks),r))(hr:bB (CR g m S w) cs vs):
 ∃v1 v2,vs=v1++v2∧bS S w t v1 x∧bB (CR g m S w) r v2:=by
 cases hi:cW [] t cs with
 |none=>rw [hi] at h;cases h
 |some p=>
  rw [hi] at h;obtain ⟨y,r'⟩:=p;injection h with h;injection h with h1 h2;injection h1 with h1 _;subst h1;subst h2;exact mZ (fun _ h=>h) i9.nil hi hr
theorem pR {g:GM}{m:Mem}{S:Nat→Prop}{w:World}: ∀(t:Ty) {γ:List Nat→Option Nat} {o:Nat} {cs:List aA} {x:t.D} {ks:List Nat} {r:List aA} {vs:List Value},mj [] t cs=some ((x,ks),r)→bB (CR g m S w) cs vs→(∀p,γ p=none)→
 ∃v1 v2,vs=v1++v2∧cX S w t γ o v1 x∧bB (CR g m S w) r v2
 | .own t,γ,o,cs,x,ks,r,vs,h,hr,hγ=>by
  simp only [mj] at h;split at h;injection h with h;injection h with h1 h2;injection h1 with h1 _;subst h1;subst h2;cases vs with
  |nil=>exact hr.elim
  |cons v vs=>
   obtain ⟨a,ha⟩:=hr.1;refine ⟨[v],vs,rfl,⟨v,rfl,?_,?_⟩,hr.2⟩;rw [hγ];exact ⟨a,ha⟩;rw [hγ];rfl
  simp [gI] at h;cases h
 | .pair a b,γ,o,cs,x,ks,r,vs,h,hr,hγ=>by
  simp only [mj] at h;split at h;rename_i y k1 r1 h1;split at h;rename_i z k2 r2 h2;injection h with h;injection h with e1 e2;injection e1 with e1 _;subst e1;subst e2;obtain ⟨v1,v2,rfl,q1,q2⟩:=pR (γ:=γ) (o:=o) a h1 hr hγ;obtain ⟨v3,v4,rfl,q3,q4⟩:=pR (γ:=γ) (o:=o+a.size) b h2 q2 hγ;exact ⟨v1++v3,v4,by simp,⟨v1,v3,rfl,q1,q3⟩,q4⟩;cases h;cases h
 | .st t,γ,o,cs,x,ks,r,vs,h,hr,hγ=>pR (γ:=γ) (o:=o) t (cs:=cs) (x:=x) h hr hγ
 | .int k,_,_,_,_,_,_,_,h,hr,_=>oe (t:= .int k) h hr
 | .aX k,_,_,_,_,_,_,_,h,hr,_=>oe (t:= .aX k) h hr
 | .bool,_,_,_,_,_,_,_,h,hr,_=>oe (t:= .bool) h hr
 | .str,_,_,_,_,_,_,_,h,hr,_=>oe (t:= .str) h hr
 | .sl t,_,_,_,_,_,_,_,h,hr,_=>oe (t:= .sl t) h hr
 | .bx t,_,_,_,_,_,_,_,h,hr,_=>oe (t:= .bx t) h hr
theorem vi {T:TypeId}{t:Ty}{len:Nat}{parts:List (Nat×aE)}{vparts:Array (Nat×Value)}{e:ca}(h:dw cx g st a w)(hw:fH st.mem e.new)(he:rW cx.P st.nx T t len parts=some e)(hp:bB (fun (p:Nat×aE) (q:Nat×Value)=>p.1=q.1∧VR g st.mem (cx.safe g st.mem w) w p.2 q.2) parts vparts.toList):kf cx st a w (Instr.buildSlice T len vparts) e:=by
 unfold rW at he;split at he;rename_i el hu;cases hb:(((dq cx.P el==some t.size&&(((cx.P.info? el).bind (·.zero)).map fun z=>Nat.beq z.cells.size t.size)==some true)&&(Nat.beq parts.length len&&Nat.ble (len*t.size) 65536))&&t.top) with
 |false=>rw [hb] at he;cases he
 |true=>
  rw [hb] at he;simp only [cond_true] at he;simp only [Bool.and_eq_true,beq_iff_eq] at hb;obtain ⟨⟨⟨hs,hz⟩,hn,KJ⟩,pQ⟩:=hb;have hn:=bL hn;have KJ:=iT KJ;subst hn;split at he;rename_i xs hx;injection he with he;subst he;cases hi:cx.P.info? el with
  |none=>simp [dq,hi] at hs
  |some i=>
   rw [hi] at hz;simp only [Option.bind_some] at hz;cases ze:i.zero with
   |none=>simp [ze] at hz
   |some z=>
    rw [ze] at hz;have hz:Nat.beq z.cells.size t.size=true:=by simpa using hz
    have hz:=bL hz;let base:Array Value:=(Array.range (parts.length*t.size)).map fun k=>(if parts.length*t.size=0 then #[] else z.cells)[k%(if parts.length*t.size=0 then #[] else z.cells).size]!;have S9:base.size=parts.length*t.size:=by simp [base]
    obtain ⟨aG,news,e1,e2,e3,e4,e5⟩:=um (g:=g) (m:=st.mem) (S:=cx.safe g st.mem w) (w:=w) (arr:=base) hx hp (by rw [S9,Nat.zero_add];exact Nat.le_refl _);have kJ:(Instr.buildSlice T parts.length vparts).run cx.P w= .ok (.slice (some ⟨w.heap.size,0,none⟩) parts.length parts.length) (w.alloc (.cells aG el)):=by
     have Gi: ¬(16777216<parts.length*t.size):=by omega
     by_cases h0:parts.length*t.size=0;have H2:Instr.fill (fun j=>some (j*t.size,t.size)) ((Array.range (parts.length*t.size)).map fun k=>(#[]:Array Value)[k%(#[]:Array Value).size]!) vparts.toList=some aG:=by
      have:=e1;simp only [base,h0,if_true] at this;rw [h0];exact this
     simp only [Instr.buildSlice,Sem.run_bind,run_underlying hu,Result.andThen_ok,cL hs];simp [h0,Gi] at H2⊢;simp [H2,newRow];have H2:Instr.fill (fun j=>some (j*t.size,t.size)) ((Array.range (parts.length*t.size)).map fun k=>z.cells[k%z.cells.size]!) vparts.toList=some aG:=by
      have:=e1;simp only [base,h0,if_false] at this;exact this
     simp only [Instr.buildSlice,Sem.run_bind,run_underlying hu,Result.andThen_ok,cL hs];simp [h0,Gi,zeroValue,typeInfo,hi,ze] at H2⊢;simp [H2,newRow]
    refine ⟨_,_,kJ,?_⟩;have hlen:aG.toList=news:=by
     rw [e5,←e4];simp only [Nat.zero_mul,Nat.zero_add,List.take_zero,List.nil_append];rw [List.drop_of_length_le (by rw [Array.length_toList,S9];exact Nat.le_refl _)];simp
    have Qw:aG.size=xs.length*t.size:=by rw [←Array.length_toList,hlen,e2]
    refine pK.newAt (G:=[]) (up:=[]) (gk:=some w.heap.size) h hw ⟨rfl,rfl,rfl⟩ (.inl rfl) (bK.alloc _ _ _) (.inl rfl) (fun b hb=>by injection hb with hb;left;omega) (fun b hb=>by injection hb with hb;subst hb;exact (dy.new w aG el).lt) (fun S' hS=>⟨aG,dy.new w aG el,?_⟩) ?_;refine fA.pq pQ (fB.toR ?_);rw [hlen];exact fun i hi=>by
     obtain ⟨es,k1,k2⟩:=e3 i hi;exact ⟨es,k1,bS.keep hS t es _ k2⟩
    refine ⟨xs.length,aG,by rw [e4],Nat.le_refl _,dy.new w aG el,by rw [Qw];exact Nat.le_refl _,?_⟩;have:=t.size_pos;have h1:xs.length≤xs.length*t.size:=Nat.le_mul_of_pos_right _ this;rw [e4] at KJ;unfold maxLen;omega
  cases he
 cases he
theorem wz {T:TypeId}{t:Ty}{len cap:aE}{e:ca}{lv cv:Value}(h:dw cx g st a w)(hw:fH st.mem e.new)(he:uh cx.P st.nx T t len cap=some e)(hc:bH e.cond)(hl:VR g st.mem (cx.safe g st.mem w) w len lv)(KD:VR g st.mem (cx.safe g st.mem w) w cap cv):kf cx st a w (Instr.makeSlice T lv cv) e:=by
 unfold uh at he;split at he;rename_i el kl n kc c hu;split at he;rename_i i z0 hi tT;cases hb:(Nat.beq i.size t.size&&Nat.ble i.bytes 32768) with
 |false=>simp [hb] at he
 |true=>
  rw [hb] at he;simp only [cond_true] at he;simp only [Bool.and_eq_true] at hb;have fG:=bL hb.1;have Ej:=iT hb.2;injection he with he;subst he;obtain ⟨⟨h0,h1,h2⟩,_⟩:=hc;have e1:=eL (g:=g) (m:=st.mem) (S:=cx.safe g st.mem w) (w:=w) hl;have e2:=eL (g:=g) (m:=st.mem) (S:=cx.safe g st.mem w) (w:=w) KD;subst e1;subst e2;obtain ⟨k,rfl⟩:=Int.eq_ofNat_of_zero_le (show (0:Int)≤c from Int.le_trans h0 h1);obtain ⟨k0,rfl⟩:=Int.eq_ofNat_of_zero_le (show (0:Int)≤n from h0);have hk:k≤4294967296:=by have:((k:Nat):Int)≤4294967296:=h2;omega
  have sY:k0≤k:=by have:((k0:Nat):Int)≤((k:Nat):Int):=h1;omega
  unfold HP at tT;rw [hi] at tT;cases ze:i.zero with
  |none=>simp [ze] at tT
  |some z=>
   simp only [ze] at tT;have uk:(i.bytes:Int)*(k:Int)≤281474976710656:=by
    have:i.bytes*k≤32768*4294967296:=Nat.mul_le_mul Ej hk;have h3:((i.bytes*k:Nat):Int)≤281474976710656:=by omega
    rwa [Int.natCast_mul] at h3
   have kJ:=run_make (P:=cx.P) w T el i z hu hi ze kl kc (k0:Int) (k:Int) (by omega) h1 uk (by omega);refine ⟨_,_,kJ,?_⟩;have cJ: ∀(S':Nat→Prop) (w':World) (γ:List Nat→Option Nat),(∀p,γ p=none)→cX S' w' t γ 0 z.cells.toList z0:=fun S' w' γ hγ=>by
    split at tT;rename_i pQ;obtain ⟨cs,hval,cJ⟩:=pO (g:=⟨fun _ _=>none⟩) (m:=[]) (S:=S') (S2:=S') (fun _ h=>h) i9.nil tT (yr (w:=w') z);rw [sb hval cJ];exact cX.rU t pQ cJ;split at tT;rename_i ja;split at tT;rename_i x hx;injection tT with tT;subst tT;obtain ⟨v1,v2,e,h1,h2⟩:=pR (g:=⟨fun _ _=>none⟩) (m:=[]) (S:=S') (w:=w') (γ:=γ) (o:=0) t hx (ou z ja) hγ;have:v2=[]:=by cases v2 with|nil=>rfl|cons=>exact h2.elim
    subst this;rw [List.append_nil] at e;rw [e];exact h1;cases tT;cases tT
   have vj:z.cells.size=t.size:=by rw [←Array.length_toList];exact cX.len t (cJ (fun _=>True) w (fun _=>none) (fun _=>rfl))
   have Zu:=t.size_pos;simp only [Int.toNat_natCast] at kJ⊢;have ns: ∀q,q<k*t.size→(madeCells z.cells (k*i.size))[q]? =z.cells[q%t.size]? :=fun q hq=>by
    have jq:k*t.size≠0:=by omega
    have zc:q%t.size<z.cells.size:=by rw [vj];exact Nat.mod_lt _ Zu
    rw [fG];simp [madeCells,hq,vj,Array.getElem?_eq_getElem zc,getElem!_pos z.cells (q%t.size) zc]
   have Ww:(madeCells z.cells (k*i.size)).size=k*t.size:=by rw [fG];simp [madeCells]
   refine pK.newAt (G:=[]) (up:=[]) (gk:=some w.heap.size) h hw ⟨rfl,rfl,rfl⟩ (.inl rfl) (bK.alloc _ _ _) (.inl rfl) (fun b hb=>by injection hb with hb;left;omega) (fun b hb=>by injection hb with hb;subst hb;exact (dy.new w _ el).lt) (fun S' hS=>⟨_,dy.new w _ el,?_⟩) ?_;intro i' nr;simp only [List.length_replicate,Int.toNat_natCast] at nr;refine ⟨z.cells.toList,fun j u hj=> ?_,?_⟩;have FR:j<t.size:=by rw [←vj,←Array.length_toList];exact (List.getElem?_eq_some_iff.1 hj).1
   have cq:i'*t.size+j<k*t.size:=by
    have:(i'+1)*t.size≤k*t.size:=Nat.mul_le_mul_right _ (by omega);rw [Nat.add_mul] at this;omega
   rw [ns _ cq];have:(i'*t.size+j)%t.size=j:=by rw [Nat.add_comm,Nat.mul_comm,Nat.add_mul_mod_self_left];exact Nat.mod_eq_of_lt FR
   rw [this,←Array.getElem?_toList];exact hj;simp only [List.getElem_replicate];exact cJ _ _ _ (fun p=>rfl);refine ⟨k,_,by simp,by simpa using sY,dy.new w _ el,by rw [Ww];exact Nat.le_refl _,by unfold maxLen;omega⟩
 cases he;cases he
theorem dw.grow {w':World}(h:dw cx g st a w)(hk:bK [] w w'):dw cx g (st.my st.mem st.nx) a w':=h.AZ (G:=[]) ⟨hk,fun b hb=>(by simp at hb),fun _ _=>rfl,fun k ch hk=> .inl ⟨hk,fun _ b _ _ hb=>by simp at hb⟩,fun k ch hk gP=>by
 rw [hk] at gP;cases gP⟩
theorem CF {T:TypeId}{len:Nat}{parts:List (Nat×aE)}{vparts:Array (Nat×Value)}{e:ca}(h:dw cx g st a w)(he:F4 cx.P T len parts=some e)(hp:bB (fun (p:Nat×aE) (q:Nat×Value)=>p.1=q.1∧VR g st.mem (cx.safe g st.mem w) w p.2 q.2) parts vparts.toList):kf cx st a w (Instr.buildSlice T len vparts) e:=by
 unfold F4 at he;split at he;rename_i el hu;cases hb:(((dq cx.P el).isSome&&Nat.beq len 0)&&parts.isEmpty) with
 |false=>rw [hb] at he;cases he
 |true=>
  rw [hb] at he;simp only [cond_true] at he;simp only [Bool.and_eq_true,List.isEmpty_iff] at hb;obtain ⟨⟨hs,hn⟩,hpe⟩:=hb;have hn:=bL hn;subst hn;subst hpe;obtain ⟨k,hs⟩:=Option.isSome_iff_exists.1 hs;have hv:vparts= #[]:=by
   cases hq:vparts.toList with
   |nil=>exact Array.toList_eq_nil_iff.1 hq
   |cons x xs=>rw [hq] at hp;exact hp.elim
  subst hv;have kJ:(Instr.buildSlice T 0 #[]).run cx.P w= .ok (.slice (some ⟨w.heap.size,0,none⟩) 0 0) (w.alloc (.cells #[] el)):=by
   simp only [Instr.buildSlice,Sem.run_bind,run_underlying hu,Result.andThen_ok,cL hs];simp [newRow,Instr.fill]
   congr 2
   apply Array.ext';simp
  injection he with he;subst he;exact ⟨_,_,kJ,g,h.grow (bK.alloc _ _ _),_,rfl⟩
 cases he
end
end Go.Ide
namespace Go.Ide
section
variable {cx:Cx} {g:GM} {st:St} {a:Act} {w w':World}
structure KK (g:GM)(st:St)(w w':World)(c b:Nat)(p0:List Nat)(ch jM:Chunk):Prop where
 lk:Ide.lk c st.mem=some ch
 H3:ch.owns p0
 at_:g.f c p0=some b
 keep:bK [b] w w'
 sz: ∃arr aG,dy w b arr∧dy w' b aG∧aG.size=arr.size
 owns: ∀p,jM.owns p→ch.owns p
 ng:jM≠ .gone
 shape: ∀t xs,jM.yR t xs→ ∃cE,ch.yR t cE∧cE.length=xs.length
 rows: ∀t cE,jM= .seq t cE→ ∃xs,ch= .seq t xs∧cl t xs cE
theorem KK.dy {c b:Nat}{p0:List Nat}{ch jM:Chunk}(q:KK g st w w' c b p0 ch jM){b':Nat}{xZ:Array Value}(Qx:dy w b' xZ): ∃aG,Ide.dy w' b' aG∧aG.size=xZ.size:=by
 by_cases e:b'=b;subst e;obtain ⟨arr,aG,h1,h2,h3⟩:=q.sz;have:=Qx.eq h1;subst this;exact ⟨aG,h2,h3⟩;exact ⟨xZ,Qx.keep (q.keep.block b' Qx.lt (by simp [e])),rfl⟩
theorem KK.stays {c b:Nat}{p0:List Nat}{ch jM:Chunk}(q:KK g st w w' c b p0 ch jM):
 nI g g st.mem ((c,jM)::st.mem) (cx.safe g st.mem w) (cx.safe g ((c,jM)::st.mem) w') w w':=by
 refine ⟨⟨fun b' hs=> ?_,fun k gP=>⟨by rw [aS];split<;>simp_all,rfl⟩,fun k t xs gP hl=> ?_,fun k t xs b' xZ gP hl j8 Qx=>q.dy Qx⟩,fun _ _=>rfl,fun k t cE gP hl=> ?_⟩;obtain ⟨h1,h2,h3⟩:=hs;have jq:b'≠b:=fun e=>h3 ⟨c,p0,ch,q.lk,q.H3,by rw [e];exact q.at_⟩;refine ⟨⟨Nat.lt_of_lt_of_le h1 q.keep.size,h2,?_⟩,q.keep.block b' h1 (by simp [jq])⟩;rintro ⟨k,p,c0,vb,Ek,Ta⟩;rw [aS] at vb;by_cases e:k=c;subst e;rw [if_pos rfl] at vb;injection vb with vb;subst vb;exact h3 ⟨k,p,ch,q.lk,q.owns p Ek,Ta⟩;rw [if_neg e] at vb;exact h3 ⟨k,p,c0,vb,Ek,Ta⟩;by_cases e:k=c;subst e;have fe:=(dM.of (ch:=jM) (by rw [aS,if_pos rfl])).1 hl;obtain ⟨cE,e1,e2⟩:=q.shape t xs fe;exact ⟨cE,(dM.of q.lk).2 e1,e2⟩;refine ⟨xs,?_,rfl⟩;unfold dM at hl⊢;rw [aS,if_neg e] at hl;exact hl;rw [aS] at hl;by_cases e:k=c;subst e;rw [if_pos rfl] at hl;injection hl with hl;obtain ⟨xs,e1,e2⟩:=q.rows t cE hl;exact ⟨xs,by rw [q.lk,e1],e2,fun i o b' arr hg hb=>q.dy hb⟩;rw [if_neg e] at hl;exact ⟨cE,hl,cl.refl _ _,fun i o b' arr hg hb=>q.dy hb⟩
theorem dw.Tb (h:dw cx g st a w){c b:Nat}{p0:List Nat}{ch jM:Chunk}(q:KK g st w w' c b p0 ch jM)(hc:kd g ((c,jM)::st.mem) (cx.safe g ((c,jM)::st.mem) w') w' (g.f c) jM):dw cx g (st.my ((c,jM)::st.mem) st.nx) a w':=by
 have t:AY cx g g st.mem ((c,jM)::st.mem) w w' [b]:=by
  refine ⟨q.keep,fun b' hb=>by simp at hb;subst hb;exact ⟨c,p0,ch,q.lk,q.H3,q.at_⟩,fun _ _=>rfl,fun k c0 ho=> ?_,fun k c0 ho dU=> ?_⟩;by_cases e:k=c;subst e;rw [q.lk] at ho;injection ho with ho;subst ho;exact .inr (.inr ⟨Chunk.HN q.H3,jM,by rw [aS,if_pos rfl],q.ng,q.owns,q.shape,q.rows,fun p b2 qx _ u9 o6=>q.dy o6,hc⟩);refine .inl ⟨by rw [aS,if_neg e];exact ho,fun p b2 Ek u9 hm=> ?_⟩;simp at hm;subst hm;exact e (h.lz k c p p0 c0 ch b2 ho Ek q.lk q.H3 u9 q.at_).1;rw [aS] at dU;by_cases e:k=c;subst e;rw [q.lk] at ho;cases ho;rw [if_neg e,ho] at dU;cases dU
 exact h.AZ t
def El (cx:Cx)(st:St)(a:Act)(w:World)(s:Sem Unit)(e:ca):Prop:=
 ∃w',s.run cx.P w= .ok () w'∧pK cx st a e undef w'
theorem nQ {P:Program}{T:TypeId}{n b o:Nat}{arr:Array Value}{v:Value}(hs:dq P T=some n)(hb:dy w b arr)(hn:v.cells.toList.length=n)(hle:o+n≤arr.size)(h1: ∀x∈v.cells.toList,x.oneCell'=true):
 ∃w' aG,(Instr.storeAt T (.pointer (some ⟨b,o,none⟩)) v).run P w= .ok () w'∧dy w' b aG∧aG.toList=arr.toList.take o++v.cells.toList++arr.toList.drop (o+n)∧bK [b] w w'∧aG.size=arr.size:=by
 obtain ⟨w',aG,e,k1,k2,k3,k4⟩:=fI (P:=P) v.cells.toList o 0 w arr hb (by omega) h1;simp only [Nat.add_zero] at k2;rw [hn] at k2;refine ⟨w',aG,?_,k1,k2,k3,?_⟩;have fG:v.cells.size=n:=by rw [←Array.length_toList];exact hn
 simp [Instr.storeAt,Instr.sureAddr,storeVar,cL hs,fG,e];rw [←Array.length_toList,k2];simp [hn];omega
def CE (g:GM)(m:Mem)(S:Nat→Prop)(w:World)(γ:List Nat→Option Nat)(o:Nat)(c:aA)(v:Value):Prop:=
 match c with
 | .aq (.own e) y=>cX S w (.own e) γ o [v] y
 |c=>CR g m S w c v
def mC (g:GM)(m:Mem)(S:Nat→Prop)(w:World)(γ:List Nat→Option Nat):Nat→List aA→List Value→Prop
 |_,[],[]=>True
 |o,c::cs,v::vs=>CE g m S w γ o c v∧mC g m S w γ (o+1) cs vs
 |_,_,_=>False
section
variable {m:Mem} {S:Nat→Prop} {γ:List Nat→Option Nat}
theorem mC.append: ∀{o:Nat} {cs ds:List aA} {vs us:List Value},mC g m S w γ o cs vs→mC g m S w γ (o+cs.length) ds us→mC g m S w γ o (cs++ds) (vs++us)
 |_,[],_,[],_,_,h=>h
 |o,_::cs,_,_::_,_,h,h'=>⟨h.1,mC.append h.2 (by rw [show o+1+cs.length=o+(cs.length+1) from by omega];exact h')⟩
 |_,[],_,_::_,_,h,_=>h.elim
 |_,_::_,_,[],_,h,_=>h.elim
theorem mC.take: ∀(n:Nat) {o:Nat} {cs:List aA} {vs:List Value},mC g m S w γ o cs vs→mC g m S w γ o (cs.take n) (vs.take n)
 |0,_,_,_,_=>by simp [mC]
 |_+1,_,[],[],_=>by simp [mC]
 |n+1,_,_::_,_::_,h=>⟨h.1,mC.take n h.2⟩
 |_+1,_,[],_::_,h=>h.elim
 |_+1,_,_::_,[],h=>h.elim
theorem mC.drop: ∀(n:Nat) {o:Nat} {cs:List aA} {vs:List Value},mC g m S w γ o cs vs→mC g m S w γ (o+n) (cs.drop n) (vs.drop n)
 |0,_,_,_,h=>by simpa using h
 |n+1,o,[],[],_=>by simp [mC]
 |n+1,o,_::_,_::_,h=>by
  have:=mC.drop n h.2;rw [show o+1+n=o+(n+1) from by omega] at this;simpa using this
 |_+1,_,[],_::_,h=>h.elim
 |_+1,_,_::_,[],h=>h.elim
theorem CE.of {o:Nat}{c:aA}{v:Value}(hf:c.Kw=true)(h:CR g m S w c v):CE g m S w γ o c v:=by
 unfold CE;split;cases hf;exact h
theorem mC.H4: ∀{o:Nat} {cs:List aA} {vs:List Value},cs.all aA.Kw=true→bB (CR g m S w) cs vs→mC g m S w γ o cs vs
 |_,[],[],_,_=>trivial
 |_,_::_,_::_,hf,h=>by
  simp only [List.all_cons,Bool.and_eq_true] at hf;exact ⟨CE.of hf.1 h.1,mC.H4 hf.2 h.2⟩
 |_,[],_::_,_,h=>h.elim
 |_,_::_,[],_,h=>h.elim
theorem lJ: ∀(t:Ty) (x:t.D),(il t x).length=t.size
 | .int _,_=>rfl
 | .aX _,_=>rfl
 | .bool,_=>rfl
 | .str,_=>rfl
 | .sl _,_=>rfl
 | .bx _,_=>rfl
 | .own _,_=>rfl
 | .pair a b,x=>by simp only [il,List.length_append,lJ a,lJ b,Ty.size]
 | .st t,x=>lJ t x
theorem CG: ∀(t:Ty) {o:Nat} {cs:List Value} {x:t.D},cX S w t γ o cs x→mC g m S w γ o (il t x) cs
 | .int _,_,_,_,h=>by have h:=h;subst h;exact ⟨rfl,trivial⟩
 | .aX _,_,_,_,⟨b,e,h⟩=>by subst e;exact ⟨⟨b,rfl,h⟩,trivial⟩
 | .bool,_,_,_,h=>by have h:=h;subst h;exact ⟨rfl,trivial⟩
 | .str,_,_,_,h=>by have h:=h;subst h;exact ⟨rfl,trivial⟩
 | .sl t,_,_,_,⟨a,cap,e,h⟩=>by subst e;exact ⟨⟨a,cap,rfl,h⟩,trivial⟩
 | .bx t,_,_,_,⟨a,e,h⟩=>by subst e;exact ⟨⟨a,rfl,h⟩,trivial⟩
 | .own t,_,_,_,⟨v,e,h⟩=>by subst e;exact ⟨⟨v,rfl,h⟩,trivial⟩
 | .pair a b,o,_,x,⟨c1,c2,e,h1,h2⟩=>by
  subst e;exact (CG a h1).append (by rw [lJ];exact CG b h2)
 | .st t,_,_,_,h=>CG t (cs:=_) h
theorem ta {t:Ty}(ht: ∀e,Ty.own e≠t)(h1:t.size=1){o:Nat}{cs:List aA}{x:t.D}{r:List aA}{vs:List Value}(h:cW [] t cs=some (x,r))(hr:mC g m S w γ o cs vs):
 ∃v1 v2,vs=v1++v2∧bS S w t v1 x∧mC g m S w γ (o+t.size) r v2:=by
 cases cs with
 |nil=>simp [cW] at h
 |cons c cs=>
  cases vs with
  |nil=>exact hr.elim
  |cons v vs=>
   simp only [cW] at h;split at h;rename_i y hy;injection h with h;injection h with e1 e2;subst e1;subst e2;refine ⟨[v],vs,rfl,?_,by rw [h1];exact hr.2⟩;have hc:=hr.1;unfold CE at hc;split at hc;simp only [eu] at hy;split at hy;rename_i e;exact absurd e (ht _);cases hy;exact rX (fun _ h=>h) i9.nil hy hc;cases h
theorem CH: ∀(t:Ty) {o:Nat} {cs:List aA} {x:t.D} {r:List aA} {vs:List Value},impl [] t cs=some (x,r)→mC g m S w γ o cs vs→
 ∃v1 v2,vs=v1++v2∧cX S w t γ o v1 x∧mC g m S w γ (o+t.size) r v2
 | .int k,_,_,_,_,_,h,hr=>ta (t:= .int k) (fun _ e=>by cases e) rfl h hr
 | .aX k,_,_,_,_,_,h,hr=>ta (t:= .aX k) (fun _ e=>by cases e) rfl h hr
 | .bool,_,_,_,_,_,h,hr=>ta (t:= .bool) (fun _ e=>by cases e) rfl h hr
 | .str,_,_,_,_,_,h,hr=>ta (t:= .str) (fun _ e=>by cases e) rfl h hr
 | .sl t,_,_,_,_,_,h,hr=>ta (t:= .sl t) (fun _ e=>by cases e) rfl h hr
 | .bx t,_,_,_,_,_,h,hr=>ta (t:= .bx t) (fun _ e=>by cases e) rfl h hr
 | .own t,o,cs,x,r,vs,h,hr=>by
  simp only [impl] at h;cases cs with
  |nil=>simp [cW] at h
  |cons c cs=>
   cases vs with
   |nil=>exact hr.elim
   |cons v vs=>
    simp only [cW] at h;split at h;rename_i y hy;injection h with h;injection h with e1 e2;subst e1;subst e2;refine ⟨[v],vs,rfl,?_,hr.2⟩;cases c<;>simp only [eu] at hy<;>first|cases hy|skip
    rename_i t' q;split at hy;rename_i e;subst e;injection hy with hy;subst hy;exact hr.1;cases hy;cases h
 | .st t,_,_,_,_,_,h,hr=>CH t h hr
 | .pair a b,o,cs,x,r,vs,h,hr=>by
  simp only [impl] at h;split at h;rename_i y r1 h1;split at h;rename_i z r2 h2;injection h with h;injection h with e1 e2;subst e1;subst e2;obtain ⟨v1,v2,rfl,k1,k2⟩:=CH a h1 hr;obtain ⟨v3,v4,rfl,k3,k4⟩:=CH b h2 k2;refine ⟨v1++v3,v4,by simp,⟨v1,v3,rfl,k1,k3⟩,?_⟩;rw [show o+(Ty.pair a b).size=o+a.size+b.size from by simp only [Ty.size];omega];exact k4;cases h;cases h
end
theorem Gj {arr aG:Array Value}{D3 vs:List Value}{i sz off n:Nat}(hl:D3.length=sz)(Kq: ∀j v,D3[j]? =some v→arr[i*sz+j]? =some v)(Tc:vs.length=n)(hle:off+n≤sz)(iU:i*sz+sz≤arr.size)(k2:aG.toList=arr.toList.take (i*sz+off)++vs++arr.toList.drop (i*sz+off+n)): ∀j v,(D3.take off++vs++D3.drop (off+n))[j]? =some v→aG[i*sz+j]? =some v:=by
 intro j v hv;have hj:j<sz:=by
  have:=(List.getElem?_eq_some_iff.1 hv).1;simp at this;omega
 have hold: ∀j,j<sz→arr.toList[i*sz+j]? =D3[j]? :=fun j hj=>by
  rw [List.getElem?_eq_getElem (by omega:j<D3.length),Array.getElem?_toList];exact Kq j _ (List.getElem?_eq_getElem (by omega))
 rw [←Array.getElem?_toList,k2,←hv];by_cases h1:j<off;rw [List.append_assoc,List.getElem?_append_left (by simp;omega),List.getElem?_take,if_pos (by omega),List.append_assoc,List.getElem?_append_left (by simp;omega),List.getElem?_take,if_pos h1];exact hold j hj;by_cases h2:j<off+n;rw [List.append_assoc,List.getElem?_append_right (by simp;omega),List.getElem?_append_left (by simp;omega),List.append_assoc,List.getElem?_append_right (by simp;omega),List.getElem?_append_left (by simp;omega)]
 congr 1
 simp;omega;rw [List.getElem?_append_right (by simp;omega),List.getElem?_append_right (by simp;omega),List.getElem?_drop,List.getElem?_drop];simp only [List.length_append,List.length_take,Array.length_toList,Tc];rw [show i*sz+off+n+(i*sz+j - (min (i*sz+off) arr.size+n))=i*sz+j by omega,show off+n+(j - (min off D3.length+n))=j by omega];exact hold j hj
theorem CI {arr aG:Array Value}{vs:List Value}{i sz off n:Nat}(Tc:vs.length=n)(hle:off+n≤sz)(iU:i*sz+sz≤arr.size)(k2:aG.toList=arr.toList.take (i*sz+off)++vs++arr.toList.drop (i*sz+off+n)){q:Nat}(hq:q≠i){j:Nat}(hj:j<sz):aG[q*sz+j]? =arr[q*sz+j]? :=by
 rw [←Array.getElem?_toList,←Array.getElem?_toList,k2];by_cases cq:q<i;have:(q+1)*sz≤i*sz:=Nat.mul_le_mul_right _ (by omega);rw [Nat.add_mul] at this;rw [List.append_assoc,List.getElem?_append_left (by simp;omega),List.getElem?_take,if_pos (by omega)];have:(i+1)*sz≤q*sz:=Nat.mul_le_mul_right _ (by omega);rw [Nat.add_mul] at this;rw [List.getElem?_append_right (by simp;omega),List.getElem?_drop]
 congr 1
 simp;omega
theorem Gk {arr:Array Value}{es:List Value}{i sz:Nat}(hz:0<sz)(hl:es.length=sz)(hc: ∀j v,es[j]? =some v→arr[i*sz+j]? =some v):i*sz+sz≤arr.size:=by
 have:=hc (sz - 1) es[sz - 1] (List.getElem?_eq_getElem (by omega));have:=(Array.getElem?_eq_some_iff.1 this).1;omega
theorem tb {t t':Ty}{xs:List t.D}{cE:List t'.D}(h:(Chunk.seq t xs).yR t' cE): ∃e:t=t',e▸xs=cE:=by
 rcases h with h|⟨_,_,_,h⟩
 injection h with e1 e2;subst e1;exact ⟨rfl,eq_of_heq e2⟩;cases h
theorem kK {m:Mem}{t:Ty}{cs:List aA}{x:t.D}{r:List aA}(h:cW m t cs=some (x,r)):r=cs.drop 1:=by
 cases cs with
 |nil=>simp [cW] at h
 |cons c cs=>
  simp only [cW] at h;split at h;injection h with h;injection h with _ h;exact h.symm
  cases h
theorem tc {m:Mem}: ∀(t:Ty) {cs:List aA} {x:t.D} {r:List aA},impl m t cs=some (x,r)→r=cs.drop t.size
 | .int k,_,_,_,h=>kK (t:= .int k) h
 | .aX k,_,_,_,h=>kK (t:= .aX k) h
 | .bool,_,_,_,h=>kK (t:= .bool) h
 | .str,_,_,_,h=>kK (t:= .str) h
 | .sl t,_,_,_,h=>kK (t:= .sl t) h
 | .bx t,_,_,_,h=>kK (t:= .bx t) h
 | .own t,_,_,_,h=>kK (t:= .own t) h
 | .st t,_,_,_,h=>tc t h
 | .pair a b,cs,x,r,h=>by
  simp only [impl] at h;split at h;rename_i y r1 h1;split at h;rename_i z r2 h2;injection h with h;injection h with _ e2;subst e2;rw [tc b h2,tc a h1,List.drop_drop];rfl;cases h;cases h
theorem td: ∀(t:Ty) {cs:List aA} {x:t.D} {r:List aA} {o:Nat} {e:Ty} {ys:List e.D},impl [] t cs=some (x,r)→eJ t x o=some ⟨e,ys⟩→cs[o]? =some (.aq (.own e) ys)
 | .int _,_,_,_,_,_,_,_,hs=>by cases hs
 | .aX _,_,_,_,_,_,_,_,hs=>by cases hs
 | .bool,_,_,_,_,_,_,_,hs=>by cases hs
 | .str,_,_,_,_,_,_,_,hs=>by cases hs
 | .sl _,_,_,_,_,_,_,_,hs=>by cases hs
 | .bx _,_,_,_,_,_,_,_,hs=>by cases hs
 | .st t,_,x,_,_,_,_,h,hs=>td t (x:=x) h hs
 | .own t,cs,x,r,o,e,ys,h,hs=>by
  cases o with
  |succ o=>cases hs
  |zero=>
   have hs:some (⟨t,x⟩:Σ e:Ty,List e.D)=some ⟨e,ys⟩:=hs;injection hs with hs;injection hs with h1 h2;subst h1;have h2:=eq_of_heq h2;subst h2;simp only [impl] at h;cases cs with
   |nil=>simp [cW] at h
   |cons c cs=>
    simp only [cW] at h;split at h;rename_i y hy;injection h with h;injection h with e1 _;subst e1;cases c<;>simp only [eu] at hy<;>first|cases hy|skip
    rename_i t' q;split at hy;rename_i e;subst e;injection hy with hy;subst hy;rfl;cases hy;cases h
 | .pair a b,cs,x,r,o,e,ys,h,hs=>by
  simp only [impl] at h;split at h;rename_i y r1 h1;split at h;rename_i z r2 h2;injection h with h;injection h with e1 e2;subst e1;unfold eJ at hs;by_cases hb:o<a.size;rw [nP.2 hb] at hs;exact td a h1 hs;rw [lg hb] at hs;have:=td b h2 hs;rw [tc a h1,List.getElem?_drop,show a.size+(o - a.size)=o from by omega] at this;exact this;cases h;cases h
theorem te: ∀(t:Ty) {x:t.D} {o:Nat} {e:Ty} {ys:List e.D},(il t x)[o]? =some (.aq (.own e) ys)→eJ t x o=some ⟨e,ys⟩
 | .int _,x,o,e,ys,h=>by cases o<;>simp [il] at h
 | .aX _,x,o,e,ys,h=>by cases o<;>simp [il] at h
 | .bool,x,o,e,ys,h=>by cases o<;>simp [il] at h
 | .str,x,o,e,ys,h=>by cases o<;>simp [il] at h
 | .sl _,x,o,e,ys,h=>by cases o<;>simp [il] at h
 | .bx _,x,o,e,ys,h=>by cases o<;>simp [il] at h
 | .st t,x,o,e,ys,h=>te t (x:=x) h
 | .own t,x,o,e,ys,h=>by
  cases o with
  |succ o=>simp [il] at h
  |zero=>
   simp only [il,List.getElem?_cons_zero] at h;injection h with h;injection h with h1 h2;injection h1 with h1;subst h1;have h2:=eq_of_heq h2;subst h2;rfl
 | .pair a b,x,o,e,ys,h=>by
  unfold eJ;simp only [il] at h;by_cases hb:o<a.size;rw [nP.2 hb];rw [List.getElem?_append_left (by rw [lJ];exact hb)] at h;exact te a h;rw [lg hb];rw [List.getElem?_append_right (by rw [lJ];omega),lJ] at h;exact te b h
theorem Gl {t:Ty}{x0 x:t.D}{cs:List aA}{off:Nat}(hf:cs.all aA.Kw=true)(hle:off+cs.length≤t.size)(h:impl [] t ((il t x0).take off++cs++(il t x0).drop (off+cs.length))=some (x,[])){o:Nat}{e:Ty}{ys:List e.D}(hs:eJ t x o=some ⟨e,ys⟩):
 eJ t x0 o=some ⟨e,ys⟩:=by
 have:=td t h hs;apply te;have hl:=lJ t x0;by_cases h1:o<off;rw [List.append_assoc,List.getElem?_append_left (by simp;omega),List.getElem?_take,if_pos h1] at this;exact this;by_cases h2:o<off+cs.length;rw [List.append_assoc,List.getElem?_append_right (by simp;omega),List.getElem?_append_left (by simp;omega)] at this;have:=List.all_eq_true.1 hf _ (List.mem_of_getElem? this);cases this;rw [List.getElem?_append_right (by simp;omega),List.getElem?_drop] at this;simp only [List.length_append,List.length_take,hl] at this;rw [show off+cs.length+(o - (min off t.size+cs.length))=o from by omega] at this;exact this
theorem cX.Em {S S':Nat→Prop}{w w':World}(h: ∀b,S b→S' b∧w'.heap[b]? =w.heap[b]?): ∀(t:Ty) {γ:List Nat→Option Nat} {o:Nat} {cs:List Value} {x:t.D},
 (∀q p b,o≤q→q<o+t.size→γ (q::p)=some b→w'.heap[b]? =w.heap[b]?)→cX S w t γ o cs x→cX S' w' t γ o cs x
 | .own t,γ,o,cs,xs,hγ,⟨v,e,ha,hr⟩=>by
  have hγ:=fun p b=>hγ o p b (Nat.le_refl _) (by simp [Ty.size]);refine ⟨v,e,ha.stays fun b arr hg hb=>⟨arr,hb.keep (hγ _ b hg),rfl⟩,?_⟩;cases hg:γ [o] with
  |none=>rw [hg] at hr;exact hr
  |some b=>
   rw [hg] at hr;obtain ⟨arr,hb,hi⟩:=hr;exact ⟨arr,hb.keep (hγ _ b hg),fun i hl=>let ⟨es,h1,h2⟩:=hi i hl;⟨es,h1,cX.keep h t (fun p b hp=>hγ _ b hp) h2⟩⟩
 | .pair a b,γ,o,cs,x,hγ,⟨c1,c2,e,h1,h2⟩=>⟨c1,c2,e,cX.Em h a (fun q p b' h1 h2=>hγ q p b' h1 (by simp only [Ty.size];omega)) h1,cX.Em h b (fun q p b' h1 h2=>hγ q p b' (by omega) (by simp only [Ty.size];omega)) h2⟩
 | .st t,γ,o,cs,x,hγ,hr=>cX.Em h t (o:=o) (cs:=cs) (x:=x) hγ hr
 | .int k,_,_,cs,x,_,hr=>bS.keep h (.int k) cs x hr
 | .aX k,_,_,cs,x,_,hr=>bS.keep h (.aX k) cs x hr
 | .bool,_,_,cs,x,_,hr=>bS.keep h .bool cs x hr
 | .str,_,_,cs,x,_,hr=>bS.keep h .str cs x hr
 | .sl t,_,_,cs,x,_,hr=>bS.keep h (.sl t) cs x hr
 | .bx t,_,_,cs,x,_,hr=>bS.keep h (.bx t) cs x hr
theorem cX.put {S S':Nat→Prop}{w w':World}(h: ∀b,S b→S' b∧w'.heap[b]? =w.heap[b]?): ∀(t:Ty) {γ:List Nat→Option Nat} {o0 o:Nat} {cs:List Value} {x:t.D} {e:Ty} {ys wh:List e.D},
 cX S w t γ o0 cs x→eJ t x o=some ⟨e,ys⟩→(∀q p b,q≠o0+o→γ (q::p)=some b→w'.heap[b]? =w.heap[b]?)→
 (∀u,cX S w (.own e) γ (o0+o) [u] ys→cX S' w' (.own e) γ (o0+o) [u] wh)→cX S' w' t γ o0 cs (wm t x o e wh)
 | .own t,γ,o0,o,cs,xs,e,ys,wh,hr,hs,hγ,hn=>by
  cases o with
  |succ o=>cases hs
  |zero=>
   have hs:some (⟨t,xs⟩:Σ e:Ty,List e.D)=some ⟨e,ys⟩:=hs;injection hs with hs;injection hs with h1 h2;subst h1;have h2:=eq_of_heq h2;subst h2;have hp:wm (.own t) xs 0 t wh=wh:=by simp [wm,cG]
   rw [hp];obtain ⟨v,e,h3⟩:=hr;subst e;exact hn v ⟨v,rfl,h3⟩
 | .pair a b,γ,o0,o,cs,x,e,ys,wh,⟨c1,c2,ec,h1,h2⟩,hs,hγ,hn=>by
  unfold eJ at hs;unfold wm;by_cases hb:o<a.size;rw [nP.2 hb] at hs⊢;exact ⟨c1,c2,ec,cX.put h a h1 hs hγ hn,cX.Em h b (fun q p b' k1 k2 hp=>hγ q p b' (by omega) hp) h2⟩;rw [lg hb] at hs⊢;refine ⟨c1,c2,ec,cX.Em h a (fun q p b' k1 k2 hp=>hγ q p b' (by omega) hp) h1,cX.put h b h2 hs (fun q p b' k hp=>hγ q p b' (by omega) hp) ?_⟩;rw [show o0+a.size+(o - a.size)=o0+o from by omega];exact hn
 | .st t,γ,o0,o,cs,x,e,ys,wh,hr,hs,hγ,hn=>cX.put h t (cs:=cs) (x:=x) hr hs hγ hn
 | .int _,_,_,_,_,_,_,_,_,_,hs,_,_=>by cases hs
 | .aX _,_,_,_,_,_,_,_,_,_,hs,_,_=>by cases hs
 | .bool,_,_,_,_,_,_,_,_,_,hs,_,_=>by cases hs
 | .str,_,_,_,_,_,_,_,_,_,hs,_,_=>by cases hs
 | .sl _,_,_,_,_,_,_,_,_,_,hs,_,_=>by cases hs
 | .bx _,_,_,_,_,_,_,_,_,_,hs,_,_=>by cases hs
theorem tf: ∀(t:Ty) {x:t.D} {o o':Nat} {e e':Ty} {ys wh:List e.D} {zs:List e'.D},eJ t x o=some ⟨e,ys⟩→wh.length=ys.length→eJ t (wm t x o e wh) o'=some ⟨e',zs⟩→
 ∃Zv,eJ t x o'=some ⟨e',Zv⟩∧Zv.length=zs.length
 | .own t,x,o,o',e,e',ys,wh,zs,hs,hl,h=>by
  cases o with
  |succ o=>cases hs
  |zero=>
   cases o' with
   |succ o'=>cases h
   |zero=>
    have hs:some (⟨t,x⟩:Σ e:Ty,List e.D)=some ⟨e,ys⟩:=hs;injection hs with hs;injection hs with h1 h2;subst h1;have h2:=eq_of_heq h2;subst h2;have hp:wm (.own t) x 0 t wh=wh:=by simp [wm,cG]
    rw [hp] at h;have h:some (⟨t,wh⟩:Σ e:Ty,List e.D)=some ⟨e',zs⟩:=h;injection h with h;injection h with h1 h2;subst h1;have h2:=eq_of_heq h2;subst h2;exact ⟨x,rfl,hl.symm⟩
 | .pair a b,x,o,o',e,e',ys,wh,zs,hs,hl,h=>by
  unfold eJ at hs h⊢;unfold wm at h;by_cases hb:o<a.size;rw [nP.2 hb] at hs h;by_cases ke:o'<a.size;rw [nP.2 ke] at h⊢;exact tf a hs hl h;rw [lg ke] at h⊢;exact ⟨zs,h,rfl⟩;rw [lg hb] at hs h;by_cases ke:o'<a.size;rw [nP.2 ke] at h⊢;exact ⟨zs,h,rfl⟩;rw [lg ke] at h⊢;exact tf b hs hl h
 | .st t,x,o,o',e,e',ys,wh,zs,hs,hl,h=>tf t (x:=x) hs hl h
 | .int _,_,_,_,_,_,_,_,_,hs,_,_=>by cases hs
 | .aX _,_,_,_,_,_,_,_,_,hs,_,_=>by cases hs
 | .bool,_,_,_,_,_,_,_,_,hs,_,_=>by cases hs
 | .str,_,_,_,_,_,_,_,_,hs,_,_=>by cases hs
 | .sl _,_,_,_,_,_,_,_,_,hs,_,_=>by cases hs
 | .bx _,_,_,_,_,_,_,_,_,hs,_,_=>by cases hs
theorem vk {T:TypeId}{x v:aE}{e:ca}{xa va:Value}(h:dw cx g st a w)(he:qy cx.P st.mem T x v=some e)(hc:bH e.cond)(hx:VR g st.mem (cx.safe g st.mem w) w x xa)(hv:VR g st.mem (cx.safe g st.mem w) w v va):El cx st a w (Instr.storeAt T xa va) e:=by
 unfold qy at he;split at he;rename_i c off n hs;split at he;rename_i cs hl;cases hb:((Nat.beq v.cells.length n&&Nat.ble (off+n) cs.length)&&v.ok) with
 |false=>simp [hb] at he
 |true=>
  rw [hb] at he;simp only [cond_true] at he;simp only [Bool.and_eq_true] at hb;obtain ⟨⟨hn,hle⟩,ja⟩:=hb;have hn:=bL hn;have hle:=iT hle;injection he with he;subst he;obtain ⟨_,b',j8,Qy⟩:=hx;subst Qy;obtain ⟨b,arr,hg,dx,bN⟩:=h.mem c _ hl;have j8:g.f c []=some b':=j8;rw [hg] at j8;injection j8 with j8;subst j8;obtain ⟨vs,AX,kI⟩:=jN ja hv;have VI:=kI.length;have mQ:=bN.length;simp only [Array.length_toList] at mQ;obtain ⟨w',aG,kJ,k1,k2,k3,k4⟩:=nQ (P:=cx.P) (o:=off) hs dx (v:=va) (by rw [AX];omega) (by omega) (qB ja hv);have q:KK g st w w' c b [] (.box cs) (.box (cs.take off++v.cells++cs.drop (off+n))):=
   ⟨hl,trivial,hg,k3,⟨arr,aG,dx,k1,k4⟩,fun _ _=>trivial,by simp,fun t xs e=>(by rcases e with e|⟨_,_,_,e⟩<;>cases e),fun t xs e=>(by cases e)⟩
  refine ⟨w',kJ,g,?_,trivial⟩;refine h.Tb q ⟨b,aG,hg,k1,?_⟩;rw [k2,AX];exact (((bN.take off).append kI).append (bN.drop _)).mono fun _ _=>CR.stays q.stays
 cases he;rename_i c i sz off n hs;split at he;rename_i t xs hl;cases hb:((Nat.beq v.cells.length n&&Nat.ble (off+n) t.size)&&(Nat.beq sz t.size&&v.ok)&&v.cells.all aA.Kw) with
 |false=>simp [hb] at he
 |true=>
  rw [hb] at he;simp only [cond_true] at he;simp only [Bool.and_eq_true] at hb;obtain ⟨⟨⟨hn,hle⟩,hz,ja⟩,PB⟩:=hb;have hn:=bL hn;have hle:=iT hle;have hz:=bL hz;split at he;rename_i x VJ;injection he with he;subst he;have hi:i<xs.length:=hc.1;obtain ⟨_,b,j8,Qy⟩:=hx;subst Qy;have cY:=h.mem c _ hl;have hg:g.f c []=some b:=j8;unfold kd at cY;rw [hg] at cY;obtain ⟨arr,dx,iJ⟩:=cY;obtain ⟨D3,wy,Kq,Td⟩:=iJ.at_ hi;obtain ⟨vs,AX,kI⟩:=jN ja hv;have VI:=kI.length;have En:=CG (g:=g) (m:=st.mem) t Td;have hE:mC g st.mem (cx.safe g st.mem w) w (fun p=>g.f c (i::p)) 0 ((il t (xs.getD i t.gd)).take off++v.cells++(il t (xs.getD i t.gd)).drop (off+n)) (D3.take off++vs++D3.drop (off+n)):=by
   refine ((En.take off).append (mC.H4 PB kI)).append ?_;have:=En.drop (off+n);rw [show 0+(List.take off (il t (xs.getD i t.gd))++v.cells).length=0+(off+n) from by simp [lJ,hn];omega];exact this
  obtain ⟨cs,v2,TP,cJ,ov⟩:=CH t VJ hE;have:v2=[]:=by cases v2 with|nil=>rfl|cons=>exact ov.elim
  subst this;rw [List.append_nil] at TP;have iU:=Gk t.size_pos wy Kq;subst hz;obtain ⟨w',aG,kJ,k1,k2,k3,k4⟩:=nQ (P:=cx.P) (o:=i*t.size+off) hs dx (v:=va) (by rw [AX];omega) (by omega) (qB ja hv);rw [AX] at k2;have q:KK g st w w' c b [] (.seq t xs) (.seq t (xs.set i x)):=
   ⟨hl,trivial,hg,k3,⟨arr,aG,dx,k1,k4⟩,fun _ _=>trivial,by simp,fun t' cE e=>by
    obtain ⟨e,e2⟩:=tb e;subst e;subst e2;exact ⟨xs,.inl rfl,by simp⟩,fun t' cE e=>by
    injection e with e1 e2;subst e1;have e2:=eq_of_heq e2;subst e2;refine ⟨xs,rfl,by simp,fun q o e wh eI=> ?_⟩;by_cases Gm:q=i;subst Gm;rw [show (xs.set q x).getD q t.gd=x from by simp [List.getD,hi]] at eI;exact ⟨wh,Gl PB (by rw [hn];exact hle) (by rw [hn];exact VJ) eI,rfl⟩;rw [show (xs.set i x).getD q t.gd=xs.getD q t.gd from by simp [List.getD,List.getElem?_set_ne (fun e=>Gm e.symm)]] at eI;exact ⟨wh,eI,rfl⟩⟩
  refine ⟨w',kJ,g,?_,trivial⟩;refine h.Tb q ?_;unfold kd;rw [hg];have eO: ∀p b',g.f c (p)=some b'→p≠[]→w'.heap[b']? =w.heap[b']? :=fun p b' hp jq=>by
   refine k3.block b' (h.lt c p _ b' hl trivial hp) ?_;intro hm;simp at hm;subst hm;exact jq (h.lz c c p [] _ _ b' hl trivial hl trivial hp hg).2
  refine ⟨aG,k1,fun qq hq=> ?_⟩;have FT:qq<xs.length:=by simpa using hq
  by_cases Gm:qq=i;subst Gm;refine ⟨cs,?_,?_⟩;rw [←TP];exact Gj wy Kq (by omega) hle iU k2;rw [List.getElem_set_self];exact cX.keep q.stays.safe t (fun p b' hp=>eO _ b' hp (by simp)) cJ;obtain ⟨es,e1,e2⟩:=iJ qq FT;have TE:=cX.len t e2;refine ⟨es,fun j u hu=> ?_,by rw [List.getElem_set_ne (fun e=>Gm e.symm)];exact cX.keep q.stays.safe t (fun p b' hp=>eO _ b' hp (by simp)) e2⟩;rw [CI (by omega) hle iU k2 Gm (by rw [←TE];exact (List.getElem?_eq_some_iff.1 hu).1)];exact e1 j u hu;cases he
 rename_i t xs jj mO ks hl;cases hb:((Nat.beq v.cells.length n&&Nat.ble (off+n) t.size)&&(Nat.beq sz t.size&&v.ok)) with
 |false=>simp [hb] at he
 |true=>
  rw [hb] at he;simp only [cond_true] at he;simp only [Bool.and_eq_true] at hb;obtain ⟨⟨hn,hle⟩,hz,ja⟩:=hb;have hn:=bL hn;have hle:=iT hle;have hz:=bL hz;injection he with he;subst he;have Gd:i=jj:=hc.1;subst Gd;obtain ⟨_,b',j8,Qy⟩:=hx;subst Qy;obtain ⟨HQ,b,arr,hg,dx,hi,Wx,D3,wy,Kq,bN⟩:=h.mem c _ hl;have j8:g.f c []=some b':=j8;rw [hg] at j8;injection j8 with j8;subst j8;obtain ⟨vs,AX,kI⟩:=jN ja hv;have VI:=kI.length;have mQ:=bN.length;have iU:=Gk t.size_pos wy Kq;subst hz;obtain ⟨w',aG,kJ,k1,k2,k3,k4⟩:=nQ (P:=cx.P) (o:=i*t.size+off) hs dx (v:=va) (by rw [AX];omega) (by omega) (qB ja hv);rw [AX] at k2;have Zw:(Chunk.rB t xs i mO ks).owns []:=by intro o r e;cases e
  have q:KK g st w w' c b [] (.rB t xs i mO ks) (.rB t xs i (mO.take off++v.cells++mO.drop (off+n)) ks):=
   ⟨hl,Zw,hg,k3,⟨arr,aG,dx,k1,k4⟩,fun _ hp=>hp,by simp,fun t' cE e=>(by
    rcases e with e|⟨_,_,_,e⟩
    cases e;injection e with e1 e2;subst e1;have e2:=eq_of_heq e2;subst e2;exact ⟨xs,.inr ⟨_,_,_,rfl⟩,rfl⟩),fun t' cE e=>(by cases e)⟩
  refine ⟨w',kJ,g,?_,trivial⟩;refine h.Tb q ?_;have eO: ∀j p b',j≠i→g.f c (j::p)=some b'→w'.heap[b']? =w.heap[b']? :=fun j p b' jq hp=>by
   have ho:(Chunk.rB t xs i mO ks).owns (j::p):=by intro o r e;injection e with e;exact absurd e jq
   refine k3.block b' (h.lt c _ _ b' hl ho hp) ?_;intro hm;simp at hm;subst hm;have:=(h.lz c c _ _ _ _ b' hl ho hl Zw hp hg).2;cases this
  refine ⟨HQ.mono fun o k hk=>⟨(q.stays (cx:=cx)).u5 k hk.1 |>.1,hk.2⟩,b,aG,hg,k1,hi,fun j hj jq=> ?_,D3.take off++vs++D3.drop (off+n),?_,?_,?_⟩;obtain ⟨es,e1,e2⟩:=Wx j hj jq;have TE:=cX.len t e2;refine ⟨es,fun p u hu=> ?_,cX.keep q.stays.safe t (fun p b' hp=>eO j p b' jq hp) e2⟩;rw [CI (by omega) hle iU k2 jq (by rw [←TE];exact (List.getElem?_eq_some_iff.1 hu).1)];exact e1 p u hu;simp;omega;exact Gj wy Kq (by omega) hle iU k2;exact (((bN.take off).append kI).append (bN.drop _)).mono fun _ _=>CR.stays q.stays
 cases he;rename_i c i o j sz off n hs;split at he;rename_i t xs hl;split at he;rename_i e ys F8;cases hb:((Nat.beq v.cells.length n&&Nat.ble (off+n) e.size)&&(Nat.beq sz e.size&&v.ok)&&e.top) with
 |false=>simp [hb] at he
 |true=>
  rw [hb] at he;simp only [cond_true] at he;simp only [Bool.and_eq_true] at hb;obtain ⟨⟨⟨hn,hle⟩,hz,ja⟩,pQ⟩:=hb;have hn:=bL hn;have hle:=iT hle;have hz:=bL hz;split at he;rename_i y VJ;injection he with he;subst he;have hj:j<ys.length:=hc.1;obtain ⟨_,b,Qy,PC⟩:=hx;subst Qy;obtain ⟨hi,hg⟩:=PC t xs hl;have Px:=sT h.mem hl hi F8;rw [hg] at Px;obtain ⟨arr,dx,iJ⟩:=Px;obtain ⟨D3,Kq,Td⟩:=iJ j hj;have wy:=cX.len e Td;have Wy:bS (cx.safe g st.mem w) w e D3 (ys.getD j e.gd):=by rw [getD_eq hj];exact cX.rep e pQ Td
  obtain ⟨vs,AX,kI⟩:=jN ja hv;have VI:=kI.length;have En:bB (CR g st.mem (cx.safe g st.mem w) w) (il e (ys.getD j e.gd)) D3:=lG e Wy;obtain ⟨cs,v2,TP,cJ,ov⟩:=jr (S2:=cx.safe g st.mem w) (fun _ h=>h) i9.nil e VJ (((En.take off).append kI).append (En.drop (off+n)));have:v2=[]:=by cases v2 with|nil=>rfl|cons=>exact ov.elim
  subst this;rw [List.append_nil] at TP;have iU:=Gk e.size_pos wy Kq;subst hz;obtain ⟨w',aG,kJ,k1,k2,k3,k4⟩:=nQ (P:=cx.P) (o:=j*e.size+off) hs dx (v:=va) (by rw [AX];omega) (by omega) (qB ja hv);rw [AX] at k2;have q:KK g st w w' c b [i,o] (.seq t xs) (.seq t (xs.set i (wm t (xs.getD i t.gd) o e (ys.set j y)))):=
   ⟨hl,trivial,hg,k3,⟨arr,aG,dx,k1,k4⟩,fun _ _=>trivial,by simp,fun t' cE e=>(by
    obtain ⟨e,e2⟩:=tb e;subst e;subst e2;exact ⟨xs,.inl rfl,by simp⟩),fun t' cE e=>(by
    injection e with e1 e2;subst e1;have e2:=eq_of_heq e2;subst e2;refine ⟨xs,rfl,by simp,fun q o' e' wh eI=> ?_⟩;by_cases Gm:q=i;subst Gm;rw [show∀z,(xs.set q z).getD q t.gd=z from fun z=>by simp [List.getD,hi]] at eI;exact tf t F8 (by simp) eI;rw [show∀z,(xs.set i z).getD q t.gd=xs.getD q t.gd from fun z=>by simp [List.getD,List.getElem?_set_ne (fun e=>Gm e.symm)]] at eI;exact ⟨wh,eI,rfl⟩)⟩
  refine ⟨w',kJ,g,?_,trivial⟩;refine h.Tb q ?_;have eO: ∀p b',g.f c p=some b'→p≠[i,o]→w'.heap[b']? =w.heap[b']? :=fun p b' hp jq=>by
   refine k3.block b' (h.lt c p _ b' hl trivial hp) ?_;intro hm;simp at hm;subst hm;exact jq (h.lz c c p [i,o] _ _ b' hl trivial hl trivial hp hg).2
  have mN:=(q.stays (cx:=cx)).safe;have cY:=h.mem c _ hl;unfold kd at cY⊢;cases Ta:g.f c [] with
  |none=>rw [Ta] at cY;have Wz:xs=[]:=cY;subst Wz;simp at hi
  |some b0=>
   rw [Ta] at cY;obtain ⟨xZ,TQ,TR⟩:=cY;refine ⟨xZ,TQ.keep (eO [] b0 Ta (by simp)),fun qq hq=> ?_⟩;have FT:qq<xs.length:=by simpa using hq
   obtain ⟨es,e1,e2⟩:=TR qq FT;refine ⟨es,e1,?_⟩;by_cases Gm:qq=i;subst Gm;rw [List.getElem_set_self];have hd:xs.getD qq t.gd=xs[qq]:=getD_eq FT;rw [←hd] at e2;refine cX.put mN t e2 F8 (fun r p b' hr hp=>eO _ b' hp (by intro e;injection e with _ e;injection e with e _;omega)) fun u hu=> ?_;rw [Nat.zero_add] at hu⊢;obtain ⟨v1,ev,ha,_⟩:=hu;refine ⟨v1,ev,?_,?_⟩;rw [List.length_set];exact ha.stays fun b' arr1 _ ke=>q.dy ke;have uX:(fun p=>g.f c (qq::p)) [o]=some b:=hg;rw [uX];refine ⟨aG,k1,fun j' FR=> ?_⟩;have Gn:j'<ys.length:=by simpa using FR
   by_cases WA:j'=j;subst WA;refine ⟨cs,?_,?_⟩;rw [←TP];exact Gj wy Kq (by omega) hle iU k2;rw [List.getElem_set_self];exact cX.rU e pQ (bS.keep mN e cs y cJ);obtain ⟨Zx,d1,d2⟩:=iJ j' Gn;have WB:=cX.len e d2;refine ⟨Zx,fun p u' Kr=> ?_,?_⟩;rw [CI (by omega) hle iU k2 WA (by rw [←WB];exact (List.getElem?_eq_some_iff.1 Kr).1)];exact d1 p u' Kr;rw [List.getElem_set_ne (fun e=>WA e.symm)];exact cX.rU e pQ (bS.keep mN e Zx _ (cX.rep e pQ d2));rw [List.getElem_set_ne (fun e=>Gm e.symm)];exact cX.keep mN t (fun p b' hp=>eO _ b' hp (by intro e;injection e with e _;exact Gm e)) e2
  cases he
 cases he;cases he;cases he
end
end Go.Ide
namespace Go.Ide
def zf (A:List (List Nat→Option Nat))(F:List Nat):Prop:= ∀b,b∈F↔ ∃γ,γ∈A∧ ∃p,γ p=some b
def qD (A:List (List Nat→Option Nat)):Prop:=
 A.Pairwise (fun γ γ'=> ∀p q b,γ p=some b→γ' q=some b→False)∧ ∀γ,γ∈A→ ∀p q b,γ p=some b→γ q=some b→p=q
def TS (S:Nat→Prop)(w:World)(t:Ty)(v:Value)(xs:List t.D)(γ:List Nat→Option Nat):Prop:=
 ∃b cap arr,γ []=some b∧v= .slice (some ⟨b,0,none⟩) xs.length cap∧xs.length≤cap∧0<cap∧dy w b arr∧cap*t.size≤arr.size∧cap≤maxLen∧fA S w γ t xs arr
def gw (S:Nat→Prop)(w:World)(t:Ty)(cs:List Value)(xs:List t.D)(A:List (List Nat→Option Nat)):Prop:=
 (A=[fun _=>none]∧xs=[]∧ ∃a,cs=[.slice a 0 0])∨ ∃v γ,A=[γ]∧cs=[v]∧TS S w t v xs γ
def Bz (S:Nat→Prop)(w:World)(t:Ty)(cs:List Value)(xs:List t.D)(A:List (List Nat→Option Nat)):Prop:=
 ∃γ b arr,A=[γ]∧cs=[.pointer (some ⟨b,0,none⟩)]∧γ []=some b∧dy w b arr∧fA S w γ t xs arr
def dh (S:Nat→Prop)(w:World):(t:Ty)→List Value→t.D→List (List Nat→Option Nat)→Prop
 | .pair a b,cs,x,A=> ∃c1 c2 A1 A2,cs=c1++c2∧A=A1++A2∧dh S w a c1 x.1 A1∧dh S w b c2 x.2 A2
 | .st t,cs,x,A=>dh S w t cs x A
 | .sl t,cs,xs,A=>gw S w t cs xs A
 | .own t,cs,xs,A=>gw S w t cs xs A
 | .bx t,cs,xs,A=>Bz S w t cs xs A
 | .int k,cs,x,A=>A=[]∧bS S w (.int k) cs x
 | .aX k,cs,x,A=>A=[]∧bS S w (.aX k) cs x
 | .bool,cs,x,A=>A=[]∧bS S w .bool cs x
 | .str,cs,x,A=>A=[]∧bS S w .str cs x
def uo:(t:Ty)→t.D→t.D→Prop
 | .pair a b,x,y=>uo a x.1 y.1∧uo b x.2 y.2
 | .st t,x,y=>uo t x y
 | .sl t,x,y=>cl t x y
 | .own t,x,y=>cl t x y
 | .bx t,x,y=>cl t x y
 | .int _,_,_=>True
 | .aX _,_,_=>True
 | .bool,_,_=>True
 | .str,_,_=>True
def Jn (S:Nat→Prop)(w:World):Arg→Value→List (List Nat→Option Nat)→Prop
 | .au t x,v,A=>A=[]∧ ∃cs,dO t cs v∧bS S w t cs x
 | .gO t x,v,A=>A=[]∧ ∃(ad:Addr) (es:List Value),v= .pointer (some ad)∧S ad.block∧(∀j u,es[j]? =some u→w.cell? (ad.add j)=some u)∧bS S w t es x
 | .own t x,v,A=> ∃cs,dO t cs v∧dh S w t cs x A
 | .mv t x,v,A=> ∃cs,dO t cs v∧dh S w t cs x A
 | .fn f,v,A=>A=[]∧v= .func (.func f) #[] #[]
 | .nM f t x,v,A=>A=[]∧ ∃(ad:Addr) (es:List Value),v= .func (.func f) #[] #[.pointer (some ad)]∧S ad.block∧(∀j u,es[j]? =some u→w.cell? (ad.add j)=some u)∧bS S w t es x
 | .nl,v,A=>A=[]∧ ∃a,v= .slice a 0 0
def rD (S:Nat→Prop)(w:World):List Arg→List Value→List (List (List Nat→Option Nat))→Prop
 |[],[],[]=>True
 |a::as,v::vs,A::As=>Jn S w a v A∧rD S w as vs As
 |_,_,_=>False
def jd (S:Nat→Prop)(w:World):List Arg→List Value→List (List (List Nat→Option Nat))→List TD→Prop
 |[],[],[],[]=>True
 | .own t x::as,v::vs,A::As,o::os=>(∃(h:o.t=t) (cs:List Value),dO t cs v∧dh S w t cs (cG h o.x) A∧uo t x (cG h o.x))∧jd S w as vs As os
 | .au _ _::as,_::vs,_::As,os=>jd S w as vs As os
 | .gO _ _::as,_::vs,_::As,os=>jd S w as vs As os
 | .mv _ _::as,_::vs,_::As,os=>jd S w as vs As os
 | .fn _::as,_::vs,_::As,os=>jd S w as vs As os
 | .nM _ _ _::as,_::vs,_::As,os=>jd S w as vs As os
 | .nl::as,_::vs,_::As,os=>jd S w as vs As os
 |_,_,_,_=>False
def wA (b:Nat):List Arg→List (List (List Nat→Option Nat))→Prop
 | .mv _ _::as,A::As=>(∃γ,γ∈A∧ ∃p,γ p=some b)∨wA b as As
 |_::as,_::As=>wA b as As
 |_,_=>False
theorem wA.sub {b:Nat}: ∀{as:List Arg} {As:List (List (List Nat→Option Nat))},wA b as As→ ∃γ,γ∈As.flatten∧ ∃p,γ p=some b
 |[],_,h=>by simp [wA] at h
 |_::_,[],h=>by simp [wA] at h
 |a::as,A::As,h=>by
  have up:wA b as As→ ∃γ,γ∈(A::As).flatten∧ ∃p,γ p=some b:=fun h=>by
   obtain ⟨γ,h1,h2⟩:=wA.sub h;exact ⟨γ,by rw [List.flatten_cons];exact List.mem_append.2 (.inr h1),h2⟩
  cases a with
  |mv t x=>
   rcases h with ⟨γ,h1,h2⟩|h
   exact ⟨γ,by rw [List.flatten_cons];exact List.mem_append.2 (.inl h1),h2⟩;exact up h
  |_=>exact up h
def zg (S:Nat→Prop)(w:World)(r:RV)(v:Value)(A:List (List Nat→Option Nat)):Prop:=
 if r.fresh then∃cs,dO r.t cs v∧dh S w r.t cs r.x A else A=[]∧ ∃cs,dO r.t cs v∧bS S w r.t cs r.x
def nR (S:Nat→Prop)(w:World):List RV→List Value→List (List Nat→Option Nat)→Prop
 |[],[],A=>A=[]
 |r::rs,v::vs,A=> ∃A1 A2,A=A1++A2∧zg S w r v A1∧nR S w rs vs A2
 |_,_,_=>False
def H5:List Value→Value→Prop
 |[u],v=>v=u
 |vs,v=>v= .tuple vs.toArray
def KL (S:Nat→Prop)(w:World)(rs:List RV)(v:Value)(A:List (List Nat→Option Nat)):Prop:=
 ∃vs,nR S w rs vs A∧H5 vs v
def H6 (P:Program)(f:FuncId):Prop:= ∃fn,P.funcs[f]? =some fn∧(fn.name=="runtime.NumGoroutine")=false∧fn.body.isNone=false
def kL (S:Nat→Prop)(w w':World)(F':List Nat)(b:Nat):Prop:=b<w'.heap.size∧(b<w.heap.size→S b)∧b ∉ F'
def CallOK (P:Program)(f:FuncId)(args:List Arg)(rs:List RV)(outs:List TD):Prop:=
 H6 P f∧ ∀(w:World) (S:Nat→Prop) (vals:List Value) (As:List (List (List Nat→Option Nat))) (F:List Nat),zf As.flatten F→qD As.flatten→
  (∀b,S b→b<w.heap.size∧b ∉ F)→(∀b,b∈F→b<w.heap.size)→rD S w args vals As→Cp.ok w S→
  Calls P f vals.toArray w fun e w'=> ∃v A' F',e= .returned v∧zf A' F'∧qD A'∧KL (kL S w w' F') w' rs v A'∧(∀b,b∈F'→(w.heap.size≤b∨wA b args As)∧b<w'.heap.size)∧
   bK F w w'∧jd (kL S w w' F') w' args vals As outs
def iK (m:Mem):Mode→aE→Option Arg
 | .au t,v=>match mr m t v with
  |some x=>some (.au t x)
  |none=>none
 | .own t,v=>match mr m t v with
  |some x=>some (.own t x)
  |none=>none
 | .mv t,v=>match mr m t v with
  |some x=>some (.mv t x)
  |none=>none
 | .gO t,.one (.ip t' x off)=>match impl m t (((il t' x).drop off).take t.size) with
  |some (y,[])=>some (.gO t y)
  |_=>none
 | .fn,.one (.fn f)=>some (.fn f)
 | .nM t,.one (.nM f t' x)=>if h:t'=t then some (.nM f t (cG h x)) else none
 | .nl,.one .ar=>some .nl
 |_,_=>none
def pd (mp m:Mem):Mode→aE→Option Arg
 | .gO t,.one (.ptr c off)=>match lk c mp with
  |some (.box cs)=>(match impl m t ((cs.drop off).take t.size) with
   |some (y,[])=>some (.gO t y)
   |_=>none)
  |_=>none
 |md,v=>iK m md v
def dc (m mp m2:Mem):List Mode→List aE→Option (List Arg)
 |[],[]=>some []
 | .own t::ms,v::vs=>match iK m (.own t) v,dc m mp m2 ms vs with
  |some a,some as=>some (a::as)
  |_,_=>none
 | .mv t::ms,v::vs=>match iK m (.mv t) v,dc m mp m2 ms vs with
  |some a,some as=>some (a::as)
  |_,_=>none
 |md::ms,v::vs=>match pd mp m2 md v,dc m mp m2 ms vs with
  |some a,some as=>some (a::as)
  |_,_=>none
 |_,_=>none
def dB (m:Mem):List Mode→List aE→Option (List Nat)
 |[],[]=>some []
 | .own t::ms,v::vs=>match dA m t v.cells,dB m ms vs with
  |some (ks,[]),some l=>some (ks++l)
  |_,_=>none
 | .mv t::ms,v::vs=>match dA m t v.cells,dB m ms vs with
  |some (ks,[]),some l=>some (ks++l)
  |_,_=>none
 |_::ms,_::vs=>dB m ms vs
 |_,_=>none
def ow:(t:Ty)→List aA→t.D→Option (Mem×List aA)
 | .pair a b,cs,x=>match ow a cs x.1 with
  |some (u1,r)=>(match ow b r x.2 with
   |some (u2,r')=>some (u1++u2,r')
   |none=>none)
  |none=>none
 | .st t,cs,x=>ow t cs x
 | .sl t,cs,xs=>match cs with
  | .all c::r=>some ([(c,.seq t xs)],r)
  | .ar::r=>some ([],r)
  |_=>none
 | .own t,cs,xs=>match cs with
  | .all c::r=>some ([(c,.seq t xs)],r)
  | .ar::r=>some ([],r)
  |_=>none
 | .bx t,cs,xs=>match cs with
  | .iy c _ _ _::r=>some ([(c,.seq t xs)],r)
  |_=>none
 | .int _,cs,_=>match cs with
  | .aq _ _::r=>some ([],r)
  |_=>none
 | .aX _,cs,_=>match cs with
  | .aq _ _::r=>some ([],r)
  |_=>none
 | .bool,cs,_=>match cs with
  | .aq _ _::r=>some ([],r)
  |_=>none
 | .str,cs,_=>match cs with
  | .aq _ _::r=>some ([],r)
  |_=>none
def dJ:List Mode→List aE→List TD→Option Mem
 |[],[],[]=>some []
 | .own t::ms,v::vs,o::os=>if h:o.t=t then (match ow t v.cells (cG h o.x),dJ ms vs os with
  |some (u,[]),some l=>some (u++l)
  |_,_=>none) else none
 | .mv t::ms,v::vs,os=>match lE t v.cells,dJ ms vs os with
  |some (ks,[]),some l=>some (ks.map (fun k=>(k,Chunk.gone))++l)
  |_,_=>none
 | .au _::ms,_::vs,os=>dJ ms vs os
 | .gO _::ms,_::vs,os=>dJ ms vs os
 | .fn::ms,_::vs,os=>dJ ms vs os
 | .nM _::ms,_::vs,os=>dJ ms vs os
 | .nl::ms,_::vs,os=>dJ ms vs os
 |_,_,_=>none
def lK:List RV→Nat→List (Bool×List aA)×List Chunk
 |[],_=>([],[])
 |r::rs,n=>
  let p:List aA×List Chunk:=if r.fresh then cn r.t r.x n else (il r.t r.x,[])
  let q:=lK rs (n+p.2.length)
  ((r.t.yN,p.1)::q.1,p.2++q.2)
def Jo:List (Bool×List aA)→aE
 |[(true,cs)]=> .agg cs
 |[(false,[c])]=> .one c
 |[_]=> .jk
 |l=> .HM l
def fC:List Mode→Bool
 |[]=>true
 | .own t::ms=>t.lb&&fC ms
 |_::ms=>fC ms
def j7:List Mode→Bool
 |[]=>true
 | .own _::_=>false
 | .mv _::_=>false
 |_::ms=>j7 ms
def zh (P:Program)(m:Mem)(nx:Nat)(ms:List Mode)(rs:List RV)(outs:List TD)(f:FuncId)(vs:List aE):Option ca:=
 match dB m ms vs,dJ ms vs outs with
 |some ks,some up=>(match dc [] [] [] ms vs with
  |some as=>bif ks.isEmpty&&j7 ms then some ⟨Jo (lK rs nx).1,bG nx (lK rs nx).2,up,[CallOK P f as rs outs]⟩ else none
  |none=>bif mw ks then (bif rs.all RV.u6&&fC ms then (match dc m m ((ks.map fun k=>(k,Chunk.gone))++m) ms vs with
   |some as=>some ⟨Jo (lK rs nx).1,bG nx (lK rs nx).2,up,[CallOK P f as rs outs]⟩
   |none=>none) else (match dc m [] [] ms vs with
   |some as=>some ⟨Jo (lK rs nx).1,bG nx (lK rs nx).2,up,[CallOK P f as rs outs]⟩
   |none=>none)) else none)
 |_,_=>none
end Go.Ide
