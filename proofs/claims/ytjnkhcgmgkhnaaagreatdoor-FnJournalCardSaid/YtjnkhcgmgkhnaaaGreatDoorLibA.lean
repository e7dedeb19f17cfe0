import Derived.WalkKit
set_option linter.all false
open Array renaming length_toList→Ω,getD_eq_getD_getElem?→ϐ,getElem?_eq_some_iff→ϝ,getElem?_toList→ϥ,getElem?_eq_getElem→aal,getElem?_modify→aa5,ext'→aa9,range→aci,toList_setIfInBounds→ael,toList_zipIdx→afl,foldl_toList→afu
open BitVec renaming ofInt→Ϙ
open Bool renaming and_eq_true→κ,false_eq_true→acH
open ByteArray renaming size→abF,ext_iff→aeX
open Go renaming Value→π,World→Ε,TypeId→Ι,Program→Ο,FuncId→aaF,IntKind→aaK,Addr→ab6,BinOp→acQ
open Go.Addr renaming add→ab3
open Go.Builtin renaming append_→Ϟ,zeroCells→Ϧ,firstCells→aaO,lenOf→abg,len_→acW,min_→acY,max_→aeG
open Go.Instr renaming buildSlice→Ϲ,sureAddr→aax,indexAt→aaM,sliceBounds→aa2,fill→abj,fieldAt→acC,sliceAt→acX,sliceBound→ac7,loadAt→adf,alloc→adw,storeAt→adM,box→adZ,extract→agK,slice→ahi
open Go.Op renaming intCmp→adD,intArith→aej,stringOp→aek,intBits→aeF,unary→ahk,bytesLess→ah0
open Go.Program renaming built→age
open Go.Result renaming andThen_ok→ϋ
open Go.RowKit.Below renaming heap_alloc→aar,heap_setCell→ab4
open Go.Sem renaming run_bind→Ϛ
open Go.World renaming cell?_of_block→ach,setCell→aeY
open Int renaming toNat→δ,toNat_natCast→Α,eq_ofNat_of_zero_le→ae0,le_trans→afe,le_antisymm→agI
open List renaming getD→ε,length→ζ,length_append→ξ,getElem?_eq_some_iff→ω,getElem?_eq_getElem→Γ,length_cons→Η,getElem?_append_right→Κ,mem_append→Λ,getElem?_append_left→Ν,append_assoc→ό,length_take→ώ,getElem?_take→ϒ,length_map→Ϝ,append_nil→ϲ,eq_nil_of_length_eq_zero→ϸ,take_length→aan,mem_of_getElem?→aaN,flatten_cons→aaR,getElem?_drop→aaT,getElem_of_mem→aaV,size_toArray→abG,all_cons→acn,getElem_set_self→adg,getElem_set_ne→adx,take_succ_eq_append_getElem→adS,getElem_map→aes,set_append_right→afd,getElem?_set_ne→afm,drop_set_of_lt→aft,map→agH,drop_drop→agN,take_set→ag0
open Nat renaming le_refl→ς,beq→Β,mul_le_mul_right→Τ,zero_add→Ψ,le_of_ble_eq_true→ϑ,add_mul→ϓ,lt_of_lt_of_le→ϕ,add_assoc→Ϡ,ble→ϩ,le_trans→ϫ,add_zero→Ϭ,blt→aaf,min_eq_left→aas,one_pos→aau,mul_comm→aaB,mul_le_mul→aaZ,zero_mul→abf,mod_lt→abq,eq_of_beq_eq_true→aby,ble_eq_true_of_le→afk,div_lt_of_lt_mul→afv,div_add_mod→agL,le_of_lt→ahL,add_comm→ahM
open Option renaming isSome_iff_exists→abH
open Option.some renaming inj→ah6
namespace Go.Ide
inductive Ty where
 |int (k:aaK)
 |dP (k:FloatKind)
 |bool
 |str
 |sl (t:Ty)
 |pair (a b:Ty)
 |st (t:Ty)
 |own (t:Ty)
 |bx (t:Ty)
 |cl (f:aaF) (t:Ty)
 deriving DecidableEq
@[reducible] def Ty.D:Ty->Type
 | .int _=>Int
 | .dP _=>Nat
 | .bool=>Bool
 | .str=>List UInt8
 | .sl t=>List t.D
 | .pair a b=>a.D×b.D
 | .st t=>t.D
 | .own t=>List t.D
 | .bx t=>List t.D
 | .cl _ t=>t.D
def Ty.fm:(t:Ty)->t.D
 | .int _=>(0:Int)
 | .dP _=>(0:Nat)
 | .bool=>false
 | .str=>([]:List UInt8)
 | .sl t=>([]:List t.D)
 | .pair a b=>(a.fm,b.fm)
 | .st t=>t.fm
 | .own t=>([]:List t.D)
 | .bx t=>([]:List t.D)
 | .cl _ t=>t.fm
def Ty.size:Ty->Nat
 | .pair a b=>a.size+b.size
 | .st t=>t.size
 |_=>1
def Ty.sR:Ty->List Nat
 | .pair a b=>a.size::b.sR
 |t=>[t.size]
def Ty.sS:Ty->Bool
 | .st _=>true
 |_=>false
inductive bI where
 |bG (t:Ty) (x:t.D)
 |ptr (c off:Nat)
 |dn (c i sz off:Nat)
 |ip (t:Ty) (x:t.D) (off:Nat)
 |all (c:Nat)
 |ref (c off len:Nat)
 |row (c i o:Nat)
 |zf (c i o j sz off:Nat)
 |bH
 |fn (f:aaF)
 |ji (f:aaF) (t:Ty) (x:t.D)
 |cls (f:aaF) (ks:List Nat)
 |zP (f:aaF) (t:Ty) (x:t.D)
 |fP (c:Nat)
 |dS
 |bad
inductive bK where
 |one (c:bI)
 |agg (cs:List bI)
 |AA (vs:List (Bool×List bI))
 |Ce
 |dS
inductive Chunk where
 |box (cs:List bI)
 |seq (t:Ty) (xs:List t.D)
 |pg (t:Ty) (xs:List t.D) (i:Nat) (cs:List bI) (ks:List Nat)
 |mp (t u:Ty) (xs:List (t.D×u.D))
 |gh (cs:List bI) (vs:List π)
 |pT (T e:Ι) (xs:List UInt8)
 |gone
abbrev Mem:=List (Nat×Chunk)
abbrev Fr:=List (Nat×bK)
def lk {α:Type}(k:Nat):List (Nat×α)->Option α
 |[]=>none
 |p::r=>bif Β k p.1 then some p.2 else lk k r
structure St where
 fr:Fr
 mem:Mem
 nx:Nat
def cR {a b:Ty}(h:a=b)(x:a.D):b.D:=h▸x
def Ty.er:Ty->Ty
 | .own t=> .sl t.er
 | .sl t=> .sl t.er
 | .bx t=> .bx t.er
 | .cl f t=> .cl f t
 | .pair a b=> .pair a.er b.er
 | .st t=> .st t.er
 | .int k=> .int k
 | .dP k=> .dP k
 | .bool=> .bool
 | .str=> .str
theorem Ty.xc:(t:Ty)->t.er.D=t.D
 | .own t=>congrArg List (xc t)
 | .sl t=>congrArg List (xc t)
 | .bx t=>congrArg List (xc t)
 | .cl _ _=>rfl
 | .pair a b=>by show (a.er.D×b.er.D)=(a.D×b.D);rw [xc a,xc b]
 | .st t=>xc t
 | .int _=>rfl
 | .dP _=>rfl
 | .bool=>rfl
 | .str=>rfl
def zQ {A B:Type}(h:A=B)(x:A):B:=h▸x
def B9 {t:Ty}(x:t.D):t.er.D:=zQ t.xc.symm x
def Ty.j3:Ty->Bool
 | .own _=>false
 | .sl t=>t.j3
 | .bx t=>t.j3
 | .pair a b=>a.j3&&b.j3
 | .st t=>t.j3
 |_=>true
def ep:(t:Ty)->t.D->Nat->Option (Σ e:Ty,List e.D)
 | .own e,x,o=>(match o with|0=>some ⟨e,x⟩|_+1=>none)
 | .pair a b,x,o=>bif aaf o a.size then ep a x.1 o else ep b x.2 (o - a.size)
 | .st t,x,o=>ep t x o
 | .int _,_,_=>none
 | .dP _,_,_=>none
 | .bool,_,_=>none
 | .str,_,_=>none
 | .sl _,_,_=>none
 | .bx _,_,_=>none
 | .cl _ _,_,_=>none
def cK:Ty->Nat->List Nat
 | .own _,o=>[o]
 | .pair a b,o=>cK a o++cK b (o+a.size)
 | .st t,o=>cK t o
 | .int _,_=>[]
 | .dP _,_=>[]
 | .bool,_=>[]
 | .str,_=>[]
 | .sl _,_=>[]
 | .bx _,_=>[]
 | .cl _ _,_=>[]
def vb:(t:Ty)->t.D->Nat->(e:Ty)->List e.D->t.D
 | .own p,x,o,e,j=>(match o with|0=>if h:e=p then cR (a:= .sl e) (b:= .sl p) (congrArg Ty.sl h) j else x|_+1=>x)
 | .pair a b,x,o,e,j=>bif aaf o a.size then (vb a x.1 o e j,x.2) else (x.1,vb b x.2 (o - a.size) e j)
 | .st t,x,o,e,j=>vb t x o e j
 | .int _,x,_,_,_=>x
 | .dP _,x,_,_,_=>x
 | .bool,x,_,_,_=>x
 | .str,x,_,_,_=>x
 | .sl _,x,_,_,_=>x
 | .bx _,x,_,_,_=>x
 | .cl _ _,x,_,_,_=>x
def dT (m:Mem)(t:Ty):bI->Option t.D
 | .bG I x=>if h:I=t then some (cR h x) else none
 | .all c=>match t with
  | .sl e=>(match lk c m with
   |some (.seq j p)=>if h:j=e then some (cR (congrArg Ty.sl h) p) else if h:j.er=e then some (cR (congrArg Ty.sl h) (B9 (t:= .sl j) p)) else none
   |_=>none)
  |_=>none
 | .row c i o=>match t with
  | .sl e=>(match lk c m with
   |some (.seq r p)=>(match ep r (p.getD i r.fm) o with
    |some ⟨j,J⟩=>if h:j=e then some (cR (congrArg Ty.sl h) J) else none
    |none=>none)
   |_=>none)
  |_=>none
 | .ref c off len=>match t with
  | .sl e=>(match lk c m with
   |some (.seq j p)=>if h:j=e then some (cR (congrArg Ty.sl h) ((p.drop off).take len)) else none
   |_=>none)
  |_=>none
 | .bH=>match t with
  | .sl e=>some ([]:List e.D)
  |_=>none
 | .dn c i R off=>match t with
  | .bx e=>(match lk c m with
   |some (.seq j p)=>if h:j=e then (bif Β i 0&&(Β off 0&&Β R e.size) then some (cR (congrArg Ty.bx h) p) else none) else none
   |_=>none)
  |_=>none
 |_=>none
def du (m:Mem)(t:Ty):List bI->Option (t.D×List bI)
 |c::r=>(match dT m t c with
  |some x=>some (x,r)
  |none=>none)
 |[]=>none
def impl (m:Mem):(t:Ty)->List bI->Option (t.D×List bI)
 | .pair a b,cs=>match impl m a cs with
  |some (x,r)=>(match impl m b r with
   |some (y,j)=>some ((x,y),j)
   |none=>none)
  |none=>none
 | .st t,cs=>impl m t cs
 | .int k,cs=>du m (.int k) cs
 | .dP k,cs=>du m (.dP k) cs
 | .bool,cs=>du m .bool cs
 | .str,cs=>du m .str cs
 | .sl t,cs=>du m (.sl t) cs
 | .own t,cs=>du m (.own t) cs
 | .bx t,cs=>du m (.bx t) cs
 | .cl f t,cs=>du m (.cl f t) cs
def bK.cells:bK->List bI
 | .one c=>[c]
 | .agg cs=>cs
 |_=>[]
def kf (m:Mem)(t:Ty)(v:bK):Option t.D:=
 match v,t.sS with
 | .one c,false=>(match impl m t [c] with|some (x,[])=>some x|_=>none)
 | .agg cs,true=>(match impl m t cs with|some (x,[])=>some x|_=>none)
 |_,_=>none
def gT:(t:Ty)->t.D->List bI
 | .pair a b,x=>gT a x.1++gT b x.2
 | .st t,x=>gT t x
 | .int k,x=>[.bG (.int k) x]
 | .dP k,x=>[.bG (.dP k) x]
 | .bool,x=>[.bG .bool x]
 | .str,x=>[.bG .str x]
 | .sl t,x=>[.bG (.sl t) x]
 | .own t,x=>[.bG (.own t) x]
 | .bx t,x=>[.bG (.bx t) x]
 | .cl f t,x=>[.bG (.cl f t) x]
def zR (c i:Nat):(t:Ty)->Nat->t.D->List bI
 | .pair a b,o,x=>zR c i a o x.1++zR c i b (o+a.size) x.2
 | .st t,o,x=>zR c i t o x
 | .own _,o,_=>[.row c i o]
 | .int k,_,x=>[.bG (.int k) x]
 | .dP k,_,x=>[.bG (.dP k) x]
 | .bool,_,x=>[.bG .bool x]
 | .str,_,x=>[.bG .str x]
 | .sl t,_,x=>[.bG (.sl t) x]
 | .bx t,_,x=>[.bG (.bx t) x]
 | .cl f t,_,x=>[.bG (.cl f t) x]
def eM:(t:Ty)->t.D->Nat->List bI×List Chunk
 | .pair a b,x,n=>((eM a x.1 n).1++(eM b x.2 (n+(eM a x.1 n).2.length)).1,(eM a x.1 n).2++(eM b x.2 (n+(eM a x.1 n).2.length)).2)
 | .st t,x,n=>eM t x n
 | .own t,x,n=>([.all n],[.seq t x])
 | .int k,x,_=>([.bG (.int k) x],[])
 | .dP k,x,_=>([.bG (.dP k) x],[])
 | .bool,x,_=>([.bG .bool x],[])
 | .str,x,_=>([.bG .str x],[])
 | .sl t,x,_=>([.bG (.sl t) x],[])
 | .bx t,x,_=>([.bG (.bx t) x],[])
 | .cl f t,x,_=>([.bG (.cl f t) x],[])
def mr (m:Mem):(t:Ty)->List bI->Option ((t.D×List Nat)×List bI)
 | .pair a b,cs=>match mr m a cs with
  |some ((x,j),r)=>(match mr m b r with
   |some ((y,o),I)=>some (((x,y),j++o),I)
   |none=>none)
  |none=>none
 | .st t,cs=>mr m t cs
 | .own t,cs=>(match cs with
  | .bH::r=>some ((([]:List t.D),[]),r)
  | .all c::r=>(match lk c m with
   |some (.seq e J)=>if h:e=t then some ((cR (a:= .sl e) (b:= .sl t) (congrArg Ty.sl h) J,[c]),r) else none
   |_=>none)
  |_=>none)
 | .int k,cs=>(du [] (.int k) cs).map λp=>((p.1,[]),p.2)
 | .dP k,cs=>(du [] (.dP k) cs).map λp=>((p.1,[]),p.2)
 | .bool,cs=>(du [] .bool cs).map λp=>((p.1,[]),p.2)
 | .str,cs=>(du [] .str cs).map λp=>((p.1,[]),p.2)
 | .sl t,cs=>(du [] (.sl t) cs).map λp=>((p.1,[]),p.2)
 | .bx t,cs=>(du [] (.bx t) cs).map λp=>((p.1,[]),p.2)
 | .cl f t,cs=>(du [] (.cl f t) cs).map λp=>((p.1,[]),p.2)
def cZ:(t:Ty)->t.D->Nat->List bI×List Chunk
 | .pair a b,x,n=>((cZ a x.1 n).1++(cZ b x.2 (n+(cZ a x.1 n).2.length)).1,(cZ a x.1 n).2++(cZ b x.2 (n+(cZ a x.1 n).2.length)).2)
 | .st t,x,n=>cZ t x n
 | .int k,x,_=>([.bG (.int k) x],[])
 | .dP k,x,_=>([.bG (.dP k) x],[])
 | .bool,x,_=>([.bG .bool x],[])
 | .str,x,_=>([.bG .str x],[])
 | .sl t,x,n=>([.all n],[.seq t x])
 | .own t,x,n=>([.all n],[.seq t x])
 | .bx t,x,n=>([.dn n 0 t.size 0],[.seq t x])
 | .cl f t,x,_=>([.bG (.cl f t) x],[])
def cD:Nat->List Chunk->Mem
 |_,[]=>[]
 |n,c::r=>(n,c)::cD (n+1) r
def bI.ok:bI->Bool
 | .bad=>false
 |_=>true
def bK.ok:bK->Bool
 | .one c=>c.ok
 | .agg cs=>cs.all bI.ok
 |_=>false
end Go.Ide
namespace Go.Ide
def pow10Cells:Array π:=((List.range 20).map λi=>Value.int .u64 ((10^i:Nat):Int)).toArray
def ErrV (w:Ε)(b:Nat):Prop:= ∃ev,w.cell? ⟨b,0,none⟩=some ev/\(ev= .nilIface\/ ∃j o,ev= .iface j o)
def Glob.ok (w:Ε)(S:Nat->Prop):Prop:=
 ((S 0/\ ∃m,w.cell? ⟨0,0,none⟩=some (.int .i64 m))/\S 1/\ ∃t fr,w.heap[1]? =some (.cells pow10Cells t fr))/\(S 4/\ErrV w 4)/\S 5/\ErrV w 5
theorem ErrV.mono {w w':Ε}{b:Nat}(h:w'.heap[b]? =w.heap[b]?)(j:ErrV w b):ErrV w' b:=by
 obtain ⟨ev,o,p⟩:=j;exact ⟨ev,(ach h).trans o,p⟩
theorem Glob.mono {w w':Ε}{S S':Nat->Prop}(h: ∀b,S b->S' b/\w'.heap[b]? =w.heap[b]?)(I:Glob.ok w S):Glob.ok w' S':=by
 obtain ⟨⟨⟨j,m,J⟩,o,t,fr,ht⟩,⟨p,R⟩,r,T⟩:=I;exact ⟨⟨⟨(h 0 j).1,m,(ach (h 0 j).2).trans J⟩,(h 1 o).1,t,fr,(h 1 o).2.trans ht⟩,⟨(h 4 p).1,R.mono (h 4 p).2⟩,(h 5 r).1,T.mono (h 5 r).2⟩
theorem Glob.vc {w:Ε}{S:Nat->Prop}(h:Glob.ok w S): ∃m,w.cell? ⟨0,0,none⟩=some (.int .i64 m):=h.1.1.2
theorem Glob.pow {w:Ε}{S:Nat->Prop}(h:Glob.ok w S):S 1/\ ∃t fr,w.heap[1]? =some (.cells pow10Cells t fr):=h.1.2
end Go.Ide
namespace Go.Ide
def cc {α β:Type}(R:α->β->Prop):List α->List β->Prop
 |[],[]=>True
 |a::j,b::o=>R a b/\cc R j o
 |_,_=>False
theorem cc.length {α β:Type}{R:α->β->Prop}: ∀{asx:List α} {j:List β},cc R asx j->asx.length=j.length
 |[],[],_=>rfl
 |_::_,_::_,h=>by simp [cc.length h.2]
 |[],_::_,h=>h.elim
 |_::_,[],h=>h.elim
theorem cc.mono {α β:Type}{R j:α->β->Prop}(o: ∀a b,R a b->j a b): ∀{asx:List α} {p:List β},cc R asx p->cc j asx p
 |[],[],_=>trivial
 |_::_,_::_,h=>⟨o _ _ h.1,cc.mono o h.2⟩
 |[],_::_,h=>h.elim
 |_::_,[],h=>h.elim
theorem cc.append {α β:Type}{R:α->β->Prop}: ∀{asx:List α} {p:List β} {j:List α} {bs':List β},cc R asx p->cc R j bs'->cc R (asx++j) (p++bs')
 |[],[],_,_,_,o=>o
 |_::_,_::_,_,_,h,o=>⟨h.1,cc.append h.2 o⟩
 |[],_::_,_,_,h,_=>h.elim
 |_::_,[],_,_,h,_=>h.elim
theorem cc.take {α β:Type}{R:α->β->Prop}: ∀(n:Nat) {asx:List α} {j:List β},cc R asx j->cc R (asx.take n) (j.take n)
 |0,_,_,_=>by simp [cc]
 |_+1,[],[],_=>by simp [cc]
 |n+1,_::_,_::_,h=>by simpa [cc] using ⟨h.1,cc.take n h.2⟩
 |_+1,[],_::_,h=>h.elim
 |_+1,_::_,[],h=>h.elim
theorem cc.drop {α β:Type}{R:α->β->Prop}: ∀(n:Nat) {asx:List α} {j:List β},cc R asx j->cc R (asx.drop n) (j.drop n)
 |0,_,_,h=>by simpa using h
 |_+1,[],[],_=>by simp [cc]
 |n+1,_::_,_::_,h=>by simpa using cc.drop n h.2
 |_+1,[],_::_,h=>h.elim
 |_+1,_::_,[],h=>h.elim
theorem cc.get {α β:Type}{R:α->β->Prop}: ∀{asx:List α} {o:List β} (i:Nat),cc R asx o-> ∀a,asx[i]? =some a-> ∃b,o[i]? =some b/\R a b
 |[],[],_,_,a,h=>by simp at h
 |_::_,b::_,0,h,a,j=>by simp at j;subst j;exact ⟨b,rfl,h.1⟩
 |_::_,_::_,i+1,h,a,j=>by simpa using cc.get i h.2 a (by simpa using j)
 |[],_::_,_,h,_,_=>h.elim
 |_::_,[],_,h,_,_=>h.elim
def di:FloatKind->Nat->Nat
 | .f32,b=>if b%2147483648>2139095040 then 2143289344 else b
 | .f64,b=>if b%9223372036854775808>9218868437227405312 then 9221120237041090560 else b
def dA (w:Ε)(b:Nat)(arr:Array π):Prop:=
 ∃T j o,w.heap[b]? =some (.cells arr T (j,o))/\(j=o\/arr.size<=j)
theorem dA.OE {w:Ε}{b:Nat}{arr:Array π}(h:dA w b arr){o:Nat}(j:o<arr.size):w.frozen? ⟨b,o,none⟩=false:=by
 obtain ⟨T,p,r,h,t⟩:=h;simp only [World.frozen?,h,Bool.and_eq_false_iff,decide_eq_false_iff_not];omega
theorem dA.cell {w:Ε}{b:Nat}{arr:Array π}(h:dA w b arr)(o:Nat):w.cell? ⟨b,o,none⟩=arr[o]? :=by
 obtain ⟨T,j,p,h,_⟩:=h;simp [World.cell?,h]
theorem dA.lt {w:Ε}{b:Nat}{arr:Array π}(h:dA w b arr):b<w.heap.size:=by
 obtain ⟨T,j,o,h,_⟩:=h;exact (ϝ.1 h).1
theorem dA.bJ {w w':Ε}{b:Nat}{arr:Array π}(h:dA w b arr)(e:w'.heap[b]? =w.heap[b]?):dA w' b arr:=by
 obtain ⟨T,j,o,h,p⟩:=h;exact ⟨T,j,o,by rw [e,h],p⟩
theorem dA.eq {w:Ε}{b:Nat}{arr j:Array π}(h:dA w b arr)(o:dA w b j):arr=j:=by
 obtain ⟨T,t,I,h,_⟩:=h;obtain ⟨J,p,r,o,_⟩:=o;rw [h] at o;injection o with o;injection o
theorem dA.new (w:Ε)(arr:Array π)(T:Ι):dA (w.alloc (.cells arr T)) w.heap.size arr:=
 ⟨T,0,0,heap_alloc_new w _,.inl rfl⟩
theorem kW {w w':Ε}{a:ab6}(e:w'.heap[a.block]? =w.heap[a.block]?):w'.cell? a=w.cell? a:=ach e
theorem fy (a:ab6)(n:Nat):(a.add n).block=a.block:=by unfold ab3;split<;>rfl
theorem add_add (a:ab6)(n m:Nat):(a.add n).add m=a.add (n+m):=by
 unfold ab3;split;rename_i h;subst h;simp;split;rename_i h;subst h;simp [*];simp only [Nat.add_eq_zero_iff];rw [if_neg (by omega)];simp [Ϡ]
theorem cw (b o n:Nat):(⟨b,o,none⟩:ab6).add n=⟨b,o+n,none⟩:=by
 unfold ab3;split;rename_i h;subst h;rfl;rfl
def po (S:Nat->Prop)(w:Ε):List Nat->List π->List π->Prop
 |[],_,[]=>True
 |n::t,r,p::I=>(∃o:ab6,p= .pointer (some o)/\S o.block/\ ∀j v,(r.take n)[j]? =some v->w.cell? (o.add j)=some v)/\po S w t (r.drop n) I
 |_,_,_=>False
theorem po.bJ {S S':Nat->Prop}{w w':Ε}(h: ∀b,S b->S' b/\w'.heap[b]? =w.heap[b]?): ∀{ns:List Nat} {vs ps:List π},po S w ns vs ps->po S' w' ns vs ps
 |[],_,[],_=>trivial
 |_::_,_,_::_,⟨⟨p,e,o,r⟩,t⟩=>⟨⟨p,e,(h _ o).1,λj v I=>(kW (by rw [fy];exact (h _ o).2)).trans (r j v I)⟩,po.bJ h t⟩
 |[],_,_::_,h=>h.elim
 |_::_,_,[],h=>h.elim
def cn (S:Nat->Prop)(w:Ε):(t:Ty)->List π->t.D->Prop
 | .int k,cs,n=>cs=[.int k n]
 | .dP k,cs,n=> ∃b,cs=[.float k b]/\di k b=n
 | .bool,cs,b=>cs=[.bool b]
 | .str,cs,s=>cs=[.string ⟨s.toArray⟩]
 | .pair a b,cs,x=> ∃r I,cs=r++I/\cn S w a r x.1/\cn S w b I x.2
 | .st t,cs,x=>cn S w t cs x
 | .sl t,cs,o=> ∃a cap,cs=[.slice a (ζ o) cap]/\ζ o<=cap/\ ∀i (h:i<ζ o),∃(p:ab6) (es:List π),a=some p/\S p.block/\
  (∀j v,es[j]? =some v->w.cell? (p.add (i*t.size+j))=some v)/\cn S w t es o[i]
 | .own t,cs,o=> ∃a cap,cs=[.slice a (ζ o) cap]/\ζ o<=cap/\ ∀i (h:i<ζ o),∃(p:ab6) (es:List π),a=some p/\S p.block/\
  (∀j v,es[j]? =some v->w.cell? (p.add (i*t.size+j))=some v)/\cn S w t es o[i]
 | .bx t,cs,o=> ∃p:ab6,cs=[.pointer (some p)]/\ ∀i (h:i<ζ o),∃es:List π,S p.block/\
  (∀j v,es[j]? =some v->w.cell? (p.add (i*t.size+j))=some v)/\cn S w t es o[i]
 | .cl f t,cs,x=> ∃J R:List π,cs=[.func (.func f) #[] R.toArray]/\cn S w t J x/\po S w t.sR J R
theorem cn.bJ {S S':Nat->Prop}{w w':Ε}(h: ∀b,S b->S' b/\w'.heap[b]? =w.heap[b]?): ∀(t:Ty) (cs:List π) (x:t.D),cn S w t cs x->cn S' w' t cs x
 | .int _,_,_,p=>p
 | .dP _,_,_,p=>p
 | .bool,_,_,p=>p
 | .str,_,_,p=>p
 | .pair a b,_,x,⟨c1,c2,e,h1,h2⟩=>⟨c1,c2,e,cn.bJ h a c1 x.1 h1,cn.bJ h b c2 x.2 h2⟩
 | .st t,cs,x,p=>cn.bJ h t cs x p
 | .sl t,_,xs,⟨a,cap,e,U,p⟩=>⟨a,cap,e,U,λi J=>by
  obtain ⟨R,es,ea,I,o,r⟩:=p i J;exact ⟨R,es,ea,(h _ I).1,λj v T=>(kW (by rw [fy];exact (h _ I).2)).trans (o j v T),cn.bJ h t es _ r⟩⟩
 | .own t,_,xs,⟨a,cap,e,U,p⟩=>⟨a,cap,e,U,λi J=>by
  obtain ⟨R,es,ea,I,o,r⟩:=p i J;exact ⟨R,es,ea,(h _ I).1,λj v T=>(kW (by rw [fy];exact (h _ I).2)).trans (o j v T),cn.bJ h t es _ r⟩⟩
 | .bx t,_,xs,⟨R,e,p⟩=>⟨R,e,λi J=>by
  obtain ⟨es,I,o,r⟩:=p i J;exact ⟨es,(h _ I).1,λj v T=>(kW (by rw [fy];exact (h _ I).2)).trans (o j v T),cn.bJ h t es _ r⟩⟩
 | .cl f t,_,x,⟨vs,ps,e,p,hp⟩=>⟨vs,ps,e,cn.bJ h t vs x p,po.bJ h hp⟩
theorem cn.len {S:Nat->Prop}{w:Ε}: ∀(t:Ty) (cs:List π) (x:t.D),cn S w t cs x->cs.length=t.size
 | .int _,_,_,j=>by subst j;rfl
 | .dP _,_,_,⟨_,e,_⟩=>by subst e;rfl
 | .bool,_,_,j=>by subst j;rfl
 | .str,_,_,j=>by subst j;rfl
 | .pair a b,_,x,⟨p,r,e,I,J⟩=>by subst e;simp [Ty.size,cn.len a p x.1 I,cn.len b r x.2 J]
 | .st t,cs,x,j=>cn.len t cs x j
 | .sl t,_,o,⟨a,cap,e,_⟩=>by subst e;rfl
 | .own t,_,o,⟨a,cap,e,_⟩=>by subst e;rfl
 | .bx t,_,o,⟨R,e,_⟩=>by subst e;rfl
 | .cl f t,_,x,⟨_,_,e,_⟩=>by subst e;rfl
structure GM where
 f:Nat->List Nat->Option Nat
@[reducible] def GM.at (g:GM)(k:Nat):Option Nat:=g.f k []
instance:CoeFun GM (λ_=>Nat->Option Nat):=⟨GM.at⟩
def dH (m:Mem)(c:Nat)(t:Ty)(xs:List t.D):Prop:=lk c m=some (.seq t xs)\/ ∃i cs j,lk c m=some (.pg t xs i cs j)
theorem dH.toSeq {m:Mem}{c:Nat}{t p:Ty}{xs:List t.D}{o:List p.D}(h:lk c m=some (.seq t xs))(j:dH m c p o):Ide.lk c m=some (.seq p o):=by
 rcases j with j|⟨i,cs,r,j⟩
 exact j;rw [h] at j;cases j
def jb (gc:Option Nat)(w:Ε)(sz n:Nat)(v:π):Prop:=
 match gc with
 |none=> ∃a,v= .slice a 0 0
 |some b=> ∃cap arr,v= .slice (some ⟨b,0,none⟩) n cap/\n<=cap/\dA w b arr/\cap*sz<=arr.size/\cap<=maxLen
def Vu (gc:Option Nat)(w:Ε)(sz n off len:Nat)(v:π):Prop:=
 off+len<=n/\((len=0/\(off=0->gc=none)/\ ∃a,v= .slice a 0 0)\/ ∃b cap arr,gc=some b/\v= .slice (some ⟨b,off*sz,none⟩) len cap/\len<=cap/\dA w b arr/\(off+cap)*sz<=arr.size/\cap<=maxLen)
def CR (g:GM)(m:Mem)(S:Nat->Prop)(w:Ε):bI->π->Prop
 | .bG t x,v=>cn S w t [v] x
 | .ptr c off,v=>lk c m≠none/\ ∃b,g c=some b/\v= .pointer (some ⟨b,off,none⟩)
 | .dn c i R off,v=>lk c m≠none/\ ∃b,g c=some b/\v= .pointer (some ⟨b,i*R+off,none⟩)
 | .ip t x off,v=> ∃(I:ab6) (es:List π),v= .pointer (some (I.add off))/\S I.block/\(∀j u,es[j]? =some u->w.cell? (I.add j)=some u)/\cn S w t es x
 | .all c,v=>lk c m≠none/\v.oneCell'=true/\ ∀t r,dH m c t r->jb (g c) w t.size r.length v
 | .ref c off len,v=>lk c m≠none/\v.oneCell'=true/\ ∀t r,dH m c t r->Vu (g c) w t.size r.length off len v
 | .row c i o,v=>lk c m≠none/\v.oneCell'=true/\ ∀t r,lk c m=some (.seq t r)->i<r.length/\ ∀e T,ep t (r.getD i t.fm) o=some ⟨e,T⟩->jb (g.f c [i,o]) w e.size T.length v
 | .zf c i o j R off,v=>lk c m≠none/\ ∃b,v= .pointer (some ⟨b,j*R+off,none⟩)/\ ∀t r,lk c m=some (.seq t r)->i<r.length/\g.f c [i,o]=some b
 | .bH,v=> ∃a,v= .slice a 0 0
 | .fn f,v=>v= .func (.func f) #[] #[]
 | .ji f t x,v=> ∃(I:ab6) (es:List π),v= .func (.func f) #[] #[.pointer (some I)]/\S I.block/\(∀j u,es[j]? =some u->w.cell? (I.add j)=some u)/\cn S w t es x
 | .cls f ks,v=> ∃U:List π,v= .func (.func f) #[] U.toArray/\cc (λk p=>lk k m≠none/\ ∃b,g k=some b/\p= .pointer (some ⟨b,0,none⟩)) ks U
 | .zP f t x,v=> ∃(I J:ab6) (es:List π),v= .pointer (some J)/\S J.block/\w.cell? J=some (.func (.func f) #[] #[.pointer (some I)])/\S I.block/\(∀j u,es[j]? =some u->w.cell? (I.add j)=some u)/\cn S w t es x
 | .fP c,v=>lk c m≠none/\ ∃b,g c=some b/\v= .map (some b)
 | .dS,v=>v.oneCell'=true
 | .bad,_=>True
def CV (g:GM)(m:Mem)(S:Nat->Prop)(w:Ε)(o:Bool)(cs:List bI)(v:π):Prop:=
 match o,cs with
 |true,cs=> ∃j:List π,v= .agg j.toArray/\cc (CR g m S w) cs j
 |false,[c]=>CR g m S w c v
 |false,_=>False
def VR (g:GM)(m:Mem)(S:Nat->Prop)(w:Ε):bK->π->Prop
 | .one c,v=>CR g m S w c v
 | .agg cs,v=> ∃j:List π,v= .agg j.toArray/\cc (CR g m S w) cs j
 | .AA o,v=> ∃j:List π,v= .tuple j.toArray/\cc (λt v=>CV g m S w t.1 t.2 v) o j
 | .Ce,v=>v=undef
 | .dS,_=>True
def Cf (S:Nat->Prop)(w:Ε)(t:Ty)(xs:List t.D)(arr:Array π):Prop:=
 ∀i (h:i<xs.length),∃es,(∀j v,es[j]? =some v->arr[i*t.size+j]? =some v)/\cn S w t es xs[i]
def dw (S:Nat->Prop)(w:Ε):(t:Ty)->(List Nat->Option Nat)->Nat->List π->t.D->Prop
 | .own t,γ,o,cs,r=> ∃v,cs=[v]/\jb (γ [o]) w t.size (ζ r) v/\match γ [o] with
  |none=>ζ r=0
  |some b=> ∃arr,dA w b arr/\ ∀i (h:i<ζ r),∃es:List π,(∀j v,es[j]? =some v->arr[i*t.size+j]? =some v)/\dw S w t (λp=>γ (o::i::p)) 0 es r[i]
 | .pair a b,γ,o,cs,x=> ∃I J,cs=I++J/\dw S w a γ o I x.1/\dw S w b γ (o+a.size) J x.2
 | .st t,γ,o,cs,x=>dw S w t γ o cs x
 | .int k,_,_,cs,x=>cn S w (.int k) cs x
 | .dP k,_,_,cs,x=>cn S w (.dP k) cs x
 | .bool,_,_,cs,x=>cn S w .bool cs x
 | .str,_,_,cs,x=>cn S w .str cs x
 | .sl t,_,_,cs,x=>cn S w (.sl t) cs x
 | .bx t,_,_,cs,x=>cn S w (.bx t) cs x
 | .cl f t,_,_,cs,x=>cn S w (.cl f t) cs x
def eU (S:Nat->Prop)(w:Ε)(γ:List Nat->Option Nat)(t:Ty)(xs:List t.D)(arr:Array π):Prop:=
 ∀i (h:i<xs.length),∃es,(∀j v,es[j]? =some v->arr[i*t.size+j]? =some v)/\dw S w t (λp=>γ (i::p)) 0 es xs[i]
def Chunk.owns:Chunk->List Nat->Prop
 | .gone,_=>False
 | .pg t _ i _ _,p=> ∀o r,p=i::o::r->o ∉ cK t 0
 |_,_=>True
theorem Chunk.xd {ch:Chunk}(h:ch≠ .gone):ch.owns []:=by
 cases ch<;>first|exact absurd rfl h|trivial|(intro o r e;cases e)
theorem Chunk.pq {ch:Chunk}{p:List Nat}(h:ch.owns p):ch≠ .gone:=by
 rintro rfl;exact h
def ry (w:Ε)(t:Ty)(v:π)(x:t.D):Prop:=
 (t.sS=true/\ ∃cs:List π,v= .agg cs.toArray/\cn (λ_=>False) w t cs x)\/(t.sS=false/\cn (λ_=>False) w t [v] x)
theorem ry.bJ {w w':Ε}{t:Ty}{v:π}{x:t.D}(h:ry w t v x):ry w' t v x:=by
 rcases h with ⟨j,cs,r,o⟩|⟨j,o⟩
 exact .inl ⟨j,cs,r,cn.bJ (λb p=>p.elim) t cs x o⟩;exact .inr ⟨j,cn.bJ (λb p=>p.elim) t [v] x o⟩
def tV (gc:Option Nat)(w:Ε)(e:Ι)(v:π)(xs:List π):Prop:=
 match gc with
 |none=>v= .slice none 0 0/\xs=[]
 |some g=> ∃cap j,v= .slice (some ⟨g,0,none⟩) xs.length cap/\w.heap[g]? =some (.cells j e (0,0))/\xs.length<=cap/\cap<=maxLen/\j.size=cap/\j.toList.take xs.length=xs
theorem tV.bJ {gc:Option Nat}{w w':Ε}{e:Ι}{v:π}{xs:List π}(h:tV gc w e v xs)(o: ∀g,gc=some g->w'.heap[g]? =w.heap[g]?):tV gc w' e v xs:=by
 cases gc with
 |none=>exact h
 |some g=>
  obtain ⟨cap,j,p,r,t⟩:=h;exact ⟨cap,j,p,(o g rfl).trans r,t⟩
def lh (xs:List UInt8):List π:=xs.map λx=> .int .u8 x.toNat
def jk (g:GM)(m:Mem)(S:Nat->Prop)(w:Ε)(γ:List Nat->Option Nat):Chunk->Prop
 | .gone=>True
 | .mp t u r=> ∃b es I,γ []=some b/\w.heap[b]? =some (.map es I)/\cc (λ(x:t.D×u.D) (e:MapEntry)=>ry w t e.key x.1/\ry w u e.val x.2) r es.toList
 | .gh cs J=>(∀p,γ p=none)/\cc (CR g m S w) cs J
 | .pT T e r=>(∀p,p≠[]->p≠[0]->γ p=none)/\ ∃b p v,γ []=some b/\(p= .pointer none\/p= .pointer (some ⟨b,0,none⟩))/\w.heap[b]? =some (.cells #[p,v] T (0,0))/\tV (γ [0]) w e v (lh r)
 | .box cs=> ∃b arr,γ []=some b/\dA w b arr/\cc (CR g m S w) cs arr.toList
 | .seq t r=>match γ [] with
  |none=>r=[]
  |some b=> ∃arr,dA w b arr/\eU S w γ t r arr
 | .pg t r i cs R=>cc (λo k=>lk k m≠none/\g.f k=λp=>γ (i::o::p)) (cK t 0) R/\ ∃b arr,γ []=some b/\dA w b arr/\i<r.length/\
  (∀j (h:j<r.length),j≠i-> ∃es,(∀q v,es[q]? =some v->arr[j*t.size+q]? =some v)/\dw S w t (λp=>γ (j::p)) 0 es r[j])/\
  ∃es,es.length=t.size/\(∀q v,es[q]? =some v->arr[i*t.size+q]? =some v)/\cc (CR g m S w) cs es
structure Cx where
 P:Ο
 N:Nat
 w0:Ε
 S:Nat->Prop
 F:List Nat
 own:List (Nat×(List Nat->Option Nat))
 nd:Bool
def Cx.Ir (cx:Cx):Prop:= ∀b,b∈cx.F-> ∃p,p∈cx.own/\ ∃q,p.2 q=some b
structure bU (F:List Nat)(w w':Ε):Prop where
 os:w'.os=w.os
 tape:w'.tape=w.tape
 output:w'.output=w.output
 size:w.heap.size<=w'.heap.size
 block: ∀b,b<w.heap.size->b ∉ F->w'.heap[b]? =w.heap[b]?
 sz: ∀b arr,dA w b arr-> ∃eB,dA w' b eB/\eB.size=arr.size
theorem bU.refl (F:List Nat)(w:Ε):bU F w w:=⟨rfl,rfl,rfl,ς _,λ_ _ _=>rfl,λ_ arr h=>⟨arr,h,rfl⟩⟩
theorem bU.trans {F:List Nat}{a b c:Ε}(h:bU F a b)(k:bU F b c):bU F a c:=
 ⟨k.os.trans h.os,k.tape.trans h.tape,k.output.trans h.output,ϫ h.size k.size,λi p r=>(k.block i (ϕ p h.size) r).trans (h.block i p r),
  λb arr t=>let ⟨j,I,J⟩:=h.sz b arr t;let ⟨o,R,T⟩:=k.sz b j I;⟨o,R,T.trans J⟩⟩
def Live (g:GM)(m:Mem)(b:Nat):Prop:= ∃k p j,lk k m=some j/\j.owns p/\g.f k p=some b
def Cx.safe (cx:Cx)(g:GM)(m:Mem)(w:Ε)(b:Nat):Prop:=
 b<w.heap.size/\(b<cx.w0.heap.size->cx.S b)/\ ¬Live g m b
def R9 (cx:Cx):Prop:=Glob.ok cx.w0 cx.S/\ ∀b,cx.S b->b<cx.w0.heap.size/\b ∉ cx.F
def zg (cx:Cx)(g:GM)(m:Mem)(w:Ε)(j:List Deferred):Prop:=
 (cx.nd=true->j=[])/\ ∃Ds:List Nat,j=Ds.map (λD=>{target:= .collected D,args:= #[]})/\Ds.Nodup/\ ∀D∈Ds,w.heap[D]? =some (.deferred (some []))/\cx.w0.heap.size<=D/\ ¬Live g m D
theorem zg.nil {cx:Cx}{g:GM}{m:Mem}{w:Ε}:zg cx g m w []:=⟨λ_=>rfl,[],rfl,List.nodup_nil,λ_ h=>by simp at h⟩
theorem zg.bJ {cx:Cx}{g g':GM}{m m':Mem}{w w':Ε}{o:List Deferred}(h:zg cx g m w o)(p: ∀b,cx.safe g m w b->cx.safe g' m' w' b/\w'.heap[b]? =w.heap[b]?):zg cx g' m' w' o:=by
 obtain ⟨r,Ds,e,t,h⟩:=h;refine ⟨r,Ds,e,t,λD j=> ?_⟩;obtain ⟨j,I,J⟩:=h D j;obtain ⟨R,T⟩:=p D ⟨(ϝ.1 j).1,λU=>by omega,J⟩;exact ⟨T.trans j,I,R.2.2⟩
structure cT (cx:Cx)(g:GM)(st:St)(a:Act)(w:Ε):Prop where
 defers:zg cx g st.mem w a.defers
 size:a.tmps.size=cx.N
 fr: ∀t v,lk t st.fr=some v->VR g st.mem (cx.safe g st.mem w) w v (a.tmps.getD t undef)
 mem: ∀k ch,lk k st.mem=some ch->jk g st.mem (cx.safe g st.mem w) w (g.f k) ch
 fY: ∀k k' p p' ch pL b,lk k st.mem=some ch->ch.owns p->lk k' st.mem=some pL->pL.owns p'->g.f k p=some b->g.f k' p'=some b->k=k'/\p=p'
 iN: ∀k p ch b,lk k st.mem=some ch->ch.owns p->g.f k p=some b->cx.w0.heap.size<=b\/b∈cx.F
 lt: ∀k p ch b,lk k st.mem=some ch->ch.owns p->g.f k p=some b->b<w.heap.size
 bJ:bU cx.F cx.w0 w
 own: ∀p∈cx.own,g.f p.1=p.2/\lk p.1 st.mem≠none
 gl:R9 cx
theorem cT.Ls {cx:Cx}{g:GM}{st:St}{a:Act}{w:Ε}(h:cT cx g st a w):Glob.ok w (cx.safe g st.mem w):=
 Glob.mono (λb j=>by
  obtain ⟨o,r⟩:=h.gl.2 b j;refine ⟨⟨ϕ o h.bJ.size,λ_=>j,λ⟨k,p,I,q1,J,R⟩=> ?_⟩,h.bJ.block b o r⟩;rcases h.iN k p I b q1 J R with t|t
  omega;exact r t) h.gl.1
theorem cT.Lt {cx:Cx}{g:GM}{st:St}{a:Act}{w:Ε}(h:cT cx g st a w){k:Nat}{ch:Chunk}{b:Nat}(j:lk k st.mem=some ch)(o:ch≠ .gone)(p:g k=some b):b<w.heap.size:=
 h.lt k [] ch b j (Chunk.xd o) p
def cL (t:Ty)(xs j:List t.D):Prop:=
 xs.length=j.length/\ ∀i o e p,ep t (j.getD i t.fm) o=some ⟨e,p⟩-> ∃r,ep t (xs.getD i t.fm) o=some ⟨e,r⟩/\r.length=p.length
theorem cL.refl (t:Ty)(xs:List t.D):cL t xs xs:=⟨rfl,λ_ _ _ j h=>⟨j,h,rfl⟩⟩
structure Stays0 (g g':GM)(m m':Mem)(S S':Nat->Prop)(w w':Ε):Prop where
 safe: ∀b,S b->S' b/\w'.heap[b]? =w.heap[b]?
 od: ∀c,lk c m≠none->lk c m'≠none/\g' c=g c
 old: ∀c t xs,lk c m≠none->dH m' c t xs-> ∃iy,dH m c t iy/\iy.length=xs.length
 dA: ∀c t xs b arr,lk c m≠none->dH m' c t xs->g c=some b->Ide.dA w b arr-> ∃eB,Ide.dA w' b eB/\eB.size=arr.size
structure iO (g g':GM)(m m':Mem)(S S':Nat->Prop)(w w':Ε):Prop extends Stays0 g g' m m' S S' w w' where
 Cg: ∀c,lk c m≠none->g'.f c=g.f c
 rows: ∀c t iy,lk c m≠none->lk c m'=some (.seq t iy)-> ∃xs,lk c m=some (.seq t xs)/\cL t xs iy/\
  ∀i o b arr,g.f c [i,o]=some b->Ide.dA w b arr-> ∃eB,Ide.dA w' b eB/\eB.size=arr.size
def bI.NG:bI->Bool
 | .row _ _ _=>true
 | .zf _ _ _ _ _ _=>true
 |_=>false
theorem jb.stays {gc:Option Nat}{w w':Ε}{sz n:Nat}{v:π}(h:jb gc w sz n v)(p: ∀b arr,gc=some b->dA w b arr-> ∃j,dA w' b j/\j.size=arr.size):jb gc w' sz n v:=by
 unfold jb at h⊢;cases gc with
 |none=>exact h
 |some b=>
  obtain ⟨cap,arr,e,r,t,R,I⟩:=h;obtain ⟨j,o,J⟩:=p b arr rfl t;exact ⟨cap,j,e,r,o,by omega,I⟩
theorem CR.OF {g g':GM}{m m':Mem}{S S':Nat->Prop}{w w':Ε}(h:Stays0 g g' m m' S S' w w'){c:bI}{v:π}(hn:c.NG=false)(I:CR g m S w c v):CR g' m' S' w' c v:=by
 cases c with
 |bG t x=>exact cn.bJ h.safe t [v] x I
 |ptr c off=>obtain ⟨hp,b,R,e⟩:=I;exact ⟨(h.od c hp).1,b,(h.od c hp).2.trans R,e⟩
 |dn c i sz off=>obtain ⟨hp,b,R,e⟩:=I;exact ⟨(h.od c hp).1,b,(h.od c hp).2.trans R,e⟩
 |ip t x off=>
  obtain ⟨ad,es,e,T,r,J⟩:=I;exact ⟨ad,es,e,(h.safe _ T).1,λj u hu=>(kW (by rw [fy];exact (h.safe _ T).2)).trans (r j u hu),cn.bJ h.safe t es x J⟩
 |all c=>
  obtain ⟨hp,ho,I⟩:=I;refine ⟨(h.od c hp).1,ho,λt xs hl=> ?_⟩;obtain ⟨aa,ab,U⟩:=h.old c t xs hp hl;have hx:=I t aa ab;rw [(h.od c hp).2,<-U];exact hx.stays λb arr R hb=>h.dA c t xs b arr hp hl R hb
 |ref c off len=>
  obtain ⟨hp,ho,I⟩:=I;refine ⟨(h.od c hp).1,ho,λt xs hl=> ?_⟩;obtain ⟨aa,ab,U⟩:=h.old c t xs hp hl;obtain ⟨hle,hx⟩:=I t aa ab;refine ⟨by omega,?_⟩;rw [(h.od c hp).2];rcases hx with hx|⟨b,cap,arr,R,e,h1,h2,h3,h4⟩
  exact .inl hx;obtain ⟨eB,rj,ae⟩:=h.dA c t xs b arr hp hl R h2;exact .inr ⟨b,cap,eB,R,e,h1,rj,by omega,h4⟩
 |row c i o=>cases hn
 |zf c i o j sz off=>cases hn
 |bH=>exact I
 |fn f=>exact I
 |ji f t x=>
  obtain ⟨ad,es,e,T,r,J⟩:=I;exact ⟨ad,es,e,(h.safe _ T).1,λj u hu=>(kW (by rw [fy];exact (h.safe _ T).2)).trans (r j u hu),cn.bJ h.safe t es x J⟩
 |cls f ks=>
  obtain ⟨ps,e,I⟩:=I;exact ⟨ps,e,I.mono λk p ⟨hp,b,R,e⟩=>⟨(h.od k hp).1,b,(h.od k hp).2.trans R,e⟩⟩
 |zP f t x=>
  obtain ⟨ad,Lh,es,e,ae,Is,T,r,J⟩:=I;exact ⟨ad,Lh,es,e,(h.safe _ ae).1,(kW (h.safe _ ae).2).trans Is,(h.safe _ T).1,λj u hu=>(kW (by rw [fy];exact (h.safe _ T).2)).trans (r j u hu),cn.bJ h.safe t es x J⟩
 |fP c=>obtain ⟨hp,b,R,e⟩:=I;exact ⟨(h.od c hp).1,b,(h.od c hp).2.trans R,e⟩
 |dS=>exact I
 |bad=>trivial
theorem CR.stays {g g':GM}{m m':Mem}{S S':Nat->Prop}{w w':Ε}(h:iO g g' m m' S S' w w'){c:bI}{v:π}(p:CR g m S w c v):CR g' m' S' w' c v:=by
 cases hn:c.NG with
 |false=>exact CR.OF h.toStays0 hn p
 |true=>
  cases c with
  |row c i o=>
   obtain ⟨hp,ho,p⟩:=p;refine ⟨(h.od c hp).1,ho,λt r T=> ?_⟩;obtain ⟨U,I,⟨J,R⟩,hb⟩:=h.rows c t r hp T;obtain ⟨hi,hx⟩:=p t U I;refine ⟨by omega,λe aa hy=> ?_⟩;obtain ⟨ys,ab,ad⟩:=R i o e aa hy;have:=hx e ys ab;rw [h.Cg c hp,<-ad];exact this.stays λb arr e ae=>hb i o b arr e ae
  |zf c i o j sz off=>
   obtain ⟨hp,b,e,p⟩:=p;refine ⟨(h.od c hp).1,b,e,λt r T=> ?_⟩;obtain ⟨U,I,⟨J,R⟩,hb⟩:=h.rows c t r hp T;obtain ⟨hi,hg⟩:=p t U I;exact ⟨by omega,by rw [h.Cg c hp];exact hg⟩
  |_=>cases hn
theorem VR.stays {g g':GM}{m m':Mem}{S S':Nat->Prop}{w w':Ε}(h:iO g g' m m' S S' w w'): ∀{c:bK} {v:π},VR g m S w c v->VR g' m' S' w' c v
 | .one _,_,j=>CR.stays h j
 | .agg _,_,⟨p,e,j⟩=>⟨p,e,j.mono λ_ _=>CR.stays h⟩
 | .AA _,_,⟨p,e,j⟩=>⟨p,e,j.mono λt v o=>by
  unfold CV at o⊢;split at o;obtain ⟨r,I,J⟩:=o;exact ⟨r,I,J.mono λ_ _=>CR.stays h⟩;exact CR.stays h o;exact o.elim⟩
 | .Ce,_,h=>h
 | .dS,_,_=>trivial
theorem dw.bJ {S S':Nat->Prop}{w w':Ε}(h: ∀b,S b->S' b/\w'.heap[b]? =w.heap[b]?): ∀(t:Ty) {γ:List Nat->Option Nat} {o:Nat} {cs:List π} {x:t.D},(∀p b,γ p=some b->w'.heap[b]? =w.heap[b]?)->dw S w t γ o cs x->dw S' w' t γ o cs x
 | .own t,γ,o,cs,xs,r,⟨v,e,U,j⟩=>by
  refine ⟨v,e,U.stays λb arr I J=>⟨arr,J.bJ (r _ b I),rfl⟩,?_⟩;cases I:γ [o] with
  |none=>rw [I] at j;exact j
  |some b=>
   rw [I] at j;obtain ⟨arr,J,hi⟩:=j;exact ⟨arr,J.bJ (r _ b I),λi hl=>let ⟨es,R,T⟩:=hi i hl;⟨es,R,dw.bJ h t (λp b hp=>r _ b hp) T⟩⟩
 | .pair a b,γ,o,cs,x,r,⟨c1,c2,e,R,T⟩=>⟨c1,c2,e,dw.bJ h a r R,dw.bJ h b r T⟩
 | .st t,γ,o,cs,x,r,j=>dw.bJ h t (o:=o) (cs:=cs) (x:=x) r j
 | .int k,_,_,cs,x,_,j=>cn.bJ h (.int k) cs x j
 | .dP k,_,_,cs,x,_,j=>cn.bJ h (.dP k) cs x j
 | .bool,_,_,cs,x,_,j=>cn.bJ h .bool cs x j
 | .str,_,_,cs,x,_,j=>cn.bJ h .str cs x j
 | .sl t,_,_,cs,x,_,j=>cn.bJ h (.sl t) cs x j
 | .bx t,_,_,cs,x,_,j=>cn.bJ h (.bx t) cs x j
 | .cl f t,_,_,cs,x,_,j=>cn.bJ h (.cl f t) cs x j
theorem dw.data {S S':Nat->Prop}{w:Ε}(h: ∀b,S b->S' b): ∀(t:Ty) {γ:List Nat->Option Nat} {o:Nat} {cs:List π} {x:t.D},(∀p b,γ p=some b->S' b)->dw S w t γ o cs x->cn S' w t cs x
 | .own t,γ,o,cs,xs,I,⟨v,e,R,r⟩=>by
  subst e;cases T:γ [o] with
  |none=>
   rw [T] at r R;obtain ⟨a,R⟩:=R;subst R;have h0:ζ xs=0:=r;exact ⟨a,0,by rw [h0],by omega,λi hi=>by omega⟩
  |some b=>
   rw [T] at r R;obtain ⟨cap,qw,e,U,_⟩:=R;subst e;obtain ⟨arr,J,hi⟩:=r;refine ⟨_,cap,rfl,U,λi hl=> ?_⟩;obtain ⟨es,h2,h3⟩:=hi i hl;refine ⟨⟨b,0,none⟩,es,rfl,I _ b T,λj v hv=> ?_,dw.data h t (λp b hp=>I _ b hp) h3⟩;rw [cw,J.cell,Ψ];exact h2 j v hv
 | .pair a b,γ,o,cs,x,I,⟨c1,c2,e,U,h2⟩=>⟨c1,c2,e,dw.data h a I U,dw.data h b I h2⟩
 | .st t,γ,o,cs,x,I,r=>dw.data h t (o:=o) (cs:=cs) (x:=x) I r
 | .int k,_,_,cs,x,_,r=>cn.bJ (λb J=>⟨h b J,rfl⟩) (.int k) cs x r
 | .dP k,_,_,cs,x,_,r=>cn.bJ (λb J=>⟨h b J,rfl⟩) (.dP k) cs x r
 | .bool,_,_,cs,x,_,r=>cn.bJ (λb J=>⟨h b J,rfl⟩) .bool cs x r
 | .str,_,_,cs,x,_,r=>cn.bJ (λb J=>⟨h b J,rfl⟩) .str cs x r
 | .sl t,_,_,cs,x,_,r=>cn.bJ (λb J=>⟨h b J,rfl⟩) (.sl t) cs x r
 | .bx t,_,_,cs,x,_,r=>cn.bJ (λb J=>⟨h b J,rfl⟩) (.bx t) cs x r
 | .cl f t,_,_,cs,x,_,r=>cn.bJ (λb J=>⟨h b J,rfl⟩) (.cl f t) cs x r
def Ty.top:Ty->Bool
 | .own _=>false
 | .pair a b=>a.top&&b.top
 | .st t=>t.top
 | .sl t=>t.j3
 | .bx t=>t.j3
 |_=>true
theorem dw.rA {S:Nat->Prop}{w:Ε}: ∀(t:Ty) {γ:List Nat->Option Nat} {o:Nat} {cs:List π} {x:t.D},t.top=true->cn S w t cs x->dw S w t γ o cs x
 | .own t,_,_,_,_,ht,_=>by cases ht
 | .pair a b,γ,o,cs,x,ht,⟨p,r,e,I,J⟩=>by
  simp only [Ty.top,κ] at ht;exact ⟨p,r,e,dw.rA a ht.1 I,dw.rA b ht.2 J⟩
 | .st t,γ,o,cs,x,ht,j=>dw.rA t (o:=o) (cs:=cs) (x:=x) ht j
 | .int k,_,_,cs,x,_,j=>j
 | .dP k,_,_,cs,x,_,j=>j
 | .bool,_,_,cs,x,_,j=>j
 | .str,_,_,cs,x,_,j=>j
 | .sl t,_,_,cs,x,_,j=>j
 | .bx t,_,_,cs,x,_,j=>j
 | .cl f t,_,_,cs,x,_,j=>j
theorem dw.rep {S:Nat->Prop}{w:Ε}: ∀(t:Ty) {γ:List Nat->Option Nat} {o:Nat} {cs:List π} {x:t.D},t.top=true->dw S w t γ o cs x->cn S w t cs x
 | .own t,_,_,_,_,ht,_=>by cases ht
 | .pair a b,γ,o,cs,x,ht,⟨p,r,e,I,J⟩=>by
  simp only [Ty.top,κ] at ht;exact ⟨p,r,e,dw.rep a ht.1 I,dw.rep b ht.2 J⟩
 | .st t,γ,o,cs,x,ht,j=>dw.rep t (o:=o) (cs:=cs) (x:=x) ht j
 | .int k,_,_,cs,x,_,j=>j
 | .dP k,_,_,cs,x,_,j=>j
 | .bool,_,_,cs,x,_,j=>j
 | .str,_,_,cs,x,_,j=>j
 | .sl t,_,_,cs,x,_,j=>j
 | .bx t,_,_,cs,x,_,j=>j
 | .cl f t,_,_,cs,x,_,j=>j
theorem dw.len {S:Nat->Prop}{w:Ε}: ∀(t:Ty) {γ:List Nat->Option Nat} {o:Nat} {cs:List π} {x:t.D},dw S w t γ o cs x->cs.length=t.size
 | .own t,_,_,_,_,⟨v,e,_⟩=>by subst e;rfl
 | .pair a b,γ,o,cs,x,⟨I,J,e,p,r⟩=>by subst e;simp [Ty.size,dw.len a p,dw.len b r]
 | .st t,γ,o,cs,x,j=>dw.len t (o:=o) (cs:=cs) (x:=x) j
 | .int k,_,_,cs,x,j=>cn.len (.int k) cs x j
 | .dP k,_,_,cs,x,j=>cn.len (.dP k) cs x j
 | .bool,_,_,cs,x,j=>cn.len .bool cs x j
 | .str,_,_,cs,x,j=>cn.len .str cs x j
 | .sl t,_,_,cs,x,j=>cn.len (.sl t) cs x j
 | .bx t,_,_,cs,x,j=>cn.len (.bx t) cs x j
 | .cl f t,_,_,cs,x,j=>cn.len (.cl f t) cs x j
theorem eU.bJ {S S':Nat->Prop}{w w':Ε}(h: ∀b,S b->S' b/\w'.heap[b]? =w.heap[b]?){γ:List Nat->Option Nat}(j: ∀p b,γ p=some b->w'.heap[b]? =w.heap[b]?){t:Ty}{xs:List t.D}{arr:Array π}(o:eU S w γ t xs arr):eU S' w' γ t xs arr:=
 λi r=>let ⟨es,I,J⟩:=o i r;⟨es,I,dw.bJ h t (λ_ b hp=>j _ b hp) J⟩
theorem eU.data {S S':Nat->Prop}{w:Ε}(h: ∀b,S b->S' b){γ:List Nat->Option Nat}(j: ∀p b,γ p=some b->S' b){t:Ty}{xs:List t.D}{arr:Array π}(o:eU S w γ t xs arr):Cf S' w t xs arr:=
 λi r=>let ⟨es,I,J⟩:=o i r;⟨es,I,dw.data h t (λ_ b hp=>j _ b hp) J⟩
theorem eU.lr {S:Nat->Prop}{w:Ε}{γ:List Nat->Option Nat}{t:Ty}{xs:List t.D}{arr:Array π}(ht:t.top=true)(j:Cf S w t xs arr):eU S w γ t xs arr:=
 λi o=>let ⟨es,p,r⟩:=j i o;⟨es,p,dw.rA t ht r⟩
theorem eU.FX {S:Nat->Prop}{w:Ε}{γ:List Nat->Option Nat}{t:Ty}{xs:List t.D}{arr:Array π}(ht:t.top=true)(j:eU S w γ t xs arr):Cf S w t xs arr:=
 λi o=>let ⟨es,p,r⟩:=j i o;⟨es,p,dw.rep t ht r⟩
end Go.Ide
namespace Go.Ide
inductive Mode where
 |bZ (t:Ty)
 |fZ (t:Ty)
 |own (t:Ty)
 |mv (t:Ty)
 |fn
 |ji (t:Ty)
 |nl
inductive Arg where
 |bZ (t:Ty) (x:t.D)
 |fZ (t:Ty) (x:t.D)
 |own (t:Ty) (x:t.D)
 |mv (t:Ty) (x:t.D)
 |fn (f:aaF)
 |ji (f:aaF) (t:Ty) (x:t.D)
 |nl
structure TD where
 t:Ty
 x:t.D
structure RV where
 fresh:Bool
 t:Ty
 x:t.D
inductive Hint where
 |no
 |tv (b:Bool)
 |ty (t:Ty)
 |Io (t:Ty)
 |pg
 |call (ms:List Mode) (rs:List RV) (outs:List TD)
def Ty.flat:Ty->Bool
 | .sl _=>false
 | .own _=>false
 | .bx _=>false
 | .cl _ _=>false
 | .pair a b=>a.flat&&b.flat
 | .st t=>t.flat
 |_=>true
def Ty.jl:Ty->Bool
 | .sl _=>false
 | .bx _=>false
 | .cl _ _=>false
 | .own t=>t.jl
 | .pair a b=>a.jl&&b.jl
 | .st t=>t.jl
 |_=>true
def Ty.kX:Ty->Bool
 | .sl t=>t.jl
 | .own t=>t.jl
 | .bx t=>t.jl
 | .cl _ _=>false
 | .pair a b=>a.kX&&b.kX
 | .st t=>t.kX
 |_=>true
def RV.tW (r:RV):Bool:=if r.fresh then r.t.kX else r.t.flat
def dU (m:Mem):(t:Ty)->List bI->Option (List Nat×List bI)
 | .pair a b,cs=>match dU m a cs with
  |some (x,r)=>(match dU m b r with
   |some (y,j)=>some (x++y,j)
   |none=>none)
  |none=>none
 | .st t,cs=>dU m t cs
 | .sl t,cs=>match cs with
  | .all c::r=>(match lk c m with
   |some (.seq e _)=>if e=t then some ([c],r) else none
   |_=>none)
  | .bH::r=>some ([],r)
  |_=>none
 | .own t,cs=>match cs with
  | .all c::r=>(match lk c m with
   |some (.seq e _)=>if e=t then some ([c],r) else none
   |_=>none)
  | .bH::r=>some ([],r)
  |_=>none
 | .bx t,cs=>match cs with
  | .dn c i o off::r=>(match lk c m with
   |some (.seq e _)=>if e=t then some ([c],r) else none
   |_=>none)
  |_=>none
 |_,cs=>match cs with
  | .bG _ _::r=>some ([],r)
  |_=>none
def lu:(t:Ty)->List bI->Option (List Nat×List bI)
 | .pair a b,cs=>match lu a cs with
  |some (x,r)=>(match lu b r with
   |some (y,j)=>some (x++y,j)
   |none=>none)
  |none=>none
 | .st t,cs=>lu t cs
 | .sl _,cs=>match cs with
  | .all c::r=>some ([c],r)
  | .bH::r=>some ([],r)
  |_=>none
 | .own _,cs=>match cs with
  | .all c::r=>some ([c],r)
  | .bH::r=>some ([],r)
  |_=>none
 | .bx _,cs=>match cs with
  | .dn c i o off::r=>some ([c],r)
  |_=>none
 |_,cs=>match cs with
  | .bG _ _::r=>some ([],r)
  |_=>none
structure cO where
 val:bK
 new:Mem
 lq:Mem
 cond:List Prop
def cp:List Prop->Prop
 |[]=>True
 |p::r=>p/\cp r
theorem cp.append: ∀{a b:List Prop},cp (a++b)->cp a/\cp b
 |[],_,h=>⟨trivial,h⟩
 |_::_,_,h=>⟨⟨h.1,(cp.append h.2).1⟩,(cp.append h.2).2⟩
def cM (v:bK):Option cO:=some ⟨v,[],[],[]⟩
def fQ (v:bK)(cs:List Prop):Option cO:=some ⟨v,[],[],cs⟩
def Sa:π->bI
 | .int k n=> .bG (.int k) n
 | .bool b=> .bG .bool b
 | .float k b=> .bG (.dP k) (di k b)
 | .string s=> .bG .str s.data.toList
 | .slice none 0 0=> .bH
 | .agg _=> .bad
 | .tuple _=> .bad
 |_=> .dS
def oe:π->bK
 | .agg cs=> .agg (cs.toList.map Sa)
 | .tuple _=> .dS
 |v=> .one (Sa v)
def ev (fr:Fr):Operand->Option bK
 | .tmp t=>lk t fr
 | .const v=>some (oe v)
 | .func f=>some (.one (.fn f))
 | .global _=>none
def xf (P:Ο)(T:Ι):Option Bool:=
 match P.underlying T with
 |some (.struct _)=>some true
 |some (.array _ _)=>some true
 |some _=>some false
 |none=>none
def dm (P:Ο)(T:Ι):Option Nat:=(P.info? T).map (·.size)
def NH (j:Bool)(cs:List bI):Option bK:=
 match j,cs with
 |true,cs=>some (.agg cs)
 |false,[c]=>some (.one c)
 |_,_=>none
def og (m:Mem)(n:Nat):bI->Option (List bI×List Prop)
 | .ptr c off=>match lk c m with
  |some (.box cs)=>bif ϩ (off+n) cs.length then some ((cs.drop off).take n,[]) else none
  |_=>none
 | .dn c i j off=>none
 | .ip t x off=>bif ϩ (off+n) (gT t x).length then some (((gT t x).drop off).take n,[]) else none
 |_=>none
def pU (P:Ο)(m:Mem)(T:Ι)(v:bK):Option cO:=
 match v,dm P T,xf P T with
 | .one (.dn c i J off),some n,some p=>(match lk c m with
  |some (.seq t I)=>bif ϩ (off+n) t.size&&Β J t.size then
   (match NH p (((zR c i t 0 (I.getD i t.fm)).drop off).take n) with
   |some r=>fQ r [i<I.length]
   |none=>none) else none
  |some (.pg t I j cs _)=>bif ϩ (off+n) t.size&&Β J t.size then
   (match NH p ((cs.drop off).take n) with
   |some r=>fQ r [i=j]
   |none=>none) else none
  |_=>none)
 | .one (.zf c i o j J off),some n,some p=>(match lk c m with
  |some (.seq t I)=>(match ep t (I.getD i t.fm) o with
   |some ⟨e,R⟩=>bif (ϩ (off+n) e.size&&Β J e.size)&&e.top then
    (match NH p (((gT e (R.getD j e.fm)).drop off).take n) with
    |some r=>fQ r [j<R.length]
    |none=>none) else none
   |none=>none)
  |_=>none)
 | .one c,some n,some p=>(match og m n c with
  |some (cs,_)=>(match NH p cs with
   |some r=>cM r
   |none=>none)
  |none=>none)
 |_,_,_=>none
def bI.It:bI->Bool
 | .bG (.own _) _=>false
 |_=>true
def qx (P:Ο)(m:Mem)(T:Ι)(a v:bK):Option cO:=
 match a,dm P T with
 | .one (.ptr c off),some n=>(match lk c m with
  |some (.box cs)=>bif (Β v.cells.length n&&ϩ (off+n) cs.length)&&v.ok then some ⟨.dS,[],[(c,.box (cs.take off++v.cells++cs.drop (off+n)))],[]⟩ else none
  |_=>none)
 | .one (.dn c i r off),some n=>(match lk c m with
  |some (.seq t p)=>bif (Β v.cells.length n&&ϩ (off+n) t.size)&&(Β r t.size&&v.ok)&&v.cells.all bI.It then
   (match impl [] t ((gT t (p.getD i t.fm)).take off++v.cells++(gT t (p.getD i t.fm)).drop (off+n)) with
   |some (x,[])=>some ⟨.dS,[],[(c,.seq t (p.set i x))],[i<p.length]⟩
   |_=>none) else none
  |some (.pg t p j cs J)=>bif (Β v.cells.length n&&ϩ (off+n) t.size)&&(Β r t.size&&v.ok) then
   some ⟨.dS,[],[(c,.pg t p j (cs.take off++v.cells++cs.drop (off+n)) J)],[i=j]⟩ else none
  |_=>none)
 | .one (.zf c i o j r off),some n=>(match lk c m with
  |some (.seq t p)=>(match ep t (p.getD i t.fm) o with
   |some ⟨e,I⟩=>bif (Β v.cells.length n&&ϩ (off+n) e.size)&&(Β r e.size&&v.ok)&&e.top then
    (match impl [] e ((gT e (I.getD j e.fm)).take off++v.cells++(gT e (I.getD j e.fm)).drop (off+n)) with
    |some (y,[])=>some ⟨.dS,[],[(c,.seq t (p.set i (vb t (p.getD i t.fm) o e (I.set j y))))],[j<I.length]⟩
    |_=>none) else none
   |none=>none)
  |_=>none)
 |_,_=>none
def kJ (P:Ο)(m:Mem)(T:Ι)(x i:bK):Option cO:=
 match P.underlying T,i with
 |some (.slice e),.one (.bG (.int _) n)=>(match x,dm P e with
  | .one (.bG (.sl t) j),some k=>bif Β k t.size then fQ (.one (.ip t (j.getD (δ n) t.fm) 0)) [(0:Int)<=n/\n<((ζ j:Nat):Int)] else none
  | .one (.all c),some k=>(match lk c m with
   |some (.seq t j)=>bif Β k t.size then fQ (.one (.dn c (δ n) k 0)) [(0:Int)<=n/\n<((ζ j:Nat):Int)] else none
   |some (.pg t j _ _ _)=>bif Β k t.size then fQ (.one (.dn c (δ n) k 0)) [(0:Int)<=n/\n<((ζ j:Nat):Int)] else none
   |_=>none)
  | .one (.row c i o),some k=>(match lk c m with
   |some (.seq t j)=>(match ep t (j.getD i t.fm) o with
    |some ⟨e,p⟩=>bif Β k e.size then fQ (.one (.zf c i o (δ n) k 0)) [(0:Int)<=n/\n<((ζ p:Nat):Int)] else none
    |none=>none)
   |_=>none)
  | .one (.ref c off len),some k=>(match lk c m with
   |some (.seq t _)=>bif Β k t.size then fQ (.one (.dn c (off+δ n) k 0)) [(0:Int)<=n/\n<(len:Int)] else none
   |_=>none)
  |_,_=>none)
 |_,_=>none
def tX (P:Ο)(T:Ι)(x i:bK):Option cO:=
 match P.underlying T,x,i with
 |some (.array len e),.one (.dn c k j 0),.one (.bG (.int _) n)=>(match dm P e with
  |some z=>bif Β (z/j*j) z then fQ (.one (.dn c (k+z/j*δ n) j 0)) [(0:Int)<=n/\n<(len:Int)] else none
  |none=>none)
 |some (.array len e),.one (.ptr c o),.one (.bG (.int _) n)=>(match dm P e with
  |some z=>fQ (.one (.ptr c (o+δ n*z))) [(0:Int)<=n/\n<(len:Int)]
  |none=>none)
 |some (.array len e),.one (.ip t y o),.one (.bG (.int _) n)=>(match dm P e with
  |some z=>fQ (.one (.ip t y (o+δ n*z))) [(0:Int)<=n/\n<(len:Int)]
  |none=>none)
 |_,_,_=>none
def jA (P:Ο)(m:Mem)(T:Ι)(x i:bK):Option cO:=
 match tX P T x i with
 |some e=>some e
 |none=>kJ P m T x i
def qy (P:Ο)(T:Ι)(x:bK)(f:Nat):Option cO:=
 match P.underlying T with
 |some (.struct I)=>(match I[f]? with
  |some p=>(match x,dm P p.type with
   | .one (.ptr c off),some (_+1)=>cM (.one (.ptr c (off+p.offset)))
   | .one (.ip t y off),some (_+1)=>cM (.one (.ip t y (off+p.offset)))
   | .one (.dn c i r off),some (_+1)=>cM (.one (.dn c i r (off+p.offset)))
   | .one (.zf c i o j r off),some (_+1)=>cM (.one (.zf c i o j r (off+p.offset)))
   |_,_=>none)
  |none=>none)
 |_=>none
def tk (m:Mem):bK->Option cO
 | .one (.bG (.sl _) j)=>cM (.one (.bG (.int .i64) ((ζ j:Nat):Int)))
 | .one (.bG .str j)=>cM (.one (.bG (.int .i64) ((ζ j:Nat):Int)))
 | .one (.all c)=>match lk c m with
  |some (.seq _ j)=>cM (.one (.bG (.int .i64) ((ζ j:Nat):Int)))
  |some (.pg _ j _ _ _)=>cM (.one (.bG (.int .i64) ((ζ j:Nat):Int)))
  |_=>none
 | .one (.row c i o)=>match lk c m with
  |some (.seq t j)=>(match ep t (j.getD i t.fm) o with
   |some ⟨_,p⟩=>cM (.one (.bG (.int .i64) ((ζ p:Nat):Int)))
   |none=>none)
  |_=>none
 | .one (.ref c _ len)=>match lk c m with
  |some (.seq _ _)=>cM (.one (.bG (.int .i64) ((len:Nat):Int)))
  |_=>none
 | .one .bH=>cM (.one (.bG (.int .i64) (0:Int)))
 |_=>none
def oh (m:Mem)(t:Ty):bK->Option (List t.D×List (Nat×Chunk))
 | .one .bH=>some ([],[])
 | .one (.all c)=>match lk c m with
  |some (.seq j o)=>if h:j=t then some (cR (congrArg Ty.sl h) o,[(c,.gone)]) else none
  |_=>none
 | .one (.ref c 0 len)=>match lk c m with
  |some (.seq j o)=>if h:j=t then some (cR (congrArg Ty.sl h) (o.take len),[(c,.gone)]) else none
  |_=>none
 |_=>none
def bD:Nat:=4294967296
def nX (m:Mem):bK->Bool
 | .one (.all c)=>(match lk c m with
  |some (.seq t _)=>t.top
  |_=>false)
 | .one (.row _ _ _)=>false
 |_=>true
def sb (P:Ο)(m:Mem)(nx:Nat)(T T':Ι)(t:Ty)(s x:bK):Option cO:=
 match P.underlying T with
 |some (.slice e)=>(match P.info? e with
  |some i=>bif ((Β T T'&&Β i.size t.size)&&(ϩ i.bytes 32768&&i.zero.isSome)&&(i.zero.map λz=>Β z.cells.size t.size).getD false)&&(t.top&&nX m x) then
   (match oh m t s,kf m (.sl t) x with
   |some (j,up),some o=>some ⟨.one (.all nx),[(nx,.seq t (j++o))],up,[ζ j+ζ o<=bD]⟩
   |_,_=>none) else none
  |none=>none)
 |_=>none
def D5 (P:Ο)(nx:Nat)(T:Ι):Option cO:=
 match P.info? T with
 |some i=>(match i.zero with
  |some z=>bif (oe z).ok then some ⟨.one (.ptr nx 0),[(nx,.box (oe z).cells)],[],[]⟩ else none
  |none=>none)
 |none=>none
def Lu (nx:Nat)(v:bK):Option cO:=
 match v with
 | .one c=>bif c.ok then some ⟨.one (.ptr nx 0),[(nx,.box [c])],[],[]⟩ else none
 | .agg cs=>bif cs.all bI.ok then some ⟨.one (.ptr nx 0),[(nx,.box cs)],[],[]⟩ else none
 |_=>none
def xg (place:Nat->Option (Nat×Nat))(cells:List bI):List (Nat×bK)->Option (List bI)
 |[]=>some cells
 |(i,v)::j=>match place i with
  |none=>none
  |some (off,size)=>bif (Β v.cells.length size&&ϩ (off+v.cells.length) cells.length)&&v.ok then
   xg place (cells.take off++v.cells++cells.drop (off+v.cells.length)) j else none
def zc (fr:Fr):List (Nat×Operand)->Option (List (Nat×bK))
 |[]=>some []
 |(i,x)::r=>match ev fr x,zc fr r with
  |some v,some l=>some ((i,v)::l)
  |_,_=>none
def sd (P:Ο):List Field->Option (List (Nat×Nat))
 |[]=>some []
 |f::r=>match dm P f.type,sd P r with
  |some n,some l=>some ((f.offset,n)::l)
  |_,_=>none
def D6 (P:Ο)(T:Ι)(parts:List (Nat×bK)):Option cO:=
 match P.info? T,P.underlying T with
 |some i,some (.struct o)=>(match i.zero,sd P o.toList with
  |some z,some p=>bif (oe z).ok then (match xg (λj=>p[j]?) (oe z).cells parts with
   |some cs=>cM (.agg cs)
   |none=>none) else none
  |_,_=>none)
 |some i,some (.array _ e)=>(match i.zero,dm P e with
  |some z,some n=>bif (oe z).ok then (match xg (λj=>some (j*n,n)) (oe z).cells parts with
   |some cs=>cM (.agg cs)
   |none=>none) else none
  |_,_=>none)
 |_,_=>none
def vd (t:Ty):Nat->List (Nat×bK)->Option (List t.D)
 |_,[]=>some []
 |i,(j,v)::r=>bif Β i j then (match kf [] t v,vd t (i+1) r with
  |some x,some l=>some (x::l)
  |_,_=>none) else none
def j7:List Nat->Bool
 |[]=>true
 |k::r=>(r.all λq=> !Β k q)&&j7 r
def rB (P:Ο)(nx:Nat)(T:Ι)(t:Ty)(len:Nat)(parts:List (Nat×bK)):Option cO:=
 match P.underlying T with
 |some (.slice e)=>bif ((dm P e==some t.size&&(((P.info? e).bind (·.zero)).map λz=>Β z.cells.size t.size)==some true)&&(Β parts.length len&&ϩ (len*t.size) 65536))&&t.top then
  (match vd t 0 parts with
  |some j=>some ⟨.one (.all nx),[(nx,.seq t j)],[],[]⟩
  |none=>none) else none
 |_=>none
def D7 (P:Ο)(T:Ι)(len:Nat)(parts:List (Nat×bK)):Option cO:=
 match P.underlying T with
 |some (.slice e)=>bif ((dm P e).isSome&&Β len 0)&&parts.isEmpty then cM (.one .bH) else none
 |_=>none
def tY (P:Ο)(T:Ι)(t:Ty):Option t.D:=
 match P.info? T with
 |some i=>(match i.zero with
  |some z=>if t.top then kf [] t (oe z) else if (oe z).ok then (match mr [] t (oe z).cells with
   |some ((x,[]),[])=>some x
   |_=>none) else none
  |none=>none)
 |none=>none
def tl (P:Ο)(nx:Nat)(T:Ι)(t:Ty)(len cap:bK):Option cO:=
 match P.underlying T,len,cap with
 |some (.slice e),.one (.bG (.int _) n),.one (.bG (.int _) c)=>(match P.info? e,tY P e t with
  |some i,some z=>bif Β i.size t.size&&ϩ i.bytes 32768 then
   some ⟨.one (.all nx),[(nx,.seq t (List.replicate (δ n) z))],[],[(0:Int)<=n/\n<=c/\(c:Int)<=4294967296]⟩ else none
  |_,_=>none)
 |_,_,_=>none
def NI:Option bK->Option Int
 |none=>some 0
 |some (.one (.bG (.int _) n))=>some n
 |_=>none
def OG (len:Nat):Option bK->Option Int
 |none=>some (len:Int)
 |some (.one (.bG (.int _) n))=>some n
 |_=>none
def cut {α:Type}(xs:List α)(j o:Int):List α:=(xs.drop j.toNat).take (o.toNat - j.toNat)
def tn (P:Ο)(m:Mem)(T:Ι)(x:bK)(o p:Option bK):Option cO:=
 match P.underlying T,x with
 |some .string,.one (.bG .str j)=>(match NI o,OG (ζ j) p with
  |some l,some h=>fQ (.one (.bG .str (cut j l h))) [(0:Int)<=l/\l<=h/\h<=((ζ j:Nat):Int)]
  |_,_=>none)
 |some (.slice e),.one .bH=>(match NI o,OG 0 p with
  |some l,some h=>bif (dm P e).isSome then fQ (.one .bH) [(0:Int)<=l/\l<=h/\h<=0] else none
  |_,_=>none)
 |some (.slice e),.one (.bG (.sl t) j)=>(match NI o,OG (ζ j) p with
  |some l,some h=>bif dm P e==some t.size then fQ (.one (.bG (.sl t) (cut j l h))) [(0:Int)<=l/\l<=h/\h<=((ζ j:Nat):Int)] else none
  |_,_=>none)
 |some (.slice e),.one (.all c)=>(match lk c m with
  |some (.seq t j)=>(match NI o,OG (ζ j) p with
   |some l,some h=>bif dm P e==some t.size then fQ (.one (.ref c l.toNat (h.toNat - l.toNat))) [(0:Int)<=l/\l<=h/\h<=((ζ j:Nat):Int)] else none
   |_,_=>none)
  |_=>none)
 |some (.slice e),.one (.ref c off len)=>(match lk c m with
  |some (.seq t _)=>(match NI o,OG len p with
   |some l,some h=>bif dm P e==some t.size then fQ (.one (.ref c (off+l.toNat) (h.toNat - l.toNat))) [(0:Int)<=l/\l<=h/\h<=(len:Int)] else none
   |_,_=>none)
  |_=>none)
 |_,_=>none
def NJ (op:acQ)(k:aaK)(x y:Int):Option Int:=
 match op with
 | .and=>some (k.wrap (Ϙ k.bits x&&& Ϙ k.bits y).toNat)
 | .or=>some (k.wrap (Ϙ k.bits x|||Ϙ k.bits y).toNat)
 | .xor=>some (k.wrap (Ϙ k.bits x^^^Ϙ k.bits y).toNat)
 | .andNot=>some (k.wrap (Ϙ k.bits x&&& ~~~(Ϙ k.bits y)).toNat)
 |_=>none
def Lv (op:acQ)(k:aaK)(x y:Int):Option cO:=
 match op with
 | .add=>cM (.one (.bG (.int k) (k.wrap (x+y))))
 | .sub=>cM (.one (.bG (.int k) (k.wrap (x - y))))
 | .mul=>cM (.one (.bG (.int k) (k.wrap (x*y))))
 | .quo=>fQ (.one (.bG (.int k) (k.wrap (x.tdiv y)))) [y≠0]
 | .rem=>fQ (.one (.bG (.int k) (x.tmod y))) [y≠0]
 | .eql=>cM (.one (.bG .bool (x==y)))
 | .neq=>cM (.one (.bG .bool (x != y)))
 | .lss=>cM (.one (.bG .bool (decide (x<y))))
 | .leq=>cM (.one (.bG .bool (decide (x<=y))))
 | .gtr=>cM (.one (.bG .bool (decide (x>y))))
 | .geq=>cM (.one (.bG .bool (decide (x>=y))))
 |op=>match NJ op k x y with
  |some r=>cM (.one (.bG (.int k) r))
  |none=>none
def D8 (op:acQ)(k:aaK)(x y:Int):Option cO:=
 match op with
 | .shl=>fQ (.one (.bG (.int k) (k.wrap (x*2^(min y.toNat k.bits))))) [(0:Int)<=y]
 | .shr=>fQ (.one (.bG (.int k) (x.fdiv (2^(min y.toNat k.bits))))) [(0:Int)<=y]
 |_=>none
def OI (op:acQ)(x y:List UInt8):Option cO:=
 match op with
 | .eql=>cM (.one (.bG .bool (x==y)))
 | .neq=>cM (.one (.bG .bool (x != y)))
 | .add=>fQ (.one (.bG .str (x++y))) [x.length+y.length<=bD]
 | .lss=>cM (.one (.bG .bool (ah0 x y)))
 |_=>none
def wP:acQ->Bool
 | .shl=>true
 | .shr=>true
 |_=>false
def Hb (P:Ο)(T:Ι)(op:acQ)(x y:bK):Option cO:=
 match x,y with
 | .one (.bG (.int k) a),.one (.bG (.int j) b)=>if wP op then D8 op k a b else if k=j then Lv op k a b else none
 | .one (.bG .str a),.one (.bG .str b)=>OI op a b
 | .one (.bG .bool a),.one (.bG .bool b)=>(match op,P.underlying T with
  | .eql,some .bool=>cM (.one (.bG .bool (a==b)))
  | .neq,some .bool=>cM (.one (.bG .bool (a != b)))
  |_,_=>none)
 |_,_=>none
def UG (op:UnOp)(x:bK):Option cO:=
 match op,x with
 | .not,.one (.bG .bool b)=>cM (.one (.bG .bool (!b)))
 | .neg,.one (.bG (.int k) n)=>cM (.one (.bG (.int k) (k.wrap (0 - n))))
 |_,_=>none
def xh (P:Ο)(T U:Ι)(x:bK):Option cO:=
 match P.underlying T,P.underlying U,x with
 |some (.int _),some (.int k),.one (.bG (.int _) n)=>cM (.one (.bG (.int k) (k.wrap n)))
 |some .string,some .string,.one (.bG .str s)=>cM (.one (.bG .str s))
 |_,_,_=>none
def tZ (x:bK)(i:Nat):Option cO:=
 match x with
 | .AA j=>(match j[i]? with
  |some (o,cs)=>(match NH o cs with
   |some v=>cM v
   |none=>none)
  |none=>none)
 |_=>none
def OJ (x y:bK):Option cO:=
 match x,y with
 | .one (.bG (.int k) a),.one (.bG (.int j) b)=>if k=j then cM (.one (.bG (.int k) (if b<a then b else a))) else none
 |_,_=>none
def OL (x y:bK):Option cO:=
 match x,y with
 | .one (.bG (.int k) a),.one (.bG (.int j) b)=>if k=j then cM (.one (.bG (.int k) (if b>a then b else a))) else none
 |_,_=>none
end Go.Ide
namespace Go.Ide
theorem bO {α:Type}(k k':Nat)(v:α)(l:List (Nat×α)):lk k ((k',v)::l)=if k=k' then some v else lk k l:=by
 simp only [lk];by_cases h:k=k';subst h;simp;have:Β k k'=false:=by rw [<-Bool.not_eq_true];intro e;exact h (aby e)
 rw [if_neg h,this];rfl
theorem fR {α:Type}(k:Nat):lk k ([]:List (Nat×α))=none:=rfl
theorem cF {α:Type}(k:Nat)(l j:List (Nat×α)):lk k (l++j)=(lk k l).or (lk k j):=by
 induction l with
 |nil=>simp [fR]
 |cons p l ih=>
  obtain ⟨o,v⟩:=p;rw [List.cons_append,bO,bO,ih];split<;>simp
def St.put (st:St)(d:Option Tmp)(v:bK):St:=
 match d with
 |some t=>{st with fr:=(t,v)::st.fr}
 |none=>st
def St.jc (st:St)(m:Mem)(nx:Nat):St:=⟨st.fr,m,nx⟩
section
variable {cx:Cx} {g g':GM} {st:St} {a:Act} {w w':Ε}
theorem cT.put (h:cT cx g st a w){v:bK}{val:π}(r:VR g st.mem (cx.safe g st.mem w) w v val)(d:Option Tmp)(I: ∀t,d=some t->t<cx.N):
 cT cx g (st.put d v) (a.put d val) w:=by
 cases d with
 |none=>exact h
 |some t=>
  have ht:t<a.tmps.size:=by rw [h.size];exact I t rfl
  refine ⟨h.defers,by simp [Act.put,h.size],λp J j=> ?_,h.mem,h.fY,h.iN,h.lt,h.bJ,h.own,h.gl⟩;simp only [St.put] at j;rw [bO] at j;simp only [Act.put,ϐ,Array.getElem?_setIfInBounds];by_cases o:p=t;subst o;rw [if_pos rfl] at j;injection j with j;subst j;simpa [ht,St.put] using r;rw [if_neg o] at j;rw [if_neg (λe=>o e.symm)];have:=h.fr p J j;simpa [ϐ,St.put] using this
def Chunk.xi (ch:Chunk)(t:Ty)(xs:List t.D):Prop:=ch= .seq t xs\/ ∃i cs j,ch= .pg t xs i cs j
theorem dH.of {m:Mem}{c:Nat}{ch:Chunk}{t:Ty}{xs:List t.D}(h:lk c m=some ch):dH m c t xs↔ch.xi t xs:=by
 unfold dH Chunk.xi;rw [h];simp
structure wA (cx:Cx)(g g':GM)(m m':Mem)(w w':Ε)(G:List Nat):Prop where
 bJ:bU G w w'
 live: ∀b,b∈G->Live g m b
 addr: ∀k,lk k m≠none->g'.f k=g.f k
 old: ∀k ch,lk k m=some ch->
  (lk k m'=some ch/\(∀p b,ch.owns p->g.f k p=some b->b ∉ G))\/
  (lk k m'=some .gone)\/
  (ch≠ .gone/\(∃pL,lk k m'=some pL/\pL≠ .gone/\(∀p,pL.owns p->ch.owns p)/\(∀t xs,pL.xi t xs-> ∃iy,ch.xi t iy/\iy.length=xs.length)/\
   (∀t iy,pL= .seq t iy-> ∃xs,ch= .seq t xs/\cL t xs iy)/\
   (∀p b arr,ch.owns p->g.f k p=some b->dA w b arr-> ∃eB,dA w' b eB/\eB.size=arr.size)/\
   jk g' m' (cx.safe g' m' w') w' (g'.f k) pL))
 new: ∀k ch,lk k m=none->lk k m'=some ch->jk g' m' (cx.safe g' m' w') w' (g'.f k) ch/\
  (∀p b,ch.owns p->g'.f k p=some b->(w.heap.size<=b\/b∈G)/\b<w'.heap.size/\ ∀k' p' pL,lk k' m'=some pL->pL.owns p'->g'.f k' p'=some b->k'=k/\p'=p)
theorem wA.xj {G:List Nat}{m m':Mem}(t:wA cx g g' m m' w w' G){k:Nat}{ch j:Chunk}(h:lk k m=some ch)(o:lk k m'=some j){p:List Nat}(r:j.owns p):ch.owns p:=by
 rcases t.old k _ h with ⟨e,_⟩|e|⟨J,R,e,_,I,_⟩
 rw [o] at e;injection e with e;subst e;exact r
 rw [o] at e;injection e with e;subst e;exact r.elim
 rw [o] at e;injection e with e;subst e;exact I p r
theorem wA.stays {G:List Nat}{m m':Mem}(t:wA cx g g' m m' w w' G):
 iO g g' m m' (cx.safe g m w) (cx.safe g' m' w') w w':=by
 refine ⟨⟨λb hs=> ?_,λc U=>⟨?_,congrFun (t.addr c U) []⟩,λc ty xs U I=> ?_,λc ty xs b arr U I R J=> ?_⟩,t.addr,λc ty T U I=> ?_⟩;obtain ⟨h1,h2,h3⟩:=hs;have hG:b ∉ G:=λJ=>h3 (t.live b J);refine ⟨⟨ϕ h1 t.bJ.size,h2,?_⟩,t.bJ.block b h1 hG⟩;rintro ⟨k,p,ch,hk,hn,R⟩;cases j:lk k m with
 |none=>
  rcases ((t.new k ch j hk).2 p b hn R).1 with hx|hx
  omega;exact hG hx
 |some c0=>
  exact h3 ⟨k,p,c0,j,t.xj j hk hn,by rw [<-t.addr k (by rw [j];simp)];exact R⟩
 cases j:lk c m with
 |none=>exact absurd j U
 |some c0=>
  rcases t.old c _ j with ⟨e,_⟩|e|⟨_,c',e,_⟩<;>rw [e]<;>simp
 cases j:lk c m with
 |none=>exact absurd j U
 |some c0=>
  rcases t.old c _ j with ⟨e,_⟩|e|⟨_,c',e,_,_,h3,_⟩
  exact ⟨xs,(dH.of j).2 ((dH.of e).1 I),rfl⟩;have:=(dH.of e).1 I;rcases this with h|⟨_,_,_,h⟩<;>cases h
  obtain ⟨T,e',hlen⟩:=h3 ty xs ((dH.of e).1 I);exact ⟨T,(dH.of j).2 e',hlen⟩
 cases j:lk c m with
 |none=>exact absurd j U
 |some c0=>
  rcases t.old c _ j with ⟨e,hk⟩|e|⟨hn,c',e,_,_,_,_,h4,_⟩
  have hs:=(dH.of e).1 I;exact ⟨arr,J.bJ (t.bJ.block b J.lt (hk [] b (by rcases hs with rfl|⟨i,cs,ks,rfl⟩<;>first|trivial|(intro o r e;cases e)) R)),rfl⟩;have:=(dH.of e).1 I;rcases this with h|⟨_,_,_,h⟩<;>cases h
  exact h4 [] b arr (Chunk.xd hn) R J
 cases j:lk c m with
 |none=>exact absurd j U
 |some c0=>
  rcases t.old c _ j with ⟨e,hk⟩|e|⟨_,c',e,_,_,_,h5,h4,_⟩
  rw [I] at e;injection e with e;subst e
  exact ⟨T,rfl,cL.refl _ _,λi o b arr R J=>⟨arr,J.bJ (t.bJ.block b J.lt (hk [i,o] b trivial R)),rfl⟩⟩;rw [I] at e;cases e;rw [I] at e;injection e with e;subst e
  obtain ⟨xs,rfl,hs⟩:=h5 ty T rfl;exact ⟨xs,rfl,hs,λi o b arr R J=>h4 [i,o] b arr trivial R J⟩
theorem jk.stays {m m':Mem}{S S':Nat->Prop}(h:iO g g' m m' S S' w w'){γ:List Nat->Option Nat}{ch:Chunk}(R: ∀p b,ch.owns p->γ p=some b->w'.heap[b]? =w.heap[b]?)(I:jk g m S w γ ch):jk g' m' S' w' γ ch:=by
 cases ch with
 |gone=>trivial
 |box cs=>
  obtain ⟨b,arr,e,J,hc⟩:=I;exact ⟨b,arr,e,J.bJ (R [] b trivial e),hc.mono λ_ _=>CR.stays h⟩
 |mp t u xs=>
  obtain ⟨b,es,ck,e,hw,hc⟩:=I;exact ⟨b,es,ck,e,(R [] b trivial e).trans hw,hc.mono λ_ _ ⟨k1,k2⟩=>⟨k1.bJ,k2.bJ⟩⟩
 |gh cs vs=>exact ⟨I.1,I.2.mono λ_ _=>CR.stays h⟩
 |pT T e xs=>exact ⟨I.1,let ⟨b,p,v,h1,h2,h3,h4⟩:=I.2;⟨b,p,v,h1,h2,(R [] b trivial h1).trans h3,h4.bJ λg hg=>R [0] g trivial hg⟩⟩
 |seq t xs=>
  cases U:γ [] with
  |none=>simp only [jk,U] at I⊢;exact I
  |some b=>
   simp only [jk,U] at I⊢;obtain ⟨arr,J,he⟩:=I;exact ⟨arr,J.bJ (R [] b trivial U),he.bJ h.safe λp b hp=>R p b trivial hp⟩
 |pg t xs i cs ks=>
  obtain ⟨FY,b,arr,e,J,hi,hj,es,h1,h2,h3⟩:=I;refine ⟨FY.mono λo k hk=>⟨(h.od k hk.1).1,(h.Cg k hk.1).trans hk.2⟩,b,arr,e,J.bJ (R [] b (by intro o r e;cases e) e),hi,λj hl aa=> ?_,es,h1,h2,h3.mono λ_ _=>CR.stays h⟩;obtain ⟨es,k1,k2⟩:=hj j hl aa;exact ⟨es,k1,dw.bJ h.safe t (λp b hp=>R (j::p) b (by intro o r e;injection e with e;exact absurd e aa) hp) k2⟩
theorem cT.ua {G:List Nat}{m':Mem}{nx':Nat}(h:cT cx g st a w)(t:wA cx g g' st.mem m' w w' G):
 cT cx g' (st.jc m' nx') a w':=by
 have hs:=t.stays;refine ⟨h.defers.bJ hs.safe,h.size,λt' v hl=>VR.stays hs (h.fr t' v hl),λk r o=> ?_,?_,λk p r b o I J=> ?_,λk p r b o I J=> ?_,?_,λp hp=>⟨(t.addr p.1 (h.own p hp).2).trans (h.own p hp).1,(hs.od p.1 (h.own p hp).2).1⟩,h.gl⟩;change lk k m'=some r at o;cases j:lk k st.mem with
 |none=>exact (t.new k r j o).1
 |some c0=>
  have NK:=t.addr k (by rw [j];simp);rcases t.old k _ j with ⟨e,hb⟩|e|⟨_,c',e,_,_,_,_,_,h5⟩
  rw [o] at e;injection e with e;subst e
  rw [NK];refine jk.stays hs (λp b I J=> ?_) (h.mem k r j);exact t.bJ.block b (h.lt k p r b j I J) (hb p b I J);rw [o] at e;injection e with e;subst e;trivial
  rw [o] at e;injection e with e;subst e;exact h5
 intro k k' p p' r U b o I R aa J ab;change lk k m'=some r at o;change lk k' m'=some U at R;cases j:lk k st.mem with
 |none=>
  have:=((t.new k r j o).2 p b I J).2.2 k' p' U R aa ab;exact ⟨this.1.symm,this.2.symm⟩
 |some c0=>
  cases T:lk k' st.mem with
  |none=>exact ((t.new k' U T R).2 p' b aa ab).2.2 k p r o I J
  |some ZV=>
   refine h.fY k k' p p' c0 ZV b j (t.xj j o I) T (t.xj T R aa) ?_ ?_;rw [<-t.addr k (by rw [j];simp)];exact J;rw [<-t.addr k' (by rw [T];simp)];exact ab
 change lk k m'=some r at o;cases j:lk k st.mem with
 |none=>
  rcases ((t.new k r j o).2 p b I J).1 with hx|hx
  exact .inl (ϫ h.bJ.size hx);obtain ⟨k2,p2,c2,h2,ad,ae⟩:=t.live b hx;exact h.iN k2 p2 c2 b h2 ad ae
 |some c0=>
  exact h.iN k p c0 b j (t.xj j o I) (by rw [<-t.addr k (by rw [j];simp)];exact J)
 change lk k m'=some r at o;cases j:lk k st.mem with
 |none=>exact ((t.new k r j o).2 p b I J).2.1
 |some c0=>exact ϕ (h.lt k p c0 b j (t.xj j o I) (by rw [<-t.addr k (by rw [j];simp)];exact J)) t.bJ.size
 refine ⟨t.bJ.os.trans h.bJ.os,t.bJ.tape.trans h.bJ.tape,t.bJ.output.trans h.bJ.output,ϫ h.bJ.size t.bJ.size,λb hb hf=> ?_,
  λb arr hb=>let ⟨arr1,h1,e1⟩:=h.bJ.sz b arr hb;let ⟨D9,h2,e2⟩:=t.bJ.sz b arr1 h1;⟨D9,h2,e2.trans e1⟩⟩
 rw [t.bJ.block b (ϕ hb h.bJ.size) ?_];exact h.bJ.block b hb hf;intro hG;obtain ⟨k2,p2,c2,h2,ad,ae⟩:=t.live b hG;rcases h.iN k2 p2 c2 b h2 ad ae with hx|hx
 omega;exact hf hx
theorem bU.alloc (G:List Nat)(w:Ε)(o:Obj):bU G w (w.alloc o):=
 ⟨rfl,rfl,rfl,by simp,λb j _=>aar w o b j,λb arr j=>⟨arr,j.bJ (aar w o b j.lt),rfl⟩⟩
theorem bU.drew (G:List Nat)(w:Ε):bU G w w.drew:=⟨rfl,rfl,rfl,ς _,λ_ _ _=>rfl,λ_ arr j=>⟨arr,j,rfl⟩⟩
def fw (m l:Mem):Prop:= ∀p∈l,lk p.1 m=none
def pW (b:Option Nat):List Nat->Option Nat:=λp=>if p=[] then b else none
def GM.set (g:GM)(k:Nat)(γ:List Nat->Option Nat):GM:=⟨λq=>if q=k then γ else g.f q⟩
theorem GM.xk (g:GM)(k:Nat)(γ:List Nat->Option Nat):(g.set k γ).f k=γ:=if_pos rfl
theorem GM.Ea (g:GM){k q:Nat}(γ:List Nat->Option Nat)(h:q≠k):(g.set k γ).f q=g.f q:=if_neg h
theorem cT.OM {ch:Chunk}(h:cT cx g st a w)(ub:lk st.nx st.mem=none)(hk:bU [] w w')(hlt:w.heap.size<w'.heap.size)(hc: ∀g':GM,(∀k,lk k st.mem≠none->g'.f k=g.f k)->g'.f st.nx=pW (some w.heap.size)-> ∀S',(∀b,cx.safe g st.mem w b->S' b)->jk g' ((st.nx,ch)::st.mem) S' w' (pW (some w.heap.size)) ch):
 ∃g':GM,(g'.f st.nx=pW (some w.heap.size))/\cT cx g' (st.jc ((st.nx,ch)::st.mem) (st.nx+1)) a w'/\iO g g' st.mem ((st.nx,ch)::st.mem) (cx.safe g st.mem w) (cx.safe g' ((st.nx,ch)::st.mem) w') w w':=by
 have r: ∀k,lk k st.mem≠none->(g.set st.nx (pW (some w.heap.size))).f k=g.f k:=λk iH=>GM.Ea _ _ (λe=>iH (by rw [e];exact ub));have j:=GM.xk g st.nx (pW (some w.heap.size));revert r j;generalize g.set st.nx (pW (some w.heap.size))=g';intro r j;have h1: ∀p b,pW (some w.heap.size) p=some b->p=[]/\b=w.heap.size:=by
  intro p b hp;unfold pW at hp;split at hp;injection hp with hp;exact ⟨by assumption,hp.symm⟩;cases hp
 have T: ∀b,cx.safe g st.mem w b->cx.safe g' ((st.nx,ch)::st.mem) w' b:=by
  intro b ⟨h2,h3,h4⟩;refine ⟨ϕ h2 hk.size,h3,?_⟩;rintro ⟨k,p,c,J,hn,U⟩;rw [bO] at J;by_cases e:k=st.nx;subst e;rw [j] at U;have:=(h1 p b U).2;omega;rw [if_neg e] at J;exact h4 ⟨k,p,c,J,hn,by rw [<-r k (by rw [J];simp)];exact U⟩
 have t:wA cx g g' st.mem ((st.nx,ch)::st.mem) w w' []:=by
  refine ⟨hk,(λb hb=>by simp at hb),r,λk c0 ho=> ?_,λk c0 ho o=> ?_⟩;left;rw [bO,if_neg (λe=>by rw [e,ub] at ho;cases ho)];exact ⟨ho,λ_ _ _ _=>by simp⟩;rw [bO] at o;by_cases e:k=st.nx;subst e;rw [if_pos rfl] at o;injection o with o;subst o;refine ⟨by rw [j];exact hc g' r j _ T,λp b hn U=> ?_⟩;rw [j] at U;obtain ⟨rfl,rfl⟩:=h1 p b U;refine ⟨.inl (ς _),hlt,λk' p' pL R Iu I=> ?_⟩;rw [bO] at R;by_cases e:k'=st.nx;subst e;rw [j] at I;exact ⟨rfl,(h1 p' _ I).1⟩;rw [if_neg e] at R;have:=h.lt k' p' pL _ R Iu (by rw [<-r k' (by rw [R];simp)];exact I);omega;rw [if_neg e] at o;rw [o] at ho;cases ho
 exact ⟨g',j,h.ua t,t.stays⟩
theorem cT.new {ch:Chunk}{arr:Array π}(h:cT cx g st a w)(j:lk st.nx st.mem=none)(o:bU [] w w')(p:dA w' w.heap.size arr)(r: ∀g':GM,(∀k,lk k st.mem≠none->g'.f k=g.f k)->g'.f st.nx=pW (some w.heap.size)-> ∀S',(∀b,cx.safe g st.mem w b->S' b)->jk g' ((st.nx,ch)::st.mem) S' w' (pW (some w.heap.size)) ch):
 ∃g':GM,(g'.f st.nx=pW (some w.heap.size))/\cT cx g' (st.jc ((st.nx,ch)::st.mem) (st.nx+1)) a w'/\iO g g' st.mem ((st.nx,ch)::st.mem) (cx.safe g st.mem w) (cx.safe g' ((st.nx,ch)::st.mem) w') w w':=
 h.OM j o p.lt r
end
end Go.Ide
namespace Go.Ide
section
variable {g:GM} {m m0:Mem} {S S2:Nat->Prop} {w:Ε}
def iz (g:GM)(m m0:Mem)(S2:Nat->Prop)(w:Ε):Prop:=
 ∀k t j,lk k m0=some (.seq t j)->lk k m=some (.seq t j)/\
  (∀p b,g.f k p=some b->S2 b)/\(match g k with|none=>j=[]|some b=> ∃arr,dA w b arr/\eU S2 w (g.f k) t j arr)
theorem iz.nil:iz g m [] S2 w:=λk t j h=>by simp [fR] at h
theorem cn.of_slice {t:Ty}{xs:List t.D}{b o cap:Nat}{arr:Array π}(r:S2 b)(I:dA w b arr)(J:xs.length<=cap)(h: ∀i (p:i<xs.length),∃es:List π,(∀j v,es[j]? =some v->arr[o+(i*t.size+j)]? =some v)/\cn S2 w t es xs[i]):
 cn S2 w (.sl t) [.slice (some ⟨b,o,none⟩) xs.length cap] xs:=by
 refine ⟨some ⟨b,o,none⟩,cap,rfl,J,λi p=> ?_⟩;obtain ⟨es,R,T⟩:=h i p;refine ⟨⟨b,o,none⟩,es,rfl,r,λj v U=> ?_,T⟩;rw [cw,I.cell];exact R j v U
theorem xl {A B:Type}(h:A=B)(j:List A=List B)(xs:List A):zQ j xs=xs.map (zQ h):=by
 subst h;show xs=agH (λx=>x) xs;simp
theorem Eb {A B C D:Type}(h:A=B)(j:C=D)(hp:(A×C)=(B×D))(x:A×C):zQ hp x=(zQ h x.1,zQ j x.2):=by
 subst h;subst j;rfl
theorem FZ {t:Ty}(ih: ∀(cs:List π) (x:t.D),cn S w t cs x->cn S w t.er cs (B9 x)){cs:List π}{xs:List t.D}(h:cn S w (.sl t) cs xs)(p:t.er.size=t.size):cn S w (.sl t.er) cs (B9 (t:= .sl t) xs):=by
 obtain ⟨a,cap,e,r,I⟩:=h;have J:(B9 (t:= .sl t) xs:List t.er.D)=agH B9 xs:=xl t.xc.symm _ xs;show cn S w (.sl t.er) cs (B9 (t:= .sl t) xs:List t.er.D);rw [J];refine ⟨a,cap,by rw [Ϝ];exact e,by rw [Ϝ];exact r,λi o=> ?_⟩;have j:i<ζ xs:=by rw [Ϝ] at o;exact o
 obtain ⟨R,es,T,U,k3,k4⟩:=I i j;refine ⟨R,es,T,U,by rw [p];exact k3,?_⟩;rw [aes];exact ih es _ k4
theorem Lw {t:Ty}(ih: ∀(cs:List π) (x:t.D),cn S w t cs x->cn S w t.er cs (B9 x)){cs:List π}{xs:List t.D}(h:cn S w (.bx t) cs xs)(p:t.er.size=t.size):cn S w (.bx t.er) cs (B9 (t:= .bx t) xs):=by
 obtain ⟨a,e,r⟩:=h;have I:(B9 (t:= .bx t) xs:List t.er.D)=agH B9 xs:=xl t.xc.symm _ xs;show cn S w (.bx t.er) cs (B9 (t:= .bx t) xs:List t.er.D);rw [I];refine ⟨a,e,λi o=> ?_⟩;have j:i<ζ xs:=by rw [Ϝ] at o;exact o
 obtain ⟨es,J,R,T⟩:=r i j;refine ⟨es,J,by rw [p];exact R,?_⟩;rw [aes];exact ih es _ T
theorem se:(t:Ty)->t.er.size=t.size
 | .own _=>rfl
 | .sl _=>rfl
 | .bx _=>rfl
 | .cl _ _=>rfl
 | .pair a b=>by simp only [Ty.er,Ty.size,se a,se b]
 | .st t=>se t
 | .int _=>rfl
 | .dP _=>rfl
 | .bool=>rfl
 | .str=>rfl
theorem qz: ∀(t:Ty) (cs:List π) (x:t.D),cn S w t cs x->cn S w t.er cs (B9 x)
 | .own t,cs,j,h=>FZ (t:=t) (λcs x=>qz t cs x) h (se t)
 | .sl t,cs,j,h=>FZ (t:=t) (λcs x=>qz t cs x) h (se t)
 | .bx t,cs,j,h=>Lw (t:=t) (λcs x=>qz t cs x) h (se t)
 | .cl f t,cs,x,h=>h
 | .pair a b,cs,x,⟨o,p,e,r,I⟩=>by
  have J:B9 (t:= .pair a b) x=(B9 x.1,B9 x.2):=Eb a.xc.symm b.xc.symm _ x;rw [J];exact ⟨o,p,e,qz a o _ r,qz b p _ I⟩
 | .st t,cs,x,h=>qz t cs x h
 | .int k,cs,x,h=>h
 | .dP k,cs,x,h=>h
 | .bool,cs,x,h=>h
 | .str,cs,x,h=>h
theorem xn: ∀(t:Ty) {x:t.D} {o:Nat} {r:Σ e:Ty,List e.D},ep t x o=some r->o<t.size
 | .own t,x,o,r,h=>by
  cases o with
  |zero=>exact Nat.zero_lt_one
  |succ o=>cases h
 | .pair a b,x,o,r,h=>by
  unfold ep at h;cases j:aaf o a.size with
  |true=>
   have:o<a.size:=ϑ j;simp only [Ty.size];omega
  |false=>
   rw [j] at h;have:=xn b h;have I: ¬o<a.size:=by
    intro p;have:aaf o a.size=true:=afk p;rw [j] at this;cases this
   simp only [Ty.size];omega
 | .st t,x,o,r,h=>xn t (x:=x) h
 | .int _,_,_,_,h=>by cases h
 | .dP _,_,_,_,h=>by cases h
 | .bool,_,_,_,h=>by cases h
 | .str,_,_,_,h=>by cases h
 | .sl _,_,_,_,h=>by cases h
 | .bx _,_,_,_,h=>by cases h
 | .cl _ _,_,_,_,h=>by cases h
theorem oi {a b:Nat}:aaf a b=true↔a<b:=by
 constructor;intro h;exact ϑ h;intro h;exact afk h
theorem kY {a b:Nat}(h: ¬a<b):aaf a b=false:=by
 cases j:aaf a b with
 |true=>exact absurd (oi.1 j) h
 |false=>rfl
theorem dw.slot: ∀(t:Ty) {γ:List Nat->Option Nat} {p o:Nat} {cs:List π} {x:t.D} {e:Ty} {ys:List e.D},dw S w t γ p cs x->ep t x o=some ⟨e,ys⟩->
 ∃u,cs[o]? =some u/\dw S w (.own e) γ (p+o) [u] ys
 | .own t,γ,p,o,cs,xs,e,ys,h,j=>by
  cases o with
  |zero=>
   have j:some (⟨t,xs⟩:Σ e:Ty,List e.D)=some ⟨e,ys⟩:=j;injection j with j;injection j with r I;subst r;have I:=eq_of_heq I;subst I;obtain ⟨v,e,h3⟩:=h;subst e;exact ⟨v,rfl,v,rfl,h3⟩
  |succ o=>cases j
 | .pair a b,γ,p,o,cs,x,e,ys,⟨c1,c2,U,r,I⟩,j=>by
  unfold ep at j;by_cases J:o<a.size;rw [oi.2 J] at j;obtain ⟨u,R,T⟩:=dw.slot a r j;refine ⟨u,?_,T⟩;subst U;rw [Ν (by rw [dw.len a r];exact J)];exact R;rw [kY J] at j;obtain ⟨u,R,T⟩:=dw.slot b I j;refine ⟨u,?_,?_⟩;subst U;rw [Κ (by rw [dw.len a r];omega),dw.len a r];exact R;rw [show p+o=p+a.size+(o - a.size) from by omega];exact T
 | .st t,γ,p,o,cs,x,e,ys,h,j=>dw.slot t (cs:=cs) (x:=x) h j
 | .int _,_,_,_,_,_,_,_,_,j=>by cases j
 | .dP _,_,_,_,_,_,_,_,_,j=>by cases j
 | .bool,_,_,_,_,_,_,_,_,j=>by cases j
 | .str,_,_,_,_,_,_,_,_,j=>by cases j
 | .sl _,_,_,_,_,_,_,_,_,j=>by cases j
 | .bx _,_,_,_,_,_,_,_,_,j=>by cases j
 | .cl _ _,_,_,_,_,_,_,_,_,j=>by cases j
theorem Lx {t:Ty}{γ:List Nat->Option Nat}{o:Nat}{u v:π}{xs:List t.D}(j: ∀p b,γ p=some b->S2 b)(r:dw S2 w (.own t) γ o [u] xs)(I:jb (γ [o]) w t.size xs.length v):cn S2 w (.sl t) [v] xs:=
 dw.data (λ_ h=>h) (.own t) j ⟨v,rfl,I,r.choose_spec.2.2⟩
theorem rC (hS: ∀b,S b->S2 b)(hm:iz g m m0 S2 w){t:Ty}{c:bI}{x:t.D}{v:π}(h:dT m0 t c=some x)(hr:CR g m S w c v):cn S2 w t [v] x:=by
 cases c with
 |bG t' y=>
  simp only [dT] at h;split at h;rename_i e;subst e;injection h with h;subst h;exact cn.bJ (λb hb=>⟨hS b hb,rfl⟩) t' [v] y hr;cases h
 |all c=>
  simp only [dT] at h;split at h;rename_i e;split at h;rename_i R xs hl;obtain ⟨T,r,I⟩:=hm c R xs hl;have hx:=hr.2.2 R xs (.inl T);have key:cn S2 w (.sl R) [v] xs:=by
   unfold jb at hx;cases U:g c with
   |none=>
    rw [U] at hx I;obtain ⟨a,ha⟩:=hx;subst ha;have hn:xs=[]:=I;subst hn;exact ⟨a,0,rfl,ς _,λi J=>by simp at J⟩
   |some b=>
    rw [U] at hx I;obtain ⟨cap,arr,e1,h1,h2,h3,h4⟩:=hx;obtain ⟨eB,rj,Sb⟩:=I;subst e1;refine cn.of_slice (xs:=xs) (r [] b U) rj h1 λi J=> ?_;obtain ⟨es,k1,k2⟩:=Sb.data (λ_ h=>h) r i J;exact ⟨es,λj v hv=>by rw [Ψ];exact k1 j v hv,k2⟩
  split at h;rename_i he;subst he;injection h with h;subst h;exact key;split at h;rename_i he;subst he;injection h with h;subst h;exact qz (.sl R) [v] xs key;cases h;cases h;cases h
 |row c i o=>
  simp only [dT] at h;split at h;rename_i e;split at h;rename_i e1 xs hl;split at h;rename_i R ys hs;split at h;rename_i he;subst he;injection h with h;subst h;obtain ⟨T,r,I⟩:=hm c e1 xs hl;obtain ⟨J,hx⟩:=hr.2.2 e1 xs T;have hx:=hx R ys hs;cases U:g c with
  |none=>rw [U] at I;have hn:xs=[]:=I;subst hn;simp at J
  |some b=>
   rw [U] at I;obtain ⟨arr,hb,he⟩:=I;obtain ⟨es,_,k2⟩:=he i J;have hd:xs.getD i e1.fm=xs[i]:=by simp [ε,J]
   rw [hd] at hs;obtain ⟨u,_,k3⟩:=dw.slot e1 k2 hs;rw [Ψ] at k3;exact Lx (λp b hp=>r _ b hp) k3 hx
  cases h;cases h;cases h;cases h
 |zf c i o j sz off=>simp [dT] at h
 |ref c off len=>
  simp only [dT] at h;split at h;rename_i e;split at h;rename_i R xs hl;split at h;rename_i he;subst he;injection h with h;subst h;obtain ⟨T,r,I⟩:=hm c R xs hl;obtain ⟨hle,hx⟩:=hr.2.2 R xs (.inl T);have hlen:((xs.drop off).take len).length=len:=by simp;omega
  rcases hx with ⟨h0,_,a,ha⟩|⟨b,cap,arr,U,e1,h1,h2,h3,h4⟩
  subst ha;subst h0;exact ⟨a,0,by simp [cR],by simp [cR],λi J=>by simp [cR] at J⟩;rw [U] at I;obtain ⟨eB,rj,Sb⟩:=I;subst e1;have:=cn.of_slice (S2:=S2) (w:=w) (t:=R) (xs:=(xs.drop off).take len) (o:=off*R.size) (cap:=cap) (r [] b U) rj (by omega) λi J=>by
   have Ca:off+i<xs.length:=by rw [hlen] at J;omega
   obtain ⟨es,k1,k2⟩:=Sb.data (λ_ h=>h) r (off+i) Ca;refine ⟨es,λj v hv=> ?_,?_⟩;have:=k1 j v hv;rw [ϓ] at this;rw [<-Ϡ];exact this;simpa using k2
  rw [hlen] at this;exact this;cases h;cases h;cases h
 |bH=>
  simp only [dT] at h;split at h;injection h with h;subst h;obtain ⟨a,ha⟩:=hr;subst ha;exact ⟨a,0,rfl,ς _,λi J=>by simp at J⟩;cases h
 |ptr c off=>simp [dT] at h
 |dn c i sz off=>
  simp only [dT] at h;split at h;rename_i e;split at h;rename_i R xs hl;split at h;rename_i he;subst he;cases hb:(Β i 0&&(Β off 0&&Β sz R.size)) with
  |false=>rw [hb] at h;cases h
  |true=>
   rw [hb] at h;simp only [cond_true] at h;injection h with h;subst h;simp only [κ] at hb;obtain ⟨h1,h2,h3⟩:=hb;have h1:=aby h1;have h2:=aby h2;subst h1;subst h2;obtain ⟨T,r,I⟩:=hm c R xs hl;obtain ⟨_,b,U,ev⟩:=hr;rw [U] at I;obtain ⟨arr,rj,Sb⟩:=I;refine ⟨⟨b,0,none⟩,by rw [ev];simp,λi J=> ?_⟩;obtain ⟨es,k1,k2⟩:=Sb.data (λ_ h=>h) r i J;refine ⟨es,r [] b U,λj v hv=> ?_,k2⟩;rw [cw,rj.cell,Ψ];exact k1 j v hv
  cases h;cases h;cases h
 |ip t x off=>simp [dT] at h
 |fn f=>simp [dT] at h
 |ji f t' x=>simp [dT] at h
 |cls f ks=>simp [dT] at h
 |zP f t' x=>simp [dT] at h
 |fP c=>simp [dT] at h
 |dS=>simp [dT] at h
 |bad=>simp [dT] at h
theorem lx (o: ∀b,S b->S2 b)(p:iz g m m0 S2 w){t:Ty}{cs:List bI}{x:t.D}{r:List bI}{vs:List π}(h:du m0 t cs=some (x,r))(j:cc (CR g m S w) cs vs):
 ∃v1 v2,vs=v1++v2/\cn S2 w t v1 x/\cc (CR g m S w) r v2:=by
 cases cs with
 |nil=>simp [du] at h
 |cons c cs=>
  cases vs with
  |nil=>exact j.elim
  |cons v vs=>
   simp only [du] at h;split at h;rename_i y I;injection h with h;injection h with J R;subst J;subst R;exact ⟨[v],vs,rfl,rC o p I j.1,j.2⟩;cases h
theorem jB (o: ∀b,S b->S2 b)(p:iz g m m0 S2 w): ∀(t:Ty) {cs:List bI} {x:t.D} {r:List bI} {vs:List π},impl m0 t cs=some (x,r)->cc (CR g m S w) cs vs->
 ∃v1 v2,vs=v1++v2/\cn S2 w t v1 x/\cc (CR g m S w) r v2
 | .int k,cs,x,r,vs,h,j=>lx o p (t:= .int k) (cs:=cs) h j
 | .dP k,cs,x,r,vs,h,j=>lx o p (t:= .dP k) (cs:=cs) h j
 | .bool,cs,x,r,vs,h,j=>lx o p (t:= .bool) (cs:=cs) h j
 | .str,cs,x,r,vs,h,j=>lx o p (t:= .str) (cs:=cs) h j
 | .sl t,cs,x,r,vs,h,j=>lx o p (t:= .sl t) (cs:=cs) h j
 | .own t,cs,x,r,vs,h,j=>lx o p (t:= .own t) (cs:=cs) h j
 | .bx t,cs,x,r,vs,h,j=>lx o p (t:= .bx t) (cs:=cs) h j
 | .cl f t,cs,x,r,vs,h,j=>lx o p (t:= .cl f t) (cs:=cs) h j
 | .st t,cs,x,r,vs,h,j=>jB o p t h j
 | .pair a b,cs,x,r,vs,h,j=>by
  simp only [impl] at h;split at h;rename_i y r1 J;split at h;rename_i z r2 R;injection h with h;injection h with T U;subst T;subst U;obtain ⟨v1,v2,rfl,k1,k2⟩:=jB o p a J j;obtain ⟨I,v4,rfl,k3,k4⟩:=jB o p b R k2;exact ⟨v1++I,v4,by simp,⟨v1,I,rfl,k1,k3⟩,k4⟩;cases h;cases h
def dQ (t:Ty)(cs:List π)(v:π):Prop:=if t.sS then v= .agg cs.toArray else cs=[v]
theorem nu (R: ∀b,S b->S2 b)(T:iz g m m0 S2 w){t:Ty}{v:bK}{x:t.D}{val:π}(h:kf m0 t v=some x)(U:VR g m S w v val):
 ∃cs,dQ t cs val/\cn S2 w t cs x:=by
 unfold kf at h;split at h;rename_i c j;split at h;rename_i y p;injection h with h;subst h;obtain ⟨v1,o,e,r,I⟩:=jB (vs:=[val]) R T t p ⟨U,trivial⟩;have:o=[]:=by cases o with|nil=>rfl|cons=>exact I.elim
 subst this;simp at e;subst e;exact ⟨[val],by simp [dQ,j],r⟩;cases h;rename_i cs j;split at h;rename_i y p;injection h with h;subst h;obtain ⟨vs,e,J⟩:=U;obtain ⟨v1,o,e2,r,I⟩:=jB R T t p J;have:o=[]:=by cases o with|nil=>rfl|cons=>exact I.elim
 subst this;simp at e2;subst e2;exact ⟨vs,by simp [dQ,j,e],r⟩;cases h;cases h
theorem ly: ∀(t:Ty) {cs:List π} {x:t.D},cn S w t cs x->cc (CR g m S w) (gT t x) cs
 | .int _,_,_,h=>by subst h;exact ⟨rfl,trivial⟩
 | .dP _,_,_,⟨b,e,h⟩=>by subst e;exact ⟨⟨b,rfl,h⟩,trivial⟩
 | .bool,_,_,h=>by subst h;exact ⟨rfl,trivial⟩
 | .str,_,_,h=>by subst h;exact ⟨rfl,trivial⟩
 | .sl t,_,_,⟨a,cap,e,h⟩=>by subst e;exact ⟨⟨a,cap,rfl,h⟩,trivial⟩
 | .own t,_,_,⟨a,cap,e,h⟩=>by subst e;exact ⟨⟨a,cap,rfl,h⟩,trivial⟩
 | .bx t,_,_,⟨a,e,h⟩=>by subst e;exact ⟨⟨a,rfl,h⟩,trivial⟩
 | .cl f t,_,_,⟨j,o,e,h⟩=>by subst e;exact ⟨⟨j,o,rfl,h⟩,trivial⟩
 | .pair a b,_,_,⟨I,J,e,p,r⟩=>by subst e;exact (ly a p).append (ly b r)
 | .st t,_,_,h=>ly t (cs:=_) h
theorem sf {c i:Nat}: ∀(t:Ty) {γ:List Nat->Option Nat} {p:Nat} {cs:List π} {x:t.D},dw S w t γ p cs x->
 (∀o e ys v,ep t x o=some ⟨e,ys⟩->jb (γ [p+o]) w e.size ys.length v->CR g m S w (.row c i (p+o)) v)->cc (CR g m S w) (zR c i t p x) cs
 | .own t,γ,p,cs,R,⟨v,e,I,_⟩,j=>by subst e;exact ⟨j 0 t R v rfl I,trivial⟩
 | .pair a b,γ,p,cs,x,⟨c1,c2,e,I,T⟩,j=>by
  subst e;refine (sf a I λo e ys v r J=>j o e ys v ?_ J).append (sf b T λo e ys v r J=> ?_);unfold ep;rw [oi.2 (xn a r)];exact r;have:=j (a.size+o) e ys v (by unfold ep;rw [kY (by omega),Nat.add_sub_cancel_left];exact r) (by rw [<-Ϡ];exact J);rw [<-Ϡ] at this;exact this
 | .st t,γ,p,cs,x,h,j=>sf t (cs:=cs) (x:=x) h j
 | .int _,_,_,_,_,h,_=>by have h:=h;subst h;exact ⟨rfl,trivial⟩
 | .dP _,_,_,_,_,⟨b,e,h⟩,_=>by subst e;exact ⟨⟨b,rfl,h⟩,trivial⟩
 | .bool,_,_,_,_,h,_=>by have h:=h;subst h;exact ⟨rfl,trivial⟩
 | .str,_,_,_,_,h,_=>by have h:=h;subst h;exact ⟨rfl,trivial⟩
 | .sl t,_,_,_,_,⟨a,cap,e,h⟩,_=>by subst e;exact ⟨⟨a,cap,rfl,h⟩,trivial⟩
 | .bx t,_,_,_,_,⟨a,e,h⟩,_=>by subst e;exact ⟨⟨a,rfl,h⟩,trivial⟩
 | .cl f t,_,_,_,_,⟨U,ps,e,h⟩,_=>by subst e;exact ⟨⟨U,ps,rfl,h⟩,trivial⟩
theorem Iv (v:π):CR g m S w (Sa v) v:=by
 unfold Sa;split;exact rfl;exact rfl;exact ⟨_,rfl,rfl⟩;rename_i s;simp [CR,cn];exact ⟨none,rfl⟩;trivial;trivial;rename_i p r t I J j o;cases v<;>first
  |rfl
  |exact absurd rfl (j _)
  |exact absurd rfl (o _)
theorem F3: ∀(l:List π),cc (CR g m S w) (l.map Sa) l
 |[]=>trivial
 |v::l=>⟨Iv v,F3 l⟩
theorem qA (v:π):VR g m S w (oe v) v:=by
 unfold oe;split;rename_i cs;exact ⟨cs.toList,by simp,F3 _⟩;trivial;exact Iv v
theorem cA {cx:Cx}{st:St}{a:Act}(h:cT cx g st a w){x:Operand}{v:bK}(j:ev st.fr x=some v):VR g st.mem (cx.safe g st.mem w) w v (a.eval x):=by
 cases x with
 |tmp t=>exact h.fr t v j
 |const c=>simp only [ev] at j;injection j with j;subst j;exact qA c
 |func f=>simp only [ev] at j;injection j with j;subst j;exact rfl
 |global g=>simp [ev] at j
end
end Go.Ide
namespace Go.Ide
section
variable {P:Ο} {g:GM} {m:Mem} {S:Nat->Prop} {w:Ε}
theorem cg {a b:Nat}(h:Β a b=true):a=b:=aby h
theorem jd {a b:Nat}(h:ϩ a b=true):a<=b:=ϑ h
theorem cN {T:Ι}{n:Nat}(h:dm P T=some n):(sizeOf T).run P w= .ok n w:=by
 unfold dm at h;cases j:P.info? T with
 |none=>rw [j] at h;cases h
 |some i=>rw [j] at h;injection h with h;subst h;simp [sizeOf,typeInfo,j]
theorem tq {T:Ι}{o:Bool}(h:xf P T=some o):(isAgg T).run P w= .ok o w:=by
 unfold xf at h;cases j:P.underlying T with
 |none=>rw [j] at h;cases h
 |some d=>
  rw [j] at h;simp only [isAgg,Ϛ,run_underlying j,ϋ];cases d<;>simp_all
theorem AB {p:Bool}{j:List bI}{t:bK}{cs:List π}(h:NH p j=some t)(o:cc (CR g m S w) j cs):
 ∃r,(if p then r=Value.agg cs.toArray else cs=[r])/\VR g m S w t r:=by
 unfold NH at h;split at h;injection h with h;subst h;exact ⟨_,rfl,cs,rfl,o⟩;injection h with h;subst h;cases cs with
 |nil=>exact o.elim
 |cons v I=>
  cases I with
  |nil=>exact ⟨v,rfl,o.1⟩
  |cons=>exact o.2.elim
 cases h
theorem pr {T:Ι}{n:Nat}{t:Bool}(R:dm P T=some n)(I:xf P T=some t){o:ab6}{cs:List π}(U:cs.length=n)(J: ∀j v,cs[j]? =some v->w.cell? (o.add j)=some v){r:π}(p:if t then r=Value.agg cs.toArray else cs=[r]):
 (adf T (.pointer (some o))).run P w= .ok r w:=by
 cases t with
 |true=>
  simp only [if_true] at p;subst p;subst U;simp [adf,aax,loadVar,tq I,cN R,run_loadCells_list w o cs J]
 |false=>
  simp only [acH,if_false] at p;subst p;have:=J 0 r rfl;rw [show o.add 0=o from by simp [ab3]] at this;simp [adf,aax,loadVar,tq I,this]
theorem cn.nJ: ∀(t:Ty) {cs:List π} {x:t.D},cn S w t cs x-> ∀v∈cs,v.oneCell'=true
 | .int _,_,_,h,v,j=>by subst h;simp at j;subst j;rfl
 | .dP _,_,_,⟨b,e,h⟩,v,j=>by subst e;simp at j;subst j;rfl
 | .bool,_,_,h,v,j=>by subst h;simp at j;subst j;rfl
 | .str,_,_,h,v,j=>by subst h;simp at j;subst j;rfl
 | .sl t,_,_,⟨a,cap,e,h⟩,v,j=>by subst e;simp at j;subst j;rfl
 | .bx t,_,_,⟨a,e,h⟩,v,j=>by subst e;simp at j;subst j;rfl
 | .cl f t,_,_,⟨r,I,e,h⟩,v,j=>by subst e;simp at j;subst j;rfl
 | .own t,_,_,⟨a,cap,e,h⟩,v,j=>by subst e;simp at j;subst j;rfl
 | .pair a b,_,_,⟨J,R,e,o,p⟩,v,j=>by
  subst e;rcases Λ.1 j with h|h
  exact cn.nJ a o v h;exact cn.nJ b p v h
 | .st t,_,_,h,v,j=>cn.nJ t (cs:=_) h v j
theorem xp {c:bI}{v:π}(p:c.ok=true)(h:CR g m S w c v):v.oneCell'=true:=by
 cases c with
 |bG t x=>exact cn.nJ t (cs:=[v]) h v (by simp)
 |ptr c off=>obtain ⟨_,b,_,e⟩:=h;subst e;rfl
 |dn c i r off=>obtain ⟨_,b,_,e⟩:=h;subst e;rfl
 |ip t x off=>obtain ⟨I,es,e,_⟩:=h;subst e;rfl
 |all c=>exact h.2.1
 |ref c off len=>exact h.2.1
 |row c i o=>exact h.2.1
 |zf c i o j r off=>obtain ⟨_,b,e,_⟩:=h;subst e;rfl
 |bH=>obtain ⟨a,e⟩:=h;subst e;rfl
 |fn f=>have:v=_:=h;subst this;rfl
 |ji f t x=>obtain ⟨I,es,e,_⟩:=h;subst e;rfl
 |cls f J=>obtain ⟨R,e,_⟩:=h;subst e;rfl
 |zP f t x=>obtain ⟨_,_,_,e,_⟩:=h;subst e;rfl
 |fP c=>obtain ⟨_,b,_,e⟩:=h;subst e;rfl
 |dS=>exact h
 |bad=>cases p
theorem F4: ∀{cs:List bI} {vs:List π},cs.all bI.ok=true->cc (CR g m S w) cs vs-> ∀v∈vs,v.oneCell'=true
 |[],[],_,_,v,j=>by simp at j
 |c::cs,u::vs,o,h,v,j=>by
  simp only [acn,κ] at o;rcases List.mem_cons.1 j with rfl|j
  exact xp o.1 h.1;exact F4 o.2 h.2 v j
 |[],_::_,_,h,_,_=>h.elim
 |_::_,[],_,h,_,_=>h.elim
theorem cells_one {u:π}(h:u.oneCell'=true):u.cells= #[u]:=by cases u<;>first|rfl|cases h
theorem jN {v:bK}{u:π}(j:v.ok=true)(h:VR g m S w v u): ∃vs,u.cells.toList=vs/\cc (CR g m S w) v.cells vs:=by
 cases v with
 |one c=>exact ⟨[u],by rw [cells_one (xp j h)],h,trivial⟩
 |agg cs=>obtain ⟨vs,rfl,o⟩:=h;exact ⟨vs,rfl,o⟩
 |AA=>cases j
 |Ce=>cases j
 |dS=>cases j
theorem qB {v:bK}{u:π}(j:v.ok=true)(h:VR g m S w v u): ∀x∈u.cells.toList,x.oneCell'=true:=by
 cases v with
 |one c=>intro x o;rw [cells_one (xp j h)] at o;simp at o;subst o;exact xp j h
 |agg cs=>obtain ⟨r,rfl,p⟩:=h;exact F4 j p
 |AA=>cases j
 |Ce=>cases j
 |dS=>cases j
def kh (g:GM)(m:Mem)(S:Nat->Prop)(w:Ε):Prop:= ∀k j,lk k m=some j->jk g m S w (g.f k) j
theorem Ch {n:Nat}{c:bI}{T:List bI}{ON:List Prop}(hm:kh g m S w)(h:og m n c=some (T,ON)){v:π}(hr:CR g m S w c v):
 ∃ad cs,v= .pointer (some ad)/\cs.length=n/\(∀j u,cs[j]? =some u->w.cell? (ad.add j)=some u)/\cc (CR g m S w) T cs:=by
 unfold og at h;split at h;rename_i c off;split at h;rename_i cs hl;cases J:ϩ (off+n) cs.length with
 |false=>simp [J] at h
 |true=>
  rw [J] at h;simp only [cond_true] at h;injection h with h;injection h with h1 h2;subst h1;have hle:=jd J;obtain ⟨b,arr,hg,pt,o⟩:=hm c _ hl;obtain ⟨_,b',p,e⟩:=hr;have p:g.f c []=some b':=p;rw [hg] at p;injection p with p;subst p;have I:=o.length;refine ⟨⟨b,off,none⟩,(arr.toList.drop off).take n,e,by simp at I⊢;omega,λj u r=> ?_,(o.drop off).take n⟩;rw [cw,pt.cell];rw [ϒ] at r;split at r;simpa using r;cases r
 cases h;cases h;rename_i t x off;cases J:ϩ (off+n) (gT t x).length with
 |false=>simp [J] at h
 |true=>
  rw [J] at h;simp only [cond_true] at h;injection h with h;injection h with h1 h2;subst h1;have hle:=jd J;obtain ⟨ad,es,e,hs,R,U⟩:=hr;have o:cc (CR g m S w) (gT t x) es:=ly t U;have I:=o.length;refine ⟨ad.add off,(es.drop off).take n,e,by simp;omega,λj u r=> ?_,(o.drop off).take n⟩;rw [add_add];rw [ϒ] at r;split at r;exact R _ u (by simpa using r);cases r
 cases h
def bR (P:Ο)(g:GM)(m:Mem)(S:Nat->Prop)(w:Ε)(s:Sem π)(e:cO):Prop:=
 e.new=[]/\e.lq=[]/\ ∃r,s.run P w= .ok r w/\VR g m S w e.val r
theorem bR.mk {v:bK}{s:Sem π}{r:π}{e:cO}(j:e.new=[]/\e.lq=[]/\e.val=v)(h:s.run P w= .ok r w)(o:VR g m S w v r):bR P g m S w s e:=
 ⟨j.1,j.2.1,r,h,by rw [j.2.2];exact o⟩
theorem bP {v:bK}{e:cO}(h:cM v=some e):e.new=[]/\e.lq=[]/\e.val=v:=by
 unfold cM at h;injection h with h;subst h;exact ⟨rfl,rfl,rfl⟩
theorem dd {v:bK}{cs:List Prop}{e:cO}(h:fQ v cs=some e):(e.new=[]/\e.lq=[]/\e.val=v)/\e.cond=cs:=by
 unfold fQ at h;injection h with h;subst h;exact ⟨⟨rfl,rfl,rfl⟩,rfl⟩
theorem getD_eq {α:Type}{xs:List α}{i:Nat}{d:α}(h:i<xs.length):xs.getD i d=xs[i]:=by
 simp [ε,h]
theorem eU.at_ {γ:List Nat->Option Nat}{t:Ty}{xs:List t.D}{arr:Array π}(h:eU S w γ t xs arr){i:Nat}(o:i<xs.length):
 ∃es:List π,es.length=t.size/\(∀j v,es[j]? =some v->arr[i*t.size+j]? =some v)/\dw S w t (λp=>γ (i::p)) 0 es (xs.getD i t.fm):=by
 obtain ⟨es,I,r⟩:=h i o;exact ⟨es,dw.len t r,I,by rw [getD_eq o];exact r⟩
theorem jb.one {gc:Option Nat}{sz n:Nat}{v:π}(h:jb gc w sz n v):v.oneCell'=true:=by
 unfold jb at h;cases gc with
 |none=>obtain ⟨a,rfl⟩:=h;rfl
 |some b=>obtain ⟨cap,arr,rfl,_⟩:=h;rfl
theorem OO {c i o:Nat}{t e:Ty}{xs:List t.D}{ys:List e.D}{v:π}(J:lk c m=some (.seq t xs))(T:i<xs.length)(U:ep t (xs.getD i t.fm) o=some ⟨e,ys⟩)(R:jb (g.f c [i,o]) w e.size ys.length v):
 CR g m S w (.row c i o) v:=by
 refine ⟨by rw [J];simp,R.one,λt' aa j=> ?_⟩;rw [J] at j;injection j with j;injection j with I r;subst I;have r:=eq_of_heq r;subst r;refine ⟨T,λe' ab p=> ?_⟩;rw [U] at p;injection p with p;injection p with I r;subst I;have r:=eq_of_heq r;subst r;exact R
theorem pX {c i o:Nat}{t e:Ty}{xs:List t.D}{ys:List e.D}(T:kh g m S w)(U:lk c m=some (.seq t xs))(I:i<xs.length)(hs:ep t (xs.getD i t.fm) o=some ⟨e,ys⟩):
 match g.f c [i,o] with
 |none=>ys.length=0
 |some b=> ∃arr,dA w b arr/\ ∀j (h:j<ys.length),∃es:List π,(∀q v,es[q]? =some v->arr[j*e.size+q]? =some v)/\dw S w e (λp=>g.f c (i::o::j::p)) 0 es ys[j]:=by
 have r:=T c _ U;unfold jk at r;cases J:g.f c [] with
 |none=>rw [J] at r;have hn:xs=[]:=r;subst hn;simp at I
 |some b=>
  rw [J] at r;obtain ⟨arr,hb,he⟩:=r;obtain ⟨es,_,_,h3⟩:=he.at_ I;obtain ⟨u,_,v,_,_,R⟩:=dw.slot t h3 hs;rw [Ψ] at R;exact R
theorem rD {T:Ι}{v:bK}{e:cO}{va:π}(hm:kh g m S w)(h:pU P m T v=some e)(hc:cp e.cond)(hr:VR g m S w v va):bR P g m S w (adf T va) e:=by
 unfold pU at h;split at h;rename_i c i sz off n ag hs ha;split at h;rename_i t xs hl;cases p:(ϩ (off+n) t.size&&Β sz t.size) with
 |false=>simp [p] at h
 |true=>
  rw [p] at h;simp only [cond_true] at h;simp only [κ] at p;obtain ⟨hn,hz⟩:=p;have hn:=jd hn;have hz:=cg hz;split at h;rename_i r R;obtain ⟨he,Hc⟩:=dd h;rw [Hc] at hc;have hi:i<xs.length:=hc.1;obtain ⟨_,b,hg,e1⟩:=hr;have jm:=hm c _ hl;unfold jk at jm;have hg:g.f c []=some b:=hg;rw [hg] at jm;obtain ⟨arr,pt,mq⟩:=jm;obtain ⟨es,U,I,kK⟩:=mq.at_ hi;have J:cc (CR g m S w) (zR c i t 0 (xs.getD i t.fm)) es:=sf t kK λo e ys v hs ha=>by
   rw [Ψ] at ha⊢;exact OO hl hi hs ha
  obtain ⟨rv,h1,h2⟩:=AB (g:=g) (m:=m) R ((J.drop off).take n);subst e1;refine bR.mk he (pr hs ha (cs:=(es.drop off).take n) (by simp;omega) (λj u hu=> ?_) h1) h2;rw [cw,pt.cell,hz,Ϡ];rw [ϒ] at hu;split at hu;exact I _ u (by simpa using hu);cases hu;cases h
 rename_i t xs jj Ly ks hl;cases p:(ϩ (off+n) t.size&&Β sz t.size) with
 |false=>simp [p] at h
 |true=>
  rw [p] at h;simp only [cond_true] at h;simp only [κ] at p;obtain ⟨hn,hz⟩:=p;have hn:=jd hn;have hz:=cg hz;split at h;rename_i r R;obtain ⟨he,Hc⟩:=dd h;rw [Hc] at hc;have hi:i=jj:=hc.1;subst hi;obtain ⟨_,b,hg,e1⟩:=hr;obtain ⟨_,b',arr,oE,pt,_,_,es,U,I,J⟩:=hm c _ hl;have hg:g.f c []=some b:=hg;rw [hg] at oE;injection oE with oE;subst oE;obtain ⟨rv,h1,h2⟩:=AB (g:=g) (m:=m) R ((J.drop off).take n);subst e1;refine bR.mk he (pr hs ha (cs:=(es.drop off).take n) (by simp;omega) (λj u hu=> ?_) h1) h2;rw [cw,pt.cell,hz,Ϡ];rw [ϒ] at hu;split at hu;exact I _ u (by simpa using hu);cases hu;cases h
 cases h;rename_i c i o j sz off n ag hs ha;split at h;rename_i t xs hl;split at h;rename_i e ys Li;cases p:((ϩ (off+n) e.size&&Β sz e.size)&&e.top) with
 |false=>simp [p] at h
 |true=>
  rw [p] at h;simp only [cond_true] at h;simp only [κ] at p;obtain ⟨⟨hn,hz⟩,ht⟩:=p;have hn:=jd hn;have hz:=cg hz;split at h;rename_i r R;obtain ⟨he,Hc⟩:=dd h;rw [Hc] at hc;have hj:j<ys.length:=hc.1;obtain ⟨_,b,e1,ZW⟩:=hr;obtain ⟨hi,hg⟩:=ZW t xs hl;have hb:=pX hm hl hi Li;rw [hg] at hb;obtain ⟨arr,pt,mq⟩:=hb;obtain ⟨es,I,sh⟩:=mq j hj;have U:=dw.len e sh;have J:cc (CR g m S w) (gT e (ys.getD j e.fm)) es:=ly e (by rw [getD_eq hj];exact dw.rep e ht sh);obtain ⟨rv,h1,h2⟩:=AB (g:=g) (m:=m) R ((J.drop off).take n);subst e1;refine bR.mk he (pr hs ha (cs:=(es.drop off).take n) (by simp;omega) (λq u hu=> ?_) h1) h2;rw [cw,pt.cell,hz,Ϡ];rw [ϒ] at hu;split at hu;exact I _ u (by simpa using hu);cases hu;cases h
 cases h;cases h;rename_i c n ag _ _ hs ha;split at h;rename_i Ly ON ZX;split at h;rename_i r R;obtain ⟨ad,cs,e1,U,I,J⟩:=Ch hm ZX (show CR g m S w c va from hr);obtain ⟨rv,h1,h2⟩:=AB R J;subst e1;exact bR.mk (bP h) (pr hs ha U I h1) h2;cases h;cases h;cases h
end
end Go.Ide
namespace Go.Ide
section
variable {P:Ο} {g:GM} {m:Mem} {S:Nat->Prop} {w:Ε}
theorem toNat_lt {n:Int}{l:Nat}(j:0<=n)(o:n<(l:Int)):n.toNat<l:=by omega
theorem Vv {n:Int}(h:0<=n): ¬n<0:=by omega
theorem Iw {n:Int}(j:0<=n)(o:n<((0:Nat):Int)):False:=by omega
theorem ve {T:Ι}{x i:bK}{e:cO}{xa ia:π}(hm:kh g m S w)(h:kJ P m T x i=some e)(hc:cp e.cond)(hx:VR g m S w x xa)(hi:VR g m S w i ia):
 bR P g m S w (aaM T xa ia) e:=by
 unfold kJ at h;split at h;rename_i el k n hu;have ZY:ia= .int k n:=by have:[ia]=[Value.int k n]:=hi;simpa using this
 subst ZY;split at h;rename_i t xs R hs;cases J:Β R t.size with
 |false=>simp [J] at h
 |true=>
  rw [J] at h;simp only [cond_true] at h;have hz:=cg J;obtain ⟨he,I⟩:=dd h;rw [I] at hc;obtain ⟨⟨U,h1⟩,_⟩:=hc;obtain ⟨a,cap,e1,hcap,sh⟩:=hx;have Lz:xa= .slice a (ζ xs) cap:=by simpa using e1
  subst Lz;have hlt:δ n<ζ xs:=toNat_lt U h1;obtain ⟨ad,es,ea,hS,fC,kK⟩:=sh n.toNat hlt;subst ea;refine bR.mk he (r:= .pointer (some (ad.add (n.toNat*R)))) ?_ ⟨ad.add (n.toNat*R),es,by simp [ab3],by rw [fy];exact hS,λj u hj=> ?_,?_⟩;simp [aaM,asIntOf,run_underlying hu,cN hs,U,h1];rw [add_add,hz];exact fC j u hj;rw [getD_eq hlt];exact kK
 rename_i c R hs;split at h;rename_i t xs hl;cases J:Β R t.size with
 |false=>simp [J] at h
 |true=>
  rw [J] at h;simp only [cond_true] at h;obtain ⟨he,I⟩:=dd h;rw [I] at hc;obtain ⟨⟨U,h1⟩,_⟩:=hc;have jm:=hm c _ hl;have p:=hx.2.2 t xs (.inl hl);unfold jb at p;unfold jk at jm;cases hg:g.f c [] with
  |none=>
   rw [hg] at jm;have:xs=[]:=jm;subst this;exact (Iw U h1).elim
  |some b=>
   have p:match g.f c [] with|none=>_|some b=>_:=p
   rw [hg] at p;obtain ⟨cap,arr,e1,_,pt,_⟩:=p;subst e1;refine bR.mk he (r:= .pointer (some ⟨b,n.toNat*R,none⟩)) ?_ ⟨hx.1,b,hg,rfl⟩;simp [aaM,asIntOf,run_underlying hu,cN hs,U,h1,cw]
 rename_i t xs jj Ly ks hl;cases J:Β R t.size with
 |false=>simp [J] at h
 |true=>
  rw [J] at h;simp only [cond_true] at h;obtain ⟨he,I⟩:=dd h;rw [I] at hc;obtain ⟨⟨U,h1⟩,_⟩:=hc;obtain ⟨_,b,arr,hg,_⟩:=hm c _ hl;have p:=hx.2.2 t xs (.inr ⟨_,_,_,hl⟩);unfold jb at p;have p:match g.f c [] with|none=>_|some b=>_:=p
  rw [hg] at p;obtain ⟨cap,arr,e1,_,pt,_⟩:=p;subst e1;refine bR.mk he (r:= .pointer (some ⟨b,n.toNat*R,none⟩)) ?_ ⟨hx.1,b,hg,rfl⟩;simp [aaM,asIntOf,run_underlying hu,cN hs,U,h1,cw]
 cases h;rename_i c i o R hs;split at h;rename_i t xs hl;split at h;rename_i e ys Li;cases J:Β R e.size with
 |false=>simp [J] at h
 |true=>
  rw [J] at h;simp only [cond_true] at h;obtain ⟨he,I⟩:=dd h;rw [I] at hc;obtain ⟨⟨U,h1⟩,_⟩:=hc;obtain ⟨hi,LA⟩:=hx.2.2 t xs hl;have p:=LA e ys Li;have Sc:=pX hm hl hi Li;unfold jb at p;cases hg:g.f c [i,o] with
  |none=>
   rw [hg] at Sc;have UH:ys.length=0:=Sc;exact (Iw U (by rw [<-UH];exact h1)).elim
  |some b=>
   rw [hg] at p;obtain ⟨cap,arr,e1,_,pt,_⟩:=p;subst e1;refine bR.mk he (r:= .pointer (some ⟨b,n.toNat*R,none⟩)) ?_ ⟨hx.1,b,rfl,λt' iy tu=>⟨?_,hg⟩⟩;simp [aaM,asIntOf,run_underlying hu,cN hs,U,h1,cw];exact (hx.2.2 t' iy tu).1
 cases h;cases h;rename_i c off len R hs;split at h;rename_i t xs hl;cases J:Β R t.size with
 |false=>simp [J] at h
 |true=>
  rw [J] at h;simp only [cond_true] at h;have hz:=cg J;obtain ⟨he,I⟩:=dd h;rw [I] at hc;obtain ⟨⟨U,h1⟩,_⟩:=hc;obtain ⟨hle,LA⟩:=hx.2.2 t xs (.inl hl);rcases LA with ⟨Ix,_⟩|⟨b,cap,arr,hg,e1,_⟩
  subst Ix;exact (Iw U h1).elim;subst e1;refine bR.mk he (r:= .pointer (some ⟨b,(off+n.toNat)*R,none⟩)) ?_ ⟨hx.1,b,hg,rfl⟩;simp [aaM,asIntOf,run_underlying hu,cN hs,U,h1,cw,ϓ,hz]
 cases h;cases h;cases h
theorem uc {T:Ι}{x i:bK}{e:cO}{xa J:π}(hm:kh g m S w)(h:jA P m T x i=some e)(U:cp e.cond)(hx:VR g m S w x xa)(hi:VR g m S w i J):
 bR P g m S w (aaM T xa J) e:=by
 unfold jA at h;split at h;rename_i e' j;injection h with h;subst h;unfold tX at j;split at j;rename_i len el c k sz R n hu;have p:J= .int R n:=by have:[J]=[Value.int R n]:=hi;simpa using this
 subst p;split at j;rename_i z hz;cases hb:Β (z/sz*sz) z with
 |false=>simp [hb] at j
 |true=>
  rw [hb] at j;simp only [cond_true] at j;have hq:=cg hb;obtain ⟨he,I⟩:=dd j;rw [I] at U;obtain ⟨⟨h0,h1⟩,_⟩:=U;obtain ⟨hp,b,hg,e1⟩:=hx;subst e1;refine bR.mk he (r:= .pointer (some ⟨b,(k+z/sz*n.toNat)*sz+0,none⟩)) ?_ ⟨hp,b,hg,rfl⟩;have e2:(k+z/sz*n.toNat)*sz=k*sz+n.toNat*z:=by
   rw [ϓ,Nat.mul_right_comm,hq,aaB z]
  simp [aaM,asIntOf,run_underlying hu,cN hz,h0,h1,aax,cw,e2]
 cases j;rename_i len el c o R n hu;have p:J= .int R n:=by have:[J]=[Value.int R n]:=hi;simpa using this
 subst p;split at j;rename_i z hz;obtain ⟨he,I⟩:=dd j;rw [I] at U;obtain ⟨⟨h0,h1⟩,_⟩:=U;obtain ⟨hp,b,hg,e1⟩:=hx;subst e1;refine bR.mk he (r:= .pointer (some ⟨b,o+n.toNat*z,none⟩)) ?_ ⟨hp,b,hg,rfl⟩;simp [aaM,asIntOf,run_underlying hu,cN hz,h0,h1,aax,cw];cases j;rename_i len el t y o R n hu;have p:J= .int R n:=by have:[J]=[Value.int R n]:=hi;simpa using this
 subst p;split at j;rename_i z hz;obtain ⟨he,I⟩:=dd j;rw [I] at U;obtain ⟨⟨h0,h1⟩,_⟩:=U;obtain ⟨ad,es,e1,hS,fC,kK⟩:=hx;subst e1;refine bR.mk he (r:= .pointer (some (ad.add (o+n.toNat*z)))) ?_ ⟨ad,es,rfl,hS,fC,kK⟩;simp [aaM,asIntOf,run_underlying hu,cN hz,h0,h1,aax,add_add];cases j;cases j;exact ve hm h U hx hi
theorem vf {T:Ι}{x:bK}{f:Nat}{e:cO}{xa:π}(h:qy P T x f=some e)(U:VR g m S w x xa):
 bR P g m S w (acC T xa f) e:=by
 unfold qy at h;split at h;rename_i fs hu;split at h;rename_i fd hf;split at h;rename_i c off n p;obtain ⟨hp,b,hg,I⟩:=U;subst I;refine bR.mk (bP h) (r:= .pointer (some ⟨b,off+fd.offset,none⟩)) ?_ ⟨hp,b,hg,rfl⟩;simp [acC,run_underlying hu,hf,aax,fieldPlace,cN p,cw];rename_i t y off n p;obtain ⟨ad,es,I,hS,J,R⟩:=U;subst I;refine bR.mk (bP h) (r:= .pointer (some (ad.add (off+fd.offset)))) ?_ ⟨ad,es,rfl,hS,J,R⟩;simp [acC,run_underlying hu,hf,aax,fieldPlace,cN p,add_add];rename_i c i sz off n p;obtain ⟨hp,b,hg,I⟩:=U;subst I;refine bR.mk (bP h) (r:= .pointer (some ⟨b,i*sz+(off+fd.offset),none⟩)) ?_ ⟨hp,b,hg,rfl⟩;simp [acC,run_underlying hu,hf,aax,fieldPlace,cN p,cw,Ϡ];rename_i c i o j sz off n p;obtain ⟨hp,b,I,LA⟩:=U;subst I;refine bR.mk (bP h) (r:= .pointer (some ⟨b,j*sz+(off+fd.offset),none⟩)) ?_ ⟨hp,b,rfl,LA⟩;simp [acC,run_underlying hu,hf,aax,fieldPlace,cN p,cw,Ϡ];cases h;cases h;cases h
theorem dV {k:aaK}{n:Int}{v:π}(h:CR g m S w (.bG (.int k) n) v):v= .int k n:=by
 have:[v]=[Value.int k n]:=h;simpa using this
theorem oM {b:Bool}{v:π}(h:CR g m S w (.bG .bool b) v):v= .bool b:=by
 have:[v]=[Value.bool b]:=h;simpa using this
theorem lz {s:List UInt8}{v:π}(h:CR g m S w (.bG .str s) v):v= .string ⟨s.toArray⟩:=by
 have:[v]=[Value.string ⟨s.toArray⟩]:=h;simpa using this
theorem Iy {x:bK}{e:cO}{xa:π}(hm:kh g m S w)(h:tk m x=some e)(R:VR g m S w x xa):
 ∃n:Nat,(e.new=[]/\e.lq=[]/\e.val= .one (.bG (.int .i64) ((n:Nat):Int)))/\((∃a c,xa= .slice a n c)\/(∃s:ByteArray,xa= .string s/\s.size=n)):=by
 unfold tk at h;split at h;rename_i t p;obtain ⟨a,cap,I,_⟩:=R;exact ⟨_,bP h,.inl ⟨a,cap,by simpa using I⟩⟩;rename_i p;have:=lz (g:=g) (m:=m) (S:=S) (w:=w) R;exact ⟨_,bP h,.inr ⟨_,this,by simp [abF]⟩⟩;rename_i c;split at h;rename_i t p r;have j:=R.2.2 t p (.inl r);have T:=hm c _ r;unfold jb at j;unfold jk at T;have j:match g.f c [] with|none=>_|some b=>_:=j
 cases J:g.f c [] with
 |none=>
  rw [J] at j T;obtain ⟨a,U⟩:=j;have:p=[]:=T;subst this;exact ⟨0,bP h,.inl ⟨a,0,U⟩⟩
 |some b=>
  rw [J] at j;obtain ⟨cap,arr,I,_⟩:=j;exact ⟨_,bP h,.inl ⟨_,cap,I⟩⟩
 rename_i t p jj Ly ks r;obtain ⟨_,b,arr,J,_⟩:=hm c _ r;have j:=R.2.2 t p (.inr ⟨_,_,_,r⟩);unfold jb at j;have j:match g.f c [] with|none=>_|some b=>_:=j
 rw [J] at j;obtain ⟨cap,arr,I,_⟩:=j;exact ⟨_,bP h,.inl ⟨_,cap,I⟩⟩;cases h;rename_i c i o;split at h;rename_i t p r;split at h;rename_i e ys ab;obtain ⟨hi,aa⟩:=R.2.2 t p r;have j:=aa e ys ab;have ad:=pX hm r hi ab;unfold jb at j;cases J:g.f c [i,o] with
 |none=>
  rw [J] at j ad;obtain ⟨a,U⟩:=j;have h0:ζ ys=0:=ad;exact ⟨0,by rw [<-h0];exact bP h,.inl ⟨a,0,U⟩⟩
 |some b=>
  rw [J] at j;obtain ⟨cap,arr,I,_⟩:=j;exact ⟨_,bP h,.inl ⟨_,cap,I⟩⟩
 cases h;cases h;rename_i c off len;split at h;rename_i t p r;obtain ⟨_,aa⟩:=R.2.2 t p (.inl r);rcases aa with ⟨Ix,_,a,U⟩|⟨b,cap,arr,J,I,_⟩
 subst Ix;exact ⟨_,bP h,.inl ⟨a,0,U⟩⟩;exact ⟨_,bP h,.inl ⟨_,cap,I⟩⟩;cases h;obtain ⟨a,U⟩:=R;exact ⟨0,bP h,.inl ⟨a,0,U⟩⟩;cases h
def Ec (P:Ο)(T:Ι):Bool:=
 match P.underlying T with
 |some (.slice _)=>true
 |some .string=>true
 |_=>false
theorem mw {T ty:Ι}{x:bK}{e:cO}{o:π}{Ts:Array Ι}(t:kh g m S w)(hT:Ec P T=true)(h:tk m x=some e)(I:VR g m S w x o)(j:Ts[0]? =some T)(J: ∀(s:ByteArray),o= .string s->P.underlying T=some .string)(p: ∀a n c,o= .slice a n c-> ∃el,P.underlying T=some (.slice el)):
 bR P g m S w (acW Ts ty #[o]) e:=by
 obtain ⟨n,R,U⟩:=Iy t h I;refine bR.mk R (r:= .int .i64 (n:Int)) ?_ rfl;rcases U with ⟨a,c,rfl⟩|⟨s,rfl,hs⟩
 obtain ⟨el,hu⟩:=p a n c rfl;simp [acW,j,run_underlying hu,goInt];simp [acW,j,run_underlying (J s rfl),goInt,hs]
theorem Ed {op:acQ}{k:aaK}{x y:Int}{e:cO}{T:Ι}(I:wP op=false)(h:Lv op k x y=some e)(o:cp e.cond):
 bR P g m S w (binOp op T (.int k x) (.int k y)) e:=by
 cases op<;>simp only [wP,Bool.true_eq_false] at I<;>simp only [Lv,NJ] at h
 case add=>exact bR.mk (bP h) (by simp [binOp,aej]) rfl
 case sub=>exact bR.mk (bP h) (by simp [binOp,aej]) rfl
 case mul=>exact bR.mk (bP h) (by simp [binOp,aej]) rfl
 case quo=>
  obtain ⟨p,j⟩:=dd h;rw [j] at o;have t: ¬y=0:=o.1;exact bR.mk p (r:= .int k (k.wrap (x.tdiv y))) (by simp [binOp,Op.intDiv,t]) rfl
 case rem=>
  obtain ⟨p,j⟩:=dd h;rw [j] at o;have t: ¬y=0:=o.1;exact bR.mk p (r:= .int k (x.tmod y)) (by simp [binOp,Op.intDiv,t]) rfl
 case eql=>exact bR.mk (bP h) (by simp [binOp,adD]) rfl
 case neq=>exact bR.mk (bP h) (by simp [binOp,adD]) rfl
 case lss=>exact bR.mk (bP h) (by simp [binOp,adD]) rfl
 case leq=>exact bR.mk (bP h) (by simp [binOp,adD]) rfl
 case gtr=>exact bR.mk (bP h) (by simp [binOp,adD]) rfl
 case geq=>exact bR.mk (bP h) (by simp [binOp,adD]) rfl
 case and=>exact bR.mk (bP h) (by simp [binOp,aeF]) rfl
 case or=>exact bR.mk (bP h) (by simp [binOp,aeF]) rfl
 case xor=>exact bR.mk (bP h) (by simp [binOp,aeF]) rfl
 case andNot=>exact bR.mk (bP h) (by simp [binOp,aeF]) rfl
 all_goals cases h
theorem toList_str (a:List UInt8):(⟨a.toArray⟩:ByteArray).toList=a:=by
 rw [ByteArray.toList_eq]
theorem vO {T:Ι}(j:P.underlying T=some .bool)(a b:Bool):(Op.equal T (.bool a) (.bool b)).run P w= .ok (a==b) w:=by
 have h: ∀d:Nat,(Op.equalIn (d+1) T (.bool a) (.bool b)).run P w= .ok (a==b) w:=λd=>by
  rw [Op.equalIn];simp [run_underlying j]
 exact h 9999
theorem Ee {op:acQ}{x y:bK}{e:cO}{T:Ι}{xa ya:π}(h:Hb P T op x y=some e)(o:cp e.cond)(I:VR g m S w x xa)(J:VR g m S w y ya):
 bR P g m S w (binOp op T xa ya) e:=by
 unfold Hb at h;split at h
 ·rename_i k a k' b;have p:=dV (g:=g) (m:=m) (S:=S) (w:=w) I;have t:=dV (g:=g) (m:=m) (S:=S) (w:=w) J;subst p;subst t;split at h
  ·rename_i R;cases op<;>simp only [wP,acH] at R<;>simp only [D8] at h
   all_goals
    obtain ⟨U,j⟩:=dd h;rw [j] at o;have h0: ¬b<0:=Vv o.1;exact bR.mk U (by simp [binOp,Op.shift,h0]) rfl
  rename_i R;split at h;rename_i hk;subst hk;exact Ed (by simpa using R) h o;cases h
 rename_i a b;have p:=lz (g:=g) (m:=m) (S:=S) (w:=w) I;have t:=lz (g:=g) (m:=m) (S:=S) (w:=w) J;subst p;subst t;unfold OI at h;split at h;exact bR.mk (bP h) (r:= .bool (a==b)) (by simp [binOp,aek,toList_str]) rfl;exact bR.mk (bP h) (r:= .bool (a != b)) (by simp [binOp,aek,toList_str,bne]) rfl;obtain ⟨U,j⟩:=dd h;rw [j] at o;have h0:a.length+b.length<=bD:=o.1;refine bR.mk U (r:= .string ⟨(a++b).toArray⟩) ?_ rfl;have h1: ¬(((⟨a.toArray⟩:ByteArray).size+(⟨b.toArray⟩:ByteArray).size:Nat):Int)>IntKind.i64.max:=by
  simp only [abF,abG];unfold bD at h0;have:IntKind.i64.max=9223372036854775807:=by decide
  rw [this];omega
 simp only [binOp,aek];rw [if_neg h1];simp [ByteArray.append_eq,aeX];exact bR.mk (bP h) (r:= .bool (ah0 a b)) (by simp [binOp,aek,toList_str]) rfl;cases h;rename_i a b;have p:=oM (g:=g) (m:=m) (S:=S) (w:=w) I;have t:=oM (g:=g) (m:=m) (S:=S) (w:=w) J;subst p;subst t;split at h;rename_i hu;exact bR.mk (bP h) (r:= .bool (a==b)) (by simp only [binOp];simp [vO hu]) rfl;rename_i hu;exact bR.mk (bP h) (r:= .bool (a != b)) (by simp only [binOp];simp [vO hu,bne]) rfl;cases h;cases h
end
end Go.Ide
namespace Go.Ide
section
variable {P:Ο} {g:GM} {m:Mem} {S:Nat->Prop} {w:Ε}
def OR (g:GM)(m:Mem)(S:Nat->Prop)(w:Ε):Option bK->Option π->Prop
 |none,none=>True
 |some v,some u=>VR g m S w v u
 |_,_=>False
theorem si {p:Option bK}{j:Option π}{l:Int}(h:NI p=some l)(o:OR g m S w p j):(j=none/\l=0)\/ ∃k,j=some (.int k l):=by
 unfold NI at h;split at h;cases j with
 |none=>injection h with h;exact .inl ⟨rfl,h.symm⟩
 |some=>exact o.elim
 rename_i k n;cases j with
 |none=>exact o.elim
 |some v=>
  injection h with h;subst h;exact .inr ⟨k,by rw [dV (g:=g) (m:=m) (S:=S) (w:=w) o]⟩
 cases h
theorem ud {r:Option bK}{o:Option π}{len:Nat}{h:Int}(j:OG len r=some h)(p:OR g m S w r o):(o=none/\h=len)\/ ∃k,o=some (.int k h):=by
 unfold OG at j;split at j;cases o with
 |none=>injection j with j;exact .inl ⟨rfl,j.symm⟩
 |some=>exact p.elim
 rename_i k n;cases o with
 |none=>exact p.elim
 |some v=>
  injection j with j;subst j;exact .inr ⟨k,by rw [dV (g:=g) (m:=m) (S:=S) (w:=w) p]⟩
 cases j
theorem xq {j o:Option π}{l h:Int}{len cap:Nat}{b:Bool}(J:(j=none/\l=0)\/ ∃k,j=some (.int k l))(R:(o=none/\h=len)\/ ∃k,o=some (.int k h))(p:0<=l)(T:l<=h)(U:h<=(len:Int))(h3:len<=cap):(aa2 b len cap j o none).run P w= .ok (l.toNat,h.toNat,cap) w:=by
 have e1:l<=((h.toNat:Nat):Int):=by omega
 have r:h<=(cap:Int):=by omega
 have t:0<=h:=by omega
 have e4: ¬(max h 0<l):=by omega
 rcases J with ⟨rfl,rfl⟩|⟨k,rfl⟩<;>rcases R with ⟨rfl,I⟩|⟨k',rfl⟩
 subst I;simp [aa2];simp [aa2,ac7,asIntOf,t,r];subst I;simp [aa2,ac7,asIntOf,p,T];simp [aa2,ac7,asIntOf,p,r,t,e4]
theorem sj (off:Nat): ∀(vs:List π) (k:Nat) (arr:Array π),off+k+vs.length<=arr.size->
 ((vs.zipIdx k).foldl (λcs (p:π×Nat)=>cs.setIfInBounds (off+p.2) p.1) arr).toList=arr.toList.take (off+k)++vs++arr.toList.drop (off+k+vs.length)
 |[],k,arr,h=>by simp
 |v::vs,k,arr,h=>by
  simp only [List.zipIdx_cons,List.foldl_cons];simp only [Η] at h;rw [sj off vs (k+1) _ (by simp;omega)];have j:off+k<arr.toList.length:=by simp;omega
  simp only [ael,Η];rw [aft (by omega),show off+(k+1)=off+k+1 from by omega,ag0,adS j,
   afd _ _ (by simp;omega)]
  simp [show off+k+1+vs.length=off+k+(vs.length+1) from by omega,aas (ahL (show off+k<arr.size by simpa using j))]
theorem ue (place:Nat->Option (Nat×Nat)): ∀{parts:List (Nat×bK)} {vparts:List (Nat×π)} {o r:List bI} {arr:Array π},
 xg place o parts=some r->cc (CR g m S w) o arr.toList->cc (λ(p:Nat×bK) (q:Nat×π)=>p.1=q.1/\VR g m S w p.2 q.2) parts vparts->
 ∃t,abj place arr vparts=some t/\cc (CR g m S w) r t.toList
 |[],[],o,r,arr,h,hc,_=>by
  simp only [xg] at h;injection h with h;subst h
  exact ⟨arr,rfl,hc⟩
 |(i,v)::parts,(j,u)::vparts,o,r,arr,h,hc,hp=>by
  obtain ⟨⟨I,hv⟩,J⟩:=hp;have I:i=j:=I;subst I;simp only [xg] at h;cases R:place i with
  |none=>simp [R] at h
  |some p=>
   obtain ⟨off,size⟩:=p;simp only [R] at h;cases U:((v.cells.length.beq size&&(off+v.cells.length).ble o.length)&&v.ok) with
   |false=>simp [U] at h
   |true=>
    rw [U] at h;simp only [cond_true] at h;simp only [κ] at U;have h1:=cg U.1.1;have h2:=jd U.1.2;obtain ⟨vs,hu,sT⟩:=jN U.2 hv;have hlen:=sT.length;have Vw:=hc.length;simp only [Ω] at Vw;have ZZ:u.cells.size=vs.length:=by rw [<-Ω,hu]
    have T:(u.cells.zipIdx.foldl (λcs (p:π×Nat)=>cs.setIfInBounds (off+p.2) p.1) arr).toList=arr.toList.take off++vs++arr.toList.drop (off+vs.length):=by
     have:=sj off vs 0 arr (by omega);rw [<-afu,afl,hu];simpa using this
    have Is:cc (CR g m S w) (o.take off++v.cells++o.drop (off+v.cells.length)) (u.cells.zipIdx.foldl (λcs (p:π×Nat)=>cs.setIfInBounds (off+p.2) p.1) arr).toList:=by
     rw [T,<-hlen];exact ((hc.take off).append sT).append (hc.drop _)
    obtain ⟨t,e1,e2⟩:=ue place h Is J;refine ⟨t,?_,e2⟩;simp only [abj,R];rw [if_neg (by simp;omega)];exact e1
 |[],_::_,_,_,_,_,_,hp=>hp.elim
 |_::_,[],_,_,_,_,_,hp=>hp.elim
theorem Ef {α:Type}{xs:List α}{l h:Int}(j:0<=l)(o:l<=h)(p:h<=(xs.length:Int)):(cut xs l h).length=h.toNat - l.toNat:=by
 unfold cut;simp;omega
theorem F5 {α:Type}{xs:List α}{l h:Int}{i:Nat}(j:i<(cut xs l h).length)(o:l.toNat+i<xs.length):(cut xs l h)[i]=xs[l.toNat+i]:=by
 have p:i<h.toNat - l.toNat:=by have:=j;simp [cut] at this;omega
 have e:(cut xs l h)[i]? =xs[l.toNat+i]? :=by
  unfold cut;rw [ϒ,if_pos p,aaT]
 rw [Γ j,Γ o] at e;exact ah6 e
theorem jP {T el:Ι}{k:Nat}(p:P.underlying T=some (.slice el))(r:dm P el=some k){a:Option ab6}{len cap:Nat}{j o:Option π}{l h:Int}(t:(j=none/\l=0)\/ ∃k,j=some (.int k l))(I:(o=none/\h=len)\/ ∃k,o=some (.int k h))(J:0<=l)(R:l<=h)(U:h<=(len:Int))(h3:len<=cap):
 (acX T (.slice a len cap) j o none).run P w= .ok (.slice (if cap=l.toNat then a else a.map (·.add (l.toNat*k))) (h.toNat - l.toNat) (cap - l.toNat)) w:=by
 simp [acX,ahi,run_underlying p,xq t I J R U h3,cN r]
theorem AD {T:Ι}{x:bK}{lo hi:Option bK}{e:cO}{xa:π}{lv hv:Option π}(hm:kh g m S w)(h:tn P m T x lo hi=some e)(hc:cp e.cond)(hx:VR g m S w x xa)(OP:OR g m S w lo lv)(NL:OR g m S w hi hv):bR P g m S w (acX T xa lv hv none) e:=by
 unfold tn at h;split at h;rename_i xs hu;split at h;rename_i l h' hl hh;obtain ⟨he,aa⟩:=dd h;rw [aa] at hc;obtain ⟨⟨h0,h1,h2⟩,_⟩:=hc;have Lz:=lz (g:=g) (m:=m) (S:=S) (w:=w) hx;subst Lz;have I:=si hl OP;have J:=ud hh NL;refine bR.mk he (r:= .string ⟨(cut xs l h').toArray⟩) ?_ rfl;have nK:(⟨xs.toArray⟩:ByteArray).size=ζ xs:=by simp [abF]
 have hb:=xq (P:=P) (w:=w) (b:=false) (len:=(⟨xs.toArray⟩:ByteArray).size) (cap:=(⟨xs.toArray⟩:ByteArray).size) I (by rw [nK];exact J) h0 h1 (by rw [nK];exact h2) (ς _);simp only [acX,ahi,Ϛ,run_underlying hu,ϋ,hb];simp [hb,cut,aeX];cases h;rename_i el hu;split at h;rename_i l h' hl hh;cases hb:(dm P el).isSome with
 |false=>simp [hb] at h
 |true=>
  rw [hb] at h;simp only [cond_true] at h;obtain ⟨sz,hs⟩:=abH.1 hb;obtain ⟨he,aa⟩:=dd h;rw [aa] at hc;obtain ⟨⟨h0,h1,h2⟩,_⟩:=hc;obtain ⟨a,e1⟩:=hx;subst e1;have I:=si hl OP;have J:=ud hh NL;have p:l=0:=agI (afe h1 h2) h0;have Sd:h'=0:=agI h2 (afe h0 h1);subst p;subst Sd;exact bR.mk he (jP (cap:=0) hu hs I J h0 h1 (Int.le_refl _) (ς _)) ⟨a,by simp⟩
 cases h;rename_i el t xs hu;split at h;rename_i l h' hl hh;cases hb:(dm P el==some t.size) with
 |false=>simp [hb] at h
 |true=>
  rw [hb] at h;simp only [cond_true] at h;have hs:dm P el=some t.size:=by simpa using hb
  obtain ⟨he,aa⟩:=dd h;rw [aa] at hc;obtain ⟨⟨h0,h1,h2⟩,_⟩:=hc;obtain ⟨a,cap,e1,hcap,sh⟩:=hx;have Lz:xa= .slice a (ζ xs) cap:=by simpa using e1
  subst Lz;have I:=si hl OP;have J:=ud hh NL;have hlen:=Ef (xs:=xs) h0 h1 h2;refine bR.mk he (jP hu hs I J h0 h1 h2 hcap) ?_;refine ⟨if cap=l.toNat then a else a.map (·.add (l.toNat*t.size)),cap - l.toNat,by rw [hlen],by rw [hlen];omega,λi hi=> ?_⟩;have Ca:i<h'.toNat - l.toNat:=by rw [hlen] at hi;exact hi
  have hj:l.toNat+i<ζ xs:=by omega
  obtain ⟨ad,es,ea,hS,fC,kK⟩:=sh (l.toNat+i) hj;subst ea;refine ⟨ad.add (l.toNat*t.size),es,by rw [if_neg (by omega)];rfl,by rw [fy];exact hS,λj u hu=> ?_,?_⟩;rw [add_add,<-Ϡ,<-ϓ];exact fC j u hu;rw [F5 hi hj];exact kK
 cases h;rename_i el c hu;split at h;rename_i t xs U;split at h;rename_i l h' hl hh;cases hb:(dm P el==some t.size) with
 |false=>simp [hb] at h
 |true=>
  rw [hb] at h;simp only [cond_true] at h;have hs:dm P el=some t.size:=by simpa using hb
  obtain ⟨he,aa⟩:=dd h;rw [aa] at hc;obtain ⟨⟨h0,h1,h2⟩,_⟩:=hc;have I:=si hl OP;have J:=ud hh NL;have gF:=hx.2.2 t xs (.inl U);unfold jb at gF;cases hg:g c with
  |none=>
   rw [hg] at gF;obtain ⟨a,ha⟩:=gF;subst ha;have jm:=hm c _ U;unfold jk at jm;have oE:g.f c []=none:=hg;rw [oE] at jm;have:xs=[]:=jm;subst this;have p:l=0:=by simp at h2;omega
   have Sd:h'=0:=by simp at h2;omega
   subst p;subst Sd;refine bR.mk he (jP (cap:=0) hu hs I J h0 h1 h2 (ς _)) ⟨hx.1,rfl,λt' iy o=> ?_⟩;exact ⟨by simp,.inl ⟨by simp,λ_=>hg,a,by simp⟩⟩
  |some b=>
   rw [hg] at gF;obtain ⟨cap,arr,e1,hcap,pt,lj,AE⟩:=gF;subst e1;refine bR.mk he (jP hu hs I J h0 h1 h2 hcap) ⟨hx.1,rfl,λt' iy o=> ?_⟩;have o:=dH.toSeq U o;rw [U] at o;injection o with o;injection o with ht R;subst ht;have R:=eq_of_heq R;subst R;refine ⟨by omega,?_⟩;by_cases nv:cap=l.toNat;by_cases p:l.toNat=0;right;refine ⟨b,0,arr,hg,?_,by omega,pt,by rw [p];simp,by omega⟩;rw [if_pos nv,p,abf]
   congr 1<;>omega
   left;refine ⟨by omega,λhz=>absurd hz p,some ⟨b,0,none⟩,?_⟩;rw [if_pos nv]
   congr 1<;>omega
   right;refine ⟨b,cap - l.toNat,arr,hg,?_,by omega,pt,by rw [show l.toNat+(cap - l.toNat)=cap from by omega];exact lj,by omega⟩;rw [if_neg nv];simp [cw]
 cases h;cases h;rename_i el c off len hu;split at h;rename_i t xs U;split at h;rename_i l h' hl hh;cases hb:(dm P el==some t.size) with
 |false=>simp [hb] at h
 |true=>
  rw [hb] at h;simp only [cond_true] at h;have hs:dm P el=some t.size:=by simpa using hb
  obtain ⟨he,aa⟩:=dd h;rw [aa] at hc;obtain ⟨⟨h0,h1,h2⟩,_⟩:=hc;have I:=si hl OP;have J:=ud hh NL;obtain ⟨hle,LA⟩:=hx.2.2 t xs (.inl U);rcases LA with ⟨Ix,Se,a,ha⟩|⟨b,cap,arr,hg,e1,hcap,pt,lj,AE⟩
  subst ha;subst Ix;have p:l=0:=by omega
  have Sd:h'=0:=by omega
  subst p;subst Sd;refine bR.mk he (jP (cap:=0) hu hs I J h0 h1 h2 (ς _)) ⟨hx.1,rfl,λt' iy o=> ?_⟩;have o:=dH.toSeq U o;rw [U] at o;injection o with o;injection o with ht R;subst ht;have R:=eq_of_heq R;subst R;exact ⟨by simp;omega,.inl ⟨by simp,λhz=>Se (by simpa using hz),a,by simp⟩⟩;subst e1;refine bR.mk he (jP hu hs I J h0 h1 h2 hcap) ⟨hx.1,rfl,λt' iy o=> ?_⟩;have o:=dH.toSeq U o;rw [U] at o;injection o with o;injection o with ht R;subst ht;have R:=eq_of_heq R;subst R;refine ⟨by omega,?_⟩;by_cases nv:cap=l.toNat;by_cases p:off+l.toNat=0;right;have Vx:off=0:=by omega
  have NM:l.toNat=0:=by omega
  refine ⟨b,0,arr,hg,?_,by omega,pt,by rw [p];simp,by omega⟩;rw [if_pos nv,Vx,NM];simp only [abf,Ϭ]
  congr 1<;>omega
  left;refine ⟨by omega,λhz=>absurd hz p,some ⟨b,off*t.size,none⟩,?_⟩;rw [if_pos nv]
  congr 1<;>omega
  right;refine ⟨b,cap - l.toNat,arr,hg,?_,by omega,pt,by rw [show off+l.toNat+(cap - l.toNat)=off+cap from by omega];exact lj,by omega⟩;rw [if_neg nv];simp [cw,ϓ]
 cases h;cases h;cases h
end
end Go.Ide
namespace Go.Ide
section
variable {P:Ο} {g:GM} {m:Mem} {S:Nat->Prop} {w:Ε}
theorem xt: ∀{fs:List Field} {j:List (Nat×Nat)},sd P fs=some j->fs.mapM (λf=>(P.info? f.type).map λi=>(f.offset,i.size))=some j
 |[],j,h=>by simp only [sd] at h;injection h with h;subst h;rfl
 |f::fs,j,h=>by
  simp only [sd,dm] at h;cases o:P.info? f.type with
  |none=>simp [o] at h
  |some i=>
   simp only [o,Option.map_some] at h;cases p:sd P fs with
   |none=>simp [p] at h
   |some l=>
    simp only [p] at h;injection h with h;subst h;simp [List.mapM_cons,o,xt p]
theorem kL (z:π)(j:(oe z).ok=true):cc (CR g m S w) (oe z).cells z.cells.toList:=by
 obtain ⟨o,e,h⟩:=jN j (qA (g:=g) (m:=m) (S:=S) (w:=w) z);rw [e];exact h
theorem AF {T:Ι}{parts:List (Nat×bK)}{vparts:Array (Nat×π)}{e:cO}(h:D6 P T parts=some e)(hp:cc (λ(p:Nat×bK) (q:Nat×π)=>p.1=q.1/\VR g m S w p.2 q.2) parts vparts.toList):bR P g m S w (Instr.build T vparts) e:=by
 unfold D6 at h;split at h;rename_i i fs J R;split at h;rename_i z pl U aa;cases r:(oe z).ok with
 |false=>simp [r] at h
 |true=>
  simp only [r,cond_true] at h;split at h;rename_i cs hf;obtain ⟨o,h1,h2⟩:=ue (λj=>pl[j]?) hf (kL (g:=g) (m:=m) (S:=S) (w:=w) z r) hp;refine bR.mk (bP h) (run_build w T vparts o ?_) ⟨o.toList,by simp,h2⟩;unfold age;simp only [J,R,U,xt aa];simpa using h1;cases h
 cases h;rename_i i len el J R;split at h;rename_i z n U I;cases r:(oe z).ok with
 |false=>simp [r] at h
 |true=>
  simp only [r,cond_true] at h;split at h;rename_i cs hf;obtain ⟨o,h1,h2⟩:=ue (λj=>some (j*n,n)) hf (kL (g:=g) (m:=m) (S:=S) (w:=w) z r) hp;refine bR.mk (bP h) (run_build w T vparts o ?_) ⟨o.toList,by simp,h2⟩;unfold dm at I;cases t:P.info? el with
  |none=>simp [t] at I
  |some ie=>
   simp [t] at I;unfold age;simp only [J,R,U,t,I];simpa using h1
  cases h
 cases h;cases h
theorem Hd {op:UnOp}{x:bK}{e:cO}{j:π}(h:UG op x=some e)(o:VR g m S w x j):bR P g m S w (ahk op j) e:=by
 unfold UG at h;split at h;rename_i b;have:=oM (g:=g) (m:=m) (S:=S) (w:=w) o;subst this;exact bR.mk (bP h) (r:= .bool (!b)) (by simp [ahk]) rfl;rename_i k n;have:=dV (g:=g) (m:=m) (S:=S) (w:=w) o;subst this;exact bR.mk (bP h) (r:= .int k (k.wrap (0 - n))) (by simp [ahk,aej]) rfl;cases h
theorem xu {T U:Ι}{x:bK}{e:cO}{p:π}(h:xh P T U x=some e)(t:VR g m S w x p):bR P g m S w (convert T U p) e:=by
 unfold xh at h;split at h;rename_i I k J n j o;have:=dV (g:=g) (m:=m) (S:=S) (w:=w) t;subst this;exact bR.mk (bP h) (r:= .int k (k.wrap n)) (by simp [convert,run_underlying j,run_underlying o,Conv.intToInt]) rfl;rename_i s j o;have:=lz (g:=g) (m:=m) (S:=S) (w:=w) t;subst this;exact bR.mk (bP h) (r:= .string ⟨List.toArray s⟩) (by simp [convert,run_underlying j,run_underlying o]) rfl;cases h
theorem xw {x:bK}{i:Nat}{e:cO}{t:π}(h:tZ x i=some e)(I:VR g m S w x t):bR P g m S w (agK t i) e:=by
 unfold tZ at h;split at h;rename_i T;split at h;rename_i U cs ht;split at h;rename_i v j;obtain ⟨vs,J,p⟩:=I;subst J;obtain ⟨u,R,o⟩:=p.get i _ ht;refine bR.mk (bP h) (r:=u) (by simp [agK,R]) ?_;unfold NH at j;unfold CV at o;split at j;injection j with j;subst j;exact o;injection j with j;subst j;exact o;cases j;cases h;cases h;cases h
theorem Eg {x y:bK}{e:cO}{j o:π}{Ts:Array Ι}{T:Ι}(h:OJ x y=some e)(p:VR g m S w x j)(t:VR g m S w y o):bR P g m S w (acY Ts T #[j,o]) e:=by
 unfold OJ at h;split at h;rename_i k a U b;split at h;rename_i I;subst I;have J:=dV (g:=g) (m:=m) (S:=S) (w:=w) p;have R:=dV (g:=g) (m:=m) (S:=S) (w:=w) t;subst J;subst R;exact bR.mk (bP h) (r:= .int k (if b<a then b else a)) (by simp [acY,Builtin.min2]) rfl;cases h;cases h
theorem Eh {x y:bK}{e:cO}{j o:π}{Ts:Array Ι}{T:Ι}(h:OL x y=some e)(p:VR g m S w x j)(t:VR g m S w y o):bR P g m S w (aeG Ts T #[j,o]) e:=by
 unfold OL at h;split at h;rename_i k a U b;split at h;rename_i I;subst I;have J:=dV (g:=g) (m:=m) (S:=S) (w:=w) p;have R:=dV (g:=g) (m:=m) (S:=S) (w:=w) t;subst J;subst R;exact bR.mk (bP h) (r:= .int k (if b>a then b else a)) (by simp [aeG,Builtin.max2]) rfl;cases h;cases h
end
section
variable {cx:Cx} {g:GM} {st:St} {a:Act} {w:Ε}
def ph (cx:Cx)(st:St)(a:Act)(e:cO)(val:π)(w':Ε):Prop:=
 ∃g',cT cx g' (st.jc (e.lq++e.new++st.mem) (st.nx+e.new.length)) a w'/\VR g' (e.lq++e.new++st.mem) (cx.safe g' (e.lq++e.new++st.mem) w') w' e.val val
def gG (cx:Cx)(st:St)(a:Act)(w:Ε)(s:Sem π)(e:cO):Prop:=
 ∃val w',s.run cx.P w= .ok val w'/\ph cx st a e val w'
theorem bR.runs {s:Sem π}{e:cO}(h:cT cx g st a w)(p:bR cx.P g st.mem (cx.safe g st.mem w) w s e):gG cx st a w s e:=by
 obtain ⟨j,o,r,t,I⟩:=p;refine ⟨r,w,t,g,?_,?_⟩;rw [j,o];exact h;rw [j,o];exact I
theorem ph.new {e:cO}{ch:Chunk}{arr:Array π}{val:π}{w':Ε}(h:cT cx g st a w)(p:fw st.mem e.new)(j:e.new=[(st.nx,ch)]/\e.lq=[])(r:bU [] w w')(t:dA w' w.heap.size arr)(I: ∀g':GM,(∀k,lk k st.mem≠none->g'.f k=g.f k)->g'.f st.nx=pW (some w.heap.size)-> ∀S',(∀b,cx.safe g st.mem w b->S' b)->jk g' ((st.nx,ch)::st.mem) S' w' (pW (some w.heap.size)) ch)(J: ∀g':GM,g' st.nx=some w.heap.size-> ∀S',VR g' ((st.nx,ch)::st.mem) S' w' e.val val):ph cx st a e val w':=by
 obtain ⟨g',o,R,_⟩:=h.new (p (st.nx,ch) (by rw [j.1];simp)) r t I;refine ⟨g',?_,?_⟩;rw [j.1,j.2];exact R;rw [j.1,j.2];exact J g' (by show g'.f st.nx []=_;rw [o];rfl) _
theorem He {ch:Chunk}{g':GM}{S':Nat->Prop}{w':Ε}(R:lk st.nx st.mem=none)(T:bU [] w w')(hg: ∀k,lk k st.mem≠none->g'.f k=g.f k)(hS: ∀b,cx.safe g st.mem w b->S' b):
 iO g g' st.mem ((st.nx,ch)::st.mem) (cx.safe g st.mem w) S' w w':=by
 have r: ∀c,lk c st.mem≠none->lk c ((st.nx,ch)::st.mem)=lk c st.mem:=λc j=>by
  rw [bO,if_neg (λe=>j (by rw [e];exact R))]
 refine ⟨⟨λb p=>⟨hS b p,T.block b p.1 (by simp)⟩,λc j=>⟨by rw [r c j];exact j,congrFun (hg c j) []⟩,λc t J j I=>⟨J,by unfold dH at I⊢;rw [<-r c j];exact I,rfl⟩,λc t J b arr j I U p=>⟨arr,p.bJ (T.block b p.lt (by simp)),rfl⟩⟩,
  hg,λc t J j I=>⟨J,by rw [<-r c j];exact I,cL.refl _ _,λi o b arr U p=>⟨arr,p.bJ (T.block b p.lt (by simp)),rfl⟩⟩⟩
theorem Ei {v:bK}{e:cO}{p:π}{T:Ι}(h:cT cx g st a w)(hw:fw st.mem e.new)(j:Lu st.nx v=some e)(hv:VR g st.mem (cx.safe g st.mem w) w v p):gG cx st a w (adZ T p) e:=by
 have key: ∀cs:List bI,v.ok=true->v.cells=cs->e=⟨.one (.ptr st.nx 0),[(st.nx,.box cs)],[],[]⟩->gG cx st a w (adZ T p) e:=by
  intro cs I J R;obtain ⟨vs,U,r⟩:=jN I hv;subst R;refine ⟨.pointer (some ⟨w.heap.size,0,none⟩),w.alloc (.cells p.cells T),by simp [adZ,newVar,newRow],?_⟩;refine ph.new h hw ⟨rfl,rfl⟩ (bU.alloc _ _ _) (dA.new w _ T) (λg' hg t S' hS=> ?_) (λg' t S'=>⟨by simp [bO],w.heap.size,t,rfl⟩);refine ⟨w.heap.size,p.cells,rfl,dA.new w _ T,?_⟩;rw [U,<-J];exact r.mono λ_ _=>CR.stays (He (hw (st.nx,.box cs) (by simp)) (bU.alloc _ _ _) hg hS)
 cases v with
 |one c=>
  simp only [Lu] at j;cases o:c.ok with
  |false=>simp [o] at j
  |true=>
   simp only [o,cond_true] at j;injection j with j;exact key [c] o rfl j.symm
 |agg cs=>
  simp only [Lu] at j;cases o:cs.all bI.ok with
  |false=>simp [o] at j
  |true=>
   simp only [o,cond_true] at j;injection j with j;exact key cs o rfl j.symm
 |AA=>cases j
 |Ce=>cases j
 |dS=>cases j
theorem AG {T:Ι}{e:cO}(h:cT cx g st a w)(r:fw st.mem e.new)(j:D5 cx.P st.nx T=some e):gG cx st a w (adw T true (.tuple #[])) e:=by
 unfold D5 at j;split at j;rename_i i t;split at j;rename_i z I;cases o:(oe z).ok with
 |false=>simp [o] at j
 |true=>
  simp only [o,cond_true] at j;injection j with j;subst j;refine ⟨.pointer (some ⟨w.heap.size,0,none⟩),w.alloc (.cells z.cells T),by simp [adw,zeroValue,typeInfo,t,I,newVar,newRow],?_⟩;refine ph.new h r ⟨rfl,rfl⟩ (bU.alloc _ _ _) (dA.new w _ T) (λg' J p S' R=> ?_) (λg' p S'=>⟨by simp [bO],w.heap.size,p,rfl⟩);exact ⟨w.heap.size,z.cells,rfl,dA.new w _ T,kL z o⟩
 cases j;cases j
def Iz (nx:Nat)(t:Ty)(v:bK):Option cO:=
 bif v.ok&&t.top then (match impl [] t v.cells with
  |some (x,[])=>some ⟨.one (.dn nx 0 t.size 0),[(nx,.seq t [x])],[],[]⟩
  |_=>none) else none
theorem Ci {v:bK}{t:Ty}{e:cO}{J:π}{T:Ι}(h:cT cx g st a w)(hw:fw st.mem e.new)(p:Iz st.nx t v=some e)(R:VR g st.mem (cx.safe g st.mem w) w v J):gG cx st a w (adZ T J) e:=by
 unfold Iz at p;cases o:(v.ok&&t.top) with
 |false=>rw [o] at p;cases p
 |true=>
  rw [o] at p;simp only [cond_true] at p;simp only [κ] at o;split at p;rename_i x hx;injection p with p;subst p;obtain ⟨vs,U,r⟩:=jN o.1 R;refine ⟨.pointer (some ⟨w.heap.size,0,none⟩),w.alloc (.cells J.cells T),by simp [adZ,newVar,newRow],?_⟩;refine ph.new h hw ⟨rfl,rfl⟩ (bU.alloc _ _ _) (dA.new w _ T) (λg' hg I S' hS=> ?_) (λg' I S'=>⟨by simp [bO],w.heap.size,I,by simp⟩);refine ⟨J.cells,dA.new w _ T,eU.lr o.2 λi hi=> ?_⟩;have aa:i=0:=by simp at hi;exact hi
  subst aa;obtain ⟨v1,v2,e1,r1,r2⟩:=jB (S2:=cx.safe g st.mem w) (λ_ h=>h) iz.nil t hx r;have:v2=[]:=by cases v2 with|nil=>rfl|cons=>exact r2.elim
  subst this;rw [ϲ] at e1;refine ⟨vs,λj v R=> ?_,by rw [e1];exact cn.bJ (λb hb=>⟨hS b hb,aar w _ b hb.1⟩) t v1 x r1⟩;rw [abf,Ψ,<-ϥ,U];exact R;cases p
def AH (P:Ο)(nx:Nat)(T:Ι)(t:Ty):Option cO:=
 match P.info? T with
 |some i=>(match i.zero with
  |some z=>bif (oe z).ok&&t.top then (match impl [] t (oe z).cells with
   |some (x,[])=>some ⟨.one (.dn nx 0 t.size 0),[(nx,.seq t [x])],[],[]⟩
   |_=>none) else none
  |none=>none)
 |none=>none
theorem zh {T:Ι}{t:Ty}{e:cO}(h:cT cx g st a w)(hw:fw st.mem e.new)(o:AH cx.P st.nx T t=some e):gG cx st a w (adw T true (.tuple #[])) e:=by
 unfold AH at o;split at o;rename_i i I;split at o;rename_i z hz;cases p:((oe z).ok&&t.top) with
 |false=>rw [p] at o;cases o
 |true=>
  rw [p] at o;simp only [cond_true] at o;simp only [κ] at p;split at o;rename_i x hx;injection o with o;subst o;refine ⟨.pointer (some ⟨w.heap.size,0,none⟩),w.alloc (.cells z.cells T),by simp [adw,zeroValue,typeInfo,I,hz,newVar,newRow],?_⟩;refine ph.new h hw ⟨rfl,rfl⟩ (bU.alloc _ _ _) (dA.new w _ T) (λg' hg r S' hS=> ?_) (λg' r S'=>⟨by simp [bO],w.heap.size,r,by simp⟩);refine ⟨z.cells,dA.new w _ T,eU.lr p.2 λi I=> ?_⟩;have J:i=0:=by simp at I;exact I
  subst J;obtain ⟨v1,R,U,r1,r2⟩:=jB (g:=⟨λ_ _=>none⟩) (m:=[]) (S:=S') (S2:=S') (w:=w.alloc (.cells z.cells T)) (λ_ h=>h) iz.nil t hx (kL z p.1);have:R=[]:=by cases R with|nil=>rfl|cons=>exact r2.elim
  subst this;rw [ϲ] at U;refine ⟨z.cells.toList,λj v hv=> ?_,by rw [U];exact r1⟩;rw [abf,Ψ,<-ϥ];exact hv;cases o
 cases o;cases o
end
end Go.Ide
namespace Go.Ide
theorem Ty.size_pos: ∀(t:Ty),0<t.size
 | .int _=>aau
 | .dP _=>aau
 | .bool=>aau
 | .str=>aau
 | .sl _=>aau
 | .bx _=>aau
 | .cl _ _=>aau
 | .own _=>aau
 | .pair a _=>ϕ (Ty.size_pos a) (Nat.le_add_right _ _)
 | .st t=>Ty.size_pos t
theorem AI {sz:Nat}{Q:Nat->List π->Prop}: ∀(n:Nat),(∀i,i<n-> ∃es,es.length=sz/\Q i es)->
 ∃l:List π,l.length=n*sz/\ ∀i,i<n-> ∃es,es.length=sz/\Q i es/\ ∀j,j<sz->l[i*sz+j]? =es[j]?
 |0,_=>⟨[],by simp,λi t=>by omega⟩
 |n+1,h=>by
  obtain ⟨l,I,T⟩:=AI n λi t=>h i (by omega);obtain ⟨es,J,o⟩:=h n (by omega);refine ⟨l++es,by simp [I,J,ϓ],λi t=> ?_⟩;by_cases p:i=n;subst p;refine ⟨es,J,o,λj R=> ?_⟩;rw [Κ (by omega)]
  congr 1
  omega;obtain ⟨r,U,h2,h3⟩:=T i (by omega);refine ⟨r,U,h2,λj R=> ?_⟩;rw [Ν];exact h3 j R;rw [I];have:(i+1)*sz<=n*sz:=Τ _ (by omega);rw [ϓ] at this;omega
section
variable {P:Ο} {g:GM} {m:Mem} {S S2:Nat->Prop} {w:Ε}
def eu (S:Nat->Prop)(w:Ε)(t:Ty)(xs:List t.D)(l:List π):Prop:=
 ∀i (h:i<xs.length),∃es,(∀j,j<t.size->l[i*t.size+j]? =es[j]?)/\cn S w t es xs[i]
theorem eu.toR {t:Ty}{xs:List t.D}{arr:Array π}(h:eu S w t xs arr.toList):Cf S w t xs arr:=λi r=>by
 obtain ⟨es,I,o⟩:=h i r;refine ⟨es,λj v p=> ?_,o⟩;have J:j<t.size:=by rw [<-cn.len t es _ o];exact (ω.1 p).1
 rw [<-ϥ,I j J];exact p
theorem Cf.toL {t:Ty}{xs:List t.D}{arr:Array π}(h:Cf S w t xs arr):eu S w t xs arr.toList:=λi r=>by
 obtain ⟨es,I,p⟩:=h i r;refine ⟨es,λj J=> ?_,p⟩;have o:j<es.length:=by rw [cn.len t es _ p];exact J
 rw [ϥ,I j es[j] (Γ o)];rw [Γ o]
theorem eu.app {t:Ty}{xs ys:List t.D}{o p rest:List π}(h1:eu S w t xs o)(hl:o.length=xs.length*t.size)(h2:eu S w t ys p)(Vy:p.length=ys.length*t.size):
 eu S w t (xs++ys) (o++p++rest):=λi hi=>by
 by_cases T:i<xs.length;obtain ⟨es,r,I⟩:=h1 i T;refine ⟨es,λj J=> ?_,by rw [List.getElem_append_left T];exact I⟩;have:(i+1)*t.size<=xs.length*t.size:=Τ _ (by omega);rw [ϓ] at this;rw [ό,Ν (by omega)];exact r j J;have R:i - xs.length<ys.length:=by rw [ξ] at hi;omega
 obtain ⟨es,r,I⟩:=h2 (i - xs.length) R;refine ⟨es,λj J=> ?_,by rw [List.getElem_append_right (by omega)];exact I⟩;have U:i*t.size=(i - xs.length)*t.size+xs.length*t.size:=by rw [<-ϓ];congr 1;omega
 have:(i - xs.length+1)*t.size<=ys.length*t.size:=Τ _ (by omega);rw [ϓ] at this;rw [ό,Κ (by omega),Ν (by omega)];rw [<-r j J]
 congr 1
 omega
theorem eu.take {t:Ty}{xs:List t.D}{l:List π}{n:Nat}(h:eu S w t xs l)(R:n<=xs.length):eu S w t (xs.take n) (l.take (n*t.size)):=λi o=>by
 have p:i<n:=by rw [ώ] at o;omega
 obtain ⟨es,r,I⟩:=h i (by omega);refine ⟨es,λj J=> ?_,by rw [List.getElem_take];exact I⟩;have:(i+1)*t.size<=n*t.size:=Τ _ (by omega);rw [ϓ] at this;rw [ϒ,if_pos (by omega)];exact r j J
theorem cn.AI {t:Ty}{xs:List t.D}{v:π}(h:cn S w (.sl t) [v] xs):
 ∃a cap p,v= .slice a xs.length cap/\xs.length<=cap/\p.length=xs.length*t.size/\eu S w t xs p/\(∀u∈p,u.oneCell'=true)/\
  (xs=[]\/ ∃o,a=some o/\ ∀k u,p[k]? =some u->w.cell? (o.add k)=some u):=by
 obtain ⟨a,cap,e,hc,sh⟩:=h;have e:v= .slice a (ζ xs) cap:=by simpa using e
 subst e;obtain ⟨l,hl,hq⟩:=Ide.AI (sz:=t.size) (Q:=λi es=> ∃h:i<ζ xs,∃o,a=some o/\(∀j u,es[j]? =some u->w.cell? (o.add (i*t.size+j))=some u)/\cn S w t es xs[i]) (ζ xs) λi T=>by
  obtain ⟨o,es,R,_,h1,U⟩:=sh i T;exact ⟨es,cn.len t es _ U,T,o,R,h1,U⟩
 have nK:=t.size_pos;have I: ∀k u,l[k]? =some u-> ∃o,a=some o/\w.cell? (o.add k)=some u/\u.oneCell'=true:=by
  intro k u hk;have hlt:k<ζ xs*t.size:=by rw [<-hl];exact (ω.1 hk).1
  have T:k/t.size<ζ xs:=afv (by rw [aaB];exact hlt);obtain ⟨es,he,⟨_,o,R,h1,U⟩,h3⟩:=hq (k/t.size) T;have OQ:k%t.size<t.size:=abq _ nK;have sY:k/t.size*t.size+k%t.size=k:=by rw [aaB];exact agL k t.size
  have h4:=h3 (k%t.size) OQ;rw [sY,hk] at h4;refine ⟨o,R,?_,?_⟩;have:=h1 (k%t.size) u h4.symm;rw [sY] at this;exact this;exact cn.nJ t U u (aaN h4.symm)
 refine ⟨a,cap,l,rfl,hc,hl,λi T=> ?_,λu hu=> ?_,?_⟩;obtain ⟨es,he,⟨_,o,R,h1,U⟩,h3⟩:=hq i T;exact ⟨es,h3,U⟩;obtain ⟨k,hk,e⟩:=aaV hu;obtain ⟨_,_,_,h⟩:=I k u (by rw [Γ hk,e]);exact h;cases hx:xs with
 |nil=>exact .inl rfl
 |cons x r=>
  right;obtain ⟨o,es,R,_⟩:=sh 0 (by rw [hx];simp);refine ⟨o,R,λk u hk=> ?_⟩;obtain ⟨Lh,J,h,_⟩:=I k u hk;rw [R] at J;injection J with J;subst J;exact h
theorem bU.setCell (w:Ε)(p:ab6)(v:π):bU [p.block] w (w.setCell p v):=
 ⟨rfl,rfl,rfl,by simp,λq _ o=>ab4 w p v q (by simpa using o),λb arr j=>by
  by_cases e:b=p.block;subst e;obtain ⟨T,r,t,I,J⟩:=j;refine ⟨if p.spot.isSome then arr else arr.setIfInBounds p.off v,⟨T,r,t,by simp [aeY,aa5,I],?_⟩,by split<;>simp⟩;split<;>simpa using J;exact ⟨arr,j.bJ (ab4 w p v b e),rfl⟩⟩
theorem eC {b:Nat}: ∀(vs:List π) (o i:Nat) (w:Ε) (arr:Array π),dA w b arr->o+i+vs.length<=arr.size->(∀v∈vs,v.oneCell'=true)->
 ∃w' j,(storeCells ⟨b,o,none⟩ vs i).run P w= .ok () w'/\dA w' b j/\j.toList=arr.toList.take (o+i)++vs++arr.toList.drop (o+i+vs.length)/\bU [b] w w'/\w'.heap.size=w.heap.size
 |[],o,i,w,arr,r,_,_=>⟨w,arr,rfl,r,by simp,bU.refl _ _,rfl⟩
 |v::vs,o,i,w,arr,r,I,h1=>by
  simp only [Η] at I;have p:o+i<arr.size:=by omega
  have J:(store ((⟨b,o,none⟩:ab6).add i) v).run P w= .ok () (w.setCell ⟨b,o+i,none⟩ v):=by
   rw [cw,run_store P w _ v _ (h1 v (by simp)),r.cell,aal p];have R:=r.OE p;simp [R]
  have U:dA (w.setCell ⟨b,o+i,none⟩ v) b (arr.setIfInBounds (o+i) v):=by
   obtain ⟨T,lo,hi,hh,R⟩:=r;exact ⟨T,lo,hi,by simp [aeY,aa5,hh],by simpa using R⟩
  obtain ⟨w',j,e,k1,k2,k3,k4⟩:=eC vs o (i+1) (w.setCell ⟨b,o+i,none⟩ v) _ U (by simp;omega) (λx hx=>h1 x (by simp [hx]));refine ⟨w',j,?_,k1,?_,bU.trans (bU.setCell w ⟨b,o+i,none⟩ v) k3,by rw [k4];simp⟩;simp only [storeCells,Ϛ,J,ϋ,e];have t:o+i<arr.toList.length:=by simpa using p
  rw [k2];simp only [ael,Η];rw [aft (by omega),show o+(i+1)=o+i+1 from by omega,ag0,adS t,afd _ _ (by simp;omega)];simp [show o+i+1+vs.length=o+i+(vs.length+1) from by omega,aas (ahL p)]
theorem eV {size n:Nat}{a:Option ab6}{len cap:Nat}{cs:List π}(p:cs.length=n*size)(h:n=0\/ ∃o,a=some o/\ ∀j v,cs[j]? =some v->w.cell? (o.add j)=some v):
 (aaO size n (.slice a len cap)).run P w= .ok cs.toArray w:=by
 rcases h with rfl|⟨o,rfl,h⟩
 have:cs=[]:=ϸ (by simpa using p);subst this;cases a with
 |none=>simp [aaO]
 |some o=>simp [aaO,loadCells,loadCellsFrom]
 exact run_firstCells_some w size n o len cap cs p h
theorem uf {t ty e:Ι}{i:TypeInfo}{z:π}(ht:P.underlying t=some (.slice e))(U:P.info? e=some i)(hz:i.zero=some z){base:Option ab6}{n cap:Nat}{olds:List π}(R:olds.length=n*i.size)(ho:n=0\/ ∃r,base=some r/\ ∀j v,olds[j]? =some v->w.cell? (r.add j)=some v){a:Option ab6}{k c:Nat}{o:List π}(hl:o.length=k*i.size)(hn:k=0\/ ∃r,a=some r/\ ∀j v,o[j]? =some v->w.cell? (r.add j)=some v)(hg:cap<n+k)(hb:(n+k)*i.bytes<=140737488355328)(Z0:n+k<=9223372036854775807):
 (Ϟ #[t,t] ty #[.slice base n cap,.slice a k c]).run P w=
  .ok (.slice (some ⟨w.heap.size,0,none⟩) (n+k) (grownCap w (n+k) cap e))
   (w.drew.alloc (.cells (olds.toArray++o.toArray++Ϧ z.cells (grownCap w (n+k) cap e - (n+k))) e)):=by
 have p: ¬(n+k<=cap):=by omega
 have I: ¬(9223372036854775807<((n:Int)+(k:Int))):=by omega
 have YQ:=growslice_fits (old:=cap) hg hb;have J: ¬(281474976710656<Builtin.nextslicecap (n+k) cap*i.bytes):=by omega
 have hf:=eV (P:=P) (w:=w.drew) (len:=k) (cap:=c) hl hn;have T:=eV (P:=P) (w:=w.drew) (len:=n) (cap:=cap) R ho;simp [Ϟ,run_underlying ht,sizeOf,typeInfo,zeroValue,U,hz,abg,p,I,J,Question.forced,hf,T,newRow,grownCap]
 congr 2
 apply aa9;simp [ό]
theorem ug {t ty e:Ι}{i:TypeInfo}(ht:P.underlying t=some (.slice e))(T:P.info? e=some i){b n cap:Nat}{arr:Array π}(U:dA w b arr){a:Option ab6}{k c:Nat}{o:List π}(J:o.length=k*i.size)(hn:k=0\/ ∃R,a=some R/\ ∀j v,o[j]? =some v->w.cell? (R.add j)=some v)(h1: ∀u∈o,u.oneCell'=true)(r:n+k<=cap)(I:(n+k)*i.size<=arr.size):
 ∃w' p,(Ϟ #[t,t] ty #[.slice (some ⟨b,0,none⟩) n cap,.slice a k c]).run P w= .ok (.slice (some ⟨b,0,none⟩) (n+k) cap) w'/\dA w' b p/\
  p.toList=arr.toList.take (n*i.size)++o++arr.toList.drop (n*i.size+o.length)/\bU [b] w w'/\w'.heap.size=w.heap.size:=by
 have hf:=eV (P:=P) (w:=w) (len:=k) (cap:=c) J hn;obtain ⟨w',p,e,k1,k2,k3,k4⟩:=eC (P:=P) o (n*i.size) 0 w arr U (by rw [J,Ϭ,<-ϓ];exact I) h1;refine ⟨w',p,?_,k1,by simpa using k2,k3,k4⟩;have ha:(⟨b,0,none⟩:ab6).add (n*i.size)=⟨b,n*i.size,none⟩:=by rw [cw];simp
 simp [Ϟ,run_underlying ht,sizeOf,typeInfo,T,abg,r,hf,ha,e]
theorem qC {t ty e:Ι}{i:TypeInfo}(ht:P.underlying t=some (.slice e))(j:P.info? e=some i){base a:Option ab6}{c:Nat}:
 (Ϟ #[t,t] ty #[.slice base 0 0,.slice a 0 c]).run P w= .ok (.slice base 0 0) w:=by
 have o:=eV (P:=P) (w:=w) (size:=i.size) (n:=0) (a:=a) (len:=0) (cap:=c) (cs:=[]) (by simp) (.inl rfl);cases base<;>simp [Ϟ,run_underlying ht,sizeOf,typeInfo,j,abg,o,storeCells]
end
end Go.Ide
namespace Go.Ide
section
variable {P:Ο} {g:GM} {m:Mem} {S S2:Nat->Prop} {w:Ε}
theorem eu.nJ {t:Ty}{xs:List t.D}{l:List π}(h:eu S w t xs l)(U:l.length=xs.length*t.size): ∀u∈l,u.oneCell'=true:=by
 intro u r;obtain ⟨k,I,e⟩:=aaV r;have j:=t.size_pos;have J:k/t.size<xs.length:=afv (by rw [aaB];omega);obtain ⟨es,R,T⟩:=h (k/t.size) J;have p:=R (k%t.size) (abq _ j);have o:k/t.size*t.size+k%t.size=k:=by rw [aaB];exact agL k t.size
 rw [o,Γ I,e] at p;exact cn.nJ t T u (aaN p.symm)
structure Src (S:Nat->Prop)(w:Ε)(t:Ty)(ys:List t.D)(v:π)(news:List π):Prop where
 len:news.length=ys.length*t.size
 FX:eu S w t ys news
 val: ∃a cap,v= .slice a ys.length cap/\(ys.length=0\/ ∃ad,a=some ad/\ ∀k u,news[k]? =some u->w.cell? (ad.add k)=some u)
theorem F6 {t:Ty}{xs:List t.D}{b off len:Nat}{arr:Array π}{cap:Nat}(J:dA w b arr)(R:Cf S w t xs arr)(T:off+len<=xs.length)(p:(off+len)*t.size<=arr.size):
 Src S w t ((xs.drop off).take len) (.slice (some ⟨b,off*t.size,none⟩) len cap) ((arr.toList.drop (off*t.size)).take (len*t.size)):=by
 have o:((xs.drop off).take len).length=len:=by simp;omega
 refine ⟨?_,λi I=> ?_,some ⟨b,off*t.size,none⟩,cap,by rw [o],.inr ⟨_,rfl,λk u r=> ?_⟩⟩;rw [o];simp;rw [ϓ] at p;omega;have U:i<len:=by rw [o] at I;exact I
 obtain ⟨es,k1,k2⟩:=R.toL (off+i) (by omega);refine ⟨es,λj hj=> ?_,by simpa using k2⟩;have:(i+1)*t.size<=len*t.size:=Τ _ (by omega);rw [ϓ] at this;rw [ϒ,if_pos (by omega),aaT,<-k1 j hj,ϓ,Ϡ];rw [cw,J.cell];rw [ϒ] at r;split at r;simpa using r;cases r
theorem Src.nil {t:Ty}{a:Option ab6}{c:Nat}:Src S w t ([]:List t.D) (.slice a 0 c) []:=
 ⟨by simp,λi j=>by simp at j,a,c,rfl,.inl rfl⟩
theorem pY: ∀(t:Ty),t.j3=true->t.er=t
 | .own _,h=>by cases h
 | .sl t,h=>congrArg Ty.sl (pY t h)
 | .bx t,h=>congrArg Ty.bx (pY t h)
 | .cl _ _,_=>rfl
 | .pair a b,h=>by
  simp only [Ty.j3,κ] at h;simp only [Ty.er,pY a h.1,pY b h.2]
 | .st t,h=>congrArg Ty.st (pY t h)
 | .int _,_=>rfl
 | .dP _,_=>rfl
 | .bool,_=>rfl
 | .str,_=>rfl
theorem sk: ∀(t:Ty),t.top=true->t.j3=true
 | .own _,h=>by cases h
 | .sl t,h=>h
 | .bx t,h=>h
 | .cl _ _,_=>rfl
 | .pair a b,h=>by
  simp only [Ty.top,κ] at h;simp only [Ty.j3,sk a h.1,sk b h.2,Bool.and_self]
 | .st t,h=>sk t h
 | .int _,_=>rfl
 | .dP _,_=>rfl
 | .bool,_=>rfl
 | .str,_=>rfl
theorem OS (t:Ty){e:Ty}(h:t.top=true)(j:t.er=e):t=e:=by
 rw [<-j,pY t (sk t h)]
theorem AJ (hm:kh g m S w){t:Ty}{x:bK}{ys:List t.D}{v:π}(h:kf m (.sl t) x=some ys)(aa:nX m x=true)(ht:t.top=true)(hr:VR g m S w x v): ∃I,Src S w t ys v I:=by
 unfold kf at h;split at h;rename_i c uh;split at h;rename_i y U;injection h with h;subst h;simp only [impl,du] at U;split at U;rename_i z p;injection U with U;injection U with U _;subst U;have hr:CR g m S w c v:=hr;cases c with
 |bG t' q=>
  simp only [dT] at p;split at p;rename_i e;subst e;injection p with p;subst p;obtain ⟨a,cap,I,e1,h1,h2,h3,h4,h5⟩:=cn.AI (xs:=q) (t:=t) hr;refine ⟨I,h2,h3,a,cap,e1,?_⟩;rcases h5 with h5|h5
  left;rw [h5];rfl;exact .inr h5;cases p
 |all c=>
  simp only [dT] at p;split at p;rename_i e' xs hl;split at p;rename_i J;subst J;injection p with p;subst p;have T:=hr.2.2 e' xs (.inl hl);have r:=hm c _ hl;unfold jb at T;unfold jk at r;have T:match g.f c [] with|none=>_|some b=>_:=T
  cases hg:g.f c [] with
  |none=>
   rw [hg] at T r;obtain ⟨a,ha⟩:=T;have:xs=[]:=r;subst this;subst ha;exact ⟨[],Src.nil⟩
  |some b=>
   rw [hg] at T r;obtain ⟨cap,arr,e1,k1,k2,k3,k4⟩:=T;obtain ⟨eB,ab,R⟩:=r;have:=k2.eq ab;subst this;subst e1;have:=F6 (off:=0) (len:=xs.length) (cap:=cap) k2 (R.FX ht) (by omega) (by rw [Ψ];exact ϫ (Τ _ k1) k3);simp only [List.drop_zero,aan,abf] at this;exact ⟨_,this⟩
  rename_i iH;split at p;rename_i J;simp only [nX,hl] at aa;exact absurd (OS e' aa J) iH;cases p;cases p
 |row c i o=>cases aa
 |zf c i o j sz off=>simp [dT] at p
 |ref c off len=>
  simp only [dT] at p;split at p;rename_i e' xs hl;split at p;rename_i J;subst J;injection p with p;subst p;obtain ⟨hle,T⟩:=hr.2.2 e' xs (.inl hl);have r:=hm c _ hl;unfold jk at r;rcases T with ⟨h0,_,a,ha⟩|⟨b,cap,arr,hg,e1,k1,k2,k3,k4⟩
  subst h0;subst ha;have:(xs.drop off).take 0=([]:List e'.D):=rfl;exact ⟨[],by simp [cR],λi hi=>by simp [cR] at hi,a,0,by simp [cR],.inl (by simp [cR])⟩;have hg:g.f c []=some b:=hg;rw [hg] at r;obtain ⟨eB,ab,R⟩:=r;have:=k2.eq ab;subst this;have R:=R.FX ht;subst e1;exact ⟨_,F6 (cap:=cap) k2 R hle (ϫ (Τ _ (by omega)) k3)⟩;cases p;cases p
 |bH=>
  simp only [dT] at p;injection p with p;subst p;obtain ⟨a,ha⟩:=hr;subst ha;exact ⟨[],Src.nil⟩
 |ptr c off=>simp [dT] at p
 |dn c i sz off=>simp [dT] at p
 |ip t x off=>simp [dT] at p
 |fn f=>simp [dT] at p
 |ji f t' x=>simp [dT] at p
 |cls f ks=>simp [dT] at p
 |zP f t' x=>simp [dT] at p
 |fP c=>simp [dT] at p
 |dS=>simp [dT] at p
 |bad=>simp [dT] at p
 cases U;cases h;rename_i uh;cases uh;cases h
def Vz (g:GM)(m:Mem)(S:Nat->Prop)(w:Ε)(t:Ty)(xs:List t.D)(up:Mem)(v:π):Prop:=
 (up=[]\/ ∃c j,up=[(c,.gone)]/\lk c m=some j/\j≠ .gone)/\
 ((xs=[]/\ ∃a,v= .slice a 0 0)\/
  ∃c j b cap arr,up=[(c,.gone)]/\lk c m=some j/\j≠ .gone/\g c=some b/\v= .slice (some ⟨b,0,none⟩) xs.length cap/\xs.length<=cap/\dA w b arr/\cap*t.size<=arr.size/\cap<=maxLen/\
   eu S w t xs (arr.toList.take (xs.length*t.size)))
theorem Cj (hm:kh g m S w){t:Ty}{x:bK}{xs:List t.D}{up:Mem}{v:π}(h:oh m t x=some (xs,up))(ht:t.top=true)(hr:VR g m S w x v):Vz g m S w t xs up v:=by
 unfold oh at h;split at h;injection h with h;injection h with U h2;subst U;subst h2;exact ⟨.inl rfl,.inl ⟨rfl,hr⟩⟩;rename_i c;split at h;rename_i t' r I;split at h;rename_i he;subst he;injection h with h;injection h with U h2;subst U;subst h2;refine ⟨.inr ⟨c,_,rfl,I,by simp⟩,?_⟩;have J:=hr.2.2 t' r (.inl I);have j:=hm c _ I;unfold jb at J;unfold jk at j;have J:match g.f c [] with|none=>_|some b=>_:=J
 cases T:g.f c [] with
 |none=>
  rw [T] at J j;exact .inl ⟨j,J⟩
 |some b=>
  rw [T] at J j;obtain ⟨cap,arr,e1,k1,k2,k3,k4⟩:=J;obtain ⟨eB,R,o⟩:=j;have:=k2.eq R;subst this;have:=(o.FX ht).toL.take (n:=r.length) (ς _);rw [aan] at this;exact .inr ⟨c,_,b,cap,arr,rfl,I,by simp,T,e1,k1,k2,k3,k4,this⟩
 cases h;cases h;rename_i c len;split at h;rename_i t' r I;split at h;rename_i he;subst he;injection h with h;injection h with U h2;subst U;subst h2;refine ⟨.inr ⟨c,_,rfl,I,by simp⟩,?_⟩;obtain ⟨hle,J⟩:=hr.2.2 t' r (.inl I);have j:=hm c _ I;unfold jk at j;have p:(r.take len).length=len:=by simp;omega
 rcases J with ⟨h0,_,a,ha⟩|⟨b,cap,arr,T,e1,k1,k2,k3,k4⟩
 subst h0;exact .inl ⟨rfl,a,ha⟩;have oE:g.f c []=some b:=T;rw [oE] at j;obtain ⟨eB,R,o⟩:=j;have:=k2.eq R;subst this;have o:=o.FX ht;rw [abf] at e1;rw [Ψ] at k3;refine .inr ⟨c,_,b,cap,arr,rfl,I,by simp,T,?_,?_,k2,k3,k4,?_⟩;show v= .slice _ (r.take len).length cap;rw [p];exact e1;show (r.take len).length<=cap;rw [p];exact k1;show eu S w t' (r.take len) (arr.toList.take ((r.take len).length*t'.size));rw [p];exact o.toL.take (by omega);cases h;cases h;cases h
end
section
variable {cx:Cx} {g:GM} {st:St} {a:Act} {w w':Ε}
def AK (m up:Mem):Prop:= ∀p∈up,p.2= .gone/\lk p.1 m≠none
theorem AK.lk {m up:Mem}(h:AK m up){k:Nat}{ch:Chunk}(j:lk k up=some ch):ch= .gone/\Ide.lk k m≠none:=by
 induction up with
 |nil=>cases j
 |cons p up ih=>
  obtain ⟨t,o⟩:=p;rw [bO] at j;split at j;rename_i e;injection j with j;subst j;subst e;exact h (k,o) (by simp);exact ih (λq r=>h q (by simp [r])) j
theorem cT.newAt (h:cT cx g st a w)(ub:lk st.nx st.mem=none){up:Mem}{G:List Nat}{γ:List Nat->Option Nat}{ch:Chunk}(ui:AK st.mem up)(hk:bU G w w')(hG: ∀b∈G,∃c p j,lk c up=some .gone/\lk c st.mem=some j/\j.owns p/\g.f c p=some b)(ag: ∀p b,γ p=some b->b<w'.heap.size/\(w.heap.size<=b\/b∈G))(VA: ∀p q b,γ p=some b->γ q=some b->p=q)(hc: ∀g' m' S',(∀b,cx.safe g st.mem w b->S' b/\w'.heap[b]? =w.heap[b]?)->jk g' m' S' w' γ ch):
 ∃g':GM,g'.f st.nx=γ/\cT cx g' (st.jc (up++[(st.nx,ch)]++st.mem) (st.nx+1)) a w':=by
 have aa: ∀k,lk k st.mem≠none->(g.set st.nx γ).f k=g.f k:=λk iH=>GM.Ea _ _ (λe=>iH (by rw [e];exact ub));have o:=GM.xk g st.nx γ;revert aa o;generalize g.set st.nx γ=g';intro aa o;have Sf: ∀b,b∈G->Live g st.mem b:=λb hb=>by
  obtain ⟨c,p,j,_,h2,h3,h4⟩:=hG b hb;exact ⟨c,p,j,h2,h3,h4⟩
 have IA:lk st.nx up=none:=by
  cases hu:lk st.nx up with
  |none=>rfl
  |some c=>exact absurd ub (ui.lk hu).2
 have zd: ∀k,lk k (up++[(st.nx,ch)]++st.mem)=(lk k up).or (if k=st.nx then some ch else lk k st.mem):=λk=>by
  rw [ό,cF,List.singleton_append,bO]
 have hold: ∀k j,lk k st.mem=some j->(lk k up=none/\lk k (up++[(st.nx,ch)]++st.mem)=some j/\(∀p b,j.owns p->g.f k p=some b->b ∉ G))\/lk k (up++[(st.nx,ch)]++st.mem)=some .gone:=by
  intro k j r;have ab:k≠st.nx:=λe=>by rw [e,ub] at r;cases r
  cases hu:lk k up with
  |none=>
   left;refine ⟨rfl,by rw [zd,hu,if_neg ab,r];rfl,λp b hn NK hb=> ?_⟩;obtain ⟨c,q,UI,h1,h2,h3,h4⟩:=hG b hb;have:=(h.fY k c p q j UI b r hn h2 h3 NK h4).1;subst this;rw [hu] at h1;cases h1
  |some c0=>
   right;rw [zd,hu,(ui.lk hu).1];rfl
 have Sg:lk st.nx (up++[(st.nx,ch)]++st.mem)=some ch:=by rw [zd,IA,if_pos rfl];rfl
 have ad: ∀k,lk k st.mem=none->k≠st.nx->lk k (up++[(st.nx,ch)]++st.mem)=none:=by
  intro k r ab;cases hu:lk k up with
  |none=>rw [zd,hu,if_neg ab,r];rfl
  |some c0=>exact absurd r (ui.lk hu).2
 have Sh: ∀J I p,lk J (up++[(st.nx,ch)]++st.mem)=some I->I.owns p->J≠st.nx->lk J st.mem=some I/\ ∀b,g.f J p=some b->b ∉ G:=by
  intro J I p R ae ab;cases ho:lk J st.mem with
  |none=>rw [ad J ho ab] at R;cases R
  |some c0=>
   rcases hold J c0 ho with ⟨_,T,e2⟩|T
   rw [R] at T;injection T with T;subst T;exact ⟨rfl,λb hb=>e2 p b ae hb⟩
   rw [R] at T;injection T with T;subst T;exact ae.elim
 have t:wA cx g g' st.mem (up++[(st.nx,ch)]++st.mem) w w' G:=by
  refine ⟨hk,Sf,aa,λk c0 ho=> ?_,λk c0 ho U=> ?_⟩;rcases hold k c0 ho with ⟨_,T,e2⟩|T
  exact .inl ⟨T,e2⟩;exact .inr (.inl T);by_cases e:k=st.nx;subst e;rw [Sg] at U;injection U with U;subst U;refine ⟨?_,λp b hn hg=> ?_⟩;rw [o];refine hc g' _ _ λb hb=> ?_;obtain ⟨h1,h2,h3⟩:=hb;have YR:b ∉ G:=λhb=>h3 (Sf b hb);refine ⟨⟨ϕ h1 hk.size,h2,?_⟩,hk.block b h1 YR⟩;rintro ⟨k,p,c,D0,hn,hg⟩;by_cases e:k=st.nx;subst e;rw [o] at hg;rcases (ag p b hg).2 with hx|hx
  omega;exact YR hx;obtain ⟨h4,_⟩:=Sh k c p D0 hn e;exact h3 ⟨k,p,c,h4,hn,by rw [<-aa k (by rw [h4];simp)];exact hg⟩;rw [o] at hg;refine ⟨(ag p b hg).2,(ag p b hg).1,λJ p' I R ae af=> ?_⟩;by_cases e:J=st.nx;subst e;rw [o] at af;exact ⟨rfl,VA p' p b af hg⟩;obtain ⟨h4,h5⟩:=Sh J I p' R ae e;have Si:g.f J p'=some b:=by rw [<-aa J (by rw [h4];simp)];exact af
  rcases (ag p b hg).2 with hx|hx
  have:=h.lt J p' I b h4 ae Si;omega;exact absurd hx (h5 b Si);rw [ad k ho e] at U;cases U
 exact ⟨g',o,h.ua t⟩
theorem so {o:Option Nat}{p:List Nat}{b:Nat}(h:pW o p=some b):p=[]/\o=some b:=by
 unfold pW at h;split at h;exact ⟨by assumption,h⟩;cases h
theorem ph.newAt {e:cO}{up:Mem}{G:List Nat}{gk:Option Nat}{t:Ty}{xs:List t.D}{val:π}(h:cT cx g st a w)(hw:fw st.mem e.new)(I:e.new=[(st.nx,.seq t xs)]/\e.lq=up/\e.val= .one (.all st.nx))(J:up=[]\/ ∃c j,up=[(c,.gone)]/\lk c st.mem=some j/\j≠ .gone)(hk:bU G w w')(hG:G=[]\/ ∃c b j,up=[(c,.gone)]/\lk c st.mem=some j/\j≠ .gone/\g c=some b/\G=[b])(NK: ∀b,gk=some b->w.heap.size<=b\/b∈G)(hlt: ∀b,gk=some b->b<w'.heap.size)(hc: ∀S',(∀b,cx.safe g st.mem w b->S' b/\w'.heap[b]? =w.heap[b]?)->match gk with|none=>xs=[]|some b=> ∃arr,dA w' b arr/\eU S' w' (pW gk) t xs arr)(U:jb gk w' t.size xs.length val):ph cx st a e val w':=by
 have R:lk st.nx st.mem=none:=hw (st.nx,.seq t xs) (by rw [I.1];simp);have VB:AK st.mem up:=by
  intro p hp;rcases J with rfl|⟨c,j,rfl,h1,h2⟩
  simp at hp;simp at hp;subst hp;exact ⟨rfl,by rw [h1];simp⟩
 obtain ⟨g',Ej,hs⟩:=h.newAt (ch:= .seq t xs) (γ:=pW gk) R VB hk (λb hb=>by
  rcases hG with rfl|⟨c,b',j,rfl,h2,h3,h4,rfl⟩
  simp at hb;simp at hb;subst hb;exact ⟨c,[],j,by simp [bO],h2,Chunk.xd h3,h4⟩)
  (λp b hp=>⟨hlt b (so hp).2,NK b (so hp).2⟩) (λp q b hp hq=>by rw [(so hp).1,(so hq).1]) (λg' m' S' hS=>by
   have:=hc S' hS;cases gk with
   |none=>simp only [jk,pW,if_true];exact this
   |some b=>
    obtain ⟨arr,h1,h2⟩:=this;simp only [jk,pW,if_true];exact ⟨arr,h1,h2⟩)
 refine ⟨g',?_,?_⟩;rw [I.1,I.2.1];exact hs;rw [I.1,I.2.1,I.2.2];have hl:lk st.nx (up++[(st.nx,.seq t xs)]++st.mem)=some (.seq t xs):=by
  rcases J with rfl|⟨c,UI,rfl,T,hn1⟩
  simp [bO];have:st.nx≠c:=λe=>by rw [<-e,R] at T;cases T
  simp [bO,if_neg this]
 refine ⟨by rw [hl];simp,?_,λt' iy o=> ?_⟩;unfold jb at U;cases gk with
 |none=>obtain ⟨a,rfl⟩:=U;rfl
 |some b=>obtain ⟨cap,arr,rfl,_⟩:=U;rfl
 have o:=dH.toSeq hl o;rw [hl] at o;injection o with o;injection o with ht r;subst ht;have r:=eq_of_heq r;subst r;rw [show g' st.nx=gk from by show g'.f st.nx []=gk;rw [Ej];rfl];exact U
theorem zi {T T':Ι}{ty:Ι}{t:Ty}{s x:bK}{e:cO}{sv xv:π}(h:cT cx g st a w)(hw:fw st.mem e.new)(he:sb cx.P st.mem st.nx T T' t s x=some e)(hc:cp e.cond)(hs:VR g st.mem (cx.safe g st.mem w) w s sv)(hx:VR g st.mem (cx.safe g st.mem w) w x xv):gG cx st a w (Ϟ #[T,T'] ty #[sv,xv]) e:=by
 unfold sb at he;split at he;rename_i el hu;split at he;rename_i i hi;cases hb:(((Β T T'&&Β i.size t.size)&&(ϩ i.bytes 32768&&i.zero.isSome)&&(i.zero.map λz=>Β z.cells.size t.size).getD false)&&(t.top&&nX st.mem x)) with
 |false=>simp [hb] at he
 |true=>
  rw [hb] at he;simp only [cond_true] at he;simp only [κ] at hb;obtain ⟨⟨⟨⟨hT,R⟩,Ck,Sj⟩,F7⟩,rE,IB⟩:=hb;have hT:=cg hT;subst hT;have R:=cg R;have Ck:=jd Ck;obtain ⟨z,hz⟩:=abH.1 Sj;rw [hz] at F7;have F7:z.cells.size=t.size:=cg (by simpa using F7);split at he;rename_i o up r zS VC;injection he with he;subst he;have hlen:o.length+r.length<=bD:=hc.1;unfold bD at hlen;obtain ⟨ui,VD⟩:=Cj h.mem zS rE hs;obtain ⟨I,U⟩:=AJ h.mem VC IB rE hx;obtain ⟨ax,zj,ex,LB⟩:=U.val;subst ex;have xy:(o.length+r.length)*i.bytes<=140737488355328:=by
   calc (o.length+r.length)*i.bytes<=4294967296*32768:=aaZ hlen Ck
    _=140737488355328:=by decide
  have D1:I.length=r.length*i.size:=by rw [R];exact U.len
  have grow: ∀(base:Option ab6) (cap:Nat) (p:List π),p.length=o.length*i.size->(o.length=0\/ ∃ad,base=some ad/\ ∀j v,p[j]? =some v->w.cell? (ad.add j)=some v)->
   eu (cx.safe g st.mem w) w t o p->cap<o.length+r.length->(up=[]\/ ∃c LD,up=[(c,.gone)]/\lk c st.mem=some LD/\LD≠ .gone)->
   gG cx st a w (Ϟ #[T,T] ty #[.slice base o.length cap,.slice ax r.length zj]) ⟨.one (.all st.nx),[(st.nx,.seq t (o++r))],up,[ζ o+ζ r<=bD]⟩:=by
   intro base cap p F8 ho mq hlt ui;have wQ:=grownCap_ge w (o.length+r.length) cap el;have IC:=grownCap_le_maxLen w (o.length+r.length) cap el (by unfold maxLen;omega);have hr:=uf (P:=cx.P) (ty:=ty) (c:=zj) hu hi hz F8 ho D1 LB hlt xy (by omega);have xz:bU [] w (w.drew.alloc (.cells (p.toArray++I.toArray++Ϧ z.cells (grownCap w (o.length+r.length) cap el - (o.length+r.length))) el)):=
    (bU.drew [] w).trans (bU.alloc _ _ _)
   have J:=dA.new w.drew (p.toArray++I.toArray++Ϧ z.cells (grownCap w (o.length+r.length) cap el - (o.length+r.length))) el;refine ⟨_,_,hr,?_⟩;refine ph.newAt (G:=[]) (gk:=some w.heap.size) h hw ⟨rfl,rfl,rfl⟩ ui xz (.inl rfl) (λb hb=>by injection hb with hb;left;omega) (λb hb=>by injection hb with hb;subst hb;exact J.lt) (λS' hS=>⟨_,J,?_⟩) ?_;refine eU.lr rE (eu.toR ?_);simp only [Array.toList_append];have h1:eu S' (w.drew.alloc (.cells (p.toArray++I.toArray++Ϧ z.cells (grownCap w (o.length+r.length) cap el - (o.length+r.length))) el)) t o p:=λi hi=>by
    obtain ⟨es,k1,k2⟩:=mq i hi;exact ⟨es,k1,cn.bJ hS t es _ k2⟩
   have h2:eu S' (w.drew.alloc (.cells (p.toArray++I.toArray++Ϧ z.cells (grownCap w (o.length+r.length) cap el - (o.length+r.length))) el)) t r I:=λi hi=>by
    obtain ⟨es,k1,k2⟩:=U.FX i hi;exact ⟨es,k1,cn.bJ hS t es _ k2⟩
   exact eu.app h1 (by rw [F8,R]) h2 U.len;refine ⟨grownCap w (o.length+r.length) cap el,_,?_,by rw [ξ];exact wQ,J,?_,IC⟩;rw [ξ];simp only [Array.size_append,abG,size_zeroCells,F7,F8,D1,R,<-ϓ];exact Τ _ (by omega)
  rcases VD with ⟨Sk,ab,eb⟩|⟨c,ch,b,cap,arr,e1,e2,e3,e4,e5,hcap,J,lj,AE,mq⟩
  subst eb;subst Sk;by_cases hy:r.length=0;have OT:r=[]:=ϸ hy;subst OT;refine ⟨_,_,qC (P:=cx.P) hu hi,?_⟩;exact ph.newAt (G:=[]) (gk:=none) h hw ⟨rfl,rfl,rfl⟩ ui (bU.refl _ _) (.inl rfl) (λb hb=>by cases hb) (λb hb=>by cases hb) (λS' hS=>rfl) ⟨ab,rfl⟩;exact grow ab 0 [] (by simp) (.inl rfl) (λi hi=>by simp at hi) (by simp;omega) ui;subst e5;by_cases sZ:o.length+r.length<=cap;have xA:(o.length+r.length)*i.size<=arr.size:=by rw [R];exact ϫ (Τ _ sZ) lj
  obtain ⟨w',eB,hr,rj,tu,oF,qD⟩:=ug (P:=cx.P) (ty:=ty) hu hi J (c:=zj) D1 LB (U.FX.nJ U.len) sZ xA;refine ⟨_,_,hr,?_⟩;refine ph.newAt (G:=[b]) (gk:=some b) h hw ⟨rfl,rfl,rfl⟩ ui oF (.inr ⟨c,b,ch,e1,e2,e3,e4,rfl⟩) (λb' s7=>by injection s7 with s7;subst s7;right;simp) (λb' s7=>by injection s7 with s7;subst s7;exact rj.lt) (λS' hS=>⟨eB,rj,?_⟩) ?_;refine eU.lr rE (eu.toR ?_);rw [tu,R];have h1:eu S' w' t o (arr.toList.take (o.length*t.size)):=λi hi=>by
   obtain ⟨es,k1,k2⟩:=mq i hi;exact ⟨es,k1,cn.bJ hS t es _ k2⟩
  have h2:eu S' w' t r I:=λi hi=>by
   obtain ⟨es,k1,k2⟩:=U.FX i hi;exact ⟨es,k1,cn.bJ hS t es _ k2⟩
  refine eu.app h1 ?_ h2 U.len;have:o.length*t.size<=arr.size:=ϫ (Τ _ hcap) lj;simp;omega;refine ⟨cap,eB,by rw [ξ],by rw [ξ];exact sZ,rj,?_,AE⟩;have:eB.size=arr.size:=by
   rw [<-Ω,tu];simp;rw [R] at xA D1⊢;rw [ϓ] at xA;omega
  rw [this];exact lj;have hle:o.length*t.size<=arr.size:=ϫ (Τ _ hcap) lj;exact grow _ cap (arr.toList.take (o.length*t.size)) (by rw [R];simp;omega) (.inr ⟨_,rfl,λj v hj=>by
   rw [cw,J.cell];rw [ϒ] at hj;split at hj;simpa using hj;cases hj⟩) mq (by omega) ui
  cases he
 cases he;cases he
end
end Go.Ide
namespace Go.Ide
section
variable {P:Ο} {g:GM} {m:Mem} {S:Nat->Prop} {w:Ε}
theorem pv {t:Ty}{cs:List π}{v:π}{x:t.D}(h:dQ t cs v)(j:cn S w t cs x):v.cells.toList=cs:=by
 unfold dQ at h;split at h;subst h;rfl;subst h;rw [cells_one (cn.nJ t j v (by simp))]
theorem tw {t:Ty}: ∀{parts:List (Nat×bK)} {vparts:List (Nat×π)} {i:Nat} {xs:List t.D} {arr:Array π},
 vd t i parts=some xs->cc (λ(p:Nat×bK) (q:Nat×π)=>p.1=q.1/\VR g m S w p.2 q.2) parts vparts->(i+parts.length)*t.size<=arr.size->
 ∃r o,abj (λj=>some (j*t.size,t.size)) arr vparts=some r/\o.length=xs.length*t.size/\eu S w t xs o/\parts.length=xs.length/\
  r.toList=arr.toList.take (i*t.size)++o++arr.toList.drop ((i+xs.length)*t.size)
 |[],[],i,xs,arr,h,_,T=>by
  simp only [vd] at h;injection h with h;subst h;exact ⟨arr,[],rfl,by simp,λi hi=>by simp at hi,rfl,by simp⟩
 |(j,v)::parts,(j',u)::vparts,i,xs,arr,h,hp,T=>by
  obtain ⟨⟨hj,hv⟩,U⟩:=hp;have hj:j=j':=hj;subst hj;simp only [vd] at h;cases hb:Β i j with
  |false=>simp [hb] at h
  |true=>
   rw [hb] at h;simp only [cond_true] at h;have hb:=cg hb;subst hb;split at h;rename_i x l hx hl;injection h with h;subst h;obtain ⟨cs,hval,J⟩:=nu (S2:=S) (λ_ h=>h) iz.nil hx hv;have I:=pv hval J;have nv:=cn.len t cs x J;simp only [Η] at T;have nK:u.cells.size=t.size:=by rw [<-Ω,I,nv]
   have VE:(i+1)*t.size<=arr.size:=ϫ (Τ _ (by omega)) T;rw [ϓ] at VE;have R:(u.cells.zipIdx.foldl (λcs (p:π×Nat)=>cs.setIfInBounds (i*t.size+p.2) p.1) arr).toList=arr.toList.take (i*t.size)++cs++arr.toList.drop (i*t.size+cs.length):=by
    have:=sj (i*t.size) cs 0 arr (by omega);rw [<-afu,afl,I];simpa using this
   have aa:(u.cells.zipIdx.foldl (λcs (p:π×Nat)=>cs.setIfInBounds (i*t.size+p.2) p.1) arr).size=arr.size:=by
    rw [<-Ω,R];simp;omega
   obtain ⟨r,o,e1,e2,e3,e4,e5⟩:=tw (arr:=u.cells.zipIdx.foldl (λcs (p:π×Nat)=>cs.setIfInBounds (i*t.size+p.2) p.1) arr) hl U (by rw [aa];rw [show i+1+parts.length=i+(parts.length+1) from by omega];exact T);refine ⟨r,cs++o,?_,by simp [nv,e2,ϓ,ahM],?_,by simp [e4],?_⟩;simp only [abj];rw [if_neg (by simp;omega)];exact e1;have h1:eu S w t [x] cs:=λk hk=>by
    have hk:k=0:=by simp at hk;exact hk
    subst hk;exact ⟨cs,λj _=>by simp,by simpa using J⟩
   have:=eu.app (rest:=[]) h1 (by simp [nv]) e3 e2;simpa using this;rw [e5,R];have hk:(i+1)*t.size=i*t.size+cs.length:=by rw [ϓ,nv];omega
   have Sl:(arr.toList.take (i*t.size)++cs).length=(i+1)*t.size:=by rw [hk];simp;omega
   rw [List.take_append_of_le_length (by omega),List.take_of_length_le (by omega)];have hd:(i+1+l.length)*t.size=(arr.toList.take (i*t.size)++cs).length+l.length*t.size:=by rw [Sl,ϓ (i+1)]
   rw [hd,List.drop_append,agN];have:(i+(x::l).length)*t.size=i*t.size+cs.length+l.length*t.size:=by
    rw [Η,show i+(l.length+1)=(i+1)+l.length from by omega,ϓ (i+1),hk]
   rw [this];simp [ό];cases h
 |[],_::_,_,_,_,_,hp,_=>hp.elim
 |_::_,[],_,_,_,_,hp,_=>hp.elim
end
section
variable {cx:Cx} {g:GM} {st:St} {a:Act} {w w':Ε}
theorem my {g:GM}{m:Mem}{S:Nat->Prop}{w:Ε}{t:Ty}{cs:List bI}{x:t.D}{ks:List Nat}{r:List bI}{vs:List π}(h:(du [] t cs).map (λp=>((p.1,([]:List Nat)),p.2))=some ((x,ks),r))(I:cc (CR g m S w) cs vs):
 ∃v1 v2,vs=v1++v2/\cn S w t v1 x/\cc (CR g m S w) r v2:=by
 cases j:du [] t cs with
 |none=>rw [j] at h;cases h
 |some p=>
  rw [j] at h;obtain ⟨y,R⟩:=p;injection h with h;injection h with o J;injection o with o _;subst o;subst J;exact lx (λ_ h=>h) iz.nil j I
theorem pZ {g:GM}{m:Mem}{S:Nat->Prop}{w:Ε}: ∀(t:Ty) {γ:List Nat->Option Nat} {o:Nat} {cs:List bI} {x:t.D} {ks:List Nat} {r:List bI} {vs:List π},mr [] t cs=some ((x,ks),r)->cc (CR g m S w) cs vs->(∀p,γ p=none)->
 ∃v1 v2,vs=v1++v2/\dw S w t γ o v1 x/\cc (CR g m S w) r v2
 | .own t,γ,o,cs,x,ks,r,vs,h,j,I=>by
  simp only [mr] at h;split at h;injection h with h;injection h with J R;injection J with J _;subst J;subst R;cases vs with
  |nil=>exact j.elim
  |cons v vs=>
   obtain ⟨a,ha⟩:=j.1;refine ⟨[v],vs,rfl,⟨v,rfl,?_,?_⟩,j.2⟩;rw [I];exact ⟨a,ha⟩;rw [I];rfl
  simp [fR] at h;cases h
 | .pair a b,γ,o,cs,x,ks,r,vs,h,j,I=>by
  simp only [mr] at h;split at h;rename_i y k1 r1 J;split at h;rename_i z k2 r2 R;injection h with h;injection h with T e2;injection T with T _;subst T;subst e2;obtain ⟨v1,v2,rfl,q1,q2⟩:=pZ (γ:=γ) (o:=o) a J j I;obtain ⟨U,v4,rfl,q3,q4⟩:=pZ (γ:=γ) (o:=o+a.size) b R q2 I;exact ⟨v1++U,v4,by simp,⟨v1,U,rfl,q1,q3⟩,q4⟩;cases h;cases h
 | .st t,γ,o,cs,x,ks,r,vs,h,j,I=>pZ (γ:=γ) (o:=o) t (cs:=cs) (x:=x) h j I
 | .int k,_,_,_,_,_,_,_,h,j,_=>my (t:= .int k) h j
 | .dP k,_,_,_,_,_,_,_,h,j,_=>my (t:= .dP k) h j
 | .bool,_,_,_,_,_,_,_,h,j,_=>my (t:= .bool) h j
 | .str,_,_,_,_,_,_,_,h,j,_=>my (t:= .str) h j
 | .sl t,_,_,_,_,_,_,_,h,j,_=>my (t:= .sl t) h j
 | .bx t,_,_,_,_,_,_,_,h,j,_=>my (t:= .bx t) h j
 | .cl f t,_,_,_,_,_,_,_,h,j,_=>my (t:= .cl f t) h j
theorem uj {T:Ι}{t:Ty}{len:Nat}{parts:List (Nat×bK)}{vparts:Array (Nat×π)}{e:cO}(h:cT cx g st a w)(hw:fw st.mem e.new)(r:rB cx.P st.nx T t len parts=some e)(hp:cc (λ(p:Nat×bK) (q:Nat×π)=>p.1=q.1/\VR g st.mem (cx.safe g st.mem w) w p.2 q.2) parts vparts.toList):gG cx st a w (Ϲ T len vparts) e:=by
 unfold rB at r;split at r;rename_i el hu;cases I:(((dm cx.P el==some t.size&&(((cx.P.info? el).bind (·.zero)).map λz=>Β z.cells.size t.size)==some true)&&(Β parts.length len&&ϩ (len*t.size) 65536))&&t.top) with
 |false=>rw [I] at r;cases r
 |true=>
  rw [I] at r;simp only [cond_true] at r;simp only [κ,beq_iff_eq] at I;obtain ⟨⟨⟨hs,R⟩,hn,OU⟩,rE⟩:=I;have hn:=cg hn;have OU:=jd OU;subst hn;split at r;rename_i xs hx;injection r with r;subst r;cases hi:cx.P.info? el with
  |none=>simp [dm,hi] at hs
  |some i=>
   rw [hi] at R;simp only [Option.bind_some] at R;cases OV:i.zero with
   |none=>simp [OV] at R
   |some z=>
    rw [OV] at R;have R:Β z.cells.size t.size=true:=by simpa using R
    have R:=cg R;let base:Array π:=(aci (parts.length*t.size)).map λk=>(if parts.length*t.size=0 then #[] else z.cells)[k%(if parts.length*t.size=0 then #[] else z.cells).size]!;have VF:base.size=parts.length*t.size:=by simp [base]
    obtain ⟨o,news,e1,e2,e3,e4,e5⟩:=tw (g:=g) (m:=st.mem) (S:=cx.safe g st.mem w) (w:=w) (arr:=base) hx hp (by rw [VF,Ψ];exact ς _);have vg:(Ϲ T parts.length vparts).run cx.P w= .ok (.slice (some ⟨w.heap.size,0,none⟩) parts.length parts.length) (w.alloc (.cells o el)):=by
     have U: ¬(16777216<parts.length*t.size):=by omega
     by_cases h0:parts.length*t.size=0;have J:abj (λj=>some (j*t.size,t.size)) ((aci (parts.length*t.size)).map λk=>(#[]:Array π)[k%(#[]:Array π).size]!) vparts.toList=some o:=by
      have:=e1;simp only [base,h0,if_true] at this;rw [h0];exact this
     simp only [Ϲ,Ϛ,run_underlying hu,ϋ,cN hs];simp [h0,U] at J⊢;simp [J,newRow];have J:abj (λj=>some (j*t.size,t.size)) ((aci (parts.length*t.size)).map λk=>z.cells[k%z.cells.size]!) vparts.toList=some o:=by
      have:=e1;simp only [base,h0,if_false] at this;exact this
     simp only [Ϲ,Ϛ,run_underlying hu,ϋ,cN hs];simp [h0,U,zeroValue,typeInfo,hi,OV] at J⊢;simp [J,newRow]
    refine ⟨_,_,vg,?_⟩;have aa:o.toList=news:=by
     rw [e5,<-e4];simp only [abf,Ψ,List.take_zero,List.nil_append];rw [List.drop_of_length_le (by rw [Ω,VF];exact ς _)];simp
    have ID:o.size=xs.length*t.size:=by rw [<-Ω,aa,e2]
    refine ph.newAt (G:=[]) (up:=[]) (gk:=some w.heap.size) h hw ⟨rfl,rfl,rfl⟩ (.inl rfl) (bU.alloc _ _ _) (.inl rfl) (λb I=>by injection I with I;left;omega) (λb I=>by injection I with I;subst I;exact (dA.new w o el).lt) (λS' hS=>⟨o,dA.new w o el,?_⟩) ?_;refine eU.lr rE (eu.toR ?_);rw [aa];exact λi hi=>by
     obtain ⟨es,k1,k2⟩:=e3 i hi;exact ⟨es,k1,cn.bJ hS t es _ k2⟩
    refine ⟨xs.length,o,by rw [e4],ς _,dA.new w o el,by rw [ID];exact ς _,?_⟩;have:=t.size_pos;have h1:xs.length<=xs.length*t.size:=Nat.le_mul_of_pos_right _ this;rw [e4] at OU;unfold maxLen;omega
  cases r
 cases r
theorem vh {T:Ι}{t:Ty}{len cap:bK}{e:cO}{lv cv:π}(h:cT cx g st a w)(hw:fw st.mem e.new)(U:tl cx.P st.nx T t len cap=some e)(hc:cp e.cond)(hl:VR g st.mem (cx.safe g st.mem w) w len lv)(OW:VR g st.mem (cx.safe g st.mem w) w cap cv):gG cx st a w (Instr.makeSlice T lv cv) e:=by
 unfold tl at U;split at U;rename_i el kl n kc c hu;split at U;rename_i i z0 hi r;cases R:(Β i.size t.size&&ϩ i.bytes 32768) with
 |false=>simp [R] at U
 |true=>
  rw [R] at U;simp only [cond_true] at U;simp only [κ] at R;have ag:=cg R.1;have Ck:=jd R.2;injection U with U;subst U;obtain ⟨⟨h0,h1,h2⟩,_⟩:=hc;have e1:=dV (g:=g) (m:=st.mem) (S:=cx.safe g st.mem w) (w:=w) hl;have e2:=dV (g:=g) (m:=st.mem) (S:=cx.safe g st.mem w) (w:=w) OW;subst e1;subst e2;obtain ⟨k,rfl⟩:=ae0 (show (0:Int)<=c from afe h0 h1);obtain ⟨k0,rfl⟩:=ae0 (show (0:Int)<=n from h0);have hk:k<=4294967296:=by have:((k:Nat):Int)<=4294967296:=h2;omega
  have NN:k0<=k:=by have:((k0:Nat):Int)<=((k:Nat):Int):=h1;omega
  unfold tY at r;rw [hi] at r;cases af:i.zero with
  |none=>simp [af] at r
  |some z=>
   simp only [af] at r;have aa:(i.bytes:Int)*(k:Int)<=281474976710656:=by
    have:i.bytes*k<=32768*4294967296:=aaZ Ck hk;have h3:((i.bytes*k:Nat):Int)<=281474976710656:=by omega
    rwa [Int.natCast_mul] at h3
   have ad:=run_make (P:=cx.P) w T el i z hu hi af kl kc (k0:Int) (k:Int) (by omega) h1 aa (by omega);refine ⟨_,_,ad,?_⟩;have I: ∀(S':Nat->Prop) (w':Ε) (γ:List Nat->Option Nat),(∀p,γ p=none)->dw S' w' t γ 0 z.cells.toList z0:=λS' w' γ hγ=>by
    split at r;rename_i rE;obtain ⟨cs,hval,I⟩:=nu (g:=⟨λ_ _=>none⟩) (m:=[]) (S:=S') (S2:=S') (λ_ h=>h) iz.nil r (qA (w:=w') z);rw [pv hval I];exact dw.rA t rE I;split at r;rename_i zk;split at r;rename_i x hx;injection r with r;subst r;obtain ⟨v1,v2,e,h1,h2⟩:=pZ (g:=⟨λ_ _=>none⟩) (m:=[]) (S:=S') (w:=w') (γ:=γ) (o:=0) t hx (kL z zk) hγ;have:v2=[]:=by cases v2 with|nil=>rfl|cons=>exact h2.elim
    subst this;rw [ϲ] at e;rw [e];exact h1;cases r;cases r
   have J:z.cells.size=t.size:=by rw [<-Ω];exact dw.len t (I (λ_=>True) w (λ_=>none) (λ_=>rfl))
   have YS:=t.size_pos;simp only [Α] at ad⊢;have ab: ∀q,q<k*t.size->(madeCells z.cells (k*i.size))[q]? =z.cells[q%t.size]? :=λq hq=>by
    have iH:k*t.size≠0:=by omega
    have ae:q%t.size<z.cells.size:=by rw [J];exact abq _ YS
    rw [ag];simp [madeCells,hq,J,aal ae,getElem!_pos z.cells (q%t.size) ae]
   have VG:(madeCells z.cells (k*i.size)).size=k*t.size:=by rw [ag];simp [madeCells]
   refine ph.newAt (G:=[]) (up:=[]) (gk:=some w.heap.size) h hw ⟨rfl,rfl,rfl⟩ (.inl rfl) (bU.alloc _ _ _) (.inl rfl) (λb R=>by injection R with R;left;omega) (λb R=>by injection R with R;subst R;exact (dA.new w _ el).lt) (λS' hS=>⟨_,dA.new w _ el,?_⟩) ?_;intro i' Ca;simp only [List.length_replicate,Α] at Ca;refine ⟨z.cells.toList,λj u hj=> ?_,?_⟩;have NO:j<t.size:=by rw [<-J,<-Ω];exact (ω.1 hj).1
   have hlt:i'*t.size+j<k*t.size:=by
    have:(i'+1)*t.size<=k*t.size:=Τ _ (by omega);rw [ϓ] at this;omega
   rw [ab _ hlt];have:(i'*t.size+j)%t.size=j:=by rw [ahM,aaB,Nat.add_mul_mod_self_left];exact Nat.mod_eq_of_lt NO
   rw [this,<-ϥ];exact hj;simp only [List.getElem_replicate];exact I _ _ _ (λp=>rfl);refine ⟨k,_,by simp,by simpa using NN,dA.new w _ el,by rw [VG];exact ς _,by unfold maxLen;omega⟩
 cases U;cases U
theorem cT.grow {w':Ε}(h:cT cx g st a w)(j:bU [] w w'):cT cx g (st.jc st.mem st.nx) a w':=h.ua (G:=[]) ⟨j,λb p=>(by simp at p),λ_ _=>rfl,λk r j=> .inl ⟨j,λ_ b _ _ p=>by simp at p⟩,λk r j o=>by
 rw [j] at o;cases o⟩
theorem AL {T:Ι}{len:Nat}{parts:List (Nat×bK)}{vparts:Array (Nat×π)}{e:cO}(h:cT cx g st a w)(j:D7 cx.P T len parts=some e)(hp:cc (λ(p:Nat×bK) (q:Nat×π)=>p.1=q.1/\VR g st.mem (cx.safe g st.mem w) w p.2 q.2) parts vparts.toList):gG cx st a w (Ϲ T len vparts) e:=by
 unfold D7 at j;split at j;rename_i R hu;cases r:(((dm cx.P R).isSome&&Β len 0)&&parts.isEmpty) with
 |false=>rw [r] at j;cases j
 |true=>
  rw [r] at j;simp only [cond_true] at j;simp only [κ,List.isEmpty_iff] at r;obtain ⟨⟨t,I⟩,J⟩:=r;have I:=cg I;subst I;subst J;obtain ⟨k,t⟩:=abH.1 t;have hv:vparts= #[]:=by
   cases U:vparts.toList with
   |nil=>exact Array.toList_eq_nil_iff.1 U
   |cons x xs=>rw [U] at hp;exact hp.elim
  subst hv;have o:(Ϲ T 0 #[]).run cx.P w= .ok (.slice (some ⟨w.heap.size,0,none⟩) 0 0) (w.alloc (.cells #[] R)):=by
   simp only [Ϲ,Ϛ,run_underlying hu,ϋ,cN t];simp [newRow,abj]
   congr 2
   apply aa9;simp
  injection j with j;subst j;exact ⟨_,_,o,g,h.grow (bU.alloc _ _ _),_,rfl⟩
 cases j
end
end Go.Ide
namespace Go.Ide
section
variable {cx:Cx} {g:GM} {st:St} {a:Act} {w w':Ε}
structure Ip (g:GM)(st:St)(w w':Ε)(c b:Nat)(p0:List Nat)(ch pL:Chunk):Prop where
 lk:Ide.lk c st.mem=some ch
 F9:ch.owns p0
 at_:g.f c p0=some b
 bJ:bU [b] w w'
 sz: ∃arr eB,dA w b arr/\dA w' b eB/\eB.size=arr.size
 owns: ∀p,pL.owns p->ch.owns p
 ng:pL≠ .gone
 shape: ∀t xs,pL.xi t xs-> ∃iy,ch.xi t iy/\iy.length=xs.length
 rows: ∀t iy,pL= .seq t iy-> ∃xs,ch= .seq t xs/\cL t xs iy
theorem Ip.dA {c b:Nat}{p0:List Nat}{ch r:Chunk}(q:Ip g st w w' c b p0 ch r){p:Nat}{qw:Array π}(o:dA w p qw): ∃j,Ide.dA w' p j/\j.size=qw.size:=by
 by_cases e:p=b;subst e;obtain ⟨arr,j,t,I,J⟩:=q.sz;have:=o.eq t;subst this;exact ⟨j,I,J⟩;exact ⟨qw,o.bJ (q.bJ.block p o.lt (by simp [e])),rfl⟩
theorem Ip.stays {c b:Nat}{p0:List Nat}{ch I:Chunk}(q:Ip g st w w' c b p0 ch I):
 iO g g st.mem ((c,I)::st.mem) (cx.safe g st.mem w) (cx.safe g ((c,I)::st.mem) w') w w':=by
 refine ⟨⟨λT hs=> ?_,λk R=>⟨by rw [bO];split<;>simp_all,rfl⟩,λk t U R r=> ?_,λk t U T qw R r oE ad=>q.dA ad⟩,λ_ _=>rfl,λk t J R r=> ?_⟩;obtain ⟨h1,h2,h3⟩:=hs;have iH:T≠b:=λe=>h3 ⟨c,p0,ch,q.lk,q.F9,by rw [e];exact q.at_⟩;refine ⟨⟨ϕ h1 q.bJ.size,h2,?_⟩,q.bJ.block T h1 (by simp [iH])⟩;rintro ⟨k,p,c0,j,aa,ab⟩;rw [bO] at j;by_cases e:k=c;subst e;rw [if_pos rfl] at j;injection j with j;subst j;exact h3 ⟨k,p,ch,q.lk,q.owns p aa,ab⟩;rw [if_neg e] at j;exact h3 ⟨k,p,c0,j,aa,ab⟩;by_cases e:k=c;subst e;have tu:=(dH.of (ch:=I) (by rw [bO,if_pos rfl])).1 r;obtain ⟨J,e1,e2⟩:=q.shape t U tu;exact ⟨J,(dH.of q.lk).2 e1,e2⟩;refine ⟨U,?_,rfl⟩;unfold dH at r⊢;rw [bO,if_neg e] at r;exact r;rw [bO] at r;by_cases e:k=c;subst e;rw [if_pos rfl] at r;injection r with r;obtain ⟨U,e1,e2⟩:=q.rows t J r;exact ⟨U,by rw [q.lk,e1],e2,λi o T arr hg hb=>q.dA hb⟩;rw [if_neg e] at r;exact ⟨J,r,cL.refl _ _,λi o T arr hg hb=>q.dA hb⟩
theorem cT.NP (h:cT cx g st a w){c b:Nat}{p0:List Nat}{ch j:Chunk}(q:Ip g st w w' c b p0 ch j)(hc:jk g ((c,j)::st.mem) (cx.safe g ((c,j)::st.mem) w') w' (g.f c) j):cT cx g (st.jc ((c,j)::st.mem) st.nx) a w':=by
 have t:wA cx g g st.mem ((c,j)::st.mem) w w' [b]:=by
  refine ⟨q.bJ,λb' T=>by simp at T;subst T;exact ⟨c,p0,ch,q.lk,q.F9,q.at_⟩,λ_ _=>rfl,λk c0 o=> ?_,λk c0 o r=> ?_⟩;by_cases e:k=c;subst e;rw [q.lk] at o;injection o with o;subst o;exact .inr (.inr ⟨Chunk.pq q.F9,j,by rw [bO,if_pos rfl],q.ng,q.owns,q.shape,q.rows,λp U aa _ I J=>q.dA J,hc⟩);refine .inl ⟨by rw [bO,if_neg e];exact o,λp U R I hm=> ?_⟩;simp at hm;subst hm;exact e (h.fY k c p p0 c0 ch U o R q.lk q.F9 I q.at_).1;rw [bO] at r;by_cases e:k=c;subst e;rw [q.lk] at o;cases o;rw [if_neg e,o] at r;cases r
 exact h.ua t
def Cl (cx:Cx)(st:St)(a:Act)(w:Ε)(s:Sem Unit)(e:cO):Prop:=
 ∃w',s.run cx.P w= .ok () w'/\ph cx st a e undef w'
theorem lA {P:Ο}{T:Ι}{n b o:Nat}{arr:Array π}{v:π}(I:dm P T=some n)(J:dA w b arr)(r:v.cells.toList.length=n)(R:o+n<=arr.size)(U: ∀x∈v.cells.toList,x.oneCell'=true):
 ∃w' j,(adM T (.pointer (some ⟨b,o,none⟩)) v).run P w= .ok () w'/\dA w' b j/\j.toList=arr.toList.take o++v.cells.toList++arr.toList.drop (o+n)/\bU [b] w w'/\j.size=arr.size:=by
 obtain ⟨w',j,e,k1,p,k3,k4⟩:=eC (P:=P) v.cells.toList o 0 w arr J (by omega) U;simp only [Ϭ] at p;rw [r] at p;refine ⟨w',j,?_,k1,p,k3,?_⟩;have t:v.cells.size=n:=by rw [<-Ω];exact r
 simp [adM,aax,storeVar,cN I,t,e];rw [<-Ω,p];simp [r];omega
def CE (g:GM)(m:Mem)(S:Nat->Prop)(w:Ε)(γ:List Nat->Option Nat)(o:Nat)(c:bI)(v:π):Prop:=
 match c with
 | .bG (.own e) y=>dw S w (.own e) γ o [v] y
 |c=>CR g m S w c v
def mz (g:GM)(m:Mem)(S:Nat->Prop)(w:Ε)(γ:List Nat->Option Nat):Nat->List bI->List π->Prop
 |_,[],[]=>True
 |o,c::cs,v::j=>CE g m S w γ o c v/\mz g m S w γ (o+1) cs j
 |_,_,_=>False
section
variable {m:Mem} {S:Nat->Prop} {γ:List Nat->Option Nat}
theorem mz.append: ∀{o:Nat} {cs j:List bI} {vs p:List π},mz g m S w γ o cs vs->mz g m S w γ (o+cs.length) j p->mz g m S w γ o (cs++j) (vs++p)
 |_,[],_,[],_,_,h=>h
 |o,_::cs,_,_::_,_,h,r=>⟨h.1,mz.append h.2 (by rw [show o+1+cs.length=o+(cs.length+1) from by omega];exact r)⟩
 |_,[],_,_::_,_,h,_=>h.elim
 |_,_::_,_,[],_,h,_=>h.elim
theorem mz.take: ∀(n:Nat) {o:Nat} {cs:List bI} {vs:List π},mz g m S w γ o cs vs->mz g m S w γ o (cs.take n) (vs.take n)
 |0,_,_,_,_=>by simp [mz]
 |_+1,_,[],[],_=>by simp [mz]
 |n+1,_,_::_,_::_,h=>⟨h.1,mz.take n h.2⟩
 |_+1,_,[],_::_,h=>h.elim
 |_+1,_,_::_,[],h=>h.elim
theorem mz.drop: ∀(n:Nat) {o:Nat} {cs:List bI} {vs:List π},mz g m S w γ o cs vs->mz g m S w γ (o+n) (cs.drop n) (vs.drop n)
 |0,_,_,_,h=>by simpa using h
 |n+1,o,[],[],_=>by simp [mz]
 |n+1,o,_::_,_::_,h=>by
  have:=mz.drop n h.2;rw [show o+1+n=o+(n+1) from by omega] at this;simpa using this
 |_+1,_,[],_::_,h=>h.elim
 |_+1,_,_::_,[],h=>h.elim
theorem CE.of {o:Nat}{c:bI}{v:π}(j:c.It=true)(h:CR g m S w c v):CE g m S w γ o c v:=by
 unfold CE;split;cases j;exact h
theorem mz.Ga: ∀{o:Nat} {cs:List bI} {vs:List π},cs.all bI.It=true->cc (CR g m S w) cs vs->mz g m S w γ o cs vs
 |_,[],[],_,_=>trivial
 |_,_::_,_::_,j,h=>by
  simp only [acn,κ] at j;exact ⟨CE.of j.1 h.1,mz.Ga j.2 h.2⟩
 |_,[],_::_,_,h=>h.elim
 |_,_::_,[],_,h=>h.elim
theorem lB: ∀(t:Ty) (x:t.D),(gT t x).length=t.size
 | .int _,_=>rfl
 | .dP _,_=>rfl
 | .bool,_=>rfl
 | .str,_=>rfl
 | .sl _,_=>rfl
 | .bx _,_=>rfl
 | .cl _ _,_=>rfl
 | .own _,_=>rfl
 | .pair a b,x=>by simp only [gT,ξ,lB a,lB b,Ty.size]
 | .st t,x=>lB t x
theorem AM: ∀(t:Ty) {o:Nat} {cs:List π} {x:t.D},dw S w t γ o cs x->mz g m S w γ o (gT t x) cs
 | .int _,_,_,_,h=>by have h:=h;subst h;exact ⟨rfl,trivial⟩
 | .dP _,_,_,_,⟨b,e,h⟩=>by subst e;exact ⟨⟨b,rfl,h⟩,trivial⟩
 | .bool,_,_,_,h=>by have h:=h;subst h;exact ⟨rfl,trivial⟩
 | .str,_,_,_,h=>by have h:=h;subst h;exact ⟨rfl,trivial⟩
 | .sl t,_,_,_,⟨a,cap,e,h⟩=>by subst e;exact ⟨⟨a,cap,rfl,h⟩,trivial⟩
 | .bx t,_,_,_,⟨a,e,h⟩=>by subst e;exact ⟨⟨a,rfl,h⟩,trivial⟩
 | .cl f t,_,_,_,⟨j,p,e,h⟩=>by subst e;exact ⟨⟨j,p,rfl,h⟩,trivial⟩
 | .own t,_,_,_,⟨v,e,h⟩=>by subst e;exact ⟨⟨v,rfl,h⟩,trivial⟩
 | .pair a b,o,_,x,⟨J,R,e,r,I⟩=>by
  subst e;exact (AM a r).append (by rw [lB];exact AM b I)
 | .st t,_,_,_,h=>AM t (cs:=_) h
theorem qE {t:Ty}(ht: ∀e,Ty.own e≠t)(J:t.size=1){o:Nat}{cs:List bI}{x:t.D}{r:List bI}{vs:List π}(h:du [] t cs=some (x,r))(p:mz g m S w γ o cs vs):
 ∃v1 v2,vs=v1++v2/\cn S w t v1 x/\mz g m S w γ (o+t.size) r v2:=by
 cases cs with
 |nil=>simp [du] at h
 |cons c cs=>
  cases vs with
  |nil=>exact p.elim
  |cons v vs=>
   simp only [du] at h;split at h;rename_i y j;injection h with h;injection h with R T;subst R;subst T;refine ⟨[v],vs,rfl,?_,by rw [J];exact p.2⟩;have I:=p.1;unfold CE at I;split at I;simp only [dT] at j;split at j;rename_i e;exact absurd e (ht _);cases j;exact rC (λ_ h=>h) iz.nil j I;cases h
theorem AN: ∀(t:Ty) {o:Nat} {cs:List bI} {x:t.D} {r:List bI} {vs:List π},impl [] t cs=some (x,r)->mz g m S w γ o cs vs->
 ∃v1 v2,vs=v1++v2/\dw S w t γ o v1 x/\mz g m S w γ (o+t.size) r v2
 | .int k,_,_,_,_,_,h,j=>qE (t:= .int k) (λ_ e=>by cases e) rfl h j
 | .dP k,_,_,_,_,_,h,j=>qE (t:= .dP k) (λ_ e=>by cases e) rfl h j
 | .bool,_,_,_,_,_,h,j=>qE (t:= .bool) (λ_ e=>by cases e) rfl h j
 | .str,_,_,_,_,_,h,j=>qE (t:= .str) (λ_ e=>by cases e) rfl h j
 | .sl t,_,_,_,_,_,h,j=>qE (t:= .sl t) (λ_ e=>by cases e) rfl h j
 | .bx t,_,_,_,_,_,h,j=>qE (t:= .bx t) (λ_ e=>by cases e) rfl h j
 | .cl f t,_,_,_,_,_,h,j=>qE (t:= .cl f t) (λ_ e=>by cases e) rfl h j
 | .own t,o,cs,x,r,vs,h,j=>by
  simp only [impl] at h;cases cs with
  |nil=>simp [du] at h
  |cons c cs=>
   cases vs with
   |nil=>exact j.elim
   |cons v vs=>
    simp only [du] at h;split at h;rename_i y p;injection h with h;injection h with I J;subst I;subst J;refine ⟨[v],vs,rfl,?_,j.2⟩;cases c<;>simp only [dT] at p<;>first|cases p|skip
    rename_i t' q;split at p;rename_i e;subst e;injection p with p;subst p;exact j.1;cases p;cases h
 | .st t,_,_,_,_,_,h,j=>AN t h j
 | .pair a b,o,cs,x,r,vs,h,j=>by
  simp only [impl] at h;split at h;rename_i y r1 T;split at h;rename_i z r2 U;injection h with h;injection h with I J;subst I;subst J;obtain ⟨v1,v2,rfl,k1,k2⟩:=AN a T j;obtain ⟨R,v4,rfl,k3,k4⟩:=AN b U k2;refine ⟨v1++R,v4,by simp,⟨v1,R,rfl,k1,k3⟩,?_⟩;rw [show o+(Ty.pair a b).size=o+a.size+b.size from by simp only [Ty.size];omega];exact k4;cases h;cases h
end
theorem Ek {arr p:Array π}{o vs:List π}{i sz off n:Nat}(hl:o.length=sz)(t: ∀j v,o[j]? =some v->arr[i*sz+j]? =some v)(I:vs.length=n)(U:off+n<=sz)(R:i*sz+sz<=arr.size)(k2:p.toList=arr.toList.take (i*sz+off)++vs++arr.toList.drop (i*sz+off+n)): ∀j v,(o.take off++vs++o.drop (off+n))[j]? =some v->p[i*sz+j]? =some v:=by
 intro j v T;have J:j<sz:=by
  have:=(ω.1 T).1;simp at this;omega
 have r: ∀j,j<sz->arr.toList[i*sz+j]? =o[j]? :=λj J=>by
  rw [Γ (by omega:j<o.length),ϥ];exact t j _ (Γ (by omega))
 rw [<-ϥ,k2,<-T];by_cases h1:j<off;rw [ό,Ν (by simp;omega),ϒ,if_pos (by omega),ό,Ν (by simp;omega),ϒ,if_pos h1];exact r j J;by_cases h2:j<off+n;rw [ό,Κ (by simp;omega),Ν (by simp;omega),ό,Κ (by simp;omega),Ν (by simp;omega)]
 congr 1
 simp;omega;rw [Κ (by simp;omega),Κ (by simp;omega),aaT,aaT];simp only [ξ,ώ,Ω,I];rw [show i*sz+off+n+(i*sz+j - (min (i*sz+off) arr.size+n))=i*sz+j by omega,show off+n+(j - (min off o.length+n))=j by omega];exact r j J
theorem AO {arr o:Array π}{vs:List π}{i sz off n:Nat}(r:vs.length=n)(t:off+n<=sz)(p:i*sz+sz<=arr.size)(k2:o.toList=arr.toList.take (i*sz+off)++vs++arr.toList.drop (i*sz+off+n)){q:Nat}(J:q≠i){j:Nat}(R:j<sz):o[q*sz+j]? =arr[q*sz+j]? :=by
 rw [<-ϥ,<-ϥ,k2];by_cases I:q<i;have:(q+1)*sz<=i*sz:=Τ _ (by omega);rw [ϓ] at this;rw [ό,Ν (by simp;omega),ϒ,if_pos (by omega)];have:(i+1)*sz<=q*sz:=Τ _ (by omega);rw [ϓ] at this;rw [Κ (by simp;omega),aaT]
 congr 1
 simp;omega
theorem El {arr:Array π}{es:List π}{i sz:Nat}(p:0<sz)(r:es.length=sz)(o: ∀j v,es[j]? =some v->arr[i*sz+j]? =some v):i*sz+sz<=arr.size:=by
 have:=o (sz - 1) es[sz - 1] (Γ (by omega));have:=(ϝ.1 this).1;omega
theorem qa {t o:Ty}{xs:List t.D}{j:List o.D}(h:(Chunk.seq t xs).xi o j): ∃e:t=o,e▸xs=j:=by
 rcases h with h|⟨_,_,_,h⟩
 injection h with p r;subst p;exact ⟨rfl,eq_of_heq r⟩;cases h
theorem jC {m:Mem}{t:Ty}{cs:List bI}{x:t.D}{r:List bI}(h:du m t cs=some (x,r)):r=cs.drop 1:=by
 cases cs with
 |nil=>simp [du] at h
 |cons c cs=>
  simp only [du] at h;split at h;injection h with h;injection h with _ h;exact h.symm
  cases h
theorem sr {m:Mem}: ∀(t:Ty) {cs:List bI} {x:t.D} {r:List bI},impl m t cs=some (x,r)->r=cs.drop t.size
 | .int k,_,_,_,h=>jC (t:= .int k) h
 | .dP k,_,_,_,h=>jC (t:= .dP k) h
 | .bool,_,_,_,h=>jC (t:= .bool) h
 | .str,_,_,_,h=>jC (t:= .str) h
 | .sl t,_,_,_,h=>jC (t:= .sl t) h
 | .bx t,_,_,_,h=>jC (t:= .bx t) h
 | .cl f t,_,_,_,h=>jC (t:= .cl f t) h
 | .own t,_,_,_,h=>jC (t:= .own t) h
 | .st t,_,_,_,h=>sr t h
 | .pair a b,cs,x,r,h=>by
  simp only [impl] at h;split at h;rename_i y I j;split at h;rename_i z J o;injection h with h;injection h with _ p;subst p;rw [sr b o,sr a j,agN];rfl;cases h;cases h
theorem su: ∀(t:Ty) {cs:List bI} {x:t.D} {r:List bI} {o:Nat} {e:Ty} {ys:List e.D},impl [] t cs=some (x,r)->ep t x o=some ⟨e,ys⟩->cs[o]? =some (.bG (.own e) ys)
 | .int _,_,_,_,_,_,_,_,j=>by cases j
 | .dP _,_,_,_,_,_,_,_,j=>by cases j
 | .bool,_,_,_,_,_,_,_,j=>by cases j
 | .str,_,_,_,_,_,_,_,j=>by cases j
 | .sl _,_,_,_,_,_,_,_,j=>by cases j
 | .bx _,_,_,_,_,_,_,_,j=>by cases j
 | .cl _ _,_,_,_,_,_,_,_,j=>by cases j
 | .st t,_,x,_,_,_,_,h,j=>su t (x:=x) h j
 | .own t,cs,x,r,o,e,ys,h,j=>by
  cases o with
  |succ o=>cases j
  |zero=>
   have j:some (⟨t,x⟩:Σ e:Ty,List e.D)=some ⟨e,ys⟩:=j;injection j with j;injection j with J I;subst J;have I:=eq_of_heq I;subst I;simp only [impl] at h;cases cs with
   |nil=>simp [du] at h
   |cons c cs=>
    simp only [du] at h;split at h;rename_i y p;injection h with h;injection h with R _;subst R;cases c<;>simp only [dT] at p<;>first|cases p|skip
    rename_i U q;split at p;rename_i e;subst e;injection p with p;subst p;rfl;cases p;cases h
 | .pair a b,cs,x,r,o,e,ys,h,j=>by
  simp only [impl] at h;split at h;rename_i y r1 J;split at h;rename_i z r2 I;injection h with h;injection h with R e2;subst R;unfold ep at j;by_cases T:o<a.size;rw [oi.2 T] at j;exact su a J j;rw [kY T] at j;have:=su b I j;rw [sr a J,aaT,show a.size+(o - a.size)=o from by omega] at this;exact this;cases h;cases h
theorem sw: ∀(t:Ty) {x:t.D} {o:Nat} {e:Ty} {ys:List e.D},(gT t x)[o]? =some (.bG (.own e) ys)->ep t x o=some ⟨e,ys⟩
 | .int _,x,o,e,ys,h=>by cases o<;>simp [gT] at h
 | .dP _,x,o,e,ys,h=>by cases o<;>simp [gT] at h
 | .bool,x,o,e,ys,h=>by cases o<;>simp [gT] at h
 | .str,x,o,e,ys,h=>by cases o<;>simp [gT] at h
 | .sl _,x,o,e,ys,h=>by cases o<;>simp [gT] at h
 | .bx _,x,o,e,ys,h=>by cases o<;>simp [gT] at h
 | .cl _ _,x,o,e,ys,h=>by cases o<;>simp [gT] at h
 | .st t,x,o,e,ys,h=>sw t (x:=x) h
 | .own t,x,o,e,ys,h=>by
  cases o with
  |succ o=>simp [gT] at h
  |zero=>
   simp only [gT,List.getElem?_cons_zero] at h;injection h with h;injection h with j p;injection j with j;subst j;have p:=eq_of_heq p;subst p;rfl
 | .pair a b,x,o,e,ys,h=>by
  unfold ep;simp only [gT] at h;by_cases r:o<a.size;rw [oi.2 r];rw [Ν (by rw [lB];exact r)] at h;exact sw a h;rw [kY r];rw [Κ (by rw [lB];omega),lB] at h;exact sw b h
theorem Em {t:Ty}{j x:t.D}{cs:List bI}{off:Nat}(p:cs.all bI.It=true)(r:off+cs.length<=t.size)(h:impl [] t ((gT t j).take off++cs++(gT t j).drop (off+cs.length))=some (x,[])){o:Nat}{e:Ty}{ys:List e.D}(I:ep t x o=some ⟨e,ys⟩):
 ep t j o=some ⟨e,ys⟩:=by
 have:=su t h I;apply sw;have J:=lB t j;by_cases R:o<off;rw [ό,Ν (by simp;omega),ϒ,if_pos R] at this;exact this;by_cases T:o<off+cs.length;rw [ό,Κ (by simp;omega),Ν (by simp;omega)] at this;have:=List.all_eq_true.1 p _ (aaN this);cases this;rw [Κ (by simp;omega),aaT] at this;simp only [ξ,ώ,J] at this;rw [show off+cs.length+(o - (min off t.size+cs.length))=o from by omega] at this;exact this
theorem dw.Cm {S S':Nat->Prop}{w w':Ε}(h: ∀b,S b->S' b/\w'.heap[b]? =w.heap[b]?): ∀(t:Ty) {γ:List Nat->Option Nat} {o:Nat} {cs:List π} {x:t.D},
 (∀q p b,o<=q->q<o+t.size->γ (q::p)=some b->w'.heap[b]? =w.heap[b]?)->dw S w t γ o cs x->dw S' w' t γ o cs x
 | .own t,γ,o,cs,xs,j,⟨v,e,ha,r⟩=>by
  have j:=λp b=>j o p b (ς _) (by simp [Ty.size]);refine ⟨v,e,ha.stays λb arr J T=>⟨arr,T.bJ (j _ b J),rfl⟩,?_⟩;cases J:γ [o] with
  |none=>rw [J] at r;exact r
  |some b=>
   rw [J] at r;obtain ⟨arr,T,hi⟩:=r;exact ⟨arr,T.bJ (j _ b J),λi hl=>let ⟨es,I,R⟩:=hi i hl;⟨es,I,dw.bJ h t (λp b hp=>j _ b hp) R⟩⟩
 | .pair a b,γ,o,cs,x,j,⟨c1,c2,e,I,R⟩=>⟨c1,c2,e,dw.Cm h a (λq p U I R=>j q p U I (by simp only [Ty.size];omega)) I,dw.Cm h b (λq p U I R=>j q p U (by omega) (by simp only [Ty.size];omega)) R⟩
 | .st t,γ,o,cs,x,j,r=>dw.Cm h t (o:=o) (cs:=cs) (x:=x) j r
 | .int k,_,_,cs,x,_,r=>cn.bJ h (.int k) cs x r
 | .dP k,_,_,cs,x,_,r=>cn.bJ h (.dP k) cs x r
 | .bool,_,_,cs,x,_,r=>cn.bJ h .bool cs x r
 | .str,_,_,cs,x,_,r=>cn.bJ h .str cs x r
 | .sl t,_,_,cs,x,_,r=>cn.bJ h (.sl t) cs x r
 | .bx t,_,_,cs,x,_,r=>cn.bJ h (.bx t) cs x r
 | .cl f t,_,_,cs,x,_,r=>cn.bJ h (.cl f t) cs x r
theorem dw.put {S S':Nat->Prop}{w w':Ε}(h: ∀b,S b->S' b/\w'.heap[b]? =w.heap[b]?): ∀(t:Ty) {γ:List Nat->Option Nat} {J o:Nat} {cs:List π} {x:t.D} {e:Ty} {ys r:List e.D},
 dw S w t γ J cs x->ep t x o=some ⟨e,ys⟩->(∀q p b,q≠J+o->γ (q::p)=some b->w'.heap[b]? =w.heap[b]?)->
 (∀u,dw S w (.own e) γ (J+o) [u] ys->dw S' w' (.own e) γ (J+o) [u] r)->dw S' w' t γ J cs (vb t x o e r)
 | .own t,γ,J,o,cs,xs,e,ys,r,hr,j,I,R=>by
  cases o with
  |succ o=>cases j
  |zero=>
   have j:some (⟨t,xs⟩:Σ e:Ty,List e.D)=some ⟨e,ys⟩:=j;injection j with j;injection j with h1 T;subst h1;have T:=eq_of_heq T;subst T;have hp:vb (.own t) xs 0 t r=r:=by simp [vb,cR]
   rw [hp];obtain ⟨v,e,h3⟩:=hr;subst e;exact R v ⟨v,rfl,h3⟩
 | .pair a b,γ,J,o,cs,x,e,ys,r,⟨c1,c2,ec,h1,T⟩,j,I,R=>by
  unfold ep at j;unfold vb;by_cases hb:o<a.size;rw [oi.2 hb] at j⊢;exact ⟨c1,c2,ec,dw.put h a h1 j I R,dw.Cm h b (λq p U k1 k2 hp=>I q p U (by omega) hp) T⟩;rw [kY hb] at j⊢;refine ⟨c1,c2,ec,dw.Cm h a (λq p U k1 k2 hp=>I q p U (by omega) hp) h1,dw.put h b T j (λq p U k hp=>I q p U (by omega) hp) ?_⟩;rw [show J+a.size+(o - a.size)=J+o from by omega];exact R
 | .st t,γ,J,o,cs,x,e,ys,r,hr,j,I,R=>dw.put h t (cs:=cs) (x:=x) hr j I R
 | .int _,_,_,_,_,_,_,_,_,_,j,_,_=>by cases j
 | .dP _,_,_,_,_,_,_,_,_,_,j,_,_=>by cases j
 | .bool,_,_,_,_,_,_,_,_,_,j,_,_=>by cases j
 | .str,_,_,_,_,_,_,_,_,_,j,_,_=>by cases j
 | .sl _,_,_,_,_,_,_,_,_,_,j,_,_=>by cases j
 | .bx _,_,_,_,_,_,_,_,_,_,j,_,_=>by cases j
 | .cl _ _,_,_,_,_,_,_,_,_,_,j,_,_=>by cases j
theorem sx: ∀(t:Ty) {x:t.D} {o I:Nat} {e J:Ty} {ys p:List e.D} {zs:List J.D},ep t x o=some ⟨e,ys⟩->p.length=ys.length->ep t (vb t x o e p) I=some ⟨J,zs⟩->
 ∃U,ep t x I=some ⟨J,U⟩/\U.length=zs.length
 | .own t,x,o,I,e,J,ys,p,zs,j,T,h=>by
  cases o with
  |succ o=>cases j
  |zero=>
   cases I with
   |succ I=>cases h
   |zero=>
    have j:some (⟨t,x⟩:Σ e:Ty,List e.D)=some ⟨e,ys⟩:=j;injection j with j;injection j with h1 R;subst h1;have R:=eq_of_heq R;subst R;have hp:vb (.own t) x 0 t p=p:=by simp [vb,cR]
    rw [hp] at h;have h:some (⟨t,p⟩:Σ e:Ty,List e.D)=some ⟨J,zs⟩:=h;injection h with h;injection h with h1 R;subst h1;have R:=eq_of_heq R;subst R;exact ⟨x,rfl,T.symm⟩
 | .pair a b,x,o,I,e,J,ys,p,zs,j,T,h=>by
  unfold ep at j h⊢;unfold vb at h;by_cases hb:o<a.size;rw [oi.2 hb] at j h;by_cases r:I<a.size;rw [oi.2 r] at h⊢;exact sx a j T h;rw [kY r] at h⊢;exact ⟨zs,h,rfl⟩;rw [kY hb] at j h;by_cases r:I<a.size;rw [oi.2 r] at h⊢;exact ⟨zs,h,rfl⟩;rw [kY r] at h⊢;exact sx b j T h
 | .st t,x,o,I,e,J,ys,p,zs,j,T,h=>sx t (x:=x) j T h
 | .int _,_,_,_,_,_,_,_,_,j,_,_=>by cases j
 | .dP _,_,_,_,_,_,_,_,_,j,_,_=>by cases j
 | .bool,_,_,_,_,_,_,_,_,j,_,_=>by cases j
 | .str,_,_,_,_,_,_,_,_,j,_,_=>by cases j
 | .sl _,_,_,_,_,_,_,_,_,j,_,_=>by cases j
 | .bx _,_,_,_,_,_,_,_,_,j,_,_=>by cases j
 | .cl _ _,_,_,_,_,_,_,_,_,j,_,_=>by cases j
theorem uk {T:Ι}{x v:bK}{e:cO}{xa va:π}(h:cT cx g st a w)(I:qx cx.P st.mem T x v=some e)(hc:cp e.cond)(hx:VR g st.mem (cx.safe g st.mem w) w x xa)(hv:VR g st.mem (cx.safe g st.mem w) w v va):Cl cx st a w (adM T xa va) e:=by
 unfold qx at I;split at I;rename_i c off n hs;split at I;rename_i cs hl;cases hb:((Β v.cells.length n&&ϩ (off+n) cs.length)&&v.ok) with
 |false=>simp [hb] at I
 |true=>
  rw [hb] at I;simp only [cond_true] at I;simp only [κ] at hb;obtain ⟨⟨hn,R⟩,zk⟩:=hb;have hn:=cg hn;have R:=jd R;injection I with I;subst I;obtain ⟨_,J,oE,OX⟩:=hx;subst OX;obtain ⟨b,arr,hg,U,gF⟩:=h.mem c _ hl;have oE:g.f c []=some J:=oE;rw [hg] at oE;injection oE with oE;subst oE;obtain ⟨vs,zc,sT⟩:=jN zk hv;have NQ:=sT.length;have qF:=gF.length;simp only [Ω] at qF;obtain ⟨w',aa,vg,k1,k2,k3,k4⟩:=lA (P:=cx.P) (o:=off) hs U (v:=va) (by rw [zc];omega) (by omega) (qB zk hv);have q:Ip g st w w' c b [] (.box cs) (.box (cs.take off++v.cells++cs.drop (off+n))):=
   ⟨hl,trivial,hg,k3,⟨arr,aa,U,k1,k4⟩,λ_ _=>trivial,by simp,λt xs e=>(by rcases e with e|⟨_,_,_,e⟩<;>cases e),λt xs e=>(by cases e)⟩
  refine ⟨w',vg,g,?_,trivial⟩;refine h.NP q ⟨b,aa,hg,k1,?_⟩;rw [k2,zc];exact (((gF.take off).append sT).append (gF.drop _)).mono λ_ _=>CR.stays q.stays
 cases I;rename_i c i sz off n hs;split at I;rename_i t xs hl;cases hb:((Β v.cells.length n&&ϩ (off+n) t.size)&&(Β sz t.size&&v.ok)&&v.cells.all bI.It) with
 |false=>simp [hb] at I
 |true=>
  rw [hb] at I;simp only [cond_true] at I;simp only [κ] at hb;obtain ⟨⟨⟨hn,R⟩,hz,zk⟩,NR⟩:=hb;have hn:=cg hn;have R:=jd R;have hz:=cg hz;split at I;rename_i x UJ;injection I with I;subst I;have hi:i<xs.length:=hc.1;obtain ⟨_,b,oE,OX⟩:=hx;subst OX;have jm:=h.mem c _ hl;have hg:g.f c []=some b:=oE;unfold jk at jm;rw [hg] at jm;obtain ⟨arr,U,mq⟩:=jm;obtain ⟨Iq,En,zT,Lj⟩:=mq.at_ hi;obtain ⟨vs,zc,sT⟩:=jN zk hv;have NQ:=sT.length;have Cn:=AM (g:=g) (m:=st.mem) t Lj;have hE:mz g st.mem (cx.safe g st.mem w) w (λp=>g.f c (i::p)) 0 ((gT t (xs.getD i t.fm)).take off++v.cells++(gT t (xs.getD i t.fm)).drop (off+n)) (Iq.take off++vs++Iq.drop (off+n)):=by
   refine ((Cn.take off).append (mz.Ga NR sT)).append ?_;have:=Cn.drop (off+n);rw [show 0+(List.take off (gT t (xs.getD i t.fm))++v.cells).length=0+(off+n) from by simp [lB,hn];omega];exact this
  obtain ⟨cs,v2,Sm,kK,Sn⟩:=AN t UJ hE;have:v2=[]:=by cases v2 with|nil=>rfl|cons=>exact Sn.elim
  subst this;rw [ϲ] at Sm;have lj:=El t.size_pos En zT;subst hz;obtain ⟨w',aa,vg,k1,k2,k3,k4⟩:=lA (P:=cx.P) (o:=i*t.size+off) hs U (v:=va) (by rw [zc];omega) (by omega) (qB zk hv);rw [zc] at k2;have q:Ip g st w w' c b [] (.seq t xs) (.seq t (xs.set i x)):=
   ⟨hl,trivial,hg,k3,⟨arr,aa,U,k1,k4⟩,λ_ _=>trivial,by simp,λt' iy e=>by
    obtain ⟨e,e2⟩:=qa e;subst e;subst e2;exact ⟨xs,.inl rfl,by simp⟩,λt' iy e=>by
    injection e with e1 e2;subst e1;have e2:=eq_of_heq e2;subst e2;refine ⟨xs,rfl,by simp,λq o e RC qD=> ?_⟩;by_cases Eo:q=i;subst Eo;rw [show (xs.set q x).getD q t.fm=x from by simp [ε,hi]] at qD;exact ⟨RC,Em NR (by rw [hn];exact R) (by rw [hn];exact UJ) qD,rfl⟩;rw [show (xs.set i x).getD q t.fm=xs.getD q t.fm from by simp [ε,afm (λe=>Eo e.symm)]] at qD;exact ⟨RC,qD,rfl⟩⟩
  refine ⟨w',vg,g,?_,trivial⟩;refine h.NP q ?_;unfold jk;rw [hg];have ab: ∀p J,g.f c (p)=some J->p≠[]->w'.heap[J]? =w.heap[J]? :=λp J hp iH=>by
   refine k3.block J (h.lt c p _ J hl trivial hp) ?_;intro hm;simp at hm;subst hm;exact iH (h.fY c c p [] _ _ J hl trivial hl trivial hp hg).2
  refine ⟨aa,k1,λqq hq=> ?_⟩;have UK:qq<xs.length:=by simpa using hq
  by_cases Eo:qq=i;subst Eo;refine ⟨cs,?_,?_⟩;rw [<-Sm];exact Ek En zT (by omega) R lj k2;rw [adg];exact dw.bJ q.stays.safe t (λp J hp=>ab _ J hp (by simp)) kK;obtain ⟨es,e1,e2⟩:=mq qq UK;have Co:=dw.len t e2;refine ⟨es,λj u hu=> ?_,by rw [adx (λe=>Eo e.symm)];exact dw.bJ q.stays.safe t (λp J hp=>ab _ J hp (by simp)) e2⟩;rw [AO (by omega) R lj k2 Eo (by rw [<-Co];exact (ω.1 hu).1)];exact e1 j u hu;cases I
 rename_i t xs jj Ly ks hl;cases hb:((Β v.cells.length n&&ϩ (off+n) t.size)&&(Β sz t.size&&v.ok)) with
 |false=>simp [hb] at I
 |true=>
  rw [hb] at I;simp only [cond_true] at I;simp only [κ] at hb;obtain ⟨⟨hn,R⟩,hz,zk⟩:=hb;have hn:=cg hn;have R:=jd R;have hz:=cg hz;injection I with I;subst I;have RD:i=jj:=hc.1;subst RD;obtain ⟨_,J,oE,OX⟩:=hx;subst OX;obtain ⟨FY,b,arr,hg,U,hi,Ep,Iq,En,zT,gF⟩:=h.mem c _ hl;have oE:g.f c []=some J:=oE;rw [hg] at oE;injection oE with oE;subst oE;obtain ⟨vs,zc,sT⟩:=jN zk hv;have NQ:=sT.length;have qF:=gF.length;have lj:=El t.size_pos En zT;subst hz;obtain ⟨w',aa,vg,k1,k2,k3,k4⟩:=lA (P:=cx.P) (o:=i*t.size+off) hs U (v:=va) (by rw [zc];omega) (by omega) (qB zk hv);rw [zc] at k2;have YT:(Chunk.pg t xs i Ly ks).owns []:=by intro o r e;cases e
  have q:Ip g st w w' c b [] (.pg t xs i Ly ks) (.pg t xs i (Ly.take off++v.cells++Ly.drop (off+n)) ks):=
   ⟨hl,YT,hg,k3,⟨arr,aa,U,k1,k4⟩,λ_ hp=>hp,by simp,λt' iy e=>(by
    rcases e with e|⟨_,_,_,e⟩
    cases e;injection e with e1 e2;subst e1;have e2:=eq_of_heq e2;subst e2;exact ⟨xs,.inr ⟨_,_,_,rfl⟩,rfl⟩),λt' iy e=>(by cases e)⟩
  refine ⟨w',vg,g,?_,trivial⟩;refine h.NP q ?_;have ab: ∀j p J,j≠i->g.f c (j::p)=some J->w'.heap[J]? =w.heap[J]? :=λj p J iH hp=>by
   have ho:(Chunk.pg t xs i Ly ks).owns (j::p):=by intro o r e;injection e with e;exact absurd e iH
   refine k3.block J (h.lt c _ _ J hl ho hp) ?_;intro hm;simp at hm;subst hm;have:=(h.fY c c _ _ _ _ J hl ho hl YT hp hg).2;cases this
  refine ⟨FY.mono λo k hk=>⟨(q.stays (cx:=cx)).od k hk.1 |>.1,hk.2⟩,b,aa,hg,k1,hi,λj hj iH=> ?_,Iq.take off++vs++Iq.drop (off+n),?_,?_,?_⟩;obtain ⟨es,e1,e2⟩:=Ep j hj iH;have Co:=dw.len t e2;refine ⟨es,λp u hu=> ?_,dw.bJ q.stays.safe t (λp J hp=>ab j p J iH hp) e2⟩;rw [AO (by omega) R lj k2 iH (by rw [<-Co];exact (ω.1 hu).1)];exact e1 p u hu;simp;omega;exact Ek En zT (by omega) R lj k2;exact (((gF.take off).append sT).append (gF.drop _)).mono λ_ _=>CR.stays q.stays
 cases I;rename_i c i o j sz off n hs;split at I;rename_i t xs hl;split at I;rename_i e ys Li;cases hb:((Β v.cells.length n&&ϩ (off+n) e.size)&&(Β sz e.size&&v.ok)&&e.top) with
 |false=>simp [hb] at I
 |true=>
  rw [hb] at I;simp only [cond_true] at I;simp only [κ] at hb;obtain ⟨⟨⟨hn,R⟩,hz,zk⟩,rE⟩:=hb;have hn:=cg hn;have R:=jd R;have hz:=cg hz;split at I;rename_i y UJ;injection I with I;subst I;have hj:j<ys.length:=hc.1;obtain ⟨_,b,OX,RE⟩:=hx;subst OX;obtain ⟨hi,hg⟩:=RE t xs hl;have Sc:=pX h.mem hl hi Li;rw [hg] at Sc;obtain ⟨arr,U,mq⟩:=Sc;obtain ⟨Iq,zT,Lj⟩:=mq j hj;have En:=dw.len e Lj;have VH:cn (cx.safe g st.mem w) w e Iq (ys.getD j e.fm):=by rw [getD_eq hj];exact dw.rep e rE Lj
  obtain ⟨vs,zc,sT⟩:=jN zk hv;have NQ:=sT.length;have Cn:cc (CR g st.mem (cx.safe g st.mem w) w) (gT e (ys.getD j e.fm)) Iq:=ly e VH;obtain ⟨cs,v2,Sm,kK,Sn⟩:=jB (S2:=cx.safe g st.mem w) (λ_ h=>h) iz.nil e UJ (((Cn.take off).append sT).append (Cn.drop (off+n)));have:v2=[]:=by cases v2 with|nil=>rfl|cons=>exact Sn.elim
  subst this;rw [ϲ] at Sm;have lj:=El e.size_pos En zT;subst hz;obtain ⟨w',aa,vg,k1,k2,k3,k4⟩:=lA (P:=cx.P) (o:=j*e.size+off) hs U (v:=va) (by rw [zc];omega) (by omega) (qB zk hv);rw [zc] at k2;have q:Ip g st w w' c b [i,o] (.seq t xs) (.seq t (xs.set i (vb t (xs.getD i t.fm) o e (ys.set j y)))):=
   ⟨hl,trivial,hg,k3,⟨arr,aa,U,k1,k4⟩,λ_ _=>trivial,by simp,λt' iy e=>(by
    obtain ⟨e,e2⟩:=qa e;subst e;subst e2;exact ⟨xs,.inl rfl,by simp⟩),λt' iy e=>(by
    injection e with e1 e2;subst e1;have e2:=eq_of_heq e2;subst e2;refine ⟨xs,rfl,by simp,λq o' e' RC qD=> ?_⟩;by_cases Eo:q=i;subst Eo;rw [show∀z,(xs.set q z).getD q t.fm=z from λz=>by simp [ε,hi]] at qD;exact sx t Li (by simp) qD;rw [show∀z,(xs.set i z).getD q t.fm=xs.getD q t.fm from λz=>by simp [ε,afm (λe=>Eo e.symm)]] at qD;exact ⟨RC,qD,rfl⟩)⟩
  refine ⟨w',vg,g,?_,trivial⟩;refine h.NP q ?_;have ab: ∀p J,g.f c p=some J->p≠[i,o]->w'.heap[J]? =w.heap[J]? :=λp J hp iH=>by
   refine k3.block J (h.lt c p _ J hl trivial hp) ?_;intro hm;simp at hm;subst hm;exact iH (h.fY c c p [i,o] _ _ J hl trivial hl trivial hp hg).2
  have uh:=(q.stays (cx:=cx)).safe;have jm:=h.mem c _ hl;unfold jk at jm⊢;cases RF:g.f c [] with
  |none=>rw [RF] at jm;have VI:xs=[]:=jm;subst VI;simp at hi
  |some b0=>
   rw [RF] at jm;obtain ⟨qw,Sp,Sq⟩:=jm;refine ⟨qw,Sp.bJ (ab [] b0 RF (by simp)),λqq hq=> ?_⟩;have UK:qq<xs.length:=by simpa using hq
   obtain ⟨es,e1,e2⟩:=Sq qq UK;refine ⟨es,e1,?_⟩;by_cases Eo:qq=i;subst Eo;rw [adg];have hd:xs.getD qq t.fm=xs[qq]:=getD_eq UK;rw [<-hd] at e2;refine dw.put uh t e2 Li (λr p J hr hp=>ab _ J hp (by intro e;injection e with _ e;injection e with e _;omega)) λu hu=> ?_;rw [Ψ] at hu⊢;obtain ⟨v1,ev,ha,_⟩:=hu;refine ⟨v1,ev,?_,?_⟩;rw [List.length_set];exact ha.stays λJ arr1 _ rj=>q.dA rj;have Er:(λp=>g.f c (qq::p)) [o]=some b:=hg;rw [Er];refine ⟨aa,k1,λj' NO=> ?_⟩;have Hf:j'<ys.length:=by simpa using NO
   by_cases VJ:j'=j;subst VJ;refine ⟨cs,?_,?_⟩;rw [<-Sm];exact Ek En zT (by omega) R lj k2;rw [adg];exact dw.rA e rE (cn.bJ uh e cs y kK);obtain ⟨YU,d1,d2⟩:=mq j' Hf;have VK:=dw.len e d2;refine ⟨YU,λp u' Hg=> ?_,?_⟩;rw [AO (by omega) R lj k2 VJ (by rw [<-VK];exact (ω.1 Hg).1)];exact d1 p u' Hg;rw [adx (λe=>VJ e.symm)];exact dw.rA e rE (cn.bJ uh e YU _ (dw.rep e rE d2));rw [adx (λe=>Eo e.symm)];exact dw.bJ uh t (λp J hp=>ab _ J hp (by intro e;injection e with e _;exact Eo e)) e2
  cases I
 cases I;cases I;cases I
end
end Go.Ide
namespace Go.Ide
def vi (A:List (List Nat->Option Nat))(F:List Nat):Prop:= ∀b,b∈F↔ ∃γ,γ∈A/\ ∃p,γ p=some b
def pM (A:List (List Nat->Option Nat)):Prop:=
 A.Pairwise (λγ j=> ∀p q b,γ p=some b->j q=some b->False)/\ ∀γ,γ∈A-> ∀p q b,γ p=some b->γ q=some b->p=q
def Sr (S:Nat->Prop)(w:Ε)(t:Ty)(v:π)(xs:List t.D)(γ:List Nat->Option Nat):Prop:=
 ∃b cap arr,γ []=some b/\v= .slice (some ⟨b,0,none⟩) xs.length cap/\xs.length<=cap/\0<cap/\dA w b arr/\cap*t.size<=arr.size/\cap<=maxLen/\eU S w γ t xs arr
def ga (S:Nat->Prop)(w:Ε)(t:Ty)(cs:List π)(xs:List t.D)(A:List (List Nat->Option Nat)):Prop:=
 (A=[λ_=>none]/\xs=[]/\ ∃a,cs=[.slice a 0 0])\/ ∃v γ,A=[γ]/\cs=[v]/\Sr S w t v xs γ
def zU (S:Nat->Prop)(w:Ε)(t:Ty)(cs:List π)(xs:List t.D)(A:List (List Nat->Option Nat)):Prop:=
 ∃γ b arr,A=[γ]/\cs=[.pointer (some ⟨b,0,none⟩)]/\γ []=some b/\dA w b arr/\eU S w γ t xs arr
def dG (S:Nat->Prop)(w:Ε):(t:Ty)->List π->t.D->List (List Nat->Option Nat)->Prop
 | .pair a b,cs,x,A=> ∃o p r I,cs=o++p/\A=r++I/\dG S w a o x.1 r/\dG S w b p x.2 I
 | .st t,cs,x,A=>dG S w t cs x A
 | .sl t,cs,j,A=>ga S w t cs j A
 | .own t,cs,j,A=>ga S w t cs j A
 | .bx t,cs,j,A=>zU S w t cs j A
 | .cl f t,cs,x,A=>A=[]/\cn S w (.cl f t) cs x
 | .int k,cs,x,A=>A=[]/\cn S w (.int k) cs x
 | .dP k,cs,x,A=>A=[]/\cn S w (.dP k) cs x
 | .bool,cs,x,A=>A=[]/\cn S w .bool cs x
 | .str,cs,x,A=>A=[]/\cn S w .str cs x
def tz:(t:Ty)->t.D->t.D->Prop
 | .pair a b,x,y=>tz a x.1 y.1/\tz b x.2 y.2
 | .st t,x,y=>tz t x y
 | .sl t,x,y=>cL t x y
 | .own t,x,y=>cL t x y
 | .bx t,x,y=>cL t x y
 | .cl _ _,_,_=>True
 | .int _,_,_=>True
 | .dP _,_,_=>True
 | .bool,_,_=>True
 | .str,_,_=>True
def xB (S:Nat->Prop)(w:Ε):Arg->π->List (List Nat->Option Nat)->Prop
 | .bZ t x,v,A=>A=[]/\ ∃cs,dQ t cs v/\cn S w t cs x
 | .fZ t x,v,A=>A=[]/\ ∃(o:ab6) (es:List π),v= .pointer (some o)/\S o.block/\(∀j u,es[j]? =some u->w.cell? (o.add j)=some u)/\cn S w t es x
 | .own t x,v,A=> ∃cs,dQ t cs v/\dG S w t cs x A
 | .mv t x,v,A=> ∃cs,dQ t cs v/\dG S w t cs x A
 | .fn f,v,A=>A=[]/\v= .func (.func f) #[] #[]
 | .ji f t x,v,A=>A=[]/\ ∃(o:ab6) (es:List π),v= .func (.func f) #[] #[.pointer (some o)]/\S o.block/\(∀j u,es[j]? =some u->w.cell? (o.add j)=some u)/\cn S w t es x
 | .nl,v,A=>A=[]/\ ∃a,v= .slice a 0 0
def oN (S:Nat->Prop)(w:Ε):List Arg->List π->List (List (List Nat->Option Nat))->Prop
 |[],[],[]=>True
 |a::j,v::o,A::p=>xB S w a v A/\oN S w j o p
 |_,_,_=>False
def iA (S:Nat->Prop)(w:Ε):List Arg->List π->List (List (List Nat->Option Nat))->List TD->Prop
 |[],[],[],[]=>True
 | .own t x::j,v::p,A::r,o::os=>(∃(h:o.t=t) (cs:List π),dQ t cs v/\dG S w t cs (cR h o.x) A/\tz t x (cR h o.x))/\iA S w j p r os
 | .bZ _ _::j,_::p,_::r,os=>iA S w j p r os
 | .fZ _ _::j,_::p,_::r,os=>iA S w j p r os
 | .mv _ _::j,_::p,_::r,os=>iA S w j p r os
 | .fn _::j,_::p,_::r,os=>iA S w j p r os
 | .ji _ _ _::j,_::p,_::r,os=>iA S w j p r os
 | .nl::j,_::p,_::r,os=>iA S w j p r os
 |_,_,_,_=>False
def um (b:Nat):List Arg->List (List (List Nat->Option Nat))->Prop
 | .mv _ _::j,A::o=>(∃γ,γ∈A/\ ∃p,γ p=some b)\/um b j o
 |_::j,_::o=>um b j o
 |_,_=>False
theorem um.sub {b:Nat}: ∀{asx:List Arg} {As:List (List (List Nat->Option Nat))},um b asx As-> ∃γ,γ∈As.flatten/\ ∃p,γ p=some b
 |[],_,h=>by simp [um] at h
 |_::_,[],h=>by simp [um] at h
 |a::asx,A::As,h=>by
  have up:um b asx As-> ∃γ,γ∈(A::As).flatten/\ ∃p,γ p=some b:=λh=>by
   obtain ⟨γ,j,o⟩:=um.sub h;exact ⟨γ,by rw [aaR];exact Λ.2 (.inr j),o⟩
  cases a with
  |mv t x=>
   rcases h with ⟨γ,j,o⟩|h
   exact ⟨γ,by rw [aaR];exact Λ.2 (.inl j),o⟩;exact up h
  |_=>exact up h
def wB (S:Nat->Prop)(w:Ε)(r:RV)(v:π)(A:List (List Nat->Option Nat)):Prop:=
 if r.fresh then∃cs,dQ r.t cs v/\dG S w r.t cs r.x A else A=[]/\ ∃cs,dQ r.t cs v/\cn S w r.t cs r.x
def nw (S:Nat->Prop)(w:Ε):List RV->List π->List (List Nat->Option Nat)->Prop
 |[],[],A=>A=[]
 |r::rs,v::p,A=> ∃j o,A=j++o/\wB S w r v j/\nw S w rs p o
 |_,_,_=>False
def zW:List π->π->Prop
 |[u],v=>v=u
 |j,v=>v= .tuple j.toArray
def Es (S:Nat->Prop)(w:Ε)(rs:List RV)(v:π)(A:List (List Nat->Option Nat)):Prop:=
 ∃j,nw S w rs j A/\zW j v
def kx (P:Ο)(f:aaF):Prop:= ∃fn,P.funcs[f]? =some fn/\(fn.name=="runtime.NumGoroutine")=false/\fn.body.isNone=false
def je (S:Nat->Prop)(w w':Ε)(j:List Nat)(b:Nat):Prop:=b<w'.heap.size/\(b<w.heap.size->S b)/\b ∉ j
def CallOK (P:Ο)(f:aaF)(args:List Arg)(rs:List RV)(outs:List TD):Prop:=
 kx P f/\ ∀(w:Ε) (S:Nat->Prop) (vals:List π) (j:List (List (List Nat->Option Nat))) (F:List Nat),vi j.flatten F->pM j.flatten->
  (∀b,S b->b<w.heap.size/\b ∉ F)->(∀b,b∈F->b<w.heap.size)->oN S w args vals j->Glob.ok w S->
  Calls P f vals.toArray w λe w'=> ∃v p o,e= .returned v/\vi p o/\pM p/\Es (je S w w' o) w' rs v p/\(∀b,b∈o->(w.heap.size<=b\/um b args j)/\b<w'.heap.size)/\
   bU F w w'/\iA (je S w w' o) w' args vals j outs
def iP (m:Mem):Mode->bK->Option Arg
 | .bZ t,v=>match kf m t v with
  |some x=>some (.bZ t x)
  |none=>none
 | .own t,v=>match kf m t v with
  |some x=>some (.own t x)
  |none=>none
 | .mv t,v=>match kf m t v with
  |some x=>some (.mv t x)
  |none=>none
 | .fZ t,.one (.ip j x off)=>match impl m t (((gT j x).drop off).take t.size) with
  |some (y,[])=>some (.fZ t y)
  |_=>none
 | .fn,.one (.fn f)=>some (.fn f)
 | .ji t,.one (.ji f j x)=>if h:j=t then some (.ji f t (cR h x)) else none
 | .nl,.one .bH=>some .nl
 |_,_=>none
def pj (mp m:Mem):Mode->bK->Option Arg
 | .fZ t,.one (.ptr c off)=>match lk c mp with
  |some (.box cs)=>(match impl m t ((cs.drop off).take t.size) with
   |some (y,[])=>some (.fZ t y)
   |_=>none)
  |_=>none
 |md,v=>iP m md v
def dD (m mp m2:Mem):List Mode->List bK->Option (List Arg)
 |[],[]=>some []
 | .own t::o,v::p=>match iP m (.own t) v,dD m mp m2 o p with
  |some a,some j=>some (a::j)
  |_,_=>none
 | .mv t::o,v::p=>match iP m (.mv t) v,dD m mp m2 o p with
  |some a,some j=>some (a::j)
  |_,_=>none
 |md::o,v::p=>match pj mp m2 md v,dD m mp m2 o p with
  |some a,some j=>some (a::j)
  |_,_=>none
 |_,_=>none
def dW (m:Mem):List Mode->List bK->Option (List Nat)
 |[],[]=>some []
 | .own t::j,v::o=>match dU m t v.cells,dW m j o with
  |some (p,[]),some l=>some (p++l)
  |_,_=>none
 | .mv t::j,v::o=>match dU m t v.cells,dW m j o with
  |some (p,[]),some l=>some (p++l)
  |_,_=>none
 |_::j,_::o=>dW m j o
 |_,_=>none
def oO:(t:Ty)->List bI->t.D->Option (Mem×List bI)
 | .pair a b,cs,x=>match oO a cs x.1 with
  |some (o,r)=>(match oO b r x.2 with
   |some (p,I)=>some (o++p,I)
   |none=>none)
  |none=>none
 | .st t,cs,x=>oO t cs x
 | .sl t,cs,j=>match cs with
  | .all c::r=>some ([(c,.seq t j)],r)
  | .bH::r=>some ([],r)
  |_=>none
 | .own t,cs,j=>match cs with
  | .all c::r=>some ([(c,.seq t j)],r)
  | .bH::r=>some ([],r)
  |_=>none
 | .bx t,cs,j=>match cs with
  | .dn c _ _ _::r=>some ([(c,.seq t j)],r)
  |_=>none
 | .int _,cs,_=>match cs with
  | .bG _ _::r=>some ([],r)
  |_=>none
 | .dP _,cs,_=>match cs with
  | .bG _ _::r=>some ([],r)
  |_=>none
 | .bool,cs,_=>match cs with
  | .bG _ _::r=>some ([],r)
  |_=>none
 | .str,cs,_=>match cs with
  | .bG _ _::r=>some ([],r)
  |_=>none
 | .cl _ _,cs,_=>match cs with
  | .bG _ _::r=>some ([],r)
  |_=>none
def ed:List Mode->List bK->List TD->Option Mem
 |[],[],[]=>some []
 | .own t::j,v::p,o::os=>if h:o.t=t then (match oO t v.cells (cR h o.x),ed j p os with
  |some (u,[]),some l=>some (u++l)
  |_,_=>none) else none
 | .mv t::j,v::p,os=>match lu t v.cells,ed j p os with
  |some (r,[]),some l=>some (r.map (λk=>(k,Chunk.gone))++l)
  |_,_=>none
 | .bZ _::j,_::p,os=>ed j p os
 | .fZ _::j,_::p,os=>ed j p os
 | .fn::j,_::p,os=>ed j p os
 | .ji _::j,_::p,os=>ed j p os
 | .nl::j,_::p,os=>ed j p os
 |_,_,_=>none
def lC:List RV->Nat->List (Bool×List bI)×List Chunk
 |[],_=>([],[])
 |r::rs,n=>
  let p:List bI×List Chunk:=if r.fresh then cZ r.t r.x n else (gT r.t r.x,[])
  let q:=lC rs (n+p.2.length)
  ((r.t.sS,p.1)::q.1,p.2++q.2)
def Hh:List (Bool×List bI)->bK
 |[(true,cs)]=> .agg cs
 |[(false,[c])]=> .one c
 |[_]=> .dS
 |l=> .AA l
def fA:List Mode->Bool
 |[]=>true
 | .own t::j=>t.kX&&fA j
 |_::j=>fA j
def j3:List Mode->Bool
 |[]=>true
 | .own _::_=>false
 | .mv _::_=>false
 |_::j=>j3 j
def vP (P:Ο)(m:Mem)(nx:Nat)(ms:List Mode)(rs:List RV)(outs:List TD)(f:aaF)(vs:List bK):Option cO:=
 match dW m ms vs,ed ms vs outs with
 |some o,some up=>(match dD [] [] [] ms vs with
  |some j=>bif o.isEmpty&&j3 ms then some ⟨Hh (lC rs nx).1,cD nx (lC rs nx).2,up,[CallOK P f j rs outs]⟩ else none
  |none=>bif j7 o then (bif rs.all RV.tW&&fA ms then (match dD m m ((o.map λk=>(k,Chunk.gone))++m) ms vs with
   |some j=>some ⟨Hh (lC rs nx).1,cD nx (lC rs nx).2,up,[CallOK P f j rs outs]⟩
   |none=>none) else (match dD m [] [] ms vs with
   |some j=>some ⟨Hh (lC rs nx).1,cD nx (lC rs nx).2,up,[CallOK P f j rs outs]⟩
   |none=>none)) else none)
 |_,_=>none
end Go.Ide
