import Derived.WalkKit
set_option linter.all false
open Array renaming length_toList→Ψ,getD_eq_getD_getElem?→ώ,getElem?_eq_some_iff→Ϣ,getElem?_toList→ϥ,getElem?_eq_getElem→aak,getElem?_modify→aaP,ext'→aaU,range→abT,toList_setIfInBounds→adP,toList_zipIdx→aeP,foldl_toList→aeY
open BitVec renaming ofInt→Ϟ
open Bool renaming and_eq_true→κ,false_eq_true→acd
open ByteArray renaming size→abj,ext_iff→aer
open Go renaming Value→ο,World→Ε,TypeId→Ι,Program→Ξ,IntKind→aaC,FuncId→aaE,Addr→abI,BinOp→ach
open Go.Addr renaming add→abF
open Go.Builtin renaming append_→Ϛ,zeroCells→Ϧ,firstCells→aaH,lenOf→aaZ,len_→aco,min_→acq,max_→ad9
open Go.Instr renaming buildSlice→Ϲ,sureAddr→aat,indexAt→aaF,sliceBounds→aaM,fill→aa1,fieldAt→ab7,sliceAt→acp,sliceBound→acv,loadAt→acE,alloc→acV,storeAt→adj,box→adv,extract→agl,slice→agW
open Go.Op renaming intCmp→ac7,intArith→adN,stringOp→adO,intBits→ad8,unary→agY,bytesLess→ahv
open Go.Program renaming built→afN
open Go.Result renaming andThen_ok→ϋ
open Go.RowKit.Below renaming heap_alloc→aao,heap_setCell→abG
open Go.Sem renaming run_bind→Ϙ
open Go.World renaming cell?_of_block→abS,setCell→aes
open Int renaming toNat→δ,toNat_natCast→Β,eq_ofNat_of_zero_le→aeu,le_trans→aeG,le_antisymm→agj
open List renaming getD→ε,length→ζ,getElem?_eq_some_iff→ψ,length_append→ω,getElem?_eq_getElem→Γ,length_cons→Ζ,getElem?_append_right→Κ,mem_append→Λ,getElem?_append_left→Μ,append_assoc→ό,getElem?_take→ϐ,length_map→ϔ,length_take→ϙ,append_nil→ϴ,eq_nil_of_length_eq_zero→ϸ,take_length→aam,mem_of_getElem?→aaG,getElem?_drop→aaJ,getElem_of_mem→aaL,flatten_cons→aaR,all_cons→aaT,size_toArray→abk,getElem_set_self→acF,getElem_set_ne→acW,take_succ_eq_append_getElem→adm,getElem_map→adW,set_append_right→aeF,getElem?_set_ne→aeQ,drop_set_of_lt→aeX,map→agi,drop_drop→ago,take_set→agC
open Nat renaming le_refl→φ,beq→Α,mul_le_mul_right→Ρ,zero_add→Υ,add_mul→ϑ,le_of_ble_eq_true→ϓ,lt_of_lt_of_le→ϖ,add_assoc→Ϡ,le_trans→ϣ,add_zero→ϧ,ble→ϩ,blt→aae,one_pos→aar,min_eq_left→aav,mul_comm→aay,mul_le_mul→aaB,zero_mul→aaY,mod_lt→aa7,eq_of_beq_eq_true→abc,ble_eq_true_of_le→aeO,div_lt_of_lt_mul→aeZ,div_add_mod→agm,le_of_lt→ahh,add_comm→ahi
open Option renaming isSome_iff_exists→abl
open Option.some renaming inj→ahz
namespace Go.Ide
inductive Ty where
 |int (k:aaC)
 |dB (k:FloatKind)
 |bool
 |str
 |sl (t:Ty)
 |pair (a b:Ty)
 |st (t:Ty)
 |own (t:Ty)
 |bx (t:Ty)
 |cl (f:aaE) (t:Ty)
 deriving DecidableEq
@[reducible] def Ty.D:Ty->Type
 | .int _=>Int
 | .dB _=>Nat
 | .bool=>Bool
 | .str=>List UInt8
 | .sl t=>List t.D
 | .pair a b=>a.D×b.D
 | .st t=>t.D
 | .own t=>List t.D
 | .bx t=>List t.D
 | .cl _ t=>t.D
def Ty.eY:(t:Ty)->t.D
 | .int _=>(0:Int)
 | .dB _=>(0:Nat)
 | .bool=>false
 | .str=>([]:List UInt8)
 | .sl t=>([]:List t.D)
 | .pair a b=>(a.eY,b.eY)
 | .st t=>t.eY
 | .own t=>([]:List t.D)
 | .bx t=>([]:List t.D)
 | .cl _ t=>t.eY
def Ty.size:Ty->Nat
 | .pair a b=>a.size+b.size
 | .st t=>t.size
 |_=>1
def Ty.sj:Ty->List Nat
 | .pair a b=>a.size::b.sj
 |t=>[t.size]
def Ty.sk:Ty->Bool
 | .st _=>true
 |_=>false
inductive bs where
 |bp (t:Ty) (x:t.D)
 |ptr (c off:Nat)
 |cZ (c i sz off:Nat)
 |ip (t:Ty) (x:t.D) (off:Nat)
 |all (c:Nat)
 |ref (c off len:Nat)
 |row (c i o:Nat)
 |yK (c i o j sz off:Nat)
 |br
 |fn (f:aaE)
 |jb (f:aaE) (t:Ty) (x:t.D)
 |cls (f:aaE) (ks:List Nat)
 |zq (f:aaE) (t:Ty) (x:t.D)
 |fK (c:Nat)
 |dE
 |bad
inductive bu where
 |one (c:bs)
 |agg (cs:List bs)
 |Ab (vs:List (Bool×List bs))
 |BO
 |dE
inductive Chunk where
 |box (cs:List bs)
 |seq (t:Ty) (xs:List t.D)
 |oS (t:Ty) (xs:List t.D) (i:Nat) (cs:List bs) (ks:List Nat)
 |mp (t u:Ty) (xs:List (t.D×u.D))
 |gh (cs:List bs) (vs:List ο)
 |pA (T e:Ι) (xs:List UInt8)
 |gone
abbrev Mem:=List (Nat×Chunk)
abbrev Fr:=List (Nat×bu)
def lk {α:Type}(k:Nat):List (Nat×α)->Option α
 |[]=>none
 |p::r=>bif Α k p.1 then some p.2 else lk k r
structure St where
 fr:Fr
 mem:Mem
 nx:Nat
def cE {a b:Ty}(h:a=b)(x:a.D):b.D:=h▸x
def Ty.er:Ty->Ty
 | .own t=> .sl t.er
 | .sl t=> .sl t.er
 | .bx t=> .bx t.er
 | .cl f t=> .cl f t
 | .pair a b=> .pair a.er b.er
 | .st t=> .st t.er
 | .int k=> .int k
 | .dB k=> .dB k
 | .bool=> .bool
 | .str=> .str
theorem Ty.wx:(t:Ty)->t.er.D=t.D
 | .own t=>congrArg List (wx t)
 | .sl t=>congrArg List (wx t)
 | .bx t=>congrArg List (wx t)
 | .cl _ _=>rfl
 | .pair a b=>by show (a.er.D×b.er.D)=(a.D×b.D);rw [wx a,wx b]
 | .st t=>wx t
 | .int _=>rfl
 | .dB _=>rfl
 | .bool=>rfl
 | .str=>rfl
def zr {A B:Type}(h:A=B)(x:A):B:=h▸x
def BJ {t:Ty}(x:t.D):t.er.D:=zr t.wx.symm x
def Ty.jU:Ty->Bool
 | .own _=>false
 | .sl t=>t.jU
 | .bx t=>t.jU
 | .pair a b=>a.jU&&b.jU
 | .st t=>t.jU
 |_=>true
def dU:(t:Ty)->t.D->Nat->Option (Σ e:Ty,List e.D)
 | .own e,x,o=>(match o with|0=>some ⟨e,x⟩|_+1=>none)
 | .pair a b,x,o=>bif aae o a.size then dU a x.1 o else dU b x.2 (o - a.size)
 | .st t,x,o=>dU t x o
 | .int _,_,_=>none
 | .dB _,_,_=>none
 | .bool,_,_=>none
 | .str,_,_=>none
 | .sl _,_,_=>none
 | .bx _,_,_=>none
 | .cl _ _,_,_=>none
def cw:Ty->Nat->List Nat
 | .own _,o=>[o]
 | .pair a b,o=>cw a o++cw b (o+a.size)
 | .st t,o=>cw t o
 | .int _,_=>[]
 | .dB _,_=>[]
 | .bool,_=>[]
 | .str,_=>[]
 | .sl _,_=>[]
 | .bx _,_=>[]
 | .cl _ _,_=>[]
def ux:(t:Ty)->t.D->Nat->(e:Ty)->List e.D->t.D
 | .own p,x,o,e,j=>(match o with|0=>if h:e=p then cE (a:= .sl e) (b:= .sl p) (congrArg Ty.sl h) j else x|_+1=>x)
 | .pair a b,x,o,e,j=>bif aae o a.size then (ux a x.1 o e j,x.2) else (x.1,ux b x.2 (o - a.size) e j)
 | .st t,x,o,e,j=>ux t x o e j
 | .int _,x,_,_,_=>x
 | .dB _,x,_,_,_=>x
 | .bool,x,_,_,_=>x
 | .str,x,_,_,_=>x
 | .sl _,x,_,_,_=>x
 | .bx _,x,_,_,_=>x
 | .cl _ _,x,_,_,_=>x
def dF (m:Mem)(t:Ty):bs->Option t.D
 | .bp I x=>if h:I=t then some (cE h x) else none
 | .all c=>match t with
  | .sl e=>(match lk c m with
   |some (.seq j p)=>if h:j=e then some (cE (congrArg Ty.sl h) p) else if h:j.er=e then some (cE (congrArg Ty.sl h) (BJ (t:= .sl j) p)) else none
   |_=>none)
  |_=>none
 | .row c i o=>match t with
  | .sl e=>(match lk c m with
   |some (.seq r p)=>(match dU r (p.getD i r.eY) o with
    |some ⟨j,J⟩=>if h:j=e then some (cE (congrArg Ty.sl h) J) else none
    |none=>none)
   |_=>none)
  |_=>none
 | .ref c off len=>match t with
  | .sl e=>(match lk c m with
   |some (.seq j p)=>if h:j=e then some (cE (congrArg Ty.sl h) ((p.drop off).take len)) else none
   |_=>none)
  |_=>none
 | .br=>match t with
  | .sl e=>some ([]:List e.D)
  |_=>none
 | .cZ c i R off=>match t with
  | .bx e=>(match lk c m with
   |some (.seq j p)=>if h:j=e then (bif Α i 0&&(Α off 0&&Α R e.size) then some (cE (congrArg Ty.bx h) p) else none) else none
   |_=>none)
  |_=>none
 |_=>none
def dc (m:Mem)(t:Ty):List bs->Option (t.D×List bs)
 |c::r=>(match dF m t c with
  |some x=>some (x,r)
  |none=>none)
 |[]=>none
def impl (m:Mem):(t:Ty)->List bs->Option (t.D×List bs)
 | .pair a b,cs=>match impl m a cs with
  |some (x,r)=>(match impl m b r with
   |some (y,j)=>some ((x,y),j)
   |none=>none)
  |none=>none
 | .st t,cs=>impl m t cs
 | .int k,cs=>dc m (.int k) cs
 | .dB k,cs=>dc m (.dB k) cs
 | .bool,cs=>dc m .bool cs
 | .str,cs=>dc m .str cs
 | .sl t,cs=>dc m (.sl t) cs
 | .own t,cs=>dc m (.own t) cs
 | .bx t,cs=>dc m (.bx t) cs
 | .cl f t,cs=>dc m (.cl f t) cs
def bu.cells:bu->List bs
 | .one c=>[c]
 | .agg cs=>cs
 |_=>[]
def j5 (m:Mem)(t:Ty)(v:bu):Option t.D:=
 match v,t.sk with
 | .one c,false=>(match impl m t [c] with|some (x,[])=>some x|_=>none)
 | .agg cs,true=>(match impl m t cs with|some (x,[])=>some x|_=>none)
 |_,_=>none
def gE:(t:Ty)->t.D->List bs
 | .pair a b,x=>gE a x.1++gE b x.2
 | .st t,x=>gE t x
 | .int k,x=>[.bp (.int k) x]
 | .dB k,x=>[.bp (.dB k) x]
 | .bool,x=>[.bp .bool x]
 | .str,x=>[.bp .str x]
 | .sl t,x=>[.bp (.sl t) x]
 | .own t,x=>[.bp (.own t) x]
 | .bx t,x=>[.bp (.bx t) x]
 | .cl f t,x=>[.bp (.cl f t) x]
def zt (c i:Nat):(t:Ty)->Nat->t.D->List bs
 | .pair a b,o,x=>zt c i a o x.1++zt c i b (o+a.size) x.2
 | .st t,o,x=>zt c i t o x
 | .own _,o,_=>[.row c i o]
 | .int k,_,x=>[.bp (.int k) x]
 | .dB k,_,x=>[.bp (.dB k) x]
 | .bool,_,x=>[.bp .bool x]
 | .str,_,x=>[.bp .str x]
 | .sl t,_,x=>[.bp (.sl t) x]
 | .bx t,_,x=>[.bp (.bx t) x]
 | .cl f t,_,x=>[.bp (.cl f t) x]
def eC:(t:Ty)->t.D->Nat->List bs×List Chunk
 | .pair a b,x,n=>((eC a x.1 n).1++(eC b x.2 (n+(eC a x.1 n).2.length)).1,(eC a x.1 n).2++(eC b x.2 (n+(eC a x.1 n).2.length)).2)
 | .st t,x,n=>eC t x n
 | .own t,x,n=>([.all n],[.seq t x])
 | .int k,x,_=>([.bp (.int k) x],[])
 | .dB k,x,_=>([.bp (.dB k) x],[])
 | .bool,x,_=>([.bp .bool x],[])
 | .str,x,_=>([.bp .str x],[])
 | .sl t,x,_=>([.bp (.sl t) x],[])
 | .bx t,x,_=>([.bp (.bx t) x],[])
 | .cl f t,x,_=>([.bp (.cl f t) x],[])
def mb (m:Mem):(t:Ty)->List bs->Option ((t.D×List Nat)×List bs)
 | .pair a b,cs=>match mb m a cs with
  |some ((x,j),r)=>(match mb m b r with
   |some ((y,o),I)=>some (((x,y),j++o),I)
   |none=>none)
  |none=>none
 | .st t,cs=>mb m t cs
 | .own t,cs=>(match cs with
  | .br::r=>some ((([]:List t.D),[]),r)
  | .all c::r=>(match lk c m with
   |some (.seq e J)=>if h:e=t then some ((cE (a:= .sl e) (b:= .sl t) (congrArg Ty.sl h) J,[c]),r) else none
   |_=>none)
  |_=>none)
 | .int k,cs=>(dc [] (.int k) cs).map λp=>((p.1,[]),p.2)
 | .dB k,cs=>(dc [] (.dB k) cs).map λp=>((p.1,[]),p.2)
 | .bool,cs=>(dc [] .bool cs).map λp=>((p.1,[]),p.2)
 | .str,cs=>(dc [] .str cs).map λp=>((p.1,[]),p.2)
 | .sl t,cs=>(dc [] (.sl t) cs).map λp=>((p.1,[]),p.2)
 | .bx t,cs=>(dc [] (.bx t) cs).map λp=>((p.1,[]),p.2)
 | .cl f t,cs=>(dc [] (.cl f t) cs).map λp=>((p.1,[]),p.2)
def cN:(t:Ty)->t.D->Nat->List bs×List Chunk
 | .pair a b,x,n=>((cN a x.1 n).1++(cN b x.2 (n+(cN a x.1 n).2.length)).1,(cN a x.1 n).2++(cN b x.2 (n+(cN a x.1 n).2.length)).2)
 | .st t,x,n=>cN t x n
 | .int k,x,_=>([.bp (.int k) x],[])
 | .dB k,x,_=>([.bp (.dB k) x],[])
 | .bool,x,_=>([.bp .bool x],[])
 | .str,x,_=>([.bp .str x],[])
 | .sl t,x,n=>([.all n],[.seq t x])
 | .own t,x,n=>([.all n],[.seq t x])
 | .bx t,x,n=>([.cZ n 0 t.size 0],[.seq t x])
 | .cl f t,x,_=>([.bp (.cl f t) x],[])
def cm:Nat->List Chunk->Mem
 |_,[]=>[]
 |n,c::r=>(n,c)::cm (n+1) r
def bs.ok:bs->Bool
 | .bad=>false
 |_=>true
def bu.ok:bu->Bool
 | .one c=>c.ok
 | .agg cs=>cs.all bs.ok
 |_=>false
end Go.Ide
namespace Go.Ide
def pow10Cells:Array ο:=((List.range 20).map λi=>Value.int .u64 ((10^i:Nat):Int)).toArray
def ErrV (w:Ε)(b:Nat):Prop:= ∃ev,w.cell? ⟨b,0,none⟩=some ev/\(ev= .nilIface\/ ∃j o,ev= .iface j o)
def Glob.ok (w:Ε)(S:Nat->Prop):Prop:=
 ((S 0/\ ∃m,w.cell? ⟨0,0,none⟩=some (.int .i64 m))/\S 1/\ ∃t fr,w.heap[1]? =some (.cells pow10Cells t fr))/\(S 4/\ErrV w 4)/\S 5/\ErrV w 5
theorem ErrV.mono {w w':Ε}{b:Nat}(h:w'.heap[b]? =w.heap[b]?)(j:ErrV w b):ErrV w' b:=by
 obtain ⟨ev,o,p⟩:=j;exact ⟨ev,(abS h).trans o,p⟩
theorem Glob.mono {w w':Ε}{S S':Nat->Prop}(h: ∀b,S b->S' b/\w'.heap[b]? =w.heap[b]?)(I:Glob.ok w S):Glob.ok w' S':=by
 obtain ⟨⟨⟨j,m,J⟩,o,t,fr,ht⟩,⟨p,R⟩,r,T⟩:=I;exact ⟨⟨⟨(h 0 j).1,m,(abS (h 0 j).2).trans J⟩,(h 1 o).1,t,fr,(h 1 o).2.trans ht⟩,⟨(h 4 p).1,R.mono (h 4 p).2⟩,(h 5 r).1,T.mono (h 5 r).2⟩
theorem Glob.HO {w:Ε}{S:Nat->Prop}(h:Glob.ok w S): ∃m,w.cell? ⟨0,0,none⟩=some (.int .i64 m):=h.1.1.2
theorem Glob.pow {w:Ε}{S:Nat->Prop}(h:Glob.ok w S):S 1/\ ∃t fr,w.heap[1]? =some (.cells pow10Cells t fr):=h.1.2
end Go.Ide
namespace Go.Ide
def bN {α β:Type}(R:α->β->Prop):List α->List β->Prop
 |[],[]=>True
 |a::j,b::o=>R a b/\bN R j o
 |_,_=>False
theorem bN.length {α β:Type}{R:α->β->Prop}: ∀{asx:List α} {j:List β},bN R asx j->asx.length=j.length
 |[],[],_=>rfl
 |_::_,_::_,h=>by simp [bN.length h.2]
 |[],_::_,h=>h.elim
 |_::_,[],h=>h.elim
theorem bN.mono {α β:Type}{R j:α->β->Prop}(o: ∀a b,R a b->j a b): ∀{asx:List α} {p:List β},bN R asx p->bN j asx p
 |[],[],_=>trivial
 |_::_,_::_,h=>⟨o _ _ h.1,bN.mono o h.2⟩
 |[],_::_,h=>h.elim
 |_::_,[],h=>h.elim
theorem bN.append {α β:Type}{R:α->β->Prop}: ∀{asx:List α} {r:List β} {j:List α} {o:List β},bN R asx r->bN R j o->bN R (asx++j) (r++o)
 |[],[],_,_,_,p=>p
 |_::_,_::_,_,_,h,p=>⟨h.1,bN.append h.2 p⟩
 |[],_::_,_,_,h,_=>h.elim
 |_::_,[],_,_,h,_=>h.elim
theorem bN.take {α β:Type}{R:α->β->Prop}: ∀(n:Nat) {asx:List α} {j:List β},bN R asx j->bN R (asx.take n) (j.take n)
 |0,_,_,_=>by simp [bN]
 |_+1,[],[],_=>by simp [bN]
 |n+1,_::_,_::_,h=>by simpa [bN] using ⟨h.1,bN.take n h.2⟩
 |_+1,[],_::_,h=>h.elim
 |_+1,_::_,[],h=>h.elim
theorem bN.drop {α β:Type}{R:α->β->Prop}: ∀(n:Nat) {asx:List α} {j:List β},bN R asx j->bN R (asx.drop n) (j.drop n)
 |0,_,_,h=>by simpa using h
 |_+1,[],[],_=>by simp [bN]
 |n+1,_::_,_::_,h=>by simpa using bN.drop n h.2
 |_+1,[],_::_,h=>h.elim
 |_+1,_::_,[],h=>h.elim
theorem bN.get {α β:Type}{R:α->β->Prop}: ∀{asx:List α} {o:List β} (i:Nat),bN R asx o-> ∀a,asx[i]? =some a-> ∃b,o[i]? =some b/\R a b
 |[],[],_,_,a,h=>by simp at h
 |_::_,b::_,0,h,a,j=>by simp at j;subst j;exact ⟨b,rfl,h.1⟩
 |_::_,_::_,i+1,h,a,j=>by simpa using bN.get i h.2 a (by simpa using j)
 |[],_::_,_,h,_,_=>h.elim
 |_::_,[],_,h,_,_=>h.elim
def cW:FloatKind->Nat->Nat
 | .f32,b=>if b%2147483648>2139095040 then 2143289344 else b
 | .f64,b=>if b%9223372036854775808>9218868437227405312 then 9221120237041090560 else b
def dm (w:Ε)(b:Nat)(arr:Array ο):Prop:=
 ∃T j o,w.heap[b]? =some (.cells arr T (j,o))/\(j=o\/arr.size<=j)
theorem dm.NU {w:Ε}{b:Nat}{arr:Array ο}(h:dm w b arr){o:Nat}(j:o<arr.size):w.frozen? ⟨b,o,none⟩=false:=by
 obtain ⟨T,p,r,h,t⟩:=h;simp only [World.frozen?,h,Bool.and_eq_false_iff,decide_eq_false_iff_not];omega
theorem dm.cell {w:Ε}{b:Nat}{arr:Array ο}(h:dm w b arr)(o:Nat):w.cell? ⟨b,o,none⟩=arr[o]? :=by
 obtain ⟨T,j,p,h,_⟩:=h;simp [World.cell?,h]
theorem dm.lt {w:Ε}{b:Nat}{arr:Array ο}(h:dm w b arr):b<w.heap.size:=by
 obtain ⟨T,j,o,h,_⟩:=h;exact (Ϣ.1 h).1
theorem dm.bt {w w':Ε}{b:Nat}{arr:Array ο}(h:dm w b arr)(e:w'.heap[b]? =w.heap[b]?):dm w' b arr:=by
 obtain ⟨T,j,o,h,p⟩:=h;exact ⟨T,j,o,by rw [e,h],p⟩
theorem dm.eq {w:Ε}{b:Nat}{arr j:Array ο}(h:dm w b arr)(o:dm w b j):arr=j:=by
 obtain ⟨T,t,I,h,_⟩:=h;obtain ⟨J,p,r,o,_⟩:=o;rw [h] at o;injection o with o;injection o
theorem dm.new (w:Ε)(arr:Array ο)(T:Ι):dm (w.alloc (.cells arr T)) w.heap.size arr:=
 ⟨T,0,0,heap_alloc_new w _,.inl rfl⟩
theorem kL {w w':Ε}{a:abI}(e:w'.heap[a.block]? =w.heap[a.block]?):w'.cell? a=w.cell? a:=abS e
theorem fm (a:abI)(n:Nat):(a.add n).block=a.block:=by unfold abF;split<;>rfl
theorem add_add (a:abI)(n m:Nat):(a.add n).add m=a.add (n+m):=by
 unfold abF;split;rename_i h;subst h;simp;split;rename_i h;subst h;simp [*];simp only [Nat.add_eq_zero_iff];rw [if_neg (by omega)];simp [Ϡ]
theorem ca (b o n:Nat):(⟨b,o,none⟩:abI).add n=⟨b,o+n,none⟩:=by
 unfold abF;split;rename_i h;subst h;rfl;rfl
def oV (S:Nat->Prop)(w:Ε):List Nat->List ο->List ο->Prop
 |[],_,[]=>True
 |n::t,r,p::I=>(∃o:abI,p= .pointer (some o)/\S o.block/\ ∀j v,(r.take n)[j]? =some v->w.cell? (o.add j)=some v)/\oV S w t (r.drop n) I
 |_,_,_=>False
theorem oV.bt {S S':Nat->Prop}{w w':Ε}(h: ∀b,S b->S' b/\w'.heap[b]? =w.heap[b]?): ∀{ns:List Nat} {vs ps:List ο},oV S w ns vs ps->oV S' w' ns vs ps
 |[],_,[],_=>trivial
 |_::_,_,_::_,⟨⟨p,e,o,r⟩,t⟩=>⟨⟨p,e,(h _ o).1,λj v I=>(kL (by rw [fm];exact (h _ o).2)).trans (r j v I)⟩,oV.bt h t⟩
 |[],_,_::_,h=>h.elim
 |_::_,_,[],h=>h.elim
def bT (S:Nat->Prop)(w:Ε):(t:Ty)->List ο->t.D->Prop
 | .int k,cs,n=>cs=[.int k n]
 | .dB k,cs,n=> ∃b,cs=[.float k b]/\cW k b=n
 | .bool,cs,b=>cs=[.bool b]
 | .str,cs,s=>cs=[.string ⟨s.toArray⟩]
 | .pair a b,cs,x=> ∃r I,cs=r++I/\bT S w a r x.1/\bT S w b I x.2
 | .st t,cs,x=>bT S w t cs x
 | .sl t,cs,o=> ∃a cap,cs=[.slice a (ζ o) cap]/\ζ o<=cap/\ ∀i (h:i<ζ o),∃(p:abI) (es:List ο),a=some p/\S p.block/\
  (∀j v,es[j]? =some v->w.cell? (p.add (i*t.size+j))=some v)/\bT S w t es o[i]
 | .own t,cs,o=> ∃a cap,cs=[.slice a (ζ o) cap]/\ζ o<=cap/\ ∀i (h:i<ζ o),∃(p:abI) (es:List ο),a=some p/\S p.block/\
  (∀j v,es[j]? =some v->w.cell? (p.add (i*t.size+j))=some v)/\bT S w t es o[i]
 | .bx t,cs,o=> ∃p:abI,cs=[.pointer (some p)]/\ ∀i (h:i<ζ o),∃es:List ο,S p.block/\
  (∀j v,es[j]? =some v->w.cell? (p.add (i*t.size+j))=some v)/\bT S w t es o[i]
 | .cl f t,cs,x=> ∃J R:List ο,cs=[.func (.func f) #[] R.toArray]/\bT S w t J x/\oV S w t.sj J R
theorem bT.bt {S S':Nat->Prop}{w w':Ε}(h: ∀b,S b->S' b/\w'.heap[b]? =w.heap[b]?): ∀(t:Ty) (cs:List ο) (x:t.D),bT S w t cs x->bT S' w' t cs x
 | .int _,_,_,p=>p
 | .dB _,_,_,p=>p
 | .bool,_,_,p=>p
 | .str,_,_,p=>p
 | .pair a b,_,x,⟨c1,c2,e,h1,h2⟩=>⟨c1,c2,e,bT.bt h a c1 x.1 h1,bT.bt h b c2 x.2 h2⟩
 | .st t,cs,x,p=>bT.bt h t cs x p
 | .sl t,_,xs,⟨a,cap,e,U,p⟩=>⟨a,cap,e,U,λi J=>by
  obtain ⟨R,es,ea,I,o,r⟩:=p i J;exact ⟨R,es,ea,(h _ I).1,λj v T=>(kL (by rw [fm];exact (h _ I).2)).trans (o j v T),bT.bt h t es _ r⟩⟩
 | .own t,_,xs,⟨a,cap,e,U,p⟩=>⟨a,cap,e,U,λi J=>by
  obtain ⟨R,es,ea,I,o,r⟩:=p i J;exact ⟨R,es,ea,(h _ I).1,λj v T=>(kL (by rw [fm];exact (h _ I).2)).trans (o j v T),bT.bt h t es _ r⟩⟩
 | .bx t,_,xs,⟨R,e,p⟩=>⟨R,e,λi J=>by
  obtain ⟨es,I,o,r⟩:=p i J;exact ⟨es,(h _ I).1,λj v T=>(kL (by rw [fm];exact (h _ I).2)).trans (o j v T),bT.bt h t es _ r⟩⟩
 | .cl f t,_,x,⟨vs,ps,e,p,hp⟩=>⟨vs,ps,e,bT.bt h t vs x p,oV.bt h hp⟩
theorem bT.len {S:Nat->Prop}{w:Ε}: ∀(t:Ty) (cs:List ο) (x:t.D),bT S w t cs x->cs.length=t.size
 | .int _,_,_,j=>by subst j;rfl
 | .dB _,_,_,⟨_,e,_⟩=>by subst e;rfl
 | .bool,_,_,j=>by subst j;rfl
 | .str,_,_,j=>by subst j;rfl
 | .pair a b,_,x,⟨p,r,e,I,J⟩=>by subst e;simp [Ty.size,bT.len a p x.1 I,bT.len b r x.2 J]
 | .st t,cs,x,j=>bT.len t cs x j
 | .sl t,_,o,⟨a,cap,e,_⟩=>by subst e;rfl
 | .own t,_,o,⟨a,cap,e,_⟩=>by subst e;rfl
 | .bx t,_,o,⟨R,e,_⟩=>by subst e;rfl
 | .cl f t,_,x,⟨_,_,e,_⟩=>by subst e;rfl
structure GM where
 f:Nat->List Nat->Option Nat
@[reducible] def GM.at (g:GM)(k:Nat):Option Nat:=g.f k []
instance:CoeFun GM (λ_=>Nat->Option Nat):=⟨GM.at⟩
def du (m:Mem)(c:Nat)(t:Ty)(xs:List t.D):Prop:=lk c m=some (.seq t xs)\/ ∃i cs j,lk c m=some (.oS t xs i cs j)
theorem du.toSeq {m:Mem}{c:Nat}{t p:Ty}{xs:List t.D}{o:List p.D}(h:lk c m=some (.seq t xs))(j:du m c p o):Ide.lk c m=some (.seq p o):=by
 rcases j with j|⟨i,cs,r,j⟩
 exact j;rw [h] at j;cases j
def iS (gc:Option Nat)(w:Ε)(sz n:Nat)(v:ο):Prop:=
 match gc with
 |none=> ∃a,v= .slice a 0 0
 |some b=> ∃cap arr,v= .slice (some ⟨b,0,none⟩) n cap/\n<=cap/\dm w b arr/\cap*sz<=arr.size/\cap<=maxLen
def Uz (gc:Option Nat)(w:Ε)(sz n off len:Nat)(v:ο):Prop:=
 off+len<=n/\((len=0/\(off=0->gc=none)/\ ∃a,v= .slice a 0 0)\/ ∃b cap arr,gc=some b/\v= .slice (some ⟨b,off*sz,none⟩) len cap/\len<=cap/\dm w b arr/\(off+cap)*sz<=arr.size/\cap<=maxLen)
def CR (g:GM)(m:Mem)(S:Nat->Prop)(w:Ε):bs->ο->Prop
 | .bp t x,v=>bT S w t [v] x
 | .ptr c off,v=>lk c m≠none/\ ∃b,g c=some b/\v= .pointer (some ⟨b,off,none⟩)
 | .cZ c i R off,v=>lk c m≠none/\ ∃b,g c=some b/\v= .pointer (some ⟨b,i*R+off,none⟩)
 | .ip t x off,v=> ∃(I:abI) (es:List ο),v= .pointer (some (I.add off))/\S I.block/\(∀j u,es[j]? =some u->w.cell? (I.add j)=some u)/\bT S w t es x
 | .all c,v=>lk c m≠none/\v.oneCell'=true/\ ∀t r,du m c t r->iS (g c) w t.size r.length v
 | .ref c off len,v=>lk c m≠none/\v.oneCell'=true/\ ∀t r,du m c t r->Uz (g c) w t.size r.length off len v
 | .row c i o,v=>lk c m≠none/\v.oneCell'=true/\ ∀t r,lk c m=some (.seq t r)->i<r.length/\ ∀e T,dU t (r.getD i t.eY) o=some ⟨e,T⟩->iS (g.f c [i,o]) w e.size T.length v
 | .yK c i o j R off,v=>lk c m≠none/\ ∃b,v= .pointer (some ⟨b,j*R+off,none⟩)/\ ∀t r,lk c m=some (.seq t r)->i<r.length/\g.f c [i,o]=some b
 | .br,v=> ∃a,v= .slice a 0 0
 | .fn f,v=>v= .func (.func f) #[] #[]
 | .jb f t x,v=> ∃(I:abI) (es:List ο),v= .func (.func f) #[] #[.pointer (some I)]/\S I.block/\(∀j u,es[j]? =some u->w.cell? (I.add j)=some u)/\bT S w t es x
 | .cls f ks,v=> ∃U:List ο,v= .func (.func f) #[] U.toArray/\bN (λk p=>lk k m≠none/\ ∃b,g k=some b/\p= .pointer (some ⟨b,0,none⟩)) ks U
 | .zq f t x,v=> ∃(I J:abI) (es:List ο),v= .pointer (some J)/\S J.block/\w.cell? J=some (.func (.func f) #[] #[.pointer (some I)])/\S I.block/\(∀j u,es[j]? =some u->w.cell? (I.add j)=some u)/\bT S w t es x
 | .fK c,v=>lk c m≠none/\ ∃b,g c=some b/\v= .map (some b)
 | .dE,v=>v.oneCell'=true
 | .bad,_=>True
def CV (g:GM)(m:Mem)(S:Nat->Prop)(w:Ε)(o:Bool)(cs:List bs)(v:ο):Prop:=
 match o,cs with
 |true,cs=> ∃j:List ο,v= .agg j.toArray/\bN (CR g m S w) cs j
 |false,[c]=>CR g m S w c v
 |false,_=>False
def VR (g:GM)(m:Mem)(S:Nat->Prop)(w:Ε):bu->ο->Prop
 | .one c,v=>CR g m S w c v
 | .agg cs,v=> ∃j:List ο,v= .agg j.toArray/\bN (CR g m S w) cs j
 | .Ab o,v=> ∃j:List ο,v= .tuple j.toArray/\bN (λt v=>CV g m S w t.1 t.2 v) o j
 | .BO,v=>v=undef
 | .dE,_=>True
def BP (S:Nat->Prop)(w:Ε)(t:Ty)(xs:List t.D)(arr:Array ο):Prop:=
 ∀i (h:i<xs.length),∃es,(∀j v,es[j]? =some v->arr[i*t.size+j]? =some v)/\bT S w t es xs[i]
def de (S:Nat->Prop)(w:Ε):(t:Ty)->(List Nat->Option Nat)->Nat->List ο->t.D->Prop
 | .own t,γ,o,cs,r=> ∃v,cs=[v]/\iS (γ [o]) w t.size (ζ r) v/\match γ [o] with
  |none=>ζ r=0
  |some b=> ∃arr,dm w b arr/\ ∀i (h:i<ζ r),∃es:List ο,(∀j v,es[j]? =some v->arr[i*t.size+j]? =some v)/\de S w t (λp=>γ (o::i::p)) 0 es r[i]
 | .pair a b,γ,o,cs,x=> ∃I J,cs=I++J/\de S w a γ o I x.1/\de S w b γ (o+a.size) J x.2
 | .st t,γ,o,cs,x=>de S w t γ o cs x
 | .int k,_,_,cs,x=>bT S w (.int k) cs x
 | .dB k,_,_,cs,x=>bT S w (.dB k) cs x
 | .bool,_,_,cs,x=>bT S w .bool cs x
 | .str,_,_,cs,x=>bT S w .str cs x
 | .sl t,_,_,cs,x=>bT S w (.sl t) cs x
 | .bx t,_,_,cs,x=>bT S w (.bx t) cs x
 | .cl f t,_,_,cs,x=>bT S w (.cl f t) cs x
def eI (S:Nat->Prop)(w:Ε)(γ:List Nat->Option Nat)(t:Ty)(xs:List t.D)(arr:Array ο):Prop:=
 ∀i (h:i<xs.length),∃es,(∀j v,es[j]? =some v->arr[i*t.size+j]? =some v)/\de S w t (λp=>γ (i::p)) 0 es xs[i]
def Chunk.owns:Chunk->List Nat->Prop
 | .gone,_=>False
 | .oS t _ i _ _,p=> ∀o r,p=i::o::r->o ∉ cw t 0
 |_,_=>True
theorem Chunk.wy {ch:Chunk}(h:ch≠ .gone):ch.owns []:=by
 cases ch<;>first|exact absurd rfl h|trivial|(intro o r e;cases e)
theorem Chunk.oW {ch:Chunk}{p:List Nat}(h:ch.owns p):ch≠ .gone:=by
 rintro rfl;exact h
def qP (w:Ε)(t:Ty)(v:ο)(x:t.D):Prop:=
 (t.sk=true/\ ∃cs:List ο,v= .agg cs.toArray/\bT (λ_=>False) w t cs x)\/(t.sk=false/\bT (λ_=>False) w t [v] x)
theorem qP.bt {w w':Ε}{t:Ty}{v:ο}{x:t.D}(h:qP w t v x):qP w' t v x:=by
 rcases h with ⟨j,cs,r,o⟩|⟨j,o⟩
 exact .inl ⟨j,cs,r,bT.bt (λb p=>p.elim) t cs x o⟩;exact .inr ⟨j,bT.bt (λb p=>p.elim) t [v] x o⟩
def tu (gc:Option Nat)(w:Ε)(e:Ι)(v:ο)(xs:List ο):Prop:=
 match gc with
 |none=>v= .slice none 0 0/\xs=[]
 |some g=> ∃cap j,v= .slice (some ⟨g,0,none⟩) xs.length cap/\w.heap[g]? =some (.cells j e (0,0))/\xs.length<=cap/\cap<=maxLen/\j.size=cap/\j.toList.take xs.length=xs
theorem tu.bt {gc:Option Nat}{w w':Ε}{e:Ι}{v:ο}{xs:List ο}(h:tu gc w e v xs)(o: ∀g,gc=some g->w'.heap[g]? =w.heap[g]?):tu gc w' e v xs:=by
 cases gc with
 |none=>exact h
 |some g=>
  obtain ⟨cap,j,p,r,t⟩:=h;exact ⟨cap,j,p,(o g rfl).trans r,t⟩
def kX (xs:List UInt8):List ο:=xs.map λx=> .int .u8 x.toNat
def jc (g:GM)(m:Mem)(S:Nat->Prop)(w:Ε)(γ:List Nat->Option Nat):Chunk->Prop
 | .gone=>True
 | .mp t u r=> ∃b es I,γ []=some b/\w.heap[b]? =some (.map es I)/\bN (λ(x:t.D×u.D) (e:MapEntry)=>qP w t e.key x.1/\qP w u e.val x.2) r es.toList
 | .gh cs J=>(∀p,γ p=none)/\bN (CR g m S w) cs J
 | .pA T e r=>(∀p,p≠[]->p≠[0]->γ p=none)/\ ∃b p v,γ []=some b/\(p= .pointer none\/p= .pointer (some ⟨b,0,none⟩))/\w.heap[b]? =some (.cells #[p,v] T (0,0))/\tu (γ [0]) w e v (kX r)
 | .box cs=> ∃b arr,γ []=some b/\dm w b arr/\bN (CR g m S w) cs arr.toList
 | .seq t r=>match γ [] with
  |none=>r=[]
  |some b=> ∃arr,dm w b arr/\eI S w γ t r arr
 | .oS t r i cs R=>bN (λo k=>lk k m≠none/\g.f k=λp=>γ (i::o::p)) (cw t 0) R/\ ∃b arr,γ []=some b/\dm w b arr/\i<r.length/\
  (∀j (h:j<r.length),j≠i-> ∃es,(∀q v,es[q]? =some v->arr[j*t.size+q]? =some v)/\de S w t (λp=>γ (j::p)) 0 es r[j])/\
  ∃es,es.length=t.size/\(∀q v,es[q]? =some v->arr[i*t.size+q]? =some v)/\bN (CR g m S w) cs es
structure Cx where
 P:Ξ
 N:Nat
 w0:Ε
 S:Nat->Prop
 F:List Nat
 own:List (Nat×(List Nat->Option Nat))
 nd:Bool
def Cx.HP (cx:Cx):Prop:= ∀b,b∈cx.F-> ∃p,p∈cx.own/\ ∃q,p.2 q=some b
structure bJ (F:List Nat)(w w':Ε):Prop where
 os:w'.os=w.os
 tape:w'.tape=w.tape
 output:w'.output=w.output
 size:w.heap.size<=w'.heap.size
 block: ∀b,b<w.heap.size->b ∉ F->w'.heap[b]? =w.heap[b]?
 sz: ∀b arr,dm w b arr-> ∃dZ,dm w' b dZ/\dZ.size=arr.size
theorem bJ.refl (F:List Nat)(w:Ε):bJ F w w:=⟨rfl,rfl,rfl,φ _,λ_ _ _=>rfl,λ_ arr h=>⟨arr,h,rfl⟩⟩
theorem bJ.trans {F:List Nat}{a b c:Ε}(h:bJ F a b)(k:bJ F b c):bJ F a c:=
 ⟨k.os.trans h.os,k.tape.trans h.tape,k.output.trans h.output,ϣ h.size k.size,λi p r=>(k.block i (ϖ p h.size) r).trans (h.block i p r),
  λb arr t=>let ⟨j,I,J⟩:=h.sz b arr t;let ⟨o,R,T⟩:=k.sz b j I;⟨o,R,T.trans J⟩⟩
def Live (g:GM)(m:Mem)(b:Nat):Prop:= ∃k p j,lk k m=some j/\j.owns p/\g.f k p=some b
def Cx.safe (cx:Cx)(g:GM)(m:Mem)(w:Ε)(b:Nat):Prop:=
 b<w.heap.size/\(b<cx.w0.heap.size->cx.S b)/\ ¬Live g m b
def Q8 (cx:Cx):Prop:=Glob.ok cx.w0 cx.S/\ ∀b,cx.S b->b<cx.w0.heap.size/\b ∉ cx.F
def yL (cx:Cx)(g:GM)(m:Mem)(w:Ε)(j:List Deferred):Prop:=
 (cx.nd=true->j=[])/\ ∃Ds:List Nat,j=Ds.map (λD=>{target:= .collected D,args:= #[]})/\Ds.Nodup/\ ∀D∈Ds,w.heap[D]? =some (.deferred (some []))/\cx.w0.heap.size<=D/\ ¬Live g m D
theorem yL.nil {cx:Cx}{g:GM}{m:Mem}{w:Ε}:yL cx g m w []:=⟨λ_=>rfl,[],rfl,List.nodup_nil,λ_ h=>by simp at h⟩
theorem yL.bt {cx:Cx}{g g':GM}{m m':Mem}{w w':Ε}{o:List Deferred}(h:yL cx g m w o)(p: ∀b,cx.safe g m w b->cx.safe g' m' w' b/\w'.heap[b]? =w.heap[b]?):yL cx g' m' w' o:=by
 obtain ⟨r,Ds,e,t,h⟩:=h;refine ⟨r,Ds,e,t,λD j=> ?_⟩;obtain ⟨j,I,J⟩:=h D j;obtain ⟨R,T⟩:=p D ⟨(Ϣ.1 j).1,λU=>by omega,J⟩;exact ⟨T.trans j,I,R.2.2⟩
structure cG (cx:Cx)(g:GM)(st:St)(a:Act)(w:Ε):Prop where
 defers:yL cx g st.mem w a.defers
 size:a.tmps.size=cx.N
 fr: ∀t v,lk t st.fr=some v->VR g st.mem (cx.safe g st.mem w) w v (a.tmps.getD t undef)
 mem: ∀k ch,lk k st.mem=some ch->jc g st.mem (cx.safe g st.mem w) w (g.f k) ch
 fV: ∀k k' p p' ch pq b,lk k st.mem=some ch->ch.owns p->lk k' st.mem=some pq->pq.owns p'->g.f k p=some b->g.f k' p'=some b->k=k'/\p=p'
 iF: ∀k p ch b,lk k st.mem=some ch->ch.owns p->g.f k p=some b->cx.w0.heap.size<=b\/b∈cx.F
 lt: ∀k p ch b,lk k st.mem=some ch->ch.owns p->g.f k p=some b->b<w.heap.size
 bt:bJ cx.F cx.w0 w
 own: ∀p∈cx.own,g.f p.1=p.2/\lk p.1 st.mem≠none
 gl:Q8 cx
theorem cG.KX {cx:Cx}{g:GM}{st:St}{a:Act}{w:Ε}(h:cG cx g st a w):Glob.ok w (cx.safe g st.mem w):=
 Glob.mono (λb j=>by
  obtain ⟨o,r⟩:=h.gl.2 b j;refine ⟨⟨ϖ o h.bt.size,λ_=>j,λ⟨k,p,I,q1,J,R⟩=> ?_⟩,h.bt.block b o r⟩;rcases h.iF k p I b q1 J R with t|t
  omega;exact r t) h.gl.1
theorem cG.KY {cx:Cx}{g:GM}{st:St}{a:Act}{w:Ε}(h:cG cx g st a w){k:Nat}{ch:Chunk}{b:Nat}(j:lk k st.mem=some ch)(o:ch≠ .gone)(p:g k=some b):b<w.heap.size:=
 h.lt k [] ch b j (Chunk.wy o) p
def cy (t:Ty)(xs j:List t.D):Prop:=
 xs.length=j.length/\ ∀i o e p,dU t (j.getD i t.eY) o=some ⟨e,p⟩-> ∃r,dU t (xs.getD i t.eY) o=some ⟨e,r⟩/\r.length=p.length
theorem cy.refl (t:Ty)(xs:List t.D):cy t xs xs:=⟨rfl,λ_ _ _ j h=>⟨j,h,rfl⟩⟩
structure Stays0 (g g':GM)(m m':Mem)(S S':Nat->Prop)(w w':Ε):Prop where
 safe: ∀b,S b->S' b/\w'.heap[b]? =w.heap[b]?
 nN: ∀c,lk c m≠none->lk c m'≠none/\g' c=g c
 old: ∀c t xs,lk c m≠none->du m' c t xs-> ∃ig,du m c t ig/\ig.length=xs.length
 dm: ∀c t xs b arr,lk c m≠none->du m' c t xs->g c=some b->Ide.dm w b arr-> ∃dZ,Ide.dm w' b dZ/\dZ.size=arr.size
structure iG (g g':GM)(m m':Mem)(S S':Nat->Prop)(w w':Ε):Prop extends Stays0 g g' m m' S S' w w' where
 BQ: ∀c,lk c m≠none->g'.f c=g.f c
 rows: ∀c t ig,lk c m≠none->lk c m'=some (.seq t ig)-> ∃xs,lk c m=some (.seq t xs)/\cy t xs ig/\
  ∀i o b arr,g.f c [i,o]=some b->Ide.dm w b arr-> ∃dZ,Ide.dm w' b dZ/\dZ.size=arr.size
def bs.MV:bs->Bool
 | .row _ _ _=>true
 | .yK _ _ _ _ _ _=>true
 |_=>false
theorem iS.stays {gc:Option Nat}{w w':Ε}{sz n:Nat}{v:ο}(h:iS gc w sz n v)(p: ∀b arr,gc=some b->dm w b arr-> ∃j,dm w' b j/\j.size=arr.size):iS gc w' sz n v:=by
 unfold iS at h⊢;cases gc with
 |none=>exact h
 |some b=>
  obtain ⟨cap,arr,e,r,t,R,I⟩:=h;obtain ⟨j,o,J⟩:=p b arr rfl t;exact ⟨cap,j,e,r,o,by omega,I⟩
theorem CR.NV {g g':GM}{m m':Mem}{S S':Nat->Prop}{w w':Ε}(h:Stays0 g g' m m' S S' w w'){c:bs}{v:ο}(hn:c.MV=false)(I:CR g m S w c v):CR g' m' S' w' c v:=by
 cases c with
 |bp t x=>exact bT.bt h.safe t [v] x I
 |ptr c off=>obtain ⟨hp,b,R,e⟩:=I;exact ⟨(h.nN c hp).1,b,(h.nN c hp).2.trans R,e⟩
 |cZ c i sz off=>obtain ⟨hp,b,R,e⟩:=I;exact ⟨(h.nN c hp).1,b,(h.nN c hp).2.trans R,e⟩
 |ip t x off=>
  obtain ⟨ad,es,e,T,r,J⟩:=I;exact ⟨ad,es,e,(h.safe _ T).1,λj u hu=>(kL (by rw [fm];exact (h.safe _ T).2)).trans (r j u hu),bT.bt h.safe t es x J⟩
 |all c=>
  obtain ⟨hp,ho,I⟩:=I;refine ⟨(h.nN c hp).1,ho,λt xs hl=> ?_⟩;obtain ⟨aa,ab,U⟩:=h.old c t xs hp hl;have hx:=I t aa ab;rw [(h.nN c hp).2,<-U];exact hx.stays λb arr R hb=>h.dm c t xs b arr hp hl R hb
 |ref c off len=>
  obtain ⟨hp,ho,I⟩:=I;refine ⟨(h.nN c hp).1,ho,λt xs hl=> ?_⟩;obtain ⟨aa,ab,U⟩:=h.old c t xs hp hl;obtain ⟨hle,hx⟩:=I t aa ab;refine ⟨by omega,?_⟩;rw [(h.nN c hp).2];rcases hx with hx|⟨b,cap,arr,R,e,h1,h2,h3,h4⟩
  exact .inl hx;obtain ⟨dZ,qK,ae⟩:=h.dm c t xs b arr hp hl R h2;exact .inr ⟨b,cap,dZ,R,e,h1,qK,by omega,h4⟩
 |row c i o=>cases hn
 |yK c i o j sz off=>cases hn
 |br=>exact I
 |fn f=>exact I
 |jb f t x=>
  obtain ⟨ad,es,e,T,r,J⟩:=I;exact ⟨ad,es,e,(h.safe _ T).1,λj u hu=>(kL (by rw [fm];exact (h.safe _ T).2)).trans (r j u hu),bT.bt h.safe t es x J⟩
 |cls f ks=>
  obtain ⟨ps,e,I⟩:=I;exact ⟨ps,e,I.mono λk p ⟨hp,b,R,e⟩=>⟨(h.nN k hp).1,b,(h.nN k hp).2.trans R,e⟩⟩
 |zq f t x=>
  obtain ⟨ad,KM,es,e,ae,HQ,T,r,J⟩:=I;exact ⟨ad,KM,es,e,(h.safe _ ae).1,(kL (h.safe _ ae).2).trans HQ,(h.safe _ T).1,λj u hu=>(kL (by rw [fm];exact (h.safe _ T).2)).trans (r j u hu),bT.bt h.safe t es x J⟩
 |fK c=>obtain ⟨hp,b,R,e⟩:=I;exact ⟨(h.nN c hp).1,b,(h.nN c hp).2.trans R,e⟩
 |dE=>exact I
 |bad=>trivial
theorem CR.stays {g g':GM}{m m':Mem}{S S':Nat->Prop}{w w':Ε}(h:iG g g' m m' S S' w w'){c:bs}{v:ο}(p:CR g m S w c v):CR g' m' S' w' c v:=by
 cases hn:c.MV with
 |false=>exact CR.NV h.toStays0 hn p
 |true=>
  cases c with
  |row c i o=>
   obtain ⟨hp,ho,p⟩:=p;refine ⟨(h.nN c hp).1,ho,λt r T=> ?_⟩;obtain ⟨U,I,⟨J,R⟩,hb⟩:=h.rows c t r hp T;obtain ⟨hi,hx⟩:=p t U I;refine ⟨by omega,λe aa hy=> ?_⟩;obtain ⟨ys,ab,ad⟩:=R i o e aa hy;have:=hx e ys ab;rw [h.BQ c hp,<-ad];exact this.stays λb arr e ae=>hb i o b arr e ae
  |yK c i o j sz off=>
   obtain ⟨hp,b,e,p⟩:=p;refine ⟨(h.nN c hp).1,b,e,λt r T=> ?_⟩;obtain ⟨U,I,⟨J,R⟩,hb⟩:=h.rows c t r hp T;obtain ⟨hi,hg⟩:=p t U I;exact ⟨by omega,by rw [h.BQ c hp];exact hg⟩
  |_=>cases hn
theorem VR.stays {g g':GM}{m m':Mem}{S S':Nat->Prop}{w w':Ε}(h:iG g g' m m' S S' w w'): ∀{c:bu} {v:ο},VR g m S w c v->VR g' m' S' w' c v
 | .one _,_,j=>CR.stays h j
 | .agg _,_,⟨p,e,j⟩=>⟨p,e,j.mono λ_ _=>CR.stays h⟩
 | .Ab _,_,⟨p,e,j⟩=>⟨p,e,j.mono λt v o=>by
  unfold CV at o⊢;split at o;obtain ⟨r,I,J⟩:=o;exact ⟨r,I,J.mono λ_ _=>CR.stays h⟩;exact CR.stays h o;exact o.elim⟩
 | .BO,_,h=>h
 | .dE,_,_=>trivial
theorem de.bt {S S':Nat->Prop}{w w':Ε}(h: ∀b,S b->S' b/\w'.heap[b]? =w.heap[b]?): ∀(t:Ty) {γ:List Nat->Option Nat} {o:Nat} {cs:List ο} {x:t.D},(∀p b,γ p=some b->w'.heap[b]? =w.heap[b]?)->de S w t γ o cs x->de S' w' t γ o cs x
 | .own t,γ,o,cs,xs,r,⟨v,e,U,j⟩=>by
  refine ⟨v,e,U.stays λb arr I J=>⟨arr,J.bt (r _ b I),rfl⟩,?_⟩;cases I:γ [o] with
  |none=>rw [I] at j;exact j
  |some b=>
   rw [I] at j;obtain ⟨arr,J,hi⟩:=j;exact ⟨arr,J.bt (r _ b I),λi hl=>let ⟨es,R,T⟩:=hi i hl;⟨es,R,de.bt h t (λp b hp=>r _ b hp) T⟩⟩
 | .pair a b,γ,o,cs,x,r,⟨c1,c2,e,R,T⟩=>⟨c1,c2,e,de.bt h a r R,de.bt h b r T⟩
 | .st t,γ,o,cs,x,r,j=>de.bt h t (o:=o) (cs:=cs) (x:=x) r j
 | .int k,_,_,cs,x,_,j=>bT.bt h (.int k) cs x j
 | .dB k,_,_,cs,x,_,j=>bT.bt h (.dB k) cs x j
 | .bool,_,_,cs,x,_,j=>bT.bt h .bool cs x j
 | .str,_,_,cs,x,_,j=>bT.bt h .str cs x j
 | .sl t,_,_,cs,x,_,j=>bT.bt h (.sl t) cs x j
 | .bx t,_,_,cs,x,_,j=>bT.bt h (.bx t) cs x j
 | .cl f t,_,_,cs,x,_,j=>bT.bt h (.cl f t) cs x j
theorem de.data {S S':Nat->Prop}{w:Ε}(h: ∀b,S b->S' b): ∀(t:Ty) {γ:List Nat->Option Nat} {o:Nat} {cs:List ο} {x:t.D},(∀p b,γ p=some b->S' b)->de S w t γ o cs x->bT S' w t cs x
 | .own t,γ,o,cs,xs,I,⟨v,e,R,r⟩=>by
  subst e;cases T:γ [o] with
  |none=>
   rw [T] at r R;obtain ⟨a,R⟩:=R;subst R;have h0:ζ xs=0:=r;exact ⟨a,0,by rw [h0],by omega,λi hi=>by omega⟩
  |some b=>
   rw [T] at r R;obtain ⟨cap,pZ,e,U,_⟩:=R;subst e;obtain ⟨arr,J,hi⟩:=r;refine ⟨_,cap,rfl,U,λi hl=> ?_⟩;obtain ⟨es,h2,h3⟩:=hi i hl;refine ⟨⟨b,0,none⟩,es,rfl,I _ b T,λj v hv=> ?_,de.data h t (λp b hp=>I _ b hp) h3⟩;rw [ca,J.cell,Υ];exact h2 j v hv
 | .pair a b,γ,o,cs,x,I,⟨c1,c2,e,U,h2⟩=>⟨c1,c2,e,de.data h a I U,de.data h b I h2⟩
 | .st t,γ,o,cs,x,I,r=>de.data h t (o:=o) (cs:=cs) (x:=x) I r
 | .int k,_,_,cs,x,_,r=>bT.bt (λb J=>⟨h b J,rfl⟩) (.int k) cs x r
 | .dB k,_,_,cs,x,_,r=>bT.bt (λb J=>⟨h b J,rfl⟩) (.dB k) cs x r
 | .bool,_,_,cs,x,_,r=>bT.bt (λb J=>⟨h b J,rfl⟩) .bool cs x r
 | .str,_,_,cs,x,_,r=>bT.bt (λb J=>⟨h b J,rfl⟩) .str cs x r
 | .sl t,_,_,cs,x,_,r=>bT.bt (λb J=>⟨h b J,rfl⟩) (.sl t) cs x r
 | .bx t,_,_,cs,x,_,r=>bT.bt (λb J=>⟨h b J,rfl⟩) (.bx t) cs x r
 | .cl f t,_,_,cs,x,_,r=>bT.bt (λb J=>⟨h b J,rfl⟩) (.cl f t) cs x r
def Ty.top:Ty->Bool
 | .own _=>false
 | .pair a b=>a.top&&b.top
 | .st t=>t.top
 | .sl t=>t.jU
 | .bx t=>t.jU
 |_=>true
theorem de.qQ {S:Nat->Prop}{w:Ε}: ∀(t:Ty) {γ:List Nat->Option Nat} {o:Nat} {cs:List ο} {x:t.D},t.top=true->bT S w t cs x->de S w t γ o cs x
 | .own t,_,_,_,_,ht,_=>by cases ht
 | .pair a b,γ,o,cs,x,ht,⟨p,r,e,I,J⟩=>by
  simp only [Ty.top,κ] at ht;exact ⟨p,r,e,de.qQ a ht.1 I,de.qQ b ht.2 J⟩
 | .st t,γ,o,cs,x,ht,j=>de.qQ t (o:=o) (cs:=cs) (x:=x) ht j
 | .int k,_,_,cs,x,_,j=>j
 | .dB k,_,_,cs,x,_,j=>j
 | .bool,_,_,cs,x,_,j=>j
 | .str,_,_,cs,x,_,j=>j
 | .sl t,_,_,cs,x,_,j=>j
 | .bx t,_,_,cs,x,_,j=>j
 | .cl f t,_,_,cs,x,_,j=>j
theorem de.rep {S:Nat->Prop}{w:Ε}: ∀(t:Ty) {γ:List Nat->Option Nat} {o:Nat} {cs:List ο} {x:t.D},t.top=true->de S w t γ o cs x->bT S w t cs x
 | .own t,_,_,_,_,ht,_=>by cases ht
 | .pair a b,γ,o,cs,x,ht,⟨p,r,e,I,J⟩=>by
  simp only [Ty.top,κ] at ht;exact ⟨p,r,e,de.rep a ht.1 I,de.rep b ht.2 J⟩
 | .st t,γ,o,cs,x,ht,j=>de.rep t (o:=o) (cs:=cs) (x:=x) ht j
 | .int k,_,_,cs,x,_,j=>j
 | .dB k,_,_,cs,x,_,j=>j
 | .bool,_,_,cs,x,_,j=>j
 | .str,_,_,cs,x,_,j=>j
 | .sl t,_,_,cs,x,_,j=>j
 | .bx t,_,_,cs,x,_,j=>j
 | .cl f t,_,_,cs,x,_,j=>j
theorem de.len {S:Nat->Prop}{w:Ε}: ∀(t:Ty) {γ:List Nat->Option Nat} {o:Nat} {cs:List ο} {x:t.D},de S w t γ o cs x->cs.length=t.size
 | .own t,_,_,_,_,⟨v,e,_⟩=>by subst e;rfl
 | .pair a b,γ,o,cs,x,⟨I,J,e,p,r⟩=>by subst e;simp [Ty.size,de.len a p,de.len b r]
 | .st t,γ,o,cs,x,j=>de.len t (o:=o) (cs:=cs) (x:=x) j
 | .int k,_,_,cs,x,j=>bT.len (.int k) cs x j
 | .dB k,_,_,cs,x,j=>bT.len (.dB k) cs x j
 | .bool,_,_,cs,x,j=>bT.len .bool cs x j
 | .str,_,_,cs,x,j=>bT.len .str cs x j
 | .sl t,_,_,cs,x,j=>bT.len (.sl t) cs x j
 | .bx t,_,_,cs,x,j=>bT.len (.bx t) cs x j
 | .cl f t,_,_,cs,x,j=>bT.len (.cl f t) cs x j
theorem eI.bt {S S':Nat->Prop}{w w':Ε}(h: ∀b,S b->S' b/\w'.heap[b]? =w.heap[b]?){γ:List Nat->Option Nat}(j: ∀p b,γ p=some b->w'.heap[b]? =w.heap[b]?){t:Ty}{xs:List t.D}{arr:Array ο}(o:eI S w γ t xs arr):eI S' w' γ t xs arr:=
 λi r=>let ⟨es,I,J⟩:=o i r;⟨es,I,de.bt h t (λ_ b hp=>j _ b hp) J⟩
theorem eI.data {S S':Nat->Prop}{w:Ε}(h: ∀b,S b->S' b){γ:List Nat->Option Nat}(j: ∀p b,γ p=some b->S' b){t:Ty}{xs:List t.D}{arr:Array ο}(o:eI S w γ t xs arr):BP S' w t xs arr:=
 λi r=>let ⟨es,I,J⟩:=o i r;⟨es,I,de.data h t (λ_ b hp=>j _ b hp) J⟩
theorem eI.k9 {S:Nat->Prop}{w:Ε}{γ:List Nat->Option Nat}{t:Ty}{xs:List t.D}{arr:Array ο}(ht:t.top=true)(j:BP S w t xs arr):eI S w γ t xs arr:=
 λi o=>let ⟨es,p,r⟩:=j i o;⟨es,p,de.qQ t ht r⟩
theorem eI.Fq {S:Nat->Prop}{w:Ε}{γ:List Nat->Option Nat}{t:Ty}{xs:List t.D}{arr:Array ο}(ht:t.top=true)(j:eI S w γ t xs arr):BP S w t xs arr:=
 λi o=>let ⟨es,p,r⟩:=j i o;⟨es,p,de.rep t ht r⟩
end Go.Ide
namespace Go.Ide
inductive Mode where
 |bP (t:Ty)
 |fW (t:Ty)
 |own (t:Ty)
 |mv (t:Ty)
 |fn
 |jb (t:Ty)
 |nl
inductive Arg where
 |bP (t:Ty) (x:t.D)
 |fW (t:Ty) (x:t.D)
 |own (t:Ty) (x:t.D)
 |mv (t:Ty) (x:t.D)
 |fn (f:aaE)
 |jb (f:aaE) (t:Ty) (x:t.D)
 |nl
structure TD where
 t:Ty
 x:t.D
structure RV where
 fresh:Bool
 t:Ty
 x:t.D
inductive Hint where
 |no
 |tv (b:Bool)
 |ty (t:Ty)
 |HM (t:Ty)
 |oS
 |call (ms:List Mode) (rs:List RV) (outs:List TD)
def Ty.flat:Ty->Bool
 | .sl _=>false
 | .own _=>false
 | .bx _=>false
 | .cl _ _=>false
 | .pair a b=>a.flat&&b.flat
 | .st t=>t.flat
 |_=>true
def Ty.jd:Ty->Bool
 | .sl _=>false
 | .bx _=>false
 | .cl _ _=>false
 | .own t=>t.jd
 | .pair a b=>a.jd&&b.jd
 | .st t=>t.jd
 |_=>true
def Ty.kM:Ty->Bool
 | .sl t=>t.jd
 | .own t=>t.jd
 | .bx t=>t.jd
 | .cl _ _=>false
 | .pair a b=>a.kM&&b.kM
 | .st t=>t.kM
 |_=>true
def RV.tw (r:RV):Bool:=if r.fresh then r.t.kM else r.t.flat
def dG (m:Mem):(t:Ty)->List bs->Option (List Nat×List bs)
 | .pair a b,cs=>match dG m a cs with
  |some (x,r)=>(match dG m b r with
   |some (y,j)=>some (x++y,j)
   |none=>none)
  |none=>none
 | .st t,cs=>dG m t cs
 | .sl t,cs=>match cs with
  | .all c::r=>(match lk c m with
   |some (.seq e _)=>if e=t then some ([c],r) else none
   |_=>none)
  | .br::r=>some ([],r)
  |_=>none
 | .own t,cs=>match cs with
  | .all c::r=>(match lk c m with
   |some (.seq e _)=>if e=t then some ([c],r) else none
   |_=>none)
  | .br::r=>some ([],r)
  |_=>none
 | .bx t,cs=>match cs with
  | .cZ c i o off::r=>(match lk c m with
   |some (.seq e _)=>if e=t then some ([c],r) else none
   |_=>none)
  |_=>none
 |_,cs=>match cs with
  | .bp _ _::r=>some ([],r)
  |_=>none
def lb:(t:Ty)->List bs->Option (List Nat×List bs)
 | .pair a b,cs=>match lb a cs with
  |some (x,r)=>(match lb b r with
   |some (y,j)=>some (x++y,j)
   |none=>none)
  |none=>none
 | .st t,cs=>lb t cs
 | .sl _,cs=>match cs with
  | .all c::r=>some ([c],r)
  | .br::r=>some ([],r)
  |_=>none
 | .own _,cs=>match cs with
  | .all c::r=>some ([c],r)
  | .br::r=>some ([],r)
  |_=>none
 | .bx _,cs=>match cs with
  | .cZ c i o off::r=>some ([c],r)
  |_=>none
 |_,cs=>match cs with
  | .bp _ _::r=>some ([],r)
  |_=>none
structure cB where
 val:bu
 new:Mem
 kZ:Mem
 cond:List Prop
def bU:List Prop->Prop
 |[]=>True
 |p::r=>p/\bU r
theorem bU.append: ∀{a b:List Prop},bU (a++b)->bU a/\bU b
 |[],_,h=>⟨trivial,h⟩
 |_::_,_,h=>⟨⟨h.1,(bU.append h.2).1⟩,(bU.append h.2).2⟩
def cz (v:bu):Option cB:=some ⟨v,[],[],[]⟩
def fL (v:bu)(cs:List Prop):Option cB:=some ⟨v,[],[],cs⟩
def Q9:ο->bs
 | .int k n=> .bp (.int k) n
 | .bool b=> .bp .bool b
 | .float k b=> .bp (.dB k) (cW k b)
 | .string s=> .bp .str s.data.toList
 | .slice none 0 0=> .br
 | .agg _=> .bad
 | .tuple _=> .bad
 |_=> .dE
def nP:ο->bu
 | .agg cs=> .agg (cs.toList.map Q9)
 | .tuple _=> .dE
 |v=> .one (Q9 v)
def ev (fr:Fr):Operand->Option bu
 | .tmp t=>lk t fr
 | .const v=>some (nP v)
 | .func f=>some (.one (.fn f))
 | .global _=>none
def wz (P:Ξ)(T:Ι):Option Bool:=
 match P.underlying T with
 |some (.struct _)=>some true
 |some (.array _ _)=>some true
 |some _=>some false
 |none=>none
def cX (P:Ξ)(T:Ι):Option Nat:=(P.info? T).map (·.size)
def MW (j:Bool)(cs:List bs):Option bu:=
 match j,cs with
 |true,cs=>some (.agg cs)
 |false,[c]=>some (.one c)
 |_,_=>none
def nQ (m:Mem)(n:Nat):bs->Option (List bs×List Prop)
 | .ptr c off=>match lk c m with
  |some (.box cs)=>bif ϩ (off+n) cs.length then some ((cs.drop off).take n,[]) else none
  |_=>none
 | .cZ c i j off=>none
 | .ip t x off=>bif ϩ (off+n) (gE t x).length then some (((gE t x).drop off).take n,[]) else none
 |_=>none
def pB (P:Ξ)(m:Mem)(T:Ι)(v:bu):Option cB:=
 match v,cX P T,wz P T with
 | .one (.cZ c i J off),some n,some p=>(match lk c m with
  |some (.seq t I)=>bif ϩ (off+n) t.size&&Α J t.size then
   (match MW p (((zt c i t 0 (I.getD i t.eY)).drop off).take n) with
   |some r=>fL r [i<I.length]
   |none=>none) else none
  |some (.oS t I j cs _)=>bif ϩ (off+n) t.size&&Α J t.size then
   (match MW p ((cs.drop off).take n) with
   |some r=>fL r [i=j]
   |none=>none) else none
  |_=>none)
 | .one (.yK c i o j J off),some n,some p=>(match lk c m with
  |some (.seq t I)=>(match dU t (I.getD i t.eY) o with
   |some ⟨e,R⟩=>bif (ϩ (off+n) e.size&&Α J e.size)&&e.top then
    (match MW p (((gE e (R.getD j e.eY)).drop off).take n) with
    |some r=>fL r [j<R.length]
    |none=>none) else none
   |none=>none)
  |_=>none)
 | .one c,some n,some p=>(match nQ m n c with
  |some (cs,_)=>(match MW p cs with
   |some r=>cz r
   |none=>none)
  |none=>none)
 |_,_,_=>none
def bs.HS:bs->Bool
 | .bp (.own _) _=>false
 |_=>true
def qa (P:Ξ)(m:Mem)(T:Ι)(a v:bu):Option cB:=
 match a,cX P T with
 | .one (.ptr c off),some n=>(match lk c m with
  |some (.box cs)=>bif (Α v.cells.length n&&ϩ (off+n) cs.length)&&v.ok then some ⟨.dE,[],[(c,.box (cs.take off++v.cells++cs.drop (off+n)))],[]⟩ else none
  |_=>none)
 | .one (.cZ c i r off),some n=>(match lk c m with
  |some (.seq t p)=>bif (Α v.cells.length n&&ϩ (off+n) t.size)&&(Α r t.size&&v.ok)&&v.cells.all bs.HS then
   (match impl [] t ((gE t (p.getD i t.eY)).take off++v.cells++(gE t (p.getD i t.eY)).drop (off+n)) with
   |some (x,[])=>some ⟨.dE,[],[(c,.seq t (p.set i x))],[i<p.length]⟩
   |_=>none) else none
  |some (.oS t p j cs J)=>bif (Α v.cells.length n&&ϩ (off+n) t.size)&&(Α r t.size&&v.ok) then
   some ⟨.dE,[],[(c,.oS t p j (cs.take off++v.cells++cs.drop (off+n)) J)],[i=j]⟩ else none
  |_=>none)
 | .one (.yK c i o j r off),some n=>(match lk c m with
  |some (.seq t p)=>(match dU t (p.getD i t.eY) o with
   |some ⟨e,I⟩=>bif (Α v.cells.length n&&ϩ (off+n) e.size)&&(Α r e.size&&v.ok)&&e.top then
    (match impl [] e ((gE e (I.getD j e.eY)).take off++v.cells++(gE e (I.getD j e.eY)).drop (off+n)) with
    |some (y,[])=>some ⟨.dE,[],[(c,.seq t (p.set i (ux t (p.getD i t.eY) o e (I.set j y))))],[j<I.length]⟩
    |_=>none) else none
   |none=>none)
  |_=>none)
 |_,_=>none
def kx (P:Ξ)(m:Mem)(T:Ι)(x i:bu):Option cB:=
 match P.underlying T,i with
 |some (.slice e),.one (.bp (.int _) n)=>(match x,cX P e with
  | .one (.bp (.sl t) j),some k=>bif Α k t.size then fL (.one (.ip t (j.getD (δ n) t.eY) 0)) [(0:Int)<=n/\n<((ζ j:Nat):Int)] else none
  | .one (.all c),some k=>(match lk c m with
   |some (.seq t j)=>bif Α k t.size then fL (.one (.cZ c (δ n) k 0)) [(0:Int)<=n/\n<((ζ j:Nat):Int)] else none
   |some (.oS t j _ _ _)=>bif Α k t.size then fL (.one (.cZ c (δ n) k 0)) [(0:Int)<=n/\n<((ζ j:Nat):Int)] else none
   |_=>none)
  | .one (.row c i o),some k=>(match lk c m with
   |some (.seq t j)=>(match dU t (j.getD i t.eY) o with
    |some ⟨e,p⟩=>bif Α k e.size then fL (.one (.yK c i o (δ n) k 0)) [(0:Int)<=n/\n<((ζ p:Nat):Int)] else none
    |none=>none)
   |_=>none)
  | .one (.ref c off len),some k=>(match lk c m with
   |some (.seq t _)=>bif Α k t.size then fL (.one (.cZ c (off+δ n) k 0)) [(0:Int)<=n/\n<(len:Int)] else none
   |_=>none)
  |_,_=>none)
 |_,_=>none
def tz (P:Ξ)(T:Ι)(x i:bu):Option cB:=
 match P.underlying T,x,i with
 |some (.array len e),.one (.cZ c k j 0),.one (.bp (.int _) n)=>(match cX P e with
  |some z=>bif Α (z/j*j) z then fL (.one (.cZ c (k+z/j*δ n) j 0)) [(0:Int)<=n/\n<(len:Int)] else none
  |none=>none)
 |some (.array len e),.one (.ptr c o),.one (.bp (.int _) n)=>(match cX P e with
  |some z=>fL (.one (.ptr c (o+δ n*z))) [(0:Int)<=n/\n<(len:Int)]
  |none=>none)
 |some (.array len e),.one (.ip t y o),.one (.bp (.int _) n)=>(match cX P e with
  |some z=>fL (.one (.ip t y (o+δ n*z))) [(0:Int)<=n/\n<(len:Int)]
  |none=>none)
 |_,_,_=>none
def jt (P:Ξ)(m:Mem)(T:Ι)(x i:bu):Option cB:=
 match tz P T x i with
 |some e=>some e
 |none=>kx P m T x i
def qb (P:Ξ)(T:Ι)(x:bu)(f:Nat):Option cB:=
 match P.underlying T with
 |some (.struct I)=>(match I[f]? with
  |some p=>(match x,cX P p.type with
   | .one (.ptr c off),some (_+1)=>cz (.one (.ptr c (off+p.offset)))
   | .one (.ip t y off),some (_+1)=>cz (.one (.ip t y (off+p.offset)))
   | .one (.cZ c i r off),some (_+1)=>cz (.one (.cZ c i r (off+p.offset)))
   | .one (.yK c i o j r off),some (_+1)=>cz (.one (.yK c i o j r (off+p.offset)))
   |_,_=>none)
  |none=>none)
 |_=>none
def sI (m:Mem):bu->Option cB
 | .one (.bp (.sl _) j)=>cz (.one (.bp (.int .i64) ((ζ j:Nat):Int)))
 | .one (.bp .str j)=>cz (.one (.bp (.int .i64) ((ζ j:Nat):Int)))
 | .one (.all c)=>match lk c m with
  |some (.seq _ j)=>cz (.one (.bp (.int .i64) ((ζ j:Nat):Int)))
  |some (.oS _ j _ _ _)=>cz (.one (.bp (.int .i64) ((ζ j:Nat):Int)))
  |_=>none
 | .one (.row c i o)=>match lk c m with
  |some (.seq t j)=>(match dU t (j.getD i t.eY) o with
   |some ⟨_,p⟩=>cz (.one (.bp (.int .i64) ((ζ p:Nat):Int)))
   |none=>none)
  |_=>none
 | .one (.ref c _ len)=>match lk c m with
  |some (.seq _ _)=>cz (.one (.bp (.int .i64) ((len:Nat):Int)))
  |_=>none
 | .one .br=>cz (.one (.bp (.int .i64) (0:Int)))
 |_=>none
def nR (m:Mem)(t:Ty):bu->Option (List t.D×List (Nat×Chunk))
 | .one .br=>some ([],[])
 | .one (.all c)=>match lk c m with
  |some (.seq j o)=>if h:j=t then some (cE (congrArg Ty.sl h) o,[(c,.gone)]) else none
  |_=>none
 | .one (.ref c 0 len)=>match lk c m with
  |some (.seq j o)=>if h:j=t then some (cE (congrArg Ty.sl h) (o.take len),[(c,.gone)]) else none
  |_=>none
 |_=>none
def bl:Nat:=4294967296
def nJ (m:Mem):bu->Bool
 | .one (.all c)=>(match lk c m with
  |some (.seq t _)=>t.top
  |_=>false)
 | .one (.row _ _ _)=>false
 |_=>true
def rB (P:Ξ)(m:Mem)(nx:Nat)(T T':Ι)(t:Ty)(s x:bu):Option cB:=
 match P.underlying T with
 |some (.slice e)=>(match P.info? e with
  |some i=>bif ((Α T T'&&Α i.size t.size)&&(ϩ i.bytes 32768&&i.zero.isSome)&&(i.zero.map λz=>Α z.cells.size t.size).getD false)&&(t.top&&nJ m x) then
   (match nR m t s,j5 m (.sl t) x with
   |some (j,up),some o=>some ⟨.one (.all nx),[(nx,.seq t (j++o))],up,[ζ j+ζ o<=bl]⟩
   |_,_=>none) else none
  |none=>none)
 |_=>none
def DD (P:Ξ)(nx:Nat)(T:Ι):Option cB:=
 match P.info? T with
 |some i=>(match i.zero with
  |some z=>bif (nP z).ok then some ⟨.one (.ptr nx 0),[(nx,.box (nP z).cells)],[],[]⟩ else none
  |none=>none)
 |none=>none
def KZ (nx:Nat)(v:bu):Option cB:=
 match v with
 | .one c=>bif c.ok then some ⟨.one (.ptr nx 0),[(nx,.box [c])],[],[]⟩ else none
 | .agg cs=>bif cs.all bs.ok then some ⟨.one (.ptr nx 0),[(nx,.box cs)],[],[]⟩ else none
 |_=>none
def wA (place:Nat->Option (Nat×Nat))(cells:List bs):List (Nat×bu)->Option (List bs)
 |[]=>some cells
 |(i,v)::j=>match place i with
  |none=>none
  |some (off,size)=>bif (Α v.cells.length size&&ϩ (off+v.cells.length) cells.length)&&v.ok then
   wA place (cells.take off++v.cells++cells.drop (off+v.cells.length)) j else none
def yH (fr:Fr):List (Nat×Operand)->Option (List (Nat×bu))
 |[]=>some []
 |(i,x)::r=>match ev fr x,yH fr r with
  |some v,some l=>some ((i,v)::l)
  |_,_=>none
def rC (P:Ξ):List Field->Option (List (Nat×Nat))
 |[]=>some []
 |f::r=>match cX P f.type,rC P r with
  |some n,some l=>some ((f.offset,n)::l)
  |_,_=>none
def DE (P:Ξ)(T:Ι)(parts:List (Nat×bu)):Option cB:=
 match P.info? T,P.underlying T with
 |some i,some (.struct o)=>(match i.zero,rC P o.toList with
  |some z,some p=>bif (nP z).ok then (match wA (λj=>p[j]?) (nP z).cells parts with
   |some cs=>cz (.agg cs)
   |none=>none) else none
  |_,_=>none)
 |some i,some (.array _ e)=>(match i.zero,cX P e with
  |some z,some n=>bif (nP z).ok then (match wA (λj=>some (j*n,n)) (nP z).cells parts with
   |some cs=>cz (.agg cs)
   |none=>none) else none
  |_,_=>none)
 |_,_=>none
def uy (t:Ty):Nat->List (Nat×bu)->Option (List t.D)
 |_,[]=>some []
 |i,(j,v)::r=>bif Α i j then (match j5 [] t v,uy t (i+1) r with
  |some x,some l=>some (x::l)
  |_,_=>none) else none
def jX:List Nat->Bool
 |[]=>true
 |k::r=>(r.all λq=> !Α k q)&&jX r
def qR (P:Ξ)(nx:Nat)(T:Ι)(t:Ty)(len:Nat)(parts:List (Nat×bu)):Option cB:=
 match P.underlying T with
 |some (.slice e)=>bif ((cX P e==some t.size&&(((P.info? e).bind (·.zero)).map λz=>Α z.cells.size t.size)==some true)&&(Α parts.length len&&ϩ (len*t.size) 65536))&&t.top then
  (match uy t 0 parts with
  |some j=>some ⟨.one (.all nx),[(nx,.seq t j)],[],[]⟩
  |none=>none) else none
 |_=>none
def DF (P:Ξ)(T:Ι)(len:Nat)(parts:List (Nat×bu)):Option cB:=
 match P.underlying T with
 |some (.slice e)=>bif ((cX P e).isSome&&Α len 0)&&parts.isEmpty then cz (.one .br) else none
 |_=>none
def tA (P:Ξ)(T:Ι)(t:Ty):Option t.D:=
 match P.info? T with
 |some i=>(match i.zero with
  |some z=>if t.top then j5 [] t (nP z) else if (nP z).ok then (match mb [] t (nP z).cells with
   |some ((x,[]),[])=>some x
   |_=>none) else none
  |none=>none)
 |none=>none
def sJ (P:Ξ)(nx:Nat)(T:Ι)(t:Ty)(len cap:bu):Option cB:=
 match P.underlying T,len,cap with
 |some (.slice e),.one (.bp (.int _) n),.one (.bp (.int _) c)=>(match P.info? e,tA P e t with
  |some i,some z=>bif Α i.size t.size&&ϩ i.bytes 32768 then
   some ⟨.one (.all nx),[(nx,.seq t (List.replicate (δ n) z))],[],[(0:Int)<=n/\n<=c/\(c:Int)<=4294967296]⟩ else none
  |_,_=>none)
 |_,_,_=>none
def MX:Option bu->Option Int
 |none=>some 0
 |some (.one (.bp (.int _) n))=>some n
 |_=>none
def NW (len:Nat):Option bu->Option Int
 |none=>some (len:Int)
 |some (.one (.bp (.int _) n))=>some n
 |_=>none
def cut {α:Type}(xs:List α)(j o:Int):List α:=(xs.drop j.toNat).take (o.toNat - j.toNat)
def sK (P:Ξ)(m:Mem)(T:Ι)(x:bu)(o p:Option bu):Option cB:=
 match P.underlying T,x with
 |some .string,.one (.bp .str j)=>(match MX o,NW (ζ j) p with
  |some l,some h=>fL (.one (.bp .str (cut j l h))) [(0:Int)<=l/\l<=h/\h<=((ζ j:Nat):Int)]
  |_,_=>none)
 |some (.slice e),.one .br=>(match MX o,NW 0 p with
  |some l,some h=>bif (cX P e).isSome then fL (.one .br) [(0:Int)<=l/\l<=h/\h<=0] else none
  |_,_=>none)
 |some (.slice e),.one (.bp (.sl t) j)=>(match MX o,NW (ζ j) p with
  |some l,some h=>bif cX P e==some t.size then fL (.one (.bp (.sl t) (cut j l h))) [(0:Int)<=l/\l<=h/\h<=((ζ j:Nat):Int)] else none
  |_,_=>none)
 |some (.slice e),.one (.all c)=>(match lk c m with
  |some (.seq t j)=>(match MX o,NW (ζ j) p with
   |some l,some h=>bif cX P e==some t.size then fL (.one (.ref c l.toNat (h.toNat - l.toNat))) [(0:Int)<=l/\l<=h/\h<=((ζ j:Nat):Int)] else none
   |_,_=>none)
  |_=>none)
 |some (.slice e),.one (.ref c off len)=>(match lk c m with
  |some (.seq t _)=>(match MX o,NW len p with
   |some l,some h=>bif cX P e==some t.size then fL (.one (.ref c (off+l.toNat) (h.toNat - l.toNat))) [(0:Int)<=l/\l<=h/\h<=(len:Int)] else none
   |_,_=>none)
  |_=>none)
 |_,_=>none
def MY (op:ach)(k:aaC)(x y:Int):Option Int:=
 match op with
 | .and=>some (k.wrap (Ϟ k.bits x&&& Ϟ k.bits y).toNat)
 | .or=>some (k.wrap (Ϟ k.bits x|||Ϟ k.bits y).toNat)
 | .xor=>some (k.wrap (Ϟ k.bits x^^^Ϟ k.bits y).toNat)
 | .andNot=>some (k.wrap (Ϟ k.bits x&&& ~~~(Ϟ k.bits y)).toNat)
 |_=>none
def K0 (op:ach)(k:aaC)(x y:Int):Option cB:=
 match op with
 | .add=>cz (.one (.bp (.int k) (k.wrap (x+y))))
 | .sub=>cz (.one (.bp (.int k) (k.wrap (x - y))))
 | .mul=>cz (.one (.bp (.int k) (k.wrap (x*y))))
 | .quo=>fL (.one (.bp (.int k) (k.wrap (x.tdiv y)))) [y≠0]
 | .rem=>fL (.one (.bp (.int k) (x.tmod y))) [y≠0]
 | .eql=>cz (.one (.bp .bool (x==y)))
 | .neq=>cz (.one (.bp .bool (x != y)))
 | .lss=>cz (.one (.bp .bool (decide (x<y))))
 | .leq=>cz (.one (.bp .bool (decide (x<=y))))
 | .gtr=>cz (.one (.bp .bool (decide (x>y))))
 | .geq=>cz (.one (.bp .bool (decide (x>=y))))
 |op=>match MY op k x y with
  |some r=>cz (.one (.bp (.int k) r))
  |none=>none
def DG (op:ach)(k:aaC)(x y:Int):Option cB:=
 match op with
 | .shl=>fL (.one (.bp (.int k) (k.wrap (x*2^(min y.toNat k.bits))))) [(0:Int)<=y]
 | .shr=>fL (.one (.bp (.int k) (x.fdiv (2^(min y.toNat k.bits))))) [(0:Int)<=y]
 |_=>none
def NY (op:ach)(x y:List UInt8):Option cB:=
 match op with
 | .eql=>cz (.one (.bp .bool (x==y)))
 | .neq=>cz (.one (.bp .bool (x != y)))
 | .add=>fL (.one (.bp .str (x++y))) [x.length+y.length<=bl]
 | .lss=>cz (.one (.bp .bool (ahv x y)))
 |_=>none
def vY:ach->Bool
 | .shl=>true
 | .shr=>true
 |_=>false
def Gs (P:Ξ)(T:Ι)(op:ach)(x y:bu):Option cB:=
 match x,y with
 | .one (.bp (.int k) a),.one (.bp (.int j) b)=>if vY op then DG op k a b else if k=j then K0 op k a b else none
 | .one (.bp .str a),.one (.bp .str b)=>NY op a b
 | .one (.bp .bool a),.one (.bp .bool b)=>(match op,P.underlying T with
  | .eql,some .bool=>cz (.one (.bp .bool (a==b)))
  | .neq,some .bool=>cz (.one (.bp .bool (a != b)))
  |_,_=>none)
 |_,_=>none
def TL (op:UnOp)(x:bu):Option cB:=
 match op,x with
 | .not,.one (.bp .bool b)=>cz (.one (.bp .bool (!b)))
 | .neg,.one (.bp (.int k) n)=>cz (.one (.bp (.int k) (k.wrap (0 - n))))
 |_,_=>none
def wB (P:Ξ)(T U:Ι)(x:bu):Option cB:=
 match P.underlying T,P.underlying U,x with
 |some (.int _),some (.int k),.one (.bp (.int _) n)=>cz (.one (.bp (.int k) (k.wrap n)))
 |some .string,some .string,.one (.bp .str s)=>cz (.one (.bp .str s))
 |_,_,_=>none
def tB (x:bu)(i:Nat):Option cB:=
 match x with
 | .Ab j=>(match j[i]? with
  |some (o,cs)=>(match MW o cs with
   |some v=>cz v
   |none=>none)
  |none=>none)
 |_=>none
def NZ (x y:bu):Option cB:=
 match x,y with
 | .one (.bp (.int k) a),.one (.bp (.int j) b)=>if k=j then cz (.one (.bp (.int k) (if b<a then b else a))) else none
 |_,_=>none
def N0 (x y:bu):Option cB:=
 match x,y with
 | .one (.bp (.int k) a),.one (.bp (.int j) b)=>if k=j then cz (.one (.bp (.int k) (if b>a then b else a))) else none
 |_,_=>none
end Go.Ide
namespace Go.Ide
theorem bB {α:Type}(k k':Nat)(v:α)(l:List (Nat×α)):lk k ((k',v)::l)=if k=k' then some v else lk k l:=by
 simp only [lk];by_cases h:k=k';subst h;simp;have:Α k k'=false:=by rw [<-Bool.not_eq_true];intro e;exact h (abc e)
 rw [if_neg h,this];rfl
theorem fO {α:Type}(k:Nat):lk k ([]:List (Nat×α))=none:=rfl
theorem cp {α:Type}(k:Nat)(l j:List (Nat×α)):lk k (l++j)=(lk k l).or (lk k j):=by
 induction l with
 |nil=>simp [fO]
 |cons p l ih=>
  obtain ⟨o,v⟩:=p;rw [List.cons_append,bB,bB,ih];split<;>simp
def St.put (st:St)(d:Option Tmp)(v:bu):St:=
 match d with
 |some t=>{st with fr:=(t,v)::st.fr}
 |none=>st
def St.iT (st:St)(m:Mem)(nx:Nat):St:=⟨st.fr,m,nx⟩
section
variable {cx:Cx} {g g':GM} {st:St} {a:Act} {w w':Ε}
theorem cG.put (h:cG cx g st a w){v:bu}{val:ο}(r:VR g st.mem (cx.safe g st.mem w) w v val)(d:Option Tmp)(I: ∀t,d=some t->t<cx.N):
 cG cx g (st.put d v) (a.put d val) w:=by
 cases d with
 |none=>exact h
 |some t=>
  have ht:t<a.tmps.size:=by rw [h.size];exact I t rfl
  refine ⟨h.defers,by simp [Act.put,h.size],λp J j=> ?_,h.mem,h.fV,h.iF,h.lt,h.bt,h.own,h.gl⟩;simp only [St.put] at j;rw [bB] at j;simp only [Act.put,ώ,Array.getElem?_setIfInBounds];by_cases o:p=t;subst o;rw [if_pos rfl] at j;injection j with j;subst j;simpa [ht,St.put] using r;rw [if_neg o] at j;rw [if_neg (λe=>o e.symm)];have:=h.fr p J j;simpa [ώ,St.put] using this
def Chunk.wC (ch:Chunk)(t:Ty)(xs:List t.D):Prop:=ch= .seq t xs\/ ∃i cs j,ch= .oS t xs i cs j
theorem du.of {m:Mem}{c:Nat}{ch:Chunk}{t:Ty}{xs:List t.D}(h:lk c m=some ch):du m c t xs↔ch.wC t xs:=by
 unfold du Chunk.wC;rw [h];simp
structure vL (cx:Cx)(g g':GM)(m m':Mem)(w w':Ε)(G:List Nat):Prop where
 bt:bJ G w w'
 live: ∀b,b∈G->Live g m b
 addr: ∀k,lk k m≠none->g'.f k=g.f k
 old: ∀k ch,lk k m=some ch->
  (lk k m'=some ch/\(∀p b,ch.owns p->g.f k p=some b->b ∉ G))\/
  (lk k m'=some .gone)\/
  (ch≠ .gone/\(∃pq,lk k m'=some pq/\pq≠ .gone/\(∀p,pq.owns p->ch.owns p)/\(∀t xs,pq.wC t xs-> ∃ig,ch.wC t ig/\ig.length=xs.length)/\
   (∀t ig,pq= .seq t ig-> ∃xs,ch= .seq t xs/\cy t xs ig)/\
   (∀p b arr,ch.owns p->g.f k p=some b->dm w b arr-> ∃dZ,dm w' b dZ/\dZ.size=arr.size)/\
   jc g' m' (cx.safe g' m' w') w' (g'.f k) pq))
 new: ∀k ch,lk k m=none->lk k m'=some ch->jc g' m' (cx.safe g' m' w') w' (g'.f k) ch/\
  (∀p b,ch.owns p->g'.f k p=some b->(w.heap.size<=b\/b∈G)/\b<w'.heap.size/\ ∀k' p' pq,lk k' m'=some pq->pq.owns p'->g'.f k' p'=some b->k'=k/\p'=p)
theorem vL.wD {G:List Nat}{m m':Mem}(t:vL cx g g' m m' w w' G){k:Nat}{ch j:Chunk}(h:lk k m=some ch)(o:lk k m'=some j){p:List Nat}(r:j.owns p):ch.owns p:=by
 rcases t.old k _ h with ⟨e,_⟩|e|⟨J,R,e,_,I,_⟩
 rw [o] at e;injection e with e;subst e;exact r
 rw [o] at e;injection e with e;subst e;exact r.elim
 rw [o] at e;injection e with e;subst e;exact I p r
theorem vL.stays {G:List Nat}{m m':Mem}(t:vL cx g g' m m' w w' G):
 iG g g' m m' (cx.safe g m w) (cx.safe g' m' w') w w':=by
 refine ⟨⟨λb hs=> ?_,λc U=>⟨?_,congrFun (t.addr c U) []⟩,λc ty xs U I=> ?_,λc ty xs b arr U I R J=> ?_⟩,t.addr,λc ty T U I=> ?_⟩;obtain ⟨h1,h2,h3⟩:=hs;have hG:b ∉ G:=λJ=>h3 (t.live b J);refine ⟨⟨ϖ h1 t.bt.size,h2,?_⟩,t.bt.block b h1 hG⟩;rintro ⟨k,p,ch,hk,hn,R⟩;cases j:lk k m with
 |none=>
  rcases ((t.new k ch j hk).2 p b hn R).1 with hx|hx
  omega;exact hG hx
 |some c0=>
  exact h3 ⟨k,p,c0,j,t.wD j hk hn,by rw [<-t.addr k (by rw [j];simp)];exact R⟩
 cases j:lk c m with
 |none=>exact absurd j U
 |some c0=>
  rcases t.old c _ j with ⟨e,_⟩|e|⟨_,c',e,_⟩<;>rw [e]<;>simp
 cases j:lk c m with
 |none=>exact absurd j U
 |some c0=>
  rcases t.old c _ j with ⟨e,_⟩|e|⟨_,c',e,_,_,h3,_⟩
  exact ⟨xs,(du.of j).2 ((du.of e).1 I),rfl⟩;have:=(du.of e).1 I;rcases this with h|⟨_,_,_,h⟩<;>cases h
  obtain ⟨T,e',hlen⟩:=h3 ty xs ((du.of e).1 I);exact ⟨T,(du.of j).2 e',hlen⟩
 cases j:lk c m with
 |none=>exact absurd j U
 |some c0=>
  rcases t.old c _ j with ⟨e,hk⟩|e|⟨hn,c',e,_,_,_,_,h4,_⟩
  have hs:=(du.of e).1 I;exact ⟨arr,J.bt (t.bt.block b J.lt (hk [] b (by rcases hs with rfl|⟨i,cs,ks,rfl⟩<;>first|trivial|(intro o r e;cases e)) R)),rfl⟩;have:=(du.of e).1 I;rcases this with h|⟨_,_,_,h⟩<;>cases h
  exact h4 [] b arr (Chunk.wy hn) R J
 cases j:lk c m with
 |none=>exact absurd j U
 |some c0=>
  rcases t.old c _ j with ⟨e,hk⟩|e|⟨_,c',e,_,_,_,h5,h4,_⟩
  rw [I] at e;injection e with e;subst e
  exact ⟨T,rfl,cy.refl _ _,λi o b arr R J=>⟨arr,J.bt (t.bt.block b J.lt (hk [i,o] b trivial R)),rfl⟩⟩;rw [I] at e;cases e;rw [I] at e;injection e with e;subst e
  obtain ⟨xs,rfl,hs⟩:=h5 ty T rfl;exact ⟨xs,rfl,hs,λi o b arr R J=>h4 [i,o] b arr trivial R J⟩
theorem jc.stays {m m':Mem}{S S':Nat->Prop}(h:iG g g' m m' S S' w w'){γ:List Nat->Option Nat}{ch:Chunk}(R: ∀p b,ch.owns p->γ p=some b->w'.heap[b]? =w.heap[b]?)(I:jc g m S w γ ch):jc g' m' S' w' γ ch:=by
 cases ch with
 |gone=>trivial
 |box cs=>
  obtain ⟨b,arr,e,J,hc⟩:=I;exact ⟨b,arr,e,J.bt (R [] b trivial e),hc.mono λ_ _=>CR.stays h⟩
 |mp t u xs=>
  obtain ⟨b,es,ck,e,hw,hc⟩:=I;exact ⟨b,es,ck,e,(R [] b trivial e).trans hw,hc.mono λ_ _ ⟨k1,k2⟩=>⟨k1.bt,k2.bt⟩⟩
 |gh cs vs=>exact ⟨I.1,I.2.mono λ_ _=>CR.stays h⟩
 |pA T e xs=>exact ⟨I.1,let ⟨b,p,v,h1,h2,h3,h4⟩:=I.2;⟨b,p,v,h1,h2,(R [] b trivial h1).trans h3,h4.bt λg hg=>R [0] g trivial hg⟩⟩
 |seq t xs=>
  cases U:γ [] with
  |none=>simp only [jc,U] at I⊢;exact I
  |some b=>
   simp only [jc,U] at I⊢;obtain ⟨arr,J,he⟩:=I;exact ⟨arr,J.bt (R [] b trivial U),he.bt h.safe λp b hp=>R p b trivial hp⟩
 |oS t xs i cs ks=>
  obtain ⟨Ft,b,arr,e,J,hi,hj,es,h1,h2,h3⟩:=I;refine ⟨Ft.mono λo k hk=>⟨(h.nN k hk.1).1,(h.BQ k hk.1).trans hk.2⟩,b,arr,e,J.bt (R [] b (by intro o r e;cases e) e),hi,λj hl aa=> ?_,es,h1,h2,h3.mono λ_ _=>CR.stays h⟩;obtain ⟨es,k1,k2⟩:=hj j hl aa;exact ⟨es,k1,de.bt h.safe t (λp b hp=>R (j::p) b (by intro o r e;injection e with e;exact absurd e aa) hp) k2⟩
theorem cG.tC {G:List Nat}{m':Mem}{nx':Nat}(h:cG cx g st a w)(t:vL cx g g' st.mem m' w w' G):
 cG cx g' (st.iT m' nx') a w':=by
 have hs:=t.stays;refine ⟨h.defers.bt hs.safe,h.size,λt' v hl=>VR.stays hs (h.fr t' v hl),λk r o=> ?_,?_,λk p r b o I J=> ?_,λk p r b o I J=> ?_,?_,λp hp=>⟨(t.addr p.1 (h.own p hp).2).trans (h.own p hp).1,(hs.nN p.1 (h.own p hp).2).1⟩,h.gl⟩;change lk k m'=some r at o;cases j:lk k st.mem with
 |none=>exact (t.new k r j o).1
 |some c0=>
  have MZ:=t.addr k (by rw [j];simp);rcases t.old k _ j with ⟨e,hb⟩|e|⟨_,c',e,_,_,_,_,_,h5⟩
  rw [o] at e;injection e with e;subst e
  rw [MZ];refine jc.stays hs (λp b I J=> ?_) (h.mem k r j);exact t.bt.block b (h.lt k p r b j I J) (hb p b I J);rw [o] at e;injection e with e;subst e;trivial
  rw [o] at e;injection e with e;subst e;exact h5
 intro k k' p p' r U b o I R aa J ab;change lk k m'=some r at o;change lk k' m'=some U at R;cases j:lk k st.mem with
 |none=>
  have:=((t.new k r j o).2 p b I J).2.2 k' p' U R aa ab;exact ⟨this.1.symm,this.2.symm⟩
 |some c0=>
  cases T:lk k' st.mem with
  |none=>exact ((t.new k' U T R).2 p' b aa ab).2.2 k p r o I J
  |some YO=>
   refine h.fV k k' p p' c0 YO b j (t.wD j o I) T (t.wD T R aa) ?_ ?_;rw [<-t.addr k (by rw [j];simp)];exact J;rw [<-t.addr k' (by rw [T];simp)];exact ab
 change lk k m'=some r at o;cases j:lk k st.mem with
 |none=>
  rcases ((t.new k r j o).2 p b I J).1 with hx|hx
  exact .inl (ϣ h.bt.size hx);obtain ⟨k2,p2,c2,h2,ad,ae⟩:=t.live b hx;exact h.iF k2 p2 c2 b h2 ad ae
 |some c0=>
  exact h.iF k p c0 b j (t.wD j o I) (by rw [<-t.addr k (by rw [j];simp)];exact J)
 change lk k m'=some r at o;cases j:lk k st.mem with
 |none=>exact ((t.new k r j o).2 p b I J).2.1
 |some c0=>exact ϖ (h.lt k p c0 b j (t.wD j o I) (by rw [<-t.addr k (by rw [j];simp)];exact J)) t.bt.size
 refine ⟨t.bt.os.trans h.bt.os,t.bt.tape.trans h.bt.tape,t.bt.output.trans h.bt.output,ϣ h.bt.size t.bt.size,λb hb hf=> ?_,
  λb arr hb=>let ⟨arr1,h1,e1⟩:=h.bt.sz b arr hb;let ⟨DH,h2,e2⟩:=t.bt.sz b arr1 h1;⟨DH,h2,e2.trans e1⟩⟩
 rw [t.bt.block b (ϖ hb h.bt.size) ?_];exact h.bt.block b hb hf;intro hG;obtain ⟨k2,p2,c2,h2,ad,ae⟩:=t.live b hG;rcases h.iF k2 p2 c2 b h2 ad ae with hx|hx
 omega;exact hf hx
theorem bJ.alloc (G:List Nat)(w:Ε)(o:Obj):bJ G w (w.alloc o):=
 ⟨rfl,rfl,rfl,by simp,λb j _=>aao w o b j,λb arr j=>⟨arr,j.bt (aao w o b j.lt),rfl⟩⟩
theorem bJ.drew (G:List Nat)(w:Ε):bJ G w w.drew:=⟨rfl,rfl,rfl,φ _,λ_ _ _=>rfl,λ_ arr j=>⟨arr,j,rfl⟩⟩
def fe (m l:Mem):Prop:= ∀p∈l,lk p.1 m=none
def pC (b:Option Nat):List Nat->Option Nat:=λp=>if p=[] then b else none
def GM.set (g:GM)(k:Nat)(γ:List Nat->Option Nat):GM:=⟨λq=>if q=k then γ else g.f q⟩
theorem GM.wE (g:GM)(k:Nat)(γ:List Nat->Option Nat):(g.set k γ).f k=γ:=if_pos rfl
theorem GM.DI (g:GM){k q:Nat}(γ:List Nat->Option Nat)(h:q≠k):(g.set k γ).f q=g.f q:=if_neg h
theorem cG.N1 {ch:Chunk}(h:cG cx g st a w)(tD:lk st.nx st.mem=none)(hk:bJ [] w w')(hlt:w.heap.size<w'.heap.size)(hc: ∀g':GM,(∀k,lk k st.mem≠none->g'.f k=g.f k)->g'.f st.nx=pC (some w.heap.size)-> ∀S',(∀b,cx.safe g st.mem w b->S' b)->jc g' ((st.nx,ch)::st.mem) S' w' (pC (some w.heap.size)) ch):
 ∃g':GM,(g'.f st.nx=pC (some w.heap.size))/\cG cx g' (st.iT ((st.nx,ch)::st.mem) (st.nx+1)) a w'/\iG g g' st.mem ((st.nx,ch)::st.mem) (cx.safe g st.mem w) (cx.safe g' ((st.nx,ch)::st.mem) w') w w':=by
 have r: ∀k,lk k st.mem≠none->(g.set st.nx (pC (some w.heap.size))).f k=g.f k:=λk iH=>GM.DI _ _ (λe=>iH (by rw [e];exact tD));have j:=GM.wE g st.nx (pC (some w.heap.size));revert r j;generalize g.set st.nx (pC (some w.heap.size))=g';intro r j;have h1: ∀p b,pC (some w.heap.size) p=some b->p=[]/\b=w.heap.size:=by
  intro p b hp;unfold pC at hp;split at hp;injection hp with hp;exact ⟨by assumption,hp.symm⟩;cases hp
 have T: ∀b,cx.safe g st.mem w b->cx.safe g' ((st.nx,ch)::st.mem) w' b:=by
  intro b ⟨h2,h3,h4⟩;refine ⟨ϖ h2 hk.size,h3,?_⟩;rintro ⟨k,p,c,J,hn,U⟩;rw [bB] at J;by_cases e:k=st.nx;subst e;rw [j] at U;have:=(h1 p b U).2;omega;rw [if_neg e] at J;exact h4 ⟨k,p,c,J,hn,by rw [<-r k (by rw [J];simp)];exact U⟩
 have t:vL cx g g' st.mem ((st.nx,ch)::st.mem) w w' []:=by
  refine ⟨hk,(λb hb=>by simp at hb),r,λk c0 ho=> ?_,λk c0 ho o=> ?_⟩;left;rw [bB,if_neg (λe=>by rw [e,tD] at ho;cases ho)];exact ⟨ho,λ_ _ _ _=>by simp⟩;rw [bB] at o;by_cases e:k=st.nx;subst e;rw [if_pos rfl] at o;injection o with o;subst o;refine ⟨by rw [j];exact hc g' r j _ T,λp b hn U=> ?_⟩;rw [j] at U;obtain ⟨rfl,rfl⟩:=h1 p b U;refine ⟨.inl (φ _),hlt,λk' p' pq R N2 I=> ?_⟩;rw [bB] at R;by_cases e:k'=st.nx;subst e;rw [j] at I;exact ⟨rfl,(h1 p' _ I).1⟩;rw [if_neg e] at R;have:=h.lt k' p' pq _ R N2 (by rw [<-r k' (by rw [R];simp)];exact I);omega;rw [if_neg e] at o;rw [o] at ho;cases ho
 exact ⟨g',j,h.tC t,t.stays⟩
theorem cG.new {ch:Chunk}{arr:Array ο}(h:cG cx g st a w)(j:lk st.nx st.mem=none)(o:bJ [] w w')(p:dm w' w.heap.size arr)(r: ∀g':GM,(∀k,lk k st.mem≠none->g'.f k=g.f k)->g'.f st.nx=pC (some w.heap.size)-> ∀S',(∀b,cx.safe g st.mem w b->S' b)->jc g' ((st.nx,ch)::st.mem) S' w' (pC (some w.heap.size)) ch):
 ∃g':GM,(g'.f st.nx=pC (some w.heap.size))/\cG cx g' (st.iT ((st.nx,ch)::st.mem) (st.nx+1)) a w'/\iG g g' st.mem ((st.nx,ch)::st.mem) (cx.safe g st.mem w) (cx.safe g' ((st.nx,ch)::st.mem) w') w w':=
 h.N1 j o p.lt r
end
end Go.Ide
namespace Go.Ide
section
variable {g:GM} {m m0:Mem} {S S2:Nat->Prop} {w:Ε}
def ij (g:GM)(m m0:Mem)(S2:Nat->Prop)(w:Ε):Prop:=
 ∀k t j,lk k m0=some (.seq t j)->lk k m=some (.seq t j)/\
  (∀p b,g.f k p=some b->S2 b)/\(match g k with|none=>j=[]|some b=> ∃arr,dm w b arr/\eI S2 w (g.f k) t j arr)
theorem ij.nil:ij g m [] S2 w:=λk t j h=>by simp [fO] at h
theorem bT.of_slice {t:Ty}{xs:List t.D}{b o cap:Nat}{arr:Array ο}(r:S2 b)(I:dm w b arr)(J:xs.length<=cap)(h: ∀i (p:i<xs.length),∃es:List ο,(∀j v,es[j]? =some v->arr[o+(i*t.size+j)]? =some v)/\bT S2 w t es xs[i]):
 bT S2 w (.sl t) [.slice (some ⟨b,o,none⟩) xs.length cap] xs:=by
 refine ⟨some ⟨b,o,none⟩,cap,rfl,J,λi p=> ?_⟩;obtain ⟨es,R,T⟩:=h i p;refine ⟨⟨b,o,none⟩,es,rfl,r,λj v U=> ?_,T⟩;rw [ca,I.cell];exact R j v U
theorem wF {A B:Type}(h:A=B)(j:List A=List B)(xs:List A):zr j xs=xs.map (zr h):=by
 subst h;show xs=agi (λx=>x) xs;simp
theorem DJ {A B C D:Type}(h:A=B)(j:C=D)(hp:(A×C)=(B×D))(x:A×C):zr hp x=(zr h x.1,zr j x.2):=by
 subst h;subst j;rfl
theorem Fu {t:Ty}(ih: ∀(cs:List ο) (x:t.D),bT S w t cs x->bT S w t.er cs (BJ x)){cs:List ο}{xs:List t.D}(h:bT S w (.sl t) cs xs)(p:t.er.size=t.size):bT S w (.sl t.er) cs (BJ (t:= .sl t) xs):=by
 obtain ⟨a,cap,e,r,I⟩:=h;have J:(BJ (t:= .sl t) xs:List t.er.D)=agi BJ xs:=wF t.wx.symm _ xs;show bT S w (.sl t.er) cs (BJ (t:= .sl t) xs:List t.er.D);rw [J];refine ⟨a,cap,by rw [ϔ];exact e,by rw [ϔ];exact r,λi o=> ?_⟩;have j:i<ζ xs:=by rw [ϔ] at o;exact o
 obtain ⟨R,es,T,U,k3,k4⟩:=I i j;refine ⟨R,es,T,U,by rw [p];exact k3,?_⟩;rw [adW];exact ih es _ k4
theorem K1 {t:Ty}(ih: ∀(cs:List ο) (x:t.D),bT S w t cs x->bT S w t.er cs (BJ x)){cs:List ο}{xs:List t.D}(h:bT S w (.bx t) cs xs)(p:t.er.size=t.size):bT S w (.bx t.er) cs (BJ (t:= .bx t) xs):=by
 obtain ⟨a,e,r⟩:=h;have I:(BJ (t:= .bx t) xs:List t.er.D)=agi BJ xs:=wF t.wx.symm _ xs;show bT S w (.bx t.er) cs (BJ (t:= .bx t) xs:List t.er.D);rw [I];refine ⟨a,e,λi o=> ?_⟩;have j:i<ζ xs:=by rw [ϔ] at o;exact o
 obtain ⟨es,J,R,T⟩:=r i j;refine ⟨es,J,by rw [p];exact R,?_⟩;rw [adW];exact ih es _ T
theorem rD:(t:Ty)->t.er.size=t.size
 | .own _=>rfl
 | .sl _=>rfl
 | .bx _=>rfl
 | .cl _ _=>rfl
 | .pair a b=>by simp only [Ty.er,Ty.size,rD a,rD b]
 | .st t=>rD t
 | .int _=>rfl
 | .dB _=>rfl
 | .bool=>rfl
 | .str=>rfl
theorem qc: ∀(t:Ty) (cs:List ο) (x:t.D),bT S w t cs x->bT S w t.er cs (BJ x)
 | .own t,cs,j,h=>Fu (t:=t) (λcs x=>qc t cs x) h (rD t)
 | .sl t,cs,j,h=>Fu (t:=t) (λcs x=>qc t cs x) h (rD t)
 | .bx t,cs,j,h=>K1 (t:=t) (λcs x=>qc t cs x) h (rD t)
 | .cl f t,cs,x,h=>h
 | .pair a b,cs,x,⟨o,p,e,r,I⟩=>by
  have J:BJ (t:= .pair a b) x=(BJ x.1,BJ x.2):=DJ a.wx.symm b.wx.symm _ x;rw [J];exact ⟨o,p,e,qc a o _ r,qc b p _ I⟩
 | .st t,cs,x,h=>qc t cs x h
 | .int k,cs,x,h=>h
 | .dB k,cs,x,h=>h
 | .bool,cs,x,h=>h
 | .str,cs,x,h=>h
theorem wG: ∀(t:Ty) {x:t.D} {o:Nat} {r:Σ e:Ty,List e.D},dU t x o=some r->o<t.size
 | .own t,x,o,r,h=>by
  cases o with
  |zero=>exact Nat.zero_lt_one
  |succ o=>cases h
 | .pair a b,x,o,r,h=>by
  unfold dU at h;cases j:aae o a.size with
  |true=>
   have:o<a.size:=ϓ j;simp only [Ty.size];omega
  |false=>
   rw [j] at h;have:=wG b h;have I: ¬o<a.size:=by
    intro p;have:aae o a.size=true:=aeO p;rw [j] at this;cases this
   simp only [Ty.size];omega
 | .st t,x,o,r,h=>wG t (x:=x) h
 | .int _,_,_,_,h=>by cases h
 | .dB _,_,_,_,h=>by cases h
 | .bool,_,_,_,h=>by cases h
 | .str,_,_,_,h=>by cases h
 | .sl _,_,_,_,h=>by cases h
 | .bx _,_,_,_,h=>by cases h
 | .cl _ _,_,_,_,h=>by cases h
theorem nS {a b:Nat}:aae a b=true↔a<b:=by
 constructor;intro h;exact ϓ h;intro h;exact aeO h
theorem kO {a b:Nat}(h: ¬a<b):aae a b=false:=by
 cases j:aae a b with
 |true=>exact absurd (nS.1 j) h
 |false=>rfl
theorem de.slot: ∀(t:Ty) {γ:List Nat->Option Nat} {p o:Nat} {cs:List ο} {x:t.D} {e:Ty} {ys:List e.D},de S w t γ p cs x->dU t x o=some ⟨e,ys⟩->
 ∃u,cs[o]? =some u/\de S w (.own e) γ (p+o) [u] ys
 | .own t,γ,p,o,cs,xs,e,ys,h,j=>by
  cases o with
  |zero=>
   have j:some (⟨t,xs⟩:Σ e:Ty,List e.D)=some ⟨e,ys⟩:=j;injection j with j;injection j with r I;subst r;have I:=eq_of_heq I;subst I;obtain ⟨v,e,h3⟩:=h;subst e;exact ⟨v,rfl,v,rfl,h3⟩
  |succ o=>cases j
 | .pair a b,γ,p,o,cs,x,e,ys,⟨c1,c2,U,r,I⟩,j=>by
  unfold dU at j;by_cases J:o<a.size;rw [nS.2 J] at j;obtain ⟨u,R,T⟩:=de.slot a r j;refine ⟨u,?_,T⟩;subst U;rw [Μ (by rw [de.len a r];exact J)];exact R;rw [kO J] at j;obtain ⟨u,R,T⟩:=de.slot b I j;refine ⟨u,?_,?_⟩;subst U;rw [Κ (by rw [de.len a r];omega),de.len a r];exact R;rw [show p+o=p+a.size+(o - a.size) from by omega];exact T
 | .st t,γ,p,o,cs,x,e,ys,h,j=>de.slot t (cs:=cs) (x:=x) h j
 | .int _,_,_,_,_,_,_,_,_,j=>by cases j
 | .dB _,_,_,_,_,_,_,_,_,j=>by cases j
 | .bool,_,_,_,_,_,_,_,_,j=>by cases j
 | .str,_,_,_,_,_,_,_,_,j=>by cases j
 | .sl _,_,_,_,_,_,_,_,_,j=>by cases j
 | .bx _,_,_,_,_,_,_,_,_,j=>by cases j
 | .cl _ _,_,_,_,_,_,_,_,_,j=>by cases j
theorem K2 {t:Ty}{γ:List Nat->Option Nat}{o:Nat}{u v:ο}{xs:List t.D}(j: ∀p b,γ p=some b->S2 b)(r:de S2 w (.own t) γ o [u] xs)(I:iS (γ [o]) w t.size xs.length v):bT S2 w (.sl t) [v] xs:=
 de.data (λ_ h=>h) (.own t) j ⟨v,rfl,I,r.choose_spec.2.2⟩
theorem qS (hS: ∀b,S b->S2 b)(hm:ij g m m0 S2 w){t:Ty}{c:bs}{x:t.D}{v:ο}(h:dF m0 t c=some x)(hr:CR g m S w c v):bT S2 w t [v] x:=by
 cases c with
 |bp t' y=>
  simp only [dF] at h;split at h;rename_i e;subst e;injection h with h;subst h;exact bT.bt (λb hb=>⟨hS b hb,rfl⟩) t' [v] y hr;cases h
 |all c=>
  simp only [dF] at h;split at h;rename_i e;split at h;rename_i R xs hl;obtain ⟨T,r,I⟩:=hm c R xs hl;have hx:=hr.2.2 R xs (.inl T);have key:bT S2 w (.sl R) [v] xs:=by
   unfold iS at hx;cases U:g c with
   |none=>
    rw [U] at hx I;obtain ⟨a,ha⟩:=hx;subst ha;have hn:xs=[]:=I;subst hn;exact ⟨a,0,rfl,φ _,λi J=>by simp at J⟩
   |some b=>
    rw [U] at hx I;obtain ⟨cap,arr,e1,h1,h2,h3,h4⟩:=hx;obtain ⟨dZ,qK,Ra⟩:=I;subst e1;refine bT.of_slice (xs:=xs) (r [] b U) qK h1 λi J=> ?_;obtain ⟨es,k1,k2⟩:=Ra.data (λ_ h=>h) r i J;exact ⟨es,λj v hv=>by rw [Υ];exact k1 j v hv,k2⟩
  split at h;rename_i he;subst he;injection h with h;subst h;exact key;split at h;rename_i he;subst he;injection h with h;subst h;exact qc (.sl R) [v] xs key;cases h;cases h;cases h
 |row c i o=>
  simp only [dF] at h;split at h;rename_i e;split at h;rename_i e1 xs hl;split at h;rename_i R ys hs;split at h;rename_i he;subst he;injection h with h;subst h;obtain ⟨T,r,I⟩:=hm c e1 xs hl;obtain ⟨J,hx⟩:=hr.2.2 e1 xs T;have hx:=hx R ys hs;cases U:g c with
  |none=>rw [U] at I;have hn:xs=[]:=I;subst hn;simp at J
  |some b=>
   rw [U] at I;obtain ⟨arr,hb,he⟩:=I;obtain ⟨es,_,k2⟩:=he i J;have hd:xs.getD i e1.eY=xs[i]:=by simp [ε,J]
   rw [hd] at hs;obtain ⟨u,_,k3⟩:=de.slot e1 k2 hs;rw [Υ] at k3;exact K2 (λp b hp=>r _ b hp) k3 hx
  cases h;cases h;cases h;cases h
 |yK c i o j sz off=>simp [dF] at h
 |ref c off len=>
  simp only [dF] at h;split at h;rename_i e;split at h;rename_i R xs hl;split at h;rename_i he;subst he;injection h with h;subst h;obtain ⟨T,r,I⟩:=hm c R xs hl;obtain ⟨hle,hx⟩:=hr.2.2 R xs (.inl T);have hlen:((xs.drop off).take len).length=len:=by simp;omega
  rcases hx with ⟨h0,_,a,ha⟩|⟨b,cap,arr,U,e1,h1,h2,h3,h4⟩
  subst ha;subst h0;exact ⟨a,0,by simp [cE],by simp [cE],λi J=>by simp [cE] at J⟩;rw [U] at I;obtain ⟨dZ,qK,Ra⟩:=I;subst e1;have:=bT.of_slice (S2:=S2) (w:=w) (t:=R) (xs:=(xs.drop off).take len) (o:=off*R.size) (cap:=cap) (r [] b U) qK (by omega) λi J=>by
   have BK:off+i<xs.length:=by rw [hlen] at J;omega
   obtain ⟨es,k1,k2⟩:=Ra.data (λ_ h=>h) r (off+i) BK;refine ⟨es,λj v hv=> ?_,?_⟩;have:=k1 j v hv;rw [ϑ] at this;rw [<-Ϡ];exact this;simpa using k2
  rw [hlen] at this;exact this;cases h;cases h;cases h
 |br=>
  simp only [dF] at h;split at h;injection h with h;subst h;obtain ⟨a,ha⟩:=hr;subst ha;exact ⟨a,0,rfl,φ _,λi J=>by simp at J⟩;cases h
 |ptr c off=>simp [dF] at h
 |cZ c i sz off=>
  simp only [dF] at h;split at h;rename_i e;split at h;rename_i R xs hl;split at h;rename_i he;subst he;cases hb:(Α i 0&&(Α off 0&&Α sz R.size)) with
  |false=>rw [hb] at h;cases h
  |true=>
   rw [hb] at h;simp only [cond_true] at h;injection h with h;subst h;simp only [κ] at hb;obtain ⟨h1,h2,h3⟩:=hb;have h1:=abc h1;have h2:=abc h2;subst h1;subst h2;obtain ⟨T,r,I⟩:=hm c R xs hl;obtain ⟨_,b,U,ev⟩:=hr;rw [U] at I;obtain ⟨arr,qK,Ra⟩:=I;refine ⟨⟨b,0,none⟩,by rw [ev];simp,λi J=> ?_⟩;obtain ⟨es,k1,k2⟩:=Ra.data (λ_ h=>h) r i J;refine ⟨es,r [] b U,λj v hv=> ?_,k2⟩;rw [ca,qK.cell,Υ];exact k1 j v hv
  cases h;cases h;cases h
 |ip t x off=>simp [dF] at h
 |fn f=>simp [dF] at h
 |jb f t' x=>simp [dF] at h
 |cls f ks=>simp [dF] at h
 |zq f t' x=>simp [dF] at h
 |fK c=>simp [dF] at h
 |dE=>simp [dF] at h
 |bad=>simp [dF] at h
theorem lf (o: ∀b,S b->S2 b)(p:ij g m m0 S2 w){t:Ty}{cs:List bs}{x:t.D}{r:List bs}{vs:List ο}(h:dc m0 t cs=some (x,r))(j:bN (CR g m S w) cs vs):
 ∃v1 v2,vs=v1++v2/\bT S2 w t v1 x/\bN (CR g m S w) r v2:=by
 cases cs with
 |nil=>simp [dc] at h
 |cons c cs=>
  cases vs with
  |nil=>exact j.elim
  |cons v vs=>
   simp only [dc] at h;split at h;rename_i y I;injection h with h;injection h with J R;subst J;subst R;exact ⟨[v],vs,rfl,qS o p I j.1,j.2⟩;cases h
theorem ju (o: ∀b,S b->S2 b)(p:ij g m m0 S2 w): ∀(t:Ty) {cs:List bs} {x:t.D} {r:List bs} {vs:List ο},impl m0 t cs=some (x,r)->bN (CR g m S w) cs vs->
 ∃v1 v2,vs=v1++v2/\bT S2 w t v1 x/\bN (CR g m S w) r v2
 | .int k,cs,x,r,vs,h,j=>lf o p (t:= .int k) (cs:=cs) h j
 | .dB k,cs,x,r,vs,h,j=>lf o p (t:= .dB k) (cs:=cs) h j
 | .bool,cs,x,r,vs,h,j=>lf o p (t:= .bool) (cs:=cs) h j
 | .str,cs,x,r,vs,h,j=>lf o p (t:= .str) (cs:=cs) h j
 | .sl t,cs,x,r,vs,h,j=>lf o p (t:= .sl t) (cs:=cs) h j
 | .own t,cs,x,r,vs,h,j=>lf o p (t:= .own t) (cs:=cs) h j
 | .bx t,cs,x,r,vs,h,j=>lf o p (t:= .bx t) (cs:=cs) h j
 | .cl f t,cs,x,r,vs,h,j=>lf o p (t:= .cl f t) (cs:=cs) h j
 | .st t,cs,x,r,vs,h,j=>ju o p t h j
 | .pair a b,cs,x,r,vs,h,j=>by
  simp only [impl] at h;split at h;rename_i y r1 J;split at h;rename_i z r2 R;injection h with h;injection h with T U;subst T;subst U;obtain ⟨v1,v2,rfl,k1,k2⟩:=ju o p a J j;obtain ⟨I,v4,rfl,k3,k4⟩:=ju o p b R k2;exact ⟨v1++I,v4,by simp,⟨v1,I,rfl,k1,k3⟩,k4⟩;cases h;cases h
def dC (t:Ty)(cs:List ο)(v:ο):Prop:=if t.sk then v= .agg cs.toArray else cs=[v]
theorem mY (R: ∀b,S b->S2 b)(T:ij g m m0 S2 w){t:Ty}{v:bu}{x:t.D}{val:ο}(h:j5 m0 t v=some x)(U:VR g m S w v val):
 ∃cs,dC t cs val/\bT S2 w t cs x:=by
 unfold j5 at h;split at h;rename_i c j;split at h;rename_i y p;injection h with h;subst h;obtain ⟨v1,o,e,r,I⟩:=ju (vs:=[val]) R T t p ⟨U,trivial⟩;have:o=[]:=by cases o with|nil=>rfl|cons=>exact I.elim
 subst this;simp at e;subst e;exact ⟨[val],by simp [dC,j],r⟩;cases h;rename_i cs j;split at h;rename_i y p;injection h with h;subst h;obtain ⟨vs,e,J⟩:=U;obtain ⟨v1,o,e2,r,I⟩:=ju R T t p J;have:o=[]:=by cases o with|nil=>rfl|cons=>exact I.elim
 subst this;simp at e2;subst e2;exact ⟨vs,by simp [dC,j,e],r⟩;cases h;cases h
theorem lg: ∀(t:Ty) {cs:List ο} {x:t.D},bT S w t cs x->bN (CR g m S w) (gE t x) cs
 | .int _,_,_,h=>by subst h;exact ⟨rfl,trivial⟩
 | .dB _,_,_,⟨b,e,h⟩=>by subst e;exact ⟨⟨b,rfl,h⟩,trivial⟩
 | .bool,_,_,h=>by subst h;exact ⟨rfl,trivial⟩
 | .str,_,_,h=>by subst h;exact ⟨rfl,trivial⟩
 | .sl t,_,_,⟨a,cap,e,h⟩=>by subst e;exact ⟨⟨a,cap,rfl,h⟩,trivial⟩
 | .own t,_,_,⟨a,cap,e,h⟩=>by subst e;exact ⟨⟨a,cap,rfl,h⟩,trivial⟩
 | .bx t,_,_,⟨a,e,h⟩=>by subst e;exact ⟨⟨a,rfl,h⟩,trivial⟩
 | .cl f t,_,_,⟨j,o,e,h⟩=>by subst e;exact ⟨⟨j,o,rfl,h⟩,trivial⟩
 | .pair a b,_,_,⟨I,J,e,p,r⟩=>by subst e;exact (lg a p).append (lg b r)
 | .st t,_,_,h=>lg t (cs:=_) h
theorem rE {c i:Nat}: ∀(t:Ty) {γ:List Nat->Option Nat} {p:Nat} {cs:List ο} {x:t.D},de S w t γ p cs x->
 (∀o e ys v,dU t x o=some ⟨e,ys⟩->iS (γ [p+o]) w e.size ys.length v->CR g m S w (.row c i (p+o)) v)->bN (CR g m S w) (zt c i t p x) cs
 | .own t,γ,p,cs,R,⟨v,e,I,_⟩,j=>by subst e;exact ⟨j 0 t R v rfl I,trivial⟩
 | .pair a b,γ,p,cs,x,⟨c1,c2,e,I,T⟩,j=>by
  subst e;refine (rE a I λo e ys v r J=>j o e ys v ?_ J).append (rE b T λo e ys v r J=> ?_);unfold dU;rw [nS.2 (wG a r)];exact r;have:=j (a.size+o) e ys v (by unfold dU;rw [kO (by omega),Nat.add_sub_cancel_left];exact r) (by rw [<-Ϡ];exact J);rw [<-Ϡ] at this;exact this
 | .st t,γ,p,cs,x,h,j=>rE t (cs:=cs) (x:=x) h j
 | .int _,_,_,_,_,h,_=>by have h:=h;subst h;exact ⟨rfl,trivial⟩
 | .dB _,_,_,_,_,⟨b,e,h⟩,_=>by subst e;exact ⟨⟨b,rfl,h⟩,trivial⟩
 | .bool,_,_,_,_,h,_=>by have h:=h;subst h;exact ⟨rfl,trivial⟩
 | .str,_,_,_,_,h,_=>by have h:=h;subst h;exact ⟨rfl,trivial⟩
 | .sl t,_,_,_,_,⟨a,cap,e,h⟩,_=>by subst e;exact ⟨⟨a,cap,rfl,h⟩,trivial⟩
 | .bx t,_,_,_,_,⟨a,e,h⟩,_=>by subst e;exact ⟨⟨a,rfl,h⟩,trivial⟩
 | .cl f t,_,_,_,_,⟨U,ps,e,h⟩,_=>by subst e;exact ⟨⟨U,ps,rfl,h⟩,trivial⟩
theorem HU (v:ο):CR g m S w (Q9 v) v:=by
 unfold Q9;split;exact rfl;exact rfl;exact ⟨_,rfl,rfl⟩;rename_i s;simp [CR,bT];exact ⟨none,rfl⟩;trivial;trivial;rename_i p r t I J j o;cases v<;>first
  |rfl
  |exact absurd rfl (j _)
  |exact absurd rfl (o _)
theorem Fv: ∀(l:List ο),bN (CR g m S w) (l.map Q9) l
 |[]=>trivial
 |v::l=>⟨HU v,Fv l⟩
theorem qd (v:ο):VR g m S w (nP v) v:=by
 unfold nP;split;rename_i cs;exact ⟨cs.toList,by simp,Fv _⟩;trivial;exact HU v
theorem cc {cx:Cx}{st:St}{a:Act}(h:cG cx g st a w){x:Operand}{v:bu}(j:ev st.fr x=some v):VR g st.mem (cx.safe g st.mem w) w v (a.eval x):=by
 cases x with
 |tmp t=>exact h.fr t v j
 |const c=>simp only [ev] at j;injection j with j;subst j;exact qd c
 |func f=>simp only [ev] at j;injection j with j;subst j;exact rfl
 |global g=>simp [ev] at j
end
end Go.Ide
namespace Go.Ide
section
variable {P:Ξ} {g:GM} {m:Mem} {S:Nat->Prop} {w:Ε}
theorem bR {a b:Nat}(h:Α a b=true):a=b:=abc h
theorem iU {a b:Nat}(h:ϩ a b=true):a<=b:=ϓ h
theorem cA {T:Ι}{n:Nat}(h:cX P T=some n):(sizeOf T).run P w= .ok n w:=by
 unfold cX at h;cases j:P.info? T with
 |none=>rw [j] at h;cases h
 |some i=>rw [j] at h;injection h with h;subst h;simp [sizeOf,typeInfo,j]
theorem sL {T:Ι}{o:Bool}(h:wz P T=some o):(isAgg T).run P w= .ok o w:=by
 unfold wz at h;cases j:P.underlying T with
 |none=>rw [j] at h;cases h
 |some d=>
  rw [j] at h;simp only [isAgg,Ϙ,run_underlying j,ϋ];cases d<;>simp_all
theorem Ac {p:Bool}{j:List bs}{t:bu}{cs:List ο}(h:MW p j=some t)(o:bN (CR g m S w) j cs):
 ∃r,(if p then r=Value.agg cs.toArray else cs=[r])/\VR g m S w t r:=by
 unfold MW at h;split at h;injection h with h;subst h;exact ⟨_,rfl,cs,rfl,o⟩;injection h with h;subst h;cases cs with
 |nil=>exact o.elim
 |cons v I=>
  cases I with
  |nil=>exact ⟨v,rfl,o.1⟩
  |cons=>exact o.2.elim
 cases h
theorem oX {T:Ι}{n:Nat}{t:Bool}(R:cX P T=some n)(I:wz P T=some t){o:abI}{cs:List ο}(U:cs.length=n)(J: ∀j v,cs[j]? =some v->w.cell? (o.add j)=some v){r:ο}(p:if t then r=Value.agg cs.toArray else cs=[r]):
 (acE T (.pointer (some o))).run P w= .ok r w:=by
 cases t with
 |true=>
  simp only [if_true] at p;subst p;subst U;simp [acE,aat,loadVar,sL I,cA R,run_loadCells_list w o cs J]
 |false=>
  simp only [acd,if_false] at p;subst p;have:=J 0 r rfl;rw [show o.add 0=o from by simp [abF]] at this;simp [acE,aat,loadVar,sL I,this]
theorem bT.nt: ∀(t:Ty) {cs:List ο} {x:t.D},bT S w t cs x-> ∀v∈cs,v.oneCell'=true
 | .int _,_,_,h,v,j=>by subst h;simp at j;subst j;rfl
 | .dB _,_,_,⟨b,e,h⟩,v,j=>by subst e;simp at j;subst j;rfl
 | .bool,_,_,h,v,j=>by subst h;simp at j;subst j;rfl
 | .str,_,_,h,v,j=>by subst h;simp at j;subst j;rfl
 | .sl t,_,_,⟨a,cap,e,h⟩,v,j=>by subst e;simp at j;subst j;rfl
 | .bx t,_,_,⟨a,e,h⟩,v,j=>by subst e;simp at j;subst j;rfl
 | .cl f t,_,_,⟨r,I,e,h⟩,v,j=>by subst e;simp at j;subst j;rfl
 | .own t,_,_,⟨a,cap,e,h⟩,v,j=>by subst e;simp at j;subst j;rfl
 | .pair a b,_,_,⟨J,R,e,o,p⟩,v,j=>by
  subst e;rcases Λ.1 j with h|h
  exact bT.nt a o v h;exact bT.nt b p v h
 | .st t,_,_,h,v,j=>bT.nt t (cs:=_) h v j
theorem wH {c:bs}{v:ο}(p:c.ok=true)(h:CR g m S w c v):v.oneCell'=true:=by
 cases c with
 |bp t x=>exact bT.nt t (cs:=[v]) h v (by simp)
 |ptr c off=>obtain ⟨_,b,_,e⟩:=h;subst e;rfl
 |cZ c i r off=>obtain ⟨_,b,_,e⟩:=h;subst e;rfl
 |ip t x off=>obtain ⟨I,es,e,_⟩:=h;subst e;rfl
 |all c=>exact h.2.1
 |ref c off len=>exact h.2.1
 |row c i o=>exact h.2.1
 |yK c i o j r off=>obtain ⟨_,b,e,_⟩:=h;subst e;rfl
 |br=>obtain ⟨a,e⟩:=h;subst e;rfl
 |fn f=>have:v=_:=h;subst this;rfl
 |jb f t x=>obtain ⟨I,es,e,_⟩:=h;subst e;rfl
 |cls f J=>obtain ⟨R,e,_⟩:=h;subst e;rfl
 |zq f t x=>obtain ⟨_,_,_,e,_⟩:=h;subst e;rfl
 |fK c=>obtain ⟨_,b,_,e⟩:=h;subst e;rfl
 |dE=>exact h
 |bad=>cases p
theorem Fw: ∀{cs:List bs} {vs:List ο},cs.all bs.ok=true->bN (CR g m S w) cs vs-> ∀v∈vs,v.oneCell'=true
 |[],[],_,_,v,j=>by simp at j
 |c::cs,u::vs,o,h,v,j=>by
  simp only [aaT,κ] at o;rcases List.mem_cons.1 j with rfl|j
  exact wH o.1 h.1;exact Fw o.2 h.2 v j
 |[],_::_,_,h,_,_=>h.elim
 |_::_,[],_,h,_,_=>h.elim
theorem cells_one {u:ο}(h:u.oneCell'=true):u.cells= #[u]:=by cases u<;>first|rfl|cases h
theorem jH {v:bu}{u:ο}(j:v.ok=true)(h:VR g m S w v u): ∃vs,u.cells.toList=vs/\bN (CR g m S w) v.cells vs:=by
 cases v with
 |one c=>exact ⟨[u],by rw [cells_one (wH j h)],h,trivial⟩
 |agg cs=>obtain ⟨vs,rfl,o⟩:=h;exact ⟨vs,rfl,o⟩
 |Ab=>cases j
 |BO=>cases j
 |dE=>cases j
theorem qe {v:bu}{u:ο}(j:v.ok=true)(h:VR g m S w v u): ∀x∈u.cells.toList,x.oneCell'=true:=by
 cases v with
 |one c=>intro x o;rw [cells_one (wH j h)] at o;simp at o;subst o;exact wH j h
 |agg cs=>obtain ⟨r,rfl,p⟩:=h;exact Fw j p
 |Ab=>cases j
 |BO=>cases j
 |dE=>cases j
def j6 (g:GM)(m:Mem)(S:Nat->Prop)(w:Ε):Prop:= ∀k j,lk k m=some j->jc g m S w (g.f k) j
theorem BR {n:Nat}{c:bs}{T:List bs}{N3:List Prop}(hm:j6 g m S w)(h:nQ m n c=some (T,N3)){v:ο}(hr:CR g m S w c v):
 ∃ad cs,v= .pointer (some ad)/\cs.length=n/\(∀j u,cs[j]? =some u->w.cell? (ad.add j)=some u)/\bN (CR g m S w) T cs:=by
 unfold nQ at h;split at h;rename_i c off;split at h;rename_i cs hl;cases J:ϩ (off+n) cs.length with
 |false=>simp [J] at h
 |true=>
  rw [J] at h;simp only [cond_true] at h;injection h with h;injection h with h1 h2;subst h1;have hle:=iU J;obtain ⟨b,arr,hg,oY,o⟩:=hm c _ hl;obtain ⟨_,b',p,e⟩:=hr;have p:g.f c []=some b':=p;rw [hg] at p;injection p with p;subst p;have I:=o.length;refine ⟨⟨b,off,none⟩,(arr.toList.drop off).take n,e,by simp at I⊢;omega,λj u r=> ?_,(o.drop off).take n⟩;rw [ca,oY.cell];rw [ϐ] at r;split at r;simpa using r;cases r
 cases h;cases h;rename_i t x off;cases J:ϩ (off+n) (gE t x).length with
 |false=>simp [J] at h
 |true=>
  rw [J] at h;simp only [cond_true] at h;injection h with h;injection h with h1 h2;subst h1;have hle:=iU J;obtain ⟨ad,es,e,hs,R,U⟩:=hr;have o:bN (CR g m S w) (gE t x) es:=lg t U;have I:=o.length;refine ⟨ad.add off,(es.drop off).take n,e,by simp;omega,λj u r=> ?_,(o.drop off).take n⟩;rw [add_add];rw [ϐ] at r;split at r;exact R _ u (by simpa using r);cases r
 cases h
def bF (P:Ξ)(g:GM)(m:Mem)(S:Nat->Prop)(w:Ε)(s:Sem ο)(e:cB):Prop:=
 e.new=[]/\e.kZ=[]/\ ∃r,s.run P w= .ok r w/\VR g m S w e.val r
theorem bF.mk {v:bu}{s:Sem ο}{r:ο}{e:cB}(j:e.new=[]/\e.kZ=[]/\e.val=v)(h:s.run P w= .ok r w)(o:VR g m S w v r):bF P g m S w s e:=
 ⟨j.1,j.2.1,r,h,by rw [j.2.2];exact o⟩
theorem bE {v:bu}{e:cB}(h:cz v=some e):e.new=[]/\e.kZ=[]/\e.val=v:=by
 unfold cz at h;injection h with h;subst h;exact ⟨rfl,rfl,rfl⟩
theorem cT {v:bu}{cs:List Prop}{e:cB}(h:fL v cs=some e):(e.new=[]/\e.kZ=[]/\e.val=v)/\e.cond=cs:=by
 unfold fL at h;injection h with h;subst h;exact ⟨⟨rfl,rfl,rfl⟩,rfl⟩
theorem getD_eq {α:Type}{xs:List α}{i:Nat}{d:α}(h:i<xs.length):xs.getD i d=xs[i]:=by
 simp [ε,h]
theorem eI.at_ {γ:List Nat->Option Nat}{t:Ty}{xs:List t.D}{arr:Array ο}(h:eI S w γ t xs arr){i:Nat}(o:i<xs.length):
 ∃es:List ο,es.length=t.size/\(∀j v,es[j]? =some v->arr[i*t.size+j]? =some v)/\de S w t (λp=>γ (i::p)) 0 es (xs.getD i t.eY):=by
 obtain ⟨es,I,r⟩:=h i o;exact ⟨es,de.len t r,I,by rw [getD_eq o];exact r⟩
theorem iS.one {gc:Option Nat}{sz n:Nat}{v:ο}(h:iS gc w sz n v):v.oneCell'=true:=by
 unfold iS at h;cases gc with
 |none=>obtain ⟨a,rfl⟩:=h;rfl
 |some b=>obtain ⟨cap,arr,rfl,_⟩:=h;rfl
theorem N4 {c i o:Nat}{t e:Ty}{xs:List t.D}{ys:List e.D}{v:ο}(J:lk c m=some (.seq t xs))(T:i<xs.length)(U:dU t (xs.getD i t.eY) o=some ⟨e,ys⟩)(R:iS (g.f c [i,o]) w e.size ys.length v):
 CR g m S w (.row c i o) v:=by
 refine ⟨by rw [J];simp,R.one,λt' aa j=> ?_⟩;rw [J] at j;injection j with j;injection j with I r;subst I;have r:=eq_of_heq r;subst r;refine ⟨T,λe' ab p=> ?_⟩;rw [U] at p;injection p with p;injection p with I r;subst I;have r:=eq_of_heq r;subst r;exact R
theorem pD {c i o:Nat}{t e:Ty}{xs:List t.D}{ys:List e.D}(T:j6 g m S w)(U:lk c m=some (.seq t xs))(I:i<xs.length)(hs:dU t (xs.getD i t.eY) o=some ⟨e,ys⟩):
 match g.f c [i,o] with
 |none=>ys.length=0
 |some b=> ∃arr,dm w b arr/\ ∀j (h:j<ys.length),∃es:List ο,(∀q v,es[q]? =some v->arr[j*e.size+q]? =some v)/\de S w e (λp=>g.f c (i::o::j::p)) 0 es ys[j]:=by
 have r:=T c _ U;unfold jc at r;cases J:g.f c [] with
 |none=>rw [J] at r;have hn:xs=[]:=r;subst hn;simp at I
 |some b=>
  rw [J] at r;obtain ⟨arr,hb,he⟩:=r;obtain ⟨es,_,_,h3⟩:=he.at_ I;obtain ⟨u,_,v,_,_,R⟩:=de.slot t h3 hs;rw [Υ] at R;exact R
theorem qT {T:Ι}{v:bu}{e:cB}{va:ο}(hm:j6 g m S w)(h:pB P m T v=some e)(hc:bU e.cond)(hr:VR g m S w v va):bF P g m S w (acE T va) e:=by
 unfold pB at h;split at h;rename_i c i sz off n ag hs ha;split at h;rename_i t xs hl;cases p:(ϩ (off+n) t.size&&Α sz t.size) with
 |false=>simp [p] at h
 |true=>
  rw [p] at h;simp only [cond_true] at h;simp only [κ] at p;obtain ⟨hn,hz⟩:=p;have hn:=iU hn;have hz:=bR hz;split at h;rename_i r R;obtain ⟨he,Gt⟩:=cT h;rw [Gt] at hc;have hi:i<xs.length:=hc.1;obtain ⟨_,b,hg,e1⟩:=hr;have je:=hm c _ hl;unfold jc at je;have hg:g.f c []=some b:=hg;rw [hg] at je;obtain ⟨arr,oY,ma⟩:=je;obtain ⟨es,U,I,lh⟩:=ma.at_ hi;have J:bN (CR g m S w) (zt c i t 0 (xs.getD i t.eY)) es:=rE t lh λo e ys v hs ha=>by
   rw [Υ] at ha⊢;exact N4 hl hi hs ha
  obtain ⟨rv,h1,h2⟩:=Ac (g:=g) (m:=m) R ((J.drop off).take n);subst e1;refine bF.mk he (oX hs ha (cs:=(es.drop off).take n) (by simp;omega) (λj u hu=> ?_) h1) h2;rw [ca,oY.cell,hz,Ϡ];rw [ϐ] at hu;split at hu;exact I _ u (by simpa using hu);cases hu;cases h
 rename_i t xs jj K3 ks hl;cases p:(ϩ (off+n) t.size&&Α sz t.size) with
 |false=>simp [p] at h
 |true=>
  rw [p] at h;simp only [cond_true] at h;simp only [κ] at p;obtain ⟨hn,hz⟩:=p;have hn:=iU hn;have hz:=bR hz;split at h;rename_i r R;obtain ⟨he,Gt⟩:=cT h;rw [Gt] at hc;have hi:i=jj:=hc.1;subst hi;obtain ⟨_,b,hg,e1⟩:=hr;obtain ⟨_,b',arr,om,oY,_,_,es,U,I,J⟩:=hm c _ hl;have hg:g.f c []=some b:=hg;rw [hg] at om;injection om with om;subst om;obtain ⟨rv,h1,h2⟩:=Ac (g:=g) (m:=m) R ((J.drop off).take n);subst e1;refine bF.mk he (oX hs ha (cs:=(es.drop off).take n) (by simp;omega) (λj u hu=> ?_) h1) h2;rw [ca,oY.cell,hz,Ϡ];rw [ϐ] at hu;split at hu;exact I _ u (by simpa using hu);cases hu;cases h
 cases h;rename_i c i o j sz off n ag hs ha;split at h;rename_i t xs hl;split at h;rename_i e ys KN;cases p:((ϩ (off+n) e.size&&Α sz e.size)&&e.top) with
 |false=>simp [p] at h
 |true=>
  rw [p] at h;simp only [cond_true] at h;simp only [κ] at p;obtain ⟨⟨hn,hz⟩,ht⟩:=p;have hn:=iU hn;have hz:=bR hz;split at h;rename_i r R;obtain ⟨he,Gt⟩:=cT h;rw [Gt] at hc;have hj:j<ys.length:=hc.1;obtain ⟨_,b,e1,YP⟩:=hr;obtain ⟨hi,hg⟩:=YP t xs hl;have hb:=pD hm hl hi KN;rw [hg] at hb;obtain ⟨arr,oY,ma⟩:=hb;obtain ⟨es,I,qU⟩:=ma j hj;have U:=de.len e qU;have J:bN (CR g m S w) (gE e (ys.getD j e.eY)) es:=lg e (by rw [getD_eq hj];exact de.rep e ht qU);obtain ⟨rv,h1,h2⟩:=Ac (g:=g) (m:=m) R ((J.drop off).take n);subst e1;refine bF.mk he (oX hs ha (cs:=(es.drop off).take n) (by simp;omega) (λq u hu=> ?_) h1) h2;rw [ca,oY.cell,hz,Ϡ];rw [ϐ] at hu;split at hu;exact I _ u (by simpa using hu);cases hu;cases h
 cases h;cases h;rename_i c n ag _ _ hs ha;split at h;rename_i K3 N3 YQ;split at h;rename_i r R;obtain ⟨ad,cs,e1,U,I,J⟩:=BR hm YQ (show CR g m S w c va from hr);obtain ⟨rv,h1,h2⟩:=Ac R J;subst e1;exact bF.mk (bE h) (oX hs ha U I h1) h2;cases h;cases h;cases h
end
end Go.Ide
namespace Go.Ide
section
variable {P:Ξ} {g:GM} {m:Mem} {S:Nat->Prop} {w:Ε}
theorem toNat_lt {n:Int}{l:Nat}(j:0<=n)(o:n<(l:Int)):n.toNat<l:=by omega
theorem UA {n:Int}(h:0<=n): ¬n<0:=by omega
theorem HV {n:Int}(j:0<=n)(o:n<((0:Nat):Int)):False:=by omega
theorem uz {T:Ι}{x i:bu}{e:cB}{xa ia:ο}(hm:j6 g m S w)(h:kx P m T x i=some e)(hc:bU e.cond)(hx:VR g m S w x xa)(hi:VR g m S w i ia):
 bF P g m S w (aaF T xa ia) e:=by
 unfold kx at h;split at h;rename_i el k n hu;have YR:ia= .int k n:=by have:[ia]=[Value.int k n]:=hi;simpa using this
 subst YR;split at h;rename_i t xs R hs;cases J:Α R t.size with
 |false=>simp [J] at h
 |true=>
  rw [J] at h;simp only [cond_true] at h;have hz:=bR J;obtain ⟨he,I⟩:=cT h;rw [I] at hc;obtain ⟨⟨U,h1⟩,_⟩:=hc;obtain ⟨a,cap,e1,hcap,qU⟩:=hx;have K4:xa= .slice a (ζ xs) cap:=by simpa using e1
  subst K4;have hlt:δ n<ζ xs:=toNat_lt U h1;obtain ⟨ad,es,ea,hS,gF,lh⟩:=qU n.toNat hlt;subst ea;refine bF.mk he (r:= .pointer (some (ad.add (n.toNat*R)))) ?_ ⟨ad.add (n.toNat*R),es,by simp [abF],by rw [fm];exact hS,λj u hj=> ?_,?_⟩;simp [aaF,asIntOf,run_underlying hu,cA hs,U,h1];rw [add_add,hz];exact gF j u hj;rw [getD_eq hlt];exact lh
 rename_i c R hs;split at h;rename_i t xs hl;cases J:Α R t.size with
 |false=>simp [J] at h
 |true=>
  rw [J] at h;simp only [cond_true] at h;obtain ⟨he,I⟩:=cT h;rw [I] at hc;obtain ⟨⟨U,h1⟩,_⟩:=hc;have je:=hm c _ hl;have p:=hx.2.2 t xs (.inl hl);unfold iS at p;unfold jc at je;cases hg:g.f c [] with
  |none=>
   rw [hg] at je;have:xs=[]:=je;subst this;exact (HV U h1).elim
  |some b=>
   have p:match g.f c [] with|none=>_|some b=>_:=p
   rw [hg] at p;obtain ⟨cap,arr,e1,_,oY,_⟩:=p;subst e1;refine bF.mk he (r:= .pointer (some ⟨b,n.toNat*R,none⟩)) ?_ ⟨hx.1,b,hg,rfl⟩;simp [aaF,asIntOf,run_underlying hu,cA hs,U,h1,ca]
 rename_i t xs jj K3 ks hl;cases J:Α R t.size with
 |false=>simp [J] at h
 |true=>
  rw [J] at h;simp only [cond_true] at h;obtain ⟨he,I⟩:=cT h;rw [I] at hc;obtain ⟨⟨U,h1⟩,_⟩:=hc;obtain ⟨_,b,arr,hg,_⟩:=hm c _ hl;have p:=hx.2.2 t xs (.inr ⟨_,_,_,hl⟩);unfold iS at p;have p:match g.f c [] with|none=>_|some b=>_:=p
  rw [hg] at p;obtain ⟨cap,arr,e1,_,oY,_⟩:=p;subst e1;refine bF.mk he (r:= .pointer (some ⟨b,n.toNat*R,none⟩)) ?_ ⟨hx.1,b,hg,rfl⟩;simp [aaF,asIntOf,run_underlying hu,cA hs,U,h1,ca]
 cases h;rename_i c i o R hs;split at h;rename_i t xs hl;split at h;rename_i e ys KN;cases J:Α R e.size with
 |false=>simp [J] at h
 |true=>
  rw [J] at h;simp only [cond_true] at h;obtain ⟨he,I⟩:=cT h;rw [I] at hc;obtain ⟨⟨U,h1⟩,_⟩:=hc;obtain ⟨hi,K5⟩:=hx.2.2 t xs hl;have p:=K5 e ys KN;have Rb:=pD hm hl hi KN;unfold iS at p;cases hg:g.f c [i,o] with
  |none=>
   rw [hg] at Rb;have TM:ys.length=0:=Rb;exact (HV U (by rw [<-TM];exact h1)).elim
  |some b=>
   rw [hg] at p;obtain ⟨cap,arr,e1,_,oY,_⟩:=p;subst e1;refine bF.mk he (r:= .pointer (some ⟨b,n.toNat*R,none⟩)) ?_ ⟨hx.1,b,rfl,λt' ig uA=>⟨?_,hg⟩⟩;simp [aaF,asIntOf,run_underlying hu,cA hs,U,h1,ca];exact (hx.2.2 t' ig uA).1
 cases h;cases h;rename_i c off len R hs;split at h;rename_i t xs hl;cases J:Α R t.size with
 |false=>simp [J] at h
 |true=>
  rw [J] at h;simp only [cond_true] at h;have hz:=bR J;obtain ⟨he,I⟩:=cT h;rw [I] at hc;obtain ⟨⟨U,h1⟩,_⟩:=hc;obtain ⟨hle,K5⟩:=hx.2.2 t xs (.inl hl);rcases K5 with ⟨K6,_⟩|⟨b,cap,arr,hg,e1,_⟩
  subst K6;exact (HV U h1).elim;subst e1;refine bF.mk he (r:= .pointer (some ⟨b,(off+n.toNat)*R,none⟩)) ?_ ⟨hx.1,b,hg,rfl⟩;simp [aaF,asIntOf,run_underlying hu,cA hs,U,h1,ca,ϑ,hz]
 cases h;cases h;cases h
theorem tE {T:Ι}{x i:bu}{e:cB}{xa J:ο}(hm:j6 g m S w)(h:jt P m T x i=some e)(U:bU e.cond)(hx:VR g m S w x xa)(hi:VR g m S w i J):
 bF P g m S w (aaF T xa J) e:=by
 unfold jt at h;split at h;rename_i e' j;injection h with h;subst h;unfold tz at j;split at j;rename_i len el c k sz R n hu;have p:J= .int R n:=by have:[J]=[Value.int R n]:=hi;simpa using this
 subst p;split at j;rename_i z hz;cases hb:Α (z/sz*sz) z with
 |false=>simp [hb] at j
 |true=>
  rw [hb] at j;simp only [cond_true] at j;have hq:=bR hb;obtain ⟨he,I⟩:=cT j;rw [I] at U;obtain ⟨⟨h0,h1⟩,_⟩:=U;obtain ⟨hp,b,hg,e1⟩:=hx;subst e1;refine bF.mk he (r:= .pointer (some ⟨b,(k+z/sz*n.toNat)*sz+0,none⟩)) ?_ ⟨hp,b,hg,rfl⟩;have e2:(k+z/sz*n.toNat)*sz=k*sz+n.toNat*z:=by
   rw [ϑ,Nat.mul_right_comm,hq,aay z]
  simp [aaF,asIntOf,run_underlying hu,cA hz,h0,h1,aat,ca,e2]
 cases j;rename_i len el c o R n hu;have p:J= .int R n:=by have:[J]=[Value.int R n]:=hi;simpa using this
 subst p;split at j;rename_i z hz;obtain ⟨he,I⟩:=cT j;rw [I] at U;obtain ⟨⟨h0,h1⟩,_⟩:=U;obtain ⟨hp,b,hg,e1⟩:=hx;subst e1;refine bF.mk he (r:= .pointer (some ⟨b,o+n.toNat*z,none⟩)) ?_ ⟨hp,b,hg,rfl⟩;simp [aaF,asIntOf,run_underlying hu,cA hz,h0,h1,aat,ca];cases j;rename_i len el t y o R n hu;have p:J= .int R n:=by have:[J]=[Value.int R n]:=hi;simpa using this
 subst p;split at j;rename_i z hz;obtain ⟨he,I⟩:=cT j;rw [I] at U;obtain ⟨⟨h0,h1⟩,_⟩:=U;obtain ⟨ad,es,e1,hS,gF,lh⟩:=hx;subst e1;refine bF.mk he (r:= .pointer (some (ad.add (o+n.toNat*z)))) ?_ ⟨ad,es,rfl,hS,gF,lh⟩;simp [aaF,asIntOf,run_underlying hu,cA hz,h0,h1,aat,add_add];cases j;cases j;exact uz hm h U hx hi
theorem uB {T:Ι}{x:bu}{f:Nat}{e:cB}{xa:ο}(h:qb P T x f=some e)(U:VR g m S w x xa):
 bF P g m S w (ab7 T xa f) e:=by
 unfold qb at h;split at h;rename_i fs hu;split at h;rename_i fd hf;split at h;rename_i c off n p;obtain ⟨hp,b,hg,I⟩:=U;subst I;refine bF.mk (bE h) (r:= .pointer (some ⟨b,off+fd.offset,none⟩)) ?_ ⟨hp,b,hg,rfl⟩;simp [ab7,run_underlying hu,hf,aat,fieldPlace,cA p,ca];rename_i t y off n p;obtain ⟨ad,es,I,hS,J,R⟩:=U;subst I;refine bF.mk (bE h) (r:= .pointer (some (ad.add (off+fd.offset)))) ?_ ⟨ad,es,rfl,hS,J,R⟩;simp [ab7,run_underlying hu,hf,aat,fieldPlace,cA p,add_add];rename_i c i sz off n p;obtain ⟨hp,b,hg,I⟩:=U;subst I;refine bF.mk (bE h) (r:= .pointer (some ⟨b,i*sz+(off+fd.offset),none⟩)) ?_ ⟨hp,b,hg,rfl⟩;simp [ab7,run_underlying hu,hf,aat,fieldPlace,cA p,ca,Ϡ];rename_i c i o j sz off n p;obtain ⟨hp,b,I,K5⟩:=U;subst I;refine bF.mk (bE h) (r:= .pointer (some ⟨b,j*sz+(off+fd.offset),none⟩)) ?_ ⟨hp,b,rfl,K5⟩;simp [ab7,run_underlying hu,hf,aat,fieldPlace,cA p,ca,Ϡ];cases h;cases h;cases h
theorem dH {k:aaC}{n:Int}{v:ο}(h:CR g m S w (.bp (.int k) n) v):v= .int k n:=by
 have:[v]=[Value.int k n]:=h;simpa using this
theorem ow {b:Bool}{v:ο}(h:CR g m S w (.bp .bool b) v):v= .bool b:=by
 have:[v]=[Value.bool b]:=h;simpa using this
theorem lj {s:List UInt8}{v:ο}(h:CR g m S w (.bp .str s) v):v= .string ⟨s.toArray⟩:=by
 have:[v]=[Value.string ⟨s.toArray⟩]:=h;simpa using this
theorem HW {x:bu}{e:cB}{xa:ο}(hm:j6 g m S w)(h:sI m x=some e)(R:VR g m S w x xa):
 ∃n:Nat,(e.new=[]/\e.kZ=[]/\e.val= .one (.bp (.int .i64) ((n:Nat):Int)))/\((∃a c,xa= .slice a n c)\/(∃s:ByteArray,xa= .string s/\s.size=n)):=by
 unfold sI at h;split at h;rename_i t p;obtain ⟨a,cap,I,_⟩:=R;exact ⟨_,bE h,.inl ⟨a,cap,by simpa using I⟩⟩;rename_i p;have:=lj (g:=g) (m:=m) (S:=S) (w:=w) R;exact ⟨_,bE h,.inr ⟨_,this,by simp [abj]⟩⟩;rename_i c;split at h;rename_i t p r;have j:=R.2.2 t p (.inl r);have T:=hm c _ r;unfold iS at j;unfold jc at T;have j:match g.f c [] with|none=>_|some b=>_:=j
 cases J:g.f c [] with
 |none=>
  rw [J] at j T;obtain ⟨a,U⟩:=j;have:p=[]:=T;subst this;exact ⟨0,bE h,.inl ⟨a,0,U⟩⟩
 |some b=>
  rw [J] at j;obtain ⟨cap,arr,I,_⟩:=j;exact ⟨_,bE h,.inl ⟨_,cap,I⟩⟩
 rename_i t p jj K3 ks r;obtain ⟨_,b,arr,J,_⟩:=hm c _ r;have j:=R.2.2 t p (.inr ⟨_,_,_,r⟩);unfold iS at j;have j:match g.f c [] with|none=>_|some b=>_:=j
 rw [J] at j;obtain ⟨cap,arr,I,_⟩:=j;exact ⟨_,bE h,.inl ⟨_,cap,I⟩⟩;cases h;rename_i c i o;split at h;rename_i t p r;split at h;rename_i e ys ab;obtain ⟨hi,aa⟩:=R.2.2 t p r;have j:=aa e ys ab;have ad:=pD hm r hi ab;unfold iS at j;cases J:g.f c [i,o] with
 |none=>
  rw [J] at j ad;obtain ⟨a,U⟩:=j;have h0:ζ ys=0:=ad;exact ⟨0,by rw [<-h0];exact bE h,.inl ⟨a,0,U⟩⟩
 |some b=>
  rw [J] at j;obtain ⟨cap,arr,I,_⟩:=j;exact ⟨_,bE h,.inl ⟨_,cap,I⟩⟩
 cases h;cases h;rename_i c off len;split at h;rename_i t p r;obtain ⟨_,aa⟩:=R.2.2 t p (.inl r);rcases aa with ⟨K6,_,a,U⟩|⟨b,cap,arr,J,I,_⟩
 subst K6;exact ⟨_,bE h,.inl ⟨a,0,U⟩⟩;exact ⟨_,bE h,.inl ⟨_,cap,I⟩⟩;cases h;obtain ⟨a,U⟩:=R;exact ⟨0,bE h,.inl ⟨a,0,U⟩⟩;cases h
def DL (P:Ξ)(T:Ι):Bool:=
 match P.underlying T with
 |some (.slice _)=>true
 |some .string=>true
 |_=>false
theorem me {T ty:Ι}{x:bu}{e:cB}{o:ο}{Ts:Array Ι}(t:j6 g m S w)(hT:DL P T=true)(h:sI m x=some e)(I:VR g m S w x o)(j:Ts[0]? =some T)(J: ∀(s:ByteArray),o= .string s->P.underlying T=some .string)(p: ∀a n c,o= .slice a n c-> ∃el,P.underlying T=some (.slice el)):
 bF P g m S w (aco Ts ty #[o]) e:=by
 obtain ⟨n,R,U⟩:=HW t h I;refine bF.mk R (r:= .int .i64 (n:Int)) ?_ rfl;rcases U with ⟨a,c,rfl⟩|⟨s,rfl,hs⟩
 obtain ⟨el,hu⟩:=p a n c rfl;simp [aco,j,run_underlying hu,goInt];simp [aco,j,run_underlying (J s rfl),goInt,hs]
theorem DM {op:ach}{k:aaC}{x y:Int}{e:cB}{T:Ι}(I:vY op=false)(h:K0 op k x y=some e)(o:bU e.cond):
 bF P g m S w (binOp op T (.int k x) (.int k y)) e:=by
 cases op<;>simp only [vY,Bool.true_eq_false] at I<;>simp only [K0,MY] at h
 case add=>exact bF.mk (bE h) (by simp [binOp,adN]) rfl
 case sub=>exact bF.mk (bE h) (by simp [binOp,adN]) rfl
 case mul=>exact bF.mk (bE h) (by simp [binOp,adN]) rfl
 case quo=>
  obtain ⟨p,j⟩:=cT h;rw [j] at o;have t: ¬y=0:=o.1;exact bF.mk p (r:= .int k (k.wrap (x.tdiv y))) (by simp [binOp,Op.intDiv,t]) rfl
 case rem=>
  obtain ⟨p,j⟩:=cT h;rw [j] at o;have t: ¬y=0:=o.1;exact bF.mk p (r:= .int k (x.tmod y)) (by simp [binOp,Op.intDiv,t]) rfl
 case eql=>exact bF.mk (bE h) (by simp [binOp,ac7]) rfl
 case neq=>exact bF.mk (bE h) (by simp [binOp,ac7]) rfl
 case lss=>exact bF.mk (bE h) (by simp [binOp,ac7]) rfl
 case leq=>exact bF.mk (bE h) (by simp [binOp,ac7]) rfl
 case gtr=>exact bF.mk (bE h) (by simp [binOp,ac7]) rfl
 case geq=>exact bF.mk (bE h) (by simp [binOp,ac7]) rfl
 case and=>exact bF.mk (bE h) (by simp [binOp,ad8]) rfl
 case or=>exact bF.mk (bE h) (by simp [binOp,ad8]) rfl
 case xor=>exact bF.mk (bE h) (by simp [binOp,ad8]) rfl
 case andNot=>exact bF.mk (bE h) (by simp [binOp,ad8]) rfl
 all_goals cases h
theorem toList_str (a:List UInt8):(⟨a.toArray⟩:ByteArray).toList=a:=by
 rw [ByteArray.toList_eq]
theorem vf {T:Ι}(j:P.underlying T=some .bool)(a b:Bool):(Op.equal T (.bool a) (.bool b)).run P w= .ok (a==b) w:=by
 have h: ∀d:Nat,(Op.equalIn (d+1) T (.bool a) (.bool b)).run P w= .ok (a==b) w:=λd=>by
  rw [Op.equalIn];simp [run_underlying j]
 exact h 9999
theorem DN {op:ach}{x y:bu}{e:cB}{T:Ι}{xa ya:ο}(h:Gs P T op x y=some e)(o:bU e.cond)(I:VR g m S w x xa)(J:VR g m S w y ya):
 bF P g m S w (binOp op T xa ya) e:=by
 unfold Gs at h;split at h
 ·rename_i k a k' b;have p:=dH (g:=g) (m:=m) (S:=S) (w:=w) I;have t:=dH (g:=g) (m:=m) (S:=S) (w:=w) J;subst p;subst t;split at h
  ·rename_i R;cases op<;>simp only [vY,acd] at R<;>simp only [DG] at h
   all_goals
    obtain ⟨U,j⟩:=cT h;rw [j] at o;have h0: ¬b<0:=UA o.1;exact bF.mk U (by simp [binOp,Op.shift,h0]) rfl
  rename_i R;split at h;rename_i hk;subst hk;exact DM (by simpa using R) h o;cases h
 rename_i a b;have p:=lj (g:=g) (m:=m) (S:=S) (w:=w) I;have t:=lj (g:=g) (m:=m) (S:=S) (w:=w) J;subst p;subst t;unfold NY at h;split at h;exact bF.mk (bE h) (r:= .bool (a==b)) (by simp [binOp,adO,toList_str]) rfl;exact bF.mk (bE h) (r:= .bool (a != b)) (by simp [binOp,adO,toList_str,bne]) rfl;obtain ⟨U,j⟩:=cT h;rw [j] at o;have h0:a.length+b.length<=bl:=o.1;refine bF.mk U (r:= .string ⟨(a++b).toArray⟩) ?_ rfl;have h1: ¬(((⟨a.toArray⟩:ByteArray).size+(⟨b.toArray⟩:ByteArray).size:Nat):Int)>IntKind.i64.max:=by
  simp only [abj,abk];unfold bl at h0;have:IntKind.i64.max=9223372036854775807:=by decide
  rw [this];omega
 simp only [binOp,adO];rw [if_neg h1];simp [ByteArray.append_eq,aer];exact bF.mk (bE h) (r:= .bool (ahv a b)) (by simp [binOp,adO,toList_str]) rfl;cases h;rename_i a b;have p:=ow (g:=g) (m:=m) (S:=S) (w:=w) I;have t:=ow (g:=g) (m:=m) (S:=S) (w:=w) J;subst p;subst t;split at h;rename_i hu;exact bF.mk (bE h) (r:= .bool (a==b)) (by simp only [binOp];simp [vf hu]) rfl;rename_i hu;exact bF.mk (bE h) (r:= .bool (a != b)) (by simp only [binOp];simp [vf hu,bne]) rfl;cases h;cases h
end
end Go.Ide
namespace Go.Ide
section
variable {P:Ξ} {g:GM} {m:Mem} {S:Nat->Prop} {w:Ε}
def OR (g:GM)(m:Mem)(S:Nat->Prop)(w:Ε):Option bu->Option ο->Prop
 |none,none=>True
 |some v,some u=>VR g m S w v u
 |_,_=>False
theorem rF {p:Option bu}{j:Option ο}{l:Int}(h:MX p=some l)(o:OR g m S w p j):(j=none/\l=0)\/ ∃k,j=some (.int k l):=by
 unfold MX at h;split at h;cases j with
 |none=>injection h with h;exact .inl ⟨rfl,h.symm⟩
 |some=>exact o.elim
 rename_i k n;cases j with
 |none=>exact o.elim
 |some v=>
  injection h with h;subst h;exact .inr ⟨k,by rw [dH (g:=g) (m:=m) (S:=S) (w:=w) o]⟩
 cases h
theorem tF {r:Option bu}{o:Option ο}{len:Nat}{h:Int}(j:NW len r=some h)(p:OR g m S w r o):(o=none/\h=len)\/ ∃k,o=some (.int k h):=by
 unfold NW at j;split at j;cases o with
 |none=>injection j with j;exact .inl ⟨rfl,j.symm⟩
 |some=>exact p.elim
 rename_i k n;cases o with
 |none=>exact p.elim
 |some v=>
  injection j with j;subst j;exact .inr ⟨k,by rw [dH (g:=g) (m:=m) (S:=S) (w:=w) p]⟩
 cases j
theorem wI {j o:Option ο}{l h:Int}{len cap:Nat}{b:Bool}(J:(j=none/\l=0)\/ ∃k,j=some (.int k l))(R:(o=none/\h=len)\/ ∃k,o=some (.int k h))(p:0<=l)(T:l<=h)(U:h<=(len:Int))(h3:len<=cap):(aaM b len cap j o none).run P w= .ok (l.toNat,h.toNat,cap) w:=by
 have e1:l<=((h.toNat:Nat):Int):=by omega
 have r:h<=(cap:Int):=by omega
 have t:0<=h:=by omega
 have e4: ¬(max h 0<l):=by omega
 rcases J with ⟨rfl,rfl⟩|⟨k,rfl⟩<;>rcases R with ⟨rfl,I⟩|⟨k',rfl⟩
 subst I;simp [aaM];simp [aaM,acv,asIntOf,t,r];subst I;simp [aaM,acv,asIntOf,p,T];simp [aaM,acv,asIntOf,p,r,t,e4]
theorem rG (off:Nat): ∀(vs:List ο) (k:Nat) (arr:Array ο),off+k+vs.length<=arr.size->
 ((vs.zipIdx k).foldl (λcs (p:ο×Nat)=>cs.setIfInBounds (off+p.2) p.1) arr).toList=arr.toList.take (off+k)++vs++arr.toList.drop (off+k+vs.length)
 |[],k,arr,h=>by simp
 |v::vs,k,arr,h=>by
  simp only [List.zipIdx_cons,List.foldl_cons];simp only [Ζ] at h;rw [rG off vs (k+1) _ (by simp;omega)];have j:off+k<arr.toList.length:=by simp;omega
  simp only [adP,Ζ];rw [aeX (by omega),show off+(k+1)=off+k+1 from by omega,agC,adm j,
   aeF _ _ (by simp;omega)]
  simp [show off+k+1+vs.length=off+k+(vs.length+1) from by omega,aav (ahh (show off+k<arr.size by simpa using j))]
theorem tG (place:Nat->Option (Nat×Nat)): ∀{parts:List (Nat×bu)} {vparts:List (Nat×ο)} {o r:List bs} {arr:Array ο},
 wA place o parts=some r->bN (CR g m S w) o arr.toList->bN (λ(p:Nat×bu) (q:Nat×ο)=>p.1=q.1/\VR g m S w p.2 q.2) parts vparts->
 ∃t,aa1 place arr vparts=some t/\bN (CR g m S w) r t.toList
 |[],[],o,r,arr,h,hc,_=>by
  simp only [wA] at h;injection h with h;subst h
  exact ⟨arr,rfl,hc⟩
 |(i,v)::parts,(j,u)::vparts,o,r,arr,h,hc,hp=>by
  obtain ⟨⟨I,hv⟩,J⟩:=hp;have I:i=j:=I;subst I;simp only [wA] at h;cases R:place i with
  |none=>simp [R] at h
  |some p=>
   obtain ⟨off,size⟩:=p;simp only [R] at h;cases U:((v.cells.length.beq size&&(off+v.cells.length).ble o.length)&&v.ok) with
   |false=>simp [U] at h
   |true=>
    rw [U] at h;simp only [cond_true] at h;simp only [κ] at U;have h1:=bR U.1.1;have h2:=iU U.1.2;obtain ⟨vs,hu,so⟩:=jH U.2 hv;have hlen:=so.length;have UB:=hc.length;simp only [Ψ] at UB;have YS:u.cells.size=vs.length:=by rw [<-Ψ,hu]
    have T:(u.cells.zipIdx.foldl (λcs (p:ο×Nat)=>cs.setIfInBounds (off+p.2) p.1) arr).toList=arr.toList.take off++vs++arr.toList.drop (off+vs.length):=by
     have:=rG off vs 0 arr (by omega);rw [<-aeY,aeP,hu];simpa using this
    have HQ:bN (CR g m S w) (o.take off++v.cells++o.drop (off+v.cells.length)) (u.cells.zipIdx.foldl (λcs (p:ο×Nat)=>cs.setIfInBounds (off+p.2) p.1) arr).toList:=by
     rw [T,<-hlen];exact ((hc.take off).append so).append (hc.drop _)
    obtain ⟨t,e1,e2⟩:=tG place h HQ J;refine ⟨t,?_,e2⟩;simp only [aa1,R];rw [if_neg (by simp;omega)];exact e1
 |[],_::_,_,_,_,_,_,hp=>hp.elim
 |_::_,[],_,_,_,_,_,hp=>hp.elim
theorem DO {α:Type}{xs:List α}{l h:Int}(j:0<=l)(o:l<=h)(p:h<=(xs.length:Int)):(cut xs l h).length=h.toNat - l.toNat:=by
 unfold cut;simp;omega
theorem Fx {α:Type}{xs:List α}{l h:Int}{i:Nat}(j:i<(cut xs l h).length)(o:l.toNat+i<xs.length):(cut xs l h)[i]=xs[l.toNat+i]:=by
 have p:i<h.toNat - l.toNat:=by have:=j;simp [cut] at this;omega
 have e:(cut xs l h)[i]? =xs[l.toNat+i]? :=by
  unfold cut;rw [ϐ,if_pos p,aaJ]
 rw [Γ j,Γ o] at e;exact ahz e
theorem jI {T el:Ι}{k:Nat}(p:P.underlying T=some (.slice el))(r:cX P el=some k){a:Option abI}{len cap:Nat}{j o:Option ο}{l h:Int}(t:(j=none/\l=0)\/ ∃k,j=some (.int k l))(I:(o=none/\h=len)\/ ∃k,o=some (.int k h))(J:0<=l)(R:l<=h)(U:h<=(len:Int))(h3:len<=cap):
 (acp T (.slice a len cap) j o none).run P w= .ok (.slice (if cap=l.toNat then a else a.map (·.add (l.toNat*k))) (h.toNat - l.toNat) (cap - l.toNat)) w:=by
 simp [acp,agW,run_underlying p,wI t I J R U h3,cA r]
theorem Ad {T:Ι}{x:bu}{lo hi:Option bu}{e:cB}{xa:ο}{lv hv:Option ο}(hm:j6 g m S w)(h:sK P m T x lo hi=some e)(hc:bU e.cond)(hx:VR g m S w x xa)(N5:OR g m S w lo lv)(M0:OR g m S w hi hv):bF P g m S w (acp T xa lv hv none) e:=by
 unfold sK at h;split at h;rename_i xs hu;split at h;rename_i l h' hl hh;obtain ⟨he,aa⟩:=cT h;rw [aa] at hc;obtain ⟨⟨h0,h1,h2⟩,_⟩:=hc;have K4:=lj (g:=g) (m:=m) (S:=S) (w:=w) hx;subst K4;have I:=rF hl N5;have J:=tF hh M0;refine bF.mk he (r:= .string ⟨(cut xs l h').toArray⟩) ?_ rfl;have nu:(⟨xs.toArray⟩:ByteArray).size=ζ xs:=by simp [abj]
 have hb:=wI (P:=P) (w:=w) (b:=false) (len:=(⟨xs.toArray⟩:ByteArray).size) (cap:=(⟨xs.toArray⟩:ByteArray).size) I (by rw [nu];exact J) h0 h1 (by rw [nu];exact h2) (φ _);simp only [acp,agW,Ϙ,run_underlying hu,ϋ,hb];simp [hb,cut,aer];cases h;rename_i el hu;split at h;rename_i l h' hl hh;cases hb:(cX P el).isSome with
 |false=>simp [hb] at h
 |true=>
  rw [hb] at h;simp only [cond_true] at h;obtain ⟨sz,hs⟩:=abl.1 hb;obtain ⟨he,aa⟩:=cT h;rw [aa] at hc;obtain ⟨⟨h0,h1,h2⟩,_⟩:=hc;obtain ⟨a,e1⟩:=hx;subst e1;have I:=rF hl N5;have J:=tF hh M0;have p:l=0:=agj (aeG h1 h2) h0;have Rc:h'=0:=agj h2 (aeG h0 h1);subst p;subst Rc;exact bF.mk he (jI (cap:=0) hu hs I J h0 h1 (Int.le_refl _) (φ _)) ⟨a,by simp⟩
 cases h;rename_i el t xs hu;split at h;rename_i l h' hl hh;cases hb:(cX P el==some t.size) with
 |false=>simp [hb] at h
 |true=>
  rw [hb] at h;simp only [cond_true] at h;have hs:cX P el=some t.size:=by simpa using hb
  obtain ⟨he,aa⟩:=cT h;rw [aa] at hc;obtain ⟨⟨h0,h1,h2⟩,_⟩:=hc;obtain ⟨a,cap,e1,hcap,qU⟩:=hx;have K4:xa= .slice a (ζ xs) cap:=by simpa using e1
  subst K4;have I:=rF hl N5;have J:=tF hh M0;have hlen:=DO (xs:=xs) h0 h1 h2;refine bF.mk he (jI hu hs I J h0 h1 h2 hcap) ?_;refine ⟨if cap=l.toNat then a else a.map (·.add (l.toNat*t.size)),cap - l.toNat,by rw [hlen],by rw [hlen];omega,λi hi=> ?_⟩;have BK:i<h'.toNat - l.toNat:=by rw [hlen] at hi;exact hi
  have hj:l.toNat+i<ζ xs:=by omega
  obtain ⟨ad,es,ea,hS,gF,lh⟩:=qU (l.toNat+i) hj;subst ea;refine ⟨ad.add (l.toNat*t.size),es,by rw [if_neg (by omega)];rfl,by rw [fm];exact hS,λj u hu=> ?_,?_⟩;rw [add_add,<-Ϡ,<-ϑ];exact gF j u hu;rw [Fx hi hj];exact lh
 cases h;rename_i el c hu;split at h;rename_i t xs U;split at h;rename_i l h' hl hh;cases hb:(cX P el==some t.size) with
 |false=>simp [hb] at h
 |true=>
  rw [hb] at h;simp only [cond_true] at h;have hs:cX P el=some t.size:=by simpa using hb
  obtain ⟨he,aa⟩:=cT h;rw [aa] at hc;obtain ⟨⟨h0,h1,h2⟩,_⟩:=hc;have I:=rF hl N5;have J:=tF hh M0;have gx:=hx.2.2 t xs (.inl U);unfold iS at gx;cases hg:g c with
  |none=>
   rw [hg] at gx;obtain ⟨a,ha⟩:=gx;subst ha;have je:=hm c _ U;unfold jc at je;have om:g.f c []=none:=hg;rw [om] at je;have:xs=[]:=je;subst this;have p:l=0:=by simp at h2;omega
   have Rc:h'=0:=by simp at h2;omega
   subst p;subst Rc;refine bF.mk he (jI (cap:=0) hu hs I J h0 h1 h2 (φ _)) ⟨hx.1,rfl,λt' ig o=> ?_⟩;exact ⟨by simp,.inl ⟨by simp,λ_=>hg,a,by simp⟩⟩
  |some b=>
   rw [hg] at gx;obtain ⟨cap,arr,e1,hcap,oY,kY,Ae⟩:=gx;subst e1;refine bF.mk he (jI hu hs I J h0 h1 h2 hcap) ⟨hx.1,rfl,λt' ig o=> ?_⟩;have o:=du.toSeq U o;rw [U] at o;injection o with o;injection o with ht R;subst ht;have R:=eq_of_heq R;subst R;refine ⟨by omega,?_⟩;by_cases mZ:cap=l.toNat;by_cases p:l.toNat=0;right;refine ⟨b,0,arr,hg,?_,by omega,oY,by rw [p];simp,by omega⟩;rw [if_pos mZ,p,aaY]
   congr 1<;>omega
   left;refine ⟨by omega,λhz=>absurd hz p,some ⟨b,0,none⟩,?_⟩;rw [if_pos mZ]
   congr 1<;>omega
   right;refine ⟨b,cap - l.toNat,arr,hg,?_,by omega,oY,by rw [show l.toNat+(cap - l.toNat)=cap from by omega];exact kY,by omega⟩;rw [if_neg mZ];simp [ca]
 cases h;cases h;rename_i el c off len hu;split at h;rename_i t xs U;split at h;rename_i l h' hl hh;cases hb:(cX P el==some t.size) with
 |false=>simp [hb] at h
 |true=>
  rw [hb] at h;simp only [cond_true] at h;have hs:cX P el=some t.size:=by simpa using hb
  obtain ⟨he,aa⟩:=cT h;rw [aa] at hc;obtain ⟨⟨h0,h1,h2⟩,_⟩:=hc;have I:=rF hl N5;have J:=tF hh M0;obtain ⟨hle,K5⟩:=hx.2.2 t xs (.inl U);rcases K5 with ⟨K6,UC,a,ha⟩|⟨b,cap,arr,hg,e1,hcap,oY,kY,Ae⟩
  subst ha;subst K6;have p:l=0:=by omega
  have Rc:h'=0:=by omega
  subst p;subst Rc;refine bF.mk he (jI (cap:=0) hu hs I J h0 h1 h2 (φ _)) ⟨hx.1,rfl,λt' ig o=> ?_⟩;have o:=du.toSeq U o;rw [U] at o;injection o with o;injection o with ht R;subst ht;have R:=eq_of_heq R;subst R;exact ⟨by simp;omega,.inl ⟨by simp,λhz=>UC (by simpa using hz),a,by simp⟩⟩;subst e1;refine bF.mk he (jI hu hs I J h0 h1 h2 hcap) ⟨hx.1,rfl,λt' ig o=> ?_⟩;have o:=du.toSeq U o;rw [U] at o;injection o with o;injection o with ht R;subst ht;have R:=eq_of_heq R;subst R;refine ⟨by omega,?_⟩;by_cases mZ:cap=l.toNat;by_cases p:off+l.toNat=0;right;have UD:off=0:=by omega
  have M1:l.toNat=0:=by omega
  refine ⟨b,0,arr,hg,?_,by omega,oY,by rw [p];simp,by omega⟩;rw [if_pos mZ,UD,M1];simp only [aaY,ϧ]
  congr 1<;>omega
  left;refine ⟨by omega,λhz=>absurd hz p,some ⟨b,off*t.size,none⟩,?_⟩;rw [if_pos mZ]
  congr 1<;>omega
  right;refine ⟨b,cap - l.toNat,arr,hg,?_,by omega,oY,by rw [show off+l.toNat+(cap - l.toNat)=off+cap from by omega];exact kY,by omega⟩;rw [if_neg mZ];simp [ca,ϑ]
 cases h;cases h;cases h
end
end Go.Ide
namespace Go.Ide
section
variable {P:Ξ} {g:GM} {m:Mem} {S:Nat->Prop} {w:Ε}
theorem wJ: ∀{fs:List Field} {j:List (Nat×Nat)},rC P fs=some j->fs.mapM (λf=>(P.info? f.type).map λi=>(f.offset,i.size))=some j
 |[],j,h=>by simp only [rC] at h;injection h with h;subst h;rfl
 |f::fs,j,h=>by
  simp only [rC,cX] at h;cases o:P.info? f.type with
  |none=>simp [o] at h
  |some i=>
   simp only [o,Option.map_some] at h;cases p:rC P fs with
   |none=>simp [p] at h
   |some l=>
    simp only [p] at h;injection h with h;subst h;simp [List.mapM_cons,o,wJ p]
theorem ky (z:ο)(j:(nP z).ok=true):bN (CR g m S w) (nP z).cells z.cells.toList:=by
 obtain ⟨o,e,h⟩:=jH j (qd (g:=g) (m:=m) (S:=S) (w:=w) z);rw [e];exact h
theorem Af {T:Ι}{parts:List (Nat×bu)}{vparts:Array (Nat×ο)}{e:cB}(h:DE P T parts=some e)(hp:bN (λ(p:Nat×bu) (q:Nat×ο)=>p.1=q.1/\VR g m S w p.2 q.2) parts vparts.toList):bF P g m S w (Instr.build T vparts) e:=by
 unfold DE at h;split at h;rename_i i fs J R;split at h;rename_i z pl U aa;cases r:(nP z).ok with
 |false=>simp [r] at h
 |true=>
  simp only [r,cond_true] at h;split at h;rename_i cs hf;obtain ⟨o,h1,h2⟩:=tG (λj=>pl[j]?) hf (ky (g:=g) (m:=m) (S:=S) (w:=w) z r) hp;refine bF.mk (bE h) (run_build w T vparts o ?_) ⟨o.toList,by simp,h2⟩;unfold afN;simp only [J,R,U,wJ aa];simpa using h1;cases h
 cases h;rename_i i len el J R;split at h;rename_i z n U I;cases r:(nP z).ok with
 |false=>simp [r] at h
 |true=>
  simp only [r,cond_true] at h;split at h;rename_i cs hf;obtain ⟨o,h1,h2⟩:=tG (λj=>some (j*n,n)) hf (ky (g:=g) (m:=m) (S:=S) (w:=w) z r) hp;refine bF.mk (bE h) (run_build w T vparts o ?_) ⟨o.toList,by simp,h2⟩;unfold cX at I;cases t:P.info? el with
  |none=>simp [t] at I
  |some ie=>
   simp [t] at I;unfold afN;simp only [J,R,U,t,I];simpa using h1
  cases h
 cases h;cases h
theorem Gu {op:UnOp}{x:bu}{e:cB}{j:ο}(h:TL op x=some e)(o:VR g m S w x j):bF P g m S w (agY op j) e:=by
 unfold TL at h;split at h;rename_i b;have:=ow (g:=g) (m:=m) (S:=S) (w:=w) o;subst this;exact bF.mk (bE h) (r:= .bool (!b)) (by simp [agY]) rfl;rename_i k n;have:=dH (g:=g) (m:=m) (S:=S) (w:=w) o;subst this;exact bF.mk (bE h) (r:= .int k (k.wrap (0 - n))) (by simp [agY,adN]) rfl;cases h
theorem wK {T U:Ι}{x:bu}{e:cB}{p:ο}(h:wB P T U x=some e)(t:VR g m S w x p):bF P g m S w (convert T U p) e:=by
 unfold wB at h;split at h;rename_i I k J n j o;have:=dH (g:=g) (m:=m) (S:=S) (w:=w) t;subst this;exact bF.mk (bE h) (r:= .int k (k.wrap n)) (by simp [convert,run_underlying j,run_underlying o,Conv.intToInt]) rfl;rename_i s j o;have:=lj (g:=g) (m:=m) (S:=S) (w:=w) t;subst this;exact bF.mk (bE h) (r:= .string ⟨List.toArray s⟩) (by simp [convert,run_underlying j,run_underlying o]) rfl;cases h
theorem wL {x:bu}{i:Nat}{e:cB}{t:ο}(h:tB x i=some e)(I:VR g m S w x t):bF P g m S w (agl t i) e:=by
 unfold tB at h;split at h;rename_i T;split at h;rename_i U cs ht;split at h;rename_i v j;obtain ⟨vs,J,p⟩:=I;subst J;obtain ⟨u,R,o⟩:=p.get i _ ht;refine bF.mk (bE h) (r:=u) (by simp [agl,R]) ?_;unfold MW at j;unfold CV at o;split at j;injection j with j;subst j;exact o;injection j with j;subst j;exact o;cases j;cases h;cases h;cases h
theorem DP {x y:bu}{e:cB}{j o:ο}{Ts:Array Ι}{T:Ι}(h:NZ x y=some e)(p:VR g m S w x j)(t:VR g m S w y o):bF P g m S w (acq Ts T #[j,o]) e:=by
 unfold NZ at h;split at h;rename_i k a U b;split at h;rename_i I;subst I;have J:=dH (g:=g) (m:=m) (S:=S) (w:=w) p;have R:=dH (g:=g) (m:=m) (S:=S) (w:=w) t;subst J;subst R;exact bF.mk (bE h) (r:= .int k (if b<a then b else a)) (by simp [acq,Builtin.min2]) rfl;cases h;cases h
theorem DQ {x y:bu}{e:cB}{j o:ο}{Ts:Array Ι}{T:Ι}(h:N0 x y=some e)(p:VR g m S w x j)(t:VR g m S w y o):bF P g m S w (ad9 Ts T #[j,o]) e:=by
 unfold N0 at h;split at h;rename_i k a U b;split at h;rename_i I;subst I;have J:=dH (g:=g) (m:=m) (S:=S) (w:=w) p;have R:=dH (g:=g) (m:=m) (S:=S) (w:=w) t;subst J;subst R;exact bF.mk (bE h) (r:= .int k (if b>a then b else a)) (by simp [ad9,Builtin.max2]) rfl;cases h;cases h
end
section
variable {cx:Cx} {g:GM} {st:St} {a:Act} {w:Ε}
def oT (cx:Cx)(st:St)(a:Act)(e:cB)(val:ο)(w':Ε):Prop:=
 ∃g',cG cx g' (st.iT (e.kZ++e.new++st.mem) (st.nx+e.new.length)) a w'/\VR g' (e.kZ++e.new++st.mem) (cx.safe g' (e.kZ++e.new++st.mem) w') w' e.val val
def fP (cx:Cx)(st:St)(a:Act)(w:Ε)(s:Sem ο)(e:cB):Prop:=
 ∃val w',s.run cx.P w= .ok val w'/\oT cx st a e val w'
theorem bF.runs {s:Sem ο}{e:cB}(h:cG cx g st a w)(p:bF cx.P g st.mem (cx.safe g st.mem w) w s e):fP cx st a w s e:=by
 obtain ⟨j,o,r,t,I⟩:=p;refine ⟨r,w,t,g,?_,?_⟩;rw [j,o];exact h;rw [j,o];exact I
theorem oT.new {e:cB}{ch:Chunk}{arr:Array ο}{val:ο}{w':Ε}(h:cG cx g st a w)(p:fe st.mem e.new)(j:e.new=[(st.nx,ch)]/\e.kZ=[])(r:bJ [] w w')(t:dm w' w.heap.size arr)(I: ∀g':GM,(∀k,lk k st.mem≠none->g'.f k=g.f k)->g'.f st.nx=pC (some w.heap.size)-> ∀S',(∀b,cx.safe g st.mem w b->S' b)->jc g' ((st.nx,ch)::st.mem) S' w' (pC (some w.heap.size)) ch)(J: ∀g':GM,g' st.nx=some w.heap.size-> ∀S',VR g' ((st.nx,ch)::st.mem) S' w' e.val val):oT cx st a e val w':=by
 obtain ⟨g',o,R,_⟩:=h.new (p (st.nx,ch) (by rw [j.1];simp)) r t I;refine ⟨g',?_,?_⟩;rw [j.1,j.2];exact R;rw [j.1,j.2];exact J g' (by show g'.f st.nx []=_;rw [o];rfl) _
theorem Gv {ch:Chunk}{g':GM}{S':Nat->Prop}{w':Ε}(R:lk st.nx st.mem=none)(T:bJ [] w w')(hg: ∀k,lk k st.mem≠none->g'.f k=g.f k)(hS: ∀b,cx.safe g st.mem w b->S' b):
 iG g g' st.mem ((st.nx,ch)::st.mem) (cx.safe g st.mem w) S' w w':=by
 have r: ∀c,lk c st.mem≠none->lk c ((st.nx,ch)::st.mem)=lk c st.mem:=λc j=>by
  rw [bB,if_neg (λe=>j (by rw [e];exact R))]
 refine ⟨⟨λb p=>⟨hS b p,T.block b p.1 (by simp)⟩,λc j=>⟨by rw [r c j];exact j,congrFun (hg c j) []⟩,λc t J j I=>⟨J,by unfold du at I⊢;rw [<-r c j];exact I,rfl⟩,λc t J b arr j I U p=>⟨arr,p.bt (T.block b p.lt (by simp)),rfl⟩⟩,
  hg,λc t J j I=>⟨J,by rw [<-r c j];exact I,cy.refl _ _,λi o b arr U p=>⟨arr,p.bt (T.block b p.lt (by simp)),rfl⟩⟩⟩
theorem DR {v:bu}{e:cB}{p:ο}{T:Ι}(h:cG cx g st a w)(hw:fe st.mem e.new)(j:KZ st.nx v=some e)(hv:VR g st.mem (cx.safe g st.mem w) w v p):fP cx st a w (adv T p) e:=by
 have key: ∀cs:List bs,v.ok=true->v.cells=cs->e=⟨.one (.ptr st.nx 0),[(st.nx,.box cs)],[],[]⟩->fP cx st a w (adv T p) e:=by
  intro cs I J R;obtain ⟨vs,U,r⟩:=jH I hv;subst R;refine ⟨.pointer (some ⟨w.heap.size,0,none⟩),w.alloc (.cells p.cells T),by simp [adv,newVar,newRow],?_⟩;refine oT.new h hw ⟨rfl,rfl⟩ (bJ.alloc _ _ _) (dm.new w _ T) (λg' hg t S' hS=> ?_) (λg' t S'=>⟨by simp [bB],w.heap.size,t,rfl⟩);refine ⟨w.heap.size,p.cells,rfl,dm.new w _ T,?_⟩;rw [U,<-J];exact r.mono λ_ _=>CR.stays (Gv (hw (st.nx,.box cs) (by simp)) (bJ.alloc _ _ _) hg hS)
 cases v with
 |one c=>
  simp only [KZ] at j;cases o:c.ok with
  |false=>simp [o] at j
  |true=>
   simp only [o,cond_true] at j;injection j with j;exact key [c] o rfl j.symm
 |agg cs=>
  simp only [KZ] at j;cases o:cs.all bs.ok with
  |false=>simp [o] at j
  |true=>
   simp only [o,cond_true] at j;injection j with j;exact key cs o rfl j.symm
 |Ab=>cases j
 |BO=>cases j
 |dE=>cases j
theorem Ag {T:Ι}{e:cB}(h:cG cx g st a w)(r:fe st.mem e.new)(j:DD cx.P st.nx T=some e):fP cx st a w (acV T true (.tuple #[])) e:=by
 unfold DD at j;split at j;rename_i i t;split at j;rename_i z I;cases o:(nP z).ok with
 |false=>simp [o] at j
 |true=>
  simp only [o,cond_true] at j;injection j with j;subst j;refine ⟨.pointer (some ⟨w.heap.size,0,none⟩),w.alloc (.cells z.cells T),by simp [acV,zeroValue,typeInfo,t,I,newVar,newRow],?_⟩;refine oT.new h r ⟨rfl,rfl⟩ (bJ.alloc _ _ _) (dm.new w _ T) (λg' J p S' R=> ?_) (λg' p S'=>⟨by simp [bB],w.heap.size,p,rfl⟩);exact ⟨w.heap.size,z.cells,rfl,dm.new w _ T,ky z o⟩
 cases j;cases j
def HX (nx:Nat)(t:Ty)(v:bu):Option cB:=
 bif v.ok&&t.top then (match impl [] t v.cells with
  |some (x,[])=>some ⟨.one (.cZ nx 0 t.size 0),[(nx,.seq t [x])],[],[]⟩
  |_=>none) else none
theorem BS {v:bu}{t:Ty}{e:cB}{J:ο}{T:Ι}(h:cG cx g st a w)(hw:fe st.mem e.new)(p:HX st.nx t v=some e)(R:VR g st.mem (cx.safe g st.mem w) w v J):fP cx st a w (adv T J) e:=by
 unfold HX at p;cases o:(v.ok&&t.top) with
 |false=>rw [o] at p;cases p
 |true=>
  rw [o] at p;simp only [cond_true] at p;simp only [κ] at o;split at p;rename_i x hx;injection p with p;subst p;obtain ⟨vs,U,r⟩:=jH o.1 R;refine ⟨.pointer (some ⟨w.heap.size,0,none⟩),w.alloc (.cells J.cells T),by simp [adv,newVar,newRow],?_⟩;refine oT.new h hw ⟨rfl,rfl⟩ (bJ.alloc _ _ _) (dm.new w _ T) (λg' hg I S' hS=> ?_) (λg' I S'=>⟨by simp [bB],w.heap.size,I,by simp⟩);refine ⟨J.cells,dm.new w _ T,eI.k9 o.2 λi hi=> ?_⟩;have aa:i=0:=by simp at hi;exact hi
  subst aa;obtain ⟨v1,v2,e1,r1,r2⟩:=ju (S2:=cx.safe g st.mem w) (λ_ h=>h) ij.nil t hx r;have:v2=[]:=by cases v2 with|nil=>rfl|cons=>exact r2.elim
  subst this;rw [ϴ] at e1;refine ⟨vs,λj v R=> ?_,by rw [e1];exact bT.bt (λb hb=>⟨hS b hb,aao w _ b hb.1⟩) t v1 x r1⟩;rw [aaY,Υ,<-ϥ,U];exact R;cases p
def Ah (P:Ξ)(nx:Nat)(T:Ι)(t:Ty):Option cB:=
 match P.info? T with
 |some i=>(match i.zero with
  |some z=>bif (nP z).ok&&t.top then (match impl [] t (nP z).cells with
   |some (x,[])=>some ⟨.one (.cZ nx 0 t.size 0),[(nx,.seq t [x])],[],[]⟩
   |_=>none) else none
  |none=>none)
 |none=>none
theorem yM {T:Ι}{t:Ty}{e:cB}(h:cG cx g st a w)(hw:fe st.mem e.new)(o:Ah cx.P st.nx T t=some e):fP cx st a w (acV T true (.tuple #[])) e:=by
 unfold Ah at o;split at o;rename_i i I;split at o;rename_i z hz;cases p:((nP z).ok&&t.top) with
 |false=>rw [p] at o;cases o
 |true=>
  rw [p] at o;simp only [cond_true] at o;simp only [κ] at p;split at o;rename_i x hx;injection o with o;subst o;refine ⟨.pointer (some ⟨w.heap.size,0,none⟩),w.alloc (.cells z.cells T),by simp [acV,zeroValue,typeInfo,I,hz,newVar,newRow],?_⟩;refine oT.new h hw ⟨rfl,rfl⟩ (bJ.alloc _ _ _) (dm.new w _ T) (λg' hg r S' hS=> ?_) (λg' r S'=>⟨by simp [bB],w.heap.size,r,by simp⟩);refine ⟨z.cells,dm.new w _ T,eI.k9 p.2 λi I=> ?_⟩;have J:i=0:=by simp at I;exact I
  subst J;obtain ⟨v1,R,U,r1,r2⟩:=ju (g:=⟨λ_ _=>none⟩) (m:=[]) (S:=S') (S2:=S') (w:=w.alloc (.cells z.cells T)) (λ_ h=>h) ij.nil t hx (ky z p.1);have:R=[]:=by cases R with|nil=>rfl|cons=>exact r2.elim
  subst this;rw [ϴ] at U;refine ⟨z.cells.toList,λj v hv=> ?_,by rw [U];exact r1⟩;rw [aaY,Υ,<-ϥ];exact hv;cases o
 cases o;cases o
end
end Go.Ide
namespace Go.Ide
theorem Ty.size_pos: ∀(t:Ty),0<t.size
 | .int _=>aar
 | .dB _=>aar
 | .bool=>aar
 | .str=>aar
 | .sl _=>aar
 | .bx _=>aar
 | .cl _ _=>aar
 | .own _=>aar
 | .pair a _=>ϖ (Ty.size_pos a) (Nat.le_add_right _ _)
 | .st t=>Ty.size_pos t
theorem Ai {sz:Nat}{Q:Nat->List ο->Prop}: ∀(n:Nat),(∀i,i<n-> ∃es,es.length=sz/\Q i es)->
 ∃l:List ο,l.length=n*sz/\ ∀i,i<n-> ∃es,es.length=sz/\Q i es/\ ∀j,j<sz->l[i*sz+j]? =es[j]?
 |0,_=>⟨[],by simp,λi t=>by omega⟩
 |n+1,h=>by
  obtain ⟨l,I,T⟩:=Ai n λi t=>h i (by omega);obtain ⟨es,J,o⟩:=h n (by omega);refine ⟨l++es,by simp [I,J,ϑ],λi t=> ?_⟩;by_cases p:i=n;subst p;refine ⟨es,J,o,λj R=> ?_⟩;rw [Κ (by omega)]
  congr 1
  omega;obtain ⟨r,U,h2,h3⟩:=T i (by omega);refine ⟨r,U,h2,λj R=> ?_⟩;rw [Μ];exact h3 j R;rw [I];have:(i+1)*sz<=n*sz:=Ρ _ (by omega);rw [ϑ] at this;omega
section
variable {P:Ξ} {g:GM} {m:Mem} {S S2:Nat->Prop} {w:Ε}
def dV (S:Nat->Prop)(w:Ε)(t:Ty)(xs:List t.D)(l:List ο):Prop:=
 ∀i (h:i<xs.length),∃es,(∀j,j<t.size->l[i*t.size+j]? =es[j]?)/\bT S w t es xs[i]
theorem dV.toR {t:Ty}{xs:List t.D}{arr:Array ο}(h:dV S w t xs arr.toList):BP S w t xs arr:=λi r=>by
 obtain ⟨es,I,o⟩:=h i r;refine ⟨es,λj v p=> ?_,o⟩;have J:j<t.size:=by rw [<-bT.len t es _ o];exact (ψ.1 p).1
 rw [<-ϥ,I j J];exact p
theorem BP.toL {t:Ty}{xs:List t.D}{arr:Array ο}(h:BP S w t xs arr):dV S w t xs arr.toList:=λi r=>by
 obtain ⟨es,I,p⟩:=h i r;refine ⟨es,λj J=> ?_,p⟩;have o:j<es.length:=by rw [bT.len t es _ p];exact J
 rw [ϥ,I j es[j] (Γ o)];rw [Γ o]
theorem dV.app {t:Ty}{xs ys:List t.D}{o p rest:List ο}(h1:dV S w t xs o)(hl:o.length=xs.length*t.size)(h2:dV S w t ys p)(UE:p.length=ys.length*t.size):
 dV S w t (xs++ys) (o++p++rest):=λi hi=>by
 by_cases T:i<xs.length;obtain ⟨es,r,I⟩:=h1 i T;refine ⟨es,λj J=> ?_,by rw [List.getElem_append_left T];exact I⟩;have:(i+1)*t.size<=xs.length*t.size:=Ρ _ (by omega);rw [ϑ] at this;rw [ό,Μ (by omega)];exact r j J;have R:i - xs.length<ys.length:=by rw [ω] at hi;omega
 obtain ⟨es,r,I⟩:=h2 (i - xs.length) R;refine ⟨es,λj J=> ?_,by rw [List.getElem_append_right (by omega)];exact I⟩;have U:i*t.size=(i - xs.length)*t.size+xs.length*t.size:=by rw [<-ϑ];congr 1;omega
 have:(i - xs.length+1)*t.size<=ys.length*t.size:=Ρ _ (by omega);rw [ϑ] at this;rw [ό,Κ (by omega),Μ (by omega)];rw [<-r j J]
 congr 1
 omega
theorem dV.take {t:Ty}{xs:List t.D}{l:List ο}{n:Nat}(h:dV S w t xs l)(R:n<=xs.length):dV S w t (xs.take n) (l.take (n*t.size)):=λi o=>by
 have p:i<n:=by rw [ϙ] at o;omega
 obtain ⟨es,r,I⟩:=h i (by omega);refine ⟨es,λj J=> ?_,by rw [List.getElem_take];exact I⟩;have:(i+1)*t.size<=n*t.size:=Ρ _ (by omega);rw [ϑ] at this;rw [ϐ,if_pos (by omega)];exact r j J
theorem bT.Ai {t:Ty}{xs:List t.D}{v:ο}(h:bT S w (.sl t) [v] xs):
 ∃a cap p,v= .slice a xs.length cap/\xs.length<=cap/\p.length=xs.length*t.size/\dV S w t xs p/\(∀u∈p,u.oneCell'=true)/\
  (xs=[]\/ ∃o,a=some o/\ ∀k u,p[k]? =some u->w.cell? (o.add k)=some u):=by
 obtain ⟨a,cap,e,hc,qU⟩:=h;have e:v= .slice a (ζ xs) cap:=by simpa using e
 subst e;obtain ⟨l,hl,hq⟩:=Ide.Ai (sz:=t.size) (Q:=λi es=> ∃h:i<ζ xs,∃o,a=some o/\(∀j u,es[j]? =some u->w.cell? (o.add (i*t.size+j))=some u)/\bT S w t es xs[i]) (ζ xs) λi T=>by
  obtain ⟨o,es,R,_,h1,U⟩:=qU i T;exact ⟨es,bT.len t es _ U,T,o,R,h1,U⟩
 have nu:=t.size_pos;have I: ∀k u,l[k]? =some u-> ∃o,a=some o/\w.cell? (o.add k)=some u/\u.oneCell'=true:=by
  intro k u hk;have hlt:k<ζ xs*t.size:=by rw [<-hl];exact (ψ.1 hk).1
  have T:k/t.size<ζ xs:=aeZ (by rw [aay];exact hlt);obtain ⟨es,he,⟨_,o,R,h1,U⟩,h3⟩:=hq (k/t.size) T;have N6:k%t.size<t.size:=aa7 _ nu;have sy:k/t.size*t.size+k%t.size=k:=by rw [aay];exact agm k t.size
  have h4:=h3 (k%t.size) N6;rw [sy,hk] at h4;refine ⟨o,R,?_,?_⟩;have:=h1 (k%t.size) u h4.symm;rw [sy] at this;exact this;exact bT.nt t U u (aaG h4.symm)
 refine ⟨a,cap,l,rfl,hc,hl,λi T=> ?_,λu hu=> ?_,?_⟩;obtain ⟨es,he,⟨_,o,R,h1,U⟩,h3⟩:=hq i T;exact ⟨es,h3,U⟩;obtain ⟨k,hk,e⟩:=aaL hu;obtain ⟨_,_,_,h⟩:=I k u (by rw [Γ hk,e]);exact h;cases hx:xs with
 |nil=>exact .inl rfl
 |cons x r=>
  right;obtain ⟨o,es,R,_⟩:=qU 0 (by rw [hx];simp);refine ⟨o,R,λk u hk=> ?_⟩;obtain ⟨KM,J,h,_⟩:=I k u hk;rw [R] at J;injection J with J;subst J;exact h
theorem bJ.setCell (w:Ε)(p:abI)(v:ο):bJ [p.block] w (w.setCell p v):=
 ⟨rfl,rfl,rfl,by simp,λq _ o=>abG w p v q (by simpa using o),λb arr j=>by
  by_cases e:b=p.block;subst e;obtain ⟨T,r,t,I,J⟩:=j;refine ⟨if p.spot.isSome then arr else arr.setIfInBounds p.off v,⟨T,r,t,by simp [aes,aaP,I],?_⟩,by split<;>simp⟩;split<;>simpa using J;exact ⟨arr,j.bt (abG w p v b e),rfl⟩⟩
theorem ed {b:Nat}: ∀(vs:List ο) (o i:Nat) (w:Ε) (arr:Array ο),dm w b arr->o+i+vs.length<=arr.size->(∀v∈vs,v.oneCell'=true)->
 ∃w' j,(storeCells ⟨b,o,none⟩ vs i).run P w= .ok () w'/\dm w' b j/\j.toList=arr.toList.take (o+i)++vs++arr.toList.drop (o+i+vs.length)/\bJ [b] w w'/\w'.heap.size=w.heap.size
 |[],o,i,w,arr,r,_,_=>⟨w,arr,rfl,r,by simp,bJ.refl _ _,rfl⟩
 |v::vs,o,i,w,arr,r,I,h1=>by
  simp only [Ζ] at I;have p:o+i<arr.size:=by omega
  have J:(store ((⟨b,o,none⟩:abI).add i) v).run P w= .ok () (w.setCell ⟨b,o+i,none⟩ v):=by
   rw [ca,run_store P w _ v _ (h1 v (by simp)),r.cell,aak p];have R:=r.NU p;simp [R]
  have U:dm (w.setCell ⟨b,o+i,none⟩ v) b (arr.setIfInBounds (o+i) v):=by
   obtain ⟨T,lo,hi,hh,R⟩:=r;exact ⟨T,lo,hi,by simp [aes,aaP,hh],by simpa using R⟩
  obtain ⟨w',j,e,k1,k2,k3,k4⟩:=ed vs o (i+1) (w.setCell ⟨b,o+i,none⟩ v) _ U (by simp;omega) (λx hx=>h1 x (by simp [hx]));refine ⟨w',j,?_,k1,?_,bJ.trans (bJ.setCell w ⟨b,o+i,none⟩ v) k3,by rw [k4];simp⟩;simp only [storeCells,Ϙ,J,ϋ,e];have t:o+i<arr.toList.length:=by simpa using p
  rw [k2];simp only [adP,Ζ];rw [aeX (by omega),show o+(i+1)=o+i+1 from by omega,agC,adm t,aeF _ _ (by simp;omega)];simp [show o+i+1+vs.length=o+i+(vs.length+1) from by omega,aav (ahh p)]
theorem eK {size n:Nat}{a:Option abI}{len cap:Nat}{cs:List ο}(p:cs.length=n*size)(h:n=0\/ ∃o,a=some o/\ ∀j v,cs[j]? =some v->w.cell? (o.add j)=some v):
 (aaH size n (.slice a len cap)).run P w= .ok cs.toArray w:=by
 rcases h with rfl|⟨o,rfl,h⟩
 have:cs=[]:=ϸ (by simpa using p);subst this;cases a with
 |none=>simp [aaH]
 |some o=>simp [aaH,loadCells,loadCellsFrom]
 exact run_firstCells_some w size n o len cap cs p h
theorem tH {t ty e:Ι}{i:TypeInfo}{z:ο}(ht:P.underlying t=some (.slice e))(U:P.info? e=some i)(hz:i.zero=some z){base:Option abI}{n cap:Nat}{olds:List ο}(R:olds.length=n*i.size)(ho:n=0\/ ∃r,base=some r/\ ∀j v,olds[j]? =some v->w.cell? (r.add j)=some v){a:Option abI}{k c:Nat}{o:List ο}(hl:o.length=k*i.size)(hn:k=0\/ ∃r,a=some r/\ ∀j v,o[j]? =some v->w.cell? (r.add j)=some v)(hg:cap<n+k)(hb:(n+k)*i.bytes<=140737488355328)(YT:n+k<=9223372036854775807):
 (Ϛ #[t,t] ty #[.slice base n cap,.slice a k c]).run P w=
  .ok (.slice (some ⟨w.heap.size,0,none⟩) (n+k) (grownCap w (n+k) cap e))
   (w.drew.alloc (.cells (olds.toArray++o.toArray++Ϧ z.cells (grownCap w (n+k) cap e - (n+k))) e)):=by
 have p: ¬(n+k<=cap):=by omega
 have I: ¬(9223372036854775807<((n:Int)+(k:Int))):=by omega
 have XN:=growslice_fits (old:=cap) hg hb;have J: ¬(281474976710656<Builtin.nextslicecap (n+k) cap*i.bytes):=by omega
 have hf:=eK (P:=P) (w:=w.drew) (len:=k) (cap:=c) hl hn;have T:=eK (P:=P) (w:=w.drew) (len:=n) (cap:=cap) R ho;simp [Ϛ,run_underlying ht,sizeOf,typeInfo,zeroValue,U,hz,aaZ,p,I,J,Question.forced,hf,T,newRow,grownCap]
 congr 2
 apply aaU;simp [ό]
theorem tJ {t ty e:Ι}{i:TypeInfo}(ht:P.underlying t=some (.slice e))(T:P.info? e=some i){b n cap:Nat}{arr:Array ο}(U:dm w b arr){a:Option abI}{k c:Nat}{o:List ο}(J:o.length=k*i.size)(hn:k=0\/ ∃R,a=some R/\ ∀j v,o[j]? =some v->w.cell? (R.add j)=some v)(h1: ∀u∈o,u.oneCell'=true)(r:n+k<=cap)(I:(n+k)*i.size<=arr.size):
 ∃w' p,(Ϛ #[t,t] ty #[.slice (some ⟨b,0,none⟩) n cap,.slice a k c]).run P w= .ok (.slice (some ⟨b,0,none⟩) (n+k) cap) w'/\dm w' b p/\
  p.toList=arr.toList.take (n*i.size)++o++arr.toList.drop (n*i.size+o.length)/\bJ [b] w w'/\w'.heap.size=w.heap.size:=by
 have hf:=eK (P:=P) (w:=w) (len:=k) (cap:=c) J hn;obtain ⟨w',p,e,k1,k2,k3,k4⟩:=ed (P:=P) o (n*i.size) 0 w arr U (by rw [J,ϧ,<-ϑ];exact I) h1;refine ⟨w',p,?_,k1,by simpa using k2,k3,k4⟩;have ha:(⟨b,0,none⟩:abI).add (n*i.size)=⟨b,n*i.size,none⟩:=by rw [ca];simp
 simp [Ϛ,run_underlying ht,sizeOf,typeInfo,T,aaZ,r,hf,ha,e]
theorem qf {t ty e:Ι}{i:TypeInfo}(ht:P.underlying t=some (.slice e))(j:P.info? e=some i){base a:Option abI}{c:Nat}:
 (Ϛ #[t,t] ty #[.slice base 0 0,.slice a 0 c]).run P w= .ok (.slice base 0 0) w:=by
 have o:=eK (P:=P) (w:=w) (size:=i.size) (n:=0) (a:=a) (len:=0) (cap:=c) (cs:=[]) (by simp) (.inl rfl);cases base<;>simp [Ϛ,run_underlying ht,sizeOf,typeInfo,j,aaZ,o,storeCells]
end
end Go.Ide
namespace Go.Ide
section
variable {P:Ξ} {g:GM} {m:Mem} {S S2:Nat->Prop} {w:Ε}
theorem dV.nt {t:Ty}{xs:List t.D}{l:List ο}(h:dV S w t xs l)(U:l.length=xs.length*t.size): ∀u∈l,u.oneCell'=true:=by
 intro u r;obtain ⟨k,I,e⟩:=aaL r;have j:=t.size_pos;have J:k/t.size<xs.length:=aeZ (by rw [aay];omega);obtain ⟨es,R,T⟩:=h (k/t.size) J;have p:=R (k%t.size) (aa7 _ j);have o:k/t.size*t.size+k%t.size=k:=by rw [aay];exact agm k t.size
 rw [o,Γ I,e] at p;exact bT.nt t T u (aaG p.symm)
structure Src (S:Nat->Prop)(w:Ε)(t:Ty)(ys:List t.D)(v:ο)(news:List ο):Prop where
 len:news.length=ys.length*t.size
 Fq:dV S w t ys news
 val: ∃a cap,v= .slice a ys.length cap/\(ys.length=0\/ ∃ad,a=some ad/\ ∀k u,news[k]? =some u->w.cell? (ad.add k)=some u)
theorem Fy {t:Ty}{xs:List t.D}{b off len:Nat}{arr:Array ο}{cap:Nat}(J:dm w b arr)(R:BP S w t xs arr)(T:off+len<=xs.length)(p:(off+len)*t.size<=arr.size):
 Src S w t ((xs.drop off).take len) (.slice (some ⟨b,off*t.size,none⟩) len cap) ((arr.toList.drop (off*t.size)).take (len*t.size)):=by
 have o:((xs.drop off).take len).length=len:=by simp;omega
 refine ⟨?_,λi I=> ?_,some ⟨b,off*t.size,none⟩,cap,by rw [o],.inr ⟨_,rfl,λk u r=> ?_⟩⟩;rw [o];simp;rw [ϑ] at p;omega;have U:i<len:=by rw [o] at I;exact I
 obtain ⟨es,k1,k2⟩:=R.toL (off+i) (by omega);refine ⟨es,λj hj=> ?_,by simpa using k2⟩;have:(i+1)*t.size<=len*t.size:=Ρ _ (by omega);rw [ϑ] at this;rw [ϐ,if_pos (by omega),aaJ,<-k1 j hj,ϑ,Ϡ];rw [ca,J.cell];rw [ϐ] at r;split at r;simpa using r;cases r
theorem Src.nil {t:Ty}{a:Option abI}{c:Nat}:Src S w t ([]:List t.D) (.slice a 0 c) []:=
 ⟨by simp,λi j=>by simp at j,a,c,rfl,.inl rfl⟩
theorem pE: ∀(t:Ty),t.jU=true->t.er=t
 | .own _,h=>by cases h
 | .sl t,h=>congrArg Ty.sl (pE t h)
 | .bx t,h=>congrArg Ty.bx (pE t h)
 | .cl _ _,_=>rfl
 | .pair a b,h=>by
  simp only [Ty.jU,κ] at h;simp only [Ty.er,pE a h.1,pE b h.2]
 | .st t,h=>congrArg Ty.st (pE t h)
 | .int _,_=>rfl
 | .dB _,_=>rfl
 | .bool,_=>rfl
 | .str,_=>rfl
theorem rH: ∀(t:Ty),t.top=true->t.jU=true
 | .own _,h=>by cases h
 | .sl t,h=>h
 | .bx t,h=>h
 | .cl _ _,_=>rfl
 | .pair a b,h=>by
  simp only [Ty.top,κ] at h;simp only [Ty.jU,rH a h.1,rH b h.2,Bool.and_self]
 | .st t,h=>rH t h
 | .int _,_=>rfl
 | .dB _,_=>rfl
 | .bool,_=>rfl
 | .str,_=>rfl
theorem N7 (t:Ty){e:Ty}(h:t.top=true)(j:t.er=e):t=e:=by
 rw [<-j,pE t (rH t h)]
theorem Aj (hm:j6 g m S w){t:Ty}{x:bu}{ys:List t.D}{v:ο}(h:j5 m (.sl t) x=some ys)(aa:nJ m x=true)(ht:t.top=true)(hr:VR g m S w x v): ∃I,Src S w t ys v I:=by
 unfold j5 at h;split at h;rename_i c tK;split at h;rename_i y U;injection h with h;subst h;simp only [impl,dc] at U;split at U;rename_i z p;injection U with U;injection U with U _;subst U;have hr:CR g m S w c v:=hr;cases c with
 |bp t' q=>
  simp only [dF] at p;split at p;rename_i e;subst e;injection p with p;subst p;obtain ⟨a,cap,I,e1,h1,h2,h3,h4,h5⟩:=bT.Ai (xs:=q) (t:=t) hr;refine ⟨I,h2,h3,a,cap,e1,?_⟩;rcases h5 with h5|h5
  left;rw [h5];rfl;exact .inr h5;cases p
 |all c=>
  simp only [dF] at p;split at p;rename_i e' xs hl;split at p;rename_i J;subst J;injection p with p;subst p;have T:=hr.2.2 e' xs (.inl hl);have r:=hm c _ hl;unfold iS at T;unfold jc at r;have T:match g.f c [] with|none=>_|some b=>_:=T
  cases hg:g.f c [] with
  |none=>
   rw [hg] at T r;obtain ⟨a,ha⟩:=T;have:xs=[]:=r;subst this;subst ha;exact ⟨[],Src.nil⟩
  |some b=>
   rw [hg] at T r;obtain ⟨cap,arr,e1,k1,k2,k3,k4⟩:=T;obtain ⟨dZ,ab,R⟩:=r;have:=k2.eq ab;subst this;subst e1;have:=Fy (off:=0) (len:=xs.length) (cap:=cap) k2 (R.Fq ht) (by omega) (by rw [Υ];exact ϣ (Ρ _ k1) k3);simp only [List.drop_zero,aam,aaY] at this;exact ⟨_,this⟩
  rename_i iH;split at p;rename_i J;simp only [nJ,hl] at aa;exact absurd (N7 e' aa J) iH;cases p;cases p
 |row c i o=>cases aa
 |yK c i o j sz off=>simp [dF] at p
 |ref c off len=>
  simp only [dF] at p;split at p;rename_i e' xs hl;split at p;rename_i J;subst J;injection p with p;subst p;obtain ⟨hle,T⟩:=hr.2.2 e' xs (.inl hl);have r:=hm c _ hl;unfold jc at r;rcases T with ⟨h0,_,a,ha⟩|⟨b,cap,arr,hg,e1,k1,k2,k3,k4⟩
  subst h0;subst ha;have:(xs.drop off).take 0=([]:List e'.D):=rfl;exact ⟨[],by simp [cE],λi hi=>by simp [cE] at hi,a,0,by simp [cE],.inl (by simp [cE])⟩;have hg:g.f c []=some b:=hg;rw [hg] at r;obtain ⟨dZ,ab,R⟩:=r;have:=k2.eq ab;subst this;have R:=R.Fq ht;subst e1;exact ⟨_,Fy (cap:=cap) k2 R hle (ϣ (Ρ _ (by omega)) k3)⟩;cases p;cases p
 |br=>
  simp only [dF] at p;injection p with p;subst p;obtain ⟨a,ha⟩:=hr;subst ha;exact ⟨[],Src.nil⟩
 |ptr c off=>simp [dF] at p
 |cZ c i sz off=>simp [dF] at p
 |ip t x off=>simp [dF] at p
 |fn f=>simp [dF] at p
 |jb f t' x=>simp [dF] at p
 |cls f ks=>simp [dF] at p
 |zq f t' x=>simp [dF] at p
 |fK c=>simp [dF] at p
 |dE=>simp [dF] at p
 |bad=>simp [dF] at p
 cases U;cases h;rename_i tK;cases tK;cases h
def UF (g:GM)(m:Mem)(S:Nat->Prop)(w:Ε)(t:Ty)(xs:List t.D)(up:Mem)(v:ο):Prop:=
 (up=[]\/ ∃c j,up=[(c,.gone)]/\lk c m=some j/\j≠ .gone)/\
 ((xs=[]/\ ∃a,v= .slice a 0 0)\/
  ∃c j b cap arr,up=[(c,.gone)]/\lk c m=some j/\j≠ .gone/\g c=some b/\v= .slice (some ⟨b,0,none⟩) xs.length cap/\xs.length<=cap/\dm w b arr/\cap*t.size<=arr.size/\cap<=maxLen/\
   dV S w t xs (arr.toList.take (xs.length*t.size)))
theorem BT (hm:j6 g m S w){t:Ty}{x:bu}{xs:List t.D}{up:Mem}{v:ο}(h:nR m t x=some (xs,up))(ht:t.top=true)(hr:VR g m S w x v):UF g m S w t xs up v:=by
 unfold nR at h;split at h;injection h with h;injection h with U h2;subst U;subst h2;exact ⟨.inl rfl,.inl ⟨rfl,hr⟩⟩;rename_i c;split at h;rename_i t' r I;split at h;rename_i he;subst he;injection h with h;injection h with U h2;subst U;subst h2;refine ⟨.inr ⟨c,_,rfl,I,by simp⟩,?_⟩;have J:=hr.2.2 t' r (.inl I);have j:=hm c _ I;unfold iS at J;unfold jc at j;have J:match g.f c [] with|none=>_|some b=>_:=J
 cases T:g.f c [] with
 |none=>
  rw [T] at J j;exact .inl ⟨j,J⟩
 |some b=>
  rw [T] at J j;obtain ⟨cap,arr,e1,k1,k2,k3,k4⟩:=J;obtain ⟨dZ,R,o⟩:=j;have:=k2.eq R;subst this;have:=(o.Fq ht).toL.take (n:=r.length) (φ _);rw [aam] at this;exact .inr ⟨c,_,b,cap,arr,rfl,I,by simp,T,e1,k1,k2,k3,k4,this⟩
 cases h;cases h;rename_i c len;split at h;rename_i t' r I;split at h;rename_i he;subst he;injection h with h;injection h with U h2;subst U;subst h2;refine ⟨.inr ⟨c,_,rfl,I,by simp⟩,?_⟩;obtain ⟨hle,J⟩:=hr.2.2 t' r (.inl I);have j:=hm c _ I;unfold jc at j;have p:(r.take len).length=len:=by simp;omega
 rcases J with ⟨h0,_,a,ha⟩|⟨b,cap,arr,T,e1,k1,k2,k3,k4⟩
 subst h0;exact .inl ⟨rfl,a,ha⟩;have om:g.f c []=some b:=T;rw [om] at j;obtain ⟨dZ,R,o⟩:=j;have:=k2.eq R;subst this;have o:=o.Fq ht;rw [aaY] at e1;rw [Υ] at k3;refine .inr ⟨c,_,b,cap,arr,rfl,I,by simp,T,?_,?_,k2,k3,k4,?_⟩;show v= .slice _ (r.take len).length cap;rw [p];exact e1;show (r.take len).length<=cap;rw [p];exact k1;show dV S w t' (r.take len) (arr.toList.take ((r.take len).length*t'.size));rw [p];exact o.toL.take (by omega);cases h;cases h;cases h
end
section
variable {cx:Cx} {g:GM} {st:St} {a:Act} {w w':Ε}
def Ak (m up:Mem):Prop:= ∀p∈up,p.2= .gone/\lk p.1 m≠none
theorem Ak.lk {m up:Mem}(h:Ak m up){k:Nat}{ch:Chunk}(j:lk k up=some ch):ch= .gone/\Ide.lk k m≠none:=by
 induction up with
 |nil=>cases j
 |cons p up ih=>
  obtain ⟨t,o⟩:=p;rw [bB] at j;split at j;rename_i e;injection j with j;subst j;subst e;exact h (k,o) (by simp);exact ih (λq r=>h q (by simp [r])) j
theorem cG.newAt (h:cG cx g st a w)(tD:lk st.nx st.mem=none){up:Mem}{G:List Nat}{γ:List Nat->Option Nat}{ch:Chunk}(tL:Ak st.mem up)(hk:bJ G w w')(hG: ∀b∈G,∃c p j,lk c up=some .gone/\lk c st.mem=some j/\j.owns p/\g.f c p=some b)(ag: ∀p b,γ p=some b->b<w'.heap.size/\(w.heap.size<=b\/b∈G))(UG: ∀p q b,γ p=some b->γ q=some b->p=q)(hc: ∀g' m' S',(∀b,cx.safe g st.mem w b->S' b/\w'.heap[b]? =w.heap[b]?)->jc g' m' S' w' γ ch):
 ∃g':GM,g'.f st.nx=γ/\cG cx g' (st.iT (up++[(st.nx,ch)]++st.mem) (st.nx+1)) a w':=by
 have aa: ∀k,lk k st.mem≠none->(g.set st.nx γ).f k=g.f k:=λk iH=>GM.DI _ _ (λe=>iH (by rw [e];exact tD));have o:=GM.wE g st.nx γ;revert aa o;generalize g.set st.nx γ=g';intro aa o;have Re: ∀b,b∈G->Live g st.mem b:=λb hb=>by
  obtain ⟨c,p,j,_,h2,h3,h4⟩:=hG b hb;exact ⟨c,p,j,h2,h3,h4⟩
 have HY:lk st.nx up=none:=by
  cases hu:lk st.nx up with
  |none=>rfl
  |some c=>exact absurd tD (tL.lk hu).2
 have zu: ∀k,lk k (up++[(st.nx,ch)]++st.mem)=(lk k up).or (if k=st.nx then some ch else lk k st.mem):=λk=>by
  rw [ό,cp,List.singleton_append,bB]
 have hold: ∀k j,lk k st.mem=some j->(lk k up=none/\lk k (up++[(st.nx,ch)]++st.mem)=some j/\(∀p b,j.owns p->g.f k p=some b->b ∉ G))\/lk k (up++[(st.nx,ch)]++st.mem)=some .gone:=by
  intro k j r;have ab:k≠st.nx:=λe=>by rw [e,tD] at r;cases r
  cases hu:lk k up with
  |none=>
   left;refine ⟨rfl,by rw [zu,hu,if_neg ab,r];rfl,λp b hn MZ hb=> ?_⟩;obtain ⟨c,q,TO,h1,h2,h3,h4⟩:=hG b hb;have:=(h.fV k c p q j TO b r hn h2 h3 MZ h4).1;subst this;rw [hu] at h1;cases h1
  |some c0=>
   right;rw [zu,hu,(tL.lk hu).1];rfl
 have Rf:lk st.nx (up++[(st.nx,ch)]++st.mem)=some ch:=by rw [zu,HY,if_pos rfl];rfl
 have ad: ∀k,lk k st.mem=none->k≠st.nx->lk k (up++[(st.nx,ch)]++st.mem)=none:=by
  intro k r ab;cases hu:lk k up with
  |none=>rw [zu,hu,if_neg ab,r];rfl
  |some c0=>exact absurd r (tL.lk hu).2
 have Rg: ∀J I p,lk J (up++[(st.nx,ch)]++st.mem)=some I->I.owns p->J≠st.nx->lk J st.mem=some I/\ ∀b,g.f J p=some b->b ∉ G:=by
  intro J I p R ae ab;cases ho:lk J st.mem with
  |none=>rw [ad J ho ab] at R;cases R
  |some c0=>
   rcases hold J c0 ho with ⟨_,T,e2⟩|T
   rw [R] at T;injection T with T;subst T;exact ⟨rfl,λb hb=>e2 p b ae hb⟩
   rw [R] at T;injection T with T;subst T;exact ae.elim
 have t:vL cx g g' st.mem (up++[(st.nx,ch)]++st.mem) w w' G:=by
  refine ⟨hk,Re,aa,λk c0 ho=> ?_,λk c0 ho U=> ?_⟩;rcases hold k c0 ho with ⟨_,T,e2⟩|T
  exact .inl ⟨T,e2⟩;exact .inr (.inl T);by_cases e:k=st.nx;subst e;rw [Rf] at U;injection U with U;subst U;refine ⟨?_,λp b hn hg=> ?_⟩;rw [o];refine hc g' _ _ λb hb=> ?_;obtain ⟨h1,h2,h3⟩:=hb;have XO:b ∉ G:=λhb=>h3 (Re b hb);refine ⟨⟨ϖ h1 hk.size,h2,?_⟩,hk.block b h1 XO⟩;rintro ⟨k,p,c,DA,hn,hg⟩;by_cases e:k=st.nx;subst e;rw [o] at hg;rcases (ag p b hg).2 with hx|hx
  omega;exact XO hx;obtain ⟨h4,_⟩:=Rg k c p DA hn e;exact h3 ⟨k,p,c,h4,hn,by rw [<-aa k (by rw [h4];simp)];exact hg⟩;rw [o] at hg;refine ⟨(ag p b hg).2,(ag p b hg).1,λJ p' I R ae af=> ?_⟩;by_cases e:J=st.nx;subst e;rw [o] at af;exact ⟨rfl,UG p' p b af hg⟩;obtain ⟨h4,h5⟩:=Rg J I p' R ae e;have Rh:g.f J p'=some b:=by rw [<-aa J (by rw [h4];simp)];exact af
  rcases (ag p b hg).2 with hx|hx
  have:=h.lt J p' I b h4 ae Rh;omega;exact absurd hx (h5 b Rh);rw [ad k ho e] at U;cases U
 exact ⟨g',o,h.tC t⟩
theorem rI {o:Option Nat}{p:List Nat}{b:Nat}(h:pC o p=some b):p=[]/\o=some b:=by
 unfold pC at h;split at h;exact ⟨by assumption,h⟩;cases h
theorem oT.newAt {e:cB}{up:Mem}{G:List Nat}{gk:Option Nat}{t:Ty}{xs:List t.D}{val:ο}(h:cG cx g st a w)(hw:fe st.mem e.new)(I:e.new=[(st.nx,.seq t xs)]/\e.kZ=up/\e.val= .one (.all st.nx))(J:up=[]\/ ∃c j,up=[(c,.gone)]/\lk c st.mem=some j/\j≠ .gone)(hk:bJ G w w')(hG:G=[]\/ ∃c b j,up=[(c,.gone)]/\lk c st.mem=some j/\j≠ .gone/\g c=some b/\G=[b])(MZ: ∀b,gk=some b->w.heap.size<=b\/b∈G)(hlt: ∀b,gk=some b->b<w'.heap.size)(hc: ∀S',(∀b,cx.safe g st.mem w b->S' b/\w'.heap[b]? =w.heap[b]?)->match gk with|none=>xs=[]|some b=> ∃arr,dm w' b arr/\eI S' w' (pC gk) t xs arr)(U:iS gk w' t.size xs.length val):oT cx st a e val w':=by
 have R:lk st.nx st.mem=none:=hw (st.nx,.seq t xs) (by rw [I.1];simp);have UH:Ak st.mem up:=by
  intro p hp;rcases J with rfl|⟨c,j,rfl,h1,h2⟩
  simp at hp;simp at hp;subst hp;exact ⟨rfl,by rw [h1];simp⟩
 obtain ⟨g',DS,hs⟩:=h.newAt (ch:= .seq t xs) (γ:=pC gk) R UH hk (λb hb=>by
  rcases hG with rfl|⟨c,b',j,rfl,h2,h3,h4,rfl⟩
  simp at hb;simp at hb;subst hb;exact ⟨c,[],j,by simp [bB],h2,Chunk.wy h3,h4⟩)
  (λp b hp=>⟨hlt b (rI hp).2,MZ b (rI hp).2⟩) (λp q b hp hq=>by rw [(rI hp).1,(rI hq).1]) (λg' m' S' hS=>by
   have:=hc S' hS;cases gk with
   |none=>simp only [jc,pC,if_true];exact this
   |some b=>
    obtain ⟨arr,h1,h2⟩:=this;simp only [jc,pC,if_true];exact ⟨arr,h1,h2⟩)
 refine ⟨g',?_,?_⟩;rw [I.1,I.2.1];exact hs;rw [I.1,I.2.1,I.2.2];have hl:lk st.nx (up++[(st.nx,.seq t xs)]++st.mem)=some (.seq t xs):=by
  rcases J with rfl|⟨c,TO,rfl,T,hn1⟩
  simp [bB];have:st.nx≠c:=λe=>by rw [<-e,R] at T;cases T
  simp [bB,if_neg this]
 refine ⟨by rw [hl];simp,?_,λt' ig o=> ?_⟩;unfold iS at U;cases gk with
 |none=>obtain ⟨a,rfl⟩:=U;rfl
 |some b=>obtain ⟨cap,arr,rfl,_⟩:=U;rfl
 have o:=du.toSeq hl o;rw [hl] at o;injection o with o;injection o with ht r;subst ht;have r:=eq_of_heq r;subst r;rw [show g' st.nx=gk from by show g'.f st.nx []=gk;rw [DS];rfl];exact U
theorem yN {T T':Ι}{ty:Ι}{t:Ty}{s x:bu}{e:cB}{sv xv:ο}(h:cG cx g st a w)(hw:fe st.mem e.new)(he:rB cx.P st.mem st.nx T T' t s x=some e)(hc:bU e.cond)(hs:VR g st.mem (cx.safe g st.mem w) w s sv)(hx:VR g st.mem (cx.safe g st.mem w) w x xv):fP cx st a w (Ϛ #[T,T'] ty #[sv,xv]) e:=by
 unfold rB at he;split at he;rename_i el hu;split at he;rename_i i hi;cases hb:(((Α T T'&&Α i.size t.size)&&(ϩ i.bytes 32768&&i.zero.isSome)&&(i.zero.map λz=>Α z.cells.size t.size).getD false)&&(t.top&&nJ st.mem x)) with
 |false=>simp [hb] at he
 |true=>
  rw [hb] at he;simp only [cond_true] at he;simp only [κ] at hb;obtain ⟨⟨⟨⟨hT,R⟩,BU,Ri⟩,Fz⟩,qV,HZ⟩:=hb;have hT:=bR hT;subst hT;have R:=bR R;have BU:=iU BU;obtain ⟨z,hz⟩:=abl.1 Ri;rw [hz] at Fz;have Fz:z.cells.size=t.size:=bR (by simpa using Fz);split at he;rename_i o up r zw UI;injection he with he;subst he;have hlen:o.length+r.length<=bl:=hc.1;unfold bl at hlen;obtain ⟨tL,UJ⟩:=BT h.mem zw qV hs;obtain ⟨I,U⟩:=Aj h.mem UI HZ qV hx;obtain ⟨ax,yO,ex,K7⟩:=U.val;subst ex;have wM:(o.length+r.length)*i.bytes<=140737488355328:=by
   calc (o.length+r.length)*i.bytes<=4294967296*32768:=aaB hlen BU
    _=140737488355328:=by decide
  have FA:I.length=r.length*i.size:=by rw [R];exact U.len
  have grow: ∀(base:Option abI) (cap:Nat) (p:List ο),p.length=o.length*i.size->(o.length=0\/ ∃ad,base=some ad/\ ∀j v,p[j]? =some v->w.cell? (ad.add j)=some v)->
   dV (cx.safe g st.mem w) w t o p->cap<o.length+r.length->(up=[]\/ ∃c K8,up=[(c,.gone)]/\lk c st.mem=some K8/\K8≠ .gone)->
   fP cx st a w (Ϛ #[T,T] ty #[.slice base o.length cap,.slice ax r.length yO]) ⟨.one (.all st.nx),[(st.nx,.seq t (o++r))],up,[ζ o+ζ r<=bl]⟩:=by
   intro base cap p FB ho ma hlt tL;have vZ:=grownCap_ge w (o.length+r.length) cap el;have H0:=grownCap_le_maxLen w (o.length+r.length) cap el (by unfold maxLen;omega);have hr:=tH (P:=cx.P) (ty:=ty) (c:=yO) hu hi hz FB ho FA K7 hlt wM (by omega);have wN:bJ [] w (w.drew.alloc (.cells (p.toArray++I.toArray++Ϧ z.cells (grownCap w (o.length+r.length) cap el - (o.length+r.length))) el)):=
    (bJ.drew [] w).trans (bJ.alloc _ _ _)
   have J:=dm.new w.drew (p.toArray++I.toArray++Ϧ z.cells (grownCap w (o.length+r.length) cap el - (o.length+r.length))) el;refine ⟨_,_,hr,?_⟩;refine oT.newAt (G:=[]) (gk:=some w.heap.size) h hw ⟨rfl,rfl,rfl⟩ tL wN (.inl rfl) (λb hb=>by injection hb with hb;left;omega) (λb hb=>by injection hb with hb;subst hb;exact J.lt) (λS' hS=>⟨_,J,?_⟩) ?_;refine eI.k9 qV (dV.toR ?_);simp only [Array.toList_append];have h1:dV S' (w.drew.alloc (.cells (p.toArray++I.toArray++Ϧ z.cells (grownCap w (o.length+r.length) cap el - (o.length+r.length))) el)) t o p:=λi hi=>by
    obtain ⟨es,k1,k2⟩:=ma i hi;exact ⟨es,k1,bT.bt hS t es _ k2⟩
   have h2:dV S' (w.drew.alloc (.cells (p.toArray++I.toArray++Ϧ z.cells (grownCap w (o.length+r.length) cap el - (o.length+r.length))) el)) t r I:=λi hi=>by
    obtain ⟨es,k1,k2⟩:=U.Fq i hi;exact ⟨es,k1,bT.bt hS t es _ k2⟩
   exact dV.app h1 (by rw [FB,R]) h2 U.len;refine ⟨grownCap w (o.length+r.length) cap el,_,?_,by rw [ω];exact vZ,J,?_,H0⟩;rw [ω];simp only [Array.size_append,abk,size_zeroCells,Fz,FB,FA,R,<-ϑ];exact Ρ _ (by omega)
  rcases UJ with ⟨Rj,ab,eb⟩|⟨c,ch,b,cap,arr,e1,e2,e3,e4,e5,hcap,J,kY,Ae,ma⟩
  subst eb;subst Rj;by_cases hy:r.length=0;have N8:r=[]:=ϸ hy;subst N8;refine ⟨_,_,qf (P:=cx.P) hu hi,?_⟩;exact oT.newAt (G:=[]) (gk:=none) h hw ⟨rfl,rfl,rfl⟩ tL (bJ.refl _ _) (.inl rfl) (λb hb=>by cases hb) (λb hb=>by cases hb) (λS' hS=>rfl) ⟨ab,rfl⟩;exact grow ab 0 [] (by simp) (.inl rfl) (λi hi=>by simp at hi) (by simp;omega) tL;subst e5;by_cases sA:o.length+r.length<=cap;have wO:(o.length+r.length)*i.size<=arr.size:=by rw [R];exact ϣ (Ρ _ sA) kY
  obtain ⟨w',dZ,hr,qK,uA,oo,qg⟩:=tJ (P:=cx.P) (ty:=ty) hu hi J (c:=yO) FA K7 (U.Fq.nt U.len) sA wO;refine ⟨_,_,hr,?_⟩;refine oT.newAt (G:=[b]) (gk:=some b) h hw ⟨rfl,rfl,rfl⟩ tL oo (.inr ⟨c,b,ch,e1,e2,e3,e4,rfl⟩) (λb' wP=>by injection wP with wP;subst wP;right;simp) (λb' wP=>by injection wP with wP;subst wP;exact qK.lt) (λS' hS=>⟨dZ,qK,?_⟩) ?_;refine eI.k9 qV (dV.toR ?_);rw [uA,R];have h1:dV S' w' t o (arr.toList.take (o.length*t.size)):=λi hi=>by
   obtain ⟨es,k1,k2⟩:=ma i hi;exact ⟨es,k1,bT.bt hS t es _ k2⟩
  have h2:dV S' w' t r I:=λi hi=>by
   obtain ⟨es,k1,k2⟩:=U.Fq i hi;exact ⟨es,k1,bT.bt hS t es _ k2⟩
  refine dV.app h1 ?_ h2 U.len;have:o.length*t.size<=arr.size:=ϣ (Ρ _ hcap) kY;simp;omega;refine ⟨cap,dZ,by rw [ω],by rw [ω];exact sA,qK,?_,Ae⟩;have:dZ.size=arr.size:=by
   rw [<-Ψ,uA];simp;rw [R] at wO FA⊢;rw [ϑ] at wO;omega
  rw [this];exact kY;have hle:o.length*t.size<=arr.size:=ϣ (Ρ _ hcap) kY;exact grow _ cap (arr.toList.take (o.length*t.size)) (by rw [R];simp;omega) (.inr ⟨_,rfl,λj v hj=>by
   rw [ca,J.cell];rw [ϐ] at hj;split at hj;simpa using hj;cases hj⟩) ma (by omega) tL
  cases he
 cases he;cases he
end
end Go.Ide
namespace Go.Ide
section
variable {P:Ξ} {g:GM} {m:Mem} {S:Nat->Prop} {w:Ε}
theorem oZ {t:Ty}{cs:List ο}{v:ο}{x:t.D}(h:dC t cs v)(j:bT S w t cs x):v.cells.toList=cs:=by
 unfold dC at h;split at h;subst h;rfl;subst h;rw [cells_one (bT.nt t j v (by simp))]
theorem sM {t:Ty}: ∀{parts:List (Nat×bu)} {vparts:List (Nat×ο)} {i:Nat} {xs:List t.D} {arr:Array ο},
 uy t i parts=some xs->bN (λ(p:Nat×bu) (q:Nat×ο)=>p.1=q.1/\VR g m S w p.2 q.2) parts vparts->(i+parts.length)*t.size<=arr.size->
 ∃r o,aa1 (λj=>some (j*t.size,t.size)) arr vparts=some r/\o.length=xs.length*t.size/\dV S w t xs o/\parts.length=xs.length/\
  r.toList=arr.toList.take (i*t.size)++o++arr.toList.drop ((i+xs.length)*t.size)
 |[],[],i,xs,arr,h,_,T=>by
  simp only [uy] at h;injection h with h;subst h;exact ⟨arr,[],rfl,by simp,λi hi=>by simp at hi,rfl,by simp⟩
 |(j,v)::parts,(j',u)::vparts,i,xs,arr,h,hp,T=>by
  obtain ⟨⟨hj,hv⟩,U⟩:=hp;have hj:j=j':=hj;subst hj;simp only [uy] at h;cases hb:Α i j with
  |false=>simp [hb] at h
  |true=>
   rw [hb] at h;simp only [cond_true] at h;have hb:=bR hb;subst hb;split at h;rename_i x l hx hl;injection h with h;subst h;obtain ⟨cs,hval,J⟩:=mY (S2:=S) (λ_ h=>h) ij.nil hx hv;have I:=oZ hval J;have mZ:=bT.len t cs x J;simp only [Ζ] at T;have nu:u.cells.size=t.size:=by rw [<-Ψ,I,mZ]
   have UK:(i+1)*t.size<=arr.size:=ϣ (Ρ _ (by omega)) T;rw [ϑ] at UK;have R:(u.cells.zipIdx.foldl (λcs (p:ο×Nat)=>cs.setIfInBounds (i*t.size+p.2) p.1) arr).toList=arr.toList.take (i*t.size)++cs++arr.toList.drop (i*t.size+cs.length):=by
    have:=rG (i*t.size) cs 0 arr (by omega);rw [<-aeY,aeP,I];simpa using this
   have aa:(u.cells.zipIdx.foldl (λcs (p:ο×Nat)=>cs.setIfInBounds (i*t.size+p.2) p.1) arr).size=arr.size:=by
    rw [<-Ψ,R];simp;omega
   obtain ⟨r,o,e1,e2,e3,e4,e5⟩:=sM (arr:=u.cells.zipIdx.foldl (λcs (p:ο×Nat)=>cs.setIfInBounds (i*t.size+p.2) p.1) arr) hl U (by rw [aa];rw [show i+1+parts.length=i+(parts.length+1) from by omega];exact T);refine ⟨r,cs++o,?_,by simp [mZ,e2,ϑ,ahi],?_,by simp [e4],?_⟩;simp only [aa1];rw [if_neg (by simp;omega)];exact e1;have h1:dV S w t [x] cs:=λk hk=>by
    have hk:k=0:=by simp at hk;exact hk
    subst hk;exact ⟨cs,λj _=>by simp,by simpa using J⟩
   have:=dV.app (rest:=[]) h1 (by simp [mZ]) e3 e2;simpa using this;rw [e5,R];have hk:(i+1)*t.size=i*t.size+cs.length:=by rw [ϑ,mZ];omega
   have Rk:(arr.toList.take (i*t.size)++cs).length=(i+1)*t.size:=by rw [hk];simp;omega
   rw [List.take_append_of_le_length (by omega),List.take_of_length_le (by omega)];have hd:(i+1+l.length)*t.size=(arr.toList.take (i*t.size)++cs).length+l.length*t.size:=by rw [Rk,ϑ (i+1)]
   rw [hd,List.drop_append,ago];have:(i+(x::l).length)*t.size=i*t.size+cs.length+l.length*t.size:=by
    rw [Ζ,show i+(l.length+1)=(i+1)+l.length from by omega,ϑ (i+1),hk]
   rw [this];simp [ό];cases h
 |[],_::_,_,_,_,_,hp,_=>hp.elim
 |_::_,[],_,_,_,_,hp,_=>hp.elim
end
section
variable {cx:Cx} {g:GM} {st:St} {a:Act} {w w':Ε}
theorem mf {g:GM}{m:Mem}{S:Nat->Prop}{w:Ε}{t:Ty}{cs:List bs}{x:t.D}{ks:List Nat}{r:List bs}{vs:List ο}(h:(dc [] t cs).map (λp=>((p.1,([]:List Nat)),p.2))=some ((x,ks),r))(I:bN (CR g m S w) cs vs):
 ∃v1 v2,vs=v1++v2/\bT S w t v1 x/\bN (CR g m S w) r v2:=by
 cases j:dc [] t cs with
 |none=>rw [j] at h;cases h
 |some p=>
  rw [j] at h;obtain ⟨y,R⟩:=p;injection h with h;injection h with o J;injection o with o _;subst o;subst J;exact lf (λ_ h=>h) ij.nil j I
theorem pF {g:GM}{m:Mem}{S:Nat->Prop}{w:Ε}: ∀(t:Ty) {γ:List Nat->Option Nat} {o:Nat} {cs:List bs} {x:t.D} {ks:List Nat} {r:List bs} {vs:List ο},mb [] t cs=some ((x,ks),r)->bN (CR g m S w) cs vs->(∀p,γ p=none)->
 ∃v1 v2,vs=v1++v2/\de S w t γ o v1 x/\bN (CR g m S w) r v2
 | .own t,γ,o,cs,x,ks,r,vs,h,j,I=>by
  simp only [mb] at h;split at h;injection h with h;injection h with J R;injection J with J _;subst J;subst R;cases vs with
  |nil=>exact j.elim
  |cons v vs=>
   obtain ⟨a,ha⟩:=j.1;refine ⟨[v],vs,rfl,⟨v,rfl,?_,?_⟩,j.2⟩;rw [I];exact ⟨a,ha⟩;rw [I];rfl
  simp [fO] at h;cases h
 | .pair a b,γ,o,cs,x,ks,r,vs,h,j,I=>by
  simp only [mb] at h;split at h;rename_i y k1 r1 J;split at h;rename_i z k2 r2 R;injection h with h;injection h with T e2;injection T with T _;subst T;subst e2;obtain ⟨v1,v2,rfl,q1,q2⟩:=pF (γ:=γ) (o:=o) a J j I;obtain ⟨U,v4,rfl,q3,q4⟩:=pF (γ:=γ) (o:=o+a.size) b R q2 I;exact ⟨v1++U,v4,by simp,⟨v1,U,rfl,q1,q3⟩,q4⟩;cases h;cases h
 | .st t,γ,o,cs,x,ks,r,vs,h,j,I=>pF (γ:=γ) (o:=o) t (cs:=cs) (x:=x) h j I
 | .int k,_,_,_,_,_,_,_,h,j,_=>mf (t:= .int k) h j
 | .dB k,_,_,_,_,_,_,_,h,j,_=>mf (t:= .dB k) h j
 | .bool,_,_,_,_,_,_,_,h,j,_=>mf (t:= .bool) h j
 | .str,_,_,_,_,_,_,_,h,j,_=>mf (t:= .str) h j
 | .sl t,_,_,_,_,_,_,_,h,j,_=>mf (t:= .sl t) h j
 | .bx t,_,_,_,_,_,_,_,h,j,_=>mf (t:= .bx t) h j
 | .cl f t,_,_,_,_,_,_,_,h,j,_=>mf (t:= .cl f t) h j
theorem tM {T:Ι}{t:Ty}{len:Nat}{parts:List (Nat×bu)}{vparts:Array (Nat×ο)}{e:cB}(h:cG cx g st a w)(hw:fe st.mem e.new)(r:qR cx.P st.nx T t len parts=some e)(hp:bN (λ(p:Nat×bu) (q:Nat×ο)=>p.1=q.1/\VR g st.mem (cx.safe g st.mem w) w p.2 q.2) parts vparts.toList):fP cx st a w (Ϲ T len vparts) e:=by
 unfold qR at r;split at r;rename_i el hu;cases I:(((cX cx.P el==some t.size&&(((cx.P.info? el).bind (·.zero)).map λz=>Α z.cells.size t.size)==some true)&&(Α parts.length len&&ϩ (len*t.size) 65536))&&t.top) with
 |false=>rw [I] at r;cases r
 |true=>
  rw [I] at r;simp only [cond_true] at r;simp only [κ,beq_iff_eq] at I;obtain ⟨⟨⟨hs,R⟩,hn,N9⟩,qV⟩:=I;have hn:=bR hn;have N9:=iU N9;subst hn;split at r;rename_i xs hx;injection r with r;subst r;cases hi:cx.P.info? el with
  |none=>simp [cX,hi] at hs
  |some i=>
   rw [hi] at R;simp only [Option.bind_some] at R;cases Oa:i.zero with
   |none=>simp [Oa] at R
   |some z=>
    rw [Oa] at R;have R:Α z.cells.size t.size=true:=by simpa using R
    have R:=bR R;let base:Array ο:=(abT (parts.length*t.size)).map λk=>(if parts.length*t.size=0 then #[] else z.cells)[k%(if parts.length*t.size=0 then #[] else z.cells).size]!;have UL:base.size=parts.length*t.size:=by simp [base]
    obtain ⟨o,news,e1,e2,e3,e4,e5⟩:=sM (g:=g) (m:=st.mem) (S:=cx.safe g st.mem w) (w:=w) (arr:=base) hx hp (by rw [UL,Υ];exact φ _);have uC:(Ϲ T parts.length vparts).run cx.P w= .ok (.slice (some ⟨w.heap.size,0,none⟩) parts.length parts.length) (w.alloc (.cells o el)):=by
     have U: ¬(16777216<parts.length*t.size):=by omega
     by_cases h0:parts.length*t.size=0;have J:aa1 (λj=>some (j*t.size,t.size)) ((abT (parts.length*t.size)).map λk=>(#[]:Array ο)[k%(#[]:Array ο).size]!) vparts.toList=some o:=by
      have:=e1;simp only [base,h0,if_true] at this;rw [h0];exact this
     simp only [Ϲ,Ϙ,run_underlying hu,ϋ,cA hs];simp [h0,U] at J⊢;simp [J,newRow];have J:aa1 (λj=>some (j*t.size,t.size)) ((abT (parts.length*t.size)).map λk=>z.cells[k%z.cells.size]!) vparts.toList=some o:=by
      have:=e1;simp only [base,h0,if_false] at this;exact this
     simp only [Ϲ,Ϙ,run_underlying hu,ϋ,cA hs];simp [h0,U,zeroValue,typeInfo,hi,Oa] at J⊢;simp [J,newRow]
    refine ⟨_,_,uC,?_⟩;have aa:o.toList=news:=by
     rw [e5,<-e4];simp only [aaY,Υ,List.take_zero,List.nil_append];rw [List.drop_of_length_le (by rw [Ψ,UL];exact φ _)];simp
    have H2:o.size=xs.length*t.size:=by rw [<-Ψ,aa,e2]
    refine oT.newAt (G:=[]) (up:=[]) (gk:=some w.heap.size) h hw ⟨rfl,rfl,rfl⟩ (.inl rfl) (bJ.alloc _ _ _) (.inl rfl) (λb I=>by injection I with I;left;omega) (λb I=>by injection I with I;subst I;exact (dm.new w o el).lt) (λS' hS=>⟨o,dm.new w o el,?_⟩) ?_;refine eI.k9 qV (dV.toR ?_);rw [aa];exact λi hi=>by
     obtain ⟨es,k1,k2⟩:=e3 i hi;exact ⟨es,k1,bT.bt hS t es _ k2⟩
    refine ⟨xs.length,o,by rw [e4],φ _,dm.new w o el,by rw [H2];exact φ _,?_⟩;have:=t.size_pos;have h1:xs.length<=xs.length*t.size:=Nat.le_mul_of_pos_right _ this;rw [e4] at N9;unfold maxLen;omega
  cases r
 cases r
theorem uD {T:Ι}{t:Ty}{len cap:bu}{e:cB}{lv cv:ο}(h:cG cx g st a w)(hw:fe st.mem e.new)(U:sJ cx.P st.nx T t len cap=some e)(hc:bU e.cond)(hl:VR g st.mem (cx.safe g st.mem w) w len lv)(Ob:VR g st.mem (cx.safe g st.mem w) w cap cv):fP cx st a w (Instr.makeSlice T lv cv) e:=by
 unfold sJ at U;split at U;rename_i el kl n kc c hu;split at U;rename_i i z0 hi r;cases R:(Α i.size t.size&&ϩ i.bytes 32768) with
 |false=>simp [R] at U
 |true=>
  rw [R] at U;simp only [cond_true] at U;simp only [κ] at R;have ag:=bR R.1;have BU:=iU R.2;injection U with U;subst U;obtain ⟨⟨h0,h1,h2⟩,_⟩:=hc;have e1:=dH (g:=g) (m:=st.mem) (S:=cx.safe g st.mem w) (w:=w) hl;have e2:=dH (g:=g) (m:=st.mem) (S:=cx.safe g st.mem w) (w:=w) Ob;subst e1;subst e2;obtain ⟨k,rfl⟩:=aeu (show (0:Int)<=c from aeG h0 h1);obtain ⟨k0,rfl⟩:=aeu (show (0:Int)<=n from h0);have hk:k<=4294967296:=by have:((k:Nat):Int)<=4294967296:=h2;omega
  have M3:k0<=k:=by have:((k0:Nat):Int)<=((k:Nat):Int):=h1;omega
  unfold tA at r;rw [hi] at r;cases af:i.zero with
  |none=>simp [af] at r
  |some z=>
   simp only [af] at r;have aa:(i.bytes:Int)*(k:Int)<=281474976710656:=by
    have:i.bytes*k<=32768*4294967296:=aaB BU hk;have h3:((i.bytes*k:Nat):Int)<=281474976710656:=by omega
    rwa [Int.natCast_mul] at h3
   have ad:=run_make (P:=cx.P) w T el i z hu hi af kl kc (k0:Int) (k:Int) (by omega) h1 aa (by omega);refine ⟨_,_,ad,?_⟩;have I: ∀(S':Nat->Prop) (w':Ε) (γ:List Nat->Option Nat),(∀p,γ p=none)->de S' w' t γ 0 z.cells.toList z0:=λS' w' γ hγ=>by
    split at r;rename_i qV;obtain ⟨cs,hval,I⟩:=mY (g:=⟨λ_ _=>none⟩) (m:=[]) (S:=S') (S2:=S') (λ_ h=>h) ij.nil r (qd (w:=w') z);rw [oZ hval I];exact de.qQ t qV I;split at r;rename_i Al;split at r;rename_i x hx;injection r with r;subst r;obtain ⟨v1,v2,e,h1,h2⟩:=pF (g:=⟨λ_ _=>none⟩) (m:=[]) (S:=S') (w:=w') (γ:=γ) (o:=0) t hx (ky z Al) hγ;have:v2=[]:=by cases v2 with|nil=>rfl|cons=>exact h2.elim
    subst this;rw [ϴ] at e;rw [e];exact h1;cases r;cases r
   have J:z.cells.size=t.size:=by rw [<-Ψ];exact de.len t (I (λ_=>True) w (λ_=>none) (λ_=>rfl))
   have XP:=t.size_pos;simp only [Β] at ad⊢;have ab: ∀q,q<k*t.size->(madeCells z.cells (k*i.size))[q]? =z.cells[q%t.size]? :=λq hq=>by
    have iH:k*t.size≠0:=by omega
    have ae:q%t.size<z.cells.size:=by rw [J];exact aa7 _ XP
    rw [ag];simp [madeCells,hq,J,aak ae,getElem!_pos z.cells (q%t.size) ae]
   have UM:(madeCells z.cells (k*i.size)).size=k*t.size:=by rw [ag];simp [madeCells]
   refine oT.newAt (G:=[]) (up:=[]) (gk:=some w.heap.size) h hw ⟨rfl,rfl,rfl⟩ (.inl rfl) (bJ.alloc _ _ _) (.inl rfl) (λb R=>by injection R with R;left;omega) (λb R=>by injection R with R;subst R;exact (dm.new w _ el).lt) (λS' hS=>⟨_,dm.new w _ el,?_⟩) ?_;intro i' BK;simp only [List.length_replicate,Β] at BK;refine ⟨z.cells.toList,λj u hj=> ?_,?_⟩;have M4:j<t.size:=by rw [<-J,<-Ψ];exact (ψ.1 hj).1
   have hlt:i'*t.size+j<k*t.size:=by
    have:(i'+1)*t.size<=k*t.size:=Ρ _ (by omega);rw [ϑ] at this;omega
   rw [ab _ hlt];have:(i'*t.size+j)%t.size=j:=by rw [ahi,aay,Nat.add_mul_mod_self_left];exact Nat.mod_eq_of_lt M4
   rw [this,<-ϥ];exact hj;simp only [List.getElem_replicate];exact I _ _ _ (λp=>rfl);refine ⟨k,_,by simp,by simpa using M3,dm.new w _ el,by rw [UM];exact φ _,by unfold maxLen;omega⟩
 cases U;cases U
theorem cG.grow {w':Ε}(h:cG cx g st a w)(j:bJ [] w w'):cG cx g (st.iT st.mem st.nx) a w':=h.tC (G:=[]) ⟨j,λb p=>(by simp at p),λ_ _=>rfl,λk r j=> .inl ⟨j,λ_ b _ _ p=>by simp at p⟩,λk r j o=>by
 rw [j] at o;cases o⟩
theorem Am {T:Ι}{len:Nat}{parts:List (Nat×bu)}{vparts:Array (Nat×ο)}{e:cB}(h:cG cx g st a w)(j:DF cx.P T len parts=some e)(hp:bN (λ(p:Nat×bu) (q:Nat×ο)=>p.1=q.1/\VR g st.mem (cx.safe g st.mem w) w p.2 q.2) parts vparts.toList):fP cx st a w (Ϲ T len vparts) e:=by
 unfold DF at j;split at j;rename_i R hu;cases r:(((cX cx.P R).isSome&&Α len 0)&&parts.isEmpty) with
 |false=>rw [r] at j;cases j
 |true=>
  rw [r] at j;simp only [cond_true] at j;simp only [κ,List.isEmpty_iff] at r;obtain ⟨⟨t,I⟩,J⟩:=r;have I:=bR I;subst I;subst J;obtain ⟨k,t⟩:=abl.1 t;have hv:vparts= #[]:=by
   cases U:vparts.toList with
   |nil=>exact Array.toList_eq_nil_iff.1 U
   |cons x xs=>rw [U] at hp;exact hp.elim
  subst hv;have o:(Ϲ T 0 #[]).run cx.P w= .ok (.slice (some ⟨w.heap.size,0,none⟩) 0 0) (w.alloc (.cells #[] R)):=by
   simp only [Ϲ,Ϙ,run_underlying hu,ϋ,cA t];simp [newRow,aa1]
   congr 2
   apply aaU;simp
  injection j with j;subst j;exact ⟨_,_,o,g,h.grow (bJ.alloc _ _ _),_,rfl⟩
 cases j
end
end Go.Ide
namespace Go.Ide
section
variable {cx:Cx} {g:GM} {st:St} {a:Act} {w w':Ε}
structure HN (g:GM)(st:St)(w w':Ε)(c b:Nat)(p0:List Nat)(ch pq:Chunk):Prop where
 lk:Ide.lk c st.mem=some ch
 FC:ch.owns p0
 at_:g.f c p0=some b
 bt:bJ [b] w w'
 sz: ∃arr dZ,dm w b arr/\dm w' b dZ/\dZ.size=arr.size
 owns: ∀p,pq.owns p->ch.owns p
 ng:pq≠ .gone
 shape: ∀t xs,pq.wC t xs-> ∃ig,ch.wC t ig/\ig.length=xs.length
 rows: ∀t ig,pq= .seq t ig-> ∃xs,ch= .seq t xs/\cy t xs ig
theorem HN.dm {c b:Nat}{p0:List Nat}{ch r:Chunk}(q:HN g st w w' c b p0 ch r){p:Nat}{pZ:Array ο}(o:dm w p pZ): ∃j,Ide.dm w' p j/\j.size=pZ.size:=by
 by_cases e:p=b;subst e;obtain ⟨arr,j,t,I,J⟩:=q.sz;have:=o.eq t;subst this;exact ⟨j,I,J⟩;exact ⟨pZ,o.bt (q.bt.block p o.lt (by simp [e])),rfl⟩
theorem HN.stays {c b:Nat}{p0:List Nat}{ch I:Chunk}(q:HN g st w w' c b p0 ch I):
 iG g g st.mem ((c,I)::st.mem) (cx.safe g st.mem w) (cx.safe g ((c,I)::st.mem) w') w w':=by
 refine ⟨⟨λT hs=> ?_,λk R=>⟨by rw [bB];split<;>simp_all,rfl⟩,λk t U R r=> ?_,λk t U T pZ R r om ad=>q.dm ad⟩,λ_ _=>rfl,λk t J R r=> ?_⟩;obtain ⟨h1,h2,h3⟩:=hs;have iH:T≠b:=λe=>h3 ⟨c,p0,ch,q.lk,q.FC,by rw [e];exact q.at_⟩;refine ⟨⟨ϖ h1 q.bt.size,h2,?_⟩,q.bt.block T h1 (by simp [iH])⟩;rintro ⟨k,p,c0,j,aa,ab⟩;rw [bB] at j;by_cases e:k=c;subst e;rw [if_pos rfl] at j;injection j with j;subst j;exact h3 ⟨k,p,ch,q.lk,q.owns p aa,ab⟩;rw [if_neg e] at j;exact h3 ⟨k,p,c0,j,aa,ab⟩;by_cases e:k=c;subst e;have uA:=(du.of (ch:=I) (by rw [bB,if_pos rfl])).1 r;obtain ⟨J,e1,e2⟩:=q.shape t U uA;exact ⟨J,(du.of q.lk).2 e1,e2⟩;refine ⟨U,?_,rfl⟩;unfold du at r⊢;rw [bB,if_neg e] at r;exact r;rw [bB] at r;by_cases e:k=c;subst e;rw [if_pos rfl] at r;injection r with r;obtain ⟨U,e1,e2⟩:=q.rows t J r;exact ⟨U,by rw [q.lk,e1],e2,λi o T arr hg hb=>q.dm hb⟩;rw [if_neg e] at r;exact ⟨J,r,cy.refl _ _,λi o T arr hg hb=>q.dm hb⟩
theorem cG.M5 (h:cG cx g st a w){c b:Nat}{p0:List Nat}{ch j:Chunk}(q:HN g st w w' c b p0 ch j)(hc:jc g ((c,j)::st.mem) (cx.safe g ((c,j)::st.mem) w') w' (g.f c) j):cG cx g (st.iT ((c,j)::st.mem) st.nx) a w':=by
 have t:vL cx g g st.mem ((c,j)::st.mem) w w' [b]:=by
  refine ⟨q.bt,λb' T=>by simp at T;subst T;exact ⟨c,p0,ch,q.lk,q.FC,q.at_⟩,λ_ _=>rfl,λk c0 o=> ?_,λk c0 o r=> ?_⟩;by_cases e:k=c;subst e;rw [q.lk] at o;injection o with o;subst o;exact .inr (.inr ⟨Chunk.oW q.FC,j,by rw [bB,if_pos rfl],q.ng,q.owns,q.shape,q.rows,λp U aa _ I J=>q.dm J,hc⟩);refine .inl ⟨by rw [bB,if_neg e];exact o,λp U R I hm=> ?_⟩;simp at hm;subst hm;exact e (h.fV k c p p0 c0 ch U o R q.lk q.FC I q.at_).1;rw [bB] at r;by_cases e:k=c;subst e;rw [q.lk] at o;cases o;rw [if_neg e,o] at r;cases r
 exact h.tC t
def BV (cx:Cx)(st:St)(a:Act)(w:Ε)(s:Sem Unit)(e:cB):Prop:=
 ∃w',s.run cx.P w= .ok () w'/\oT cx st a e undef w'
theorem ll {P:Ξ}{T:Ι}{n b o:Nat}{arr:Array ο}{v:ο}(I:cX P T=some n)(J:dm w b arr)(r:v.cells.toList.length=n)(R:o+n<=arr.size)(U: ∀x∈v.cells.toList,x.oneCell'=true):
 ∃w' j,(adj T (.pointer (some ⟨b,o,none⟩)) v).run P w= .ok () w'/\dm w' b j/\j.toList=arr.toList.take o++v.cells.toList++arr.toList.drop (o+n)/\bJ [b] w w'/\j.size=arr.size:=by
 obtain ⟨w',j,e,k1,p,k3,k4⟩:=ed (P:=P) v.cells.toList o 0 w arr J (by omega) U;simp only [ϧ] at p;rw [r] at p;refine ⟨w',j,?_,k1,p,k3,?_⟩;have t:v.cells.size=n:=by rw [<-Ψ];exact r
 simp [adj,aat,storeVar,cA I,t,e];rw [<-Ψ,p];simp [r];omega
def CE (g:GM)(m:Mem)(S:Nat->Prop)(w:Ε)(γ:List Nat->Option Nat)(o:Nat)(c:bs)(v:ο):Prop:=
 match c with
 | .bp (.own e) y=>de S w (.own e) γ o [v] y
 |c=>CR g m S w c v
def mg (g:GM)(m:Mem)(S:Nat->Prop)(w:Ε)(γ:List Nat->Option Nat):Nat->List bs->List ο->Prop
 |_,[],[]=>True
 |o,c::cs,v::j=>CE g m S w γ o c v/\mg g m S w γ (o+1) cs j
 |_,_,_=>False
section
variable {m:Mem} {S:Nat->Prop} {γ:List Nat->Option Nat}
theorem mg.append: ∀{o:Nat} {cs j:List bs} {vs p:List ο},mg g m S w γ o cs vs->mg g m S w γ (o+cs.length) j p->mg g m S w γ o (cs++j) (vs++p)
 |_,[],_,[],_,_,h=>h
 |o,_::cs,_,_::_,_,h,r=>⟨h.1,mg.append h.2 (by rw [show o+1+cs.length=o+(cs.length+1) from by omega];exact r)⟩
 |_,[],_,_::_,_,h,_=>h.elim
 |_,_::_,_,[],_,h,_=>h.elim
theorem mg.take: ∀(n:Nat) {o:Nat} {cs:List bs} {vs:List ο},mg g m S w γ o cs vs->mg g m S w γ o (cs.take n) (vs.take n)
 |0,_,_,_,_=>by simp [mg]
 |_+1,_,[],[],_=>by simp [mg]
 |n+1,_,_::_,_::_,h=>⟨h.1,mg.take n h.2⟩
 |_+1,_,[],_::_,h=>h.elim
 |_+1,_,_::_,[],h=>h.elim
theorem mg.drop: ∀(n:Nat) {o:Nat} {cs:List bs} {vs:List ο},mg g m S w γ o cs vs->mg g m S w γ (o+n) (cs.drop n) (vs.drop n)
 |0,_,_,_,h=>by simpa using h
 |n+1,o,[],[],_=>by simp [mg]
 |n+1,o,_::_,_::_,h=>by
  have:=mg.drop n h.2;rw [show o+1+n=o+(n+1) from by omega] at this;simpa using this
 |_+1,_,[],_::_,h=>h.elim
 |_+1,_,_::_,[],h=>h.elim
theorem CE.of {o:Nat}{c:bs}{v:ο}(j:c.HS=true)(h:CR g m S w c v):CE g m S w γ o c v:=by
 unfold CE;split;cases j;exact h
theorem mg.FD: ∀{o:Nat} {cs:List bs} {vs:List ο},cs.all bs.HS=true->bN (CR g m S w) cs vs->mg g m S w γ o cs vs
 |_,[],[],_,_=>trivial
 |_,_::_,_::_,j,h=>by
  simp only [aaT,κ] at j;exact ⟨CE.of j.1 h.1,mg.FD j.2 h.2⟩
 |_,[],_::_,_,h=>h.elim
 |_,_::_,[],_,h=>h.elim
theorem ln: ∀(t:Ty) (x:t.D),(gE t x).length=t.size
 | .int _,_=>rfl
 | .dB _,_=>rfl
 | .bool,_=>rfl
 | .str,_=>rfl
 | .sl _,_=>rfl
 | .bx _,_=>rfl
 | .cl _ _,_=>rfl
 | .own _,_=>rfl
 | .pair a b,x=>by simp only [gE,ω,ln a,ln b,Ty.size]
 | .st t,x=>ln t x
theorem An: ∀(t:Ty) {o:Nat} {cs:List ο} {x:t.D},de S w t γ o cs x->mg g m S w γ o (gE t x) cs
 | .int _,_,_,_,h=>by have h:=h;subst h;exact ⟨rfl,trivial⟩
 | .dB _,_,_,_,⟨b,e,h⟩=>by subst e;exact ⟨⟨b,rfl,h⟩,trivial⟩
 | .bool,_,_,_,h=>by have h:=h;subst h;exact ⟨rfl,trivial⟩
 | .str,_,_,_,h=>by have h:=h;subst h;exact ⟨rfl,trivial⟩
 | .sl t,_,_,_,⟨a,cap,e,h⟩=>by subst e;exact ⟨⟨a,cap,rfl,h⟩,trivial⟩
 | .bx t,_,_,_,⟨a,e,h⟩=>by subst e;exact ⟨⟨a,rfl,h⟩,trivial⟩
 | .cl f t,_,_,_,⟨j,p,e,h⟩=>by subst e;exact ⟨⟨j,p,rfl,h⟩,trivial⟩
 | .own t,_,_,_,⟨v,e,h⟩=>by subst e;exact ⟨⟨v,rfl,h⟩,trivial⟩
 | .pair a b,o,_,x,⟨J,R,e,r,I⟩=>by
  subst e;exact (An a r).append (by rw [ln];exact An b I)
 | .st t,_,_,_,h=>An t (cs:=_) h
theorem qh {t:Ty}(ht: ∀e,Ty.own e≠t)(J:t.size=1){o:Nat}{cs:List bs}{x:t.D}{r:List bs}{vs:List ο}(h:dc [] t cs=some (x,r))(p:mg g m S w γ o cs vs):
 ∃v1 v2,vs=v1++v2/\bT S w t v1 x/\mg g m S w γ (o+t.size) r v2:=by
 cases cs with
 |nil=>simp [dc] at h
 |cons c cs=>
  cases vs with
  |nil=>exact p.elim
  |cons v vs=>
   simp only [dc] at h;split at h;rename_i y j;injection h with h;injection h with R T;subst R;subst T;refine ⟨[v],vs,rfl,?_,by rw [J];exact p.2⟩;have I:=p.1;unfold CE at I;split at I;simp only [dF] at j;split at j;rename_i e;exact absurd e (ht _);cases j;exact qS (λ_ h=>h) ij.nil j I;cases h
theorem Ao: ∀(t:Ty) {o:Nat} {cs:List bs} {x:t.D} {r:List bs} {vs:List ο},impl [] t cs=some (x,r)->mg g m S w γ o cs vs->
 ∃v1 v2,vs=v1++v2/\de S w t γ o v1 x/\mg g m S w γ (o+t.size) r v2
 | .int k,_,_,_,_,_,h,j=>qh (t:= .int k) (λ_ e=>by cases e) rfl h j
 | .dB k,_,_,_,_,_,h,j=>qh (t:= .dB k) (λ_ e=>by cases e) rfl h j
 | .bool,_,_,_,_,_,h,j=>qh (t:= .bool) (λ_ e=>by cases e) rfl h j
 | .str,_,_,_,_,_,h,j=>qh (t:= .str) (λ_ e=>by cases e) rfl h j
 | .sl t,_,_,_,_,_,h,j=>qh (t:= .sl t) (λ_ e=>by cases e) rfl h j
 | .bx t,_,_,_,_,_,h,j=>qh (t:= .bx t) (λ_ e=>by cases e) rfl h j
 | .cl f t,_,_,_,_,_,h,j=>qh (t:= .cl f t) (λ_ e=>by cases e) rfl h j
 | .own t,o,cs,x,r,vs,h,j=>by
  simp only [impl] at h;cases cs with
  |nil=>simp [dc] at h
  |cons c cs=>
   cases vs with
   |nil=>exact j.elim
   |cons v vs=>
    simp only [dc] at h;split at h;rename_i y p;injection h with h;injection h with I J;subst I;subst J;refine ⟨[v],vs,rfl,?_,j.2⟩;cases c<;>simp only [dF] at p<;>first|cases p|skip
    rename_i t' q;split at p;rename_i e;subst e;injection p with p;subst p;exact j.1;cases p;cases h
 | .st t,_,_,_,_,_,h,j=>Ao t h j
 | .pair a b,o,cs,x,r,vs,h,j=>by
  simp only [impl] at h;split at h;rename_i y r1 T;split at h;rename_i z r2 U;injection h with h;injection h with I J;subst I;subst J;obtain ⟨v1,v2,rfl,k1,k2⟩:=Ao a T j;obtain ⟨R,v4,rfl,k3,k4⟩:=Ao b U k2;refine ⟨v1++R,v4,by simp,⟨v1,R,rfl,k1,k3⟩,?_⟩;rw [show o+(Ty.pair a b).size=o+a.size+b.size from by simp only [Ty.size];omega];exact k4;cases h;cases h
end
theorem DT {arr p:Array ο}{o vs:List ο}{i sz off n:Nat}(hl:o.length=sz)(t: ∀j v,o[j]? =some v->arr[i*sz+j]? =some v)(I:vs.length=n)(U:off+n<=sz)(R:i*sz+sz<=arr.size)(k2:p.toList=arr.toList.take (i*sz+off)++vs++arr.toList.drop (i*sz+off+n)): ∀j v,(o.take off++vs++o.drop (off+n))[j]? =some v->p[i*sz+j]? =some v:=by
 intro j v T;have J:j<sz:=by
  have:=(ψ.1 T).1;simp at this;omega
 have r: ∀j,j<sz->arr.toList[i*sz+j]? =o[j]? :=λj J=>by
  rw [Γ (by omega:j<o.length),ϥ];exact t j _ (Γ (by omega))
 rw [<-ϥ,k2,<-T];by_cases h1:j<off;rw [ό,Μ (by simp;omega),ϐ,if_pos (by omega),ό,Μ (by simp;omega),ϐ,if_pos h1];exact r j J;by_cases h2:j<off+n;rw [ό,Κ (by simp;omega),Μ (by simp;omega),ό,Κ (by simp;omega),Μ (by simp;omega)]
 congr 1
 simp;omega;rw [Κ (by simp;omega),Κ (by simp;omega),aaJ,aaJ];simp only [ω,ϙ,Ψ,I];rw [show i*sz+off+n+(i*sz+j - (min (i*sz+off) arr.size+n))=i*sz+j by omega,show off+n+(j - (min off o.length+n))=j by omega];exact r j J
theorem Ap {arr o:Array ο}{vs:List ο}{i sz off n:Nat}(r:vs.length=n)(t:off+n<=sz)(p:i*sz+sz<=arr.size)(k2:o.toList=arr.toList.take (i*sz+off)++vs++arr.toList.drop (i*sz+off+n)){q:Nat}(J:q≠i){j:Nat}(R:j<sz):o[q*sz+j]? =arr[q*sz+j]? :=by
 rw [<-ϥ,<-ϥ,k2];by_cases I:q<i;have:(q+1)*sz<=i*sz:=Ρ _ (by omega);rw [ϑ] at this;rw [ό,Μ (by simp;omega),ϐ,if_pos (by omega)];have:(i+1)*sz<=q*sz:=Ρ _ (by omega);rw [ϑ] at this;rw [Κ (by simp;omega),aaJ]
 congr 1
 simp;omega
theorem DU {arr:Array ο}{es:List ο}{i sz:Nat}(p:0<sz)(r:es.length=sz)(o: ∀j v,es[j]? =some v->arr[i*sz+j]? =some v):i*sz+sz<=arr.size:=by
 have:=o (sz - 1) es[sz - 1] (Γ (by omega));have:=(Ϣ.1 this).1;omega
theorem pG {t o:Ty}{xs:List t.D}{j:List o.D}(h:(Chunk.seq t xs).wC o j): ∃e:t=o,e▸xs=j:=by
 rcases h with h|⟨_,_,_,h⟩
 injection h with p r;subst p;exact ⟨rfl,eq_of_heq r⟩;cases h
theorem jv {m:Mem}{t:Ty}{cs:List bs}{x:t.D}{r:List bs}(h:dc m t cs=some (x,r)):r=cs.drop 1:=by
 cases cs with
 |nil=>simp [dc] at h
 |cons c cs=>
  simp only [dc] at h;split at h;injection h with h;injection h with _ h;exact h.symm
  cases h
theorem rJ {m:Mem}: ∀(t:Ty) {cs:List bs} {x:t.D} {r:List bs},impl m t cs=some (x,r)->r=cs.drop t.size
 | .int k,_,_,_,h=>jv (t:= .int k) h
 | .dB k,_,_,_,h=>jv (t:= .dB k) h
 | .bool,_,_,_,h=>jv (t:= .bool) h
 | .str,_,_,_,h=>jv (t:= .str) h
 | .sl t,_,_,_,h=>jv (t:= .sl t) h
 | .bx t,_,_,_,h=>jv (t:= .bx t) h
 | .cl f t,_,_,_,h=>jv (t:= .cl f t) h
 | .own t,_,_,_,h=>jv (t:= .own t) h
 | .st t,_,_,_,h=>rJ t h
 | .pair a b,cs,x,r,h=>by
  simp only [impl] at h;split at h;rename_i y I j;split at h;rename_i z J o;injection h with h;injection h with _ p;subst p;rw [rJ b o,rJ a j,ago];rfl;cases h;cases h
theorem rK: ∀(t:Ty) {cs:List bs} {x:t.D} {r:List bs} {o:Nat} {e:Ty} {ys:List e.D},impl [] t cs=some (x,r)->dU t x o=some ⟨e,ys⟩->cs[o]? =some (.bp (.own e) ys)
 | .int _,_,_,_,_,_,_,_,j=>by cases j
 | .dB _,_,_,_,_,_,_,_,j=>by cases j
 | .bool,_,_,_,_,_,_,_,j=>by cases j
 | .str,_,_,_,_,_,_,_,j=>by cases j
 | .sl _,_,_,_,_,_,_,_,j=>by cases j
 | .bx _,_,_,_,_,_,_,_,j=>by cases j
 | .cl _ _,_,_,_,_,_,_,_,j=>by cases j
 | .st t,_,x,_,_,_,_,h,j=>rK t (x:=x) h j
 | .own t,cs,x,r,o,e,ys,h,j=>by
  cases o with
  |succ o=>cases j
  |zero=>
   have j:some (⟨t,x⟩:Σ e:Ty,List e.D)=some ⟨e,ys⟩:=j;injection j with j;injection j with J I;subst J;have I:=eq_of_heq I;subst I;simp only [impl] at h;cases cs with
   |nil=>simp [dc] at h
   |cons c cs=>
    simp only [dc] at h;split at h;rename_i y p;injection h with h;injection h with R _;subst R;cases c<;>simp only [dF] at p<;>first|cases p|skip
    rename_i U q;split at p;rename_i e;subst e;injection p with p;subst p;rfl;cases p;cases h
 | .pair a b,cs,x,r,o,e,ys,h,j=>by
  simp only [impl] at h;split at h;rename_i y r1 J;split at h;rename_i z r2 I;injection h with h;injection h with R e2;subst R;unfold dU at j;by_cases T:o<a.size;rw [nS.2 T] at j;exact rK a J j;rw [kO T] at j;have:=rK b I j;rw [rJ a J,aaJ,show a.size+(o - a.size)=o from by omega] at this;exact this;cases h;cases h
theorem rL: ∀(t:Ty) {x:t.D} {o:Nat} {e:Ty} {ys:List e.D},(gE t x)[o]? =some (.bp (.own e) ys)->dU t x o=some ⟨e,ys⟩
 | .int _,x,o,e,ys,h=>by cases o<;>simp [gE] at h
 | .dB _,x,o,e,ys,h=>by cases o<;>simp [gE] at h
 | .bool,x,o,e,ys,h=>by cases o<;>simp [gE] at h
 | .str,x,o,e,ys,h=>by cases o<;>simp [gE] at h
 | .sl _,x,o,e,ys,h=>by cases o<;>simp [gE] at h
 | .bx _,x,o,e,ys,h=>by cases o<;>simp [gE] at h
 | .cl _ _,x,o,e,ys,h=>by cases o<;>simp [gE] at h
 | .st t,x,o,e,ys,h=>rL t (x:=x) h
 | .own t,x,o,e,ys,h=>by
  cases o with
  |succ o=>simp [gE] at h
  |zero=>
   simp only [gE,List.getElem?_cons_zero] at h;injection h with h;injection h with j p;injection j with j;subst j;have p:=eq_of_heq p;subst p;rfl
 | .pair a b,x,o,e,ys,h=>by
  unfold dU;simp only [gE] at h;by_cases r:o<a.size;rw [nS.2 r];rw [Μ (by rw [ln];exact r)] at h;exact rL a h;rw [kO r];rw [Κ (by rw [ln];omega),ln] at h;exact rL b h
theorem DV {t:Ty}{j x:t.D}{cs:List bs}{off:Nat}(p:cs.all bs.HS=true)(r:off+cs.length<=t.size)(h:impl [] t ((gE t j).take off++cs++(gE t j).drop (off+cs.length))=some (x,[])){o:Nat}{e:Ty}{ys:List e.D}(I:dU t x o=some ⟨e,ys⟩):
 dU t j o=some ⟨e,ys⟩:=by
 have:=rK t h I;apply rL;have J:=ln t j;by_cases R:o<off;rw [ό,Μ (by simp;omega),ϐ,if_pos R] at this;exact this;by_cases T:o<off+cs.length;rw [ό,Κ (by simp;omega),Μ (by simp;omega)] at this;have:=List.all_eq_true.1 p _ (aaG this);cases this;rw [Κ (by simp;omega),aaJ] at this;simp only [ω,ϙ,J] at this;rw [show off+cs.length+(o - (min off t.size+cs.length))=o from by omega] at this;exact this
theorem de.BW {S S':Nat->Prop}{w w':Ε}(h: ∀b,S b->S' b/\w'.heap[b]? =w.heap[b]?): ∀(t:Ty) {γ:List Nat->Option Nat} {o:Nat} {cs:List ο} {x:t.D},
 (∀q p b,o<=q->q<o+t.size->γ (q::p)=some b->w'.heap[b]? =w.heap[b]?)->de S w t γ o cs x->de S' w' t γ o cs x
 | .own t,γ,o,cs,xs,j,⟨v,e,ha,r⟩=>by
  have j:=λp b=>j o p b (φ _) (by simp [Ty.size]);refine ⟨v,e,ha.stays λb arr J T=>⟨arr,T.bt (j _ b J),rfl⟩,?_⟩;cases J:γ [o] with
  |none=>rw [J] at r;exact r
  |some b=>
   rw [J] at r;obtain ⟨arr,T,hi⟩:=r;exact ⟨arr,T.bt (j _ b J),λi hl=>let ⟨es,I,R⟩:=hi i hl;⟨es,I,de.bt h t (λp b hp=>j _ b hp) R⟩⟩
 | .pair a b,γ,o,cs,x,j,⟨c1,c2,e,I,R⟩=>⟨c1,c2,e,de.BW h a (λq p U I R=>j q p U I (by simp only [Ty.size];omega)) I,de.BW h b (λq p U I R=>j q p U (by omega) (by simp only [Ty.size];omega)) R⟩
 | .st t,γ,o,cs,x,j,r=>de.BW h t (o:=o) (cs:=cs) (x:=x) j r
 | .int k,_,_,cs,x,_,r=>bT.bt h (.int k) cs x r
 | .dB k,_,_,cs,x,_,r=>bT.bt h (.dB k) cs x r
 | .bool,_,_,cs,x,_,r=>bT.bt h .bool cs x r
 | .str,_,_,cs,x,_,r=>bT.bt h .str cs x r
 | .sl t,_,_,cs,x,_,r=>bT.bt h (.sl t) cs x r
 | .bx t,_,_,cs,x,_,r=>bT.bt h (.bx t) cs x r
 | .cl f t,_,_,cs,x,_,r=>bT.bt h (.cl f t) cs x r
theorem de.put {S S':Nat->Prop}{w w':Ε}(h: ∀b,S b->S' b/\w'.heap[b]? =w.heap[b]?): ∀(t:Ty) {γ:List Nat->Option Nat} {J o:Nat} {cs:List ο} {x:t.D} {e:Ty} {ys r:List e.D},
 de S w t γ J cs x->dU t x o=some ⟨e,ys⟩->(∀q p b,q≠J+o->γ (q::p)=some b->w'.heap[b]? =w.heap[b]?)->
 (∀u,de S w (.own e) γ (J+o) [u] ys->de S' w' (.own e) γ (J+o) [u] r)->de S' w' t γ J cs (ux t x o e r)
 | .own t,γ,J,o,cs,xs,e,ys,r,hr,j,I,R=>by
  cases o with
  |succ o=>cases j
  |zero=>
   have j:some (⟨t,xs⟩:Σ e:Ty,List e.D)=some ⟨e,ys⟩:=j;injection j with j;injection j with h1 T;subst h1;have T:=eq_of_heq T;subst T;have hp:ux (.own t) xs 0 t r=r:=by simp [ux,cE]
   rw [hp];obtain ⟨v,e,h3⟩:=hr;subst e;exact R v ⟨v,rfl,h3⟩
 | .pair a b,γ,J,o,cs,x,e,ys,r,⟨c1,c2,ec,h1,T⟩,j,I,R=>by
  unfold dU at j;unfold ux;by_cases hb:o<a.size;rw [nS.2 hb] at j⊢;exact ⟨c1,c2,ec,de.put h a h1 j I R,de.BW h b (λq p U k1 k2 hp=>I q p U (by omega) hp) T⟩;rw [kO hb] at j⊢;refine ⟨c1,c2,ec,de.BW h a (λq p U k1 k2 hp=>I q p U (by omega) hp) h1,de.put h b T j (λq p U k hp=>I q p U (by omega) hp) ?_⟩;rw [show J+a.size+(o - a.size)=J+o from by omega];exact R
 | .st t,γ,J,o,cs,x,e,ys,r,hr,j,I,R=>de.put h t (cs:=cs) (x:=x) hr j I R
 | .int _,_,_,_,_,_,_,_,_,_,j,_,_=>by cases j
 | .dB _,_,_,_,_,_,_,_,_,_,j,_,_=>by cases j
 | .bool,_,_,_,_,_,_,_,_,_,j,_,_=>by cases j
 | .str,_,_,_,_,_,_,_,_,_,j,_,_=>by cases j
 | .sl _,_,_,_,_,_,_,_,_,_,j,_,_=>by cases j
 | .bx _,_,_,_,_,_,_,_,_,_,j,_,_=>by cases j
 | .cl _ _,_,_,_,_,_,_,_,_,_,j,_,_=>by cases j
theorem rM: ∀(t:Ty) {x:t.D} {o I:Nat} {e J:Ty} {ys p:List e.D} {zs:List J.D},dU t x o=some ⟨e,ys⟩->p.length=ys.length->dU t (ux t x o e p) I=some ⟨J,zs⟩->
 ∃U,dU t x I=some ⟨J,U⟩/\U.length=zs.length
 | .own t,x,o,I,e,J,ys,p,zs,j,T,h=>by
  cases o with
  |succ o=>cases j
  |zero=>
   cases I with
   |succ I=>cases h
   |zero=>
    have j:some (⟨t,x⟩:Σ e:Ty,List e.D)=some ⟨e,ys⟩:=j;injection j with j;injection j with h1 R;subst h1;have R:=eq_of_heq R;subst R;have hp:ux (.own t) x 0 t p=p:=by simp [ux,cE]
    rw [hp] at h;have h:some (⟨t,p⟩:Σ e:Ty,List e.D)=some ⟨J,zs⟩:=h;injection h with h;injection h with h1 R;subst h1;have R:=eq_of_heq R;subst R;exact ⟨x,rfl,T.symm⟩
 | .pair a b,x,o,I,e,J,ys,p,zs,j,T,h=>by
  unfold dU at j h⊢;unfold ux at h;by_cases hb:o<a.size;rw [nS.2 hb] at j h;by_cases r:I<a.size;rw [nS.2 r] at h⊢;exact rM a j T h;rw [kO r] at h⊢;exact ⟨zs,h,rfl⟩;rw [kO hb] at j h;by_cases r:I<a.size;rw [nS.2 r] at h⊢;exact ⟨zs,h,rfl⟩;rw [kO r] at h⊢;exact rM b j T h
 | .st t,x,o,I,e,J,ys,p,zs,j,T,h=>rM t (x:=x) j T h
 | .int _,_,_,_,_,_,_,_,_,j,_,_=>by cases j
 | .dB _,_,_,_,_,_,_,_,_,j,_,_=>by cases j
 | .bool,_,_,_,_,_,_,_,_,j,_,_=>by cases j
 | .str,_,_,_,_,_,_,_,_,j,_,_=>by cases j
 | .sl _,_,_,_,_,_,_,_,_,j,_,_=>by cases j
 | .bx _,_,_,_,_,_,_,_,_,j,_,_=>by cases j
 | .cl _ _,_,_,_,_,_,_,_,_,j,_,_=>by cases j
theorem tN {T:Ι}{x v:bu}{e:cB}{xa va:ο}(h:cG cx g st a w)(I:qa cx.P st.mem T x v=some e)(hc:bU e.cond)(hx:VR g st.mem (cx.safe g st.mem w) w x xa)(hv:VR g st.mem (cx.safe g st.mem w) w v va):BV cx st a w (adj T xa va) e:=by
 unfold qa at I;split at I;rename_i c off n hs;split at I;rename_i cs hl;cases hb:((Α v.cells.length n&&ϩ (off+n) cs.length)&&v.ok) with
 |false=>simp [hb] at I
 |true=>
  rw [hb] at I;simp only [cond_true] at I;simp only [κ] at hb;obtain ⟨⟨hn,R⟩,Al⟩:=hb;have hn:=bR hn;have R:=iU R;injection I with I;subst I;obtain ⟨_,J,om,Oc⟩:=hx;subst Oc;obtain ⟨b,arr,hg,U,gx⟩:=h.mem c _ hl;have om:g.f c []=some J:=om;rw [hg] at om;injection om with om;subst om;obtain ⟨vs,yH,so⟩:=jH Al hv;have M6:=so.length;have rN:=gx.length;simp only [Ψ] at rN;obtain ⟨w',aa,uC,k1,k2,k3,k4⟩:=ll (P:=cx.P) (o:=off) hs U (v:=va) (by rw [yH];omega) (by omega) (qe Al hv);have q:HN g st w w' c b [] (.box cs) (.box (cs.take off++v.cells++cs.drop (off+n))):=
   ⟨hl,trivial,hg,k3,⟨arr,aa,U,k1,k4⟩,λ_ _=>trivial,by simp,λt xs e=>(by rcases e with e|⟨_,_,_,e⟩<;>cases e),λt xs e=>(by cases e)⟩
  refine ⟨w',uC,g,?_,trivial⟩;refine h.M5 q ⟨b,aa,hg,k1,?_⟩;rw [k2,yH];exact (((gx.take off).append so).append (gx.drop _)).mono λ_ _=>CR.stays q.stays
 cases I;rename_i c i sz off n hs;split at I;rename_i t xs hl;cases hb:((Α v.cells.length n&&ϩ (off+n) t.size)&&(Α sz t.size&&v.ok)&&v.cells.all bs.HS) with
 |false=>simp [hb] at I
 |true=>
  rw [hb] at I;simp only [cond_true] at I;simp only [κ] at hb;obtain ⟨⟨⟨hn,R⟩,hz,Al⟩,M7⟩:=hb;have hn:=bR hn;have R:=iU R;have hz:=bR hz;split at I;rename_i x TP;injection I with I;subst I;have hi:i<xs.length:=hc.1;obtain ⟨_,b,om,Oc⟩:=hx;subst Oc;have je:=h.mem c _ hl;have hg:g.f c []=some b:=om;unfold jc at je;rw [hg] at je;obtain ⟨arr,U,ma⟩:=je;obtain ⟨KO,DW,BX,KP⟩:=ma.at_ hi;obtain ⟨vs,yH,so⟩:=jH Al hv;have M6:=so.length;have BY:=An (g:=g) (m:=st.mem) t KP;have hE:mg g st.mem (cx.safe g st.mem w) w (λp=>g.f c (i::p)) 0 ((gE t (xs.getD i t.eY)).take off++v.cells++(gE t (xs.getD i t.eY)).drop (off+n)) (KO.take off++vs++KO.drop (off+n)):=by
   refine ((BY.take off).append (mg.FD M7 so)).append ?_;have:=BY.drop (off+n);rw [show 0+(List.take off (gE t (xs.getD i t.eY))++v.cells).length=0+(off+n) from by simp [ln,hn];omega];exact this
  obtain ⟨cs,v2,Rl,lh,Rm⟩:=Ao t TP hE;have:v2=[]:=by cases v2 with|nil=>rfl|cons=>exact Rm.elim
  subst this;rw [ϴ] at Rl;have kY:=DU t.size_pos DW BX;subst hz;obtain ⟨w',aa,uC,k1,k2,k3,k4⟩:=ll (P:=cx.P) (o:=i*t.size+off) hs U (v:=va) (by rw [yH];omega) (by omega) (qe Al hv);rw [yH] at k2;have q:HN g st w w' c b [] (.seq t xs) (.seq t (xs.set i x)):=
   ⟨hl,trivial,hg,k3,⟨arr,aa,U,k1,k4⟩,λ_ _=>trivial,by simp,λt' ig e=>by
    obtain ⟨e,e2⟩:=pG e;subst e;subst e2;exact ⟨xs,.inl rfl,by simp⟩,λt' ig e=>by
    injection e with e1 e2;subst e1;have e2:=eq_of_heq e2;subst e2;refine ⟨xs,rfl,by simp,λq o e QH qg=> ?_⟩;by_cases DX:q=i;subst DX;rw [show (xs.set q x).getD q t.eY=x from by simp [ε,hi]] at qg;exact ⟨QH,DV M7 (by rw [hn];exact R) (by rw [hn];exact TP) qg,rfl⟩;rw [show (xs.set i x).getD q t.eY=xs.getD q t.eY from by simp [ε,aeQ (λe=>DX e.symm)]] at qg;exact ⟨QH,qg,rfl⟩⟩
  refine ⟨w',uC,g,?_,trivial⟩;refine h.M5 q ?_;unfold jc;rw [hg];have ab: ∀p J,g.f c (p)=some J->p≠[]->w'.heap[J]? =w.heap[J]? :=λp J hp iH=>by
   refine k3.block J (h.lt c p _ J hl trivial hp) ?_;intro hm;simp at hm;subst hm;exact iH (h.fV c c p [] _ _ J hl trivial hl trivial hp hg).2
  refine ⟨aa,k1,λqq hq=> ?_⟩;have TQ:qq<xs.length:=by simpa using hq
  by_cases DX:qq=i;subst DX;refine ⟨cs,?_,?_⟩;rw [<-Rl];exact DT DW BX (by omega) R kY k2;rw [acF];exact de.bt q.stays.safe t (λp J hp=>ab _ J hp (by simp)) lh;obtain ⟨es,e1,e2⟩:=ma qq TQ;have DY:=de.len t e2;refine ⟨es,λj u hu=> ?_,by rw [acW (λe=>DX e.symm)];exact de.bt q.stays.safe t (λp J hp=>ab _ J hp (by simp)) e2⟩;rw [Ap (by omega) R kY k2 DX (by rw [<-DY];exact (ψ.1 hu).1)];exact e1 j u hu;cases I
 rename_i t xs jj K3 ks hl;cases hb:((Α v.cells.length n&&ϩ (off+n) t.size)&&(Α sz t.size&&v.ok)) with
 |false=>simp [hb] at I
 |true=>
  rw [hb] at I;simp only [cond_true] at I;simp only [κ] at hb;obtain ⟨⟨hn,R⟩,hz,Al⟩:=hb;have hn:=bR hn;have R:=iU R;have hz:=bR hz;injection I with I;subst I;have QJ:i=jj:=hc.1;subst QJ;obtain ⟨_,J,om,Oc⟩:=hx;subst Oc;obtain ⟨Ft,b,arr,hg,U,hi,DZ,KO,DW,BX,gx⟩:=h.mem c _ hl;have om:g.f c []=some J:=om;rw [hg] at om;injection om with om;subst om;obtain ⟨vs,yH,so⟩:=jH Al hv;have M6:=so.length;have rN:=gx.length;have kY:=DU t.size_pos DW BX;subst hz;obtain ⟨w',aa,uC,k1,k2,k3,k4⟩:=ll (P:=cx.P) (o:=i*t.size+off) hs U (v:=va) (by rw [yH];omega) (by omega) (qe Al hv);rw [yH] at k2;have XQ:(Chunk.oS t xs i K3 ks).owns []:=by intro o r e;cases e
  have q:HN g st w w' c b [] (.oS t xs i K3 ks) (.oS t xs i (K3.take off++v.cells++K3.drop (off+n)) ks):=
   ⟨hl,XQ,hg,k3,⟨arr,aa,U,k1,k4⟩,λ_ hp=>hp,by simp,λt' ig e=>(by
    rcases e with e|⟨_,_,_,e⟩
    cases e;injection e with e1 e2;subst e1;have e2:=eq_of_heq e2;subst e2;exact ⟨xs,.inr ⟨_,_,_,rfl⟩,rfl⟩),λt' ig e=>(by cases e)⟩
  refine ⟨w',uC,g,?_,trivial⟩;refine h.M5 q ?_;have ab: ∀j p J,j≠i->g.f c (j::p)=some J->w'.heap[J]? =w.heap[J]? :=λj p J iH hp=>by
   have ho:(Chunk.oS t xs i K3 ks).owns (j::p):=by intro o r e;injection e with e;exact absurd e iH
   refine k3.block J (h.lt c _ _ J hl ho hp) ?_;intro hm;simp at hm;subst hm;have:=(h.fV c c _ _ _ _ J hl ho hl XQ hp hg).2;cases this
  refine ⟨Ft.mono λo k hk=>⟨(q.stays (cx:=cx)).nN k hk.1 |>.1,hk.2⟩,b,aa,hg,k1,hi,λj hj iH=> ?_,KO.take off++vs++KO.drop (off+n),?_,?_,?_⟩;obtain ⟨es,e1,e2⟩:=DZ j hj iH;have DY:=de.len t e2;refine ⟨es,λp u hu=> ?_,de.bt q.stays.safe t (λp J hp=>ab j p J iH hp) e2⟩;rw [Ap (by omega) R kY k2 iH (by rw [<-DY];exact (ψ.1 hu).1)];exact e1 p u hu;simp;omega;exact DT DW BX (by omega) R kY k2;exact (((gx.take off).append so).append (gx.drop _)).mono λ_ _=>CR.stays q.stays
 cases I;rename_i c i o j sz off n hs;split at I;rename_i t xs hl;split at I;rename_i e ys KN;cases hb:((Α v.cells.length n&&ϩ (off+n) e.size)&&(Α sz e.size&&v.ok)&&e.top) with
 |false=>simp [hb] at I
 |true=>
  rw [hb] at I;simp only [cond_true] at I;simp only [κ] at hb;obtain ⟨⟨⟨hn,R⟩,hz,Al⟩,qV⟩:=hb;have hn:=bR hn;have R:=iU R;have hz:=bR hz;split at I;rename_i y TP;injection I with I;subst I;have hj:j<ys.length:=hc.1;obtain ⟨_,b,Oc,QK⟩:=hx;subst Oc;obtain ⟨hi,hg⟩:=QK t xs hl;have Rb:=pD h.mem hl hi KN;rw [hg] at Rb;obtain ⟨arr,U,ma⟩:=Rb;obtain ⟨KO,BX,KP⟩:=ma j hj;have DW:=de.len e KP;have UN:bT (cx.safe g st.mem w) w e KO (ys.getD j e.eY):=by rw [getD_eq hj];exact de.rep e qV KP
  obtain ⟨vs,yH,so⟩:=jH Al hv;have M6:=so.length;have BY:bN (CR g st.mem (cx.safe g st.mem w) w) (gE e (ys.getD j e.eY)) KO:=lg e UN;obtain ⟨cs,v2,Rl,lh,Rm⟩:=ju (S2:=cx.safe g st.mem w) (λ_ h=>h) ij.nil e TP (((BY.take off).append so).append (BY.drop (off+n)));have:v2=[]:=by cases v2 with|nil=>rfl|cons=>exact Rm.elim
  subst this;rw [ϴ] at Rl;have kY:=DU e.size_pos DW BX;subst hz;obtain ⟨w',aa,uC,k1,k2,k3,k4⟩:=ll (P:=cx.P) (o:=j*e.size+off) hs U (v:=va) (by rw [yH];omega) (by omega) (qe Al hv);rw [yH] at k2;have q:HN g st w w' c b [i,o] (.seq t xs) (.seq t (xs.set i (ux t (xs.getD i t.eY) o e (ys.set j y)))):=
   ⟨hl,trivial,hg,k3,⟨arr,aa,U,k1,k4⟩,λ_ _=>trivial,by simp,λt' ig e=>(by
    obtain ⟨e,e2⟩:=pG e;subst e;subst e2;exact ⟨xs,.inl rfl,by simp⟩),λt' ig e=>(by
    injection e with e1 e2;subst e1;have e2:=eq_of_heq e2;subst e2;refine ⟨xs,rfl,by simp,λq o' e' QH qg=> ?_⟩;by_cases DX:q=i;subst DX;rw [show∀z,(xs.set q z).getD q t.eY=z from λz=>by simp [ε,hi]] at qg;exact rM t KN (by simp) qg;rw [show∀z,(xs.set i z).getD q t.eY=xs.getD q t.eY from λz=>by simp [ε,aeQ (λe=>DX e.symm)]] at qg;exact ⟨QH,qg,rfl⟩)⟩
  refine ⟨w',uC,g,?_,trivial⟩;refine h.M5 q ?_;have ab: ∀p J,g.f c p=some J->p≠[i,o]->w'.heap[J]? =w.heap[J]? :=λp J hp iH=>by
   refine k3.block J (h.lt c p _ J hl trivial hp) ?_;intro hm;simp at hm;subst hm;exact iH (h.fV c c p [i,o] _ _ J hl trivial hl trivial hp hg).2
  have tK:=(q.stays (cx:=cx)).safe;have je:=h.mem c _ hl;unfold jc at je⊢;cases QL:g.f c [] with
  |none=>rw [QL] at je;have UO:xs=[]:=je;subst UO;simp at hi
  |some b0=>
   rw [QL] at je;obtain ⟨pZ,Rn,Ro⟩:=je;refine ⟨pZ,Rn.bt (ab [] b0 QL (by simp)),λqq hq=> ?_⟩;have TQ:qq<xs.length:=by simpa using hq
   obtain ⟨es,e1,e2⟩:=Ro qq TQ;refine ⟨es,e1,?_⟩;by_cases DX:qq=i;subst DX;rw [acF];have hd:xs.getD qq t.eY=xs[qq]:=getD_eq TQ;rw [<-hd] at e2;refine de.put tK t e2 KN (λr p J hr hp=>ab _ J hp (by intro e;injection e with _ e;injection e with e _;omega)) λu hu=> ?_;rw [Υ] at hu⊢;obtain ⟨v1,ev,ha,_⟩:=hu;refine ⟨v1,ev,?_,?_⟩;rw [List.length_set];exact ha.stays λJ arr1 _ qK=>q.dm qK;have D0:(λp=>g.f c (qq::p)) [o]=some b:=hg;rw [D0];refine ⟨aa,k1,λj' M4=> ?_⟩;have Gw:j'<ys.length:=by simpa using M4
   by_cases UP:j'=j;subst UP;refine ⟨cs,?_,?_⟩;rw [<-Rl];exact DT DW BX (by omega) R kY k2;rw [acF];exact de.qQ e qV (bT.bt tK e cs y lh);obtain ⟨XR,d1,d2⟩:=ma j' Gw;have UQ:=de.len e d2;refine ⟨XR,λp u' Gx=> ?_,?_⟩;rw [Ap (by omega) R kY k2 UP (by rw [<-UQ];exact (ψ.1 Gx).1)];exact d1 p u' Gx;rw [acW (λe=>UP e.symm)];exact de.qQ e qV (bT.bt tK e XR _ (de.rep e qV d2));rw [acW (λe=>DX e.symm)];exact de.bt tK t (λp J hp=>ab _ J hp (by intro e;injection e with e _;exact DX e)) e2
  cases I
 cases I;cases I;cases I
end
end Go.Ide
namespace Go.Ide
def uE (A:List (List Nat->Option Nat))(F:List Nat):Prop:= ∀b,b∈F↔ ∃γ,γ∈A/\ ∃p,γ p=some b
def pr (A:List (List Nat->Option Nat)):Prop:=
 A.Pairwise (λγ j=> ∀p q b,γ p=some b->j q=some b->False)/\ ∀γ,γ∈A-> ∀p q b,γ p=some b->γ q=some b->p=q
def Rp (S:Nat->Prop)(w:Ε)(t:Ty)(v:ο)(xs:List t.D)(γ:List Nat->Option Nat):Prop:=
 ∃b cap arr,γ []=some b/\v= .slice (some ⟨b,0,none⟩) xs.length cap/\xs.length<=cap/\0<cap/\dm w b arr/\cap*t.size<=arr.size/\cap<=maxLen/\eI S w γ t xs arr
def fX (S:Nat->Prop)(w:Ε)(t:Ty)(cs:List ο)(xs:List t.D)(A:List (List Nat->Option Nat)):Prop:=
 (A=[λ_=>none]/\xs=[]/\ ∃a,cs=[.slice a 0 0])\/ ∃v γ,A=[γ]/\cs=[v]/\Rp S w t v xs γ
def zx (S:Nat->Prop)(w:Ε)(t:Ty)(cs:List ο)(xs:List t.D)(A:List (List Nat->Option Nat)):Prop:=
 ∃γ b arr,A=[γ]/\cs=[.pointer (some ⟨b,0,none⟩)]/\γ []=some b/\dm w b arr/\eI S w γ t xs arr
def dt (S:Nat->Prop)(w:Ε):(t:Ty)->List ο->t.D->List (List Nat->Option Nat)->Prop
 | .pair a b,cs,x,A=> ∃o p r I,cs=o++p/\A=r++I/\dt S w a o x.1 r/\dt S w b p x.2 I
 | .st t,cs,x,A=>dt S w t cs x A
 | .sl t,cs,j,A=>fX S w t cs j A
 | .own t,cs,j,A=>fX S w t cs j A
 | .bx t,cs,j,A=>zx S w t cs j A
 | .cl f t,cs,x,A=>A=[]/\bT S w (.cl f t) cs x
 | .int k,cs,x,A=>A=[]/\bT S w (.int k) cs x
 | .dB k,cs,x,A=>A=[]/\bT S w (.dB k) cs x
 | .bool,cs,x,A=>A=[]/\bT S w .bool cs x
 | .str,cs,x,A=>A=[]/\bT S w .str cs x
def sN:(t:Ty)->t.D->t.D->Prop
 | .pair a b,x,y=>sN a x.1 y.1/\sN b x.2 y.2
 | .st t,x,y=>sN t x y
 | .sl t,x,y=>cy t x y
 | .own t,x,y=>cy t x y
 | .bx t,x,y=>cy t x y
 | .cl _ _,_,_=>True
 | .int _,_,_=>True
 | .dB _,_,_=>True
 | .bool,_,_=>True
 | .str,_,_=>True
def yP (S:Nat->Prop)(w:Ε):Arg->ο->List (List Nat->Option Nat)->Prop
 | .bP t x,v,A=>A=[]/\ ∃cs,dC t cs v/\bT S w t cs x
 | .fW t x,v,A=>A=[]/\ ∃(o:abI) (es:List ο),v= .pointer (some o)/\S o.block/\(∀j u,es[j]? =some u->w.cell? (o.add j)=some u)/\bT S w t es x
 | .own t x,v,A=> ∃cs,dC t cs v/\dt S w t cs x A
 | .mv t x,v,A=> ∃cs,dC t cs v/\dt S w t cs x A
 | .fn f,v,A=>A=[]/\v= .func (.func f) #[] #[]
 | .jb f t x,v,A=>A=[]/\ ∃(o:abI) (es:List ο),v= .func (.func f) #[] #[.pointer (some o)]/\S o.block/\(∀j u,es[j]? =some u->w.cell? (o.add j)=some u)/\bT S w t es x
 | .nl,v,A=>A=[]/\ ∃a,v= .slice a 0 0
def o7 (S:Nat->Prop)(w:Ε):List Arg->List ο->List (List (List Nat->Option Nat))->Prop
 |[],[],[]=>True
 |a::j,v::o,A::p=>yP S w a v A/\o7 S w j o p
 |_,_,_=>False
def il (S:Nat->Prop)(w:Ε):List Arg->List ο->List (List (List Nat->Option Nat))->List TD->Prop
 |[],[],[],[]=>True
 | .own t x::j,v::p,A::r,o::os=>(∃(h:o.t=t) (cs:List ο),dC t cs v/\dt S w t cs (cE h o.x) A/\sN t x (cE h o.x))/\il S w j p r os
 | .bP _ _::j,_::p,_::r,os=>il S w j p r os
 | .fW _ _::j,_::p,_::r,os=>il S w j p r os
 | .mv _ _::j,_::p,_::r,os=>il S w j p r os
 | .fn _::j,_::p,_::r,os=>il S w j p r os
 | .jb _ _ _::j,_::p,_::r,os=>il S w j p r os
 | .nl::j,_::p,_::r,os=>il S w j p r os
 |_,_,_,_=>False
def tO (b:Nat):List Arg->List (List (List Nat->Option Nat))->Prop
 | .mv _ _::j,A::o=>(∃γ,γ∈A/\ ∃p,γ p=some b)\/tO b j o
 |_::j,_::o=>tO b j o
 |_,_=>False
theorem tO.sub {b:Nat}: ∀{asx:List Arg} {As:List (List (List Nat->Option Nat))},tO b asx As-> ∃γ,γ∈As.flatten/\ ∃p,γ p=some b
 |[],_,h=>by simp [tO] at h
 |_::_,[],h=>by simp [tO] at h
 |a::asx,A::As,h=>by
  have up:tO b asx As-> ∃γ,γ∈(A::As).flatten/\ ∃p,γ p=some b:=λh=>by
   obtain ⟨γ,j,o⟩:=tO.sub h;exact ⟨γ,by rw [aaR];exact Λ.2 (.inr j),o⟩
  cases a with
  |mv t x=>
   rcases h with ⟨γ,j,o⟩|h
   exact ⟨γ,by rw [aaR];exact Λ.2 (.inl j),o⟩;exact up h
  |_=>exact up h
def wQ (S:Nat->Prop)(w:Ε)(r:RV)(v:ο)(A:List (List Nat->Option Nat)):Prop:=
 if r.fresh then∃cs,dC r.t cs v/\dt S w r.t cs r.x A else A=[]/\ ∃cs,dC r.t cs v/\bT S w r.t cs r.x
def nv (S:Nat->Prop)(w:Ε):List RV->List ο->List (List Nat->Option Nat)->Prop
 |[],[],A=>A=[]
 |r::rs,v::p,A=> ∃j o,A=j++o/\wQ S w r v j/\nv S w rs p o
 |_,_,_=>False
def BZ:List ο->ο->Prop
 |[u],v=>v=u
 |j,v=>v= .tuple j.toArray
def D1 (S:Nat->Prop)(w:Ε)(rs:List RV)(v:ο)(A:List (List Nat->Option Nat)):Prop:=
 ∃j,nv S w rs j A/\BZ j v
def kh (P:Ξ)(f:aaE):Prop:= ∃fn,P.funcs[f]? =some fn/\(fn.name=="runtime.NumGoroutine")=false/\fn.body.isNone=false
def iW (S:Nat->Prop)(w w':Ε)(j:List Nat)(b:Nat):Prop:=b<w'.heap.size/\(b<w.heap.size->S b)/\b ∉ j
def CallOK (P:Ξ)(f:aaE)(args:List Arg)(rs:List RV)(outs:List TD):Prop:=
 kh P f/\ ∀(w:Ε) (S:Nat->Prop) (vals:List ο) (j:List (List (List Nat->Option Nat))) (F:List Nat),uE j.flatten F->pr j.flatten->
  (∀b,S b->b<w.heap.size/\b ∉ F)->(∀b,b∈F->b<w.heap.size)->o7 S w args vals j->Glob.ok w S->
  Calls P f vals.toArray w λe w'=> ∃v p o,e= .returned v/\uE p o/\pr p/\D1 (iW S w w' o) w' rs v p/\(∀b,b∈o->(w.heap.size<=b\/tO b args j)/\b<w'.heap.size)/\
   bJ F w w'/\il (iW S w w' o) w' args vals j outs
def iI (m:Mem):Mode->bu->Option Arg
 | .bP t,v=>match j5 m t v with
  |some x=>some (.bP t x)
  |none=>none
 | .own t,v=>match j5 m t v with
  |some x=>some (.own t x)
  |none=>none
 | .mv t,v=>match j5 m t v with
  |some x=>some (.mv t x)
  |none=>none
 | .fW t,.one (.ip j x off)=>match impl m t (((gE j x).drop off).take t.size) with
  |some (y,[])=>some (.fW t y)
  |_=>none
 | .fn,.one (.fn f)=>some (.fn f)
 | .jb t,.one (.jb f j x)=>if h:j=t then some (.jb f t (cE h x)) else none
 | .nl,.one .br=>some .nl
 |_,_=>none
def oU (mp m:Mem):Mode->bu->Option Arg
 | .fW t,.one (.ptr c off)=>match lk c mp with
  |some (.box cs)=>(match impl m t ((cs.drop off).take t.size) with
   |some (y,[])=>some (.fW t y)
   |_=>none)
  |_=>none
 |md,v=>iI m md v
def dp (m mp m2:Mem):List Mode->List bu->Option (List Arg)
 |[],[]=>some []
 | .own t::o,v::p=>match iI m (.own t) v,dp m mp m2 o p with
  |some a,some j=>some (a::j)
  |_,_=>none
 | .mv t::o,v::p=>match iI m (.mv t) v,dp m mp m2 o p with
  |some a,some j=>some (a::j)
  |_,_=>none
 |md::o,v::p=>match oU mp m2 md v,dp m mp m2 o p with
  |some a,some j=>some (a::j)
  |_,_=>none
 |_,_=>none
def dI (m:Mem):List Mode->List bu->Option (List Nat)
 |[],[]=>some []
 | .own t::j,v::o=>match dG m t v.cells,dI m j o with
  |some (p,[]),some l=>some (p++l)
  |_,_=>none
 | .mv t::j,v::o=>match dG m t v.cells,dI m j o with
  |some (p,[]),some l=>some (p++l)
  |_,_=>none
 |_::j,_::o=>dI m j o
 |_,_=>none
def ox:(t:Ty)->List bs->t.D->Option (Mem×List bs)
 | .pair a b,cs,x=>match ox a cs x.1 with
  |some (o,r)=>(match ox b r x.2 with
   |some (p,I)=>some (o++p,I)
   |none=>none)
  |none=>none
 | .st t,cs,x=>ox t cs x
 | .sl t,cs,j=>match cs with
  | .all c::r=>some ([(c,.seq t j)],r)
  | .br::r=>some ([],r)
  |_=>none
 | .own t,cs,j=>match cs with
  | .all c::r=>some ([(c,.seq t j)],r)
  | .br::r=>some ([],r)
  |_=>none
 | .bx t,cs,j=>match cs with
  | .cZ c _ _ _::r=>some ([(c,.seq t j)],r)
  |_=>none
 | .int _,cs,_=>match cs with
  | .bp _ _::r=>some ([],r)
  |_=>none
 | .dB _,cs,_=>match cs with
  | .bp _ _::r=>some ([],r)
  |_=>none
 | .bool,cs,_=>match cs with
  | .bp _ _::r=>some ([],r)
  |_=>none
 | .str,cs,_=>match cs with
  | .bp _ _::r=>some ([],r)
  |_=>none
 | .cl _ _,cs,_=>match cs with
  | .bp _ _::r=>some ([],r)
  |_=>none
def dO:List Mode->List bu->List TD->Option Mem
 |[],[],[]=>some []
 | .own t::j,v::p,o::os=>if h:o.t=t then (match ox t v.cells (cE h o.x),dO j p os with
  |some (u,[]),some l=>some (u++l)
  |_,_=>none) else none
 | .mv t::j,v::p,os=>match lb t v.cells,dO j p os with
  |some (r,[]),some l=>some (r.map (λk=>(k,Chunk.gone))++l)
  |_,_=>none
 | .bP _::j,_::p,os=>dO j p os
 | .fW _::j,_::p,os=>dO j p os
 | .fn::j,_::p,os=>dO j p os
 | .jb _::j,_::p,os=>dO j p os
 | .nl::j,_::p,os=>dO j p os
 |_,_,_=>none
def lq:List RV->Nat->List (Bool×List bs)×List Chunk
 |[],_=>([],[])
 |r::rs,n=>
  let p:List bs×List Chunk:=if r.fresh then cN r.t r.x n else (gE r.t r.x,[])
  let q:=lq rs (n+p.2.length)
  ((r.t.sk,p.1)::q.1,p.2++q.2)
def Gy:List (Bool×List bs)->bu
 |[(true,cs)]=> .agg cs
 |[(false,[c])]=> .one c
 |[_]=> .dE
 |l=> .Ab l
def fp:List Mode->Bool
 |[]=>true
 | .own t::j=>t.kM&&fp j
 |_::j=>fp j
def jU:List Mode->Bool
 |[]=>true
 | .own _::_=>false
 | .mv _::_=>false
 |_::j=>jU j
def vg (P:Ξ)(m:Mem)(nx:Nat)(ms:List Mode)(rs:List RV)(outs:List TD)(f:aaE)(vs:List bu):Option cB:=
 match dI m ms vs,dO ms vs outs with
 |some o,some up=>(match dp [] [] [] ms vs with
  |some j=>bif o.isEmpty&&jU ms then some ⟨Gy (lq rs nx).1,cm nx (lq rs nx).2,up,[CallOK P f j rs outs]⟩ else none
  |none=>bif jX o then (bif rs.all RV.tw&&fp ms then (match dp m m ((o.map λk=>(k,Chunk.gone))++m) ms vs with
   |some j=>some ⟨Gy (lq rs nx).1,cm nx (lq rs nx).2,up,[CallOK P f j rs outs]⟩
   |none=>none) else (match dp m [] [] ms vs with
   |some j=>some ⟨Gy (lq rs nx).1,cm nx (lq rs nx).2,up,[CallOK P f j rs outs]⟩
   |none=>none)) else none)
 |_,_=>none
end Go.Ide
