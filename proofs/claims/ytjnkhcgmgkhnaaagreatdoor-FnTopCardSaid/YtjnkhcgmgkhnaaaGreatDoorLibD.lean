import Derived.Test.YtjnkhcgmgkhnaaaGreatDoorLibC
import Derived.Lib.SplitLaws
import Derived.RangeFuncWrites
import Derived.ChangeKeysEq
set_option linter.unusedVariables false
set_option linter.unusedSimpArgs false
set_option linter.unusedSectionVars false
namespace Go.Ide
def V1 (s:rp)(m0:Mem)(c c':aq):Option aq:=
 match c' with
 | .aB t _=>(match cI m0 t c with
  |some x=>some (.aB t x)
  |none=>none)
 | .ptr k' c8=>(match c with
  | .ptr k off=>bif pM k k' s.ch&&Nat.beq off c8 then some (.ptr k' c8) else none
  |_=>none)
 | .bT k' _ Fw c8=>(match c with
  | .bT k i sz off=>bif pM k k' s.ch&&(Nat.beq sz Fw&&Nat.beq off c8) then some (.bT k' i Fw c8) else none
  |_=>none)
 | .ip t' _ c8=>(match c with
  | .ip t x off=>bif Nat.beq off c8 then (if h:t'=t then some (.ip t' (bA h.symm x) c8) else none) else none
  | .ptr k off=>(match lk k m0 with
   |some (.box cs)=>bif Nat.beq off c8 then (match impl m0 t' cs with
    |some (x,[])=>some (.ip t' x c8)
    |_=>none) else none
   |_=>none)
  |_=>none)
 | .all k'=>(match c with
  | .all k=>bif pM k k' s.ch&& !(bZ k s.tr) then some (.all k') else none
  | .az=>bif bZ k' s.vs then some (.all k') else none
  |_=>none)
 | .ref k' _ _=>(match c with
  | .ref k off len=>bif pM k k' s.ch&& !(bZ k s.tr) then some (.ref k' off len) else none
  |_=>none)
 | .az=>(match c with
  | .az=>some .az
  |_=>none)
 | .fn f'=>(match c with
  | .fn f=>if f'=f then some (.fn f') else none
  |_=>none)
 | .lK f' t' _=>(match c with
  | .lK f t x=>if f'=f then (if h:t'=t then some (.lK f' t' (bA h.symm x)) else none) else none
  |_=>none)
 | .cls f' Ac=>(match c with
  | .cls f ks=>if f'=f then (bif B7 s.ch ks Ac then some (.cls f' Ac) else none) else none
  |_=>none)
 | .yF f' t' _=>(match c with
  | .yF f t x=>if f'=f then (if h:t'=t then some (.yF f' t' (bA h.symm x)) else none) else none
  |_=>none)
 | .kG k'=>(match c with
  | .kG k=>bif pM k k' s.ch then some (.kG k') else none
  |_=>none)
 | .cV=>bif c.ok then some .cV else none
 |_=>none
theorem mR {t t':Ty}(h:t'=t)(x:t.D):bA h (bA h.symm x)=x:=by subst h;rfl
theorem IU {s:rp}{m0 m':Mem}{c c':aq}(h:V1 s m0 c c'=some c'): ∃ps,Ab s m0 m' c c'=some ps∧aS ps:=by
 cases c' with
 |aB t x'=>
  have h:(match cI m0 t c with
   |some x=>some (aq.aB t x)
   |none=>none)=some (.aB t x'):=h
  show∃ps,(match cI m0 t c with
   |some x=>some [x'=x]
   |none=>none)=some ps∧aS ps
  cases hx:cI m0 t c with
  |none=>rw [hx] at h;cases h
  |some x=>
   rw [hx] at h;injection h with h;injection h with h1 h2;exact ⟨_,rfl,h2.symm,trivial⟩
 |ptr k' c8=>
  cases c with
  |ptr k off=>
   have h:(bif pM k k' s.ch&&Nat.beq off c8 then some (aq.ptr k' c8) else none)=some (.ptr k' c8):=h;show∃ps,(bif pM k k' s.ch&&Nat.beq off c8 then some [] else none)=some ps∧aS ps;cases hb:(pM k k' s.ch&&Nat.beq off c8) with
   |true=>exact ⟨_,rfl,trivial⟩
   |false=>rw [hb] at h;cases h
  |_=>cases h
 |bT k' i' Fw c8=>
  cases c with
  |bT k i sz off=>
   have h:(bif pM k k' s.ch&&(Nat.beq sz Fw&&Nat.beq off c8) then some (aq.bT k' i Fw c8) else none)=some (.bT k' i' Fw c8):=h;show∃ps,(bif pM k k' s.ch&&(Nat.beq sz Fw&&Nat.beq off c8) then some [i'=i] else none)=some ps∧aS ps;cases hb:(pM k k' s.ch&&(Nat.beq sz Fw&&Nat.beq off c8)) with
   |true=>
    rw [hb] at h;injection h with h;injection h with _ h2;exact ⟨_,rfl,h2.symm,trivial⟩
   |false=>rw [hb] at h;cases h
  |_=>cases h
 |ip t' x' c8=>
  cases c with
  |ip t x off=>
   have h:(bif Nat.beq off c8 then (if h:t'=t then some (aq.ip t' (bA h.symm x) c8) else none) else none)=some (.ip t' x' c8):=h;show∃ps,(bif Nat.beq off c8 then (if h:t'=t then some [bA h x'=x] else none) else none)=some ps∧aS ps;cases hb:Nat.beq off c8 with
   |true=>
    rw [hb] at h;simp only [cond_true] at h⊢;split at h;rename_i e;rw [dif_pos e];injection h with h;injection h with _ h2;exact ⟨_,rfl,by rw [←h2];exact mR e _,trivial⟩;cases h
   |false=>rw [hb] at h;cases h
  |ptr k off=>
   have h:(match lk k m0 with
    |some (.box cs)=>bif Nat.beq off c8 then (match impl m0 t' cs with
     |some (x,[])=>some (aq.ip t' x c8)
     |_=>none) else none
    |_=>none)=some (.ip t' x' c8):=h
   show∃ps,(match lk k m0 with
    |some (.box cs)=>bif Nat.beq off c8 then (match impl m0 t' cs with
     |some (x,[])=>some [x'=x]
     |_=>none) else none
    |_=>none)=some ps∧aS ps
   cases hk:lk k m0 with
   |none=>rw [hk] at h;cases h
   |some ch=>
    rw [hk] at h;cases ch with
    |box cs=>
     simp only at h⊢;cases hb:Nat.beq off c8 with
     |true=>
      rw [hb] at h;simp only [cond_true] at h⊢;cases hi:impl m0 t' cs with
      |none=>rw [hi] at h;cases h
      |some p=>
       obtain ⟨x,l⟩:=p;rw [hi] at h;cases l with
       |nil=>
        simp only at h⊢;injection h with h;injection h with _ h2;exact ⟨_,rfl,h2.symm,trivial⟩
       |cons _ _=>cases h
     |false=>rw [hb] at h;cases h
    |_=>cases h
  |_=>cases h
 |all k'=>
  cases c with
  |all k=>
   have h:(bif pM k k' s.ch&& !(bZ k s.tr) then some (aq.all k') else none)=some (.all k'):=h;show∃ps,(bif pM k k' s.ch&& !(bZ k s.tr) then some [] else none)=some ps∧aS ps;cases hb:(pM k k' s.ch&& !(bZ k s.tr)) with
   |true=>exact ⟨_,rfl,trivial⟩
   |false=>rw [hb] at h;cases h
  |az=>
   have h:(bif bZ k' s.vs then some (aq.all k') else none)=some (.all k'):=h;show∃ps,(bif bZ k' s.vs then some [] else none)=some ps∧aS ps;cases hb:bZ k' s.vs with
   |true=>exact ⟨_,rfl,trivial⟩
   |false=>rw [hb] at h;cases h
  |_=>cases h
 |ref k' c8 GB=>
  cases c with
  |ref k off len=>
   have h:(bif pM k k' s.ch&& !(bZ k s.tr) then some (aq.ref k' off len) else none)=some (.ref k' c8 GB):=h;show∃ps,(bif pM k k' s.ch&& !(bZ k s.tr) then some [c8=off,GB=len] else none)=some ps∧aS ps;cases hb:(pM k k' s.ch&& !(bZ k s.tr)) with
   |true=>
    rw [hb] at h;injection h with h;injection h with _ h2 h3;exact ⟨_,rfl,h2.symm,h3.symm,trivial⟩
   |false=>rw [hb] at h;cases h
  |_=>cases h
 |az=>
  cases c with
  |az=>exact ⟨_,rfl,trivial⟩
  |_=>cases h
 |fn f'=>
  cases c with
  |fn f=>
   have h:(if f'=f then some (aq.fn f') else none)=some (.fn f'):=h;show∃ps,(if f'=f then some [] else none)=some ps∧aS ps;split at h;rename_i e;rw [if_pos e];exact ⟨_,rfl,trivial⟩;cases h
  |_=>cases h
 |lK f' t' x'=>
  cases c with
  |lK f t x=>
   have h:(if f'=f then (if h:t'=t then some (aq.lK f' t' (bA h.symm x)) else none) else none)=some (.lK f' t' x'):=h;show∃ps,(if f'=f then (if h:t'=t then some [bA h x'=x] else none) else none)=some ps∧aS ps;split at h;rename_i e;rw [if_pos e];split at h;rename_i e2;rw [dif_pos e2];injection h with h;injection h with _ _ h2;exact ⟨_,rfl,by rw [←h2];exact mR e2 _,trivial⟩;cases h;cases h
  |_=>cases h
 |cls f' Ac=>
  cases c with
  |cls f ks=>
   have h:(if f'=f then (bif B7 s.ch ks Ac then some (aq.cls f' Ac) else none) else none)=some (.cls f' Ac):=h;show∃ps,(if f'=f then (bif B7 s.ch ks Ac then some [] else none) else none)=some ps∧aS ps;split at h;rename_i e;rw [if_pos e];cases hb:B7 s.ch ks Ac with
   |true=>exact ⟨_,rfl,trivial⟩
   |false=>rw [hb] at h;cases h
   cases h
  |_=>cases h
 |yF f' t' x'=>
  cases c with
  |yF f t x=>
   have h:(if f'=f then (if h:t'=t then some (aq.yF f' t' (bA h.symm x)) else none) else none)=some (.yF f' t' x'):=h;show∃ps,(if f'=f then (if h:t'=t then some [bA h x'=x] else none) else none)=some ps∧aS ps;split at h;rename_i e;rw [if_pos e];split at h;rename_i e2;rw [dif_pos e2];injection h with h;injection h with _ _ h2;exact ⟨_,rfl,by rw [←h2];exact mR e2 _,trivial⟩;cases h;cases h
  |_=>cases h
 |kG k'=>
  cases c with
  |kG k=>
   have h:(bif pM k k' s.ch then some (aq.kG k') else none)=some (.kG k'):=h;show∃ps,(bif pM k k' s.ch then some [] else none)=some ps∧aS ps;cases hb:pM k k' s.ch with
   |true=>exact ⟨_,rfl,trivial⟩
   |false=>rw [hb] at h;cases h
  |_=>cases h
 |cV=>
  have h:(bif c.ok then some aq.cV else none)=some .cV:=h;show∃ps,(bif c.ok then some [] else none)=some ps∧aS ps;cases hb:c.ok with
  |true=>exact ⟨_,rfl,trivial⟩
  |false=>rw [hb] at h;cases h
 |row=>cases h
 |xS=>cases h
 |bad=>cases h
def D5 (s:rp)(m0:Mem):List aq→List aq→Option (List aq)
 |[],[]=>some []
 |c::r,c'::r'=>(match V1 s m0 c c',D5 s m0 r r' with
  |some p,some q=>some (p::q)
  |_,_=>none)
 |_,_=>none
theorem aS.app: ∀{a b:List Prop},aS a→aS b→aS (a++b)
 |[],_,_,hb=>hb
 |_::_,_,ha,hb=>⟨ha.1,aS.app ha.2 hb⟩
theorem vD {s:rp}{m0 m':Mem}: ∀{cs ky:List aq},D5 s m0 cs ky=some ky→ ∃ps,Ad s m0 m' cs ky=some ps∧aS ps
 |[],[],_=>⟨_,rfl,trivial⟩
 |c::r,c'::r',h=>by
  unfold D5 at h;split at h;rename_i p q hp hq;injection h with h;injection h with h1 h2;subst h1 h2;obtain ⟨ps,e1,a1⟩:=IU (m':=m') hp;obtain ⟨qs,e2,a2⟩:=vD (m':=m') hq;exact ⟨ps++qs,by unfold Ad;rw [e1,e2],a1.app a2⟩;cases h
 |[],_::_,h=>by cases h
 |_::_,[],h=>by cases h
def Rb (s:rp)(m0:Mem)(v v':au):Option au:=
 match v' with
 | .one c'=>(match v with
  | .one c=>(match V1 s m0 c c' with
   |some x=>some (.one x)
   |none=>none)
  |_=>none)
 | .agg ky=>(match v with
  | .agg cs=>(match D5 s m0 cs ky with
   |some x=>some (.agg x)
   |none=>none)
  |_=>none)
 | .zq _=>none
 | .A9=>none
 | .cV=>some .cV
theorem OQ {s:rp}{m0 m':Mem}{v v':au}(h:Rb s m0 v v'=some v'): ∃ps,OF s m0 m' v v'=some ps∧aS ps:=by
 cases v' with
 |one c'=>
  unfold Rb at h;unfold OF;simp only at h⊢;split at h;split at h;rename_i x hx;injection h with h;injection h with h;rw [h] at hx;exact IU hx;cases h;cases h
 |agg ky=>
  unfold Rb at h;unfold OF;simp only at h⊢;split at h;split at h;rename_i x hx;injection h with h;injection h with h;rw [h] at hx;exact vD hx;cases h;cases h
 |zq=>cases h
 |A9=>cases h
 |cV=>exact ⟨_,rfl,trivial⟩
def IV (s:rp)(m0:Mem)(fr:Fr):Fr→Option Fr
 |[]=>some []
 |(t,v')::r=>(match lk t fr with
  |some v=>(match Rb s m0 v v',IV s m0 fr r with
   |some p,some q=>some ((t,p)::q)
   |_,_=>none)
  |none=>none)
theorem FH {s:rp}{m0 m':Mem}{fr:Fr}: ∀{og:Fr},IV s m0 fr og=some og→ ∃ps,GO s m0 m' fr og=some ps∧aS ps
 |[],_=>⟨_,rfl,trivial⟩
 |(t,v')::r,h=>by
  have h:(match lk t fr with
   |some v=>(match Rb s m0 v v',IV s m0 fr r with
    |some p,some q=>some ((t,p)::q)
    |_,_=>none)
   |none=>none)=some ((t,v')::r):=h
  show∃ps,(match lk t fr with
   |some v=>(match OF s m0 m' v v',GO s m0 m' fr r with
    |some p,some q=>some (p++q)
    |_,_=>none)
   |none=>none)=some ps∧aS ps
  cases hv:lk t fr with
  |none=>rw [hv] at h;cases h
  |some v=>
   rw [hv] at h;simp only at h⊢;cases hp:Rb s m0 v v' with
   |none=>rw [hp] at h;cases h
   |some p=>
    cases hq:IV s m0 fr r with
    |none=>rw [hp,hq] at h;cases h
    |some q=>
     rw [hp,hq] at h;injection h with h;injection h with h1 h2;injection h1 with _ h1;rw [h1] at hp;rw [h2] at hq;obtain ⟨ps,e1,a1⟩:=OQ (m':=m') hp;obtain ⟨qs,e2,a2⟩:=FH (m':=m') hq;rw [e1,e2];exact ⟨_,rfl,a1.app a2⟩
def LP (s:rp)(m0:Mem)(k:Nat)(c c':Chunk):Option Chunk:=
 match c' with
 | .box ky=>(match c with
  | .box cs=>(match D5 s m0 cs ky with
   |some x=>some (.box x)
   |none=>none)
  |_=>none)
 | .seq t' _=>(match c with
  | .seq t xs=>if h:t'=t then (bif bZ k s.tr then none else some (.seq t' (bA (congrArg Ty.sl h.symm) xs))) else none
  |_=>none)
 | .mp t' u' _=>(match c with
  | .mp t u xs=>if h:Ty.pair t' u'=Ty.pair t u then some (.mp t' u' (bA (a:= .sl (.pair t u)) (b:= .sl (.pair t' u')) (congrArg Ty.sl h.symm) xs)) else none
  |_=>none)
 | .n9 T' e' _=>(match c with
  | .n9 T e xs=>bif Nat.beq T' T&&Nat.beq e' e then some (.n9 T' e' xs) else none
  |_=>none)
 | .gh ky _=>(match c with
  | .gh cs vs=>(match D5 s m0 cs ky with
   |some x=>some (.gh x vs)
   |none=>none)
  |_=>none)
 | .nu _ _ _ _ _=>none
 | .gone=>none
theorem LQ {s:rp}{m0 m':Mem}{k:Nat}{c c':Chunk}(h:LP s m0 k c c'=some c'): ∃ps,tj s m0 m' k c c'=some ps∧aS ps:=by
 cases c' with
 |box ky=>
  unfold LP at h;unfold tj;simp only at h⊢;split at h;split at h;rename_i x hx;injection h with h;injection h with h;rw [h] at hx;exact vD hx;cases h;cases h
 |seq t' bF=>
  cases c with
  |seq t xs=>
   have h:(if h:t'=t then (bif bZ k s.tr then none else some (Chunk.seq t' (bA (a:= .sl t) (b:= .sl t') (congrArg Ty.sl h.symm) xs))) else none)=some (.seq t' bF):=h;show∃ps,(if h:t'=t then (bif bZ k s.tr then some [bA (a:= .sl t') (b:= .sl t) (congrArg Ty.sl h) bF=List.take (List.length bF) xs] else some [bA (a:= .sl t') (b:= .sl t) (congrArg Ty.sl h) bF=xs]) else none)=some ps∧aS ps;split at h;rename_i e;rw [dif_pos e];cases hb:bZ k s.tr with
   |true=>rw [hb] at h;cases h
   |false=>
    rw [hb] at h;simp only [cond_false] at h⊢;injection h with h;injection h with _ h2;exact ⟨_,rfl,by rw [←h2];exact mR (congrArg Ty.sl e) _,trivial⟩
   cases h
  |_=>cases h
 |mp t' u' bF=>
  cases c with
  |mp t u xs=>
   have h:(if h:Ty.pair t' u'=Ty.pair t u then some (Chunk.mp t' u' (bA (a:= .sl (.pair t u)) (b:= .sl (.pair t' u')) (congrArg Ty.sl h.symm) xs)) else none)=some (.mp t' u' bF):=h;show∃ps,(if h:Ty.pair t' u'=Ty.pair t u then some [bA (a:= .sl (.pair t' u')) (b:= .sl (.pair t u)) (congrArg Ty.sl h) bF=xs] else none)=some ps∧aS ps;split at h;rename_i e;rw [dif_pos e];injection h with h;injection h with _ _ h2;exact ⟨_,rfl,by rw [←h2];exact mR (congrArg Ty.sl e) _,trivial⟩;cases h
  |_=>cases h
 |n9 T' e' bF=>
  cases c with
  |n9 T e xs=>
   have h:(bif Nat.beq T' T&&Nat.beq e' e then some (Chunk.n9 T' e' xs) else none)=some (.n9 T' e' bF):=h;show∃ps,(bif Nat.beq T' T&&Nat.beq e' e then some [bF=xs] else none)=some ps∧aS ps;cases hb:(Nat.beq T' T&&Nat.beq e' e) with
   |false=>rw [hb] at h;cases h
   |true=>
    rw [hb] at h;simp only [cond_true] at h⊢;injection h with h;injection h with _ _ h2;exact ⟨_,rfl,h2.symm,trivial⟩
  |_=>cases h
 |gh ky Bp=>
  cases c with
  |gh cs vs=>
   have h:(match D5 s m0 cs ky with
    |some x=>some (Chunk.gh x vs)
    |none=>none)=some (.gh ky Bp):=h
   show∃ps,(match Ad s m0 m' cs ky with
    |some p=>some ((Bp=vs)::p)
    |none=>none)=some ps∧aS ps
   split at h;rename_i x hx;injection h with h;injection h with h1 h2;rw [h1] at hx;obtain ⟨ps,e1,a1⟩:=vD (m':=m') hx;rw [e1];exact ⟨_,rfl,h2.symm,a1⟩;cases h
  |_=>cases h
 |nu=>cases h
 |gone=>cases h
def OS (s:rp)(m m0:Mem):Mem→Option Mem
 |[]=>some []
 |(k',c')::r=>(match lk k' (inv s.ch) with
  |some k=>(match lk k m with
   |some c=>(match LP s m0 k c c',OS s m m0 r with
    |some p,some q=>some ((k',p)::q)
    |_,_=>none)
   |none=>none)
  |none=>bif bZ k' s.vs then (match c' with
   | .seq t' _=>(match OS s m m0 r with
    |some q=>some ((k',.seq t' [])::q)
    |none=>none)
   |_=>none) else none)
theorem D6 {s:rp}{m m0 m':Mem}: ∀{r:Mem},OS s m m0 r=some r→ ∃ps,OG s m m0 m' r=some ps∧aS ps
 |[],_=>⟨_,rfl,trivial⟩
 |(k',c')::r,h=>by
  unfold OS at h;unfold OG;cases hk:lk k' (inv s.ch) with
  |some k=>
   rw [hk] at h;simp only at h⊢;cases hc:lk k m with
   |none=>rw [hc] at h;cases h
   |some c=>
    rw [hc] at h;simp only at h⊢;cases hp:LP s m0 k c c' with
    |none=>rw [hp] at h;cases h
    |some p=>
     cases hq:OS s m m0 r with
     |none=>rw [hp,hq] at h;cases h
     |some q=>
      rw [hp,hq] at h;injection h with h;injection h with h1 h2;injection h1 with _ h1;rw [h1] at hp;rw [h2] at hq;obtain ⟨ps,e1,a1⟩:=LQ (m':=m') hp;obtain ⟨qs,e2,a2⟩:=D6 (m':=m') hq;rw [e1,e2];exact ⟨_,rfl,a1.app a2⟩
  |none=>
   rw [hk] at h;simp only at h⊢;cases hb:bZ k' s.vs with
   |false=>rw [hb] at h;cases h
   |true=>
    rw [hb] at h;cases c' with
    |seq t' bF=>
     simp only [cond_true] at h⊢;cases hq:OS s m m0 r with
     |none=>rw [hq] at h;cases h
     |some q=>
      rw [hq] at h;injection h with h;injection h with h1 h2;injection h1 with _ h1;injection h1 with _ h1;rw [h2] at hq;obtain ⟨qs,e2,a2⟩:=D6 (m':=m') hq;rw [e2];exact ⟨_,rfl,h1.symm,a2⟩
    |_=>cases h
def St.re (s:rp)(own:List Nat)(st st':St):Option St:=
 bif s.okB st'.mem own then (match IV s (s.m0 st.mem) st.fr st'.fr,OS s st.mem (s.m0 st.mem) st'.mem with
  |some p,some q=>some ⟨p,q,st'.nx⟩
  |_,_=>none) else none
theorem St.Nv {s:rp}{own:List Nat}{st st':St}(h:st.re s own st'=some st'): ∃ps,st.cv s own st'=some ps∧aS ps:=by
 unfold St.re at h;unfold St.cv;cases hb:s.okB st'.mem own with
 |false=>rw [hb] at h;cases h
 |true=>
  rw [hb] at h;simp only [cond_true] at h⊢;split at h;rename_i p q hp hq;injection h with h;have h1:p=st'.fr:=congrArg St.fr h;have h2:q=st'.mem:=congrArg St.mem h;rw [h1] at hp;rw [h2] at hq;obtain ⟨ps,e1,a1⟩:=FH (m':=st'.mem) hp;obtain ⟨qs,e2,a2⟩:=D6 (m':=st'.mem) hq;exact ⟨ps++qs,by rw [e1,e2],a1.app a2⟩;cases h
variable {cx:Cx} {P:Program} {N:Nat} {st st':St} {c x y:Code} {Q:Exit→St→Prop}
theorem Le.re {own:List Nat}(ch:List (Nat×Nat))(vs:List Nat){st':St}(hX:gf cx P N own)(he:st.re ⟨ch,vs,[],false⟩ own st'=some st'):Le cx st st':=by
 obtain ⟨ps,h1,h2⟩:=St.Nv he;exact Le.cv hX.own (fun h=>by cases h) h1 h2
theorem Le.rz {own:List Nat}(ch:List (Nat×Nat))(vs:List Nat){st':St}(hX:gf cx P N own)(hF:cx.HK)(he:st.re ⟨ch,vs,[],true⟩ own st'=some st'):Le cx st st':=by
 obtain ⟨ps,h1,h2⟩:=St.Nv he;exact Le.cv hX.own (fun _=>hF) h1 h2
theorem HT.FI {σ ρ:Type}{f:σ→Option (σ⊕ρ)}{s:σ}{r:ρ}(S:σ→St)(E:ρ→Exit×St)(hl:Le cx st (S s))(h:rounds f s=some r)(hc:Q (E r).1 (E r).2)(round: ∀s x,f s=some x→(∀r',x= .inr r'→Q (E r').1 (E r').2)→HT cx (S s) c (uN (fun st'=> ∃s',x= .inl s'∧Le cx st' (S s')) Q)):HT cx st (.loop c) Q:=hl.ht (HT.Sp S E h hc round)
end Go.Ide
namespace Go.Ide
section
variable {α β:Type}
open Classical in
end
end Go.Ide
namespace Go.Ide
theorem IW {P:Program}{f:FuncId}{s sep:List UInt8}{xs:List (List UInt8)}{T:TypeId}(D7:j4 P f)(h0:0<xs.length)(h1:xs.length≤maxLen)(h: ∀(w:World) (S:Nat→Prop),Glob.ok w S→Calls P f #[.string ⟨s.toArray⟩,.string ⟨sep.toArray⟩] w fun e w'=>e= .returned (.slice (some ⟨w.heap.size,0,none⟩) xs.length xs.length)∧w'=w.alloc (.cells (xs.map fun x=>Value.string ⟨x.toArray⟩).toArray T)):
 CallOK P f [.bl .str s,.bl .str sep] [⟨true,.sl .str,xs⟩] []:=by
 refine ⟨D7,fun w S vals As F hB hI hS Um ha hgl=> ?_⟩;obtain ⟨v1,v2,A1,A2,rfl,rfl,⟨e1,GP,k1,r1⟩,⟨e2,Nl,k2,r2⟩⟩: ∃v1 v2 A1 A2,vals=[v1,v2]∧As=[A1,A2]∧xZ S w (.bl .str s) v1 A1∧xZ S w (.bl .str sep) v2 A2:=by
  cases vals with
  |nil=>exact ha.elim
  |cons v1 vals=>
   cases As with
   |nil=>exact ha.elim
   |cons A1 As=>
    obtain ⟨h1,ha⟩:=ha;cases vals with
    |nil=>exact ha.elim
    |cons v2 vals=>
     cases As with
     |nil=>exact ha.elim
     |cons A2 As=>
      obtain ⟨h2,ha⟩:=ha;cases vals with
      |cons v3 vals=>exact ha.elim
      |nil=>
       cases As with
       |cons A3 As=>exact ha.elim
       |nil=>exact ⟨v1,v2,A1,A2,rfl,rfl,h1,h2⟩
 have q1:v1= .string ⟨s.toArray⟩:=by
  have k1:GP=[v1]:=k1;have r1:GP=[.string ⟨s.toArray⟩]:=r1;rw [k1] at r1;injection r1
 have q2:v2= .string ⟨sep.toArray⟩:=by
  have k2:Nl=[v2]:=k2;have r2:Nl=[.string ⟨sep.toArray⟩]:=r2;rw [k2] at r2;injection r2
 subst e1 e2 q1 q2;have hF: ∀b,b ∉ F:=fun b hb=>by
  obtain ⟨γ,hγ,_⟩:=(hB b).1 hb;simp at hγ
 refine (h w S hgl).mono fun e w' ⟨he,hw⟩=> ?_;subst hw;let γ:List Nat→Option Nat:=fun p=>if p=[] then some w.heap.size else none
 have hγ: ∀p b,γ p=some b→p=[]∧b=w.heap.size:=fun p b hp=>by
  simp only [γ] at hp;split at hp;rename_i e;injection hp with hp;exact ⟨e,hp.symm⟩
  cases hp
 have cm:=cg.new w (xs.map fun x=>Value.string ⟨x.toArray⟩).toArray T;have df:=aH.alloc F w (.cells (xs.map fun x=>Value.string ⟨x.toArray⟩).toArray T);refine ⟨_,[γ],[w.heap.size],he,fun b=> ?_,⟨by simp,fun γ' hg p q b hp hq=> ?_⟩,⟨[_],⟨[γ],[],rfl,?_,rfl⟩,rfl⟩,fun b hb=> ?_,df,trivial⟩;constructor;intro hb;simp at hb;subst hb;exact ⟨γ,by simp,[],rfl⟩;rintro ⟨γ',hg,p,hp⟩;simp at hg;subst hg;simp [(hγ p b hp).2];simp at hg;subst hg;rw [(hγ p b hp).1,(hγ q b hq).1];refine ⟨_,rfl,.inr ⟨_,γ,rfl,rfl,w.heap.size,xs.length,_,rfl,rfl,Nat.le_refl _,h0,cm,by simp [Ty.size],h1,fun i hi=>⟨[.string ⟨xs[i].toArray⟩],fun j v hv=> ?_,rfl⟩⟩⟩;cases j with
 |zero=>simp at hv;subst hv;simp [Ty.size,hi]
 |succ j=>simp at hv
 simp at hb;subst hb;exact ⟨.inl (Nat.le_refl _),cm.lt⟩
end Go.Ide
namespace Go.Ide
theorem IX {P:Program}{f:FuncId}{s sep:List UInt8}{T:TypeId}(D7:j4 P f)(h1:s.length<4294967281)(h2:1≤sep.length)(h: ∀(w:World) (S:Nat→Prop),Glob.ok w S→Calls P f #[.string ⟨s.toArray⟩,.string ⟨sep.toArray⟩] w fun e w'=>e= .returned (.slice (some ⟨w.heap.size,0,none⟩) (Lib.countB ⟨s.toArray⟩ ⟨sep.toArray⟩+1) (Lib.countB ⟨s.toArray⟩ ⟨sep.toArray⟩+1))∧w'=w.alloc (.cells ((Lib.splitB ⟨sep.toArray⟩ 0 (Lib.countB ⟨s.toArray⟩ ⟨sep.toArray⟩) ⟨s.toArray⟩).map Value.string).toArray T)):
 CallOK P f [.bl .str s,.bl .str sep] [⟨true,.sl .str,Lib.split s sep⟩] []:=by
 have hd:=Lib.splitB_data ⟨sep.toArray⟩ 0 (Lib.countB ⟨s.toArray⟩ ⟨sep.toArray⟩) ⟨s.toArray⟩;have hl:=Lib.splitB_all ⟨sep.toArray⟩ h2 0 _ ⟨s.toArray⟩ rfl;have hc:=Lib.countB_le ⟨sep.toArray⟩ h2 _ ⟨s.toArray⟩ (Nat.le_refl _);have cY:(ByteArray.mk s.toArray).size=s.length:=rfl;have e:Lib.split s sep=(Lib.splitB ⟨sep.toArray⟩ 0 (Lib.countB ⟨s.toArray⟩ ⟨sep.toArray⟩) ⟨s.toArray⟩).map (·.data.toList):=hd.symm;have el:(Lib.split s sep).length=Lib.countB ⟨s.toArray⟩ ⟨sep.toArray⟩+1:=by rw [e,List.length_map,hl]
 refine IW (T:=T) D7 (by omega) (by rw [el];unfold maxLen;omega) fun w S hg=>(h w S hg).mono fun en w' ⟨q1,q2⟩=>⟨by rw [el];exact q1,?_⟩;rw [q2,e,List.map_map];rfl
end Go.Ide
namespace Go.Ide
def Ty.simple:Ty→Bool
 | .int _=>true
 | .bool=>true
 | .str=>true
 |_=>false
def IY:(t:Ty)→t.D→Value
 | .int k,n=> .int k n
 | .bool,b=> .bool b
 | .str,s=> .string ⟨s.toArray⟩
 |_,_=> .nilIface
theorem sb {S:Nat→Prop}{w:World}{t:Ty}{x:t.D}{v:Value}(h:t.simple=true):(∃cs,cE t cs v∧aR S w t cs x)↔v=IY t x:=by
 cases t with
 |int k=>
  constructor;rintro ⟨cs,h1,h2⟩;have h1:cs=[v]:=h1;have h2:cs=[.int k x]:=h2;rw [h1] at h2;injection h2;rintro rfl;exact ⟨[.int k x],rfl,rfl⟩
 |bool=>
  constructor;rintro ⟨cs,h1,h2⟩;have h1:cs=[v]:=h1;have h2:cs=[.bool x]:=h2;rw [h1] at h2;injection h2;rintro rfl;exact ⟨[.bool x],rfl,rfl⟩
 |str=>
  constructor;rintro ⟨cs,h1,h2⟩;have h1:cs=[v]:=h1;have h2:cs=[.string ⟨x.toArray⟩]:=h2;rw [h1] at h2;injection h2;rintro rfl;exact ⟨[.string ⟨x.toArray⟩],rfl,rfl⟩
 |_=>cases h
theorem uU {S:Nat→Prop}{w:World}: ∀{as:List TD} {vals:List Value} {As:List (List (List Nat→Option Nat))},(∀a∈as,a.t.simple=true)→nz S w (immArgs as) vals As→vals=as.map (fun a=>IY a.t a.x)∧As.flatten=[]
 |[],vals,As,_,h=>by
  cases vals<;>cases As<;>first|exact ⟨rfl,rfl⟩|exact h.elim
 |a::as,vals,As,hs,h=>by
  cases vals with
  |nil=>exact h.elim
  |cons v vals=>
   cases As with
   |nil=>exact h.elim
   |cons A As=>
    obtain ⟨⟨e1,h1⟩,h2⟩:=h;obtain ⟨e2,e3⟩:=uU (as:=as) (fun b hb=>hs b (List.mem_cons_of_mem _ hb)) h2;refine ⟨by rw [List.map_cons,e2,(sb (hs a List.mem_cons_self)).1 h1],by rw [List.flatten_cons,e1,e3];rfl⟩
theorem uV {S:Nat→Prop}{w:World}: ∀{as:List TD} {vals:List Value} {As:List (List (List Nat→Option Nat))},as.length=vals.length→as.length=As.length→fV S w (immArgs as) vals As []
 |[],[],[],_,_=>trivial
 |a::as,v::vals,A::As,h1,h2=>uV (as:=as) (by simpa using h1) (by simpa using h2)
 |[],_::_,_,h,_=>by simp at h
 |[],[],_::_,_,h=>by simp at h
 |_::_,[],_,h,_=>by simp at h
 |_::_,_::_,[],_,h=>by simp at h
theorem Cc {S:Nat→Prop}{w:World}: ∀{as:List Arg} {vals:List Value} {As:List (List (List Nat→Option Nat))},nz S w as vals As→as.length=vals.length∧as.length=As.length
 |[],[],[],_=>⟨rfl,rfl⟩
 |a::as,v::vals,A::As,h=>by
  obtain ⟨h1,h2⟩:=Cc (as:=as) h.2;exact ⟨by simp [h1],by simp [h2]⟩
 |[],_::_,_,h=>h.elim
 |[],[],_::_,h=>h.elim
 |_::_,[],_,h=>h.elim
 |_::_,_::_,[],h=>h.elim
theorem sc {S:Nat→Prop}{w:World}: ∀{rs:List TD},(∀a∈rs,a.t.simple=true)→lL S w (rs.map fun r=>⟨false,r.t,r.x⟩) (rs.map fun a=>IY a.t a.x) []
 |[],_=>rfl
 |r::rs,hs=>⟨[],[],rfl,(show if false=true then _ else _ from by
  rw [if_neg (by simp)];exact ⟨rfl,(sb (hs r List.mem_cons_self)).2 rfl⟩),sc (rs:=rs) fun a ha=>hs a (List.mem_cons_of_mem _ ha)⟩
theorem aH.below {F:List Nat}{w w':World}(h:RowKit.Below w.heap.size w w'):aH F w w':=
 ⟨h.os,h.tape,h.output,h.size,fun b hb _=>h.block b hb,fun b arr hb=>⟨arr,hb.ar (h.block b hb.lt),rfl⟩⟩
theorem uo {P:Program}{f:FuncId}{ps rs:List TD}(D7:j4 P f)(h1: ∀a∈ps,a.t.simple=true)(h2: ∀a∈rs,a.t.simple=true)(h: ∀(w:World) (S:Nat→Prop),Glob.ok w S→Calls P f (ps.map fun a=>IY a.t a.x).toArray w fun e w'=>(∃v,e= .returned v∧Bl (rs.map fun a=>IY a.t a.x) v)∧RowKit.Below w.heap.size w w'):
 CallOK P f (immArgs ps) (rs.map fun r=>⟨false,r.t,r.x⟩) []:=by
 refine ⟨D7,fun w S vals As F hB hI hS Um ha hgl=> ?_⟩;obtain ⟨e1,e2⟩:=uU h1 ha;have hlen:=Cc ha;have hl:(immArgs ps).length=ps.length:=by unfold immArgs;simp
 subst e1;have hF: ∀b,b ∉ F:=fun b hb=>by
  obtain ⟨γ,hγ,_⟩:=(hB b).1 hb;rw [e2] at hγ;simp at hγ
 refine (h w S hgl).mono fun e w' ⟨⟨v,he,hv⟩,hw⟩=> ?_;exact ⟨v,[],[],he,fun b=>by simp,⟨List.Pairwise.nil,fun γ hγ=>by simp at hγ⟩,⟨_,sc h2,hv⟩,fun b hb=>by simp at hb,aH.below hw,uV (by rw [←hl,hlen.1]) (by rw [←hl,hlen.2])⟩
end Go.Ide
namespace Go.Ide
theorem GQ {w:World}{ad:Addr}{v:Value}(h:w.cell? ad=some v):ad=⟨ad.block,ad.off,none⟩:=by
 obtain ⟨b,o,s⟩:=ad;cases s with
 |none=>rfl
 |some s=>
  unfold World.cell? at h;simp only [Option.isSome_some,if_true] at h;split at h<;>cases h
theorem LR {P:Program}{f:FuncId}{xs:List (List UInt8)}{sep r:List UInt8}(D7:j4 P f)(h0:xs=[]→ ∀(a:Option Addr) (c:Nat) (w:World),Calls P f #[.slice a 0 c,.string ⟨sep.toArray⟩] w fun e w'=>e= .returned (.string ⟨r.toArray⟩)∧w'=w)(h1: ∀(bk o c:Nat) (w:World),(∀(j:Nat) x,(xs.map fun x=>ByteArray.mk x.toArray)[j]? =some x→w.cell? ⟨bk,o+j,none⟩=some (.string x))→bk<w.heap.size→xs.length≤c→Calls P f #[.slice (some ⟨bk,o,none⟩) xs.length c,.string ⟨sep.toArray⟩] w fun e w'=>e= .returned (.string ⟨r.toArray⟩)∧RowKit.Below w.heap.size w w'):
 CallOK P f [.bl (.sl .str) xs,.bl .str sep] [⟨false,.str,r⟩] []:=by
 refine ⟨D7,fun w S vals As F hB hI hS Um ha hgl=> ?_⟩;obtain ⟨v1,v2,A1,A2,rfl,rfl,⟨e1,GP,k1,r1⟩,⟨e2,Nl,k2,r2⟩⟩: ∃v1 v2 A1 A2,vals=[v1,v2]∧As=[A1,A2]∧xZ S w (.bl (.sl .str) xs) v1 A1∧xZ S w (.bl .str sep) v2 A2:=by
  cases vals with
  |nil=>exact ha.elim
  |cons v1 vals=>
   cases As with
   |nil=>exact ha.elim
   |cons A1 As=>
    obtain ⟨h1,ha⟩:=ha;cases vals with
    |nil=>exact ha.elim
    |cons v2 vals=>
     cases As with
     |nil=>exact ha.elim
     |cons A2 As=>
      obtain ⟨h2,ha⟩:=ha;cases vals with
      |cons v3 vals=>exact ha.elim
      |nil=>
       cases As with
       |cons A3 As=>exact ha.elim
       |nil=>exact ⟨v1,v2,A1,A2,rfl,rfl,h1,h2⟩
 have q2:v2= .string ⟨sep.toArray⟩:=(sb (t:= .str) rfl).1 ⟨Nl,k2,r2⟩;obtain ⟨a,cap,hcs,hcap,fA⟩:=r1;have q1:v1= .slice a xs.length cap:=by
  have k1:GP=[v1]:=k1;rw [k1] at hcs;injection hcs
 subst e1 e2 q1 q2;have hF: ∀b,b ∉ F:=fun b hb=>by
  obtain ⟨γ,hγ,_⟩:=(hB b).1 hb;simp at hγ
 have fin: ∀e w',(e=Ending.returned (.string ⟨r.toArray⟩)∧RowKit.Below w.heap.size w w')→ ∃v A' F',e= .returned v∧vd A' F'∧ox A'∧Gp (hZ S w w' F') w' [⟨false,.str,r⟩] v A'∧(∀b,b∈F'→(w.heap.size≤b∨tQ b [.bl (.sl .str) xs,.bl .str sep] [[],[]])∧b<w'.heap.size)∧
  aH F w w'∧fV (hZ S w w' F') w' [.bl (.sl .str) xs,.bl .str sep] [.slice a xs.length cap,.string ⟨sep.toArray⟩] [[],[]] []:=fun e w' ⟨he,hw⟩=>
  ⟨_,[],[],he,fun b=>by simp,⟨List.Pairwise.nil,fun γ hγ=>by simp at hγ⟩,⟨_,sc (rs:=[⟨.str,r⟩]) (by simp [Ty.simple]),rfl⟩,fun b hb=>by simp at hb,aH.below hw,trivial⟩
 by_cases hx:xs=[];have h0:=h0 hx a cap w;have e:xs.length=0:=by rw [hx];rfl
 show Calls P f #[.slice a xs.length cap,.string ⟨sep.toArray⟩] w _;rw [e];rw [e] at fin;exact h0.mono fun e w' ⟨he,hw⟩=>fin e w' ⟨he,hw▸RowKit.Below.refl _ _⟩;have Ie:=List.length_pos_iff.2 hx;obtain ⟨ad,es,ea,hs,aM,bf⟩:=fA 0 Ie;have yJ:es=[.string ⟨xs[0].toArray⟩]:=bf;have zJ:=aM 0 (.string ⟨xs[0].toArray⟩) (by rw [yJ];rfl);have Sn:=GQ (show w.cell? ad=some _ by simpa [Addr.add,Ty.size] using zJ);refine (show Calls P f #[.slice a xs.length cap,.string ⟨sep.toArray⟩] w _ from ?_);rw [ea,Sn];refine (h1 ad.block ad.off cap w (fun j x hj=> ?_) (hS _ hs).1 hcap).mono fun e w' h=>by have:=fin e w' h;rw [ea,Sn] at this;exact this
 rw [List.getElem?_map] at hj;cases DB:xs[j]? with
 |none=>rw [DB] at hj;cases hj
 |some y=>
  rw [DB] at hj;injection hj with hj;subst hj;obtain ⟨hlt,hy⟩:=List.getElem?_eq_some_iff.1 DB;obtain ⟨De,es',Lo,_,OT,Su⟩:=fA j hlt;have:De=ad:=by rw [ea] at Lo;injection Lo with Lo;exact Lo.symm
  subst this;have V2:es'=[.string ⟨xs[j].toArray⟩]:=Su;have:=OT 0 (.string ⟨xs[j].toArray⟩) (by rw [V2];rfl);rw [hy] at this;rw [←this]
  congr 1
  unfold Addr.add;simp only [Ty.size,Nat.mul_one,Nat.add_zero];split;rename_i e;subst e;rw [Nat.add_zero];exact Sn.symm;rfl
end Go.Ide
namespace Go.Ide
def Nw (i o:Nat):List (Nat×Nat×Nat)→Option Nat
 |[]=>none
 |(i',o',k)::r=>bif Nat.beq i i'&&Nat.beq o o' then some k else Nw i o r
def vE (k:Nat):List (Nat×Nat×Nat)→Option (Nat×Nat)
 |[]=>none
 |(i,o,k')::r=>bif Nat.beq k k' then some (i,o) else vE k r
def LS (c:Nat)(T:List (Nat×Nat×Nat)):aq→aq
 | .row c' i o=>bif Nat.beq c' c then (match Nw i o T with
  |some k=> .all k
  |none=> .row c' i o) else .row c' i o
 |x=>x
def XY (c:Nat)(T:List (Nat×Nat×Nat)):au→au
 | .one x=> .one (LS c T x)
 | .agg xs=> .agg (xs.map (LS c T))
 | .zq vs=> .zq (vs.map fun p=>(p.1,p.2.map (LS c T)))
 |v=>v
def LU (c:Nat)(T:List (Nat×Nat×Nat)):Chunk→Chunk
 | .box cs=> .box (cs.map (LS c T))
 |ch=>ch
def Cd (t:Ty)(xs:List t.D):List (Nat×Nat×Nat)→Option Mem
 |[]=>some []
 |(i,o,k)::r=>(match cW t (xs.getD i t.dH) o,Cd t xs r with
  |some ⟨e,ys⟩,some m=>some ((k,.seq e ys)::m)
  |_,_=>none)
def Ak (n:Nat):List (Nat×Nat×Nat)→List Prop
 |[]=>[]
 |(i,_,_)::r=>(i<n)::Ak n r
def Nx (own:List Nat)(c:Nat)(T:List (Nat×Nat×Nat))(st:St):Option (St×List Prop):=
 match lk c st.mem with
 |some (.seq t xs)=>bif !(bZ c own)&&((T.map fun p=>p.2.2).all (fun k=> !(D1 k st.mem))&&(iX (T.map fun p=>p.2.2)&&T.all fun p=>match Nw p.1 p.2.1 T with
  |some k=>Nat.beq k p.2.2
  |none=>false)) then (match Cd t xs T with
  |some m=>some (⟨st.fr.map (fun p=>(p.1,XY c T p.2)),(c,.gone)::(m++st.mem.map fun p=>(p.1,LU c T p.2)),st.nx+T.length⟩,Ak xs.length T)
  |none=>none) else none
 |_=>none
theorem FJ {i o k:Nat}: ∀{T:List (Nat×Nat×Nat)},Nw i o T=some k→(i,o,k)∈T
 |(i',o',k')::r,h=>by
  unfold Nw at h;cases hb:(Nat.beq i i'&&Nat.beq o o') with
  |true=>
   rw [hb] at h;simp only [Bool.and_eq_true] at hb;injection h with h;rw [aO hb.1,aO hb.2,h];simp
  |false=>
   rw [hb] at h;exact List.mem_cons_of_mem _ (FJ h)
theorem qX {i o k:Nat}: ∀{T:List (Nat×Nat×Nat)},vE k T=some (i,o)→(i,o,k)∈T
 |(i',o',k')::r,h=>by
  unfold vE at h;cases hb:Nat.beq k k' with
  |true=>
   rw [hb] at h;injection h with h;injection h with h1 h2;rw [aO hb,h1,h2];simp
  |false=>
   rw [hb] at h;exact List.mem_cons_of_mem _ (qX h)
theorem IZ {i o k:Nat}: ∀{T:List (Nat×Nat×Nat)},(T.map fun p=>p.2.2).Nodup→(i,o,k)∈T→vE k T=some (i,o)
 |(i',o',k')::r,hn,h=>by
  unfold vE;rw [List.map_cons,List.nodup_cons] at hn;cases hb:Nat.beq k k' with
  |true=>
   have hk:=aO hb;rcases List.mem_cons.1 h with h|h
   injection h with h1 h2;injection h2 with h2 h3;rw [h1,h2];rfl
   exact absurd (List.mem_map.2 ⟨_,h,by simp [hk]⟩) hn.1
  |false=>
   rcases List.mem_cons.1 h with h|h
   injection h with h1 h2;injection h2 with h2 h3
   subst h3;rw [show Nat.beq k k=true from by simp] at hb;cases hb;exact IZ hn.2 h
theorem wT {t:Ty}{xs:List t.D}: ∀{T:List (Nat×Nat×Nat)} {m:Mem} {k:Nat},Cd t xs T=some m→
 (vE k T=none→lk k m=none)∧ ∀i o,vE k T=some (i,o)→ ∃e ys,cW t (xs.getD i t.dH) o=some ⟨e,ys⟩∧lk k m=some (.seq e ys)
 |[],m,k,h=>by
  simp only [Cd] at h;injection h with h;subst h;exact ⟨fun _=>rfl,fun i o h=>by cases h⟩
 |(i',o',k')::r,m,k,h=>by
  simp only [Cd] at h;split at h;rename_i e ys m' h1 h2;injection h with h;subst h;obtain ⟨Sr,Uu⟩:=wT (k:=k) h2;unfold vE;rw [aw];by_cases e0:k=k';subst e0;rw [show Nat.beq k k=true from by simp,if_pos rfl];exact ⟨fun h=>(by cases h),fun i o h=>(by injection h with h;injection h with h3 h4;subst h3 h4;exact ⟨e,ys,h1,rfl⟩)⟩;rw [show Nat.beq k k'=false from by rw [Bool.eq_false_iff];intro q;exact e0 (aO q),if_neg e0];exact ⟨Sr,Uu⟩;cases h
theorem D8 {α β:Type}(f:α→β)(k:Nat): ∀l:List (Nat×α),lk k (l.map fun p=>(p.1,f p.2))=(lk k l).map f
 |[]=>rfl
 |(k',v)::l=>by
  rw [List.map_cons,aw,aw,D8 f k l];split<;>rfl
theorem wU {n:Nat}: ∀{T:List (Nat×Nat×Nat)},aS (Ak n T)→ ∀p∈T,p.1<n
 |[],_,p,hp=>by simp at hp
 |(i,o,k)::r,h,p,hp=>by
  obtain ⟨h1,h2⟩:i<n∧aS (Ak n r):=h;rcases List.mem_cons.1 hp with rfl|hp
  exact h1;exact wU h2 p hp
theorem GR {c:Nat}{T:List (Nat×Nat×Nat)}{ch:Chunk}{p:List Nat}:(LU c T ch).owns p↔ch.owns p:=by
 cases ch<;>exact Iff.rfl
theorem Le.take {cx:Cx}{st st':St}{own:List Nat}{cs:List Prop}(c:Nat)(T:List (Nat×Nat×Nat))(ho:cx.own.map Prod.fst=own)(he:Nx own c T st=some (st',cs))(hc:aS cs):Le cx st st':=by
 intro g a w hs;unfold Nx at he;split at he;rename_i t xs hl;cases hb:(!(bZ c own)&&((T.map fun p=>p.2.2).all (fun k=> !(D1 k st.mem))&&(iX (T.map fun p=>p.2.2)&&T.all fun p=>match Nw p.1 p.2.1 T with|some k=>Nat.beq k p.2.2|none=>false))) with
 |false=>rw [hb] at he;cases he
 |true=>
  rw [hb,cond_true] at he;simp only [Bool.and_eq_true,Bool.not_eq_true'] at hb;obtain ⟨Ae,OU,lJ,hT⟩:=hb;split at he;rename_i m hm;injection he with he;injection he with Zt Lp;subst Zt Lp;have lJ:=fW lJ;have Zu:=wU hc;have hf: ∀p∈T,lk p.2.2 st.mem=none:=fun p hp=>by
   have:=List.all_eq_true.1 OU p.2.2 (List.mem_map.2 ⟨p,hp,rfl⟩);simp only [Bool.not_eq_true'] at this;unfold D1 at this;split at this;cases this
   assumption
  have V3: ∀p∈T,p.2.2≠c:=fun p hp e=>by
   have:=hf p hp;rw [e,hl] at this;cases this
  have XZ: ∀i o k,(i,o,k)∈T→Nw i o T=some k:=fun i o k hp=>by
   have:=List.all_eq_true.1 hT _ hp;simp only at this;split at this;rename_i k' dS;rw [dS,aO this];cases this
  let g':GM:=⟨fun k p=>match vE k T with
   |some (i,o)=>g.f c (i::o::p)
   |none=>g.f k p⟩
  have gK: ∀{k i o} p,vE k T=some (i,o)→g'.f k p=g.f c (i::o::p):=fun {k i o} p h=>by
   show (match vE k T with|some (i,o)=>g.f c (i::o::p)|none=>g.f k p)=_;rw [h]
  have gN: ∀{k},vE k T=none→g'.f k=g.f k:=fun {k} h=>by
   funext p
   show (match vE k T with|some (i,o)=>g.f c (i::o::p)|none=>g.f k p)=_;rw [h]
  have kN: ∀{k},lk k st.mem≠none→vE k T=none:=fun {k} h=>by
   cases hk:vE k T with
   |none=>rfl
   |some p=>exact absurd (hf _ (qX (i:=p.1) (o:=p.2) hk)) h
  let m':Mem:=(c,.gone)::(m++st.mem.map fun p=>(p.1,LU c T p.2));have mC:lk c m'=some .gone:=by show lk c ((c,Chunk.gone)::_)=_;rw [aw,if_pos rfl]
  have mK: ∀{k i o},vE k T=some (i,o)→ ∃e ys,cW t (xs.getD i t.dH) o=some ⟨e,ys⟩∧lk k m'=some (.seq e ys):=fun {k i o} h=>by
   obtain ⟨e,ys,h1,h2⟩:=(wT (k:=k) hm).2 i o h;refine ⟨e,ys,h1,?_⟩;show lk k ((c,Chunk.gone)::_)=_;rw [aw,if_neg (V3 _ (qX h)),a8,h2];rfl
  have mN: ∀{k},vE k T=none→k≠c→lk k m'=(lk k st.mem).map (LU c T):=fun {k} h cX=>by
   show lk k ((c,Chunk.gone)::_)=_;rw [aw,if_neg cX,a8,(wT (k:=k) hm).1 h,D8];rfl
  have live: ∀{k p ch b},lk k m'=some ch→ch.owns p→g'.f k p=some b→ ∃k0 p0 lA,lk k0 st.mem=some lA∧lA.owns p0∧g.f k0 p0=some b∧(vE k T=none→k0=k∧p0=p)∧ ∀i o,vE k T=some (i,o)→k0=c∧p0=i::o::p:=fun {k p ch b} h1 h2 h3=>by
   cases hk:vE k T with
   |some q=>
    obtain ⟨i,o⟩:=q;rw [gK p hk] at h3;exact ⟨c,i::o::p,_,hl,trivial,h3,fun h=>(by cases h),fun i' o' h=>(by injection h with h;injection h with h4 h5;rw [h4,h5];exact ⟨rfl,rfl⟩)⟩
   |none=>
    by_cases e:k=c;subst e;rw [mC] at h1;injection h1 with h1;subst h1;exact h2.elim
    rw [mN hk e] at h1;cases h4:lk k st.mem with
    |none=>rw [h4] at h1;cases h1
    |some lA=>
     rw [h4] at h1;injection h1 with h1;subst h1;rw [gN hk] at h3;exact ⟨k,p,lA,h4,GR.1 h2,h3,fun _=>⟨rfl,rfl⟩,fun i o h=>(by cases h)⟩
  have safe: ∀b,cx.safe g st.mem w b→cx.safe g' m' w b:=fun b ⟨h1,h2,h3⟩=>⟨h1,h2,fun ⟨k,p,ch,q1,q2,q3⟩=>by
   obtain ⟨k0,p0,lA,r1,r2,r3,_⟩:=live q1 q2 q3;exact h3 ⟨k0,p0,lA,r1,r2,r3⟩⟩
  have me: ∀k,lk k st.mem≠none→lk k m'≠none∧g'.f k=g.f k:=fun k h=>by
   refine ⟨?_,gN (kN h)⟩;by_cases e:k=c;subst e;rw [mC];simp;rw [mN (kN h) e];cases h4:lk k st.mem with
   |none=>exact absurd h4 h
   |some lA=>simp
  have I0: ∀k ty ys,lk k st.mem≠none→lk k m'=some (.seq ty ys)→lk k st.mem=some (.seq ty ys):=fun k ty ys h h1=>by
   by_cases e:k=c;subst e;rw [mC] at h1;cases h1;rw [mN (kN h) e] at h1;cases h4:lk k st.mem with
   |none=>exact absurd h4 h
   |some lA=>
    rw [h4] at h1;injection h1 with h1;cases lA<;>first|exact congrArg some h1|cases h1
  have OV: ∀k ty ys i cs ks,lk k st.mem≠none→lk k m'=some (.nu ty ys i cs ks)→lk k st.mem=some (.nu ty ys i cs ks):=fun k ty ys i cs ks h h1=>by
   by_cases e:k=c;subst e;rw [mC] at h1;cases h1;rw [mN (kN h) e] at h1;cases h4:lk k st.mem with
   |none=>exact absurd h4 h
   |some lA=>
    rw [h4] at h1;injection h1 with h1;cases lA<;>first|exact congrArg some h1|cases h1
  have stays:gq g g' st.mem m' (cx.safe g st.mem w) (cx.safe g' m' w) w w:={
   safe:=fun b h=>⟨safe b h,rfl⟩
   me:=fun k h=>⟨(me k h).1,by show g'.f k []=g.f k [];rw [(me k h).2]⟩
   old:=fun k ty ys h h1=>⟨ys,by
    rcases h1 with h1|⟨i,cs,ks,h1⟩
    exact .inl (I0 k ty ys h h1);exact .inr ⟨i,cs,ks,OV k ty ys i cs ks h h1⟩,rfl⟩
   cg:=fun k ty ys b arr _ _ _ hb=>⟨arr,hb,rfl⟩
   Bb:=fun k h=>(me k h).2
   rows:=fun k ty ys h h1=>⟨ys,I0 k ty ys h h1,bu.refl _ _,fun i o b arr _ hb=>⟨arr,hb,rfl⟩⟩}
  have cell: ∀x v,CR g st.mem (cx.safe g st.mem w) w x v→CR g' m' (cx.safe g' m' w) w (LS c T x) v:=fun x v h=>by
   cases x with
   |row c' i o=>
    simp only [LS];cases hb:Nat.beq c' c with
    |false=>exact CR.stays stays h
    |true=>
     have Fq:=aO hb;subst Fq;rw [cond_true];cases hk:Nw i o T with
     |none=>exact CR.stays stays h
     |some k=>
      have oZ:=FJ hk;have od:=IZ lJ oZ;obtain ⟨e,ys,h1,h2⟩:=mK od;obtain ⟨_,h4,h5⟩:=h;obtain ⟨hi,h6⟩:=h5 t xs hl;refine ⟨by rw [h2];simp,h4,fun t' sD db=> ?_⟩;have db:=cz.toSeq h2 db;rw [h2] at db;injection db with db;injection db with q1 q2;subst q1;have q2:=eq_of_heq q2;subst q2;have:=h6 e ys h1;show gA (g'.f k []) w e.size ys.length v;rw [gK [] od];exact this
   |_=>exact CR.stays stays h
  have cells: ∀xs vs,aK (CR g st.mem (cx.safe g st.mem w) w) xs vs→aK (CR g' m' (cx.safe g' m' w) w) (xs.map (LS c T)) vs:=fun xs=>by
   induction xs with
   |nil=>intro vs h;cases vs with
    |nil=>trivial
    |cons=>exact h.elim
   |cons x xs ih=>intro vs h;cases vs with
    |nil=>exact h.elim
    |cons v vs=>exact ⟨cell x v h.1,ih vs h.2⟩
  have V4: ∀(vs:List (Bool×List aq)) (us:List Value),aK (fun t v=>CV g st.mem (cx.safe g st.mem w) w t.1 t.2 v) vs us→aK (fun t v=>CV g' m' (cx.safe g' m' w) w t.1 t.2 v) (vs.map fun p=>(p.1,p.2.map (LS c T))) us:=fun vs=>by
   induction vs with
   |nil=>intro us h2;cases us with
    |nil=>trivial
    |cons=>exact h2.elim
   |cons p vs ih=>
    intro us h2;cases us with
    |nil=>exact h2.elim
    |cons u us=>
     refine ⟨?_,ih us h2.2⟩;have h3:=h2.1;obtain ⟨ag,ys⟩:=p;show CV g' m' _ w ag (ys.map (LS c T)) u;unfold CV at h3⊢;cases ag with
     |true=>
      obtain ⟨Bp,e,h4⟩:=h3;exact ⟨Bp,e,cells ys Bp h4⟩
     |false=>
      cases ys with
      |nil=>exact h3.elim
      |cons y ys=>
       cases ys with
       |nil=>exact cell y u h3
       |cons=>exact h3.elim
  refine ⟨g',hs.defers.ar stays.safe,hs.size,fun q v hv=> ?_,fun k ch hk=> ?_,fun k k' p p' ch gV b h1 h2 h3 h4 h5 h6=> ?_,fun k p ch b h1 h2 h3=> ?_,fun k p ch b h1 h2 h3=> ?_,hs.ar,fun p hp=> ?_,hs.gl⟩;have hv:lk q (st.fr.map fun p=>(p.1,XY c T p.2))=some v:=hv;rw [D8] at hv;cases hq:lk q st.fr with
  |none=>rw [hq] at hv;cases hv
  |some v0=>
   rw [hq] at hv;injection hv with hv;subst hv;have h:=hs.fr q v0 hq;cases v0 with
   |one x=>exact cell x _ h
   |agg ys=>
    obtain ⟨vs,e,h2⟩:=h;exact ⟨vs,e,cells ys vs h2⟩
   |zq vs=>
    obtain ⟨us,e,h2⟩:=h;exact ⟨us,e,V4 vs us h2⟩
   |A9=>exact h
   |cV=>trivial
  have hk:lk k m'=some ch:=hk;cases od:vE k T with
  |some q=>
   obtain ⟨i,o⟩:=q;obtain ⟨e,ys,h1,h2⟩:=mK od;rw [h2] at hk;injection hk with hk;subst hk;have vV:=ou (g:=g) (m:=st.mem) (S:=cx.safe g st.mem w) (w:=w) (fun k ch h=>hs.mem k ch h) hl (Zu _ (qX od)) h1;have e0:=gK [] od;show match g'.f k [] with|none=>ys=[]|some b=> ∃arr,cg w b arr∧dw _ w (g'.f k) e ys arr
   rw [e0];cases hg:g.f c [i,o] with
   |none=>
    rw [hg] at vV;exact List.length_eq_zero_iff.1 vV
   |some b=>
    rw [hg] at vV;obtain ⟨arr,h3,h4⟩:=vV;refine ⟨arr,h3,fun j hj=> ?_⟩;obtain ⟨es,h5,h6⟩:=h4 j hj;refine ⟨es,h5,?_⟩;have e1:(fun p=>g'.f k (j::p))=fun p=>g.f c (i::o::j::p):=by funext p;exact gK _ od
    rw [e1];exact cf.ar (fun b hb=>⟨safe b hb,rfl⟩) e (fun _ _ _=>rfl) h6
  |none=>
   by_cases e:k=c;subst e;rw [mC] at hk;injection hk with hk;subst hk;trivial
   rw [mN od e] at hk;cases h4:lk k st.mem with
   |none=>rw [h4] at hk;cases hk
   |some lA=>
    rw [h4] at hk;injection hk with hk;subst hk;rw [gN od];have h5:=hs.mem k lA h4;cases lA with
    |box ys=>
     obtain ⟨b,arr,q1,q2,q3⟩:=h5;exact ⟨b,arr,q1,q2,cells _ _ q3⟩
    |_=>exact gU.stays stays (fun _ _ _ _=>rfl) h5
  obtain ⟨k0,p0,lA,r1,r2,r3,r4,r5⟩:=live h1 h2 h5;obtain ⟨k1,p1,Uc,s1,s2,s3,s4,s5⟩:=live h3 h4 h6;obtain ⟨e1,e2⟩:=hs.eH k0 k1 p0 p1 lA Uc b r1 r2 s1 s2 r3 s3;cases hk:vE k T with
  |none=>
   obtain ⟨q1,q2⟩:=r4 hk;cases dS:vE k' T with
   |none=>
    obtain ⟨q3,q4⟩:=s4 dS;rw [←q1,←q2,←q3,←q4];exact ⟨e1,e2⟩
   |some q=>
    obtain ⟨i,o⟩:=q;obtain ⟨q3,q4⟩:=s5 i o dS;have:k=c:=by rw [←q1,e1,q3]
    subst this;rw [mC] at h1;injection h1 with h1;subst h1;exact h2.elim
  |some q=>
   obtain ⟨i,o⟩:=q;obtain ⟨q1,q2⟩:=r5 i o hk;cases dS:vE k' T with
   |none=>
    obtain ⟨q3,q4⟩:=s4 dS;have:k'=c:=by rw [←q3,←e1,q1]
    subst this;rw [mC] at h3;injection h3 with h3;subst h3;exact h4.elim
   |some q'=>
    obtain ⟨i',o'⟩:=q';obtain ⟨q3,q4⟩:=s5 i' o' dS;rw [q2,q4] at e2;injection e2 with e3 e4;injection e4 with e4 e5;subst e3 e4;have u1:=XZ _ _ _ (qX hk);have u2:=XZ _ _ _ (qX dS);rw [u1] at u2;injection u2 with u2;exact ⟨u2,e5⟩
  obtain ⟨k0,p0,lA,r1,r2,r3,_⟩:=live h1 h2 h3;exact hs.gp k0 p0 lA b r1 r2 r3;obtain ⟨k0,p0,lA,r1,r2,r3,_⟩:=live h1 h2 h3;exact hs.lt k0 p0 lA b r1 r2 r3;obtain ⟨q1,q2⟩:=hs.own p hp;obtain ⟨q3,q4⟩:=me p.1 q2;exact ⟨q4.trans q1,q3⟩;cases he
 cases he
end Go.Ide
namespace Go.Ide
end Go.Ide
namespace Go.Ide
def wV {α:Type}(f:List Int→α→Option α):Nat→List Int→α→Option α
 |0,_,s=>some s
 |m+1,xs,s=>(f (xs.take 4) s).bind fun s'=>wV f m (xs.drop 4) s'
def tq {α:Type}(f:List Int→α→Option α)(xs:List Int)(s:α):Option α:=
 ai (xs.length%4=0∧xs.length≤4194304) (wV f (xs.length/4) xs s)
structure ChunkFn (P:Program)(fc fi:FuncId):Prop where
 can:j4 P fc
 V5:j4 P fi
 call: ∃T1 T2:TypeId,∀al len cap (w:World),Calls P fc #[.slice al len cap,.int .i64 4] w fun e w'=>
  e= .returned (.func (.func fi) #[] #[.pointer (some ⟨w.heap.size,0,none⟩),.pointer (some ⟨w.heap.size+1,0,none⟩)])∧w'=(w.alloc (.cells #[.slice al len cap] T1)).alloc (.cells #[.int .i64 4] T2)
 iter: ∀(l Bs Bn:Nat) (al:Option Addr) (b off m cap:Nat),m≤1048576→4*m≤cap→(0<m→al=some ⟨b,off,none⟩)→ ∀(J:Nat→World→Prop),
  (∀k W,J k W→J k W.drew)→
  (∀k W,J k W→k<m→YieldAt Fence.wide 0 P l #[.slice (some ⟨b,off+4*k,none⟩) 4 4] W fun e W'=>
   e= .returned (.bool true)∧J (k+1) W'∧W'.heap[Bs]? =W.heap[Bs]? ∧W'.heap[Bn]? =W.heap[Bn]?)→
  ∀W:World,W.cell? ⟨Bs,0,none⟩=some (.slice al (4*m) cap)→W.cell? ⟨Bn,0,none⟩=some (.int .i64 4)→J 0 W→
  CallsIn Fence.wide 1 P fi #[.func (.yield l) #[] #[],.pointer (some ⟨Bs,0,none⟩),.pointer (some ⟨Bn,0,none⟩)] W fun e W'=>(∃v,e= .returned v)∧J m W'
def rG:List Oper→List Nat
 |[]=>[]
 |o::r=>(match o.dst with
  |some t=>t::rG r
  |none=>rG r)
def tt:List Oper→Bool
 |[]=>true
 |o::r=>(match o.op with
  | .defer _=>false
  |_=>true)&&tt r
section
variable {P:Program} {Q:Exit→Act→World→Prop}
def tu (ds:List Nat)(T0:Array Value)(a:Act):Prop:=a.tmps.size=T0.size∧ ∀t,t ∉ ds→a.tmps.getD t undef=T0.getD t undef
theorem tu.put {ds:List Nat}{T0:Array Value}{a:Act}(h:tu ds T0 a)(d:Option Tmp)(hd: ∀t,d=some t→t∈ds)(v:Value):tu ds T0 (a.put d v):=by
 cases d with
 |none=>exact h
 |some t=>
  refine ⟨by simp [Act.put,h.1],fun q hq=> ?_⟩;have cX:t≠q:=fun e=>hq (e▸hd t rfl);rw [←h.2 q hq];simp [Act.put,Array.getD_eq_getD_getElem?,Array.getElem?_setIfInBounds,cX]
theorem D9 {l n:Nat}{ds:List Nat}{T0:Array Value}{Q':Exit→Act→World→Prop}{next next':Act→World→Prop}{o:Oper}{a:Act}{w:World}(hQ: ∀a w,¬Q .outgrown a w)(hp: ∀c a w,Q (.panic c) a w→Q' (.panic c) a w)(hd: ∀c,o.op≠ .defer c)(Sv: ∀t,o.dst=some t→t∈ds)(ht:tu ds T0 a)(Nn: ∀a' w',tu ds T0 a'→next a' w'→next' a' w')(h:o.wp P a w next Q∨(o.asks P a w∧LetsOut Q)):
 o.wpIn (Fence.wide.inRound l) n P a w next' Q':=by
 rcases h with h|⟨_,a',w',h⟩
 refine ⟨fun _ _=>trivial,?_⟩;rw [show (o.semAt (Fence.wide.inRound l).round a.eval)=execOp a.eval o from Oper.semAt_eq _ _ _ hd];unfold Oper.wp at h;revert h;cases hr:(execOp a.eval o).run P w with
 |ok x w'=>
  cases x with
  |value v=>exact fun h=>Nn _ _ (ht.put _ Sv v) h
  |skip=>exact fun h=>Nn _ _ (ht.put _ Sv undef) h
  |defer d=>exact fun h=>Nn _ _ (tu.put (a:={a with defers:=d::a.defers}) ht _ Sv undef) h
  |enter f args=>
   intro h;refine ⟨fun hx=>(by cases hx),CallsIn.mono (F:=Fence.wide.inRound l) (show CallsIn (Fence.wide.inRound l) (n - 1) P f args w' _ from (callsIn_wide (n:=n - 1)).2 h) fun e X0 he=> ?_⟩;cases e with
   |returned v=>exact Nn _ _ (ht.put _ Sv v) he
   |panicked=>exact hp _ _ _ he
   |outgrown=>obtain ⟨a0,w0,h0⟩:=he;exact absurd h0 (hQ _ _)
  |row f args=>
   intro h;refine ⟨fun hx=>(by cases hx),fun c cs _=> ?_⟩;obtain ⟨v,X0,h1,h2⟩:=h c cs;exact ⟨v,X0,Nn _ _ (ht.put _ Sv v) h1,stepsIn_wide.2 h2⟩
  |_=>exact fun h=>h.elim
 |halt x w'=>
  cases x<;>first|exact fun h=>h.elim|exact fun h=>hp _ _ _ h
 exact absurd h (hQ a' w')
theorem wW: ∀{os:List Oper},tt os=true→ ∀o∈os,∀c,o.op≠ .defer c
 |[],_,o,ho,_=>by simp at ho
 |p::os,hn,o,ho,c=>by
  unfold tt at hn;simp only [Bool.and_eq_true] at hn;rcases List.mem_cons.1 ho with rfl|ho
  intro e;rw [e] at hn;cases hn.1;exact wW hn.2 o ho c
theorem Ce {o:Oper}(t:Nat)(e:o.dst=some t): ∀{os:List Oper},o∈os→t∈rG os:=by
 intro os;induction os with
 |nil=>intro h;simp at h
 |cons p os ih=>
  intro h;simp only [rG];rcases List.mem_cons.1 h with h|h
  rw [←h,e];exact List.mem_cons_self;cases hp:p.dst with
  |none=>exact ih h
  |some q=>exact List.mem_cons_of_mem _ (ih h)
theorem lF {l n:Nat}{ops:List Oper}{T0:Array Value}(hQ: ∀a w,¬Q .outgrown a w)(hn:tt ops=true): ∀{is:List Nat} {a:Act} {w:World},tu (rG ops) T0 a→wpOps P ops.toArray Q is a w→
 wpOpsIn (Fence.wide.inRound l) n P ops.toArray (fun e a' w'=>Q e a' w'∧(e= .normal→tu (rG ops) T0 a')) is a w
 |[],a,w,ht,h=>⟨h,fun _=>ht⟩
 |i::is,a,w,ht,h=>by
  simp only [wpOps] at h;simp only [wpOpsIn];cases ho:ops.toArray[i]? with
  |none=>rw [ho] at h;exact lF hQ hn ht h
  |some o=>
   rw [ho] at h;simp only at h⊢;have hm:o∈ops:=by
    rw [List.getElem?_toArray] at ho;exact List.mem_of_getElem? ho
   split;rename_i hw;rw [if_pos hw] at h;exact D9 hQ (fun _ _ _ hq=>⟨hq,fun e=>by cases e⟩) (wW hn o hm) (fun t e=>Ce t e hm) ht (fun _ _ RR h'=>lF hQ hn RR h') h;rename_i hw;rw [if_neg hw] at h;exact ⟨fun _ _=>trivial,lF hQ hn (ht.put _ (fun t e=>Ce t e hm) undef) h⟩
end
section
variable {cx:Cx} {g:GM} {st:St} {w:World}
theorem bD.agree {a a':Act}(h:bD cx g st a w)(hs:a'.tmps.size=a.tmps.size)(ht: ∀t,lk t st.fr≠none→a'.tmps.getD t undef=a.tmps.getD t undef)(hd:xT cx g st.mem w a'.defers):bD cx g st a' w:=
 ⟨hd,hs.trans h.size,fun t v hl=>by rw [ht t (by rw [hl];simp)];exact h.fr t v hl,h.mem,h.eH,h.gp,h.lt,h.ar,h.own,h.gl⟩
theorem FK {α:Type}: ∀{l:List (Nat×α)} {t:Nat},lk t l≠none→t∈l.map Prod.fst
 |[],t,h=>absurd (eB t) h
 |(k,v)::l,t,h=>by
  rw [aw] at h;by_cases e:t=k;subst e;simp;rw [if_neg e] at h;exact List.mem_cons_of_mem _ (FK h)
theorem bD.apart {g':GM}{st':St}{a':Act}{w':World}{F':List Nat}(hF: ∀b,b∈F'↔Live g st.mem b)(h':bD {cx with w0:=w,S:=cx.safe g st.mem w,F:=F'} g' st' a' w'){D:Nat}(hlt:D<w.heap.size)(hl: ¬Live g st.mem D):
 w'.heap[D]? =w.heap[D]? ∧ ¬Live g' st'.mem D:=by
 refine ⟨h'.ar.block D hlt fun hm=>hl ((hF D).1 hm),fun ⟨k,p,ch,h1,h2,h3⟩=> ?_⟩;rcases h'.gp k p ch D h1 h2 h3 with hx|hx
 exact absurd hlt (Nat.not_lt.2 hx);exact hl ((hF D).1 hx)
end
section
variable {S:Nat→Prop} {w:World}
theorem ints_at {al:Option Addr}{len cap:Nat}{xs:List Int}(h:aR S w aN [.slice al len cap] xs):len=xs.length∧len≤cap∧(0<len→ ∃b off,al=some ⟨b,off,none⟩):=by
 obtain ⟨a,c,e,hc,lr⟩:=h;injection e with e;injection e with e1 e2 e3;subst e1 e2 e3;refine ⟨rfl,hc,fun h0=> ?_⟩;obtain ⟨ad,es,ea,hs,aM,bf⟩:=lr 0 h0;have yJ:es=[.int .i64 (xs[0]:Int)]:=bf;have h1:=aM 0 (.int .i64 (xs[0]:Int)) (by rw [yJ];rfl);obtain ⟨b,o,s⟩:=ad;cases s with
 |none=>exact ⟨b,o,ea⟩
 |some s=>
  exfalso;simp only [Ty.size,Nat.zero_mul,Nat.add_zero] at h1;unfold Addr.add at h1;simp only [if_true] at h1;unfold World.cell? at h1;simp only [Option.isSome_some,if_true] at h1;split at h1<;>cases h1
theorem Ea {b off len cap k:Nat}{xs:List Int}(h:aR S w aN [.slice (some ⟨b,off,none⟩) len cap] xs)(hk:4*k+4≤xs.length):
 aR S w aN [.slice (some ⟨b,off+4*k,none⟩) 4 4] ((xs.drop (4*k)).take 4):=by
 obtain ⟨a,c,e,hc,lr⟩:=h;injection e with e;injection e with e1 e2 e3;subst e1 e2 e3;have hl:(show List Int from (xs.drop (4*k)).take 4).length=4:=by simp;omega
 refine ⟨some ⟨b,off+4*k,none⟩,4,?_,?_,fun i hi=> ?_⟩;show [Value.slice _ 4 4]=[Value.slice _ (List.length ((xs.drop (4*k)).take 4)) 4];rw [show List.length ((xs.drop (4*k)).take 4)=4 from hl];exact Nat.le_of_eq hl;have hi4:i<4:=by rw [←hl];exact hi
 obtain ⟨ad,es,ea,hs,aM,bf⟩:=lr (4*k+i) (by omega);injection ea with ea;subst ea;refine ⟨⟨b,off+4*k,none⟩,es,rfl,hs,fun j v hv=> ?_,?_⟩;have:=aM j v hv;rw [aX] at this⊢;rw [←this];simp only [Ty.size]
 congr 2
 omega;have e:(show List Int from (xs.drop (4*k)).take 4)[i]=xs[4*k+i]'(by omega):=by simp
 show aR S w (.int .i64) es ((show List Int from (xs.drop (4*k)).take 4)[i]);rw [e];exact bf
end
section
variable {cx:Cx} {st st1:St} {P:Program} {N:Nat} {own:List Nat} {Q:Exit→St→Prop}
theorem I1 {P:Program}{fc:FuncId}(h:j4 P fc){o:Oper}{V6:Array TypeId}{as:Array Operand}(ho:o.op= .call {callee:= .value (.func fc),args:=as,argTypes:=V6})(a:Act)(w:World):
 (execOp a.eval o).run P w= .ok (.enter fc (as.map a.eval)) w:=by
 obtain ⟨fn,c1,c2,c3⟩:=h;have vB:a.eval (.func fc)= .func (.func fc) #[] #[]:=rfl;simp only [execOp,ho,resolve,vB,Deferred.ofValue,Sem.run_bind,Sem.run_pure,Result.andThen_ok,invoke,callFunc,run_program,c1];simp only [c2,c3];simp
def tw (cx:Cx)(st st':St)(ops:List Oper)(dr:Bool):Prop:=
 ∀g a w,bD cx g st a w→ ∀t,wpOps cx.P ops.toArray (fun e a' w'=>e= .normal∧ ∃g',bD cx g' st' a' w') (match dr with
  |true=>Region.schedule (cx.P.follows .mixedOrders) ops.toArray t
  |false=>List.range ops.toArray.size) a (match dr with
  |true=>{w with drawn:=w.drawn+1}
  |false=>w)
theorem tw.draw {st st':St}(h:Nat){ops:List Oper}{hrs:List HR}{tds:List (List Nat)}{rs:List OH}{cs:List Prop}(hX:gf cx P N own)(hm:P.follows .mixedOrders=true)(he:Ca P N ops h hrs tds rs st=some (st',cs))(hc:aS cs):tw cx st st' ops true:=by
 obtain ⟨hP,hN,_⟩:=hX;subst hP hN;intro g a w hs t;unfold Ca at he;cases hb:((Nat.beq hrs.length h&&Nat.ble h ops.length)&&lO ops (hrs.map HR.D++tds) h 0 ops) with
 |false=>rw [hb] at he;cases he
 |true=>
  rw [hb] at he;simp only [cond_true] at he;simp only [Bool.and_eq_true] at hb;split at he;rename_i cQ GP nx h1;split at he;rename_i st1 Nl h2;injection he with he;injection he with e1 e2;subst e1;subst e2;obtain ⟨A5,bQ⟩:=hc.append;simp only [Region.schedule,hm,Bool.true_or,if_true];exact wpAny_sound ops.toArray.size t _ a _ (hs.FE (by simp only [Bool.and_eq_true,beq_iff_eq];exact ⟨aO hb.1.1,hb.1.2⟩) hb.2 h1 h2 A5 bQ fun g' a' w' db=>⟨rfl,g',db⟩);cases he;cases he
def I2 (g:GM)(m:Mem)(l:List Nat):Prop:= ∀b∈l,¬Live g m b
theorem HT.chunk {α:Type}(S:α→St){f:List Int→α→Option α}{s0 r:α}{xs:List Int}{ops Al:List Oper}{n:Nat}{rs:List OH}{cs:List Prop}{id ia Zv bb ib ts td tp ta:Nat}{fc fi:FuncId}{oc oa:Oper}{V6:Array TypeId}{ks:List Nat}{dr:Bool}(hX:gf cx P N own)(V7:cx.nd=false)(hfn:ChunkFn P fc fi)(Sw:ops.drop n=[oc])(Zw:oc.op= .call {callee:= .value (.func fc),args:= #[.tmp ts,.const (.int .i64 4)],argTypes:=V6})(V8:oc.dst=some td)(V9:oc.guard=none)(X1:oa.op= .assign (.tmp tp))(Wa:oa.dst=some ta)(Wc:oa.guard=none)(he:nQ P N ops (ops.take n) rs st=some (st1,cs))(hc:aS cs)(hle:Le cx st1 (S s0))(hk: ∀s,(S s).fr.map Prod.fst=ks)(Nu: ∀s,lk ts (S s).fr=some (nV xs))(V0:(ks.all fun t=> !(bZ t (td::tp::ta::rG Al)))=true)(lJ:tt Al=true)(pg:(Nat.blt td N&&(Nat.blt tp N&&Nat.blt ta N))=true)(hr:tq f xs s0=some r)(BT: ∀ys s s',f ys s=some s'→ ∀Hz:Cx,gf Hz P N own→ ∃FB,tw Hz ⟨(ta,nV ys)::(S s).fr,(S s).mem,(S s).nx⟩ FB Al dr∧Le Hz FB (S s'))(hq:Q .normal (S r)):
 HT cx st (.seq (.region id ops.toArray false) (.block Zv (.rangeFunc (.tmp td) #[tp] (.region ia #[oa] false) (.block bb (.region ib Al.toArray dr))))) Q:=by
 obtain ⟨hP,hN,hO⟩:=hX;subst hP hN;obtain ⟨⟨hx4,hxl⟩,hr⟩:=ig hr;simp only [Bool.and_eq_true] at pg;have pg:td<cx.N∧tp<cx.N∧ta<cx.N:=⟨Nat.lt_of_lt_of_le (Nat.lt_succ_self _) (Nat.le_of_ble_eq_true pg.1),Nat.lt_of_lt_of_le (Nat.lt_succ_self _) (Nat.le_of_ble_eq_true pg.2.1),Nat.lt_of_lt_of_le (Nat.lt_succ_self _) (Nat.le_of_ble_eq_true pg.2.2)⟩;have zA: ∀s t,lk t (S s).fr≠none→t ∉ (td::tp::ta::rG Al):=fun s t h hm=>by
  have h1:=FK h;rw [hk] at h1;have h2:=List.all_eq_true.1 V0 t h1;rw [dp.2 hm] at h2;cases h2
 obtain ⟨m,hm⟩: ∃m,m=xs.length/4:=⟨_,rfl⟩;have X2:xs.length=4*m:=by omega
 rw [←hm] at hr;obtain ⟨T1,T2,IT⟩:=hfn.call;intro g a w hs;refine wp_seq (wp_region_lit ?_);rw [←List.take_append_drop n ops,Sw];refine wS (all:=ops.take n++[oc]) hs (by rw [←Sw,List.take_append_drop];exact he) hc fun g1 a1 w1 zW=> ?_;obtain ⟨g2,yj⟩:=hle g1 a1 w1 zW;refine wpList_step fun K hK=> ?_;simp only [Region.wanted,V9,if_true];unfold Oper.wp;rw [I1 hfn.can Zw];have hv:=yj.fr ts _ (Nu s0);obtain ⟨al,cap,hval⟩: ∃al cap,a1.tmps.getD ts undef= .slice al xs.length cap:=by
  obtain ⟨al,cap,e,_⟩:=(hv:aR _ _ aN _ xs);exact ⟨al,cap,by injection e⟩
 have hv:aR (cx.safe g2 (S s0).mem w1) w1 aN [.slice al xs.length cap] xs:=by rw [←hval];exact hv
 obtain ⟨_,hcap,kD⟩:=ints_at hv;have eJ:(#[Operand.tmp ts,Operand.const (Value.int IntKind.i64 4)].map a1.eval)= #[.slice al xs.length cap,.int .i64 4]:=by
  rw [←hval];apply Array.ext';rw [Array.toList_map];rfl
 rw [eJ];refine Calls.mono (IT al xs.length cap w1) ?_;rintro e w2 ⟨rfl,rfl⟩;refine hK _ _ (?_:Code.wp cx.P _ _ _ _);rw [V8];obtain ⟨Bs,hBs⟩: ∃Bs,Bs=w1.heap.size:=⟨_,rfl⟩;obtain ⟨w2,HA⟩: ∃w2,w2=(w1.alloc (.cells #[.slice al xs.length cap] T1)).alloc (.cells #[.int .i64 4] T2):=⟨_,rfl⟩;rw [←HA,←hBs];have Zx:w2.heap.size=w1.heap.size+2:=by rw [HA];simp
 obtain ⟨fv,vB⟩: ∃fv:Value,fv= .func (.func fi) #[] #[.pointer (some ⟨Bs,0,none⟩),.pointer (some ⟨Bs+1,0,none⟩)]:=⟨_,rfl⟩;rw [←vB];have Wd:w2.cell? ⟨Bs,0,none⟩=some (.slice al (4*m) cap):=by
  have h1:w2.heap[Bs]? =some (.cells #[.slice al xs.length cap] T1):=by
   rw [HA,hBs,RowKit.Below.heap_alloc _ _ _ (by simp)];exact World.alloc_heap_new w1 _
  unfold World.cell?;rw [h1,X2];rfl
 have We:w2.cell? ⟨Bs+1,0,none⟩=some (.int .i64 4):=by
  have h1:w2.heap[Bs+1]? =some (.cells #[.int .i64 4] T2):=by
   have:=World.alloc_heap_new (w1.alloc (.cells #[.slice al xs.length cap] T1)) (.cells #[.int .i64 4] T2);rw [World.size_alloc] at this;rw [HA,hBs];exact this
  unfold World.cell?;rw [h1];rfl
 have LV:bD cx g2 (S s0) (a1.put (some td) fv) w2:=by
  have h1:bD cx g2 (S s0) (a1.put (some td) fv) w1:=yj.agree (by simp [Act.put]) (fun t ht=>by
   have:=zA s0 t ht;have cX:td≠t:=fun e=>this (by rw [e];simp);simp [Act.put,Array.getD_eq_getD_getElem?,Array.getElem?_setIfInBounds,cX]) yj.defers
  have h2:=h1.grown (World.grownBy_alloc w1 (.cells #[.slice al xs.length cap] T1) none) (fun r e=>by cases e);have h3:=h2.grown (World.grownBy_alloc _ (.cells #[.int .i64 4] T2) none) (fun r e=>by cases e);rw [HA];exact h3
 have OW: ∀b,Live g2 (S s0).mem b→b<Bs:=fun b ⟨k,p,ch,h1,h2,h3⟩=>by rw [hBs];exact yj.lt k p ch b h1 h2 h3
 obtain ⟨a2,Rc⟩: ∃a2,a2=a1.put (some td) fv:=⟨_,rfl⟩;rw [←Rc] at LV⊢;have cY:a2.tmps.size=cx.N:=LV.size;have Wf:a2.tmps.getD ts undef= .slice al (4*m) cap:=by
  have cX:td≠ts:=fun e=>zA s0 ts (by rw [Nu];simp) (by rw [←e];simp);rw [Rc,←X2,←hval];simp [Act.put,Array.getD_eq_getD_getElem?,Array.getElem?_setIfInBounds,cX]
 have hg:a2.eval (.tmp td)=fv:=by
  have:td<a1.tmps.size:=by rw [yj.size];exact pg.1
  show a2.tmps.getD td undef=fv;rw [Rc];simp [Act.put,Array.getD_eq_getD_getElem?,Array.getElem?_setIfInBounds,this]
 have hw0:cx.w0.heap.size≤w2.heap.size:=LV.ar.size;have Lm: ∀x,({target:= .collected x,args:= #[]}:Deferred)∈a2.defers→x<w2.heap.size:=fun x hx=>by
  obtain ⟨_,Ds,e,_,OE⟩:=LV.defers;rw [e] at hx;obtain ⟨y,hy,e2⟩:=List.mem_map.1 hx;injection e2 with e2;injection e2 with e2;subst e2;exact (Array.getElem?_eq_some_iff.1 (OE y hy).1).1
 clear Rc yj zW hs eJ hval;refine wp_block ((wpIn_wide (n:=2)).1 (wpIn_rangeFunc ?_));intro fn _;obtain ⟨D,hD⟩: ∃D,D=w2.heap.size:=⟨_,rfl⟩;obtain ⟨rec,Eb⟩: ∃rec:LoopState→Option Code→Loop,rec=fun st pe=>{state:=st,pending:=pe,fn,tmps:=a2.tmps,params:= #[tp],assign:= .region ia #[oa] false,body:= .block bb (.region ib Al.toArray dr),defers:=D}:=⟨_,rfl⟩;obtain ⟨W1,Sx⟩: ∃W1,(w2.alloc (.deferred (some []))).alloc (.loop (rec .ready none))=W1:=⟨_,rfl⟩;have Zy:W1.heap[D+1]? =some (.loop (rec .ready none)):=by
  rw [←Sx,hD];have:=World.alloc_heap_new (w2.alloc (.deferred (some []))) (.loop (rec .ready none));rwa [World.size_alloc] at this
 have Un:W1.heap[D]? =some (.deferred (some [])):=by
  rw [←Sx,hD];exact (RowKit.Below.heap_alloc _ _ _ (by simp)).trans (World.alloc_heap_new w2 _)
 have Zz:bD cx g2 (S s0) a2 W1:=by
  rw [←Sx];exact (LV.grown (World.grownBy_alloc w2 _ none) (fun r e=>by cases e)).grown (World.grownBy_alloc _ _ none) (fun r e=>by cases e)
 have Lt: ∀b,b<D→W1.heap[b]? =w2.heap[b]? :=fun b hb=>by
  rw [←Sx,RowKit.Below.heap_alloc _ _ _ (by simp;omega),RowKit.Below.heap_alloc _ _ _ (by omega)]
 let ap:List Nat:=[Bs,Bs+1,D,D+1];let J:Nat→World→Prop:=fun k W=>(∃s g,wV f (m - k) (xs.drop (4*k)) s=some r∧bD cx g (S s) a2 W∧I2 g (S s).mem ap)∧W.heap[D+1]? =some (.loop (rec .ready none))∧W.heap[D]? =some (.deferred (some []));refine ⟨D+1,[{target:= .collected D,args:= #[]}],W1,{target:= .fn (.func fi) #[.pointer (some ⟨Bs,0,none⟩),.pointer (some ⟨Bs+1,0,none⟩)],args:= #[.func (.yield (D+1)) #[] #[]]},W1,fi,
  #[.func (.yield (D+1)) #[] #[]]++ #[.pointer (some ⟨Bs,0,none⟩),.pointer (some ⟨Bs+1,0,none⟩)],W1,?_,?_,?_,?_,fun _=>(by decide),?_⟩
 rw [←Sx,Eb,hD];exact run_enterLoop_outer _ _ _ _ _
 ·simp only [resolve,hg,vB];simp [go_sem]
 intro f' hf';trivial;obtain ⟨fi',c1,c2,c3⟩:=hfn.V5;simp only [invoke,callFunc,Sem.run_bind,run_program,Result.andThen_ok,c1];simp [c2,c3];obtain ⟨b,off,Sy⟩: ∃b off,0<m→al=some ⟨b,off,none⟩:=by
  by_cases h0:0<m;obtain ⟨b,off,e⟩:=kD (by omega);exact ⟨b,off,fun _=>e⟩;exact ⟨0,0,fun h=>absurd h h0⟩
 have RY:I2 g2 (S s0).mem ap:=fun x hx hl=>by
  have h1:=OW x hl;simp only [ap,List.mem_cons,List.not_mem_nil,or_false] at hx;omega
 refine (hfn.iter (D+1) Bs (Bs+1) al b off m cap (by omega) (by omega) Sy J ?_ ?_ W1 ?_ ?_ ?_).mono ?_;rintro k W ⟨⟨s,g,h1,h2,h3⟩,h4,h5⟩;exact ⟨⟨s,g,h1,h2.drew,h3⟩,h4,h5⟩;rintro k W ⟨⟨s,g,bK,hS,hA⟩,hl,hd⟩ Ut;have hlt:D+1<W.heap.size:=(Array.getElem?_eq_some_iff.1 hl).1;have Wg:=Sy (by omega);obtain ⟨n',xU⟩: ∃n',m - k=n'+1:=⟨m - k - 1,by omega⟩;rw [xU] at bK;obtain ⟨s',hf,bK⟩:=qV bK;obtain ⟨v,X3⟩: ∃v:Value,v= .slice (some ⟨b,off+4*k,none⟩) 4 4:=⟨_,rfl⟩;rw [←X3];have hy:=run_yield (P:=cx.P) (args:= #[v]) hl (by rw [Eb];rfl);rw [Eb] at hy;refine ⟨fn,_,_,_,hy,roundIn_of_wpIn trivial ?_⟩;refine wpIn_region_lit (l:=[oa]) (wpListIn_plain Wc fun K hK=>⟨fun _ _=>trivial,?_⟩);rw [Oper.semAt_eq _ _ _ (by simp [X1])];simp only [execOp,X1];refine hK _ _ (wpListIn_nil ?_);refine ⟨_,run_beginRound hl (by rw [Eb]),?_⟩;obtain ⟨Wb,Sz⟩: ∃Wb,Wb=W.putObj (D+1) (.loop {rec .ready none with state:= .busy}):=⟨_,rfl⟩;rw [←Sz];have ZA:Wb.heap[D+1]? =some (.loop {rec .ready none with state:= .busy}):=by rw [Sz];exact World.putObj_heap_same hlt
 have Q3: ∀x,x≠D+1→Wb.heap[x]? =W.heap[x]? :=fun x hx=>by rw [Sz];exact World.putObj_heap_other hx
 have SA:Wb.heap.size=W.heap.size:=by rw [Sz];simp
 have Wh:bD cx g (S s) a2 Wb:=by
  rw [Sz];exact hS.grown (grownBy_putObj' W (D+1) _) (fun x e=>by cases e;exact ⟨by omega,_,hl,rfl,by simp,by simp⟩)
 have X4:=Wh.fr ts _ (Nu s);rw [Wf,Wg] at X4;have SB:=Ea (k:=k) (X4:aR _ _ aN _ xs) (by omega);rw [←X3] at SB;obtain ⟨T,hT⟩: ∃T,T=a2.tmps.setIfInBounds tp v:=⟨_,rfl⟩;have pR:(Array.foldl (fun tmps x=>tmps.setIfInBounds x.fst x.snd) a2.tmps (#[tp].zip #[v]))=T:=by
  rw [hT,show (#[tp].zip #[v])= #[(tp,v)] from by apply Array.ext';simp];simp
 have GS:({tmps:=T,defers:=[]}:Act).eval (.tmp tp)=v:=by
  have:tp<a2.tmps.size:=by rw [cY];exact pg.2.1
  show T.getD tp undef=v;rw [hT];simp [Array.getD_eq_getD_getElem?,Array.getElem?_setIfInBounds,this]
 rw [pR,GS,Wa];have ZB:bD cx g (S s) {tmps:=T,defers:=[]} Wb:=Wh.agree (by simp [hT]) (fun t ht=>by
  have cX:tp≠t:=fun e=>zA s t ht (by rw [e];simp);simp [hT,Array.getD_eq_getD_getElem?,Array.getElem?_setIfInBounds,cX]) .nil
 have C8:=ZB.put (v:=nV ((xs.drop (4*k)).take 4)) (val:=v) SB (some ta) (fun t e=>by cases e;exact pg.2.2);obtain ⟨a3,Uw⟩: ∃a3,a3=({tmps:=T,defers:=[]}:Act).put (some ta) v:=⟨_,rfl⟩;rw [←Uw] at C8⊢;have Wi:({a3 with defers:=[]}:Act)=a3:=by rw [Uw];rfl
 obtain ⟨F',hF,hb⟩:=C8.Ox;rw [Wi] at hb;obtain ⟨FB,tR,pZ⟩:=BT _ _ _ hf {cx with w0:=Wb,S:=cx.safe g ((S s).put (some ta) (nV ((xs.drop (4*k)).take 4))).mem Wb,F:=F'} ⟨rfl,rfl,hO⟩;have fS:(Code.region ib Al.toArray dr).wpIn (Fence.wide.inRound (D+1)) 0 cx.P (fun e a' w'=>(e= .normal∧ ∃g',bD {cx with w0:=Wb,S:=cx.safe g ((S s).put (some ta) (nV ((xs.drop (4*k)).take 4))).mem Wb,F:=F'} g' FB a' w')∧(e= .normal→tu (rG Al) a3.tmps a')) a3 Wb:=by
  have h1:=tR g a3 Wb hb;cases dr with
  |true=>exact wpIn_region_draw fun t=>lF (fun _ _ h=>by cases h.1) lJ ⟨rfl,fun _ _=>rfl⟩ (h1 t)
  |false=>exact wpIn_region (lF (fun _ _ h=>by cases h.1) lJ ⟨rfl,fun _ _=>rfl⟩ (h1 0))
 refine wpIn_block (wpIn_mono fS ?_);rintro e a5 w5 ⟨⟨rfl,g5,h5⟩,tf⟩;have tf:=tf rfl;obtain ⟨g6,h7⟩:=pZ g5 {tmps:=a5.tmps,defers:=[]} w5 ⟨.nil,h5.size,h5.fr,h5.mem,h5.eH,h5.gp,h5.lt,h5.ar,h5.own,h5.gl⟩;have GU: ∀x,x<W.heap.size→ ¬Live g (S s).mem x→w5.heap[x]? =Wb.heap[x]? ∧ ¬Live g6 (S s').mem x:=fun x h1 h2=>bD.apart hF h7 (by rw [SA];exact h1) h2;have h8:bD cx g6 (S s') {tmps:=a5.tmps,defers:=[]} w5:=C8.Oy hF h7 .nil;have h9:bD cx g6 (S s') a2 w5:=h8.agree (by rw [tf.1,Uw];simp [Act.put,hT]) (fun t ht=>by
  have OB:=zA s' t ht;have h1:tp≠t:=fun e=>OB (by rw [e];simp);have h2:ta≠t:=fun e=>OB (by rw [e];simp);have h3:t ∉ rG Al:=fun e=>OB (by simp [e]);rw [tf.2 t h3,Uw];simp [Act.put,hT,Array.getD_eq_getD_getElem?,Array.getElem?_setIfInBounds,h1,h2]) (by
   obtain ⟨pG,Ds,e,hn,OE⟩:=Wh.defers;refine ⟨pG,Ds,e,hn,fun x hx=> ?_⟩;obtain ⟨k1,k2,k3⟩:=OE x hx;obtain ⟨q1,q2⟩:=GU x (by rw [←SA];exact (Array.getElem?_eq_some_iff.1 k1).1) k3;exact ⟨q1.trans k1,k2,q2⟩)
 have Wj:w5.heap[D+1]? =some (.loop {rec .ready none with state:= .busy}):=(GU (D+1) hlt (hA _ (by simp [ap]))).1.trans ZA;have ZC:w5.heap[D]? =some (.deferred (some [])):=(GU D (by omega) (hA _ (by simp [ap]))).1.trans ((Q3 D (by omega)).trans hd);have Wk:=(Array.getElem?_eq_some_iff.1 Wj).1;refine ⟨_,_,run_endRound none Wj,rfl,⟨⟨s',g6,?_,?_,fun x hx=> ?_⟩,?_,?_⟩,?_,?_⟩;rw [show m - (k+1)=n' by omega,show 4*(k+1)=4*k+4 by omega,←List.drop_drop];exact bK;exact h9.grown (grownBy_putObj' w5 (D+1) _) (fun x e=>by cases e;exact ⟨by omega,_,Wj,rfl,by simp,by simp⟩);exact (GU x (by simp only [ap,List.mem_cons,List.not_mem_nil,or_false] at hx;omega) (hA x hx)).2;rw [World.putObj_heap_same Wk];simp [Eb];exact (World.putObj_heap_other (by omega)).trans ZC;exact (World.putObj_heap_other (by omega)).trans ((GU Bs (by omega) (hA _ (by simp [ap]))).1.trans (Q3 Bs (by omega)));exact (World.putObj_heap_other (by omega)).trans ((GU (Bs+1) (by omega) (hA _ (by simp [ap]))).1.trans (Q3 (Bs+1) (by omega)));have:=Lt Bs (by omega);exact (World.cell?_of_block (a:=⟨Bs,0,none⟩) this).trans Wd;have:=Lt (Bs+1) (by omega);exact (World.cell?_of_block (a:=⟨Bs+1,0,none⟩) this).trans We;exact ⟨⟨s0,g2,by simpa using hr,Zz,RY⟩,Zy,Un⟩;rintro e W3 ⟨⟨v,rfl⟩,⟨⟨s,g,bK,hS,hA⟩,hl,hd⟩⟩;rw [Nat.sub_self] at bK;have bK:=ah bK;subst bK;refine ⟨none,W3.putObj (D+1) (.loop {rec .ready none with state:= .exhausted}),by have:=run_endLoop (P:=cx.P) hl (by rw [Eb];simp);rw [Eb] at this⊢;exact this,?_⟩;refine ⟨S s,g,hq,?_⟩;have h5:=hS.grown (grownBy_putObj' W3 (D+1) (.loop {rec .ready none with state:= .exhausted})) (fun x e=>by cases e;exact ⟨by omega,_,hl,rfl,by simp,by simp⟩);refine ⟨?_,h5.size,h5.fr,h5.mem,h5.eH,h5.gp,h5.lt,h5.ar,h5.own,h5.gl⟩;obtain ⟨_,Ds,e,hn,OE⟩:=h5.defers;refine ⟨(fun hz=>by rw [V7] at hz;cases hz),D::Ds,by rw [e];rfl,List.nodup_cons.2 ⟨fun hm=> ?_,hn⟩,fun x hx=> ?_⟩;exact Nat.lt_irrefl D (hD▸Lm D (by rw [e];exact List.mem_map.2 ⟨D,hm,rfl⟩));rcases List.mem_cons.1 hx with rfl|hx
 exact ⟨(World.putObj_heap_other (by omega)).trans hd,by omega,hA _ (by simp [ap])⟩;exact OE x hx
end
end Go.Ide
namespace Go.Ide
section
variable {cx:Cx} {g:GM} {st:St} {a:Act} {w:World}
end
def X5 (P:Program)(N:Nat)(ops:List Oper)(h:Nat)(hrs:List HR)(tds:List (List Nat))(st:St):Option (St×List Prop):=
 bif (Nat.beq hrs.length h&&Nat.ble h ops.length)&&lO ops (hrs.map HR.D++tds) h 0 ops then (match wL P N ops st (ops.take h) hrs [] st.nx with
  |some (cQ,cs,nx)=>some (mQ st cQ (fun _=>true) nx,cs)
  |none=>none) else none
theorem HT.ZD {cx:Cx}{st:St}{P:Program}{N id:Nat}{Q:Exit→St→Prop}{own:List Nat}(h:Nat){ops:List Oper}(hrs:List HR)(tds:List (List Nat))(st1:St){cs:List Prop}(hX:gf cx P N own)(hm:P.follows .mixedOrders=true)(he:X5 P N ops h hrs tds st=some (st1,cs))(hc:aS cs)(hr:RG cx ops (ops.drop h) st1 Q):HT cx st (.region id ops.toArray true) Q:=by
 obtain ⟨hP,hN,_⟩:=hX;subst hP hN;unfold X5 at he;cases hb:((Nat.beq hrs.length h&&Nat.ble h ops.length)&&lO ops (hrs.map HR.D++tds) h 0 ops) with
 |false=>rw [hb] at he;cases he
 |true=>
  rw [hb] at he;simp only [cond_true] at he;simp only [Bool.and_eq_true] at hb;split at he;rename_i cQ GP nx h1;injection he with he;injection he with e1 e2;subst e1;subst e2;exact fun g a w hs=>wp_region_any hm (hs.B6 (by simp only [Bool.and_eq_true,beq_iff_eq];exact ⟨aO hb.1.1,hb.1.2⟩) hb.2 h1 hc fun g' a' w' db=>hr g' a' w' db);cases he
section
variable {cx:Cx} {st st' st1:St} {P:Program} {N:Nat} {own:List Nat} {ops:List Oper} {listed:Array Bool} {n:Nat}
end
end Go.Ide
namespace Go.Ide
section
variable {cx:Cx} {g:GM} {st:St} {a:Act} {w:World} {P:Program} {N:Nat} {own:List Nat} {Q:Exit→St→Prop}
theorem RG.fT {all os:List Oper}{o:Oper}{e:bm}(hX:gf cx P N own)(hg:o.guard=none)(hd:K2 N o.dst=true)(h: ∀g a w,bD cx g st a w→p9 cx st a w o e)(hr:RG cx all os (st.app o.dst e) Q):RG cx all (o::os) st Q:=by
 obtain ⟨hP,hN,_⟩:=hX;subst hP hN;intro g a w hs;refine wpList_step fun K hK=> ?_;simp only [Region.wanted,hg,if_true];refine (h g a w hs).wp fun val w' DM=> ?_;obtain ⟨g',db⟩:=DM.Ul (BK hd);exact hK _ _ (hr g' _ _ db)
def Da:(t:Ty)→t.D→t.D→Bool
 | .int _,x,y=> @decide (@Eq Int x y) (Int.instDecidableEq x y)
 | .pair a b,x,y=>Da a x.1 y.1&&Da b x.2 y.2
 | .st t,x,y=>Da t x y
 |_,_,_=>false
def cn {t u:Ty}:List (t.D×u.D)→t.D→Option u.D
 |[],_=>none
 |p::r,k=>if Da t p.1 k then some p.2 else cn r k
def LW (w:World)(t u:Ty)(p:t.D×u.D)(e:MapEntry):Prop:=rI w t e.key p.1∧rI w u e.val p.2
structure oG (P:Program)(T:TypeId)(t:Ty):Prop where
 SC: ∀(b:Bool) (w w0:World) (v:Value) (x:t.D),rI w0 t v x→(Instr.checkKey b 10000 T v).run P w= .ok () w
 find: ∀(u:Ty) (w w0:World) (v:Value) (x:t.D) (es:List MapEntry) (xs:List (t.D×u.D)),rI w0 t v x→aK (LW w0 t u) xs es→
  ∃r,(Instr.findKey T v es).run P w= .ok r w∧(match r with
   |none=>cn xs x=none
   |some (_,val)=> ∃y,cn xs x=some y∧rI w0 u val y)
theorem wX {k:IntKind}{v:Value}{x:Int}(h:rI w (.int k) v x):v= .int k x:=by
 rcases h with ⟨h0,_⟩|⟨_,h⟩
 cases h0;have:[v]=[Value.int k x]:=h;simpa using this
theorem oG.int {T:TypeId}{k:IntKind}(h:P.underlying T=some (.int k)):oG P T (.int k) where
 SC b w w0 v x hv:=by
  rw [wX hv];unfold Instr.checkKey;simp [Sem.run_bind,run_underlying h,Result.andThen]
 find u w w0 v x es xs hv yJ:=by
  rw [wX hv];have key: ∀(es:List MapEntry) (xs:List ((Ty.int k).D×u.D)) (i:Nat),aK (LW w0 (.int k) u) xs es→ ∃r,Instr.findNow (.int k) (.int k x) es i=some r∧(match r with
   |none=>cn xs x=none
   |some (_,val)=> ∃y,cn xs x=some y∧rI w0 u val y):=by
   intro es;induction es with
   |nil=>
    intro xs i h;cases xs with
    |nil=>exact ⟨none,rfl,rfl⟩
    |cons=>exact h.elim
   |cons e es ih=>
    intro xs i h;cases xs with
    |nil=>exact h.elim
    |cons p xs=>
     have hk:=wX h.1.1;simp only [Instr.findNow,Instr.sameNow,hk];by_cases hx:x=p.1;refine ⟨some (i,e.val),by simp [hx],p.2,?_,h.1.2⟩;simp [cn,Da,hx];obtain ⟨r,h1,h2⟩:=ih xs (i+1) h.2;have hb:(x==(p.1:Int))=false:=by simpa using hx
     have cX:Da (.int k) p.1 x=false:=by simp only [Da];exact decide_eq_false fun e=>hx e.symm
     refine ⟨r,by simp [hb,h1],?_⟩;cases r with
     |none=>simp only [cn,cX];exact h2
     |some q=>simp only [cn,cX];exact h2
  obtain ⟨r,h1,h2⟩:=key es xs 0 yJ;exact ⟨r,by simp [Instr.findKey,run_underlying h,Result.andThen,h1],h2⟩
def cS (k:IntKind):Nat→Ty
 |0=> .int k
 |n+1=> .pair (.int k) (cS k n)
def mS {k:IntKind}:(n:Nat)→(cS k n).D→List Int
 |0,x=>[x]
 |n+1,x=>(show Int from x.1)::mS n x.2
theorem qe {k:IntKind}: ∀(n:Nat) (x:(cS k n).D),(mS n x).length=n+1
 |0,_=>rfl
 |n+1,x=>by simp only [mS,List.length_cons,qe n]
theorem FL {S:Nat→Prop}{k:IntKind}: ∀(n:Nat) (cs:List Value) (x:(cS k n).D),aR S w (cS k n) cs x→cs=(mS n x).map (Value.int k)
 |0,cs,x,h=>by have:cs=[.int k x]:=h;exact this
 |n+1,cs,x,⟨c1,c2,e,h1,h2⟩=>by
  have h1:c1=[.int k x.1]:=h1;rw [e,h1,FL n c2 x.2 h2];rfl
theorem Am {k:IntKind}: ∀(n:Nat) (x y:(cS k n).D),Da (cS k n) x y=true↔mS n x=mS n y
 |0,x,y=>by
  have h1:Da (cS k 0) x y=true↔ @Eq Int x y:= @decide_eq_true_iff _ (Int.instDecidableEq x y);rw [h1];exact ⟨fun e=>congrArg (fun z=>[z]) e,fun e=>by injection e⟩
 |n+1,x,y=>by
  simp only [cS,Da,mS,Bool.and_eq_true,Am n,List.cons.injEq,decide_eq_true_eq]
theorem wY {k:IntKind}{n:Nat}{v:Value}{x:(cS k n).D}(h:rI w (.st (cS k n)) v x):v= .agg ((mS n x).map (Value.int k)).toArray:=by
 rcases h with ⟨_,cs,e,h⟩|⟨h0,_⟩
 rw [e,FL n cs x h];cases h0
theorem ph {E:TypeId}{k:IntKind}(hE:P.underlying E=some (.int k)){xs:Array Value}{off:Nat}{v:Value}(hx:xs[off]? =some v):(part E xs off).run P w= .ok v w:=by
 simp [part,isAgg,run_underlying hE,hx]
theorem uW {E:TypeId}{k:IntKind}(hE:P.underlying E=some (.int k))(d:Nat)(xs ys:List Int)(hl:xs.length=ys.length): ∀(n i:Nat),i+n=xs.length→
 (Op.eqItems (d+1) E 1 (xs.map (Value.int k)).toArray (ys.map (Value.int k)).toArray (List.range' i n)).run P w= .ok (decide (xs.drop i=ys.drop i)) w
 |0,i,h=>by
  have h1:xs.drop i=[]:=List.drop_eq_nil_of_le (by omega);have h2:ys.drop i=[]:=List.drop_eq_nil_of_le (by omega);simp [Op.eqItems,h1,h2]
 |n+1,i,h=>by
  have hx:i<xs.length:=by omega
  have hy:i<ys.length:=by omega
  have h1:=ph (w:=w) hE (xs:=(xs.map (Value.int k)).toArray) (off:=i) (v:= .int k xs[i]) (by simp [hx]);have h2:=ph (w:=w) hE (xs:=(ys.map (Value.int k)).toArray) (off:=i) (v:= .int k ys[i]) (by simp [hy]);have h3:=run_equalIn_int w d E k k xs[i] ys[i] hE;have ih:=uW hE d xs ys hl n (i+1) (by omega);rw [List.range'_succ];simp only [Op.eqItems,Nat.mul_one,Sem.run_bind,h1,h2,h3,Result.andThen_ok];have e1:=List.drop_eq_getElem_cons hx;have e2:=List.drop_eq_getElem_cons hy;have e3:(xs.drop i=ys.drop i)↔(xs[i]=ys[i]∧xs.drop (i+1)=ys.drop (i+1)):=by rw [e1,e2,List.cons.injEq]
  by_cases e:xs[i]=ys[i];simp only [e,beq_self_eq_true,Bool.not_true,Bool.false_eq_true,if_false];rw [ih]
  congr 1
  rw [decide_eq_decide,e3];simp [e];have hb:(xs[i]==ys[i])=false:=by simpa using e
  have hd:decide (xs.drop i=ys.drop i)=false:=decide_eq_false fun q=>e (e3.1 q).1;simp [hb,hd]
def sd (k:IntKind):(n:Nat)→Nat→List Int→(cS k n).D
 |0,o,xs=>(show Int from xs.getD o 0)
 |n+1,o,xs=>((show Int from xs.getD o 0),sd k n (o+1) xs)
theorem oG.sH {T E:TypeId}{k:IntKind}{n:Nat}{i:TypeInfo}(h:P.underlying T=some (.array (n+1) E))(hE:P.underlying E=some (.int k))(hi:P.info? E=some i)(hz:P.cellsOf E=1):oG P T (.st (cS k n)) where
 SC b w w0 v x hv:=by
  rw [wY hv];unfold Instr.checkKey;simp only [Sem.run_bind,run_underlying h,Result.andThen_ok];have key: ∀(is:List Nat),(∀j∈is,j<n+1)→(forIn is PUnit.unit (fun j (r:PUnit)=>(do
   Instr.checkKey b 9999 E (←part E ((mS n x).map (Value.int k)).toArray (j*(←sizeOf E)))
   pure (ForInStep.yield PUnit.unit):Sem (ForInStep PUnit)))).run P w= .ok PUnit.unit w:=by
   intro is;induction is with
   |nil=>intro _;simp
   |cons j is ih=>
    intro hj;have hlt:j<(mS n x).length:=by rw [qe];exact hj j List.mem_cons_self
    have h1:=ph (w:=w) hE (xs:=((mS n x).map (Value.int k)).toArray) (off:=j) (v:= .int k (mS n x)[j]) (by simp [hlt]);have h2:(Instr.checkKey b 9999 E (.int k (mS n x)[j])).run P w= .ok () w:=by
     unfold Instr.checkKey;simp [Sem.run_bind,run_underlying hE,Result.andThen]
    have cY:=run_sizeOf w hi;rw [hz] at cY;rw [List.forIn_cons];simp only [Sem.run_bind,cY,Result.andThen_ok,Nat.mul_one,h1,h2,Sem.run_pure];exact ih fun q hq=>hj q (List.mem_cons_of_mem _ hq)
  simp only [Std.Legacy.Range.forIn_eq_forIn_range',Std.Legacy.Range.size,Nat.sub_zero,Nat.add_one_sub_one,Nat.div_one];rw [key (List.range' 0 (n+1)) fun j hj=>by have:=List.mem_range'_1.1 hj;omega];rfl
 find u w w0 v x es xs hv yJ:=by
  rw [wY hv];have key: ∀(es:List MapEntry) (xs:List ((Ty.st (cS k n)).D×u.D)) (i:Nat),aK (LW w0 (.st (cS k n)) u) xs es→ ∃r,(Instr.findAsking T (.agg ((mS n x).map (Value.int k)).toArray) es i).run P w= .ok r w∧(match r with
   |none=>cn xs x=none
   |some (_,val)=> ∃y,cn xs x=some y∧rI w0 u val y):=by
   intro es;induction es with
   |nil=>
    intro xs i h;cases xs with
    |nil=>exact ⟨none,by simp [Instr.findAsking],rfl⟩
    |cons=>exact h.elim
   |cons e es ih=>
    intro xs i hh;cases xs with
    |nil=>exact hh.elim
    |cons p xs=>
     have hk:=wY hh.1.1;have heq:(Op.equal T (.agg ((mS n x).map (Value.int k)).toArray) e.key).run P w= .ok (decide (mS n x=mS n p.1)) w:=by
      rw [hk];unfold Op.equal Op.maxDepth;rw [show (10000:Nat)=9999+1 from rfl,run_equalIn_array w 9999 _ _ h hi,hz,List.range_eq_range'];have:=uW (w:=w) hE 9998 (mS n x) (mS n p.1) (by rw [qe,qe]) (n+1) 0 (by rw [qe];omega);simpa using this
     simp only [Instr.findAsking,Sem.run_bind,heq,Result.andThen_ok];by_cases hx:mS n x=mS n p.1;refine ⟨some (i,e.val),by simp [hx],p.2,?_,hh.1.2⟩;have:Da (.st (cS k n)) p.1 x=true:=(Am n p.1 x).2 hx.symm;simp [cn,this];obtain ⟨r,h1,h2⟩:=ih xs (i+1) hh.2;have cX:Da (.st (cS k n)) p.1 x=false:=by
      cases hb:Da (.st (cS k n)) p.1 x with
      |false=>rfl
      |true=>exact absurd ((Am n p.1 x).1 hb).symm hx
     refine ⟨r,by simp [hx,h1],?_⟩;cases r with
     |none=>simp only [cn,cX];exact h2
     |some q=>simp only [cn,cX];exact h2
  obtain ⟨r,h1,h2⟩:=key es xs 0 yJ;refine ⟨r,?_,h2⟩;have Wl: ∀es:List MapEntry,Instr.findNow (.array (n+1) E) (.agg ((mS n x).map (Value.int k)).toArray) es 0=some none∧es=[]∨Instr.findNow (.array (n+1) E) (.agg ((mS n x).map (Value.int k)).toArray) es 0=none:=by
   intro es;cases es with
   |nil=>exact .inl ⟨rfl,rfl⟩
   |cons e es=>exact .inr (by simp [Instr.findNow,Instr.sameNow])
  rcases Wl es with ⟨h3,h4⟩|h3
  subst h4;simp only [Instr.findAsking,Sem.run_pure] at h1;simp [Instr.findKey,run_underlying h,Result.andThen,h3,←h1];simp [Instr.findKey,run_underlying h,Result.andThen,h3,h1]
theorem oG.arr {T E:TypeId}{k:IntKind}{n:Nat}(h:P.underlying T=some (.array (n+1) E))(hE:P.underlying E=some (.int k))(hi:(P.info? E).isSome=true)(hz:P.cellsOf E=1):oG P T (.st (cS k n)):=by
 obtain ⟨i,hi⟩:=Option.isSome_iff_exists.1 hi;exact oG.sH h hE hi hz
theorem HT.X6 {R:Prop}{id:Nat}{ops:List Oper}(h:R→RG cx ops ops st Q)(hq:R):HT cx st (.region id ops.toArray false) Q:=HT.rg (h hq)
end
section
variable {cx:Cx} {g:GM} {st:St} {a:Act} {w w':World} {P:Program} {N:Nat} {own:List Nat} {Q:Exit→St→Prop} {all os:List Oper}
theorem pj {r:Nat}{es:Array MapEntry}{ck:Nat}(hb:w.heap[r]? =some (.map es ck)):(getObj r).run P w= .ok (.map es ck) w:=by
 simp [getObj,Sem.run,hb]
theorem Ec {r:Nat}{es:Array MapEntry}{ck:Nat}(o:Obj)(hb:w.heap[r]? =some (.map es ck)):(setObj r o).run P w= .ok () {w with heap:=w.heap.setIfInBounds r o}:=by
 simp [setObj,Sem.run,hb]
theorem LX {b:Nat}{arr es:Array _}{ck:Nat}(h:cg w b arr)(hb:w.heap[b]? =some (.map es ck)):False:=by
 obtain ⟨T,lo,hi,h,_⟩:=h;rw [hb] at h;cases h
theorem bD.OX {c b:Nat}{t u:Ty}{xs bF:List (t.D×u.D)}{es es':Array MapEntry}{ck ck':Nat}(h:bD cx g st a w)(hl:lk c st.mem=some (.mp t u xs))(hg:g.f c []=some b)(hb:w.heap[b]? =some (.map es ck))(he:aK (LW w t u) bF es'.toList):bD cx g (st.gZ ((c,.mp t u bF)::st.mem) st.nx) a {w with heap:=w.heap.setIfInBounds b (.map es' ck')}:=by
 have hlt:b<w.heap.size:=(Array.getElem?_eq_some_iff.1 hb).1;have cX: ∀b0,b0≠b→(w.heap.setIfInBounds b (.map es' ck'))[b0]? =w.heap[b0]? :=fun b0 h0=>by simp [Ne.symm h0]
 have cm: ∀b0 arr,cg w b0 arr→cg {w with heap:=w.heap.setIfInBounds b (.map es' ck')} b0 arr:=fun b0 arr h0=>h0.ar (cX b0 fun e=>by subst e;exact LX h0 hb);have t:u9 cx g g st.mem ((c,.mp t u bF)::st.mem) w {w with heap:=w.heap.setIfInBounds b (.map es' ck')} [b]:=by
  refine ⟨⟨rfl,rfl,rfl,by simp,fun b0 _ hn=>cX b0 (by simpa using hn),fun b0 arr h0=>⟨arr,cm b0 arr h0,rfl⟩⟩,fun b' iE=>by simp at iE;subst iE;exact ⟨c,[],_,hl,trivial,hg⟩,fun _ _=>rfl,fun k c0 ho=> ?_,fun k c0 ho fR=> ?_⟩;by_cases e:k=c;subst e;rw [hl] at ho;injection ho with ho;subst ho;refine .inr (.inr ⟨(fun e=>by cases e),_,(by rw [aw,if_pos rfl]),(fun e=>by cases e),fun p _=>trivial,fun t xs hs=> ?_,(fun t xs hs=>by cases hs),fun p b2 mc _ _ oP=>⟨mc,cm b2 mc oP,rfl⟩,?_⟩);rcases hs with hs|⟨_,_,_,hs⟩<;>cases hs
  exact ⟨b,es',ck',hg,by simp [hlt],he.mono fun _ _ h=>⟨h.1.ar,h.2.ar⟩⟩;refine .inl ⟨by rw [aw,if_neg e];exact ho,fun p b2 zG sL hm=> ?_⟩;simp at hm;subst hm;exact e (h.eH k c p [] c0 _ b2 ho zG hl trivial sL hg).1;rw [aw] at fR;by_cases e:k=c;subst e;rw [hl] at ho;cases ho;rw [if_neg e,ho] at fR;cases fR
 exact h.tV t
theorem RG.makeMap {T:TypeId}{o:Oper}{d:Tmp}(t u:Ty)(hX:gf cx P N own)(ho:o.op= .makeMap T none)(hg:o.guard=none)(hd:o.dst=some d)(pg:Nat.blt d N=true)(jW:kP st.mem [(st.nx,.mp t u [])]=true)(hr:RG cx all os ⟨(d,.one (.kG st.nx))::st.fr,(st.nx,.mp t u [])::st.mem,st.nx+1⟩ Q):RG cx all (o::os) st Q:=by
 refine RG.fT (e:=⟨.one (.kG st.nx),[(st.nx,.mp t u [])],[],[]⟩) hX hg (by rw [hd];exact pg) (fun g a w hs=> ?_) (by rw [hd];exact hr);have jW:=eN jW (st.nx,.mp t u []) List.mem_cons_self;refine .inl ⟨.map (some w.heap.size),w.alloc (.map #[] 0),by simp [execOp,ho,Instr.makeMap],?_⟩;obtain ⟨g',iF,db,_⟩:=hs.N3 (ch:= .mp t u []) jW (aH.alloc [] w (.map #[] 0)) (by simp) (fun g' _ _ S' _=>⟨w.heap.size,#[],0,rfl,heap_alloc_new w _,trivial⟩);exact ⟨g',db,by simp [aw],w.heap.size,by show g'.f st.nx []=_;rw [iF];rfl,rfl⟩
theorem An {t:Ty}{kv:au}{x:t.D}{v:Value}(hf:t.flat=true)(hd:jA [] t kv=some x)(hv:VR g st.mem (cx.safe g st.mem w) w kv v):rI w t v x:=by
 obtain ⟨cs,h1,h2⟩:=mF (S2:=cx.safe g st.mem w) (fun _ h=>h) gr.nil hd hv;have h3:aR (fun _=>False) w t cs x:=aR.flat t hf h2;unfold cE at h1;cases hJ:t.rH with
 |true=>rw [hJ] at h1;exact .inl ⟨hJ,cs,h1,h3⟩
 |false=>rw [hJ] at h1;simp at h1;subst h1;exact .inr ⟨hJ,h3⟩
theorem RG.Ed {T K E:TypeId}{o:Oper}{m k v:Operand}{c:Nat}{t u:Ty}{xs:List (t.D×u.D)}{kv vv:au}{x:t.D}{y:u.D}(hX:gf cx P N own)(ho:o.op= .mapUpdate T m k v∨o.op= .insert T m k v)(hg:o.guard=none)(hd:o.dst=none)(hT:P.underlying T=some (.map K E))(hK:oG P K t)(hf:(t.flat&&u.flat)=true)(hm:ev st.fr m=some (.one (.kG c)))(hl:lk c st.mem=some (.mp t u xs))(hk:ev st.fr k=some kv)(Wm:jA [] t kv=some x)(hv:ev st.fr v=some vv)(ZE:jA [] u vv=some y)(hn:cn xs x=none)(hr:RG cx all os ⟨st.fr,(c,.mp t u (xs++[(x,y)]))::st.mem,st.nx⟩ Q):RG cx all (o::os) st Q:=by
 obtain ⟨hP,hN,hO⟩:=hX;subst hP hN;simp only [Bool.and_eq_true] at hf;refine RG.fT (e:=⟨.cV,[],[(c,.mp t u (xs++[(x,y)]))],[]⟩) ⟨rfl,rfl,hO⟩ hg (by rw [hd];rfl) (fun g a w hs=> ?_) (by rw [hd];exact hr);obtain ⟨hp,b,rA,e1⟩:=ba hs hm;obtain ⟨b',es,ck,yc,hb,yJ⟩:=hs.mem c _ hl;have:b'=b:=by rw [show g.f c []=some b from rA] at yc;injection yc with h;exact h.symm
 subst this;have OY:=An (cx:=cx) hf.1 Wm (ba hs hk);have ZF:=An (cx:=cx) hf.2 ZE (ba hs hv);obtain ⟨r,h1,h2⟩:=hK.find u w w (a.eval k) x es.toList xs OY yJ;have KZ:r=none:=by
  cases r with
  |none=>rfl
  |some q=>obtain ⟨y',h3,_⟩:=h2;rw [hn] at h3;cases h3
 subst KZ;have fS:(Instr.mapUpdate T (a.eval m) (a.eval k) (a.eval v)).run cx.P w= .ok () {w with heap:=w.heap.setIfInBounds b' (.map (es.push {key:=a.eval k,val:=a.eval v,born:=ck}) (ck+1))}:=by
  rw [e1];simp [Instr.mapUpdate,run_underlying hT,pj hb,hK.SC false w w _ x OY,h1,Ec _ hb]
 refine .inr (.inl ⟨_,?_,g,hs.OX (es':=es.push {key:=a.eval k,val:=a.eval v,born:=ck}) (ck':=ck+1) hl rA hb ?_,trivial⟩);rcases ho with ho|ho<;>simp only [execOp,ho,Sem.run_bind,fS,Result.andThen_ok,Sem.run_pure]
 rw [Array.toList_push];exact yJ.append ⟨⟨OY,ZF⟩,trivial⟩
theorem RG.I3 {T K E:TypeId}{o:Oper}{m k:Operand}{c:Nat}{d:Tmp}{t u:Ty}{xs:List (t.D×u.D)}{kv:au}{x:t.D}{z:Value}{y0:u.D}(hX:gf cx P N own)(ho:o.op= .lookup T m k true)(hg:o.guard=none)(hd:o.dst=some d)(pg:Nat.blt d N=true)(hT:P.underlying T=some (.map K E))(hK:oG P K t)(hf:(t.flat&& !u.rH)=true)(hz:(P.info? E).bind (·.zero)=some z)(Wn:oo z= .one (.aB u y0))(hm:ev st.fr m=some (.one (.kG c)))(hl:lk c st.mem=some (.mp t u xs))(hk:ev st.fr k=some kv)(Wm:jA [] t kv=some x)(hr:RG cx all os ⟨(d,.zq [(false,[.aB u ((cn xs x).getD y0)]),(false,[.aB .bool (cn xs x).isSome])])::st.fr,st.mem,st.nx⟩ Q):RG cx all (o::os) st Q:=by
 obtain ⟨hP,hN,hO⟩:=hX;subst hP hN;simp only [Bool.and_eq_true,Bool.not_eq_true'] at hf;refine RG.fT (e:=⟨.zq [(false,[.aB u ((cn xs x).getD y0)]),(false,[.aB .bool (cn xs x).isSome])],[],[],[]⟩) ⟨rfl,rfl,hO⟩ hg (by rw [hd];exact pg) (fun g a w hs=> ?_) (by rw [hd];exact hr);obtain ⟨hp,b,rA,e1⟩:=ba hs hm;obtain ⟨b',es,ck,yc,hb,yJ⟩:=hs.mem c _ hl;have:b'=b:=by rw [show g.f c []=some b from rA] at yc;injection yc with h;exact h.symm
 subst this;have OY:=An (cx:=cx) hf.1 Wm (ba hs hk);obtain ⟨r,h1,h2⟩:=hK.find u w w (a.eval k) x es.toList xs OY yJ;obtain ⟨i,hi,HB⟩: ∃i,cx.P.info? E=some i∧i.zero=some z:=by
  cases hx:cx.P.info? E with
  |none=>rw [hx] at hz;cases hz
  |some i=>rw [hx] at hz;exact ⟨i,rfl,hz⟩
 have key: ∃v,(Instr.lookup T (a.eval m) (a.eval k) true).run cx.P w= .ok (.tuple #[v,.bool (cn xs x).isSome]) w∧aR (cx.safe g st.mem w) w u [v] ((cn xs x).getD y0):=by
  rw [e1];cases r with
  |none=>
   refine ⟨z,?_,?_⟩;have h2:cn xs x=none:=h2;simp [Instr.lookup,run_underlying hT,pj hb,hK.SC _ w w _ x OY,h1,zeroValue,typeInfo,hi,HB,h2];have h2:cn xs x=none:=h2;rw [h2];have:=sM (g:=g) (m:=st.mem) (S:=cx.safe g st.mem w) (w:=w) z;rw [Wn] at this;exact this
  |some q=>
   obtain ⟨j,v⟩:=q;obtain ⟨y,h3,h4⟩:=h2;refine ⟨v,?_,?_⟩;simp [Instr.lookup,run_underlying hT,pj hb,hK.SC _ w w _ x OY,h1,h3];rw [h3];rcases h4 with ⟨h5,_⟩|⟨_,h5⟩
   rw [hf.2] at h5;cases h5;exact aR.ar (fun b hb=>hb.elim) u [v] y h5
 obtain ⟨v,h3,h4⟩:=key;exact .inl ⟨_,w,by simp only [execOp,ho,Sem.run_bind,h3,Result.andThen_ok,Sem.run_pure],g,hs,[v,.bool (cn xs x).isSome],rfl,h4,rfl,trivial⟩
theorem RG.OZ {T K E:TypeId}{o:Oper}{cl:Call}{m:Operand}{c:Nat}{d:Tmp}{t u:Ty}{xs:List (t.D×u.D)}(hX:gf cx P N own)(ho:o.op= .call cl)(ma:cl.callee= .builtin .len∧cl.args= #[m]∧cl.argTypes= #[T])(hg:o.guard=none)(hd:o.dst=some d)(pg:Nat.blt d N=true)(hT:P.underlying T=some (.map K E))(hm:ev st.fr m=some (.one (.kG c)))(hl:lk c st.mem=some (.mp t u xs))(hr:RG cx all os ⟨(d,.one (.aB (.int .i64) (ae xs)))::st.fr,st.mem,st.nx⟩ Q):RG cx all (o::os) st Q:=by
 obtain ⟨hP,hN,hO⟩:=hX;subst hP hN;refine RG.fT (e:=⟨.one (.aB (.int .i64) (ae xs)),[],[],[]⟩) ⟨rfl,rfl,hO⟩ hg (by rw [hd];exact pg) (fun g a w hs=> ?_) (by rw [hd];exact hr);obtain ⟨hp,b,rA,e1⟩:=ba hs hm;obtain ⟨b',es,ck,yc,hb,yJ⟩:=hs.mem c _ hl;have:b'=b:=by rw [show g.f c []=some b from rA] at yc;injection yc with h;exact h.symm
 subst this;obtain ⟨h1,h2,h3⟩:=ma;have hlen:=yJ.length;have rn:resolve a.eval cl o.type=pure {target:= .builtin .len cl.argTypes o.type (cl.args.map fun| .const _=>true|_=>false),args:=cl.args.map a.eval}:=by
  unfold resolve;rw [h1];rfl
 have fS:(Builtin.len_ #[T] o.type #[a.eval m]).run cx.P w= .ok (.int .i64 (ae xs)) w:=by
  rw [e1];simp [Builtin.len_,run_underlying hT,pj hb,goInt,ae,hlen]
 refine .inl ⟨.int .i64 (ae xs),w,?_,g,hs,rfl⟩;have he:execOp a.eval o=(do pure (.value (←Builtin.len_ #[T] o.type #[a.eval m]))):=by
  have eJ:cl.args.map a.eval= #[a.eval m]:=by rw [h2];simp
  simp only [execOp,ho,rn,eJ,h3];rfl
 rw [he];simp [fS]
end
section
variable {cx:Cx} {g:GM} {st:St} {a:Act} {w w':World} {P:Program} {N:Nat} {own:List Nat} {Q:Exit→St→Prop} {all os:List Oper}
theorem RG.O0 {T E:TypeId}{o:Oper}{parts:Array (Nat×Operand)}{d:Tmp}{len n:Nat}{vs:List (Nat×au)}(cs:List aq)(hX:gf cx P N own)(ho:o.op= .build T parts)(hg:o.guard=none)(hd:o.dst=some d)(pg:Nat.blt d N=true)(hT:P.underlying T=some (.array len E))(hE:cc P E=some n){z:Value}(hz:(P.info? T).bind (·.zero)=some z)(jz:(oo z).ok=true)(gL:xO st.fr parts.toList=some vs)(hf:yI (fun i=>some (i*n,n)) (oo z).cells vs=some cs)(hr:RG cx all os ⟨(d,.agg cs)::st.fr,st.mem,st.nx⟩ Q):RG cx all (o::os) st Q:=by
 obtain ⟨hP,hN,hO⟩:=hX;subst hP hN;refine RG.fT (e:=⟨.agg cs,[],[],[]⟩) ⟨rfl,rfl,hO⟩ hg (by rw [hd];exact pg) (fun g a w hs=> ?_) (by rw [hd];exact hr);obtain ⟨i,hi,HB⟩: ∃i,cx.P.info? T=some i∧i.zero=some z:=by
  cases hx:cx.P.info? T with
  |none=>rw [hx] at hz;cases hz
  |some i=>rw [hx] at hz;exact ⟨i,rfl,hz⟩
 obtain ⟨aA,h1,h2⟩:=vY (g:=g) (m:=st.mem) (S:=cx.safe g st.mem w) (w:=w) (fun i=>some (i*n,n)) hf (kK z jz) (uf hs gL);refine .inl ⟨.agg aA,w,?_,g,hs,aA.toList,by simp,h2⟩;simp only [execOp,ho,Instr.build,Sem.run_bind,zeroValue,typeInfo,hi,HB,run_underlying hT,bw hE,Result.andThen_ok,Sem.run_pure,Array.toList_map,h1];simp [hi,HB,run_underlying hT,bw hE,h1]
theorem RG.O1 {T:TypeId}{o:Oper}{d:Tmp}(k:IntKind)(n:Nat)(hX:gf cx P N own)(ho:o.op= .alloc T)(hg:o.guard=none)(hd:o.dst=some d)(pg:Nat.blt d N=true)(hz:(P.info? T).bind (·.zero)=some (.agg (List.replicate n (Value.int k 0)).toArray))(jW:kP st.mem [(st.nx,.gone)]=true)(hr:RG cx all os ⟨(d,.one (.bT st.nx 0 1 0))::st.fr,(st.nx,.seq (.int k) (List.replicate n (0:Int)))::st.mem,st.nx+1⟩ Q):RG cx all (o::os) st Q:=by
 obtain ⟨hP,hN,hO⟩:=hX;subst hP hN;refine RG.fT (e:=⟨.one (.bT st.nx 0 1 0),[(st.nx,.seq (.int k) (List.replicate n (0:Int)))],[],[]⟩) ⟨rfl,rfl,hO⟩ hg (by rw [hd];exact pg) (fun g a w hs=> ?_) (by rw [hd];exact hr);obtain ⟨i,hi,HB⟩: ∃i,cx.P.info? T=some i∧i.zero=some (.agg (List.replicate n (Value.int k 0)).toArray):=by
  cases hx:cx.P.info? T with
  |none=>rw [hx] at hz;cases hz
  |some i=>rw [hx] at hz;exact ⟨i,rfl,hz⟩
 have jW:=eN jW (st.nx,.gone) List.mem_cons_self;refine .inl ⟨.pointer (some ⟨w.heap.size,0,none⟩),w.alloc (.cells (List.replicate n (Value.int k 0)).toArray T),?_,?_⟩;simp [execOp,ho,Instr.alloc,zeroValue,typeInfo,hi,HB,newVar,newRow,Value.cells];refine nk.new hs (fun p hp=>by simp at hp;subst hp;exact jW) ⟨rfl,rfl⟩ (aH.alloc _ _ _) (cg.new w _ T) (fun g' hg iF S' hS=> ?_) (fun g' iF S'=>⟨by simp [aw],w.heap.size,iF,by simp⟩);refine ⟨(List.replicate n (Value.int k 0)).toArray,cg.new w _ T,dw.kH rfl fun i hi=>⟨[.int k 0],fun j v hv=> ?_,?_⟩⟩;have hn:i<n:=by simpa using hi
 cases j with
 |zero=>
  simp at hv;subst hv;simp [Ty.size,hn]
 |succ j=>simp at hv
 show [Value.int k 0]=[Value.int k ((List.replicate n (0:Int))[i])];simp
theorem RG.O2 {T:TypeId}{o:Oper}{x y:Operand}{k:IntKind}{c n:Nat}{xs:List Int}(ys:List Int)(hX:gf cx P N own)(ho:o.op= .store T x y)(hg:o.guard=none)(hd:o.dst=none)(hT:cc P T=some n)(hx:ev st.fr x=some (.one (.bT c 0 1 0)))(hl:lk c st.mem=some (.seq (.int k) xs))(hn:xs.length=n)(KX:ys.length=n)(hy:ev st.fr y=some (.agg (ys.map fun z=> .aB (.int k) z)))(zG:Nat.blt 0 n=true)(hr:RG cx all os ⟨st.fr,(c,.seq (.int k) ys)::st.mem,st.nx⟩ Q):RG cx all (o::os) st Q:=by
 obtain ⟨hP,hN,hO⟩:=hX;subst hP hN;refine RG.fT (e:=⟨.cV,[],[(c,.seq (.int k) ys)],[]⟩) ⟨rfl,rfl,hO⟩ hg (by rw [hd];rfl) (fun g a w hs=> ?_) (by rw [hd];exact hr);obtain ⟨hp,b,rA,e1⟩:=ba hs hx;obtain ⟨vs,e2,gL⟩:=ba hs hy;have bK:=hs.mem c _ hl;unfold gU at bK;have rA:g.f c []=some b:=rA;rw [rA] at bK;obtain ⟨arr,hb,lr⟩:=bK;have cY:n≤arr.size:=by
  have h0:0<n:=Nat.le_of_ble_eq_true zG;obtain ⟨es,h1,h2⟩:=lr (n - 1) (by rw [hn];omega);have h3:es.length=1:=cf.len (.int k) h2;obtain ⟨u,hu⟩: ∃u,es[0]? =some u:=⟨es[0],List.getElem?_eq_getElem (by omega)⟩;have:=h1 0 u hu;have:=(Array.getElem?_eq_some_iff.1 this).1;simp [Ty.size] at this;omega
 have Wo:vs=ys.map (Value.int k):=by
  have: ∀(zs:List Int) (us:List Value),aK (CR g st.mem (cx.safe g st.mem w) w) (zs.map fun z=> .aB (.int k) z) us→us=zs.map (Value.int k):=by
   intro zs;induction zs with
   |nil=>intro us h;cases us with|nil=>rfl|cons=>exact h.elim
   |cons z zs ih=>
    intro us h;cases us with
    |nil=>exact h.elim
    |cons u us=>
     have h1:[u]=[Value.int k z]:=h.1;rw [ih us h.2];injection h1 with h1;rw [h1];rfl
  exact this ys vs gL
 subst Wo;have ma:(a.eval y).cells.toList=ys.map (Value.int k):=by rw [e2];simp [Value.cells]
 obtain ⟨w',aA,h1,h2,h3,h4,h5⟩:=j1 (P:=cx.P) (T:=T) (n:=n) (b:=b) (o:=0) (v:=a.eval y) hT hb (by rw [ma];simp [KX]) (by omega) (by rw [ma];intro v hv;obtain ⟨z,_,rfl⟩:=List.mem_map.1 hv;rfl);refine .inr (.inl ⟨w',?_,g,?_,trivial⟩);simp only [execOp,ho,Sem.run_bind];rw [e1];simp only [Nat.zero_mul,Nat.zero_add,h1,Result.andThen_ok,Sem.run_pure];refine hs.N8 (c:=c) (b:=b) (p0:=[]) ⟨hl,trivial,rA,h4,⟨arr,aA,hb,h2,h5⟩,fun _ h=>h,(fun e=>by cases e),fun t' bF h=> ?_,fun t' bF h=> ?_⟩ ?_;rcases h with h|⟨_,_,_,h⟩
 injection h with h6 h7;subst h6;have h7:=eq_of_heq h7;subst h7;exact ⟨xs,.inl rfl,by show List.length xs=List.length ys;omega⟩;cases h;injection h with h6 h7;subst h6;have h7:=eq_of_heq h7;subst h7;exact ⟨xs,rfl,by show List.length xs=List.length ys;omega,fun i o e sD h=>by cases h⟩;unfold gU;rw [rA];refine ⟨aA,h2,dw.kH rfl fun i hi=>⟨[.int k ys[i]],fun j v hv=> ?_,rfl⟩⟩;cases j with
 |zero=>
  simp at hv;subst hv;rw [←Array.getElem?_toList,h3,ma];have vw:i<ys.length:=hi;simp [Ty.size,List.getElem?_append,vw]
 |succ j=>simp at hv
def I4 (k:IntKind)(n:Nat)(xs:List Int):List aq:=(List.range n).map fun j=> .aB (.int k) (xs.getD j 0)
theorem RG.Ny {T:TypeId}{o:Oper}{x:Operand}{k:IntKind}{c n:Nat}{d:Tmp}{xs:List Int}(hX:gf cx P N own)(ho:o.op= .load T x)(hg:o.guard=none)(hd:o.dst=some d)(pg:Nat.blt d N=true)(hT:cc P T=some n)(XK:vO P T=some true)(hx:ev st.fr x=some (.one (.bT c 0 1 0)))(hl:lk c st.mem=some (.seq (.int k) xs))(hn:xs.length=n)(hr:RG cx all os ⟨(d,.agg (I4 k n xs))::st.fr,st.mem,st.nx⟩ Q):RG cx all (o::os) st Q:=by
 obtain ⟨hP,hN,hO⟩:=hX;subst hP hN;refine RG.fT (e:=⟨.agg (I4 k n xs),[],[],[]⟩) ⟨rfl,rfl,hO⟩ hg (by rw [hd];exact pg) (fun g a w hs=> ?_) (by rw [hd];exact hr);obtain ⟨hp,b,rA,e1⟩:=ba hs hx;have bK:=hs.mem c _ hl;unfold gU at bK;have rA:g.f c []=some b:=rA;rw [rA] at bK;obtain ⟨arr,hb,lr⟩:=bK;have hc: ∀j v,(xs.map (Value.int k))[j]? =some v→w.cell? ((⟨b,0,none⟩:Addr).add j)=some v:=fun j v hv=>by
  obtain ⟨hj,hv⟩:=List.getElem?_eq_some_iff.1 hv;have Fe:j<xs.length:=by simpa using hj
  obtain ⟨es,h1,h2⟩:=lr j Fe;have h2:es=[.int k xs[j]]:=h2;subst h2;have:=h1 0 _ rfl;rw [aX,hb.cell,Nat.zero_add];simp [Ty.size] at this;rw [this,←hv];simp
 have aP: ∀(m:Nat),aK (CR g st.mem (cx.safe g st.mem w) w) (I4 k xs.length xs) (xs.map (Value.int k)):=fun _=>by
  have:I4 k xs.length xs=xs.map fun z=> .aB (.int k) z:=by
   unfold I4;apply List.ext_getElem;simp;intro i h1 h2;have:i<xs.length:=by simpa using h2
   simp [this]
  rw [this];clear this hc lr hl hr hn;induction xs with
  |nil=>trivial
  |cons z zs ih=>exact ⟨rfl,ih⟩
 refine .inl ⟨.agg (xs.map (Value.int k)).toArray,w,?_,g,hs,xs.map (Value.int k),rfl,by rw [←hn];exact aP 0⟩;have:=run_loadCells_list (P:=cx.P) w ⟨b,0,none⟩ (xs.map (Value.int k)) hc;rw [List.length_map,hn] at this;simp only [execOp,ho];rw [e1];simp [Instr.loadAt,Instr.sureAddr,loadVar,rM XK,bw hT,this]
def zV (q:Bool):Value:=bif q then .bool false else .int .i64 0
def Ux:Bool→Value→Bool
 |true,.bool b=> !b
 |false,.int .i64 n=> @decide (@Eq Int n 0) (Int.instDecidableEq n 0)
 |_,_=>false
theorem O3 {q:Bool}{v:Value}(h:Ux q v=true):v=zV q:=by
 unfold Ux at h;split at h;rename_i b;cases b<;>first|rfl|cases h
 rename_i n;rw [decide_eq_true_eq] at h;rw [h];rfl;cases h
def LY (q:Bool):List Value→Nat→Bool
 |[],n=>(match n with|0=>true|_+1=>false)
 |v::r,n=>(match n with|0=>false|n+1=>bif Ux q v then LY q r n else false)
theorem FM {q:Bool}: ∀{l:List Value} {n:Nat},LY q l n=true→l=List.replicate n (zV q)
 |[],0,_=>rfl
 |[],_+1,h=>by cases h
 |_::_,0,h=>by cases h
 |v::r,n+1,h=>by
  simp only [LY] at h;cases hv:Ux q v with
  |false=>rw [hv] at h;cases h
  |true=>
   rw [hv] at h;rw [O3 hv,FM (l:=r) (n:=n) h];rfl
def Nz (P:Program)(T:TypeId)(q:Bool)(n:Nat):Bool:=
 match P.info? T with
 |some i=>(match i.zero with
  |some (.agg cs)=>LY q cs.toList n
  |_=>false)
 |none=>false
def zD (q:Bool):(t:Ty)→Option t.D
 | .int .i64=>bif q then none else some (0:Int)
 | .bool=>bif q then some false else none
 | .pair a b=>(match zD q a,zD q b with
  |some x,some y=>some (x,y)
  |_,_=>none)
 | .st t=>zD q t
 |_=>none
theorem Ao {S:Nat→Prop}{q:Bool}: ∀(t:Ty) {x:t.D},zD q t=some x→aR S w t (List.replicate t.size (zV q)) x
 | .int k,x,h=>by
  cases k<;>first|(cases q<;>simp [zD] at h;subst h;rfl)|cases h
 | .bool,x,h=>by cases q<;>simp [zD] at h;subst h;rfl
 | .pair a b,x,h=>by
  simp only [zD] at h;split at h;rename_i y z h1 h2;injection h with h;subst h;exact ⟨_,_,by simp only [Ty.size];rw [List.replicate_append_replicate],Ao a h1,Ao b h2⟩;cases h
 | .st t,x,h=>Ao t (x:=x) h
 | .cD _,_,h=>by cases h
 | .str,_,h=>by cases h
 | .sl _,_,h=>by cases h
 | .own _,_,h=>by cases h
 | .bx _,_,h=>by cases h
 | .cl _ _,_,h=>by cases h
theorem RG.SD {T:TypeId}{o1 o2:Oper}{d1 d2:Tmp}(q:Bool)(t:Ty)(n:Nat)(z:t.D)(hX:gf cx P N own)(h1:o1.op= .build T #[])(g1:o1.guard=none)(e1:o1.dst=some d1)(h2:o2.op= .box T (.tmp d1))(g2:o2.guard=none)(e2:o2.dst=some d2)(pg:(Nat.blt d1 N&&Nat.blt d2 N)=true){len:Nat}{E:TypeId}(hT:P.underlying T=some (.array len E)){sz:Nat}(hE:cc P E=some sz)(hz:Nz P T q (n*t.size)=true)(ZG:zD q t=some z)(nm:t.top=true)(jW:kP st.mem [(st.nx,.gone)]=true)(hr:RG cx all os ⟨(d2,.one (.bT st.nx 0 t.size 0))::(d1,.cV)::st.fr,(st.nx,.seq t (List.replicate n z))::st.mem,st.nx+1⟩ Q):RG cx all (o1::o2::os) st Q:=by
 obtain ⟨hP,hN,hO⟩:=hX;subst hP hN;simp only [Bool.and_eq_true] at pg;have SE:=Nat.le_of_ble_eq_true pg.1;have NA:=Nat.le_of_ble_eq_true pg.2;unfold Nz at hz;cases hi:cx.P.info? T with
 |none=>rw [hi] at hz;cases hz
 |some i=>
  rw [hi] at hz;simp only at hz;cases HB:i.zero with
  |none=>rw [HB] at hz;cases hz
  |some zv=>
   rw [HB] at hz;cases zv<;>simp only at hz<;>try (cases hz;done)
   rename_i cs;have hcs:=FM hz;have Wp:cs=(List.replicate (n*t.size) (zV q)).toArray:=by rw [←hcs]
   intro g a w hs;refine wpList_step fun K hK=> ?_;simp only [Region.wanted,g1,if_true];unfold Oper.wp;have hb:(execOp a.eval o1).run cx.P w= .ok (.value (.agg cs)) w:=by
    simp [execOp,h1,Instr.build,zeroValue,typeInfo,hi,HB,run_underlying hT,bw hE,Instr.fill,Value.cells]
   rw [hb];refine hK _ _ ?_;rw [e1];have zW:bD cx g (st.put (some d1) .cV) (a.put (some d1) (.agg cs)) w:=hs.put (v:= .cV) trivial (some d1) fun t e=>by cases e;exact SE
   refine wpList_step fun K hK=> ?_;simp only [Region.wanted,g2,if_true];unfold Oper.wp;have GS:(a.put (some d1) (.agg cs)).eval (.tmp d1)= .agg cs:=by
    have:d1<a.tmps.size:=by rw [hs.size];exact SE
    simp [Act.eval,Act.put,Array.getD_eq_getD_getElem?,this]
   have hx:(execOp (a.put (some d1) (.agg cs)).eval o2).run cx.P w= .ok (.value (.pointer (some ⟨w.heap.size,0,none⟩))) (w.alloc (.cells cs T)):=by
    simp [execOp,h2,GS,Instr.box,newVar,newRow,Value.cells]
   rw [hx];have jW:=eN jW (st.nx,.gone) List.mem_cons_self;have DM:nk cx (st.put (some d1) .cV) (a.put (some d1) (.agg cs)) ⟨.one (.bT st.nx 0 t.size 0),[(st.nx,.seq t (List.replicate n z))],[],[]⟩ (.pointer (some ⟨w.heap.size,0,none⟩)) (w.alloc (.cells cs T)):=by
    refine nk.new zW (fun p hp=>by simp at hp;subst hp;exact jW) ⟨rfl,rfl⟩ (aH.alloc _ _ _) (cg.new w _ T) (fun g' hg iF S' hS=> ?_) (fun g' iF S'=>⟨by simp [aw,St.put],w.heap.size,iF,by simp⟩);refine ⟨cs,cg.new w _ T,dw.kH nm fun i hi=>⟨List.replicate t.size (zV q),fun j v hv=> ?_,?_⟩⟩;have hn:i<n:=by simpa using hi
    obtain ⟨hj,hv⟩:=List.getElem?_eq_some_iff.1 hv;have hj:j<t.size:=by simpa using hj
    have hlt:i*t.size+j<n*t.size:=by
     have:(i+1)*t.size≤n*t.size:=Nat.mul_le_mul_right _ hn;rw [Nat.add_mul,Nat.one_mul] at this;omega
    rw [Wp];simp at hv;simp [hlt,←hv];have:=Ao (S:=S') (w:=w.alloc (.cells cs T)) t ZG;simpa using this
   obtain ⟨g',db⟩:=DM.Ul (d:=some d2) fun t e=>by cases e;exact NA
   refine hK _ _ ?_;rw [e2];exact hr g' _ _ db
end
end Go.Ide
namespace Go.Ide
section
variable {cx:Cx} {g:GM} {st:St} {a:Act} {w w':World} {P:Program} {N:Nat} {own:List Nat} {Q:Exit→St→Prop} {all os:List Oper}
def Wq (R:St→Prop)(e:Exit)(s:St):Prop:=(e= .ret∨e= .normal)∧R s
def wZ:List Nat→Fr→Option (List aq)
 |[],_=>some []
 |t::ts,fr=>(match lk t fr,wZ ts fr with
  |some (.one c),some l=>some (c::l)
  |_,_=>none)
def w8:Nat→List au→Fr
 |_,[]=>[]
 |n,v::r=>(n,v)::w8 (n+1) r
def LZ:List Nat→List aq→Fr
 |t::ts,c::cs=>(t,.one c)::LZ ts cs
 |_,_=>[]
theorem zc {v:au}{t:Nat}: ∀{vs:List au} {n:Nat},lk t (w8 n vs)=some v→n≤t∧vs[t - n]? =some v
 |[],n,h=>by cases h
 |u::r,n,h=>by
  simp only [w8] at h;rw [aw] at h;split at h;rename_i e;subst e;injection h with h;subst h;exact ⟨Nat.le_refl _,by simp⟩;obtain ⟨h1,h2⟩:=zc h;refine ⟨by omega,?_⟩;rw [show t - n=(t - (n+1))+1 from by omega];simpa using h2
theorem FN {S:Nat→Prop}{m:Mem}{v:au}{t:Nat}(f:Nat→Value): ∀{ts:List Nat} {cs:List aq},aK (CR g m S w) cs (ts.map f)→lk t (LZ ts cs)=some v→VR g m S w v (f t)
 |[],_,_,h=>by cases h
 |_::_,[],h,_=>h.elim
 |u::ts,c::cs,h,hl=>by
  simp only [LZ] at hl;rw [aw] at hl;split at hl;rename_i e;subst e;injection hl with hl;subst hl;exact h.1;exact FN f h.2 hl
theorem w9 {S:Nat→Prop}(h:bD cx g st a w): ∀{ts:List Nat} {cs:List aq},wZ ts st.fr=some cs→aK (CR g st.mem (cx.safe g st.mem w) w) cs (ts.map fun t=>a.tmps.getD t undef)
 |[],cs,he=>by simp only [wZ] at he;injection he with he;subst he;trivial
 |t::ts,cs,he=>by
  simp only [wZ] at he;split at he;rename_i c l h1 h2;injection he with he;subst he;exact ⟨h.fr t _ h1,w9 (S:=S) h h2⟩;cases he
theorem bD.ghost {cs:List aq}{gv:List Value}(h:bD cx g st a w)(jW:lk st.nx st.mem=none)(hc:aK (CR g st.mem (cx.safe g st.mem w) w) cs gv):
 ∃g':GM,bD cx g' (st.gZ ((st.nx,.gh cs gv)::st.mem) (st.nx+1)) a w∧gq g g' st.mem ((st.nx,.gh cs gv)::st.mem) (cx.safe g st.mem w) (cx.safe g' ((st.nx,.gh cs gv)::st.mem) w) w w:=by
 have gb: ∀k,lk k st.mem≠none→(g.set st.nx fun _=>none).f k=g.f k:=fun k cX=>GM.Dj _ _ (fun e=>cX (by rw [e];exact jW));have iF:=GM.vS g st.nx fun _=>none;revert gb iF;generalize g.set st.nx (fun _=>none)=g';intro gb iF;have l0: ∀k,lk k st.mem≠none→lk k ((st.nx,.gh cs gv)::st.mem)=lk k st.mem:=fun k hk=>by
  rw [aw,if_neg (fun e=>hk (by rw [e];exact jW))]
 have bS: ∀b,cx.safe g st.mem w b→cx.safe g' ((st.nx,.gh cs gv)::st.mem) w b:=by
  intro b ⟨h2,h3,h4⟩;refine ⟨h2,h3,?_⟩;rintro ⟨k,p,c,od,hn,hg⟩;rw [aw] at od;by_cases e:k=st.nx;subst e;rw [iF] at hg;cases hg;rw [if_neg e] at od;exact h4 ⟨k,p,c,od,hn,by rw [←gb k (by rw [od];simp)];exact hg⟩
 have hJ:gq g g' st.mem ((st.nx,.gh cs gv)::st.mem) (cx.safe g st.mem w) (cx.safe g' ((st.nx,.gh cs gv)::st.mem) w) w w:=
  ⟨⟨fun b hb=>⟨bS b hb,rfl⟩,fun c hc=>⟨by rw [l0 c hc];exact hc,congrFun (gb c hc) []⟩,fun c t xs hc hl=>⟨xs,by unfold cz at hl⊢;rw [←l0 c hc];exact hl,rfl⟩,fun c t xs b arr hc hl rA hb=>⟨arr,hb,rfl⟩⟩,
   gb,fun c t xs hc hl=>⟨xs,by rw [←l0 c hc];exact hl,bu.refl _ _,fun i o b arr rA hb=>⟨arr,hb,rfl⟩⟩⟩
 have t:u9 cx g g' st.mem ((st.nx,.gh cs gv)::st.mem) w w []:=by
  refine ⟨aH.refl _ _,(fun b hb=>by simp at hb),gb,fun k c0 ho=> ?_,fun k c0 ho fR=> ?_⟩;left;rw [l0 k (by rw [ho];simp)];exact ⟨ho,fun _ _ _ _=>by simp⟩;rw [aw] at fR;by_cases e:k=st.nx;subst e;rw [if_pos rfl] at fR;injection fR with fR;subst fR;exact ⟨⟨fun p=>by rw [iF],hc.mono fun _ _=>CR.stays hJ⟩,fun p b hn hg=>by rw [iF] at hg;cases hg⟩;rw [if_neg e,ho] at fR;cases fR
 exact ⟨g',h.tV t,hJ⟩
theorem RG.Ap {os:List Oper}{o:Oper}{f:FuncId}{rj:Array Operand}{d:Tmp}(ks:List Nat)(hX:gf cx P N own)(ho:o.op= .makeFunc (.func f) #[] rj)(hg:o.guard=none)(hd:o.dst=some d)(pg:Nat.blt d N=true)(hc:Ik st.fr rj.toList=some (ks.map fun k=> .one (.ptr k 0)))(hr:RG cx all os ⟨(d,.one (.cls f ks))::st.fr,st.mem,st.nx⟩ Q):RG cx all (o::os) st Q:=by
 obtain ⟨hP,hN,hO⟩:=hX;subst hP hN;refine RG.fT (e:=⟨.one (.cls f ks),[],[],[]⟩) ⟨rfl,rfl,hO⟩ hg (by rw [hd];exact pg) (fun g a w hs=> ?_) (by rw [hd];exact hr);have aP:=o7 hs hc;have hcap:rj.map a.eval=(rj.toList.map a.eval).toArray:=by apply Array.ext';rw [Array.toList_map]
 refine .inl ⟨.func (.func f) #[] (rj.map a.eval),w,by simp [execOp,ho,Instr.makeFunc],g,hs,_,by rw [hcap],?_⟩;clear hcap hc hr ho hd;generalize rj.toList.map a.eval=ps at aP;induction ks generalizing ps with
 |nil=>cases ps with|nil=>trivial|cons=>exact aP.elim
 |cons k ks ih=>
  cases ps with
  |nil=>exact aP.elim
  |cons p ps=>exact ⟨aP.1,ih ps aP.2⟩
theorem RG.inl {β:Type}{o:Oper}{cl:Call}{fo:Operand}{fn:Func}{c:Code}{f:FuncId}{d:Tmp}{ks ts:List Nat}{vs:List au}{cs:List aq}(JJ:List Value→β→St)(cj:β→List aq)(J:β→St)(C:β→Prop)(gk:Nat)(hX:gf cx P N own)(hF:cx.HK)(lJ:cx.nd=true)(ho:o.op= .call cl)(hg:o.guard=none)(hd:o.dst=some d)(pg:Nat.blt d N=true)(ma:cl.callee= .value fo)(hf:ev st.fr fo=some (.one (.cls f ks))∨(ev st.fr fo=some (.one (.fn f))∧ks=[]))(gL:Ik st.fr cl.args.toList=some vs)(hfn:P.funcs[f]? =some fn)(hb:fn.body=some c)(qb:(fn.name=="runtime.NumGoroutine")=false)(rn:fn.results= #[])(hn:Nat.ble (vs.length+ks.length) fn.ntmps=true)(Nu:wZ ts st.fr=some cs)(jW:kP st.mem [(st.nx,.gone)]=true)(fS: ∀(gv:List Value) (Hz:Cx),gf Hz P fn.ntmps own→Hz.HK→Hz.nd=true→HT Hz ⟨w8 0 (vs++ks.map fun k=> .one (.ptr k 0)),(st.nx,.gh cs gv)::st.mem,st.nx+1⟩ c (Wq fun s=> ∃v,C v∧Le Hz s (JJ gv v)))(ZH: ∀gv v,lk gk (JJ gv v).mem=some (.gh (cj v) gv))(hle: ∀gv v,Le cx ⟨(d,.cV)::LZ ts (cj v),(JJ gv v).mem,(JJ gv v).nx⟩ (J v))(hk: ∀v,C v→Q .normal (J v)):RG cx all [o] st Q:=by
 obtain ⟨hP,hN,hO⟩:=hX;subst hP hN;intro g a w hs;refine wpList_step fun K hK=> ?_;simp only [Region.wanted,hg,if_true];have jW:=eN jW (st.nx,.gone) List.mem_cons_self;obtain ⟨g1,zW,Wr⟩:=hs.ghost (cs:=cs) (gv:=ts.map fun t=>a.tmps.getD t undef) jW (w9 (S:=fun _=>True) hs Nu);have vB: ∃ps:List Value,a.eval fo= .func (.func f) #[] ps.toArray∧aK (VR g st.mem (cx.safe g st.mem w) w) (ks.map fun k=> .one (.ptr k 0)) ps:=by
  rcases hf with hf|⟨hf,e⟩
  obtain ⟨ps,e1,h1⟩:=ba hs hf;refine ⟨ps,e1,?_⟩;clear fS hn hf e1;induction ks generalizing ps with
  |nil=>cases ps with|nil=>trivial|cons=>exact h1.elim
  |cons k ks ih=>
   cases ps with
   |nil=>exact h1.elim
   |cons p ps=>exact ⟨h1.1,ih ps h1.2⟩
  subst e;exact ⟨[],ba hs hf,trivial⟩
 obtain ⟨ps,vB,ZI⟩:=vB;have eJ:=o7 hs gL;have aP:aK (VR g st.mem (cx.safe g st.mem w) w) (vs++ks.map fun k=> .one (.ptr k 0)) (cl.args.toList.map a.eval++ps):=aK.append eJ ZI;obtain ⟨vals,NB⟩: ∃vals,vals=cl.args.toList.map a.eval++ps:=⟨_,rfl⟩;rw [←NB] at aP;have hlen:vals.length=vs.length+ks.length:=by rw [←aP.length];simp
 have Cf:(execOp a.eval o).run cx.P w= .ok (.enter f vals.toArray) w:=by
  have Ws:cl.args.map a.eval++ps.toArray=(cl.args.toList.map a.eval++ps).toArray:=by apply Array.ext';simp
  have Lr:fn.body.isNone=false:=by rw [hb];rfl
  simp only [execOp,ho,resolve,ma,vB,Deferred.ofValue,Sem.run_bind,Sem.run_pure,Result.andThen_ok,invoke,callFunc,run_program,hfn];simp only [qb,Lr,Array.empty_append];simp [NB]
 unfold Oper.wp;rw [Cf];have hnt:=Nat.le_of_ble_eq_true hn;show Calls cx.P f vals.toArray w _;refine Calls.mono (R:=fun en w'=> ∃v,en= .returned v∧K (a.put o.dst v) w') ?_ fun en w' ⟨v,e1,h⟩=>by subst e1;exact h
 refine callsIn_wide.1 (callsIn_of_wp_marks (F:=Fence.wide) (n:=0) hfn hb trivial (wpIn_wide.2 ?_));let Hz:Cx:={cx with N:=fn.ntmps};have DL:bD Hz g1 ⟨w8 0 (vs++ks.map fun k=> .one (.ptr k 0)),(st.nx,.gh cs (ts.map fun t=>a.tmps.getD t undef))::st.mem,st.nx+1⟩ {tmps:=vals.toArray++Array.replicate (fn.ntmps - vals.toArray.size) undef,defers:=[]} w:=by
  refine ⟨.nil,?_,fun t v hl=> ?_,zW.mem,zW.eH,zW.gp,zW.lt,zW.ar,zW.own,zW.gl⟩;show (vals.toArray++Array.replicate (fn.ntmps - vals.toArray.size) undef).size=fn.ntmps;simp;omega;obtain ⟨_,hv⟩:=zc hl;rw [Nat.sub_zero] at hv;obtain ⟨u,hu,hv⟩:=aP.get t v hv;have Fm:=(List.getElem?_eq_some_iff.1 hu);have:(vals.toArray++Array.replicate (fn.ntmps - vals.toArray.size) undef).getD t undef=u:=by
   rw [Array.getD_eq_getD_getElem?,Array.getElem?_append_left (by simpa using Fm.1)];simp [hu]
  show VR _ _ _ _ _ ((vals.toArray++Array.replicate (fn.ntmps - vals.toArray.size) undef).getD t undef);rw [this];exact VR.stays Wr hv
 have BT:=fS (ts.map fun t=>a.tmps.getD t undef) Hz ⟨rfl,rfl,hO⟩ hF lJ g1 _ w DL;refine wp_mono BT fun e a' w' ⟨st',g0,hq,Q8⟩=> ?_;obtain ⟨he,v,hC,Wt⟩:=hq;obtain ⟨g',db⟩:=Wt g0 a' w' Q8;have VV: ∀(u:Value),∃g2,bD cx g2 (J v) (a.put o.dst u) w':=by
  intro u;have VW:=hs.size;refine hle _ v g' _ w' ⟨?_,?_,fun t x hl=> ?_,db.mem,db.eH,db.gp,db.lt,db.ar,db.own,db.gl⟩;have h0:a.defers=[]:=hs.defers.1 lJ;rw [hd];show xT cx g' _ w' a.defers;rw [h0];exact .nil;rw [hd];simp [Act.put,VW];have hlt:d<cx.N:=Nat.le_of_ble_eq_true pg;rw [hd];rw [aw] at hl;split at hl;injection hl with hl;subst hl;trivial;rename_i cX;have Wu:=db.mem gk _ (ZH _ v);have:=FN (g:=g') (w:=w') (m:=(JJ (ts.map fun t=>a.tmps.getD t undef) v).mem) (S:=cx.safe g' (JJ (ts.map fun t=>a.tmps.getD t undef) v).mem w') (fun t=>a.tmps.getD t undef) Wu.2 hl;have e2:(a.put (some d) u).tmps.getD t undef=a.tmps.getD t undef:=by
   have I5: ¬d=t:=fun e=>cX e.symm;simp [Act.put,Array.getD_eq_getD_getElem?,Array.getElem?_setIfInBounds,I5]
  rw [e2];exact this
 have KZ:(results fn a'.tmps).run cx.P w'= .ok (.tuple #[]) w':=by
  simp [results,rn]
 have ZJ:a'.defers=[]:=db.defers.1 lJ;have fin:LeavesInM Fence.wide 0 cx.P fn a'.tmps (fun en w'=> ∃v,en= .returned v∧K (a.put o.dst v) w') a'.defers .returning w':=by
  rw [ZJ];obtain ⟨g2,yj⟩:=VV (.tuple #[]);exact ⟨.tuple #[],KZ,_,rfl,hK _ _ ⟨J v,g2,hk v hC,yj⟩⟩
 rcases he with rfl|rfl
 exact fin;exact fin
end
end Go.Ide
namespace Go.Ide
def SF (P:Program)(f:FuncId)(T e:TypeId):Prop:=
 j4 P f∧ ∀(b:Nat) (p v:Value) (own:Option Nat) (xs s:List UInt8) (w:World),(p= .pointer none∨p= .pointer (some ⟨b,0,none⟩))→w.heap[b]? =some (.cells #[p,v] T (0,0))→own≠some b→sG own w e v (jT xs)→
  xs.length+s.length≤av→Calls P f #[.pointer (some ⟨b,0,none⟩),.string ⟨s.toArray⟩] w fun en w'=>(∃u,en= .returned u)∧ ∃v' iI,w'.heap[b]? =some (.cells #[.pointer (some ⟨b,0,none⟩),v'] T (0,0))∧iI≠some b∧sG iI w' e v' (jT (xs++s))∧
   (iI=own∨ ∀g,iI=some g→w.heap.size≤g)∧aH (b::own.toList) w w'
def SG (P:Program)(f:FuncId)(T e:TypeId):Prop:=
 j4 P f∧ ∀(b:Nat) (p v:Value) (own:Option Nat) (xs:List UInt8) (w:World),(p= .pointer none∨p= .pointer (some ⟨b,0,none⟩))→w.heap[b]? =some (.cells #[p,v] T (0,0))→own≠some b→sG own w e v (jT xs)→
  xs≠[]→Calls P f #[.pointer (some ⟨b,0,none⟩)] w fun en w'=>en= .returned (.string ⟨xs.toArray⟩)∧w'.os=w.os∧w'.tape=w.tape∧w'.output=w.output∧w.heap.size≤w'.heap.size∧ ∀i,i<w.heap.size→own≠some i→w'.heap[i]? =w.heap[i]?
section
variable {cx:Cx} {g:GM} {st:St} {a:Act} {w w':World} {P:Program} {N:Nat} {own:List Nat} {Q:Exit→St→Prop} {all os:List Oper}
theorem bD.Wv (h:bD cx g st a w){t:Nat}{v:au}(hv:VR g st.mem (cx.safe g st.mem w) w v (a.tmps.getD t undef)):bD cx g ⟨(t,v)::st.fr,st.mem,st.nx⟩ a w:=by
 refine ⟨h.defers,h.size,fun q x hl=> ?_,h.mem,h.eH,h.gp,h.lt,h.ar,h.own,h.gl⟩;rw [aw] at hl;split at hl;rename_i e;subst e;injection hl with hl;subst hl;exact hv;exact h.fr q x hl
theorem RG.Ww {T:TypeId}{o1 o2 o3:Oper}{d1 d2:Tmp}(e:TypeId)(hX:gf cx P N own)(h1:o1.op= .build T #[])(g1:o1.guard=none)(e1:o1.dst=some d1)(h2:o2.op= .alloc T)(g2:o2.guard=none)(e2:o2.dst=some d2)(h3:o3.op= .store T (.tmp d2) (.tmp d1))(g3:o3.guard=none)(e3:o3.dst=none)(pg:((Nat.blt d1 N&&Nat.blt d2 N)&& !(Nat.beq d1 d2))=true)(hb:P.built T []=some #[.pointer none,.slice none 0 0])(hz:(P.info? T).bind (·.zero)=some (.agg #[.pointer none,.slice none 0 0]))(cY:(P.info? T).map (·.size)=some 2)(jW:kP st.mem [(st.nx,.gone)]=true)(hr:RG cx all os ⟨(d2,.one (.ptr st.nx 0))::(d1,.cV)::st.fr,(st.nx,.n9 T e [])::st.mem,st.nx+1⟩ Q):RG cx all (o1::o2::o3::os) st Q:=by
 obtain ⟨hP,hN,hO⟩:=hX;subst hP hN;simp only [Bool.and_eq_true,Bool.not_eq_true'] at pg;have SE:=Nat.le_of_ble_eq_true pg.1.1;have NA:=Nat.le_of_ble_eq_true pg.1.2;have cX:d1≠d2:=fun e=>by have:=pg.2;rw [e] at this;simp at this
 obtain ⟨i,hi,HB⟩: ∃i,cx.P.info? T=some i∧i.zero=some (.agg #[.pointer none,.slice none 0 0]):=by
  cases hx:cx.P.info? T with
  |none=>rw [hx] at hz;cases hz
  |some i=>rw [hx] at hz;exact ⟨i,rfl,hz⟩
 intro g a w hs;have ZK:d1<a.tmps.size:=by rw [hs.size];exact SE
 have Rc:d2<a.tmps.size:=by rw [hs.size];exact NA
 refine wpList_step fun K hK=> ?_;simp only [Region.wanted,g1,if_true];unfold Oper.wp;rw [show (execOp a.eval o1).run cx.P w= .ok (.value (.agg #[.pointer none,.slice none 0 0])) w from by
  have:=run_build (P:=cx.P) w T #[] _ hb;simp [execOp,h1,this]]
 refine hK _ _ ?_;rw [e1];refine wpList_step fun K hK=> ?_;simp only [Region.wanted,g2,if_true];unfold Oper.wp;rw [show (execOp (a.put (some d1) (.agg #[.pointer none,.slice none 0 0])).eval o2).run cx.P w= .ok (.value (.pointer (some ⟨w.heap.size,0,none⟩))) (w.alloc (.cells #[.pointer none,.slice none 0 0] T)) from by
  simp [execOp,h2,Instr.alloc,zeroValue,typeInfo,hi,HB,newVar,newRow,Value.cells]]
 refine hK _ _ ?_;rw [e2];refine wpList_step fun K hK=> ?_;simp only [Region.wanted,g3,if_true];unfold Oper.wp;have j6:=heap_alloc_new w (.cells #[.pointer none,.slice none 0 0] T);have Oo:((a.put (some d1) (.agg #[.pointer none,.slice none 0 0])).put (some d2) (.pointer (some ⟨w.heap.size,0,none⟩))).eval (.tmp d2)= .pointer (some ⟨w.heap.size,0,none⟩):=by
  simp [Act.eval,Act.put,Array.getD_eq_getD_getElem?,Rc]
 have QV:((a.put (some d1) (.agg #[.pointer none,.slice none 0 0])).put (some d2) (.pointer (some ⟨w.heap.size,0,none⟩))).eval (.tmp d1)= .agg #[.pointer none,.slice none 0 0]:=by
  have I5: ¬d2=d1:=fun e=>cX e.symm;simp only [Act.eval,Act.put,Array.getD_eq_getD_getElem?,Array.getElem?_setIfInBounds,if_neg I5,if_pos,Array.size_setIfInBounds,ZK,Option.getD_some]
 have hJ:=run_storeVar_row (P:=cx.P) (w.alloc (.cells #[.pointer none,.slice none 0 0] T)) w.heap.size T T #[.pointer none,.slice none 0 0] #[.pointer none,.slice none 0 0] j6 cY rfl (by simp [Value.oneCell']);rw [setRow_self _ _ _ _ _ j6] at hJ;rw [show (execOp ((a.put (some d1) (.agg #[.pointer none,.slice none 0 0])).put (some d2) (.pointer (some ⟨w.heap.size,0,none⟩))).eval o3).run cx.P (w.alloc (.cells #[.pointer none,.slice none 0 0] T))= .ok .skip (w.alloc (.cells #[.pointer none,.slice none 0 0] T)) from by
  simp only [execOp,h3,Oo,QV,Instr.storeAt,Instr.sureAddr,Sem.run_bind,Sem.run_pure,Result.andThen_ok,hJ]]
 refine hK _ _ ?_;rw [e3];have jW:=eN jW (st.nx,.gone) List.mem_cons_self;obtain ⟨g',iF,db,_⟩:=hs.N3 (ch:= .n9 T e []) jW (aH.alloc [] w (.cells #[.pointer none,.slice none 0 0] T)) (by simp) (fun g' _ _ S' _=>⟨fun p h1 h2=>by simp [ot,h1],w.heap.size,.pointer none,.slice none 0 0,rfl,.inl rfl,j6,rfl,rfl⟩);have yj:=(db.put (v:= .cV) (val:= .agg #[.pointer none,.slice none 0 0]) trivial (some d1) fun t e=>by cases e;exact SE);have LV:=(yj.put (v:= .one (.ptr st.nx 0)) (val:= .pointer (some ⟨w.heap.size,0,none⟩)) ⟨by simp [St.put,St.gZ,aw],w.heap.size,by show g'.f st.nx []=_;rw [iF];rfl,rfl⟩ (some d2) fun t e=>by cases e;exact NA);exact hr g' _ _ LV
theorem RG.SH {T e:TypeId}{o:Oper}{cl:Call}{fo y:Operand}{f:FuncId}{d t k:Nat}{xs s:List UInt8}(hX:gf cx P N own)(ho:o.op= .call cl)(hg:o.guard=none)(hd:o.dst=some d)(pg:(Nat.blt d N&& !(Nat.beq d t))=true)(ma:cl.callee= .value fo∧cl.args= #[.tmp t,y])(hf:ev st.fr fo=some (.one (.fn f)))(hW:SF P f T e)(hx:lk t st.fr=some (.one (.ptr k 0)))(hl:lk k st.mem=some (.n9 T e xs))(hy:ev st.fr y=some (.one (.aB .str s)))(Ae:bZ k own=false)(jW:kP st.mem [(st.nx,.gone)]=true)(hlen:List.length xs+List.length s≤av)(hr:RG cx all os ⟨(t,.one (.ptr st.nx 0))::(d,.cV)::st.fr,(k,.gone)::(st.nx,.n9 T e (xs++s))::st.mem,st.nx+1⟩ Q):RG cx all (o::os) st Q:=by
 obtain ⟨hP,hN,hO⟩:=hX;subst hP hN;simp only [Bool.and_eq_true,Bool.not_eq_true'] at pg;have NA:=Nat.le_of_ble_eq_true pg.1;have Oz:d≠t:=fun e=>by have:=pg.2;rw [e] at this;simp at this
 obtain ⟨⟨fn,c1,c2,c3⟩,hW⟩:=hW;intro g a w hs;obtain ⟨ZL,b,xP,ex⟩:CR g st.mem (cx.safe g st.mem w) w (.ptr k 0) (a.tmps.getD t undef):=hs.fr t _ hx;obtain ⟨Bz,b',p,v,I6,hp,hb,Aq⟩:=hs.mem k _ hl;have:b'=b:=by rw [show g.f k []=some b from xP] at I6;injection I6 with h;exact h.symm
 subst this;have ZM:a.eval y= .string ⟨s.toArray⟩:=jZ (g:=g) (m:=st.mem) (S:=cx.safe g st.mem w) (w:=w) (ba hs hy);have vB:a.eval fo= .func (.func f) #[] #[]:=ba hs hf;have O4:g.f k [0]≠some b':=fun e=>by have:=(hs.eH k k [] [0] _ _ b' hl trivial hl trivial xP e).2;cases this
 refine wpList_step fun K hK=> ?_;simp only [Region.wanted,hg,if_true];unfold Oper.wp;have eJ:cl.args.map a.eval= #[.pointer (some ⟨b',0,none⟩),.string ⟨s.toArray⟩]:=by
  rw [ma.2,←ZM,←ex];simp [Act.eval]
 have Cf:(execOp a.eval o).run cx.P w= .ok (.enter f #[.pointer (some ⟨b',0,none⟩),.string ⟨s.toArray⟩]) w:=by
  simp only [execOp,ho,resolve,ma.1,vB,Deferred.ofValue,Sem.run_bind,Sem.run_pure,Result.andThen_ok,invoke,callFunc,run_program,c1,eJ];simp only [c2,c3];simp
 rw [Cf];show Calls cx.P f _ w _;refine Calls.mono (hW b' p v (g.f k [0]) xs s w hp hb O4 Aq hlen) ?_;rintro en w' ⟨⟨u,rfl⟩,v',iI,iE,SI,I7,SJ,dS⟩;refine hK _ _ ?_;rw [hd];have jW:=eN jW (st.nx,.gone) List.mem_cons_self;have Nd: ∀q,q∈b'::(g.f k [0]).toList→ ∃p,g.f k p=some q:=fun q hq=>by
  rcases List.mem_cons.1 hq with rfl|hq
  exact ⟨[],xP⟩;exact ⟨[0],by rw [Option.mem_toList] at hq;exact hq⟩
 have iT:b'<w.heap.size:=hs.lt k [] _ b' hl trivial xP;have Fh: ∀q,iI=some q→q<w'.heap.size:=fun q hq=>by
  rw [hq] at I7;obtain ⟨_,_,_,h,_⟩:=I7;exact (Array.getElem?_eq_some_iff.1 h).1
 have ZN: ∀q,iI=some q→w.heap.size≤q∨q∈b'::(g.f k [0]).toList:=fun q hq=>by
  rcases SJ with h|h
  exact .inr (List.mem_cons_of_mem _ (by rw [Option.mem_toList,←h];exact hq));exact .inl (h q hq)
 obtain ⟨g',iF,db⟩:=hs.newAt (w':=w') jW (up:=[(k,.gone)]) (G:=b'::(g.f k [0]).toList) (γ:=fun p=>if p=[] then some b' else if p=[0] then iI else none) (ch:= .n9 T e (xs++s))
  (by intro p hp;simp at hp;subst hp;exact ⟨rfl,by rw [hl];simp⟩) dS
  (fun q hq=>let ⟨p,hp⟩:=Nd q hq;⟨k,p,_,by simp [aw],hl,trivial,hp⟩)
  (fun p q hq=>by
   have hq:(if p=[] then some b' else if p=[0] then iI else none)=some q:=hq;split at hq;injection hq with hq;subst hq;exact ⟨Nat.lt_of_lt_of_le iT dS.size,.inr List.mem_cons_self⟩;split at hq;exact ⟨Fh q hq,ZN q hq⟩;cases hq)
  (fun p q b hp hq=>by
   have hp:(if p=[] then some b' else if p=[0] then iI else none)=some b:=hp;have hq:(if q=[] then some b' else if q=[0] then iI else none)=some b:=hq;by_cases e1:p=[];by_cases e2:q=[];rw [e1,e2];rw [if_pos e1] at hp;rw [if_neg e2] at hq;split at hq;exact absurd (hq.trans hp.symm) SI;cases hq;rw [if_neg e1] at hp;by_cases e2:q=[];rw [if_pos e2] at hq;split at hp;exact absurd (hp.trans hq.symm) SI;cases hp;rw [if_neg e2] at hq;split at hp;split at hq;rename_i h1 h2;rw [h1,h2];cases hq;cases hp)
  (fun g' m' S' _=>⟨fun p h1 h2=>by simp [h1,h2],b',.pointer (some ⟨b',0,none⟩),v',rfl,.inr rfl,iE,I7⟩)
 have yj:=db.put (v:= .cV) (val:=u) trivial (some d) fun q e=>by cases e;exact NA
 have e2:(a.put (some d) u).tmps.getD t undef= .pointer (some ⟨b',0,none⟩):=by
  rw [←ex];simp [Act.put,Array.getD_eq_getD_getElem?,Array.getElem?_setIfInBounds,Oz]
 have LV:=yj.Wv (t:=t) (v:= .one (.ptr st.nx 0)) (by
  rw [e2];refine ⟨?_,b',by show g'.f st.nx []=_;rw [iF];rfl,rfl⟩;show lk st.nx ((k,.gone)::(st.nx,.n9 T e (xs++s))::st.mem)≠none;rw [aw];split;simp;rw [aw,if_pos rfl];simp)
 exact hr g' _ _ LV
theorem RG.O5 {T e:TypeId}{o:Oper}{cl:Call}{fo:Operand}{f:FuncId}{d t k:Nat}{xs:List UInt8}(hX:gf cx P N [])(hF:cx.HK)(ho:o.op= .call cl)(hg:o.guard=none)(hd:o.dst=some d)(pg:Nat.blt d N=true)(ma:cl.callee= .value fo∧cl.args= #[.tmp t])(hf:ev st.fr fo=some (.one (.fn f)))(hB:SG P f T e)(hx:lk t st.fr=some (.one (.ptr k 0)))(hl:lk k st.mem=some (.n9 T e xs))(cX:xs≠[])(hr:RG cx all os ⟨(d,.one (.aB .str xs))::st.fr,(k,.gone)::st.mem,st.nx⟩ Q):RG cx all (o::os) st Q:=by
 obtain ⟨hP,hN,hO⟩:=hX;subst hP hN;have Ae:cx.own=[]:=by simpa using hO
 have QY: ∀b,b ∉ cx.F:=fun b hb=>by
  obtain ⟨p,hp,_⟩:=hF b hb;rw [Ae] at hp;simp at hp
 have NA:=Nat.le_of_ble_eq_true pg;obtain ⟨⟨fn,c1,c2,c3⟩,hB⟩:=hB;intro g a w hs;obtain ⟨ZL,b,xP,ex⟩:CR g st.mem (cx.safe g st.mem w) w (.ptr k 0) (a.tmps.getD t undef):=hs.fr t _ hx;obtain ⟨Bz,b',p,v,I6,hp,hb,Aq⟩:=hs.mem k _ hl;have:b'=b:=by rw [show g.f k []=some b from xP] at I6;injection I6 with h;exact h.symm
 subst this;have vB:a.eval fo= .func (.func f) #[] #[]:=ba hs hf;have O4:g.f k [0]≠some b':=fun e=>by have:=(hs.eH k k [] [0] _ _ b' hl trivial hl trivial xP e).2;cases this
 refine wpList_step fun K hK=> ?_;simp only [Region.wanted,hg,if_true];unfold Oper.wp;have eJ:cl.args.map a.eval= #[.pointer (some ⟨b',0,none⟩)]:=by
  rw [ma.2,←ex];simp [Act.eval]
 have Cf:(execOp a.eval o).run cx.P w= .ok (.enter f #[.pointer (some ⟨b',0,none⟩)]) w:=by
  simp only [execOp,ho,resolve,ma.1,vB,Deferred.ofValue,Sem.run_bind,Sem.run_pure,Result.andThen_ok,invoke,callFunc,run_program,c1,eJ];simp only [c2,c3];simp
 rw [Cf];show Calls cx.P f _ w _;refine Calls.mono (hB b' p v (g.f k [0]) xs w hp hb O4 Aq cX) ?_;rintro en w' ⟨rfl,k1,k2,k3,k4,k5⟩;refine hK _ _ ?_;rw [hd];have l0: ∀c ch,lk c ((k,.gone)::st.mem)=some ch→ch≠ .gone→c≠k∧lk c st.mem=some ch:=fun c ch h h'=>by
  rw [aw] at h;split at h;injection h with h;exact absurd h.symm h';exact ⟨by assumption,h⟩
 have Ni: ∀c ch q b,lk c ((k,.gone)::st.mem)=some ch→ch.owns q→g.f c q=some b→w'.heap[b]? =w.heap[b]? :=fun c ch q b h h1 h2=>by
  obtain ⟨e1,e2⟩:=l0 c ch h (Chunk.nw h1);exact k5 b (hs.lt c q ch b e2 h1 h2) fun e3=>e1 (hs.eH c k q [0] ch _ b e2 h1 hl trivial h2 e3).1
 have bS: ∀b,cx.safe g st.mem w b→cx.safe g ((k,.gone)::st.mem) w' b∧w'.heap[b]? =w.heap[b]? :=fun b ⟨h1,h2,h3⟩=>
  ⟨⟨Nat.lt_of_lt_of_le h1 k4,h2,fun ⟨c,q,ch,q1,q2,q3⟩=>h3 ⟨c,q,ch,(l0 c ch q1 (Chunk.nw q2)).2,q2,q3⟩⟩,k5 b h1 fun e=>h3 ⟨k,[0],_,hl,trivial,e⟩⟩
 have Q7: ∀c t xs,cz ((k,.gone)::st.mem) c t xs→ ∃ch,lk c ((k,.gone)::st.mem)=some ch∧ch.owns []∧cz st.mem c t xs:=fun c t xs h=>by
  rcases h with h|⟨i,cs,ks,h⟩
  exact ⟨_,h,trivial,.inl (l0 c _ h (fun e=>by cases e)).2⟩;exact ⟨_,h,(fun o r e=>by cases e),.inr ⟨i,cs,ks,(l0 c _ h (fun e=>by cases e)).2⟩⟩
 have hJ:gq g g st.mem ((k,.gone)::st.mem) (cx.safe g st.mem w) (cx.safe g ((k,.gone)::st.mem) w') w w':=by
  refine ⟨⟨bS,fun c hc=>⟨by rw [aw];split<;>simp_all,rfl⟩,fun c t xs hc h=>⟨xs,(Q7 c t xs h).choose_spec.2.2,rfl⟩,fun c t xs b arr hc h hg hb=> ?_⟩,fun _ _=>rfl,fun c t xs hc h=>⟨xs,(l0 c _ h (fun e=>by cases e)).2,bu.refl _ _,fun i o b arr hg hb=>⟨arr,hb.ar (Ni c _ [i,o] b h trivial hg),rfl⟩⟩⟩;obtain ⟨ch,h1,h2,_⟩:=Q7 c t xs h;exact ⟨arr,hb.ar (Ni c ch [] b h1 h2 hg),rfl⟩
 have Ls: ∀b,g.f k [0]=some b→cx.w0.heap.size≤b:=fun b hb=>(hs.gp k [0] _ b hl trivial hb).elim id fun h=>absurd h (QY b);have db:bD cx g ⟨st.fr,(k,.gone)::st.mem,st.nx⟩ a w':=by
  refine ⟨hs.defers.ar bS,hs.size,fun t v hl=>VR.stays hJ (hs.fr t v hl),fun c ch h=> ?_,fun c c' q q' ch gV b h1 h2 h3 h4 h5 h6=>hs.eH c c' q q' ch gV b (l0 c ch h1 (Chunk.nw h2)).2 h2 (l0 c' gV h3 (Chunk.nw h4)).2 h4 h5 h6,
   fun c q ch b h1 h2 h3=>hs.gp c q ch b (l0 c ch h1 (Chunk.nw h2)).2 h2 h3,fun c q ch b h1 h2 h3=>Nat.lt_of_lt_of_le (hs.lt c q ch b (l0 c ch h1 (Chunk.nw h2)).2 h2 h3) k4,?_,fun p hp=>by rw [Ae] at hp;simp at hp,hs.gl⟩
  by_cases e:ch= .gone;subst e;trivial;exact gU.stays hJ (fun q b hq hg=>Ni c ch q b h hq hg) (hs.mem c ch (l0 c ch h e).2);refine ⟨k1.trans hs.ar.os,k2.trans hs.ar.tape,k3.trans hs.ar.output,Nat.le_trans hs.ar.size k4,fun b hb hf=> ?_,fun b arr hb=> ?_⟩;rw [k5 b (Nat.lt_of_lt_of_le hb hs.ar.size) (fun e=>by have:=Ls b e;omega)];exact hs.ar.block b hb hf;obtain ⟨arr1,h1,e1⟩:=hs.ar.sz b arr hb;exact ⟨arr1,h1.ar (k5 b h1.lt (fun e=>by have:=Ls b e;have:=hb.lt;omega)),e1⟩
 exact hr g _ _ (db.put (v:= .one (.aB .str xs)) (val:= .string ⟨xs.toArray⟩) rfl (some d) fun q e=>by cases e;exact NA)
end
section
variable {P:Program} {w:World}
theorem nE {b:Nat}{T:TypeId}: ∀(vs:List Value) (o i:Nat) (w:World) (arr:Array Value),w.heap[b]? =some (.cells arr T (0,0))→o+i+vs.length≤arr.size→(∀v∈vs,v.oneCell'=true)→
 ∃w' aA,(storeCells ⟨b,o,none⟩ vs i).run P w= .ok () w'∧w'.heap[b]? =some (.cells aA T (0,0))∧aA.toList=arr.toList.take (o+i)++vs++arr.toList.drop (o+i+vs.length)∧aH [b] w w'∧w'.heap.size=w.heap.size
 |[],o,i,w,arr,hb,_,_=>⟨w,arr,rfl,hb,by simp,aH.refl _ _,rfl⟩
 |v::vs,o,i,w,arr,hb,hle,h1=>by
  simp only [List.length_cons] at hle;have I8:cg w b arr:=⟨T,0,0,hb,.inl rfl⟩;have hlt:o+i<arr.size:=by omega
  have hJ:(store ((⟨b,o,none⟩:Addr).add i) v).run P w= .ok () (w.setCell ⟨b,o+i,none⟩ v):=by
   rw [aX,run_store P w _ v _ (h1 v (by simp)),I8.cell,Array.getElem?_eq_getElem hlt];have hf:=I8.Rq hlt;simp [hf]
  have iE:(w.setCell ⟨b,o+i,none⟩ v).heap[b]? =some (.cells (arr.setIfInBounds (o+i) v) T (0,0)):=by simp [World.setCell,Array.getElem?_modify,hb]
  obtain ⟨w',aA,e,k1,k2,k3,k4⟩:=nE vs o (i+1) (w.setCell ⟨b,o+i,none⟩ v) _ iE (by simp;omega) (fun x hx=>h1 x (by simp [hx]));refine ⟨w',aA,?_,k1,?_,aH.trans (aH.setCell w ⟨b,o+i,none⟩ v) k3,by rw [k4];simp⟩;simp only [storeCells,Sem.run_bind,hJ,Result.andThen_ok,e];have N5:o+i<arr.toList.length:=by simpa using hlt
  rw [k2];simp only [Array.toList_setIfInBounds,List.length_cons];rw [List.drop_set_of_lt (by omega),show o+(i+1)=o+i+1 from by omega,List.take_set,List.take_succ_eq_append_getElem N5,List.set_append_right _ _ (by simp;omega)];simp [show o+i+1+vs.length=o+i+(vs.length+1) from by omega,Nat.min_eq_left (Nat.le_of_lt hlt)]
theorem gx (xs:List UInt8):(jT xs).length=xs.length:=by simp [jT]
theorem pk (xs:List UInt8):(bG xs).map (Value.int .u8)=jT xs:=by simp [bG,jT,List.map_map,Function.comp_def]
theorem uX (xs ys:List UInt8):jT (xs++ys)=jT xs++jT ys:=by simp [jT]
theorem Ee {t u ty e:TypeId}{i:TypeInfo}(ht:P.underlying t=some (.slice e))(hu:P.underlying u=some .string)(hi:P.info? e=some i)(hz:i.zero=some (.int .u8 0))(cY:i.size=1)(xX:i.bytes=1){own:Option Nat}{v:Value}{xs s:List UInt8}(h:sG own w e v (jT xs))(hl:xs.length+s.length≤av):
 ∃v' iI w',(Builtin.append_ #[t,u] ty #[v,.string ⟨s.toArray⟩]).run P w= .ok v' w'∧sG iI w' e v' (jT (xs++s))∧(iI=own∨iI=some w.heap.size)∧aH own.toList w w':=by
 unfold av at hl;have grow: ∀(base:Option Addr) (cap:Nat),(xs.length=0∨ ∃ad,base=some ad∧ ∀j v,(jT xs)[j]? =some v→w.cell? (ad.add j)=some v)→cap<xs.length+s.length→
  ∃v' iI w',(Builtin.append_ #[t,u] ty #[.slice base xs.length cap,.string ⟨s.toArray⟩]).run P w= .ok v' w'∧sG iI w' e v' (jT (xs++s))∧iI=some w.heap.size∧aH [] w w':=by
  intro base cap ho hlt;have pL:=grownCap_ge w (xs.length+s.length) cap e;have Fi:=grownCap_le_maxLen w (xs.length+s.length) cap e (by unfold maxLen;omega);have hr:=rB (P:=P) (w:=w) (ty:=ty) ht hu hi hz (base:=base) (n:=xs.length) (cap:=cap) (olds:=jT xs) (by rw [gx,cY,Nat.mul_one]) ho hlt (by rw [xX];omega) (by omega);rw [pk] at hr;refine ⟨_,some w.heap.size,_,hr,⟨grownCap w (xs.length+s.length) cap e,(jT xs).toArray++(jT s).toArray++Builtin.zeroCells (Value.int .u8 0).cells (grownCap w (xs.length+s.length) cap e - (xs.length+s.length)),?_,heap_alloc_new w.drew _,?_,Fi,?_,?_⟩,rfl,(aH.drew [] w).trans (aH.alloc _ _ _)⟩;rw [gx,List.length_append];rw [gx,List.length_append];exact pL;simp only [Array.size_append,List.size_toArray,size_zeroCells,gx,Value.cells];simp;omega;simp only [Array.toList_append];rw [uX,List.take_append_of_le_length (by simp [gx])];exact List.take_of_length_le (by simp [gx])
 cases own with
 |none=>
  obtain ⟨hv,hx⟩:=h;have RE:xs=[]:=by cases xs with|nil=>rfl|cons=>simp [jT] at hx
  subst RE hv;cases s with
  |nil=>exact ⟨_,none,w,rC (P:=P) ht hu hi,⟨rfl,rfl⟩,.inl rfl,aH.refl _ _⟩
  |cons c s=>
   obtain ⟨v',iI,w',h1,h2,h3,h4⟩:=grow none 0 (.inl rfl) (by simp);exact ⟨v',iI,w',h1,h2,.inr h3,h4⟩
 |some g=>
  obtain ⟨cap,cur,hv,hg,hn,hm,hcs,Nf⟩:=h;subst hv;rw [gx] at hn Nf⊢;have I8:cg w g cur:=⟨e,0,0,hg,.inl rfl⟩;by_cases iU:xs.length+s.length≤cap;have hf:=ml (P:=P) (w:=w) (y:=s) (n:=s.length) rfl i.size;rw [cY] at hf;have ZO:(⟨s.toArray⟩:ByteArray).size=s.length:=by simp [ByteArray.size]
  obtain ⟨w',aA,e1,k1,k2,k3,k4⟩:=nE (P:=P) ((bG s).map (Value.int .u8)) xs.length 0 w cur hg (by rw [pk,gx];omega) (fun v hv=>by
   obtain ⟨x,_,rfl⟩:=List.mem_map.1 hv;rfl)
  refine ⟨.slice (some ⟨g,0,none⟩) (xs.length+s.length) cap,some g,w',?_,⟨cap,aA,by rw [gx,List.length_append],k1,by rw [gx,List.length_append];exact iU,hm,?_,?_⟩,.inl rfl,k3⟩;have Ig: ¬cap<xs.length+s.length:=by omega
  simp [Builtin.append_,run_underlying ht,run_underlying hu,sizeOf,typeInfo,hi,Builtin.lenOf,ZO,hf,iU,cY,aX,e1];rw [←Array.length_toList,k2,pk];simp only [List.length_append,List.length_take,List.length_drop,gx,Array.length_toList];omega;rw [k2,pk,Nat.add_zero,uX,Nf];rw [show (jT xs++jT s).length=(jT xs++jT s).length+0 from rfl,List.append_assoc,←List.append_assoc,List.take_append_of_le_length (by simp)];exact List.take_of_length_le (by simp);obtain ⟨v',iI,w',h1,h2,h3,h4⟩:=grow (some ⟨g,0,none⟩) cap (.inr ⟨_,rfl,fun j v hj=>by
   rw [aX,I8.cell,Nat.zero_add,←Array.getElem?_toList];rw [←Nf,List.getElem?_take] at hj;split at hj;exact hj;cases hj⟩) (by omega)
  exact ⟨v',iI,w',h1,h2,.inr h3,⟨h4.os,h4.tape,h4.output,h4.size,fun b hb _=>h4.block b hb (by simp),h4.sz⟩⟩
theorem tz {ops:Array Oper}{rest:List Oper}{o:Oper}{a:Act}{w':World}{v v':Value}{s:ByteArray}{Q:Exit→Act→World→Prop}(Wx:o.guard=none)(sl x:Operand)(t u:TypeId)(ho:o.op= .call {callee:= .builtin .append,args:= #[sl,x],argTypes:= #[t,u]})(hs:a.eval sl=v)(hx:a.eval x= .string s)(hr:(Builtin.append_ #[t,u] o.type #[v,.string s]).run P w= .ok v' w')(h:wpList P ops Q rest (a.put o.dst v') w'):wpList P ops Q (o::rest) a w:=by
 refine wpList_plain Wx fun K hK=> ?_;unfold Oper.wp execOp;simp only [ho,resolve,invoke,builtin,Sem.run_bind,Sem.run_pure,Result.andThen_ok,List.map_toArray,List.map_cons,List.map_nil,hs,hx,hr];exact hK _ _ h
theorem se {ops:Array Oper}{rest:List Oper}{o:Oper}{a:Act}{Q:Exit→Act→World→Prop}(Wx:o.guard=none)(sl x:Operand)(t u:TypeId)(ho:o.op= .call {callee:= .builtin .append,args:= #[sl,x],argTypes:= #[t,u]}){e:TypeId}{i:TypeInfo}(ht:P.underlying t=some (.slice e))(hu:P.underlying u=some .string)(hi:P.info? e=some i)(hz:i.zero=some (.int .u8 0))(cY:i.size=1)(xX:i.bytes=1){own:Option Nat}{v:Value}{xs s:List UInt8}(h:sG own w e v (jT xs))(hl:xs.length+s.length≤av)(hs:a.eval sl=v)(hx:a.eval x= .string ⟨s.toArray⟩)(hk: ∀v' iI w',sG iI w' e v' (jT (xs++s))→(iI=own∨iI=some w.heap.size)→aH own.toList w w'→wpList P ops Q rest (a.put o.dst v') w'):wpList P ops Q (o::rest) a w:=by
 obtain ⟨v',iI,w',h1,h2,h3,h4⟩:=Ee (ty:=o.type) ht hu hi hz cY xX h hl;exact tz Wx sl x t u ho hs hx h1 (hk v' iI w' h2 h3 h4)
end
end Go.Ide
namespace Go.Ide
def SK:Option (St×List Prop)→St
 |some p=>p.1
 |none=>⟨[],[],0⟩
def SL:Option (St×List Prop)→Option (List Prop)
 |some p=>some p.2
 |none=>none
theorem vF {o:Option (St×List Prop)}{cs:List Prop}(h:SL o=some cs):o=some (SK o,cs):=by
 cases o with
 |none=>cases h
 |some p=>injection h with h;subst h;rfl
def Cg:List Oper→List OH→List OH
 |[],_=>[]
 |_::os,[]=>⟨none,.no⟩::Cg os []
 |_::os,r::rs=>r::Cg os rs
def nO (n:Nat)(rs:List OH):List OH:=List.replicate n ⟨none,.no⟩++rs
abbrev kT:OH:=⟨some true,.no⟩
abbrev kF:OH:=⟨some false,.no⟩
abbrev hT (t:Ty):OH:=⟨none,.ty t⟩
def Arg.md:Arg→Mode
 | .bl t _=> .bl t
 | .gW t _=> .gW t
 | .own t _=> .own t
 | .mv t _=> .mv t
 | .fn _=> .fn
 | .lK _ t _=> .lK t
 | .nl=> .nl
def cl {P:Program}{f:FuncId}{args:List Arg}{rs:List RV}{outs:List TD}(_:CallOK P f args rs outs):OH:=⟨none,.call (args.map Arg.md) rs outs⟩
def up (ks:List Nat)(f:Fr)(ms:List Nat)(m:Mem)(n:Nat)(st:St):St:=⟨f++(st.ar ks).fr,m++yZ st.mem ms,st.nx+n⟩
def X7:aq→aq→List (Nat×Nat)×List Nat
 | .ptr k _,.ptr k' _=>([(k,k')],[])
 | .bT k _ _ _,.bT k' _ _ _=>([(k,k')],[])
 | .all k,.all k'=>([(k,k')],[])
 | .ref k _ _,.ref k' _ _=>([(k,k')],[])
 | .ref k _ _,.all k'=>([(k,k')],[])
 | .kG k,.kG k'=>([(k,k')],[])
 | .cls _ ks,.cls _ Ac=>(ks.zip Ac,[])
 | .az,.all k'=>([],[k'])
 |_,_=>([],[])
def GV:List aq→List aq→List (Nat×Nat)×List Nat
 |c::r,c'::r'=>((X7 c c').1++(GV r r').1,(X7 c c').2++(GV r r').2)
 |_,_=>([],[])
def L0:au→List aq
 | .one c=>[c]
 | .agg cs=>cs
 |_=>[]
def L1:Chunk→List aq
 | .box cs=>cs
 | .gh cs _=>cs
 |_=>[]
def Uy (fr:Fr):Fr→List (Nat×Nat)×List Nat
 |[]=>([],[])
 |(t,v')::r=>(match lk t fr with
  |some v=>((GV (L0 v) (L0 v')).1++(Uy fr r).1,(GV (L0 v) (L0 v')).2++(Uy fr r).2)
  |none=>Uy fr r)
def X8 (p:Nat×Nat):List (Nat×Nat)→Bool
 |[]=>false
 |q::r=>(Nat.beq p.1 q.1&&Nat.beq p.2 q.2)||X8 p r
def L2 (m m':Mem):Nat→List (Nat×Nat)→List (Nat×Nat)→List Nat→List (Nat×Nat)×List Nat
 |0,_,done,vs=>(done,vs)
 |_+1,[],done,vs=>(done,vs)
 |n+1,p::todo,done,vs=>bif X8 p done then L2 m m' n todo done vs else (match lk p.1 m,lk p.2 m' with
  |some c,some c'=>L2 m m' n ((GV (L1 c) (L1 c')).1++todo) (p::done) ((GV (L1 c) (L1 c')).2++vs)
  |_,_=>L2 m m' n todo (p::done) vs)
def Uz (m:Mem):Mem→List (Nat×Nat)
 |[]=>[]
 |(k,.gh _ _)::r=>(match lk k m with
  |some (.gh _ _)=>(k,k)::Uz m r
  |_=>Uz m r)
 |_::r=>Uz m r
def SM (own:List Nat)(st st':St):rp:=
 let p:=Uy st.fr st'.fr;let q:=L2 st.mem st'.mem 1000 (own.map (fun k=>(k,k))++(Uz st.mem st'.mem++p.1)) [] p.2
 ⟨q.1,q.2,[],false⟩
def St.NC (own:List Nat)(st st':St):Option St:=st.re (SM own st st') own st'
def L3 (own:List Nat)(st':St):Option (St×List Prop)→Option (St×List Prop)
 |some (st1,cs)=>(match st1.NC own st' with
  |some FB=>some (FB,cs)
  |none=>none)
 |none=>none
theorem zd {own:List Nat}{st':St}{o:Option (St×List Prop)}{cs:List Prop}(h:L3 own st' o=some (st',cs)): ∃st1,o=some (st1,cs)∧st1.NC own st'=some st':=by
 unfold L3 at h;split at h;rename_i st1 GP;split at h;rename_i FB h2;injection h with h;injection h with h3 h4;subst h3 h4;exact ⟨_,rfl,h2⟩;cases h;cases h
def SN (ops:List Oper):List Nat:=ops.foldl (fun D o=>D++[(eu o).foldl (fun a d=>a|||(2^d|||D.getD d 0)) 0]) []
def SP (n m:Nat):List Nat:=(List.range n).filter fun i=>Nat.beq ((m>>>i)%2) 1
def I9:List Nat→Nat→Nat
 |[],n=>n
 |_::_,0=>0
 |m::r,n+1=>bif Nat.beq m (2^n - 1) then I9 r n else n+1
def Wy (ops:List Oper):List (List Nat):=(SN ops).map (SP ops.length)
def ND:List OH→List (List Nat)→List HR
 |r::rs,d::ds=>⟨r,d⟩::ND rs ds
 |_,_=>[]
def SQ (P:Program)(N:Nat)(ops:List Oper)(h:Nat)(D:List (List Nat))(rs:List OH)(st:St):Option (St×List Prop):=Ca P N ops h (ND (rs.take h) D) (D.drop h) (rs.drop h) st
def Ja (P:Program)(N:Nat)(ops:List Oper)(rs:List OH)(st:St):Option (St×List Prop):=SQ P N ops (I9 (SN ops).reverse ops.length) (Wy ops) (Cg ops rs) st
def SR (P:Program)(fn:Func)(args:List Arg)(ts:List (Bool×Ty))(st:St):Option (List RV×List TD×List Prop):=
 match BO P st.mem st.fr fn.results.toList with
 |some vs=>(match DO st.mem ts vs with
  |some (rs,ks)=>bif iX ks&&ks.all (fun k=> !(DN k (eO args 0))) then (match gM st.mem args 0 with
   |some (outs,cs)=>some (rs,outs,cs)
   |none=>none) else none
  |none=>none)
 |none=>none
theorem bN {P:Program}{fn:Func}{args:List Arg}{ts:List (Bool×Ty)}{st:St}{rs:List RV}{outs:List TD}{cs:List Prop}(hc:aS cs)(he:SR P fn args ts st=some (rs,outs,cs):=by kernel_rfl):BP P fn args ts rs outs st:=by
 unfold SR at he;split at he;rename_i vs hv;split at he;rename_i Y1 ks hr;cases hb:(iX ks&&ks.all (fun k=> !(DN k (eO args 0)))) with
 |false=>rw [hb] at he;cases he
 |true=>
  rw [hb] at he;simp only [cond_true] at he;simp only [Bool.and_eq_true] at hb;split at he;rename_i X9 GP ho;injection he with he;injection he with e1 e2;injection e2 with e2 e3;subst e1 e2 e3;exact ⟨vs,ks,_,hv,hr,hb.1,hb.2,ho,hc⟩;cases he
 cases he;cases he
def O6 (rs:List RV):List (Bool×Ty):=rs.map fun r=>(r.fresh,r.t)
theorem fe {P:Program}{f:FuncId}{fn:Func}{c:Code}{args:List Arg}{rs:List RV}{outs:List TD}(hf:P.funcs[f]? =some fn)(hb:fn.body=some c)(h: ∀cx:Cx,gf cx P fn.ntmps (eO args 0)→cx.HK→HT cx (sE args) c (Ip P fn args (O6 rs) rs outs))(qb:(fn.name=="runtime.NumGoroutine")=false:=by kernel_rfl)(hn:Nat.ble args.length fn.ntmps=true:=by kernel_rfl)(hm:Bx args=true:=by kernel_rfl):CallOK P f args rs outs:=
 CallOK.qS hf hb qb (Nat.le_of_ble_eq_true hn) fun cx hP hN hO hF=>h cx ⟨hP,hN,hO⟩ (hF hm)
theorem Ya {P:Program}{f:FuncId}{fn:Func}{c:Code}{args:List Arg}{rs:List RV}{outs:List TD}(hf:P.funcs[f]? =some fn)(hb:fn.body=some c)(h: ∀cx:Cx,gf cx P fn.ntmps (eO args 0)→HT cx (sE args) c (Ip P fn args (O6 rs) rs outs))(qb:(fn.name=="runtime.NumGoroutine")=false:=by kernel_rfl)(hn:Nat.ble args.length fn.ntmps=true:=by kernel_rfl):CallOK P f args rs outs:=
 CallOK.qS hf hb qb (Nat.le_of_ble_eq_true hn) fun cx hP hN hO _=>h cx ⟨hP,hN,hO⟩
theorem UA {P:Program}{f:FuncId}{fn:Func}{c:Code}{args:List Arg}{rs:List RV}{outs:List TD}(nd:Bool)(hf:P.funcs[f]? =some fn)(hb:fn.body=some c)(h: ∀cx:Cx,gf cx P fn.ntmps (eO args 0)→cx.HK→cx.nd=nd→HT cx (sE args) c (Ip P fn args (O6 rs) rs outs))(qb:(fn.name=="runtime.NumGoroutine")=false:=by kernel_rfl)(hn:Nat.ble args.length fn.ntmps=true:=by kernel_rfl)(hm:Bx args=true:=by kernel_rfl):CallOK P f args rs outs:=
 CallOK.BS hf hb qb (Nat.le_of_ble_eq_true hn) nd fun cx hP hN hO hF lJ=>h cx ⟨hP,hN,hO⟩ (hF hm) lJ
theorem Rd {n:Int}(h:(0:Int)≤n∧n≤4294967296):(0:Int)≤n∧n≤n∧n≤4294967296:=⟨h.1,Int.le_refl _,h.2⟩
theorem UB {h l:Int}(x:(0:Int)≤h∧h≤l):(0:Int)≤0∧(0:Int)≤h∧h≤l:=⟨Int.le_refl _,x.1,x.2⟩
theorem Yb {l n:Int}(x:(0:Int)≤l∧l≤n):(0:Int)≤l∧l≤n∧n≤n:=⟨x.1,x.2,Int.le_refl _⟩
section
variable {G:Prop} {α β:Type}
theorem bo {o:Option α}{k:α→Option β}{r:β}(h:o.bind k=some r)(f: ∀y,o=some y→k y=some r→G):G:=by
 obtain ⟨y,h1,h2⟩:=qV h;exact f y h1 h2
theorem bc {o:Option α}{k:α→Option β}{r:β}{C:α→Prop}(h:o.bind k=some r)(c: ∀{y},o=some y→C y)(f: ∀y,C y→k y=some r→G):G:=by
 obtain ⟨y,h1,h2⟩:=qV h;exact f y (c h1) h2
theorem bg {p:Prop}[Decidable p]{k:Option β}{r:β}(h:ai p k=some r)(f:p→k=some r→G):G:=by
 obtain ⟨h1,h2⟩:=ig h;exact f h1 h2
theorem bq {e:α}{k:α→Option β}{r:β}(h:(some e).bind k=some r)(f:k e=some r→G):G:=f h
theorem bb {b:Bool}{x y:Option β}{r:β}(h:(bif b then x else y)=some r)(f:b=true→x=some r→G)(g:b=false→y=some r→G):G:=by
 rcases IF h with ⟨h1,h2⟩|⟨h1,h2⟩
 exact f h1 h2;exact g h1 h2
theorem nn {r:β}(h:(none:Option β)=some r):G:=by cases h
theorem jO {e:Option β}{w:α⊕β}{K:α⊕β→Option β}{r:β}(hK:K w=some r)(hz: ∀z,K (.inr z)=some z)(h:Ai e=some w):e=some r:=by
 obtain ⟨z,h1,h2⟩:=OJ h;subst h2;rw [h1,←hz,hK]
end
theorem aQ {p:Prop}(h:p):aS [p]:=⟨h,trivial⟩
theorem dT {p q:Prop}(h1:p)(h2:q):aS [p,q]:=⟨h1,h2,trivial⟩
theorem oI {p q r:Prop}(h1:p)(h2:q)(h3:r):aS [p,q,r]:=⟨h1,h2,h3,trivial⟩
theorem oJ {p q r s:Prop}(h1:p)(h2:q)(h3:r)(h4:s):aS [p,q,r,s]:=⟨h1,h2,h3,h4,trivial⟩
theorem lx {p q r s:Prop}{l:List Prop}(h1:p)(h2:q)(h3:r)(h4:s)(h:aS l):aS (p::q::r::s::l):=⟨h1,h2,h3,h4,h⟩
section
variable {cx:Cx} {st st':St} {P:Program} {N:Nat} {own:List Nat} {Q:Exit→St→Prop} {x y z c:Code} {id:Nat} {ops:List Oper} {cs:List Prop}
theorem HT.g (hX:gf cx P N own)(rs:List OH)(hc:aS cs)(hq:HT cx (SK (nQ P N ops ops (Cg ops rs) st)) y Q)(he:SL (nQ P N ops ops (Cg ops rs) st)=some cs:=by kernel_rfl):HT cx st (.seq (.region id ops.toArray false) y) Q:=HT.seq (HT.Ur hX.P hX.N (vF he) hc hq)
theorem HT.l (hX:gf cx P N own)(rs:List OH)(hc:aS cs)(hq:Q .normal (SK (nQ P N ops ops (Cg ops rs) st)))(he:SL (nQ P N ops ops (Cg ops rs) st)=some cs:=by kernel_rfl):HT cx st (.region id ops.toArray false) Q:=HT.Ur hX.P hX.N (vF he) hc hq
theorem HT.k (hX:gf cx P N own)(rs:List OH)(hc:aS cs)(hq: ∀st1,Le cx st1 st'→Q .normal st1)(he:L3 own st' (nQ P N ops ops (Cg ops rs) st)=some (st',cs):=by kernel_rfl):HT cx st (.region id ops.toArray false) Q:=by
 obtain ⟨st1,h1,h2⟩:=zd he;exact HT.Ur hX.P hX.N h1 hc (hq _ (Le.re _ _ hX h2))
theorem HT.dg (hX:gf cx P N own)(rs:List OH)(hc:aS cs)(hq:HT cx (SK (Ja P N ops rs st)) y Q)(he:SL (Ja P N ops rs st)=some cs:=by kernel_rfl)(hm:P.follows .mixedOrders=true:=by kernel_rfl):HT cx st (.seq (.region id ops.toArray true) y) Q:=HT.seq (IJ hX.P hX.N hm (vF he) hc hq)
theorem HT.dl (hX:gf cx P N own)(rs:List OH)(hc:aS cs)(hq:Q .normal (SK (Ja P N ops rs st)))(he:SL (Ja P N ops rs st)=some cs:=by kernel_rfl)(hm:P.follows .mixedOrders=true:=by kernel_rfl):HT cx st (.region id ops.toArray true) Q:=IJ hX.P hX.N hm (vF he) hc hq
theorem HT.dk (hX:gf cx P N own)(rs:List OH)(hc:aS cs)(hq: ∀st1,Le cx st1 st'→Q .normal st1)(he:L3 own st' (Ja P N ops rs st)=some (st',cs):=by kernel_rfl)(hm:P.follows .mixedOrders=true:=by kernel_rfl):HT cx st (.region id ops.toArray true) Q:=by
 obtain ⟨st1,h1,h2⟩:=zd he;exact IJ hX.P hX.N hm h1 hc (hq _ (Le.re _ _ hX h2))
theorem HT.re (hX:gf cx P N own)(h:HT cx st' c Q)(he:st.NC own st'=some st':=by kernel_rfl):HT cx st c Q:=(Le.re _ _ hX he).ht h
theorem HT.ex (st':St)(hX:gf cx P N own)(h:HT cx st' c Q)(he:st.NC own st'=some st':=by kernel_rfl):HT cx st c Q:=(Le.re _ _ hX he).ht h
theorem HT.eg (st':St)(hX:gf cx P N own)(h:HT cx st' c Q)(he:Us own (st'.fr.map Prod.fst) (st'.mem.map Prod.fst) (some (st,[]))=some (st',[]):=by kernel_rfl):HT cx st c Q:=(Le.gc hX rfl he).2.ht h
theorem HT.xr (hX:gf cx P N own)(hq:Q .ret st')(he:st.NC own st'=some st':=by kernel_rfl):HT cx st .ret Q:=(Le.re _ _ hX he).ht (HT.ret hq)
theorem HT.xe {n:Nat}(hX:gf cx P N own)(hq:Q (.exit n) st')(he:st.NC own st'=some st':=by kernel_rfl):HT cx st (.exit n) Q:=(Le.re _ _ hX he).ht (HT.exit hq)
theorem Le.a (hX:gf cx P N own)(he:st.NC own st'=some st':=by kernel_rfl):Le cx st st':=Le.re _ _ hX he
theorem HT.jn {α β:Type}{o:Option α}{k:α→Option β}{r:β}(hr:o.bind k=some r)(J:α→St→St)(h1: ∀v,k v=some r→HT cx (J v st) y Q)(h2: ∀w,o=some w→(∀v,v=w→HT cx (J v st) y Q)→HT cx st x (uM cx y Q)):HT cx st (.seq x y) Q:=by
 obtain ⟨w,e1,e2⟩:=qV hr;exact HT.seq (h2 w e1 fun v hv=>by subst hv;exact h1 _ e2)
theorem HT.jo {α β:Type}{o:Option (α⊕β)}{K:α⊕β→Option β}{r:β}(hr:o.bind K=some r)(hz: ∀z,K (.inr z)=some z)(J:α→St→St)(h1: ∀v,K (.inl v)=some r→HT cx (J v st) y Q)(h2: ∀w,o=some w→(∀{e:Option β},Ai e=some w→e=some r)→(∀v,w= .inl v→HT cx (J v st) y Q)→HT cx st x (uM cx y Q)):HT cx st (.seq x y) Q:=by
 obtain ⟨w,e1,e2⟩:=qV hr;exact HT.seq (h2 w e1 (fun h=>jO e2 hz h) fun v hv=>by subst hv;exact h1 _ e2)
theorem HT.cb {β:Type}{o:Operand}{b:Bool}{u v:Option β}{r:β}(h:(bif b then u else v)=some r)(f:b=true→u=some r→HT cx st x Q)(g:b=false→v=some r→HT cx st y Q)(he:ev st.fr o=some (.one (.aB .bool b)):=by kernel_rfl):HT cx st (.cond o x y) Q:=by
 rcases IF h with ⟨h1,h2⟩|⟨h1,h2⟩
 exact HT.Cb he h1 (f h1 h2);exact HT.za he h1 (g h1 h2)
theorem HT.cj {β:Type}{o:Operand}{b:Bool}{u v:Option β}{r:β}(h:(bif b then u else v)=some r)(f:b=true→u=some r→HT cx st z Q)(g:b=false→v=some r→HT cx st y (uM cx z Q))(he:ev st.fr o=some (.one (.aB .bool b)):=by kernel_rfl):HT cx st (.seq (.cond o .skip y) z) Q:=HT.seq (HT.cb h (fun h1 h2=>HT.skip (f h1 h2)) g he)
theorem HT.c0 {o:Operand}{b:Bool}(hb:b=false)(h1:HT cx st y Q)(he:ev st.fr o=some (.one (.aB .bool b)):=by kernel_rfl):HT cx st (.cond o x y) Q:=HT.za he hb h1
theorem HT.lp {σ ρ β:Type}{f:σ→Option (σ⊕ρ)}{s:σ}{k:ρ→Option β}{r:β}(hX:gf cx P N own)(hr:(rounds f s).bind k=some r)(S:σ→St→St)(E:ρ→Exit×(St→St))(after: ∀r',k r'=some r→Q (E r').1 ((E r').2 st))(round: ∀s x,f s=some x→(∀r',x= .inr r'→Q (E r').1 ((E r').2 st))→HT cx (S s st) c (uN (fun st'=> ∃s',x= .inl s'∧Le cx st' (S s' st)) Q))(he:st.NC own (S s st)=some (S s st):=by kernel_rfl):HT cx st (.loop c) Q:=by
 obtain ⟨r',h1,h2⟩:=qV hr;exact HT.FI (fun s=>S s st) (fun r=>((E r).1,(E r).2 st)) (Le.re _ _ hX he) h1 (after r' h2) round
theorem lN {σ ρ:Type}{e:σ}{x:σ⊕ρ}{S:σ→St}{st1:St}(hx:some (Sum.inl e)=some x)(h:Le cx st1 (S e)): ∃s',x= .inl s'∧Le cx st1 (S s'):=⟨e,an hx,h⟩
end
end Go.Ide
