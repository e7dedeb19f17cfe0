import Derived.Test.YtjnkhcgmgkhnaaaGreatDoorDeskGenA
import Derived.Test.YtjnkhcgmgkhnaaaGreatDoorProg
set_option linter.all false
open Array renaming getElem?_modify→aaP
open BitVec renaming ofInt→Ϟ
open Go renaming World→Ε,Calls→abq
open Go.Extern.AbiNoEscape renaming same→afY
open Go.Ide.CallOK renaming rU→aeK
open Go.Ide.HT renaming g→θ,block→ξ,seq→υ,ret→Δ,skip→Η,k→Τ,cb→Ω,lp→Ϩ,xe→Ϫ,jn→ϰ,cj→ϻ,dg→aba,vR→aee
open Go.IntKind renaming wrap→Φ,bits→Ϗ
open Go.Lib renaming cell_of_heap→ϵ,frozen_of_heap→afG
open Go.Oper renaming upon_value→adM
open Go.Proofs.SlLaysF0 renaming n6→afZ
open Go.Proofs.Tryz renaming prog→ν,underlying9→abn,underlying91→ads,underlying205→afh,ntmps96→ahc,func214→ahe,func96→ahq,func47→ahr,func49→ahs
open Go.Result renaming andThen→aaK
open Go.RowKit.Below renaming heap_alloc→aao,heap_setCell→abG
open Go.Sort renaming grow→acb
open Go.World renaming setCell→aes,shape?→agD
open Int renaming toNat→δ,lt_trichotomy→ace,fdiv→acK
open List renaming getD→ε,length→ζ,replicate→π,take→Ϝ,set→aag,drop→aaW
open Nat renaming le_of_ble_eq_true→ϓ
open Option renaming map_eq_some_iff→aem
namespace Go.Proofs
open Go.Ide
noncomputable section
theorem L1 {xs y}(h:slices_Clone xs=some y):CallOK ν 138 [.bP (.sl .bool) xs] [⟨true,(.sl .bool),y⟩] []:=by
 obtain ⟨p,h⟩:=iK h;have h:=aZ h;subst h;refine aeK (ts:=[(true,(.sl .bool))]) Tryz.func138 rfl (by kernel_rfl) (ϓ (by kernel_rfl)) λcx j o I J=> ?_;show HT cx ⟨[(0,.one (.bp (.sl .bool) xs))],[],0⟩ _ _;refine aee [0] [⟨none,.no⟩] ⟨[(0,.one (.bp (.sl .bool) xs))],[],0⟩ j o (by kernel_rfl) aU ?_;refine υ ?_;refine HT.isNil (t3:=3) (t4:=4) (v:= .one (.bp (.sl .bool) xs)) (t:= .bool) (xs:=xs) (st1:=⟨[(3,.one (.bp (.sl .bool) xs)),(0,.one (.bp (.sl .bool) xs))],[],0⟩) j o (by kernel_rfl) rfl rfl rfl rfl (e:=4) (by kernel_rfl) rfl rfl (λb r=> ?_);show HT cx ⟨[(4,.one (.bp .bool b)),(3,.one (.bp (.sl .bool) xs)),(0,.one (.bp (.sl .bool) xs))],[],0⟩ _ _;cases b with
 |true=>
  have e:=r rfl;subst e;refine HT.CT rfl rfl ?_;refine aee [2] [⟨none,.no⟩] ⟨[(2,.one .br)],[],0⟩ j o (by kernel_rfl) aU ?_;exact Δ (bn ⟨[.one .br],[],[],by kernel_rfl,by kernel_rfl,rfl,by kernel_rfl,by kernel_rfl,trivial⟩)
 |false=>
  refine HT.zO rfl rfl ?_;refine Η (aX ?_);refine aee [2] [⟨none,.no⟩,⟨none,.no⟩,⟨none,.ty .bool⟩,⟨none,.no⟩] ⟨[(2,.one (.all 0))],[(0,.seq .bool xs)],1⟩ j o (by kernel_rfl) (gy p aU) ?_;exact Δ ⟨[.one (.all 0)],[0],[],by kernel_rfl,by kernel_rfl,rfl,by kernel_rfl,by kernel_rfl,trivial⟩
def oG (a0:GP):Option (GP):=
 (slices_Clone a0.2.2.1).bind λj=>
 (slices_Clone a0.2.2.2).bind λo=>
 some (a0.1,a0.2.1,j,o)
theorem Pj {a0}{r}(j:oG a0=some r):CallOK ν 97 [.bP (.st gP) a0] [⟨true,(.st gP),r⟩] []:=
 dn Tryz.func97 rfl λcx t I=>θ t [] aU (bc j lA λJ o j=>bc j L1 λR p j=>aba t (nO 6 [(cl o),oH,oH,(cl p)]) (dd o p) (by (cases j;exact (Δ (bY aU)))))
theorem Pk {xs y}(h:slices_Clone xs=some y):CallOK ν 98 [.bP gA xs] [⟨true,gA,y⟩] []:=by
 obtain ⟨p,h⟩:=iK h;have h:=aZ h;subst h;refine aeK (ts:=[(true,gA)]) Tryz.func98 rfl (by kernel_rfl) (ϓ (by kernel_rfl)) λcx j o I J=> ?_;show HT cx ⟨[(0,.one (.bp gA xs))],[],0⟩ _ _;refine aee [0] [⟨none,.no⟩] ⟨[(0,.one (.bp gA xs))],[],0⟩ j o (by kernel_rfl) aU ?_;refine υ ?_;refine HT.isNil (t3:=3) (t4:=4) (v:= .one (.bp gA xs)) (t:=(.st gQ)) (xs:=xs) (st1:=⟨[(3,.one (.bp gA xs)),(0,.one (.bp gA xs))],[],0⟩) j o (by kernel_rfl) rfl rfl rfl rfl (e:=85) (by kernel_rfl) rfl rfl (λb r=> ?_);show HT cx ⟨[(4,.one (.bp .bool b)),(3,.one (.bp gA xs)),(0,.one (.bp gA xs))],[],0⟩ _ _;cases b with
 |true=>
  have e:=r rfl;subst e;refine HT.CT rfl rfl ?_;refine aee [2] [⟨none,.no⟩] ⟨[(2,.one .br)],[],0⟩ j o (by kernel_rfl) aU ?_;exact Δ (bn ⟨[.one .br],[],[],by kernel_rfl,by kernel_rfl,rfl,by kernel_rfl,by kernel_rfl,trivial⟩)
 |false=>
  refine HT.zO rfl rfl ?_;refine Η (aX ?_);refine aee [2] [⟨none,.no⟩,⟨none,.no⟩,⟨none,.ty (.st gQ)⟩,⟨none,.no⟩] ⟨[(2,.one (.all 0))],[(0,.seq (.st gQ) xs)],1⟩ j o (by kernel_rfl) (gy p aU) ?_;exact Δ ⟨[.one (.all 0)],[0],[],by kernel_rfl,by kernel_rfl,rfl,by kernel_rfl,by kernel_rfl,trivial⟩
def gu (a0:GM×GP×GG×GI):Option ((GM×GP×GG×GI)):=
 (slices_Clone a0.1.2.2.1).bind λp=>
 (slices_Clone a0.1.2.2.2.1).bind λr=>
 (slices_Clone a0.1.2.2.2.2).bind λt=>
 (oG (a0.2.1.1,a0.2.1.2.1,a0.2.1.2.2.1,a0.2.1.2.2.2)).bind λj=>
 (slices_Clone a0.2.2.1.2.2).bind λI=>
 (slices_Clone a0.2.2.2).bind λo=>
 some ((a0.1.1,a0.1.2.1,p,r,t),(j.1,j.2.1,j.2.2.1,j.2.2.2),(a0.2.2.1.1,a0.2.2.1.2.1,I),o)
theorem EC {a0}{r}(j:gu a0=some r):CallOK ν 48 [.bP (.st (.pair (.st gM) (.pair (.st gP) (.pair (.st gR) cg)))) a0] [⟨true,(.st (.pair (.st gM) (.pair (.st gP) (.pair (.st gR) cg)))),r⟩] []:=
 dn Tryz.func48 rfl λcx T hF=>θ T [] aU (θ T [] aU (bc j EB λy1 t j=>bc j lA λy3 I j=>bc j lA λy5 J j=>bc j Pj λy7 R j=>bc j Pk λy9 o j=>bc j lA λU p j=>aba T (nO 6 [(cl t),oH,oH,(cl I),oH,oH,(cl J),oH,oH,oH,(cl R),oH,oH,oH,oH,oH,oH,oH,oH,oH,(cl o),oH,oH,oH,(cl p)]) (iE t I J R (dd o p)) (by (cases j;exact (Δ (bY aU))))))
section
open Go.RowKit
theorem Tryz.Yp:(Tryz.prog.info? 93).map (·.size)=some 2:=by kernel_rfl
theorem Tryz.Pm:liesAt ν Tryz.prog.depth 93 (2/Tryz.prog.cellsOf 93) 0 93 1=true:=by kernel_rfl
theorem Tryz.Hc:(Tryz.prog.info? 5).map (λi=>(i.zero,i.size,i.bytes))=some (some (.int .u8 0),1,1):=by kernel_rfl
set_option maxHeartbeats 1000000 in
set_option maxRecDepth 100000 in
theorem Jl (b:Nat)(w:Ε)(h0:w.cell? ⟨b,0,none⟩=some (.pointer none))(hsh:w.shape? b=some (93,2))(TV:w.frozen? ⟨b,0,none⟩=false):
 abq ν 96 #[.pointer (some ⟨b,0,none⟩)] w λe w'=>e= .returned (.tuple #[])/\w'=w.setCell ⟨b,0,none⟩ (.pointer (some ⟨b,0,none⟩)):=by
 obtain ⟨j,hj,hjs⟩:=aem.1 Tryz.Yp
 go_enter ahq,ahc
 go_wp2
 rw [Lib.run_to_unsafe w ⟨b,0,none⟩ ads afh hj (by rw [hjs];decide) hsh (Nat.zero_lt_succ 1)];simp only [aaK];rw [adM]
 go_wp2
 rw [run_callFunc_extern Tryz.func137 (by kernel_rfl) (by kernel_rfl) (by kernel_rfl) (e:=afY) (by kernel_rfl)];rw [Lib.run_noEscape];simp only [aaK];rw [adM]
 go_wp2
 rw [Lib.run_from_unsafe w ⟨b,0,none⟩ afh ads hj hsh Tryz.Pm];simp only [aaK];rw [adM]
 go_wp2
 go_end0
 exact ⟨rfl,rfl⟩
set_option maxHeartbeats 1000000 in
set_option maxRecDepth 100000 in
theorem L2 (b:Nat)(w:Ε)(h0:w.cell? ⟨b,0,none⟩=some (.pointer (some ⟨b,0,none⟩))):
 abq ν 96 #[.pointer (some ⟨b,0,none⟩)] w λe w'=>e= .returned (.tuple #[])/\w'=w:=by
 obtain ⟨j,hj,_⟩:=aem.1 Tryz.Yp
 go_enter ahq,ahc
 go_wp2
 rw [Lib.run_neq_ptr_same w _ ads hj]
 go_wp2
 go_end0
 exact ⟨rfl,rfl⟩
theorem Pn (b:Nat)(p v:Value)(w:Ε)(hp:p= .pointer none\/p= .pointer (some ⟨b,0,none⟩))(j:w.heap[b]? =some (.cells #[p,v] 93 (0,0))):
 abq ν 96 #[.pointer (some ⟨b,0,none⟩)] w λe w'=>e= .returned (.tuple #[])/\w'.heap[b]? =some (.cells #[.pointer (some ⟨b,0,none⟩),v] 93 (0,0))/\bJ [b] w w'/\(∀i,i≠b->w'.heap[i]? =w.heap[i]?)/\w'.heap.size=w.heap.size:=by
 have o:w.cell? ⟨b,0,none⟩=some p:=by rw [ϵ j];rfl
 rcases hp with rfl|rfl
 refine (Jl b w o (by simp [agD,j]) (afG j 0)).mono ?_;rintro e w' ⟨rfl,rfl⟩;exact ⟨rfl,by simp [aes,aaP,j],bJ.setCell w ⟨b,0,none⟩ _,λi r=>abG w ⟨b,0,none⟩ _ i r,by simp⟩;refine (L2 b w o).mono ?_;rintro e w' ⟨rfl,rfl⟩;exact ⟨rfl,j,bJ.refl _ _,λ_ _=>rfl,rfl⟩
set_option maxHeartbeats 2000000 in
set_option maxRecDepth 100000 in
theorem Wr:Sj ν 47 93 5:=by
 refine ⟨⟨_,ahr,by kernel_rfl,by kernel_rfl⟩,λb p v own xs s w hp hb iH AW hlen=> ?_⟩;obtain ⟨i0,hi,K6,UC,Sd⟩:=info_parts Tryz.Hc
 go_enter ahr,Tryz.ntmps47
 go_wp2_with (go_at_call 96;refine (Pn b p v w hp hb).mono ?_)
 rintro e w1 ⟨rfl,Nf,GA,ho1,Iv⟩;have NC:tu own w1 5 v (kX xs):=AW.bt λg hg=>ho1 g (λe=>iH (by rw [hg,e]));have c0:w1.cell? ⟨b,0,none⟩=some (.pointer (some ⟨b,0,none⟩)):=by rw [ϵ Nf];rfl
 have c1:w1.cell? ⟨b,1,none⟩=some v:=by rw [ϵ Nf];rfl
 go_wp2_with (at_builtin;refine tb rfl _ _ 22 9 rfl Tryz.underlying22 abn hi K6 UC Sd NC hlen rfl rfl ?_)
 intro v' H6 w2 Jm ND sy;have hlt:b<w1.heap.size:=(Array.getElem?_eq_some_iff.1 Nf).1;have wP:w2.heap[b]? =some (.cells #[.pointer (some ⟨b,0,none⟩),v] 93 (0,0)):=by
  rw [sy.block b hlt (λh=>iH (by rw [Option.mem_toList] at h;exact h))];exact Nf
 have d0:w2.cell? ⟨b,0,none⟩=some (.pointer (some ⟨b,0,none⟩)):=by rw [ϵ wP];rfl
 have d1:w2.cell? ⟨b,1,none⟩=some v:=by rw [ϵ wP];rfl
 have f1:w2.frozen? ⟨b,1,none⟩=false:=afG wP 1;have H8:H6≠some b:=λh=>by
  rcases ND with e|e
  exact iH (e▸h);rw [e] at h;injection h with h;omega
 obtain ⟨ao,n',cap,rfl⟩: ∃ao n' cap,v'= .slice ao n' cap:=by
  cases H6 with
  |none=>exact ⟨_,_,_,Jm.1⟩
  |some g=>obtain ⟨cap,_,h,_⟩:=Jm;exact ⟨_,_,_,h⟩
 clear AW NC
 go_wp2
 go_ret2
 refine ⟨⟨_,rfl⟩,.slice ao n' cap,H6,by simp [aes,aaP,wP],H8,Jm.bt λg hg=>abG w2 ⟨b,1,none⟩ _ g (λe=>H8 (by rw [hg,e])),?_,?_⟩;rcases ND with e|e
 exact .inl e;exact .inr λg hg=>by rw [e] at hg;injection hg with hg;omega
 have up: ∀{F:List Nat} {a b':Ε},(∀x∈F,x∈b::own.toList)->bJ F a b'->bJ (b::own.toList) a b':=λhF h=>⟨h.os,h.tape,h.output,h.size,λi hi hn=>h.block i hi (λhx=>hn (hF i hx)),h.sz⟩;exact ((up (by simp) GA).trans (up (λx hx=>List.mem_cons_of_mem _ hx) sy)).trans (up (by simp) (bJ.setCell w2 ⟨b,1,none⟩ _))
theorem lB (w:Ε)(g n:Nat):(w.drew.freeze ⟨g,0,none⟩ n).os=w.os/\(w.drew.freeze ⟨g,0,none⟩ n).tape=w.tape/\(w.drew.freeze ⟨g,0,none⟩ n).output=w.output/\w.heap.size<=(w.drew.freeze ⟨g,0,none⟩ n).heap.size/\ ∀i,g≠i->(w.drew.freeze ⟨g,0,none⟩ n).heap[i]? =w.heap[i]? :=by
 have j:w.drew.heap=w.heap:=rfl;unfold World.freeze;split;exact ⟨rfl,rfl,rfl,Nat.le_refl _,λ_ _=>rfl⟩;refine ⟨rfl,rfl,rfl,?_,λi o=> ?_⟩;simp [j];simp [j,aaP,o]
set_option maxHeartbeats 2000000 in
set_option maxRecDepth 100000 in
theorem Ws:Sk ν 49 93 5:=by
 refine ⟨⟨_,ahs,by kernel_rfl,by kernel_rfl⟩,λb p v own xs w hp hb iH AW hx=> ?_⟩;cases own with
 |none=>exact absurd AW.2 (by cases xs with|nil=>exact absurd rfl hx|cons=>simp [kX])
 |some g=>
  obtain ⟨cap,cur,rfl,hg,hn,Ug,hcs,T3⟩:=AW;rw [iL] at hn T3 hb;have DW:xs.length≠0:=by simpa using hx
  have c1:w.drew.cell? ⟨b,1,none⟩=some (.slice (some ⟨g,0,none⟩) xs.length cap):=by
   have:w.drew.heap[b]? =some (.cells #[p,.slice (some ⟨g,0,none⟩) xs.length cap] 93 (0,0)):=hb;rw [ϵ this];rfl
  have hSD:(Builtin.unsafeSliceData_ #[22] 163 #[.slice (some ⟨g,0,none⟩) xs.length cap]).run ν w.drew= .ok (.pointer (some ⟨g,0,none⟩)) w.drew:=
   Lib.run_unsafeSliceData_row _ _ _ _ _ _ (by omega)
  have QX:dm w.drew g cur:=⟨5,0,0,hg,.inl rfl⟩;have hUS:(Builtin.unsafeString_ #[163,3] 9 #[.pointer (some ⟨g,0,none⟩),.int .i64 xs.length]).run ν w.drew= .ok (.string ⟨xs.toArray⟩) (w.drew.freeze ⟨g,0,none⟩ xs.length):=by
   refine Lib.run_unsafeString_row w.drew 163 3 9 5 Tryz.underlying163 Tryz.ug.cellsByte g cur.size (by have om:w.drew.heap[g]? =some (.cells cur 5 (0,0)):=hg;simp [agD,om]) xs hx (by omega) (by unfold maxLen at Ug;omega) ?_;intro j x hj;rw [ca,QX.cell,Nat.zero_add,<-Array.getElem?_toList];have:(kX xs)[j]? =some (.int .u8 x.toNat):=by simp [kX,hj]
   rw [<-T3,List.getElem?_take] at this;split at this;exact this;cases this
  clear QX
  go_enter ahs,Tryz.ntmps49
  go_wp2
  go_region
  all_goals (go_wp2;go_ret;exact ⟨rfl,(lB w g xs.length).1,(lB w g xs.length).2.1,(lB w g xs.length).2.2.1,(lB w g xs.length).2.2.2.1,λi _ iH=>(lB w g xs.length).2.2.2.2 i λe=>iH (congrArg some e)⟩)
end
def ct (a0:Int)(a1:Int)(a2:Int):Option (Bool):=
 (show Option (Bool) from
  bif (decide (a0>=a1)) then
   some (decide (a0<=a2))
  else
   some false).bind λj=>
 some j
theorem iy {a0}{a1}{a2}{r}(t:ct a0 a1 a2=some r):CallOK ν 53 [.bP tI a0,.bP tI a1,.bP tI a2] [⟨false,.bool,r⟩] []:=
 dn Tryz.func53 rfl λcx I R=>θ I [] aU (ϰ t (λJ=>up [] [(6,bV J)] [] [] 0) (λJ t=>by (cases t;exact (Δ (bY aU)))) λ_ j p=>bb j (λo j=>Τ I [oH,oH,oH,kT] (bD o) λ_ h=>(aX (h.ht (p _ (aZ j))))) λo j=>Τ I [oH,oH,oH,kF] (bD o) λ_ h=>(aX (h.ht (p _ (aZ j)))))
def jg (a0:GI)(a1:Int)(a2:Int)(s1:Int):Option ((Int)⊕(Unit⊕Unit)):=
 bif (decide (s1<(aW a0))) then
  aY (0<=s1/\s1<aW a0) (
   (ct (ε a0 (δ s1) 0) a1 a2).bind λj=>
   bif (!j) then
    some (.inr (.inr ()))
   else
    some (.inl (bf .i64 s1 1)))
 else
  some (.inr (.inl ()))
def eF (a0:GI)(a1:Int)(a2:Int):Option (Bool):=
 (rounds (jg a0 a1 a2) 0).bind λj=>match j with
  | .inl o=>
   some true
  | .inr p=>
   some false
theorem xN {a0}{a1}{a2}{r}(t:eF a0 a1 a2=some r):CallOK ν 89 [.bP cg a0,.bP tI a1,.bP tI a2] [⟨false,.bool,r⟩] []:=
 dn Tryz.func89 rfl λcx o hF=>θ o [] aU (υ (θ o [] aU (ξ (Ϩ o t (λs1=>up [1,2,9,10] [(11,iV s1)] [] [] 0) (λR=>match R with| .inl r3=>(.exit 0,up [] [] [] [] 0)| .inr r4=>(.ret,up [] [(6,bV false)] [] [] 0)) (λR=>match R with| .inl r3=>λt=>(bm (aX (θ o [] aU (by (cases t;exact (Δ (bY aU)))))))| .inr r4=>λt=>by (cases t;exact (bH (bn (bY aU))))) λs1 x5 j I=>θ o [] aU (ϻ j (λT j=>υ (ξ (bg j λU j=>θ o [] (bD U) (bc j iy λPo p j=>θ o [oH,oH,oH,(cl p)] (bD p) (Ω j (λJ j=>θ o [] aU (HT.xr o (bH (bn (eZ (I _ (bd j))))))) λJ j=>Η (bj (aX (Τ o [] aU λ_ h=>(bz (lN j h)))))))))) λT j=>Ϫ o (bw (bA (I _ (bd j)))))))))
def gd (a0:GM)(j:Int):Option ((Int)⊕(Unit⊕Unit)):=
 bif (decide (j<(aW a0.2.2.1))) then
  aY (0<=j/\j<aW a0.2.2.1) (
   (show Option (Bool) from
    (ct ((ε a0.2.2.1 (δ j) (0,0,0,0)).1) 0 (bI .i64 a0.1 1)).bind λo=>
    bif (!o) then
     some true
    else
     (ct (((ε a0.2.2.1 (δ j) (0,0,0,0)).2).1) 0 (bI .i64 a0.1 1)).bind λp=>
     bif (!p) then
      some true
     else
      (ct ((((ε a0.2.2.1 (δ j) (0,0,0,0)).2).2).1) (-1) (bI .i64 a0.2.1 1)).bind λr=>
      bif (!r) then
       some true
      else
       (ct ((((ε a0.2.2.1 (δ j) (0,0,0,0)).2).2).2) 0 1000).bind λt=>
       some (!t)).bind λI=>
   bif I then
    some (.inr (.inr ()))
   else
    some (.inl (bf .i64 j 1)))
 else
  some (.inr (.inl ()))
def bZ (a0:GM):Option (Bool):=
 (show Option (Bool) from
  (ct a0.1 1 16).bind λj=>
  bif (!j) then
   some true
  else
   (ct a0.2.1 1 4).bind λo=>
   bif (!o) then
    some true
   else
    some (decide ((aW a0.2.2.1)>128))).bind λt=>
 bif t then
  some false
 else
  (rounds (gd a0) 0).bind λI=>match I with
   | .inl R=>
    (show Option (Bool) from
     bif ((aW a0.2.2.2.1)==a0.1) then
      bif ((aW a0.2.2.2.2)==a0.1) then
       (eF a0.2.2.2.1 (-1) 1000).bind λp=>
       bif p then
        (eF a0.2.2.2.2 (-1) 1000).bind λr=>
        some r
       else
        some false
      else
       some false
     else
      some false).bind λv10=>
    some v10
   | .inr J=>
    some false
theorem oI {a0}{r}(hr:bZ a0=some r):CallOK ν 38 [.bP (.st gM) a0] [⟨false,.bool,r⟩] []:=
 dn Tryz.func38 rfl λcx J hF=>θ J [] aU (υ (ϰ hr (λv2=>up [1] [(20,bV v2)] [0] [] 0) (λv2 hr=>Ω hr (λWt hr=>θ J [] aU (by (cases hr;exact (Δ (bn (bY aU)))))) λWt hr=>Η (aX (υ (θ J [] aU (ξ (Ϩ J hr (λs6=>up [1,22,23] [(24,iV s6)] [0] [] 0) (λr7=>match r7 with| .inl r8=>(.exit 0,up [1] [] [0] [] 0)| .inr Ur=>(.ret,up [] [(2,bV false)] [] [] 0)) (λr7=>match r7 with| .inl r8=>λhr=>(bm (aX (ϰ hr (λv10=>up [] [(2,bV v10)] [] [] 0) (λv10 hr=>by (cases hr;exact (Δ (bY aU)))) λ_ o Us=>bb o (λU o=>bb o (λab o=>bc o xN λQ0 ad o=>bb o (λA4 o=>bc o xN λYl SH o=>Τ J (nO 6 [kT,oH,oH,oH,oH,oH,oH,oH,kT,oH,oH,(cl ad),oH,kT,oH,oH,(cl SH)]) (iE U ab ad A4 (bD SH)) λ_ h=>(aX (h.ht (Us _ (aZ o))))) λA4 o=>Τ J (nO 6 [kT,oH,oH,oH,oH,oH,oH,oH,kT,oH,oH,(cl ad),oH,kF]) (nB U ab ad A4) λ_ h=>(aX (h.ht (Us _ (aZ o))))) λab o=>Τ J (nO 6 [kT,oH,oH,oH,oH,oH,oH,oH,kF]) (dd U ab) λ_ h=>(aX (h.ht (Us _ (aZ o))))) λU o=>Τ J (nO 6 [kF]) (bD U) λ_ h=>(aX (h.ht (Us _ (aZ o)))))))| .inr Ur=>λhr=>by (cases hr;exact (bH (bn (bY aU))))) λs6 x21 p L3=>θ J [] aU (ϻ p (λED p=>υ (ξ (bg p λPp p=>θ J [] (bD Pp) (ϰ p (λQ1=>up [1,22,23,24] [(58,bV Q1)] [0] [] 0) (λQ1 p=>Ω p (λJn p=>θ J [] aU (HT.xr J (bH (bn (eZ (L3 _ (bd p))))))) λJn p=>Η (bj (aX (Τ J [] aU λ_ h=>(bz (lN p h)))))) λ_ j ae=>bc j iy λUm I j=>bb j (λaa j=>Τ J (nO 5 [(cl I),oH,kT]) (dd I aa) λ_ h=>(aX (h.ht (ae _ (aZ j))))) λaa j=>bc j iy λYq R j=>bb j (λaf j=>Τ J (nO 5 [(cl I),oH,kF,oH,oH,oH,oH,oH,(cl R),oH,oH,kT]) (nB I aa R af) λ_ h=>(aX (h.ht (ae _ (aZ j))))) λaf j=>bc j iy λy37 ag j=>bb j (λA5 j=>Τ J (nO 5 [(cl I),oH,kF,oH,oH,oH,oH,oH,(cl R),oH,oH,kF,oH,oH,oH,oH,oH,(cl ag),oH,oH,kT]) (iE I aa R af (dd ag A5)) λ_ h=>(aX (h.ht (ae _ (aZ j))))) λA5 j=>bc j iy λYr SI j=>Τ J (nO 5 [(cl I),oH,kF,oH,oH,oH,oH,oH,(cl R),oH,oH,kF,oH,oH,oH,oH,oH,(cl ag),oH,oH,kF,oH,oH,(cl SI)]) (iE I aa R af (kQ ag A5 SI)) λ_ h=>(aX (h.ht (ae _ (aZ j)))))))) λED p=>Ϫ J (bw (bA (L3 _ (bd p))))))))))) λ_ t Pq=>bc t iy λy42 T t=>bb t (λah t=>Τ J [oH,oH,(cl T),oH,kT] (dd T ah) λ_ h=>(aX (h.ht (Pq _ (aZ t))))) λah t=>bc t iy λy45 ai t=>bb t (λPr t=>Τ J [oH,oH,(cl T),oH,kF,oH,oH,(cl ai),oH,oH,kT] (nB T ah ai Pr) λ_ h=>(aX (h.ht (Pq _ (aZ t))))) λPr t=>Τ J [oH,oH,(cl T),oH,kF,oH,oH,(cl ai),oH,oH,kF] (nB T ah ai Pr) λ_ h=>(aX (h.ht (Pq _ (aZ t))))))
def jA (o:GL)(j:Int×GL):Option ((Int×GL)⊕(GL)):=
 bif (decide (j.1<(aW o))) then
  aY (0<=j.1/\j.1<aW j.2) (
   aY (0<=j.1/\j.1<aW (aag j.2 (δ j.1) (((ε j.2 (δ j.1) (0,0,0,0)).2).1,((ε j.2 (δ j.1) (0,0,0,0)).2).1,(((ε j.2 (δ j.1) (0,0,0,0)).2).2).1,(((ε j.2 (δ j.1) (0,0,0,0)).2).2).2))) (
    some (.inl ((bf .i64 j.1 1),(aag (aag j.2 (δ j.1) (((ε j.2 (δ j.1) (0,0,0,0)).2).1,((ε j.2 (δ j.1) (0,0,0,0)).2).1,(((ε j.2 (δ j.1) (0,0,0,0)).2).2).1,(((ε j.2 (δ j.1) (0,0,0,0)).2).2).2)) (δ j.1) ((ε (aag j.2 (δ j.1) (((ε j.2 (δ j.1) (0,0,0,0)).2).1,((ε j.2 (δ j.1) (0,0,0,0)).2).1,(((ε j.2 (δ j.1) (0,0,0,0)).2).2).1,(((ε j.2 (δ j.1) (0,0,0,0)).2).2).2)) (δ j.1) (0,0,0,0)).1,(ε j.2 (δ j.1) (0,0,0,0)).1,(((ε (aag j.2 (δ j.1) (((ε j.2 (δ j.1) (0,0,0,0)).2).1,((ε j.2 (δ j.1) (0,0,0,0)).2).1,(((ε j.2 (δ j.1) (0,0,0,0)).2).2).1,(((ε j.2 (δ j.1) (0,0,0,0)).2).2).2)) (δ j.1) (0,0,0,0)).2).2).1,(((ε (aag j.2 (δ j.1) (((ε j.2 (δ j.1) (0,0,0,0)).2).1,((ε j.2 (δ j.1) (0,0,0,0)).2).1,(((ε j.2 (δ j.1) (0,0,0,0)).2).2).1,(((ε j.2 (δ j.1) (0,0,0,0)).2).2).2)) (δ j.1) (0,0,0,0)).2).2).2))))))
 else
  some (.inr j.2)
def kS (a0:GM):Option (GM×Bool):=
 (bZ (a0.1,a0.2.1,a0.2.2.1,a0.2.2.2.1,a0.2.2.2.2)).bind λp=>
 bif (!p) then
  some ((0,0,([]:GL),([]:GI),([]:GI)),false)
 else
  (slices_Clone a0.2.2.1).bind λo=>
  (rounds (jA o) (0,o)).bind λr=>
  (slices_Clone a0.2.2.2.2).bind λt=>
  (slices_Clone a0.2.2.2.1).bind λj=>
  some ((a0.1,a0.2.1,r,t,j),true)
theorem Jo {a0}{r}(o:kS a0=some r):CallOK ν 24 [.bP (.st gM) a0] [⟨true,(.st gM),r.1⟩,⟨false,.bool,r.2⟩] []:=
 dn Tryz.func24 rfl λcx t hF=>θ t [] aU (υ (bc o oI λy1 T o=>θ t [oH,(cl T)] (bD T) (Ω o (λad o=>θ t [] aU (by (cases o;exact (Δ (bn (bY aU)))))) λad o=>Η (aX (bc o EB λy4 U o=>θ t [oH,oH,(cl U)] (bD U) (υ (θ t [] aU (ξ (Ϩ t o (λs6=>up [1,2,4,14,15] [(16,iV s6.1)] [0,1] [(2,.seq (.st gQ) s6.2)] 0) (λr8=>(.exit 0,up [1,2,4] [] [0,1] [(2,.seq (.st gQ) r8)] 0)) (λr8 o=>(bm (aX (bc o lA λy9 I o=>bc o lA λKV J o=>aba t (nO 7 [(cl I),oH,oH,(cl J)]) (dd I J) (by (cases o;exact (Δ (bY aU)))))))) λs6 Wu j aa=>θ t [] aU (ϻ j (λab j=>υ (ξ (bg j λp j=>θ t [] (dd p (bG p)) (bg j λR j=>HT.dl t [] (nB p (bG p) R (bG R)) (bj (aX (Τ t [] aU λ_ h=>(bz (lN j h))))))))) λab j=>Ϫ t (bw (bA (aa _ (bd j))))))))))))))
section
open Go.RowKit Go.Sort
def xO (x y:Int):Int:=if x<y then -1 else if y<x then 1 else 0
theorem Hd (x:Int)(w:Ε):abq ν 227 #[.int .i64 x] w λe w'=>e= .returned (.bool false)/\w'=w:=by
 go_enter Tryz.func227,Tryz.ntmps227
 go_wp2
 go_ret
 exact ⟨by simp,rfl⟩
theorem sb (x y:Int)(w:Ε):abq ν 216 #[.int .i64 x,.int .i64 y] w λe w'=>e= .returned (.int .i64 (xO x y))/\w'=w:=by
 go_enter Tryz.func216,Tryz.ntmps216
 go_wp2_with (go_at_call 227;refine (Hd _ _).mono ?_;rintro e w' ⟨rfl,hw⟩;rw [hw])
 all_goals (go_ret;refine ⟨?_,rfl⟩;unfold xO;(repeat' split)<;>first|rfl|(exfalso;omega))
def NF (v:Nat->Int):Int:=if v 0≠0 then v 0 else if v 1≠0 then v 1 else if v 2≠0 then v 2 else v 3
theorem Ps {v:Nat->Int}{k:Nat}(p:k<4)(h: ∀j,j<k->v j=0)(o:v k≠0):NF v=v k:=by
 unfold NF;rcases (show k=0\/k=1\/k=2\/k=3 by omega) with rfl|rfl|rfl|rfl
 rw [if_pos o];rw [if_neg (by rw [h 0 (by omega)];decide),if_pos o];rw [if_neg (by rw [h 0 (by omega)];decide),if_neg (by rw [h 1 (by omega)];decide),if_pos o];rw [if_neg (by rw [h 0 (by omega)];decide),if_neg (by rw [h 1 (by omega)];decide),if_neg (by rw [h 2 (by omega)];decide)]
theorem Pt {v:Nat->Int}(h: ∀j,j<4->v j=0):NF v=0:=by
 unfold NF;rw [h 0 (by omega),h 1 (by omega),h 2 (by omega),h 3 (by omega)];rfl
theorem He (b:Nat)(v:Nat->Int)(w:Ε)(hv: ∀j:Nat,j<4->w.cell? ⟨b,j,none⟩=some (.int .i64 (v j))):
 abq ν 215 #[.slice (some ⟨b,0,none⟩) 4 4] w λe w'=>e= .returned (.int .i64 (NF v))/\w'=w:=by
 go_enter Tryz.func215,Tryz.ntmps215
 go_wp2
 go_loopw [8] (λi wr=> ∃k:Nat,k<=4/\i= .int .i64 k/\wr=w/\ ∀j,j<k->v j=0) (λi _=>4 - (intOf i).toNat)
 case atStart=>exact ⟨0,Nat.zero_le _,rfl,rfl,λj hj=>by omega⟩
 case round=>
  obtain ⟨k,hk,rfl,rfl,hz⟩:=hrel;by_cases hlt:k<4
  ·have hc:=hv k hlt;by_cases hn:v k=0
   ·rw [hn] at hc;clear hv
    go_wp2
    go_roundw
    case rel=>exact ⟨k+1,by omega,by go_num,by first|rfl|trivial,λj hj=>by
     by_cases e:j=k;rw [e];exact hn;exact hz j (by omega)⟩
    case measure=>simp [intOf];omega
   ·have ho:=Ps hlt hz hn;generalize v k=q at hc hn ho;clear hv hz
    go_wp2
    go_ret
    exact ⟨by rw [ho];rfl,rfl⟩
  ·have hk4:k=4:=by omega
   subst hk4;have ho:=Pt hz;clear hv hz
   go_wp2
   go_ret
   exact ⟨by rw [ho];rfl,rfl⟩
def NG (x y:Int×Int×Int×Int):Int:=NF λj=>match j with
 |0=>xO x.1 y.1
 |1=>xO x.2.2.1 y.2.2.1
 |2=>xO x.2.1 y.2.1
 |_=>xO x.2.2.2 y.2.2.2
set_option maxHeartbeats 2000000 in
set_option maxRecDepth 100000 in
theorem Hf (x y:Int×Int×Int×Int)(W:Ε):abq ν 214 #[.agg (e4 x).toArray,.agg (e4 y).toArray] W λe w'=>e= .returned (.int .i64 (NG x y))/\ ∃q os',w'=acb (W.drewN q) os':=by
 have e: ∃b1 b2 w2,b1=W.heap.size/\b2=W.heap.size+1/\w2=(W.alloc (.cells (e4 x).toArray 80)).alloc (.cells (e4 y).toArray 80):=⟨_,_,_,rfl,rfl,rfl⟩;obtain ⟨b1,b2,w2,e1,e2,e3⟩:=e;have hg:w2=acb (W.drewN 0) #[.cells (e4 x).toArray 80,.cells (e4 y).toArray 80]:=by
  rw [e3,alloc_eq_grow,alloc_eq_grow,grow_grow];rfl
 have k1:w2.heap[b1]? =some (.cells (e4 x).toArray 80):=by
  rw [e1,e3,aao _ _ _ (by simp)];exact heap_alloc_new W _
 have k2:w2.heap[b2]? =some (.cells (e4 y).toArray 80):=by
  rw [e2,e3];have:=heap_alloc_new (W.alloc (.cells (e4 x).toArray 80)) (.cells (e4 y).toArray 80);simpa using this
 have c10:w2.cell? ⟨b1,0,none⟩=some (.int .i64 x.1):=by rw [ϵ k1];rfl
 have c11:w2.cell? ⟨b1,1,none⟩=some (.int .i64 x.2.1):=by rw [ϵ k1];rfl
 have c12:w2.cell? ⟨b1,2,none⟩=some (.int .i64 x.2.2.1):=by rw [ϵ k1];rfl
 have c13:w2.cell? ⟨b1,3,none⟩=some (.int .i64 x.2.2.2):=by rw [ϵ k1];rfl
 have c20:w2.cell? ⟨b2,0,none⟩=some (.int .i64 y.1):=by rw [ϵ k2];rfl
 have c21:w2.cell? ⟨b2,1,none⟩=some (.int .i64 y.2.1):=by rw [ϵ k2];rfl
 have c22:w2.cell? ⟨b2,2,none⟩=some (.int .i64 y.2.2.1):=by rw [ϵ k2];rfl
 have c23:w2.cell? ⟨b2,3,none⟩=some (.int .i64 y.2.2.2):=by rw [ϵ k2];rfl
 have hgB:Hid (w2=acb (W.drewN 0) #[.cells (e4 x).toArray 80,.cells (e4 y).toArray 80]):=hg;clear k1 k2 hg;unfold NG;unfold e4 at e3⊢
 go_enter ahe,Tryz.ntmps214
 go_wp2
 rw [<-e3,<-e2,<-e1];have h0:=λW'=>sb x.1 y.1 W';have h1:=λW'=>sb x.2.1 y.2.1 W';have h2:=λW'=>sb x.2.2.1 y.2.2.1 W';have h3:=λW'=>sb x.2.2.2 y.2.2.2 W';clear e1 e2 e3;obtain ⟨r0,q0⟩: ∃r,Hid (xO x.1 y.1=r):=⟨_,rfl⟩;obtain ⟨r1,q1⟩: ∃r,Hid (xO x.2.1 y.2.1=r):=⟨_,rfl⟩;obtain ⟨r2,q2⟩: ∃r,Hid (xO x.2.2.1 y.2.2.1=r):=⟨_,rfl⟩;obtain ⟨r3,q3⟩: ∃r,Hid (xO x.2.2.2 y.2.2.2=r):=⟨_,rfl⟩;rw [q0.out] at h0;rw [q1.out] at h1;rw [q2.out] at h2;rw [q3.out] at h3;refine wp_region_still_tail 20 (by kernel_rfl) (by kernel_rfl) ?_;simp only [List.take_succ_cons,List.take_zero,List.drop_succ_cons,List.drop_zero]
 repeat still_step
 still_call (h0 _)
 repeat still_step
 still_call (h2 _)
 repeat still_step
 still_call (h1 _)
 repeat still_step
 still_call (h3 _)
 refine wpStill_nil ?_;change wpList _ _ _ _ _ w2.drew;obtain ⟨w3,e3⟩: ∃w3,Hid (w3=w2.drew):=⟨_,rfl⟩;rw [<-e3.out];clear c10 c11 c12 c13 c20 c21 c22 c23 h0 h1 h2 h3;have kb:=heap_alloc_new w3 (.cells #[.int .i64 r0,.int .i64 r2,.int .i64 r1,.int .i64 r3] 3);have ho:=He w3.heap.size (λj=>match j with|0=>r0|1=>r2|2=>r1|_=>r3) (w3.alloc (.cells #[.int .i64 r0,.int .i64 r2,.int .i64 r1,.int .i64 r3] 3)) (λj hj=>by
  rw [ϵ kb];rcases (show j=0\/j=1\/j=2\/j=3 by omega) with rfl|rfl|rfl|rfl<;>rfl)
 generalize hr:NF _=r at ho;have hr:Hid (_=r):=hr;clear kb
 go_wp2_with (go_at_call 215;refine ho.mono ?_;rintro e w' ⟨rfl,hw⟩;rw [hw])
 go_ret
 refine ⟨?_,1,#[.cells (e4 x).toArray 80,.cells (e4 y).toArray 80,.cells #[.int .i64 r0,.int .i64 r2,.int .i64 r1,.int .i64 r3] 3],?_⟩;rw [q0.out,q1.out,q2.out,q3.out,hr.out];rfl;rw [e3.out,hgB.out,alloc_eq_grow];show acb (acb (W.drewN 1) #[.cells (e4 x).toArray 80,.cells (e4 y).toArray 80]) _=_;rw [grow_grow];rfl
def Tryz.Wv:Go.Shelf.Ren:=⟨fun|6=>213|15=>226|14=>225|28=>238|29=>150|20=>230|21=>231|22=>232|23=>233|24=>234|25=>235|26=>236|27=>237|46=>239|47=>240|48=>241|49=>242|50=>243|57=>244|n=>n,fun|22=>24|24=>80|25=>275|3=>3|39=>210|0=>0|53=>218|55=>148|4=>4|46=>304|45=>303|50=>308|5=>5|9=>9|66=>310|70=>314|76=>316|77=>317|n=>n,fun|n=>n⟩
theorem Tryz.SJ:afZ ν Tryz.Wv:={
 mixed:=by kernel_rfl
 f6:=⟨Tryz.f213.name,by decide,Tryz.func213.trans (congrArg some (by kernel_rfl))⟩
 f14:=⟨Tryz.f225.name,by decide,Tryz.func225.trans (congrArg some (by kernel_rfl))⟩
 f15:=Tryz.func226.trans (congrArg some (by kernel_rfl))
 f20:=⟨Tryz.f230.name,by decide,Tryz.func230.trans (congrArg some (by kernel_rfl))⟩
 f21:=⟨Tryz.f231.name,by decide,Tryz.func231.trans (congrArg some (by kernel_rfl))⟩
 f22:=⟨Tryz.f232.name,by decide,Tryz.func232.trans (congrArg some (by kernel_rfl))⟩
 f23:=⟨Tryz.f233.name,by decide,Tryz.func233.trans (congrArg some (by kernel_rfl))⟩
 f24:=⟨Tryz.f234.name,by decide,Tryz.func234.trans (congrArg some (by kernel_rfl))⟩
 f25:=⟨Tryz.f235.name,by decide,Tryz.func235.trans (congrArg some (by kernel_rfl))⟩
 f26:=⟨Tryz.f236.name,by decide,Tryz.func236.trans (congrArg some (by kernel_rfl))⟩
 f27:=⟨Tryz.f237.name,by decide,Tryz.func237.trans (congrArg some (by kernel_rfl))⟩
 f28:=Tryz.func238.trans (congrArg some (by kernel_rfl))
 f29:=Tryz.func150.trans (congrArg some (by kernel_rfl))
 f46:=⟨Tryz.f239.name,by decide,Tryz.func239.trans (congrArg some (by kernel_rfl))⟩
 f47:=Tryz.func240.trans (congrArg some (by kernel_rfl))
 f48:=Tryz.func241.trans (congrArg some (by kernel_rfl))
 f49:=⟨Tryz.f242.name,by decide,Tryz.func242.trans (congrArg some (by kernel_rfl))⟩
 f50:=⟨Tryz.f243.name,by decide,Tryz.func243.trans (congrArg some (by kernel_rfl))⟩
 f57:=⟨Tryz.f244.name,by decide,Tryz.func244.trans (congrArg some (by kernel_rfl))⟩
 t0:=Tryz.underlying0
 a0:=Tryz.isAgg0
 z0:=Tryz.sizeOf0
 v0:=Tryz.zeroValue0
 t3:=Tryz.underlying3
 a3:=Tryz.isAgg3
 z3:=Tryz.sizeOf3
 v3:=Tryz.zeroValue3
 t4:=Tryz.underlying4
 a4:=Tryz.isAgg4
 z4:=Tryz.sizeOf4
 v4:=Tryz.zeroValue4
 t5:=Tryz.underlying5
 a5:=Tryz.isAgg5
 z5:=Tryz.sizeOf5
 v5:=Tryz.zeroValue5
 t9:=abn
 a9:=Tryz.isAgg9
 z9:=Tryz.sizeOf9
 v9:=Tryz.zeroValue9
 t22:=Tryz.underlying24
 a22:=Tryz.isAgg24
 z22:=Tryz.sizeOf24
 v22:=Tryz.zeroValue24
 t25:=Tryz.underlying275
 a25:=Tryz.isAgg275
 z25:=Tryz.sizeOf275
 v25:=Tryz.zeroValue275
 t39:=Tryz.underlying210
 a39:=Tryz.isAgg210
 z39:=Tryz.sizeOf210
 v39:=Tryz.zeroValue210
 t45:=Tryz.underlying303
 a45:=Tryz.isAgg303
 z45:=Tryz.sizeOf303
 v45:=Tryz.zeroValue303
 t46:=Tryz.underlying304
 a46:=Tryz.isAgg304
 z46:=Tryz.sizeOf304
 v46:=Tryz.zeroValue304
 t50:=Tryz.underlying308
 a50:=Tryz.isAgg308
 z50:=Tryz.sizeOf308
 v50:=Tryz.zeroValue308
 t53:=Tryz.underlying218
 a53:=Tryz.isAgg218
 z53:=Tryz.sizeOf218
 v53:=Tryz.zeroValue218
 t55:=Tryz.underlying148
 a55:=Tryz.isAgg148
 z55:=Tryz.sizeOf148
 v55:=Tryz.zeroValue148
 t66:=Tryz.underlying310
 a66:=Tryz.isAgg310
 z66:=Tryz.sizeOf310
 v66:=Tryz.zeroValue310
 t70:=Tryz.underlying314
 a70:=Tryz.isAgg314
 z70:=Tryz.sizeOf314
 v70:=Tryz.zeroValue314
 t76:=Tryz.underlying316
 a76:=Tryz.isAgg316
 z76:=Tryz.sizeOf316
 v76:=Tryz.zeroValue316
 t77:=Tryz.underlying317
 a77:=Tryz.isAgg317
 z77:=Tryz.sizeOf317
 v77:=Tryz.zeroValue317}
theorem A6 (x y:Int×Int×Int×Int):ltOf NG x y=decide (x.1<y.1\/x.1=y.1/\(x.2.2.1<y.2.2.1\/x.2.2.1=y.2.2.1/\(x.2.1<y.2.1\/x.2.1=y.2.1/\x.2.2.2<y.2.2.2))):=by
 obtain ⟨a,b,c,d⟩:=x;obtain ⟨j,o,p,I⟩:=y;have key:NG (a,b,c,d) (j,o,p,I)<0↔(a<j\/a=j/\(c<p\/c=p/\(b<o\/b=o/\d<I))):=by
  unfold NG NF xO;simp only;rcases ace a j with h|h|h
  simp [h];subst h;rcases ace c p with h|h|h
  simp [h];subst h;rcases ace b o with h|h|h
  simp [h];subst h;rcases ace d I with h|h|h
  simp [h];simp [h];have: ¬d<I:=by omega
  simp [h,this];have r: ¬b<o:=by omega
  have t: ¬b=o:=by omega
  simp [h,r,t];have r: ¬c<p:=by omega
  have t: ¬c=p:=by omega
  simp [h,r,t];have r: ¬a<j:=by omega
  have t: ¬a=j:=by omega
  simp [h,r,t]
 unfold ltOf;exact decide_eq_decide.2 key
theorem L4:SWO (ltOf NG) where
 irrefl x:=by rw [A6];simp
 trans x y z h1 h2:=by rw [A6,decide_eq_true_eq] at*;omega
 ntrans x y z h1 h2:=by rw [A6,decide_eq_false_iff_not] at*;omega
noncomputable def Ut (xs:List (Int×Int×Int×Int)):List (Int×Int×Int×Int):=xs.mergeSort λx y=> !(ltOf NG) y x
noncomputable def slices_SortFunc (xs:List (Int×Int×Int×Int)):Option (List (Int×Int×Int×Int)):=aY (xs.length<4611686018427387904) (some (Ut xs))
theorem L5 {xs r:List (Int×Int×Int×Int)}(h:slices_SortFunc xs=some r):CallOK ν 213 [.own (.sl (.st (.pair tI (.pair tI (.pair tI tI))))) xs,.fn 214] [] [⟨.sl (.st (.pair tI (.pair tI (.pair tI tI)))),r⟩]:=by
 obtain ⟨j,h⟩:=iK h;have h:=aZ h;subst h;refine LQ ⟨_,Tryz.func213,by kernel_rfl,by kernel_rfl⟩ (by unfold Ut;simp) j (λ_ p cap w=>AnyF.slices_SortFunc_none Tryz.SJ p cap _ w) λb cap w t I=> ?_;exact AnyQ.slices_SortFunc_total Tryz.SJ 4 Tryz.isAgg80 Tryz.sizeOf80 e4 (λ_=>rfl) (λx v o=>by simp [e4] at o;rcases o with rfl|rfl|rfl|rfl<;>rfl) NG L4 214 #[] b 0 cap xs.toArray w
  (enters_of ahe (by kernel_rfl) rfl) (λ_ _ _ _ x y=>Hf x y _) t I (by simpa using j) (λx y J R=>by
   rw [A6,decide_eq_false_iff_not] at J R;obtain ⟨a,b,c,d⟩:=x;obtain ⟨T,U,c',d'⟩:=y;simp only [Prod.mk.injEq] at*;omega)
end
def ni (a0:GQ)(a1:GQ):Option (Bool):=
 (show Option (Bool) from
  bif (a0.1==a1.1) then
   bif (a0.2.2.1==a1.2.2.1) then
    some (a0.2.1==a1.2.1)
   else
    some false
  else
   some false).bind λj=>
 some j
theorem F3 {a0}{a1}{r}(J:ni a0 a1=some r):CallOK ν 218 [.bP (.st gQ) a0,.bP (.st gQ) a1] [⟨false,.bool,r⟩] []:=
 dn Tryz.func218 rfl λcx I T=>θ I [] aU (ϰ J (λR=>up [] [(4,bV R)] [] [] 0) (λR J=>by (cases J;exact (Δ (bY aU)))) λ_ j p=>bb j (λo j=>bb j (λt j=>Τ I (nO 5 [kT,oH,oH,oH,oH,oH,oH,kT]) (dd o t) λ_ h=>(aX (h.ht (p _ (aZ j))))) λt j=>Τ I (nO 5 [kT,oH,oH,oH,oH,oH,oH,kF]) (dd o t) λ_ h=>(aX (h.ht (p _ (aZ j))))) λo j=>Τ I (nO 5 [kF]) (bD o) λ_ h=>(aX (h.ht (p _ (aZ j)))))
def cH (a0:GL)(o:Int)(j:GG):Option (GG⊕((Int×GL))):=
 bif (decide (j.2.1<(((δ (aW a0) - δ o):Nat):Int))) then
  (show Option (Int×GL) from
   aY (0<=j.2.1/\j.2.1<(((δ (aW a0) - δ o):Nat):Int)) (
    aY ((δ o)+δ j.2.1<ζ j.2.2) (
     aY (0<=(bI .i64 j.2.1 1)/\(bI .i64 j.2.1 1)<(((δ (aW a0) - δ o):Nat):Int)) (
      aY ((δ o)+δ (bI .i64 j.2.1 1)<ζ j.2.2) (
       (ni ((ε j.2.2 ((δ o)+δ j.2.1) (0,0,0,0)).1,((ε j.2.2 ((δ o)+δ j.2.1) (0,0,0,0)).2).1,(((ε j.2.2 ((δ o)+δ j.2.1) (0,0,0,0)).2).2).1,(((ε j.2.2 ((δ o)+δ j.2.1) (0,0,0,0)).2).2).2) ((ε j.2.2 ((δ o)+δ (bI .i64 j.2.1 1)) (0,0,0,0)).1,((ε j.2.2 ((δ o)+δ (bI .i64 j.2.1 1)) (0,0,0,0)).2).1,(((ε j.2.2 ((δ o)+δ (bI .i64 j.2.1 1)) (0,0,0,0)).2).2).1,(((ε j.2.2 ((δ o)+δ (bI .i64 j.2.1 1)) (0,0,0,0)).2).2).2)).bind λr=>
       bif (!r) then
        aY (0<=j.1/\j.1<aW j.2.2) (
         some ((bf .i64 j.1 1),(aag j.2.2 (δ j.1) ((ε j.2.2 ((δ o)+δ j.2.1) (0,0,0,0)).1,((ε j.2.2 ((δ o)+δ j.2.1) (0,0,0,0)).2).1,(((ε j.2.2 ((δ o)+δ j.2.1) (0,0,0,0)).2).2).1,(((ε j.2.2 ((δ o)+δ j.2.1) (0,0,0,0)).2).2).2))))
       else
        some (j.1,j.2.2)))))).bind λp=>
  some (.inl (p.1,(bf .i64 j.2.1 1),p.2))
 else
  some (.inr (j.1,j.2.2))
def cI (a0:GL)(o:Int):Option ((Int)⊕(Unit⊕GL)):=
 bif (decide (o<(aW a0))) then
  aY (0<=o/\o<aW a0) (
   aY (0<=(bI .i64 o 1)/\(bI .i64 o 1)<aW a0) (
    (ni ((ε a0 (δ o) (0,0,0,0)).1,((ε a0 (δ o) (0,0,0,0)).2).1,(((ε a0 (δ o) (0,0,0,0)).2).2).1,(((ε a0 (δ o) (0,0,0,0)).2).2).2) ((ε a0 (δ (bI .i64 o 1)) (0,0,0,0)).1,((ε a0 (δ (bI .i64 o 1)) (0,0,0,0)).2).1,(((ε a0 (δ (bI .i64 o 1)) (0,0,0,0)).2).2).1,(((ε a0 (δ (bI .i64 o 1)) (0,0,0,0)).2).2).2)).bind λr=>
    bif r then
     aY (0<=o/\o<=aW a0) (
      (rounds (cH a0 o) (o,1,a0)).bind λj=>
      aY (0<=j.1/\j.1<=aW j.2) (
       (some (Ϝ (δ j.1) j.2++π (δ (aW j.2) - δ j.1) (0,0,0,0)++aaW ((δ j.1)+(δ (aW j.2) - δ j.1)) j.2)).bind λp=>
       aY (0<=j.1/\j.1<=aW p) (
        some (.inr (.inr (Ϝ (δ j.1) p))))))
    else
     some (.inl (bf .i64 o 1))))
 else
  some (.inr (.inl ()))
def bM (a0:GL):Option (GL):=
 bif (decide ((aW a0)<2)) then
  some a0
 else
  (rounds (cI a0) 1).bind λj=>match j with
   | .inl p=>
    some a0
   | .inr o=>
    some o
set_option maxRecDepth 100000 in
theorem ob {a0}{r}(J:bM a0=some r):CallOK ν 217 [.mv gA a0,.fn 218] [⟨true,gA,r⟩] []:=
 Sx Tryz.func217 rfl λcx t=>θ t [] aU (υ (θ t [] aU (Ω J (λax J=>θ t [] aU (by (cases J;exact (Δ (bn (bY aU)))))) λax J=>Η (aX (υ (θ t [] aU (ξ (Ϩ t J (λs2=>up [0,1] [(5,iV s2)] [0] [] 0) (λr3=>match r3 with| .inl r4=>(.exit 0,up [0] [] [0] [] 0)| .inr r5=>(.ret,up [] [(4,aV 0)] [] [(0,.seq (.st gQ) r5)] 0)) (λr3=>match r3 with| .inl r4=>λJ=>(bm (aX (θ t [] aU (by (cases J;exact (Δ (bY aU)))))))| .inr r5=>λJ=>by (cases J;exact (bH (bn (bY aU))))) λs2 x6 p ak=>υ (θ t [] aU (Ω p (λPu p=>Η (aX (υ (ξ (bg p λU p=>bg p λaa p=>bc p F3 λyJ ab p=>aba t (nO 10 [(cl ab)]) (iE U (bG U) aa (bG aa) (bD ab)) (Ω p (λal p=>bg p λan p=>θ t [] (bD (Sz an)) (υ (θ t [] aU (ξ (Ϩ t p (λR=>up [0,1,6] [(5,iV R.1),(7,iV R.2.1)] [] [(0,.seq (.st gQ) R.2.2)] 0) (λj=>(.exit 2,up [0] [(5,iV j.1)] [] [(0,.seq (.st gQ) j.2)] 0)) (λj p=>(bm (aX (bg p λao p=>HT.ex ⟨[(0,aV 0),(5,iV j.1)],[(0,.seq (.st gQ) j.2)],1⟩ t (by (refine υ (HT.rg (RG.cut 3 [oH,oH,oH] ⟨[(61,.one (.ref 0 (δ j.1) (δ (aW j.2) - δ j.1))),(60,iV j.1),(59,aV 0),(0,aV 0),(5,iV j.1)],[(0,.seq (.st gQ) j.2)],1⟩ t.P t.N (by kernel_rfl) (gy (Sz ao) aU) (RG.clear (T:=24) (el:=80) (z0:=(0,0,0,0)) t rfl ⟨rfl,rfl,rfl⟩ rfl rfl (by kernel_rfl) (by kernel_rfl) rfl rfl rfl (RG.jV [0,5] [] ⟨[(0,aV 0),(5,iV j.1)],[(0,.seq (.st gQ) (Ϝ (δ j.1) j.2++π (δ (aW j.2) - δ j.1) (0,0,0,0)++aaW ((δ j.1)+(δ (aW j.2) - δ j.1)) j.2)),(0,.seq (.st gQ) j.2)],1⟩ t.P t.N (by kernel_rfl) aU ?_))));exact (bq p λp=>bg p λad p=>θ t [] (bD (Sy ad)) ((Le.cv (s:=⟨[(0,0)],[],[0],false⟩) (own:=[]) (ps:=[0=0,ζ (Ϝ (δ j.1) (Ϝ (δ j.1) j.2++π (δ (aW j.2) - δ j.1) (0,0,0,0)++aaW ((δ j.1)+(δ (aW j.2) - δ j.1)) j.2))=δ j.1,(Ϝ (δ j.1) (Ϝ (δ j.1) j.2++π (δ (aW j.2) - δ j.1) (0,0,0,0)++aaW ((δ j.1)+(δ (aW j.2) - δ j.1)) j.2))=Ϝ (ζ (Ϝ (δ j.1) (Ϝ (δ j.1) j.2++π (δ (aW j.2) - δ j.1) (0,0,0,0)++aaW ((δ j.1)+(δ (aW j.2) - δ j.1)) j.2))) (Ϝ (δ j.1) j.2++π (δ (aW j.2) - δ j.1) (0,0,0,0)++aaW ((δ j.1)+(δ (aW j.2) - δ j.1)) j.2)]) (st':=⟨[(4,aV 0)],[(0,.seq (.st gQ) (Ϝ (δ j.1) (Ϝ (δ j.1) j.2++π (δ (aW j.2) - δ j.1) (0,0,0,0)++aaW ((δ j.1)+(δ (aW j.2) - δ j.1)) j.2)))],1⟩) t.own (λh=>by cases h) (by kernel_rfl) ⟨rfl,(Eo ad),(Ep _ _),trivial⟩).ht (Δ (bH (bn (eZ (ak _ (bd p)))))))))))))) λR x23 I aq=>υ (θ t [] aU (Ω I (λar I=>Η (aX (ϰ I (λaj=>up [0,1,6,7] [(5,iV aj.1)] [] [(0,.seq (.st gQ) aj.2)] 0) (λaj I=>Τ t [] aU λ_ h=>(bz (lN I h))) λ_ o ae=>ξ (bg o λaf o=>bg o λag o=>bg o λau o=>bg o λav o=>bc o F3 λWw ah o=>aba t (nO 10 [(cl ah)]) (iE af ag au av (bD ah)) (Ω o (λaw o=>bg o λai o=>θ t [] (nB af ag ai (bG ai)) (Τ t [] aU λ_ h=>(bj (aX (h.ht (ae _ (aZ o))))))) λaw o=>Η (bj (aX (HT.re t (ae _ (aZ o)))))))))) λar I=>Ϫ t (bw (bA (aq _ (bd I))))))))))) λal p=>Η (bj (aX (Τ t [] aU λ_ h=>(bz (lN p h))))))))))) λPu p=>Ϫ t (bw (bA (ak _ (bd p))))))))))))))
def sd (a0:GL):Option (GL):=
 (slices_Clone a0).bind λj=>
 (slices_SortFunc j).bind λo=>
 (bM o).bind λp=>
 some p
theorem L6 {a0}{r}(j:sd a0=some r):CallOK ν 186 [.bP gA a0] [⟨true,gA,r⟩] []:=
 dn Tryz.func186 rfl λcx I J=>θ I [] aU (bc j EB λR o j=>θ I [oH,(cl o)] (bD o) (bc j L5 λT p j=>θ I [oH,(cl p)] (bD p) (bc j ob λU t j=>θ I [oH,(cl t)] (bD t) (by (cases j;exact (Δ (bY aU)))))))
def kU (a0:GM):Option (GM×Bool):=
 (bZ (a0.1,a0.2.1,a0.2.2.1,a0.2.2.2.1,a0.2.2.2.2)).bind λj=>
 bif (!j) then
  some ((0,0,([]:GL),([]:GI),([]:GI)),false)
 else
  (sd a0.2.2.1).bind λo=>
  (slices_Clone a0.2.2.2.1).bind λp=>
  (slices_Clone a0.2.2.2.2).bind λr=>
  some ((a0.1,a0.2.1,o,p,r),true)
theorem A7 {a0}{r}(j:kU a0=some r):CallOK ν 156 [.bP (.st gM) a0] [⟨true,(.st gM),r.1⟩,⟨false,.bool,r.2⟩] []:=
 dn Tryz.func156 rfl λcx J T=>θ J [] aU (υ (bc j oI λU o j=>θ J [oH,(cl o)] (bD o) (Ω j (λR j=>θ J [] aU (by (cases j;exact (Δ (bn (bY aU)))))) λR j=>Η (aX (bc j L6 λy4 p j=>bc j lA λy6 t j=>bc j lA λy8 I j=>aba J (nO 6 [(cl p),oH,oH,(cl t),oH,oH,(cl I)]) (kQ p t I) (by (cases j;exact (Δ (bY aU)))))))))
def kp (a0:GM)(a2:Bool)(j:Int×GZ):Option ((Int×GZ)⊕GZ):=
 bif (decide (j.1<(aW a0.2.2.1))) then
  (show Option GZ from
   aY (0<=j.1/\j.1<aW a0.2.2.1) (
    (some ((((ε a0.2.2.1 (δ j.1) (0,0,0,0)).2).2).1)).bind λp=>
    (some ((((ε a0.2.2.1 (δ j.1) (0,0,0,0)).2).2).2)).bind λr=>
    (show Option (Int×Int) from
     bif a2 then
      some (((ε a0.2.2.1 (δ j.1) (0,0,0,0)).2).1,(ε a0.2.2.1 (δ j.1) (0,0,0,0)).1)
     else
      some ((ε a0.2.2.1 (δ j.1) (0,0,0,0)).1,((ε a0.2.2.1 (δ j.1) (0,0,0,0)).2).1)).bind λo=>
    aY (0<=o.2/\o.2<aW j.2) (
     bif (ε j.2 (δ o.2) false) then
      some (aag j.2 (δ o.2) true)
     else
      aY (0<=o.1/\o.1<aW j.2) (
       some (aag j.2 (δ o.2) (ε j.2 (δ o.1) false)))))).bind λv20=>
  some (.inl ((bf .i64 j.1 1),v20))
 else
  some (.inr j.2)
def nE (a0:GM)(a2:Bool)(p:GZ)(j:Int×GZ):Option ((Int×GZ)⊕GZ):=
 bif (decide (j.1<(aW p))) then
  (rounds (kp a0 a2) (0,j.2)).bind λo=>
  some (.inl ((bf .i64 j.1 1),o))
 else
  some (.inr j.2)
def nF (a1:GI)(j:Int×GZ):Option ((Int×GZ)⊕GZ):=
 bif (decide (j.1<(aW a1))) then
  aY (0<=j.1/\j.1<aW a1) (
   aY (0<=j.1/\j.1<aW j.2) (
    some (.inl ((bf .i64 j.1 1),(aag j.2 (δ j.1) (decide ((ε a1 (δ j.1) 0)>=0)))))))
 else
  some (.inr j.2)
def lC (a0:GM)(a1:GI)(a2:Bool):Option GZ:=
 aY (0<=a0.1/\a0.1<=4294967296) (
  (rounds (nF a1) (0,(π (δ a0.1) false))).bind λj=>
  (rounds (nE a0 a2 j) (0,j)).bind λo=>
  some o)
theorem F4 {a0}{a1}{a2}{r}(hr:lC a0 a1 a2=some r):CallOK ν 187 [.bP (.st gM) a0,.bP cg a1,.bP .bool a2] [⟨true,(.sl .bool),r⟩] []:=
 dn Tryz.func187 rfl λcx p hF=>θ p [] aU (bg hr λD0 hr=>θ p [oH,oH,(hT .bool)] (bD (LM D0)) (υ (θ p [] aU (ξ (Ϩ p hr (λs2=>up [2,3,7,15,16] [(17,iV s2.1)] [0] [(1,.seq .bool s2.2)] 0) (λr4=>(.exit 0,up [2,3,7] [] [0] [(1,.seq .bool r4)] 0)) (λr4 hr=>(bm (aX (υ (θ p [] aU (ξ (Ϩ p hr (λs5=>up [2,3,7,29] [(30,iV s5.1)] [0] [(1,.seq .bool s5.2)] 0) (λr7=>(.exit 2,up [7] [] [] [(1,.seq .bool r7)] 0)) (λr7 hr=>(bm (aX (θ p [] aU (by (cases hr;exact (Δ (bY aU)))))))) λs5 x8 R A8=>θ p [] aU (ϻ R (λEE R=>υ (ξ (θ p [] aU (ξ (Ϩ p R (λT=>up [2,3,7,29,30,33,34] [(35,iV T.1)] [0] [(1,.seq .bool T.2)] 0) (λNH=>(.exit 4,up [2,3,7,29,30] [] [0] [(1,.seq .bool NH)] 0)) (λNH R=>(bm (bj (aX (Τ p [] aU λ_ h=>(bz (lN R h))))))) λT x15 I Jp=>θ p [] aU (ϻ I (λJq I=>ϰ I (λv20=>up [2,3,7,29,30,33,34,35] [] [0] [(1,.seq .bool v20)] 0) (λv20 I=>Τ p [] aU λ_ h=>(bz (lN I h))) λ_ j aa=>ξ (bg j λWx j=>θ p [] (bD Wx) (bq j λj=>bq j λj=>ϰ j (λNI=>up [2,3,7,11,29,30,33,34,35] [] [0,1] [(2,.box [iC NI.1,iC NI.2,iC ((((ε a0.2.2.1 (δ T.1) (0,0,0,0)).2).2).1),iC ((((ε a0.2.2.1 (δ T.1) (0,0,0,0)).2).2).2)])] 0) (λNI j=>bg j λt j=>bb j (λU j=>HT.dk p (nO 8 [kT]) (iE t (bG t) U t (bD (bG t))) λ_ h=>(bj (aX (h.ht (aa _ (aZ j)))))) λU j=>bg j λab j=>HT.dk p (nO 8 [kF]) (iE t (bG t) U ab (kQ (bG ab) t (bG t))) λ_ h=>(bj (aX (h.ht (aa _ (aZ j)))))) λ_ J ad=>θ p [] aU (Ω J (λPv J=>Τ p [] aU λ_ h=>(aX (h.ht (ad _ (aZ J))))) λPv J=>Η (aX (HT.re p (ad _ (aZ J)))))))) λJq I=>Ϫ p (bw (bA (Jp _ (bd I)))))))))) λEE R=>Ϫ p (bw (bA (A8 _ (bd R)))))))))))) λs2 Wy o Jr=>θ p [] aU (ϻ o (λA5 o=>υ (ξ (bg o λHg o=>θ p [] (bD Hg) (bg o λae o=>HT.l p [] (dd ae (bG ae)) (bj (aX (Τ p [] aU λ_ h=>(bz (lN o h))))))))) λA5 o=>Ϫ p (bw (bA (Jr _ (bd o))))))))))
def nG (a0:Int)(a1:Int):Option (Int×Int):=
 (some (Φ .u64 (Ϟ (Ϗ .u64) a0&&& Ϟ (Ϗ .u64) 4294967295).toNat)).bind λq1=>
 (some (Φ .u64 (Ϟ (Ϗ .u64) a1&&& Ϟ (Ϗ .u64) 4294967295).toNat)).bind λo=>
 (some (bf .u64 (iX .u64 (acK a0 (2^(min (δ 32) (Ϗ .u64)))) o) (acK (iX .u64 q1 o) (2^(min (δ 32) (Ϗ .u64)))))).bind λp=>
 (some (Φ .u64 (Ϟ (Ϗ .u64) p&&& Ϟ (Ϗ .u64) 4294967295).toNat)).bind λr=>
 (some (bf .u64 r (iX .u64 q1 (acK a1 (2^(min (δ 32) (Ϗ .u64))))))).bind λt=>
 (some (bf .u64 (bf .u64 (iX .u64 (acK a0 (2^(min (δ 32) (Ϗ .u64)))) (acK a1 (2^(min (δ 32) (Ϗ .u64))))) (acK p (2^(min (δ 32) (Ϗ .u64))))) (acK t (2^(min (δ 32) (Ϗ .u64)))))).bind λj=>
 some (j,(iX .u64 a0 a1))
theorem L7 {a0}{a1}{r}(j:nG a0 a1=some r):CallOK ν 205 [.bP (.int .u64) a0,.bP (.int .u64) a1] [⟨false,(.int .u64),r.1⟩,⟨false,(.int .u64),r.2⟩] []:=
 dn Tryz.func205 rfl λcx o p=>θ o [] aU (θ o [] aU (bq j λj=>θ o [] (bD (show (0:Int)<=32 from by decide)) (θ o [] aU (bq j λj=>θ o [] (bD (show (0:Int)<=32 from by decide)) (θ o [] aU (θ o [] (bD (show (0:Int)<=32 from by decide)) (bq j λj=>θ o [] aU (bq j λj=>θ o [] (bD (show (0:Int)<=32 from by decide)) (θ o [] aU (bq j λj=>θ o [] (bD (show (0:Int)<=32 from by decide)) (bq j λj=>θ o [] aU (by (cases j;exact (Δ (bY aU)))))))))))))))
def j9 (a0:Int)(a1:Int):Option (Int×Int):=
 (nG a0 a1).bind λj=>
 some (j.1,j.2)
theorem L8 {a0}{a1}{r}(o:j9 a0 a1=some r):CallOK ν 173 [.bP (.int .u64) a0,.bP (.int .u64) a1] [⟨false,(.int .u64),r.1⟩,⟨false,(.int .u64),r.2⟩] []:=
 dn Tryz.func173 rfl λcx p t=>θ p [] aU (υ (HT.c0 (rfl:false=false) (Η (aX (bc o L7 λI j o=>θ p [oH,oH,(cl j)] (bD j) (θ p [] aU (by (cases o;exact (Δ (bY aU))))))))))
end
end Go.Proofs
