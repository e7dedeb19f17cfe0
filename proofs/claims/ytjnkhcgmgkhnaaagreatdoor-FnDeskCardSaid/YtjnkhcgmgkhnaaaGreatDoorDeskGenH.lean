import Derived.Test.YtjnkhcgmgkhnaaaGreatDoorDeskGenG
import Derived.Test.YtjnkhcgmgkhnaaaGreatDoorProg
set_option linter.all false
open Go renaming World→Ε,Calls→abq
open Go.ByteArray renaming toList_eq→ad0
open Go.Ide.CallOK renaming pX→ϯ
open Go.Ide.HT renaming g→θ,block→ξ,seq→υ,ret→Δ,skip→Η,k→Τ,cb→Ω,lp→Ϩ,xe→Ϫ,jn→ϰ,cj→ϻ,re→aa5,dg→aba,dk→adS
open Go.Lib renaming itoa→Ϯ,parseIntB→aaq,bytesWorld→ado
open Go.Proofs.Tryz renaming prog→ν,strconv_ParseInt_10_at64_ok→abB,func119→ab5,ntmps119→acf,ntmps91→aeE,func91→aeW
open Int renaming toNat→δ
open List renaming getD→ε,length→ζ,replicate→π,set→aag
open Nat renaming le_refl→φ,zero_lt_one→Ν
namespace Go.Proofs
open Go.Ide
noncomputable section
def kG (a0:GG)(r:Int×Bool×GI)(o:Int×Bool×GI)(p:Int×Bool×GI)(j:Int×GI):Option ((Int×GI)⊕GI):=
 (show Option (Bool) from
  bif (decide (j.1<(bf .i64 o.1 r.1))) then
   some (decide ((((ε a0.2.2 (δ p.1) (0,0,0,0)).2).2).1>=0))
  else
   some false).bind λt=>
 bif t then
  aY (0+104*δ o.1+8*δ (bf .i64 o.1 r.1)+1*δ ((ε a0.2.2 (δ p.1) (0,0,0,0)).1)<ζ j.2) (
   aY (0<=j.1/\j.1<((13:Nat):Int)) (
    aY (0<=((ε a0.2.2 (δ p.1) (0,0,0,0)).2).1/\((ε a0.2.2 (δ p.1) (0,0,0,0)).2).1<((8:Nat):Int)) (
     aY (0+104*δ o.1+8*δ j.1+1*δ (((ε a0.2.2 (δ p.1) (0,0,0,0)).2).1)<ζ j.2) (
      aY (0<=j.1/\j.1<((12:Nat):Int)) (
       aY (0<=(((ε a0.2.2 (δ p.1) (0,0,0,0)).2).2).1/\(((ε a0.2.2 (δ p.1) (0,0,0,0)).2).2).1<((8:Nat):Int)) (
        aY (0+104*δ j.1+8*δ (bf .i64 o.1 r.1)+1*δ ((((ε a0.2.2 (δ p.1) (0,0,0,0)).2).2).1)<ζ j.2) (
         some (.inl ((bf .i64 j.1 1),(aag j.2 (0+104*δ o.1+8*δ (bf .i64 o.1 r.1)+1*δ ((ε a0.2.2 (δ p.1) (0,0,0,0)).1)) (if (bf .i64 (ε j.2 (0+104*δ o.1+8*δ (bf .i64 o.1 r.1)+1*δ ((ε a0.2.2 (δ p.1) (0,0,0,0)).1)) 0) (iX .i64 (ε j.2 (0+104*δ o.1+8*δ j.1+1*δ (((ε a0.2.2 (δ p.1) (0,0,0,0)).2).1)) 0) (ε j.2 (0+104*δ j.1+8*δ (bf .i64 o.1 r.1)+1*δ ((((ε a0.2.2 (δ p.1) (0,0,0,0)).2).2).1)) 0)))<1000000001 then (bf .i64 (ε j.2 (0+104*δ o.1+8*δ (bf .i64 o.1 r.1)+1*δ ((ε a0.2.2 (δ p.1) (0,0,0,0)).1)) 0) (iX .i64 (ε j.2 (0+104*δ o.1+8*δ j.1+1*δ (((ε a0.2.2 (δ p.1) (0,0,0,0)).2).1)) 0) (ε j.2 (0+104*δ j.1+8*δ (bf .i64 o.1 r.1)+1*δ ((((ε a0.2.2 (δ p.1) (0,0,0,0)).2).2).1)) 0))) else 1000000001)))))))))))
 else
  some (.inr j.2)
def kH (a0:GG)(a1:GI)(p:Int×Bool×GI)(j:Int×Bool×GI)(o:Int×Bool×GI):Option ((Int×Bool×GI)⊕((Bool×GI))):=
 bif (decide (o.1<(aW a0.2.2))) then
  (show Option (Bool×GI) from
   aY (0<=o.1/\o.1<aW a0.2.2) (
    aY (0<=j.1/\j.1<((12:Nat):Int)) (
     aY (0<=(bf .i64 j.1 p.1)/\(bf .i64 j.1 p.1)<((13:Nat):Int)) (
      aY (0<=(ε a0.2.2 (δ o.1) (0,0,0,0)).1/\(ε a0.2.2 (δ o.1) (0,0,0,0)).1<((8:Nat):Int)) (
       (show Option GI from
        (show Option (Bool) from
         bif (decide ((((ε a0.2.2 (δ o.1) (0,0,0,0)).2).2).1<0)) then
          bif ((bf .i64 j.1 p.1)==(bf .i64 j.1 1)) then
           aY (0<=j.1/\j.1<aW a1) (
            some ((ε a1 (δ j.1) 0)==((ε a0.2.2 (δ o.1) (0,0,0,0)).2).1))
          else
           some false
         else
          some false).bind λI=>
        bif I then
         aY (0+104*δ j.1+8*δ (bf .i64 j.1 p.1)+1*δ ((ε a0.2.2 (δ o.1) (0,0,0,0)).1)<ζ o.2.2) (
          some (aag o.2.2 (0+104*δ j.1+8*δ (bf .i64 j.1 p.1)+1*δ ((ε a0.2.2 (δ o.1) (0,0,0,0)).1)) (bf .i64 (ε o.2.2 (0+104*δ j.1+8*δ (bf .i64 j.1 p.1)+1*δ ((ε a0.2.2 (δ o.1) (0,0,0,0)).1)) 0) 1)))
        else
         some o.2.2).bind λJ=>
       (rounds (kG a0 p j o) ((bf .i64 j.1 1),J)).bind λr=>
       bif o.2.1 then
        aY (0+104*δ j.1+8*δ (bf .i64 j.1 p.1)+1*δ ((ε a0.2.2 (δ o.1) (0,0,0,0)).1)<ζ r) (
         some ((decide ((ε r (0+104*δ j.1+8*δ (bf .i64 j.1 p.1)+1*δ ((ε a0.2.2 (δ o.1) (0,0,0,0)).1)) 0)<=1000000000)),r))
       else
        some (false,r)))))).bind λt=>
  some (.inl ((bf .i64 o.1 1),t.1,t.2))
 else
  some (.inr (o.2.1,o.2.2))
def kI (a0:GG)(a1:GI)(r:Int×Bool×GI)(j:Int×Bool×GI):Option ((Int×Bool×GI)⊕((Bool×GI))):=
 bif (decide (j.1<(bf .i64 (bI .i64 (aW a1) r.1) 1))) then
  (show Option (Bool×GI) from
   (rounds (kH a0 a1 r j) (0,j.2.1,j.2.2)).bind λo=>
   some (o.1,o.2)).bind λp=>
  some (.inl ((bf .i64 j.1 1),p.1,p.2))
 else
  some (.inr (j.2.1,j.2.2))
def kJ (a0:GG)(a1:GI)(j:Int×Bool×GI):Option ((Int×Bool×GI)⊕((Bool×GI))):=
 bif (decide (j.1<=(aW a1))) then
  (rounds (kI a0 a1 j) (0,j.2.1,j.2.2)).bind λo=>
  some (.inl ((bf .i64 j.1 1),o.1,o.2))
 else
  some (.inr (j.2.1,j.2.2))
def fT (a0:GG)(a1:GI):Option (Int×Bool):=
 (gU (a0.1,a0.2.1,a0.2.2) a1).bind λr=>
 bif (!r) then
  some (0,false)
 else
  (show Option (Bool×GI) from
   (rounds (kJ a0 a1) (1,true,(π 1248 0))).bind λj=>
   some (j.1,j.2)).bind λo=>
  bif (!o.1) then
   some (0,false)
  else
   aY ((0:Int)<=0/\0<((12:Nat):Int)) (
    aY (0<=(aW a1)/\(aW a1)<((13:Nat):Int)) (
     aY ((0:Int)<=0/\0<((8:Nat):Int)) (
      aY (0+104*δ 0+8*δ (aW a1)+1*δ 0<ζ o.2) (
       (some (ε o.2 (0+104*δ 0+8*δ (aW a1)+1*δ 0) 0)).bind λp=>
       some (p,true)))))
theorem P6 {a0}{a1}{r}(hr:fT a0 a1=some r):CallOK ν 21 [.bP (.st gR) a0,.bP cg a1] [⟨false,tI,r.1⟩,⟨false,.bool,r.2⟩] []:=
 Ul true Tryz.func21 rfl λcx p hF tQ=>θ p [] aU (υ (bc hr JH λy1 tq hr=>θ p [oH,oH,(cl tq)] (bD tq) (Ω hr (λAz hr=>θ p [] aU (by (cases hr;exact (Δ (bn (bY aU)))))) λAz hr=>Η (aX (HT.ex ⟨[(2,pV 0 0),(3,pV 1 0),(11,bV (!y1))],[(1,.box [nC a1]),(0,.box [iC a0.1,iC a0.2.1,.bp gA a0.2.2])],2⟩ p (by (refine υ (HT.rg (RG.Sg false tI 1248 0 p rfl rfl rfl rfl rfl rfl (by kernel_rfl) (len:=12) (E:=114) (by kernel_rfl) (sz:=104) (by kernel_rfl) (by kernel_rfl) rfl rfl (by kernel_rfl) (RG.jV [2,3,6] [oH,oH] ⟨[(2,pV 0 0),(3,pV 1 0),(6,pV 3 0)],[(3,.box [.cZ 2 0 1 0]),(3,.box [.dE]),(2,.seq tI (π 1248 0)),(1,.box [nC a1]),(0,.box [iC a0.1,iC a0.2.1,.bp gA a0.2.2])],4⟩ p.P p.N (by kernel_rfl) aU ?_)));exact (θ p [] aU (υ (bo hr λw7 Xd hr=>HT.ex ⟨[(2,pV 0 0),(3,pV 1 0),(6,pV 3 0),(7,pV 4 0)],[(4,.box [bC true]),(3,.box [.cZ 2 0 1 0]),(2,.seq tI (π 1248 0)),(1,.box [nC a1]),(0,.box [iC a0.1,iC a0.2.1,.bp gA a0.2.2])],5⟩ p (by (refine HT.rg (RG.cut 2 [oH,oH] ⟨[(15,iV (aW a1)),(14,nV a1),(2,pV 0 0),(3,pV 1 0),(6,pV 3 0),(7,pV 4 0)],[(4,.box [bC true]),(3,.box [.cZ 2 0 1 0]),(2,.seq tI (π 1248 0)),(1,.box [nC a1]),(0,.box [iC a0.1,iC a0.2.1,.bp gA a0.2.2])],5⟩ p.P p.N (by kernel_rfl) aU (RG.AV [0,3,1,4] p rfl rfl rfl (by kernel_rfl) rfl (RG.cut 0 [] ⟨[(16,.one (.cls 58 [0,3,1,4])),(15,iV (aW a1)),(14,nV a1),(2,pV 0 0),(3,pV 1 0),(6,pV 3 0),(7,pV 4 0)],[(4,.box [bC true]),(3,.box [.cZ 2 0 1 0]),(2,.seq tI (π 1248 0)),(1,.box [nC a1]),(0,.box [iC a0.1,iC a0.2.1,.bp gA a0.2.2])],5⟩ p.P p.N (by kernel_rfl) aU (((Le.gc (ks:=[3,6,7,15,16]) (ms:=[4,3,2,1,0]) (st':=⟨[(3,pV 1 0),(6,pV 3 0),(7,pV 4 0),(15,iV (aW a1)),(16,.one (.cls 58 [0,3,1,4]))],[(4,.box [bC true]),(3,.box [.cZ 2 0 1 0]),(2,.seq tI (π 1248 0)),(1,.box [nC a1]),(0,.box [iC a0.1,iC a0.2.1,.bp gA a0.2.2])],5⟩) (cs:=[]) p (rfl:some (⟨[(16,.one (.cls 58 [0,3,1,4])),(15,iV (aW a1)),(14,nV a1),(2,pV 0 0),(3,pV 1 0),(6,pV 3 0),(7,pV 4 0)],[(4,.box [bC true]),(3,.box [.cZ 2 0 1 0]),(2,.seq tI (π 1248 0)),(1,.box [nC a1]),(0,.box [iC a0.1,iC a0.2.1,.bp gA a0.2.2])],5⟩,([]:List Prop))=_) (by kernel_rfl)).2).rg (RG.inl (ks:=[]) (ts:=[3,6,7]) (λT (v5:Bool×GI)=>⟨[],[(5,.gh [.ptr 1 0,.ptr 3 0,.ptr 4 0] T),(1,.box [nC a1]),(3,.box [.cZ 2 0 1 0]),(4,.box [bC v5.1]),(2,.seq tI v5.2)],6⟩) (λ(v5:Bool×GI)=>[.ptr 1 0,.ptr 3 0,.ptr 4 0]) (λ(v5:Bool×GI)=>⟨[(3,pV 1 0),(6,pV 3 0),(7,pV 4 0)],[(1,.box [nC a1]),(3,.box [.cZ 2 0 1 0]),(4,.box [bC v5.1]),(2,.seq tI v5.2)],6⟩) (λv=>v=w7) 5 p hF tQ rfl rfl rfl (by kernel_rfl) rfl (.inr ⟨rfl,rfl⟩) rfl Tryz.func57 rfl (by kernel_rfl) rfl (by kernel_rfl) rfl (by kernel_rfl) ?_ (λ_ _=>rfl) (λT v5=>(Le.gc (ks:=[3,6,7]) (ms:=[1,3,4,2]) (st':=⟨[(3,pV 1 0),(6,pV 3 0),(7,pV 4 0)],[(1,.box [nC a1]),(3,.box [.cZ 2 0 1 0]),(4,.box [bC v5.1]),(2,.seq tI v5.2)],6⟩) (cs:=[]) p (rfl:some (⟨[(17,.dE),(3,pV 1 0),(6,pV 3 0),(7,pV 4 0)],[(5,.gh [.ptr 1 0,.ptr 3 0,.ptr 4 0] T),(1,.box [nC a1]),(3,.box [.cZ 2 0 1 0]),(4,.box [bC v5.1]),(2,.seq tI v5.2)],6⟩,([]:List Prop))=_) (by kernel_rfl)).2) ?_)))));exact (by (intro T cx p hF tQ;exact (θ p [] aU (ξ (Ϩ p Xd (λJ=>up [0,1] [(4,iV J.1)] [5,0,3,1] [(4,.box [bC J.2.1]),(2,.seq tI J.2.2)] 0) (λvE=>(.exit 0,up [] [] [5,1,3] [(4,.box [bC vE.1]),(2,.seq tI vE.2)] 0)) (λvE Xd=>(bm ⟨.inr rfl,_,(aZ Xd),Le.re [(5,5),(1,1),(3,3),(4,4),(2,2)] [] p (by kernel_rfl)⟩)) λJ Uo EM Xe=>υ (θ p [] aU (Ω EM (λJG EM=>Η (aX (υ (ξ (θ p [] aU (ξ (Ϩ p EM (λj=>up [0,1,4,14] [(15,iV j.1)] [5,0,3,1] [(4,.box [bC j.2.1]),(2,.seq tI j.2.2)] 0) (λNM=>(.exit 2,up [0,1,4] [] [5,0,3,1] [(4,.box [bC NM.1]),(2,.seq tI NM.2)] 0)) (λNM EM=>(bm (bj (aX (Τ p [] aU λ_ h=>(bz (lN EM h))))))) λj WM EN EK=>θ p [] aU (ϻ EN (λBe EN=>υ (ξ (θ p [] aU (bo EN λw25 P7 EN=>HT.ex ⟨[(0,iV (aW a1)),(1,.one (.cls 58 [0,3,1,4])),(4,iV J.1),(5,iV j.1),(14,iV (bf .i64 (bI .i64 (aW a1) J.1) 1)),(15,iV j.1)],[(5,.gh [.ptr 1 0,.ptr 3 0,.ptr 4 0] T),(0,.box [iC a0.1,iC a0.2.1,.bp gA a0.2.2]),(3,.box [.cZ 2 0 1 0]),(1,.box [nC a1]),(4,.box [bC j.2.1]),(2,.seq tI j.2.2)],6⟩ p (by (refine HT.rg (RG.cut 5 [oH,oH,oH,oH,oH] ⟨[(22,iV (bf .i64 j.1 J.1)),(21,iV J.1),(20,iV j.1),(19,iV j.1),(18,.one (.cls 58 [0,3,1,4])),(0,iV (aW a1)),(1,.one (.cls 58 [0,3,1,4])),(4,iV J.1),(5,iV j.1),(14,iV (bf .i64 (bI .i64 (aW a1) J.1) 1)),(15,iV j.1)],[(5,.gh [.ptr 1 0,.ptr 3 0,.ptr 4 0] T),(0,.box [iC a0.1,iC a0.2.1,.bp gA a0.2.2]),(3,.box [.cZ 2 0 1 0]),(1,.box [nC a1]),(4,.box [bC j.2.1]),(2,.seq tI j.2.2)],6⟩ p.P p.N (by kernel_rfl) aU (((Le.gc (ks:=[0,1,4,14,15,18,19,22]) (ms:=[5,0,3,1,4,2]) (st':=⟨[(0,iV (aW a1)),(1,.one (.cls 58 [0,3,1,4])),(4,iV J.1),(14,iV (bf .i64 (bI .i64 (aW a1) J.1) 1)),(15,iV j.1),(18,.one (.cls 58 [0,3,1,4])),(19,iV j.1),(22,iV (bf .i64 j.1 J.1))],[(5,.gh [.ptr 1 0,.ptr 3 0,.ptr 4 0] T),(0,.box [iC a0.1,iC a0.2.1,.bp gA a0.2.2]),(3,.box [.cZ 2 0 1 0]),(1,.box [nC a1]),(4,.box [bC j.2.1]),(2,.seq tI j.2.2)],6⟩) (cs:=[]) p (rfl:some (⟨[(22,iV (bf .i64 j.1 J.1)),(21,iV J.1),(20,iV j.1),(19,iV j.1),(18,.one (.cls 58 [0,3,1,4])),(0,iV (aW a1)),(1,.one (.cls 58 [0,3,1,4])),(4,iV J.1),(5,iV j.1),(14,iV (bf .i64 (bI .i64 (aW a1) J.1) 1)),(15,iV j.1)],[(5,.gh [.ptr 1 0,.ptr 3 0,.ptr 4 0] T),(0,.box [iC a0.1,iC a0.2.1,.bp gA a0.2.2]),(3,.box [.cZ 2 0 1 0]),(1,.box [nC a1]),(4,.box [bC j.2.1]),(2,.seq tI j.2.2)],6⟩,([]:List Prop))=_) (by kernel_rfl)).2).rg (RG.inl (ks:=[0,3,1,4]) (ts:=[0,1,4,14,15]) (λMv (U:Bool×GI)=>⟨[],[(5,.gh [.ptr 1 0,.ptr 3 0,.ptr 4 0] T),(6,.gh [iC (aW a1),.cls 58 [0,3,1,4],iC J.1,iC (bf .i64 (bI .i64 (aW a1) J.1) 1),iC j.1] Mv),(1,.box [nC a1]),(3,.box [.cZ 2 0 1 0]),(4,.box [bC U.1]),(0,.box [iC a0.1,iC a0.2.1,.bp gA a0.2.2]),(2,.seq tI U.2)],7⟩) (λ(U:Bool×GI)=>[iC (aW a1),.cls 58 [0,3,1,4],iC J.1,iC (bf .i64 (bI .i64 (aW a1) J.1) 1),iC j.1]) (λ(U:Bool×GI)=>⟨[(0,iV (aW a1)),(1,.one (.cls 58 [0,3,1,4])),(4,iV J.1),(14,iV (bf .i64 (bI .i64 (aW a1) J.1) 1)),(15,iV j.1)],[(5,.gh [.ptr 1 0,.ptr 3 0,.ptr 4 0] T),(1,.box [nC a1]),(3,.box [.cZ 2 0 1 0]),(4,.box [bC U.1]),(0,.box [iC a0.1,iC a0.2.1,.bp gA a0.2.2]),(2,.seq tI U.2)],7⟩) (λv=>v=w25) 6 p hF tQ rfl rfl rfl (by kernel_rfl) rfl (.inl rfl) rfl Tryz.func58 rfl (by kernel_rfl) rfl (by kernel_rfl) rfl (by kernel_rfl) ?_ (λ_ _=>rfl) (λMv U=>(Le.gc (ks:=[0,1,4,14,15]) (ms:=[5,1,3,4,0,2]) (st':=⟨[(0,iV (aW a1)),(1,.one (.cls 58 [0,3,1,4])),(4,iV J.1),(14,iV (bf .i64 (bI .i64 (aW a1) J.1) 1)),(15,iV j.1)],[(5,.gh [.ptr 1 0,.ptr 3 0,.ptr 4 0] T),(1,.box [nC a1]),(3,.box [.cZ 2 0 1 0]),(4,.box [bC U.1]),(0,.box [iC a0.1,iC a0.2.1,.bp gA a0.2.2]),(2,.seq tI U.2)],7⟩) (cs:=[]) p (rfl:some (⟨[(23,.dE),(0,iV (aW a1)),(1,.one (.cls 58 [0,3,1,4])),(4,iV J.1),(14,iV (bf .i64 (bI .i64 (aW a1) J.1) 1)),(15,iV j.1)],[(5,.gh [.ptr 1 0,.ptr 3 0,.ptr 4 0] T),(6,.gh [iC (aW a1),.cls 58 [0,3,1,4],iC J.1,iC (bf .i64 (bI .i64 (aW a1) J.1) 1),iC j.1] Mv),(1,.box [nC a1]),(3,.box [.cZ 2 0 1 0]),(4,.box [bC U.1]),(0,.box [iC a0.1,iC a0.2.1,.bp gA a0.2.2]),(2,.seq tI U.2)],7⟩,([]:List Prop))=_) (by kernel_rfl)).2) ?_)));exact (by (intro Mv cx p hF tQ;exact (θ p [] aU (ξ (Ϩ p P7 (λUu=>up [0,1,3,4,5,13,14] [(15,iV Uu.1)] [5,6,3,1,0] [(4,.box [bC Uu.2.1]),(2,.seq tI Uu.2.2)] 0) (λQ5=>(.exit 0,up [] [] [5,6,1,3,0] [(4,.box [bC Q5.1]),(2,.seq tI Q5.2)] 0)) (λQ5 P7=>(bm ⟨.inr rfl,_,(aZ P7),Le.re [(5,5),(6,6),(1,1),(3,3),(4,4),(0,0),(2,2)] [] p (by kernel_rfl)⟩)) λUu x29 EO P0=>θ p [] aU (ϻ EO (λxR EO=>ϰ EO (λKU=>up [0,1,3,4,5,13,14,15] [] [5,6,3,1,0] [(4,.box [bC KU.1]),(2,.seq tI KU.2)] 0) (λKU EO=>Τ p [] aU λ_ h=>(bz (lN EO h))) λ_ t Ta=>ξ (bg t λP8 t=>θ p [] (bD P8) (bg t λMf t=>bg t λMg t=>bg t λHg t=>aba p [] (kQ Mf Mg Hg) (ϰ t (λUv=>up [0,1,3,4,5,9,10,13,14,15] [] [5,6,3,1,4,7,0] [(2,.seq tI Uv)] 0) (λUv t=>υ (θ p [] aU (ξ (Ϩ p t (λXf=>up [0,1,3,4,5,9,10,13,14,15] [(11,iV Xf.1)] [5,6,3,1,4,7,0] [(2,.seq tI Xf.2)] 0) (λYz=>(.exit 2,up [0,1,3,4,5,10,13,14,15] [] [5,6,3,1,4,0] [(2,.seq tI Yz)] 0)) (λYz t=>(bm (aX (bb t (λxU t=>bg t λXg t=>Τ p [oH,kT] (dd xU Xg) λ_ h=>(bj (aX (h.ht (Ta _ (aZ t)))))) λxU t=>Τ p [oH,kF] (bD xU) λ_ h=>(bj (aX (h.ht (Ta _ (aZ t))))))))) λXf x50 o Xh=>υ (ϰ o (λv54=>up [0,1,3,4,5,9,10,11,13,14,15] [(60,bV v54)] [5,6,3,1,4,7,2,0] [] 0) (λv54 o=>Ω o (λC8 o=>Η (aX (υ (ξ (bg o λBg o=>bg o λPb o=>bg o λP1 o=>bg o λP2 o=>bg o λXi o=>bg o λXj o=>bg o λXk o=>HT.dl p [] (iE Bg Mf Pb P1 (iE P2 Xi Mg Xj (dd Xk Bg))) (bj (aX (Τ p [] aU λ_ h=>(bz (lN o h)))))))))) λC8 o=>Ϫ p (bw (bA (Xh _ (bd o))))) λ_ JK Tb=>bb JK (λJL JK=>Τ p [oH,oH,oH,kT] (bD JL) λ_ h=>(aX (h.ht (Tb _ (aZ JK))))) λJL JK=>Τ p [oH,oH,oH,kF] (bD JL) λ_ h=>(aX (h.ht (Tb _ (aZ JK))))))))) λ_ R Tc=>ϰ R (λv67=>up [0,1,3,4,5,9,10,13,14,15] [(45,bV v67)] [5,6,3,1,4,7,2,0] [] 0) (λv67 R=>Ω R (λP3 R=>bg R λTd R=>Τ p [] (dd Td Td) λ_ h=>(aX (h.ht (Tc _ (aZ R))))) λP3 R=>Η (aX (aa5 p (Tc _ (aZ R))))) λ_ I Hi=>bb I (λMw I=>bb I (λP9 I=>bg I λQa I=>adS p [oH,oH,oH,kT,oH,oH,oH,oH,oH,kT] (kQ Mw P9 Qa) λ_ h=>(aX (h.ht (Hi _ (aZ I))))) λP9 I=>adS p [oH,oH,oH,kT,oH,oH,oH,oH,oH,kF] (dd Mw P9) λ_ h=>(aX (h.ht (Hi _ (aZ I))))) λMw I=>adS p [oH,oH,oH,kF] (bD Mw) λ_ h=>(aX (h.ht (Hi _ (aZ I)))))))) λxR EO=>Ϫ p (bw (bA (P0 _ (bd EO))))))))));exact (by (intro U Xl;exact (by (subst Xl;exact (bj (aX (Τ p [] aU λ_ h=>(bz (lN EN h))))))))))))))) λBe EN=>Ϫ p (bw (bA (EK _ (bd EN)))))))))))) λJG EM=>Ϫ p (bw (bA (Xe _ (bd EM)))))))))));exact (by (intro v5 Xm;exact (by (subst Xm;exact (aX (υ (θ p [] aU (Ω hr (λP4 hr=>θ p [] aU (by (cases hr;exact (Δ (bn (bY aU)))))) λP4 hr=>Η (aX (bg hr λXn hr=>bg hr λXo hr=>bg hr λXp hr=>bg hr λXq hr=>aba p [] (nB Xn Xo Xp Xq) (bq hr λhr=>by (cases hr;exact (Δ (bY aU))))))))))))))))))))))))))
def gw (a0:GG)(p:GI×GI)(j:Int×Int×Int):Option ((Int×Int×Int)⊕((Int×Int))):=
 bif (decide (j.2.2<(aW a0.2.2))) then
  (show Option (Int×Int) from
   aY (0<=j.2.2/\j.2.2<aW a0.2.2) (
    (some ((((ε a0.2.2 (δ j.2.2) (0,0,0,0)).2).2).1)).bind λo=>
    (some ((((ε a0.2.2 (δ j.2.2) (0,0,0,0)).2).2).2)).bind λr=>
    (show Option (Int⊕(Int×Int)) from
     bif (decide (o>=0)) then
      (show Option (Bool) from
       aY (0<=((ε a0.2.2 (δ j.2.2) (0,0,0,0)).2).1/\((ε a0.2.2 (δ j.2.2) (0,0,0,0)).2).1<aW p.2) (
        bif (decide ((ε p.2 (δ (((ε a0.2.2 (δ j.2.2) (0,0,0,0)).2).1)) 0)<0)) then
         some true
        else
         aY (0<=o/\o<aW p.2) (
          some (decide ((ε p.2 (δ o) 0)<0))))).bind λJ=>
      bif J then
       sw (some (j.1,j.2.1))
      else
       aY (0<=((ε a0.2.2 (δ j.2.2) (0,0,0,0)).2).1/\((ε a0.2.2 (δ j.2.2) (0,0,0,0)).2).1<aW p.2) (
        aY (0<=o/\o<aW p.2) (
         some (.inl (bf .i64 r (bf .i64 (ε p.2 (δ (((ε a0.2.2 (δ j.2.2) (0,0,0,0)).2).1)) 0) (ε p.2 (δ o) 0))))))
     else
      some (.inl r)).bind λR=>match R with
     | .inl t=>
      (show Option (Bool) from
       aY (0<=(ε a0.2.2 (δ j.2.2) (0,0,0,0)).1/\(ε a0.2.2 (δ j.2.2) (0,0,0,0)).1<aW p.2) (
        bif (decide ((ε p.2 (δ ((ε a0.2.2 (δ j.2.2) (0,0,0,0)).1)) 0)<0)) then
         some (decide (t<j.2.1))
        else
         some false)).bind λT=>
      bif T then
       some (j.2.2,t)
      else
       some (j.1,j.2.1)
     | .inr z=>some z)).bind λI=>
  some (.inl (I.1,I.2,(bf .i64 j.2.2 1)))
 else
  some (.inr (j.1,j.2.1))
def kf (a0:GG)(o:GI×GI):Option ((GI×GI)⊕((GI×GI))):=
 (rounds (gw a0 o) ((-1),1099511627776,0)).bind λj=>
 bif (decide (j.1<0)) then
  some (.inr (o.1,o.2))
 else
  aY (0<=j.1/\j.1<aW a0.2.2) (
   aY (0<=(ε a0.2.2 (δ j.1) (0,0,0,0)).1/\(ε a0.2.2 (δ j.1) (0,0,0,0)).1<aW o.1) (
    aY (0<=(ε a0.2.2 (δ j.1) (0,0,0,0)).1/\(ε a0.2.2 (δ j.1) (0,0,0,0)).1<aW o.2) (
     some (.inl ((aag o.1 (δ ((ε a0.2.2 (δ j.1) (0,0,0,0)).1)) j.1),(aag o.2 (δ ((ε a0.2.2 (δ j.1) (0,0,0,0)).1)) j.2))))))
def dY (a0:GG):Option (GI×GI):=
 (kV a0.1).bind λo=>
 (kV a0.1).bind λp=>
 (rounds (kf a0) (o,p)).bind λj=>
 some (j.1,j.2)
theorem JM {a0}{r}(hr:dY a0=some r):CallOK ν 59 [.bP (.st gR) a0] [⟨true,cg,r.1⟩,⟨true,cg,r.2⟩] []:=
 dn Tryz.func59 rfl λcx I hF=>θ I [] aU (bc hr wo λy1 tq hr=>bc hr wo λy3 SP hr=>aba I [oH,oH,(cl tq),oH,oH,(cl SP)] (dd tq SP) (ξ (Ϩ I hr (λs5=>up [1,4,5] [] [0] [(1,.seq tI s5.1),(2,.seq tI s5.2)] 0) (λr7=>(.ret,up [] [(2,aV 1),(3,aV 2)] [] [(1,.seq tI r7.1),(2,.seq tI r7.2)] 0)) (λr7 hr=>by (cases hr;exact (bH (bY aU)))) λs5 x8 t A8=>ξ (θ I [] aU (υ (θ I [] aU (ξ (Ϩ I t (λae=>up [1,4,5,19,20] [(6,iV ae.1),(7,iV ae.2.1),(21,iV ae.2.2)] [0,1,2] [] 0) (λNN=>(.exit 2,up [1,4,5] [(6,iV NN.1),(7,iV NN.2)] [0,1,2] [] 0)) (λNN t=>(bm (aX (υ (θ I [] aU (Ω t (λJG t=>θ I [] aU (HT.xr I (bn (bH (eZ (A8 _ (bd t))))))) λJG t=>Η (aX (bg t λXr t=>θ I [] (bD Xr) (bg t λaf t=>bg t λag t=>Τ I [] (nB af (bG af) ag (bG ag)) λ_ h=>(bj (bz (lN t h)))))))))))) λae WM J EK=>θ I [] aU (ϻ J (λBe J=>ϰ J (λv23=>up [1,4,5,19,20,21] [(6,iV v23.1),(7,iV v23.2)] [0,1,2] [] 0) (λv23 J=>Τ I [] aU λ_ h=>(bz (lN J h))) λ_ j aa=>ξ (bg j λQb j=>θ I [] (bD Qb) (bq j λj=>bq j λj=>θ I [] aU (HT.jo j (λ_=>rfl) (λv32=>up [1,4,5,6,7,8,9,19,20,21] [(10,iV v32)] [0,1,2,3] [] 0) (λv32 j=>ϰ j (λXs=>up [1,4,5,6,7,8,10,19,20,21] [(68,bV Xs)] [0,1,2] [] 0) (λXs j=>Ω j (λsx j=>Τ I [] aU λ_ h=>(bj (aX (h.ht (aa _ (aZ j)))))) λsx j=>Η (bj (aX (aa5 I (aa _ (aZ j)))))) λ_ R ah=>bg R λT R=>bb R (λab R=>Τ I (nO 6 [kT]) (kQ T (bG T) ab) λ_ h=>(aX (h.ht (ah _ (aZ R))))) λab R=>Τ I (nO 6 [kF]) (kQ T (bG T) ab) λ_ h=>(aX (h.ht (ah _ (aZ R))))) λ_ o Xt ai=>θ I [] aU (Ω o (λBh o=>υ (ϰ o (λv46=>up [1,4,5,6,7,8,9,10,19,20,21] [(44,bV v46)] [0,1,2,3] [] 0) (λv46 o=>Ω o (λzg o=>have j:=Xt o;HT.exit (bw (bw (bm (aX (aa5 I (aa _ (aZ j)))))))) λzg o=>Η (aX (bg o λaj o=>bg o λak o=>adS I [] (nB aj (bG aj) ak (bG ak)) λ_ h=>(aX (h.ht (ai _ (bd o))))))) λ_ p al=>bg p λU p=>bb p (λad p=>Τ I (nO 6 [kT]) (kQ U (bG U) ad) λ_ h=>(aX (h.ht (al _ (aZ p))))) λad p=>bg p λan p=>Τ I (nO 6 [kF]) (iE U (bG U) ad an (bD (bG an))) λ_ h=>(aX (h.ht (al _ (aZ p)))))) λBh o=>Η (aX (aa5 I (ai _ (bd o))))))))) λBe J=>Ϫ I (bw (bA (EK _ (bd J)))))))))))))
def cu (j:(GG×GI×GI×Int)->Option GI)(a0:GG)(a1:GI)(a2:GI)(a3:Int):Option GI:=
 aY (0<=a3/\a3<aW a2) (
  aY (0<=(ε a2 (δ a3) 0)/\(ε a2 (δ a3) 0)<aW a0.2.2) (
   (some ((ε a0.2.2 (δ (ε a2 (δ a3) 0)) (0,0,0,0)).1)).bind λI=>
   (some (((ε a0.2.2 (δ (ε a2 (δ a3) 0)) (0,0,0,0)).2).1)).bind λo=>
   (some ((((ε a0.2.2 (δ (ε a2 (δ a3) 0)) (0,0,0,0)).2).2).1)).bind λt=>
   (some ((((ε a0.2.2 (δ (ε a2 (δ a3) 0)) (0,0,0,0)).2).2).2)).bind λJ=>
   bif (decide (t<0)) then
    aY (ζ a1+ζ ([o]:GI)<=bl) (
     some (a1++([o]:GI)))
   else
    (j ((a0.1,a0.2.1,a0.2.2),a1,a2,o)).bind λp=>
    (j ((a0.1,a0.2.1,a0.2.2),p,a2,t)).bind λr=>
    some r))
theorem Bi {t}(ih: ∀{x} {r},t x=some r->CallOK ν 202 [.bP (.st gR) x.1,.mv cg x.2.1,.bP cg x.2.2.1,.bP tI x.2.2.2] [⟨true,cg,r⟩] []){a0}{a1}{a2}{a3}{r}(j:cu t a0 a1 a2 a3=some r):CallOK ν 202 [.bP (.st gR) a0,.mv cg a1,.bP cg a2,.bP tI a3] [⟨true,cg,r⟩] []:=
 Sx Tryz.func202 rfl λcx I=>θ I [] aU (bg j λT j=>bg j λU j=>aba I [] (dd T U) (bq j λj=>bq j λj=>bq j λj=>bq j λj=>υ (θ I [] aU (Ω j (λJ j=>bg j λR j=>θ I [oH,oH,oH,(hT tI),(hT tI)] (bD R) (by (cases j;exact (Δ (bn (bY aU)))))) λJ j=>Η (aX (bc j ih λaa o j=>bc j ih λab p j=>aba I (nO 6 [(cl o),oH,oH,oH,(cl p)]) (dd o p) (by (cases j;exact (Δ (bY aU))))))))))
def eQ (a0:GG)(a1:GI)(a2:GI)(a3:Int):Option GI:=Lv (λj x=>cu j x.1 x.2.1 x.2.2.1 x.2.2.2) (a0,a1,a2,a3)
theorem C9 {a0}{a1}{a2}{a3}{r}(o:eQ a0 a1 a2 a3=some r):CallOK ν 202 [.bP (.st gR) a0,.mv cg a1,.bP cg a2,.bP tI a3] [⟨true,cg,r⟩] []:=
 Lw (F:=λj x=>cu j x.1 x.2.1 x.2.2.1 x.2.2.2) (C:=λx r=>CallOK ν 202 [.bP (.st gR) x.1,.mv cg x.2.1,.bP cg x.2.2.1,.bP tI x.2.2.2] [⟨true,cg,r⟩] []) (λ_ ih _ _ h=>Bi (λh=>ih _ _ h) h) o
def l4 (a0:GG):Option (GI×Int×Bool):=
 (cQ (a0.1,a0.2.1,a0.2.2)).bind λp=>
 bif (!p) then
  some (([]:GI),0,false)
 else
  (dY (a0.1,a0.2.1,a0.2.2)).bind λj=>
  aY ((0:Int)<=0/\0<aW j.2) (
   bif (decide ((ε j.2 (δ 0) 0)<0)) then
    some (([]:GI),0,false)
   else
    (eQ (a0.1,a0.2.1,a0.2.2) ([]:GI) j.1 0).bind λo=>
    bif (decide ((aW o)>12)) then
     some (([]:GI),0,false)
    else
     some (o,(ε j.2 (δ 0) 0),true))
theorem Mx {a0}{r}(j:l4 a0=some r):CallOK ν 168 [.bP (.st gR) a0] [⟨true,cg,r.1⟩,⟨false,tI,r.2.1⟩,⟨false,.bool,r.2.2⟩] []:=
 dn Tryz.func168 rfl λcx o hF=>θ o [] aU (υ (bc j uS λy1 t j=>θ o [oH,(cl t)] (bD t) (Ω j (λT j=>θ o [] aU (by (cases j;exact (Δ (bn (bY aU)))))) λT j=>Η (aX (bc j JM λy4 I j=>θ o [oH,(cl I)] (bD I) (υ (bg j λp j=>θ o [] (dd p (bG p)) (Ω j (λU j=>θ o [] aU (by (cases j;exact (Δ (bn (bY aU)))))) λU j=>Η (aX (bc j C9 λy8 J j=>θ o [oH,oH,(cl J)] (bD J) (υ (θ o [] aU (Ω j (λR j=>θ o [] aU (by (cases j;exact (Δ (bn (bY aU)))))) λR j=>Η (aX (aba o [] (dd p (bG p)) (by (cases j;exact (Δ (bY aU)))))))))))))))))))
def fB (a0:GQ)(a1:GI):Option (Bool):=
 (show Option (Bool) from
  bif (decide (a0.2.2.1<0)) then
   some true
  else
   aY (0<=a0.2.1/\a0.2.1<aW a1) (
    bif (decide ((ε a1 (δ a0.2.1) 0)>=0)) then
     aY (0<=a0.2.2.1/\a0.2.2.1<aW a1) (
      some (decide ((ε a1 (δ a0.2.2.1) 0)>=0)))
    else
     some false)).bind λj=>
 some j
theorem JN {a0}{a1}{r}(R:fB a0 a1=some r):CallOK ν 60 [.bP (.st gQ) a0,.fW cg a1] [⟨false,.bool,r⟩] []:=
 dn Tryz.func60 rfl λcx J hF=>θ J [] aU (ϰ R (λU=>up [] [(3,bV U)] [] [] 0) (λU R=>by (cases R;exact (Δ (bY aU)))) λ_ j p=>bb j (λo j=>Τ J [oH,oH,oH,kT] (bD o) λ_ h=>(aX (h.ht (p _ (aZ j))))) λo j=>bg j λI j=>bb j (λt j=>bg j λT j=>Τ J [oH,oH,oH,kF,oH,oH,oH,oH,oH,oH,kT] (nB o I t T) λ_ h=>(aX (h.ht (p _ (aZ j))))) λt j=>Τ J [oH,oH,oH,kF,oH,oH,oH,oH,oH,oH,kF] (kQ o I t) λ_ h=>(aX (h.ht (p _ (aZ j)))))
def j1 (a0:GG)(I:GI×GI)(o:GZ)(j:Int×GI):Option ((Int×GI)⊕GI):=
 bif (decide (j.1<(aW a0.2.2))) then
  (show Option GI from
   aY (0<=j.1/\j.1<aW a0.2.2) (
    (show Option (Bool) from
     aY (0<=(ε a0.2.2 (δ j.1) (0,0,0,0)).1/\(ε a0.2.2 (δ j.1) (0,0,0,0)).1<aW o) (
      bif (ε o (δ ((ε a0.2.2 (δ j.1) (0,0,0,0)).1)) false) then
       (fB ((ε a0.2.2 (δ j.1) (0,0,0,0)).1,((ε a0.2.2 (δ j.1) (0,0,0,0)).2).1,(((ε a0.2.2 (δ j.1) (0,0,0,0)).2).2).1,(((ε a0.2.2 (δ j.1) (0,0,0,0)).2).2).2) I.2).bind λp=>
       some p
      else
       some false)).bind λr=>
    bif r then
     aY (ζ j.2+ζ ([j.1]:GI)<=bl) (
      some (j.2++([j.1]:GI)))
    else
     some j.2)).bind λt=>
  some (.inl ((bf .i64 j.1 1),t))
 else
  some (.inr j.2)
def j3 (a0:GG)(t:GI×GI)(j:Int×GZ):Option ((Int×GZ)⊕GZ):=
 bif (decide (j.1<(aW a0.2.2))) then
  (show Option GZ from
   aY (0<=j.1/\j.1<aW a0.2.2) (
    (show Option (Bool) from
     aY (0<=(ε a0.2.2 (δ j.1) (0,0,0,0)).1/\(ε a0.2.2 (δ j.1) (0,0,0,0)).1<aW j.2) (
      bif (ε j.2 (δ ((ε a0.2.2 (δ j.1) (0,0,0,0)).1)) false) then
       bif (decide ((((ε a0.2.2 (δ j.1) (0,0,0,0)).2).2).1>=0)) then
        (fB ((ε a0.2.2 (δ j.1) (0,0,0,0)).1,((ε a0.2.2 (δ j.1) (0,0,0,0)).2).1,(((ε a0.2.2 (δ j.1) (0,0,0,0)).2).2).1,(((ε a0.2.2 (δ j.1) (0,0,0,0)).2).2).2) t.2).bind λo=>
        some o
       else
        some false
      else
       some false)).bind λp=>
    bif p then
     aY (0<=((ε a0.2.2 (δ j.1) (0,0,0,0)).2).1/\((ε a0.2.2 (δ j.1) (0,0,0,0)).2).1<aW j.2) (
      aY (0<=(((ε a0.2.2 (δ j.1) (0,0,0,0)).2).2).1/\(((ε a0.2.2 (δ j.1) (0,0,0,0)).2).2).1<aW (aag j.2 (δ (((ε a0.2.2 (δ j.1) (0,0,0,0)).2).1)) true)) (
       some (aag (aag j.2 (δ (((ε a0.2.2 (δ j.1) (0,0,0,0)).2).1)) true) (δ ((((ε a0.2.2 (δ j.1) (0,0,0,0)).2).2).1)) true)))
    else
     some j.2)).bind λr=>
  some (.inl ((bf .i64 j.1 1),r))
 else
  some (.inr j.2)
def j4 (a0:GG)(p:GI×GI)(j:Int×GZ):Option ((Int×GZ)⊕GZ):=
 bif (decide (j.1<a0.1)) then
  (rounds (j3 a0 p) (0,j.2)).bind λo=>
  some (.inl ((bf .i64 j.1 1),o))
 else
  some (.inr j.2)
def hJ (a0:GG):Option (GI×Bool):=
 (cQ (a0.1,a0.2.1,a0.2.2)).bind λr=>
 bif (!r) then
  some (([]:GI),false)
 else
  (dY (a0.1,a0.2.1,a0.2.2)).bind λp=>
  aY (0<=a0.1/\a0.1<=4294967296) (
   aY ((0:Int)<=0/\0<aW (π (δ a0.1) false)) (
    (rounds (j4 a0 p) (0,(aag (π (δ a0.1) false) (δ 0) true))).bind λj=>
    (rounds (j1 a0 p j) (0,([]:GI))).bind λo=>
    some (o,true)))
theorem Qc {a0}{r}(hr:hJ a0=some r):CallOK ν 22 [.bP (.st gR) a0] [⟨true,cg,r.1⟩,⟨false,.bool,r.2⟩] []:=
 dn Tryz.func22 rfl λcx p hF=>θ p [] aU (υ (bc hr uS λy1 tq hr=>θ p [oH,(cl tq)] (bD tq) (Ω hr (λAz hr=>θ p [] aU (by (cases hr;exact (Δ (bn (bY aU)))))) λAz hr=>Η (aX (bc hr JM λy4 Te hr=>θ p [oH,(cl (ϯ [false,true] rfl Te))] (bD (ϯ [false,true] rfl Te)) (by (refine (Le.rz [(0,0)] [] (st':=⟨[(1,pV 0 0),(5,.one (.ip cg y4.2 0))],[(0,.box [iC a0.1,iC a0.2.1,.bp gA a0.2.2])],3⟩) p hF (by kernel_rfl)).ht ?_;exact (θ p [] aU (bg hr λhg6 hr=>θ p [oH,oH,(hT .bool)] (bD (LM hg6)) (bg hr λYA hr=>θ p [] (dd YA (bG YA)) (υ (θ p [] aU (ξ (Ϩ p hr (λs8=>up [1,6,7,28] [(29,iV s8.1)] [0] [(3,.seq .bool s8.2)] 0) (λvE=>(.exit 0,up [1,6,7] [] [0] [(3,.seq .bool vE)] 0)) (λvE hr=>(bm (aX (θ p [] aU (υ (θ p [] aU (ξ (Ϩ p hr (λXu=>up [6,7,65,66] [(10,aV 7),(67,iV Xu.1)] [3] [(7,.seq tI Xu.2)] 4) (λNN=>(.exit 4,up [] [(10,aV 7)] [] [(7,.seq tI NN)] 4)) (λNN hr=>(bm (aX (θ p [] aU (by (cases hr;exact (Δ (bY aU)))))))) λXu Un J Qd=>θ p [] aU (ϻ J (λA4 J=>ϰ J (λYB=>up [6,7,65,66,67] [(10,aV 10)] [3] [(10,.seq tI YB)] 3) (λYB J=>Τ p [] aU λ_ h=>(bz (lN J h))) λ_ t Tf=>ξ (bg t λC5 t=>θ p [] (bD C5) (ϰ t (λv24=>up [6,7,10,11,65,66,67] [(81,bV v24)] [3,7] [] 0) (λv24 t=>Ω t (λO9 t=>bg t λXv t=>Τ p [oH,oH,(hT tI),(hT tI)] (bD Xv) λ_ h=>(bj (aX (h.ht (Tf _ (aZ t)))))) λO9 t=>Η (bj (aX (aa5 p (Tf _ (aZ t)))))) λ_ I Tg=>bg I λzf I=>bb I (λJn I=>bc I JN λUm Th I=>Τ p (nO 5 [kT,oH,oH,(cl Th)]) (nB zf (bG zf) Jn Th) λ_ h=>(aX (h.ht (Tg _ (aZ I))))) λJn I=>Τ p (nO 5 [kF]) (kQ zf (bG zf) Jn) λ_ h=>(aX (h.ht (Tg _ (aZ I))))))) λA4 J=>Ϫ p (bw (bA (Qd _ (bd J))))))))))))) λs8 x33 R Xw=>θ p [] aU (ϻ R (λXx R=>υ (ξ (θ p [] aU (ξ (Ϩ p R (λXy=>up [1,6,7,28,29,32,33] [(34,iV Xy.1)] [0] [(3,.seq .bool Xy.2)] 0) (λYC=>(.exit 2,up [1,6,7,28,29] [] [0] [(3,.seq .bool YC)] 0)) (λYC R=>(bm (bj (aX (Τ p [] aU λ_ h=>(bz (lN R h))))))) λXy Yu T PB=>θ p [] aU (ϻ T (λuk T=>ϰ T (λv45=>up [1,6,7,28,29,32,33,34] [] [0] [(3,.seq .bool v45)] 0) (λv45 T=>Τ p [] aU λ_ h=>(bz (lN T h))) λ_ j Ti=>ξ (bg j λPC j=>θ p [] (bD PC) (ϰ j (λv50=>up [1,6,7,9,28,29,32,33,34] [(52,bV v50)] [0,3,4] [] 0) (λv50 j=>Ω j (λJI j=>bg j λTj j=>bg j λMu j=>adS p [] (nB Tj (bG Tj) Mu (bG Mu)) λ_ h=>(bj (aX (h.ht (Ti _ (aZ j)))))) λJI j=>Η (bj (aX (aa5 p (Ti _ (aZ j)))))) λ_ o Hh=>bg o λU o=>bb o (λC8 o=>bb o (λJO o=>bc o JN λYD JP o=>Τ p (nO 5 [kT,oH,oH,oH,oH,kT,oH,oH,(cl JP)]) (iE U (bG U) C8 JO (bD JP)) λ_ h=>(aX (h.ht (Hh _ (aZ o))))) λJO o=>Τ p (nO 5 [kT,oH,oH,oH,oH,kF]) (nB U (bG U) C8 JO) λ_ h=>(aX (h.ht (Hh _ (aZ o))))) λC8 o=>Τ p (nO 5 [kF]) (kQ U (bG U) C8) λ_ h=>(aX (h.ht (Hh _ (aZ o))))))) λuk T=>Ϫ p (bw (bA (PB _ (bd T)))))))))) λXx R=>Ϫ p (bw (bA (Xw _ (bd R)))))))))))))))))))
def l5 (a0:GM×GP×GG×GI)(a1:GB):Option (GB×Bool×Bool×(GM×GP×GG×GI)):=
 (show Option ((GB×Bool)⊕(GB×Bool×Bool×(GM×GP×GG×GI))) from
  bif (a1==([109,97,99,104,105,110,101]:GB)) then
   (gS (a0.1.1,a0.1.2.1,a0.1.2.2.1,a0.1.2.2.2.1,a0.1.2.2.2.2)).bind λy8=>
   some (.inl (y8.1,y8.2))
  else
   bif (a1==([112,108,97,105,110]:GB)) then
    (jC (a0.2.1.1,a0.2.1.2.1,a0.2.1.2.2.1,a0.2.1.2.2.2)).bind λr=>
    some (.inl (r.1,r.2))
   else
    bif (a1==([103,114,97,109,109,97,114]:GB)) then
     (gT (a0.2.2.1.1,a0.2.2.1.2.1,a0.2.2.1.2.2)).bind λt=>
     some (.inl (t.1,t.2))
    else
     bif (a1==([119,111,114,100]:GB)) then
      (ey a0.2.2.2).bind λI=>
      some (.inl (I.1,I.2))
     else
      bif (a1==([99,111,115,116]:GB)) then
       (nk (a0.1.1,a0.1.2.1,a0.1.2.2.1,a0.1.2.2.2.1,a0.1.2.2.2.2) a0.2.2.2).bind λJ=>
       (dh J.1 J.2).bind λR=>
       some (.inl (R.1,R.2))
      else
       bif (a1==([98,101,115,116]:GB)) then
        (mU (a0.1.1,a0.1.2.1,a0.1.2.2.1,a0.1.2.2.2.1,a0.1.2.2.2.2)).bind λj=>
        (iP j.1 j.2.1 j.2.2).bind λT=>
        some (.inl (T.1,T.2))
       else
        bif (a1==([114,101,97,100,115]:GB)) then
         (jE (a0.2.1.1,a0.2.1.2.1,a0.2.1.2.2.1,a0.2.1.2.2.2) a0.2.2.2).bind λo=>
         bif o.1 then
          some (.inl (([121,101,115]:GB),o.2))
         else
          some (.inl (([110,101,118,101,114]:GB),o.2))
        else
         bif (a1==([102,105,114,115,116]:GB)) then
          (lW (a0.2.1.1,a0.2.1.2.1,a0.2.1.2.2.1,a0.2.1.2.2.2)).bind λU=>
          (dy U.1 U.2).bind λaa=>
          some (.inl (aa.1,aa.2))
         else
          bif (a1==([108,101,97,114,110]:GB)) then
           (kr (a0.2.1.1,a0.2.1.2.1,a0.2.1.2.2.1,a0.2.1.2.2.2)).bind λab=>
           (dh ab.2.1 ab.2.2).bind λad=>
           some (.inl (ad.1,ad.2))
          else
           bif (a1==([112,97,114,115,101]:GB)) then
            (gZ (a0.2.2.1.1,a0.2.2.1.2.1,a0.2.2.1.2.2) a0.2.2.2).bind λae=>
            (dh ae.1 ae.2).bind λaf=>
            some (.inl (af.1,af.2))
           else
            bif (a1==([116,114,101,101,115]:GB)) then
             (fT (a0.2.2.1.1,a0.2.2.1.2.1,a0.2.2.1.2.2) a0.2.2.2).bind λag=>
             (dh ag.1 ag.2).bind λah=>
             some (.inl (ah.1,ah.2))
            else
             bif (a1==([99,104,101,97,112]:GB)) then
              (l4 (a0.2.2.1.1,a0.2.2.1.2.1,a0.2.2.1.2.2)).bind λp=>
              (iP p.1 p.2.1 p.2.2).bind λai=>
              some (.inl (ai.1,ai.2))
             else
              bif (a1==([117,115,101,102,117,108]:GB)) then
               (hJ (a0.2.2.1.1,a0.2.2.1.2.1,a0.2.2.1.2.2)).bind λaj=>
               (dy aj.1 aj.2).bind λak=>
               some (.inl (ak.1,ak.2))
              else
               sw (some (([]:GB),false,false,a0))).bind λw5=>match w5 with
  | .inl v2=>
   some (v2.1,v2.2,true,a0)
  | .inr z=>some z
theorem My {a0}{a1}{r}(hr:l5 a0 a1=some r):CallOK ν 133 [.own (.bx (.st (.pair (.st gM) (.pair (.st gP) (.pair (.st gR) cg))))) [a0],.bP .str a1] [⟨false,.str,r.1⟩,⟨false,.bool,r.2.1⟩,⟨false,.bool,r.2.2.1⟩] [⟨(.bx (.st (.pair (.st gM) (.pair (.st gP) (.pair (.st gR) cg))))),[r.2.2.2]⟩]:=
 dn Tryz.func133 rfl λcx o hF=>θ o [] aU (θ o [] aU (HT.jo hr (λ_=>rfl) (λv2=>up [] [(7,.one (.bp .str v2.1)),(8,bV v2.2)] [0] [] 0) (λv2 hr=>θ o [] aU (by (cases hr;exact (Δ (bY (bD (show ζ ([a0])=ζ [a0] from rfl))))))) λ_ j Q2 p=>θ o [] aU (ξ (θ o [] aU (Ω j (λJs j=>bc j NK λy8 NJ j=>Τ o (nO 4 [(cl NJ)]) (dd (show 0<ζ [a0] from Ν) NJ) λ_ h=>(bj (aX (h.ht (p _ (bd j)))))) λJs j=>θ o [] aU (Ω j (λBa j=>bc j NL λKV t j=>Τ o (nO 4 [(cl t)]) (dd (show 0<ζ [a0] from Ν) t) λ_ h=>(bj (aX (h.ht (p _ (bd j)))))) λBa j=>θ o [] aU (Ω j (λEG j=>bc j JD λSF I j=>Τ o (nO 4 [(cl I)]) (dd (show 0<ζ [a0] from Ν) I) λ_ h=>(bj (aX (h.ht (p _ (bd j)))))) λEG j=>θ o [] aU (Ω j (λxQ j=>bc j Bb λPc J j=>Τ o (nO 4 [(cl J)]) (dd (show 0<ζ [a0] from Ν) J) λ_ h=>(bj (aX (h.ht (p _ (bd j)))))) λxQ j=>θ o [] aU (Ω j (λPK j=>bc j PS λWz R j=>bc j se λy22 T j=>adS o (nO 8 [(cl R),oH,oH,(cl T)]) (nB (show 0<ζ [a0] from Ν) (show 0<ζ [a0] from Ν) R T) λ_ h=>(bj (aX (h.ht (p _ (bd j)))))) λPK j=>θ o [] aU (Ω j (λED j=>bc j Mo λUq U j=>bc j F7 λWE aa j=>Τ o (nO 4 [(cl U),oH,oH,oH,(cl aa)]) (kQ (show 0<ζ [a0] from Ν) U aa) λ_ h=>(bj (aX (h.ht (p _ (bd j)))))) λED j=>θ o [] aU (Ω j (λPA j=>bc j PU λYx ab j=>aba o (nO 8 [(cl ab)]) (kQ (show 0<ζ [a0] from Ν) (show 0<ζ [a0] from Ν) ab) (θ o [] aU (θ o [] aU (Ω j (λxR j=>Τ o [] aU λ_ h=>(bj (aX (h.ht (p _ (bd j)))))) λxR j=>Η (bj (aX (aa5 o (p _ (bd j))))))))) λPA j=>θ o [] aU (Ω j (λPX j=>bc j Mq λYq ad j=>bc j Bf λy36 ae j=>Τ o (nO 4 [(cl ad),oH,oH,(cl ae)]) (kQ (show 0<ζ [a0] from Ν) ad ae) λ_ h=>(bj (aX (h.ht (p _ (bd j)))))) λPX j=>θ o [] aU (Ω j (λQe j=>bc j Mt λy39 af j=>θ o (nO 4 [(cl af)]) (dd (show 0<ζ [a0] from Ν) af) (bc j se λQZ ag j=>Τ o [oH,oH,(cl ag)] (bD ag) λ_ h=>(bj (aX (h.ht (p _ (bd j))))))) λQe j=>θ o [] aU (Ω j (λuk j=>bc j P5 λy44 ah j=>bc j se λy46 ai j=>adS o (nO 8 [(cl ah),oH,oH,(cl ai)]) (nB (show 0<ζ [a0] from Ν) (show 0<ζ [a0] from Ν) ah ai) λ_ h=>(bj (aX (h.ht (p _ (bd j)))))) λuk j=>θ o [] aU (Ω j (λxU j=>bc j P6 λYj aj j=>bc j se λYk ak j=>adS o (nO 8 [(cl aj),oH,oH,(cl ak)]) (nB (show 0<ζ [a0] from Ν) (show 0<ζ [a0] from Ν) aj ak) λ_ h=>(bj (aX (h.ht (p _ (bd j)))))) λxU j=>θ o [] aU (Ω j (λJI j=>bc j Mx λy54 al j=>bc j F7 λy56 an j=>Τ o (nO 4 [(cl al),oH,oH,oH,(cl an)]) (kQ (show 0<ζ [a0] from Ν) al an) λ_ h=>(bj (aX (h.ht (p _ (bd j)))))) λJI j=>θ o [] aU (Ω j (λJO j=>bc j Qc λYD ao j=>bc j Bf λy61 aq j=>Τ o (nO 4 [(cl ao),oH,oH,(cl aq)]) (kQ (show 0<ζ [a0] from Ν) ao aq) λ_ h=>(bj (aX (h.ht (p _ (bd j)))))) λJO j=>θ o [] aU (have hr:=Q2 j;by (cases hr;exact (Δ (bH (bn (bY (bD (show ζ ([a0])=ζ [a0] from rfl)))))))))))))))))))))))))
def rj (a0:GB):Option (List GB):=
 bif (a0==([110,111,110,101]:GB)) then
  some ([]:List GB)
 else
  (strings_Split a0 ([44]:GB)).bind λj=>
  some j
theorem Mz {a0}{r}(j:rj a0=some r):CallOK ν 118 [.bP .str a0] [⟨true,(.sl .str),r⟩] []:=
 dn Tryz.func118 rfl λcx p I=>θ p [] aU (υ (θ p [] aU (Ω j (λt j=>θ p [] aU (by (cases j;exact (Δ (bn (bY aU)))))) λt j=>Η (aX (bc j A0 λJ o j=>θ p [oH,(cl o)] (bD o) (by (cases j;exact (Δ (bY aU)))))))))
section
open Go.RowKit
theorem rm {w w':Ε}(h:w'=w\/ ∃t,w'=ado w 5 t):Below w.heap.size w w':=by
 rcases h with rfl|⟨t,rfl⟩
 exact Below.refl _ _;unfold ado;exact Lib.below_freeze ((Below.drew (Below.refl _ w)).alloc (φ _) _) (p:=⟨w.heap.size,_,none⟩) (φ _) _
theorem xV {a b c:Ε}(h:Below a.heap.size a b)(k:Below b.heap.size b c):Below a.heap.size a c:=
 h.trans ⟨k.os,k.tape,k.output,k.size,λi j=>k.block i (Nat.lt_of_lt_of_le j h.size)⟩
theorem rn (v:Int)(w:Ε):abq ν 91 #[.int .i64 v] w λe w'=>e= .returned (.bool (decide (-1000000000000000<=v)&&decide (v<=1000000000000000)))/\w'=w:=by
 by_cases h0: -1000000000000000<=v
 ·by_cases h1:v<=1000000000000000
  ·go_enter aeW,aeE
   go_wp2
   go_ret
   exact ⟨by simp [h0,h1],rfl⟩
  ·go_enter aeW,aeE
   go_wp2
   go_ret
   exact ⟨by simp [h0,h1],rfl⟩
 ·go_enter aeW,aeE
  go_wp2
  go_ret
  exact ⟨by rw [show decide (-1000000000000000<=v)=false by simp only [decide_eq_false_iff_not];omega];rfl,rfl⟩
theorem Ga (v:Int)(h0: -9223372036854775808<=v)(h1:v<=9223372036854775807)(w:Ε)(t:TypeId)(fr:Nat×Nat)(ht:w.heap[1]? =some (.cells pow10Cells t fr)):
 abq ν 13 #[.int .i64 v] w λe w'=>e= .returned (.string ⟨(Ϯ v).toArray⟩)/\Below w.heap.size w w':=by
 go_enter Tryz.func13,Tryz.ntmps13
 go_wp2_with (go_at_call 44;refine (Tryz.strconv_FormatInt_10 v h0 h1 w (JC ht)).mono ?_)
 rintro e w2 ⟨rfl,k,os,rfl⟩;have hb:=Lib.below_grow w.heap.size w (φ _) k os;generalize Go.Sort.grow (w.drewN k) os=w2 at hb⊢
 go_wp2
 go_ret
 exact ⟨rfl,hb⟩
set_option maxRecDepth 100000 in
theorem Tk (s:ByteArray)(v:Int)(h:aaq 64 s.data.toList= .ok v)(hs:s.size<=281474976710656)(w:Ε)(t:TypeId)(fr:Nat×Nat)(ht:w.heap[1]? =some (.cells pow10Cells t fr))(h1:1<w.heap.size)(Xz: -1000000000000000<=v)(XA:v<=1000000000000000)(he:ByteArray.mk (Ϯ v).toArray=s):
 abq ν 119 #[.string s] w λe w'=>e= .returned (.tuple #[.int .i64 v,.bool true])/\Below w.heap.size w w':=by
 have Tl:(decide (-1000000000000000<=v)&&decide (v<=1000000000000000))=true:=by simp [Xz,XA]
 go_enter ab5,acf
 go_wp2_with (go_at_call 143;refine (abB _ (by omega) v h w).mono ?_)
 rintro e w1 ⟨rfl,NO⟩;have hb:=rm NO;have Ow:w1.heap[1]? =some (.cells pow10Cells t fr):=(hb.block 1 h1).trans ht;clear NO h
 go_wp2_with (go_at_call 91;refine (rn v w1).mono ?_)
 rintro e w2 ⟨rfl,rfl⟩;rw [Tl]
 go_wp2_with (go_at_call 13;refine (Ga v (by omega) (by omega) w2 t fr Ow).mono ?_)
 rintro e w3 ⟨rfl,Az⟩;rw [he]
 go_wp2
 go_ret2
 exact ⟨rfl,xV hb Az⟩
set_option maxRecDepth 100000 in
theorem JQ (s:ByteArray)(v:Int)(h:aaq 64 s.data.toList= .ok v)(hs:s.size<=281474976710656)(w:Ε)(t:TypeId)(fr:Nat×Nat)(ht:w.heap[1]? =some (.cells pow10Cells t fr))(h1:1<w.heap.size)(Xz: -1000000000000000<=v)(XA:v<=1000000000000000)(he:ByteArray.mk (Ϯ v).toArray≠s):
 abq ν 119 #[.string s] w λe w'=>e= .returned (.tuple #[.int .i64 0,.bool false])/\Below w.heap.size w w':=by
 have Tl:(decide (-1000000000000000<=v)&&decide (v<=1000000000000000))=true:=by simp [Xz,XA]
 go_enter ab5,acf
 go_wp2_with (go_at_call 143;refine (abB _ (by omega) v h w).mono ?_)
 rintro e w1 ⟨rfl,NO⟩;have hb:=rm NO;have Ow:w1.heap[1]? =some (.cells pow10Cells t fr):=(hb.block 1 h1).trans ht;clear NO h
 go_wp2_with (go_at_call 91;refine (rn v w1).mono ?_)
 rintro e w2 ⟨rfl,rfl⟩;rw [Tl]
 go_wp2_with (go_at_call 13;refine (Ga v (by omega) (by omega) w2 t fr Ow).mono ?_)
 rintro e w3 ⟨rfl,Az⟩;have VH:((ByteArray.mk (Ϯ v).toArray).toList==s.toList)=false:=by
  rw [beq_eq_false_iff_ne];intro q;rw [ad0,ad0] at q;exact he (WideShapes.bytes_inj q)
 generalize ByteArray.mk (Ϯ v).toArray=q at he VH⊢;clear he
 go_wp2
 go_ret2
 exact ⟨rfl,xV hb Az⟩
set_option maxRecDepth 100000 in
theorem Qf (s:ByteArray)(v:Int)(h:aaq 64 s.data.toList= .ok v)(hs:s.size<=281474976710656)(w:Ε)(Tl:(decide (-1000000000000000<=v)&&decide (v<=1000000000000000))=false):
 abq ν 119 #[.string s] w λe w'=>e= .returned (.tuple #[.int .i64 0,.bool false])/\Below w.heap.size w w':=by
 go_enter ab5,acf
 go_wp2_with (go_at_call 143;refine (abB _ (by omega) v h w).mono ?_)
 rintro e w1 ⟨rfl,NO⟩;have hb:=rm NO;clear NO h
 go_wp2_with (go_at_call 91;refine (rn v w1).mono ?_)
 rintro e w2 ⟨rfl,rfl⟩;rw [Tl]
 go_wp2
 go_ret2
 exact ⟨rfl,hb⟩
set_option maxRecDepth 100000 in
theorem Hj (s:ByteArray)(h:aaq 64 s.data.toList=aaq 64 [])(hs:s.size<=281474976710656)(w:Ε)(ev:Value)(hv:w.cell? ⟨4,0,none⟩=some ev)(G9:ev= .nilIface\/ ∃te pe,ev= .iface te pe):
 abq ν 119 #[.string s] w λe w'=>e= .returned (.tuple #[.int .i64 0,.bool false])/\Below w.heap.size w w':=by
 go_enter ab5,acf
 go_wp2_with (go_at_call 143;refine (Tryz.strconv_ParseInt_10_at64_syntax _ (by omega) h ev w hv G9).mono ?_)
 rintro e w1 ⟨N,rfl,_,_,hb⟩;clear h hv G9
 go_wp2
 go_ret2
 exact ⟨rfl,hb⟩
set_option maxRecDepth 100000 in
theorem JR (s:ByteArray)(h:aaq 64 s.data.toList= .range)(hs:s.size<=281474976710656)(w:Ε)(ev:Value)(hv:w.cell? ⟨5,0,none⟩=some ev)(G9:ev= .nilIface\/ ∃te pe,ev= .iface te pe):
 abq ν 119 #[.string s] w λe w'=>e= .returned (.tuple #[.int .i64 0,.bool false])/\Below w.heap.size w w':=by
 go_enter ab5,acf
 go_wp2_with (go_at_call 143;refine (Tryz.strconv_ParseInt_10_at64_range _ (by omega) h ev w hv G9).mono ?_)
 rintro e w1 ⟨N,rfl,_,_,hb⟩;clear h hv G9
 go_wp2
 go_ret2
 exact ⟨rfl,hb⟩
end
noncomputable def nL (s:List UInt8):Int×Bool:=
 match aaq 64 s with
 | .ok v=>if (-1000000000000000<=v/\v<=1000000000000000)/\Ϯ v=s then (v,true) else (0,false)
 |_=>(0,false)
noncomputable def ej (a0:List UInt8):Option (Int×Bool):=
 aY (a0.length<=281474976710656)<|some (nL a0)
theorem Gb {a0:List UInt8}{r:Int×Bool}(h:ej a0=some r):CallOK ν 119 [.bP .str a0] [⟨false,(.int .i64),r.1⟩,⟨false,.bool,r.2⟩] []:=by
 obtain ⟨p,h⟩:=iK h;have h:=aZ h;subst h;exact uR (ps:=[⟨.str,a0⟩]) (rs:=[⟨.int .i64,(nL a0).1⟩,⟨.bool,(nL a0).2⟩]) ⟨_,ab5,by kernel_rfl,by kernel_rfl⟩ (by simp [Ty.simple]) (by simp [Ty.simple]) λw S I=>by
  obtain ⟨_,t,fr,ht⟩:=Glob.pow I;obtain ⟨_,⟨h6,R,T,v6⟩,h7,U,c7,v7⟩:=I;have J:1<w.heap.size:=(Array.getElem?_eq_some_iff.1 ht).1;have key:abq ν 119 #[.string ⟨a0.toArray⟩] w λe w'=>e= .returned (.tuple #[.int .i64 (nL a0).1,.bool (nL a0).2])/\RowKit.Below w.heap.size w w':=by
   unfold nL;cases hp:aaq 64 a0 with
   |ok v=>
    simp only;by_cases j: -1000000000000000<=v/\v<=1000000000000000;by_cases o:Ϯ v=a0;rw [if_pos ⟨j,o⟩];exact Tk ⟨a0.toArray⟩ v hp p w t fr ht J j.1 j.2 (by rw [o]);rw [if_neg λq=>o q.2];exact JQ ⟨a0.toArray⟩ v hp p w t fr ht J j.1 j.2 (λq=>o (by injection q with q;exact List.toArray_inj q));rw [if_neg λq=>j q.1];exact Qf ⟨a0.toArray⟩ v hp p w (by
     rw [Bool.eq_false_iff];intro q;simp only [Bool.and_eq_true,decide_eq_true_eq] at q;exact j q)
   |range=>exact JR ⟨a0.toArray⟩ hp p w U c7 v7
   |_=>exact Hj ⟨a0.toArray⟩ hp p w R T v6
  exact key.mono λe w' ⟨o,hw⟩=>⟨⟨_,o,rfl⟩,hw⟩
end
end Go.Proofs
