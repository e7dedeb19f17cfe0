import Derived.Test.YtjnkhcgmgkhnaaaGreatDoorDeskGenC
import Derived.Test.YtjnkhcgmgkhnaaaGreatDoorProg
set_option linter.all false
open Go.Ide.CallOK renaming pX→ϯ
open Go.Ide.HT renaming g→θ,block→ξ,seq→υ,ret→Δ,skip→Η,k→Τ,cb→Ω,lp→Ϩ,xe→Ϫ,jn→ϰ,cj→ϻ,re→aa5,ex→adl,rg→aeg,l→Ο
open Go.Ide.RG renaming cut→acI,jV→afd
open Go.Lib renaming itoa→Ϯ,pow10Tab→ahp
open Go.Proofs.Tryz renaming prog→ν
open Int renaming toNat→δ
open List renaming getD→ε,length→ζ,replicate→π,length_map→ϔ,set→aag,map_map→aeb
open Nat renaming zero_lt_one→Ν
namespace Go.Proofs
open Go.Ide
noncomputable section
def lF (a0:GP)(r:Int×GI)(p:Int×(List ((cq .i64 4).D×Int))×GI)(j:Int×GI):Option ((Int×GI)⊕GI):=
 bif (decide (j.1<a0.2.1)) then
  (cC (a0.1,a0.2.1,a0.2.2.1,a0.2.2.2) p.1 j.1).bind λo=>
  aY (0<=o/\o<aW r.2) (
   aY (0<=(bf .i64 1 j.1)/\(bf .i64 1 j.1)<((5:Nat):Int)) (
    aY (0+1*δ (bf .i64 1 j.1)<ζ j.2) (
     some (.inl ((bf .i64 j.1 1),(aag j.2 (0+1*δ (bf .i64 1 j.1)) (ε r.2 (δ o) 0)))))))
 else
  some (.inr j.2)
def lG (a0:GP)(r:Int×GI)(j:Int×(List ((cq .i64 4).D×Int))×GI):Option ((Int×(List ((cq .i64 4).D×Int))×GI)⊕GI):=
 bif (decide (j.1<a0.1)) then
  aY (0<=j.1/\j.1<aW r.2) (
   (rounds (lF a0 r j) (0,([(ε r.2 (δ j.1) 0),0,0,0,0]:GI))).bind λo=>
   aY (ζ o=5) (
    (show Option (Int×(List ((cq .i64 4).D×Int))) from
     bif (!((bX (t:=(.st (cq .i64 4))) (u:=tI) j.2.1 (jY .i64 4 0 o)).isSome)) then
      aY (bX (t:=(.st (cq .i64 4))) (u:=tI) j.2.1 (jY .i64 4 0 o)=none) (
       some ((aW j.2.1),(j.2.1++[((jY .i64 4 0 o),(aW j.2.1))])))
     else
      some (((bX (t:=(.st (cq .i64 4))) (u:=tI) j.2.1 (jY .i64 4 0 o)).getD 0),j.2.1)).bind λp=>
    aY (0<=j.1/\j.1<aW j.2.2) (
     some (.inl ((bf .i64 j.1 1),p.2,(aag j.2.2 (δ j.1) p.1))))))
 else
  some (.inr j.2.2)
def lH (a0:GP)(j:Int×GI):Option ((Int×GI)⊕GI):=
 bif (decide (j.1<a0.1)) then
  (rounds (lG a0 j) (0,([]:List ((cq .i64 4).D×Int)),(π (δ a0.1) (0:Int)))).bind λo=>
  some (.inl ((bf .i64 j.1 1),o))
 else
  some (.inr j.2)
def pg (a0:GP)(j:Int×GI):Option ((Int×GI)⊕GI):=
 bif (decide (j.1<(aW a0.2.2.2))) then
  (show Option GI from
   aY (0<=j.1/\j.1<aW a0.2.2.2) (
    bif (ε a0.2.2.2 (δ j.1) false) then
     aY (0<=j.1/\j.1<aW j.2) (
      some (aag j.2 (δ j.1) 1))
    else
     some j.2)).bind λo=>
  some (.inl ((bf .i64 j.1 1),o))
 else
  some (.inr j.2)
def lI (a0:GP):Option GI:=
 aY (0<=a0.1/\a0.1<=4294967296) (
  (rounds (pg a0) (0,(π (δ a0.1) (0:Int)))).bind λj=>
  (rounds (lH a0) (0,j)).bind λo=>
  some o)
theorem Pz {a0}{r}(hr:lI a0=some r):CallOK ν 61 [.bP (.st gP) a0] [⟨true,cg,r⟩] []:=
 dn Tryz.func61 rfl λcx o hF=>θ o [] aU (bg hr λD0 hr=>θ o [oH,oH,(hT tI)] (bD (LM D0)) (υ (θ o [] aU (ξ (Ϩ o hr (λs2=>up [1,3,17,18] [(19,iV s2.1)] [0] [(1,.seq tI s2.2)] 0) (λr4=>(.exit 0,up [1,3] [] [0] [(1,.seq tI r4)] 0)) (λr4 hr=>(bm (aX (υ (θ o [] aU (ξ (Ϩ o hr (λR=>up [1,3,30] [(31,iV R.1)] [0] [(1,.seq tI R.2)] 0) (λr7=>(.exit 2,up [3] [] [] [(1,.seq tI r7)] 0)) (λr7 hr=>(bm (aX (θ o [] aU (by (cases hr;exact (Δ (bY aU)))))))) λR x8 ab A8=>θ o [] aU (ϻ ab (λEE ab=>υ (ξ (adl ⟨[(1,pV 0 0),(3,aV 1),(30,iV a0.1),(31,iV R.1),(32,bV (decide (R.1<a0.1)))],[(0,.box [iC a0.1,iC a0.2.1,nC a0.2.2.1,.bp (.sl .bool) a0.2.2.2]),(1,.seq tI R.2)],2⟩ o (by (refine υ (aeg (RG.makeMap (.st (cq .i64 4)) tI o rfl rfl rfl (by kernel_rfl) (by kernel_rfl) (afd [1,3,6,30,31] [oH] ⟨[(1,pV 0 0),(3,aV 1),(6,.one (.fK 2)),(30,iV a0.1),(31,iV R.1)],[(2,.mp (.st (cq .i64 4)) tI ([]:List ((cq .i64 4).D×Int))),(0,.box [iC a0.1,iC a0.2.1,nC a0.2.2.1,.bp (.sl .bool) a0.2.2.2]),(1,.seq tI R.2)],3⟩ o.P o.N (by kernel_rfl) aU ?_)));exact (θ o [oH,oH,(hT tI)] (bD (LM D0)) (υ (θ o [] aU (ξ (Ϩ o ab (λj=>up [1,3,6,7,30,31,38] [(39,iV j.1)] [0,1] [(2,.mp (.st (cq .i64 4)) tI j.2.1),(3,.seq tI j.2.2)] 0) (λNH=>(.exit 4,up [1,7,30,31] [] [0] [(3,.seq tI NH)] 0)) (λNH ab=>(bm (aX (Ο o [] aU (bj (aX (Τ o [] aU λ_ h=>(bz (lN ab h))))))))) λj x15 I Jp=>θ o [] aU (ϻ I (λJq I=>υ (ξ (θ o [] aU (bg I λad I=>adl ⟨[(1,pV 0 0),(3,aV 1),(6,.one (.fK 2)),(7,aV 3),(8,iV j.1),(30,iV a0.1),(31,iV R.1),(38,iV a0.1),(39,iV j.1)],[(0,.box [iC a0.1,iC a0.2.1,nC a0.2.2.1,.bp (.sl .bool) a0.2.2.2]),(1,.seq tI R.2),(2,.mp (.st (cq .i64 4)) tI j.2.1),(3,.seq tI j.2.2)],4⟩ o (by (refine υ (aeg (acI 4 [oH,oH,oH,oH] ⟨[(45,iV (ε R.2 (δ j.1) 0)),(44,.one (.cZ 1 (δ j.1) 1 0)),(43,iV j.1),(42,aV 1),(1,pV 0 0),(3,aV 1),(6,.one (.fK 2)),(7,aV 3),(8,iV j.1),(30,iV a0.1),(31,iV R.1),(38,iV a0.1),(39,iV j.1)],[(0,.box [iC a0.1,iC a0.2.1,nC a0.2.2.1,.bp (.sl .bool) a0.2.2.2]),(1,.seq tI R.2),(2,.mp (.st (cq .i64 4)) tI j.2.1),(3,.seq tI j.2.2)],4⟩ o.P o.N (by kernel_rfl) (gy ad (gy (bG ad) aU)) (RG.I8 (n:=1) (len:=5) (E:=2) [iC (ε R.2 (δ j.1) 0),iC 0,iC 0,iC 0,iC 0] o rfl rfl rfl (by kernel_rfl) (by kernel_rfl) (by kernel_rfl) (z:= .agg (π 5 (Value.int .i64 0)).toArray) (by kernel_rfl) (by kernel_rfl) rfl (by kernel_rfl) (RG.O0 .i64 5 o rfl rfl rfl (by kernel_rfl) (by kernel_rfl) (by kernel_rfl) (RG.O1 (k:= .i64) (n:=5) ([(ε R.2 (δ j.1) 0),0,0,0,0]:GI) o rfl rfl rfl (by kernel_rfl) rfl rfl (show ζ (π 5 0)=5 from rfl) rfl rfl rfl (afd [1,3,6,7,8,9,30,31,38,39] [] ⟨[(1,pV 0 0),(3,aV 1),(6,.one (.fK 2)),(7,aV 3),(8,iV j.1),(9,.one (.cZ 4 0 1 0)),(30,iV a0.1),(31,iV R.1),(38,iV a0.1),(39,iV j.1)],[(4,.seq tI ([(ε R.2 (δ j.1) 0),0,0,0,0]:GI)),(4,.seq tI (π 5 0)),(0,.box [iC a0.1,iC a0.2.1,nC a0.2.2.1,.bp (.sl .bool) a0.2.2.2]),(1,.seq tI R.2),(2,.mp (.st (cq .i64 4)) tI j.2.1),(3,.seq tI j.2.2)],5⟩ o.P o.N (by kernel_rfl) aU ?_))))));exact (υ (θ o [] aU (ξ (Ϩ o I (λWB=>up [1,3,6,7,8,9,30,31,38,39,48] [(49,iV WB.1)] [0,1,2,3] [(4,.seq tI WB.2)] 0) (λp=>(.exit 6,up [1,3,6,7,8,9,30,31,38,39] [] [0,1,2,3] [(4,.seq tI p)] 0)) (λp I=>(bm (aX (bg I λae I=>adl ⟨[(1,pV 0 0),(3,aV 1),(6,.one (.fK 2)),(7,aV 3),(8,iV j.1),(9,.one (.cZ 4 0 1 0)),(30,iV a0.1),(31,iV R.1),(38,iV a0.1),(39,iV j.1)],[(0,.box [iC a0.1,iC a0.2.1,nC a0.2.2.1,.bp (.sl .bool) a0.2.2.2]),(1,.seq tI R.2),(2,.mp (.st (cq .i64 4)) tI j.2.1),(3,.seq tI j.2.2),(4,.seq tI p)],5⟩ o (by (refine υ (aeg (acI 1 [oH] ⟨[(64,.one (.fK 2)),(1,pV 0 0),(3,aV 1),(6,.one (.fK 2)),(7,aV 3),(8,iV j.1),(9,.one (.cZ 4 0 1 0)),(30,iV a0.1),(31,iV R.1),(38,iV a0.1),(39,iV j.1)],[(0,.box [iC a0.1,iC a0.2.1,nC a0.2.2.1,.bp (.sl .bool) a0.2.2.2]),(1,.seq tI R.2),(2,.mp (.st (cq .i64 4)) tI j.2.1),(3,.seq tI j.2.2),(4,.seq tI p)],5⟩ o.P o.N (by kernel_rfl) aU (RG.Ny (k:= .i64) (n:=5) o rfl rfl rfl (by kernel_rfl) (by kernel_rfl) (by kernel_rfl) rfl rfl ae (RG.AT (t:=(.st (cq .i64 4))) (u:=tI) (x:=(jY .i64 4 0 p)) (z:=Value.int .i64 0) (y0:=0) o rfl rfl rfl (by kernel_rfl) (K:=172) (E:=2) (by kernel_rfl) Jx rfl (by kernel_rfl) rfl rfl rfl rfl rfl (afd [1,3,6,7,8,9,11,12,30,31,38,39] [oH,oH,oH,oH,oH] ⟨[(1,pV 0 0),(3,aV 1),(6,.one (.fK 2)),(7,aV 3),(8,iV j.1),(9,.one (.cZ 4 0 1 0)),(11,iV ((bX (t:=(.st (cq .i64 4))) (u:=tI) j.2.1 (jY .i64 4 0 p)).getD 0)),(12,bV ((bX (t:=(.st (cq .i64 4))) (u:=tI) j.2.1 (jY .i64 4 0 p)).isSome)),(30,iV a0.1),(31,iV R.1),(38,iV a0.1),(39,iV j.1)],[(0,.box [iC a0.1,iC a0.2.1,nC a0.2.2.1,.bp (.sl .bool) a0.2.2.2]),(1,.seq tI R.2),(2,.mp (.st (cq .i64 4)) tI j.2.1),(3,.seq tI j.2.2),(4,.seq tI p)],5⟩ o.P o.N (by kernel_rfl) aU ?_)))));exact (ϰ I (λv25=>up [1,3,6,7,8,30,31,38,39] [(11,iV v25.1)] [0,1,3] [(2,.mp (.st (cq .i64 4)) tI v25.2)] 0) (λv25 I=>bg I λaf I=>Ο o [] (dd af (bG af)) (bj (aX (Τ o [] aU λ_ h=>(bz (lN I h)))))) λ_ U ag=>θ o [] aU (Ω U (λPA U=>adl ⟨[(1,pV 0 0),(3,aV 1),(6,.one (.fK 2)),(7,aV 3),(8,iV j.1),(9,.one (.cZ 4 0 1 0)),(11,iV ((bX (t:=(.st (cq .i64 4))) (u:=tI) j.2.1 (jY .i64 4 0 p)).getD 0)),(30,iV a0.1),(31,iV R.1),(38,iV a0.1),(39,iV j.1),(70,bV (!((bX (t:=(.st (cq .i64 4))) (u:=tI) j.2.1 (jY .i64 4 0 p)).isSome)))],[(0,.box [iC a0.1,iC a0.2.1,nC a0.2.2.1,.bp (.sl .bool) a0.2.2.2]),(1,.seq tI R.2),(2,.mp (.st (cq .i64 4)) tI j.2.1),(3,.seq tI j.2.2),(4,.seq tI p)],5⟩ o (by (refine υ (aeg (acI 1 [oH] ⟨[(71,.one (.fK 2)),(1,pV 0 0),(3,aV 1),(6,.one (.fK 2)),(7,aV 3),(8,iV j.1),(9,.one (.cZ 4 0 1 0)),(11,iV ((bX (t:=(.st (cq .i64 4))) (u:=tI) j.2.1 (jY .i64 4 0 p)).getD 0)),(30,iV a0.1),(31,iV R.1),(38,iV a0.1),(39,iV j.1),(70,bV (!((bX (t:=(.st (cq .i64 4))) (u:=tI) j.2.1 (jY .i64 4 0 p)).isSome)))],[(0,.box [iC a0.1,iC a0.2.1,nC a0.2.2.1,.bp (.sl .bool) a0.2.2.2]),(1,.seq tI R.2),(2,.mp (.st (cq .i64 4)) tI j.2.1),(3,.seq tI j.2.2),(4,.seq tI p)],5⟩ o.P o.N (by kernel_rfl) aU (RG.OZ o rfl ⟨rfl,rfl,rfl⟩ rfl rfl (by kernel_rfl) (K:=172) (E:=2) (by kernel_rfl) rfl rfl (afd [1,3,6,7,8,9,11,30,31,38,39] [oH] ⟨[(1,pV 0 0),(3,aV 1),(6,.one (.fK 2)),(7,aV 3),(8,iV j.1),(9,.one (.cZ 4 0 1 0)),(11,iV (aW j.2.1)),(30,iV a0.1),(31,iV R.1),(38,iV a0.1),(39,iV j.1)],[(0,.box [iC a0.1,iC a0.2.1,nC a0.2.2.1,.bp (.sl .bool) a0.2.2.2]),(1,.seq tI R.2),(2,.mp (.st (cq .i64 4)) tI j.2.1),(3,.seq tI j.2.2),(4,.seq tI p)],5⟩ o.P o.N (by kernel_rfl) aU ?_))));exact (bg U λJw U=>adl ⟨[(1,pV 0 0),(3,aV 1),(6,.one (.fK 2)),(7,aV 3),(8,iV j.1),(9,.one (.cZ 4 0 1 0)),(11,iV (aW j.2.1)),(30,iV a0.1),(31,iV R.1),(38,iV a0.1),(39,iV j.1)],[(0,.box [iC a0.1,iC a0.2.1,nC a0.2.2.1,.bp (.sl .bool) a0.2.2.2]),(1,.seq tI R.2),(2,.mp (.st (cq .i64 4)) tI j.2.1),(3,.seq tI j.2.2),(4,.seq tI p)],5⟩ o (HT.V1 (λhq=>(acI 1 [oH] ⟨[(73,.one (.fK 2)),(1,pV 0 0),(3,aV 1),(6,.one (.fK 2)),(7,aV 3),(8,iV j.1),(9,.one (.cZ 4 0 1 0)),(11,iV (aW j.2.1)),(30,iV a0.1),(31,iV R.1),(38,iV a0.1),(39,iV j.1)],[(0,.box [iC a0.1,iC a0.2.1,nC a0.2.2.1,.bp (.sl .bool) a0.2.2.2]),(1,.seq tI R.2),(2,.mp (.st (cq .i64 4)) tI j.2.1),(3,.seq tI j.2.2),(4,.seq tI p)],5⟩ o.P o.N (by kernel_rfl) aU (RG.Ny (k:= .i64) (n:=5) o rfl rfl rfl (by kernel_rfl) (by kernel_rfl) (by kernel_rfl) rfl rfl ae (acI 1 [oH] ⟨[(75,iV (aW j.2.1)),(74,.agg [iC (ε p 0 0),iC (ε p 1 0),iC (ε p 2 0),iC (ε p 3 0),iC (ε p 4 0)]),(73,.one (.fK 2)),(1,pV 0 0),(3,aV 1),(6,.one (.fK 2)),(7,aV 3),(8,iV j.1),(9,.one (.cZ 4 0 1 0)),(11,iV (aW j.2.1)),(30,iV a0.1),(31,iV R.1),(38,iV a0.1),(39,iV j.1)],[(0,.box [iC a0.1,iC a0.2.1,nC a0.2.2.1,.bp (.sl .bool) a0.2.2.2]),(1,.seq tI R.2),(2,.mp (.st (cq .i64 4)) tI j.2.1),(3,.seq tI j.2.2),(4,.seq tI p)],5⟩ o.P o.N (by kernel_rfl) aU (RG.qw (t:=(.st (cq .i64 4))) (u:=tI) (x:=(jY .i64 4 0 p)) (y:=(aW j.2.1)) o (.inl rfl) rfl rfl (K:=172) (E:=2) (by kernel_rfl) Jx rfl rfl rfl rfl rfl rfl rfl Jw (RG.last [] ⟨[(75,iV (aW j.2.1)),(74,.agg [iC (ε p 0 0),iC (ε p 1 0),iC (ε p 2 0),iC (ε p 3 0),iC (ε p 4 0)]),(73,.one (.fK 2)),(1,pV 0 0),(3,aV 1),(6,.one (.fK 2)),(7,aV 3),(8,iV j.1),(9,.one (.cZ 4 0 1 0)),(11,iV (aW j.2.1)),(30,iV a0.1),(31,iV R.1),(38,iV a0.1),(39,iV j.1)],[(2,.mp (.st (cq .i64 4)) tI (j.2.1++[((jY .i64 4 0 p),(aW j.2.1))])),(0,.box [iC a0.1,iC a0.2.1,nC a0.2.2.1,.bp (.sl .bool) a0.2.2.2]),(1,.seq tI R.2),(2,.mp (.st (cq .i64 4)) tI j.2.1),(3,.seq tI j.2.2),(4,.seq tI p)],5⟩ o.P o.N (by kernel_rfl) aU hq)))))) (aX (aa5 o (ag _ (aZ U))))))))) λPA U=>Η (aX (aa5 o (ag _ (aZ U)))))))))))) λWB x31 J WC=>θ o [] aU (ϻ J (λWD J=>υ (ξ (θ o [] aU (bc J qz λWw ah J=>bg J λai J=>bg J λMf J=>bg J λMg J=>Ο o (nO 6 [(cl ah)]) (iE ah ai (bG ai) Mf (bD Mg)) (bj (aX (Τ o [] aU λ_ h=>(bz (lN J h))))))))) λWD J=>Ϫ o (bw (bA (WC _ (bd J))))))))))))))) λJq I=>Ϫ o (bw (bA (Jp _ (bd I))))))))))))))) λEE ab=>Ϫ o (bw (bA (A8 _ (bd ab)))))))))))) λs2 Yu aa PB=>θ o [] aU (ϻ aa (λuk aa=>ϰ aa (λv45=>up [1,3,17,18,19] [] [0] [(1,.seq tI v45)] 0) (λv45 aa=>Τ o [] aU λ_ h=>(bz (lN aa h))) λ_ T aj=>ξ (bg T λPC T=>θ o [] (bD PC) (θ o [] aU (Ω T (λzg T=>bg T λak T=>Τ o [] (dd ak (bG ak)) λ_ h=>(bj (aX (h.ht (aj _ (aZ T)))))) λzg T=>Η (bj (aX (aa5 o (aj _ (aZ T))))))))) λuk aa=>Ϫ o (bw (bA (PB _ (bd aa))))))))))
theorem PD:jW ν 2 tI:=jW.int (by kernel_rfl)
def ix (a0:GI)(a1:Int)(s1:Int):Option ((Int)⊕(Unit⊕Int)):=
 bif (decide (s1<(aW a0))) then
  aY (0<=s1/\s1<aW a0) (
   bif (a1==(ε a0 (δ s1) 0)) then
    some (.inr (.inr s1))
   else
    some (.inl (bf .i64 s1 1)))
 else
  some (.inr (.inl ()))
def dJ (a0:GI)(a1:Int):Option (Int):=
 (rounds (ix a0 a1) 0).bind λj=>match j with
  | .inl p=>
   some (-1)
  | .inr o=>
   some o
theorem PE {a0}{a1}{r}(p:dJ a0 a1=some r):CallOK ν 63 [.bP cg a0,.bP tI a1] [⟨false,tI,r⟩] []:=
 dn Tryz.func63 rfl λcx o hF=>θ o [] aU (υ (θ o [] aU (ξ (Ϩ o p (λU=>up [0,1,7] [(8,iV U)] [] [] 0) (λJ=>match J with| .inl r3=>(.exit 0,up [] [] [] [] 0)| .inr r4=>(.ret,up [] [(4,iV r4)] [] [] 0)) (λJ=>match J with| .inl r3=>λp=>(bm (aX (θ o [] aU (by (cases p;exact (Δ (bY aU)))))))| .inr r4=>λp=>by (cases p;exact (bH (bn (bY aU))))) λU x5 j t=>θ o [] aU (ϻ j (λR j=>υ (ξ (θ o [] aU (bg j λT j=>θ o [] (bD T) (Ω j (λI j=>θ o [] aU (HT.xr o (bH (bn (eZ (t _ (bd j))))))) λI j=>Η (bj (aX (Τ o [] aU λ_ h=>(bz (lN j h)))))))))) λR j=>Ϫ o (bw (bA (t _ (bd j)))))))))
def gj (a0:Int)(a1:GI):Option (Int):=
 (dJ a1 a0).bind λj=>
 some j
theorem Jy {a0}{a1}{r}(o:gj a0 a1=some r):CallOK ν 62 [.bP tI a0,.fW cg a1] [⟨false,tI,r⟩] []:=
 dn Tryz.func62 rfl λcx p t=>θ p [] aU (bc o PE λI j o=>θ p [oH,oH,(cl j)] (bD j) (by (cases o;exact (Δ (bY aU)))))
def ji (a0:Int)(a1:GP)(a2:GI):Option (Bool):=
 (gj a0 a2).bind λj=>
 aY (0<=j/\j<aW a1.2.2.2) (
  some (ε a1.2.2.2 (δ j) false))
theorem PF {a0}{a1}{a2}{r}(j:ji a0 a1 a2=some r):CallOK ν 66 [.bP tI a0,.fW (.st gP) a1,.fW (.cl 62 cg) a2] [⟨false,.bool,r⟩] []:=
 dn Tryz.func66 rfl λcx t I=>θ t [] aU (bc j Jy λJ o j=>bg j λp j=>HT.dg t (nO 4 [(cl o)]) (dd o p) (by (cases j;exact (Δ (bY aU)))))
def jk (a0:Int)(a1:Int)(a2:GI)(a3:GP)(a4:GI):Option (Int):=
 (gj a0 a4).bind λo=>
 (cC (a3.1,a3.2.1,a3.2.2.1,a3.2.2.2) o a1).bind λj=>
 aY (0<=j/\j<aW a2) (
  some (ε a2 (δ j) 0))
theorem PG {a0}{a1}{a2}{a3}{a4}{r}(j:jk a0 a1 a2 a3 a4=some r):CallOK ν 64 [.bP tI a0,.bP tI a1,.fW cg a2,.fW (.st gP) a3,.fW (.cl 62 cg) a4] [⟨false,tI,r⟩] []:=
 dn Tryz.func64 rfl λcx I J=>θ I [] aU (bc j Jy λR o j=>bc j qz λT p j=>bg j λt j=>HT.dg I (nO 4 [(cl o),oH,(cl p)]) (kQ o p t) (by (cases j;exact (Δ (bY aU)))))
def iZ (a0:Int)(a2:GI×GP×GI)(s1:Int×(List (Int×Int))×GI×GI×GZ)(j:Int×(List (Int×Int))×GI×GI):Option ((Int×(List (Int×Int))×GI×GI)⊕(((List (Int×Int))×GI×GI))):=
 bif (decide (j.1<a0)) then
  (jk (ε s1.2.2.1 (δ s1.1) 0) j.1 a2.1 (a2.2.1.1,a2.2.1.2.1,a2.2.1.2.2.1,a2.2.1.2.2.2) a2.2.2).bind λo=>
  (show Option (Int×(List (Int×Int))×GI) from
   bif (!((bX (t:=tI) (u:=tI) j.2.1 o).isSome)) then
    aY (bX (t:=tI) (u:=tI) j.2.1 o=none) (
     aY (ζ j.2.2.1+ζ ([o]:GI)<=bl) (
      some ((aW j.2.2.1),(j.2.1++[(o,(aW j.2.2.1))]),(j.2.2.1++([o]:GI)))))
   else
    some (((bX (t:=tI) (u:=tI) j.2.1 o).getD 0),j.2.1,j.2.2.1)).bind λp=>
  aY (ζ j.2.2.2+ζ ([p.1]:GI)<=bl) (
   some (.inl ((bf .i64 j.1 1),p.2.1,p.2.2,(j.2.2.2++([p.1]:GI)))))
 else
  some (.inr (j.2.1,j.2.2.1,j.2.2.2))
def ja (a0:Int)(a2:GI×GP×GI)(a3:GP×GI)(s1:Int×(List (Int×Int))×GI×GI×GZ):Option ((Int×(List (Int×Int))×GI×GI×GZ)⊕((GI×GI×GZ)⊕Unit)):=
 bif (decide (s1.1<(aW s1.2.2.1))) then
  aY (0<=s1.1/\s1.1<aW s1.2.2.1) (
   (ji (ε s1.2.2.1 (δ s1.1) 0) (a3.1.1,a3.1.2.1,a3.1.2.2.1,a3.1.2.2.2) a3.2).bind λo=>
   aY (ζ s1.2.2.2.2+ζ ([o]:GZ)<=bl) (
    (rounds (iZ a0 a2 s1) (0,s1.2.1,s1.2.2.1,s1.2.2.2.1)).bind λj=>
    bif (decide ((aW j.2.1)>64)) then
     some (.inr (.inr ()))
    else
     some (.inl ((bf .i64 s1.1 1),j.1,j.2.1,j.2.2,(s1.2.2.2.2++([o]:GZ))))))
 else
  some (.inr (.inl (s1.2.2.1,s1.2.2.2.1,s1.2.2.2.2)))
def fA (a0:Int)(a1:Int)(a2:GI×GP×GI)(a3:GP×GI):Option (GP×Bool):=
 (rounds (ja a0 a2 a3) (0,(([]:List (Int×Int))++[(a1,0)]),([a1]:GI),([]:GI),([]:GZ))).bind λo=>match o with
  | .inl j=>
   some (((aW j.1),a0,j.2.1,j.2.2),true)
  | .inr p=>
   some ((0,0,([]:GI),([]:GZ)),false)
theorem PH {a0}{a1}{a2}{a3}{r}(hr:fA a0 a1 a2 a3=some r):CallOK ν 65 [.bP tI a0,.bP tI a1,.bP (.cl 64 (.pair cg (.pair (.st gP) (.cl 62 cg)))) a2,.bP (.cl 66 (.pair (.st gP) (.cl 62 cg))) a3] [⟨true,(.st gP),r.1⟩,⟨false,.bool,r.2⟩] []:=
 dn Tryz.func65 rfl λcx o hF=>θ o [] aU (θ o [] aU (adl ⟨[(0,iV a0),(1,iV a1),(2,.one (.bp (.cl 64 (.pair cg (.pair (.st gP) (.cl 62 cg)))) a2)),(3,.one (.bp (.cl 66 (.pair (.st gP) (.cl 62 cg))) a3)),(8,pV 0 0),(10,pV 1 0)],[(1,.box [iC 0,iC a0,.br,.br]),(0,.box [iC 0,iC 0,.br,.br])],2⟩ o (by (refine υ (aeg (RG.makeMap tI tI o rfl rfl rfl (by kernel_rfl) (by kernel_rfl) (acI 1 [oH] ⟨[(22,iV a1),(21,.one (.fK 2)),(0,iV a0),(1,iV a1),(2,.one (.bp (.cl 64 (.pair cg (.pair (.st gP) (.cl 62 cg)))) a2)),(3,.one (.bp (.cl 66 (.pair (.st gP) (.cl 62 cg))) a3)),(8,pV 0 0),(10,pV 1 0)],[(2,.mp tI tI ([]:List (Int×Int))),(1,.box [iC 0,iC a0,.br,.br]),(0,.box [iC 0,iC 0,.br,.br])],3⟩ o.P o.N (by kernel_rfl) aU (RG.qw (t:=tI) (u:=tI) (x:=a1) (y:=0) o (.inr rfl) rfl rfl (K:=2) (E:=2) (by kernel_rfl) PD rfl rfl rfl rfl rfl rfl rfl (show bX (t:=tI) (u:=tI) ([]:List (Int×Int)) a1=none from rfl) (afd [0,1,2,3,8,10,11] [oH,oH] ⟨[(0,iV a0),(1,iV a1),(2,.one (.bp (.cl 64 (.pair cg (.pair (.st gP) (.cl 62 cg)))) a2)),(3,.one (.bp (.cl 66 (.pair (.st gP) (.cl 62 cg))) a3)),(8,pV 0 0),(10,pV 1 0),(11,.one (.fK 2))],[(2,.mp tI tI (([]:List (Int×Int))++[(a1,0)])),(2,.mp tI tI ([]:List (Int×Int))),(1,.box [iC 0,iC a0,.br,.br]),(0,.box [iC 0,iC 0,.br,.br])],3⟩ o.P o.N (by kernel_rfl) aU ?_)))));exact (θ o [oH,(hT tI)] aU (υ (θ o [] aU (ξ (Ϩ o hr (λJ=>up [0,2,3,8,10,11,12] [(13,iV J.1)] [0] [(1,.box [iC 0,iC a0,.all 11,.all 12]),(2,.mp tI tI J.2.1),(3,.seq tI J.2.2.1),(11,.seq tI J.2.2.2.1),(12,.seq .bool J.2.2.2.2)] 9) (λr2=>match r2 with| .inl r3=>(.exit 0,up [8,10,12] [] [0] [(1,.box [iC 0,iC a0,.all 11,.all 12]),(3,.seq tI r3.1),(11,.seq tI r3.2.1),(12,.seq .bool r3.2.2)] 9)| .inr r4=>(.ret,up [8] [(9,bV false)] [0] [] 0)) (λr2=>match r2 with| .inl r3=>λhr=>(bm (aX (θ o [] aU (θ o [] aU (by (cases hr;exact (Δ (bY aU))))))))| .inr r4=>λhr=>by (cases hr;exact (bH (bn (bY aU))))) λJ x5 p Pw=>υ (θ o [] aU (Ω p (λPe p=>Η (aX (υ (ξ (bg p λPf p=>θ o [] (dd Pf (bG Pf)) (bc p PF λU ad p=>bg p λJt p=>HT.dg o (nO 4 [(cl ad),(hT .bool),(hT .bool)]) (dd ad Jt) (υ (θ o [] aU (ξ (Ϩ o p (λj=>up [0,2,3,8,10,11,12,13,14,44] [(45,iV j.1)] [0,1,14] [(2,.mp tI tI j.2.1),(3,.seq tI j.2.2.1),(11,.seq tI j.2.2.2)] 0) (λaa=>(.exit 2,up [0,2,3,8,10,11,12,13] [] [0,1,14] [(2,.mp tI tI aa.1),(3,.seq tI aa.2.1),(11,.seq tI aa.2.2)] 0)) (λaa p=>(bm (aX (θ o [] aU (Ω p (λxQ p=>θ o [] aU (HT.xr o (bH (bn (eZ (Pw _ (bd p))))))) λxQ p=>Η (bj (aX (Τ o [] aU λ_ h=>(bz (lN p h)))))))))) λj Ys I Px=>θ o [] aU (ϻ I (λJu I=>υ (ξ (θ o [] aU (bc I PG λT ae I=>θ o [oH,oH,oH,(cl ae)] (bD ae) (adl ⟨[(0,iV a0),(2,.one (.bp (.cl 64 (.pair cg (.pair (.st gP) (.cl 62 cg)))) a2)),(3,.one (.bp (.cl 66 (.pair (.st gP) (.cl 62 cg))) a3)),(8,pV 0 0),(10,pV 1 0),(11,.one (.fK 2)),(12,aV 3),(13,iV J.1),(14,iV (ε J.2.2.1 (δ J.1) 0)),(16,iV T),(44,iV a0),(45,iV j.1)],[(0,.box [iC 0,iC 0,.br,.br]),(1,.box [iC 0,iC a0,.all 11,.all 14]),(2,.mp tI tI j.2.1),(3,.seq tI j.2.2.1),(11,.seq tI j.2.2.2),(14,.seq .bool (J.2.2.2.2++([U]:GZ)))],15⟩ o (by (refine υ (aeg (acI 2 [oH,oH] ⟨[(54,iV T),(53,.one (.fK 2)),(0,iV a0),(2,.one (.bp (.cl 64 (.pair cg (.pair (.st gP) (.cl 62 cg)))) a2)),(3,.one (.bp (.cl 66 (.pair (.st gP) (.cl 62 cg))) a3)),(8,pV 0 0),(10,pV 1 0),(11,.one (.fK 2)),(12,aV 3),(13,iV J.1),(14,iV (ε J.2.2.1 (δ J.1) 0)),(16,iV T),(44,iV a0),(45,iV j.1)],[(0,.box [iC 0,iC 0,.br,.br]),(1,.box [iC 0,iC a0,.all 11,.all 14]),(2,.mp tI tI j.2.1),(3,.seq tI j.2.2.1),(11,.seq tI j.2.2.2),(14,.seq .bool (J.2.2.2.2++([U]:GZ)))],15⟩ o.P o.N (by kernel_rfl) aU (RG.AT (t:=tI) (u:=tI) (x:=T) (z:=Value.int .i64 0) (y0:=0) o rfl rfl rfl (by kernel_rfl) (K:=2) (E:=2) (by kernel_rfl) PD rfl (by kernel_rfl) rfl rfl rfl rfl rfl (afd [0,2,3,8,10,11,12,13,14,16,17,18,44,45] [oH,oH,oH,oH,oH] ⟨[(0,iV a0),(2,.one (.bp (.cl 64 (.pair cg (.pair (.st gP) (.cl 62 cg)))) a2)),(3,.one (.bp (.cl 66 (.pair (.st gP) (.cl 62 cg))) a3)),(8,pV 0 0),(10,pV 1 0),(11,.one (.fK 2)),(12,aV 3),(13,iV J.1),(14,iV (ε J.2.2.1 (δ J.1) 0)),(16,iV T),(17,iV ((bX (t:=tI) (u:=tI) j.2.1 T).getD 0)),(18,bV ((bX (t:=tI) (u:=tI) j.2.1 T).isSome)),(44,iV a0),(45,iV j.1)],[(0,.box [iC 0,iC 0,.br,.br]),(1,.box [iC 0,iC a0,.all 11,.all 14]),(2,.mp tI tI j.2.1),(3,.seq tI j.2.2.1),(11,.seq tI j.2.2.2),(14,.seq .bool (J.2.2.2.2++([U]:GZ)))],15⟩ o.P o.N (by kernel_rfl) aU ?_))));exact (ϰ I (λab=>up [0,2,3,8,10,11,13,14,44,45] [(12,aV 16),(17,iV ab.1)] [0,1,11,14] [(2,.mp tI tI ab.2.1),(16,.seq tI ab.2.2)] 2) (λab I=>bg I λPy I=>Ο o [oH,oH,oH,(hT tI),(hT tI)] (bD Py) (bj (aX (Τ o [] aU λ_ h=>(bz (lN I h)))))) λ_ R af=>θ o [] aU (Ω R (λJv R=>θ o [] aU (bg R λzf R=>adl ⟨[(0,iV a0),(2,.one (.bp (.cl 64 (.pair cg (.pair (.st gP) (.cl 62 cg)))) a2)),(3,.one (.bp (.cl 66 (.pair (.st gP) (.cl 62 cg))) a3)),(8,pV 0 0),(10,pV 1 0),(11,.one (.fK 2)),(12,aV 3),(13,iV J.1),(14,iV (ε J.2.2.1 (δ J.1) 0)),(16,iV T),(17,iV (aW j.2.2.1)),(44,iV a0),(45,iV j.1)],[(0,.box [iC 0,iC 0,.br,.br]),(1,.box [iC 0,iC a0,.all 11,.all 14]),(2,.mp tI tI j.2.1),(3,.seq tI j.2.2.1),(11,.seq tI j.2.2.2),(14,.seq .bool (J.2.2.2.2++([U]:GZ)))],15⟩ o (by (refine υ (aeg (acI 3 [oH,oH,oH] ⟨[(64,iV (aW j.2.2.1)),(63,iV T),(62,.one (.fK 2)),(0,iV a0),(2,.one (.bp (.cl 64 (.pair cg (.pair (.st gP) (.cl 62 cg)))) a2)),(3,.one (.bp (.cl 66 (.pair (.st gP) (.cl 62 cg))) a3)),(8,pV 0 0),(10,pV 1 0),(11,.one (.fK 2)),(12,aV 3),(13,iV J.1),(14,iV (ε J.2.2.1 (δ J.1) 0)),(16,iV T),(17,iV (aW j.2.2.1)),(44,iV a0),(45,iV j.1)],[(0,.box [iC 0,iC 0,.br,.br]),(1,.box [iC 0,iC a0,.all 11,.all 14]),(2,.mp tI tI j.2.1),(3,.seq tI j.2.2.1),(11,.seq tI j.2.2.2),(14,.seq .bool (J.2.2.2.2++([U]:GZ)))],15⟩ o.P o.N (by kernel_rfl) aU (RG.qw (t:=tI) (u:=tI) (x:=T) (y:=(aW j.2.2.1)) o (.inl rfl) rfl rfl (K:=2) (E:=2) (by kernel_rfl) PD rfl rfl rfl rfl rfl rfl rfl zf (afd [0,2,3,8,10,11,12,13,14,16,17,44,45] [] ⟨[(0,iV a0),(2,.one (.bp (.cl 64 (.pair cg (.pair (.st gP) (.cl 62 cg)))) a2)),(3,.one (.bp (.cl 66 (.pair (.st gP) (.cl 62 cg))) a3)),(8,pV 0 0),(10,pV 1 0),(11,.one (.fK 2)),(12,aV 3),(13,iV J.1),(14,iV (ε J.2.2.1 (δ J.1) 0)),(16,iV T),(17,iV (aW j.2.2.1)),(44,iV a0),(45,iV j.1)],[(2,.mp tI tI (j.2.1++[(T,(aW j.2.2.1))])),(0,.box [iC 0,iC 0,.br,.br]),(1,.box [iC 0,iC a0,.all 11,.all 14]),(2,.mp tI tI j.2.1),(3,.seq tI j.2.2.1),(11,.seq tI j.2.2.2),(14,.seq .bool (J.2.2.2.2++([U]:GZ)))],15⟩ o.P o.N (by kernel_rfl) aU ?_))));exact (bg R λJw R=>Τ o [oH,oH,(hT tI),(hT tI)] (bD Jw) λ_ h=>(aX (h.ht (af _ (aZ R))))))))) λJv R=>Η (aX (aa5 o (af _ (aZ R))))))))))))) λJu I=>Ϫ o (bw (bA (Px _ (bd I))))))))))))))) λPe p=>Ϫ o (bw (bA (Pw _ (bd p)))))))))))))))
def iO (a0:GP):Option (GP×Bool):=
 (cr (a0.1,a0.2.1,a0.2.2.1,a0.2.2.2)).bind λp=>
 bif (!p) then
  some ((0,0,([]:GI),([]:GZ)),false)
 else
  (lI (a0.1,a0.2.1,a0.2.2.1,a0.2.2.2)).bind λj=>
  aY ((0:Int)<=0/\0<aW j) (
   (fA a0.2.1 (ε j (δ 0) 0) (j,(a0.1,a0.2.1,a0.2.2.1,a0.2.2.2),j) ((a0.1,a0.2.1,a0.2.2.1,a0.2.2.2),j)).bind λo=>
   some ((o.1.1,o.1.2.1,o.1.2.2.1,o.1.2.2.2),o.2))
theorem PI {a0}{r}(j:iO a0=some r):CallOK ν 23 [.bP (.st gP) a0] [⟨true,(.st gP),r.1⟩,⟨false,.bool,r.2⟩] []:=
 dn Tryz.func23 rfl λcx o R=>θ o [] aU (υ (bc j oN λy1 p j=>θ o [oH,(cl p)] (bD p) (Ω j (λT j=>θ o [] aU (by (cases j;exact (Δ (bn (bY aU)))))) λT j=>Η (aX (bc j Pz λt I j=>θ o [oH,(cl (ϯ [true] rfl I))] (bD (ϯ [true] rfl I)) (by (refine (Le.rz [(1,1),(0,0)] [] (st':=⟨[(1,pV 0 0),(2,pV 1 0),(4,.one (.ip cg t 0))],[(1,.box [iC 0,iC 0,.br,.br]),(0,.box [iC a0.1,iC a0.2.1,nC a0.2.2.1,.bp (.sl .bool) a0.2.2.2])],3⟩) o R (by kernel_rfl)).ht ?_;exact (θ o [⟨none,.oS⟩] aU (by (refine (Le.rz [(3,3),(1,1)] [] (st':=⟨[(1,.one (.ip (.st gP) (a0.1,a0.2.1,a0.2.2.1,a0.2.2.2) 0)),(2,pV 1 0),(4,.one (.ip cg t 0)),(5,pV 3 0)],[(3,.box [.bp (.cl 62 cg) t]),(1,.box [iC 0,iC 0,.br,.br])],4⟩) o R (by kernel_rfl)).ht ?_;exact (by (refine (Le.rz [(1,1)] [] (st':=⟨[(1,.one (.ip (.st gP) (a0.1,a0.2.1,a0.2.2.1,a0.2.2.2) 0)),(2,pV 1 0),(4,.one (.ip cg t 0)),(5,.one (.ip (.cl 62 cg) t 0))],[(1,.box [iC 0,iC 0,.br,.br])],4⟩) o R (by kernel_rfl)).ht ?_;exact (θ o [⟨none,.oS⟩] aU (bg j λU j=>bc j PH λy7 J j=>HT.dg o (nO 6 [⟨none,.oS⟩,(cl J)]) (dd U J) (by (cases j;exact (Δ (bY aU))))))))))))))))))
def kD (a0:GP)(j:Int×GZ):Option ((Int×GZ)⊕GZ):=
 bif (decide (j.1<(aW a0.2.2.2))) then
  aY (0<=j.1/\j.1<aW a0.2.2.2) (
   aY (ζ j.2+ζ ([(!(ε a0.2.2.2 (δ j.1) false))]:GZ)<=bl) (
    some (.inl ((bf .i64 j.1 1),(j.2++([(!(ε a0.2.2.2 (δ j.1) false))]:GZ))))))
 else
  some (.inr j.2)
def kq (a0:GP):Option (GP×Bool):=
 (cr (a0.1,a0.2.1,a0.2.2.1,a0.2.2.2)).bind λj=>
 bif (!j) then
  some ((0,0,([]:GI),([]:GZ)),false)
 else
  (slices_Clone a0.2.2.1).bind λo=>
  (rounds (kD a0) (0,([]:GZ))).bind λp=>
  some ((a0.1,a0.2.1,o,p),true)
theorem Mh {a0}{r}(p:kq a0=some r):CallOK ν 161 [.bP (.st gP) a0] [⟨true,(.st gP),r.1⟩,⟨false,.bool,r.2⟩] []:=
 dn Tryz.func161 rfl λcx o hF=>θ o [] aU (υ (bc p oN λy1 t p=>θ o [oH,(cl t)] (bD t) (Ω p (λaa p=>θ o [] aU (by (cases p;exact (Δ (bn (bY aU)))))) λaa p=>Η (aX (bc p lA λy4 I p=>HT.dg o (nO 6 [(cl I)]) (bD I) (υ (θ o [] aU (ξ (Ϩ o p (λs6=>up [2,4,20,21] [(22,iV s6.1)] [1,2] [(3,.box [iC a0.1,iC a0.2.1,.all 2,.all 6]),(6,.seq .bool s6.2)] 3) (λr8=>(.exit 0,up [2,4] [] [1,2] [(3,.box [iC a0.1,iC a0.2.1,.all 2,.all 6]),(6,.seq .bool r8)] 3)) (λr8 p=>(bm (aX (θ o [] aU (by (cases p;exact (Δ (bY aU)))))))) λs6 x9 j J=>θ o [] aU (ϻ j (λR j=>υ (ξ (bg j λT j=>θ o [] (bD T) (bg j λU j=>Ο o (nO 4 [(hT .bool),(hT .bool)]) (bD U) (bj (aX (Τ o [] aU λ_ h=>(bz (lN j h))))))))) λR j=>Ϫ o (bw (bA (J _ (bd j))))))))))))))
def gm (a0:GG)(j:Int):Option ((Int)⊕(Unit⊕Unit)):=
 bif (decide (j<(aW a0.2.2))) then
  aY (0<=j/\j<aW a0.2.2) (
   (show Option (Int) from
    bif ((((ε a0.2.2 (δ j) (0,0,0,0)).2).2).1==(-1)) then
     some (bI .i64 a0.2.1 1)
    else
     some (bI .i64 a0.1 1)).bind λo=>
   (show Option (Bool) from
    (ct ((ε a0.2.2 (δ j) (0,0,0,0)).1) 0 (bI .i64 a0.1 1)).bind λp=>
    bif (!p) then
     some true
    else
     (ct (((ε a0.2.2 (δ j) (0,0,0,0)).2).1) 0 o).bind λr=>
     bif (!r) then
      some true
     else
      (ct ((((ε a0.2.2 (δ j) (0,0,0,0)).2).2).1) (-1) (bI .i64 a0.1 1)).bind λt=>
      bif (!t) then
       some true
      else
       (ct ((((ε a0.2.2 (δ j) (0,0,0,0)).2).2).2) 0 1000).bind λI=>
       some (!I)).bind λv20=>
   bif v20 then
    some (.inr (.inr ()))
   else
    some (.inl (bf .i64 j 1)))
 else
  some (.inr (.inl ()))
def cQ (a0:GG):Option (Bool):=
 (show Option (Bool) from
  (ct a0.1 1 8).bind λj=>
  bif (!j) then
   some true
  else
   (ct a0.2.1 1 4).bind λo=>
   bif (!o) then
    some true
   else
    some (decide ((aW a0.2.2)>32))).bind λp=>
 bif p then
  some false
 else
  (rounds (gm a0) 0).bind λr=>match r with
   | .inl t=>
    some true
   | .inr I=>
    some false
theorem uS {a0}{r}(hr:cQ a0=some r):CallOK ν 41 [.bP (.st gR) a0] [⟨false,.bool,r⟩] []:=
 dn Tryz.func41 rfl λcx I hF=>θ I [] aU (υ (ϰ hr (λv2=>up [1] [(21,bV v2)] [0] [] 0) (λv2 hr=>Ω hr (λWt hr=>θ I [] aU (by (cases hr;exact (Δ (bn (bY aU)))))) λWt hr=>Η (aX (υ (θ I [] aU (ξ (Ϩ I hr (λs6=>up [1,23,24] [(25,iV s6)] [0] [] 0) (λr7=>match r7 with| .inl r8=>(.exit 0,up [] [] [] [] 0)| .inr r9=>(.ret,up [] [(2,bV false)] [] [] 0)) (λr7=>match r7 with| .inl r8=>λhr=>(bm (aX (θ I [] aU (by (cases hr;exact (Δ (bY aU)))))))| .inr r9=>λhr=>by (cases hr;exact (bH (bn (bY aU))))) λs6 Yo o SL=>θ I [] aU (ϻ o (λEG o=>υ (ξ (bg o λPJ o=>θ I [] (bD PJ) (θ I [] aU (ϰ o (λYv=>up [1,4,23,24,25] [(5,iV Yv)] [0,1] [] 0) (λYv o=>ϰ o (λv20=>up [1,23,24,25] [(66,bV v20)] [0] [] 0) (λv20 o=>Ω o (λJz o=>θ I [] aU (HT.xr I (bH (bn (eZ (SL _ (bd o))))))) λJz o=>Η (bj (aX (Τ I [] aU λ_ h=>(bz (lN o h)))))) λ_ j aa=>bc j iy λYw t j=>bb j (λT j=>Τ I (nO 5 [(cl t),oH,kT]) (dd t T) λ_ h=>(aX (h.ht (aa _ (aZ j))))) λT j=>bc j iy λWE J j=>bb j (λab j=>Τ I (nO 5 [(cl t),oH,kF,oH,oH,oH,(cl J),oH,oH,kT]) (nB t T J ab) λ_ h=>(aX (h.ht (aa _ (aZ j))))) λab j=>bc j iy λYx ad j=>bb j (λxR j=>Τ I (nO 5 [(cl t),oH,kF,oH,oH,oH,(cl J),oH,oH,kF,oH,oH,oH,oH,oH,(cl ad),oH,oH,kT]) (iE t T J ab (dd ad xR)) λ_ h=>(aX (h.ht (aa _ (aZ j))))) λxR j=>bc j iy λy33 SM j=>Τ I (nO 5 [(cl t),oH,kF,oH,oH,oH,(cl J),oH,oH,kF,oH,oH,oH,oH,oH,(cl ad),oH,oH,kF,oH,oH,(cl SM)]) (iE t T J ab (kQ ad xR SM)) λ_ h=>(aX (h.ht (aa _ (aZ j))))) λ_ U SN=>θ I [] aU (Ω U (λPv U=>Τ I [] aU λ_ h=>(aX (h.ht (SN _ (aZ U))))) λPv U=>Η (aX (aa5 I (SN _ (aZ U)))))))))) λEG o=>Ϫ I (bw (bA (SL _ (bd o))))))))))) λ_ p Pq=>bc p iy λy36 R p=>bb p (λae p=>Τ I [oH,oH,(cl R),oH,kT] (dd R ae) λ_ h=>(aX (h.ht (Pq _ (aZ p))))) λae p=>bc p iy λy39 af p=>bb p (λsx p=>Τ I [oH,oH,(cl R),oH,kF,oH,oH,(cl af),oH,oH,kT] (nB R ae af sx) λ_ h=>(aX (h.ht (Pq _ (aZ p))))) λsx p=>Τ I [oH,oH,(cl R),oH,kF,oH,oH,(cl af),oH,oH,kF] (nB R ae af sx) λ_ h=>(aX (h.ht (Pq _ (aZ p))))))
def cY (a0:GG):Option (GG×Bool):=
 (cQ (a0.1,a0.2.1,a0.2.2)).bind λj=>
 bif (!j) then
  some ((0,0,([]:GL)),false)
 else
  some ((a0.1,a0.2.1,a0.2.2),true)
theorem xS {a0}{r}(j:cY a0=some r):CallOK ν 79 [.mv (.st gR) a0] [⟨true,(.st gR),r.1⟩,⟨false,.bool,r.2⟩] []:=
 Sx Tryz.func79 rfl λcx p=>θ p [] aU (υ (bc j uS λI o j=>θ p [oH,(cl o)] (bD o) (Ω j (λt j=>θ p [] aU (by (cases j;exact (Δ (bn (bY aU)))))) λt j=>Η (aX (θ p [] aU (by (cases j;exact (Δ (bY aU)))))))))
def lJ (a0:GP)(j:Int×GL):Option ((Int×GL)⊕(GL)):=
 bif (decide (j.1<a0.2.1)) then
  aY (ζ j.2+ζ ([((bf .i64 a0.1 j.1),j.1,(-1),0)]:GL)<=bl) (
   some (.inl ((bf .i64 j.1 1),(j.2++([((bf .i64 a0.1 j.1),j.1,(-1),0)]:GL)))))
 else
  some (.inr j.2)
def lK (a0:GP)(p:Int×GL)(j:Int×GL):Option ((Int×GL)⊕(GL)):=
 bif (decide (j.1<a0.2.1)) then
  (show Option (GL) from
   (cC (a0.1,a0.2.1,a0.2.2.1,a0.2.2.2) p.1 j.1).bind λo=>
   aY (ζ j.2+ζ ([(p.1,(bf .i64 a0.1 j.1),o,0)]:GL)<=bl) (
    aY (0<=o/\o<aW a0.2.2.2) (
     bif (ε a0.2.2.2 (δ o) false) then
      aY (ζ (j.2++([(p.1,(bf .i64 a0.1 j.1),o,0)]:GL))+ζ ([(p.1,j.1,(-1),0)]:GL)<=bl) (
       some ((j.2++([(p.1,(bf .i64 a0.1 j.1),o,0)]:GL))++([(p.1,j.1,(-1),0)]:GL)))
     else
      some (j.2++([(p.1,(bf .i64 a0.1 j.1),o,0)]:GL))))).bind λr=>
  some (.inl ((bf .i64 j.1 1),r))
 else
  some (.inr j.2)
def lL (a0:GP)(j:Int×GL):Option ((Int×GL)⊕(GL)):=
 bif (decide (j.1<a0.1)) then
  (rounds (lK a0 j) (0,j.2)).bind λo=>
  some (.inl ((bf .i64 j.1 1),o))
 else
  some (.inr j.2)
def lM (a0:GP):Option (GG×Bool):=
 (show Option (Bool) from
  (cr (a0.1,a0.2.1,a0.2.2.1,a0.2.2.2)).bind λo=>
  bif (!o) then
   some true
  else
   some (decide ((bf .i64 a0.1 a0.2.1)>8))).bind λr=>
 bif r then
  some ((0,0,([]:GL)),false)
 else
  (rounds (lL a0) (0,([]:GL))).bind λt=>
  (rounds (lJ a0) (0,t)).bind λp=>
  (cY ((bf .i64 a0.1 a0.2.1),a0.2.1,p)).bind λj=>
  some ((j.1.1,j.1.2.1,j.1.2.2),j.2)
theorem Mi {a0}{r}(T:lM a0=some r):CallOK ν 162 [.bP (.st gP) a0] [⟨true,(.st gR),r.1⟩,⟨false,.bool,r.2⟩] []:=
 dn Tryz.func162 rfl λcx o hF=>θ o [] aU (υ (ϰ T (λv2=>up [1,2] [(19,bV v2)] [0,1] [] 0) (λv2 T=>Ω T (λay T=>θ o [] aU (by (cases T;exact (Δ (bn (bY aU)))))) λay T=>Η (aX (θ o [] aU (υ (θ o [] aU (ξ (Ϩ o T (λs6=>up [1,2,4,30] [(31,iV s6.1)] [0,1] [(2,.box [iC (bf .i64 a0.1 a0.2.1),iC a0.2.1,.all 8]),(8,.seq (.st gQ) s6.2)] 6) (λr8=>(.exit 0,up [1,2,4] [] [0,1] [(2,.box [iC (bf .i64 a0.1 a0.2.1),iC a0.2.1,.all 8]),(8,.seq (.st gQ) r8)] 6)) (λr8 T=>(bm (aX (υ (θ o [] aU (ξ (Ϩ o T (λs9=>up [1,2,4,71] [(72,iV s9.1)] [0,1,2] [(8,.seq (.st gQ) s9.2)] 0) (λaf=>(.exit 4,up [2,4] [] [1,2] [(8,.seq (.st gQ) af)] 0)) (λaf T=>(bm (aX (bc T xS λyJ aa T=>θ o [oH,(cl aa)] (bD aa) (by (cases T;exact (Δ (bY aU)))))))) λs9 Un p ag=>θ o [] aU (ϻ p (λah p=>υ (ξ (θ o [] aU (bg p λai p=>Ο o (nO 8 [(hT (.st gQ)),(hT (.st gQ))]) (bD ai) (bj (aX (Τ o [] aU λ_ h=>(bz (lN p h))))))))) λah p=>Ϫ o (bw (bA (ag _ (bd p)))))))))))) λs6 x19 t aj=>θ o [] aU (ϻ t (λak t=>υ (ξ (θ o [] aU (θ o [] aU (ξ (Ϩ o t (λae=>up [1,2,4,5,30,31,35] [(36,iV ae.1)] [0,1,2] [(8,.seq (.st gQ) ae.2)] 0) (λal=>(.exit 2,up [1,2,4,30,31] [] [0,1,2] [(8,.seq (.st gQ) al)] 0)) (λal t=>(bm (bj (aX (Τ o [] aU λ_ h=>(bz (lN t h))))))) λae x26 I an=>θ o [] aU (ϻ I (λao I=>ϰ I (λaq=>up [1,2,4,5,30,31,35,36] [] [0,1] [(2,.box [iC (bf .i64 a0.1 a0.2.1),iC a0.2.1,.all 12]),(12,.seq (.st gQ) aq)] 4) (λaq I=>Τ o [] aU λ_ h=>(bz (lN I h))) λ_ j ab=>ξ (θ o [] aU (bc j qz λYq ad j=>θ o [oH,oH,oH,(cl ad)] (bD ad) (bg j λar j=>θ o (nO 9 [(hT (.st gQ)),(hT (.st gQ))]) (bD ar) (bg j λau j=>θ o [] (bD au) (Ω j (λav j=>bg j λaw j=>Τ o (nO 5 [(hT (.st gQ)),(hT (.st gQ))]) (bD aw) λ_ h=>(bj (aX (h.ht (ab _ (aZ j)))))) λav j=>Η (bj (aX (aa5 o (ab _ (aZ j))))))))))) λao I=>Ϫ o (bw (bA (an _ (bd I))))))))))) λak t=>Ϫ o (bw (bA (aj _ (bd t)))))))))))) λ_ J ax=>bc J oN λYr R J=>bb J (λU J=>Τ o [oH,(cl R),oH,kT] (dd R U) λ_ h=>(aX (h.ht (ax _ (aZ J))))) λU J=>Τ o [oH,(cl R),oH,kF] (dd R U) λ_ h=>(aX (h.ht (ax _ (aZ J))))))
def lO (a0:GM×GP×GG×GI)(a1:GB):Option (GB×Bool×Bool×(GM×GP×GG×GI)):=
 (show Option ((Bool×(GM×GP×GG×GI))⊕(GB×Bool×Bool×(GM×GP×GG×GI))) from
  bif (a1==([98,97,99,107]:GB)) then
   (kS (a0.1.1,a0.1.2.1,a0.1.2.2.1,a0.1.2.2.2.1,a0.1.2.2.2.2)).bind λT=>
   some (.inl (T.2,(T.1.1,T.1.2.1,T.1.2.2.1,T.1.2.2.2.1,T.1.2.2.2.2),(a0.2.1.1,a0.2.1.2.1,a0.2.1.2.2.1,a0.2.1.2.2.2),(a0.2.2.1.1,a0.2.2.1.2.1,a0.2.2.1.2.2),a0.2.2.2))
  else
   bif (a1==([116,105,100,121]:GB)) then
    (kU (a0.1.1,a0.1.2.1,a0.1.2.2.1,a0.1.2.2.2.1,a0.1.2.2.2.2)).bind λj=>
    some (.inl (j.2,(j.1.1,j.1.2.1,j.1.2.2.1,j.1.2.2.2.1,j.1.2.2.2.2),(a0.2.1.1,a0.2.1.2.1,a0.2.1.2.2.1,a0.2.1.2.2.2),(a0.2.2.1.1,a0.2.2.1.2.1,a0.2.2.1.2.2),a0.2.2.2))
   else
    bif (a1==([116,114,105,109]:GB)) then
     (pf (a0.1.1,a0.1.2.1,a0.1.2.2.1,a0.1.2.2.2.1,a0.1.2.2.2.2)).bind λo=>
     some (.inl (o.2,(o.1.1,o.1.2.1,o.1.2.2.1,o.1.2.2.2.1,o.1.2.2.2.2),(a0.2.1.1,a0.2.1.2.1,a0.2.1.2.2.1,a0.2.1.2.2.2),(a0.2.2.1.1,a0.2.2.1.2.1,a0.2.2.1.2.2),a0.2.2.2))
    else
     bif (a1==([108,101,116,116,101,114,101,100]:GB)) then
      (jh (a0.1.1,a0.1.2.1,a0.1.2.2.1,a0.1.2.2.2.1,a0.1.2.2.2.2)).bind λp=>
      some (.inl (p.2,(p.1.1,p.1.2.1,p.1.2.2.1,p.1.2.2.2.1,p.1.2.2.2.2),(a0.2.1.1,a0.2.1.2.1,a0.2.1.2.2.1,a0.2.1.2.2.2),(a0.2.2.1.1,a0.2.2.1.2.1,a0.2.2.1.2.2),a0.2.2.2))
     else
      bif (a1==([114,101,112,101,97,116]:GB)) then
       (mR (a0.1.1,a0.1.2.1,a0.1.2.2.1,a0.1.2.2.2.1,a0.1.2.2.2.2)).bind λr=>
       some (.inl (r.2,(r.1.1,r.1.2.1,r.1.2.2.1,r.1.2.2.2.1,r.1.2.2.2.2),(a0.2.1.1,a0.2.1.2.1,a0.2.1.2.2.1,a0.2.1.2.2.2),(a0.2.2.1.1,a0.2.2.1.2.1,a0.2.2.1.2.2),a0.2.2.2))
      else
       bif (a1==([109,97,107,101]:GB)) then
        (od (a0.1.1,a0.1.2.1,a0.1.2.2.1,a0.1.2.2.2.1,a0.1.2.2.2.2)).bind λt=>
        some (.inl (t.2,(a0.1.1,a0.1.2.1,a0.1.2.2.1,a0.1.2.2.2.1,a0.1.2.2.2.2),(t.1.1,t.1.2.1,t.1.2.2.1,t.1.2.2.2),(a0.2.2.1.1,a0.2.2.1.2.1,a0.2.2.1.2.2),a0.2.2.2))
       else
        bif (a1==([108,101,97,115,116]:GB)) then
         (iO (a0.2.1.1,a0.2.1.2.1,a0.2.1.2.2.1,a0.2.1.2.2.2)).bind λI=>
         some (.inl (I.2,(a0.1.1,a0.1.2.1,a0.1.2.2.1,a0.1.2.2.2.1,a0.1.2.2.2.2),(I.1.1,I.1.2.1,I.1.2.2.1,I.1.2.2.2),(a0.2.2.1.1,a0.2.2.1.2.1,a0.2.2.1.2.2),a0.2.2.2))
        else
         bif (a1==([111,116,104,101,114]:GB)) then
          (kq (a0.2.1.1,a0.2.1.2.1,a0.2.1.2.2.1,a0.2.1.2.2.2)).bind λJ=>
          some (.inl (J.2,(a0.1.1,a0.1.2.1,a0.1.2.2.1,a0.1.2.2.2.1,a0.1.2.2.2.2),(J.1.1,J.1.2.1,J.1.2.2.1,J.1.2.2.2),(a0.2.2.1.1,a0.2.2.1.2.1,a0.2.2.1.2.2),a0.2.2.2))
         else
          bif (a1==([114,117,108,101,115]:GB)) then
           (lM (a0.2.1.1,a0.2.1.2.1,a0.2.1.2.2.1,a0.2.1.2.2.2)).bind λR=>
           some (.inl (R.2,(a0.1.1,a0.1.2.1,a0.1.2.2.1,a0.1.2.2.2.1,a0.1.2.2.2.2),(a0.2.1.1,a0.2.1.2.1,a0.2.1.2.2.1,a0.2.1.2.2.2),(R.1.1,R.1.2.1,R.1.2.2),a0.2.2.2))
          else
           sw (some (([]:GB),false,false,a0))).bind λw5=>match w5 with
  | .inl U=>
   some (([111,107]:GB),U.1,true,U.2)
  | .inr z=>some z
theorem Mj {a0}{a1}{r}(hr:lO a0 a1=some r):CallOK ν 132 [.own (.bx (.st (.pair (.st gM) (.pair (.st gP) (.pair (.st gR) cg))))) [a0],.bP .str a1] [⟨false,.str,r.1⟩,⟨false,.bool,r.2.1⟩,⟨false,.bool,r.2.2.1⟩] [⟨(.bx (.st (.pair (.st gM) (.pair (.st gP) (.pair (.st gR) cg))))),[r.2.2.2]⟩]:=
 dn Tryz.func132 rfl λcx o hF=>θ o [] aU (θ o [] aU (HT.jo hr (λ_=>rfl) (λv2=>up [] [(7,bV v2.1)] [] [(0,.seq (.st (.pair (.st gM) (.pair (.st gP) (.pair (.st gR) cg)))) ([v2.2]))] 0) (λv2 hr=>θ o [] aU (by (cases hr;exact (Δ (bY (bD (show ζ ([v2.2])=ζ [a0] from rfl))))))) λ_ j Q2 p=>θ o [] aU (ξ (θ o [] aU (Ω j (λJs j=>bc j Jo λy8 NJ j=>Τ o (nO 5 [(cl (ϯ [true,false] rfl NJ))]) (kQ (show 0<ζ [a0] from Ν) (ϯ [true,false] rfl NJ) (show 0<ζ [a0] from Ν)) λ_ h=>(bj (aX (h.ht (p _ (bd j)))))) λJs j=>θ o [] aU (Ω j (λBa j=>bc j A7 λKV t j=>Τ o (nO 5 [(cl (ϯ [true,false] rfl t))]) (kQ (show 0<ζ [a0] from Ν) (ϯ [true,false] rfl t) (show 0<ζ [a0] from Ν)) λ_ h=>(bj (aX (h.ht (p _ (bd j)))))) λBa j=>θ o [] aU (Ω j (λEG j=>bc j L9 λSF I j=>Τ o (nO 5 [(cl (ϯ [true,false] rfl I))]) (kQ (show 0<ζ [a0] from Ν) (ϯ [true,false] rfl I) (show 0<ζ [a0] from Ν)) λ_ h=>(bj (aX (h.ht (p _ (bd j)))))) λEG j=>θ o [] aU (Ω j (λxQ j=>bc j Ma λPc J j=>Τ o (nO 5 [(cl (ϯ [true,false] rfl J))]) (kQ (show 0<ζ [a0] from Ν) (ϯ [true,false] rfl J) (show 0<ζ [a0] from Ν)) λ_ h=>(bj (aX (h.ht (p _ (bd j)))))) λxQ j=>θ o [] aU (Ω j (λPK j=>bc j Mb λWz R j=>Τ o (nO 5 [(cl (ϯ [true,false] rfl R))]) (kQ (show 0<ζ [a0] from Ν) (ϯ [true,false] rfl R) (show 0<ζ [a0] from Ν)) λ_ h=>(bj (aX (h.ht (p _ (bd j)))))) λPK j=>θ o [] aU (Ω j (λWG j=>bc j Me λKW T j=>Τ o (nO 5 [(cl (ϯ [true,false] rfl T))]) (kQ (show 0<ζ [a0] from Ν) (ϯ [true,false] rfl T) (show 0<ζ [a0] from Ν)) λ_ h=>(bj (aX (h.ht (p _ (bd j)))))) λWG j=>θ o [] aU (Ω j (λWH j=>bc j PI λYm U j=>Τ o (nO 5 [(cl (ϯ [true,false] rfl U))]) (kQ (show 0<ζ [a0] from Ν) (ϯ [true,false] rfl U) (show 0<ζ [a0] from Ν)) λ_ h=>(bj (aX (h.ht (p _ (bd j)))))) λWH j=>θ o [] aU (Ω j (λJv j=>bc j Mh λYn aa j=>Τ o (nO 5 [(cl (ϯ [true,false] rfl aa))]) (kQ (show 0<ζ [a0] from Ν) (ϯ [true,false] rfl aa) (show 0<ζ [a0] from Ν)) λ_ h=>(bj (aX (h.ht (p _ (bd j)))))) λJv j=>θ o [] aU (Ω j (λJA j=>bc j Mi λy32 ab j=>Τ o (nO 5 [(cl (ϯ [true,false] rfl ab))]) (kQ (show 0<ζ [a0] from Ν) (ϯ [true,false] rfl ab) (show 0<ζ [a0] from Ν)) λ_ h=>(bj (aX (h.ht (p _ (bd j)))))) λJA j=>θ o [] aU (have hr:=Q2 j;by (cases hr;exact (Δ (bH (bn (bY (bD (show ζ ([a0])=ζ [a0] from rfl)))))))))))))))))))))
def strings_Join (a0:List GB)(a1:GB):Option GB:=
 aY (a0.length<=140737488355328/\(Lib.join a0 a1).length<=140737488355328)<|some (Lib.join a0 a1)
theorem JB {a0}{a1}{r}(h:strings_Join a0 a1=some r):CallOK ν 90 [.bP (.sl .str) a0,.bP .str a1] [⟨false,.str,r⟩] []:=by
 obtain ⟨I,h⟩:=iK h;have h:=aZ h;subst h;have e:(a0.map λx=>ByteArray.mk x.toArray).map (·.data.toList)=a0:=by
  rw [aeb]
  conv=>rhs;rw [<-List.map_id a0]
  rfl
 refine Lx ⟨_,Tryz.func90,by kernel_rfl,by kernel_rfl⟩ (λe a c w=>by subst e;exact Tryz.strings_Join_none a c _ w) (λJ o c w j t p=> ?_);have:=Tryz.strings_Join J o c (a0.map λx=>ByteArray.mk x.toArray) ⟨a1.toArray⟩ w j t (by rw [ϔ];exact I.1) (by rw [ϔ];exact p) (by rw [e];exact I.2);rw [ϔ,e] at this;exact this
def qA (a0:Int):Option (Bool):=
 (ct a0 (-1000000000000000) 1000000000000000).bind λj=>
 some j
theorem PL {a0}{r}(o:qA a0=some r):CallOK ν 91 [.bP tI a0] [⟨false,.bool,r⟩] []:=
 dn Tryz.func91 rfl λcx p t=>θ p [] aU (bc o iy λI j o=>θ p [oH,(cl j)] (bD j) (by (cases o;exact (Δ (bY aU)))))
def jl (a0:GI)(s1:Int):Option ((Int)⊕(Unit⊕Unit)):=
 bif (decide (s1<(aW a0))) then
  aY (0<=s1/\s1<aW a0) (
   (qA (ε a0 (δ s1) 0)).bind λj=>
   bif (!j) then
    some (.inr (.inr ()))
   else
    some (.inl (bf .i64 s1 1)))
 else
  some (.inr (.inl ()))
def lP (a0:GI):Option (Bool):=
 (rounds (jl a0) 0).bind λj=>match j with
  | .inl o=>
   some (decide ((aW a0)<=64))
  | .inr p=>
   some false
theorem PM {a0}{r}(t:lP a0=some r):CallOK ν 42 [.bP cg a0] [⟨false,.bool,r⟩] []:=
 dn Tryz.func42 rfl λcx o hF=>θ o [] aU (υ (θ o [] aU (ξ (Ϩ o t (λs1=>up [0,5,6] [(7,iV s1)] [] [] 0) (λR=>match R with| .inl r3=>(.exit 0,up [0] [] [] [] 0)| .inr r4=>(.ret,up [] [(2,bV false)] [] [] 0)) (λR=>match R with| .inl r3=>λt=>(bm (aX (θ o [] aU (by (cases t;exact (Δ (bY aU)))))))| .inr r4=>λt=>by (cases t;exact (bH (bn (bY aU))))) λs1 x5 j I=>θ o [] aU (ϻ j (λT j=>υ (ξ (bg j λU j=>θ o [] (bD U) (bc j PL λPo p j=>θ o [oH,(cl p)] (bD p) (Ω j (λJ j=>θ o [] aU (HT.xr o (bH (bn (eZ (I _ (bd j))))))) λJ j=>Η (bj (aX (Τ o [] aU λ_ h=>(bz (lN j h)))))))))) λT j=>Ϫ o (bw (bA (I _ (bd j)))))))))
def ri (a0:List GB):Option GB:=
 bif ((aW a0)==0) then
  some ([110,111,110,101]:GB)
 else
  (strings_Join a0 ([44]:GB)).bind λj=>
  some j
theorem PN {a0}{r}(j:ri a0=some r):CallOK ν 92 [.bP (.sl .str) a0] [⟨false,.str,r⟩] []:=
 dn Tryz.func92 rfl λcx p I=>θ p [] aU (υ (θ p [] aU (Ω j (λt j=>θ p [] aU (by (cases j;exact (Δ (bn (bY aU)))))) λt j=>Η (aX (bc j JB λJ o j=>θ p [oH,(cl o)] (bD o) (by (cases j;exact (Δ (bY aU)))))))))
theorem JC {w:World}{t:TypeId}{fr:Nat×Nat}(h:w.heap[1]? =some (.cells pow10Cells t fr)):Lib.TabIs ν w "internal/strconv.uint64pow10" .u64 ahp:=by
 unfold Lib.TabIs World.var?;rw [show Tryz.prog.globalNamed "internal/strconv.uint64pow10"=some 1 by kernel_rfl,Option.bind_some,h];unfold pow10Cells ahp;rw [aeb];rfl
def lQ (a0:Int)(a1:Int):Option GB:=
 aY (a1=10/\ -9223372036854775808<=a0/\a0<=9223372036854775807)<|some (Ϯ a0)
theorem PO {a0}{a1}{r}(h:lQ a0 a1=some r):CallOK ν 44 [.bP tI a0,.bP tI a1] [⟨false,.str,r⟩] []:=by
 obtain ⟨j,h⟩:=iK h;have h:=aZ h;subst h;obtain ⟨rfl,j⟩:=j;have j:True/\_:=⟨trivial,j⟩;exact uR (ps:=[⟨tI,a0⟩,⟨tI,10⟩]) (rs:=[⟨.str,Ϯ a0⟩]) ⟨_,Tryz.func44,by kernel_rfl,by kernel_rfl⟩ (by simp [Ty.simple]) (by simp [Ty.simple]) λw S o=>by
  obtain ⟨_,t,fr,ht⟩:=Glob.pow o;exact (Tryz.strconv_FormatInt_10 _ j.2.1 j.2.2 w (JC ht)).mono λe w' ⟨p,k,os,I⟩=>⟨⟨_,p,rfl⟩,I▸Lib.below_grow _ _ (Nat.le_refl _) k os⟩
def jM (a0:Int):Option GB:=
 (lQ a0 10).bind λj=>
 some j
theorem EH {a0}{r}(o:jM a0=some r):CallOK ν 13 [.bP tI a0] [⟨false,.str,r⟩] []:=
 dn Tryz.func13 rfl λcx p t=>θ p [] aU (bc o PO λI j o=>θ p [oH,(cl j)] (bD j) (by (cases o;exact (Δ (bY aU)))))
def jN (a0:GI)(s1:Int×List GB):Option ((Int×List GB)⊕(List GB)):=
 bif (decide (s1.1<(aW a0))) then
  aY (0<=s1.1/\s1.1<aW a0) (
   (jM (ε a0 (δ s1.1) 0)).bind λj=>
   aY (ζ s1.2+ζ ([j]:List GB)<=bl) (
    some (.inl ((bf .i64 s1.1 1),(s1.2++([j]:List GB))))))
 else
  some (.inr s1.2)
def mS (a0:GI):Option GB:=
 (rounds (jN a0) (0,([]:List GB))).bind λj=>
 (ri j).bind λo=>
 some o
theorem PQ {a0}{r}(t:mS a0=some r):CallOK ν 43 [.bP cg a0] [⟨false,.str,r⟩] []:=
 dn Tryz.func43 rfl λcx o hF=>θ o [] aU (θ o [] aU (υ (θ o [] aU (ξ (Ϩ o t (λT=>up [7,8] [(3,aV 2),(9,iV T.1)] [] [(2,.seq .str T.2)] 3) (λr3=>(.exit 0,up [] [(3,aV 2)] [] [(2,.seq .str r3)] 3)) (λr3 t=>(bm (aX (bc t PN λy4 I t=>θ o [oH,(cl I)] (bD I) (by (cases t;exact (Δ (bY aU)))))))) λT x6 j U=>θ o [] aU (ϻ j (λaa j=>υ (ξ (bg j λJ j=>θ o [] (bD J) (bc j EH λKV p j=>bg j λR j=>Ο o [oH,oH,(cl p),(hT .str),(hT .str)] (dd p R) (bj (aX (Τ o [] aU λ_ h=>(bz (lN j h))))))))) λaa j=>Ϫ o (bw (bA (U _ (bd j))))))))))
def ey (a0:GI):Option (GB×Bool):=
 (lP a0).bind λj=>
 bif (!j) then
  some (([]:GB),false)
 else
  (mS a0).bind λo=>
  some (o,true)
theorem Bb {a0}{r}(j:ey a0=some r):CallOK ν 11 [.bP cg a0] [⟨false,.str,r.1⟩,⟨false,.bool,r.2⟩] []:=
 dn Tryz.func11 rfl λcx t J=>θ t [] aU (υ (bc j PM λR o j=>θ t [oH,(cl o)] (bD o) (Ω j (λI j=>θ t [] aU (by (cases j;exact (Δ (bn (bY aU)))))) λI j=>Η (aX (bc j PQ λT p j=>θ t [oH,(cl p)] (bD p) (by (cases j;exact (Δ (bY aU)))))))))
end
end Go.Proofs
