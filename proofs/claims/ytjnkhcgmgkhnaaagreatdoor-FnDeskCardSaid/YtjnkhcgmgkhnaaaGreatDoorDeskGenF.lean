import Derived.Test.YtjnkhcgmgkhnaaaGreatDoorDeskGenE
import Derived.Test.YtjnkhcgmgkhnaaaGreatDoorProg
set_option linter.all false
open Go.Ide.HT renaming g→θ,block→ξ,seq→υ,ret→Δ,skip→Η,k→Τ,cb→Ω,lp→Ϩ,xe→Ϫ,jn→ϰ,cj→ϻ
open Go.Proofs.Tryz renaming prog→ν
open Int renaming toNat→δ
open List renaming getD→ε,length→ζ
namespace Go.Proofs
open Go.Ide
noncomputable section
def dX (a0:GP)(a1:GI)(s1:Int×Int):Option ((Int×Int)⊕(Int)):=
 bif (decide (s1.2<(aW a1))) then
  aY (0<=s1.2/\s1.2<aW a1) (
   (cC (a0.1,a0.2.1,a0.2.2.1,a0.2.2.2) s1.1 (ε a1 (δ s1.2) 0)).bind λj=>
   some (.inl (j,(bf .i64 s1.2 1))))
 else
  some (.inr s1.1)
def iA (a0:GP)(a1:GI):Option (Int):=
 (rounds (dX a0 a1) (0,0)).bind λj=>
 some j
theorem Mr {a0}{a1}{r}(t:iA a0 a1=some r):CallOK ν 228 [.bP (.st gP) a0,.bP cg a1] [⟨false,tI,r⟩] []:=
 dn Tryz.func228 rfl λcx o hF=>θ o [] aU (θ o [] aU (υ (θ o [] aU (ξ (Ϩ o t (λI=>up [2,8,9] [(5,iV I.1),(10,iV I.2)] [0] [] 0) (λU=>(.exit 0,up [] [(5,iV U)] [] [] 0)) (λU t=>(bm (aX (θ o [] aU (by (cases t;exact (Δ (bY aU)))))))) λI x4 j J=>θ o [] aU (ϻ j (λR j=>υ (ξ (bg j λT j=>θ o [] (bD T) (bc j qz λy9 p j=>HT.l o [oH,oH,oH,(cl p)] (bD p) (bj (aX (Τ o [] aU λ_ h=>(bz (lN j h))))))))) λR j=>Ϫ o (bw (bA (J _ (bd j))))))))))
def lX (a0:GP)(a2:List GI)(o:Int×GI)(j:Int×Int):Option ((Int×Int)⊕(Int)):=
 bif (decide (j.2<(aW (ε a2 (δ o.1) ([]:GI))))) then
  aY (0<=j.2/\j.2<aW (ε a2 (δ o.1) ([]:GI))) (
   (cC (a0.1,a0.2.1,a0.2.2.1,a0.2.2.2) j.1 (ε (ε a2 (δ o.1) ([]:GI)) (δ j.2) 0)).bind λp=>
   some (.inl (p,(bf .i64 j.2 1))))
 else
  some (.inr j.1)
def lY (a0:GP)(a2:List GI)(p:Int)(j:Int×GI):Option ((Int×GI)⊕GI):=
 bif (decide (j.1<(aW a2))) then
  (show Option GI from
   aY (0<=j.1/\j.1<aW a2) (
    (rounds (lX a0 a2 j) (p,0)).bind λo=>
    aY (0<=o/\o<aW a0.2.2.2) (
     bif (ε a0.2.2.2 (δ o) false) then
      aY (ζ j.2+ζ ([49]:GI)<=bl) (
       some (j.2++([49]:GI)))
     else
      aY (ζ j.2+ζ ([48]:GI)<=bl) (
       some (j.2++([48]:GI)))))).bind λv11=>
  some (.inl ((bf .i64 j.1 1),v11))
 else
  some (.inr j.2)
def nm (a0:GP)(a1:GI)(a2:List GI):Option GB:=
 (iA (a0.1,a0.2.1,a0.2.2.1,a0.2.2.2) a1).bind λj=>
 (rounds (lY a0 a2 j) (0,([]:GI))).bind λo=>
 some (lr o)
theorem F9 {a0}{a1}{a2}{r}(T:nm a0 a1 a2=some r):CallOK ν 219 [.bP (.st gP) a0,.bP cg a1,.bP (.sl cg) a2] [⟨false,.str,r⟩] []:=
 dn Tryz.func219 rfl λcx p hF=>θ p [] aU (θ p [] aU (bc T Mr λy1 U T=>θ p [oH,oH,(cl U)] (bD U) (υ (θ p [] aU (ξ (Ϩ p T (λs3=>up [3,8,18,19] [(7,aV 3),(20,iV s3.1)] [0] [(3,.seq (.int .u8) s3.2)] 3) (λr5=>(.exit 0,up [] [(7,aV 3)] [] [(3,.seq (.int .u8) r5)] 3)) (λr5 T=>(bm (aX (θ p [] aU (by (cases T;exact (Δ (bY aU)))))))) λs3 x6 t SK=>θ p [] aU (ϻ t (λPu t=>ϰ t (λv11=>up [3,8,18,19,20] [(7,aV 5)] [0] [(5,.seq (.int .u8) v11)] 2) (λv11 t=>Τ p [] aU λ_ h=>(bz (lN t h))) λ_ j I=>ξ (bg j λaa j=>θ p [] (bD aa) (θ p [] aU (υ (θ p [] aU (ξ (Ϩ p j (λR=>up [3,7,8,18,19,20,25,26] [(11,iV R.1),(27,iV R.2)] [0,3] [] 0) (λab=>(.exit 2,up [3,7,8,18,19,20] [(11,iV ab)] [0,3] [] 0)) (λab j=>(bm (aX (bg j λad j=>θ p [] (bD ad) (Ω j (λae j=>bg j λaf j=>Τ p [oH,(hT (.int .u8)),(hT (.int .u8))] (bD af) λ_ h=>(bj (aX (h.ht (I _ (aZ j)))))) λae j=>bg j λag j=>Τ p [oH,(hT (.int .u8)),(hT (.int .u8))] (bD ag) λ_ h=>(bj (aX (h.ht (I _ (aZ j)))))))))) λR x22 o ah=>θ p [] aU (ϻ o (λai o=>υ (ξ (bg o λaj o=>θ p [] (bD aj) (bc o qz λWE J o=>HT.l p [oH,oH,oH,(cl J)] (bD J) (bj (aX (Τ p [] aU λ_ h=>(bz (lN o h))))))))) λai o=>Ϫ p (bw (bA (ah _ (bd o)))))))))))) λPu t=>Ϫ p (bw (bA (SK _ (bd t)))))))))))
theorem PW:jW ν 9 .str:=jW.str (by kernel_rfl)
def jm (a0:GP)(a2:List GI)(I:Int×List GI×(List (GB×Int))×GI×GZ)(j:Int×List GI×(List (GB×Int))×GI):Option ((Int×List GI×(List (GB×Int))×GI)⊕((List GI×(List (GB×Int))×GI))):=
 bif (decide (j.1<a0.2.1)) then
  aY (0<=I.1/\I.1<aW j.2.1) (
   (slices_Clone (ε j.2.1 (δ I.1) ([]:GI))).bind λo=>
   aY (ζ o+ζ ([j.1]:GI)<=bl) (
    (nm (a0.1,a0.2.1,a0.2.2.1,a0.2.2.2) (o++([j.1]:GI)) a2).bind λp=>
    (show Option (Int×List GI×(List (GB×Int))) from
     bif (!((bX (t:= .str) (u:=tI) j.2.2.1 p).isSome)) then
      aY (bX (t:= .str) (u:=tI) j.2.2.1 p=none) (
       aY (ζ j.2.1+ζ ([(o++([j.1]:GI))]:List GI)<=bl) (
        some ((aW j.2.1),(j.2.1++([(o++([j.1]:GI))]:List GI)),(j.2.2.1++[(p,(aW j.2.1))]))))
     else
      some (((bX (t:= .str) (u:=tI) j.2.2.1 p).getD 0),j.2.1,j.2.2.1)).bind λr=>
    aY (ζ j.2.2.2+ζ ([r.1]:GI)<=bl) (
     some (.inl ((bf .i64 j.1 1),r.2.1,r.2.2,(j.2.2.2++([r.1]:GI)))))))
 else
  some (.inr (j.2.1,j.2.2.1,j.2.2.2))
def pj (a0:GP)(a2:List GI)(j:Int×List GI×(List (GB×Int))×GI×GZ):Option ((Int×List GI×(List (GB×Int))×GI×GZ)⊕((List GI×GI×GZ))):=
 bif (decide (j.1<(aW j.2.1))) then
  aY (0<=j.1/\j.1<aW j.2.1) (
   (fu (a0.1,a0.2.1,a0.2.2.1,a0.2.2.2) (ε j.2.1 (δ j.1) ([]:GI))).bind λp=>
   aY (ζ j.2.2.2.2+ζ ([p]:GZ)<=bl) (
    (rounds (jm a0 a2 j) (0,j.2.1,j.2.2.1,j.2.2.2.1)).bind λo=>
    some (.inl ((bf .i64 j.1 1),o.1,o.2.1,o.2.2,(j.2.2.2.2++([p]:GZ))))))
 else
  some (.inr (j.2.1,j.2.2.2.1,j.2.2.2.2))
def jq (a0:GP)(a1:List GI)(a2:List GI)(s1:Int×(List (GB×Int))):Option ((Int×(List (GB×Int)))⊕((List (GB×Int)))):=
 bif (decide (s1.1<(aW a1))) then
  aY (0<=s1.1/\s1.1<aW a1) (
   (nm (a0.1,a0.2.1,a0.2.2.1,a0.2.2.2) (ε a1 (δ s1.1) ([]:GI)) a2).bind λj=>
   aY (bX (t:= .str) (u:=tI) s1.2 j=none) (
    some (.inl ((bf .i64 s1.1 1),(s1.2++[(j,s1.1)])))))
 else
  some (.inr s1.2)
def lZ (a0:GP)(a1:List GI)(a2:List GI):Option (List GI×GP):=
 (rounds (jq a0 a1 a2) (0,([]:List (GB×Int)))).bind λo=>
 (rounds (pj a0 a2) (0,a1,o,([]:GI),([]:GZ))).bind λj=>
 some (j.1,(aW j.1),a0.2.1,j.2.1,j.2.2)
theorem C7 {a0}{a1}{a2}{r}(hr:lZ a0 a1 a2=some r):CallOK ν 199 [.bP (.st gP) a0,.mv (.sl (.own tI)) a1,.bP (.sl cg) a2] [⟨true,(.sl (.own tI)),r.1⟩,⟨true,(.st gP),r.2⟩] []:=
 Sx Tryz.func199 rfl λcx p=>θ p [] aU (HT.ex ⟨[(1,aV 0),(2,.one (.bp (.sl cg) a2)),(3,pV 1 0),(7,pV 2 0)],[(2,.box [iC 0,iC 0,.br,.br]),(1,.box [iC a0.1,iC a0.2.1,nC a0.2.2.1,.bp (.sl .bool) a0.2.2.2]),(0,.seq (.own tI) a1)],3⟩ p (by (refine υ (HT.rg (RG.makeMap .str tI p rfl rfl rfl (by kernel_rfl) (by kernel_rfl) (RG.jV [1,2,3,7,8] [oH] ⟨[(1,aV 0),(2,.one (.bp (.sl cg) a2)),(3,pV 1 0),(7,pV 2 0),(8,.one (.fK 3))],[(3,.mp .str tI ([]:List (GB×Int))),(2,.box [iC 0,iC 0,.br,.br]),(1,.box [iC a0.1,iC a0.2.1,nC a0.2.2.1,.bp (.sl .bool) a0.2.2.2]),(0,.seq (.own tI) a1)],4⟩ p.P p.N (by kernel_rfl) aU ?_)));exact (υ (θ p [] aU (ξ (Ϩ p hr (λU=>up [1,2,3,7,8,19,20] [(21,iV U.1)] [0,1,2] [(3,.mp .str tI U.2)] 0) (λr3=>(.exit 0,up [1,2,3,7,8] [] [0,1,2] [(3,.mp .str tI r3)] 0)) (λr3 hr=>(bm (aX (θ p [] aU (υ (θ p [] aU (ξ (Ϩ p hr (λs4=>up [1,2,3,7,8,11] [(12,iV s4.1)] [1,2] [(0,.seq (.own tI) s4.2.1),(3,.mp .str tI s4.2.2.1),(4,.box [iC 0,iC a0.2.1,.all 15,.all 16]),(15,.seq tI s4.2.2.2.1),(16,.seq .bool s4.2.2.2.2)] 12) (λr6=>(.exit 2,up [1,7,11] [] [2] [(0,.seq (.own tI) r6.1),(4,.box [iC 0,iC a0.2.1,.all 15,.all 16]),(15,.seq tI r6.2.1),(16,.seq .bool r6.2.2)] 12)) (λr6 hr=>(bm (aX (θ p [] aU (HT.dg p [] aU (by (cases hr;exact (Δ (bY aU))))))))) λs4 x7 R Jg=>υ (θ p [] aU (Ω R (λBa R=>Η (aX (υ (ξ (bg R λSQ R=>bc R JE λyJ SR R=>bg R λPJ R=>HT.dg p (nO 7 [(cl SR),(hT .bool),(hT .bool)]) (nB SQ (bG SQ) SR PJ) (θ p [] aU (ξ (Ϩ p R (λj=>up [1,2,3,7,8,11,12,54] [(55,iV j.1)] [1,2,4,18] [(0,.seq (.own tI) j.2.1),(3,.mp .str tI j.2.2.1),(15,.seq tI j.2.2.2)] 0) (λNM=>(.exit 4,up [1,2,3,7,8,11,12] [] [1,2,4,18] [(0,.seq (.own tI) NM.1),(3,.mp .str tI NM.2.1),(15,.seq tI NM.2.2)] 0)) (λNM R=>(bm (bj (aX (Τ p [] aU λ_ h=>(bz (lN R h))))))) λj WM o EK=>θ p [] aU (ϻ o (λBe o=>υ (ξ (θ p [] aU (bg o λC5 o=>bc o lA λKW JF o=>bg o λPp o=>θ p (nO 4 [(cl JF),oH,(hT tI),(hT tI)]) (nB C5 (bG C5) JF Pp) (bc o F9 λT SS o=>θ p [oH,oH,oH,(cl SS)] (bD SS) (HT.ex ⟨[(1,aV 0),(2,.one (.bp (.sl cg) a2)),(3,pV 1 0),(7,pV 2 0),(8,.one (.fK 3)),(11,pV 4 0),(12,iV s4.1),(14,aV 21),(15,.one (.bp .str T)),(54,iV a0.2.1),(55,iV j.1)],[(21,.seq tI (KW++([j.1]:GI))),(0,.seq (.own tI) j.2.1),(1,.box [iC a0.1,iC a0.2.1,nC a0.2.2.1,.bp (.sl .bool) a0.2.2.2]),(2,.box [iC 0,iC 0,.br,.br]),(3,.mp .str tI j.2.2.1),(4,.box [iC 0,iC a0.2.1,.all 15,.all 18]),(15,.seq tI j.2.2.2),(18,.seq .bool (s4.2.2.2.2++([yJ]:GZ)))],22⟩ p (by (refine υ (HT.rg (RG.cut 2 [oH,oH] ⟨[(72,.one (.bp .str T)),(71,.one (.fK 3)),(1,aV 0),(2,.one (.bp (.sl cg) a2)),(3,pV 1 0),(7,pV 2 0),(8,.one (.fK 3)),(11,pV 4 0),(12,iV s4.1),(14,aV 21),(15,.one (.bp .str T)),(54,iV a0.2.1),(55,iV j.1)],[(21,.seq tI (KW++([j.1]:GI))),(0,.seq (.own tI) j.2.1),(1,.box [iC a0.1,iC a0.2.1,nC a0.2.2.1,.bp (.sl .bool) a0.2.2.2]),(2,.box [iC 0,iC 0,.br,.br]),(3,.mp .str tI j.2.2.1),(4,.box [iC 0,iC a0.2.1,.all 15,.all 18]),(15,.seq tI j.2.2.2),(18,.seq .bool (s4.2.2.2.2++([yJ]:GZ)))],22⟩ p.P p.N (by kernel_rfl) aU (RG.AT (t:= .str) (u:=tI) (x:=T) (z:=Value.int .i64 0) (y0:=0) p rfl rfl rfl (by kernel_rfl) (K:=9) (E:=2) (by kernel_rfl) PW rfl (by kernel_rfl) rfl rfl rfl rfl rfl (RG.jV [1,2,3,7,8,11,12,14,15,16,17,54,55] [oH,oH,oH,oH,oH] ⟨[(1,aV 0),(2,.one (.bp (.sl cg) a2)),(3,pV 1 0),(7,pV 2 0),(8,.one (.fK 3)),(11,pV 4 0),(12,iV s4.1),(14,aV 21),(15,.one (.bp .str T)),(16,iV ((bX (t:= .str) (u:=tI) j.2.2.1 T).getD 0)),(17,bV ((bX (t:= .str) (u:=tI) j.2.2.1 T).isSome)),(54,iV a0.2.1),(55,iV j.1)],[(21,.seq tI (KW++([j.1]:GI))),(0,.seq (.own tI) j.2.1),(1,.box [iC a0.1,iC a0.2.1,nC a0.2.2.1,.bp (.sl .bool) a0.2.2.2]),(2,.box [iC 0,iC 0,.br,.br]),(3,.mp .str tI j.2.2.1),(4,.box [iC 0,iC a0.2.1,.all 15,.all 18]),(15,.seq tI j.2.2.2),(18,.seq .bool (s4.2.2.2.2++([yJ]:GZ)))],22⟩ p.P p.N (by kernel_rfl) aU ?_))));exact (ϰ o (λNI=>up [2,3,7,8,11,12,54,55] [(1,aV 23),(16,iV NI.1)] [1,2,4,15,18] [(23,.seq (.own tI) NI.2.1),(3,.mp .str tI NI.2.2)] 2) (λNI o=>bg o λWT o=>HT.l p [oH,oH,oH,(hT tI),(hT tI)] (bD WT) (bj (aX (Τ p [] aU λ_ h=>(bz (lN o h)))))) λ_ J SV=>θ p [] aU (Ω J (λPX J=>θ p [] aU (bg J λWU J=>HT.ex ⟨[(1,aV 0),(2,.one (.bp (.sl cg) a2)),(3,pV 1 0),(7,pV 2 0),(8,.one (.fK 3)),(11,pV 4 0),(12,iV s4.1),(14,aV 21),(15,.one (.bp .str T)),(16,iV (aW j.2.1)),(54,iV a0.2.1),(55,iV j.1)],[(21,.seq tI (KW++([j.1]:GI))),(0,.seq (.own tI) j.2.1),(1,.box [iC a0.1,iC a0.2.1,nC a0.2.2.1,.bp (.sl .bool) a0.2.2.2]),(2,.box [iC 0,iC 0,.br,.br]),(3,.mp .str tI j.2.2.1),(4,.box [iC 0,iC a0.2.1,.all 15,.all 18]),(15,.seq tI j.2.2.2),(18,.seq .bool (s4.2.2.2.2++([yJ]:GZ)))],22⟩ p (by (refine υ (HT.rg (RG.cut 3 [oH,oH,oH] ⟨[(82,iV (aW j.2.1)),(81,.one (.bp .str T)),(80,.one (.fK 3)),(1,aV 0),(2,.one (.bp (.sl cg) a2)),(3,pV 1 0),(7,pV 2 0),(8,.one (.fK 3)),(11,pV 4 0),(12,iV s4.1),(14,aV 21),(15,.one (.bp .str T)),(16,iV (aW j.2.1)),(54,iV a0.2.1),(55,iV j.1)],[(21,.seq tI (KW++([j.1]:GI))),(0,.seq (.own tI) j.2.1),(1,.box [iC a0.1,iC a0.2.1,nC a0.2.2.1,.bp (.sl .bool) a0.2.2.2]),(2,.box [iC 0,iC 0,.br,.br]),(3,.mp .str tI j.2.2.1),(4,.box [iC 0,iC a0.2.1,.all 15,.all 18]),(15,.seq tI j.2.2.2),(18,.seq .bool (s4.2.2.2.2++([yJ]:GZ)))],22⟩ p.P p.N (by kernel_rfl) aU (RG.qw (t:= .str) (u:=tI) (x:=T) (y:=(aW j.2.1)) p (.inl rfl) rfl rfl (K:=9) (E:=2) (by kernel_rfl) PW rfl rfl rfl rfl rfl rfl rfl WU (RG.jV [1,2,3,7,8,11,12,14,16,54,55] [] ⟨[(1,aV 0),(2,.one (.bp (.sl cg) a2)),(3,pV 1 0),(7,pV 2 0),(8,.one (.fK 3)),(11,pV 4 0),(12,iV s4.1),(14,aV 21),(16,iV (aW j.2.1)),(54,iV a0.2.1),(55,iV j.1)],[(3,.mp .str tI (j.2.2.1++[(T,(aW j.2.1))])),(21,.seq tI (KW++([j.1]:GI))),(0,.seq (.own tI) j.2.1),(1,.box [iC a0.1,iC a0.2.1,nC a0.2.2.1,.bp (.sl .bool) a0.2.2.2]),(2,.box [iC 0,iC 0,.br,.br]),(3,.mp .str tI j.2.2.1),(4,.box [iC 0,iC a0.2.1,.all 15,.all 18]),(15,.seq tI j.2.2.2),(18,.seq .bool (s4.2.2.2.2++([yJ]:GZ)))],22⟩ p.P p.N (by kernel_rfl) aU ?_))));exact (bg J λWV J=>Τ p [oH,oH,(hT (.own tI)),(hT (.own tI))] (bD WV) λ_ h=>(aX (h.ht (SV _ (aZ J))))))))) λPX J=>Η (aX (HT.re p (SV _ (aZ J)))))))))))))) λBe o=>Ϫ p (bw (bA (EK _ (bd o))))))))))))) λBa R=>Ϫ p (bw (bA (Jg _ (bd R)))))))))))))) λU Wy I Jr=>θ p [] aU (ϻ I (λA5 I=>υ (ξ (bg I λHg I=>θ p [] (dd Hg (bG Hg)) (bc I F9 λQZ SY I=>bg I λWW I=>HT.eg ⟨[(1,aV 0),(2,.one (.bp (.sl cg) a2)),(3,pV 1 0),(7,pV 2 0),(8,.one (.fK 3)),(9,iV U.1),(10,.one (.row 0 (δ U.1) 0)),(19,aV 0),(20,iV (aW a1)),(21,iV U.1)],[(0,.seq (.own tI) a1),(1,.box [iC a0.1,iC a0.2.1,nC a0.2.2.1,.bp (.sl .bool) a0.2.2.2]),(2,.box [iC 0,iC 0,.br,.br]),(3,.mp .str tI U.2)],4⟩ p (HT.V1 (λhq=>(RG.cut 6 [oH,oH,oH,oH,(cl SY),oH] ⟨[(31,iV U.1),(30,.one (.bp .str QZ)),(29,.one (.bp (.sl cg) a2)),(28,.one (.row 0 (δ U.1) 0)),(27,.agg [iC a0.1,iC a0.2.1,nC a0.2.2.1,.bp (.sl .bool) a0.2.2.2]),(26,.one (.fK 3)),(1,aV 0),(2,.one (.bp (.sl cg) a2)),(3,pV 1 0),(7,pV 2 0),(8,.one (.fK 3)),(9,iV U.1),(10,.one (.row 0 (δ U.1) 0)),(19,aV 0),(20,iV (aW a1)),(21,iV U.1)],[(0,.seq (.own tI) a1),(1,.box [iC a0.1,iC a0.2.1,nC a0.2.2.1,.bp (.sl .bool) a0.2.2.2]),(2,.box [iC 0,iC 0,.br,.br]),(3,.mp .str tI U.2)],4⟩ p.P p.N (by kernel_rfl) (gy SY aU) (RG.qw (t:= .str) (u:=tI) (x:=QZ) (y:=U.1) p (.inl rfl) rfl rfl (K:=9) (E:=2) (by kernel_rfl) PW rfl rfl rfl rfl rfl rfl rfl WW (RG.last [] ⟨[(31,iV U.1),(30,.one (.bp .str QZ)),(29,.one (.bp (.sl cg) a2)),(28,.one (.row 0 (δ U.1) 0)),(27,.agg [iC a0.1,iC a0.2.1,nC a0.2.2.1,.bp (.sl .bool) a0.2.2.2]),(26,.one (.fK 3)),(1,aV 0),(2,.one (.bp (.sl cg) a2)),(3,pV 1 0),(7,pV 2 0),(8,.one (.fK 3)),(9,iV U.1),(10,.one (.row 0 (δ U.1) 0)),(19,aV 0),(20,iV (aW a1)),(21,iV U.1)],[(3,.mp .str tI (U.2++[(QZ,U.1)])),(0,.seq (.own tI) a1),(1,.box [iC a0.1,iC a0.2.1,nC a0.2.2.1,.bp (.sl .bool) a0.2.2.2]),(2,.box [iC 0,iC 0,.br,.br]),(3,.mp .str tI U.2)],4⟩ p.P p.N (by kernel_rfl) aU hq)))) (bj (aX (Τ p [] aU λ_ h=>(bz (lN I h)))))))))) λA5 I=>Ϫ p (bw (bA (Jr _ (bd I))))))))))))
def cU (a0:GI)(a1:GI)(j:Int):Option ((Int)⊕(Unit⊕Unit)):=
 bif (decide (j<(aW a0))) then
  aY (0<=j/\j<aW a0) (
   aY (0<=j/\j<aW a1) (
    bif ((ε a0 (δ j) 0) != (ε a1 (δ j) 0)) then
     some (.inr (.inr ()))
    else
     some (.inl (bf .i64 j 1))))
 else
  some (.inr (.inl ()))
def bS (a0:GI)(a1:GI):Option (Bool):=
 bif ((aW a0) != (aW a1)) then
  some false
 else
  (rounds (cU a0 a1) 0).bind λj=>match j with
   | .inl o=>
    some true
   | .inr p=>
    some false
theorem xT {a0}{a1}{r}(p:bS a0 a1=some r):CallOK ν 72 [.bP cg a0,.bP cg a1] [⟨false,.bool,r⟩] []:=
 dn Tryz.func72 rfl λcx o hF=>θ o [] aU (υ (θ o [] aU (Ω p (λT p=>θ o [] aU (by (cases p;exact (Δ (bn (bY aU)))))) λT p=>Η (aX (υ (θ o [] aU (ξ (Ϩ o p (λs2=>up [0,1,12] [(13,iV s2)] [] [] 0) (λU=>match U with| .inl r4=>(.exit 0,up [] [] [] [] 0)| .inr r5=>(.ret,up [] [(4,bV false)] [] [] 0)) (λU=>match U with| .inl r4=>λp=>(bm (aX (θ o [] aU (by (cases p;exact (Δ (bY aU)))))))| .inr r5=>λp=>by (cases p;exact (bH (bn (bY aU))))) λs2 x6 j t=>θ o [] aU (ϻ j (λaa j=>υ (ξ (θ o [] aU (bg j λI j=>bg j λJ j=>HT.dg o [] (dd I J) (Ω j (λR j=>θ o [] aU (HT.xr o (bH (bn (eZ (t _ (bd j))))))) λR j=>Η (bj (aX (Τ o [] aU λ_ h=>(bz (lN j h)))))))))) λaa j=>Ϫ o (bw (bA (t _ (bd j)))))))))))))
def l0 (a0:GI)(a1:GI):Option (Bool):=
 (bS a0 a1).bind λj=>
 some j
theorem Ms {a0}{a1}{r}(o:l0 a0 a1=some r):CallOK ν 201 [.bP cg a0,.fW cg a1] [⟨false,.bool,r⟩] []:=
 dn Tryz.func201 rfl λcx p t=>θ p [] aU (bc o xT λI j o=>θ p [oH,oH,(cl j)] (bD j) (by (cases o;exact (Δ (bY aU)))))
def cL (a0:List GI)(a1:GI)(s1:Int):Option ((Int)⊕(Unit⊕Int)):=
 bif (decide (s1<(aW a0))) then
  aY (0<=s1/\s1<aW a0) (
   (l0 (ε a0 (δ s1) ([]:GI)) a1).bind λj=>
   bif j then
    some (.inr (.inr s1))
   else
    some (.inl (bf .i64 s1 1)))
 else
  some (.inr (.inl ()))
def cn (a0:List GI)(a1:GI):Option (Int):=
 (rounds (cL a0 a1) 0).bind λj=>match j with
  | .inl p=>
   some (-1)
  | .inr o=>
   some o
theorem mF {a0}{a1}{r}(t:cn a0 a1=some r):CallOK ν 196 [.bP (.sl cg) a0,.jb 201 cg a1] [⟨false,tI,r⟩] []:=
 dn Tryz.func196 rfl λcx o hF=>θ o [] aU (υ (θ o [] aU (ξ (Ϩ o t (λs1=>up [0,1,7] [(8,iV s1)] [] [] 0) (λR=>match R with| .inl r3=>(.exit 0,up [] [] [] [] 0)| .inr r4=>(.ret,up [] [(4,iV r4)] [] [] 0)) (λR=>match R with| .inl r3=>λt=>(bm (aX (θ o [] aU (by (cases t;exact (Δ (bY aU)))))))| .inr r4=>λt=>by (cases t;exact (bH (bn (bY aU))))) λs1 x5 j I=>θ o [] aU (ϻ j (λT j=>υ (ξ (θ o [] aU (bg j λU j=>bc j Ms λPo p j=>θ o (nO 5 [(cl p)]) (dd U p) (Ω j (λJ j=>θ o [] aU (HT.xr o (bH (bn (eZ (I _ (bd j))))))) λJ j=>Η (bj (aX (Τ o [] aU λ_ h=>(bz (lN j h)))))))))) λT j=>Ϫ o (bw (bA (I _ (bd j)))))))))
def bK (a0:List GI)(a1:GI):Option (Bool):=
 (cn a0 a1).bind λj=>
 some (decide (j>=0))
theorem mG {a0}{a1}{r}(o:bK a0 a1=some r):CallOK ν 200 [.bP (.sl cg) a0,.jb 201 cg a1] [⟨false,.bool,r⟩] []:=
 dn Tryz.func200 rfl λcx p t=>θ p [] aU (bc o mF λI j o=>θ p [oH,oH,(cl j)] (bD j) (by (cases o;exact (Δ (bY aU)))))
def iB (o:GI×Bool)(j:Int×List GI):Option ((Int×List GI)⊕(List GI)):=
 bif (decide (j.1<(aW o.1))) then
  (show Option (List GI) from
   aY (0<=j.1/\j.1<=aW o.1) (
    (bK j.2 (cut o.1 j.1 (aW o.1))).bind λp=>
    bif (!p) then
     aY (ζ j.2+ζ ([(cut o.1 j.1 (aW o.1))]:List GI)<=bl) (
      some (j.2++([(cut o.1 j.1 (aW o.1))]:List GI)))
    else
     some j.2)).bind λr=>
  some (.inl ((bf .i64 j.1 1),r))
 else
  some (.inr j.2)
def oP (a0:GP)(o:Int×List GI×List GI):Option ((Int×List GI×List GI)⊕((Int×Bool×GP))):=
 (lZ (a0.1,a0.2.1,a0.2.2.1,a0.2.2.2) o.2.1 o.2.2).bind λj=>
 (cr (j.2.1,j.2.2.1,j.2.2.2.1,j.2.2.2.2)).bind λr=>
 bif (!r) then
  some (.inr (0,false,0,0,([]:GI),([]:GZ)))
 else
  (iQ (a0.1,a0.2.1,a0.2.2.1,a0.2.2.2) (j.2.1,j.2.2.1,j.2.2.2.1,j.2.2.2.2)).bind λp=>
  bif (!p.2) then
   some (.inr (o.1,true,j.2.1,j.2.2.1,j.2.2.2.1,j.2.2.2.2))
  else
   (rounds (iB p) (0,o.2.2)).bind λt=>
   some (.inl ((bf .i64 o.1 1),j.1,t))
def kr (a0:GP):Option (GP×Int×Bool):=
 (cr (a0.1,a0.2.1,a0.2.2.1,a0.2.2.2)).bind λo=>
 bif (!o) then
  some ((0,0,([]:GI),([]:GZ)),0,false)
 else
  (rounds (oP a0) (1,([([]:GI)]:List GI),([([]:GI)]:List GI))).bind λj=>
  some ((j.2.2.1,j.2.2.2.1,j.2.2.2.2.1,j.2.2.2.2.2),j.1,j.2.1)
theorem Mt {a0}{r}(R:kr a0=some r):CallOK ν 167 [.bP (.st gP) a0] [⟨false,(.st gP),r.1⟩,⟨false,tI,r.2.1⟩,⟨false,.bool,r.2.2⟩] []:=
 dn Tryz.func167 rfl λcx p hF=>θ p [] aU (υ (bc R oN λy1 tq R=>θ p [oH,(cl tq)] (bD tq) (Ω R (λAz R=>θ p [] aU (by (cases R;exact (Δ (bn (bY aU)))))) λAz R=>Η (aX (θ p [oH,(hT (.own tI)),oH,(hT cg)] aU (θ p [] aU (ξ (Ϩ p R (λT=>up [1,2,5,6] [(7,iV T.1)] [0,1] [(2,.seq (.own tI) T.2.1),(3,.seq cg T.2.2)] 0) (λr6=>(.ret,up [2] [(3,iV r6.1),(4,bV r6.2.1)] [] [(1,.box [iC r6.2.2.1,iC r6.2.2.2.1,nC r6.2.2.2.2.1,.bp (.sl .bool) r6.2.2.2.2.2])] 0)) (λr6 R=>by (cases R;exact (bH (bY aU)))) λT x7 j Jg=>υ (ξ (θ p [] aU (bc j C7 λt aa j=>θ p [oH,oH,oH,(cl aa)] (bD aa) (υ (bc j oN λyJ ab j=>θ p [oH,(cl ab)] (bD ab) (Ω j (λJG j=>θ p [] aU (HT.xr p (bn (bH (bn (eZ (Jg _ (bd j)))))))) λJG j=>Η (aX (by (refine (Le.rz [(4,4),(5,5),(7,7),(0,0),(1,1),(3,3)] [] (st':=⟨[(1,pV 0 0),(2,pV 1 0),(5,aV 5),(6,aV 3),(7,iV T.1),(8,pV 4 0),(32,bV (!yJ))],[(4,.box [iC t.2.1,iC t.2.2.1,nC t.2.2.2.1,.all 7]),(5,.seq (.own tI) t.1),(7,.seq .bool t.2.2.2.2),(0,.box [iC a0.1,iC a0.2.1,nC a0.2.2.1,.bp (.sl .bool) a0.2.2.2]),(1,.box [iC 0,iC 0,.br,.br]),(3,.seq cg T.2.2)],8⟩) p hF (by kernel_rfl)).ht ?_;exact (by (refine (Le.rz [(4,4),(5,5),(0,0),(1,1),(3,3)] [] (st':=⟨[(1,pV 0 0),(2,pV 1 0),(5,aV 5),(6,aV 3),(7,iV T.1),(8,pV 4 0),(32,bV (!yJ))],[(4,.box [iC t.2.1,iC t.2.2.1,nC t.2.2.2.1,.bp (.sl .bool) t.2.2.2.2]),(5,.seq (.own tI) t.1),(0,.box [iC a0.1,iC a0.2.1,nC a0.2.2.1,.bp (.sl .bool) a0.2.2.2]),(1,.box [iC 0,iC 0,.br,.br]),(3,.seq cg T.2.2)],8⟩) p hF (by kernel_rfl)).ht ?_;exact (bc j F8 λU ad j=>θ p [oH,oH,(cl ad)] (bD ad) (υ (θ p [] aU (Ω j (λA4 j=>θ p [] aU (HT.xr p (bn (bH (bn (eZ (Jg _ (bd j)))))))) λA4 j=>Η (aX (θ p [] aU (ξ (Ϩ p j (λJ=>up [1,2,5,6,7,9,45] [(46,iV J.1)] [0,1,5] [(3,.seq cg J.2)] 0) (λUr=>(.exit 2,up [1,2,5,6,7] [] [0,1,5] [(3,.seq cg Ur)] 0)) (λUr j=>(bm (bj (aX (Τ p [] aU λ_ h=>(bz (lN j h))))))) λJ x21 I L3=>θ p [] aU (ϻ I (λED I=>ϰ I (λv26=>up [1,2,5,7,9,45,46] [(6,aV 10)] [0,1,5] [(10,.seq cg v26)] 3) (λv26 I=>Τ p [] aU λ_ h=>(bz (lN I h))) λ_ o ae=>ξ (θ p [] aU (bg o λzf o=>θ p [] (bD (Sz zf)) (by (refine (Le.rz [(0,0),(1,1),(5,5),(3,3)] [] (st':=⟨[(1,pV 0 0),(2,pV 1 0),(5,aV 5),(6,aV 3),(7,iV T.1),(9,nV U.1),(12,.one (.ip cg (cut U.1 J.1 (aW U.1)) 0)),(45,iV (aW U.1)),(46,iV J.1)],[(0,.box [iC a0.1,iC a0.2.1,nC a0.2.2.1,.bp (.sl .bool) a0.2.2.2]),(1,.box [iC 0,iC 0,.br,.br]),(5,.seq (.own tI) t.1),(3,.seq cg J.2)],9⟩) p hF (by kernel_rfl)).ht ?_;exact (bc o mG λYx af o=>θ p [oH,oH,(cl af)] (bD af) (Ω o (λxR o=>bg o λPY o=>Τ p [oH,oH,(hT cg),(hT cg)] (bD PY) λ_ h=>(bj (aX (h.ht (ae _ (aZ o)))))) λxR o=>Η (bj (aX (HT.re p (ae _ (aZ o)))))))))))) λED I=>Ϫ p (bw (bA (L3 _ (bd I))))))))))))))))))))))))))))))))
def gU (a0:GG)(a1:GI):Option (Bool):=
 (show Option (Bool) from
  (cQ (a0.1,a0.2.1,a0.2.2)).bind λj=>
  bif j then
   (gn a1 a0.2.1).bind λo=>
   bif o then
    some (decide ((aW a1)>0))
   else
    some false
  else
   some false).bind λp=>
 some p
theorem JH {a0}{a1}{r}(T:gU a0 a1=some r):CallOK ν 55 [.bP (.st gR) a0,.bP cg a1] [⟨false,.bool,r⟩] []:=
 dn Tryz.func55 rfl λcx R hF=>θ R [] aU (ϰ T (λU=>up [] [(4,bV U)] [] [] 0) (λU T=>by (cases T;exact (Δ (bY aU)))) λ_ j J=>bc j uS λy5 o j=>bb j (λt j=>bc j Bd λy8 I j=>bb j (λp j=>Τ R [oH,(cl o),kT,oH,oH,oH,(cl I),oH,kT] (nB o t I p) λ_ h=>(aX (h.ht (J _ (aZ j))))) λp j=>Τ R [oH,(cl o),kT,oH,oH,oH,(cl I),oH,kF] (nB o t I p) λ_ h=>(aX (h.ht (J _ (aZ j))))) λt j=>Τ R [oH,(cl o),kF] (dd o t) λ_ h=>(aX (h.ht (J _ (aZ j)))))
end
end Go.Proofs
