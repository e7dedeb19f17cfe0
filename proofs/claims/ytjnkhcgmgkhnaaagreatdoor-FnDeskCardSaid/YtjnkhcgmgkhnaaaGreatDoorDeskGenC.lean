import Derived.Test.YtjnkhcgmgkhnaaaGreatDoorDeskGenB
import Derived.Test.YtjnkhcgmgkhnaaaGreatDoorProg
set_option linter.all false
open BitVec renaming ofInt→Ϟ
open Go.Ide.HT renaming g→θ,block→ξ,seq→υ,ret→Δ,skip→Η,k→Τ,cb→Ω,lp→Ϩ,xe→Ϫ,jn→ϰ,cj→ϻ,re→aa5,dg→aba
open Go.IntKind renaming wrap→Φ,bits→Ϗ
open Go.Proofs.Tryz renaming prog→ν
open Int renaming toNat→δ
open List renaming getD→ε,length→ζ,replicate→π,take→Ϝ,set→aag,drop→aaW
open Nat renaming min→aa0
namespace Go.Proofs
open Go.Ide
noncomputable section
def eh (j:Int×GI):Option ((Int×GI)⊕GI):=
 bif (decide (j.1<(aW j.2))) then
  aY (0<=j.1/\j.1<=aW j.2) (
   some (.inl ((bf .i64 j.1 ((aa0 (ζ (Ϝ (δ j.1) (aaW 0 j.2))) (δ (aW j.2) - δ j.1):Nat):Int)),(Ϝ (δ j.1) j.2++Ϝ (aa0 (ζ (Ϝ (δ j.1) (aaW 0 j.2))) (δ (aW j.2) - δ j.1)) (Ϝ (δ j.1) (aaW 0 j.2))++aaW ((δ j.1)+aa0 (ζ (Ϝ (δ j.1) (aaW 0 j.2))) (δ (aW j.2) - δ j.1)) j.2))))
 else
  some (.inr j.2)
def bW (a0:GI)(a1:Int):Option GI:=
 bif (decide (a1<0)) then
  none
 else
  (j9 (Φ .u64 (aW a0)) (Φ .u64 a1)).bind λj=>
  (show Option (Bool) from
   bif (decide (j.1>0)) then
    some true
   else
    some (decide (j.2>9223372036854775807))).bind λt=>
  bif t then
   none
  else
   aY (0<=(Φ .i64 j.2)/\(Φ .i64 j.2)<=4294967296) (
    (some ((aa0 (ζ a0) (ζ (π (δ (Φ .i64 j.2)) (0:Int))):Nat):Int)).bind λo=>
    (some (Ϝ 0 (π (δ (Φ .i64 j.2)) (0:Int))++Ϝ (aa0 (ζ a0) (ζ (π (δ (Φ .i64 j.2)) (0:Int)))) a0++aaW (0+aa0 (ζ a0) (ζ (π (δ (Φ .i64 j.2)) (0:Int)))) (π (δ (Φ .i64 j.2)) (0:Int)))).bind λp=>
    (rounds (eh) (o,p)).bind λr=>
    some r)
theorem wm {a0}{a1}{r}(o:bW a0 a1=some r):CallOK ν 140 [.bP cg a0,.bP tI a1] [⟨true,cg,r⟩] []:=
 dn Tryz.func140 rfl λcx p hF=>θ p [] aU (υ (θ p [] aU (Ω o (λae o=>nn o) λae o=>Η (aX (bc o L8 λy2 T o=>θ p (nO 5 [(cl T)]) (bD T) (υ (ϰ o (λv5=>up [0,6] [(26,bV v5)] [] [] 0) (λv5 o=>Ω o (λaf o=>nn o) λaf o=>Η (aX (bg o λag o=>θ p [oH,oH,(hT tI)] (bD (LM ag)) (θ p [] aU (bq o λo=>bq o λo=>υ (ξ (Ϩ p o (λR=>up [7] [(8,iV R.1)] [] [(0,.seq tI R.2)] 0) (λU=>(.exit 0,up [7] [] [] [(0,.seq tI U)] 0)) (λU o=>(bm (aX (θ p [] aU (by (cases o;exact (Δ (bY aU)))))))) λR Ys j aa=>υ (θ p [] aU (Ω j (λab j=>Η (aX (ξ (bg j λJ j=>HT.dk p [] (dd (Sz J) (Sy J)) λ_ h=>(bj (bz (lN j h))))))) λab j=>Ϫ p (bw (bA (aa _ (bd j))))))))))))) λ_ t ad=>bb t (λI t=>Τ p [oH,oH,kT] (bD I) λ_ h=>(aX (h.ht (ad _ (aZ t))))) λI t=>Τ p [oH,oH,kF] (bD I) λ_ h=>(aX (h.ht (ad _ (aZ t)))))))))))
def kV (a0:Int):Option GI:=
 (bW ([(-1)]:GI) a0).bind λj=>
 some j
theorem wo {a0}{r}(o:kV a0=some r):CallOK ν 105 [.bP tI a0] [⟨true,cg,r⟩] []:=
 dn Tryz.func105 rfl λcx p t=>θ p [] aU (bc o wm λI j o=>θ p [(hT tI),oH,(cl j)] (bD j) (by (cases o;exact (Δ (bY aU)))))
def oJ (a0:GM)(o:GI×Int×GI×GI)(j:Int×GL):Option ((Int×GL)⊕(GL)):=
 bif (decide (j.1<(aW a0.2.2.1))) then
  (show Option (GL) from
   aY (0<=j.1/\j.1<aW a0.2.2.1) (
    (some ((((ε a0.2.2.1 (δ j.1) (0,0,0,0)).2).2).1)).bind λp=>
    (some ((((ε a0.2.2.1 (δ j.1) (0,0,0,0)).2).2).2)).bind λr=>
    (show Option (Bool) from
     aY (0<=(ε a0.2.2.1 (δ j.1) (0,0,0,0)).1/\(ε a0.2.2.1 (δ j.1) (0,0,0,0)).1<aW o.1) (
      bif (decide ((ε o.1 (δ ((ε a0.2.2.1 (δ j.1) (0,0,0,0)).1)) 0)>=0)) then
       aY (0<=((ε a0.2.2.1 (δ j.1) (0,0,0,0)).2).1/\((ε a0.2.2.1 (δ j.1) (0,0,0,0)).2).1<aW o.1) (
        some (decide ((ε o.1 (δ (((ε a0.2.2.1 (δ j.1) (0,0,0,0)).2).1)) 0)>=0)))
      else
       some false)).bind λt=>
    bif t then
     aY (0<=(ε a0.2.2.1 (δ j.1) (0,0,0,0)).1/\(ε a0.2.2.1 (δ j.1) (0,0,0,0)).1<aW o.1) (
      aY (0<=((ε a0.2.2.1 (δ j.1) (0,0,0,0)).2).1/\((ε a0.2.2.1 (δ j.1) (0,0,0,0)).2).1<aW o.1) (
       aY (ζ j.2+ζ ([((ε o.1 (δ ((ε a0.2.2.1 (δ j.1) (0,0,0,0)).1)) 0),(ε o.1 (δ (((ε a0.2.2.1 (δ j.1) (0,0,0,0)).2).1)) 0),p,r)]:GL)<=bl) (
        some (j.2++([((ε o.1 (δ ((ε a0.2.2.1 (δ j.1) (0,0,0,0)).1)) 0),(ε o.1 (δ (((ε a0.2.2.1 (δ j.1) (0,0,0,0)).2).1)) 0),p,r)]:GL)))))
    else
     some j.2)).bind λI=>
  some (.inl ((bf .i64 j.1 1),I))
 else
  some (.inr j.2)
def oK (a0:GM)(r:GZ)(t:GZ)(I:GI)(j:Int×GI×Int×GI×GI):Option ((Int×GI×Int×GI×GI)⊕((GI×Int×GI×GI))):=
 bif (decide (j.1<(aW I))) then
  (show Option (GI×Int×GI×GI) from
   (show Option (Bool) from
    aY (0<=j.1/\j.1<aW r) (
     bif (ε r (δ j.1) false) then
      aY (0<=j.1/\j.1<aW t) (
       some (ε t (δ j.1) false))
     else
      some false)).bind λp=>
   bif p then
    aY (0<=j.1/\j.1<aW j.2.1) (
     aY (0<=j.1/\j.1<aW a0.2.2.2.1) (
      aY (ζ j.2.2.2.1+ζ ([(ε a0.2.2.2.1 (δ j.1) 0)]:GI)<=bl) (
       aY (0<=j.1/\j.1<aW a0.2.2.2.2) (
        aY (ζ j.2.2.2.2+ζ ([(ε a0.2.2.2.2 (δ j.1) 0)]:GI)<=bl) (
         some ((aag j.2.1 (δ j.1) j.2.2.1),(bf .i64 j.2.2.1 1),(j.2.2.2.1++([(ε a0.2.2.2.1 (δ j.1) 0)]:GI)),(j.2.2.2.2++([(ε a0.2.2.2.2 (δ j.1) 0)]:GI))))))))
   else
    some (j.2.1,j.2.2.1,j.2.2.2.1,j.2.2.2.2)).bind λo=>
  some (.inl ((bf .i64 j.1 1),o.1,o.2.1,o.2.2.1,o.2.2.2))
 else
  some (.inr (j.2.1,j.2.2.1,j.2.2.2.1,j.2.2.2.2))
def pf (a0:GM):Option (GM×Bool):=
 (bZ (a0.1,a0.2.1,a0.2.2.1,a0.2.2.2.1,a0.2.2.2.2)).bind λt=>
 bif (!t) then
  some ((0,0,([]:GL),([]:GI),([]:GI)),false)
 else
  (lC (a0.1,a0.2.1,a0.2.2.1,a0.2.2.2.1,a0.2.2.2.2) a0.2.2.2.1 false).bind λI=>
  (lC (a0.1,a0.2.1,a0.2.2.1,a0.2.2.2.1,a0.2.2.2.2) a0.2.2.2.2 true).bind λJ=>
  (kV a0.1).bind λr=>
  (rounds (oK a0 I J r) (0,r,0,([]:GI),([]:GI))).bind λo=>
  (rounds (oJ a0 o) (0,([]:GL))).bind λp=>
  (kU (o.2.1,a0.2.1,p,o.2.2.1,o.2.2.2)).bind λj=>
  some ((j.1.1,j.1.2.1,j.1.2.2.1,j.1.2.2.2.1,j.1.2.2.2.2),j.2)
theorem L9 {a0}{r}(T:pf a0=some r):CallOK ν 157 [.bP (.st gM) a0] [⟨true,(.st gM),r.1⟩,⟨false,.bool,r.2⟩] []:=
 dn Tryz.func157 rfl λcx p hF=>θ p [] aU (υ (bc T oI λy1 aw T=>θ p [oH,(cl aw)] (bD aw) (Ω T (λaQ T=>θ p [] aU (by (cases T;exact (Δ (bn (bY aU)))))) λaQ T=>Η (aX (bc T F4 λy4 ax T=>bc T F4 λy6 ay T=>aba p [oH,oH,oH,(cl ax),oH,oH,oH,(cl ay)] (dd ax ay) (bc T wo λy8 az T=>θ p [oH,oH,(cl az)] (bD az) (θ p [] aU (υ (θ p [] aU (ξ (Ϩ p T (λad=>up [1,2,4,5,6,7,30] [(31,iV ad.1)] [0,1,2,3] [(4,.seq tI ad.2.1),(5,.box [iC ad.2.2.1,iC a0.2.1,.br,.all 10,.all 11]),(10,.seq tI ad.2.2.2.1),(11,.seq tI ad.2.2.2.2)] 6) (λU=>(.exit 0,up [1,2,6,7] [] [0,1] [(4,.seq tI U.1),(5,.box [iC U.2.1,iC a0.2.1,.br,.all 10,.all 11]),(10,.seq tI U.2.2.1),(11,.seq tI U.2.2.2)] 6)) (λU T=>(bm (aX (υ (θ p [] aU (ξ (Ϩ p T (λav=>up [2,6,7,75,76] [(77,iV av.1)] [1,4,10,11] [(5,.box [iC U.2.1,iC a0.2.1,.all 15,.all 10,.all 11]),(15,.seq (.st gQ) av.2)] 4) (λaA=>(.exit 2,up [2,7] [] [1,10,11] [(5,.box [iC U.2.1,iC a0.2.1,.all 15,.all 10,.all 11]),(15,.seq (.st gQ) aA)] 4)) (λaA T=>(bm (aX (bc T A7 λaR ah T=>θ p [oH,(cl ah)] (bD ah) (by (cases T;exact (Δ (bY aU)))))))) λav aS J aB=>θ p [] aU (ϻ J (λaC J=>ϰ J (λaD=>up [2,6,7,75,76,77] [] [1,4,10,11] [(5,.box [iC U.2.1,iC a0.2.1,.all 18,.all 10,.all 11]),(18,.seq (.st gQ) aD)] 3) (λaD J=>Τ p [] aU λ_ h=>(bz (lN J h))) λ_ j ai=>ξ (bg j λaE j=>θ p [] (bD aE) (bq j λj=>bq j λj=>ϰ j (λaF=>up [2,6,7,10,75,76,77] [(94,bV aF)] [1,4,5,16,15,10,11] [] 0) (λaF j=>Ω j (λaG j=>bg j λaj j=>bg j λak j=>bg j λaH j=>HT.dk p (nO 17 [(hT (.st gQ)),(hT (.st gQ))]) (iE aj (bG aj) ak (bG ak) (bD aH)) λ_ h=>(bj (aX (h.ht (ai _ (aZ j)))))) λaG j=>Η (bj (aX (aa5 p (ai _ (aZ j)))))) λ_ t al=>bg t λaa t=>bb t (λae t=>bg t λan t=>Τ p (nO 6 [kT]) (iE aa (bG aa) ae an (bD (bG an))) λ_ h=>(aX (h.ht (al _ (aZ t))))) λae t=>Τ p (nO 6 [kF]) (kQ aa (bG aa) ae) λ_ h=>(aX (h.ht (al _ (aZ t))))))) λaC J=>Ϫ p (bw (bA (aB _ (bd J)))))))))))) λad aT R aI=>θ p [] aU (ϻ R (λaJ R=>ϰ R (λaf=>up [1,2,4,5,6,7,30,31] [] [0,1,2,3] [(4,.seq tI af.1),(5,.box [iC af.2.1,iC a0.2.1,.br,.all 13,.all 15]),(13,.seq tI af.2.2.1),(15,.seq tI af.2.2.2)] 4) (λaf R=>Τ p [] aU λ_ h=>(bz (lN R h))) λ_ o ao=>ξ (θ p [] aU (ϰ o (λaK=>up [1,2,4,5,6,7,8,30,31] [(43,bV aK)] [0,1,2,3,4,5,10,11] [] 0) (λaK o=>Ω o (λaL o=>bg o λaq o=>θ p [] (dd aq (bG aq)) (θ p [] aU (bg o λaM o=>bg o λaN o=>aba p (nO 7 [(hT tI),(hT tI)]) (dd aM aN) (bg o λaO o=>bg o λaP o=>HT.dk p (nO 7 [(hT tI),(hT tI)]) (dd aO aP) λ_ h=>(bj (aX (h.ht (ao _ (aZ o))))))))) λaL o=>Η (bj (aX (aa5 p (ao _ (aZ o)))))) λ_ I ar=>bg I λab I=>bb I (λag I=>bg I λau I=>Τ p (nO 4 [kT]) (iE ab (bG ab) ag au (bD (bG au))) λ_ h=>(aX (h.ht (ar _ (aZ I))))) λag I=>Τ p (nO 4 [kF]) (kQ ab (bG ab) ag) λ_ h=>(aX (h.ht (ar _ (aZ I))))))) λaJ R=>Ϫ p (bw (bA (aI _ (bd R))))))))))))))))
def iN (o:GI)(j:Int×GI):Option ((Int×GI)⊕GI):=
 bif (decide (j.1<(aW o))) then
  (show Option GI from
   aY (0<=j.1/\j.1<aW j.2) (
    bif (decide ((ε j.2 (δ j.1) 0)<0)) then
     some (aag j.2 (δ j.1) 1099511627776)
    else
     some j.2)).bind λv11=>
  some (.inl ((bf .i64 j.1 1),v11))
 else
  some (.inr j.2)
def fb (a0:GI):Option GI:=
 (slices_Clone a0).bind λj=>
 (rounds (iN j) (0,j)).bind λo=>
 some o
theorem ui {a0}{r}(J:fb a0=some r):CallOK ν 102 [.bP cg a0] [⟨true,cg,r⟩] []:=
 dn Tryz.func102 rfl λcx t hF=>θ t [] aU (bc J lA λy1 R J=>θ t [oH,(cl R)] (bD R) (υ (θ t [] aU (ξ (Ϩ t J (λU=>up [3,8,9] [(10,iV U.1)] [] [(0,.seq tI U.2)] 0) (λr5=>(.exit 0,up [3] [] [] [(0,.seq tI r5)] 0)) (λr5 J=>(bm (aX (θ t [] aU (by (cases J;exact (Δ (bY aU)))))))) λU x6 o aa=>θ t [] aU (ϻ o (λab o=>ϰ o (λv11=>up [3,8,9,10] [] [] [(0,.seq tI v11)] 0) (λv11 o=>Τ t [] aU λ_ h=>(bz (lN o h))) λ_ j I=>ξ (bg j λp j=>θ t [] (dd p (bG p)) (θ t [] aU (Ω j (λT j=>Τ t [] (dd p (bG p)) λ_ h=>(bj (aX (h.ht (I _ (aZ j)))))) λT j=>Η (bj (aX (aa5 t (I _ (aZ j))))))))) λab o=>Ϫ t (bw (bA (aa _ (bd o))))))))))
def ka (a0:GM)(j:Int×GI):Option ((Int×GI)⊕GI):=
 bif (decide (j.1<(aW a0.2.2.1))) then
  (show Option GI from
   aY (0<=j.1/\j.1<aW a0.2.2.1) (
    (some ((((ε a0.2.2.1 (δ j.1) (0,0,0,0)).2).2).1)).bind λp=>
    (some ((((ε a0.2.2.1 (δ j.1) (0,0,0,0)).2).2).2)).bind λo=>
    bif (decide (p<0)) then
     aY (0<=((ε a0.2.2.1 (δ j.1) (0,0,0,0)).2).1/\((ε a0.2.2.1 (δ j.1) (0,0,0,0)).2).1<aW j.2) (
      aY (0<=(ε a0.2.2.1 (δ j.1) (0,0,0,0)).1/\(ε a0.2.2.1 (δ j.1) (0,0,0,0)).1<aW j.2) (
       some (aag j.2 (δ (((ε a0.2.2.1 (δ j.1) (0,0,0,0)).2).1)) (if (bf .i64 (ε j.2 (δ ((ε a0.2.2.1 (δ j.1) (0,0,0,0)).1)) 0) o)<(ε j.2 (δ (((ε a0.2.2.1 (δ j.1) (0,0,0,0)).2).1)) 0) then (bf .i64 (ε j.2 (δ ((ε a0.2.2.1 (δ j.1) (0,0,0,0)).1)) 0) o) else (ε j.2 (δ (((ε a0.2.2.1 (δ j.1) (0,0,0,0)).2).1)) 0)))))
    else
     some j.2)).bind λr=>
  some (.inl ((bf .i64 j.1 1),r))
 else
  some (.inr j.2)
def kd (a0:GM)(a1:GI)(s1:Int×GI):Option ((Int×GI)⊕GI):=
 bif (decide (s1.1<(aW a1))) then
  (rounds (ka a0) (0,s1.2)).bind λj=>
  some (.inl ((bf .i64 s1.1 1),j))
 else
  some (.inr s1.2)
def mr (a0:GM)(a1:GI):Option GI:=
 (rounds (kd a0 a1) (0,a1)).bind λj=>
 aY (ζ j=ζ a1) (
  some j)
theorem A9 {a0}{a1}{r}(T:mr a0 a1=some r):CallOK ν 139 [.bP (.st gM) a0,.own cg a1] [] [⟨cg,r⟩]:=
 dn Tryz.func139 rfl λcx p hF=>θ p [] aU (θ p [] aU (ξ (Ϩ p T (λs1=>up [1,2,7] [(8,iV s1.1)] [1] [(0,.seq tI s1.2)] 0) (λr3=>(.exit 0,up [] [] [] [(0,.seq tI r3)] 0)) (λr3 T=>bg T λhg4 T=>by (cases T;exact (bm (bY (bD hg4))))) λs1 x5 t Pw=>θ p [] aU (ϻ t (λPe t=>υ (ξ (θ p [] aU (ξ (Ϩ p t (λs9=>up [1,2,7,8,11,12] [(13,iV s9.1)] [1] [(0,.seq tI s9.2)] 0) (λU=>(.exit 2,up [1,2,7,8] [] [1] [(0,.seq tI U)] 0)) (λU t=>(bm (bj (aX (Τ p [] aU λ_ h=>(bz (lN t h))))))) λs9 x12 o aa=>θ p [] aU (ϻ o (λab o=>ϰ o (λad=>up [1,2,7,8,11,12,13] [] [1] [(0,.seq tI ad)] 0) (λad o=>Τ p [] aU λ_ h=>(bz (lN o h))) λ_ j J=>ξ (bg j λae j=>θ p [] (bD ae) (bq j λj=>bq j λj=>θ p [] aU (Ω j (λaf j=>bg j λI j=>bg j λR j=>HT.dk p [] (iE I (bG I) R (bG R) (dd I (bG I))) λ_ h=>(bj (aX (h.ht (J _ (aZ j)))))) λaf j=>Η (bj (aX (aa5 p (J _ (aZ j))))))))) λab o=>Ϫ p (bw (bA (aa _ (bd o)))))))))) λPe t=>Ϫ p (bw (bA (Pw _ (bd t))))))))
def ei (a0:GI)(a1:GI)(s1:Int×Int):Option ((Int×Int)⊕(Int)):=
 bif (decide (s1.2<(aW a0))) then
  aY (0<=s1.2/\s1.2<aW a0) (
   aY (0<=s1.2/\s1.2<aW a1) (
    some (.inl ((if (bf .i64 (ε a0 (δ s1.2) 0) (ε a1 (δ s1.2) 0))<s1.1 then (bf .i64 (ε a0 (δ s1.2) 0) (ε a1 (δ s1.2) 0)) else s1.1),(bf .i64 s1.2 1)))))
 else
  some (.inr s1.1)
def ew (a0:GI)(a1:GI):Option (Int):=
 (rounds (ei a0 a1) (1099511627776,0)).bind λj=>
 bif (decide (j>=1099511627776)) then
  some (-1)
 else
  some j
theorem uj {a0}{a1}{r}(p:ew a0 a1=some r):CallOK ν 101 [.bP cg a0,.bP cg a1] [⟨false,tI,r⟩] []:=
 dn Tryz.func101 rfl λcx o hF=>θ o [] aU (θ o [] aU (υ (θ o [] aU (ξ (Ϩ o p (λI=>up [0,1,8] [(5,iV I.1),(9,iV I.2)] [] [] 0) (λr3=>(.exit 0,up [] [(5,iV r3)] [] [] 0)) (λr3 p=>(bm (aX (υ (θ o [] aU (Ω p (λJ p=>θ o [] aU (by (cases p;exact (Δ (bn (bY aU)))))) λJ p=>Η (aX (θ o [] aU (by (cases p;exact (Δ (bY aU)))))))))))) λI x5 j R=>θ o [] aU (ϻ j (λT j=>υ (ξ (θ o [] aU (bg j λU j=>bg j λt j=>HT.dl o [] (dd U t) (bj (aX (Τ o [] aU λ_ h=>(bz (lN j h))))))))) λT j=>Ϫ o (bw (bA (R _ (bd j))))))))))
def gf (a0:GM)(R:Int×GL×GI)(p:GI)(o:Int×GL)(j:Int×GL):Option ((Int×GL)⊕(GL)):=
 bif (decide (j.1<(aW a0.2.2.1))) then
  (show Option (GL) from
   aY (0<=j.1/\j.1<aW a0.2.2.1) (
    (some ((((ε a0.2.2.1 (δ j.1) (0,0,0,0)).2).2).1)).bind λr=>
    (some ((((ε a0.2.2.1 (δ j.1) (0,0,0,0)).2).2).2)).bind λt=>
    (show Option (Bool) from
     bif (decide ((ε p (δ o.1) 0)<1099511627776)) then
      bif (decide (r>=0)) then
       some ((ε a0.2.2.1 (δ j.1) (0,0,0,0)).1==o.1)
      else
       some false
     else
      some false).bind λI=>
    bif I then
     aY (ζ j.2+ζ ([(R.1,((ε a0.2.2.1 (δ j.1) (0,0,0,0)).2).1,r,(bf .i64 (ε p (δ o.1) 0) t))]:GL)<=bl) (
      some (j.2++([(R.1,((ε a0.2.2.1 (δ j.1) (0,0,0,0)).2).1,r,(bf .i64 (ε p (δ o.1) 0) t))]:GL)))
    else
     some j.2)).bind λJ=>
  some (.inl ((bf .i64 j.1 1),J))
 else
  some (.inr j.2)
def gg (a0:GM)(r:Int×GL×GI)(o:GI)(j:Int×GL):Option ((Int×GL)⊕(GL)):=
 bif (decide (j.1<(aW o))) then
  aY (0<=j.1/\j.1<aW o) (
   (rounds (gf a0 r o j) (0,j.2)).bind λp=>
   some (.inl ((bf .i64 j.1 1),p)))
 else
  some (.inr j.2)
def jB (a0:GM)(I:GI)(j:Int×GL×GI):Option ((Int×GL×GI)⊕((GL×GI))):=
 bif (decide (j.1<a0.1)) then
  (bW ([1099511627776]:GI) a0.1).bind λo=>
  aY (0<=j.1/\j.1<aW o) (
   (mr (a0.1,a0.2.1,a0.2.2.1,a0.2.2.2.1,a0.2.2.2.2) (aag o (δ j.1) 0)).bind λp=>
   (rounds (gg a0 j p) (0,j.2.1)).bind λt=>
   (ew p I).bind λr=>
   aY (ζ j.2.2+ζ ([r]:GI)<=bl) (
    some (.inl ((bf .i64 j.1 1),t,(j.2.2++([r]:GI))))))
 else
  some (.inr (j.2.1,j.2.2))
def jh (a0:GM):Option (GM×Bool):=
 (bZ (a0.1,a0.2.1,a0.2.2.1,a0.2.2.2.1,a0.2.2.2.2)).bind λp=>
 bif (!p) then
  some ((0,0,([]:GL),([]:GI),([]:GI)),false)
 else
  (slices_Clone a0.2.2.2.1).bind λr=>
  (fb a0.2.2.2.2).bind λt=>
  (rounds (jB a0 t) (0,([]:GL),([]:GI))).bind λo=>
  (kU (a0.1,a0.2.1,o.1,r,o.2)).bind λj=>
  some ((j.1.1,j.1.2.1,j.1.2.2.1,j.1.2.2.2.1,j.1.2.2.2.2),j.2)
theorem Ma {a0}{r}(R:jh a0=some r):CallOK ν 158 [.bP (.st gM) a0] [⟨true,(.st gM),r.1⟩,⟨false,.bool,r.2⟩] []:=
 dn Tryz.func158 rfl λcx p hF=>θ p [] aU (υ (bc R oI λy1 an R=>θ p [oH,(cl an)] (bD an) (Ω R (λAz R=>θ p [] aU (by (cases R;exact (Δ (bn (bY aU)))))) λAz R=>Η (aX (bc R lA λy4 ao R=>aba p (nO 6 [(cl ao)]) (bD ao) (bc R ui λy6 aq R=>θ p [oH,oH,(cl aq)] (bD aq) (υ (θ p [] aU (ξ (Ϩ p R (λs8=>up [1,2,4,5,28] [(29,iV s8.1)] [0,1,4,2] [(3,.box [iC a0.1,iC a0.2.1,.all 14,.all 2,.all 15]),(14,.seq (.st gQ) s8.2.1),(15,.seq tI s8.2.2)] 11) (λaj=>(.exit 0,up [2,4] [] [1,2] [(3,.box [iC a0.1,iC a0.2.1,.all 14,.all 2,.all 15]),(14,.seq (.st gQ) aj.1),(15,.seq tI aj.2)] 11)) (λaj R=>(bm (aX (bc R A7 λKV ab R=>θ p [oH,(cl ab)] (bD ab) (by (cases R;exact (Δ (bY aU)))))))) λs8 Wu j ar=>θ p [] aU (ϻ j (λau j=>υ (ξ (θ p [] aU (bc j wm λPc ad j=>θ p [(hT tI),oH,oH,(cl ad)] (bD ad) (bg j λae j=>θ p [] (dd ae (bG ae)) (bc j A9 λWz af j=>θ p [oH,oH,(cl af)] (bD af) (υ (θ p [] aU (ξ (Ϩ p j (λak=>up [1,2,4,5,6,7,28,29,42,43] [(44,iV ak.1)] [0,1,3,4,17,2,15] [(14,.seq (.st gQ) ak.2)] 0) (λav=>(.exit 2,up [1,2,4,5,7,28,29] [] [0,1,3,4,17,2,15] [(14,.seq (.st gQ) av)] 0)) (λav j=>(bm (aX (bc j uj λUq ag j=>bg j λaw j=>HT.dl p (nO 4 [(cl ag),(hT tI),(hT tI)]) (dd ag aw) (bj (aX (Τ p [] aU λ_ h=>(bz (lN j h))))))))) λak Yt t ax=>θ p [] aU (ϻ t (λay t=>υ (ξ (bg t λah t=>θ p [] (dd ah (bG ah)) (θ p [] aU (ξ (Ϩ p t (λal=>up [1,2,4,5,6,7,8,9,28,29,42,43,44,50,51] [(52,iV al.1)] [0,1,3,4,17,2,15] [(14,.seq (.st gQ) al.2)] 0) (λaz=>(.exit 4,up [1,2,4,5,6,7,28,29,42,43,44] [] [0,1,3,4,17,2,15] [(14,.seq (.st gQ) az)] 0)) (λaz t=>(bm (bj (aX (Τ p [] aU λ_ h=>(bz (lN t h))))))) λal Wy J aA=>θ p [] aU (ϻ J (λaB J=>ϰ J (λaC=>up [1,2,4,5,6,7,8,9,28,29,42,43,44,50,51,52] [] [0,1,4,17,2,15] [(3,.box [iC a0.1,iC a0.2.1,.all 20,.all 2,.all 15]),(20,.seq (.st gQ) aC)] 3) (λaC J=>Τ p [] aU λ_ h=>(bz (lN J h))) λ_ o ai=>ξ (bg o λaD o=>θ p [] (bD aD) (bq o λo=>bq o λo=>ϰ o (λaE=>up [1,2,4,5,6,7,8,9,11,28,29,42,43,44,50,51,52] [(68,bV aE)] [0,1,3,4,17,18,14,2,15] [] 0) (λaE o=>Ω o (λaF o=>bg o λaG o=>Τ p (nO 12 [(hT (.st gQ)),(hT (.st gQ))]) (bD aG) λ_ h=>(bj (aX (h.ht (ai _ (aZ o)))))) λaF o=>Η (bj (aX (aa5 p (ai _ (aZ o)))))) λ_ I U=>bb I (λT I=>bb I (λaa I=>Τ p [oH,oH,kT,oH,oH,oH,oH,kT] (dd T aa) λ_ h=>(aX (h.ht (U _ (aZ I))))) λaa I=>Τ p [oH,oH,kT,oH,oH,oH,oH,kF] (dd T aa) λ_ h=>(aX (h.ht (U _ (aZ I))))) λT I=>Τ p [oH,oH,kF] (bD T) λ_ h=>(aX (h.ht (U _ (aZ I))))))) λaB J=>Ϫ p (bw (bA (aA _ (bd J))))))))))) λay t=>Ϫ p (bw (bA (ax _ (bd t))))))))))))))) λau j=>Ϫ p (bw (bA (ar _ (bd j)))))))))))))))
def iY (a1:GL)(a2:Int)(s1:Int×GL):Option ((Int×GL)⊕(GL)):=
 bif (decide (s1.1<(aW a1))) then
  aY (0<=s1.1/\s1.1<aW a1) (
   (some (bf .i64 ((ε a1 (δ s1.1) (0,0,0,0)).1) a2)).bind λo=>
   (some (bf .i64 (((ε a1 (δ s1.1) (0,0,0,0)).2).1) a2)).bind λj=>
   aY (ζ s1.2+ζ ([(o,j,(((ε a1 (δ s1.1) (0,0,0,0)).2).2).1,(((ε a1 (δ s1.1) (0,0,0,0)).2).2).2)]:GL)<=bl) (
    some (.inl ((bf .i64 s1.1 1),(s1.2++([(o,j,(((ε a1 (δ s1.1) (0,0,0,0)).2).2).1,(((ε a1 (δ s1.1) (0,0,0,0)).2).2).2)]:GL))))))
 else
  some (.inr s1.2)
def iz (a1:GL)(a2:Int):Option (GL):=
 (rounds (iY a1 a2) (0,([]:GL))).bind λj=>
 some j
theorem C6 {a1}{a2}{r}(t:iz a1 a2=some r):CallOK ν 188 [.nl,.bP gA a1,.bP tI a2] [⟨true,gA,r⟩] []:=
 dn Tryz.func188 rfl λcx o hF=>θ o [] aU (υ (θ o [] aU (ξ (Ϩ o t (λI=>up [2,9,10] [(0,aV 3),(11,iV I.1)] [] [(3,.seq (.st gQ) I.2)] 4) (λU=>(.exit 0,up [] [(0,aV 3)] [] [(3,.seq (.st gQ) U)] 4)) (λU t=>(bm (aX (θ o [] aU (by (cases t;exact (Δ (bY aU)))))))) λI x4 j J=>θ o [] aU (ϻ j (λR j=>υ (ξ (bg j λT j=>θ o [] (bD T) (θ o [] aU (bq j λj=>θ o [] aU (bq j λj=>bg j λp j=>HT.l o [oH,oH,(hT (.st gQ)),(hT (.st gQ))] (bD p) (bj (aX (Τ o [] aU λ_ h=>(bz (lN j h))))))))))) λR j=>Ϫ o (bw (bA (J _ (bd j)))))))))
def ft (a0:GM):Option (GM×Bool):=
 (bZ (a0.1,a0.2.1,a0.2.2.1,a0.2.2.2.1,a0.2.2.2.2)).bind λj=>
 bif (!j) then
  some ((0,0,([]:GL),([]:GI),([]:GI)),false)
 else
  some ((a0.1,a0.2.1,a0.2.2.1,a0.2.2.2.1,a0.2.2.2.2),true)
theorem xP {a0}{r}(j:ft a0=some r):CallOK ν 77 [.mv (.st gM) a0] [⟨true,(.st gM),r.1⟩,⟨false,.bool,r.2⟩] []:=
 Sx Tryz.func77 rfl λcx p=>θ p [] aU (υ (bc j oI λI o j=>θ p [oH,(cl o)] (bD o) (Ω j (λt j=>θ p [] aU (by (cases j;exact (Δ (bn (bY aU)))))) λt j=>Η (aX (θ p [] aU (by (cases j;exact (Δ (bY aU)))))))))
def mu (a0:GM)(j:Int×GL):Option ((Int×GL)⊕(GL)):=
 bif (decide (j.1<(aW a0.2.2.2.2))) then
  (show Option (GL) from
   aY (0<=j.1/\j.1<aW a0.2.2.2.2) (
    bif (decide ((ε a0.2.2.2.2 (δ j.1) 0)>=0)) then
     aY (ζ j.2+ζ ([((bf .i64 j.1 1),0,(-1),(ε a0.2.2.2.2 (δ j.1) 0))]:GL)<=bl) (
      some (j.2++([((bf .i64 j.1 1),0,(-1),(ε a0.2.2.2.2 (δ j.1) 0))]:GL)))
    else
     some j.2)).bind λo=>
  some (.inl ((bf .i64 j.1 1),o))
 else
  some (.inr j.2)
def mw (a0:GM)(j:Int×GL):Option ((Int×GL)⊕(GL)):=
 bif (decide (j.1<(aW a0.2.2.2.1))) then
  (show Option (GL) from
   aY (0<=j.1/\j.1<aW a0.2.2.2.1) (
    bif (decide ((ε a0.2.2.2.1 (δ j.1) 0)>=0)) then
     aY (ζ j.2+ζ ([(0,(bf .i64 j.1 1),(-1),(ε a0.2.2.2.1 (δ j.1) 0))]:GL)<=bl) (
      some (j.2++([(0,(bf .i64 j.1 1),(-1),(ε a0.2.2.2.1 (δ j.1) 0))]:GL)))
    else
     some j.2)).bind λo=>
  some (.inl ((bf .i64 j.1 1),o))
 else
  some (.inr j.2)
def mR (a0:GM):Option (GM×Bool):=
 (bZ (a0.1,a0.2.1,a0.2.2.1,a0.2.2.2.1,a0.2.2.2.2)).bind λt=>
 bif (!t) then
  some ((0,0,([]:GL),([]:GI),([]:GI)),false)
 else
  (iz a0.2.2.1 1).bind λI=>
  (rounds (mw a0) (0,I)).bind λJ=>
  (rounds (mu a0) (0,J)).bind λp=>
  (kV a0.1).bind λo=>
  aY (ζ ([0]:GI)+ζ o<=bl) (
   (slices_Clone (([0]:GI)++o)).bind λr=>
   (ft ((bf .i64 a0.1 1),a0.2.1,p,(([0]:GI)++o),r)).bind λj=>
   some ((j.1.1,j.1.2.1,j.1.2.2.1,j.1.2.2.2.1,j.1.2.2.2.2),j.2))
theorem Mb {a0}{r}(J:mR a0=some r):CallOK ν 159 [.bP (.st gM) a0] [⟨true,(.st gM),r.1⟩,⟨false,.bool,r.2⟩] []:=
 dn Tryz.func159 rfl λcx p hF=>θ p [] aU (υ (bc J oI λy1 ad J=>θ p [oH,(cl ad)] (bD ad) (Ω J (λax J=>θ p [] aU (by (cases J;exact (Δ (bn (bY aU)))))) λax J=>Η (aX (bc J C6 λy4 ae J=>θ p [oH,oH,(cl ae)] (bD ae) (υ (θ p [] aU (ξ (Ϩ p J (λs6=>up [1,2,4,18,19] [(20,iV s6.1)] [0,1] [(2,.seq (.st gQ) s6.2)] 0) (λr8=>(.exit 0,up [1,2,4] [] [0,1] [(2,.seq (.st gQ) r8)] 0)) (λr8 J=>(bm (aX (υ (θ p [] aU (ξ (Ϩ p J (λs9=>up [1,2,4,36,37] [(38,iV s9.1)] [0,1] [(2,.seq (.st gQ) s9.2)] 0) (λaf=>(.exit 2,up [1,2,4] [] [0,1] [(2,.seq (.st gQ) af)] 0)) (λaf J=>(bm (aX (bc J wo λyJ R J=>bg J λag J=>θ p [(hT tI),oH,oH,(cl R),(hT tI)] (dd R ag) (bc J lA λQ0 T J=>bc J xP λPc U J=>aba p (nO 8 [(cl T),oH,(cl U)]) (dd T U) (by (cases J;exact (Δ (bY aU))))))))) λs9 x19 t ah=>θ p [] aU (ϻ t (λai t=>ϰ t (λaj=>up [1,2,36,37,38] [(4,aV 4)] [0,1] [(4,.seq (.st gQ) aj)] 2) (λaj t=>Τ p [] aU λ_ h=>(bz (lN t h))) λ_ j aa=>ξ (bg j λak j=>θ p [] (bD ak) (θ p [] aU (Ω j (λal j=>bg j λan j=>Τ p (nO 5 [(hT (.st gQ)),(hT (.st gQ))]) (bD an) λ_ h=>(bj (aX (h.ht (aa _ (aZ j)))))) λal j=>Η (bj (aX (aa5 p (aa _ (aZ j))))))))) λai t=>Ϫ p (bw (bA (ah _ (bd t)))))))))))) λs6 x30 I ao=>θ p [] aU (ϻ I (λaq I=>ϰ I (λar=>up [1,2,18,19,20] [(4,aV 4)] [0,1] [(4,.seq (.st gQ) ar)] 2) (λar I=>Τ p [] aU λ_ h=>(bz (lN I h))) λ_ o ab=>ξ (bg o λau o=>θ p [] (bD au) (θ p [] aU (Ω o (λav o=>bg o λaw o=>Τ p (nO 5 [(hT (.st gQ)),(hT (.st gQ))]) (bD aw) λ_ h=>(bj (aX (h.ht (ab _ (aZ o)))))) λav o=>Η (bj (aX (aa5 p (ab _ (aZ o))))))))) λaq I=>Ϫ p (bw (bA (ao _ (bd I))))))))))))))
def my (a0:GI)(s1:Int×Int):Option ((Int×Int)⊕(Int)):=
 bif (decide (s1.2<(aW a0))) then
  (show Option (Int) from
   aY (0<=s1.2/\s1.2<aW a0) (
    bif (decide ((ε a0 (δ s1.2) 0)>=0)) then
     aY (0<=s1.2) (
      some (Φ .u32 (Ϟ (Ϗ .u32) s1.1|||Ϟ (Ϗ .u32) (Φ .u32 (1*2^(min (δ s1.2) (Ϗ .u32))))).toNat))
    else
     some s1.1)).bind λj=>
  some (.inl (j,(bf .i64 s1.2 1)))
 else
  some (.inr s1.1)
def ke (a0:GI):Option (Int):=
 (rounds (my a0) (0,0)).bind λj=>
 some j
theorem F5 {a0}{r}(T:ke a0=some r):CallOK ν 189 [.bP cg a0] [⟨false,(.int .u32),r⟩] []:=
 dn Tryz.func189 rfl λcx p hF=>θ p [] aU (θ p [] aU (υ (θ p [] aU (ξ (Ϩ p T (λU=>up [6,7] [(3,.one (.bp (.int .u32) U.1)),(8,iV U.2)] [] [] 0) (λr3=>(.exit 0,up [] [(3,.one (.bp (.int .u32) r3))] [] [] 0)) (λr3 T=>(bm (aX (θ p [] aU (by (cases T;exact (Δ (bY aU)))))))) λU x4 o aa=>θ p [] aU (ϻ o (λab o=>ϰ o (λv9=>up [6,7,8] [(3,.one (.bp (.int .u32) v9))] [] [] 0) (λv9 o=>Τ p [] aU λ_ h=>(bz (lN o h))) λ_ j t=>ξ (bg j λI j=>θ p [] (bD I) (θ p [] aU (Ω j (λJ j=>bg j λR j=>Τ p [] (bD R) λ_ h=>(bj (aX (h.ht (t _ (aZ j)))))) λJ j=>Η (bj (aX (aa5 p (t _ (aZ j))))))))) λab o=>Ϫ p (bw (bA (aa _ (bd o))))))))))
def oL (a0:GM)(j:Int×Int):Option ((Int×Int)⊕(Int)):=
 bif (decide (j.2<(aW a0.2.2.1))) then
  (show Option (Int) from
   aY (0<=j.2/\j.2<aW a0.2.2.1) (
    (some ((((ε a0.2.2.1 (δ j.2) (0,0,0,0)).2).2).1)).bind λo=>
    (some ((((ε a0.2.2.1 (δ j.2) (0,0,0,0)).2).2).2)).bind λt=>
    (show Option (Bool) from
     bif (decide (o<0)) then
      aY (0<=(ε a0.2.2.1 (δ j.2) (0,0,0,0)).1) (
       some ((Φ .u32 (Ϟ (Ϗ .u32) (Int.fdiv j.1 (2^(min (δ ((ε a0.2.2.1 (δ j.2) (0,0,0,0)).1)) (Ϗ .u32))))&&& Ϟ (Ϗ .u32) 1).toNat)==1))
     else
      some false).bind λp=>
    bif p then
     aY (0<=((ε a0.2.2.1 (δ j.2) (0,0,0,0)).2).1) (
      some (Φ .u32 (Ϟ (Ϗ .u32) j.1|||Ϟ (Ϗ .u32) (Φ .u32 (1*2^(min (δ (((ε a0.2.2.1 (δ j.2) (0,0,0,0)).2).1)) (Ϗ .u32))))).toNat))
    else
     some j.1)).bind λr=>
  some (.inl (r,(bf .i64 j.2 1)))
 else
  some (.inr j.1)
def oM (a0:GM)(s1:Int×Int):Option ((Int×Int)⊕(Int)):=
 bif (decide (s1.2<a0.1)) then
  (rounds (oL a0) (s1.1,0)).bind λj=>
  some (.inl (j,(bf .i64 s1.2 1)))
 else
  some (.inr s1.1)
def nj (a0:GM)(a1:Int):Option (Int):=
 (rounds (oM a0) (a1,0)).bind λj=>
 some j
theorem F6 {a0}{a1}{r}(hr:nj a0 a1=some r):CallOK ν 191 [.bP (.st gM) a0,.bP (.int .u32) a1] [⟨false,(.int .u32),r⟩] []:=
 dn Tryz.func191 rfl λcx t hF=>θ t [] aU (υ (θ t [] aU (ξ (Ϩ t hr (λs1=>up [2,8] [(1,.one (.bp (.int .u32) s1.1)),(9,iV s1.2)] [0] [] 0) (λr3=>(.exit 0,up [] [(1,.one (.bp (.int .u32) r3))] [] [] 0)) (λr3 hr=>(bm (aX (θ t [] aU (by (cases hr;exact (Δ (bY aU)))))))) λs1 x4 I WA=>θ t [] aU (ϻ I (λJs I=>υ (ξ (θ t [] aU (ξ (Ϩ t I (λs8=>up [2,8,9,12,13] [(1,.one (.bp (.int .u32) s8.1)),(14,iV s8.2)] [0] [] 0) (λU=>(.exit 2,up [2,8,9] [(1,.one (.bp (.int .u32) U))] [0] [] 0)) (λU I=>(bm (bj (aX (Τ t [] aU λ_ h=>(bz (lN I h))))))) λs8 Uo o aa=>θ t [] aU (ϻ o (λab o=>ϰ o (λad=>up [2,8,9,12,13,14] [(1,.one (.bp (.int .u32) ad))] [0] [] 0) (λad o=>Τ t [] aU λ_ h=>(bz (lN o h))) λ_ j R=>ξ (bg j λae j=>θ t [] (bD ae) (bq j λj=>bq j λj=>ϰ j (λaf=>up [1,2,6,8,9,12,13,14] [(28,bV af)] [0,1] [] 0) (λaf j=>Ω j (λag j=>bg j λah j=>Τ t [] (bD ah) λ_ h=>(bj (aX (h.ht (R _ (aZ j)))))) λag j=>Η (bj (aX (aa5 t (R _ (aZ j)))))) λ_ p T=>bb p (λJ p=>bg p λai p=>Τ t [oH,oH,oH,kT] (dd J ai) λ_ h=>(aX (h.ht (T _ (aZ p))))) λJ p=>Τ t [oH,oH,oH,kF] (bD J) λ_ h=>(aX (h.ht (T _ (aZ p))))))) λab o=>Ϫ t (bw (bA (aa _ (bd o)))))))))) λJs I=>Ϫ t (bw (bA (WA _ (bd I)))))))))
theorem EF:jW ν 218 (.int .u32):=jW.int (by kernel_rfl)
def rh (a0:Int)(a1:Int):Option (Bool):=
 some ((Φ .u32 (Ϟ (Ϗ .u32) a0&&& Ϟ (Ϗ .u32) a1).toNat) != 0)
theorem Mc {a0}{a1}{r}(o:rh a0 a1=some r):CallOK ν 193 [.bP (.int .u32) a0,.fW (.int .u32) a1] [⟨false,.bool,r⟩] []:=
 dn Tryz.func193 rfl λcx j p=>θ j [] aU (θ j [] aU (by (cases o;exact (Δ (bY aU)))))
def lD (a0:Int)(a1:Int)(a2:GM)(s1:Int×Int):Option ((Int×Int)⊕(Int)):=
 bif (decide (s1.2<(aW a2.2.2.1))) then
  (show Option (Int) from
   aY (0<=s1.2/\s1.2<aW a2.2.2.1) (
    (some ((((ε a2.2.2.1 (δ s1.2) (0,0,0,0)).2).2).1)).bind λj=>
    (some ((((ε a2.2.2.1 (δ s1.2) (0,0,0,0)).2).2).2)).bind λo=>
    (show Option (Bool) from
     bif (j==a1) then
      aY (0<=(ε a2.2.2.1 (δ s1.2) (0,0,0,0)).1) (
       some ((Φ .u32 (Ϟ (Ϗ .u32) (Int.fdiv a0 (2^(min (δ ((ε a2.2.2.1 (δ s1.2) (0,0,0,0)).1)) (Ϗ .u32))))&&& Ϟ (Ϗ .u32) 1).toNat)==1))
     else
      some false).bind λv20=>
    bif v20 then
     aY (0<=((ε a2.2.2.1 (δ s1.2) (0,0,0,0)).2).1) (
      some (Φ .u32 (Ϟ (Ϗ .u32) s1.1|||Ϟ (Ϗ .u32) (Φ .u32 (1*2^(min (δ (((ε a2.2.2.1 (δ s1.2) (0,0,0,0)).2).1)) (Ϗ .u32))))).toNat))
    else
     some s1.1)).bind λv11=>
  some (.inl (v11,(bf .i64 s1.2 1)))
 else
  some (.inr s1.1)
def lE (a0:Int)(a1:Int)(a2:GM):Option (Int):=
 (rounds (lD a0 a1 a2) (0,0)).bind λj=>
 (nj (a2.1,a2.2.1,a2.2.2.1,a2.2.2.2.1,a2.2.2.2.2) j).bind λo=>
 some o
theorem Md {a0}{a1}{a2}{r}(T:lE a0 a1 a2=some r):CallOK ν 190 [.bP (.int .u32) a0,.bP tI a1,.fW (.st gM) a2] [⟨false,(.int .u32),r⟩] []:=
 dn Tryz.func190 rfl λcx t hF=>θ t [] aU (θ t [] aU (υ (θ t [] aU (ξ (Ϩ t T (λs1=>up [0,1,2,10,11] [(6,.one (.bp (.int .u32) s1.1)),(12,iV s1.2)] [] [] 0) (λr3=>(.exit 0,up [2] [(6,.one (.bp (.int .u32) r3))] [] [] 0)) (λr3 T=>(bm (aX (bc T F6 λy4 U T=>θ t [oH,oH,(cl U)] (bD U) (by (cases T;exact (Δ (bY aU)))))))) λs1 x6 p SK=>θ t [] aU (ϻ p (λPu p=>ϰ p (λv11=>up [0,1,2,10,11,12] [(6,.one (.bp (.int .u32) v11))] [] [] 0) (λv11 p=>Τ t [] aU λ_ h=>(bz (lN p h))) λ_ j J=>ξ (bg j λaa j=>θ t [] (bD aa) (bq j λj=>bq j λj=>ϰ j (λv20=>up [0,1,2,6,8,10,11,12] [(27,bV v20)] [0] [] 0) (λv20 j=>Ω j (λab j=>bg j λad j=>Τ t [] (bD ad) λ_ h=>(bj (aX (h.ht (J _ (aZ j)))))) λab j=>Η (bj (aX (aa5 t (J _ (aZ j)))))) λ_ o R=>bb o (λI o=>bg o λae o=>Τ t (nO 4 [kT]) (dd I ae) λ_ h=>(aX (h.ht (R _ (aZ o))))) λI o=>Τ t (nO 4 [kF]) (bD I) λ_ h=>(aX (h.ht (R _ (aZ o))))))) λPu p=>Ϫ t (bw (bA (SK _ (bd p))))))))))
def b8 (a0:Int)(a2:GM)(s1:Int×(List (Int×Int))×GI×GI×GZ)(j:Int×(List (Int×Int))×GI×GI):Option ((Int×(List (Int×Int))×GI×GI)⊕(((List (Int×Int))×GI×GI))):=
 bif (decide (j.1<a0)) then
  (lE (ε s1.2.2.1 (δ s1.1) 0) j.1 (a2.1,a2.2.1,a2.2.2.1,a2.2.2.2.1,a2.2.2.2.2)).bind λo=>
  (show Option (Int×(List (Int×Int))×GI) from
   bif (!((bX (t:=(.int .u32)) (u:=tI) j.2.1 o).isSome)) then
    aY (bX (t:=(.int .u32)) (u:=tI) j.2.1 o=none) (
     aY (ζ j.2.2.1+ζ ([o]:GI)<=bl) (
      some ((aW j.2.2.1),(j.2.1++[(o,(aW j.2.2.1))]),(j.2.2.1++([o]:GI)))))
   else
    some (((bX (t:=(.int .u32)) (u:=tI) j.2.1 o).getD 0),j.2.1,j.2.2.1)).bind λp=>
  aY (ζ j.2.2.2+ζ ([p.1]:GI)<=bl) (
   some (.inl ((bf .i64 j.1 1),p.2.1,p.2.2,(j.2.2.2++([p.1]:GI)))))
 else
  some (.inr (j.2.1,j.2.2.1,j.2.2.2))
def cF (a0:Int)(a2:GM)(a3:Int)(s1:Int×(List (Int×Int))×GI×GI×GZ):Option ((Int×(List (Int×Int))×GI×GI×GZ)⊕((GI×GI×GZ)⊕Unit)):=
 bif (decide (s1.1<(aW s1.2.2.1))) then
  aY (0<=s1.1/\s1.1<aW s1.2.2.1) (
   (rh (ε s1.2.2.1 (δ s1.1) 0) a3).bind λo=>
   aY (ζ s1.2.2.2.2+ζ ([o]:GZ)<=bl) (
    (rounds (b8 a0 a2 s1) (0,s1.2.1,s1.2.2.1,s1.2.2.2.1)).bind λj=>
    bif (decide ((aW j.2.1)>64)) then
     some (.inr (.inr ()))
    else
     some (.inl ((bf .i64 s1.1 1),j.1,j.2.1,j.2.2,(s1.2.2.2.2++([o]:GZ))))))
 else
  some (.inr (.inl (s1.2.2.1,s1.2.2.2.1,s1.2.2.2.2)))
def bL (a0:Int)(a1:Int)(a2:GM)(a3:Int):Option (GP×Bool):=
 (rounds (cF a0 a2 a3) (0,(([]:List (Int×Int))++[(a1,0)]),([a1]:GI),([]:GI),([]:GZ))).bind λo=>match o with
  | .inl j=>
   some (((aW j.1),a0,j.2.1,j.2.2),true)
  | .inr p=>
   some ((0,0,([]:GI),([]:GZ)),false)
theorem gi {a0}{a1}{a2}{a3}{r}(hr:bL a0 a1 a2 a3=some r):CallOK ν 192 [.bP tI a0,.bP (.int .u32) a1,.jb 190 (.st gM) a2,.jb 193 (.int .u32) a3] [⟨true,(.st gP),r.1⟩,⟨false,.bool,r.2⟩] []:=
 dn Tryz.func192 rfl λcx o hF=>θ o [] aU (θ o [] aU (HT.ex ⟨[(0,iV a0),(1,.one (.bp (.int .u32) a1)),(2,.one (.jb 190 (.st gM) a2)),(3,.one (.jb 193 (.int .u32) a3)),(8,pV 0 0),(10,pV 1 0)],[(1,.box [iC 0,iC a0,.br,.br]),(0,.box [iC 0,iC 0,.br,.br])],2⟩ o (by (refine υ (HT.rg (RG.makeMap (.int .u32) tI o rfl rfl rfl (by kernel_rfl) (by kernel_rfl) (RG.cut 1 [oH] ⟨[(22,.one (.bp (.int .u32) a1)),(21,.one (.fK 2)),(0,iV a0),(1,.one (.bp (.int .u32) a1)),(2,.one (.jb 190 (.st gM) a2)),(3,.one (.jb 193 (.int .u32) a3)),(8,pV 0 0),(10,pV 1 0)],[(2,.mp (.int .u32) tI ([]:List (Int×Int))),(1,.box [iC 0,iC a0,.br,.br]),(0,.box [iC 0,iC 0,.br,.br])],3⟩ o.P o.N (by kernel_rfl) aU (RG.qw (t:=(.int .u32)) (u:=tI) (x:=a1) (y:=0) o (.inr rfl) rfl rfl (K:=218) (E:=2) (by kernel_rfl) EF rfl rfl rfl rfl rfl rfl rfl (show bX (t:=(.int .u32)) (u:=tI) ([]:List (Int×Int)) a1=none from rfl) (RG.jV [0,1,2,3,8,10,11] [oH,oH] ⟨[(0,iV a0),(1,.one (.bp (.int .u32) a1)),(2,.one (.jb 190 (.st gM) a2)),(3,.one (.jb 193 (.int .u32) a3)),(8,pV 0 0),(10,pV 1 0),(11,.one (.fK 2))],[(2,.mp (.int .u32) tI (([]:List (Int×Int))++[(a1,0)])),(2,.mp (.int .u32) tI ([]:List (Int×Int))),(1,.box [iC 0,iC a0,.br,.br]),(0,.box [iC 0,iC 0,.br,.br])],3⟩ o.P o.N (by kernel_rfl) aU ?_)))));exact (θ o [oH,(hT (.int .u32))] aU (υ (θ o [] aU (ξ (Ϩ o hr (λJ=>up [0,2,3,8,10,11,12] [(13,iV J.1)] [0] [(1,.box [iC 0,iC a0,.all 11,.all 12]),(2,.mp (.int .u32) tI J.2.1),(3,.seq (.int .u32) J.2.2.1),(11,.seq tI J.2.2.2.1),(12,.seq .bool J.2.2.2.2)] 9) (λr2=>match r2 with| .inl r3=>(.exit 0,up [8,10,12] [] [0] [(1,.box [iC 0,iC a0,.all 11,.all 12]),(3,.seq (.int .u32) r3.1),(11,.seq tI r3.2.1),(12,.seq .bool r3.2.2)] 9)| .inr r4=>(.ret,up [8] [(9,bV false)] [0] [] 0)) (λr2=>match r2 with| .inl r3=>λhr=>(bm (aX (θ o [] aU (θ o [] aU (by (cases hr;exact (Δ (bY aU))))))))| .inr r4=>λhr=>by (cases hr;exact (bH (bn (bY aU))))) λJ x5 p Pw=>υ (θ o [] aU (Ω p (λPe p=>Η (aX (υ (ξ (bg p λPf p=>θ o [] (dd Pf (bG Pf)) (bc p Mc λU ad p=>bg p λJt p=>aba o (nO 4 [(cl ad),(hT .bool),(hT .bool)]) (dd ad Jt) (υ (θ o [] aU (ξ (Ϩ o p (λj=>up [0,2,3,8,10,11,12,13,14,44] [(45,iV j.1)] [0,1,14] [(2,.mp (.int .u32) tI j.2.1),(3,.seq (.int .u32) j.2.2.1),(11,.seq tI j.2.2.2)] 0) (λaa=>(.exit 2,up [0,2,3,8,10,11,12,13] [] [0,1,14] [(2,.mp (.int .u32) tI aa.1),(3,.seq (.int .u32) aa.2.1),(11,.seq tI aa.2.2)] 0)) (λaa p=>(bm (aX (θ o [] aU (Ω p (λxQ p=>θ o [] aU (HT.xr o (bH (bn (eZ (Pw _ (bd p))))))) λxQ p=>Η (bj (aX (Τ o [] aU λ_ h=>(bz (lN p h)))))))))) λj Ys I Px=>θ o [] aU (ϻ I (λJu I=>υ (ξ (θ o [] aU (bc I Md λT ae I=>θ o [oH,oH,oH,(cl ae)] (bD ae) (HT.ex ⟨[(0,iV a0),(2,.one (.jb 190 (.st gM) a2)),(3,.one (.jb 193 (.int .u32) a3)),(8,pV 0 0),(10,pV 1 0),(11,.one (.fK 2)),(12,aV 3),(13,iV J.1),(14,.one (.bp (.int .u32) (ε J.2.2.1 (δ J.1) 0))),(16,.one (.bp (.int .u32) T)),(44,iV a0),(45,iV j.1)],[(0,.box [iC 0,iC 0,.br,.br]),(1,.box [iC 0,iC a0,.all 11,.all 14]),(2,.mp (.int .u32) tI j.2.1),(3,.seq (.int .u32) j.2.2.1),(11,.seq tI j.2.2.2),(14,.seq .bool (J.2.2.2.2++([U]:GZ)))],15⟩ o (by (refine υ (HT.rg (RG.cut 2 [oH,oH] ⟨[(54,.one (.bp (.int .u32) T)),(53,.one (.fK 2)),(0,iV a0),(2,.one (.jb 190 (.st gM) a2)),(3,.one (.jb 193 (.int .u32) a3)),(8,pV 0 0),(10,pV 1 0),(11,.one (.fK 2)),(12,aV 3),(13,iV J.1),(14,.one (.bp (.int .u32) (ε J.2.2.1 (δ J.1) 0))),(16,.one (.bp (.int .u32) T)),(44,iV a0),(45,iV j.1)],[(0,.box [iC 0,iC 0,.br,.br]),(1,.box [iC 0,iC a0,.all 11,.all 14]),(2,.mp (.int .u32) tI j.2.1),(3,.seq (.int .u32) j.2.2.1),(11,.seq tI j.2.2.2),(14,.seq .bool (J.2.2.2.2++([U]:GZ)))],15⟩ o.P o.N (by kernel_rfl) aU (RG.AT (t:=(.int .u32)) (u:=tI) (x:=T) (z:=Value.int .i64 0) (y0:=0) o rfl rfl rfl (by kernel_rfl) (K:=218) (E:=2) (by kernel_rfl) EF rfl (by kernel_rfl) rfl rfl rfl rfl rfl (RG.jV [0,2,3,8,10,11,12,13,14,16,17,18,44,45] [oH,oH,oH,oH,oH] ⟨[(0,iV a0),(2,.one (.jb 190 (.st gM) a2)),(3,.one (.jb 193 (.int .u32) a3)),(8,pV 0 0),(10,pV 1 0),(11,.one (.fK 2)),(12,aV 3),(13,iV J.1),(14,.one (.bp (.int .u32) (ε J.2.2.1 (δ J.1) 0))),(16,.one (.bp (.int .u32) T)),(17,iV ((bX (t:=(.int .u32)) (u:=tI) j.2.1 T).getD 0)),(18,bV ((bX (t:=(.int .u32)) (u:=tI) j.2.1 T).isSome)),(44,iV a0),(45,iV j.1)],[(0,.box [iC 0,iC 0,.br,.br]),(1,.box [iC 0,iC a0,.all 11,.all 14]),(2,.mp (.int .u32) tI j.2.1),(3,.seq (.int .u32) j.2.2.1),(11,.seq tI j.2.2.2),(14,.seq .bool (J.2.2.2.2++([U]:GZ)))],15⟩ o.P o.N (by kernel_rfl) aU ?_))));exact (ϰ I (λab=>up [0,2,3,8,10,11,13,14,44,45] [(12,aV 16),(17,iV ab.1)] [0,1,11,14] [(2,.mp (.int .u32) tI ab.2.1),(16,.seq (.int .u32) ab.2.2)] 2) (λab I=>bg I λPy I=>HT.l o [oH,oH,oH,(hT tI),(hT tI)] (bD Py) (bj (aX (Τ o [] aU λ_ h=>(bz (lN I h)))))) λ_ R af=>θ o [] aU (Ω R (λJv R=>θ o [] aU (bg R λzf R=>HT.ex ⟨[(0,iV a0),(2,.one (.jb 190 (.st gM) a2)),(3,.one (.jb 193 (.int .u32) a3)),(8,pV 0 0),(10,pV 1 0),(11,.one (.fK 2)),(12,aV 3),(13,iV J.1),(14,.one (.bp (.int .u32) (ε J.2.2.1 (δ J.1) 0))),(16,.one (.bp (.int .u32) T)),(17,iV (aW j.2.2.1)),(44,iV a0),(45,iV j.1)],[(0,.box [iC 0,iC 0,.br,.br]),(1,.box [iC 0,iC a0,.all 11,.all 14]),(2,.mp (.int .u32) tI j.2.1),(3,.seq (.int .u32) j.2.2.1),(11,.seq tI j.2.2.2),(14,.seq .bool (J.2.2.2.2++([U]:GZ)))],15⟩ o (by (refine υ (HT.rg (RG.cut 3 [oH,oH,oH] ⟨[(64,iV (aW j.2.2.1)),(63,.one (.bp (.int .u32) T)),(62,.one (.fK 2)),(0,iV a0),(2,.one (.jb 190 (.st gM) a2)),(3,.one (.jb 193 (.int .u32) a3)),(8,pV 0 0),(10,pV 1 0),(11,.one (.fK 2)),(12,aV 3),(13,iV J.1),(14,.one (.bp (.int .u32) (ε J.2.2.1 (δ J.1) 0))),(16,.one (.bp (.int .u32) T)),(17,iV (aW j.2.2.1)),(44,iV a0),(45,iV j.1)],[(0,.box [iC 0,iC 0,.br,.br]),(1,.box [iC 0,iC a0,.all 11,.all 14]),(2,.mp (.int .u32) tI j.2.1),(3,.seq (.int .u32) j.2.2.1),(11,.seq tI j.2.2.2),(14,.seq .bool (J.2.2.2.2++([U]:GZ)))],15⟩ o.P o.N (by kernel_rfl) aU (RG.qw (t:=(.int .u32)) (u:=tI) (x:=T) (y:=(aW j.2.2.1)) o (.inl rfl) rfl rfl (K:=218) (E:=2) (by kernel_rfl) EF rfl rfl rfl rfl rfl rfl rfl zf (RG.jV [0,2,3,8,10,11,12,13,14,16,17,44,45] [] ⟨[(0,iV a0),(2,.one (.jb 190 (.st gM) a2)),(3,.one (.jb 193 (.int .u32) a3)),(8,pV 0 0),(10,pV 1 0),(11,.one (.fK 2)),(12,aV 3),(13,iV J.1),(14,.one (.bp (.int .u32) (ε J.2.2.1 (δ J.1) 0))),(16,.one (.bp (.int .u32) T)),(17,iV (aW j.2.2.1)),(44,iV a0),(45,iV j.1)],[(2,.mp (.int .u32) tI (j.2.1++[(T,(aW j.2.2.1))])),(0,.box [iC 0,iC 0,.br,.br]),(1,.box [iC 0,iC a0,.all 11,.all 14]),(2,.mp (.int .u32) tI j.2.1),(3,.seq (.int .u32) j.2.2.1),(11,.seq tI j.2.2.2),(14,.seq .bool (J.2.2.2.2++([U]:GZ)))],15⟩ o.P o.N (by kernel_rfl) aU ?_))));exact (bg R λJw R=>Τ o [oH,oH,(hT (.int .u32)),(hT (.int .u32))] (bD Jw) λ_ h=>(aX (h.ht (af _ (aZ R))))))))) λJv R=>Η (aX (aa5 o (af _ (aZ R))))))))))))) λJu I=>Ϫ o (bw (bA (Px _ (bd I))))))))))))))) λPe p=>Ϫ o (bw (bA (Pw _ (bd p)))))))))))))))
def od (a0:GM):Option (GP×Bool):=
 (bZ (a0.1,a0.2.1,a0.2.2.1,a0.2.2.2.1,a0.2.2.2.2)).bind λo=>
 bif (!o) then
  some ((0,0,([]:GI),([]:GZ)),false)
 else
  (ke a0.2.2.2.2).bind λp=>
  (ke a0.2.2.2.1).bind λr=>
  (nj (a0.1,a0.2.1,a0.2.2.1,a0.2.2.2.1,a0.2.2.2.2) r).bind λt=>
  (bL a0.2.1 t (a0.1,a0.2.1,a0.2.2.1,a0.2.2.2.1,a0.2.2.2.2) p).bind λj=>
  some ((j.1.1,j.1.2.1,j.1.2.2.1,j.1.2.2.2),j.2)
theorem Me {a0}{r}(j:od a0=some r):CallOK ν 160 [.bP (.st gM) a0] [⟨true,(.st gP),r.1⟩,⟨false,.bool,r.2⟩] []:=
 dn Tryz.func160 rfl λcx o U=>θ o [] aU (υ (bc j oI λy1 t j=>θ o [oH,(cl t)] (bD t) (Ω j (λT j=>θ o [] aU (by (cases j;exact (Δ (bn (bY aU)))))) λT j=>Η (aX (bc j F5 λy4 I j=>θ o [oH,oH,(cl I)] (bD I) (by (refine (Le.rz [(2,2),(1,1)] [] (st':=⟨[(1,.one (.ip (.st gM) (a0.1,a0.2.1,a0.2.2.1,a0.2.2.2.1,a0.2.2.2.2) 0)),(2,pV 1 0),(4,pV 2 0)],[(2,.box [.bp (.int .u32) y4]),(1,.box [iC 0,iC 0,.br,.br])],3⟩) o U (by kernel_rfl)).ht ?_;exact (θ o [] aU (by (refine (Le.rz [(1,1)] [] (st':=⟨[(1,.one (.ip (.st gM) (a0.1,a0.2.1,a0.2.2.1,a0.2.2.2.1,a0.2.2.2.2) 0)),(2,pV 1 0),(4,.one (.ip (.int .u32) y4 0)),(5,.one (.jb 190 (.st gM) (a0.1,a0.2.1,a0.2.2.1,a0.2.2.2.1,a0.2.2.2.2)))],[(1,.box [iC 0,iC 0,.br,.br])],3⟩) o U (by kernel_rfl)).ht ?_;exact (bc j F5 λy6 J j=>bc j F6 λy8 R j=>bc j gi λPo p j=>aba o (nO 5 [(cl J),(cl R),oH,oH,(cl p)]) (kQ J R p) (by (cases j;exact (Δ (bY aU)))))))))))))))
def cr (a0:GP):Option (Bool):=
 (show Option (Bool) from
  (ct a0.1 1 64).bind λo=>
  bif o then
   (ct a0.2.1 1 4).bind λp=>
   bif p then
    bif ((aW a0.2.2.1)==(iX .i64 a0.1 a0.2.1)) then
     (eF a0.2.2.1 0 (bI .i64 a0.1 1)).bind λj=>
     bif j then
      some ((aW a0.2.2.2)==a0.1)
     else
      some false
    else
     some false
   else
    some false
  else
   some false).bind λr=>
 some r
theorem oN {a0}{r}(hr:cr a0=some r):CallOK ν 40 [.bP (.st gP) a0] [⟨false,.bool,r⟩] []:=
 dn Tryz.func40 rfl λcx hX hF=>θ hX [] aU (ϰ hr (λv2=>up [] [(2,bV v2)] [] [] 0) (λv2 hr=>by (cases hr;exact (Δ (bY aU)))) λ_ j T=>bc j iy λy5 o j=>bb j (λR j=>bc j iy λy8 p j=>bb j (λt j=>bb j (λI j=>bc j xN λyJ J j=>bb j (λU j=>Τ hX [oH,oH,(cl o),kT,oH,oH,(cl p),oH,kT,oH,oH,oH,oH,oH,oH,oH,oH,oH,oH,kT,oH,oH,oH,oH,oH,(cl J),oH,kT] (iE o R p t (kQ I J U)) λ_ h=>(aX (h.ht (T _ (aZ j))))) λU j=>Τ hX [oH,oH,(cl o),kT,oH,oH,(cl p),oH,kT,oH,oH,oH,oH,oH,oH,oH,oH,oH,oH,kT,oH,oH,oH,oH,oH,(cl J),oH,kF] (iE o R p t (kQ I J U)) λ_ h=>(aX (h.ht (T _ (aZ j))))) λI j=>Τ hX [oH,oH,(cl o),kT,oH,oH,(cl p),oH,kT,oH,oH,oH,oH,oH,oH,oH,oH,oH,oH,kF] (iE o R p t (bD I)) λ_ h=>(aX (h.ht (T _ (aZ j))))) λt j=>Τ hX [oH,oH,(cl o),kT,oH,oH,(cl p),oH,kF] (nB o R p t) λ_ h=>(aX (h.ht (T _ (aZ j))))) λR j=>Τ hX [oH,oH,(cl o),kF] (dd o R) λ_ h=>(aX (h.ht (T _ (aZ j)))))
theorem Jx:jW ν 172 (.st (cq .i64 4)):=jW.arr (E:=2) (by kernel_rfl) (by kernel_rfl) (by kernel_rfl) (by kernel_rfl)
def cC (a0:GP)(a1:Int)(a2:Int):Option (Int):=
 aY (0<=(bf .i64 (iX .i64 a1 a0.2.1) a2)/\(bf .i64 (iX .i64 a1 a0.2.1) a2)<aW a0.2.2.1) (
  some (ε a0.2.2.1 (δ (bf .i64 (iX .i64 a1 a0.2.1) a2)) 0))
theorem qz {a0}{a1}{a2}{r}(j:cC a0 a1 a2=some r):CallOK ν 54 [.bP (.st gP) a0,.bP tI a1,.bP tI a2] [⟨false,tI,r⟩] []:=
 dn Tryz.func54 rfl λcx p t=>θ p [] aU (bg j λo j=>θ p [] (bD o) (by (cases j;exact (Δ (bY aU)))))
end
end Go.Proofs
