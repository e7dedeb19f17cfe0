import Derived.Test.YtjnkhcgmgkhnaaaGreatDoorDeskGenD
import Derived.Test.YtjnkhcgmgkhnaaaGreatDoorProg
set_option linter.all false
open Go.Ide.CallOK renaming pX→ϯ
open Go.Ide.HT renaming g→θ,block→ξ,seq→υ,ret→Δ,skip→Η,k→Τ,cb→Ω,lp→Ϩ,xe→Ϫ,jn→ϰ,cj→ϻ,dg→aba,l→Ο
open Go.Ide.Le renaming rz→acJ
open Go.Proofs.Tryz renaming prog→ν
open Int renaming toNat→δ
open List renaming getD→ε,length→ζ,replicate→π,set→aag
namespace Go.Proofs
open Go.Ide
noncomputable section
def eN (a0:List GI)(s1:Int×List GB):Option ((Int×List GB)⊕(List GB⊕Unit)):=
 bif (decide (s1.1<(aW a0))) then
  aY (0<=s1.1/\s1.1<aW a0) (
   (ey (ε a0 (δ s1.1) ([]:GI))).bind λj=>
   bif (!j.2) then
    some (.inr (.inr ()))
   else
    aY (ζ s1.2+ζ ([j.1]:List GB)<=bl) (
     some (.inl ((bf .i64 s1.1 1),(s1.2++([j.1]:List GB))))))
 else
  some (.inr (.inl s1.2))
def gO (a0:List GI):Option (GB×Bool):=
 (rounds (eN a0) (0,([]:List GB))).bind λj=>match j with
  | .inl o=>
   (strings_Join o ([59]:GB)).bind λp=>
   some (p,true)
  | .inr r=>
   some (([]:GB),false)
theorem EI {a0}{r}(t:gO a0=some r):CallOK ν 39 [.bP (.sl cg) a0] [⟨false,.str,r.1⟩,⟨false,.bool,r.2⟩] []:=
 dn Tryz.func39 rfl λcx o hF=>θ o [] aU (θ o [] aU (υ (θ o [] aU (ξ (Ϩ o t (λs1=>up [10,11] [(4,aV 2),(12,iV s1.1)] [] [(2,.seq .str s1.2)] 3) (λr2=>match r2 with| .inl r3=>(.exit 0,up [] [(4,aV 2)] [] [(2,.seq .str r3)] 3)| .inr r6=>(.ret,up [] [(2,.one (.bp .str ([]:GB))),(3,bV false)] [] [] 0)) (λr2=>match r2 with| .inl r3=>λt=>(bm (aX (bc t JB λy4 I t=>θ o [oH,(cl I)] (bD I) (by (cases t;exact (Δ (bY aU)))))))| .inr r6=>λt=>by (cases t;exact (bH (bn (bY aU))))) λs1 x7 j J=>θ o [] aU (ϻ j (λR j=>υ (ξ (bg j λT j=>θ o [] (bD T) (bc j Bb λyJ p j=>θ o [oH,(cl p)] (bD p) (υ (θ o [] aU (Ω j (λU j=>θ o [] aU (HT.xr o (bn (bH (bn (eZ (J _ (bd j)))))))) λU j=>Η (aX (bg j λaa j=>Ο o [oH,oH,(hT .str),(hT .str)] (bD aa) (bj (aX (Τ o [] aU λ_ h=>(bz (lN j h)))))))))))))) λR j=>Ϫ o (bw (bA (J _ (bd j))))))))))
def gz (a0:GM)(j:Int×GI):Option ((Int×GI)⊕GI):=
 bif (decide (j.1<(aW a0.2.2.1))) then
  aY (0<=j.1/\j.1<aW a0.2.2.1) (
   (some ((((ε a0.2.2.1 (δ j.1) (0,0,0,0)).2).2).1)).bind λo=>
   (some ((((ε a0.2.2.1 (δ j.1) (0,0,0,0)).2).2).2)).bind λp=>
   aY (ζ j.2+ζ ([(ε a0.2.2.1 (δ j.1) (0,0,0,0)).1,((ε a0.2.2.1 (δ j.1) (0,0,0,0)).2).1,o,p]:GI)<=bl) (
    some (.inl ((bf .i64 j.1 1),(j.2++([(ε a0.2.2.1 (δ j.1) (0,0,0,0)).1,((ε a0.2.2.1 (δ j.1) (0,0,0,0)).2).1,o,p]:GI))))))
 else
  some (.inr j.2)
def gS (a0:GM):Option (GB×Bool):=
 (bZ (a0.1,a0.2.1,a0.2.2.1,a0.2.2.2.1,a0.2.2.2.2)).bind λo=>
 bif (!o) then
  some (([]:GB),false)
 else
  (rounds (gz a0) (0,([]:GI))).bind λp=>
  (gO ([([a0.1,a0.2.1]:GI),a0.2.2.2.1,a0.2.2.2.2,p]:List GI)).bind λj=>
  some (j.1,j.2)
theorem NK {a0}{r}(p:gS a0=some r):CallOK ν 8 [.bP (.st gM) a0] [⟨false,.str,r.1⟩,⟨false,.bool,r.2⟩] []:=
 dn Tryz.func8 rfl λcx o hF=>θ o [] aU (υ (bc p oI λy1 t p=>θ o [oH,(cl t)] (bD t) (Ω p (λaa p=>θ o [] aU (by (cases p;exact (Δ (bn (bY aU)))))) λaa p=>Η (aX (θ o [] aU (υ (θ o [] aU (ξ (Ϩ o p (λs4=>up [1,12,13] [(4,aV 4),(14,iV s4.1)] [0] [(4,.seq tI s4.2)] 4) (λr6=>(.exit 0,up [1] [(4,aV 4)] [0] [(4,.seq tI r6)] 4)) (λr6 p=>(bm (aX (by (refine (acJ [(0,0)] [] (st':=⟨[(1,pV 0 0),(4,nV r6)],[(0,.box [iC a0.1,iC a0.2.1,.bp gA a0.2.2.1,nC a0.2.2.2.1,nC a0.2.2.2.2])],5⟩) o hF (by kernel_rfl)).ht ?_;exact (bc p EI λy7 I p=>θ o (nO 4 [⟨none,.HM tI⟩,oH,oH,oH,oH,oH,(hT cg),(cl I)]) (bD I) (by (cases p;exact (Δ (bY aU)))))))))) λs4 x9 j J=>θ o [] aU (ϻ j (λR j=>υ (ξ (bg j λT j=>θ o [] (bD T) (bq j λj=>bq j λj=>bg j λU j=>Ο o (nO 9 [(hT tI),(hT tI)]) (bD U) (bj (aX (Τ o [] aU λ_ h=>(bz (lN j h))))))))) λR j=>Ϫ o (bw (bA (J _ (bd j))))))))))))))
def eO (a0:GP)(j:GB×Int):Option ((GB×Int)⊕GB):=
 bif (decide (j.2<(aW a0.2.2.2))) then
  (show Option GB from
   aY (0<=j.2/\j.2<aW a0.2.2.2) (
    bif (ε a0.2.2.2 (δ j.2) false) then
     aY (ζ j.1+ζ ([49]:GB)<=bl) (
      some (j.1++([49]:GB)))
    else
     aY (ζ j.1+ζ ([48]:GB)<=bl) (
      some (j.1++([48]:GB))))).bind λo=>
  some (.inl (o,(bf .i64 j.2 1)))
 else
  some (.inr j.1)
def jC (a0:GP):Option (GB×Bool):=
 (cr (a0.1,a0.2.1,a0.2.2.1,a0.2.2.2)).bind λp=>
 bif (!p) then
  some (([]:GB),false)
 else
  (gO ([([a0.1,a0.2.1]:GI),a0.2.2.1]:List GI)).bind λj=>
  bif (!j.2) then
   some (([]:GB),false)
  else
   aY (ζ j.1+ζ ([59]:GB)<=bl) (
    (rounds (eO a0) ((j.1++([59]:GB)),0)).bind λo=>
    some (o,true))
theorem NL {a0}{r}(p:jC a0=some r):CallOK ν 9 [.bP (.st gP) a0] [⟨false,.str,r.1⟩,⟨false,.bool,r.2⟩] []:=
 dn Tryz.func9 rfl λcx t hF=>θ t [] aU (υ (bc p oN λy1 J p=>θ t [oH,(cl J)] (bD J) (Ω p (λah p=>θ t [] aU (by (cases p;exact (Δ (bn (bY aU)))))) λah p=>Η (aX (bc p EI λy4 R p=>θ t (nO 4 [⟨none,.HM tI⟩,oH,oH,(hT cg),(cl R)]) (bD R) (υ (θ t [] aU (Ω p (λai p=>θ t [] aU (by (cases p;exact (Δ (bn (bY aU)))))) λai p=>Η (aX (bg p λaj p=>θ t [] (bD aj) (υ (θ t [] aU (ξ (Ϩ t p (λs8=>up [28,29] [(4,.one (.bp .str s8.1)),(30,iV s8.2)] [] [] 0) (λT=>(.exit 0,up [] [(4,.one (.bp .str T))] [] [] 0)) (λT p=>(bm (aX (θ t [] aU (by (cases p;exact (Δ (bY aU)))))))) λs8 Uo o U=>θ t [] aU (ϻ o (λaa o=>ϰ o (λab=>up [28,29,30] [(4,.one (.bp .str ab))] [] [] 0) (λab o=>Τ t [] aU λ_ h=>(bz (lN o h))) λ_ j I=>ξ (bg j λad j=>θ t [] (bD ad) (θ t [] aU (Ω j (λae j=>bg j λaf j=>Τ t [] (bD af) λ_ h=>(bj (aX (h.ht (I _ (aZ j)))))) λae j=>bg j λag j=>Τ t [] (bD ag) λ_ h=>(bj (aX (h.ht (I _ (aZ j))))))))) λaa o=>Ϫ t (bw (bA (U _ (bd o)))))))))))))))))))
def gB (a0:GG)(j:Int×GI):Option ((Int×GI)⊕GI):=
 bif (decide (j.1<(aW a0.2.2))) then
  aY (0<=j.1/\j.1<aW a0.2.2) (
   aY (ζ j.2+ζ ([(ε a0.2.2 (δ j.1) (0,0,0,0)).1,((ε a0.2.2 (δ j.1) (0,0,0,0)).2).1,(((ε a0.2.2 (δ j.1) (0,0,0,0)).2).2).1,(((ε a0.2.2 (δ j.1) (0,0,0,0)).2).2).2]:GI)<=bl) (
    some (.inl ((bf .i64 j.1 1),(j.2++([(ε a0.2.2 (δ j.1) (0,0,0,0)).1,((ε a0.2.2 (δ j.1) (0,0,0,0)).2).1,(((ε a0.2.2 (δ j.1) (0,0,0,0)).2).2).1,(((ε a0.2.2 (δ j.1) (0,0,0,0)).2).2).2]:GI))))))
 else
  some (.inr j.2)
def gT (a0:GG):Option (GB×Bool):=
 (cQ (a0.1,a0.2.1,a0.2.2)).bind λo=>
 bif (!o) then
  some (([]:GB),false)
 else
  (rounds (gB a0) (0,([]:GI))).bind λp=>
  (gO ([([a0.1,a0.2.1]:GI),p]:List GI)).bind λj=>
  some (j.1,j.2)
theorem JD {a0}{r}(p:gT a0=some r):CallOK ν 10 [.bP (.st gR) a0] [⟨false,.str,r.1⟩,⟨false,.bool,r.2⟩] []:=
 dn Tryz.func10 rfl λcx o hF=>θ o [] aU (υ (bc p uS λy1 t p=>θ o [oH,(cl t)] (bD t) (Ω p (λaa p=>θ o [] aU (by (cases p;exact (Δ (bn (bY aU)))))) λaa p=>Η (aX (θ o [] aU (υ (θ o [] aU (ξ (Ϩ o p (λs4=>up [1,12,13] [(4,aV 4),(14,iV s4.1)] [0] [(4,.seq tI s4.2)] 4) (λr6=>(.exit 0,up [1] [(4,aV 4)] [0] [(4,.seq tI r6)] 4)) (λr6 p=>(bm (aX (by (refine (acJ [(0,0)] [] (st':=⟨[(1,pV 0 0),(4,nV r6)],[(0,.box [iC a0.1,iC a0.2.1,.bp gA a0.2.2])],5⟩) o hF (by kernel_rfl)).ht ?_;exact (bc p EI λy7 I p=>θ o (nO 4 [⟨none,.HM tI⟩,oH,(hT cg),(cl I)]) (bD I) (by (cases p;exact (Δ (bY aU)))))))))) λs4 x9 j J=>θ o [] aU (ϻ j (λR j=>υ (ξ (bg j λT j=>θ o [] (bD T) (bg j λU j=>Ο o (nO 9 [(hT tI),(hT tI)]) (bD U) (bj (aX (Τ o [] aU λ_ h=>(bz (lN j h))))))))) λR j=>Ϫ o (bw (bA (J _ (bd j))))))))))))))
def eT (a0:GM):Option GI:=
 (fb a0.2.2.2.1).bind λj=>
 (mr (a0.1,a0.2.1,a0.2.2.1,a0.2.2.2.1,a0.2.2.2.2) j).bind λo=>
 some o
theorem EJ {a0}{r}(j:eT a0=some r):CallOK ν 99 [.bP (.st gM) a0] [⟨true,cg,r⟩] []:=
 dn Tryz.func99 rfl λcx t I=>θ t [] aU (bc j ui λJ o j=>θ t [oH,oH,(cl o)] (bD o) (bc j A9 λR p j=>θ t [oH,oH,(cl p)] (bD p) (θ t [] aU (by (cases j;exact (Δ (bY aU)))))))
def lR (a0:GM)(a1:GI)(a2:Int)(j:Int×GI):Option ((Int×GI)⊕GI):=
 bif (decide (j.1<(aW a0.2.2.1))) then
  (show Option GI from
   aY (0<=j.1/\j.1<aW a0.2.2.1) (
    (some ((((ε a0.2.2.1 (δ j.1) (0,0,0,0)).2).2).1)).bind λp=>
    (some ((((ε a0.2.2.1 (δ j.1) (0,0,0,0)).2).2).2)).bind λo=>
    bif (p==a2) then
     aY (0<=((ε a0.2.2.1 (δ j.1) (0,0,0,0)).2).1/\((ε a0.2.2.1 (δ j.1) (0,0,0,0)).2).1<aW j.2) (
      aY (0<=(ε a0.2.2.1 (δ j.1) (0,0,0,0)).1/\(ε a0.2.2.1 (δ j.1) (0,0,0,0)).1<aW a1) (
       some (aag j.2 (δ (((ε a0.2.2.1 (δ j.1) (0,0,0,0)).2).1)) (if (bf .i64 (ε a1 (δ ((ε a0.2.2.1 (δ j.1) (0,0,0,0)).1)) 0) o)<(ε j.2 (δ (((ε a0.2.2.1 (δ j.1) (0,0,0,0)).2).1)) 0) then (bf .i64 (ε a1 (δ ((ε a0.2.2.1 (δ j.1) (0,0,0,0)).1)) 0) o) else (ε j.2 (δ (((ε a0.2.2.1 (δ j.1) (0,0,0,0)).2).1)) 0)))))
    else
     some j.2)).bind λr=>
  some (.inl ((bf .i64 j.1 1),r))
 else
  some (.inr j.2)
def mz (a0:GM)(a1:GI)(a2:Int):Option GI:=
 (bW ([1099511627776]:GI) (aW a1)).bind λj=>
 (rounds (lR a0 a1 a2) (0,j)).bind λo=>
 (mr (a0.1,a0.2.1,a0.2.2.1,a0.2.2.2.1,a0.2.2.2.2) o).bind λp=>
 some p
theorem Bc {a0}{a1}{a2}{r}(J:mz a0 a1 a2=some r):CallOK ν 100 [.bP (.st gM) a0,.bP cg a1,.bP tI a2] [⟨true,cg,r⟩] []:=
 dn Tryz.func100 rfl λcx t hF=>θ t [] aU (bc J wm λy1 R J=>θ t [(hT tI),oH,oH,(cl R)] (bD R) (υ (θ t [] aU (ξ (Ϩ t J (λs3=>up [1,2,3,7,15,16] [(17,iV s3.1)] [0] [(2,.seq tI s3.2)] 0) (λr5=>(.exit 0,up [3,7] [] [0] [(2,.seq tI r5)] 0)) (λr5 J=>(bm (aX (bc J A9 λy6 T J=>θ t [oH,oH,(cl T)] (bD T) (θ t [] aU (by (cases J;exact (Δ (bY aU))))))))) λs3 x8 o U=>θ t [] aU (ϻ o (λaa o=>ϰ o (λab=>up [1,2,3,7,15,16,17] [] [0] [(2,.seq tI ab)] 0) (λab o=>Τ t [] aU λ_ h=>(bz (lN o h))) λ_ j I=>ξ (bg j λad j=>θ t [] (bD ad) (bq j λj=>bq j λj=>θ t [] aU (Ω j (λae j=>bg j λp j=>bg j λaf j=>HT.dk t [] (iE p (bG p) af p (bD (bG p))) λ_ h=>(bj (aX (h.ht (I _ (aZ j)))))) λae j=>Η (bj (aX (HT.re t (I _ (aZ j))))))))) λaa o=>Ϫ t (bw (bA (U _ (bd o))))))))))
def jD (a0:GM)(a1:GI)(j:Int×GI):Option ((Int×GI)⊕GI):=
 bif (decide (j.1<(aW a1))) then
  aY (0<=j.1/\j.1<aW a1) (
   (mz (a0.1,a0.2.1,a0.2.2.1,a0.2.2.2.1,a0.2.2.2.2) j.2 (ε a1 (δ j.1) 0)).bind λo=>
   some (.inl ((bf .i64 j.1 1),o)))
 else
  some (.inr j.2)
def ph (a0:GM)(a1:GI):Option (Int):=
 (eT (a0.1,a0.2.1,a0.2.2.1,a0.2.2.2.1,a0.2.2.2.2)).bind λj=>
 (rounds (jD a0 a1) (0,j)).bind λo=>
 (fb a0.2.2.2.2).bind λp=>
 (ew o p).bind λr=>
 some r
theorem PR {a0}{a1}{r}(p:ph a0 a1=some r):CallOK ν 51 [.bP (.st gM) a0,.bP cg a1] [⟨false,tI,r⟩] []:=
 dn Tryz.func51 rfl λcx o hF=>θ o [] aU (bc p EJ λy1 I p=>θ o [oH,(cl I)] (bD I) (υ (θ o [] aU (ξ (Ϩ o p (λs3=>up [2,5,10,11] [(12,iV s3.1)] [0] [(1,.seq tI s3.2)] 0) (λr5=>(.exit 0,up [2,5] [] [0] [(1,.seq tI r5)] 0)) (λr5 p=>(bm (aX (bc p ui λy6 J p=>bc p uj λy8 R p=>θ o [oH,oH,oH,(cl J),(cl R)] (dd J R) (by (cases p;exact (Δ (bY aU)))))))) λs3 Yo j T=>θ o [] aU (ϻ j (λU j=>υ (ξ (bg j λaa j=>θ o [] (bD aa) (bc j Bc λQ0 t j=>Ο o [oH,oH,oH,(cl t)] (bD t) (bj (aX (Τ o [] aU λ_ h=>(bz (lN j h))))))))) λU j=>Ϫ o (bw (bA (T _ (bd j))))))))))
def gn (a0:GI)(a1:Int):Option (Bool):=
 (show Option (Bool) from
  (ct a1 1 4).bind λj=>
  bif j then
   bif (decide ((aW a0)<=12)) then
    (eF a0 0 (bI .i64 a1 1)).bind λo=>
    some o
   else
    some false
  else
   some false).bind λp=>
 some p
theorem Bd {a0}{a1}{r}(T:gn a0 a1=some r):CallOK ν 50 [.bP cg a0,.bP tI a1] [⟨false,.bool,r⟩] []:=
 dn Tryz.func50 rfl λcx R hF=>θ R [] aU (ϰ T (λU=>up [] [(4,bV U)] [] [] 0) (λU T=>by (cases T;exact (Δ (bY aU)))) λ_ j I=>bc j iy λy5 o j=>bb j (λp j=>bb j (λJ j=>bc j xN λy9 t j=>Τ R [oH,(cl o),kT,oH,oH,oH,oH,kT,oH,oH,oH,(cl t)] (nB o p J t) λ_ h=>(aX (h.ht (I _ (aZ j))))) λJ j=>Τ R [oH,(cl o),kT,oH,oH,oH,oH,kF] (kQ o p J) λ_ h=>(aX (h.ht (I _ (aZ j))))) λp j=>Τ R [oH,(cl o),kF] (dd o p) λ_ h=>(aX (h.ht (I _ (aZ j)))))
def nk (a0:GM)(a1:GI):Option (Int×Bool):=
 (show Option (Bool) from
  (bZ (a0.1,a0.2.1,a0.2.2.1,a0.2.2.2.1,a0.2.2.2.2)).bind λo=>
  bif (!o) then
   some true
  else
   (gn a1 a0.2.1).bind λj=>
   some (!j)).bind λp=>
 bif p then
  some (0,false)
 else
  (ph (a0.1,a0.2.1,a0.2.2.1,a0.2.2.2.1,a0.2.2.2.2) a1).bind λr=>
  some (r,true)
theorem PS {a0}{a1}{r}(p:nk a0 a1=some r):CallOK ν 17 [.bP (.st gM) a0,.bP cg a1] [⟨false,tI,r.1⟩,⟨false,.bool,r.2⟩] []:=
 dn Tryz.func17 rfl λcx J hF=>θ J [] aU (υ (ϰ p (λv2=>up [1,2] [(15,bV v2)] [0] [] 0) (λv2 p=>Ω p (λU p=>θ J [] aU (by (cases p;exact (Δ (bn (bY aU)))))) λU p=>Η (aX (bc p PR λy6 R p=>θ J [oH,oH,(cl R)] (bD R) (by (cases p;exact (Δ (bY aU))))))) λ_ j T=>bc j oI λy8 t j=>bb j (λo j=>Τ J [oH,(cl t),oH,kT] (dd t o) λ_ h=>(aX (h.ht (T _ (aZ j))))) λo j=>bc j Bd λKV I j=>Τ J [oH,(cl t),oH,kF,oH,oH,oH,(cl I)] (kQ t o I) λ_ h=>(aX (h.ht (T _ (aZ j))))))
def dh (a0:Int)(a1:Bool):Option (GB×Bool):=
 (jM a0).bind λj=>
 some (j,a1)
theorem se {a0}{a1}{r}(o:dh a0 a1=some r):CallOK ν 135 [.bP tI a0,.bP .bool a1] [⟨false,.str,r.1⟩,⟨false,.bool,r.2⟩] []:=
 dn Tryz.func135 rfl λcx p t=>θ p [] aU (bc o EH λI j o=>θ p [oH,(cl j)] (bD j) (by (cases o;exact (Δ (bY aU)))))
def mD (a0:GM)(j:Int×GI):Option ((Int×GI)⊕GI):=
 bif (decide (j.1<(aW a0.2.2.1))) then
  aY (0<=j.1/\j.1<aW a0.2.2.1) (
   (some ((((ε a0.2.2.1 (δ j.1) (0,0,0,0)).2).2).1)).bind λp=>
   (some ((((ε a0.2.2.1 (δ j.1) (0,0,0,0)).2).2).2)).bind λo=>
   aY (0<=(ε a0.2.2.1 (δ j.1) (0,0,0,0)).1/\(ε a0.2.2.1 (δ j.1) (0,0,0,0)).1<aW j.2) (
    aY (0<=((ε a0.2.2.1 (δ j.1) (0,0,0,0)).2).1/\((ε a0.2.2.1 (δ j.1) (0,0,0,0)).2).1<aW j.2) (
     some (.inl ((bf .i64 j.1 1),(aag j.2 (δ ((ε a0.2.2.1 (δ j.1) (0,0,0,0)).1)) (if (bf .i64 (ε j.2 (δ (((ε a0.2.2.1 (δ j.1) (0,0,0,0)).2).1)) 0) o)<(ε j.2 (δ ((ε a0.2.2.1 (δ j.1) (0,0,0,0)).1)) 0) then (bf .i64 (ε j.2 (δ (((ε a0.2.2.1 (δ j.1) (0,0,0,0)).2).1)) 0) o) else (ε j.2 (δ ((ε a0.2.2.1 (δ j.1) (0,0,0,0)).1)) 0))))))))
 else
  some (.inr j.2)
def mE (a0:GM)(p:GI)(j:Int×GI):Option ((Int×GI)⊕GI):=
 bif (decide (j.1<(aW p))) then
  (rounds (mD a0) (0,j.2)).bind λo=>
  some (.inl ((bf .i64 j.1 1),o))
 else
  some (.inr j.2)
def mT (a0:GM):Option GI:=
 (fb a0.2.2.2.2).bind λj=>
 (rounds (mE a0 j) (0,j)).bind λo=>
 some o
theorem Mk {a0}{r}(R:mT a0=some r):CallOK ν 194 [.bP (.st gM) a0] [⟨true,cg,r⟩] []:=
 dn Tryz.func194 rfl λcx o hF=>θ o [] aU (bc R ui λy1 T R=>θ o [oH,oH,(cl T)] (bD T) (υ (θ o [] aU (ξ (Ϩ o R (λs3=>up [1,3,10] [(11,iV s3.1)] [0] [(1,.seq tI s3.2)] 0) (λr5=>(.exit 0,up [3] [] [] [(1,.seq tI r5)] 0)) (λr5 R=>(bm (aX (θ o [] aU (by (cases R;exact (Δ (bY aU)))))))) λs3 x6 p SK=>θ o [] aU (ϻ p (λPu p=>υ (ξ (θ o [] aU (ξ (Ϩ o p (λJ=>up [1,3,10,11,14,15] [(16,iV J.1)] [0] [(1,.seq tI J.2)] 0) (λU=>(.exit 2,up [1,3,10,11] [] [0] [(1,.seq tI U)] 0)) (λU p=>(bm (bj (aX (Τ o [] aU λ_ h=>(bz (lN p h))))))) λJ Wu j aa=>θ o [] aU (ϻ j (λab j=>υ (ξ (bg j λad j=>θ o [] (bD ad) (bq j λj=>bq j λj=>bg j λt j=>bg j λI j=>HT.dl o [] (iE t (bG t) I (bG I) (dd t (bG t))) (bj (aX (Τ o [] aU λ_ h=>(bz (lN j h))))))))) λab j=>Ϫ o (bw (bA (aa _ (bd j)))))))))) λPu p=>Ϫ o (bw (bA (SK _ (bd p))))))))))
def lS (o:GI)(j:Int×GI):Option ((Int×GI)⊕GI):=
 bif (decide (j.1<(aW o))) then
  aY (0<=j.1/\j.1<aW o) (
   aY (0<=j.1/\j.1<aW j.2) (
    some (.inl ((bf .i64 j.1 1),(aag j.2 (δ j.1) (if (ε o (δ j.1) 0)<(ε j.2 (δ j.1) 0) then (ε o (δ j.1) 0) else (ε j.2 (δ j.1) 0)))))))
 else
  some (.inr j.2)
def lT (a0:GM)(o:GM×Bool)(p:Int×List GI)(j:Int×GI):Option ((Int×GI)⊕GI):=
 bif (decide (j.1<a0.2.1)) then
  aY (0<=p.1/\p.1<aW p.2) (
   (mz (o.1.1,o.1.2.1,o.1.2.2.1,o.1.2.2.2.1,o.1.2.2.2.2) (ε p.2 (δ p.1) ([]:GI)) j.1).bind λr=>
   (rounds (lS r) (0,j.2)).bind λt=>
   some (.inl ((bf .i64 j.1 1),t)))
 else
  some (.inr j.2)
def lU (a0:GM)(r:GM×Bool)(j:Int×List GI):Option ((Int×List GI)⊕(List GI)):=
 bif (decide (j.1<12)) then
  (bW ([1099511627776]:GI) a0.1).bind λp=>
  (rounds (lT a0 r j) (0,p)).bind λo=>
  aY (ζ j.2+ζ ([o]:List GI)<=bl) (
   some (.inl ((bf .i64 j.1 1),(j.2++([o]:List GI)))))
 else
  some (.inr j.2)
def lV (a0:GM):Option (List GI):=
 (kS (a0.1,a0.2.1,a0.2.2.1,a0.2.2.2.1,a0.2.2.2.2)).bind λj=>
 (eT (j.1.1,j.1.2.1,j.1.2.2.1,j.1.2.2.2.1,j.1.2.2.2.2)).bind λo=>
 (rounds (lU a0 j) (0,([o]:List GI))).bind λp=>
 some p
theorem Ml {a0}{r}(hr:lV a0=some r):CallOK ν 195 [.bP (.st gM) a0] [⟨false,(.sl cg),r⟩] []:=
 dn Tryz.func195 rfl λcx o hF=>θ o [] aU (bc hr Jo λI tq hr=>θ o [oH,(cl tq)] (bD tq) (by (refine (acJ [(4,4),(2,2),(3,3),(0,0)] [] (st':=⟨[(1,pV 0 0),(3,pV 4 0)],[(4,.box [iC I.1.1,iC I.1.2.1,.bp gA I.1.2.2.1,.all 2,.all 3]),(2,.seq tI I.1.2.2.2.1),(3,.seq tI I.1.2.2.2.2),(0,.box [iC a0.1,iC a0.2.1,.bp gA a0.2.2.1,nC a0.2.2.2.1,nC a0.2.2.2.2])],5⟩) o hF (by kernel_rfl)).ht ?_;exact (by (refine (acJ [(4,4),(3,3),(0,0)] [] (st':=⟨[(1,pV 0 0),(3,pV 4 0)],[(4,.box [iC I.1.1,iC I.1.2.1,.bp gA I.1.2.2.1,nC I.1.2.2.2.1,.all 3]),(3,.seq tI I.1.2.2.2.2),(0,.box [iC a0.1,iC a0.2.1,.bp gA a0.2.2.1,nC a0.2.2.2.1,nC a0.2.2.2.2])],5⟩) o hF (by kernel_rfl)).ht ?_;exact (by (refine (acJ [(4,4),(0,0)] [] (st':=⟨[(1,pV 0 0),(3,pV 4 0)],[(4,.box [iC I.1.1,iC I.1.2.1,.bp gA I.1.2.2.1,nC I.1.2.2.2.1,nC I.1.2.2.2.2]),(0,.box [iC a0.1,iC a0.2.1,.bp gA a0.2.2.1,nC a0.2.2.2.1,nC a0.2.2.2.2])],5⟩) o hF (by kernel_rfl)).ht ?_;exact (bc hr EJ λy3 SP hr=>θ o [oH,(cl (ϯ [true] rfl SP)),(hT cg)] (bD (ϯ [true] rfl SP)) (υ (θ o [] aU (ξ (Ϩ o hr (λs5=>up [1,3,5] [(19,iV s5.1)] [0,4] [(5,.seq cg s5.2)] 0) (λr7=>(.exit 0,up [5] [] [] [(5,.seq cg r7)] 0)) (λr7 hr=>(bm (aX (θ o [] aU (by (refine (acJ [] [] (st':=⟨[(2,.one (.bp (.sl cg) r7))],[],6⟩) o hF (by kernel_rfl)).ht ?_;cases hr;exact (Δ (bY aU)))))))) λs5 x8 t A8=>θ o [] aU (ϻ t (λEE t=>υ (ξ (θ o [] aU (bc t wm λyJ R t=>θ o [(hT tI),oH,oH,(cl R)] (bD R) (υ (θ o [] aU (ξ (Ϩ o t (λWJ=>up [1,3,5,6,7,19,27] [(28,iV WJ.1)] [0,4,5] [(7,.seq tI WJ.2)] 0) (λWK=>(.exit 2,up [1,3,5,7,19] [] [0,4,5] [(7,.seq tI WK)] 0)) (λWK t=>(bm (aX (by (refine (acJ [(0,0),(4,4),(5,5)] [] (st':=⟨[(1,pV 0 0),(3,pV 4 0),(5,aV 5),(7,nV WK),(19,iV s5.1)],[(0,.box [iC a0.1,iC a0.2.1,.bp gA a0.2.2.1,nC a0.2.2.2.1,nC a0.2.2.2.2]),(4,.box [iC I.1.1,iC I.1.2.1,.bp gA I.1.2.2.1,nC I.1.2.2.2.1,nC I.1.2.2.2.2]),(5,.seq cg s5.2)],8⟩) o hF (by kernel_rfl)).ht ?_;exact (bg t λWL t=>Ο o [oH,oH,(hT cg),(hT cg)] (bD WL) (bj (aX (Τ o [] aU λ_ h=>(bz (lN t h))))))))))) λWJ WM j EK=>θ o [] aU (ϻ j (λBe j=>υ (ξ (θ o [] aU (bg j λT j=>bc j Bc λKW U j=>aba o (nO 6 [(cl U)]) (kQ T (bG T) U) (ξ (Ϩ o j (λWN=>up [1,3,5,6,7,19,27,28,37,38] [(39,iV WN.1)] [0,4,5,8] [(7,.seq tI WN.2)] 0) (λQ3=>(.exit 4,up [1,3,5,6,7,19,27,28] [] [0,4,5] [(7,.seq tI Q3)] 0)) (λQ3 j=>(bm (bj (aX (Τ o [] aU λ_ h=>(bz (lN j h))))))) λWN Yt p PT=>θ o [] aU (ϻ p (λJA p=>υ (ξ (bg p λaa p=>θ o [] (dd aa (bG aa)) (bg p λJ p=>Ο o [] (nB J (bG J) J (bG J)) (bj (aX (Τ o [] aU λ_ h=>(bz (lN p h))))))))) λJA p=>Ϫ o (bw (bA (PT _ (bd p))))))))))) λBe j=>Ϫ o (bw (bA (EK _ (bd j))))))))))))) λEE t=>Ϫ o (bw (bA (A8 _ (bd t)))))))))))))))))
def nH (a0:GI)(a1:GI)(a2:Int):Option (Bool):=
 (ew a1 a0).bind λj=>
 some (j==a2)
theorem Mm {a0}{a1}{a2}{r}(o:nH a0 a1 a2=some r):CallOK ν 197 [.bP cg a0,.fW cg a1,.fW tI a2] [⟨false,.bool,r⟩] []:=
 dn Tryz.func197 rfl λcx p t=>θ p [] aU (bc o uj λI j o=>aba p [oH,oH,(cl j)] (bD j) (by (cases o;exact (Δ (bY aU)))))
def eP (a0:List GI)(a1:GI×Int)(s1:Int):Option ((Int)⊕(Unit⊕Int)):=
 bif (decide (s1<(aW a0))) then
  aY (0<=s1/\s1<aW a0) (
   (nH (ε a0 (δ s1) ([]:GI)) a1.1 a1.2).bind λj=>
   bif j then
    some (.inr (.inr s1))
   else
    some (.inl (bf .i64 s1 1)))
 else
  some (.inr (.inl ()))
def dv (a0:List GI)(a1:GI×Int):Option (Int):=
 (rounds (eP a0 a1) 0).bind λj=>match j with
  | .inl p=>
   some (-1)
  | .inr o=>
   some o
theorem Mn {a0}{a1}{r}(t:dv a0 a1=some r):CallOK ν 196 [.bP (.sl cg) a0,.bP (.cl 197 (.pair cg tI)) a1] [⟨false,tI,r⟩] []:=
 dn Tryz.func196 rfl λcx o hF=>θ o [] aU (υ (θ o [] aU (ξ (Ϩ o t (λs1=>up [0,1,7] [(8,iV s1)] [] [] 0) (λR=>match R with| .inl r3=>(.exit 0,up [] [] [] [] 0)| .inr r4=>(.ret,up [] [(4,iV r4)] [] [] 0)) (λR=>match R with| .inl r3=>λt=>(bm (aX (θ o [] aU (by (cases t;exact (Δ (bY aU)))))))| .inr r4=>λt=>by (cases t;exact (bH (bn (bY aU))))) λs1 x5 j I=>θ o [] aU (ϻ j (λT j=>υ (ξ (θ o [] aU (bg j λU j=>bc j Mm λPo p j=>θ o (nO 5 [(cl p)]) (dd U p) (Ω j (λJ j=>θ o [] aU (HT.xr o (bH (bn (eZ (I _ (bd j))))))) λJ j=>Η (bj (aX (Τ o [] aU λ_ h=>(bz (lN j h)))))))))) λT j=>Ϫ o (bw (bA (I _ (bd j)))))))))
def pR (a0:GM)(I:Int)(p:List GI)(j:Int×GI×GI)(o:Int):Option ((Int)⊕((GI×GI))):=
 bif (decide (o<a0.2.1)) then
  (mz (a0.1,a0.2.1,a0.2.2.1,a0.2.2.2.1,a0.2.2.2.2) j.2.2 o).bind λr=>
  aY (0<=j.1/\j.1<aW p) (
   (ew r (ε p (δ j.1) ([]:GI))).bind λt=>
   bif (t==I) then
    aY (ζ j.2.1+ζ ([o]:GI)<=bl) (
     some (.inr ((j.2.1++([o]:GI)),r)))
   else
    some (.inl (bf .i64 o 1)))
 else
  some (.inr (j.2.1,j.2.2))
def pS (a0:GM)(r:Int)(p:List GI)(j:Int×GI×GI):Option ((Int×GI×GI)⊕GI):=
 bif (decide (j.1>=0)) then
  (rounds (pR a0 r p j) 0).bind λo=>
  some (.inl ((bI .i64 j.1 1),o.1,o.2))
 else
  some (.inr j.2.1)
def mU (a0:GM):Option (GI×Int×Bool):=
 (bZ (a0.1,a0.2.1,a0.2.2.1,a0.2.2.2.1,a0.2.2.2.2)).bind λR=>
 bif (!R) then
  some (([]:GI),0,false)
 else
  (fb a0.2.2.2.1).bind λJ=>
  (mT (a0.1,a0.2.1,a0.2.2.1,a0.2.2.2.1,a0.2.2.2.2)).bind λT=>
  (ew J T).bind λp=>
  (lV (a0.1,a0.2.1,a0.2.2.1,a0.2.2.2.1,a0.2.2.2.2)).bind λj=>
  (dv j (J,p)).bind λo=>
  (show Option (Bool) from
   bif (decide (p<0)) then
    some true
   else
    some (decide (o<0))).bind λr=>
  bif r then
   some (([]:GI),0,false)
  else
   (eT (a0.1,a0.2.1,a0.2.2.1,a0.2.2.2.1,a0.2.2.2.2)).bind λt=>
   (rounds (pS a0 p j) ((bI .i64 o 1),([]:GI),t)).bind λI=>
   some (I,p,true)
theorem Mo {a0}{r}(p:mU a0=some r):CallOK ν 164 [.bP (.st gM) a0] [⟨true,cg,r.1⟩,⟨false,tI,r.2.1⟩,⟨false,.bool,r.2.2⟩] []:=
 dn Tryz.func164 rfl λcx o hF=>θ o [] aU (υ (bc p oI λy1 ah p=>θ o [oH,(cl ah)] (bD ah) (Ω p (λAz p=>θ o [] aU (by (cases p;exact (Δ (bn (bY aU)))))) λAz p=>Η (aX (bc p ui λy4 ai p=>θ o [oH,oH,(cl ai)] (bD ai) (bc p Mk λy6 aj p=>bc p uj λy8 ak p=>aba o [oH,oH,(cl aj),(cl ak)] (dd aj ak) (by (refine (acJ [(4,4),(2,2),(0,0)] [] (st':=⟨[(1,pV 0 0),(5,pV 2 0),(6,pV 4 0)],[(4,.box [iC y8]),(2,.box [nC y4]),(0,.box [iC a0.1,iC a0.2.1,.bp gA a0.2.2.1,nC a0.2.2.2.1,nC a0.2.2.2.2])],5⟩) o hF (by kernel_rfl)).ht ?_;exact (bc p Ml λal T p=>θ o [oH,(cl T)] (bD T) (by (refine (acJ [(4,4),(0,0)] [] (st':=⟨[(1,pV 0 0),(5,.one (.ip cg y4 0)),(6,pV 4 0),(7,.one (.bp (.sl cg) al))],[(4,.box [iC y8]),(0,.box [iC a0.1,iC a0.2.1,.bp gA a0.2.2.1,nC a0.2.2.2.1,nC a0.2.2.2.2])],5⟩) o hF (by kernel_rfl)).ht ?_;exact (by (refine (acJ [(0,0)] [] (st':=⟨[(1,pV 0 0),(5,.one (.ip cg y4 0)),(6,.one (.ip tI y8 0)),(7,.one (.bp (.sl cg) al))],[(0,.box [iC a0.1,iC a0.2.1,.bp gA a0.2.2.1,nC a0.2.2.2.1,nC a0.2.2.2.2])],5⟩) o hF (by kernel_rfl)).ht ?_;exact (bc p Mn λyJ U p=>θ o [oH,⟨none,.oS⟩,(cl U)] (bD U) (υ (ϰ p (λan=>up [1,6,7,8] [(34,bV an)] [0] [] 0) (λan p=>Ω p (λao p=>θ o [] aU (by (cases p;exact (Δ (bn (bY aU)))))) λao p=>Η (aX (θ o [] aU (bc p EJ λSG aa p=>θ o [oH,(cl aa)] (bD aa) (υ (θ o [] aU (ξ (Ϩ o p (λR=>up [1,6,7,10] [(9,aV 9),(11,iV R.1)] [0] [(9,.seq tI R.2.1),(5,.seq tI R.2.2)] 4) (λaq=>(.exit 0,up [6] [(9,aV 9)] [] [(9,.seq tI aq)] 4)) (λaq p=>(bm (aX (aba o [] aU (by (cases p;exact (Δ (bY aU)))))))) λR x24 t ar=>υ (θ o [] aU (Ω t (λau t=>Η (aX (υ (ξ (θ o [] aU (ξ (Ϩ o t (λav=>up [1,6,7,9,10,11,45] [(46,iV av)] [0,9,5] [] 0) (λag=>(.exit 2,up [1,6,7,11] [(9,aV 12),(10,aV 10)] [0] [(12,.seq tI ag.1),(10,.seq tI ag.2)] 3)) (λag t=>(bm (bj (aX (Τ o [] aU λ_ h=>(bz (lN t h))))))) λav x31 j ab=>θ o [] aU (ϻ j (λaw j=>υ (ξ (θ o [] aU (bc j Bc λWw ad j=>θ o [oH,oH,oH,(cl ad)] (bD ad) (bg j λax j=>bc j uj λWk ae j=>aba o (nO 5 [(cl ae)]) (dd ax ae) (Ω j (λay j=>bg j λaz j=>θ o [oH,oH,(hT tI),(hT tI)] (bD az) (θ o [] aU (Ϫ o (Lr rfl (bw (bA (ab _ (bd j)))))))) λay j=>Η (bj (aX (Τ o [] aU λ_ h=>(bz (lN j h))))))))))) λaw j=>Ϫ o (bw (bA (ab _ (bd j)))))))))))) λau t=>Ϫ o (bw (bA (ar _ (bd t)))))))))))))) λ_ I af=>bb I (λJ I=>Τ o [oH,oH,kT] (bD J) λ_ h=>(aX (h.ht (af _ (aZ I))))) λJ I=>Τ o [oH,oH,kF] (bD J) λ_ h=>(aX (h.ht (af _ (aZ I))))))))))))))))))))
def dy (a0:GI)(a1:Bool):Option (GB×Bool):=
 bif (!a1) then
  some (([]:GB),false)
 else
  (ey a0).bind λj=>
  some (j.1,j.2)
theorem Bf {a0}{a1}{r}(j:dy a0 a1=some r):CallOK ν 165 [.bP cg a0,.bP .bool a1] [⟨false,.str,r.1⟩,⟨false,.bool,r.2⟩] []:=
 dn Tryz.func165 rfl λcx p I=>θ p [] aU (υ (θ p [] aU (Ω j (λt j=>θ p [] aU (by (cases j;exact (Δ (bn (bY aU)))))) λt j=>Η (aX (bc j Bb λJ o j=>θ p [oH,(cl o)] (bD o) (by (cases j;exact (Δ (bY aU)))))))))
def iP (a0:GI)(a1:Int)(a2:Bool):Option (GB×Bool):=
 (dy a0 a2).bind λj=>
 aY (ζ j.1+ζ ([59]:GB)<=bl) (
  (jM a1).bind λo=>
  aY (ζ (j.1++([59]:GB))+ζ o<=bl) (
   some (((j.1++([59]:GB))++o),j.2)))
theorem F7 {a0}{a1}{a2}{r}(j:iP a0 a1 a2=some r):CallOK ν 163 [.bP cg a0,.bP tI a1,.bP .bool a2] [⟨false,.str,r.1⟩,⟨false,.bool,r.2⟩] []:=
 dn Tryz.func163 rfl λcx t R=>θ t [] aU (bc j Bf λT o j=>θ t [oH,oH,(cl o)] (bD o) (bg j λI j=>bc j EH λU p j=>bg j λJ j=>θ t [oH,oH,oH,(cl p)] (kQ I p J) (by (cases j;exact (Δ (bY aU))))))
def cO (a0:GP)(a1:GI)(s1:Int×Int):Option ((Int×Int)⊕(Int)):=
 bif (decide (s1.2<(aW a1))) then
  aY (0<=s1.2/\s1.2<aW a1) (
   (cC (a0.1,a0.2.1,a0.2.2.1,a0.2.2.2) s1.1 (ε a1 (δ s1.2) 0)).bind λj=>
   some (.inl (j,(bf .i64 s1.2 1))))
 else
  some (.inr s1.1)
def fu (a0:GP)(a1:GI):Option (Bool):=
 (rounds (cO a0 a1) (0,0)).bind λj=>
 aY (0<=j/\j<aW a0.2.2.2) (
  some (ε a0.2.2.2 (δ j) false))
theorem JE {a0}{a1}{r}(t:fu a0 a1=some r):CallOK ν 52 [.bP (.st gP) a0,.bP cg a1] [⟨false,.bool,r⟩] []:=
 dn Tryz.func52 rfl λcx o hF=>θ o [] aU (θ o [] aU (υ (θ o [] aU (ξ (Ϩ o t (λI=>up [2,8,9] [(5,iV I.1),(10,iV I.2)] [0] [] 0) (λr3=>(.exit 0,up [2] [(5,iV r3)] [0] [] 0)) (λr3 t=>(bm (aX (bg t λJ t=>θ o [] (bD J) (by (cases t;exact (Δ (bY aU)))))))) λI x5 j R=>θ o [] aU (ϻ j (λT j=>υ (ξ (bg j λU j=>θ o [] (bD U) (bc j qz λPo p j=>Ο o [oH,oH,oH,(cl p)] (bD p) (bj (aX (Τ o [] aU λ_ h=>(bz (lN j h))))))))) λT j=>Ϫ o (bw (bA (R _ (bd j))))))))))
def jE (a0:GP)(a1:GI):Option (Bool×Bool):=
 (show Option (Bool) from
  (cr (a0.1,a0.2.1,a0.2.2.1,a0.2.2.2)).bind λo=>
  bif (!o) then
   some true
  else
   (gn a1 a0.2.1).bind λj=>
   some (!j)).bind λp=>
 bif p then
  some (false,false)
 else
  (fu (a0.1,a0.2.1,a0.2.2.1,a0.2.2.2) a1).bind λr=>
  some (r,true)
theorem PU {a0}{a1}{r}(p:jE a0 a1=some r):CallOK ν 18 [.bP (.st gP) a0,.bP cg a1] [⟨false,.bool,r.1⟩,⟨false,.bool,r.2⟩] []:=
 dn Tryz.func18 rfl λcx J hF=>θ J [] aU (υ (ϰ p (λv2=>up [1,2] [(15,bV v2)] [0] [] 0) (λv2 p=>Ω p (λU p=>θ J [] aU (by (cases p;exact (Δ (bn (bY aU)))))) λU p=>Η (aX (bc p JE λy6 R p=>θ J [oH,oH,(cl R)] (bD R) (by (cases p;exact (Δ (bY aU))))))) λ_ j T=>bc j oN λy8 t j=>bb j (λo j=>Τ J [oH,(cl t),oH,kT] (dd t o) λ_ h=>(aX (h.ht (T _ (aZ j))))) λo j=>bc j Bd λKV I j=>Τ J [oH,(cl t),oH,kF,oH,oH,oH,(cl I)] (kQ t o I) λ_ h=>(aX (h.ht (T _ (aZ j))))))
theorem EL:jW ν 280 (.st (cq .i64 1)):=jW.arr (E:=2) (by kernel_rfl) (by kernel_rfl) (by kernel_rfl) (by kernel_rfl)
def kE (a0:GP)(a1:GP)(I:Int×(List ((Int×Int)×GI))×(List ((cq .i64 1).D×Bool)))(j:Int×(List ((Int×Int)×GI))×(List ((cq .i64 1).D×Bool))):Option ((Int×(List ((Int×Int)×GI))×(List ((cq .i64 1).D×Bool)))⊕(((List ((Int×Int)×GI))×(List ((cq .i64 1).D×Bool))))):=
 bif (decide (j.1<a0.2.1)) then
  (show Option ((List ((Int×Int)×GI))×(List ((cq .i64 1).D×Bool))) from
   (cC (a0.1,a0.2.1,a0.2.2.1,a0.2.2.2) (((ε I.2.1 (δ I.1) ((0,0),([]:GI))).1).1) j.1).bind λo=>
   (cC (a1.1,a1.2.1,a1.2.2.1,a1.2.2.2) (((ε I.2.1 (δ I.1) ((0,0),([]:GI))).1).2) j.1).bind λp=>
   bif (!((bX (t:=(.st (cq .i64 1))) (u:= .bool) j.2.2 (jY .i64 1 0 [o,p])).getD false)) then
    aY (bX (t:=(.st (cq .i64 1))) (u:= .bool) j.2.2 (jY .i64 1 0 [o,p])=none) (
     (slices_Clone ((ε I.2.1 (δ I.1) ((0,0),([]:GI))).2)).bind λr=>
     aY (ζ r+ζ ([j.1]:GI)<=bl) (
      aY (ζ j.2.1+ζ ([((o,p),(r++([j.1]:GI)))]:List ((Int×Int)×GI))<=bl) (
       some ((j.2.1++([((o,p),(r++([j.1]:GI)))]:List ((Int×Int)×GI))),(j.2.2++[((jY .i64 1 0 [o,p]),true)])))))
   else
    some (j.2.1,j.2.2)).bind λJ=>
  some (.inl ((bf .i64 j.1 1),J.1,J.2))
 else
  some (.inr (j.2.1,j.2.2))
def oO (a0:GP)(a1:GP)(j:Int×(List ((Int×Int)×GI))×(List ((cq .i64 1).D×Bool))):Option ((Int×(List ((Int×Int)×GI))×(List ((cq .i64 1).D×Bool)))⊕(Unit⊕GI)):=
 bif (decide (j.1<(aW j.2.1))) then
  (show Option (((List ((Int×Int)×GI))×(List ((cq .i64 1).D×Bool)))⊕((Int×(List ((Int×Int)×GI))×(List ((cq .i64 1).D×Bool)))⊕(Unit⊕GI))) from
   aY (0<=j.1/\j.1<aW j.2.1) (
    aY (0<=((ε j.2.1 (δ j.1) ((0,0),([]:GI))).1).1/\((ε j.2.1 (δ j.1) ((0,0),([]:GI))).1).1<aW a0.2.2.2) (
     aY (0<=((ε j.2.1 (δ j.1) ((0,0),([]:GI))).1).2/\((ε j.2.1 (δ j.1) ((0,0),([]:GI))).1).2<aW a1.2.2.2) (
      bif ((ε a0.2.2.2 (δ (((ε j.2.1 (δ j.1) ((0,0),([]:GI))).1).1)) false) != (ε a1.2.2.2 (δ (((ε j.2.1 (δ j.1) ((0,0),([]:GI))).1).2)) false)) then
       sw (some (.inr (.inr ((ε j.2.1 (δ j.1) ((0,0),([]:GI))).2))))
      else
       bif ((aW ((ε j.2.1 (δ j.1) ((0,0),([]:GI))).2))==12) then
        some (.inl (j.2.1,j.2.2))
       else
        (rounds (kE a0 a1 j) (0,j.2.1,j.2.2)).bind λo=>
        some (.inl (o.1,o.2)))))).bind λr=>match r with
   | .inl p=>
    some (.inl ((bf .i64 j.1 1),p.1,p.2))
   | .inr z=>some z
 else
  some (.inr (.inl ()))
def iQ (a0:GP)(a1:GP):Option (GI×Bool):=
 (some (([]:List ((cq .i64 1).D×Bool))++[((jY .i64 1 0 [0,0]),true)])).bind λq1=>
 (rounds (oO a0 a1) (0,([((0,0),([]:GI))]:List ((Int×Int)×GI)),q1)).bind λj=>match j with
  | .inl p=>
   some (([]:GI),false)
  | .inr o=>
   some (o,true)
theorem F8 {a0}{a1}{r}(hr:iQ a0 a1=some r):CallOK ν 198 [.bP (.st gP) a0,.bP (.st gP) a1] [⟨false,cg,r.1⟩,⟨false,.bool,r.2⟩] []:=
 dn Tryz.func198 rfl λcx T hF=>θ T [] aU (θ T [oH,(hT (.st (.pair (.st (.pair tI tI)) cg)))] aU (HT.ex ⟨[(2,pV 0 0),(3,pV 1 0),(6,aV 2)],[(2,.seq (.st (.pair (.st (.pair tI tI)) cg)) ([((0,0),([]:GI))]:List ((Int×Int)×GI))),(1,.box [iC a1.1,iC a1.2.1,nC a1.2.2.1,.bp (.sl .bool) a1.2.2.2]),(0,.box [iC a0.1,iC a0.2.1,nC a0.2.2.1,.bp (.sl .bool) a0.2.2.2])],3⟩ T (by (refine υ (HT.rg (RG.makeMap (.st (cq .i64 1)) .bool T rfl rfl rfl (by kernel_rfl) (by kernel_rfl) (RG.I8 (n:=1) (len:=2) (E:=2) [iC 0,iC 0] T rfl rfl rfl (by kernel_rfl) (by kernel_rfl) (by kernel_rfl) (z:= .agg (π 2 (Value.int .i64 0)).toArray) (by kernel_rfl) (by kernel_rfl) rfl (by kernel_rfl) (RG.qw (t:=(.st (cq .i64 1))) (u:= .bool) (x:=(jY .i64 1 0 [0,0])) (y:=true) T (.inr rfl) rfl rfl (K:=280) (E:=4) (by kernel_rfl) EL rfl rfl rfl rfl rfl rfl rfl (show bX (t:=(.st (cq .i64 1))) (u:= .bool) ([]:List ((cq .i64 1).D×Bool)) (jY .i64 1 0 [0,0])=none from rfl) (RG.jV [2,3,6,7] [oH,oH] ⟨[(2,pV 0 0),(3,pV 1 0),(6,aV 2),(7,.one (.fK 3))],[(3,.mp (.st (cq .i64 1)) .bool (([]:List ((cq .i64 1).D×Bool))++[((jY .i64 1 0 [0,0]),true)])),(3,.mp (.st (cq .i64 1)) .bool ([]:List ((cq .i64 1).D×Bool))),(2,.seq (.st (.pair (.st (.pair tI tI)) cg)) ([((0,0),([]:GI))]:List ((Int×Int)×GI))),(1,.box [iC a1.1,iC a1.2.1,nC a1.2.2.1,.bp (.sl .bool) a1.2.2.2]),(0,.box [iC a0.1,iC a0.2.1,nC a0.2.2.1,.bp (.sl .bool) a0.2.2.2])],4⟩ T.P T.N (by kernel_rfl) aU ?_)))));exact (bq hr λhr=>υ (θ T [] aU (ξ (Ϩ T hr (λo=>up [2,3,6,7] [(8,iV o.1)] [0,1] [(2,.seq (.st (.pair (.st (.pair tI tI)) cg)) o.2.1),(3,.mp (.st (cq .i64 1)) .bool o.2.2)] 0) (λr4=>match r4 with| .inl r5=>(.exit 0,up [] [] [] [] 0)| .inr r6=>(.ret,up [] [(4,nV r6),(5,bV true)] [] [] 0)) (λr4=>match r4 with| .inl r5=>λhr=>(bm (aX (θ T [] aU (by (cases hr;exact (Δ (bY aU)))))))| .inr r6=>λhr=>by (cases hr;exact (bH (bn (bY aU))))) λo x7 aa Jg=>υ (θ T [] aU (Ω aa (λBa aa=>Η (aX (HT.jo aa (λ_=>rfl) (λv12=>up [2,3,6,7,8] [] [0,1] [(2,.seq (.st (.pair (.st (.pair tI tI)) cg)) v12.1),(3,.mp (.st (cq .i64 1)) .bool v12.2)] 0) (λv12 aa=>Τ T [] aU λ_ h=>(bz (lN aa h))) λ_ J WO ad=>ξ (bg J λae J=>θ T [] (dd ae (bG ae)) (υ (bg J λMp J=>bg J λWQ J=>aba T [] (nB (show (0:Int)<=0/\0<((2:Nat):Int) from by decide) Mp (show (0:Int)<=1/\1<((2:Nat):Int) from by decide) WQ) (Ω J (λJu J=>θ T [] aU (have aa:=WO J;HT.xr T (bn (bH (bn (eZ (Jg _ (bd aa)))))))) λJu J=>Η (aX (υ (θ T [] aU (Ω J (λED J=>HT.exit (bw (bm (aX (HT.re T (ad _ (bd J))))))) λED J=>Η (aX (θ T [] aU (ξ (Ϩ T J (λj=>up [2,3,6,7,8,9,49] [(50,iV j.1)] [0,1,4] [(2,.seq (.st (.pair (.st (.pair tI tI)) cg)) j.2.1),(3,.mp (.st (cq .i64 1)) .bool j.2.2)] 0) (λQ3=>(.exit 2,up [2,3,6,7,8] [] [0,1] [(2,.seq (.st (.pair (.st (.pair tI tI)) cg)) Q3.1),(3,.mp (.st (cq .i64 1)) .bool Q3.2)] 0)) (λQ3 J=>(bm (bj (aX (HT.re T (ad _ (bd J))))))) λj Yt U PT=>θ T [] aU (ϻ U (λJA U=>ϰ U (λv33=>up [2,3,7,8,9,49,50] [(6,aV 10)] [0,1,4] [(10,.seq (.st (.pair (.st (.pair tI tI)) cg)) v33.1),(3,.mp (.st (cq .i64 1)) .bool v33.2)] 6) (λv33 U=>Τ T [] aU λ_ h=>(bz (lN U h))) λ_ R af=>ξ (θ T [] aU (bc R qz λp ag R=>bc R qz λI ah R=>aba T (nO 5 [(cl ag),oH,oH,oH,oH,oH,(cl ah)]) (nB (show (0:Int)<=0/\0<((2:Nat):Int) from by decide) ag (show (0:Int)<=1/\1<((2:Nat):Int) from by decide) ah) (HT.ex ⟨[(2,pV 0 0),(3,pV 1 0),(6,aV 2),(7,.one (.fK 3)),(8,iV o.1),(9,pV 4 0),(10,iV j.1),(11,pV 5 0),(49,iV a0.2.1),(50,iV j.1)],[(5,.box [iC p,iC I]),(0,.box [iC a0.1,iC a0.2.1,nC a0.2.2.1,.bp (.sl .bool) a0.2.2.2]),(1,.box [iC a1.1,iC a1.2.1,nC a1.2.2.1,.bp (.sl .bool) a1.2.2.2]),(2,.seq (.st (.pair (.st (.pair tI tI)) cg)) j.2.1),(3,.mp (.st (cq .i64 1)) .bool j.2.2),(4,.box [iC (((ε o.2.1 (δ o.1) ((0,0),([]:GI))).1).1),iC (((ε o.2.1 (δ o.1) ((0,0),([]:GI))).1).2),nC ((ε o.2.1 (δ o.1) ((0,0),([]:GI))).2)])],6⟩ T (by (refine υ (HT.rg (RG.cut 2 [oH,oH] ⟨[(67,.agg [iC p,iC I]),(66,.one (.fK 3)),(2,pV 0 0),(3,pV 1 0),(6,aV 2),(7,.one (.fK 3)),(8,iV o.1),(9,pV 4 0),(10,iV j.1),(11,pV 5 0),(49,iV a0.2.1),(50,iV j.1)],[(5,.box [iC p,iC I]),(0,.box [iC a0.1,iC a0.2.1,nC a0.2.2.1,.bp (.sl .bool) a0.2.2.2]),(1,.box [iC a1.1,iC a1.2.1,nC a1.2.2.1,.bp (.sl .bool) a1.2.2.2]),(2,.seq (.st (.pair (.st (.pair tI tI)) cg)) j.2.1),(3,.mp (.st (cq .i64 1)) .bool j.2.2),(4,.box [iC (((ε o.2.1 (δ o.1) ((0,0),([]:GI))).1).1),iC (((ε o.2.1 (δ o.1) ((0,0),([]:GI))).1).2),nC ((ε o.2.1 (δ o.1) ((0,0),([]:GI))).2)])],6⟩ T.P T.N (by kernel_rfl) aU (RG.Sf (t:=(.st (cq .i64 1))) (u:= .bool) (x:=(jY .i64 1 0 [p,I])) (z:=Value.bool false) (y0:=false) T rfl rfl rfl (by kernel_rfl) (K:=280) (E:=4) (by kernel_rfl) EL rfl (by kernel_rfl) rfl rfl rfl rfl rfl (RG.jV [2,3,6,7,8,9,10,11,49,50,69] [oH] ⟨[(2,pV 0 0),(3,pV 1 0),(6,aV 2),(7,.one (.fK 3)),(8,iV o.1),(9,pV 4 0),(10,iV j.1),(11,pV 5 0),(49,iV a0.2.1),(50,iV j.1),(69,bV (!((bX (t:=(.st (cq .i64 1))) (u:= .bool) j.2.2 (jY .i64 1 0 [p,I])).getD false)))],[(5,.box [iC p,iC I]),(0,.box [iC a0.1,iC a0.2.1,nC a0.2.2.1,.bp (.sl .bool) a0.2.2.2]),(1,.box [iC a1.1,iC a1.2.1,nC a1.2.2.1,.bp (.sl .bool) a1.2.2.2]),(2,.seq (.st (.pair (.st (.pair tI tI)) cg)) j.2.1),(3,.mp (.st (cq .i64 1)) .bool j.2.2),(4,.box [iC (((ε o.2.1 (δ o.1) ((0,0),([]:GI))).1).1),iC (((ε o.2.1 (δ o.1) ((0,0),([]:GI))).1).2),nC ((ε o.2.1 (δ o.1) ((0,0),([]:GI))).2)])],6⟩ T.P T.N (by kernel_rfl) aU ?_))));exact (Ω R (λuT R=>bg R λWR R=>HT.ex ⟨[(2,pV 0 0),(3,pV 1 0),(6,aV 2),(7,.one (.fK 3)),(8,iV o.1),(9,pV 4 0),(10,iV j.1),(11,pV 5 0),(49,iV a0.2.1),(50,iV j.1),(69,bV (!((bX (t:=(.st (cq .i64 1))) (u:= .bool) j.2.2 (jY .i64 1 0 [p,I])).getD false)))],[(5,.box [iC p,iC I]),(0,.box [iC a0.1,iC a0.2.1,nC a0.2.2.1,.bp (.sl .bool) a0.2.2.2]),(1,.box [iC a1.1,iC a1.2.1,nC a1.2.2.1,.bp (.sl .bool) a1.2.2.2]),(2,.seq (.st (.pair (.st (.pair tI tI)) cg)) j.2.1),(3,.mp (.st (cq .i64 1)) .bool j.2.2),(4,.box [iC (((ε o.2.1 (δ o.1) ((0,0),([]:GI))).1).1),iC (((ε o.2.1 (δ o.1) ((0,0),([]:GI))).1).2),nC ((ε o.2.1 (δ o.1) ((0,0),([]:GI))).2)])],6⟩ T (by (refine υ (HT.rg (RG.cut 2 [oH,oH] ⟨[(71,.agg [iC p,iC I]),(70,.one (.fK 3)),(2,pV 0 0),(3,pV 1 0),(6,aV 2),(7,.one (.fK 3)),(8,iV o.1),(9,pV 4 0),(10,iV j.1),(11,pV 5 0),(49,iV a0.2.1),(50,iV j.1),(69,bV (!((bX (t:=(.st (cq .i64 1))) (u:= .bool) j.2.2 (jY .i64 1 0 [p,I])).getD false)))],[(5,.box [iC p,iC I]),(0,.box [iC a0.1,iC a0.2.1,nC a0.2.2.1,.bp (.sl .bool) a0.2.2.2]),(1,.box [iC a1.1,iC a1.2.1,nC a1.2.2.1,.bp (.sl .bool) a1.2.2.2]),(2,.seq (.st (.pair (.st (.pair tI tI)) cg)) j.2.1),(3,.mp (.st (cq .i64 1)) .bool j.2.2),(4,.box [iC (((ε o.2.1 (δ o.1) ((0,0),([]:GI))).1).1),iC (((ε o.2.1 (δ o.1) ((0,0),([]:GI))).1).2),nC ((ε o.2.1 (δ o.1) ((0,0),([]:GI))).2)])],6⟩ T.P T.N (by kernel_rfl) aU (RG.qw (t:=(.st (cq .i64 1))) (u:= .bool) (x:=(jY .i64 1 0 [p,I])) (y:=true) T (.inl rfl) rfl rfl (K:=280) (E:=4) (by kernel_rfl) EL rfl rfl rfl rfl rfl rfl rfl WR (RG.jV [2,3,6,7,8,9,10,11,49,50] [] ⟨[(2,pV 0 0),(3,pV 1 0),(6,aV 2),(7,.one (.fK 3)),(8,iV o.1),(9,pV 4 0),(10,iV j.1),(11,pV 5 0),(49,iV a0.2.1),(50,iV j.1)],[(3,.mp (.st (cq .i64 1)) .bool (j.2.2++[((jY .i64 1 0 [p,I]),true)])),(5,.box [iC p,iC I]),(0,.box [iC a0.1,iC a0.2.1,nC a0.2.2.1,.bp (.sl .bool) a0.2.2.2]),(1,.box [iC a1.1,iC a1.2.1,nC a1.2.2.1,.bp (.sl .bool) a1.2.2.2]),(2,.seq (.st (.pair (.st (.pair tI tI)) cg)) j.2.1),(3,.mp (.st (cq .i64 1)) .bool j.2.2),(4,.box [iC (((ε o.2.1 (δ o.1) ((0,0),([]:GI))).1).1),iC (((ε o.2.1 (δ o.1) ((0,0),([]:GI))).1).2),nC ((ε o.2.1 (δ o.1) ((0,0),([]:GI))).2)])],6⟩ T.P T.N (by kernel_rfl) aU ?_))));exact (bc R lA λab ai R=>bg R λPV R=>bg R λWS R=>HT.ex ⟨[(2,pV 0 0),(3,pV 1 0),(6,aV 2),(7,.one (.fK 3)),(8,iV o.1),(9,pV 4 0),(10,iV j.1),(11,pV 5 0),(49,iV a0.2.1),(50,iV j.1)],[(3,.mp (.st (cq .i64 1)) .bool (j.2.2++[((jY .i64 1 0 [p,I]),true)])),(5,.box [iC p,iC I]),(0,.box [iC a0.1,iC a0.2.1,nC a0.2.2.1,.bp (.sl .bool) a0.2.2.2]),(1,.box [iC a1.1,iC a1.2.1,nC a1.2.2.1,.bp (.sl .bool) a1.2.2.2]),(2,.seq (.st (.pair (.st (.pair tI tI)) cg)) j.2.1),(4,.box [iC (((ε o.2.1 (δ o.1) ((0,0),([]:GI))).1).1),iC (((ε o.2.1 (δ o.1) ((0,0),([]:GI))).1).2),nC ((ε o.2.1 (δ o.1) ((0,0),([]:GI))).2)])],6⟩ T (HT.Z6 (λhq=>HT.Yf 10 [⟨oH,[]⟩,⟨oH,[]⟩,⟨oH,[]⟩,⟨oH,[2]⟩,⟨(cl ai),[2,3]⟩,⟨oH,[]⟩,⟨(hT tI),[5]⟩,⟨(hT tI),[2,3,4,5,6]⟩,⟨oH,[1,2,3,4,5,6,7]⟩,⟨(hT (.st (.pair (.st (.pair tI tI)) (.own tI)))),[1,2,3,4,5,6,7,8]⟩] [[0,1,2,3,4,5,6,7,8,9],[0,1,2,3,4,5,6,7,8,9,10]] ⟨[(81,aV 9),(80,.agg [iC p,iC I,.all 8]),(79,aV 8),(78,aV 7),(77,iV j.1),(76,aV 6),(75,nV ((ε o.2.1 (δ o.1) ((0,0),([]:GI))).2)),(74,pV 4 2),(73,.agg [iC p,iC I]),(72,aV 2),(2,pV 0 0),(3,pV 1 0),(6,aV 2),(7,.one (.fK 3)),(8,iV o.1),(9,pV 4 0),(10,iV j.1),(11,pV 5 0),(49,iV a0.2.1),(50,iV j.1)],[(8,.gone),(9,.seq (.st (.pair (.st (.pair tI tI)) (.own tI))) ([((p,I),(ab++([j.1]:GI)))]:List ((Int×Int)×GI))),(6,.gone),(8,.seq tI (ab++([j.1]:GI))),(7,.seq tI ([j.1]:GI)),(6,.seq tI ab),(3,.mp (.st (cq .i64 1)) .bool (j.2.2++[((jY .i64 1 0 [p,I]),true)])),(5,.box [iC p,iC I]),(0,.box [iC a0.1,iC a0.2.1,nC a0.2.2.1,.bp (.sl .bool) a0.2.2.2]),(1,.box [iC a1.1,iC a1.2.1,nC a1.2.2.1,.bp (.sl .bool) a1.2.2.2]),(2,.seq (.st (.pair (.st (.pair tI tI)) cg)) j.2.1),(4,.box [iC (((ε o.2.1 (δ o.1) ((0,0),([]:GI))).1).1),iC (((ε o.2.1 (δ o.1) ((0,0),([]:GI))).1).2),nC ((ε o.2.1 (δ o.1) ((0,0),([]:GI))).2)])],10⟩ T (by kernel_rfl) (by kernel_rfl) (dd ai PV) ((acJ [(7,7),(3,3),(5,5),(0,0),(1,1),(2,2),(4,4)] [] (st':=⟨[(81,.one (.bp (.sl (.st (.pair (.st (.pair tI tI)) cg))) ([((p,I),(ab++([j.1]:GI)))]:List ((Int×Int)×GI)))),(78,aV 7),(77,iV j.1),(75,nV ((ε o.2.1 (δ o.1) ((0,0),([]:GI))).2)),(74,pV 4 2),(73,.agg [iC p,iC I]),(72,aV 2),(2,pV 0 0),(3,pV 1 0),(6,aV 2),(7,.one (.fK 3)),(8,iV o.1),(9,pV 4 0),(10,iV j.1),(11,pV 5 0),(49,iV a0.2.1),(50,iV j.1)],[(7,.seq tI ([j.1]:GI)),(3,.mp (.st (cq .i64 1)) .bool (j.2.2++[((jY .i64 1 0 [p,I]),true)])),(5,.box [iC p,iC I]),(0,.box [iC a0.1,iC a0.2.1,nC a0.2.2.1,.bp (.sl .bool) a0.2.2.2]),(1,.box [iC a1.1,iC a1.2.1,nC a1.2.2.1,.bp (.sl .bool) a1.2.2.2]),(2,.seq (.st (.pair (.st (.pair tI tI)) cg)) j.2.1),(4,.box [iC (((ε o.2.1 (δ o.1) ((0,0),([]:GI))).1).1),iC (((ε o.2.1 (δ o.1) ((0,0),([]:GI))).1).2),nC ((ε o.2.1 (δ o.1) ((0,0),([]:GI))).2)])],10⟩) T hF (by kernel_rfl)).rg (RG.last [(hT (.st (.pair (.st (.pair tI tI)) cg))),oH] ⟨[(6,aV 10),(82,aV 10),(81,.one (.bp (.sl (.st (.pair (.st (.pair tI tI)) cg))) ([((p,I),(ab++([j.1]:GI)))]:List ((Int×Int)×GI)))),(78,aV 7),(77,iV j.1),(75,nV ((ε o.2.1 (δ o.1) ((0,0),([]:GI))).2)),(74,pV 4 2),(73,.agg [iC p,iC I]),(72,aV 2),(2,pV 0 0),(3,pV 1 0),(6,aV 2),(7,.one (.fK 3)),(8,iV o.1),(9,pV 4 0),(10,iV j.1),(11,pV 5 0),(49,iV a0.2.1),(50,iV j.1)],[(2,.gone),(10,.seq (.st (.pair (.st (.pair tI tI)) cg)) (j.2.1++([((p,I),(ab++([j.1]:GI)))]:List ((Int×Int)×GI)))),(7,.seq tI ([j.1]:GI)),(3,.mp (.st (cq .i64 1)) .bool (j.2.2++[((jY .i64 1 0 [p,I]),true)])),(5,.box [iC p,iC I]),(0,.box [iC a0.1,iC a0.2.1,nC a0.2.2.1,.bp (.sl .bool) a0.2.2.2]),(1,.box [iC a1.1,iC a1.2.1,nC a1.2.2.1,.bp (.sl .bool) a1.2.2.2]),(2,.seq (.st (.pair (.st (.pair tI tI)) cg)) j.2.1),(4,.box [iC (((ε o.2.1 (δ o.1) ((0,0),([]:GI))).1).1),iC (((ε o.2.1 (δ o.1) ((0,0),([]:GI))).1).2),nC ((ε o.2.1 (δ o.1) ((0,0),([]:GI))).2)])],11⟩ T.P T.N (by kernel_rfl) (gy WS aU) hq))) (bj (aX (HT.re T (af _ (aZ R)))))))))) λuT R=>Η (bj (aX (HT.re T (af _ (aZ R)))))))))))) λJA U=>Ϫ T (bw (bA (PT _ (bd U)))))))))))))))))))) λBa aa=>Ϫ T (bw (bA (Jg _ (bd aa))))))))))))))
def lW (a0:GP):Option (GI×Bool):=
 (cr (a0.1,a0.2.1,a0.2.2.1,a0.2.2.2)).bind λo=>
 bif (!o) then
  some (([]:GI),false)
 else
  aY (0<=a0.2.1/\a0.2.1<=4294967296) (
   (iQ (a0.1,a0.2.1,a0.2.2.1,a0.2.2.2) (1,a0.2.1,(π (δ a0.2.1) (0:Int)),([false]:GZ))).bind λj=>
   some (j.1,j.2))
theorem Mq {a0}{r}(j:lW a0=some r):CallOK ν 166 [.bP (.st gP) a0] [⟨false,cg,r.1⟩,⟨false,.bool,r.2⟩] []:=
 dn Tryz.func166 rfl λcx o R=>θ o [] aU (υ (bc j oN λT p j=>θ o [oH,(cl p)] (bD p) (Ω j (λI j=>θ o [] aU (by (cases j;exact (Δ (bn (bY aU)))))) λI j=>Η (aX (bg j λJ j=>aba o (nO 4 [(hT tI),(hT .bool)]) (bD (LM J)) (by (refine (acJ [(3,3),(2,2),(0,0)] [] (st':=⟨[(1,pV 0 0),(4,pV 3 0)],[(3,.box [iC 1,iC a0.2.1,nC (π (δ a0.2.1) (0:Int)),.all 2]),(2,.seq .bool ([false]:GZ)),(0,.box [iC a0.1,iC a0.2.1,nC a0.2.2.1,.bp (.sl .bool) a0.2.2.2])],4⟩) o R (by kernel_rfl)).ht ?_;exact (by (refine (acJ [(3,3),(0,0)] [] (st':=⟨[(1,pV 0 0),(4,pV 3 0)],[(3,.box [iC 1,iC a0.2.1,nC (π (δ a0.2.1) (0:Int)),.bp (.sl .bool) ([false]:GZ)]),(0,.box [iC a0.1,iC a0.2.1,nC a0.2.2.1,.bp (.sl .bool) a0.2.2.2])],4⟩) o R (by kernel_rfl)).ht ?_;exact (bc j F8 λU t j=>θ o [oH,oH,(cl t)] (bD t) (by (cases j;exact (Δ (bY aU))))))))))))))
end
end Go.Proofs
