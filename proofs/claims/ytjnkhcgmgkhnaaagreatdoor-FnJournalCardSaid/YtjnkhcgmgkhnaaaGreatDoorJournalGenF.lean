import Derived.Test.YtjnkhcgmgkhnaaaGreatDoorJournalGenE
import Derived.Test.YtjnkhcgmgkhnaaaGreatDoorProg
set_option linter.all false
open Go.Ide.CallOK renaming rn→ϱ
open Go.Ide.HT renaming g→θ,block→ο,seq→φ,ret→Δ,skip→Θ,k→Υ,cb→Φ,lp→ϧ,xe→Ϩ,jn→ϰ,cj→Ϻ,dg→abA,ex→ac9,rg→adP,l→Μ
open Go.Ide.Le renaming rz→adk
open Go.Ide.RG renaming cut→acB,j4→aen
open Go.Proofs.Tryz renaming prog→ν
open Int renaming toNat→δ
open List renaming getD→ε,length→ζ,replicate→υ
namespace Go.Proofs
open Go.Ide
noncomputable section
def mR (a0:GM)(j:Int×GI):Option ((Int×GI)⊕GI):=
 bif (decide (j.1<(bn a0.2.2.1))) then
  br (0<=j.1/\j.1<bn a0.2.2.1) (
   (some ((((ε a0.2.2.1 (δ j.1) (0,0,0,0)).2).2).1)).bind λp=>
   (some ((((ε a0.2.2.1 (δ j.1) (0,0,0,0)).2).2).2)).bind λo=>
   br (0<=(ε a0.2.2.1 (δ j.1) (0,0,0,0)).1/\(ε a0.2.2.1 (δ j.1) (0,0,0,0)).1<bn j.2) (
    br (0<=((ε a0.2.2.1 (δ j.1) (0,0,0,0)).2).1/\((ε a0.2.2.1 (δ j.1) (0,0,0,0)).2).1<bn j.2) (
     some (.inl ((bz .i64 j.1 1),(List.set j.2 (δ ((ε a0.2.2.1 (δ j.1) (0,0,0,0)).1)) (if (bz .i64 (ε j.2 (δ (((ε a0.2.2.1 (δ j.1) (0,0,0,0)).2).1)) 0) o)<(ε j.2 (δ ((ε a0.2.2.1 (δ j.1) (0,0,0,0)).1)) 0) then (bz .i64 (ε j.2 (δ (((ε a0.2.2.1 (δ j.1) (0,0,0,0)).2).1)) 0) o) else (ε j.2 (δ ((ε a0.2.2.1 (δ j.1) (0,0,0,0)).1)) 0))))))))
 else
  some (.inr j.2)
def mS (a0:GM)(p:GI)(j:Int×GI):Option ((Int×GI)⊕GI):=
 bif (decide (j.1<(bn p))) then
  (rounds (mR a0) (0,j.2)).bind λo=>
  some (.inl ((bz .i64 j.1 1),o))
 else
  some (.inr j.2)
def ni (a0:GM):Option GI:=
 (ft a0.2.2.2.2).bind λj=>
 (rounds (mS a0 j) (0,j)).bind λo=>
 some o
theorem MY {a0}{r}(R:ni a0=some r):CallOK ν 194 [.bZ (.st gM) a0] [⟨true,cC,r⟩] []:=
 dB Tryz.func194 rfl λcx o hF=>θ o [] bm (bc R uM λy1 T R=>θ o [oH,oH,(cl T)] (bQ T) (φ (θ o [] bm (ο (ϧ o R (λs3=>up [1,3,10] [(11,iV s3.1)] [0] [(1,.seq tI s3.2)] 0) (λr5=>(.exit 0,up [3] [] [] [(1,.seq tI r5)] 0)) (λr5 R=>(bE (bp (θ o [] bm (by (cases R;exact (Δ (ct bm)))))))) λs3 x6 p TQ=>θ o [] bm (Ϻ p (λQi p=>φ (ο (θ o [] bm (ο (ϧ o p (λJ=>up [1,3,10,11,14,15] [(16,iV J.1)] [0] [(1,.seq tI J.2)] 0) (λU=>(.exit 2,up [1,3,10,11] [] [0] [(1,.seq tI U)] 0)) (λU p=>(bE (bB (bp (Υ o [] bm λ_ h=>(bM (lN p h))))))) λJ Vm j aa=>θ o [] bm (Ϻ j (λab j=>φ (ο (bg j λad j=>θ o [] (bQ ad) (bq j λj=>bq j λj=>bg j λt j=>bg j λI j=>HT.dl o [] (lF t (bS t) I (bS I) (dp t (bS t))) (bB (bp (Υ o [] bm λ_ h=>(bM (lN j h))))))))) λab j=>Ϩ o (bL (bN (aa _ (bw j)))))))))) λQi p=>Ϩ o (bL (bN (TQ _ (bw p))))))))))
def l4 (o:GI)(j:Int×GI):Option ((Int×GI)⊕GI):=
 bif (decide (j.1<(bn o))) then
  br (0<=j.1/\j.1<bn o) (
   br (0<=j.1/\j.1<bn j.2) (
    some (.inl ((bz .i64 j.1 1),(List.set j.2 (δ j.1) (if (ε o (δ j.1) 0)<(ε j.2 (δ j.1) 0) then (ε o (δ j.1) 0) else (ε j.2 (δ j.1) 0)))))))
 else
  some (.inr j.2)
def l5 (a0:GM)(o:GM×Bool)(p:Int×List GI)(j:Int×GI):Option ((Int×GI)⊕GI):=
 bif (decide (j.1<a0.2.1)) then
  br (0<=p.1/\p.1<bn p.2) (
   (mQ (o.1.1,o.1.2.1,o.1.2.2.1,o.1.2.2.2.1,o.1.2.2.2.2) (ε p.2 (δ p.1) ([]:GI)) j.1).bind λr=>
   (rounds (l4 r) (0,j.2)).bind λt=>
   some (.inl ((bz .i64 j.1 1),t)))
 else
  some (.inr j.2)
def l6 (a0:GM)(r:GM×Bool)(j:Int×List GI):Option ((Int×List GI)⊕(List GI)):=
 bif (decide (j.1<12)) then
  (cq ([1099511627776]:GI) a0.1).bind λp=>
  (rounds (l5 a0 r j) (0,p)).bind λo=>
  br (ζ j.2+ζ ([o]:List GI)<=bD) (
   some (.inl ((bz .i64 j.1 1),(j.2++([o]:List GI)))))
 else
  some (.inr j.2)
def l7 (a0:GM):Option (List GI):=
 (k9 (a0.1,a0.2.1,a0.2.2.1,a0.2.2.2.1,a0.2.2.2.2)).bind λj=>
 (fe (j.1.1,j.1.2.1,j.1.2.2.1,j.1.2.2.2.1,j.1.2.2.2.2)).bind λo=>
 (rounds (l6 a0 j) (0,([o]:List GI))).bind λp=>
 some p
theorem MZ {a0}{r}(hr:l7 a0=some r):CallOK ν 195 [.bZ (.st gM) a0] [⟨false,(.sl cC),r⟩] []:=
 dB Tryz.func195 rfl λcx o hF=>θ o [] bm (bc hr JW λI vt hr=>θ o [oH,(cl vt)] (bQ vt) (by (refine (adk [(4,4),(2,2),(3,3),(0,0)] [] (st':=⟨[(1,pV 0 0),(3,pV 4 0)],[(4,.box [iC I.1.1,iC I.1.2.1,.bG gA I.1.2.2.1,.all 2,.all 3]),(2,.seq tI I.1.2.2.2.1),(3,.seq tI I.1.2.2.2.2),(0,.box [iC a0.1,iC a0.2.1,.bG gA a0.2.2.1,nC a0.2.2.2.1,nC a0.2.2.2.2])],5⟩) o hF (by kernel_rfl)).ht ?_;exact (by (refine (adk [(4,4),(3,3),(0,0)] [] (st':=⟨[(1,pV 0 0),(3,pV 4 0)],[(4,.box [iC I.1.1,iC I.1.2.1,.bG gA I.1.2.2.1,nC I.1.2.2.2.1,.all 3]),(3,.seq tI I.1.2.2.2.2),(0,.box [iC a0.1,iC a0.2.1,.bG gA a0.2.2.1,nC a0.2.2.2.1,nC a0.2.2.2.2])],5⟩) o hF (by kernel_rfl)).ht ?_;exact (by (refine (adk [(4,4),(0,0)] [] (st':=⟨[(1,pV 0 0),(3,pV 4 0)],[(4,.box [iC I.1.1,iC I.1.2.1,.bG gA I.1.2.2.1,nC I.1.2.2.2.1,nC I.1.2.2.2.2]),(0,.box [iC a0.1,iC a0.2.1,.bG gA a0.2.2.1,nC a0.2.2.2.1,nC a0.2.2.2.2])],5⟩) o hF (by kernel_rfl)).ht ?_;exact (bc hr Fe λy3 TW hr=>θ o [oH,(cl (ϱ [true] rfl TW)),(hT cC)] (bQ (ϱ [true] rfl TW)) (φ (θ o [] bm (ο (ϧ o hr (λs5=>up [1,3,5] [(19,iV s5.1)] [0,4] [(5,.seq cC s5.2)] 0) (λr7=>(.exit 0,up [5] [] [] [(5,.seq cC r7)] 0)) (λr7 hr=>(bE (bp (θ o [] bm (by (refine (adk [] [] (st':=⟨[(2,.one (.bG (.sl cC) r7))],[],6⟩) o hF (by kernel_rfl)).ht ?_;cases hr;exact (Δ (ct bm)))))))) λs5 x8 t Bz=>θ o [] bm (Ϻ t (λE8 t=>φ (ο (θ o [] bm (bc t wZ λyu R t=>θ o [(hT tI),oH,oH,(cl R)] (bQ R) (φ (θ o [] bm (ο (ϧ o t (λXM=>up [1,3,5,6,7,19,27] [(28,iV XM.1)] [0,4,5] [(7,.seq tI XM.2)] 0) (λXN=>(.exit 2,up [1,3,5,7,19] [] [0,4,5] [(7,.seq tI XN)] 0)) (λXN t=>(bE (bp (by (refine (adk [(0,0),(4,4),(5,5)] [] (st':=⟨[(1,pV 0 0),(3,pV 4 0),(5,aV 5),(7,nV XN),(19,iV s5.1)],[(0,.box [iC a0.1,iC a0.2.1,.bG gA a0.2.2.1,nC a0.2.2.2.1,nC a0.2.2.2.2]),(4,.box [iC I.1.1,iC I.1.2.1,.bG gA I.1.2.2.1,nC I.1.2.2.2.1,nC I.1.2.2.2.2]),(5,.seq cC s5.2)],8⟩) o hF (by kernel_rfl)).ht ?_;exact (bg t λXO t=>Μ o [oH,oH,(hT cC),(hT cC)] (bQ XO) (bB (bp (Υ o [] bm λ_ h=>(bM (lN t h))))))))))) λXM XP j Ff=>θ o [] bm (Ϻ j (λBE j=>φ (ο (θ o [] bm (bg j λT j=>bc j BC λLq U j=>abA o (nO 6 [(cl U)]) (ll T (bS T) U) (ο (ϧ o j (λXQ=>up [1,3,5,6,7,19,27,28,37,38] [(39,iV XQ.1)] [0,4,5,8] [(7,.seq tI XQ.2)] 0) (λR5=>(.exit 4,up [1,3,5,6,7,19,27,28] [] [0,4,5] [(7,.seq tI R5)] 0)) (λR5 j=>(bE (bB (bp (Υ o [] bm λ_ h=>(bM (lN j h))))))) λXQ ZA p QG=>θ o [] bm (Ϻ p (λKb p=>φ (ο (bg p λaa p=>θ o [] (dp aa (bS aa)) (bg p λJ p=>Μ o [] (nZ J (bS J) J (bS J)) (bB (bp (Υ o [] bm λ_ h=>(bM (lN p h))))))))) λKb p=>Ϩ o (bL (bN (QG _ (bw p))))))))))) λBE j=>Ϩ o (bL (bN (Ff _ (bw j))))))))))))) λE8 t=>Ϩ o (bL (bN (Bz _ (bw t)))))))))))))))))
def nU (a0:GI)(a1:GI)(a2:Int):Option (Bool):=
 (eK a1 a0).bind λj=>
 some (j==a2)
theorem M0 {a0}{a1}{a2}{r}(o:nU a0 a1 a2=some r):CallOK ν 197 [.bZ cC a0,.fZ cC a1,.fZ tI a2] [⟨false,.bool,r⟩] []:=
 dB Tryz.func197 rfl λcx p t=>θ p [] bm (bc o uN λI j o=>abA p [oH,oH,(cl j)] (bQ j) (by (cases o;exact (Δ (ct bm)))))
def fa (a0:List GI)(a1:GI×Int)(s1:Int):Option ((Int)⊕(Unit⊕Int)):=
 bif (decide (s1<(bn a0))) then
  br (0<=s1/\s1<bn a0) (
   (nU (ε a0 (δ s1) ([]:GI)) a1.1 a1.2).bind λj=>
   bif j then
    some (.inr (.inr s1))
   else
    some (.inl (bz .i64 s1 1)))
 else
  some (.inr (.inl ()))
def dI (a0:List GI)(a1:GI×Int):Option (Int):=
 (rounds (fa a0 a1) 0).bind λj=>match j with
  | .inl p=>
   some (-1)
  | .inr o=>
   some o
theorem M1 {a0}{a1}{r}(t:dI a0 a1=some r):CallOK ν 196 [.bZ (.sl cC) a0,.bZ (.cl 197 (.pair cC tI)) a1] [⟨false,tI,r⟩] []:=
 dB Tryz.func196 rfl λcx o hF=>θ o [] bm (φ (θ o [] bm (ο (ϧ o t (λs1=>up [0,1,7] [(8,iV s1)] [] [] 0) (λR=>match R with| .inl r3=>(.exit 0,up [] [] [] [] 0)| .inr r4=>(.ret,up [] [(4,iV r4)] [] [] 0)) (λR=>match R with| .inl r3=>λt=>(bE (bp (θ o [] bm (by (cases t;exact (Δ (ct bm)))))))| .inr r4=>λt=>by (cases t;exact (bT (bF (ct bm))))) λs1 x5 j I=>θ o [] bm (Ϻ j (λT j=>φ (ο (θ o [] bm (bg j λU j=>bc j M0 λQc p j=>θ o (nO 5 [(cl p)]) (dp U p) (Φ j (λJ j=>θ o [] bm (HT.xr o (bT (bF (fp (I _ (bw j))))))) λJ j=>Θ (bB (bp (Υ o [] bm λ_ h=>(bM (lN j h)))))))))) λT j=>Ϩ o (bL (bN (I _ (bw j)))))))))
def qn (a0:GM)(I:Int)(p:List GI)(j:Int×GI×GI)(o:Int):Option ((Int)⊕((GI×GI))):=
 bif (decide (o<a0.2.1)) then
  (mQ (a0.1,a0.2.1,a0.2.2.1,a0.2.2.2.1,a0.2.2.2.2) j.2.2 o).bind λr=>
  br (0<=j.1/\j.1<bn p) (
   (eK r (ε p (δ j.1) ([]:GI))).bind λt=>
   bif (t==I) then
    br (ζ j.2.1+ζ ([o]:GI)<=bD) (
     some (.inr ((j.2.1++([o]:GI)),r)))
   else
    some (.inl (bz .i64 o 1)))
 else
  some (.inr (j.2.1,j.2.2))
def qo (a0:GM)(r:Int)(p:List GI)(j:Int×GI×GI):Option ((Int×GI×GI)⊕GI):=
 bif (decide (j.1>=0)) then
  (rounds (qn a0 r p j) 0).bind λo=>
  some (.inl ((bW .i64 j.1 1),o.1,o.2))
 else
  some (.inr j.2.1)
def nj (a0:GM):Option (GI×Int×Bool):=
 (cy (a0.1,a0.2.1,a0.2.2.1,a0.2.2.2.1,a0.2.2.2.2)).bind λR=>
 bif (!R) then
  some (([]:GI),0,false)
 else
  (ft a0.2.2.2.1).bind λJ=>
  (ni (a0.1,a0.2.1,a0.2.2.1,a0.2.2.2.1,a0.2.2.2.2)).bind λT=>
  (eK J T).bind λp=>
  (l7 (a0.1,a0.2.1,a0.2.2.1,a0.2.2.2.1,a0.2.2.2.2)).bind λj=>
  (dI j (J,p)).bind λo=>
  (show Option (Bool) from
   bif (decide (p<0)) then
    some true
   else
    some (decide (o<0))).bind λr=>
  bif r then
   some (([]:GI),0,false)
  else
   (fe (a0.1,a0.2.1,a0.2.2.1,a0.2.2.2.1,a0.2.2.2.2)).bind λt=>
   (rounds (qo a0 p j) ((bW .i64 o 1),([]:GI),t)).bind λI=>
   some (I,p,true)
theorem M3 {a0}{r}(p:nj a0=some r):CallOK ν 164 [.bZ (.st gM) a0] [⟨true,cC,r.1⟩,⟨false,tI,r.2.1⟩,⟨false,.bool,r.2.2⟩] []:=
 dB Tryz.func164 rfl λcx o hF=>θ o [] bm (φ (bc p oY λy1 ah p=>θ o [oH,(cl ah)] (bQ ah) (Φ p (λAe p=>θ o [] bm (by (cases p;exact (Δ (bF (ct bm)))))) λAe p=>Θ (bp (bc p uM λy4 ai p=>θ o [oH,oH,(cl ai)] (bQ ai) (bc p MY λy6 aj p=>bc p uN λy8 ak p=>abA o [oH,oH,(cl aj),(cl ak)] (dp aj ak) (by (refine (adk [(4,4),(2,2),(0,0)] [] (st':=⟨[(1,pV 0 0),(5,pV 2 0),(6,pV 4 0)],[(4,.box [iC y8]),(2,.box [nC y4]),(0,.box [iC a0.1,iC a0.2.1,.bG gA a0.2.2.1,nC a0.2.2.2.1,nC a0.2.2.2.2])],5⟩) o hF (by kernel_rfl)).ht ?_;exact (bc p MZ λal T p=>θ o [oH,(cl T)] (bQ T) (by (refine (adk [(4,4),(0,0)] [] (st':=⟨[(1,pV 0 0),(5,.one (.ip cC y4 0)),(6,pV 4 0),(7,.one (.bG (.sl cC) al))],[(4,.box [iC y8]),(0,.box [iC a0.1,iC a0.2.1,.bG gA a0.2.2.1,nC a0.2.2.2.1,nC a0.2.2.2.2])],5⟩) o hF (by kernel_rfl)).ht ?_;exact (by (refine (adk [(0,0)] [] (st':=⟨[(1,pV 0 0),(5,.one (.ip cC y4 0)),(6,.one (.ip tI y8 0)),(7,.one (.bG (.sl cC) al))],[(0,.box [iC a0.1,iC a0.2.1,.bG gA a0.2.2.1,nC a0.2.2.2.1,nC a0.2.2.2.2])],5⟩) o hF (by kernel_rfl)).ht ?_;exact (bc p M1 λyu U p=>θ o [oH,⟨none,.pg⟩,(cl U)] (bQ U) (φ (ϰ p (λan=>up [1,6,7,8] [(34,bV an)] [0] [] 0) (λan p=>Φ p (λao p=>θ o [] bm (by (cases p;exact (Δ (bF (ct bm)))))) λao p=>Θ (bp (θ o [] bm (bc p Fe λTF aa p=>θ o [oH,(cl aa)] (bQ aa) (φ (θ o [] bm (ο (ϧ o p (λR=>up [1,6,7,10] [(9,aV 9),(11,iV R.1)] [0] [(9,.seq tI R.2.1),(5,.seq tI R.2.2)] 4) (λaq=>(.exit 0,up [6] [(9,aV 9)] [] [(9,.seq tI aq)] 4)) (λaq p=>(bE (bp (abA o [] bm (by (cases p;exact (Δ (ct bm)))))))) λR x24 t ar=>φ (θ o [] bm (Φ t (λau t=>Θ (bp (φ (ο (θ o [] bm (ο (ϧ o t (λav=>up [1,6,7,9,10,11,45] [(46,iV av)] [0,9,5] [] 0) (λag=>(.exit 2,up [1,6,7,11] [(9,aV 12),(10,aV 10)] [0] [(12,.seq tI ag.1),(10,.seq tI ag.2)] 3)) (λag t=>(bE (bB (bp (Υ o [] bm λ_ h=>(bM (lN t h))))))) λav x31 j ab=>θ o [] bm (Ϻ j (λaw j=>φ (ο (θ o [] bm (bc j BC λXC ad j=>θ o [oH,oH,oH,(cl ad)] (bQ ad) (bg j λax j=>bc j uN λXh ae j=>abA o (nO 5 [(cl ae)]) (dp ax ae) (Φ j (λay j=>bg j λaz j=>θ o [oH,oH,(hT tI),(hT tI)] (bQ az) (θ o [] bm (Ϩ o (LZ rfl (bL (bN (ab _ (bw j)))))))) λay j=>Θ (bB (bp (Υ o [] bm λ_ h=>(bM (lN j h))))))))))) λaw j=>Ϩ o (bL (bN (ab _ (bw j)))))))))))) λau t=>Ϩ o (bL (bN (ar _ (bw t)))))))))))))) λ_ I af=>bb I (λJ I=>Υ o [oH,oH,kT] (bQ J) λ_ h=>(bp (h.ht (af _ (bt I))))) λJ I=>Υ o [oH,oH,kF] (bQ J) λ_ h=>(bp (h.ht (af _ (bt I))))))))))))))))))))
def dN (a0:GI)(a1:Bool):Option (GB×Bool):=
 bif (!a1) then
  some (([]:GB),false)
 else
  (gC a0).bind λj=>
  some (j.1,j.2)
theorem BF {a0}{a1}{r}(j:dN a0 a1=some r):CallOK ν 165 [.bZ cC a0,.bZ .bool a1] [⟨false,.str,r.1⟩,⟨false,.bool,r.2⟩] []:=
 dB Tryz.func165 rfl λcx p I=>θ p [] bm (φ (θ p [] bm (Φ j (λt j=>θ p [] bm (by (cases j;exact (Δ (bF (ct bm)))))) λt j=>Θ (bp (bc j Fb λJ o j=>θ p [oH,(cl o)] (bQ o) (by (cases j;exact (Δ (ct bm)))))))))
def iW (a0:GI)(a1:Int)(a2:Bool):Option (GB×Bool):=
 (dN a0 a2).bind λj=>
 br (ζ j.1+ζ ([59]:GB)<=bD) (
  (iI a1).bind λo=>
  br (ζ (j.1++([59]:GB))+ζ o<=bD) (
   some (((j.1++([59]:GB))++o),j.2)))
theorem GN {a0}{a1}{a2}{r}(j:iW a0 a1 a2=some r):CallOK ν 163 [.bZ cC a0,.bZ tI a1,.bZ .bool a2] [⟨false,.str,r.1⟩,⟨false,.bool,r.2⟩] []:=
 dB Tryz.func163 rfl λcx t R=>θ t [] bm (bc j BF λT o j=>θ t [oH,oH,(cl o)] (bQ o) (bg j λI j=>bc j Bt λU p j=>bg j λJ j=>θ t [oH,oH,oH,(cl p)] (ll I p J) (by (cases j;exact (Δ (ct bm))))))
def c6 (a0:GP)(a1:GI)(s1:Int×Int):Option ((Int×Int)⊕(Int)):=
 bif (decide (s1.2<(bn a1))) then
  br (0<=s1.2/\s1.2<bn a1) (
   (cP (a0.1,a0.2.1,a0.2.2.1,a0.2.2.2) s1.1 (ε a1 (δ s1.2) 0)).bind λj=>
   some (.inl (j,(bz .i64 s1.2 1))))
 else
  some (.inr s1.1)
def fB (a0:GP)(a1:GI):Option (Bool):=
 (rounds (c6 a0 a1) (0,0)).bind λj=>
 br (0<=j/\j<bn a0.2.2.2) (
  some (ε a0.2.2.2 (δ j) false))
theorem Kd {a0}{a1}{r}(t:fB a0 a1=some r):CallOK ν 52 [.bZ (.st gP) a0,.bZ cC a1] [⟨false,.bool,r⟩] []:=
 dB Tryz.func52 rfl λcx o hF=>θ o [] bm (θ o [] bm (φ (θ o [] bm (ο (ϧ o t (λI=>up [2,8,9] [(5,iV I.1),(10,iV I.2)] [0] [] 0) (λr3=>(.exit 0,up [2] [(5,iV r3)] [0] [] 0)) (λr3 t=>(bE (bp (bg t λJ t=>θ o [] (bQ J) (by (cases t;exact (Δ (ct bm)))))))) λI x5 j R=>θ o [] bm (Ϻ j (λT j=>φ (ο (bg j λU j=>θ o [] (bQ U) (bc j qX λQc p j=>Μ o [oH,oH,oH,(cl p)] (bQ p) (bB (bp (Υ o [] bm λ_ h=>(bM (lN j h))))))))) λT j=>Ϩ o (bL (bN (R _ (bw j))))))))))
def jL (a0:GP)(a1:GI):Option (Bool×Bool):=
 (show Option (Bool) from
  (cI (a0.1,a0.2.1,a0.2.2.1,a0.2.2.2)).bind λo=>
  bif (!o) then
   some true
  else
   (gr a1 a0.2.1).bind λj=>
   some (!j)).bind λp=>
 bif p then
  some (false,false)
 else
  (fB (a0.1,a0.2.1,a0.2.2.1,a0.2.2.2) a1).bind λr=>
  some (r,true)
theorem QH {a0}{a1}{r}(p:jL a0 a1=some r):CallOK ν 18 [.bZ (.st gP) a0,.bZ cC a1] [⟨false,.bool,r.1⟩,⟨false,.bool,r.2⟩] []:=
 dB Tryz.func18 rfl λcx J hF=>θ J [] bm (φ (ϰ p (λv2=>up [1,2] [(15,bV v2)] [0] [] 0) (λv2 p=>Φ p (λU p=>θ J [] bm (by (cases p;exact (Δ (bF (ct bm)))))) λU p=>Θ (bp (bc p Kd λy6 R p=>θ J [oH,oH,(cl R)] (bQ R) (by (cases p;exact (Δ (ct bm))))))) λ_ j T=>bc j o9 λy8 t j=>bb j (λo j=>Υ J [oH,(cl t),oH,kT] (dp t o) λ_ h=>(bp (h.ht (T _ (bt j))))) λo j=>bc j BD λLp I j=>Υ J [oH,(cl t),oH,kF,oH,oH,oH,(cl I)] (ll t o I) λ_ h=>(bp (h.ht (T _ (bt j))))))
theorem Fg:j5 ν 280 (.st (cH .i64 1)):=j5.arr (E:=2) (by kernel_rfl) (by kernel_rfl) (by kernel_rfl) (by kernel_rfl)
def kQ (a0:GP)(a1:GP)(I:Int×(List ((Int×Int)×GI))×(List ((cH .i64 1).D×Bool)))(j:Int×(List ((Int×Int)×GI))×(List ((cH .i64 1).D×Bool))):Option ((Int×(List ((Int×Int)×GI))×(List ((cH .i64 1).D×Bool)))⊕(((List ((Int×Int)×GI))×(List ((cH .i64 1).D×Bool))))):=
 bif (decide (j.1<a0.2.1)) then
  (show Option ((List ((Int×Int)×GI))×(List ((cH .i64 1).D×Bool))) from
   (cP (a0.1,a0.2.1,a0.2.2.1,a0.2.2.2) (((ε I.2.1 (δ I.1) ((0,0),([]:GI))).1).1) j.1).bind λo=>
   (cP (a1.1,a1.2.1,a1.2.2.1,a1.2.2.2) (((ε I.2.1 (δ I.1) ((0,0),([]:GI))).1).2) j.1).bind λp=>
   bif (!((cr (t:=(.st (cH .i64 1))) (u:= .bool) j.2.2 (j8 .i64 1 0 [o,p])).getD false)) then
    br (cr (t:=(.st (cH .i64 1))) (u:= .bool) j.2.2 (j8 .i64 1 0 [o,p])=none) (
     (slices_Clone ((ε I.2.1 (δ I.1) ((0,0),([]:GI))).2)).bind λr=>
     br (ζ r+ζ ([j.1]:GI)<=bD) (
      br (ζ j.2.1+ζ ([((o,p),(r++([j.1]:GI)))]:List ((Int×Int)×GI))<=bD) (
       some ((j.2.1++([((o,p),(r++([j.1]:GI)))]:List ((Int×Int)×GI))),(j.2.2++[((j8 .i64 1 0 [o,p]),true)])))))
   else
    some (j.2.1,j.2.2)).bind λJ=>
  some (.inl ((bz .i64 j.1 1),J.1,J.2))
 else
  some (.inr (j.2.1,j.2.2))
def pa (a0:GP)(a1:GP)(j:Int×(List ((Int×Int)×GI))×(List ((cH .i64 1).D×Bool))):Option ((Int×(List ((Int×Int)×GI))×(List ((cH .i64 1).D×Bool)))⊕(Unit⊕GI)):=
 bif (decide (j.1<(bn j.2.1))) then
  (show Option (((List ((Int×Int)×GI))×(List ((cH .i64 1).D×Bool)))⊕((Int×(List ((Int×Int)×GI))×(List ((cH .i64 1).D×Bool)))⊕(Unit⊕GI))) from
   br (0<=j.1/\j.1<bn j.2.1) (
    br (0<=((ε j.2.1 (δ j.1) ((0,0),([]:GI))).1).1/\((ε j.2.1 (δ j.1) ((0,0),([]:GI))).1).1<bn a0.2.2.2) (
     br (0<=((ε j.2.1 (δ j.1) ((0,0),([]:GI))).1).2/\((ε j.2.1 (δ j.1) ((0,0),([]:GI))).1).2<bn a1.2.2.2) (
      bif ((ε a0.2.2.2 (δ (((ε j.2.1 (δ j.1) ((0,0),([]:GI))).1).1)) false) != (ε a1.2.2.2 (δ (((ε j.2.1 (δ j.1) ((0,0),([]:GI))).1).2)) false)) then
       sX (some (.inr (.inr ((ε j.2.1 (δ j.1) ((0,0),([]:GI))).2))))
      else
       bif ((bn ((ε j.2.1 (δ j.1) ((0,0),([]:GI))).2))==12) then
        some (.inl (j.2.1,j.2.2))
       else
        (rounds (kQ a0 a1 j) (0,j.2.1,j.2.2)).bind λo=>
        some (.inl (o.1,o.2)))))).bind λr=>match r with
   | .inl p=>
    some (.inl ((bz .i64 j.1 1),p.1,p.2))
   | .inr z=>some z
 else
  some (.inr (.inl ()))
def iX (a0:GP)(a1:GP):Option (GI×Bool):=
 (some (([]:List ((cH .i64 1).D×Bool))++[((j8 .i64 1 0 [0,0]),true)])).bind λq1=>
 (rounds (pa a0 a1) (0,([((0,0),([]:GI))]:List ((Int×Int)×GI)),q1)).bind λj=>match j with
  | .inl p=>
   some (([]:GI),false)
  | .inr o=>
   some (o,true)
theorem GO {a0}{a1}{r}(hr:iX a0 a1=some r):CallOK ν 198 [.bZ (.st gP) a0,.bZ (.st gP) a1] [⟨false,cC,r.1⟩,⟨false,.bool,r.2⟩] []:=
 dB Tryz.func198 rfl λcx T hF=>θ T [] bm (θ T [oH,(hT (.st (.pair (.st (.pair tI tI)) cC)))] bm (ac9 ⟨[(2,pV 0 0),(3,pV 1 0),(6,aV 2)],[(2,.seq (.st (.pair (.st (.pair tI tI)) cC)) ([((0,0),([]:GI))]:List ((Int×Int)×GI))),(1,.box [iC a1.1,iC a1.2.1,nC a1.2.2.1,.bG (.sl .bool) a1.2.2.2]),(0,.box [iC a0.1,iC a0.2.1,nC a0.2.2.1,.bG (.sl .bool) a0.2.2.2])],3⟩ T (by (refine φ (adP (RG.makeMap (.st (cH .i64 1)) .bool T rfl rfl rfl (by kernel_rfl) (by kernel_rfl) (RG.JE (n:=1) (len:=2) (E:=2) [iC 0,iC 0] T rfl rfl rfl (by kernel_rfl) (by kernel_rfl) (by kernel_rfl) (z:= .agg (υ 2 (Value.int .i64 0)).toArray) (by kernel_rfl) (by kernel_rfl) rfl (by kernel_rfl) (RG.qS (t:=(.st (cH .i64 1))) (u:= .bool) (x:=(j8 .i64 1 0 [0,0])) (y:=true) T (.inr rfl) rfl rfl (K:=280) (E:=4) (by kernel_rfl) Fg rfl rfl rfl rfl rfl rfl rfl (show cr (t:=(.st (cH .i64 1))) (u:= .bool) ([]:List ((cH .i64 1).D×Bool)) (j8 .i64 1 0 [0,0])=none from rfl) (aen [2,3,6,7] [oH,oH] ⟨[(2,pV 0 0),(3,pV 1 0),(6,aV 2),(7,.one (.fP 3))],[(3,.mp (.st (cH .i64 1)) .bool (([]:List ((cH .i64 1).D×Bool))++[((j8 .i64 1 0 [0,0]),true)])),(3,.mp (.st (cH .i64 1)) .bool ([]:List ((cH .i64 1).D×Bool))),(2,.seq (.st (.pair (.st (.pair tI tI)) cC)) ([((0,0),([]:GI))]:List ((Int×Int)×GI))),(1,.box [iC a1.1,iC a1.2.1,nC a1.2.2.1,.bG (.sl .bool) a1.2.2.2]),(0,.box [iC a0.1,iC a0.2.1,nC a0.2.2.1,.bG (.sl .bool) a0.2.2.2])],4⟩ T.P T.N (by kernel_rfl) bm ?_)))));exact (bq hr λhr=>φ (θ T [] bm (ο (ϧ T hr (λo=>up [2,3,6,7] [(8,iV o.1)] [0,1] [(2,.seq (.st (.pair (.st (.pair tI tI)) cC)) o.2.1),(3,.mp (.st (cH .i64 1)) .bool o.2.2)] 0) (λr4=>match r4 with| .inl r5=>(.exit 0,up [] [] [] [] 0)| .inr r6=>(.ret,up [] [(4,nV r6),(5,bV true)] [] [] 0)) (λr4=>match r4 with| .inl r5=>λhr=>(bE (bp (θ T [] bm (by (cases hr;exact (Δ (ct bm)))))))| .inr r6=>λhr=>by (cases hr;exact (bT (bF (ct bm))))) λo x7 aa Mw=>φ (θ T [] bm (Φ aa (λBB aa=>Θ (bp (HT.jo aa (λ_=>rfl) (λv12=>up [2,3,6,7,8] [] [0,1] [(2,.seq (.st (.pair (.st (.pair tI tI)) cC)) v12.1),(3,.mp (.st (cH .i64 1)) .bool v12.2)] 0) (λv12 aa=>Υ T [] bm λ_ h=>(bM (lN aa h))) λ_ J XR ad=>ο (bg J λae J=>θ T [] (dp ae (bS ae)) (φ (bg J λM4 J=>bg J λXS J=>abA T [] (nZ (show (0:Int)<=0/\0<((2:Nat):Int) from by decide) M4 (show (0:Int)<=1/\1<((2:Nat):Int) from by decide) XS) (Φ J (λJ2 J=>θ T [] bm (have aa:=XR J;HT.xr T (bF (bT (bF (fp (Mw _ (bw aa)))))))) λJ2 J=>Θ (bp (φ (θ T [] bm (Φ J (λE7 J=>HT.exit (bL (bE (bp (HT.re T (ad _ (bw J))))))) λE7 J=>Θ (bp (θ T [] bm (ο (ϧ T J (λj=>up [2,3,6,7,8,9,49] [(50,iV j.1)] [0,1,4] [(2,.seq (.st (.pair (.st (.pair tI tI)) cC)) j.2.1),(3,.mp (.st (cH .i64 1)) .bool j.2.2)] 0) (λR5=>(.exit 2,up [2,3,6,7,8] [] [0,1] [(2,.seq (.st (.pair (.st (.pair tI tI)) cC)) R5.1),(3,.mp (.st (cH .i64 1)) .bool R5.2)] 0)) (λR5 J=>(bE (bB (bp (HT.re T (ad _ (bw J))))))) λj ZA U QG=>θ T [] bm (Ϻ U (λKb U=>ϰ U (λv33=>up [2,3,7,8,9,49,50] [(6,aV 10)] [0,1,4] [(10,.seq (.st (.pair (.st (.pair tI tI)) cC)) v33.1),(3,.mp (.st (cH .i64 1)) .bool v33.2)] 6) (λv33 U=>Υ T [] bm λ_ h=>(bM (lN U h))) λ_ R af=>ο (θ T [] bm (bc R qX λp ag R=>bc R qX λI ah R=>abA T (nO 5 [(cl ag),oH,oH,oH,oH,oH,(cl ah)]) (nZ (show (0:Int)<=0/\0<((2:Nat):Int) from by decide) ag (show (0:Int)<=1/\1<((2:Nat):Int) from by decide) ah) (ac9 ⟨[(2,pV 0 0),(3,pV 1 0),(6,aV 2),(7,.one (.fP 3)),(8,iV o.1),(9,pV 4 0),(10,iV j.1),(11,pV 5 0),(49,iV a0.2.1),(50,iV j.1)],[(5,.box [iC p,iC I]),(0,.box [iC a0.1,iC a0.2.1,nC a0.2.2.1,.bG (.sl .bool) a0.2.2.2]),(1,.box [iC a1.1,iC a1.2.1,nC a1.2.2.1,.bG (.sl .bool) a1.2.2.2]),(2,.seq (.st (.pair (.st (.pair tI tI)) cC)) j.2.1),(3,.mp (.st (cH .i64 1)) .bool j.2.2),(4,.box [iC (((ε o.2.1 (δ o.1) ((0,0),([]:GI))).1).1),iC (((ε o.2.1 (δ o.1) ((0,0),([]:GI))).1).2),nC ((ε o.2.1 (δ o.1) ((0,0),([]:GI))).2)])],6⟩ T (by (refine φ (adP (acB 2 [oH,oH] ⟨[(67,.agg [iC p,iC I]),(66,.one (.fP 3)),(2,pV 0 0),(3,pV 1 0),(6,aV 2),(7,.one (.fP 3)),(8,iV o.1),(9,pV 4 0),(10,iV j.1),(11,pV 5 0),(49,iV a0.2.1),(50,iV j.1)],[(5,.box [iC p,iC I]),(0,.box [iC a0.1,iC a0.2.1,nC a0.2.2.1,.bG (.sl .bool) a0.2.2.2]),(1,.box [iC a1.1,iC a1.2.1,nC a1.2.2.1,.bG (.sl .bool) a1.2.2.2]),(2,.seq (.st (.pair (.st (.pair tI tI)) cC)) j.2.1),(3,.mp (.st (cH .i64 1)) .bool j.2.2),(4,.box [iC (((ε o.2.1 (δ o.1) ((0,0),([]:GI))).1).1),iC (((ε o.2.1 (δ o.1) ((0,0),([]:GI))).1).2),nC ((ε o.2.1 (δ o.1) ((0,0),([]:GI))).2)])],6⟩ T.P T.N (by kernel_rfl) bm (RG.Ti (t:=(.st (cH .i64 1))) (u:= .bool) (x:=(j8 .i64 1 0 [p,I])) (z:=Value.bool false) (y0:=false) T rfl rfl rfl (by kernel_rfl) (K:=280) (E:=4) (by kernel_rfl) Fg rfl (by kernel_rfl) rfl rfl rfl rfl rfl (aen [2,3,6,7,8,9,10,11,49,50,69] [oH] ⟨[(2,pV 0 0),(3,pV 1 0),(6,aV 2),(7,.one (.fP 3)),(8,iV o.1),(9,pV 4 0),(10,iV j.1),(11,pV 5 0),(49,iV a0.2.1),(50,iV j.1),(69,bV (!((cr (t:=(.st (cH .i64 1))) (u:= .bool) j.2.2 (j8 .i64 1 0 [p,I])).getD false)))],[(5,.box [iC p,iC I]),(0,.box [iC a0.1,iC a0.2.1,nC a0.2.2.1,.bG (.sl .bool) a0.2.2.2]),(1,.box [iC a1.1,iC a1.2.1,nC a1.2.2.1,.bG (.sl .bool) a1.2.2.2]),(2,.seq (.st (.pair (.st (.pair tI tI)) cC)) j.2.1),(3,.mp (.st (cH .i64 1)) .bool j.2.2),(4,.box [iC (((ε o.2.1 (δ o.1) ((0,0),([]:GI))).1).1),iC (((ε o.2.1 (δ o.1) ((0,0),([]:GI))).1).2),nC ((ε o.2.1 (δ o.1) ((0,0),([]:GI))).2)])],6⟩ T.P T.N (by kernel_rfl) bm ?_))));exact (Φ R (λXT R=>bg R λXU R=>ac9 ⟨[(2,pV 0 0),(3,pV 1 0),(6,aV 2),(7,.one (.fP 3)),(8,iV o.1),(9,pV 4 0),(10,iV j.1),(11,pV 5 0),(49,iV a0.2.1),(50,iV j.1),(69,bV (!((cr (t:=(.st (cH .i64 1))) (u:= .bool) j.2.2 (j8 .i64 1 0 [p,I])).getD false)))],[(5,.box [iC p,iC I]),(0,.box [iC a0.1,iC a0.2.1,nC a0.2.2.1,.bG (.sl .bool) a0.2.2.2]),(1,.box [iC a1.1,iC a1.2.1,nC a1.2.2.1,.bG (.sl .bool) a1.2.2.2]),(2,.seq (.st (.pair (.st (.pair tI tI)) cC)) j.2.1),(3,.mp (.st (cH .i64 1)) .bool j.2.2),(4,.box [iC (((ε o.2.1 (δ o.1) ((0,0),([]:GI))).1).1),iC (((ε o.2.1 (δ o.1) ((0,0),([]:GI))).1).2),nC ((ε o.2.1 (δ o.1) ((0,0),([]:GI))).2)])],6⟩ T (by (refine φ (adP (acB 2 [oH,oH] ⟨[(71,.agg [iC p,iC I]),(70,.one (.fP 3)),(2,pV 0 0),(3,pV 1 0),(6,aV 2),(7,.one (.fP 3)),(8,iV o.1),(9,pV 4 0),(10,iV j.1),(11,pV 5 0),(49,iV a0.2.1),(50,iV j.1),(69,bV (!((cr (t:=(.st (cH .i64 1))) (u:= .bool) j.2.2 (j8 .i64 1 0 [p,I])).getD false)))],[(5,.box [iC p,iC I]),(0,.box [iC a0.1,iC a0.2.1,nC a0.2.2.1,.bG (.sl .bool) a0.2.2.2]),(1,.box [iC a1.1,iC a1.2.1,nC a1.2.2.1,.bG (.sl .bool) a1.2.2.2]),(2,.seq (.st (.pair (.st (.pair tI tI)) cC)) j.2.1),(3,.mp (.st (cH .i64 1)) .bool j.2.2),(4,.box [iC (((ε o.2.1 (δ o.1) ((0,0),([]:GI))).1).1),iC (((ε o.2.1 (δ o.1) ((0,0),([]:GI))).1).2),nC ((ε o.2.1 (δ o.1) ((0,0),([]:GI))).2)])],6⟩ T.P T.N (by kernel_rfl) bm (RG.qS (t:=(.st (cH .i64 1))) (u:= .bool) (x:=(j8 .i64 1 0 [p,I])) (y:=true) T (.inl rfl) rfl rfl (K:=280) (E:=4) (by kernel_rfl) Fg rfl rfl rfl rfl rfl rfl rfl XU (aen [2,3,6,7,8,9,10,11,49,50] [] ⟨[(2,pV 0 0),(3,pV 1 0),(6,aV 2),(7,.one (.fP 3)),(8,iV o.1),(9,pV 4 0),(10,iV j.1),(11,pV 5 0),(49,iV a0.2.1),(50,iV j.1)],[(3,.mp (.st (cH .i64 1)) .bool (j.2.2++[((j8 .i64 1 0 [p,I]),true)])),(5,.box [iC p,iC I]),(0,.box [iC a0.1,iC a0.2.1,nC a0.2.2.1,.bG (.sl .bool) a0.2.2.2]),(1,.box [iC a1.1,iC a1.2.1,nC a1.2.2.1,.bG (.sl .bool) a1.2.2.2]),(2,.seq (.st (.pair (.st (.pair tI tI)) cC)) j.2.1),(3,.mp (.st (cH .i64 1)) .bool j.2.2),(4,.box [iC (((ε o.2.1 (δ o.1) ((0,0),([]:GI))).1).1),iC (((ε o.2.1 (δ o.1) ((0,0),([]:GI))).1).2),nC ((ε o.2.1 (δ o.1) ((0,0),([]:GI))).2)])],6⟩ T.P T.N (by kernel_rfl) bm ?_))));exact (bc R lK λab ai R=>bg R λQJ R=>bg R λXV R=>ac9 ⟨[(2,pV 0 0),(3,pV 1 0),(6,aV 2),(7,.one (.fP 3)),(8,iV o.1),(9,pV 4 0),(10,iV j.1),(11,pV 5 0),(49,iV a0.2.1),(50,iV j.1)],[(3,.mp (.st (cH .i64 1)) .bool (j.2.2++[((j8 .i64 1 0 [p,I]),true)])),(5,.box [iC p,iC I]),(0,.box [iC a0.1,iC a0.2.1,nC a0.2.2.1,.bG (.sl .bool) a0.2.2.2]),(1,.box [iC a1.1,iC a1.2.1,nC a1.2.2.1,.bG (.sl .bool) a1.2.2.2]),(2,.seq (.st (.pair (.st (.pair tI tI)) cC)) j.2.1),(4,.box [iC (((ε o.2.1 (δ o.1) ((0,0),([]:GI))).1).1),iC (((ε o.2.1 (δ o.1) ((0,0),([]:GI))).1).2),nC ((ε o.2.1 (δ o.1) ((0,0),([]:GI))).2)])],6⟩ T (HT.apQ (λhq=>HT.Zk 10 [⟨oH,[]⟩,⟨oH,[]⟩,⟨oH,[]⟩,⟨oH,[2]⟩,⟨(cl ai),[2,3]⟩,⟨oH,[]⟩,⟨(hT tI),[5]⟩,⟨(hT tI),[2,3,4,5,6]⟩,⟨oH,[1,2,3,4,5,6,7]⟩,⟨(hT (.st (.pair (.st (.pair tI tI)) (.own tI)))),[1,2,3,4,5,6,7,8]⟩] [[0,1,2,3,4,5,6,7,8,9],[0,1,2,3,4,5,6,7,8,9,10]] ⟨[(81,aV 9),(80,.agg [iC p,iC I,.all 8]),(79,aV 8),(78,aV 7),(77,iV j.1),(76,aV 6),(75,nV ((ε o.2.1 (δ o.1) ((0,0),([]:GI))).2)),(74,pV 4 2),(73,.agg [iC p,iC I]),(72,aV 2),(2,pV 0 0),(3,pV 1 0),(6,aV 2),(7,.one (.fP 3)),(8,iV o.1),(9,pV 4 0),(10,iV j.1),(11,pV 5 0),(49,iV a0.2.1),(50,iV j.1)],[(8,.gone),(9,.seq (.st (.pair (.st (.pair tI tI)) (.own tI))) ([((p,I),(ab++([j.1]:GI)))]:List ((Int×Int)×GI))),(6,.gone),(8,.seq tI (ab++([j.1]:GI))),(7,.seq tI ([j.1]:GI)),(6,.seq tI ab),(3,.mp (.st (cH .i64 1)) .bool (j.2.2++[((j8 .i64 1 0 [p,I]),true)])),(5,.box [iC p,iC I]),(0,.box [iC a0.1,iC a0.2.1,nC a0.2.2.1,.bG (.sl .bool) a0.2.2.2]),(1,.box [iC a1.1,iC a1.2.1,nC a1.2.2.1,.bG (.sl .bool) a1.2.2.2]),(2,.seq (.st (.pair (.st (.pair tI tI)) cC)) j.2.1),(4,.box [iC (((ε o.2.1 (δ o.1) ((0,0),([]:GI))).1).1),iC (((ε o.2.1 (δ o.1) ((0,0),([]:GI))).1).2),nC ((ε o.2.1 (δ o.1) ((0,0),([]:GI))).2)])],10⟩ T (by kernel_rfl) (by kernel_rfl) (dp ai QJ) ((adk [(7,7),(3,3),(5,5),(0,0),(1,1),(2,2),(4,4)] [] (st':=⟨[(81,.one (.bG (.sl (.st (.pair (.st (.pair tI tI)) cC))) ([((p,I),(ab++([j.1]:GI)))]:List ((Int×Int)×GI)))),(78,aV 7),(77,iV j.1),(75,nV ((ε o.2.1 (δ o.1) ((0,0),([]:GI))).2)),(74,pV 4 2),(73,.agg [iC p,iC I]),(72,aV 2),(2,pV 0 0),(3,pV 1 0),(6,aV 2),(7,.one (.fP 3)),(8,iV o.1),(9,pV 4 0),(10,iV j.1),(11,pV 5 0),(49,iV a0.2.1),(50,iV j.1)],[(7,.seq tI ([j.1]:GI)),(3,.mp (.st (cH .i64 1)) .bool (j.2.2++[((j8 .i64 1 0 [p,I]),true)])),(5,.box [iC p,iC I]),(0,.box [iC a0.1,iC a0.2.1,nC a0.2.2.1,.bG (.sl .bool) a0.2.2.2]),(1,.box [iC a1.1,iC a1.2.1,nC a1.2.2.1,.bG (.sl .bool) a1.2.2.2]),(2,.seq (.st (.pair (.st (.pair tI tI)) cC)) j.2.1),(4,.box [iC (((ε o.2.1 (δ o.1) ((0,0),([]:GI))).1).1),iC (((ε o.2.1 (δ o.1) ((0,0),([]:GI))).1).2),nC ((ε o.2.1 (δ o.1) ((0,0),([]:GI))).2)])],10⟩) T hF (by kernel_rfl)).rg (RG.last [(hT (.st (.pair (.st (.pair tI tI)) cC))),oH] ⟨[(6,aV 10),(82,aV 10),(81,.one (.bG (.sl (.st (.pair (.st (.pair tI tI)) cC))) ([((p,I),(ab++([j.1]:GI)))]:List ((Int×Int)×GI)))),(78,aV 7),(77,iV j.1),(75,nV ((ε o.2.1 (δ o.1) ((0,0),([]:GI))).2)),(74,pV 4 2),(73,.agg [iC p,iC I]),(72,aV 2),(2,pV 0 0),(3,pV 1 0),(6,aV 2),(7,.one (.fP 3)),(8,iV o.1),(9,pV 4 0),(10,iV j.1),(11,pV 5 0),(49,iV a0.2.1),(50,iV j.1)],[(2,.gone),(10,.seq (.st (.pair (.st (.pair tI tI)) cC)) (j.2.1++([((p,I),(ab++([j.1]:GI)))]:List ((Int×Int)×GI)))),(7,.seq tI ([j.1]:GI)),(3,.mp (.st (cH .i64 1)) .bool (j.2.2++[((j8 .i64 1 0 [p,I]),true)])),(5,.box [iC p,iC I]),(0,.box [iC a0.1,iC a0.2.1,nC a0.2.2.1,.bG (.sl .bool) a0.2.2.2]),(1,.box [iC a1.1,iC a1.2.1,nC a1.2.2.1,.bG (.sl .bool) a1.2.2.2]),(2,.seq (.st (.pair (.st (.pair tI tI)) cC)) j.2.1),(4,.box [iC (((ε o.2.1 (δ o.1) ((0,0),([]:GI))).1).1),iC (((ε o.2.1 (δ o.1) ((0,0),([]:GI))).1).2),nC ((ε o.2.1 (δ o.1) ((0,0),([]:GI))).2)])],11⟩ T.P T.N (by kernel_rfl) (gH XV bm) hq))) (bB (bp (HT.re T (af _ (bt R)))))))))) λXT R=>Θ (bB (bp (HT.re T (af _ (bt R)))))))))))) λKb U=>Ϩ T (bL (bN (QG _ (bw U)))))))))))))))))))) λBB aa=>Ϩ T (bL (bN (Mw _ (bw aa))))))))))))))
def l8 (a0:GP):Option (GI×Bool):=
 (cI (a0.1,a0.2.1,a0.2.2.1,a0.2.2.2)).bind λo=>
 bif (!o) then
  some (([]:GI),false)
 else
  br (0<=a0.2.1/\a0.2.1<=4294967296) (
   (iX (a0.1,a0.2.1,a0.2.2.1,a0.2.2.2) (1,a0.2.1,(υ (δ a0.2.1) (0:Int)),([false]:GZ))).bind λj=>
   some (j.1,j.2))
theorem M5 {a0}{r}(j:l8 a0=some r):CallOK ν 166 [.bZ (.st gP) a0] [⟨false,cC,r.1⟩,⟨false,.bool,r.2⟩] []:=
 dB Tryz.func166 rfl λcx o R=>θ o [] bm (φ (bc j o9 λT p j=>θ o [oH,(cl p)] (bQ p) (Φ j (λI j=>θ o [] bm (by (cases j;exact (Δ (bF (ct bm)))))) λI j=>Θ (bp (bg j λJ j=>abA o (nO 4 [(hT tI),(hT .bool)]) (bQ (Mj J)) (by (refine (adk [(3,3),(2,2),(0,0)] [] (st':=⟨[(1,pV 0 0),(4,pV 3 0)],[(3,.box [iC 1,iC a0.2.1,nC (υ (δ a0.2.1) (0:Int)),.all 2]),(2,.seq .bool ([false]:GZ)),(0,.box [iC a0.1,iC a0.2.1,nC a0.2.2.1,.bG (.sl .bool) a0.2.2.2])],4⟩) o R (by kernel_rfl)).ht ?_;exact (by (refine (adk [(3,3),(0,0)] [] (st':=⟨[(1,pV 0 0),(4,pV 3 0)],[(3,.box [iC 1,iC a0.2.1,nC (υ (δ a0.2.1) (0:Int)),.bG (.sl .bool) ([false]:GZ)]),(0,.box [iC a0.1,iC a0.2.1,nC a0.2.2.1,.bG (.sl .bool) a0.2.2.2])],4⟩) o R (by kernel_rfl)).ht ?_;exact (bc j GO λU t j=>θ o [oH,oH,(cl t)] (bQ t) (by (cases j;exact (Δ (ct bm))))))))))))))
def ey (a0:GP)(a1:GI)(s1:Int×Int):Option ((Int×Int)⊕(Int)):=
 bif (decide (s1.2<(bn a1))) then
  br (0<=s1.2/\s1.2<bn a1) (
   (cP (a0.1,a0.2.1,a0.2.2.1,a0.2.2.2) s1.1 (ε a1 (δ s1.2) 0)).bind λj=>
   some (.inl (j,(bz .i64 s1.2 1))))
 else
  some (.inr s1.1)
def iK (a0:GP)(a1:GI):Option (Int):=
 (rounds (ey a0 a1) (0,0)).bind λj=>
 some j
theorem M6 {a0}{a1}{r}(t:iK a0 a1=some r):CallOK ν 228 [.bZ (.st gP) a0,.bZ cC a1] [⟨false,tI,r⟩] []:=
 dB Tryz.func228 rfl λcx o hF=>θ o [] bm (θ o [] bm (φ (θ o [] bm (ο (ϧ o t (λI=>up [2,8,9] [(5,iV I.1),(10,iV I.2)] [0] [] 0) (λU=>(.exit 0,up [] [(5,iV U)] [] [] 0)) (λU t=>(bE (bp (θ o [] bm (by (cases t;exact (Δ (ct bm)))))))) λI x4 j J=>θ o [] bm (Ϻ j (λR j=>φ (ο (bg j λT j=>θ o [] (bQ T) (bc j qX λy9 p j=>Μ o [oH,oH,oH,(cl p)] (bQ p) (bB (bp (Υ o [] bm λ_ h=>(bM (lN j h))))))))) λR j=>Ϩ o (bL (bN (J _ (bw j))))))))))
def l9 (a0:GP)(a2:List GI)(o:Int×GI)(j:Int×Int):Option ((Int×Int)⊕(Int)):=
 bif (decide (j.2<(bn (ε a2 (δ o.1) ([]:GI))))) then
  br (0<=j.2/\j.2<bn (ε a2 (δ o.1) ([]:GI))) (
   (cP (a0.1,a0.2.1,a0.2.2.1,a0.2.2.2) j.1 (ε (ε a2 (δ o.1) ([]:GI)) (δ j.2) 0)).bind λp=>
   some (.inl (p,(bz .i64 j.2 1))))
 else
  some (.inr j.1)
def ma (a0:GP)(a2:List GI)(p:Int)(j:Int×GI):Option ((Int×GI)⊕GI):=
 bif (decide (j.1<(bn a2))) then
  (show Option GI from
   br (0<=j.1/\j.1<bn a2) (
    (rounds (l9 a0 a2 j) (p,0)).bind λo=>
    br (0<=o/\o<bn a0.2.2.2) (
     bif (ε a0.2.2.2 (δ o) false) then
      br (ζ j.2+ζ ([49]:GI)<=bD) (
       some (j.2++([49]:GI)))
     else
      br (ζ j.2+ζ ([48]:GI)<=bD) (
       some (j.2++([48]:GI)))))).bind λv11=>
  some (.inl ((bz .i64 j.1 1),v11))
 else
  some (.inr j.2)
def nH (a0:GP)(a1:GI)(a2:List GI):Option GB:=
 (iK (a0.1,a0.2.1,a0.2.2.1,a0.2.2.2) a1).bind λj=>
 (rounds (ma a0 a2 j) (0,([]:GI))).bind λo=>
 some (gy o)
theorem GU {a0}{a1}{a2}{r}(T:nH a0 a1 a2=some r):CallOK ν 219 [.bZ (.st gP) a0,.bZ cC a1,.bZ (.sl cC) a2] [⟨false,.str,r⟩] []:=
 dB Tryz.func219 rfl λcx p hF=>θ p [] bm (θ p [] bm (bc T M6 λy1 U T=>θ p [oH,oH,(cl U)] (bQ U) (φ (θ p [] bm (ο (ϧ p T (λs3=>up [3,8,18,19] [(7,aV 3),(20,iV s3.1)] [0] [(3,.seq (.int .u8) s3.2)] 3) (λr5=>(.exit 0,up [] [(7,aV 3)] [] [(3,.seq (.int .u8) r5)] 3)) (λr5 T=>(bE (bp (θ p [] bm (by (cases T;exact (Δ (ct bm)))))))) λs3 x6 t TQ=>θ p [] bm (Ϻ t (λQi t=>ϰ t (λv11=>up [3,8,18,19,20] [(7,aV 5)] [0] [(5,.seq (.int .u8) v11)] 2) (λv11 t=>Υ p [] bm λ_ h=>(bM (lN t h))) λ_ j I=>ο (bg j λaa j=>θ p [] (bQ aa) (θ p [] bm (φ (θ p [] bm (ο (ϧ p j (λR=>up [3,7,8,18,19,20,25,26] [(11,iV R.1),(27,iV R.2)] [0,3] [] 0) (λab=>(.exit 2,up [3,7,8,18,19,20] [(11,iV ab)] [0,3] [] 0)) (λab j=>(bE (bp (bg j λad j=>θ p [] (bQ ad) (Φ j (λae j=>bg j λaf j=>Υ p [oH,(hT (.int .u8)),(hT (.int .u8))] (bQ af) λ_ h=>(bB (bp (h.ht (I _ (bt j)))))) λae j=>bg j λag j=>Υ p [oH,(hT (.int .u8)),(hT (.int .u8))] (bQ ag) λ_ h=>(bB (bp (h.ht (I _ (bt j)))))))))) λR x22 o ah=>θ p [] bm (Ϻ o (λai o=>φ (ο (bg o λaj o=>θ p [] (bQ aj) (bc o qX λZE J o=>Μ p [oH,oH,oH,(cl J)] (bQ J) (bB (bp (Υ p [] bm λ_ h=>(bM (lN o h))))))))) λai o=>Ϩ p (bL (bN (ah _ (bw o)))))))))))) λQi t=>Ϩ p (bL (bN (TQ _ (bw t)))))))))))
theorem QK:j5 ν 9 .str:=j5.str (by kernel_rfl)
def jw (a0:GP)(a2:List GI)(I:Int×List GI×(List (GB×Int))×GI×GZ)(j:Int×List GI×(List (GB×Int))×GI):Option ((Int×List GI×(List (GB×Int))×GI)⊕((List GI×(List (GB×Int))×GI))):=
 bif (decide (j.1<a0.2.1)) then
  br (0<=I.1/\I.1<bn j.2.1) (
   (slices_Clone (ε j.2.1 (δ I.1) ([]:GI))).bind λo=>
   br (ζ o+ζ ([j.1]:GI)<=bD) (
    (nH (a0.1,a0.2.1,a0.2.2.1,a0.2.2.2) (o++([j.1]:GI)) a2).bind λp=>
    (show Option (Int×List GI×(List (GB×Int))) from
     bif (!((cr (t:= .str) (u:=tI) j.2.2.1 p).isSome)) then
      br (cr (t:= .str) (u:=tI) j.2.2.1 p=none) (
       br (ζ j.2.1+ζ ([(o++([j.1]:GI))]:List GI)<=bD) (
        some ((bn j.2.1),(j.2.1++([(o++([j.1]:GI))]:List GI)),(j.2.2.1++[(p,(bn j.2.1))]))))
     else
      some (((cr (t:= .str) (u:=tI) j.2.2.1 p).getD 0),j.2.1,j.2.2.1)).bind λr=>
    br (ζ j.2.2.2+ζ ([r.1]:GI)<=bD) (
     some (.inl ((bz .i64 j.1 1),r.2.1,r.2.2,(j.2.2.2++([r.1]:GI)))))))
 else
  some (.inr (j.2.1,j.2.2.1,j.2.2.2))
def pG (a0:GP)(a2:List GI)(j:Int×List GI×(List (GB×Int))×GI×GZ):Option ((Int×List GI×(List (GB×Int))×GI×GZ)⊕((List GI×GI×GZ))):=
 bif (decide (j.1<(bn j.2.1))) then
  br (0<=j.1/\j.1<bn j.2.1) (
   (fB (a0.1,a0.2.1,a0.2.2.1,a0.2.2.2) (ε j.2.1 (δ j.1) ([]:GI))).bind λp=>
   br (ζ j.2.2.2.2+ζ ([p]:GZ)<=bD) (
    (rounds (jw a0 a2 j) (0,j.2.1,j.2.2.1,j.2.2.2.1)).bind λo=>
    some (.inl ((bz .i64 j.1 1),o.1,o.2.1,o.2.2,(j.2.2.2.2++([p]:GZ))))))
 else
  some (.inr (j.2.1,j.2.2.2.1,j.2.2.2.2))
def jx (a0:GP)(a1:List GI)(a2:List GI)(s1:Int×(List (GB×Int))):Option ((Int×(List (GB×Int)))⊕((List (GB×Int)))):=
 bif (decide (s1.1<(bn a1))) then
  br (0<=s1.1/\s1.1<bn a1) (
   (nH (a0.1,a0.2.1,a0.2.2.1,a0.2.2.2) (ε a1 (δ s1.1) ([]:GI)) a2).bind λj=>
   br (cr (t:= .str) (u:=tI) s1.2 j=none) (
    some (.inl ((bz .i64 s1.1 1),(s1.2++[(j,s1.1)])))))
 else
  some (.inr s1.2)
def mb (a0:GP)(a1:List GI)(a2:List GI):Option (List GI×GP):=
 (rounds (jx a0 a1 a2) (0,([]:List (GB×Int)))).bind λo=>
 (rounds (pG a0 a2) (0,a1,o,([]:GI),([]:GZ))).bind λj=>
 some (j.1,(bn j.1),a0.2.1,j.2.1,j.2.2)
theorem DB {a0}{a1}{a2}{r}(hr:mb a0 a1 a2=some r):CallOK ν 199 [.bZ (.st gP) a0,.mv (.sl (.own tI)) a1,.bZ (.sl cC) a2] [⟨true,(.sl (.own tI)),r.1⟩,⟨true,(.st gP),r.2⟩] []:=
 Tz Tryz.func199 rfl λcx p=>θ p [] bm (ac9 ⟨[(1,aV 0),(2,.one (.bG (.sl cC) a2)),(3,pV 1 0),(7,pV 2 0)],[(2,.box [iC 0,iC 0,.bH,.bH]),(1,.box [iC a0.1,iC a0.2.1,nC a0.2.2.1,.bG (.sl .bool) a0.2.2.2]),(0,.seq (.own tI) a1)],3⟩ p (by (refine φ (adP (RG.makeMap .str tI p rfl rfl rfl (by kernel_rfl) (by kernel_rfl) (aen [1,2,3,7,8] [oH] ⟨[(1,aV 0),(2,.one (.bG (.sl cC) a2)),(3,pV 1 0),(7,pV 2 0),(8,.one (.fP 3))],[(3,.mp .str tI ([]:List (GB×Int))),(2,.box [iC 0,iC 0,.bH,.bH]),(1,.box [iC a0.1,iC a0.2.1,nC a0.2.2.1,.bG (.sl .bool) a0.2.2.2]),(0,.seq (.own tI) a1)],4⟩ p.P p.N (by kernel_rfl) bm ?_)));exact (φ (θ p [] bm (ο (ϧ p hr (λU=>up [1,2,3,7,8,19,20] [(21,iV U.1)] [0,1,2] [(3,.mp .str tI U.2)] 0) (λr3=>(.exit 0,up [1,2,3,7,8] [] [0,1,2] [(3,.mp .str tI r3)] 0)) (λr3 hr=>(bE (bp (θ p [] bm (φ (θ p [] bm (ο (ϧ p hr (λs4=>up [1,2,3,7,8,11] [(12,iV s4.1)] [1,2] [(0,.seq (.own tI) s4.2.1),(3,.mp .str tI s4.2.2.1),(4,.box [iC 0,iC a0.2.1,.all 15,.all 16]),(15,.seq tI s4.2.2.2.1),(16,.seq .bool s4.2.2.2.2)] 12) (λr6=>(.exit 2,up [1,7,11] [] [2] [(0,.seq (.own tI) r6.1),(4,.box [iC 0,iC a0.2.1,.all 15,.all 16]),(15,.seq tI r6.2.1),(16,.seq .bool r6.2.2)] 12)) (λr6 hr=>(bE (bp (θ p [] bm (abA p [] bm (by (cases hr;exact (Δ (ct bm))))))))) λs4 x7 R Mw=>φ (θ p [] bm (Φ R (λBB R=>Θ (bp (φ (ο (bg R λTY R=>bc R Kd λyu TZ R=>bg R λQx R=>abA p (nO 7 [(cl TZ),(hT .bool),(hT .bool)]) (nZ TY (bS TY) TZ Qx) (θ p [] bm (ο (ϧ p R (λj=>up [1,2,3,7,8,11,12,54] [(55,iV j.1)] [1,2,4,18] [(0,.seq (.own tI) j.2.1),(3,.mp .str tI j.2.2.1),(15,.seq tI j.2.2.2)] 0) (λOx=>(.exit 4,up [1,2,3,7,8,11,12] [] [1,2,4,18] [(0,.seq (.own tI) Ox.1),(3,.mp .str tI Ox.2.1),(15,.seq tI Ox.2.2)] 0)) (λOx R=>(bE (bB (bp (Υ p [] bm λ_ h=>(bM (lN R h))))))) λj XP o Ff=>θ p [] bm (Ϻ o (λBE o=>φ (ο (θ p [] bm (bg o λDx o=>bc o lK λLq T3 o=>bg o λQd o=>θ p (nO 4 [(cl T3),oH,(hT tI),(hT tI)]) (nZ Dx (bS Dx) T3 Qd) (bc o GU λT T5 o=>θ p [oH,oH,oH,(cl T5)] (bQ T5) (ac9 ⟨[(1,aV 0),(2,.one (.bG (.sl cC) a2)),(3,pV 1 0),(7,pV 2 0),(8,.one (.fP 3)),(11,pV 4 0),(12,iV s4.1),(14,aV 21),(15,.one (.bG .str T)),(54,iV a0.2.1),(55,iV j.1)],[(21,.seq tI (Lq++([j.1]:GI))),(0,.seq (.own tI) j.2.1),(1,.box [iC a0.1,iC a0.2.1,nC a0.2.2.1,.bG (.sl .bool) a0.2.2.2]),(2,.box [iC 0,iC 0,.bH,.bH]),(3,.mp .str tI j.2.2.1),(4,.box [iC 0,iC a0.2.1,.all 15,.all 18]),(15,.seq tI j.2.2.2),(18,.seq .bool (s4.2.2.2.2++([yu]:GZ)))],22⟩ p (by (refine φ (adP (acB 2 [oH,oH] ⟨[(72,.one (.bG .str T)),(71,.one (.fP 3)),(1,aV 0),(2,.one (.bG (.sl cC) a2)),(3,pV 1 0),(7,pV 2 0),(8,.one (.fP 3)),(11,pV 4 0),(12,iV s4.1),(14,aV 21),(15,.one (.bG .str T)),(54,iV a0.2.1),(55,iV j.1)],[(21,.seq tI (Lq++([j.1]:GI))),(0,.seq (.own tI) j.2.1),(1,.box [iC a0.1,iC a0.2.1,nC a0.2.2.1,.bG (.sl .bool) a0.2.2.2]),(2,.box [iC 0,iC 0,.bH,.bH]),(3,.mp .str tI j.2.2.1),(4,.box [iC 0,iC a0.2.1,.all 15,.all 18]),(15,.seq tI j.2.2.2),(18,.seq .bool (s4.2.2.2.2++([yu]:GZ)))],22⟩ p.P p.N (by kernel_rfl) bm (RG.Bi (t:= .str) (u:=tI) (x:=T) (z:=Value.int .i64 0) (y0:=0) p rfl rfl rfl (by kernel_rfl) (K:=9) (E:=2) (by kernel_rfl) QK rfl (by kernel_rfl) rfl rfl rfl rfl rfl (aen [1,2,3,7,8,11,12,14,15,16,17,54,55] [oH,oH,oH,oH,oH] ⟨[(1,aV 0),(2,.one (.bG (.sl cC) a2)),(3,pV 1 0),(7,pV 2 0),(8,.one (.fP 3)),(11,pV 4 0),(12,iV s4.1),(14,aV 21),(15,.one (.bG .str T)),(16,iV ((cr (t:= .str) (u:=tI) j.2.2.1 T).getD 0)),(17,bV ((cr (t:= .str) (u:=tI) j.2.2.1 T).isSome)),(54,iV a0.2.1),(55,iV j.1)],[(21,.seq tI (Lq++([j.1]:GI))),(0,.seq (.own tI) j.2.1),(1,.box [iC a0.1,iC a0.2.1,nC a0.2.2.1,.bG (.sl .bool) a0.2.2.2]),(2,.box [iC 0,iC 0,.bH,.bH]),(3,.mp .str tI j.2.2.1),(4,.box [iC 0,iC a0.2.1,.all 15,.all 18]),(15,.seq tI j.2.2.2),(18,.seq .bool (s4.2.2.2.2++([yu]:GZ)))],22⟩ p.P p.N (by kernel_rfl) bm ?_))));exact (ϰ o (λMJ=>up [2,3,7,8,11,12,54,55] [(1,aV 23),(16,iV MJ.1)] [1,2,4,15,18] [(23,.seq (.own tI) MJ.2.1),(3,.mp .str tI MJ.2.2)] 2) (λMJ o=>bg o λXW o=>Μ p [oH,oH,oH,(hT tI),(hT tI)] (bQ XW) (bB (bp (Υ p [] bm λ_ h=>(bM (lN o h)))))) λ_ J T6=>θ p [] bm (Φ J (λQL J=>θ p [] bm (bg J λXX J=>ac9 ⟨[(1,aV 0),(2,.one (.bG (.sl cC) a2)),(3,pV 1 0),(7,pV 2 0),(8,.one (.fP 3)),(11,pV 4 0),(12,iV s4.1),(14,aV 21),(15,.one (.bG .str T)),(16,iV (bn j.2.1)),(54,iV a0.2.1),(55,iV j.1)],[(21,.seq tI (Lq++([j.1]:GI))),(0,.seq (.own tI) j.2.1),(1,.box [iC a0.1,iC a0.2.1,nC a0.2.2.1,.bG (.sl .bool) a0.2.2.2]),(2,.box [iC 0,iC 0,.bH,.bH]),(3,.mp .str tI j.2.2.1),(4,.box [iC 0,iC a0.2.1,.all 15,.all 18]),(15,.seq tI j.2.2.2),(18,.seq .bool (s4.2.2.2.2++([yu]:GZ)))],22⟩ p (by (refine φ (adP (acB 3 [oH,oH,oH] ⟨[(82,iV (bn j.2.1)),(81,.one (.bG .str T)),(80,.one (.fP 3)),(1,aV 0),(2,.one (.bG (.sl cC) a2)),(3,pV 1 0),(7,pV 2 0),(8,.one (.fP 3)),(11,pV 4 0),(12,iV s4.1),(14,aV 21),(15,.one (.bG .str T)),(16,iV (bn j.2.1)),(54,iV a0.2.1),(55,iV j.1)],[(21,.seq tI (Lq++([j.1]:GI))),(0,.seq (.own tI) j.2.1),(1,.box [iC a0.1,iC a0.2.1,nC a0.2.2.1,.bG (.sl .bool) a0.2.2.2]),(2,.box [iC 0,iC 0,.bH,.bH]),(3,.mp .str tI j.2.2.1),(4,.box [iC 0,iC a0.2.1,.all 15,.all 18]),(15,.seq tI j.2.2.2),(18,.seq .bool (s4.2.2.2.2++([yu]:GZ)))],22⟩ p.P p.N (by kernel_rfl) bm (RG.qS (t:= .str) (u:=tI) (x:=T) (y:=(bn j.2.1)) p (.inl rfl) rfl rfl (K:=9) (E:=2) (by kernel_rfl) QK rfl rfl rfl rfl rfl rfl rfl XX (aen [1,2,3,7,8,11,12,14,16,54,55] [] ⟨[(1,aV 0),(2,.one (.bG (.sl cC) a2)),(3,pV 1 0),(7,pV 2 0),(8,.one (.fP 3)),(11,pV 4 0),(12,iV s4.1),(14,aV 21),(16,iV (bn j.2.1)),(54,iV a0.2.1),(55,iV j.1)],[(3,.mp .str tI (j.2.2.1++[(T,(bn j.2.1))])),(21,.seq tI (Lq++([j.1]:GI))),(0,.seq (.own tI) j.2.1),(1,.box [iC a0.1,iC a0.2.1,nC a0.2.2.1,.bG (.sl .bool) a0.2.2.2]),(2,.box [iC 0,iC 0,.bH,.bH]),(3,.mp .str tI j.2.2.1),(4,.box [iC 0,iC a0.2.1,.all 15,.all 18]),(15,.seq tI j.2.2.2),(18,.seq .bool (s4.2.2.2.2++([yu]:GZ)))],22⟩ p.P p.N (by kernel_rfl) bm ?_))));exact (bg J λXY J=>Υ p [oH,oH,(hT (.own tI)),(hT (.own tI))] (bQ XY) λ_ h=>(bp (h.ht (T6 _ (bt J))))))))) λQL J=>Θ (bp (HT.re p (T6 _ (bt J)))))))))))))) λBE o=>Ϩ p (bL (bN (Ff _ (bw o))))))))))))) λBB R=>Ϩ p (bL (bN (Mw _ (bw R)))))))))))))) λU XE I JZ=>θ p [] bm (Ϻ I (λBw I=>φ (ο (bg I λHO I=>θ p [] (dp HO (bS HO)) (bc I GU λPX T7 I=>bg I λXZ I=>HT.eg ⟨[(1,aV 0),(2,.one (.bG (.sl cC) a2)),(3,pV 1 0),(7,pV 2 0),(8,.one (.fP 3)),(9,iV U.1),(10,.one (.row 0 (δ U.1) 0)),(19,aV 0),(20,iV (bn a1)),(21,iV U.1)],[(0,.seq (.own tI) a1),(1,.box [iC a0.1,iC a0.2.1,nC a0.2.2.1,.bG (.sl .bool) a0.2.2.2]),(2,.box [iC 0,iC 0,.bH,.bH]),(3,.mp .str tI U.2)],4⟩ p (HT.WX (λhq=>(acB 6 [oH,oH,oH,oH,(cl T7),oH] ⟨[(31,iV U.1),(30,.one (.bG .str PX)),(29,.one (.bG (.sl cC) a2)),(28,.one (.row 0 (δ U.1) 0)),(27,.agg [iC a0.1,iC a0.2.1,nC a0.2.2.1,.bG (.sl .bool) a0.2.2.2]),(26,.one (.fP 3)),(1,aV 0),(2,.one (.bG (.sl cC) a2)),(3,pV 1 0),(7,pV 2 0),(8,.one (.fP 3)),(9,iV U.1),(10,.one (.row 0 (δ U.1) 0)),(19,aV 0),(20,iV (bn a1)),(21,iV U.1)],[(0,.seq (.own tI) a1),(1,.box [iC a0.1,iC a0.2.1,nC a0.2.2.1,.bG (.sl .bool) a0.2.2.2]),(2,.box [iC 0,iC 0,.bH,.bH]),(3,.mp .str tI U.2)],4⟩ p.P p.N (by kernel_rfl) (gH T7 bm) (RG.qS (t:= .str) (u:=tI) (x:=PX) (y:=U.1) p (.inl rfl) rfl rfl (K:=9) (E:=2) (by kernel_rfl) QK rfl rfl rfl rfl rfl rfl rfl XZ (RG.last [] ⟨[(31,iV U.1),(30,.one (.bG .str PX)),(29,.one (.bG (.sl cC) a2)),(28,.one (.row 0 (δ U.1) 0)),(27,.agg [iC a0.1,iC a0.2.1,nC a0.2.2.1,.bG (.sl .bool) a0.2.2.2]),(26,.one (.fP 3)),(1,aV 0),(2,.one (.bG (.sl cC) a2)),(3,pV 1 0),(7,pV 2 0),(8,.one (.fP 3)),(9,iV U.1),(10,.one (.row 0 (δ U.1) 0)),(19,aV 0),(20,iV (bn a1)),(21,iV U.1)],[(3,.mp .str tI (U.2++[(PX,U.1)])),(0,.seq (.own tI) a1),(1,.box [iC a0.1,iC a0.2.1,nC a0.2.2.1,.bG (.sl .bool) a0.2.2.2]),(2,.box [iC 0,iC 0,.bH,.bH]),(3,.mp .str tI U.2)],4⟩ p.P p.N (by kernel_rfl) bm hq)))) (bB (bp (Υ p [] bm λ_ h=>(bM (lN I h)))))))))) λBw I=>Ϩ p (bL (bN (JZ _ (bw I))))))))))))
end
end Go.Proofs
