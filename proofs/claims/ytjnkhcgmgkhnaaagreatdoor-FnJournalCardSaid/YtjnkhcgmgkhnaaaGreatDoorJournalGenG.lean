import Derived.Test.YtjnkhcgmgkhnaaaGreatDoorJournalGenF
import Derived.Test.YtjnkhcgmgkhnaaaGreatDoorProg
set_option linter.all false
open Go.Ide.HT renaming g→θ,block→ο,seq→φ,ret→Δ,skip→Θ,k→Υ,cb→Φ,lp→ϧ,xe→Ϩ,jn→ϰ,cj→Ϻ,ex→ac9
open Go.Ide.Le renaming gc→aeK,re→afK
open Go.Ide.RG renaming cut→acB,inl→ahr
open Go.Proofs.Tryz renaming prog→ν,func104→ahJ
open Int renaming toNat→δ
open List renaming getD→ε,length→ζ,replicate→υ,set→aaj
namespace Go.Proofs
open Go.Ide
noncomputable section
def de (a0:GI)(a1:GI)(j:Int):Option ((Int)⊕(Unit⊕Unit)):=
 bif (decide (j<(bn a0))) then
  br (0<=j/\j<bn a0) (
   br (0<=j/\j<bn a1) (
    bif ((ε a0 (δ j) 0) != (ε a1 (δ j) 0)) then
     some (.inr (.inr ()))
    else
     some (.inl (bz .i64 j 1))))
 else
  some (.inr (.inl ()))
def cm (a0:GI)(a1:GI):Option (Bool):=
 bif ((bn a0) != (bn a1)) then
  some false
 else
  (rounds (de a0 a1) 0).bind λj=>match j with
   | .inl o=>
    some true
   | .inr p=>
    some false
theorem yD {a0}{a1}{r}(p:cm a0 a1=some r):CallOK ν 72 [.bZ cC a0,.bZ cC a1] [⟨false,.bool,r⟩] []:=
 dB Tryz.func72 rfl λcx o hF=>θ o [] bm (φ (θ o [] bm (Φ p (λT p=>θ o [] bm (by (cases p;exact (Δ (bF (ct bm)))))) λT p=>Θ (bp (φ (θ o [] bm (ο (ϧ o p (λs2=>up [0,1,12] [(13,iV s2)] [] [] 0) (λU=>match U with| .inl r4=>(.exit 0,up [] [] [] [] 0)| .inr r5=>(.ret,up [] [(4,bV false)] [] [] 0)) (λU=>match U with| .inl r4=>λp=>(bE (bp (θ o [] bm (by (cases p;exact (Δ (ct bm)))))))| .inr r5=>λp=>by (cases p;exact (bT (bF (ct bm))))) λs2 x6 j t=>θ o [] bm (Ϻ j (λaa j=>φ (ο (θ o [] bm (bg j λI j=>bg j λJ j=>HT.dg o [] (dp I J) (Φ j (λR j=>θ o [] bm (HT.xr o (bT (bF (fp (t _ (bw j))))))) λR j=>Θ (bB (bp (Υ o [] bm λ_ h=>(bM (lN j h)))))))))) λaa j=>Ϩ o (bL (bN (t _ (bw j)))))))))))))
def mc (a0:GI)(a1:GI):Option (Bool):=
 (cm a0 a1).bind λj=>
 some j
theorem M7 {a0}{a1}{r}(o:mc a0 a1=some r):CallOK ν 201 [.bZ cC a0,.fZ cC a1] [⟨false,.bool,r⟩] []:=
 dB Tryz.func201 rfl λcx p t=>θ p [] bm (bc o yD λI j o=>θ p [oH,oH,(cl j)] (bQ j) (by (cases o;exact (Δ (ct bm)))))
def cX (a0:List GI)(a1:GI)(s1:Int):Option ((Int)⊕(Unit⊕Int)):=
 bif (decide (s1<(bn a0))) then
  br (0<=s1/\s1<bn a0) (
   (mc (ε a0 (δ s1) ([]:GI)) a1).bind λj=>
   bif j then
    some (.inr (.inr s1))
   else
    some (.inl (bz .i64 s1 1)))
 else
  some (.inr (.inl ()))
def cE (a0:List GI)(a1:GI):Option (Int):=
 (rounds (cX a0 a1) 0).bind λj=>match j with
  | .inl p=>
   some (-1)
  | .inr o=>
   some o
theorem mT {a0}{a1}{r}(t:cE a0 a1=some r):CallOK ν 196 [.bZ (.sl cC) a0,.ji 201 cC a1] [⟨false,tI,r⟩] []:=
 dB Tryz.func196 rfl λcx o hF=>θ o [] bm (φ (θ o [] bm (ο (ϧ o t (λs1=>up [0,1,7] [(8,iV s1)] [] [] 0) (λR=>match R with| .inl r3=>(.exit 0,up [] [] [] [] 0)| .inr r4=>(.ret,up [] [(4,iV r4)] [] [] 0)) (λR=>match R with| .inl r3=>λt=>(bE (bp (θ o [] bm (by (cases t;exact (Δ (ct bm)))))))| .inr r4=>λt=>by (cases t;exact (bT (bF (ct bm))))) λs1 x5 j I=>θ o [] bm (Ϻ j (λT j=>φ (ο (θ o [] bm (bg j λU j=>bc j M7 λQc p j=>θ o (nO 5 [(cl p)]) (dp U p) (Φ j (λJ j=>θ o [] bm (HT.xr o (bT (bF (fp (I _ (bw j))))))) λJ j=>Θ (bB (bp (Υ o [] bm λ_ h=>(bM (lN j h)))))))))) λT j=>Ϩ o (bL (bN (I _ (bw j)))))))))
def bX (a0:List GI)(a1:GI):Option (Bool):=
 (cE a0 a1).bind λj=>
 some (decide (j>=0))
theorem mU {a0}{a1}{r}(o:bX a0 a1=some r):CallOK ν 200 [.bZ (.sl cC) a0,.ji 201 cC a1] [⟨false,.bool,r⟩] []:=
 dB Tryz.func200 rfl λcx p t=>θ p [] bm (bc o mT λI j o=>θ p [oH,oH,(cl j)] (bQ j) (by (cases o;exact (Δ (ct bm)))))
def iL (o:GI×Bool)(j:Int×List GI):Option ((Int×List GI)⊕(List GI)):=
 bif (decide (j.1<(bn o.1))) then
  (show Option (List GI) from
   br (0<=j.1/\j.1<=bn o.1) (
    (bX j.2 (cut o.1 j.1 (bn o.1))).bind λp=>
    bif (!p) then
     br (ζ j.2+ζ ([(cut o.1 j.1 (bn o.1))]:List GI)<=bD) (
      some (j.2++([(cut o.1 j.1 (bn o.1))]:List GI)))
    else
     some j.2)).bind λr=>
  some (.inl ((bz .i64 j.1 1),r))
 else
  some (.inr j.2)
def pb (a0:GP)(o:Int×List GI×List GI):Option ((Int×List GI×List GI)⊕((Int×Bool×GP))):=
 (mb (a0.1,a0.2.1,a0.2.2.1,a0.2.2.2) o.2.1 o.2.2).bind λj=>
 (cI (j.2.1,j.2.2.1,j.2.2.2.1,j.2.2.2.2)).bind λr=>
 bif (!r) then
  some (.inr (0,false,0,0,([]:GI),([]:GZ)))
 else
  (iX (a0.1,a0.2.1,a0.2.2.1,a0.2.2.2) (j.2.1,j.2.2.1,j.2.2.2.1,j.2.2.2.2)).bind λp=>
  bif (!p.2) then
   some (.inr (o.1,true,j.2.1,j.2.2.1,j.2.2.2.1,j.2.2.2.2))
  else
   (rounds (iL p) (0,o.2.2)).bind λt=>
   some (.inl ((bz .i64 o.1 1),j.1,t))
def kG (a0:GP):Option (GP×Int×Bool):=
 (cI (a0.1,a0.2.1,a0.2.2.1,a0.2.2.2)).bind λo=>
 bif (!o) then
  some ((0,0,([]:GI),([]:GZ)),0,false)
 else
  (rounds (pb a0) (1,([([]:GI)]:List GI),([([]:GI)]:List GI))).bind λj=>
  some ((j.2.2.1,j.2.2.2.1,j.2.2.2.2.1,j.2.2.2.2.2),j.1,j.2.1)
theorem M8 {a0}{r}(R:kG a0=some r):CallOK ν 167 [.bZ (.st gP) a0] [⟨false,(.st gP),r.1⟩,⟨false,tI,r.2.1⟩,⟨false,.bool,r.2.2⟩] []:=
 dB Tryz.func167 rfl λcx p hF=>θ p [] bm (φ (bc R o9 λy1 vt R=>θ p [oH,(cl vt)] (bQ vt) (Φ R (λAe R=>θ p [] bm (by (cases R;exact (Δ (bF (ct bm)))))) λAe R=>Θ (bp (θ p [oH,(hT (.own tI)),oH,(hT cC)] bm (θ p [] bm (ο (ϧ p R (λT=>up [1,2,5,6] [(7,iV T.1)] [0,1] [(2,.seq (.own tI) T.2.1),(3,.seq cC T.2.2)] 0) (λr6=>(.ret,up [2] [(3,iV r6.1),(4,bV r6.2.1)] [] [(1,.box [iC r6.2.2.1,iC r6.2.2.2.1,nC r6.2.2.2.2.1,.bG (.sl .bool) r6.2.2.2.2.2])] 0)) (λr6 R=>by (cases R;exact (bT (ct bm)))) λT x7 j Mw=>φ (ο (θ p [] bm (bc j DB λt aa j=>θ p [oH,oH,oH,(cl aa)] (bQ aa) (φ (bc j o9 λyu ab j=>θ p [oH,(cl ab)] (bQ ab) (Φ j (λKe j=>θ p [] bm (HT.xr p (bF (bT (bF (fp (Mw _ (bw j)))))))) λKe j=>Θ (bp (by (refine (Le.rz [(4,4),(5,5),(7,7),(0,0),(1,1),(3,3)] [] (st':=⟨[(1,pV 0 0),(2,pV 1 0),(5,aV 5),(6,aV 3),(7,iV T.1),(8,pV 4 0),(32,bV (!yu))],[(4,.box [iC t.2.1,iC t.2.2.1,nC t.2.2.2.1,.all 7]),(5,.seq (.own tI) t.1),(7,.seq .bool t.2.2.2.2),(0,.box [iC a0.1,iC a0.2.1,nC a0.2.2.1,.bG (.sl .bool) a0.2.2.2]),(1,.box [iC 0,iC 0,.bH,.bH]),(3,.seq cC T.2.2)],8⟩) p hF (by kernel_rfl)).ht ?_;exact (by (refine (Le.rz [(4,4),(5,5),(0,0),(1,1),(3,3)] [] (st':=⟨[(1,pV 0 0),(2,pV 1 0),(5,aV 5),(6,aV 3),(7,iV T.1),(8,pV 4 0),(32,bV (!yu))],[(4,.box [iC t.2.1,iC t.2.2.1,nC t.2.2.2.1,.bG (.sl .bool) t.2.2.2.2]),(5,.seq (.own tI) t.1),(0,.box [iC a0.1,iC a0.2.1,nC a0.2.2.1,.bG (.sl .bool) a0.2.2.2]),(1,.box [iC 0,iC 0,.bH,.bH]),(3,.seq cC T.2.2)],8⟩) p hF (by kernel_rfl)).ht ?_;exact (bc j GO λU ad j=>θ p [oH,oH,(cl ad)] (bQ ad) (φ (θ p [] bm (Φ j (λBv j=>θ p [] bm (HT.xr p (bF (bT (bF (fp (Mw _ (bw j)))))))) λBv j=>Θ (bp (θ p [] bm (ο (ϧ p j (λJ=>up [1,2,5,6,7,9,45] [(46,iV J.1)] [0,1,5] [(3,.seq cC J.2)] 0) (λVk=>(.exit 2,up [1,2,5,6,7] [] [0,1,5] [(3,.seq cC Vk)] 0)) (λVk j=>(bE (bB (bp (Υ p [] bm λ_ h=>(bM (lN j h))))))) λJ x21 I MF=>θ p [] bm (Ϻ I (λE7 I=>ϰ I (λv26=>up [1,2,5,7,9,45,46] [(6,aV 10)] [0,1,5] [(10,.seq cC v26)] 3) (λv26 I=>Υ p [] bm λ_ h=>(bM (lN I h))) λ_ o ae=>ο (θ p [] bm (bg o λzF o=>θ p [] (bQ (PO zF)) (by (refine (Le.rz [(0,0),(1,1),(5,5),(3,3)] [] (st':=⟨[(1,pV 0 0),(2,pV 1 0),(5,aV 5),(6,aV 3),(7,iV T.1),(9,nV U.1),(12,.one (.ip cC (cut U.1 J.1 (bn U.1)) 0)),(45,iV (bn U.1)),(46,iV J.1)],[(0,.box [iC a0.1,iC a0.2.1,nC a0.2.2.1,.bG (.sl .bool) a0.2.2.2]),(1,.box [iC 0,iC 0,.bH,.bH]),(5,.seq (.own tI) t.1),(3,.seq cC J.2)],9⟩) p hF (by kernel_rfl)).ht ?_;exact (bc o mU λZF af o=>θ p [oH,oH,(cl af)] (bQ af) (Φ o (λyB o=>bg o λQM o=>Υ p [oH,oH,(hT cC),(hT cC)] (bQ QM) λ_ h=>(bB (bp (h.ht (ae _ (bt o)))))) λyB o=>Θ (bB (bp (HT.re p (ae _ (bt o)))))))))))) λE7 I=>Ϩ p (bL (bN (MF _ (bw I))))))))))))))))))))))))))))))))
def ic (a0:GG)(a1:GI):Option (Bool):=
 (show Option (Bool) from
  (db (a0.1,a0.2.1,a0.2.2)).bind λj=>
  bif j then
   (gr a1 a0.2.1).bind λo=>
   bif o then
    some (decide ((bn a1)>0))
   else
    some false
  else
   some false).bind λp=>
 some p
theorem Kf {a0}{a1}{r}(T:ic a0 a1=some r):CallOK ν 55 [.bZ (.st gR) a0,.bZ cC a1] [⟨false,.bool,r⟩] []:=
 dB Tryz.func55 rfl λcx R hF=>θ R [] bm (ϰ T (λU=>up [] [(4,bV U)] [] [] 0) (λU T=>by (cases T;exact (Δ (ct bm)))) λ_ j J=>bc j vA λy5 o j=>bb j (λt j=>bc j BD λy8 I j=>bb j (λp j=>Υ R [oH,(cl o),kT,oH,oH,oH,(cl I),oH,kT] (nZ o t I p) λ_ h=>(bp (h.ht (J _ (bt j))))) λp j=>Υ R [oH,(cl o),kT,oH,oH,oH,(cl I),oH,kF] (nZ o t I p) λ_ h=>(bp (h.ht (J _ (bt j))))) λt j=>Υ R [oH,(cl o),kF] (dp o t) λ_ h=>(bp (h.ht (J _ (bt j)))))
def ig (a0:GG)(a1:GI)(t:Int×(List (Int×Int×Int)))(o:Int×(List (Int×Int×Int)))(p:Int×(List (Int×Int×Int)))(j:Int×(List (Int×Int×Int))):Option ((Int×(List (Int×Int×Int)))⊕((List (Int×Int×Int)))):=
 bif (decide (j.1<(bn a0.2.2))) then
  (show Option ((List (Int×Int×Int))) from
   br (0<=j.1/\j.1<bn a0.2.2) (
    (show Option ((List (Int×Int×Int))) from
     (show Option (Bool) from
      bif (decide ((((ε a0.2.2 (δ j.1) (0,0,0,0)).2).2).1<0)) then
       bif (p.1==o.1) then
        bif ((bz .i64 o.1 t.1)==(bz .i64 o.1 1)) then
         br (0<=o.1/\o.1<bn a1) (
          some ((ε a1 (δ o.1) 0)==((ε a0.2.2 (δ j.1) (0,0,0,0)).2).1))
        else
         some false
       else
        some false
      else
       some false).bind λJ=>
     bif J then
      (show Option ((List (Int×Int×Int))) from
       br (0<=o.1/\o.1<((12:Nat):Int)) (
        br (0<=(bz .i64 o.1 t.1)/\(bz .i64 o.1 t.1)<((13:Nat):Int)) (
         br (0<=(ε a0.2.2 (δ j.1) (0,0,0,0)).1/\(ε a0.2.2 (δ j.1) (0,0,0,0)).1<((8:Nat):Int)) (
          br (0+104*δ o.1+8*δ (bz .i64 o.1 t.1)+1*δ ((ε a0.2.2 (δ j.1) (0,0,0,0)).1)<ζ j.2) (
           bif (decide ((((ε a0.2.2 (δ j.1) (0,0,0,0)).2).2).2<(ε j.2 (0+104*δ o.1+8*δ (bz .i64 o.1 t.1)+1*δ ((ε a0.2.2 (δ j.1) (0,0,0,0)).1)) (0,0,0)).1)) then
            some (aaj j.2 (0+104*δ o.1+8*δ (bz .i64 o.1 t.1)+1*δ ((ε a0.2.2 (δ j.1) (0,0,0,0)).1)) ((((ε a0.2.2 (δ j.1) (0,0,0,0)).2).2).2,j.1,p.1))
           else
            some j.2))))).bind λR=>
      some R
     else
      some j.2).bind λr=>
    (show Option (Bool) from
     bif (decide ((((ε a0.2.2 (δ j.1) (0,0,0,0)).2).2).1>=0)) then
      some (decide (p.1>o.1))
     else
      some false).bind λT=>
    bif T then
     br (0<=o.1/\o.1<((12:Nat):Int)) (
      br (0<=p.1/\p.1<((13:Nat):Int)) (
       br (0<=((ε a0.2.2 (δ j.1) (0,0,0,0)).2).1/\((ε a0.2.2 (δ j.1) (0,0,0,0)).2).1<((8:Nat):Int)) (
        br (0+104*δ o.1+8*δ p.1+1*δ (((ε a0.2.2 (δ j.1) (0,0,0,0)).2).1)<ζ r) (
         br (0<=p.1/\p.1<((12:Nat):Int)) (
          br (0<=(bz .i64 o.1 t.1)/\(bz .i64 o.1 t.1)<((13:Nat):Int)) (
           br (0<=(((ε a0.2.2 (δ j.1) (0,0,0,0)).2).2).1/\(((ε a0.2.2 (δ j.1) (0,0,0,0)).2).2).1<((8:Nat):Int)) (
            br (0+104*δ p.1+8*δ (bz .i64 o.1 t.1)+1*δ ((((ε a0.2.2 (δ j.1) (0,0,0,0)).2).2).1)<ζ r) (
             (show Option ((List (Int×Int×Int))) from
              (some (bz .i64 (bz .i64 ((((ε a0.2.2 (δ j.1) (0,0,0,0)).2).2).2) ((ε r (0+104*δ o.1+8*δ p.1+1*δ (((ε a0.2.2 (δ j.1) (0,0,0,0)).2).1)) (0,0,0)).1)) ((ε r (0+104*δ p.1+8*δ (bz .i64 o.1 t.1)+1*δ ((((ε a0.2.2 (δ j.1) (0,0,0,0)).2).2).1)) (0,0,0)).1))).bind λI=>
              br (0<=(ε a0.2.2 (δ j.1) (0,0,0,0)).1/\(ε a0.2.2 (δ j.1) (0,0,0,0)).1<((8:Nat):Int)) (
               br (0+104*δ o.1+8*δ (bz .i64 o.1 t.1)+1*δ ((ε a0.2.2 (δ j.1) (0,0,0,0)).1)<ζ r) (
                bif (decide (I<(ε r (0+104*δ o.1+8*δ (bz .i64 o.1 t.1)+1*δ ((ε a0.2.2 (δ j.1) (0,0,0,0)).1)) (0,0,0)).1)) then
                 some (aaj r (0+104*δ o.1+8*δ (bz .i64 o.1 t.1)+1*δ ((ε a0.2.2 (δ j.1) (0,0,0,0)).1)) (I,j.1,p.1))
                else
                 some r))).bind λU=>
             some U))))))))
    else
     some r)).bind λaa=>
  some (.inl ((bz .i64 j.1 1),aa))
 else
  some (.inr j.2)
def ij (a0:GG)(a1:GI)(r:Int×(List (Int×Int×Int)))(o:Int×(List (Int×Int×Int)))(j:Int×(List (Int×Int×Int))):Option ((Int×(List (Int×Int×Int)))⊕((List (Int×Int×Int)))):=
 bif (decide (j.1<(bz .i64 o.1 r.1))) then
  (rounds (ig a0 a1 r o j) (0,j.2)).bind λp=>
  some (.inl ((bz .i64 j.1 1),p))
 else
  some (.inr j.2)
def il (p:Int×(List (Int×Int×Int)))(o:Int×(List (Int×Int×Int)))(j:Int×(List (Int×Int×Int))):Option ((Int×(List (Int×Int×Int)))⊕((List (Int×Int×Int)))):=
 bif (decide (j.1<8)) then
  br (0<=o.1/\o.1<((12:Nat):Int)) (
   br (0<=(bz .i64 o.1 p.1)/\(bz .i64 o.1 p.1)<((13:Nat):Int)) (
    br (0<=j.1/\j.1<((8:Nat):Int)) (
     br (0+104*δ o.1+8*δ (bz .i64 o.1 p.1)+1*δ j.1<ζ j.2) (
      some (.inl ((bz .i64 j.1 1),(aaj j.2 (0+104*δ o.1+8*δ (bz .i64 o.1 p.1)+1*δ j.1) (1099511627776,((ε j.2 (0+104*δ o.1+8*δ (bz .i64 o.1 p.1)+1*δ j.1) (0,0,0)).2).1,((ε j.2 (0+104*δ o.1+8*δ (bz .i64 o.1 p.1)+1*δ j.1) (0,0,0)).2).2))))))))
 else
  some (.inr j.2)
def iq (a0:GG)(a1:GI)(o:Int×(List (Int×Int×Int)))(j:Int×(List (Int×Int×Int))):Option ((Int×(List (Int×Int×Int)))⊕((List (Int×Int×Int)))):=
 bif (decide (j.1<(bz .i64 (bW .i64 (bn a1) o.1) 1))) then
  (show Option ((List (Int×Int×Int))) from
   (rounds (il o j) (0,j.2)).bind λp=>
   (rounds (ij a0 a1 o j) (j.1,p)).bind λr=>
   some r).bind λv20=>
  some (.inl ((bz .i64 j.1 1),v20))
 else
  some (.inr j.2)
def lg (a0:GG)(a1:GI)(j:Int×(List (Int×Int×Int))):Option ((Int×(List (Int×Int×Int)))⊕((List (Int×Int×Int)))):=
 bif (decide (j.1<=(bn a1))) then
  (rounds (iq a0 a1 j) (0,j.2)).bind λo=>
  some (.inl ((bz .i64 j.1 1),o))
 else
  some (.inr j.2)
def gu (a0:GG)(a1:GI):Option ((List (Int×Int×Int))):=
 (show Option ((List (Int×Int×Int))) from
  (rounds (lg a0 a1) (1,(υ 1248 (0,0,0)))).bind λj=>
  some j).bind λo=>
 some o
theorem QN {a0}{a1}{r}(hr:gu a0 a1=some r):CallOK ν 56 [.bZ (.st gR) a0,.bZ cC a1] [⟨true,(.bx (.st (.pair tI (.pair tI tI)))),r⟩] []:=
 Vd true Tryz.func56 rfl λcx I hF aj=>θ I [] bm (ac9 ⟨[(2,pV 0 0),(3,pV 1 0)],[(1,.box [nC a1]),(0,.box [iC a0.1,iC a0.2.1,.bG gA a0.2.2])],2⟩ I (by (refine φ (HT.rg (RG.Tj false (.st (.pair tI (.pair tI tI))) 1248 (0,0,0) I rfl rfl rfl rfl rfl rfl (by kernel_rfl) (len:=12) (E:=109) (by kernel_rfl) (sz:=312) (by kernel_rfl) (by kernel_rfl) rfl rfl (by kernel_rfl) (RG.j4 [2,3,5] [oH,oH] ⟨[(2,pV 0 0),(3,pV 1 0),(5,pV 3 0)],[(3,.box [.dn 2 0 3 0]),(3,.box [.dS]),(2,.seq (.st (.pair tI (.pair tI tI))) (υ 1248 (0,0,0))),(1,.box [nC a1]),(0,.box [iC a0.1,iC a0.2.1,.bG gA a0.2.2])],4⟩ I.P I.N (by kernel_rfl) bm ?_)));exact (φ (bo hr λw4 X0 hr=>ac9 ⟨[(2,pV 0 0),(3,pV 1 0),(5,pV 3 0)],[(3,.box [.dn 2 0 3 0]),(2,.seq (.st (.pair tI (.pair tI tI))) (υ 1248 (0,0,0))),(1,.box [nC a1]),(0,.box [iC a0.1,iC a0.2.1,.bG gA a0.2.2])],4⟩ I (by (refine HT.rg (acB 2 [oH,oH] ⟨[(9,iV (bn a1)),(8,nV a1),(2,pV 0 0),(3,pV 1 0),(5,pV 3 0)],[(3,.box [.dn 2 0 3 0]),(2,.seq (.st (.pair tI (.pair tI tI))) (υ 1248 (0,0,0))),(1,.box [nC a1]),(0,.box [iC a0.1,iC a0.2.1,.bG gA a0.2.2])],4⟩ I.P I.N (by kernel_rfl) bm (RG.Bk [3,0,1] I rfl rfl rfl (by kernel_rfl) rfl (acB 0 [] ⟨[(10,.one (.cls 103 [3,0,1])),(9,iV (bn a1)),(8,nV a1),(2,pV 0 0),(3,pV 1 0),(5,pV 3 0)],[(3,.box [.dn 2 0 3 0]),(2,.seq (.st (.pair tI (.pair tI tI))) (υ 1248 (0,0,0))),(1,.box [nC a1]),(0,.box [iC a0.1,iC a0.2.1,.bG gA a0.2.2])],4⟩ I.P I.N (by kernel_rfl) bm (((aeK (ks:=[5,9,10]) (ms:=[3,2,1,0]) (st':=⟨[(5,pV 3 0),(9,iV (bn a1)),(10,.one (.cls 103 [3,0,1]))],[(3,.box [.dn 2 0 3 0]),(2,.seq (.st (.pair tI (.pair tI tI))) (υ 1248 (0,0,0))),(1,.box [nC a1]),(0,.box [iC a0.1,iC a0.2.1,.bG gA a0.2.2])],4⟩) (cs:=[]) I (rfl:some (⟨[(10,.one (.cls 103 [3,0,1])),(9,iV (bn a1)),(8,nV a1),(2,pV 0 0),(3,pV 1 0),(5,pV 3 0)],[(3,.box [.dn 2 0 3 0]),(2,.seq (.st (.pair tI (.pair tI tI))) (υ 1248 (0,0,0))),(1,.box [nC a1]),(0,.box [iC a0.1,iC a0.2.1,.bG gA a0.2.2])],4⟩,([]:List Prop))=_) (by kernel_rfl)).2).rg (ahr (ks:=[]) (ts:=[5]) (λT (v2:(List (Int×Int×Int)))=>⟨[],[(4,.gh [.ptr 3 0] T),(3,.box [.dn 2 0 3 0]),(2,.seq (.st (.pair tI (.pair tI tI))) v2)],5⟩) (λ(v2:(List (Int×Int×Int)))=>[.ptr 3 0]) (λ(v2:(List (Int×Int×Int)))=>⟨[(5,pV 3 0)],[(3,.box [.dn 2 0 3 0]),(2,.seq (.st (.pair tI (.pair tI tI))) v2)],5⟩) (λv=>v=w4) 4 I hF aj rfl rfl rfl (by kernel_rfl) rfl (.inr ⟨rfl,rfl⟩) rfl Tryz.func57 rfl (by kernel_rfl) rfl (by kernel_rfl) rfl (by kernel_rfl) ?_ (λ_ _=>rfl) (λT v2=>(aeK (ks:=[5]) (ms:=[3,2]) (st':=⟨[(5,pV 3 0)],[(3,.box [.dn 2 0 3 0]),(2,.seq (.st (.pair tI (.pair tI tI))) v2)],5⟩) (cs:=[]) I (rfl:some (⟨[(11,.dS),(5,pV 3 0)],[(4,.gh [.ptr 3 0] T),(3,.box [.dn 2 0 3 0]),(2,.seq (.st (.pair tI (.pair tI tI))) v2)],5⟩,([]:List Prop))=_) (by kernel_rfl)).2) ?_)))));exact (by (intro T cx I hF aj;exact (θ I [] bm (ο (ϧ I X0 (λt=>up [0,1] [(4,iV t.1)] [4,3,0,1] [(2,.seq (.st (.pair tI (.pair tI tI))) t.2)] 0) (λr7=>(.exit 0,up [] [] [4,3] [(2,.seq (.st (.pair tI (.pair tI tI))) r7)] 0)) (λr7 X0=>(bE ⟨.inr rfl,_,(bt X0),afK [(4,4),(3,3),(2,2)] [] I (by kernel_rfl)⟩)) λt x8 ar Bz=>φ (θ I [] bm (Φ ar (λE8 ar=>Θ (bp (φ (ο (θ I [] bm (ο (ϧ I ar (λo=>up [0,1,4,14] [(15,iV o.1)] [4,3,0,1] [(2,.seq (.st (.pair tI (.pair tI tI))) o.2)] 0) (λOv=>(.exit 2,up [0,1,4] [] [4,3,0,1] [(2,.seq (.st (.pair tI (.pair tI tI))) Ov)] 0)) (λOv ar=>(bE (bB (bp (Υ I [] bm λ_ h=>(bM (lN ar h))))))) λo x15 ag JX=>θ I [] bm (Ϻ ag (λJY ag=>φ (ο (θ I [] bm (bo ag λw22 ak ag=>ac9 ⟨[(0,iV (bn a1)),(1,.one (.cls 103 [3,0,1])),(4,iV t.1),(5,iV o.1),(14,iV (bz .i64 (bW .i64 (bn a1) t.1) 1)),(15,iV o.1)],[(4,.gh [.ptr 3 0] T),(3,.box [.dn 2 0 3 0]),(0,.box [iC a0.1,iC a0.2.1,.bG gA a0.2.2]),(1,.box [nC a1]),(2,.seq (.st (.pair tI (.pair tI tI))) o.2)],5⟩ I (by (refine HT.rg (acB 5 [oH,oH,oH,oH,oH] ⟨[(22,iV (bz .i64 o.1 t.1)),(21,iV t.1),(20,iV o.1),(19,iV o.1),(18,.one (.cls 103 [3,0,1])),(0,iV (bn a1)),(1,.one (.cls 103 [3,0,1])),(4,iV t.1),(5,iV o.1),(14,iV (bz .i64 (bW .i64 (bn a1) t.1) 1)),(15,iV o.1)],[(4,.gh [.ptr 3 0] T),(3,.box [.dn 2 0 3 0]),(0,.box [iC a0.1,iC a0.2.1,.bG gA a0.2.2]),(1,.box [nC a1]),(2,.seq (.st (.pair tI (.pair tI tI))) o.2)],5⟩ I.P I.N (by kernel_rfl) bm (((aeK (ks:=[0,1,4,14,15,18,19,22]) (ms:=[4,3,0,1,2]) (st':=⟨[(0,iV (bn a1)),(1,.one (.cls 103 [3,0,1])),(4,iV t.1),(14,iV (bz .i64 (bW .i64 (bn a1) t.1) 1)),(15,iV o.1),(18,.one (.cls 103 [3,0,1])),(19,iV o.1),(22,iV (bz .i64 o.1 t.1))],[(4,.gh [.ptr 3 0] T),(3,.box [.dn 2 0 3 0]),(0,.box [iC a0.1,iC a0.2.1,.bG gA a0.2.2]),(1,.box [nC a1]),(2,.seq (.st (.pair tI (.pair tI tI))) o.2)],5⟩) (cs:=[]) I (rfl:some (⟨[(22,iV (bz .i64 o.1 t.1)),(21,iV t.1),(20,iV o.1),(19,iV o.1),(18,.one (.cls 103 [3,0,1])),(0,iV (bn a1)),(1,.one (.cls 103 [3,0,1])),(4,iV t.1),(5,iV o.1),(14,iV (bz .i64 (bW .i64 (bn a1) t.1) 1)),(15,iV o.1)],[(4,.gh [.ptr 3 0] T),(3,.box [.dn 2 0 3 0]),(0,.box [iC a0.1,iC a0.2.1,.bG gA a0.2.2]),(1,.box [nC a1]),(2,.seq (.st (.pair tI (.pair tI tI))) o.2)],5⟩,([]:List Prop))=_) (by kernel_rfl)).2).rg (ahr (ks:=[3,0,1]) (ts:=[0,1,4,14,15]) (λR (v20:(List (Int×Int×Int)))=>⟨[],[(4,.gh [.ptr 3 0] T),(5,.gh [iC (bn a1),.cls 103 [3,0,1],iC t.1,iC (bz .i64 (bW .i64 (bn a1) t.1) 1),iC o.1] R),(3,.box [.dn 2 0 3 0]),(0,.box [iC a0.1,iC a0.2.1,.bG gA a0.2.2]),(1,.box [nC a1]),(2,.seq (.st (.pair tI (.pair tI tI))) v20)],6⟩) (λ(v20:(List (Int×Int×Int)))=>[iC (bn a1),.cls 103 [3,0,1],iC t.1,iC (bz .i64 (bW .i64 (bn a1) t.1) 1),iC o.1]) (λ(v20:(List (Int×Int×Int)))=>⟨[(0,iV (bn a1)),(1,.one (.cls 103 [3,0,1])),(4,iV t.1),(14,iV (bz .i64 (bW .i64 (bn a1) t.1) 1)),(15,iV o.1)],[(4,.gh [.ptr 3 0] T),(3,.box [.dn 2 0 3 0]),(0,.box [iC a0.1,iC a0.2.1,.bG gA a0.2.2]),(1,.box [nC a1]),(2,.seq (.st (.pair tI (.pair tI tI))) v20)],6⟩) (λv=>v=w22) 5 I hF aj rfl rfl rfl (by kernel_rfl) rfl (.inl rfl) rfl Tryz.func103 rfl (by kernel_rfl) rfl (by kernel_rfl) rfl (by kernel_rfl) ?_ (λ_ _=>rfl) (λR v20=>(aeK (ks:=[0,1,4,14,15]) (ms:=[4,3,0,1,2]) (st':=⟨[(0,iV (bn a1)),(1,.one (.cls 103 [3,0,1])),(4,iV t.1),(14,iV (bz .i64 (bW .i64 (bn a1) t.1) 1)),(15,iV o.1)],[(4,.gh [.ptr 3 0] T),(3,.box [.dn 2 0 3 0]),(0,.box [iC a0.1,iC a0.2.1,.bG gA a0.2.2]),(1,.box [nC a1]),(2,.seq (.st (.pair tI (.pair tI tI))) v20)],6⟩) (cs:=[]) I (rfl:some (⟨[(23,.dS),(0,iV (bn a1)),(1,.one (.cls 103 [3,0,1])),(4,iV t.1),(14,iV (bz .i64 (bW .i64 (bn a1) t.1) 1)),(15,iV o.1)],[(4,.gh [.ptr 3 0] T),(5,.gh [iC (bn a1),.cls 103 [3,0,1],iC t.1,iC (bz .i64 (bW .i64 (bn a1) t.1) 1),iC o.1] R),(3,.box [.dn 2 0 3 0]),(0,.box [iC a0.1,iC a0.2.1,.bG gA a0.2.2]),(1,.box [nC a1]),(2,.seq (.st (.pair tI (.pair tI tI))) v20)],6⟩,([]:List Prop))=_) (by kernel_rfl)).2) ?_)));exact (by (intro R cx I hF aj;exact (θ I [] bm (φ (θ I [] bm (ο (ϧ I ak (λX1=>up [2,3,4,5,6] [(12,iV X1.1)] [4,5,3,0,1,6,7] [(2,.seq (.st (.pair tI (.pair tI tI))) X1.2)] 0) (λaE=>(.exit 0,up [2,3,4,5,6] [] [4,5,3,0,1,6,7] [(2,.seq (.st (.pair tI (.pair tI tI))) aE)] 0)) (λaE ak=>(bE (bp (ac9 ⟨[(2,pV 3 0),(3,pV 0 0),(4,pV 1 0),(5,pV 6 0),(6,pV 7 0)],[(4,.gh [.ptr 3 0] T),(5,.gh [iC (bn a1),.cls 103 [3,0,1],iC t.1,iC (bz .i64 (bW .i64 (bn a1) t.1) 1),iC o.1] R),(3,.box [.dn 2 0 3 0]),(0,.box [iC a0.1,iC a0.2.1,.bG gA a0.2.2]),(1,.box [nC a1]),(6,.box [iC o.1]),(7,.box [iC (bz .i64 o.1 t.1)]),(2,.seq (.st (.pair tI (.pair tI tI))) aE)],8⟩ I (by (refine φ (HT.rg (RG.Bk [3,6,7] I rfl rfl rfl (by kernel_rfl) rfl (RG.j4 [2,3,4,5,6,8] [oH] ⟨[(2,pV 3 0),(3,pV 0 0),(4,pV 1 0),(5,pV 6 0),(6,pV 7 0),(8,.one (.cls 104 [3,6,7]))],[(4,.gh [.ptr 3 0] T),(5,.gh [iC (bn a1),.cls 103 [3,0,1],iC t.1,iC (bz .i64 (bW .i64 (bn a1) t.1) 1),iC o.1] R),(3,.box [.dn 2 0 3 0]),(0,.box [iC a0.1,iC a0.2.1,.bG gA a0.2.2]),(1,.box [nC a1]),(6,.box [iC o.1]),(7,.box [iC (bz .i64 o.1 t.1)]),(2,.seq (.st (.pair tI (.pair tI tI))) aE)],8⟩ I.P I.N (by kernel_rfl) bm ?_)));exact (θ I [] bm (ο (ϧ I ak (λp=>up [2,3,4,5,6,8] [(9,iV p.1)] [4,5,3,0,1,6,7] [(2,.seq (.st (.pair tI (.pair tI tI))) p.2)] 0) (λR6=>(.exit 2,up [] [] [4,5,3,0,1] [(2,.seq (.st (.pair tI (.pair tI tI))) R6)] 0)) (λR6 ak=>(bE ⟨.inr rfl,_,(bt ak),afK [(4,4),(5,5),(3,3),(0,0),(1,1),(2,2)] [] I (by kernel_rfl)⟩)) λp x29 ah QO=>φ (θ I [] bm (Φ ah (λyB ah=>Θ (bp (φ (ο (θ I [] bm (ο (ϧ I ah (λj=>up [2,3,4,5,6,8,9,33,34] [(35,iV j.1)] [4,5,3,0,1,6,7] [(2,.seq (.st (.pair tI (.pair tI tI))) j.2)] 0) (λZH=>(.exit 4,up [2,3,4,5,6,8,9] [] [4,5,3,0,1,6,7] [(2,.seq (.st (.pair tI (.pair tI tI))) ZH)] 0)) (λZH ah=>(bE (bB (bp (Υ I [] bm λ_ h=>(bM (lN ah h))))))) λj XE ai JZ=>θ I [] bm (Ϻ ai (λBw ai=>ϰ ai (λv41=>up [2,3,4,5,6,8,9,33,34,35] [] [4,5,3,0,1,6,7] [(2,.seq (.st (.pair tI (.pair tI tI))) v41)] 0) (λv41 ai=>Υ I [] bm λ_ h=>(bM (lN ai h))) λ_ J T8=>ο (bg J λQJ J=>θ I [] (bQ QJ) (ϰ J (λad=>up [2,3,4,5,6,8,9,10,11,33,34,35] [] [4,5,3,0,1,6,7,8] [(2,.seq (.st (.pair tI (.pair tI tI))) ad)] 0) (λad J=>ϰ J (λay=>up [2,3,4,5,6,8,9,10,11,33,34,35] [(77,bV ay)] [4,5,3,0,1,6,7,8,2] [] 0) (λay J=>Φ J (λKg J=>bg J λaz J=>bg J λM9 J=>bg J λX2 J=>bg J λX3 J=>bg J λNa J=>bg J λaA J=>bg J λQP J=>bg J λQR J=>bo J λw65 ae J=>ac9 ⟨[(2,pV 3 0),(3,pV 0 0),(4,pV 1 0),(5,pV 6 0),(6,pV 7 0),(8,.one (.cls 104 [3,6,7])),(9,iV p.1),(10,iV j.1),(11,pV 8 0),(33,.one (.bG gA a0.2.2)),(34,iV (bn a0.2.2)),(35,iV j.1),(77,bV ay)],[(4,.gh [.ptr 3 0] T),(5,.gh [iC (bn a1),.cls 103 [3,0,1],iC t.1,iC (bz .i64 (bW .i64 (bn a1) t.1) 1),iC o.1] R),(3,.box [.dn 2 0 3 0]),(0,.box [iC a0.1,iC a0.2.1,.bG gA a0.2.2]),(1,.box [nC a1]),(6,.box [iC o.1]),(7,.box [iC (bz .i64 o.1 t.1)]),(8,.box [iC ((ε a0.2.2 (δ j.1) (0,0,0,0)).1),iC (((ε a0.2.2 (δ j.1) (0,0,0,0)).2).1),iC ((((ε a0.2.2 (δ j.1) (0,0,0,0)).2).2).1),iC ((((ε a0.2.2 (δ j.1) (0,0,0,0)).2).2).2)]),(2,.seq (.st (.pair tI (.pair tI tI))) ad)],9⟩ I (by (refine HT.Zk 30 [⟨oH,[]⟩,⟨oH,[]⟩,⟨oH,[]⟩,⟨oH,[]⟩,⟨oH,[]⟩,⟨oH,[4]⟩,⟨oH,[]⟩,⟨oH,[]⟩,⟨oH,[]⟩,⟨oH,[]⟩,⟨oH,[9]⟩,⟨oH,[6]⟩,⟨oH,[6,7,11]⟩,⟨oH,[6,7,8,11,12]⟩,⟨oH,[6,7,8,9,10,11,12,13]⟩,⟨oH,[6,7,8,9,10,11,12,13,14]⟩,⟨oH,[6,7,8,9,10,11,12,13,14,15]⟩,⟨oH,[4,5,6,7,8,9,10,11,12,13,14,15,16]⟩,⟨oH,[]⟩,⟨oH,[]⟩,⟨oH,[]⟩,⟨oH,[]⟩,⟨oH,[21]⟩,⟨oH,[18]⟩,⟨oH,[18,19,23]⟩,⟨oH,[18,19,20,23,24]⟩,⟨oH,[18,19,20,21,22,23,24,25]⟩,⟨oH,[18,19,20,21,22,23,24,25,26]⟩,⟨oH,[18,19,20,21,22,23,24,25,26,27]⟩,⟨oH,[4,5,6,7,8,9,10,11,12,13,14,15,16,17,18,19,20,21,22,23,24,25,26,27,28]⟩] [[0,1,2,3,4,5,6,7,8,9,10,11,12,13,14,15,16,17,18,19,20,21,22,23,24,25,26,27,28,29]] ⟨[(107,iV (bz .i64 (bz .i64 ((((ε a0.2.2 (δ j.1) (0,0,0,0)).2).2).2) ((ε ad (0+104*δ o.1+8*δ p.1+1*δ (((ε a0.2.2 (δ j.1) (0,0,0,0)).2).1)) (0,0,0)).1)) ((ε ad (0+104*δ p.1+8*δ (bz .i64 o.1 t.1)+1*δ ((((ε a0.2.2 (δ j.1) (0,0,0,0)).2).2).1)) (0,0,0)).1))),(106,iV ((ε ad (0+104*δ p.1+8*δ (bz .i64 o.1 t.1)+1*δ ((((ε a0.2.2 (δ j.1) (0,0,0,0)).2).2).1)) (0,0,0)).1)),(105,.one (.dn 2 (0+104*δ p.1+8*δ (bz .i64 o.1 t.1)+1*δ ((((ε a0.2.2 (δ j.1) (0,0,0,0)).2).2).1)) 3 0)),(104,.one (.dn 2 (0+104*δ p.1+8*δ (bz .i64 o.1 t.1)+1*δ ((((ε a0.2.2 (δ j.1) (0,0,0,0)).2).2).1)) 3 0)),(103,.one (.dn 2 (0+104*δ p.1+8*δ (bz .i64 o.1 t.1)) 3 0)),(102,.one (.dn 2 (0+104*δ p.1) 3 0)),(101,.one (.dn 2 0 3 0)),(100,iV ((((ε a0.2.2 (δ j.1) (0,0,0,0)).2).2).1)),(99,pV 8 2),(98,iV (bz .i64 o.1 t.1)),(97,iV p.1),(96,.one (.dn 2 0 3 0)),(95,iV (bz .i64 ((((ε a0.2.2 (δ j.1) (0,0,0,0)).2).2).2) ((ε ad (0+104*δ o.1+8*δ p.1+1*δ (((ε a0.2.2 (δ j.1) (0,0,0,0)).2).1)) (0,0,0)).1))),(94,iV ((ε ad (0+104*δ o.1+8*δ p.1+1*δ (((ε a0.2.2 (δ j.1) (0,0,0,0)).2).1)) (0,0,0)).1)),(93,.one (.dn 2 (0+104*δ o.1+8*δ p.1+1*δ (((ε a0.2.2 (δ j.1) (0,0,0,0)).2).1)) 3 0)),(92,.one (.dn 2 (0+104*δ o.1+8*δ p.1+1*δ (((ε a0.2.2 (δ j.1) (0,0,0,0)).2).1)) 3 0)),(91,.one (.dn 2 (0+104*δ o.1+8*δ p.1) 3 0)),(90,.one (.dn 2 (0+104*δ o.1) 3 0)),(89,.one (.dn 2 0 3 0)),(88,iV (((ε a0.2.2 (δ j.1) (0,0,0,0)).2).1)),(87,pV 8 1),(86,iV p.1),(85,iV o.1),(84,.one (.dn 2 0 3 0)),(83,iV ((((ε a0.2.2 (δ j.1) (0,0,0,0)).2).2).2)),(82,pV 8 3),(81,iV p.1),(80,iV j.1),(79,.agg [iC ((ε a0.2.2 (δ j.1) (0,0,0,0)).1),iC (((ε a0.2.2 (δ j.1) (0,0,0,0)).2).1),iC ((((ε a0.2.2 (δ j.1) (0,0,0,0)).2).2).1),iC ((((ε a0.2.2 (δ j.1) (0,0,0,0)).2).2).2)]),(78,.one (.cls 104 [3,6,7])),(2,pV 3 0),(3,pV 0 0),(4,pV 1 0),(5,pV 6 0),(6,pV 7 0),(8,.one (.cls 104 [3,6,7])),(9,iV p.1),(10,iV j.1),(11,pV 8 0),(33,.one (.bG gA a0.2.2)),(34,iV (bn a0.2.2)),(35,iV j.1),(77,bV ay)],[(4,.gh [.ptr 3 0] T),(5,.gh [iC (bn a1),.cls 103 [3,0,1],iC t.1,iC (bz .i64 (bW .i64 (bn a1) t.1) 1),iC o.1] R),(3,.box [.dn 2 0 3 0]),(0,.box [iC a0.1,iC a0.2.1,.bG gA a0.2.2]),(1,.box [nC a1]),(6,.box [iC o.1]),(7,.box [iC (bz .i64 o.1 t.1)]),(8,.box [iC ((ε a0.2.2 (δ j.1) (0,0,0,0)).1),iC (((ε a0.2.2 (δ j.1) (0,0,0,0)).2).1),iC ((((ε a0.2.2 (δ j.1) (0,0,0,0)).2).2).1),iC ((((ε a0.2.2 (δ j.1) (0,0,0,0)).2).2).2)]),(2,.seq (.st (.pair tI (.pair tI tI))) ad)],9⟩ I (by kernel_rfl) (by kernel_rfl) (lF az M9 X2 X3 (nZ Na aA QP QR)) (((aeK (ks:=[2,3,4,5,6,8,9,33,34,35,78,79,80,81,107]) (ms:=[4,5,3,0,1,6,7,2]) (st':=⟨[(2,pV 3 0),(3,pV 0 0),(4,pV 1 0),(5,pV 6 0),(6,pV 7 0),(8,.one (.cls 104 [3,6,7])),(9,iV p.1),(33,.one (.bG gA a0.2.2)),(34,iV (bn a0.2.2)),(35,iV j.1),(78,.one (.cls 104 [3,6,7])),(79,.agg [iC ((ε a0.2.2 (δ j.1) (0,0,0,0)).1),iC (((ε a0.2.2 (δ j.1) (0,0,0,0)).2).1),iC ((((ε a0.2.2 (δ j.1) (0,0,0,0)).2).2).1),iC ((((ε a0.2.2 (δ j.1) (0,0,0,0)).2).2).2)]),(80,iV j.1),(81,iV p.1),(107,iV (bz .i64 (bz .i64 ((((ε a0.2.2 (δ j.1) (0,0,0,0)).2).2).2) ((ε ad (0+104*δ o.1+8*δ p.1+1*δ (((ε a0.2.2 (δ j.1) (0,0,0,0)).2).1)) (0,0,0)).1)) ((ε ad (0+104*δ p.1+8*δ (bz .i64 o.1 t.1)+1*δ ((((ε a0.2.2 (δ j.1) (0,0,0,0)).2).2).1)) (0,0,0)).1)))],[(4,.gh [.ptr 3 0] T),(5,.gh [iC (bn a1),.cls 103 [3,0,1],iC t.1,iC (bz .i64 (bW .i64 (bn a1) t.1) 1),iC o.1] R),(3,.box [.dn 2 0 3 0]),(0,.box [iC a0.1,iC a0.2.1,.bG gA a0.2.2]),(1,.box [nC a1]),(6,.box [iC o.1]),(7,.box [iC (bz .i64 o.1 t.1)]),(2,.seq (.st (.pair tI (.pair tI tI))) ad)],9⟩) (cs:=[]) I (rfl:some (⟨[(107,iV (bz .i64 (bz .i64 ((((ε a0.2.2 (δ j.1) (0,0,0,0)).2).2).2) ((ε ad (0+104*δ o.1+8*δ p.1+1*δ (((ε a0.2.2 (δ j.1) (0,0,0,0)).2).1)) (0,0,0)).1)) ((ε ad (0+104*δ p.1+8*δ (bz .i64 o.1 t.1)+1*δ ((((ε a0.2.2 (δ j.1) (0,0,0,0)).2).2).1)) (0,0,0)).1))),(106,iV ((ε ad (0+104*δ p.1+8*δ (bz .i64 o.1 t.1)+1*δ ((((ε a0.2.2 (δ j.1) (0,0,0,0)).2).2).1)) (0,0,0)).1)),(105,.one (.dn 2 (0+104*δ p.1+8*δ (bz .i64 o.1 t.1)+1*δ ((((ε a0.2.2 (δ j.1) (0,0,0,0)).2).2).1)) 3 0)),(104,.one (.dn 2 (0+104*δ p.1+8*δ (bz .i64 o.1 t.1)+1*δ ((((ε a0.2.2 (δ j.1) (0,0,0,0)).2).2).1)) 3 0)),(103,.one (.dn 2 (0+104*δ p.1+8*δ (bz .i64 o.1 t.1)) 3 0)),(102,.one (.dn 2 (0+104*δ p.1) 3 0)),(101,.one (.dn 2 0 3 0)),(100,iV ((((ε a0.2.2 (δ j.1) (0,0,0,0)).2).2).1)),(99,pV 8 2),(98,iV (bz .i64 o.1 t.1)),(97,iV p.1),(96,.one (.dn 2 0 3 0)),(95,iV (bz .i64 ((((ε a0.2.2 (δ j.1) (0,0,0,0)).2).2).2) ((ε ad (0+104*δ o.1+8*δ p.1+1*δ (((ε a0.2.2 (δ j.1) (0,0,0,0)).2).1)) (0,0,0)).1))),(94,iV ((ε ad (0+104*δ o.1+8*δ p.1+1*δ (((ε a0.2.2 (δ j.1) (0,0,0,0)).2).1)) (0,0,0)).1)),(93,.one (.dn 2 (0+104*δ o.1+8*δ p.1+1*δ (((ε a0.2.2 (δ j.1) (0,0,0,0)).2).1)) 3 0)),(92,.one (.dn 2 (0+104*δ o.1+8*δ p.1+1*δ (((ε a0.2.2 (δ j.1) (0,0,0,0)).2).1)) 3 0)),(91,.one (.dn 2 (0+104*δ o.1+8*δ p.1) 3 0)),(90,.one (.dn 2 (0+104*δ o.1) 3 0)),(89,.one (.dn 2 0 3 0)),(88,iV (((ε a0.2.2 (δ j.1) (0,0,0,0)).2).1)),(87,pV 8 1),(86,iV p.1),(85,iV o.1),(84,.one (.dn 2 0 3 0)),(83,iV ((((ε a0.2.2 (δ j.1) (0,0,0,0)).2).2).2)),(82,pV 8 3),(81,iV p.1),(80,iV j.1),(79,.agg [iC ((ε a0.2.2 (δ j.1) (0,0,0,0)).1),iC (((ε a0.2.2 (δ j.1) (0,0,0,0)).2).1),iC ((((ε a0.2.2 (δ j.1) (0,0,0,0)).2).2).1),iC ((((ε a0.2.2 (δ j.1) (0,0,0,0)).2).2).2)]),(78,.one (.cls 104 [3,6,7])),(2,pV 3 0),(3,pV 0 0),(4,pV 1 0),(5,pV 6 0),(6,pV 7 0),(8,.one (.cls 104 [3,6,7])),(9,iV p.1),(10,iV j.1),(11,pV 8 0),(33,.one (.bG gA a0.2.2)),(34,iV (bn a0.2.2)),(35,iV j.1),(77,bV ay)],[(4,.gh [.ptr 3 0] T),(5,.gh [iC (bn a1),.cls 103 [3,0,1],iC t.1,iC (bz .i64 (bW .i64 (bn a1) t.1) 1),iC o.1] R),(3,.box [.dn 2 0 3 0]),(0,.box [iC a0.1,iC a0.2.1,.bG gA a0.2.2]),(1,.box [nC a1]),(6,.box [iC o.1]),(7,.box [iC (bz .i64 o.1 t.1)]),(8,.box [iC ((ε a0.2.2 (δ j.1) (0,0,0,0)).1),iC (((ε a0.2.2 (δ j.1) (0,0,0,0)).2).1),iC ((((ε a0.2.2 (δ j.1) (0,0,0,0)).2).2).1),iC ((((ε a0.2.2 (δ j.1) (0,0,0,0)).2).2).2)]),(2,.seq (.st (.pair tI (.pair tI tI))) ad)],9⟩,([]:List Prop))=_) (by kernel_rfl)).2).rg (ahr (ks:=[3,6,7]) (ts:=[2,3,4,5,6,8,9,33,34,35]) (λau (al:(List (Int×Int×Int)))=>⟨[],[(4,.gh [.ptr 3 0] T),(5,.gh [iC (bn a1),.cls 103 [3,0,1],iC t.1,iC (bz .i64 (bW .i64 (bn a1) t.1) 1),iC o.1] R),(9,.gh [.ptr 3 0,.ptr 0 0,.ptr 1 0,.ptr 6 0,.ptr 7 0,.cls 104 [3,6,7],iC p.1,.bG gA a0.2.2,iC (bn a0.2.2),iC j.1] au),(3,.box [.dn 2 0 3 0]),(0,.box [iC a0.1,iC a0.2.1,.bG gA a0.2.2]),(1,.box [nC a1]),(6,.box [iC o.1]),(7,.box [iC (bz .i64 o.1 t.1)]),(2,.seq (.st (.pair tI (.pair tI tI))) al)],10⟩) (λ(al:(List (Int×Int×Int)))=>[.ptr 3 0,.ptr 0 0,.ptr 1 0,.ptr 6 0,.ptr 7 0,.cls 104 [3,6,7],iC p.1,.bG gA a0.2.2,iC (bn a0.2.2),iC j.1]) (λ(al:(List (Int×Int×Int)))=>⟨[(2,pV 3 0),(3,pV 0 0),(4,pV 1 0),(5,pV 6 0),(6,pV 7 0),(8,.one (.cls 104 [3,6,7])),(9,iV p.1),(33,.one (.bG gA a0.2.2)),(34,iV (bn a0.2.2)),(35,iV j.1)],[(4,.gh [.ptr 3 0] T),(5,.gh [iC (bn a1),.cls 103 [3,0,1],iC t.1,iC (bz .i64 (bW .i64 (bn a1) t.1) 1),iC o.1] R),(3,.box [.dn 2 0 3 0]),(0,.box [iC a0.1,iC a0.2.1,.bG gA a0.2.2]),(1,.box [nC a1]),(6,.box [iC o.1]),(7,.box [iC (bz .i64 o.1 t.1)]),(2,.seq (.st (.pair tI (.pair tI tI))) al)],10⟩) (λv=>v=w65) 9 I hF aj rfl rfl rfl (by kernel_rfl) rfl (.inl rfl) rfl ahJ rfl (by kernel_rfl) rfl (by kernel_rfl) rfl (by kernel_rfl) ?_ (λ_ _=>rfl) (λau al=>(aeK (ks:=[2,3,4,5,6,8,9,33,34,35]) (ms:=[4,5,3,0,1,6,7,2]) (st':=⟨[(2,pV 3 0),(3,pV 0 0),(4,pV 1 0),(5,pV 6 0),(6,pV 7 0),(8,.one (.cls 104 [3,6,7])),(9,iV p.1),(33,.one (.bG gA a0.2.2)),(34,iV (bn a0.2.2)),(35,iV j.1)],[(4,.gh [.ptr 3 0] T),(5,.gh [iC (bn a1),.cls 103 [3,0,1],iC t.1,iC (bz .i64 (bW .i64 (bn a1) t.1) 1),iC o.1] R),(3,.box [.dn 2 0 3 0]),(0,.box [iC a0.1,iC a0.2.1,.bG gA a0.2.2]),(1,.box [nC a1]),(6,.box [iC o.1]),(7,.box [iC (bz .i64 o.1 t.1)]),(2,.seq (.st (.pair tI (.pair tI tI))) al)],10⟩) (cs:=[]) I (rfl:some (⟨[(108,.dS),(2,pV 3 0),(3,pV 0 0),(4,pV 1 0),(5,pV 6 0),(6,pV 7 0),(8,.one (.cls 104 [3,6,7])),(9,iV p.1),(33,.one (.bG gA a0.2.2)),(34,iV (bn a0.2.2)),(35,iV j.1)],[(4,.gh [.ptr 3 0] T),(5,.gh [iC (bn a1),.cls 103 [3,0,1],iC t.1,iC (bz .i64 (bW .i64 (bn a1) t.1) 1),iC o.1] R),(9,.gh [.ptr 3 0,.ptr 0 0,.ptr 1 0,.ptr 6 0,.ptr 7 0,.cls 104 [3,6,7],iC p.1,.bG gA a0.2.2,iC (bn a0.2.2),iC j.1] au),(3,.box [.dn 2 0 3 0]),(0,.box [iC a0.1,iC a0.2.1,.bG gA a0.2.2]),(1,.box [nC a1]),(6,.box [iC o.1]),(7,.box [iC (bz .i64 o.1 t.1)]),(2,.seq (.st (.pair tI (.pair tI tI))) al)],10⟩,([]:List Prop))=_) (by kernel_rfl)).2) ?_));exact (by (intro au cx I hF aj;exact (θ I [] bm (bq ae λae=>bg ae λT9 ae=>bg ae λUa ae=>HT.dg I [] (nZ az aA T9 Ua) (Φ ae (λQS ae=>HT.dl I [] (nZ az aA T9 Ua) ⟨.inr rfl,_,(bt ae),afK [(4,4),(5,5),(9,9),(3,3),(0,0),(1,1),(6,6),(7,7),(2,2)] [] I (by kernel_rfl)⟩) λQS ae=>Θ ⟨.inr rfl,_,(bt ae),afK [(4,4),(5,5),(9,9),(3,3),(0,0),(1,1),(6,6),(7,7),(2,2)] [] I (by kernel_rfl)⟩)))));exact (by (intro al X4;exact (by (subst X4;exact (bB (bp (HT.re I (T8 _ (bt J)))))))))))) λKg J=>Θ (bB (bp (HT.re I (T8 _ (bt J)))))) λ_ an HP=>bb an (λaB an=>Υ I [oH,oH,oH,kT] (bQ aB) λ_ h=>(bp (h.ht (HP _ (bt an))))) λaB an=>Υ I [oH,oH,oH,kF] (bQ aB) λ_ h=>(bp (h.ht (HP _ (bt an))))) λ_ af Ub=>ϰ af (λaC=>up [2,3,4,5,6,8,9,10,11,33,34,35] [(62,bV aC)] [4,5,3,0,1,6,7,8,2] [] 0) (λaC af=>Φ af (λQT af=>bo af λw81 aa af=>ac9 ⟨[(2,pV 3 0),(3,pV 0 0),(4,pV 1 0),(5,pV 6 0),(6,pV 7 0),(8,.one (.cls 104 [3,6,7])),(9,iV p.1),(10,iV j.1),(11,pV 8 0),(33,.one (.bG gA a0.2.2)),(34,iV (bn a0.2.2)),(35,iV j.1),(62,bV aC)],[(4,.gh [.ptr 3 0] T),(5,.gh [iC (bn a1),.cls 103 [3,0,1],iC t.1,iC (bz .i64 (bW .i64 (bn a1) t.1) 1),iC o.1] R),(3,.box [.dn 2 0 3 0]),(0,.box [iC a0.1,iC a0.2.1,.bG gA a0.2.2]),(1,.box [nC a1]),(6,.box [iC o.1]),(7,.box [iC (bz .i64 o.1 t.1)]),(8,.box [iC ((ε a0.2.2 (δ j.1) (0,0,0,0)).1),iC (((ε a0.2.2 (δ j.1) (0,0,0,0)).2).1),iC ((((ε a0.2.2 (δ j.1) (0,0,0,0)).2).2).1),iC ((((ε a0.2.2 (δ j.1) (0,0,0,0)).2).2).2)]),(2,.seq (.st (.pair tI (.pair tI tI))) j.2)],9⟩ I (by (refine HT.rg (acB 6 [oH,oH,oH,oH,oH,oH] ⟨[(68,iV ((((ε a0.2.2 (δ j.1) (0,0,0,0)).2).2).2)),(67,pV 8 3),(66,iV p.1),(65,iV j.1),(64,.agg [iC ((ε a0.2.2 (δ j.1) (0,0,0,0)).1),iC (((ε a0.2.2 (δ j.1) (0,0,0,0)).2).1),iC ((((ε a0.2.2 (δ j.1) (0,0,0,0)).2).2).1),iC ((((ε a0.2.2 (δ j.1) (0,0,0,0)).2).2).2)]),(63,.one (.cls 104 [3,6,7])),(2,pV 3 0),(3,pV 0 0),(4,pV 1 0),(5,pV 6 0),(6,pV 7 0),(8,.one (.cls 104 [3,6,7])),(9,iV p.1),(10,iV j.1),(11,pV 8 0),(33,.one (.bG gA a0.2.2)),(34,iV (bn a0.2.2)),(35,iV j.1),(62,bV aC)],[(4,.gh [.ptr 3 0] T),(5,.gh [iC (bn a1),.cls 103 [3,0,1],iC t.1,iC (bz .i64 (bW .i64 (bn a1) t.1) 1),iC o.1] R),(3,.box [.dn 2 0 3 0]),(0,.box [iC a0.1,iC a0.2.1,.bG gA a0.2.2]),(1,.box [nC a1]),(6,.box [iC o.1]),(7,.box [iC (bz .i64 o.1 t.1)]),(8,.box [iC ((ε a0.2.2 (δ j.1) (0,0,0,0)).1),iC (((ε a0.2.2 (δ j.1) (0,0,0,0)).2).1),iC ((((ε a0.2.2 (δ j.1) (0,0,0,0)).2).2).1),iC ((((ε a0.2.2 (δ j.1) (0,0,0,0)).2).2).2)]),(2,.seq (.st (.pair tI (.pair tI tI))) j.2)],9⟩ I.P I.N (by kernel_rfl) bm (((aeK (ks:=[2,3,4,5,6,8,9,10,11,33,34,35,63,64,65,66,68]) (ms:=[4,5,3,0,1,6,7,8,2]) (st':=⟨[(2,pV 3 0),(3,pV 0 0),(4,pV 1 0),(5,pV 6 0),(6,pV 7 0),(8,.one (.cls 104 [3,6,7])),(9,iV p.1),(10,iV j.1),(11,pV 8 0),(33,.one (.bG gA a0.2.2)),(34,iV (bn a0.2.2)),(35,iV j.1),(63,.one (.cls 104 [3,6,7])),(64,.agg [iC ((ε a0.2.2 (δ j.1) (0,0,0,0)).1),iC (((ε a0.2.2 (δ j.1) (0,0,0,0)).2).1),iC ((((ε a0.2.2 (δ j.1) (0,0,0,0)).2).2).1),iC ((((ε a0.2.2 (δ j.1) (0,0,0,0)).2).2).2)]),(65,iV j.1),(66,iV p.1),(68,iV ((((ε a0.2.2 (δ j.1) (0,0,0,0)).2).2).2))],[(4,.gh [.ptr 3 0] T),(5,.gh [iC (bn a1),.cls 103 [3,0,1],iC t.1,iC (bz .i64 (bW .i64 (bn a1) t.1) 1),iC o.1] R),(3,.box [.dn 2 0 3 0]),(0,.box [iC a0.1,iC a0.2.1,.bG gA a0.2.2]),(1,.box [nC a1]),(6,.box [iC o.1]),(7,.box [iC (bz .i64 o.1 t.1)]),(8,.box [iC ((ε a0.2.2 (δ j.1) (0,0,0,0)).1),iC (((ε a0.2.2 (δ j.1) (0,0,0,0)).2).1),iC ((((ε a0.2.2 (δ j.1) (0,0,0,0)).2).2).1),iC ((((ε a0.2.2 (δ j.1) (0,0,0,0)).2).2).2)]),(2,.seq (.st (.pair tI (.pair tI tI))) j.2)],9⟩) (cs:=[]) I (rfl:some (⟨[(68,iV ((((ε a0.2.2 (δ j.1) (0,0,0,0)).2).2).2)),(67,pV 8 3),(66,iV p.1),(65,iV j.1),(64,.agg [iC ((ε a0.2.2 (δ j.1) (0,0,0,0)).1),iC (((ε a0.2.2 (δ j.1) (0,0,0,0)).2).1),iC ((((ε a0.2.2 (δ j.1) (0,0,0,0)).2).2).1),iC ((((ε a0.2.2 (δ j.1) (0,0,0,0)).2).2).2)]),(63,.one (.cls 104 [3,6,7])),(2,pV 3 0),(3,pV 0 0),(4,pV 1 0),(5,pV 6 0),(6,pV 7 0),(8,.one (.cls 104 [3,6,7])),(9,iV p.1),(10,iV j.1),(11,pV 8 0),(33,.one (.bG gA a0.2.2)),(34,iV (bn a0.2.2)),(35,iV j.1),(62,bV aC)],[(4,.gh [.ptr 3 0] T),(5,.gh [iC (bn a1),.cls 103 [3,0,1],iC t.1,iC (bz .i64 (bW .i64 (bn a1) t.1) 1),iC o.1] R),(3,.box [.dn 2 0 3 0]),(0,.box [iC a0.1,iC a0.2.1,.bG gA a0.2.2]),(1,.box [nC a1]),(6,.box [iC o.1]),(7,.box [iC (bz .i64 o.1 t.1)]),(8,.box [iC ((ε a0.2.2 (δ j.1) (0,0,0,0)).1),iC (((ε a0.2.2 (δ j.1) (0,0,0,0)).2).1),iC ((((ε a0.2.2 (δ j.1) (0,0,0,0)).2).2).1),iC ((((ε a0.2.2 (δ j.1) (0,0,0,0)).2).2).2)]),(2,.seq (.st (.pair tI (.pair tI tI))) j.2)],9⟩,([]:List Prop))=_) (by kernel_rfl)).2).rg (ahr (ks:=[3,6,7]) (ts:=[2,3,4,5,6,8,9,10,11,33,34,35]) (λav (ao:(List (Int×Int×Int)))=>⟨[],[(4,.gh [.ptr 3 0] T),(5,.gh [iC (bn a1),.cls 103 [3,0,1],iC t.1,iC (bz .i64 (bW .i64 (bn a1) t.1) 1),iC o.1] R),(9,.gh [.ptr 3 0,.ptr 0 0,.ptr 1 0,.ptr 6 0,.ptr 7 0,.cls 104 [3,6,7],iC p.1,iC j.1,.ptr 8 0,.bG gA a0.2.2,iC (bn a0.2.2),iC j.1] av),(3,.box [.dn 2 0 3 0]),(0,.box [iC a0.1,iC a0.2.1,.bG gA a0.2.2]),(1,.box [nC a1]),(6,.box [iC o.1]),(7,.box [iC (bz .i64 o.1 t.1)]),(8,.box [iC ((ε a0.2.2 (δ j.1) (0,0,0,0)).1),iC (((ε a0.2.2 (δ j.1) (0,0,0,0)).2).1),iC ((((ε a0.2.2 (δ j.1) (0,0,0,0)).2).2).1),iC ((((ε a0.2.2 (δ j.1) (0,0,0,0)).2).2).2)]),(2,.seq (.st (.pair tI (.pair tI tI))) ao)],10⟩) (λ(ao:(List (Int×Int×Int)))=>[.ptr 3 0,.ptr 0 0,.ptr 1 0,.ptr 6 0,.ptr 7 0,.cls 104 [3,6,7],iC p.1,iC j.1,.ptr 8 0,.bG gA a0.2.2,iC (bn a0.2.2),iC j.1]) (λ(ao:(List (Int×Int×Int)))=>⟨[(2,pV 3 0),(3,pV 0 0),(4,pV 1 0),(5,pV 6 0),(6,pV 7 0),(8,.one (.cls 104 [3,6,7])),(9,iV p.1),(10,iV j.1),(11,pV 8 0),(33,.one (.bG gA a0.2.2)),(34,iV (bn a0.2.2)),(35,iV j.1)],[(4,.gh [.ptr 3 0] T),(5,.gh [iC (bn a1),.cls 103 [3,0,1],iC t.1,iC (bz .i64 (bW .i64 (bn a1) t.1) 1),iC o.1] R),(3,.box [.dn 2 0 3 0]),(0,.box [iC a0.1,iC a0.2.1,.bG gA a0.2.2]),(1,.box [nC a1]),(6,.box [iC o.1]),(7,.box [iC (bz .i64 o.1 t.1)]),(8,.box [iC ((ε a0.2.2 (δ j.1) (0,0,0,0)).1),iC (((ε a0.2.2 (δ j.1) (0,0,0,0)).2).1),iC ((((ε a0.2.2 (δ j.1) (0,0,0,0)).2).2).1),iC ((((ε a0.2.2 (δ j.1) (0,0,0,0)).2).2).2)]),(2,.seq (.st (.pair tI (.pair tI tI))) ao)],10⟩) (λv=>v=w81) 9 I hF aj rfl rfl rfl (by kernel_rfl) rfl (.inl rfl) rfl ahJ rfl (by kernel_rfl) rfl (by kernel_rfl) rfl (by kernel_rfl) ?_ (λ_ _=>rfl) (λav ao=>(aeK (ks:=[2,3,4,5,6,8,9,10,11,33,34,35]) (ms:=[4,5,3,0,1,6,7,8,2]) (st':=⟨[(2,pV 3 0),(3,pV 0 0),(4,pV 1 0),(5,pV 6 0),(6,pV 7 0),(8,.one (.cls 104 [3,6,7])),(9,iV p.1),(10,iV j.1),(11,pV 8 0),(33,.one (.bG gA a0.2.2)),(34,iV (bn a0.2.2)),(35,iV j.1)],[(4,.gh [.ptr 3 0] T),(5,.gh [iC (bn a1),.cls 103 [3,0,1],iC t.1,iC (bz .i64 (bW .i64 (bn a1) t.1) 1),iC o.1] R),(3,.box [.dn 2 0 3 0]),(0,.box [iC a0.1,iC a0.2.1,.bG gA a0.2.2]),(1,.box [nC a1]),(6,.box [iC o.1]),(7,.box [iC (bz .i64 o.1 t.1)]),(8,.box [iC ((ε a0.2.2 (δ j.1) (0,0,0,0)).1),iC (((ε a0.2.2 (δ j.1) (0,0,0,0)).2).1),iC ((((ε a0.2.2 (δ j.1) (0,0,0,0)).2).2).1),iC ((((ε a0.2.2 (δ j.1) (0,0,0,0)).2).2).2)]),(2,.seq (.st (.pair tI (.pair tI tI))) ao)],10⟩) (cs:=[]) I (rfl:some (⟨[(69,.dS),(2,pV 3 0),(3,pV 0 0),(4,pV 1 0),(5,pV 6 0),(6,pV 7 0),(8,.one (.cls 104 [3,6,7])),(9,iV p.1),(10,iV j.1),(11,pV 8 0),(33,.one (.bG gA a0.2.2)),(34,iV (bn a0.2.2)),(35,iV j.1)],[(4,.gh [.ptr 3 0] T),(5,.gh [iC (bn a1),.cls 103 [3,0,1],iC t.1,iC (bz .i64 (bW .i64 (bn a1) t.1) 1),iC o.1] R),(9,.gh [.ptr 3 0,.ptr 0 0,.ptr 1 0,.ptr 6 0,.ptr 7 0,.cls 104 [3,6,7],iC p.1,iC j.1,.ptr 8 0,.bG gA a0.2.2,iC (bn a0.2.2),iC j.1] av),(3,.box [.dn 2 0 3 0]),(0,.box [iC a0.1,iC a0.2.1,.bG gA a0.2.2]),(1,.box [nC a1]),(6,.box [iC o.1]),(7,.box [iC (bz .i64 o.1 t.1)]),(8,.box [iC ((ε a0.2.2 (δ j.1) (0,0,0,0)).1),iC (((ε a0.2.2 (δ j.1) (0,0,0,0)).2).1),iC ((((ε a0.2.2 (δ j.1) (0,0,0,0)).2).2).1),iC ((((ε a0.2.2 (δ j.1) (0,0,0,0)).2).2).2)]),(2,.seq (.st (.pair tI (.pair tI tI))) ao)],10⟩,([]:List Prop))=_) (by kernel_rfl)).2) ?_)));exact (by (intro av cx I hF aj;exact (θ I [] bm (bg aa λUc aa=>bg aa λUd aa=>bg aa λUe aa=>bg aa λUf aa=>HT.dg I [] (nZ Uc Ud Ue Uf) (Φ aa (λX5 aa=>HT.dl I [] (nZ Uc Ud Ue Uf) ⟨.inr rfl,_,(bt aa),afK [(4,4),(5,5),(9,9),(3,3),(0,0),(1,1),(6,6),(7,7),(8,8),(2,2)] [] I (by kernel_rfl)⟩) λX5 aa=>Θ ⟨.inr rfl,_,(bt aa),afK [(4,4),(5,5),(9,9),(3,3),(0,0),(1,1),(6,6),(7,7),(8,8),(2,2)] [] I (by kernel_rfl)⟩)))));exact (by (intro ao X6;exact (by (subst X6;exact (bp (HT.re I (Ub _ (bt af))))))))))) λQT af=>Θ (bp (HT.re I (Ub _ (bt af))))) λ_ U aw=>bb U (λaq U=>bb U (λax U=>bb U (λaD U=>bg U λX7 U=>HT.dk I [oH,oH,oH,kT,oH,oH,oH,oH,kT,oH,oH,oH,oH,oH,kT] (nZ aq ax aD X7) λ_ h=>(bp (h.ht (aw _ (bt U))))) λaD U=>HT.dk I [oH,oH,oH,kT,oH,oH,oH,oH,kT,oH,oH,oH,oH,oH,kF] (ll aq ax aD) λ_ h=>(bp (h.ht (aw _ (bt U))))) λax U=>HT.dk I [oH,oH,oH,kT,oH,oH,oH,oH,kF] (dp aq ax) λ_ h=>(bp (h.ht (aw _ (bt U))))) λaq U=>HT.dk I [oH,oH,oH,kF] (bQ aq) λ_ h=>(bp (h.ht (aw _ (bt U))))))) λBw ai=>Ϩ I (bL (bN (JZ _ (bw ai)))))))))))) λyB ah=>Ϩ I (bL (bN (QO _ (bw ah))))))))))))))) λX1 x92 ab X8=>θ I [] bm (Ϻ ab (λX9 ab=>φ (ο (θ I [] bm (bg ab λYa ab=>bg ab λYb ab=>bg ab λYc ab=>bg ab λYd ab=>HT.dl I [] (nZ Ya Yb Yc Yd) (bB (bp (Υ I [] bm λ_ h=>(bM (lN ab h))))))))) λX9 ab=>Ϩ I (bL (bN (X8 _ (bw ab))))))))))));exact (by (intro v20 Ug;exact (by (subst Ug;exact (bB (bp (Υ I [] bm λ_ h=>(bM (lN ag h))))))))))))))) λJY ag=>Ϩ I (bL (bN (JX _ (bw ag)))))))))))) λE8 ar=>Ϩ I (bL (bN (Bz _ (bw ar)))))))))));exact (by (intro v2 Uh;exact (by (subst Uh;exact (bp (θ I [] bm (by (cases hr;exact (Δ (ct bm)))))))))))))))))
def ir (a0:GG)(a1:GI):Option (Int×Bool):=
 (ic (a0.1,a0.2.1,a0.2.2) a1).bind λp=>
 bif (!p) then
  some (0,false)
 else
  (gu (a0.1,a0.2.1,a0.2.2) a1).bind λo=>
  br ((0:Int)<=0/\0<((12:Nat):Int)) (
   br (0<=(bn a1)/\(bn a1)<((13:Nat):Int)) (
    br ((0:Int)<=0/\0<((8:Nat):Int)) (
     br (0+104*δ 0+8*δ (bn a1)+1*δ 0<ζ o) (
      (some ((ε o (0+104*δ 0+8*δ (bn a1)+1*δ 0) (0,0,0)).1)).bind λj=>
      bif (decide (j>=1099511627776)) then
       some ((-1),true)
      else
       some (j,true)))))
theorem QU {a0}{a1}{r}(j:ir a0 a1=some r):CallOK ν 20 [.bZ (.st gR) a0,.bZ cC a1] [⟨false,tI,r.1⟩,⟨false,.bool,r.2⟩] []:=
 dB Tryz.func20 rfl λcx o hF=>θ o [] bm (φ (bc j Kf λy1 p j=>θ o [oH,oH,(cl p)] (bQ p) (Φ j (λJ j=>θ o [] bm (by (cases j;exact (Δ (bF (ct bm)))))) λJ j=>Θ (bp (bc j QN λy4 t j=>bg j λR j=>bg j λT j=>bg j λU j=>bg j λaa j=>θ o [oH,oH,(cl t)] (lF t R T U (bQ aa)) (bq j λj=>φ (θ o [] bm (Φ j (λI j=>θ o [] bm (by (cases j;exact (Δ (bF (ct bm)))))) λI j=>Θ (bp (θ o [] bm (by (cases j;exact (Δ (ct bm))))))))))))))
end
end Go.Proofs
