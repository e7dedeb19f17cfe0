import Derived.Test.YtjnkhcgmgkhnaaaGreatDoorJournalGenC
import Derived.Test.YtjnkhcgmgkhnaaaGreatDoorProg
set_option linter.all false
open BitVec renaming ofInt→Ϙ
open Go.Ide.HT renaming g→θ,block→ο,seq→φ,ret→Δ,skip→Θ,k→Υ,cb→Φ,lp→ϧ,xe→Ϩ,jn→ϰ,cj→Ϻ,re→abi,ex→ac9,rg→adP,l→Μ
open Go.Ide.RG renaming cut→acB,j4→aen
open Go.IntKind renaming wrap→Ρ,bits→Ϗ
open Go.Proofs.Tryz renaming prog→ν
open Int renaming toNat→δ
open List renaming getD→ε,length→ζ,replicate→υ,set→aaj
namespace Go.Proofs
open Go.Ide
noncomputable section
def jf (a1:GL)(a2:Int)(s1:Int×GL):Option ((Int×GL)⊕(GL)):=
 bif (decide (s1.1<(bn a1))) then
  br (0<=s1.1/\s1.1<bn a1) (
   (some (bz .i64 ((ε a1 (δ s1.1) (0,0,0,0)).1) a2)).bind λo=>
   (some (bz .i64 (((ε a1 (δ s1.1) (0,0,0,0)).2).1) a2)).bind λj=>
   br (ζ s1.2+ζ ([(o,j,(((ε a1 (δ s1.1) (0,0,0,0)).2).2).1,(((ε a1 (δ s1.1) (0,0,0,0)).2).2).2)]:GL)<=bD) (
    some (.inl ((bz .i64 s1.1 1),(s1.2++([(o,j,(((ε a1 (δ s1.1) (0,0,0,0)).2).2).1,(((ε a1 (δ s1.1) (0,0,0,0)).2).2).2)]:GL))))))
 else
  some (.inr s1.2)
def iJ (a1:GL)(a2:Int):Option (GL):=
 (rounds (jf a1 a2) (0,([]:GL))).bind λj=>
 some j
theorem DA {a1}{a2}{r}(t:iJ a1 a2=some r):CallOK ν 188 [.nl,.bZ gA a1,.bZ tI a2] [⟨true,gA,r⟩] []:=
 dB Tryz.func188 rfl λcx o hF=>θ o [] bm (φ (θ o [] bm (ο (ϧ o t (λI=>up [2,9,10] [(0,aV 3),(11,iV I.1)] [] [(3,.seq (.st gQ) I.2)] 4) (λU=>(.exit 0,up [] [(0,aV 3)] [] [(3,.seq (.st gQ) U)] 4)) (λU t=>(bE (bp (θ o [] bm (by (cases t;exact (Δ (ct bm)))))))) λI x4 j J=>θ o [] bm (Ϻ j (λR j=>φ (ο (bg j λT j=>θ o [] (bQ T) (θ o [] bm (bq j λj=>θ o [] bm (bq j λj=>bg j λp j=>Μ o [oH,oH,(hT (.st gQ)),(hT (.st gQ))] (bQ p) (bB (bp (Υ o [] bm λ_ h=>(bM (lN j h))))))))))) λR j=>Ϩ o (bL (bN (J _ (bw j)))))))))
def hU (a0:GM):Option (GM×Bool):=
 (cy (a0.1,a0.2.1,a0.2.2.1,a0.2.2.2.1,a0.2.2.2.2)).bind λj=>
 bif (!j) then
  some ((0,0,([]:GL),([]:GI),([]:GI)),false)
 else
  some ((a0.1,a0.2.1,a0.2.2.1,a0.2.2.2.1,a0.2.2.2.2),true)
theorem yz {a0}{r}(j:hU a0=some r):CallOK ν 77 [.mv (.st gM) a0] [⟨true,(.st gM),r.1⟩,⟨false,.bool,r.2⟩] []:=
 Tz Tryz.func77 rfl λcx p=>θ p [] bm (φ (bc j oY λI o j=>θ p [oH,(cl o)] (bQ o) (Φ j (λt j=>θ p [] bm (by (cases j;exact (Δ (bF (ct bm)))))) λt j=>Θ (bp (θ p [] bm (by (cases j;exact (Δ (ct bm)))))))))
def mM (a0:GM)(j:Int×GL):Option ((Int×GL)⊕(GL)):=
 bif (decide (j.1<(bn a0.2.2.2.2))) then
  (show Option (GL) from
   br (0<=j.1/\j.1<bn a0.2.2.2.2) (
    bif (decide ((ε a0.2.2.2.2 (δ j.1) 0)>=0)) then
     br (ζ j.2+ζ ([((bz .i64 j.1 1),0,(-1),(ε a0.2.2.2.2 (δ j.1) 0))]:GL)<=bD) (
      some (j.2++([((bz .i64 j.1 1),0,(-1),(ε a0.2.2.2.2 (δ j.1) 0))]:GL)))
    else
     some j.2)).bind λo=>
  some (.inl ((bz .i64 j.1 1),o))
 else
  some (.inr j.2)
def mO (a0:GM)(j:Int×GL):Option ((Int×GL)⊕(GL)):=
 bif (decide (j.1<(bn a0.2.2.2.1))) then
  (show Option (GL) from
   br (0<=j.1/\j.1<bn a0.2.2.2.1) (
    bif (decide ((ε a0.2.2.2.1 (δ j.1) 0)>=0)) then
     br (ζ j.2+ζ ([(0,(bz .i64 j.1 1),(-1),(ε a0.2.2.2.1 (δ j.1) 0))]:GL)<=bD) (
      some (j.2++([(0,(bz .i64 j.1 1),(-1),(ε a0.2.2.2.1 (δ j.1) 0))]:GL)))
    else
     some j.2)).bind λo=>
  some (.inl ((bz .i64 j.1 1),o))
 else
  some (.inr j.2)
def nf (a0:GM):Option (GM×Bool):=
 (cy (a0.1,a0.2.1,a0.2.2.1,a0.2.2.2.1,a0.2.2.2.2)).bind λt=>
 bif (!t) then
  some ((0,0,([]:GL),([]:GI),([]:GI)),false)
 else
  (iJ a0.2.2.1 1).bind λI=>
  (rounds (mO a0) (0,I)).bind λJ=>
  (rounds (mM a0) (0,J)).bind λp=>
  (lf a0.1).bind λo=>
  br (ζ ([0]:GI)+ζ o<=bD) (
   (slices_Clone (([0]:GI)++o)).bind λr=>
   (hU ((bz .i64 a0.1 1),a0.2.1,p,(([0]:GI)++o),r)).bind λj=>
   some ((j.1.1,j.1.2.1,j.1.2.2.1,j.1.2.2.2.1,j.1.2.2.2.2),j.2))
theorem MP {a0}{r}(J:nf a0=some r):CallOK ν 159 [.bZ (.st gM) a0] [⟨true,(.st gM),r.1⟩,⟨false,.bool,r.2⟩] []:=
 dB Tryz.func159 rfl λcx p hF=>θ p [] bm (φ (bc J oY λy1 ad J=>θ p [oH,(cl ad)] (bQ ad) (Φ J (λax J=>θ p [] bm (by (cases J;exact (Δ (bF (ct bm)))))) λax J=>Θ (bp (bc J DA λy4 ae J=>θ p [oH,oH,(cl ae)] (bQ ae) (φ (θ p [] bm (ο (ϧ p J (λs6=>up [1,2,4,18,19] [(20,iV s6.1)] [0,1] [(2,.seq (.st gQ) s6.2)] 0) (λr8=>(.exit 0,up [1,2,4] [] [0,1] [(2,.seq (.st gQ) r8)] 0)) (λr8 J=>(bE (bp (φ (θ p [] bm (ο (ϧ p J (λs9=>up [1,2,4,36,37] [(38,iV s9.1)] [0,1] [(2,.seq (.st gQ) s9.2)] 0) (λaf=>(.exit 2,up [1,2,4] [] [0,1] [(2,.seq (.st gQ) af)] 0)) (λaf J=>(bE (bp (bc J w8 λyu R J=>bg J λag J=>θ p [(hT tI),oH,oH,(cl R),(hT tI)] (dp R ag) (bc J lK λRY T J=>bc J yz λRZ U J=>HT.dg p (nO 8 [(cl T),oH,(cl U)]) (dp T U) (by (cases J;exact (Δ (ct bm))))))))) λs9 x19 t ah=>θ p [] bm (Ϻ t (λai t=>ϰ t (λaj=>up [1,2,36,37,38] [(4,aV 4)] [0,1] [(4,.seq (.st gQ) aj)] 2) (λaj t=>Υ p [] bm λ_ h=>(bM (lN t h))) λ_ j aa=>ο (bg j λak j=>θ p [] (bQ ak) (θ p [] bm (Φ j (λal j=>bg j λan j=>Υ p (nO 5 [(hT (.st gQ)),(hT (.st gQ))]) (bQ an) λ_ h=>(bB (bp (h.ht (aa _ (bt j)))))) λal j=>Θ (bB (bp (abi p (aa _ (bt j))))))))) λai t=>Ϩ p (bL (bN (ah _ (bw t)))))))))))) λs6 x30 I ao=>θ p [] bm (Ϻ I (λaq I=>ϰ I (λar=>up [1,2,18,19,20] [(4,aV 4)] [0,1] [(4,.seq (.st gQ) ar)] 2) (λar I=>Υ p [] bm λ_ h=>(bM (lN I h))) λ_ o ab=>ο (bg o λau o=>θ p [] (bQ au) (θ p [] bm (Φ o (λav o=>bg o λaw o=>Υ p (nO 5 [(hT (.st gQ)),(hT (.st gQ))]) (bQ aw) λ_ h=>(bB (bp (h.ht (ab _ (bt o)))))) λav o=>Θ (bB (bp (abi p (ab _ (bt o))))))))) λaq I=>Ϩ p (bL (bN (ao _ (bw I))))))))))))))
def mP (a0:GI)(s1:Int×Int):Option ((Int×Int)⊕(Int)):=
 bif (decide (s1.2<(bn a0))) then
  (show Option (Int) from
   br (0<=s1.2/\s1.2<bn a0) (
    bif (decide ((ε a0 (δ s1.2) 0)>=0)) then
     br (0<=s1.2) (
      some (Ρ .u32 (Ϙ (Ϗ .u32) s1.1|||Ϙ (Ϗ .u32) (Ρ .u32 (1*2^(min (δ s1.2) (Ϗ .u32))))).toNat))
    else
     some s1.1)).bind λj=>
  some (.inl (j,(bz .i64 s1.2 1)))
 else
  some (.inr s1.1)
def kr (a0:GI):Option (Int):=
 (rounds (mP a0) (0,0)).bind λj=>
 some j
theorem GJ {a0}{r}(T:kr a0=some r):CallOK ν 189 [.bZ cC a0] [⟨false,(.int .u32),r⟩] []:=
 dB Tryz.func189 rfl λcx p hF=>θ p [] bm (θ p [] bm (φ (θ p [] bm (ο (ϧ p T (λU=>up [6,7] [(3,.one (.bG (.int .u32) U.1)),(8,iV U.2)] [] [] 0) (λr3=>(.exit 0,up [] [(3,.one (.bG (.int .u32) r3))] [] [] 0)) (λr3 T=>(bE (bp (θ p [] bm (by (cases T;exact (Δ (ct bm)))))))) λU x4 o aa=>θ p [] bm (Ϻ o (λab o=>ϰ o (λv9=>up [6,7,8] [(3,.one (.bG (.int .u32) v9))] [] [] 0) (λv9 o=>Υ p [] bm λ_ h=>(bM (lN o h))) λ_ j t=>ο (bg j λI j=>θ p [] (bQ I) (θ p [] bm (Φ j (λJ j=>bg j λR j=>Υ p [] (bQ R) λ_ h=>(bB (bp (h.ht (t _ (bt j)))))) λJ j=>Θ (bB (bp (abi p (t _ (bt j))))))))) λab o=>Ϩ p (bL (bN (aa _ (bw o))))))))))
def o7 (a0:GM)(j:Int×Int):Option ((Int×Int)⊕(Int)):=
 bif (decide (j.2<(bn a0.2.2.1))) then
  (show Option (Int) from
   br (0<=j.2/\j.2<bn a0.2.2.1) (
    (some ((((ε a0.2.2.1 (δ j.2) (0,0,0,0)).2).2).1)).bind λo=>
    (some ((((ε a0.2.2.1 (δ j.2) (0,0,0,0)).2).2).2)).bind λt=>
    (show Option (Bool) from
     bif (decide (o<0)) then
      br (0<=(ε a0.2.2.1 (δ j.2) (0,0,0,0)).1) (
       some ((Ρ .u32 (Ϙ (Ϗ .u32) (Int.fdiv j.1 (2^(min (δ ((ε a0.2.2.1 (δ j.2) (0,0,0,0)).1)) (Ϗ .u32))))&&& Ϙ (Ϗ .u32) 1).toNat)==1))
     else
      some false).bind λp=>
    bif p then
     br (0<=((ε a0.2.2.1 (δ j.2) (0,0,0,0)).2).1) (
      some (Ρ .u32 (Ϙ (Ϗ .u32) j.1|||Ϙ (Ϗ .u32) (Ρ .u32 (1*2^(min (δ (((ε a0.2.2.1 (δ j.2) (0,0,0,0)).2).1)) (Ϗ .u32))))).toNat))
    else
     some j.1)).bind λr=>
  some (.inl (r,(bz .i64 j.2 1)))
 else
  some (.inr j.1)
def o8 (a0:GM)(s1:Int×Int):Option ((Int×Int)⊕(Int)):=
 bif (decide (s1.2<a0.1)) then
  (rounds (o7 a0) (s1.1,0)).bind λj=>
  some (.inl (j,(bz .i64 s1.2 1)))
 else
  some (.inr s1.1)
def nF (a0:GM)(a1:Int):Option (Int):=
 (rounds (o8 a0) (a1,0)).bind λj=>
 some j
theorem GK {a0}{a1}{r}(hr:nF a0 a1=some r):CallOK ν 191 [.bZ (.st gM) a0,.bZ (.int .u32) a1] [⟨false,(.int .u32),r⟩] []:=
 dB Tryz.func191 rfl λcx t hF=>θ t [] bm (φ (θ t [] bm (ο (ϧ t hr (λs1=>up [2,8] [(1,.one (.bG (.int .u32) s1.1)),(9,iV s1.2)] [0] [] 0) (λr3=>(.exit 0,up [] [(1,.one (.bG (.int .u32) r3))] [] [] 0)) (λr3 hr=>(bE (bp (θ t [] bm (by (cases hr;exact (Δ (ct bm)))))))) λs1 x4 I XG=>θ t [] bm (Ϻ I (λJ0 I=>φ (ο (θ t [] bm (ο (ϧ t I (λs8=>up [2,8,9,12,13] [(1,.one (.bG (.int .u32) s8.1)),(14,iV s8.2)] [0] [] 0) (λU=>(.exit 2,up [2,8,9] [(1,.one (.bG (.int .u32) U))] [0] [] 0)) (λU I=>(bE (bB (bp (Υ t [] bm λ_ h=>(bM (lN I h))))))) λs8 Vh o aa=>θ t [] bm (Ϻ o (λab o=>ϰ o (λad=>up [2,8,9,12,13,14] [(1,.one (.bG (.int .u32) ad))] [0] [] 0) (λad o=>Υ t [] bm λ_ h=>(bM (lN o h))) λ_ j R=>ο (bg j λae j=>θ t [] (bQ ae) (bq j λj=>bq j λj=>ϰ j (λaf=>up [1,2,6,8,9,12,13,14] [(28,bV af)] [0,1] [] 0) (λaf j=>Φ j (λag j=>bg j λah j=>Υ t [] (bQ ah) λ_ h=>(bB (bp (h.ht (R _ (bt j)))))) λag j=>Θ (bB (bp (abi t (R _ (bt j)))))) λ_ p T=>bb p (λJ p=>bg p λai p=>Υ t [oH,oH,oH,kT] (dp J ai) λ_ h=>(bp (h.ht (T _ (bt p))))) λJ p=>Υ t [oH,oH,oH,kF] (bQ J) λ_ h=>(bp (h.ht (T _ (bt p))))))) λab o=>Ϩ t (bL (bN (aa _ (bw o)))))))))) λJ0 I=>Ϩ t (bL (bN (XG _ (bw I)))))))))
theorem E9:j5 ν 218 (.int .u32):=j5.int (by kernel_rfl)
def rR (a0:Int)(a1:Int):Option (Bool):=
 some ((Ρ .u32 (Ϙ (Ϗ .u32) a0&&& Ϙ (Ϗ .u32) a1).toNat) != 0)
theorem MQ {a0}{a1}{r}(o:rR a0 a1=some r):CallOK ν 193 [.bZ (.int .u32) a0,.fZ (.int .u32) a1] [⟨false,.bool,r⟩] []:=
 dB Tryz.func193 rfl λcx j p=>θ j [] bm (θ j [] bm (by (cases o;exact (Δ (ct bm)))))
def lM (a0:Int)(a1:Int)(a2:GM)(s1:Int×Int):Option ((Int×Int)⊕(Int)):=
 bif (decide (s1.2<(bn a2.2.2.1))) then
  (show Option (Int) from
   br (0<=s1.2/\s1.2<bn a2.2.2.1) (
    (some ((((ε a2.2.2.1 (δ s1.2) (0,0,0,0)).2).2).1)).bind λj=>
    (some ((((ε a2.2.2.1 (δ s1.2) (0,0,0,0)).2).2).2)).bind λo=>
    (show Option (Bool) from
     bif (j==a1) then
      br (0<=(ε a2.2.2.1 (δ s1.2) (0,0,0,0)).1) (
       some ((Ρ .u32 (Ϙ (Ϗ .u32) (Int.fdiv a0 (2^(min (δ ((ε a2.2.2.1 (δ s1.2) (0,0,0,0)).1)) (Ϗ .u32))))&&& Ϙ (Ϗ .u32) 1).toNat)==1))
     else
      some false).bind λv20=>
    bif v20 then
     br (0<=((ε a2.2.2.1 (δ s1.2) (0,0,0,0)).2).1) (
      some (Ρ .u32 (Ϙ (Ϗ .u32) s1.1|||Ϙ (Ϗ .u32) (Ρ .u32 (1*2^(min (δ (((ε a2.2.2.1 (δ s1.2) (0,0,0,0)).2).1)) (Ϗ .u32))))).toNat))
    else
     some s1.1)).bind λv11=>
  some (.inl (v11,(bz .i64 s1.2 1)))
 else
  some (.inr s1.1)
def lO (a0:Int)(a1:Int)(a2:GM):Option (Int):=
 (rounds (lM a0 a1 a2) (0,0)).bind λj=>
 (nF (a2.1,a2.2.1,a2.2.2.1,a2.2.2.2.1,a2.2.2.2.2) j).bind λo=>
 some o
theorem MR {a0}{a1}{a2}{r}(T:lO a0 a1 a2=some r):CallOK ν 190 [.bZ (.int .u32) a0,.bZ tI a1,.fZ (.st gM) a2] [⟨false,(.int .u32),r⟩] []:=
 dB Tryz.func190 rfl λcx t hF=>θ t [] bm (θ t [] bm (φ (θ t [] bm (ο (ϧ t T (λs1=>up [0,1,2,10,11] [(6,.one (.bG (.int .u32) s1.1)),(12,iV s1.2)] [] [] 0) (λr3=>(.exit 0,up [2] [(6,.one (.bG (.int .u32) r3))] [] [] 0)) (λr3 T=>(bE (bp (bc T GK λy4 U T=>θ t [oH,oH,(cl U)] (bQ U) (by (cases T;exact (Δ (ct bm)))))))) λs1 x6 p TQ=>θ t [] bm (Ϻ p (λQi p=>ϰ p (λv11=>up [0,1,2,10,11,12] [(6,.one (.bG (.int .u32) v11))] [] [] 0) (λv11 p=>Υ t [] bm λ_ h=>(bM (lN p h))) λ_ j J=>ο (bg j λaa j=>θ t [] (bQ aa) (bq j λj=>bq j λj=>ϰ j (λv20=>up [0,1,2,6,8,10,11,12] [(27,bV v20)] [0] [] 0) (λv20 j=>Φ j (λab j=>bg j λad j=>Υ t [] (bQ ad) λ_ h=>(bB (bp (h.ht (J _ (bt j)))))) λab j=>Θ (bB (bp (abi t (J _ (bt j)))))) λ_ o R=>bb o (λI o=>bg o λae o=>Υ t (nO 4 [kT]) (dp I ae) λ_ h=>(bp (h.ht (R _ (bt o))))) λI o=>Υ t (nO 4 [kF]) (bQ I) λ_ h=>(bp (h.ht (R _ (bt o))))))) λQi p=>Ϩ t (bL (bN (TQ _ (bw p))))))))))
def cz (a0:Int)(a2:GM)(s1:Int×(List (Int×Int))×GI×GI×GZ)(j:Int×(List (Int×Int))×GI×GI):Option ((Int×(List (Int×Int))×GI×GI)⊕(((List (Int×Int))×GI×GI))):=
 bif (decide (j.1<a0)) then
  (lO (ε s1.2.2.1 (δ s1.1) 0) j.1 (a2.1,a2.2.1,a2.2.2.1,a2.2.2.2.1,a2.2.2.2.2)).bind λo=>
  (show Option (Int×(List (Int×Int))×GI) from
   bif (!((cr (t:=(.int .u32)) (u:=tI) j.2.1 o).isSome)) then
    br (cr (t:=(.int .u32)) (u:=tI) j.2.1 o=none) (
     br (ζ j.2.2.1+ζ ([o]:GI)<=bD) (
      some ((bn j.2.2.1),(j.2.1++[(o,(bn j.2.2.1))]),(j.2.2.1++([o]:GI)))))
   else
    some (((cr (t:=(.int .u32)) (u:=tI) j.2.1 o).getD 0),j.2.1,j.2.2.1)).bind λp=>
  br (ζ j.2.2.2+ζ ([p.1]:GI)<=bD) (
   some (.inl ((bz .i64 j.1 1),p.2.1,p.2.2,(j.2.2.2++([p.1]:GI)))))
 else
  some (.inr (j.2.1,j.2.2.1,j.2.2.2))
def cS (a0:Int)(a2:GM)(a3:Int)(s1:Int×(List (Int×Int))×GI×GI×GZ):Option ((Int×(List (Int×Int))×GI×GI×GZ)⊕((GI×GI×GZ)⊕Unit)):=
 bif (decide (s1.1<(bn s1.2.2.1))) then
  br (0<=s1.1/\s1.1<bn s1.2.2.1) (
   (rR (ε s1.2.2.1 (δ s1.1) 0) a3).bind λo=>
   br (ζ s1.2.2.2.2+ζ ([o]:GZ)<=bD) (
    (rounds (cz a0 a2 s1) (0,s1.2.1,s1.2.2.1,s1.2.2.2.1)).bind λj=>
    bif (decide ((bn j.2.1)>64)) then
     some (.inr (.inr ()))
    else
     some (.inl ((bz .i64 s1.1 1),j.1,j.2.1,j.2.2,(s1.2.2.2.2++([o]:GZ))))))
 else
  some (.inr (.inl (s1.2.2.1,s1.2.2.2.1,s1.2.2.2.2)))
def bY (a0:Int)(a1:Int)(a2:GM)(a3:Int):Option (GP×Bool):=
 (rounds (cS a0 a2 a3) (0,(([]:List (Int×Int))++[(a1,0)]),([a1]:GI),([]:GI),([]:GZ))).bind λo=>match o with
  | .inl j=>
   some (((bn j.1),a0,j.2.1,j.2.2),true)
  | .inr p=>
   some ((0,0,([]:GI),([]:GZ)),false)
theorem gn {a0}{a1}{a2}{a3}{r}(hr:bY a0 a1 a2 a3=some r):CallOK ν 192 [.bZ tI a0,.bZ (.int .u32) a1,.ji 190 (.st gM) a2,.ji 193 (.int .u32) a3] [⟨true,(.st gP),r.1⟩,⟨false,.bool,r.2⟩] []:=
 dB Tryz.func192 rfl λcx o hF=>θ o [] bm (θ o [] bm (ac9 ⟨[(0,iV a0),(1,.one (.bG (.int .u32) a1)),(2,.one (.ji 190 (.st gM) a2)),(3,.one (.ji 193 (.int .u32) a3)),(8,pV 0 0),(10,pV 1 0)],[(1,.box [iC 0,iC a0,.bH,.bH]),(0,.box [iC 0,iC 0,.bH,.bH])],2⟩ o (by (refine φ (adP (RG.makeMap (.int .u32) tI o rfl rfl rfl (by kernel_rfl) (by kernel_rfl) (acB 1 [oH] ⟨[(22,.one (.bG (.int .u32) a1)),(21,.one (.fP 2)),(0,iV a0),(1,.one (.bG (.int .u32) a1)),(2,.one (.ji 190 (.st gM) a2)),(3,.one (.ji 193 (.int .u32) a3)),(8,pV 0 0),(10,pV 1 0)],[(2,.mp (.int .u32) tI ([]:List (Int×Int))),(1,.box [iC 0,iC a0,.bH,.bH]),(0,.box [iC 0,iC 0,.bH,.bH])],3⟩ o.P o.N (by kernel_rfl) bm (RG.qS (t:=(.int .u32)) (u:=tI) (x:=a1) (y:=0) o (.inr rfl) rfl rfl (K:=218) (E:=2) (by kernel_rfl) E9 rfl rfl rfl rfl rfl rfl rfl (show cr (t:=(.int .u32)) (u:=tI) ([]:List (Int×Int)) a1=none from rfl) (aen [0,1,2,3,8,10,11] [oH,oH] ⟨[(0,iV a0),(1,.one (.bG (.int .u32) a1)),(2,.one (.ji 190 (.st gM) a2)),(3,.one (.ji 193 (.int .u32) a3)),(8,pV 0 0),(10,pV 1 0),(11,.one (.fP 2))],[(2,.mp (.int .u32) tI (([]:List (Int×Int))++[(a1,0)])),(2,.mp (.int .u32) tI ([]:List (Int×Int))),(1,.box [iC 0,iC a0,.bH,.bH]),(0,.box [iC 0,iC 0,.bH,.bH])],3⟩ o.P o.N (by kernel_rfl) bm ?_)))));exact (θ o [oH,(hT (.int .u32))] bm (φ (θ o [] bm (ο (ϧ o hr (λJ=>up [0,2,3,8,10,11,12] [(13,iV J.1)] [0] [(1,.box [iC 0,iC a0,.all 11,.all 12]),(2,.mp (.int .u32) tI J.2.1),(3,.seq (.int .u32) J.2.2.1),(11,.seq tI J.2.2.2.1),(12,.seq .bool J.2.2.2.2)] 9) (λr2=>match r2 with| .inl r3=>(.exit 0,up [8,10,12] [] [0] [(1,.box [iC 0,iC a0,.all 11,.all 12]),(3,.seq (.int .u32) r3.1),(11,.seq tI r3.2.1),(12,.seq .bool r3.2.2)] 9)| .inr r4=>(.ret,up [8] [(9,bV false)] [0] [] 0)) (λr2=>match r2 with| .inl r3=>λhr=>(bE (bp (θ o [] bm (θ o [] bm (by (cases hr;exact (Δ (ct bm))))))))| .inr r4=>λhr=>by (cases hr;exact (bT (bF (ct bm))))) λJ x5 p Qk=>φ (θ o [] bm (Φ p (λPS p=>Θ (bp (φ (ο (bg p λPT p=>θ o [] (dp PT (bS PT)) (bc p MQ λU ad p=>bg p λJ1 p=>HT.dg o (nO 4 [(cl ad),(hT .bool),(hT .bool)]) (dp ad J1) (φ (θ o [] bm (ο (ϧ o p (λj=>up [0,2,3,8,10,11,12,13,14,44] [(45,iV j.1)] [0,1,14] [(2,.mp (.int .u32) tI j.2.1),(3,.seq (.int .u32) j.2.2.1),(11,.seq tI j.2.2.2)] 0) (λaa=>(.exit 2,up [0,2,3,8,10,11,12,13] [] [0,1,14] [(2,.mp (.int .u32) tI aa.1),(3,.seq (.int .u32) aa.2.1),(11,.seq tI aa.2.2)] 0)) (λaa p=>(bE (bp (θ o [] bm (Φ p (λyA p=>θ o [] bm (HT.xr o (bT (bF (fp (Qk _ (bw p))))))) λyA p=>Θ (bB (bp (Υ o [] bm λ_ h=>(bM (lN p h)))))))))) λj Zz I Ql=>θ o [] bm (Ϻ I (λJ2 I=>φ (ο (θ o [] bm (bc I MR λT ae I=>θ o [oH,oH,oH,(cl ae)] (bQ ae) (ac9 ⟨[(0,iV a0),(2,.one (.ji 190 (.st gM) a2)),(3,.one (.ji 193 (.int .u32) a3)),(8,pV 0 0),(10,pV 1 0),(11,.one (.fP 2)),(12,aV 3),(13,iV J.1),(14,.one (.bG (.int .u32) (ε J.2.2.1 (δ J.1) 0))),(16,.one (.bG (.int .u32) T)),(44,iV a0),(45,iV j.1)],[(0,.box [iC 0,iC 0,.bH,.bH]),(1,.box [iC 0,iC a0,.all 11,.all 14]),(2,.mp (.int .u32) tI j.2.1),(3,.seq (.int .u32) j.2.2.1),(11,.seq tI j.2.2.2),(14,.seq .bool (J.2.2.2.2++([U]:GZ)))],15⟩ o (by (refine φ (adP (acB 2 [oH,oH] ⟨[(54,.one (.bG (.int .u32) T)),(53,.one (.fP 2)),(0,iV a0),(2,.one (.ji 190 (.st gM) a2)),(3,.one (.ji 193 (.int .u32) a3)),(8,pV 0 0),(10,pV 1 0),(11,.one (.fP 2)),(12,aV 3),(13,iV J.1),(14,.one (.bG (.int .u32) (ε J.2.2.1 (δ J.1) 0))),(16,.one (.bG (.int .u32) T)),(44,iV a0),(45,iV j.1)],[(0,.box [iC 0,iC 0,.bH,.bH]),(1,.box [iC 0,iC a0,.all 11,.all 14]),(2,.mp (.int .u32) tI j.2.1),(3,.seq (.int .u32) j.2.2.1),(11,.seq tI j.2.2.2),(14,.seq .bool (J.2.2.2.2++([U]:GZ)))],15⟩ o.P o.N (by kernel_rfl) bm (RG.Bi (t:=(.int .u32)) (u:=tI) (x:=T) (z:=Value.int .i64 0) (y0:=0) o rfl rfl rfl (by kernel_rfl) (K:=218) (E:=2) (by kernel_rfl) E9 rfl (by kernel_rfl) rfl rfl rfl rfl rfl (aen [0,2,3,8,10,11,12,13,14,16,17,18,44,45] [oH,oH,oH,oH,oH] ⟨[(0,iV a0),(2,.one (.ji 190 (.st gM) a2)),(3,.one (.ji 193 (.int .u32) a3)),(8,pV 0 0),(10,pV 1 0),(11,.one (.fP 2)),(12,aV 3),(13,iV J.1),(14,.one (.bG (.int .u32) (ε J.2.2.1 (δ J.1) 0))),(16,.one (.bG (.int .u32) T)),(17,iV ((cr (t:=(.int .u32)) (u:=tI) j.2.1 T).getD 0)),(18,bV ((cr (t:=(.int .u32)) (u:=tI) j.2.1 T).isSome)),(44,iV a0),(45,iV j.1)],[(0,.box [iC 0,iC 0,.bH,.bH]),(1,.box [iC 0,iC a0,.all 11,.all 14]),(2,.mp (.int .u32) tI j.2.1),(3,.seq (.int .u32) j.2.2.1),(11,.seq tI j.2.2.2),(14,.seq .bool (J.2.2.2.2++([U]:GZ)))],15⟩ o.P o.N (by kernel_rfl) bm ?_))));exact (ϰ I (λab=>up [0,2,3,8,10,11,13,14,44,45] [(12,aV 16),(17,iV ab.1)] [0,1,11,14] [(2,.mp (.int .u32) tI ab.2.1),(16,.seq (.int .u32) ab.2.2)] 2) (λab I=>bg I λQm I=>Μ o [oH,oH,oH,(hT tI),(hT tI)] (bQ Qm) (bB (bp (Υ o [] bm λ_ h=>(bM (lN I h)))))) λ_ R af=>θ o [] bm (Φ R (λJ3 R=>θ o [] bm (bg R λzF R=>ac9 ⟨[(0,iV a0),(2,.one (.ji 190 (.st gM) a2)),(3,.one (.ji 193 (.int .u32) a3)),(8,pV 0 0),(10,pV 1 0),(11,.one (.fP 2)),(12,aV 3),(13,iV J.1),(14,.one (.bG (.int .u32) (ε J.2.2.1 (δ J.1) 0))),(16,.one (.bG (.int .u32) T)),(17,iV (bn j.2.2.1)),(44,iV a0),(45,iV j.1)],[(0,.box [iC 0,iC 0,.bH,.bH]),(1,.box [iC 0,iC a0,.all 11,.all 14]),(2,.mp (.int .u32) tI j.2.1),(3,.seq (.int .u32) j.2.2.1),(11,.seq tI j.2.2.2),(14,.seq .bool (J.2.2.2.2++([U]:GZ)))],15⟩ o (by (refine φ (adP (acB 3 [oH,oH,oH] ⟨[(64,iV (bn j.2.2.1)),(63,.one (.bG (.int .u32) T)),(62,.one (.fP 2)),(0,iV a0),(2,.one (.ji 190 (.st gM) a2)),(3,.one (.ji 193 (.int .u32) a3)),(8,pV 0 0),(10,pV 1 0),(11,.one (.fP 2)),(12,aV 3),(13,iV J.1),(14,.one (.bG (.int .u32) (ε J.2.2.1 (δ J.1) 0))),(16,.one (.bG (.int .u32) T)),(17,iV (bn j.2.2.1)),(44,iV a0),(45,iV j.1)],[(0,.box [iC 0,iC 0,.bH,.bH]),(1,.box [iC 0,iC a0,.all 11,.all 14]),(2,.mp (.int .u32) tI j.2.1),(3,.seq (.int .u32) j.2.2.1),(11,.seq tI j.2.2.2),(14,.seq .bool (J.2.2.2.2++([U]:GZ)))],15⟩ o.P o.N (by kernel_rfl) bm (RG.qS (t:=(.int .u32)) (u:=tI) (x:=T) (y:=(bn j.2.2.1)) o (.inl rfl) rfl rfl (K:=218) (E:=2) (by kernel_rfl) E9 rfl rfl rfl rfl rfl rfl rfl zF (aen [0,2,3,8,10,11,12,13,14,16,17,44,45] [] ⟨[(0,iV a0),(2,.one (.ji 190 (.st gM) a2)),(3,.one (.ji 193 (.int .u32) a3)),(8,pV 0 0),(10,pV 1 0),(11,.one (.fP 2)),(12,aV 3),(13,iV J.1),(14,.one (.bG (.int .u32) (ε J.2.2.1 (δ J.1) 0))),(16,.one (.bG (.int .u32) T)),(17,iV (bn j.2.2.1)),(44,iV a0),(45,iV j.1)],[(2,.mp (.int .u32) tI (j.2.1++[(T,(bn j.2.2.1))])),(0,.box [iC 0,iC 0,.bH,.bH]),(1,.box [iC 0,iC a0,.all 11,.all 14]),(2,.mp (.int .u32) tI j.2.1),(3,.seq (.int .u32) j.2.2.1),(11,.seq tI j.2.2.2),(14,.seq .bool (J.2.2.2.2++([U]:GZ)))],15⟩ o.P o.N (by kernel_rfl) bm ?_))));exact (bg R λJ4 R=>Υ o [oH,oH,(hT (.int .u32)),(hT (.int .u32))] (bQ J4) λ_ h=>(bp (h.ht (af _ (bt R))))))))) λJ3 R=>Θ (bp (abi o (af _ (bt R))))))))))))) λJ2 I=>Ϩ o (bL (bN (Ql _ (bw I))))))))))))))) λPS p=>Ϩ o (bL (bN (Qk _ (bw p)))))))))))))))
def oz (a0:GM):Option (GP×Bool):=
 (cy (a0.1,a0.2.1,a0.2.2.1,a0.2.2.2.1,a0.2.2.2.2)).bind λo=>
 bif (!o) then
  some ((0,0,([]:GI),([]:GZ)),false)
 else
  (kr a0.2.2.2.2).bind λp=>
  (kr a0.2.2.2.1).bind λr=>
  (nF (a0.1,a0.2.1,a0.2.2.1,a0.2.2.2.1,a0.2.2.2.2) r).bind λt=>
  (bY a0.2.1 t (a0.1,a0.2.1,a0.2.2.1,a0.2.2.2.1,a0.2.2.2.2) p).bind λj=>
  some ((j.1.1,j.1.2.1,j.1.2.2.1,j.1.2.2.2),j.2)
theorem MS {a0}{r}(j:oz a0=some r):CallOK ν 160 [.bZ (.st gM) a0] [⟨true,(.st gP),r.1⟩,⟨false,.bool,r.2⟩] []:=
 dB Tryz.func160 rfl λcx o U=>θ o [] bm (φ (bc j oY λy1 t j=>θ o [oH,(cl t)] (bQ t) (Φ j (λT j=>θ o [] bm (by (cases j;exact (Δ (bF (ct bm)))))) λT j=>Θ (bp (bc j GJ λy4 I j=>θ o [oH,oH,(cl I)] (bQ I) (by (refine (Le.rz [(2,2),(1,1)] [] (st':=⟨[(1,.one (.ip (.st gM) (a0.1,a0.2.1,a0.2.2.1,a0.2.2.2.1,a0.2.2.2.2) 0)),(2,pV 1 0),(4,pV 2 0)],[(2,.box [.bG (.int .u32) y4]),(1,.box [iC 0,iC 0,.bH,.bH])],3⟩) o U (by kernel_rfl)).ht ?_;exact (θ o [] bm (by (refine (Le.rz [(1,1)] [] (st':=⟨[(1,.one (.ip (.st gM) (a0.1,a0.2.1,a0.2.2.1,a0.2.2.2.1,a0.2.2.2.2) 0)),(2,pV 1 0),(4,.one (.ip (.int .u32) y4 0)),(5,.one (.ji 190 (.st gM) (a0.1,a0.2.1,a0.2.2.1,a0.2.2.2.1,a0.2.2.2.2)))],[(1,.box [iC 0,iC 0,.bH,.bH])],3⟩) o U (by kernel_rfl)).ht ?_;exact (bc j GJ λy6 J j=>bc j GK λy8 R j=>bc j gn λQc p j=>HT.dg o (nO 5 [(cl J),(cl R),oH,oH,(cl p)]) (ll J R p) (by (cases j;exact (Δ (ct bm)))))))))))))))
def cI (a0:GP):Option (Bool):=
 (show Option (Bool) from
  (cG a0.1 1 64).bind λo=>
  bif o then
   (cG a0.2.1 1 4).bind λp=>
   bif p then
    bif ((bn a0.2.2.1)==(dX .i64 a0.1 a0.2.1)) then
     (eQ a0.2.2.1 0 (bW .i64 a0.1 1)).bind λj=>
     bif j then
      some ((bn a0.2.2.2)==a0.1)
     else
      some false
    else
     some false
   else
    some false
  else
   some false).bind λr=>
 some r
theorem o9 {a0}{r}(hr:cI a0=some r):CallOK ν 40 [.bZ (.st gP) a0] [⟨false,.bool,r⟩] []:=
 dB Tryz.func40 rfl λcx hX hF=>θ hX [] bm (ϰ hr (λv2=>up [] [(2,bV v2)] [] [] 0) (λv2 hr=>by (cases hr;exact (Δ (ct bm)))) λ_ j T=>bc j gZ λy5 o j=>bb j (λR j=>bc j gZ λy8 p j=>bb j (λt j=>bb j (λI j=>bc j yx λyu J j=>bb j (λU j=>Υ hX [oH,oH,(cl o),kT,oH,oH,(cl p),oH,kT,oH,oH,oH,oH,oH,oH,oH,oH,oH,oH,kT,oH,oH,oH,oH,oH,(cl J),oH,kT] (lF o R p t (ll I J U)) λ_ h=>(bp (h.ht (T _ (bt j))))) λU j=>Υ hX [oH,oH,(cl o),kT,oH,oH,(cl p),oH,kT,oH,oH,oH,oH,oH,oH,oH,oH,oH,oH,kT,oH,oH,oH,oH,oH,(cl J),oH,kF] (lF o R p t (ll I J U)) λ_ h=>(bp (h.ht (T _ (bt j))))) λI j=>Υ hX [oH,oH,(cl o),kT,oH,oH,(cl p),oH,kT,oH,oH,oH,oH,oH,oH,oH,oH,oH,oH,kF] (lF o R p t (bQ I)) λ_ h=>(bp (h.ht (T _ (bt j))))) λt j=>Υ hX [oH,oH,(cl o),kT,oH,oH,(cl p),oH,kF] (nZ o R p t) λ_ h=>(bp (h.ht (T _ (bt j))))) λR j=>Υ hX [oH,oH,(cl o),kF] (dp o R) λ_ h=>(bp (h.ht (T _ (bt j)))))
theorem J5:j5 ν 172 (.st (cH .i64 4)):=j5.arr (E:=2) (by kernel_rfl) (by kernel_rfl) (by kernel_rfl) (by kernel_rfl)
def cP (a0:GP)(a1:Int)(a2:Int):Option (Int):=
 br (0<=(bz .i64 (dX .i64 a1 a0.2.1) a2)/\(bz .i64 (dX .i64 a1 a0.2.1) a2)<bn a0.2.2.1) (
  some (ε a0.2.2.1 (δ (bz .i64 (dX .i64 a1 a0.2.1) a2)) 0))
theorem qX {a0}{a1}{a2}{r}(j:cP a0 a1 a2=some r):CallOK ν 54 [.bZ (.st gP) a0,.bZ tI a1,.bZ tI a2] [⟨false,tI,r⟩] []:=
 dB Tryz.func54 rfl λcx p t=>θ p [] bm (bg j λo j=>θ p [] (bQ o) (by (cases j;exact (Δ (ct bm)))))
def lP (a0:GP)(r:Int×GI)(p:Int×(List ((cH .i64 4).D×Int))×GI)(j:Int×GI):Option ((Int×GI)⊕GI):=
 bif (decide (j.1<a0.2.1)) then
  (cP (a0.1,a0.2.1,a0.2.2.1,a0.2.2.2) p.1 j.1).bind λo=>
  br (0<=o/\o<bn r.2) (
   br (0<=(bz .i64 1 j.1)/\(bz .i64 1 j.1)<((5:Nat):Int)) (
    br (0+1*δ (bz .i64 1 j.1)<ζ j.2) (
     some (.inl ((bz .i64 j.1 1),(aaj j.2 (0+1*δ (bz .i64 1 j.1)) (ε r.2 (δ o) 0)))))))
 else
  some (.inr j.2)
def lQ (a0:GP)(r:Int×GI)(j:Int×(List ((cH .i64 4).D×Int))×GI):Option ((Int×(List ((cH .i64 4).D×Int))×GI)⊕GI):=
 bif (decide (j.1<a0.1)) then
  br (0<=j.1/\j.1<bn r.2) (
   (rounds (lP a0 r j) (0,([(ε r.2 (δ j.1) 0),0,0,0,0]:GI))).bind λo=>
   br (ζ o=5) (
    (show Option (Int×(List ((cH .i64 4).D×Int))) from
     bif (!((cr (t:=(.st (cH .i64 4))) (u:=tI) j.2.1 (j8 .i64 4 0 o)).isSome)) then
      br (cr (t:=(.st (cH .i64 4))) (u:=tI) j.2.1 (j8 .i64 4 0 o)=none) (
       some ((bn j.2.1),(j.2.1++[((j8 .i64 4 0 o),(bn j.2.1))])))
     else
      some (((cr (t:=(.st (cH .i64 4))) (u:=tI) j.2.1 (j8 .i64 4 0 o)).getD 0),j.2.1)).bind λp=>
    br (0<=j.1/\j.1<bn j.2.2) (
     some (.inl ((bz .i64 j.1 1),p.2,(aaj j.2.2 (δ j.1) p.1))))))
 else
  some (.inr j.2.2)
def lR (a0:GP)(j:Int×GI):Option ((Int×GI)⊕GI):=
 bif (decide (j.1<a0.1)) then
  (rounds (lQ a0 j) (0,([]:List ((cH .i64 4).D×Int)),(υ (δ a0.1) (0:Int)))).bind λo=>
  some (.inl ((bz .i64 j.1 1),o))
 else
  some (.inr j.2)
def pE (a0:GP)(j:Int×GI):Option ((Int×GI)⊕GI):=
 bif (decide (j.1<(bn a0.2.2.2))) then
  (show Option GI from
   br (0<=j.1/\j.1<bn a0.2.2.2) (
    bif (ε a0.2.2.2 (δ j.1) false) then
     br (0<=j.1/\j.1<bn j.2) (
      some (aaj j.2 (δ j.1) 1))
    else
     some j.2)).bind λo=>
  some (.inl ((bz .i64 j.1 1),o))
 else
  some (.inr j.2)
def lS (a0:GP):Option GI:=
 br (0<=a0.1/\a0.1<=4294967296) (
  (rounds (pE a0) (0,(υ (δ a0.1) (0:Int)))).bind λj=>
  (rounds (lR a0) (0,j)).bind λo=>
  some o)
theorem Qn {a0}{r}(hr:lS a0=some r):CallOK ν 61 [.bZ (.st gP) a0] [⟨true,cC,r⟩] []:=
 dB Tryz.func61 rfl λcx o hF=>θ o [] bm (bg hr λEr hr=>θ o [oH,oH,(hT tI)] (bQ (Mj Er)) (φ (θ o [] bm (ο (ϧ o hr (λs2=>up [1,3,17,18] [(19,iV s2.1)] [0] [(1,.seq tI s2.2)] 0) (λr4=>(.exit 0,up [1,3] [] [0] [(1,.seq tI r4)] 0)) (λr4 hr=>(bE (bp (φ (θ o [] bm (ο (ϧ o hr (λR=>up [1,3,30] [(31,iV R.1)] [0] [(1,.seq tI R.2)] 0) (λr7=>(.exit 2,up [3] [] [] [(1,.seq tI r7)] 0)) (λr7 hr=>(bE (bp (θ o [] bm (by (cases hr;exact (Δ (ct bm)))))))) λR x8 ab Bz=>θ o [] bm (Ϻ ab (λE8 ab=>φ (ο (ac9 ⟨[(1,pV 0 0),(3,aV 1),(30,iV a0.1),(31,iV R.1),(32,bV (decide (R.1<a0.1)))],[(0,.box [iC a0.1,iC a0.2.1,nC a0.2.2.1,.bG (.sl .bool) a0.2.2.2]),(1,.seq tI R.2)],2⟩ o (by (refine φ (adP (RG.makeMap (.st (cH .i64 4)) tI o rfl rfl rfl (by kernel_rfl) (by kernel_rfl) (aen [1,3,6,30,31] [oH] ⟨[(1,pV 0 0),(3,aV 1),(6,.one (.fP 2)),(30,iV a0.1),(31,iV R.1)],[(2,.mp (.st (cH .i64 4)) tI ([]:List ((cH .i64 4).D×Int))),(0,.box [iC a0.1,iC a0.2.1,nC a0.2.2.1,.bG (.sl .bool) a0.2.2.2]),(1,.seq tI R.2)],3⟩ o.P o.N (by kernel_rfl) bm ?_)));exact (θ o [oH,oH,(hT tI)] (bQ (Mj Er)) (φ (θ o [] bm (ο (ϧ o ab (λj=>up [1,3,6,7,30,31,38] [(39,iV j.1)] [0,1] [(2,.mp (.st (cH .i64 4)) tI j.2.1),(3,.seq tI j.2.2)] 0) (λOv=>(.exit 4,up [1,7,30,31] [] [0] [(3,.seq tI Ov)] 0)) (λOv ab=>(bE (bp (Μ o [] bm (bB (bp (Υ o [] bm λ_ h=>(bM (lN ab h))))))))) λj x15 I JX=>θ o [] bm (Ϻ I (λJY I=>φ (ο (θ o [] bm (bg I λad I=>ac9 ⟨[(1,pV 0 0),(3,aV 1),(6,.one (.fP 2)),(7,aV 3),(8,iV j.1),(30,iV a0.1),(31,iV R.1),(38,iV a0.1),(39,iV j.1)],[(0,.box [iC a0.1,iC a0.2.1,nC a0.2.2.1,.bG (.sl .bool) a0.2.2.2]),(1,.seq tI R.2),(2,.mp (.st (cH .i64 4)) tI j.2.1),(3,.seq tI j.2.2)],4⟩ o (by (refine φ (adP (acB 4 [oH,oH,oH,oH] ⟨[(45,iV (ε R.2 (δ j.1) 0)),(44,.one (.dn 1 (δ j.1) 1 0)),(43,iV j.1),(42,aV 1),(1,pV 0 0),(3,aV 1),(6,.one (.fP 2)),(7,aV 3),(8,iV j.1),(30,iV a0.1),(31,iV R.1),(38,iV a0.1),(39,iV j.1)],[(0,.box [iC a0.1,iC a0.2.1,nC a0.2.2.1,.bG (.sl .bool) a0.2.2.2]),(1,.seq tI R.2),(2,.mp (.st (cH .i64 4)) tI j.2.1),(3,.seq tI j.2.2)],4⟩ o.P o.N (by kernel_rfl) (gH ad (gH (bS ad) bm)) (RG.JE (n:=1) (len:=5) (E:=2) [iC (ε R.2 (δ j.1) 0),iC 0,iC 0,iC 0,iC 0] o rfl rfl rfl (by kernel_rfl) (by kernel_rfl) (by kernel_rfl) (z:= .agg (υ 5 (Value.int .i64 0)).toArray) (by kernel_rfl) (by kernel_rfl) rfl (by kernel_rfl) (RG.PH .i64 5 o rfl rfl rfl (by kernel_rfl) (by kernel_rfl) (by kernel_rfl) (RG.PI (k:= .i64) (n:=5) ([(ε R.2 (δ j.1) 0),0,0,0,0]:GI) o rfl rfl rfl (by kernel_rfl) rfl rfl (show ζ (υ 5 0)=5 from rfl) rfl rfl rfl (aen [1,3,6,7,8,9,30,31,38,39] [] ⟨[(1,pV 0 0),(3,aV 1),(6,.one (.fP 2)),(7,aV 3),(8,iV j.1),(9,.one (.dn 4 0 1 0)),(30,iV a0.1),(31,iV R.1),(38,iV a0.1),(39,iV j.1)],[(4,.seq tI ([(ε R.2 (δ j.1) 0),0,0,0,0]:GI)),(4,.seq tI (υ 5 0)),(0,.box [iC a0.1,iC a0.2.1,nC a0.2.2.1,.bG (.sl .bool) a0.2.2.2]),(1,.seq tI R.2),(2,.mp (.st (cH .i64 4)) tI j.2.1),(3,.seq tI j.2.2)],5⟩ o.P o.N (by kernel_rfl) bm ?_))))));exact (φ (θ o [] bm (ο (ϧ o I (λXH=>up [1,3,6,7,8,9,30,31,38,39,48] [(49,iV XH.1)] [0,1,2,3] [(4,.seq tI XH.2)] 0) (λp=>(.exit 6,up [1,3,6,7,8,9,30,31,38,39] [] [0,1,2,3] [(4,.seq tI p)] 0)) (λp I=>(bE (bp (bg I λae I=>ac9 ⟨[(1,pV 0 0),(3,aV 1),(6,.one (.fP 2)),(7,aV 3),(8,iV j.1),(9,.one (.dn 4 0 1 0)),(30,iV a0.1),(31,iV R.1),(38,iV a0.1),(39,iV j.1)],[(0,.box [iC a0.1,iC a0.2.1,nC a0.2.2.1,.bG (.sl .bool) a0.2.2.2]),(1,.seq tI R.2),(2,.mp (.st (cH .i64 4)) tI j.2.1),(3,.seq tI j.2.2),(4,.seq tI p)],5⟩ o (by (refine φ (adP (acB 1 [oH] ⟨[(64,.one (.fP 2)),(1,pV 0 0),(3,aV 1),(6,.one (.fP 2)),(7,aV 3),(8,iV j.1),(9,.one (.dn 4 0 1 0)),(30,iV a0.1),(31,iV R.1),(38,iV a0.1),(39,iV j.1)],[(0,.box [iC a0.1,iC a0.2.1,nC a0.2.2.1,.bG (.sl .bool) a0.2.2.2]),(1,.seq tI R.2),(2,.mp (.st (cH .i64 4)) tI j.2.1),(3,.seq tI j.2.2),(4,.seq tI p)],5⟩ o.P o.N (by kernel_rfl) bm (RG.Oh (k:= .i64) (n:=5) o rfl rfl rfl (by kernel_rfl) (by kernel_rfl) (by kernel_rfl) rfl rfl ae (RG.Bi (t:=(.st (cH .i64 4))) (u:=tI) (x:=(j8 .i64 4 0 p)) (z:=Value.int .i64 0) (y0:=0) o rfl rfl rfl (by kernel_rfl) (K:=172) (E:=2) (by kernel_rfl) J5 rfl (by kernel_rfl) rfl rfl rfl rfl rfl (aen [1,3,6,7,8,9,11,12,30,31,38,39] [oH,oH,oH,oH,oH] ⟨[(1,pV 0 0),(3,aV 1),(6,.one (.fP 2)),(7,aV 3),(8,iV j.1),(9,.one (.dn 4 0 1 0)),(11,iV ((cr (t:=(.st (cH .i64 4))) (u:=tI) j.2.1 (j8 .i64 4 0 p)).getD 0)),(12,bV ((cr (t:=(.st (cH .i64 4))) (u:=tI) j.2.1 (j8 .i64 4 0 p)).isSome)),(30,iV a0.1),(31,iV R.1),(38,iV a0.1),(39,iV j.1)],[(0,.box [iC a0.1,iC a0.2.1,nC a0.2.2.1,.bG (.sl .bool) a0.2.2.2]),(1,.seq tI R.2),(2,.mp (.st (cH .i64 4)) tI j.2.1),(3,.seq tI j.2.2),(4,.seq tI p)],5⟩ o.P o.N (by kernel_rfl) bm ?_)))));exact (ϰ I (λv25=>up [1,3,6,7,8,30,31,38,39] [(11,iV v25.1)] [0,1,3] [(2,.mp (.st (cH .i64 4)) tI v25.2)] 0) (λv25 I=>bg I λaf I=>Μ o [] (dp af (bS af)) (bB (bp (Υ o [] bm λ_ h=>(bM (lN I h)))))) λ_ U ag=>θ o [] bm (Φ U (λQo U=>ac9 ⟨[(1,pV 0 0),(3,aV 1),(6,.one (.fP 2)),(7,aV 3),(8,iV j.1),(9,.one (.dn 4 0 1 0)),(11,iV ((cr (t:=(.st (cH .i64 4))) (u:=tI) j.2.1 (j8 .i64 4 0 p)).getD 0)),(30,iV a0.1),(31,iV R.1),(38,iV a0.1),(39,iV j.1),(70,bV (!((cr (t:=(.st (cH .i64 4))) (u:=tI) j.2.1 (j8 .i64 4 0 p)).isSome)))],[(0,.box [iC a0.1,iC a0.2.1,nC a0.2.2.1,.bG (.sl .bool) a0.2.2.2]),(1,.seq tI R.2),(2,.mp (.st (cH .i64 4)) tI j.2.1),(3,.seq tI j.2.2),(4,.seq tI p)],5⟩ o (by (refine φ (adP (acB 1 [oH] ⟨[(71,.one (.fP 2)),(1,pV 0 0),(3,aV 1),(6,.one (.fP 2)),(7,aV 3),(8,iV j.1),(9,.one (.dn 4 0 1 0)),(11,iV ((cr (t:=(.st (cH .i64 4))) (u:=tI) j.2.1 (j8 .i64 4 0 p)).getD 0)),(30,iV a0.1),(31,iV R.1),(38,iV a0.1),(39,iV j.1),(70,bV (!((cr (t:=(.st (cH .i64 4))) (u:=tI) j.2.1 (j8 .i64 4 0 p)).isSome)))],[(0,.box [iC a0.1,iC a0.2.1,nC a0.2.2.1,.bG (.sl .bool) a0.2.2.2]),(1,.seq tI R.2),(2,.mp (.st (cH .i64 4)) tI j.2.1),(3,.seq tI j.2.2),(4,.seq tI p)],5⟩ o.P o.N (by kernel_rfl) bm (RG.PG o rfl ⟨rfl,rfl,rfl⟩ rfl rfl (by kernel_rfl) (K:=172) (E:=2) (by kernel_rfl) rfl rfl (aen [1,3,6,7,8,9,11,30,31,38,39] [oH] ⟨[(1,pV 0 0),(3,aV 1),(6,.one (.fP 2)),(7,aV 3),(8,iV j.1),(9,.one (.dn 4 0 1 0)),(11,iV (bn j.2.1)),(30,iV a0.1),(31,iV R.1),(38,iV a0.1),(39,iV j.1)],[(0,.box [iC a0.1,iC a0.2.1,nC a0.2.2.1,.bG (.sl .bool) a0.2.2.2]),(1,.seq tI R.2),(2,.mp (.st (cH .i64 4)) tI j.2.1),(3,.seq tI j.2.2),(4,.seq tI p)],5⟩ o.P o.N (by kernel_rfl) bm ?_))));exact (bg U λJ4 U=>ac9 ⟨[(1,pV 0 0),(3,aV 1),(6,.one (.fP 2)),(7,aV 3),(8,iV j.1),(9,.one (.dn 4 0 1 0)),(11,iV (bn j.2.1)),(30,iV a0.1),(31,iV R.1),(38,iV a0.1),(39,iV j.1)],[(0,.box [iC a0.1,iC a0.2.1,nC a0.2.2.1,.bG (.sl .bool) a0.2.2.2]),(1,.seq tI R.2),(2,.mp (.st (cH .i64 4)) tI j.2.1),(3,.seq tI j.2.2),(4,.seq tI p)],5⟩ o (HT.WX (λhq=>(acB 1 [oH] ⟨[(73,.one (.fP 2)),(1,pV 0 0),(3,aV 1),(6,.one (.fP 2)),(7,aV 3),(8,iV j.1),(9,.one (.dn 4 0 1 0)),(11,iV (bn j.2.1)),(30,iV a0.1),(31,iV R.1),(38,iV a0.1),(39,iV j.1)],[(0,.box [iC a0.1,iC a0.2.1,nC a0.2.2.1,.bG (.sl .bool) a0.2.2.2]),(1,.seq tI R.2),(2,.mp (.st (cH .i64 4)) tI j.2.1),(3,.seq tI j.2.2),(4,.seq tI p)],5⟩ o.P o.N (by kernel_rfl) bm (RG.Oh (k:= .i64) (n:=5) o rfl rfl rfl (by kernel_rfl) (by kernel_rfl) (by kernel_rfl) rfl rfl ae (acB 1 [oH] ⟨[(75,iV (bn j.2.1)),(74,.agg [iC (ε p 0 0),iC (ε p 1 0),iC (ε p 2 0),iC (ε p 3 0),iC (ε p 4 0)]),(73,.one (.fP 2)),(1,pV 0 0),(3,aV 1),(6,.one (.fP 2)),(7,aV 3),(8,iV j.1),(9,.one (.dn 4 0 1 0)),(11,iV (bn j.2.1)),(30,iV a0.1),(31,iV R.1),(38,iV a0.1),(39,iV j.1)],[(0,.box [iC a0.1,iC a0.2.1,nC a0.2.2.1,.bG (.sl .bool) a0.2.2.2]),(1,.seq tI R.2),(2,.mp (.st (cH .i64 4)) tI j.2.1),(3,.seq tI j.2.2),(4,.seq tI p)],5⟩ o.P o.N (by kernel_rfl) bm (RG.qS (t:=(.st (cH .i64 4))) (u:=tI) (x:=(j8 .i64 4 0 p)) (y:=(bn j.2.1)) o (.inl rfl) rfl rfl (K:=172) (E:=2) (by kernel_rfl) J5 rfl rfl rfl rfl rfl rfl rfl J4 (RG.last [] ⟨[(75,iV (bn j.2.1)),(74,.agg [iC (ε p 0 0),iC (ε p 1 0),iC (ε p 2 0),iC (ε p 3 0),iC (ε p 4 0)]),(73,.one (.fP 2)),(1,pV 0 0),(3,aV 1),(6,.one (.fP 2)),(7,aV 3),(8,iV j.1),(9,.one (.dn 4 0 1 0)),(11,iV (bn j.2.1)),(30,iV a0.1),(31,iV R.1),(38,iV a0.1),(39,iV j.1)],[(2,.mp (.st (cH .i64 4)) tI (j.2.1++[((j8 .i64 4 0 p),(bn j.2.1))])),(0,.box [iC a0.1,iC a0.2.1,nC a0.2.2.1,.bG (.sl .bool) a0.2.2.2]),(1,.seq tI R.2),(2,.mp (.st (cH .i64 4)) tI j.2.1),(3,.seq tI j.2.2),(4,.seq tI p)],5⟩ o.P o.N (by kernel_rfl) bm hq)))))) (bp (abi o (ag _ (bt U))))))))) λQo U=>Θ (bp (abi o (ag _ (bt U)))))))))))) λXH x31 J XI=>θ o [] bm (Ϻ J (λXJ J=>φ (ο (θ o [] bm (bc J qX λXC ah J=>bg J λai J=>bg J λMT J=>bg J λMU J=>Μ o (nO 6 [(cl ah)]) (lF ah ai (bS ai) MT (bQ MU)) (bB (bp (Υ o [] bm λ_ h=>(bM (lN J h))))))))) λXJ J=>Ϩ o (bL (bN (XI _ (bw J))))))))))))))) λJY I=>Ϩ o (bL (bN (JX _ (bw I))))))))))))))) λE8 ab=>Ϩ o (bL (bN (Bz _ (bw ab)))))))))))) λs2 ZB aa Qp=>θ o [] bm (Ϻ aa (λJ6 aa=>ϰ aa (λv45=>up [1,3,17,18,19] [] [0] [(1,.seq tI v45)] 0) (λv45 aa=>Υ o [] bm λ_ h=>(bM (lN aa h))) λ_ T aj=>ο (bg T λQq T=>θ o [] (bQ Qq) (θ o [] bm (Φ T (λJ7 T=>bg T λak T=>Υ o [] (dp ak (bS ak)) λ_ h=>(bB (bp (h.ht (aj _ (bt T)))))) λJ7 T=>Θ (bB (bp (abi o (aj _ (bt T))))))))) λJ6 aa=>Ϩ o (bL (bN (Qp _ (bw aa))))))))))
theorem Qr:j5 ν 2 tI:=j5.int (by kernel_rfl)
def iG (a0:GI)(a1:Int)(s1:Int):Option ((Int)⊕(Unit⊕Int)):=
 bif (decide (s1<(bn a0))) then
  br (0<=s1/\s1<bn a0) (
   bif (a1==(ε a0 (δ s1) 0)) then
    some (.inr (.inr s1))
   else
    some (.inl (bz .i64 s1 1)))
 else
  some (.inr (.inl ()))
def dY (a0:GI)(a1:Int):Option (Int):=
 (rounds (iG a0 a1) 0).bind λj=>match j with
  | .inl p=>
   some (-1)
  | .inr o=>
   some o
theorem Qs {a0}{a1}{r}(p:dY a0 a1=some r):CallOK ν 63 [.bZ cC a0,.bZ tI a1] [⟨false,tI,r⟩] []:=
 dB Tryz.func63 rfl λcx o hF=>θ o [] bm (φ (θ o [] bm (ο (ϧ o p (λU=>up [0,1,7] [(8,iV U)] [] [] 0) (λJ=>match J with| .inl r3=>(.exit 0,up [] [] [] [] 0)| .inr r4=>(.ret,up [] [(4,iV r4)] [] [] 0)) (λJ=>match J with| .inl r3=>λp=>(bE (bp (θ o [] bm (by (cases p;exact (Δ (ct bm)))))))| .inr r4=>λp=>by (cases p;exact (bT (bF (ct bm))))) λU x5 j t=>θ o [] bm (Ϻ j (λR j=>φ (ο (θ o [] bm (bg j λT j=>θ o [] (bQ T) (Φ j (λI j=>θ o [] bm (HT.xr o (bT (bF (fp (t _ (bw j))))))) λI j=>Θ (bB (bp (Υ o [] bm λ_ h=>(bM (lN j h)))))))))) λR j=>Ϩ o (bL (bN (t _ (bw j)))))))))
def gp (a0:Int)(a1:GI):Option (Int):=
 (dY a1 a0).bind λj=>
 some j
theorem J8 {a0}{a1}{r}(o:gp a0 a1=some r):CallOK ν 62 [.bZ tI a0,.fZ cC a1] [⟨false,tI,r⟩] []:=
 dB Tryz.func62 rfl λcx p t=>θ p [] bm (bc o Qs λI j o=>θ p [oH,oH,(cl j)] (bQ j) (by (cases o;exact (Δ (ct bm)))))
def jt (a0:Int)(a1:GP)(a2:GI):Option (Bool):=
 (gp a0 a2).bind λj=>
 br (0<=j/\j<bn a1.2.2.2) (
  some (ε a1.2.2.2 (δ j) false))
theorem Qt {a0}{a1}{a2}{r}(j:jt a0 a1 a2=some r):CallOK ν 66 [.bZ tI a0,.fZ (.st gP) a1,.fZ (.cl 62 cC) a2] [⟨false,.bool,r⟩] []:=
 dB Tryz.func66 rfl λcx t I=>θ t [] bm (bc j J8 λJ o j=>bg j λp j=>HT.dg t (nO 4 [(cl o)]) (dp o p) (by (cases j;exact (Δ (ct bm)))))
def ju (a0:Int)(a1:Int)(a2:GI)(a3:GP)(a4:GI):Option (Int):=
 (gp a0 a4).bind λo=>
 (cP (a3.1,a3.2.1,a3.2.2.1,a3.2.2.2) o a1).bind λj=>
 br (0<=j/\j<bn a2) (
  some (ε a2 (δ j) 0))
theorem Qu {a0}{a1}{a2}{a3}{a4}{r}(j:ju a0 a1 a2 a3 a4=some r):CallOK ν 64 [.bZ tI a0,.bZ tI a1,.fZ cC a2,.fZ (.st gP) a3,.fZ (.cl 62 cC) a4] [⟨false,tI,r⟩] []:=
 dB Tryz.func64 rfl λcx I J=>θ I [] bm (bc j J8 λR o j=>bc j qX λT p j=>bg j λt j=>HT.dg I (nO 4 [(cl o),oH,(cl p)]) (ll o p t) (by (cases j;exact (Δ (ct bm)))))
end
end Go.Proofs
