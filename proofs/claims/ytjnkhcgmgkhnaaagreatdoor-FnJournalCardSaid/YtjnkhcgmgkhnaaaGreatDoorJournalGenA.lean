import Derived.Test.YtjnkhcgmgkhnaaaGreatDoorLibE
import Derived.Test.YtjnkhcgmgkhnaaaGreatDoorProg
set_option linter.all false
open BitVec renaming ofInt→Ϙ
open Go.Ide.HT renaming g→θ,block→ο,seq→φ,ret→Δ,skip→Θ,k→Υ,cb→Φ,lp→ϧ,xe→Ϩ,jn→ϰ,re→abi,l→Μ
open Go.IntKind renaming wrap→Ρ,bits→Ϗ
open Go.Lib renaming itoa→ϡ,pow10Tab→ahT
open Go.Proofs.Tryz renaming prog→ν
open Int renaming toNat→δ,tmod→aac
open List renaming getD→ε,length→ζ
open Nat renaming zero_lt_one→Ξ
namespace Go.Proofs
open Go.Ide
noncomputable section
abbrev gQ:Ty:= .pair tI (.pair tI (.pair tI tI))
abbrev GQ:=Int×Int×Int×Int
abbrev GL:=List GQ
abbrev GI:=List Int
abbrev GB:=List UInt8
abbrev GZ:=List Bool
abbrev GP:=Int×Int×GI×GZ
abbrev GM:=Int×Int×GL×GI×GI
abbrev GG:=Int×Int×GL
abbrev gA:Ty:= .sl (.st gQ)
abbrev gM:Ty:= .pair tI (.pair tI (.pair gA (.pair cC cC)))
abbrev gR:Ty:= .pair tI (.pair tI gA)
abbrev gP:Ty:= .pair tI (.pair tI (.pair cC (.sl .bool)))
def rO (a0:GI)(a1:GI):Option (Bool):=
 (show Option (Bool) from
  bif (decide ((bn a0)>48)) then
   some true
  else
   some (decide ((bn a1)>48))).bind λj=>
 some j
theorem TE {a0}{a1}{r}(t:rO a0 a1=some r):CallOK ν 6 [.bZ (.sl (.int .u8)) a0,.bZ (.sl (.int .u8)) a1] [⟨false,.bool,r⟩] []:=
 dB Tryz.func6 rfl λcx I R=>θ I [] bm (ϰ t (λJ=>up [] [(4,bV J)] [] [] 0) (λJ t=>by (cases t;exact (Δ (ct bm)))) λ_ j p=>bb j (λo j=>Υ I [oH,oH,oH,kT] (bQ o) λ_ h=>(bp (h.ht (p _ (bt j))))) λo j=>Υ I [oH,oH,oH,kF] (bQ o) λ_ h=>(bp (h.ht (p _ (bt j)))))
def qU (a0:GI):Option ((GI×Int×Int)):=
 some (a0,0,0)
theorem PR {a0}{r}(o:qU a0=some r):CallOK ν 36 [.bZ (.sl (.int .u8)) a0] [⟨true,(.bx (.st (.pair (.sl (.int .u8)) (.pair tI (.int .u64))))),[r]⟩] []:=
 dB Tryz.func36 rfl λcx j p=>θ j [] bm (θ j [oH,oH,(hT (.st (.pair (.sl (.int .u8)) (.pair tI (.int .u64)))))] bm (by (cases o;exact (Δ (ct bm)))))
def gW (a0:GI×Int×Int):Option (Int×(GI×Int×Int)):=
 (show Option (Int) from
  bif (decide (a0.2.1<(bn a0.1))) then
   br (0<=a0.2.1/\a0.2.1<bn a0.1) (
    some (Ρ .i64 (ε a0.1 (δ a0.2.1) 0)))
  else
   some 0).bind λj=>
 bif (decide ((bz .i64 a0.2.1 1)<=(bn a0.1))) then
  some (j,a0.1,(bz .i64 a0.2.1 1),(bz .u64 (bz .u64 (dX .u64 a0.2.2 6364136223846793005) (Ρ .u64 j)) 1442695040888963407))
 else
  (some (Ρ .i64 (Ρ .u64 (Ϙ (Ϗ .u64) (Int.fdiv (bz .u64 (bz .u64 (dX .u64 a0.2.2 6364136223846793005) (Ρ .u64 j)) 1442695040888963407) (2^(min (δ 40) (Ϗ .u64))))&&& Ϙ (Ϗ .u64) 255).toNat))).bind λo=>
  some (o,a0.1,(bz .i64 a0.2.1 1),(bz .u64 (bz .u64 (dX .u64 a0.2.2 6364136223846793005) (Ρ .u64 j)) 1442695040888963407))
theorem GA {a0}{r}(p:gW a0=some r):CallOK ν 109 [.own (.bx (.st (.pair (.sl (.int .u8)) (.pair tI (.int .u64))))) [a0]] [⟨false,tI,r.1⟩] [⟨(.bx (.st (.pair (.sl (.int .u8)) (.pair tI (.int .u64))))),[r.2]⟩]:=
 dB Tryz.func109 rfl λcx o U=>θ o [] bm (θ o [] bm (ϰ p (λt=>up [0] [(3,iV t)] [0] [] 0) (λt p=>θ o [] (dp (show 0<ζ [a0] from Ξ) (show 0<ζ [a0] from Ξ)) (θ o [] (dp (show 0<ζ [(a0.1,(bz .i64 a0.2.1 1),a0.2.2)] from Ξ) (show 0<ζ [(a0.1,(bz .i64 a0.2.1 1),a0.2.2)] from Ξ)) (φ (HT.dg o [] (dp (show 0<ζ [(a0.1,(bz .i64 a0.2.1 1),(bz .u64 (bz .u64 (dX .u64 a0.2.2 6364136223846793005) (Ρ .u64 t)) 1442695040888963407))] from Ξ) (show 0<ζ [(a0.1,(bz .i64 a0.2.1 1),(bz .u64 (bz .u64 (dX .u64 a0.2.2 6364136223846793005) (Ρ .u64 t)) 1442695040888963407))] from Ξ)) (Φ p (λJ p=>θ o [] bm (by (cases p;exact (Δ (bF (ct (bQ (show ζ ([(a0.1,(bz .i64 a0.2.1 1),(bz .u64 (bz .u64 (dX .u64 a0.2.2 6364136223846793005) (Ρ .u64 t)) 1442695040888963407))])=ζ [a0] from rfl)))))))) λJ p=>Θ (bp (θ o [] (dp (show 0<ζ [(a0.1,(bz .i64 a0.2.1 1),(bz .u64 (bz .u64 (dX .u64 a0.2.2 6364136223846793005) (Ρ .u64 t)) 1442695040888963407))] from Ξ) (show (0:Int)<=40 from by decide)) (bq p λp=>by (cases p;exact (Δ (ct (bQ (show ζ ([(a0.1,(bz .i64 a0.2.1 1),(bz .u64 (bz .u64 (dX .u64 a0.2.2 6364136223846793005) (Ρ .u64 t)) 1442695040888963407))])=ζ [a0] from rfl))))))))))))) λ_ j I=>HT.dg o [] (dp (show 0<ζ [a0] from Ξ) (show 0<ζ [a0] from Ξ)) (Φ j (λR j=>bg j λT j=>HT.dk o [] (ll (show 0<ζ [a0] from Ξ) (show 0<ζ [a0] from Ξ) T) λ_ h=>(bp (h.ht (I _ (bt j))))) λR j=>Θ (bp (abi o (I _ (bt j)))))))
def bA (a0:GI×Int×Int)(a1:Int):Option (Int×(GI×Int×Int)):=
 bif (decide (a1<=1)) then
  some (0,a0)
 else
  (gW a0).bind λo=>
  (show Option (Int×(GI×Int×Int)) from
   bif (decide (a1>200)) then
    (gW o.2).bind λj=>
    some ((bz .i64 (dX .i64 o.1 256) j.1),j.2)
   else
    some (o.1,o.2)).bind λp=>
  br (a1≠0) (
   some ((aac p.1 a1),p.2))
theorem eo {a0}{a1}{r}(o:bA a0 a1=some r):CallOK ν 73 [.own (.bx (.st (.pair (.sl (.int .u8)) (.pair tI (.int .u64))))) [a0],.bZ tI a1] [⟨false,tI,r.1⟩] [⟨(.bx (.st (.pair (.sl (.int .u8)) (.pair tI (.int .u64))))),[r.2]⟩]:=
 dB Tryz.func73 rfl λcx p hF=>θ p [] bm (φ (θ p [] bm (Φ o (λT o=>θ p [] bm (by (cases o;exact (Δ (bF (ct (bQ (show ζ ([a0])=ζ [a0] from rfl)))))))) λT o=>Θ (bp (bc o GA λy2 I o=>θ p [oH,(cl I)] (bQ I) (ϰ o (λR=>up [1] [(5,iV R.1)] [] [(0,.seq (.st (.pair (.sl (.int .u8)) (.pair tI (.int .u64)))) ([R.2]))] 0) (λR o=>bg o λU o=>θ p [] (bQ U) (by (cases o;exact (Δ (ct (bQ (show ζ ([R.2])=ζ [a0] from rfl))))))) λ_ j J=>θ p [] bm (Φ j (λaa j=>bc j GA λab t j=>Υ p [oH,oH,oH,(cl t)] (bQ t) λ_ h=>(bp (h.ht (J _ (bt j))))) λaa j=>Θ (bp (abi p (J _ (bt j)))))))))))
def gX (s1:Int×GI):Option ((Int×GI)⊕GI):=
 (show Option (Bool) from
  bif ((bn s1.2)==0) then
   some true
  else
   some (s1.1 != 0)).bind λo=>
 bif o then
  (show Option (Int) from
   bif (decide ((aac s1.1 10)<0)) then
    some (Ρ .i64 (0 - (aac s1.1 10)))
   else
    some (aac s1.1 10)).bind λj=>
  br (ζ ([(Ρ .u8 (bz .i64 48 j))]:GI)+ζ s1.2<=bD) (
   some (.inl ((Ρ .i64 (Int.tdiv s1.1 10)),(([(Ρ .u8 (bz .i64 48 j))]:GI)++s1.2))))
 else
  some (.inr s1.2)
def jF (a0:Int):Option GB:=
 (rounds (gX) (a0,([]:GI))).bind λj=>
 (show Option GI from
  bif (decide (a0<0)) then
   br (ζ ([45]:GI)+ζ j<=bD) (
    some (([45]:GI)++j))
  else
   some j).bind λo=>
 some (gy o)
theorem Bp {a0}{r}(U:jF a0=some r):CallOK ν 110 [.bZ tI a0] [⟨false,.str,r⟩] []:=
 dB Tryz.func110 rfl λcx o hF=>θ o [] bm (θ o [] bm (θ o [] bm (φ (ο (ϧ o U (λs1=>up [0] [(3,aV 2),(4,iV s1.1)] [] [(2,.seq (.int .u8) s1.2)] 3) (λr3=>(.exit 0,up [0] [(3,aV 2)] [] [(2,.seq (.int .u8) r3)] 3)) (λr3 U=>(bE (bp (ϰ U (λv5=>up [] [(3,aV 4)] [] [(4,.seq (.int .u8) v5)] 2) (λv5 U=>θ o [] bm (by (cases U;exact (Δ (ct bm))))) λ_ I aa=>θ o [] bm (Φ I (λPS I=>bg I λPT I=>Υ o [(hT (.int .u8)),oH,(hT (.int .u8))] (bQ PT) λ_ h=>(bp (h.ht (aa _ (bt I))))) λPS I=>Θ (bp (abi o (aa _ (bt I))))))))) λs1 Zp j ab=>φ (ϰ j (λad=>up [0,3,4] [(14,bV ad)] [2] [] 0) (λad j=>Φ j (λae j=>Θ (bp (ο (θ o [] (bQ (show (10:Int)≠0 from by decide)) (ϰ j (λaf=>up [0,3,4] [(5,iV af)] [2] [] 0) (λaf j=>bg j λag j=>θ o [oH,oH,oH,(hT (.int .u8)),oH,(hT (.int .u8))] (bQ ag) (Υ o [] (bQ (show (10:Int)≠0 from by decide)) λ_ h=>(bB (bM (lN j h))))) λ_ p R=>θ o [] bm (Φ p (λah p=>Υ o [] bm λ_ h=>(bp (h.ht (R _ (bt p))))) λah p=>Θ (bp (abi o (R _ (bt p)))))))))) λae j=>Ϩ o (bL (bN (ab _ (bw j))))) λ_ t T=>bb t (λJ t=>Υ o [oH,oH,oH,kT] (bQ J) λ_ h=>(bp (h.ht (T _ (bt t))))) λJ t=>Υ o [oH,oH,oH,kF] (bQ J) λ_ h=>(bp (h.ht (T _ (bt t))))))))))
def c8 (a0:GI×Int×Int)(a1:List GB):Option (GB×(GI×Int×Int)):=
 (bA a0 (bn a1)).bind λj=>
 br (0<=j.1/\j.1<bn a1) (
  some ((ε a1 (δ j.1) ([]:GB)),j.2))
theorem qV {a0}{a1}{r}(j:c8 a0 a1=some r):CallOK ν 111 [.own (.bx (.st (.pair (.sl (.int .u8)) (.pair tI (.int .u64))))) [a0],.bZ (.sl .str) a1] [⟨false,.str,r.1⟩] [⟨(.bx (.st (.pair (.sl (.int .u8)) (.pair tI (.int .u64))))),[r.2]⟩]:=
 dB Tryz.func111 rfl λcx t J=>θ t [] bm (bc j eo λI o j=>bg j λp j=>θ t (nO 4 [(cl o)]) (dp o p) (by (cases j;exact (Δ (ct (bQ (show ζ ([I.2])=ζ [a0] from rfl)))))))
def cQ (a0:GI×Int×Int)(a1:Int):Option (Bool×(GI×Int×Int)):=
 (bA a0 a1).bind λj=>
 some ((j.1==0),j.2)
theorem uL {a0}{a1}{r}(o:cQ a0 a1=some r):CallOK ν 147 [.own (.bx (.st (.pair (.sl (.int .u8)) (.pair tI (.int .u64))))) [a0],.bZ tI a1] [⟨false,.bool,r.1⟩] [⟨(.bx (.st (.pair (.sl (.int .u8)) (.pair tI (.int .u64))))),[r.2]⟩]:=
 dB Tryz.func147 rfl λcx p I=>θ p [] bm (bc o eo λt j o=>θ p [oH,oH,(cl j)] (bQ j) (by (cases o;exact (Δ (ct (bQ (show ζ ([t.2])=ζ [a0] from rfl)))))))
def gf (a1:Int)(j:Int×(GI×Int×Int)×GI×GI):Option ((Int×(GI×Int×Int)×GI×GI)⊕(((GI×Int×Int)×GI×GI))):=
 bif (decide (j.1<a1)) then
  (show Option (Int×(GI×Int×Int)) from
   (show Option (Bool×(GI×Int×Int)) from
    bif (j.1==0) then
     some (true,j.2.1)
    else
     (cQ j.2.1 5).bind λI=>
     some (I.1,I.2)).bind λp=>
   bif p.1 then
    (bA p.2 4).bind λJ=>
    some (J.1,J.2)
   else
    some ((-1),p.2)).bind λo=>
  (show Option (Int×(GI×Int×Int)) from
   (show Option (Bool×(GI×Int×Int)) from
    bif (j.1==(bW .i64 a1 1)) then
     some (true,o.2)
    else
     (cQ o.2 4).bind λR=>
     some (R.1,R.2)).bind λr=>
   bif r.1 then
    (bA r.2 4).bind λT=>
    some (T.1,T.2)
   else
    some ((-1),r.2)).bind λt=>
  br (ζ j.2.2.1+ζ ([o.1]:GI)<=bD) (
   br (ζ j.2.2.2+ζ ([t.1]:GI)<=bD) (
    some (.inl ((bz .i64 j.1 1),t.2,(j.2.2.1++([o.1]:GI)),(j.2.2.2++([t.1]:GI))))))
 else
  some (.inr (j.2.1,j.2.2.1,j.2.2.2))
def gg (a1:Int)(a2:Int)(a3:Bool)(o:Int×(GI×Int×Int)×GL):Option ((Int×(GI×Int×Int)×GL)⊕(((GI×Int×Int)×GL))):=
 bif (decide (o.1>0)) then
  (bA o.2.1 a1).bind λp=>
  (bA p.2 a1).bind λr=>
  (bA r.2 a2).bind λJ=>
  (bA J.2 9).bind λj=>
  (show Option ((GI×Int×Int)×Int) from
   (show Option (Bool×(GI×Int×Int)) from
    bif a3 then
     (cQ j.2 5).bind λR=>
     some (R.1,R.2)
    else
     some (false,j.2)).bind λt=>
   bif t.1 then
    some (t.2,(-1))
   else
    some (t.2,J.1)).bind λI=>
  br (ζ o.2.2+ζ ([(p.1,r.1,I.2,j.1)]:GL)<=bD) (
   some (.inl ((bW .i64 o.1 1),I.1,(o.2.2++([(p.1,r.1,I.2,j.1)]:GL)))))
 else
  some (.inr (o.2.1,o.2.2))
def lG (a0:GI×Int×Int)(a1:Int)(a2:Int)(a3:Bool):Option (GM×(GI×Int×Int)):=
 (bA a0 (bz .i64 (dX .i64 2 a1) 2)).bind λo=>
 (rounds (gg a1 a2 a3) ((bz .i64 1 o.1),o.2,([]:GL))).bind λp=>
 (rounds (gf a1) (0,p.1,([]:GI),([]:GI))).bind λj=>
 some ((a1,a2,p.2,j.2.1,j.2.2),j.1)
theorem Ms {a0}{a1}{a2}{a3}{r}(hr:lG a0 a1 a2 a3=some r):CallOK ν 123 [.own (.bx (.st (.pair (.sl (.int .u8)) (.pair tI (.int .u64))))) [a0],.bZ tI a1,.bZ tI a2,.bZ .bool a3] [⟨true,(.st gM),r.1⟩] [⟨(.bx (.st (.pair (.sl (.int .u8)) (.pair tI (.int .u64))))),[r.2]⟩]:=
 dB Tryz.func123 rfl λcx p hF=>θ p [] bm (θ p [] bm (φ (bc hr eo λy1 vt hr=>θ p (nO 4 [(cl vt)]) (bQ vt) (ο (ϧ p hr (λs3=>up [0,1,2,3,8,9] [(10,iV s3.1)] [1] [(0,.seq (.st (.pair (.sl (.int .u8)) (.pair tI (.int .u64)))) ([s3.2.1])),(2,.box [iC a1,iC a2,.all 6,.bH,.bH]),(6,.seq (.st gQ) s3.2.2)] 4) (λr5=>(.exit 0,up [0,1,8,9] [] [1] [(0,.seq (.st (.pair (.sl (.int .u8)) (.pair tI (.int .u64)))) ([r5.1])),(2,.box [iC a1,iC a2,.all 6,.bH,.bH]),(6,.seq (.st gQ) r5.2)] 4)) (λr5 hr=>(bE (bp (φ (θ p [] bm (ο (ϧ p hr (λs6=>up [0,1,8,9] [(12,iV s6.1)] [1,6] [(0,.seq (.st (.pair (.sl (.int .u8)) (.pair tI (.int .u64)))) ([s6.2.1])),(2,.box [iC a1,iC a2,.all 6,.all 11,.all 12]),(11,.seq tI s6.2.2.1),(12,.seq tI s6.2.2.2)] 6) (λr8=>(.exit 2,up [8,9] [] [1,6] [(0,.seq (.st (.pair (.sl (.int .u8)) (.pair tI (.int .u64)))) ([r8.1])),(2,.box [iC a1,iC a2,.all 6,.all 11,.all 12]),(11,.seq tI r8.2.1),(12,.seq tI r8.2.2)] 6)) (λr8 hr=>(bE (bp (θ p [] bm (by (cases hr;exact (Δ (ct (bQ (show ζ ([r8.1])=ζ [a0] from rfl)))))))))) λs6 x9 o Xe=>φ (θ p [] bm (Φ o (λXf o=>Θ (bp (φ (ο (θ p [] bm (θ p [] bm (ϰ o (λXg=>up [0,1,8,9,12,14] [(13,iV Xg.1)] [1,2,6,11,12] [(0,.seq (.st (.pair (.sl (.int .u8)) (.pair tI (.int .u64)))) ([Xg.2]))] 0) (λXg o=>ϰ o (λRW=>up [0,1,8,9,12,13] [(14,iV RW.1)] [1,2,6,11,12] [(0,.seq (.st (.pair (.sl (.int .u8)) (.pair tI (.int .u64)))) ([RW.2]))] 0) (λRW o=>bg o λPU o=>θ p [oH,oH,oH,(hT tI),(hT tI)] (bQ PU) (bg o λDx o=>Μ p [oH,oH,oH,(hT tI),(hT tI)] (bQ Dx) (bB (bp (Υ p [] bm λ_ h=>(bM (lN o h))))))) λ_ t ae=>ϰ t (λv24=>up [0,1,8,9,12,13,14] [(76,bV v24.1)] [1,2,6,11,12] [(0,.seq (.st (.pair (.sl (.int .u8)) (.pair tI (.int .u64)))) ([v24.2]))] 0) (λv24 t=>Φ t (λPV t=>bc t eo λy28 af t=>Υ p [oH,(cl af)] (bQ af) λ_ h=>(bp (h.ht (ae _ (bt t))))) λPV t=>Θ (bp (abi p (ae _ (bt t))))) λ_ J ag=>bb J (λaa J=>Υ p (nO 4 [kT]) (bQ aa) λ_ h=>(bp (h.ht (ag _ (bt J))))) λaa J=>bc J uL λVe ah J=>Υ p (nO 4 [kF,oH,(cl ah)]) (dp aa ah) λ_ h=>(bp (h.ht (ag _ (bt J))))) λ_ I ai=>ϰ I (λLo=>up [0,1,8,9,12,13,14] [(66,bV Lo.1)] [1,2,6,11,12] [(0,.seq (.st (.pair (.sl (.int .u8)) (.pair tI (.int .u64)))) ([Lo.2]))] 0) (λLo I=>Φ I (λPW I=>bc I eo λXh aj I=>Υ p [oH,(cl aj)] (bQ aj) λ_ h=>(bp (h.ht (ai _ (bt I))))) λPW I=>Θ (bp (abi p (ai _ (bt I))))) λ_ R ak=>bb R (λab R=>Υ p [oH,oH,kT] (bQ ab) λ_ h=>(bp (h.ht (ak _ (bt R))))) λab R=>bc R uL λPX al R=>Υ p [oH,oH,kF,oH,(cl al)] (dp ab al) λ_ h=>(bp (h.ht (ak _ (bt R))))))))))) λXf o=>Ϩ p (bL (bN (Xe _ (bw o))))))))))))) λs3 x43 j Xi=>φ (θ p [] bm (Φ j (λXj j=>Θ (bp (φ (ο (bc j eo λZq an j=>θ p [oH,oH,(cl an)] (bQ an) (bc j eo λZr ao j=>θ p [oH,oH,(cl ao)] (bQ ao) (bc j eo λy51 aq j=>θ p [oH,oH,(cl aq)] (bQ aq) (bc j eo λy53 ar j=>θ p [oH,(cl ar)] (bQ ar) (ϰ j (λXk=>up [0,1,2,3,8,9,10,11] [] [1,2,6] [(0,.seq (.st (.pair (.sl (.int .u8)) (.pair tI (.int .u64)))) ([Xk.1])),(7,.box [iC Zq.1,iC Zr.1,iC Xk.2,iC y53.1])] 0) (λXk j=>bg j λPY j=>Μ p [oH,oH,oH,(hT (.st gQ)),(hT (.st gQ))] (bQ PY) (bB (bp (Υ p [] bm λ_ h=>(bM (lN j h)))))) λ_ T au=>ϰ T (λXl=>up [0,1,2,3,8,9,10,11] [(48,bV Xl.1)] [1,2,7,6] [(0,.seq (.st (.pair (.sl (.int .u8)) (.pair tI (.int .u64)))) ([Xl.2]))] 0) (λXl T=>Φ T (λXm T=>Υ p [] bm λ_ h=>(bp (h.ht (au _ (bt T))))) λXm T=>Θ (bp (abi p (au _ (bt T))))) λ_ U av=>bb U (λad U=>bc U uL λy66 aw U=>Υ p [oH,kT,oH,(cl aw)] (dp ad aw) λ_ h=>(bp (h.ht (av _ (bt U))))) λad U=>Υ p [oH,kF] (bQ ad) λ_ h=>(bp (h.ht (av _ (bt U))))))))))))) λXj j=>Ϩ p (bL (bN (Xi _ (bw j)))))))))))
def gI (a0:GI×Int×Int):Option (GM×(GI×Int×Int)):=
 (bA a0 4).bind λo=>
 (bA o.2 3).bind λp=>
 (lG p.2 (bz .i64 1 o.1) (bz .i64 1 p.1) true).bind λj=>
 some ((j.1.1,j.1.2.1,j.1.2.2.1,j.1.2.2.2.1,j.1.2.2.2.2),j.2)
theorem PZ {a0}{r}(j:gI a0=some r):CallOK ν 85 [.own (.bx (.st (.pair (.sl (.int .u8)) (.pair tI (.int .u64))))) [a0]] [⟨true,(.st gM),r.1⟩] [⟨(.bx (.st (.pair (.sl (.int .u8)) (.pair tI (.int .u64))))),[r.2]⟩]:=
 dB Tryz.func85 rfl λcx I R=>θ I [] bm (bc j eo λT o j=>θ I [oH,(cl o)] (bQ o) (bc j eo λU p j=>θ I [oH,(cl p)] (bQ p) (bc j Ms λJ t j=>θ I [oH,oH,oH,(cl t)] (bQ t) (by (cases j;exact (Δ (ct (bQ (show ζ ([J.2])=ζ [a0] from rfl)))))))))
def iS (a0:GI)(j:GB×Int):Option ((GB×Int)⊕GB):=
 bif (decide (j.2<(bn a0))) then
  br (0<=j.2/\j.2<bn a0) (
   (jF (ε a0 (δ j.2) 0)).bind λo=>
   br (ζ ([44]:GB)+ζ o<=bD) (
    br (ζ j.1+ζ (([44]:GB)++o)<=bD) (
     some (.inl ((j.1++(([44]:GB)++o)),(bz .i64 j.2 1))))))
 else
  some (.inr j.1)
def dx (a0:GI):Option GB:=
 bif ((bn a0)==0) then
  some ([110,111,110,101]:GB)
 else
  br ((0:Int)<=0/\0<bn a0) (
   (jF (ε a0 (δ 0) 0)).bind λj=>
   (rounds (iS a0) (j,1)).bind λo=>
   some o)
theorem ou {a0}{r}(o:dx a0=some r):CallOK ν 115 [.bZ cC a0] [⟨false,.str,r⟩] []:=
 dB Tryz.func115 rfl λcx p hF=>θ p [] bm (φ (θ p [] bm (Φ o (λab o=>θ p [] bm (by (cases o;exact (Δ (bF (ct bm)))))) λab o=>Θ (bp (bg o λad o=>bc o Bp λy3 I o=>θ p [oH,oH,oH,(cl I)] (dp ad I) (φ (θ p [] bm (ο (ϧ p o (λs5=>up [0] [(3,.one (.bG .str s5.1)),(4,iV s5.2)] [] [] 0) (λr7=>(.exit 0,up [] [(3,.one (.bG .str r7))] [] [] 0)) (λr7 o=>(bE (bp (θ p [] bm (by (cases o;exact (Δ (ct bm)))))))) λs5 x8 j J=>φ (θ p [] bm (Φ j (λR j=>Θ (bp (φ (ο (bg j λT j=>bc j Bp λVf t j=>bg j λU j=>bg j λaa j=>Μ p (nO 5 [(cl t)]) (nZ T t U aa) (bB (bp (Υ p [] bm λ_ h=>(bM (lN j h)))))))))) λR j=>Ϩ p (bL (bN (J _ (bw j)))))))))))))))
def kA (a0:GL)(s1:Int×GI):Option ((Int×GI)⊕GI):=
 bif (decide (s1.1<(bn a0))) then
  br (0<=s1.1/\s1.1<bn a0) (
   br (ζ s1.2+ζ ([(ε a0 (δ s1.1) (0,0,0,0)).1,((ε a0 (δ s1.1) (0,0,0,0)).2).1,(((ε a0 (δ s1.1) (0,0,0,0)).2).2).1,(((ε a0 (δ s1.1) (0,0,0,0)).2).2).2]:GI)<=bD) (
    some (.inl ((bz .i64 s1.1 1),(s1.2++([(ε a0 (δ s1.1) (0,0,0,0)).1,((ε a0 (δ s1.1) (0,0,0,0)).2).1,(((ε a0 (δ s1.1) (0,0,0,0)).2).2).1,(((ε a0 (δ s1.1) (0,0,0,0)).2).2).2]:GI))))))
 else
  some (.inr s1.2)
def ov (a0:GL):Option GI:=
 (rounds (kA a0) (0,([]:GI))).bind λj=>
 some j
theorem Mt {a0}{r}(t:ov a0=some r):CallOK ν 141 [.bZ gA a0] [⟨true,cC,r⟩] []:=
 dB Tryz.func141 rfl λcx o hF=>θ o [] bm (θ o [] bm (φ (θ o [] bm (ο (ϧ o t (λI=>up [0] [(3,aV 2),(4,iV I.1)] [] [(2,.seq tI I.2)] 3) (λU=>(.exit 0,up [] [(3,aV 2)] [] [(2,.seq tI U)] 3)) (λU t=>(bE (bp (θ o [] bm (by (cases t;exact (Δ (ct bm)))))))) λI x4 j J=>φ (θ o [] bm (Φ j (λR j=>Θ (bp (φ (ο (bg j λp j=>bg j λT j=>HT.dl o (nO 21 [(hT tI),(hT tI)]) (lF p p p p (bQ T)) (bB (bp (Υ o [] bm λ_ h=>(bM (lN j h)))))))))) λR j=>Ϩ o (bL (bN (J _ (bw j)))))))))))
def kB (a0:GM):Option GB:=
 (dx ([a0.1,a0.2.1]:GI)).bind λj=>
 br (ζ j+ζ ([59]:GB)<=bD) (
  (dx a0.2.2.2.1).bind λo=>
  br (ζ (j++([59]:GB))+ζ o<=bD) (
   br (ζ ((j++([59]:GB))++o)+ζ ([59]:GB)<=bD) (
    (dx a0.2.2.2.2).bind λr=>
    br (ζ (((j++([59]:GB))++o)++([59]:GB))+ζ r<=bD) (
     br (ζ ((((j++([59]:GB))++o)++([59]:GB))++r)+ζ ([59]:GB)<=bD) (
      (ov a0.2.2.1).bind λt=>
      (dx t).bind λp=>
      br (ζ (((((j++([59]:GB))++o)++([59]:GB))++r)++([59]:GB))+ζ p<=bD) (
       (some ((((((j++([59]:GB))++o)++([59]:GB))++r)++([59]:GB))++p)).bind λI=>
       some I))))))
theorem Mu {a0}{r}(j:kB a0=some r):CallOK ν 112 [.fZ (.st gM) a0] [⟨false,.str,r⟩] []:=
 dB Tryz.func112 rfl λcx hX hF=>θ hX [] bm (bc j ou λy1 t j=>bg j λaa j=>bc j ou λy4 I j=>bg j λab j=>bg j λad j=>bc j ou λy8 J j=>bg j λR j=>bg j λT j=>bc j Mt λyu o j=>bc j ou λRX p j=>bg j λU j=>HT.dg hX (nO 8 [(hT tI),(cl t),oH,oH,oH,oH,oH,(cl I),oH,oH,oH,oH,oH,oH,(cl J),oH,oH,oH,oH,oH,oH,(cl o),(cl p)]) (lF t aa I ab (lF ad J R T (ll o p U))) (bq j λj=>by (cases j;exact (Δ (ct bm)))))
def fT (a1:Int)(j:Int×(GI×Int×Int)×GZ):Option ((Int×(GI×Int×Int)×GZ)⊕(((GI×Int×Int)×GZ))):=
 bif (decide (j.1<a1)) then
  (cQ j.2.1 3).bind λo=>
  br (ζ j.2.2+ζ ([o.1]:GZ)<=bD) (
   some (.inl ((bz .i64 j.1 1),o.2,(j.2.2++([o.1]:GZ)))))
 else
  some (.inr (j.2.1,j.2.2))
def fU (a1:Int)(s1:Int×(GI×Int×Int)×GI):Option ((Int×(GI×Int×Int)×GI)⊕(((GI×Int×Int)×GI))):=
 bif (decide (s1.1>0)) then
  (bA s1.2.1 a1).bind λj=>
  br (ζ s1.2.2+ζ ([j.1]:GI)<=bD) (
   some (.inl ((bW .i64 s1.1 1),j.2,(s1.2.2++([j.1]:GI)))))
 else
  some (.inr (s1.2.1,s1.2.2))
def fq (a0:GI×Int×Int)(a1:Int)(a2:Int):Option (GP×(GI×Int×Int)):=
 (rounds (fU a1) ((dX .i64 a1 a2),a0,([]:GI))).bind λj=>
 (rounds (fT a1) (0,j.1,([]:GZ))).bind λo=>
 some ((a1,a2,j.2,o.2),o.1)
theorem Mv {a0}{a1}{a2}{r}(J:fq a0 a1 a2=some r):CallOK ν 124 [.own (.bx (.st (.pair (.sl (.int .u8)) (.pair tI (.int .u64))))) [a0],.bZ tI a1,.bZ tI a2] [⟨true,(.st gP),r.1⟩] [⟨(.bx (.st (.pair (.sl (.int .u8)) (.pair tI (.int .u64))))),[r.2]⟩]:=
 dB Tryz.func124 rfl λcx p hF=>θ p [] bm (θ p [] bm (φ (θ p [] bm (ο (ϧ p J (λs1=>up [0,1,6,7] [(8,iV s1.1)] [1] [(0,.seq (.st (.pair (.sl (.int .u8)) (.pair tI (.int .u64)))) ([s1.2.1])),(2,.box [iC a1,iC a2,.all 5,.bH]),(5,.seq tI s1.2.2)] 3) (λr3=>(.exit 0,up [0,1,6,7] [] [1] [(0,.seq (.st (.pair (.sl (.int .u8)) (.pair tI (.int .u64)))) ([r3.1])),(2,.box [iC a1,iC a2,.all 5,.bH]),(5,.seq tI r3.2)] 3)) (λr3 J=>(bE (bp (φ (θ p [] bm (ο (ϧ p J (λs4=>up [0,1,6,7] [(9,iV s4.1)] [1,5] [(0,.seq (.st (.pair (.sl (.int .u8)) (.pair tI (.int .u64)))) ([s4.2.1])),(2,.box [iC a1,iC a2,.all 5,.all 8]),(8,.seq .bool s4.2.2)] 3) (λr6=>(.exit 2,up [6,7] [] [1,5] [(0,.seq (.st (.pair (.sl (.int .u8)) (.pair tI (.int .u64)))) ([r6.1])),(2,.box [iC a1,iC a2,.all 5,.all 8]),(8,.seq .bool r6.2)] 3)) (λr6 J=>(bE (bp (θ p [] bm (by (cases J;exact (Δ (ct (bQ (show ζ ([r6.1])=ζ [a0] from rfl)))))))))) λs4 x7 o Mw=>φ (θ p [] bm (Φ o (λR o=>Θ (bp (φ (ο (bc o uL λLp t o=>bg o λT o=>HT.dl p [oH,oH,oH,(cl t),(hT .bool),(hT .bool)] (dp t T) (bB (bp (Υ p [] bm λ_ h=>(bM (lN o h)))))))))) λR o=>Ϩ p (bL (bN (Mw _ (bw o))))))))))))) λs1 Vg j U=>φ (θ p [] bm (Φ j (λaa j=>Θ (bp (φ (ο (bc j eo λXn I j=>bg j λab j=>HT.dl p (nO 4 [(cl I),(hT tI),(hT tI)]) (dp I ab) (bB (bp (Υ p [] bm λ_ h=>(bM (lN j h)))))))))) λaa j=>Ϩ p (bL (bN (U _ (bw j)))))))))))
def gJ (a0:GI×Int×Int):Option (GP×(GI×Int×Int)):=
 (bA a0 6).bind λo=>
 (bA o.2 3).bind λp=>
 (fq p.2 (bz .i64 1 o.1) (bz .i64 1 p.1)).bind λj=>
 some ((j.1.1,j.1.2.1,j.1.2.2.1,j.1.2.2.2),j.2)
theorem P0 {a0}{r}(j:gJ a0=some r):CallOK ν 86 [.own (.bx (.st (.pair (.sl (.int .u8)) (.pair tI (.int .u64))))) [a0]] [⟨true,(.st gP),r.1⟩] [⟨(.bx (.st (.pair (.sl (.int .u8)) (.pair tI (.int .u64))))),[r.2]⟩]:=
 dB Tryz.func86 rfl λcx I R=>θ I [] bm (bc j eo λT o j=>θ I [oH,(cl o)] (bQ o) (bc j eo λU p j=>θ I [oH,(cl p)] (bQ p) (bc j Mv λJ t j=>θ I [oH,oH,oH,(cl t)] (bQ t) (by (cases j;exact (Δ (ct (bQ (show ζ ([J.2])=ζ [a0] from rfl)))))))))
def ql (a0:GP)(j:GB×Int):Option ((GB×Int)⊕GB):=
 bif (decide (j.2<(bn a0.2.2.2))) then
  (show Option GB from
   br (0<=j.2/\j.2<bn a0.2.2.2) (
    bif (ε a0.2.2.2 (δ j.2) false) then
     br (ζ j.1+ζ ([49]:GB)<=bD) (
      some (j.1++([49]:GB)))
    else
     br (ζ j.1+ζ ([48]:GB)<=bD) (
      some (j.1++([48]:GB))))).bind λo=>
  some (.inl (o,(bz .i64 j.2 1)))
 else
  some (.inr j.1)
def nb (a0:GP):Option GB:=
 (dx ([a0.1,a0.2.1]:GI)).bind λj=>
 br (ζ j+ζ ([59]:GB)<=bD) (
  (dx a0.2.2.1).bind λo=>
  br (ζ (j++([59]:GB))+ζ o<=bD) (
   br (ζ ((j++([59]:GB))++o)+ζ ([59]:GB)<=bD) (
    (rounds (ql a0) ((((j++([59]:GB))++o)++([59]:GB)),0)).bind λp=>
    some p)))
theorem Mx {a0}{r}(p:nb a0=some r):CallOK ν 113 [.fZ (.st gP) a0] [⟨false,.str,r⟩] []:=
 dB Tryz.func113 rfl λcx t hF=>θ t [] bm (bc p ou λy1 J p=>bg p λah p=>bc p ou λy4 R p=>bg p λai p=>bg p λaj p=>HT.dg t (nO 8 [(hT tI),(cl J),oH,oH,oH,oH,oH,(cl R)]) (lF J ah R ai (bQ aj)) (φ (θ t [] bm (ο (ϧ t p (λs8=>up [0] [(3,.one (.bG .str s8.1)),(4,iV s8.2)] [] [] 0) (λT=>(.exit 0,up [] [(3,.one (.bG .str T))] [] [] 0)) (λT p=>(bE (bp (θ t [] bm (by (cases p;exact (Δ (ct bm)))))))) λs8 Vh o U=>φ (θ t [] bm (Φ o (λaa o=>Θ (bp (ϰ o (λab=>up [0,4] [(3,.one (.bG .str ab))] [] [] 0) (λab o=>Υ t [] bm λ_ h=>(bM (lN o h))) λ_ j I=>ο (bg j λad j=>θ t [] (bQ ad) (Φ j (λae j=>bg j λaf j=>Υ t [] (bQ af) λ_ h=>(bB (bp (h.ht (I _ (bt j)))))) λae j=>bg j λag j=>Υ t [] (bQ ag) λ_ h=>(bB (bp (h.ht (I _ (bt j)))))))))) λaa o=>Ϩ t (bL (bN (U _ (bw o)))))))))))
def jG (a1:Int)(a2:Int)(j:Int×(GI×Int×Int)×GL):Option ((Int×(GI×Int×Int)×GL)⊕(((GI×Int×Int)×GL))):=
 bif (decide (j.1>0)) then
  (bA j.2.1 a1).bind λo=>
  (bA o.2 a2).bind λt=>
  (show Option ((GI×Int×Int)×Int×Int) from
   (cQ t.2 2).bind λp=>
   bif p.1 then
    (bA p.2 a1).bind λI=>
    (bA I.2 a1).bind λJ=>
    some (J.2,I.1,J.1)
   else
    some (p.2,t.1,(-1))).bind λv20=>
  (bA v20.1 6).bind λr=>
  br (ζ j.2.2+ζ ([(o.1,v20.2.1,v20.2.2,r.1)]:GL)<=bD) (
   some (.inl ((bW .i64 j.1 1),r.2,(j.2.2++([(o.1,v20.2.1,v20.2.2,r.1)]:GL)))))
 else
  some (.inr (j.2.1,j.2.2))
def lH (a0:GI×Int×Int)(a1:Int)(a2:Int):Option (GG×(GI×Int×Int)):=
 (bA a0 (bz .i64 (dX .i64 3 a1) 2)).bind λp=>
 (rounds (jG a1 a2) ((bz .i64 1 p.1),p.2,([]:GL))).bind λj=>
 (bA j.1 a2).bind λo=>
 br (ζ j.2+ζ ([((bW .i64 a1 1),o.1,(-1),1)]:GL)<=bD) (
  (some (j.2++([((bW .i64 a1 1),o.1,(-1),1)]:GL))).bind λr=>
  some ((a1,a2,r),o.2))
theorem My {a0}{a1}{a2}{r}(t:lH a0 a1 a2=some r):CallOK ν 125 [.own (.bx (.st (.pair (.sl (.int .u8)) (.pair tI (.int .u64))))) [a0],.bZ tI a1,.bZ tI a2] [⟨true,(.st gR),r.1⟩] [⟨(.bx (.st (.pair (.sl (.int .u8)) (.pair tI (.int .u64))))),[r.2]⟩]:=
 dB Tryz.func125 rfl λcx p hF=>θ p [] bm (θ p [] bm (φ (bc t eo λy1 ad t=>θ p (nO 4 [(cl ad)]) (bQ ad) (ο (ϧ p t (λs3=>up [0,1,2,6,7] [(8,iV s3.1)] [1] [(0,.seq (.st (.pair (.sl (.int .u8)) (.pair tI (.int .u64)))) ([s3.2.1])),(2,.box [iC a1,iC a2,.all 6]),(6,.seq (.st gQ) s3.2.2)] 4) (λr5=>(.exit 0,up [0,1,2,6,7] [] [1] [(0,.seq (.st (.pair (.sl (.int .u8)) (.pair tI (.int .u64)))) ([r5.1])),(2,.box [iC a1,iC a2,.all 6]),(6,.seq (.st gQ) r5.2)] 4)) (λr5 t=>(bE (bp (bc t eo λy6 ae t=>θ p [oH,oH,(cl ae)] (bQ ae) (bg t λXo t=>θ p (nO 6 [(hT (.st gQ)),(hT (.st gQ))]) (bQ Xo) (bq t λt=>θ p [] bm (by (cases t;exact (Δ (ct (bQ (show ζ ([y6.2])=ζ [a0] from rfl)))))))))))) λs3 Vh j af=>φ (θ p [] bm (Φ j (λag j=>Θ (bp (φ (ο (bc j eo λRY I j=>θ p [oH,oH,(cl I)] (bQ I) (bc j eo λRZ J j=>θ p [oH,oH,(cl J)] (bQ J) (ϰ j (λv20=>up [0,1,2,6,7,8,9] [] [1,2,6] [(0,.seq (.st (.pair (.sl (.int .u8)) (.pair tI (.int .u64)))) ([v20.1])),(7,.box [iC RY.1,iC v20.2.1,iC v20.2.2,iC 0])] 0) (λv20 j=>bc j eo λLq R j=>θ p [oH,(cl R)] (bQ R) (bg j λah j=>Μ p [oH,oH,oH,(hT (.st gQ)),(hT (.st gQ))] (bQ ah) (bB (bp (Υ p [] bm λ_ h=>(bM (lN j h))))))) λ_ o T=>bc o uL λZs U o=>θ p [oH,(cl U)] (bQ U) (Φ o (λai o=>bc o eo λy29 aa o=>θ p [oH,oH,(cl aa)] (bQ aa) (bc o eo λVe ab o=>Υ p [oH,oH,(cl ab)] (bQ ab) λ_ h=>(bp (h.ht (T _ (bt o)))))) λai o=>Θ (bp (abi p (T _ (bt o)))))))))))) λag j=>Ϩ p (bL (bN (af _ (bw j)))))))))))
def gL (a0:GI×Int×Int):Option (GG×(GI×Int×Int)):=
 (bA a0 4).bind λo=>
 (bA o.2 3).bind λp=>
 (lH p.2 (bz .i64 1 o.1) (bz .i64 1 p.1)).bind λj=>
 some ((j.1.1,j.1.2.1,j.1.2.2),j.2)
theorem P1 {a0}{r}(j:gL a0=some r):CallOK ν 87 [.own (.bx (.st (.pair (.sl (.int .u8)) (.pair tI (.int .u64))))) [a0]] [⟨true,(.st gR),r.1⟩] [⟨(.bx (.st (.pair (.sl (.int .u8)) (.pair tI (.int .u64))))),[r.2]⟩]:=
 dB Tryz.func87 rfl λcx I R=>θ I [] bm (bc j eo λT o j=>θ I [oH,(cl o)] (bQ o) (bc j eo λU p j=>θ I [oH,(cl p)] (bQ p) (bc j My λJ t j=>θ I [oH,oH,oH,(cl t)] (bQ t) (by (cases j;exact (Δ (ct (bQ (show ζ ([J.2])=ζ [a0] from rfl)))))))))
def jR (a0:GL)(s1:Int×GI):Option ((Int×GI)⊕GI):=
 bif (decide (s1.1<(bn a0))) then
  br (0<=s1.1/\s1.1<bn a0) (
   br (ζ s1.2+ζ ([(ε a0 (δ s1.1) (0,0,0,0)).1,((ε a0 (δ s1.1) (0,0,0,0)).2).1,(((ε a0 (δ s1.1) (0,0,0,0)).2).2).1,(((ε a0 (δ s1.1) (0,0,0,0)).2).2).2]:GI)<=bD) (
    some (.inl ((bz .i64 s1.1 1),(s1.2++([(ε a0 (δ s1.1) (0,0,0,0)).1,((ε a0 (δ s1.1) (0,0,0,0)).2).1,(((ε a0 (δ s1.1) (0,0,0,0)).2).2).1,(((ε a0 (δ s1.1) (0,0,0,0)).2).2).2]:GI))))))
 else
  some (.inr s1.2)
def nc (a0:GL):Option GI:=
 (rounds (jR a0) (0,([]:GI))).bind λj=>
 some j
theorem Mz {a0}{r}(t:nc a0=some r):CallOK ν 142 [.bZ gA a0] [⟨true,cC,r⟩] []:=
 dB Tryz.func142 rfl λcx o hF=>θ o [] bm (θ o [] bm (φ (θ o [] bm (ο (ϧ o t (λI=>up [0] [(3,aV 2),(4,iV I.1)] [] [(2,.seq tI I.2)] 3) (λU=>(.exit 0,up [] [(3,aV 2)] [] [(2,.seq tI U)] 3)) (λU t=>(bE (bp (θ o [] bm (by (cases t;exact (Δ (ct bm)))))))) λI x4 j J=>φ (θ o [] bm (Φ j (λR j=>Θ (bp (φ (ο (bg j λp j=>bg j λT j=>HT.dl o (nO 21 [(hT tI),(hT tI)]) (lF p p p p (bQ T)) (bB (bp (Υ o [] bm λ_ h=>(bM (lN j h)))))))))) λR j=>Ϩ o (bL (bN (J _ (bw j)))))))))))
def kC (a0:GG):Option GB:=
 (dx ([a0.1,a0.2.1]:GI)).bind λj=>
 br (ζ j+ζ ([59]:GB)<=bD) (
  (nc a0.2.2).bind λp=>
  (dx p).bind λo=>
  br (ζ (j++([59]:GB))+ζ o<=bD) (
   some ((j++([59]:GB))++o)))
theorem MA {a0}{r}(j:kC a0=some r):CallOK ν 114 [.fZ (.st gR) a0] [⟨false,.str,r⟩] []:=
 dB Tryz.func114 rfl λcx R T=>θ R [] bm (bc j ou λU o j=>bg j λI j=>bc j Mz λy4 p j=>bc j ou λy6 t j=>bg j λJ j=>HT.dg R (nO 8 [(hT tI),(cl o),oH,oH,oH,oH,oH,(cl p),(cl t)]) (lF o I p t (bQ J)) (by (cases j;exact (Δ (ct bm)))))
def j9 (j:Int×(GI×Int×Int)×GI):Option ((Int×(GI×Int×Int)×GI)⊕(((GI×Int×Int)×GI))):=
 bif (decide (j.1>0)) then
  (bA j.2.1 2).bind λo=>
  br (ζ j.2.2+ζ ([o.1]:GI)<=bD) (
   some (.inl ((bW .i64 j.1 1),o.2,(j.2.2++([o.1]:GI)))))
 else
  some (.inr (j.2.1,j.2.2))
def jS (a0:GI×Int×Int):Option (GI×(GI×Int×Int)):=
 (bA a0 6).bind λj=>
 (rounds (j9) (j.1,j.2,([]:GI))).bind λo=>
 some (o.2,o.1)
theorem P2 {a0}{r}(t:jS a0=some r):CallOK ν 88 [.own (.bx (.st (.pair (.sl (.int .u8)) (.pair tI (.int .u64))))) [a0]] [⟨true,cC,r.1⟩] [⟨(.bx (.st (.pair (.sl (.int .u8)) (.pair tI (.int .u64))))),[r.2]⟩]:=
 dB Tryz.func88 rfl λcx o hF=>θ o [] bm (θ o [] bm (φ (bc t eo λy1 I t=>θ o [oH,(cl I)] (bQ I) (ο (ϧ o t (λR=>up [0] [(3,aV 3),(4,iV R.1)] [] [(0,.seq (.st (.pair (.sl (.int .u8)) (.pair tI (.int .u64)))) ([R.2.1])),(3,.seq tI R.2.2)] 3) (λT=>(.exit 0,up [] [(3,aV 3)] [] [(0,.seq (.st (.pair (.sl (.int .u8)) (.pair tI (.int .u64)))) ([T.1])),(3,.seq tI T.2)] 3)) (λT t=>(bE (bp (θ o [] bm (by (cases t;exact (Δ (ct (bQ (show ζ ([T.1])=ζ [a0] from rfl)))))))))) λR x6 j U=>φ (θ o [] bm (Φ j (λaa j=>Θ (bp (φ (ο (bc j eo λab p j=>bg j λJ j=>Μ o [oH,oH,(cl p),(hT tI),(hT tI)] (dp p J) (bB (bp (Υ o [] bm λ_ h=>(bM (lN j h)))))))))) λaa j=>Ϩ o (bL (bN (U _ (bw j)))))))))))
def gY (a0:GI×Int×Int):Option (GB×(GI×Int×Int)):=
 (bA a0 14).bind λy1=>
 (jF y1.1).bind λy3=>
 (bA y1.2 11).bind λj=>
 bif (j.1==0) then
  (c8 j.2 ([([]:GB),([119,104,97,116]:GB),([109,97,99,104,105,110,101,32,49,44,49,59,48,59,48,59,48,44,48,44,48]:GB),([109,97,99,104,105,110,101,32,48,44,49,59,110,111,110,101,59,110,111,110,101,59,110,111,110,101]:GB),([109,97,99,104,105,110,101,32,49,44,49,59,45,50,59,48,59,110,111,110,101]:GB),([109,97,99,104,105,110,101,32,120]:GB),([112,108,97,105,110,32,49,44,49,59,49,59,49]:GB),([112,108,97,105,110,32,49,44,49,59,48,59,50]:GB),([112,108,97,105,110,32,49,44,49,59,48,59]:GB),([103,114,97,109,109,97,114,32,49,44,49,59,48,44,48,44,48]:GB),([103,114,97,109,109,97,114,32,49,44,49,59,48,44,49,44,45,49,44,48]:GB),([103,114,97,109,109,97,114,32,48,44,49,59,110,111,110,101]:GB),([119,111,114,100,32,52]:GB),([119,111,114,100,32,45,49]:GB),([119,111,114,100,32,120]:GB),([99,111,117,110,116,32,45,49]:GB),([99,111,117,110,116,32,49,51]:GB),([114,111,109,97,110,32,48]:GB),([114,111,109,97,110,32,52,48,48,48]:GB),([101,100,105,116,32,97]:GB),([99,111,115,116,32,110,111,119]:GB),([114,101,97,100,115,32,49]:GB)]:List GB)).bind λy8=>
  some (y8.1,y8.2)
 else
  bif (j.1==1) then
   (gI j.2).bind λo=>
   (kB (o.1.1,o.1.2.1,o.1.2.2.1,o.1.2.2.2.1,o.1.2.2.2.2)).bind λI=>
   br (ζ ([109,97,99,104,105,110,101,32]:GB)+ζ I<=bD) (
    some ((([109,97,99,104,105,110,101,32]:GB)++I),o.2))
  else
   bif (j.1==2) then
    (gJ j.2).bind λp=>
    (nb (p.1.1,p.1.2.1,p.1.2.2.1,p.1.2.2.2)).bind λJ=>
    br (ζ ([112,108,97,105,110,32]:GB)+ζ J<=bD) (
     some ((([112,108,97,105,110,32]:GB)++J),p.2))
   else
    bif (j.1==3) then
     (gL j.2).bind λr=>
     (kC (r.1.1,r.1.2.1,r.1.2.2)).bind λR=>
     br (ζ ([103,114,97,109,109,97,114,32]:GB)+ζ R<=bD) (
      some ((([103,114,97,109,109,97,114,32]:GB)++R),r.2))
    else
     bif (j.1==4) then
      (jS j.2).bind λT=>
      (dx T.1).bind λU=>
      br (ζ ([119,111,114,100,32]:GB)+ζ U<=bD) (
       some ((([119,111,114,100,32]:GB)++U),T.2))
     else
      bif (j.1==5) then
       (c8 j.2 ([([98,97,99,107]:GB),([116,105,100,121]:GB),([116,114,105,109]:GB),([108,101,116,116,101,114,101,100]:GB),([114,101,112,101,97,116]:GB)]:List GB)).bind λaa=>
       some (aa.1,aa.2)
      else
       bif (j.1==6) then
        (c8 j.2 ([([99,111,115,116]:GB),([98,101,115,116]:GB),([109,97,107,101]:GB),([108,101,97,115,116]:GB),([111,116,104,101,114]:GB)]:List GB)).bind λab=>
        some (ab.1,ab.2)
       else
        bif (j.1==7) then
         (c8 j.2 ([([114,101,97,100,115]:GB),([102,105,114,115,116]:GB),([108,101,97,114,110]:GB),([114,117,108,101,115]:GB)]:List GB)).bind λad=>
         some (ad.1,ad.2)
        else
         bif (j.1==8) then
          (c8 j.2 ([([112,97,114,115,101]:GB),([116,114,101,101,115]:GB),([99,104,101,97,112]:GB),([117,115,101,102,117,108]:GB)]:List GB)).bind λae=>
          some (ae.1,ae.2)
         else
          bif (j.1==9) then
           (c8 j.2 ([([99,111,117,110,116,32]:GB),([114,111,109,97,110,32]:GB)]:List GB)).bind λt=>
           br (ζ t.1+ζ y3<=bD) (
            some ((t.1++y3),t.2))
          else
           (c8 j.2 ([([109,97,99,104,105,110,101]:GB),([112,108,97,105,110]:GB),([103,114,97,109,109,97,114]:GB),([119,111,114,100]:GB),([101,100,105,116,32,107,105,116,116,101,110,32,115,105,116,116,105,110,103]:GB),([101,100,105,116,32,32,97]:GB)]:List GB)).bind λaf=>
           some (af.1,af.2)
theorem P3 {a0}{r}(j:gY a0=some r):CallOK ν 74 [.own (.bx (.st (.pair (.sl (.int .u8)) (.pair tI (.int .u64))))) [a0]] [⟨false,.str,r.1⟩] [⟨(.bx (.st (.pair (.sl (.int .u8)) (.pair tI (.int .u64))))),[r.2]⟩]:=
 dB Tryz.func74 rfl λcx o hF=>θ o [] bm (bc j eo λy1 ai j=>bc j Bp λy3 aj j=>θ o [oH,(cl ai),(cl aj)] (dp ai aj) (φ (bc j eo λy5 ak j=>θ o [oH,(cl ak)] (bQ ak) (ο (θ o [] bm (Φ j (λaE j=>bc j qV λy8 al j=>θ o [oH,⟨none,.Io .str⟩,(cl al)] (bQ al) (by (cases j;exact (Δ (bT (bF (ct (bQ (show ζ ([y8.2])=ζ [a0] from rfl))))))))) λaE j=>θ o [] bm (Φ j (λan j=>bc j PZ λaF p j=>θ o [oH,(cl p)] (bQ p) (bc j Mu λVf t j=>bg j λao j=>θ o [(cl t)] (dp t ao) (by (cases j;exact (Δ (bT (bF (ct (bQ (show ζ ([aF.2])=ζ [a0] from rfl)))))))))) λan j=>θ o [] bm (Φ j (λaq j=>bc j P0 λaG I j=>θ o [oH,(cl I)] (bQ I) (bc j Mx λTF J j=>bg j λar j=>θ o [(cl J)] (dp J ar) (by (cases j;exact (Δ (bT (bF (ct (bQ (show ζ ([aG.2])=ζ [a0] from rfl)))))))))) λaq j=>θ o [] bm (Φ j (λau j=>bc j P1 λaH R j=>θ o [oH,(cl R)] (bQ R) (bc j MA λXp T j=>bg j λav j=>θ o [(cl T)] (dp T av) (by (cases j;exact (Δ (bT (bF (ct (bQ (show ζ ([aH.2])=ζ [a0] from rfl)))))))))) λau j=>θ o [] bm (Φ j (λaw j=>bc j P2 λaI U j=>bc j ou λVe aa j=>bg j λax j=>θ o [oH,(cl U),(cl aa)] (ll U aa ax) (by (cases j;exact (Δ (bT (bF (ct (bQ (show ζ ([aI.2])=ζ [a0] from rfl))))))))) λaw j=>θ o [] bm (Φ j (λay j=>bc j qV λaJ ab j=>θ o [oH,⟨none,.Io .str⟩,(cl ab)] (bQ ab) (by (cases j;exact (Δ (bT (bF (ct (bQ (show ζ ([aJ.2])=ζ [a0] from rfl))))))))) λay j=>θ o [] bm (Φ j (λaz j=>bc j qV λaK ad j=>θ o [oH,⟨none,.Io .str⟩,(cl ad)] (bQ ad) (by (cases j;exact (Δ (bT (bF (ct (bQ (show ζ ([aK.2])=ζ [a0] from rfl))))))))) λaz j=>θ o [] bm (Φ j (λaA j=>bc j qV λaL ae j=>θ o [oH,⟨none,.Io .str⟩,(cl ae)] (bQ ae) (by (cases j;exact (Δ (bT (bF (ct (bQ (show ζ ([aL.2])=ζ [a0] from rfl))))))))) λaA j=>θ o [] bm (Φ j (λaB j=>bc j qV λaM af j=>θ o [oH,⟨none,.Io .str⟩,(cl af)] (bQ af) (by (cases j;exact (Δ (bT (bF (ct (bQ (show ζ ([aM.2])=ζ [a0] from rfl))))))))) λaB j=>θ o [] bm (Φ j (λaC j=>bc j qV λaN ag j=>bg j λaD j=>θ o [oH,⟨none,.Io .str⟩,(cl ag)] (dp ag aD) (by (cases j;exact (Δ (bT (bF (ct (bQ (show ζ ([aN.2])=ζ [a0] from rfl))))))))) λaC j=>Θ (bB (bp (bc j qV λaO ah j=>θ o [oH,⟨none,.Io .str⟩,(cl ah)] (bQ ah) (by (cases j;exact (Δ (ct (bQ (show ζ ([aO.2])=ζ [a0] from rfl))))))))))))))))))))))))
def nP (o:Int×(GI×Int×Int)×List GB):Option ((Int×(GI×Int×Int)×List GB)⊕(List GB)):=
 bif (decide (o.1>0)) then
  (gY o.2.1).bind λj=>
  br (ζ o.2.2+ζ ([j.1]:List GB)<=bD) (
   some (.inl ((bW .i64 o.1 1),j.2,(o.2.2++([j.1]:List GB)))))
 else
  some (.inr o.2.2)
def ow (a0:GI):Option (List GB):=
 (qU a0).bind λo=>
 (bA o 5).bind λj=>
 (rounds (nP) ((bz .i64 1 j.1),j.2,([]:List GB))).bind λp=>
 some p
theorem P4 {a0}{r}(t:ow a0=some r):CallOK ν 27 [.bZ (.sl (.int .u8)) a0] [⟨true,(.sl .str),r⟩] []:=
 dB Tryz.func27 rfl λcx o hF=>θ o [] bm (bc t PR λy1 I t=>θ o [oH,(cl I)] (bQ I) (θ o [] bm (φ (bc t eo λy3 J t=>θ o [oH,(cl J)] (bQ J) (ο (ϧ o t (λs5=>up [3] [(4,aV 3),(5,iV s5.1)] [] [(0,.seq (.st (.pair (.sl (.int .u8)) (.pair tI (.int .u64)))) ([s5.2.1])),(3,.seq .str s5.2.2)] 3) (λr7=>(.exit 0,up [] [(4,aV 3)] [] [(3,.seq .str r7)] 3)) (λr7 t=>(bE (bp (θ o [] bm (by (cases t;exact (Δ (ct bm)))))))) λs5 x8 j R=>φ (θ o [] bm (Φ j (λT j=>Θ (bp (φ (ο (bc j P3 λyu p j=>bg j λU j=>Μ o [oH,oH,(cl p),(hT .str),(hT .str)] (dp p U) (bB (bp (Υ o [] bm λ_ h=>(bM (lN j h)))))))))) λT j=>Ϩ o (bL (bN (R _ (bw j))))))))))))
theorem JM {w:World}{t:TypeId}{fr:Nat×Nat}(h:w.heap[1]? =some (.cells pow10Cells t fr)):Lib.TabIs ν w "internal/strconv.uint64pow10" .u64 ahT:=by
 unfold Lib.TabIs World.var?;rw [show Tryz.prog.globalNamed "internal/strconv.uint64pow10"=some 1 by kernel_rfl,Option.bind_some,h];unfold pow10Cells ahT;rw [List.map_map];rfl
def lI (a0:Int)(a1:Int):Option GB:=
 br (a1=10/\ -9223372036854775808<=a0/\a0<=9223372036854775807)<|some (ϡ a0)
theorem P5 {a0}{a1}{r}(h:lI a0 a1=some r):CallOK ν 44 [.bZ tI a0,.bZ tI a1] [⟨false,.str,r⟩] []:=by
 obtain ⟨j,h⟩:=fF h;have h:=bt h;subst h;obtain ⟨rfl,j⟩:=j;have j:True/\_:=⟨trivial,j⟩;exact qk (ps:=[⟨tI,a0⟩,⟨tI,10⟩]) (rs:=[⟨.str,ϡ a0⟩]) ⟨_,Tryz.func44,by kernel_rfl,by kernel_rfl⟩ (by simp [Ty.simple]) (by simp [Ty.simple]) λw S o=>by
  obtain ⟨_,t,fr,ht⟩:=Glob.pow o;exact (Tryz.strconv_FormatInt_10 _ j.2.1 j.2.2 w (JM ht)).mono λe w' ⟨p,k,os,I⟩=>⟨⟨_,p,rfl⟩,I▸Lib.below_grow _ _ (Nat.le_refl _) k os⟩
def cG (a0:Int)(a1:Int)(a2:Int):Option (Bool):=
 (show Option (Bool) from
  bif (decide (a0>=a1)) then
   some (decide (a0<=a2))
  else
   some false).bind λj=>
 some j
theorem gZ {a0}{a1}{a2}{r}(t:cG a0 a1 a2=some r):CallOK ν 53 [.bZ tI a0,.bZ tI a1,.bZ tI a2] [⟨false,.bool,r⟩] []:=
 dB Tryz.func53 rfl λcx I R=>θ I [] bm (ϰ t (λJ=>up [] [(6,bV J)] [] [] 0) (λJ t=>by (cases t;exact (Δ (ct bm)))) λ_ j p=>bb j (λo j=>Υ I [oH,oH,oH,kT] (bQ o) λ_ h=>(bp (h.ht (p _ (bt j))))) λo j=>Υ I [oH,oH,oH,kF] (bQ o) λ_ h=>(bp (h.ht (p _ (bt j)))))
def nQ (a1:GB)(j:Int×Int):Option ((Int×Int)⊕(Int)):=
 bif (decide (j.2<(bn a1))) then
  br (0<=j.2/\j.2<bn a1) (
   some (.inl ((aac (bz .i64 (bz .i64 (dX .i64 919 j.1) (Ρ .i64 ((((ε a1 (δ j.2) 0:UInt8).toNat:Nat)):Int))) 191) 65003),(bz .i64 j.2 1))))
 else
  some (.inr j.1)
def eI (a0:Int)(a1:GB):Option (Int×Bool):=
 (cG a0 0 65002).bind λj=>
 bif (!j) then
  some (0,false)
 else
  (rounds (nQ a1) (a0,0)).bind λo=>
  some (o,true)
theorem JN {a0}{a1}{r}(p:eI a0 a1=some r):CallOK ν 82 [.bZ tI a0,.bZ .str a1] [⟨false,tI,r.1⟩,⟨false,.bool,r.2⟩] []:=
 dB Tryz.func82 rfl λcx o hF=>θ o [] bm (φ (bc p gZ λy1 t p=>θ o [oH,(cl t)] (bQ t) (Φ p (λR p=>θ o [] bm (by (cases p;exact (Δ (bF (ct bm)))))) λR p=>Θ (bp (φ (θ o [] bm (ο (ϧ o p (λT=>up [1,11] [(0,iV T.1),(12,iV T.2)] [] [] 0) (λr6=>(.exit 0,up [] [(0,iV r6)] [] [] 0)) (λr6 p=>(bE (bp (θ o [] bm (by (cases p;exact (Δ (ct bm)))))))) λT x7 j U=>θ o [] bm (HT.cj j (λI j=>φ (ο (θ o [] bm (bg j λJ j=>Μ o [] (dp J (show (65003:Int)≠0 from by decide)) (bB (bp (Υ o [] bm λ_ h=>(bM (lN j h))))))))) λI j=>Ϩ o (bL (bN (U _ (bw j)))))))))))))
end
end Go.Proofs
