import Derived.Test.YtjnkhcgmgkhnaaaGreatDoorLibE
import Derived.Test.YtjnkhcgmgkhnaaaGreatDoorProg
set_option linter.all false
open BitVec renaming ofInt→Ϟ
open Go.Ide.CallOK renaming rU→aeK
open Go.Ide.HT renaming g→θ,block→ξ,seq→υ,ret→Δ,skip→Η,k→Τ,cb→Ω,lp→Ϩ,xe→Ϫ,jn→ϰ,re→aa5,vR→aee,dl→agb,l→Ο
open Go.IntKind renaming wrap→Φ,bits→Ϗ
open Go.Proofs.Tryz renaming prog→ν
open Int renaming toNat→δ,tmod→abQ
open List renaming getD→ε,length→ζ,take→Ϝ
open Nat renaming zero_lt_one→Ν,le_of_ble_eq_true→ϓ
namespace Go.Proofs
open Go.Ide
noncomputable section
abbrev gQ:Ty:= .pair tI (.pair tI (.pair tI tI))
abbrev GQ:=Int×Int×Int×Int
abbrev GL:=List GQ
abbrev GI:=List Int
abbrev GB:=List UInt8
abbrev GZ:=List Bool
abbrev GP:=Int×Int×GI×GZ
abbrev GM:=Int×Int×GL×GI×GI
abbrev GG:=Int×Int×GL
abbrev gA:Ty:= .sl (.st gQ)
abbrev gM:Ty:= .pair tI (.pair tI (.pair gA (.pair cg cg)))
abbrev gR:Ty:= .pair tI (.pair tI gA)
abbrev gP:Ty:= .pair tI (.pair tI (.pair cg (.sl .bool)))
def kR (a0:GI)(a1:GI):Option (Bool):=
 (show Option (Bool) from
  bif (decide ((aW a0)>48)) then
   some true
  else
   some (decide ((aW a1)>48))).bind λj=>
 some j
theorem SD {a0}{a1}{r}(t:kR a0 a1=some r):CallOK ν 6 [.bP (.sl (.int .u8)) a0,.bP (.sl (.int .u8)) a1] [⟨false,.bool,r⟩] []:=
 dn Tryz.func6 rfl λcx I R=>θ I [] aU (ϰ t (λJ=>up [] [(4,bV J)] [] [] 0) (λJ t=>by (cases t;exact (Δ (bY aU)))) λ_ j p=>bb j (λo j=>Τ I [oH,oH,oH,kT] (bD o) λ_ h=>(aX (h.ht (p _ (aZ j))))) λo j=>Τ I [oH,oH,oH,kF] (bD o) λ_ h=>(aX (h.ht (p _ (aZ j)))))
def nY (a0:GI):Option ((GI×Int×Int)):=
 some (a0,0,0)
theorem Je {a0}{r}(o:nY a0=some r):CallOK ν 36 [.bP (.sl (.int .u8)) a0] [⟨true,(.bx (.st (.pair (.sl (.int .u8)) (.pair tI (.int .u64))))),[r]⟩] []:=
 dn Tryz.func36 rfl λcx j p=>θ j [] aU (θ j [oH,oH,(hT (.st (.pair (.sl (.int .u8)) (.pair tI (.int .u64)))))] aU (by (cases o;exact (Δ (bY aU)))))
def gH (a0:GI×Int×Int):Option (Int×(GI×Int×Int)):=
 (show Option (Int) from
  bif (decide (a0.2.1<(aW a0.1))) then
   aY (0<=a0.2.1/\a0.2.1<aW a0.1) (
    some (Φ .i64 (ε a0.1 (δ a0.2.1) 0)))
  else
   some 0).bind λj=>
 bif (decide ((bf .i64 a0.2.1 1)<=(aW a0.1))) then
  some (j,a0.1,(bf .i64 a0.2.1 1),(bf .u64 (bf .u64 (iX .u64 a0.2.2 6364136223846793005) (Φ .u64 j)) 1442695040888963407))
 else
  (some (Φ .i64 (Φ .u64 (Ϟ (Ϗ .u64) (Int.fdiv (bf .u64 (bf .u64 (iX .u64 a0.2.2 6364136223846793005) (Φ .u64 j)) 1442695040888963407) (2^(min (δ 40) (Ϗ .u64))))&&& Ϟ (Ϗ .u64) 255).toNat))).bind λo=>
  some (o,a0.1,(bf .i64 a0.2.1 1),(bf .u64 (bf .u64 (iX .u64 a0.2.2 6364136223846793005) (Φ .u64 j)) 1442695040888963407))
theorem FZ {a0}{r}(p:gH a0=some r):CallOK ν 109 [.own (.bx (.st (.pair (.sl (.int .u8)) (.pair tI (.int .u64))))) [a0]] [⟨false,tI,r.1⟩] [⟨(.bx (.st (.pair (.sl (.int .u8)) (.pair tI (.int .u64))))),[r.2]⟩]:=
 dn Tryz.func109 rfl λcx o U=>θ o [] aU (θ o [] aU (ϰ p (λt=>up [0] [(3,iV t)] [0] [] 0) (λt p=>θ o [] (dd (show 0<ζ [a0] from Ν) (show 0<ζ [a0] from Ν)) (θ o [] (dd (show 0<ζ [(a0.1,(bf .i64 a0.2.1 1),a0.2.2)] from Ν) (show 0<ζ [(a0.1,(bf .i64 a0.2.1 1),a0.2.2)] from Ν)) (υ (HT.dg o [] (dd (show 0<ζ [(a0.1,(bf .i64 a0.2.1 1),(bf .u64 (bf .u64 (iX .u64 a0.2.2 6364136223846793005) (Φ .u64 t)) 1442695040888963407))] from Ν) (show 0<ζ [(a0.1,(bf .i64 a0.2.1 1),(bf .u64 (bf .u64 (iX .u64 a0.2.2 6364136223846793005) (Φ .u64 t)) 1442695040888963407))] from Ν)) (Ω p (λJ p=>θ o [] aU (by (cases p;exact (Δ (bn (bY (bD (show ζ ([(a0.1,(bf .i64 a0.2.1 1),(bf .u64 (bf .u64 (iX .u64 a0.2.2 6364136223846793005) (Φ .u64 t)) 1442695040888963407))])=ζ [a0] from rfl)))))))) λJ p=>Η (aX (θ o [] (dd (show 0<ζ [(a0.1,(bf .i64 a0.2.1 1),(bf .u64 (bf .u64 (iX .u64 a0.2.2 6364136223846793005) (Φ .u64 t)) 1442695040888963407))] from Ν) (show (0:Int)<=40 from by decide)) (bq p λp=>by (cases p;exact (Δ (bY (bD (show ζ ([(a0.1,(bf .i64 a0.2.1 1),(bf .u64 (bf .u64 (iX .u64 a0.2.2 6364136223846793005) (Φ .u64 t)) 1442695040888963407))])=ζ [a0] from rfl))))))))))))) λ_ j I=>HT.dg o [] (dd (show 0<ζ [a0] from Ν) (show 0<ζ [a0] from Ν)) (Ω j (λR j=>bg j λT j=>HT.dk o [] (kQ (show 0<ζ [a0] from Ν) (show 0<ζ [a0] from Ν) T) λ_ h=>(aX (h.ht (I _ (aZ j))))) λR j=>Η (aX (aa5 o (I _ (aZ j)))))))
def bh (a0:GI×Int×Int)(a1:Int):Option (Int×(GI×Int×Int)):=
 bif (decide (a1<=1)) then
  some (0,a0)
 else
  (gH a0).bind λo=>
  (show Option (Int×(GI×Int×Int)) from
   bif (decide (a1>200)) then
    (gH o.2).bind λj=>
    some ((bf .i64 (iX .i64 o.1 256) j.1),j.2)
   else
    some (o.1,o.2)).bind λp=>
  aY (a1≠0) (
   some ((abQ p.1 a1),p.2))
theorem dT {a0}{a1}{r}(o:bh a0 a1=some r):CallOK ν 73 [.own (.bx (.st (.pair (.sl (.int .u8)) (.pair tI (.int .u64))))) [a0],.bP tI a1] [⟨false,tI,r.1⟩] [⟨(.bx (.st (.pair (.sl (.int .u8)) (.pair tI (.int .u64))))),[r.2]⟩]:=
 dn Tryz.func73 rfl λcx p hF=>θ p [] aU (υ (θ p [] aU (Ω o (λT o=>θ p [] aU (by (cases o;exact (Δ (bn (bY (bD (show ζ ([a0])=ζ [a0] from rfl)))))))) λT o=>Η (aX (bc o FZ λy2 I o=>θ p [oH,(cl I)] (bD I) (ϰ o (λR=>up [1] [(5,iV R.1)] [] [(0,.seq (.st (.pair (.sl (.int .u8)) (.pair tI (.int .u64)))) ([R.2]))] 0) (λR o=>bg o λU o=>θ p [] (bD U) (by (cases o;exact (Δ (bY (bD (show ζ ([R.2])=ζ [a0] from rfl))))))) λ_ j J=>θ p [] aU (Ω j (λaa j=>bc j FZ λab t j=>Τ p [oH,oH,oH,(cl t)] (bD t) λ_ h=>(aX (h.ht (J _ (aZ j))))) λaa j=>Η (aX (aa5 p (J _ (aZ j)))))))))))
def cD (a0:GI×Int×Int)(a1:Int):Option (Bool×(GI×Int×Int)):=
 (bh a0 a1).bind λj=>
 some ((j.1==0),j.2)
theorem uh {a0}{a1}{r}(o:cD a0 a1=some r):CallOK ν 147 [.own (.bx (.st (.pair (.sl (.int .u8)) (.pair tI (.int .u64))))) [a0],.bP tI a1] [⟨false,.bool,r.1⟩] [⟨(.bx (.st (.pair (.sl (.int .u8)) (.pair tI (.int .u64))))),[r.2]⟩]:=
 dn Tryz.func147 rfl λcx p I=>θ p [] aU (bc o dT λt j o=>θ p [oH,oH,(cl j)] (bD j) (by (cases o;exact (Δ (bY (bD (show ζ ([t.2])=ζ [a0] from rfl)))))))
def ga (a1:Int)(j:Int×(GI×Int×Int)×GI×GI):Option ((Int×(GI×Int×Int)×GI×GI)⊕(((GI×Int×Int)×GI×GI))):=
 bif (decide (j.1<a1)) then
  (show Option (Int×(GI×Int×Int)) from
   (show Option (Bool×(GI×Int×Int)) from
    bif (j.1==0) then
     some (true,j.2.1)
    else
     (cD j.2.1 5).bind λI=>
     some (I.1,I.2)).bind λp=>
   bif p.1 then
    (bh p.2 4).bind λJ=>
    some (J.1,J.2)
   else
    some ((-1),p.2)).bind λo=>
  (show Option (Int×(GI×Int×Int)) from
   (show Option (Bool×(GI×Int×Int)) from
    bif (j.1==(bI .i64 a1 1)) then
     some (true,o.2)
    else
     (cD o.2 4).bind λR=>
     some (R.1,R.2)).bind λr=>
   bif r.1 then
    (bh r.2 4).bind λT=>
    some (T.1,T.2)
   else
    some ((-1),r.2)).bind λt=>
  aY (ζ j.2.2.1+ζ ([o.1]:GI)<=bl) (
   aY (ζ j.2.2.2+ζ ([t.1]:GI)<=bl) (
    some (.inl ((bf .i64 j.1 1),t.2,(j.2.2.1++([o.1]:GI)),(j.2.2.2++([t.1]:GI))))))
 else
  some (.inr (j.2.1,j.2.2.1,j.2.2.2))
def gb (a1:Int)(a2:Int)(a3:Bool)(o:Int×(GI×Int×Int)×GL):Option ((Int×(GI×Int×Int)×GL)⊕(((GI×Int×Int)×GL))):=
 bif (decide (o.1>0)) then
  (bh o.2.1 a1).bind λp=>
  (bh p.2 a1).bind λr=>
  (bh r.2 a2).bind λJ=>
  (bh J.2 9).bind λj=>
  (show Option ((GI×Int×Int)×Int) from
   (show Option (Bool×(GI×Int×Int)) from
    bif a3 then
     (cD j.2 5).bind λR=>
     some (R.1,R.2)
    else
     some (false,j.2)).bind λt=>
   bif t.1 then
    some (t.2,(-1))
   else
    some (t.2,J.1)).bind λI=>
  aY (ζ o.2.2+ζ ([(p.1,r.1,I.2,j.1)]:GL)<=bl) (
   some (.inl ((bI .i64 o.1 1),I.1,(o.2.2++([(p.1,r.1,I.2,j.1)]:GL)))))
 else
  some (.inr (o.2.1,o.2.2))
def ly (a0:GI×Int×Int)(a1:Int)(a2:Int)(a3:Bool):Option (GM×(GI×Int×Int)):=
 (bh a0 (bf .i64 (iX .i64 2 a1) 2)).bind λo=>
 (rounds (gb a1 a2 a3) ((bf .i64 1 o.1),o.2,([]:GL))).bind λp=>
 (rounds (ga a1) (0,p.1,([]:GI),([]:GI))).bind λj=>
 some ((a1,a2,p.2,j.2.1,j.2.2),j.1)
theorem LR {a0}{a1}{a2}{a3}{r}(hr:ly a0 a1 a2 a3=some r):CallOK ν 123 [.own (.bx (.st (.pair (.sl (.int .u8)) (.pair tI (.int .u64))))) [a0],.bP tI a1,.bP tI a2,.bP .bool a3] [⟨true,(.st gM),r.1⟩] [⟨(.bx (.st (.pair (.sl (.int .u8)) (.pair tI (.int .u64))))),[r.2]⟩]:=
 dn Tryz.func123 rfl λcx p hF=>θ p [] aU (θ p [] aU (υ (bc hr dT λy1 tq hr=>θ p (nO 4 [(cl tq)]) (bD tq) (ξ (Ϩ p hr (λs3=>up [0,1,2,3,8,9] [(10,iV s3.1)] [1] [(0,.seq (.st (.pair (.sl (.int .u8)) (.pair tI (.int .u64)))) ([s3.2.1])),(2,.box [iC a1,iC a2,.all 6,.br,.br]),(6,.seq (.st gQ) s3.2.2)] 4) (λr5=>(.exit 0,up [0,1,8,9] [] [1] [(0,.seq (.st (.pair (.sl (.int .u8)) (.pair tI (.int .u64)))) ([r5.1])),(2,.box [iC a1,iC a2,.all 6,.br,.br]),(6,.seq (.st gQ) r5.2)] 4)) (λr5 hr=>(bm (aX (υ (θ p [] aU (ξ (Ϩ p hr (λs6=>up [0,1,8,9] [(12,iV s6.1)] [1,6] [(0,.seq (.st (.pair (.sl (.int .u8)) (.pair tI (.int .u64)))) ([s6.2.1])),(2,.box [iC a1,iC a2,.all 6,.all 11,.all 12]),(11,.seq tI s6.2.2.1),(12,.seq tI s6.2.2.2)] 6) (λr8=>(.exit 2,up [8,9] [] [1,6] [(0,.seq (.st (.pair (.sl (.int .u8)) (.pair tI (.int .u64)))) ([r8.1])),(2,.box [iC a1,iC a2,.all 6,.all 11,.all 12]),(11,.seq tI r8.2.1),(12,.seq tI r8.2.2)] 6)) (λr8 hr=>(bm (aX (θ p [] aU (by (cases hr;exact (Δ (bY (bD (show ζ ([r8.1])=ζ [a0] from rfl)))))))))) λs6 x9 o Wh=>υ (θ p [] aU (Ω o (λWi o=>Η (aX (υ (ξ (θ p [] aU (θ p [] aU (ϰ o (λWj=>up [0,1,8,9,12,14] [(13,iV Wj.1)] [1,2,6,11,12] [(0,.seq (.st (.pair (.sl (.int .u8)) (.pair tI (.int .u64)))) ([Wj.2]))] 0) (λWj o=>ϰ o (λQY=>up [0,1,8,9,12,13] [(14,iV QY.1)] [1,2,6,11,12] [(0,.seq (.st (.pair (.sl (.int .u8)) (.pair tI (.int .u64)))) ([QY.2]))] 0) (λQY o=>bg o λO8 o=>θ p [oH,oH,oH,(hT tI),(hT tI)] (bD O8) (bg o λC5 o=>Ο p [oH,oH,oH,(hT tI),(hT tI)] (bD C5) (bj (aX (Τ p [] aU λ_ h=>(bz (lN o h))))))) λ_ t ae=>ϰ t (λv24=>up [0,1,8,9,12,13,14] [(76,bV v24.1)] [1,2,6,11,12] [(0,.seq (.st (.pair (.sl (.int .u8)) (.pair tI (.int .u64)))) ([v24.2]))] 0) (λv24 t=>Ω t (λO9 t=>bc t dT λy28 af t=>Τ p [oH,(cl af)] (bD af) λ_ h=>(aX (h.ht (ae _ (aZ t))))) λO9 t=>Η (aX (aa5 p (ae _ (aZ t))))) λ_ J ag=>bb J (λaa J=>Τ p (nO 4 [kT]) (bD aa) λ_ h=>(aX (h.ht (ag _ (aZ J))))) λaa J=>bc J uh λUm ah J=>Τ p (nO 4 [kF,oH,(cl ah)]) (dd aa ah) λ_ h=>(aX (h.ht (ag _ (aZ J))))) λ_ I ai=>ϰ I (λKU=>up [0,1,8,9,12,13,14] [(66,bV KU.1)] [1,2,6,11,12] [(0,.seq (.st (.pair (.sl (.int .u8)) (.pair tI (.int .u64)))) ([KU.2]))] 0) (λKU I=>Ω I (λPa I=>bc I dT λWk aj I=>Τ p [oH,(cl aj)] (bD aj) λ_ h=>(aX (h.ht (ai _ (aZ I))))) λPa I=>Η (aX (aa5 p (ai _ (aZ I))))) λ_ R ak=>bb R (λab R=>Τ p [oH,oH,kT] (bD ab) λ_ h=>(aX (h.ht (ak _ (aZ R))))) λab R=>bc R uh λQZ al R=>Τ p [oH,oH,kF,oH,(cl al)] (dd ab al) λ_ h=>(aX (h.ht (ak _ (aZ R))))))))))) λWi o=>Ϫ p (bw (bA (Wh _ (bd o))))))))))))) λs3 x43 j Wl=>υ (θ p [] aU (Ω j (λWm j=>Η (aX (υ (ξ (bc j dT λYi an j=>θ p [oH,oH,(cl an)] (bD an) (bc j dT λYj ao j=>θ p [oH,oH,(cl ao)] (bD ao) (bc j dT λYk aq j=>θ p [oH,oH,(cl aq)] (bD aq) (bc j dT λZ9 ar j=>θ p [oH,(cl ar)] (bD ar) (ϰ j (λWn=>up [0,1,2,3,8,9,10,11] [] [1,2,6] [(0,.seq (.st (.pair (.sl (.int .u8)) (.pair tI (.int .u64)))) ([Wn.1])),(7,.box [iC Yi.1,iC Yj.1,iC Wn.2,iC Z9.1])] 0) (λWn j=>bg j λPb j=>Ο p [oH,oH,oH,(hT (.st gQ)),(hT (.st gQ))] (bD Pb) (bj (aX (Τ p [] aU λ_ h=>(bz (lN j h)))))) λ_ T au=>ϰ T (λWo=>up [0,1,2,3,8,9,10,11] [(48,bV Wo.1)] [1,2,7,6] [(0,.seq (.st (.pair (.sl (.int .u8)) (.pair tI (.int .u64)))) ([Wo.2]))] 0) (λWo T=>Ω T (λWp T=>Τ p [] aU λ_ h=>(aX (h.ht (au _ (aZ T))))) λWp T=>Η (aX (aa5 p (au _ (aZ T))))) λ_ U av=>bb U (λad U=>bc U uh λy66 aw U=>Τ p [oH,kT,oH,(cl aw)] (dd ad aw) λ_ h=>(aX (h.ht (av _ (aZ U))))) λad U=>Τ p [oH,kF] (bD ad) λ_ h=>(aX (h.ht (av _ (aZ U))))))))))))) λWm j=>Ϫ p (bw (bA (Wl _ (bd j)))))))))))
def eV (a0:GI×Int×Int):Option (GM×(GI×Int×Int)):=
 (bh a0 4).bind λo=>
 (bh o.2 3).bind λp=>
 (ly p.2 (bf .i64 1 o.1) (bf .i64 1 p.1) true).bind λj=>
 some ((j.1.1,j.1.2.1,j.1.2.2.1,j.1.2.2.2.1,j.1.2.2.2.2),j.2)
theorem Jf {a0}{r}(j:eV a0=some r):CallOK ν 85 [.own (.bx (.st (.pair (.sl (.int .u8)) (.pair tI (.int .u64))))) [a0]] [⟨true,(.st gM),r.1⟩] [⟨(.bx (.st (.pair (.sl (.int .u8)) (.pair tI (.int .u64))))),[r.2]⟩]:=
 dn Tryz.func85 rfl λcx I R=>θ I [] aU (bc j dT λT o j=>θ I [oH,(cl o)] (bD o) (bc j dT λU p j=>θ I [oH,(cl p)] (bD p) (bc j LR λJ t j=>θ I [oH,oH,oH,(cl t)] (bD t) (by (cases j;exact (Δ (bY (bD (show ζ ([J.2])=ζ [a0] from rfl)))))))))
def fR (a1:Int)(j:Int×(GI×Int×Int)×GZ):Option ((Int×(GI×Int×Int)×GZ)⊕(((GI×Int×Int)×GZ))):=
 bif (decide (j.1<a1)) then
  (cD j.2.1 3).bind λo=>
  aY (ζ j.2.2+ζ ([o.1]:GZ)<=bl) (
   some (.inl ((bf .i64 j.1 1),o.2,(j.2.2++([o.1]:GZ)))))
 else
  some (.inr (j.2.1,j.2.2))
def fS (a1:Int)(s1:Int×(GI×Int×Int)×GI):Option ((Int×(GI×Int×Int)×GI)⊕(((GI×Int×Int)×GI))):=
 bif (decide (s1.1>0)) then
  (bh s1.2.1 a1).bind λj=>
  aY (ζ s1.2.2+ζ ([j.1]:GI)<=bl) (
   some (.inl ((bI .i64 s1.1 1),j.2,(s1.2.2++([j.1]:GI)))))
 else
  some (.inr (s1.2.1,s1.2.2))
def fa (a0:GI×Int×Int)(a1:Int)(a2:Int):Option (GP×(GI×Int×Int)):=
 (rounds (fS a1) ((iX .i64 a1 a2),a0,([]:GI))).bind λj=>
 (rounds (fR a1) (0,j.1,([]:GZ))).bind λo=>
 some ((a1,a2,j.2,o.2),o.1)
theorem LS {a0}{a1}{a2}{r}(J:fa a0 a1 a2=some r):CallOK ν 124 [.own (.bx (.st (.pair (.sl (.int .u8)) (.pair tI (.int .u64))))) [a0],.bP tI a1,.bP tI a2] [⟨true,(.st gP),r.1⟩] [⟨(.bx (.st (.pair (.sl (.int .u8)) (.pair tI (.int .u64))))),[r.2]⟩]:=
 dn Tryz.func124 rfl λcx p hF=>θ p [] aU (θ p [] aU (υ (θ p [] aU (ξ (Ϩ p J (λs1=>up [0,1,6,7] [(8,iV s1.1)] [1] [(0,.seq (.st (.pair (.sl (.int .u8)) (.pair tI (.int .u64)))) ([s1.2.1])),(2,.box [iC a1,iC a2,.all 5,.br]),(5,.seq tI s1.2.2)] 3) (λr3=>(.exit 0,up [0,1,6,7] [] [1] [(0,.seq (.st (.pair (.sl (.int .u8)) (.pair tI (.int .u64)))) ([r3.1])),(2,.box [iC a1,iC a2,.all 5,.br]),(5,.seq tI r3.2)] 3)) (λr3 J=>(bm (aX (υ (θ p [] aU (ξ (Ϩ p J (λs4=>up [0,1,6,7] [(9,iV s4.1)] [1,5] [(0,.seq (.st (.pair (.sl (.int .u8)) (.pair tI (.int .u64)))) ([s4.2.1])),(2,.box [iC a1,iC a2,.all 5,.all 8]),(8,.seq .bool s4.2.2)] 3) (λr6=>(.exit 2,up [6,7] [] [1,5] [(0,.seq (.st (.pair (.sl (.int .u8)) (.pair tI (.int .u64)))) ([r6.1])),(2,.box [iC a1,iC a2,.all 5,.all 8]),(8,.seq .bool r6.2)] 3)) (λr6 J=>(bm (aX (θ p [] aU (by (cases J;exact (Δ (bY (bD (show ζ ([r6.1])=ζ [a0] from rfl)))))))))) λs4 x7 o Jg=>υ (θ p [] aU (Ω o (λR o=>Η (aX (υ (ξ (bc o uh λKV t o=>bg o λT o=>agb p [oH,oH,oH,(cl t),(hT .bool),(hT .bool)] (dd t T) (bj (aX (Τ p [] aU λ_ h=>(bz (lN o h)))))))))) λR o=>Ϫ p (bw (bA (Jg _ (bd o))))))))))))) λs1 Un j U=>υ (θ p [] aU (Ω j (λaa j=>Η (aX (υ (ξ (bc j dT λYl I j=>bg j λab j=>agb p (nO 4 [(cl I),(hT tI),(hT tI)]) (dd I ab) (bj (aX (Τ p [] aU λ_ h=>(bz (lN j h)))))))))) λaa j=>Ϫ p (bw (bA (U _ (bd j)))))))))))
def dQ (a0:GI×Int×Int):Option (GP×(GI×Int×Int)):=
 (bh a0 6).bind λo=>
 (bh o.2 3).bind λp=>
 (fa p.2 (bf .i64 1 o.1) (bf .i64 1 p.1)).bind λj=>
 some ((j.1.1,j.1.2.1,j.1.2.2.1,j.1.2.2.2),j.2)
theorem Jh {a0}{r}(j:dQ a0=some r):CallOK ν 86 [.own (.bx (.st (.pair (.sl (.int .u8)) (.pair tI (.int .u64))))) [a0]] [⟨true,(.st gP),r.1⟩] [⟨(.bx (.st (.pair (.sl (.int .u8)) (.pair tI (.int .u64))))),[r.2]⟩]:=
 dn Tryz.func86 rfl λcx I R=>θ I [] aU (bc j dT λT o j=>θ I [oH,(cl o)] (bD o) (bc j dT λU p j=>θ I [oH,(cl p)] (bD p) (bc j LS λJ t j=>θ I [oH,oH,oH,(cl t)] (bD t) (by (cases j;exact (Δ (bY (bD (show ζ ([J.2])=ζ [a0] from rfl)))))))))
def jy (a1:Int)(a2:Int)(j:Int×(GI×Int×Int)×GL):Option ((Int×(GI×Int×Int)×GL)⊕(((GI×Int×Int)×GL))):=
 bif (decide (j.1>0)) then
  (bh j.2.1 a1).bind λo=>
  (bh o.2 a2).bind λt=>
  (show Option ((GI×Int×Int)×Int×Int) from
   (cD t.2 2).bind λp=>
   bif p.1 then
    (bh p.2 a1).bind λI=>
    (bh I.2 a1).bind λJ=>
    some (J.2,I.1,J.1)
   else
    some (p.2,t.1,(-1))).bind λv20=>
  (bh v20.1 6).bind λr=>
  aY (ζ j.2.2+ζ ([(o.1,v20.2.1,v20.2.2,r.1)]:GL)<=bl) (
   some (.inl ((bI .i64 j.1 1),r.2,(j.2.2++([(o.1,v20.2.1,v20.2.2,r.1)]:GL)))))
 else
  some (.inr (j.2.1,j.2.2))
def lz (a0:GI×Int×Int)(a1:Int)(a2:Int):Option (GG×(GI×Int×Int)):=
 (bh a0 (bf .i64 (iX .i64 3 a1) 2)).bind λp=>
 (rounds (jy a1 a2) ((bf .i64 1 p.1),p.2,([]:GL))).bind λj=>
 (bh j.1 a2).bind λo=>
 aY (ζ j.2+ζ ([((bI .i64 a1 1),o.1,(-1),1)]:GL)<=bl) (
  (some (j.2++([((bI .i64 a1 1),o.1,(-1),1)]:GL))).bind λr=>
  some ((a1,a2,r),o.2))
theorem LU {a0}{a1}{a2}{r}(t:lz a0 a1 a2=some r):CallOK ν 125 [.own (.bx (.st (.pair (.sl (.int .u8)) (.pair tI (.int .u64))))) [a0],.bP tI a1,.bP tI a2] [⟨true,(.st gR),r.1⟩] [⟨(.bx (.st (.pair (.sl (.int .u8)) (.pair tI (.int .u64))))),[r.2]⟩]:=
 dn Tryz.func125 rfl λcx p hF=>θ p [] aU (θ p [] aU (υ (bc t dT λy1 ad t=>θ p (nO 4 [(cl ad)]) (bD ad) (ξ (Ϩ p t (λs3=>up [0,1,2,6,7] [(8,iV s3.1)] [1] [(0,.seq (.st (.pair (.sl (.int .u8)) (.pair tI (.int .u64)))) ([s3.2.1])),(2,.box [iC a1,iC a2,.all 6]),(6,.seq (.st gQ) s3.2.2)] 4) (λr5=>(.exit 0,up [0,1,2,6,7] [] [1] [(0,.seq (.st (.pair (.sl (.int .u8)) (.pair tI (.int .u64)))) ([r5.1])),(2,.box [iC a1,iC a2,.all 6]),(6,.seq (.st gQ) r5.2)] 4)) (λr5 t=>(bm (aX (bc t dT λy6 ae t=>θ p [oH,oH,(cl ae)] (bD ae) (bg t λWq t=>θ p (nO 6 [(hT (.st gQ)),(hT (.st gQ))]) (bD Wq) (bq t λt=>θ p [] aU (by (cases t;exact (Δ (bY (bD (show ζ ([y6.2])=ζ [a0] from rfl)))))))))))) λs3 Uo j af=>υ (θ p [] aU (Ω j (λag j=>Η (aX (υ (ξ (bc j dT λQ0 I j=>θ p [oH,oH,(cl I)] (bD I) (bc j dT λPc J j=>θ p [oH,oH,(cl J)] (bD J) (ϰ j (λv20=>up [0,1,2,6,7,8,9] [] [1,2,6] [(0,.seq (.st (.pair (.sl (.int .u8)) (.pair tI (.int .u64)))) ([v20.1])),(7,.box [iC Q0.1,iC v20.2.1,iC v20.2.2,iC 0])] 0) (λv20 j=>bc j dT λKW R j=>θ p [oH,(cl R)] (bD R) (bg j λah j=>Ο p [oH,oH,oH,(hT (.st gQ)),(hT (.st gQ))] (bD ah) (bj (aX (Τ p [] aU λ_ h=>(bz (lN j h))))))) λ_ o T=>bc o uh λYm U o=>θ p [oH,(cl U)] (bD U) (Ω o (λai o=>bc o dT λYn aa o=>θ p [oH,oH,(cl aa)] (bD aa) (bc o dT λUm ab o=>Τ p [oH,oH,(cl ab)] (bD ab) λ_ h=>(aX (h.ht (T _ (aZ o)))))) λai o=>Η (aX (aa5 p (T _ (aZ o)))))))))))) λag j=>Ϫ p (bw (bA (af _ (bd j)))))))))))
def eW (a0:GI×Int×Int):Option (GG×(GI×Int×Int)):=
 (bh a0 4).bind λo=>
 (bh o.2 3).bind λp=>
 (lz p.2 (bf .i64 1 o.1) (bf .i64 1 p.1)).bind λj=>
 some ((j.1.1,j.1.2.1,j.1.2.2),j.2)
theorem Ji {a0}{r}(j:eW a0=some r):CallOK ν 87 [.own (.bx (.st (.pair (.sl (.int .u8)) (.pair tI (.int .u64))))) [a0]] [⟨true,(.st gR),r.1⟩] [⟨(.bx (.st (.pair (.sl (.int .u8)) (.pair tI (.int .u64))))),[r.2]⟩]:=
 dn Tryz.func87 rfl λcx I R=>θ I [] aU (bc j dT λT o j=>θ I [oH,(cl o)] (bD o) (bc j dT λU p j=>θ I [oH,(cl p)] (bD p) (bc j LU λJ t j=>θ I [oH,oH,oH,(cl t)] (bD t) (by (cases j;exact (Δ (bY (bD (show ζ ([J.2])=ζ [a0] from rfl)))))))))
def jZ (j:Int×(GI×Int×Int)×GI):Option ((Int×(GI×Int×Int)×GI)⊕(((GI×Int×Int)×GI))):=
 bif (decide (j.1>0)) then
  (bh j.2.1 2).bind λo=>
  aY (ζ j.2.2+ζ ([o.1]:GI)<=bl) (
   some (.inl ((bI .i64 j.1 1),o.2,(j.2.2++([o.1]:GI)))))
 else
  some (.inr (j.2.1,j.2.2))
def gI (a0:GI×Int×Int):Option (GI×(GI×Int×Int)):=
 (bh a0 6).bind λj=>
 (rounds (jZ) (j.1,j.2,([]:GI))).bind λo=>
 some (o.2,o.1)
theorem Jj {a0}{r}(t:gI a0=some r):CallOK ν 88 [.own (.bx (.st (.pair (.sl (.int .u8)) (.pair tI (.int .u64))))) [a0]] [⟨true,cg,r.1⟩] [⟨(.bx (.st (.pair (.sl (.int .u8)) (.pair tI (.int .u64))))),[r.2]⟩]:=
 dn Tryz.func88 rfl λcx o hF=>θ o [] aU (θ o [] aU (υ (bc t dT λy1 I t=>θ o [oH,(cl I)] (bD I) (ξ (Ϩ o t (λR=>up [0] [(3,aV 3),(4,iV R.1)] [] [(0,.seq (.st (.pair (.sl (.int .u8)) (.pair tI (.int .u64)))) ([R.2.1])),(3,.seq tI R.2.2)] 3) (λT=>(.exit 0,up [] [(3,aV 3)] [] [(0,.seq (.st (.pair (.sl (.int .u8)) (.pair tI (.int .u64)))) ([T.1])),(3,.seq tI T.2)] 3)) (λT t=>(bm (aX (θ o [] aU (by (cases t;exact (Δ (bY (bD (show ζ ([T.1])=ζ [a0] from rfl)))))))))) λR x6 j U=>υ (θ o [] aU (Ω j (λaa j=>Η (aX (υ (ξ (bc j dT λab p j=>bg j λJ j=>Ο o [oH,oH,(cl p),(hT tI),(hT tI)] (dd p J) (bj (aX (Τ o [] aU λ_ h=>(bz (lN j h)))))))))) λaa j=>Ϫ o (bw (bA (U _ (bd j)))))))))))
def oF (a0:GI×Int×Int):Option ((GM×GP×GG×GI)×(GI×Int×Int)):=
 (eV a0).bind λj=>
 (dQ j.2).bind λo=>
 (eW o.2).bind λp=>
 (gI p.2).bind λr=>
 some (((j.1.1,j.1.2.1,j.1.2.2.1,j.1.2.2.2.1,j.1.2.2.2.2),(o.1.1,o.1.2.1,o.1.2.2.1,o.1.2.2.2),(p.1.1,p.1.2.1,p.1.2.2),r.1),r.2)
theorem Pd {a0}{r}(j:oF a0=some r):CallOK ν 37 [.own (.bx (.st (.pair (.sl (.int .u8)) (.pair tI (.int .u64))))) [a0]] [⟨true,(.st (.pair (.st gM) (.pair (.st gP) (.pair (.st gR) cg)))),r.1⟩] [⟨(.bx (.st (.pair (.sl (.int .u8)) (.pair tI (.int .u64))))),[r.2]⟩]:=
 dn Tryz.func37 rfl λcx o T=>θ o [] aU (bc j Jf λU p j=>θ o [oH,(cl p)] (bD p) (bc j Jh λy3 t j=>θ o [oH,(cl t)] (bD t) (bc j Ji λy5 I j=>θ o [oH,(cl I)] (bD I) (bc j Jj λR J j=>θ o [oH,(cl J)] (bD J) (θ o [] aU (by (cases j;exact (Δ (bY (bD (show ζ ([R.2])=ζ [a0] from rfl)))))))))))
def pd (a0:GI):Option ((GM×GP×GG×GI)):=
 (nY a0).bind λo=>
 (oF o).bind λj=>
 some ((j.1.1.1,j.1.1.2.1,j.1.1.2.2.1,j.1.1.2.2.2.1,j.1.1.2.2.2.2),(j.1.2.1.1,j.1.2.1.2.1,j.1.2.1.2.2.1,j.1.2.1.2.2.2),(j.1.2.2.1.1,j.1.2.2.1.2.1,j.1.2.2.1.2.2),j.1.2.2.2)
theorem SE {a0}{r}(j:pd a0=some r):CallOK ν 7 [.bP (.sl (.int .u8)) a0] [⟨true,(.st (.pair (.st gM) (.pair (.st gP) (.pair (.st gR) cg)))),r⟩] []:=
 dn Tryz.func7 rfl λcx t I=>θ t [] aU (bc j Je λJ o j=>θ t [oH,(cl o)] (bD o) (bc j Pd λR p j=>θ t [oH,(cl p)] (bD p) (by (cases j;exact (Δ (bY aU))))))
def gJ (s1:Int×GI):Option ((Int×GI)⊕GI):=
 (show Option (Bool) from
  bif ((aW s1.2)==0) then
   some true
  else
   some (s1.1 != 0)).bind λo=>
 bif o then
  (show Option (Int) from
   bif (decide ((abQ s1.1 10)<0)) then
    some (Φ .i64 (0 - (abQ s1.1 10)))
   else
    some (abQ s1.1 10)).bind λj=>
  aY (ζ ([(Φ .u8 (bf .i64 48 j))]:GI)+ζ s1.2<=bl) (
   some (.inl ((Φ .i64 (Int.tdiv s1.1 10)),(([(Φ .u8 (bf .i64 48 j))]:GI)++s1.2))))
 else
  some (.inr s1.2)
def jz (a0:Int):Option GB:=
 (rounds (gJ) (a0,([]:GI))).bind λj=>
 (show Option GI from
  bif (decide (a0<0)) then
   aY (ζ ([45]:GI)+ζ j<=bl) (
    some (([45]:GI)++j))
  else
   some j).bind λo=>
 some (lr o)
theorem AZ {a0}{r}(U:jz a0=some r):CallOK ν 110 [.bP tI a0] [⟨false,.str,r⟩] []:=
 dn Tryz.func110 rfl λcx o hF=>θ o [] aU (θ o [] aU (θ o [] aU (υ (ξ (Ϩ o U (λs1=>up [0] [(3,aV 2),(4,iV s1.1)] [] [(2,.seq (.int .u8) s1.2)] 3) (λr3=>(.exit 0,up [0] [(3,aV 2)] [] [(2,.seq (.int .u8) r3)] 3)) (λr3 U=>(bm (aX (ϰ U (λv5=>up [] [(3,aV 4)] [] [(4,.seq (.int .u8) v5)] 2) (λv5 U=>θ o [] aU (by (cases U;exact (Δ (bY aU))))) λ_ I aa=>θ o [] aU (Ω I (λPe I=>bg I λPf I=>Τ o [(hT (.int .u8)),oH,(hT (.int .u8))] (bD Pf) λ_ h=>(aX (h.ht (aa _ (aZ I))))) λPe I=>Η (aX (aa5 o (aa _ (aZ I))))))))) λs1 Yo j ab=>υ (ϰ j (λad=>up [0,3,4] [(14,bV ad)] [2] [] 0) (λad j=>Ω j (λae j=>Η (aX (ξ (θ o [] (bD (show (10:Int)≠0 from by decide)) (ϰ j (λaf=>up [0,3,4] [(5,iV af)] [2] [] 0) (λaf j=>bg j λag j=>θ o [oH,oH,oH,(hT (.int .u8)),oH,(hT (.int .u8))] (bD ag) (Τ o [] (bD (show (10:Int)≠0 from by decide)) λ_ h=>(bj (bz (lN j h))))) λ_ p R=>θ o [] aU (Ω p (λah p=>Τ o [] aU λ_ h=>(aX (h.ht (R _ (aZ p))))) λah p=>Η (aX (aa5 o (R _ (aZ p)))))))))) λae j=>Ϫ o (bw (bA (ab _ (bd j))))) λ_ t T=>bb t (λJ t=>Τ o [oH,oH,oH,kT] (bD J) λ_ h=>(aX (h.ht (T _ (aZ t))))) λJ t=>Τ o [oH,oH,oH,kF] (bD J) λ_ h=>(aX (h.ht (T _ (aZ t))))))))))
def cP (a0:GI×Int×Int)(a1:List GB):Option (GB×(GI×Int×Int)):=
 (bh a0 (aW a1)).bind λj=>
 aY (0<=j.1/\j.1<aW a1) (
  some ((ε a1 (δ j.1) ([]:GB)),j.2))
theorem qy {a0}{a1}{r}(j:cP a0 a1=some r):CallOK ν 111 [.own (.bx (.st (.pair (.sl (.int .u8)) (.pair tI (.int .u64))))) [a0],.bP (.sl .str) a1] [⟨false,.str,r.1⟩] [⟨(.bx (.st (.pair (.sl (.int .u8)) (.pair tI (.int .u64))))),[r.2]⟩]:=
 dn Tryz.func111 rfl λcx t J=>θ t [] aU (bc j dT λI o j=>bg j λp j=>θ t (nO 4 [(cl o)]) (dd o p) (by (cases j;exact (Δ (bY (bD (show ζ ([I.2])=ζ [a0] from rfl)))))))
def iM (a0:GI)(j:GB×Int):Option ((GB×Int)⊕GB):=
 bif (decide (j.2<(aW a0))) then
  aY (0<=j.2/\j.2<aW a0) (
   (jz (ε a0 (δ j.2) 0)).bind λo=>
   aY (ζ ([44]:GB)+ζ o<=bl) (
    aY (ζ j.1+ζ (([44]:GB)++o)<=bl) (
     some (.inl ((j.1++(([44]:GB)++o)),(bf .i64 j.2 1))))))
 else
  some (.inr j.1)
def df (a0:GI):Option GB:=
 bif ((aW a0)==0) then
  some ([110,111,110,101]:GB)
 else
  aY ((0:Int)<=0/\0<aW a0) (
   (jz (ε a0 (δ 0) 0)).bind λj=>
   (rounds (iM a0) (j,1)).bind λo=>
   some o)
theorem nZ {a0}{r}(o:df a0=some r):CallOK ν 115 [.bP cg a0] [⟨false,.str,r⟩] []:=
 dn Tryz.func115 rfl λcx p hF=>θ p [] aU (υ (θ p [] aU (Ω o (λab o=>θ p [] aU (by (cases o;exact (Δ (bn (bY aU)))))) λab o=>Η (aX (bg o λad o=>bc o AZ λy3 I o=>θ p [oH,oH,oH,(cl I)] (dd ad I) (υ (θ p [] aU (ξ (Ϩ p o (λs5=>up [0] [(3,.one (.bp .str s5.1)),(4,iV s5.2)] [] [] 0) (λr7=>(.exit 0,up [] [(3,.one (.bp .str r7))] [] [] 0)) (λr7 o=>(bm (aX (θ p [] aU (by (cases o;exact (Δ (bY aU)))))))) λs5 x8 j J=>υ (θ p [] aU (Ω j (λR j=>Η (aX (υ (ξ (bg j λT j=>bc j AZ λUp t j=>bg j λU j=>bg j λaa j=>Ο p (nO 5 [(cl t)]) (nB T t U aa) (bj (aX (Τ p [] aU λ_ h=>(bz (lN j h)))))))))) λR j=>Ϫ p (bw (bA (J _ (bd j)))))))))))))))
def kj (a0:GL)(s1:Int×GI):Option ((Int×GI)⊕GI):=
 bif (decide (s1.1<(aW a0))) then
  aY (0<=s1.1/\s1.1<aW a0) (
   aY (ζ s1.2+ζ ([(ε a0 (δ s1.1) (0,0,0,0)).1,((ε a0 (δ s1.1) (0,0,0,0)).2).1,(((ε a0 (δ s1.1) (0,0,0,0)).2).2).1,(((ε a0 (δ s1.1) (0,0,0,0)).2).2).2]:GI)<=bl) (
    some (.inl ((bf .i64 s1.1 1),(s1.2++([(ε a0 (δ s1.1) (0,0,0,0)).1,((ε a0 (δ s1.1) (0,0,0,0)).2).1,(((ε a0 (δ s1.1) (0,0,0,0)).2).2).1,(((ε a0 (δ s1.1) (0,0,0,0)).2).2).2]:GI))))))
 else
  some (.inr s1.2)
def n5 (a0:GL):Option GI:=
 (rounds (kj a0) (0,([]:GI))).bind λj=>
 some j
theorem LV {a0}{r}(t:n5 a0=some r):CallOK ν 141 [.bP gA a0] [⟨true,cg,r⟩] []:=
 dn Tryz.func141 rfl λcx o hF=>θ o [] aU (θ o [] aU (υ (θ o [] aU (ξ (Ϩ o t (λI=>up [0] [(3,aV 2),(4,iV I.1)] [] [(2,.seq tI I.2)] 3) (λU=>(.exit 0,up [] [(3,aV 2)] [] [(2,.seq tI U)] 3)) (λU t=>(bm (aX (θ o [] aU (by (cases t;exact (Δ (bY aU)))))))) λI x4 j J=>υ (θ o [] aU (Ω j (λR j=>Η (aX (υ (ξ (bg j λp j=>bg j λT j=>agb o (nO 21 [(hT tI),(hT tI)]) (iE p p p p (bD T)) (bj (aX (Τ o [] aU λ_ h=>(bz (lN j h)))))))))) λR j=>Ϫ o (bw (bA (J _ (bd j)))))))))))
def kn (a0:GM):Option GB:=
 (df ([a0.1,a0.2.1]:GI)).bind λj=>
 aY (ζ j+ζ ([59]:GB)<=bl) (
  (df a0.2.2.2.1).bind λo=>
  aY (ζ (j++([59]:GB))+ζ o<=bl) (
   aY (ζ ((j++([59]:GB))++o)+ζ ([59]:GB)<=bl) (
    (df a0.2.2.2.2).bind λr=>
    aY (ζ (((j++([59]:GB))++o)++([59]:GB))+ζ r<=bl) (
     aY (ζ ((((j++([59]:GB))++o)++([59]:GB))++r)+ζ ([59]:GB)<=bl) (
      (n5 a0.2.2.1).bind λt=>
      (df t).bind λp=>
      aY (ζ (((((j++([59]:GB))++o)++([59]:GB))++r)++([59]:GB))+ζ p<=bl) (
       (some ((((((j++([59]:GB))++o)++([59]:GB))++r)++([59]:GB))++p)).bind λI=>
       some I))))))
theorem LX {a0}{r}(j:kn a0=some r):CallOK ν 112 [.fW (.st gM) a0] [⟨false,.str,r⟩] []:=
 dn Tryz.func112 rfl λcx hX hF=>θ hX [] aU (bc j nZ λy1 t j=>bg j λaa j=>bc j nZ λy4 I j=>bg j λab j=>bg j λad j=>bc j nZ λy8 J j=>bg j λR j=>bg j λT j=>bc j LV λyJ o j=>bc j nZ λSF p j=>bg j λU j=>HT.dg hX (nO 8 [(hT tI),(cl t),oH,oH,oH,oH,oH,(cl I),oH,oH,oH,oH,oH,oH,(cl J),oH,oH,oH,oH,oH,oH,(cl o),(cl p)]) (iE t aa I ab (iE ad J R T (kQ o p U))) (bq j λj=>by (cases j;exact (Δ (bY aU)))))
def pQ (a0:GP)(j:GB×Int):Option ((GB×Int)⊕GB):=
 bif (decide (j.2<(aW a0.2.2.2))) then
  (show Option GB from
   aY (0<=j.2/\j.2<aW a0.2.2.2) (
    bif (ε a0.2.2.2 (δ j.2) false) then
     aY (ζ j.1+ζ ([49]:GB)<=bl) (
      some (j.1++([49]:GB)))
    else
     aY (ζ j.1+ζ ([48]:GB)<=bl) (
      some (j.1++([48]:GB))))).bind λo=>
  some (.inl (o,(bf .i64 j.2 1)))
 else
  some (.inr j.1)
def mP (a0:GP):Option GB:=
 (df ([a0.1,a0.2.1]:GI)).bind λj=>
 aY (ζ j+ζ ([59]:GB)<=bl) (
  (df a0.2.2.1).bind λo=>
  aY (ζ (j++([59]:GB))+ζ o<=bl) (
   aY (ζ ((j++([59]:GB))++o)+ζ ([59]:GB)<=bl) (
    (rounds (pQ a0) ((((j++([59]:GB))++o)++([59]:GB)),0)).bind λp=>
    some p)))
theorem LY {a0}{r}(p:mP a0=some r):CallOK ν 113 [.fW (.st gP) a0] [⟨false,.str,r⟩] []:=
 dn Tryz.func113 rfl λcx t hF=>θ t [] aU (bc p nZ λy1 J p=>bg p λah p=>bc p nZ λy4 R p=>bg p λai p=>bg p λaj p=>HT.dg t (nO 8 [(hT tI),(cl J),oH,oH,oH,oH,oH,(cl R)]) (iE J ah R ai (bD aj)) (υ (θ t [] aU (ξ (Ϩ t p (λs8=>up [0] [(3,.one (.bp .str s8.1)),(4,iV s8.2)] [] [] 0) (λT=>(.exit 0,up [] [(3,.one (.bp .str T))] [] [] 0)) (λT p=>(bm (aX (θ t [] aU (by (cases p;exact (Δ (bY aU)))))))) λs8 Uo o U=>υ (θ t [] aU (Ω o (λaa o=>Η (aX (ϰ o (λab=>up [0,4] [(3,.one (.bp .str ab))] [] [] 0) (λab o=>Τ t [] aU λ_ h=>(bz (lN o h))) λ_ j I=>ξ (bg j λad j=>θ t [] (bD ad) (Ω j (λae j=>bg j λaf j=>Τ t [] (bD af) λ_ h=>(bj (aX (h.ht (I _ (aZ j)))))) λae j=>bg j λag j=>Τ t [] (bD ag) λ_ h=>(bj (aX (h.ht (I _ (aZ j)))))))))) λaa o=>Ϫ t (bw (bA (U _ (bd o)))))))))))
def jK (a0:GL)(s1:Int×GI):Option ((Int×GI)⊕GI):=
 bif (decide (s1.1<(aW a0))) then
  aY (0<=s1.1/\s1.1<aW a0) (
   aY (ζ s1.2+ζ ([(ε a0 (δ s1.1) (0,0,0,0)).1,((ε a0 (δ s1.1) (0,0,0,0)).2).1,(((ε a0 (δ s1.1) (0,0,0,0)).2).2).1,(((ε a0 (δ s1.1) (0,0,0,0)).2).2).2]:GI)<=bl) (
    some (.inl ((bf .i64 s1.1 1),(s1.2++([(ε a0 (δ s1.1) (0,0,0,0)).1,((ε a0 (δ s1.1) (0,0,0,0)).2).1,(((ε a0 (δ s1.1) (0,0,0,0)).2).2).1,(((ε a0 (δ s1.1) (0,0,0,0)).2).2).2]:GI))))))
 else
  some (.inr s1.2)
def mQ (a0:GL):Option GI:=
 (rounds (jK a0) (0,([]:GI))).bind λj=>
 some j
theorem LZ {a0}{r}(t:mQ a0=some r):CallOK ν 142 [.bP gA a0] [⟨true,cg,r⟩] []:=
 dn Tryz.func142 rfl λcx o hF=>θ o [] aU (θ o [] aU (υ (θ o [] aU (ξ (Ϩ o t (λI=>up [0] [(3,aV 2),(4,iV I.1)] [] [(2,.seq tI I.2)] 3) (λU=>(.exit 0,up [] [(3,aV 2)] [] [(2,.seq tI U)] 3)) (λU t=>(bm (aX (θ o [] aU (by (cases t;exact (Δ (bY aU)))))))) λI x4 j J=>υ (θ o [] aU (Ω j (λR j=>Η (aX (υ (ξ (bg j λp j=>bg j λT j=>agb o (nO 21 [(hT tI),(hT tI)]) (iE p p p p (bD T)) (bj (aX (Τ o [] aU λ_ h=>(bz (lN j h)))))))))) λR j=>Ϫ o (bw (bA (J _ (bd j)))))))))))
def ko (a0:GG):Option GB:=
 (df ([a0.1,a0.2.1]:GI)).bind λj=>
 aY (ζ j+ζ ([59]:GB)<=bl) (
  (mQ a0.2.2).bind λp=>
  (df p).bind λo=>
  aY (ζ (j++([59]:GB))+ζ o<=bl) (
   some ((j++([59]:GB))++o)))
theorem L0 {a0}{r}(j:ko a0=some r):CallOK ν 114 [.fW (.st gR) a0] [⟨false,.str,r⟩] []:=
 dn Tryz.func114 rfl λcx R T=>θ R [] aU (bc j nZ λU o j=>bg j λI j=>bc j LZ λy4 p j=>bc j nZ λy6 t j=>bg j λJ j=>HT.dg R (nO 8 [(hT tI),(cl o),oH,oH,oH,oH,oH,(cl p),(cl t)]) (iE o I p t (bD J)) (by (cases j;exact (Δ (bY aU)))))
def gL (a0:GI×Int×Int):Option (GB×(GI×Int×Int)):=
 (bh a0 14).bind λy1=>
 (jz y1.1).bind λy3=>
 (bh y1.2 11).bind λj=>
 bif (j.1==0) then
  (cP j.2 ([([]:GB),([119,104,97,116]:GB),([109,97,99,104,105,110,101,32,49,44,49,59,48,59,48,59,48,44,48,44,48]:GB),([109,97,99,104,105,110,101,32,48,44,49,59,110,111,110,101,59,110,111,110,101,59,110,111,110,101]:GB),([109,97,99,104,105,110,101,32,49,44,49,59,45,50,59,48,59,110,111,110,101]:GB),([109,97,99,104,105,110,101,32,120]:GB),([112,108,97,105,110,32,49,44,49,59,49,59,49]:GB),([112,108,97,105,110,32,49,44,49,59,48,59,50]:GB),([112,108,97,105,110,32,49,44,49,59,48,59]:GB),([103,114,97,109,109,97,114,32,49,44,49,59,48,44,48,44,48]:GB),([103,114,97,109,109,97,114,32,49,44,49,59,48,44,49,44,45,49,44,48]:GB),([103,114,97,109,109,97,114,32,48,44,49,59,110,111,110,101]:GB),([119,111,114,100,32,52]:GB),([119,111,114,100,32,45,49]:GB),([119,111,114,100,32,120]:GB),([99,111,117,110,116,32,45,49]:GB),([99,111,117,110,116,32,49,51]:GB),([114,111,109,97,110,32,48]:GB),([114,111,109,97,110,32,52,48,48,48]:GB),([101,100,105,116,32,97]:GB),([99,111,115,116,32,110,111,119]:GB),([114,101,97,100,115,32,49]:GB)]:List GB)).bind λy8=>
  some (y8.1,y8.2)
 else
  bif (j.1==1) then
   (eV j.2).bind λo=>
   (kn (o.1.1,o.1.2.1,o.1.2.2.1,o.1.2.2.2.1,o.1.2.2.2.2)).bind λI=>
   aY (ζ ([109,97,99,104,105,110,101,32]:GB)+ζ I<=bl) (
    some ((([109,97,99,104,105,110,101,32]:GB)++I),o.2))
  else
   bif (j.1==2) then
    (dQ j.2).bind λp=>
    (mP (p.1.1,p.1.2.1,p.1.2.2.1,p.1.2.2.2)).bind λJ=>
    aY (ζ ([112,108,97,105,110,32]:GB)+ζ J<=bl) (
     some ((([112,108,97,105,110,32]:GB)++J),p.2))
   else
    bif (j.1==3) then
     (eW j.2).bind λr=>
     (ko (r.1.1,r.1.2.1,r.1.2.2)).bind λR=>
     aY (ζ ([103,114,97,109,109,97,114,32]:GB)+ζ R<=bl) (
      some ((([103,114,97,109,109,97,114,32]:GB)++R),r.2))
    else
     bif (j.1==4) then
      (gI j.2).bind λT=>
      (df T.1).bind λU=>
      aY (ζ ([119,111,114,100,32]:GB)+ζ U<=bl) (
       some ((([119,111,114,100,32]:GB)++U),T.2))
     else
      bif (j.1==5) then
       (cP j.2 ([([98,97,99,107]:GB),([116,105,100,121]:GB),([116,114,105,109]:GB),([108,101,116,116,101,114,101,100]:GB),([114,101,112,101,97,116]:GB)]:List GB)).bind λaa=>
       some (aa.1,aa.2)
      else
       bif (j.1==6) then
        (cP j.2 ([([99,111,115,116]:GB),([98,101,115,116]:GB),([109,97,107,101]:GB),([108,101,97,115,116]:GB),([111,116,104,101,114]:GB)]:List GB)).bind λab=>
        some (ab.1,ab.2)
       else
        bif (j.1==7) then
         (cP j.2 ([([114,101,97,100,115]:GB),([102,105,114,115,116]:GB),([108,101,97,114,110]:GB),([114,117,108,101,115]:GB)]:List GB)).bind λad=>
         some (ad.1,ad.2)
        else
         bif (j.1==8) then
          (cP j.2 ([([112,97,114,115,101]:GB),([116,114,101,101,115]:GB),([99,104,101,97,112]:GB),([117,115,101,102,117,108]:GB)]:List GB)).bind λae=>
          some (ae.1,ae.2)
         else
          bif (j.1==9) then
           (cP j.2 ([([99,111,117,110,116,32]:GB),([114,111,109,97,110,32]:GB)]:List GB)).bind λt=>
           aY (ζ t.1+ζ y3<=bl) (
            some ((t.1++y3),t.2))
          else
           (cP j.2 ([([109,97,99,104,105,110,101]:GB),([112,108,97,105,110]:GB),([103,114,97,109,109,97,114]:GB),([119,111,114,100]:GB),([101,100,105,116,32,107,105,116,116,101,110,32,115,105,116,116,105,110,103]:GB),([101,100,105,116,32,32,97]:GB)]:List GB)).bind λaf=>
           some (af.1,af.2)
theorem Pg {a0}{r}(j:gL a0=some r):CallOK ν 74 [.own (.bx (.st (.pair (.sl (.int .u8)) (.pair tI (.int .u64))))) [a0]] [⟨false,.str,r.1⟩] [⟨(.bx (.st (.pair (.sl (.int .u8)) (.pair tI (.int .u64))))),[r.2]⟩]:=
 dn Tryz.func74 rfl λcx o hF=>θ o [] aU (bc j dT λy1 ai j=>bc j AZ λy3 aj j=>θ o [oH,(cl ai),(cl aj)] (dd ai aj) (υ (bc j dT λy5 ak j=>θ o [oH,(cl ak)] (bD ak) (ξ (θ o [] aU (Ω j (λaE j=>bc j qy λy8 al j=>θ o [oH,⟨none,.HM .str⟩,(cl al)] (bD al) (by (cases j;exact (Δ (bH (bn (bY (bD (show ζ ([y8.2])=ζ [a0] from rfl))))))))) λaE j=>θ o [] aU (Ω j (λan j=>bc j Jf λaF p j=>θ o [oH,(cl p)] (bD p) (bc j LX λUp t j=>bg j λao j=>θ o [(cl t)] (dd t ao) (by (cases j;exact (Δ (bH (bn (bY (bD (show ζ ([aF.2])=ζ [a0] from rfl)))))))))) λan j=>θ o [] aU (Ω j (λaq j=>bc j Jh λaG I j=>θ o [oH,(cl I)] (bD I) (bc j LY λSG J j=>bg j λar j=>θ o [(cl J)] (dd J ar) (by (cases j;exact (Δ (bH (bn (bY (bD (show ζ ([aG.2])=ζ [a0] from rfl)))))))))) λaq j=>θ o [] aU (Ω j (λau j=>bc j Ji λaH R j=>θ o [oH,(cl R)] (bD R) (bc j L0 λUq T j=>bg j λav j=>θ o [(cl T)] (dd T av) (by (cases j;exact (Δ (bH (bn (bY (bD (show ζ ([aH.2])=ζ [a0] from rfl)))))))))) λau j=>θ o [] aU (Ω j (λaw j=>bc j Jj λaI U j=>bc j nZ λUm aa j=>bg j λax j=>θ o [oH,(cl U),(cl aa)] (kQ U aa ax) (by (cases j;exact (Δ (bH (bn (bY (bD (show ζ ([aI.2])=ζ [a0] from rfl))))))))) λaw j=>θ o [] aU (Ω j (λay j=>bc j qy λaJ ab j=>θ o [oH,⟨none,.HM .str⟩,(cl ab)] (bD ab) (by (cases j;exact (Δ (bH (bn (bY (bD (show ζ ([aJ.2])=ζ [a0] from rfl))))))))) λay j=>θ o [] aU (Ω j (λaz j=>bc j qy λaK ad j=>θ o [oH,⟨none,.HM .str⟩,(cl ad)] (bD ad) (by (cases j;exact (Δ (bH (bn (bY (bD (show ζ ([aK.2])=ζ [a0] from rfl))))))))) λaz j=>θ o [] aU (Ω j (λaA j=>bc j qy λaL ae j=>θ o [oH,⟨none,.HM .str⟩,(cl ae)] (bD ae) (by (cases j;exact (Δ (bH (bn (bY (bD (show ζ ([aL.2])=ζ [a0] from rfl))))))))) λaA j=>θ o [] aU (Ω j (λaB j=>bc j qy λaM af j=>θ o [oH,⟨none,.HM .str⟩,(cl af)] (bD af) (by (cases j;exact (Δ (bH (bn (bY (bD (show ζ ([aM.2])=ζ [a0] from rfl))))))))) λaB j=>θ o [] aU (Ω j (λaC j=>bc j qy λaN ag j=>bg j λaD j=>θ o [oH,⟨none,.HM .str⟩,(cl ag)] (dd ag aD) (by (cases j;exact (Δ (bH (bn (bY (bD (show ζ ([aN.2])=ζ [a0] from rfl))))))))) λaC j=>Η (bj (aX (bc j qy λaO ah j=>θ o [oH,⟨none,.HM .str⟩,(cl ah)] (bD ah) (by (cases j;exact (Δ (bY (bD (show ζ ([aO.2])=ζ [a0] from rfl))))))))))))))))))))))))
def nD (o:Int×(GI×Int×Int)×List GB):Option ((Int×(GI×Int×Int)×List GB)⊕(List GB)):=
 bif (decide (o.1>0)) then
  (gL o.2.1).bind λj=>
  aY (ζ o.2.2+ζ ([j.1]:List GB)<=bl) (
   some (.inl ((bI .i64 o.1 1),j.2,(o.2.2++([j.1]:List GB)))))
 else
  some (.inr o.2.2)
def n9 (a0:GI):Option (List GB):=
 (nY a0).bind λo=>
 (bh o 5).bind λj=>
 (rounds (nD) ((bf .i64 1 j.1),j.2,([]:List GB))).bind λp=>
 some p
theorem Ph {a0}{r}(t:n9 a0=some r):CallOK ν 27 [.bP (.sl (.int .u8)) a0] [⟨true,(.sl .str),r⟩] []:=
 dn Tryz.func27 rfl λcx o hF=>θ o [] aU (bc t Je λy1 I t=>θ o [oH,(cl I)] (bD I) (θ o [] aU (υ (bc t dT λy3 J t=>θ o [oH,(cl J)] (bD J) (ξ (Ϩ o t (λs5=>up [3] [(4,aV 3),(5,iV s5.1)] [] [(0,.seq (.st (.pair (.sl (.int .u8)) (.pair tI (.int .u64)))) ([s5.2.1])),(3,.seq .str s5.2.2)] 3) (λr7=>(.exit 0,up [] [(4,aV 3)] [] [(3,.seq .str r7)] 3)) (λr7 t=>(bm (aX (θ o [] aU (by (cases t;exact (Δ (bY aU)))))))) λs5 x8 j R=>υ (θ o [] aU (Ω j (λT j=>Η (aX (υ (ξ (bc j Pg λyJ p j=>bg j λU j=>Ο o [oH,oH,(cl p),(hT .str),(hT .str)] (dd p U) (bj (aX (Τ o [] aU λ_ h=>(bz (lN j h)))))))))) λT j=>Ϫ o (bw (bA (R _ (bd j))))))))))))
def strings_Split (a0 a1:GB):Option (List GB):=
 aY (a0.length<4294967281/\1<=a1.length)<|some (Lib.split a0 a1)
theorem A0 {a0 a1}{r}(h:strings_Split a0 a1=some r):CallOK ν 94 [.bP .str a0,.bP .str a1] [⟨true,.sl .str,r⟩] []:=by
 obtain ⟨j,h⟩:=iK h;have h:=aZ h;subst h;exact I0 ⟨_,Tryz.func94,by kernel_rfl,by kernel_rfl⟩ j.1 j.2 λw S o=>by
  obtain ⟨m,p⟩:=Glob.HO o;exact Tryz.strings_Split _ _ m w j.1 p j.2
def jL (a0:GB):Option (List GB×Bool):=
 (strings_Split a0 ([10]:GB)).bind λj=>
 (show Option (Bool) from
  aY (0<=(bI .i64 (aW j) 1)/\(bI .i64 (aW j) 1)<=aW j) (
   bif (decide ((aW a0)<=16000)) then
    aY (0<=(bI .i64 (aW j) 1)/\(bI .i64 (aW j) 1)<aW j) (
     some ((ε j (δ (bI .i64 (aW j) 1)) ([]:GB))==([]:GB)))
   else
    some false)).bind λv4=>
 some ((Ϝ (δ (bI .i64 (aW j) 1)) j),v4)
theorem Jk {a0}{r}(J:jL a0=some r):CallOK ν 45 [.bP .str a0] [⟨true,(.sl .str),r.1⟩,⟨false,.bool,r.2⟩] []:=
 dn Tryz.func45 rfl λcx p hF=>θ p [] aU (bc J A0 λj R J=>θ p [oH,(cl R)] (bD R) (θ p [] aU (ϰ J (λv4=>up [] [(2,aV 0),(3,bV v4)] [] [(0,.seq .str (Ϝ (δ (bI .i64 (aW j) 1)) j))] 0) (λv4 J=>by (cases J;exact (Δ (bY aU)))) λ_ o T=>bg o λt o=>bb o (λI o=>bg o λU o=>agb p (nO 6 [kT]) (nB (Sy t) I U (bG U)) (aX (((Le.cv (s:=⟨[(0,0)],[],[0],false⟩) (own:=[]) (ps:=[0=0,ζ (Ϝ (δ (bI .i64 (aW j) 1)) j)=δ (bI .i64 (aW j) 1),((ε j (δ (bI .i64 (aW j) 1)) ([]:GB))==([]:GB))=((ε j (δ (bI .i64 (aW j) 1)) ([]:GB))==([]:GB)),(Ϝ (δ (bI .i64 (aW j) 1)) j)=Ϝ (ζ (Ϝ (δ (bI .i64 (aW j) 1)) j)) j]) (st':=⟨[(2,aV 0),(3,bV ((ε j (δ (bI .i64 (aW j) 1)) ([]:GB))==([]:GB)))],[(0,.seq .str (Ϝ (δ (bI .i64 (aW j) 1)) j))],1⟩) p.own (λh=>by cases h) (by kernel_rfl) ⟨rfl,(Eo t),rfl,(Ep _ _),trivial⟩).trans (Le.a p)).ht (T _ (aZ o))))) λI o=>agb p (nO 6 [kF]) (dd (Sy t) I) (aX (((Le.cv (s:=⟨[(0,0)],[],[0],false⟩) (own:=[]) (ps:=[0=0,ζ (Ϝ (δ (bI .i64 (aW j) 1)) j)=δ (bI .i64 (aW j) 1),false=false,(Ϝ (δ (bI .i64 (aW j) 1)) j)=Ϝ (ζ (Ϝ (δ (bI .i64 (aW j) 1)) j)) j]) (st':=⟨[(2,aV 0),(3,bV false)],[(0,.seq .str (Ϝ (δ (bI .i64 (aW j) 1)) j))],1⟩) p.own (λh=>by cases h) (by kernel_rfl) ⟨rfl,(Eo t),rfl,(Ep _ _),trivial⟩).trans (Le.a p)).ht (T _ (aZ o)))))))
theorem EB {xs y}(h:slices_Clone xs=some y):CallOK ν 67 [.bP gA xs] [⟨true,gA,y⟩] []:=by
 obtain ⟨p,h⟩:=iK h;have h:=aZ h;subst h;refine aeK (ts:=[(true,gA)]) Tryz.func67 rfl (by kernel_rfl) (ϓ (by kernel_rfl)) λcx j o I J=> ?_;show HT cx ⟨[(0,.one (.bp gA xs))],[],0⟩ _ _;refine aee [0] [⟨none,.no⟩] ⟨[(0,.one (.bp gA xs))],[],0⟩ j o (by kernel_rfl) aU ?_;refine υ ?_;refine HT.isNil (t3:=3) (t4:=4) (v:= .one (.bp gA xs)) (t:=(.st gQ)) (xs:=xs) (st1:=⟨[(3,.one (.bp gA xs)),(0,.one (.bp gA xs))],[],0⟩) j o (by kernel_rfl) rfl rfl rfl rfl (e:=80) (by kernel_rfl) rfl rfl (λb r=> ?_);show HT cx ⟨[(4,.one (.bp .bool b)),(3,.one (.bp gA xs)),(0,.one (.bp gA xs))],[],0⟩ _ _;cases b with
 |true=>
  have e:=r rfl;subst e;refine HT.CT rfl rfl ?_;refine aee [2] [⟨none,.no⟩] ⟨[(2,.one .br)],[],0⟩ j o (by kernel_rfl) aU ?_;exact Δ (bn ⟨[.one .br],[],[],by kernel_rfl,by kernel_rfl,rfl,by kernel_rfl,by kernel_rfl,trivial⟩)
 |false=>
  refine HT.zO rfl rfl ?_;refine Η (aX ?_);refine aee [2] [⟨none,.no⟩,⟨none,.no⟩,⟨none,.ty (.st gQ)⟩,⟨none,.no⟩] ⟨[(2,.one (.all 0))],[(0,.seq (.st gQ) xs)],1⟩ j o (by kernel_rfl) (gy p aU) ?_;exact Δ ⟨[.one (.all 0)],[0],[],by kernel_rfl,by kernel_rfl,rfl,by kernel_rfl,by kernel_rfl,trivial⟩
theorem lA {xs y}(h:slices_Clone xs=some y):CallOK ν 68 [.bP cg xs] [⟨true,cg,y⟩] []:=by
 obtain ⟨p,h⟩:=iK h;have h:=aZ h;subst h;refine aeK (ts:=[(true,cg)]) Tryz.func68 rfl (by kernel_rfl) (ϓ (by kernel_rfl)) λcx j o I J=> ?_;show HT cx ⟨[(0,.one (.bp cg xs))],[],0⟩ _ _;refine aee [0] [⟨none,.no⟩] ⟨[(0,.one (.bp cg xs))],[],0⟩ j o (by kernel_rfl) aU ?_;refine υ ?_;refine HT.isNil (t3:=3) (t4:=4) (v:= .one (.bp cg xs)) (t:=tI) (xs:=xs) (st1:=⟨[(3,.one (.bp cg xs)),(0,.one (.bp cg xs))],[],0⟩) j o (by kernel_rfl) rfl rfl rfl rfl (e:=2) (by kernel_rfl) rfl rfl (λb r=> ?_);show HT cx ⟨[(4,.one (.bp .bool b)),(3,.one (.bp cg xs)),(0,.one (.bp cg xs))],[],0⟩ _ _;cases b with
 |true=>
  have e:=r rfl;subst e;refine HT.CT rfl rfl ?_;refine aee [2] [⟨none,.no⟩] ⟨[(2,.one .br)],[],0⟩ j o (by kernel_rfl) aU ?_;exact Δ (bn ⟨[.one .br],[],[],by kernel_rfl,by kernel_rfl,rfl,by kernel_rfl,by kernel_rfl,trivial⟩)
 |false=>
  refine HT.zO rfl rfl ?_;refine Η (aX ?_);refine aee [2] [⟨none,.no⟩,⟨none,.no⟩,⟨none,.ty tI⟩,⟨none,.no⟩] ⟨[(2,.one (.all 0))],[(0,.seq tI xs)],1⟩ j o (by kernel_rfl) (gy p aU) ?_;exact Δ ⟨[.one (.all 0)],[0],[],by kernel_rfl,by kernel_rfl,rfl,by kernel_rfl,by kernel_rfl,trivial⟩
end
end Go.Proofs
