import Derived.Test.YtjnkhcgmgkhnaaaGreatDoorDeskGenI
import Derived.Test.YtjnkhcgmgkhnaaaGreatDoorProg
set_option linter.all false
open Go.Ide.CallOK renaming pX→ϯ
open Go.Ide.HT renaming g→θ,block→ξ,seq→υ,ret→Δ,skip→Η,k→Τ,cb→Ω,lp→Ϩ,xe→Ϫ,jn→ϰ,cj→ϻ,dg→aba
open Go.Proofs.Tryz renaming prog→ν
open Int renaming toNat→δ
open List renaming getD→ε,length→ζ
open Nat renaming zero_lt_one→Ν
namespace Go.Proofs
open Go.Ide
noncomputable section
def kt (a0:GM×GP×GG×GI)(a1:List GB):Option (GB×Bool×Bool×(GM×GP×GG×GI)):=
 bif ((aW a1)==1) then
  aY ((0:Int)<=0/\0<aW a1) (
   (lO a0 (ε a1 (δ 0) ([]:GB))).bind λo=>
   bif o.2.2.1 then
    some (o.1,o.2.1,true,o.2.2.2)
   else
    (l5 o.2.2.2 (ε a1 (δ 0) ([]:GB))).bind λt=>
    some (t.1,t.2.1,t.2.2.1,t.2.2.2))
 else
  bif ((aW a1)==2) then
   aY ((0:Int)<=0/\0<aW a1) (
    aY ((0:Int)<=1/\1<aW a1) (
     (mV a0 (ε a1 (δ 0) ([]:GB)) (ε a1 (δ 1) ([]:GB))).bind λj=>
     some (j.1,j.2.1,j.2.2.1,j.2.2.2)))
  else
   (show Option (Bool) from
    bif ((aW a1)==3) then
     aY ((0:Int)<=0/\0<aW a1) (
      some ((ε a1 (δ 0) ([]:GB))==([101,100,105,116]:GB)))
    else
     some false).bind λI=>
   bif I then
    aY ((0:Int)<=1/\1<aW a1) (
     aY ((0:Int)<=2/\2<aW a1) (
      (mW (ε a1 (δ 1) ([]:GB)) (ε a1 (δ 2) ([]:GB)) 1 1 1).bind λp=>
      (dh p.1 p.2).bind λr=>
      some (r.1,r.2,true,a0)))
   else
    some (([]:GB),false,false,a0)
theorem Qj {a0}{a1}{r}(j:kt a0 a1=some r):CallOK ν 95 [.own (.bx (.st (.pair (.st gM) (.pair (.st gP) (.pair (.st gR) cg))))) [a0],.bP (.sl .str) a1] [⟨false,.str,r.1⟩,⟨false,.bool,r.2.1⟩,⟨false,.bool,r.2.2.1⟩] [⟨(.bx (.st (.pair (.st gM) (.pair (.st gP) (.pair (.st gR) cg))))),[r.2.2.2]⟩]:=
 dn Tryz.func95 rfl λcx p hF=>θ p [] aU (υ (ξ (θ p [] aU (Ω j (λaj j=>bg j λU j=>bc j Mj λy3 aa j=>θ p (nO 4 [(cl aa)]) (dd U aa) (υ (θ p [] aU (Ω j (λak j=>θ p [] aU (by (cases j;exact (Δ (bn (bH (bn (bY (bD (show ζ ([y3.2.2.2])=ζ [a0] from rfl)))))))))) λak j=>Η (aX (bc j My λy6 ab j=>θ p (nO 4 [(cl ab)]) (dd U ab) (by (cases j;exact (Δ (bH (bn (bY (bD (show ζ ([y6.2.2.2])=ζ [a0] from rfl)))))))))))))) λaj j=>θ p [] aU (Ω j (λal j=>bg j λan j=>bg j λad j=>bc j MC λao I j=>aba p (nO 7 [(cl I)]) (kQ an ad I) (by (cases j;exact (Δ (bH (bn (bY (bD (show ζ ([ao.2.2.2])=ζ [a0] from rfl))))))))) λal j=>ϰ j (λae=>up [1] [(51,bV ae)] [0] [] 0) (λae j=>Ω j (λaf j=>bg j λag j=>bg j λah j=>bc j MF λWz J j=>bc j se λy22 R j=>aba p (nO 6 [(cl J),oH,oH,(cl R)]) (nB ag ah J R) (θ p [] aU (by (cases j;exact (Δ (bH (bn (bY (bD (show ζ ([a0])=ζ [a0] from rfl)))))))))) λaf j=>Η (bj (aX (θ p [] aU (by (cases j;exact (Δ (bY (bD (show ζ ([a0])=ζ [a0] from rfl)))))))))) λ_ o T=>bb o (λt o=>bg o λai o=>Τ p [oH,oH,oH,kT] (dd t ai) λ_ h=>(aX (h.ht (T _ (aZ o))))) λt o=>Τ p [oH,oH,oH,kF] (bD t) λ_ h=>(aX (h.ht (T _ (aZ o)))))))))
def dL (a0:GM×GP×GG×GI):Option (Bool):=
 (show Option (Bool) from
  (bZ (a0.1.1,a0.1.2.1,a0.1.2.2.1,a0.1.2.2.2.1,a0.1.2.2.2.2)).bind λp=>
  bif p then
   bif (decide ((aW a0.1.2.2.1)<=16)) then
    (cr (a0.2.1.1,a0.2.1.2.1,a0.2.1.2.2.1,a0.2.1.2.2.2)).bind λr=>
    bif r then
     bif (decide ((aW a0.2.1.2.2.1)<=64)) then
      (cQ (a0.2.2.1.1,a0.2.2.1.2.1,a0.2.2.1.2.2)).bind λj=>
      bif j then
       bif (decide ((aW a0.2.2.1.2.2)<=16)) then
        (gn a0.2.2.2 4).bind λo=>
        some o
       else
        some false
      else
       some false
     else
      some false
    else
     some false
   else
    some false
  else
   some false).bind λt=>
 some t
theorem Bj {a0}{r}(hr:dL a0=some r):CallOK ν 16 [.bP (.st (.pair (.st gM) (.pair (.st gP) (.pair (.st gR) cg)))) a0] [⟨false,.bool,r⟩] []:=
 dn Tryz.func16 rfl λcx hX hF=>θ hX [] aU (ϰ hr (λv2=>up [] [(2,bV v2)] [] [] 0) (λv2 hr=>by (cases hr;exact (Δ (bY aU)))) λ_ j T=>bc j oI λy5 p j=>bb j (λJ j=>bb j (λU j=>bc j oN λy9 o j=>bb j (λt j=>bb j (λR j=>bc j uS λUp I j=>bb j (λaa j=>bb j (λab j=>bc j Bd λPc JV j=>Τ hX [oH,oH,(cl p),kT,oH,oH,oH,oH,oH,oH,kT,oH,oH,(cl o),oH,kT,oH,oH,oH,oH,oH,oH,kT,oH,oH,(cl I),oH,kT,oH,oH,oH,oH,oH,oH,kT,oH,oH,(cl JV)] (iE p J U o (iE t R I aa (dd ab JV))) λ_ h=>(aX (h.ht (T _ (aZ j))))) λab j=>Τ hX [oH,oH,(cl p),kT,oH,oH,oH,oH,oH,oH,kT,oH,oH,(cl o),oH,kT,oH,oH,oH,oH,oH,oH,kT,oH,oH,(cl I),oH,kT,oH,oH,oH,oH,oH,oH,kF] (iE p J U o (iE t R I aa (bD ab))) λ_ h=>(aX (h.ht (T _ (aZ j))))) λaa j=>Τ hX [oH,oH,(cl p),kT,oH,oH,oH,oH,oH,oH,kT,oH,oH,(cl o),oH,kT,oH,oH,oH,oH,oH,oH,kT,oH,oH,(cl I),oH,kF] (iE p J U o (nB t R I aa)) λ_ h=>(aX (h.ht (T _ (aZ j))))) λR j=>Τ hX [oH,oH,(cl p),kT,oH,oH,oH,oH,oH,oH,kT,oH,oH,(cl o),oH,kT,oH,oH,oH,oH,oH,oH,kF] (iE p J U o (dd t R)) λ_ h=>(aX (h.ht (T _ (aZ j))))) λt j=>Τ hX [oH,oH,(cl p),kT,oH,oH,oH,oH,oH,oH,kT,oH,oH,(cl o),oH,kF] (iE p J U o (bD t)) λ_ h=>(aX (h.ht (T _ (aZ j))))) λU j=>Τ hX [oH,oH,(cl p),kT,oH,oH,oH,oH,oH,oH,kF] (kQ p J U) λ_ h=>(aX (h.ht (T _ (aZ j))))) λJ j=>Τ hX [oH,oH,(cl p),kF] (dd p J) λ_ h=>(aX (h.ht (T _ (aZ j)))))
def ez (a0:GM×GP×GG×GI)(a1:GB):Option ((GM×GP×GG×GI)×GB):=
 (gu ((a0.1.1,a0.1.2.1,a0.1.2.2.1,a0.1.2.2.2.1,a0.1.2.2.2.2),(a0.2.1.1,a0.2.1.2.1,a0.2.1.2.2.1,a0.2.1.2.2.2),(a0.2.2.1.1,a0.2.2.1.2.1,a0.2.2.1.2.2),a0.2.2.2)).bind λo=>
 (strings_Split a1 ([32]:GB)).bind λr=>
 (kt ((o.1.1,o.1.2.1,o.1.2.2.1,o.1.2.2.2.1,o.1.2.2.2.2),(o.2.1.1,o.2.1.2.1,o.2.1.2.2.1,o.2.1.2.2.2),(o.2.2.1.1,o.2.2.1.2.1,o.2.2.1.2.2),o.2.2.2) r).bind λj=>
 bif (!j.2.2.1) then
  some (((a0.1.1,a0.1.2.1,a0.1.2.2.1,a0.1.2.2.2.1,a0.1.2.2.2.2),(a0.2.1.1,a0.2.1.2.1,a0.2.1.2.2.1,a0.2.1.2.2.2),(a0.2.2.1.1,a0.2.2.1.2.1,a0.2.2.1.2.2),a0.2.2.2),([119,104,97,116]:GB))
 else
  (show Option (Bool) from
   bif (!j.2.1) then
    some true
   else
    (dL ((j.2.2.2.1.1,j.2.2.2.1.2.1,j.2.2.2.1.2.2.1,j.2.2.2.1.2.2.2.1,j.2.2.2.1.2.2.2.2),(j.2.2.2.2.1.1,j.2.2.2.2.1.2.1,j.2.2.2.2.1.2.2.1,j.2.2.2.2.1.2.2.2),(j.2.2.2.2.2.1.1,j.2.2.2.2.2.1.2.1,j.2.2.2.2.2.1.2.2),j.2.2.2.2.2.2)).bind λp=>
    some (!p)).bind λt=>
  bif t then
   some (((a0.1.1,a0.1.2.1,a0.1.2.2.1,a0.1.2.2.2.1,a0.1.2.2.2.2),(a0.2.1.1,a0.2.1.2.1,a0.2.1.2.2.1,a0.2.1.2.2.2),(a0.2.2.1.1,a0.2.2.1.2.1,a0.2.2.1.2.2),a0.2.2.2),([110,111]:GB))
  else
   some (((j.2.2.2.1.1,j.2.2.2.1.2.1,j.2.2.2.1.2.2.1,j.2.2.2.1.2.2.2.1,j.2.2.2.1.2.2.2.2),(j.2.2.2.2.1.1,j.2.2.2.2.1.2.1,j.2.2.2.2.1.2.2.1,j.2.2.2.2.1.2.2.2),(j.2.2.2.2.2.1.1,j.2.2.2.2.2.1.2.1,j.2.2.2.2.2.1.2.2),j.2.2.2.2.2.2),j.1)
theorem JW {a0}{a1}{r}(o:ez a0 a1=some r):CallOK ν 46 [.bP (.st (.pair (.st gM) (.pair (.st gP) (.pair (.st gR) cg)))) a0,.bP .str a1] [⟨false,(.st (.pair (.st gM) (.pair (.st gP) (.pair (.st gR) cg)))),r.1⟩,⟨false,.str,r.2⟩] []:=
 dn Tryz.func46 rfl λcx t hF=>θ t [(hT (.st (.pair (.st gM) (.pair (.st gP) (.pair (.st gR) cg)))))] aU (bc o EC λy1 J o=>θ t [oH,(cl (ϯ [true] rfl J)),(hT (.st (.pair (.st gM) (.pair (.st gP) (.pair (.st gR) cg)))))] (kQ (show 0<ζ [((a0.1.1,a0.1.2.1,a0.1.2.2.1,a0.1.2.2.2.1,a0.1.2.2.2.2),(a0.2.1.1,a0.2.1.2.1,a0.2.1.2.2.1,a0.2.1.2.2.2),(a0.2.2.1.1,a0.2.2.1.2.1,a0.2.2.1.2.2),a0.2.2.2)] from Ν) (ϯ [true] rfl J) (show 0<ζ [((0,0,([]:GL),([]:GI),([]:GI)),(0,0,([]:GI),([]:GZ)),(0,0,([]:GL)),([]:GI))] from Ν)) (bc o A0 λy3 R o=>bc o Qj λy5 T o=>θ t [oH,(cl (ϯ [true] rfl R)),(cl T)] (dd (ϯ [true] rfl R) T) (υ (θ t [] aU (Ω o (λab o=>θ t [] (bD (show 0<ζ [((a0.1.1,a0.1.2.1,a0.1.2.2.1,a0.1.2.2.2.1,a0.1.2.2.2.2),(a0.2.1.1,a0.2.1.2.1,a0.2.1.2.2.1,a0.2.1.2.2.2),(a0.2.2.1.1,a0.2.2.1.2.1,a0.2.2.1.2.2),a0.2.2.2)] from Ν)) (by (cases o;exact (Δ (bn (bY aU)))))) λab o=>Η (aX (υ (ϰ o (λv9=>up [2,4,6,7] [(28,bV v9)] [0,1,2] [] 0) (λv9 o=>Ω o (λU o=>θ t [] (bD (show 0<ζ [((a0.1.1,a0.1.2.1,a0.1.2.2.1,a0.1.2.2.2.1,a0.1.2.2.2.2),(a0.2.1.1,a0.2.1.2.1,a0.2.1.2.2.1,a0.2.1.2.2.2),(a0.2.2.1.1,a0.2.2.1.2.1,a0.2.2.1.2.2),a0.2.2.2)] from Ν)) (by (cases o;exact (Δ (bn (bY aU)))))) λU o=>Η (aX (θ t [] (bD (show 0<ζ [y5.2.2.2] from Ν)) (by (cases o;exact (Δ (bY aU))))))) λ_ j aa=>bb j (λp j=>Τ t [oH,oH,kT] (bD p) λ_ h=>(aX (h.ht (aa _ (aZ j))))) λp j=>bc j Bj λSF I j=>Τ t [oH,oH,kF,oH,(cl I)] (kQ p (show 0<ζ [y5.2.2.2] from Ν) I) λ_ h=>(aX (h.ht (aa _ (aZ j))))))))))))
def eU (p:List GB×Bool)(j:Int×Int×Int×GL×GI×GI×Int×Int×GI×GZ×Int×Int×GL×GI×GB):Option ((Int×Int×Int×GL×GI×GI×Int×Int×GI×GZ×Int×Int×GL×GI×GB)⊕((Int×Int×GL×GI×GI×Int×Int×GI×GZ×Int×Int×GL×GI×GB))):=
 bif (decide (j.1<(aW p.1))) then
  aY (0<=j.1/\j.1<aW p.1) (
   (ez ((j.2.1,j.2.2.1,j.2.2.2.1,j.2.2.2.2.1,j.2.2.2.2.2.1),(j.2.2.2.2.2.2.1,j.2.2.2.2.2.2.2.1,j.2.2.2.2.2.2.2.2.1,j.2.2.2.2.2.2.2.2.2.1),(j.2.2.2.2.2.2.2.2.2.2.1,j.2.2.2.2.2.2.2.2.2.2.2.1,j.2.2.2.2.2.2.2.2.2.2.2.2.1),j.2.2.2.2.2.2.2.2.2.2.2.2.2.1) (ε p.1 (δ j.1) ([]:GB))).bind λo=>
   aY (ζ o.2+ζ ([10]:GB)<=bl) (
    aY (ζ j.2.2.2.2.2.2.2.2.2.2.2.2.2.2+ζ (o.2++([10]:GB))<=bl) (
     some (.inl ((bf .i64 j.1 1),o.1.1.1,o.1.1.2.1,o.1.1.2.2.1,o.1.1.2.2.2.1,o.1.1.2.2.2.2,o.1.2.1.1,o.1.2.1.2.1,o.1.2.1.2.2.1,o.1.2.1.2.2.2,o.1.2.2.1.1,o.1.2.2.1.2.1,o.1.2.2.1.2.2,o.1.2.2.2,(j.2.2.2.2.2.2.2.2.2.2.2.2.2.2++(o.2++([10]:GB))))))))
 else
  some (.inr (j.2.1,j.2.2.1,j.2.2.2.1,j.2.2.2.2.1,j.2.2.2.2.2.1,j.2.2.2.2.2.2.1,j.2.2.2.2.2.2.2.1,j.2.2.2.2.2.2.2.2.1,j.2.2.2.2.2.2.2.2.2.1,j.2.2.2.2.2.2.2.2.2.2.1,j.2.2.2.2.2.2.2.2.2.2.2.1,j.2.2.2.2.2.2.2.2.2.2.2.2.1,j.2.2.2.2.2.2.2.2.2.2.2.2.2.1,j.2.2.2.2.2.2.2.2.2.2.2.2.2.2))
def l9 (a0:GM×GP×GG×GI)(a1:GB):Option ((GM×GP×GG×GI)×GB×Bool):=
 (jL a1).bind λr=>
 (show Option (Bool) from
  bif (!r.2) then
   some true
  else
   (dL ((a0.1.1,a0.1.2.1,a0.1.2.2.1,a0.1.2.2.2.1,a0.1.2.2.2.2),(a0.2.1.1,a0.2.1.2.1,a0.2.1.2.2.1,a0.2.1.2.2.2),(a0.2.2.1.1,a0.2.2.1.2.1,a0.2.2.1.2.2),a0.2.2.2)).bind λp=>
   some (!p)).bind λv4=>
 bif v4 then
  some (((0,0,([]:GL),([]:GI),([]:GI)),(0,0,([]:GI),([]:GZ)),(0,0,([]:GL)),([]:GI)),([]:GB),false)
 else
  (rounds (eU r) (0,a0.1.1,a0.1.2.1,a0.1.2.2.1,a0.1.2.2.2.1,a0.1.2.2.2.2,a0.2.1.1,a0.2.1.2.1,a0.2.1.2.2.1,a0.2.1.2.2.2,a0.2.2.1.1,a0.2.2.1.2.1,a0.2.2.1.2.2,a0.2.2.2,([]:GB))).bind λj=>
  (gu ((j.1,j.2.1,j.2.2.1,j.2.2.2.1,j.2.2.2.2.1),(j.2.2.2.2.2.1,j.2.2.2.2.2.2.1,j.2.2.2.2.2.2.2.1,j.2.2.2.2.2.2.2.2.1),(j.2.2.2.2.2.2.2.2.2.1,j.2.2.2.2.2.2.2.2.2.2.1,j.2.2.2.2.2.2.2.2.2.2.2.1),j.2.2.2.2.2.2.2.2.2.2.2.2.1)).bind λo=>
  aY (j.2.2.2.2.2.2.2.2.2.2.2.2.2≠([]:GB)) (
   some (((o.1.1,o.1.2.1,o.1.2.2.1,o.1.2.2.2.1,o.1.2.2.2.2),(o.2.1.1,o.2.1.2.1,o.2.1.2.2.1,o.2.1.2.2.2),(o.2.2.1.1,o.2.2.1.2.1,o.2.2.1.2.2),o.2.2.2),j.2.2.2.2.2.2.2.2.2.2.2.2.2,true))
theorem Qk {a0}{a1}{r}(T:l9 a0 a1=some r):CallOK ν 14 [.bP (.st (.pair (.st gM) (.pair (.st gP) (.pair (.st gR) cg)))) a0,.bP .str a1] [⟨true,(.st (.pair (.st gM) (.pair (.st gP) (.pair (.st gR) cg)))),r.1⟩,⟨false,.str,r.2.1⟩,⟨false,.bool,r.2.2⟩] []:=
 dn Tryz.func14 rfl λcx J hF=>θ J [] aU (bc T Jk λy1 tq T=>θ J [oH,(cl tq)] (bD tq) (υ (ϰ T (λv4=>up [2,4,7] [(25,bV v4)] [0,1,2] [] 0) (λv4 T=>Ω T (λJs T=>θ J [] aU (by (cases T;exact (Δ (bn (bY aU)))))) λJs T=>Η (aX (HT.ex ⟨[(2,pV 0 0),(4,pV 1 0),(7,aV 2),(25,bV v4)],[(0,.box [iC a0.1.1,iC a0.1.2.1,.bp gA a0.1.2.2.1,nC a0.1.2.2.2.1,nC a0.1.2.2.2.2,iC a0.2.1.1,iC a0.2.1.2.1,nC a0.2.1.2.2.1,.bp (.sl .bool) a0.2.1.2.2.2,iC a0.2.2.1.1,iC a0.2.2.1.2.1,.bp gA a0.2.2.1.2.2,nC a0.2.2.2]),(1,.box [iC 0,iC 0,.br,.br,.br,iC 0,iC 0,.br,.br,iC 0,iC 0,.br,.br]),(2,.seq .str y1.1)],3⟩ J (by (refine υ (HT.rg (RG.Wa 5 J rfl rfl rfl rfl rfl rfl rfl rfl rfl (by kernel_rfl) (by kernel_rfl) (by kernel_rfl) (by kernel_rfl) (by kernel_rfl) (RG.jV [2,4,7,9] [] ⟨[(2,pV 0 0),(4,pV 1 0),(7,aV 2),(9,pV 3 0)],[(3,.pA 93 5 ([]:GB)),(0,.box [iC a0.1.1,iC a0.1.2.1,.bp gA a0.1.2.2.1,nC a0.1.2.2.2.1,nC a0.1.2.2.2.2,iC a0.2.1.1,iC a0.2.1.2.1,nC a0.2.1.2.2.1,.bp (.sl .bool) a0.2.1.2.2.2,iC a0.2.2.1.1,iC a0.2.2.1.2.1,.bp gA a0.2.2.1.2.2,nC a0.2.2.2]),(1,.box [iC 0,iC 0,.br,.br,.br,iC 0,iC 0,.br,.br,iC 0,iC 0,.br,.br]),(2,.seq .str y1.1)],4⟩ J.P J.N (by kernel_rfl) aU ?_)));exact (υ (θ J [] aU (ξ (Ϩ J T (λR=>up [2,4,9,28,29] [(30,iV R.1)] [1,2] [(0,.box [iC R.2.1,iC R.2.2.1,.bp gA R.2.2.2.1,nC R.2.2.2.2.1,nC R.2.2.2.2.2.1,iC R.2.2.2.2.2.2.1,iC R.2.2.2.2.2.2.2.1,nC R.2.2.2.2.2.2.2.2.1,.bp (.sl .bool) R.2.2.2.2.2.2.2.2.2.1,iC R.2.2.2.2.2.2.2.2.2.2.1,iC R.2.2.2.2.2.2.2.2.2.2.2.1,.bp gA R.2.2.2.2.2.2.2.2.2.2.2.2.1,nC R.2.2.2.2.2.2.2.2.2.2.2.2.2.1]),(3,.pA 93 5 R.2.2.2.2.2.2.2.2.2.2.2.2.2.2)] 0) (λj=>(.exit 0,up [2,4,9] [] [1] [(0,.box [iC j.1,iC j.2.1,.bp gA j.2.2.1,nC j.2.2.2.1,nC j.2.2.2.2.1,iC j.2.2.2.2.2.1,iC j.2.2.2.2.2.2.1,nC j.2.2.2.2.2.2.2.1,.bp (.sl .bool) j.2.2.2.2.2.2.2.2.1,iC j.2.2.2.2.2.2.2.2.2.1,iC j.2.2.2.2.2.2.2.2.2.2.1,.bp gA j.2.2.2.2.2.2.2.2.2.2.2.1,nC j.2.2.2.2.2.2.2.2.2.2.2.2.1]),(3,.pA 93 5 j.2.2.2.2.2.2.2.2.2.2.2.2.2)] 0)) (λj T=>(bm (aX (bc T EC λp JX T=>bg T λXD T=>HT.ex ⟨[(2,pV 0 0),(4,pV 1 0),(9,pV 3 0)],[(0,.box [iC j.1,iC j.2.1,.bp gA j.2.2.1,nC j.2.2.2.1,nC j.2.2.2.2.1,iC j.2.2.2.2.2.1,iC j.2.2.2.2.2.2.1,nC j.2.2.2.2.2.2.2.1,.bp (.sl .bool) j.2.2.2.2.2.2.2.2.1,iC j.2.2.2.2.2.2.2.2.2.1,iC j.2.2.2.2.2.2.2.2.2.2.1,.bp gA j.2.2.2.2.2.2.2.2.2.2.2.1,nC j.2.2.2.2.2.2.2.2.2.2.2.2.1]),(1,.box [iC 0,iC 0,.br,.br,.br,iC 0,iC 0,.br,.br,iC 0,iC 0,.br,.br]),(3,.pA 93 5 j.2.2.2.2.2.2.2.2.2.2.2.2.2)],4⟩ J (by (refine υ (HT.rg (RG.cut 2 [oH,(cl JX)] ⟨[(46,.agg [iC p.1.1,iC p.1.2.1,.all 4,.all 5,.all 6,iC p.2.1.1,iC p.2.1.2.1,.all 7,.all 8,iC p.2.2.1.1,iC p.2.2.1.2.1,.all 9,.all 10]),(45,.agg [iC j.1,iC j.2.1,.bp gA j.2.2.1,nC j.2.2.2.1,nC j.2.2.2.2.1,iC j.2.2.2.2.2.1,iC j.2.2.2.2.2.2.1,nC j.2.2.2.2.2.2.2.1,.bp (.sl .bool) j.2.2.2.2.2.2.2.2.1,iC j.2.2.2.2.2.2.2.2.2.1,iC j.2.2.2.2.2.2.2.2.2.2.1,.bp gA j.2.2.2.2.2.2.2.2.2.2.2.1,nC j.2.2.2.2.2.2.2.2.2.2.2.2.1]),(2,pV 0 0),(4,pV 1 0),(9,pV 3 0)],[(4,.seq (.st gQ) p.1.2.2.1),(5,.seq tI p.1.2.2.2.1),(6,.seq tI p.1.2.2.2.2),(7,.seq tI p.2.1.2.2.1),(8,.seq .bool p.2.1.2.2.2),(9,.seq (.st gQ) p.2.2.1.2.2),(10,.seq tI p.2.2.2),(0,.box [iC j.1,iC j.2.1,.bp gA j.2.2.1,nC j.2.2.2.1,nC j.2.2.2.2.1,iC j.2.2.2.2.2.1,iC j.2.2.2.2.2.2.1,nC j.2.2.2.2.2.2.2.1,.bp (.sl .bool) j.2.2.2.2.2.2.2.2.1,iC j.2.2.2.2.2.2.2.2.2.1,iC j.2.2.2.2.2.2.2.2.2.2.1,.bp gA j.2.2.2.2.2.2.2.2.2.2.2.1,nC j.2.2.2.2.2.2.2.2.2.2.2.2.1]),(1,.box [iC 0,iC 0,.br,.br,.br,iC 0,iC 0,.br,.br,iC 0,iC 0,.br,.br]),(3,.pA 93 5 j.2.2.2.2.2.2.2.2.2.2.2.2.2)],11⟩ J.P J.N (by kernel_rfl) (gy JX aU) (RG.O5 (t:=9) J hF rfl rfl rfl (by kernel_rfl) ⟨rfl,rfl⟩ rfl Ws rfl rfl XD (RG.jV [4,5,6] [oH,oH,oH] ⟨[(4,pV 1 0),(5,.one (.bp .str j.2.2.2.2.2.2.2.2.2.2.2.2.2)),(6,bV true)],[(1,.box [iC p.1.1,iC p.1.2.1,.all 4,.all 5,.all 6,iC p.2.1.1,iC p.2.1.2.1,.all 7,.all 8,iC p.2.2.1.1,iC p.2.2.1.2.1,.all 9,.all 10]),(3,.gone),(4,.seq (.st gQ) p.1.2.2.1),(5,.seq tI p.1.2.2.2.1),(6,.seq tI p.1.2.2.2.2),(7,.seq tI p.2.1.2.2.1),(8,.seq .bool p.2.1.2.2.2),(9,.seq (.st gQ) p.2.2.1.2.2),(10,.seq tI p.2.2.2),(0,.box [iC j.1,iC j.2.1,.bp gA j.2.2.1,nC j.2.2.2.1,nC j.2.2.2.2.1,iC j.2.2.2.2.2.1,iC j.2.2.2.2.2.2.1,nC j.2.2.2.2.2.2.2.1,.bp (.sl .bool) j.2.2.2.2.2.2.2.2.1,iC j.2.2.2.2.2.2.2.2.2.1,iC j.2.2.2.2.2.2.2.2.2.2.1,.bp gA j.2.2.2.2.2.2.2.2.2.2.2.1,nC j.2.2.2.2.2.2.2.2.2.2.2.2.1]),(1,.box [iC 0,iC 0,.br,.br,.br,iC 0,iC 0,.br,.br,iC 0,iC 0,.br,.br]),(3,.pA 93 5 j.2.2.2.2.2.2.2.2.2.2.2.2.2)],11⟩ J.P J.N (by kernel_rfl) aU ?_))));exact (by (cases T;exact (Δ (bY aU)))))))))) λR Un I Qd=>θ J [] aU (ϻ I (λA4 I=>υ (ξ (bg I λMp I=>θ J [] (dd Mp (bG Mp)) (bc I JW λo JY I=>θ J [oH,oH,(cl JY)] (bD JY) (θ J [] aU (bg I λO8 I=>bg I λC5 I=>HT.ex ⟨[(2,pV 0 0),(4,pV 1 0),(9,pV 3 0),(13,.one (.bp .str o.2)),(28,aV 2),(29,iV (aW y1.1)),(30,iV R.1)],[(0,.box [iC o.1.1.1,iC o.1.1.2.1,.bp gA o.1.1.2.2.1,nC o.1.1.2.2.2.1,nC o.1.1.2.2.2.2,iC o.1.2.1.1,iC o.1.2.1.2.1,nC o.1.2.1.2.2.1,.bp (.sl .bool) o.1.2.1.2.2.2,iC o.1.2.2.1.1,iC o.1.2.2.1.2.1,.bp gA o.1.2.2.1.2.2,nC o.1.2.2.2]),(1,.box [iC 0,iC 0,.br,.br,.br,iC 0,iC 0,.br,.br,iC 0,iC 0,.br,.br]),(3,.pA 93 5 R.2.2.2.2.2.2.2.2.2.2.2.2.2.2),(2,.seq .str y1.1)],5⟩ J (HT.V1 (λhq=>(RG.cut 2 [oH,oH] ⟨[(42,.one (.bp .str (o.2++([10]:GB)))),(41,.one (.bp .str o.2)),(2,pV 0 0),(4,pV 1 0),(9,pV 3 0),(13,.one (.bp .str o.2)),(28,aV 2),(29,iV (aW y1.1)),(30,iV R.1)],[(0,.box [iC o.1.1.1,iC o.1.1.2.1,.bp gA o.1.1.2.2.1,nC o.1.1.2.2.2.1,nC o.1.1.2.2.2.2,iC o.1.2.1.1,iC o.1.2.1.2.1,nC o.1.2.1.2.2.1,.bp (.sl .bool) o.1.2.1.2.2.2,iC o.1.2.2.1.1,iC o.1.2.2.1.2.1,.bp gA o.1.2.2.1.2.2,nC o.1.2.2.2]),(1,.box [iC 0,iC 0,.br,.br,.br,iC 0,iC 0,.br,.br,iC 0,iC 0,.br,.br]),(3,.pA 93 5 R.2.2.2.2.2.2.2.2.2.2.2.2.2.2),(2,.seq .str y1.1)],5⟩ J.P J.N (by kernel_rfl) (gy O8 aU) (RG.Sl (t:=9) (s:=(o.2++([10]:GB))) J rfl rfl rfl (by kernel_rfl) ⟨rfl,rfl⟩ rfl Wr rfl rfl rfl rfl (by kernel_rfl) C5 (RG.last [] ⟨[(9,pV 5 0),(43,.dE),(42,.one (.bp .str (o.2++([10]:GB)))),(41,.one (.bp .str o.2)),(2,pV 0 0),(4,pV 1 0),(9,pV 3 0),(13,.one (.bp .str o.2)),(28,aV 2),(29,iV (aW y1.1)),(30,iV R.1)],[(3,.gone),(5,.pA 93 5 (R.2.2.2.2.2.2.2.2.2.2.2.2.2.2++(o.2++([10]:GB)))),(0,.box [iC o.1.1.1,iC o.1.1.2.1,.bp gA o.1.1.2.2.1,nC o.1.1.2.2.2.1,nC o.1.1.2.2.2.2,iC o.1.2.1.1,iC o.1.2.1.2.1,nC o.1.2.1.2.2.1,.bp (.sl .bool) o.1.2.1.2.2.2,iC o.1.2.2.1.1,iC o.1.2.2.1.2.1,.bp gA o.1.2.2.1.2.2,nC o.1.2.2.2]),(1,.box [iC 0,iC 0,.br,.br,.br,iC 0,iC 0,.br,.br,iC 0,iC 0,.br,.br]),(3,.pA 93 5 R.2.2.2.2.2.2.2.2.2.2.2.2.2.2),(2,.seq .str y1.1)],6⟩ J.P J.N (by kernel_rfl) aU hq)))) (bj (aX (Τ J [] aU λ_ h=>(bz (lN I h)))))))))))) λA4 I=>Ϫ J (bw (bA (Qd _ (bd I)))))))))))))) λ_ U YE=>bb U (λaa U=>Τ J [oH,oH,kT] (bD aa) λ_ h=>(aX (h.ht (YE _ (aZ U))))) λaa U=>bc U Bj λYw Tm U=>Τ J [oH,oH,kF,oH,(cl Tm)] (dd aa Tm) λ_ h=>(aX (h.ht (YE _ (aZ U)))))))
def eG (o:List GB×Bool)(j:Int×Int):Option ((Int×Int)⊕(Int)):=
 bif (decide (j.2<(aW o.1))) then
  (show Option (Int) from
   aY (0<=j.2/\j.2<aW o.1) (
    (show Option (Bool) from
     bif ((ε o.1 (δ j.2) ([]:GB))==([110,111]:GB)) then
      some true
     else
      some ((ε o.1 (δ j.2) ([]:GB))==([119,104,97,116]:GB))).bind λp=>
    bif p then
     some (bf .i64 j.1 1)
    else
     some j.1)).bind λr=>
  some (.inl (r,(bf .i64 j.2 1)))
 else
  some (.inr j.1)
def js (a0:GB):Option (Int×Int×Bool):=
 (jL a0).bind λj=>
 bif (!j.2) then
  some (0,0,false)
 else
  (rounds (eG j) (0,0)).bind λo=>
  some (o,(bI .i64 (aW j.1) o),true)
theorem Ql {a0}{r}(J:js a0=some r):CallOK ν 25 [.bP .str a0] [⟨false,tI,r.1⟩,⟨false,tI,r.2.1⟩,⟨false,.bool,r.2.2⟩] []:=
 dn Tryz.func25 rfl λcx p hF=>θ p [] aU (bc J Jk λy1 aa J=>θ p [oH,(cl aa)] (bD aa) (υ (θ p [] aU (Ω J (λag J=>θ p [] aU (by (cases J;exact (Δ (bn (bY aU)))))) λag J=>Η (aX (θ p [] aU (υ (θ p [] aU (ξ (Ϩ p J (λs4=>up [5,17,18] [(7,iV s4.1),(19,iV s4.2)] [0] [] 0) (λr6=>(.exit 0,up [5] [(7,iV r6)] [0] [] 0)) (λr6 J=>(bm (aX (θ p [] aU (by (cases J;exact (Δ (bY aU)))))))) λs4 x7 t Jg=>θ p [] aU (ϻ t (λab t=>ϰ t (λad=>up [5,17,18,19] [(7,iV ad)] [0] [] 0) (λad t=>Τ p [] aU λ_ h=>(bz (lN t h))) λ_ j R=>ξ (bg j λT j=>θ p [] (dd T (bG T)) (ϰ j (λae=>up [5,7,17,18,19] [(28,bV ae)] [0] [] 0) (λae j=>Ω j (λaf j=>Τ p [] aU λ_ h=>(bj (aX (h.ht (R _ (aZ j)))))) λaf j=>Η (bj (aX (HT.re p (R _ (aZ j)))))) λ_ o U=>bb o (λI o=>Τ p [oH,oH,kT] (bD I) λ_ h=>(aX (h.ht (U _ (aZ o))))) λI o=>Τ p [oH,oH,kF] (bD I) λ_ h=>(aX (h.ht (U _ (aZ o))))))) λab t=>Ϫ p (bw (bA (Jg _ (bd t)))))))))))))))
def cR (a0:GL)(a1:GL)(j:Int):Option ((Int)⊕(Unit⊕Unit)):=
 bif (decide (j<(aW a0))) then
  aY (0<=j/\j<aW a0) (
   aY (0<=j/\j<aW a1) (
    bif (!(((ε a0 (δ j) (0,0,0,0)).1==(ε a1 (δ j) (0,0,0,0)).1)&&((((ε a0 (δ j) (0,0,0,0)).2).1==((ε a1 (δ j) (0,0,0,0)).2).1)&&(((((ε a0 (δ j) (0,0,0,0)).2).2).1==(((ε a1 (δ j) (0,0,0,0)).2).2).1)&&(((((ε a0 (δ j) (0,0,0,0)).2).2).2==(((ε a1 (δ j) (0,0,0,0)).2).2).2)&&true))))) then
     some (.inr (.inr ()))
    else
     some (.inl (bf .i64 j 1))))
 else
  some (.inr (.inl ()))
def c6 (a0:GL)(a1:GL):Option (Bool):=
 bif ((aW a0) != (aW a1)) then
  some false
 else
  (rounds (cR a0 a1) 0).bind λj=>match j with
   | .inl o=>
    some true
   | .inr p=>
    some false
theorem MG {a0}{a1}{r}(p:c6 a0 a1=some r):CallOK ν 106 [.bP gA a0,.bP gA a1] [⟨false,.bool,r⟩] []:=
 dn Tryz.func106 rfl λcx o hF=>θ o [] aU (υ (θ o [] aU (Ω p (λT p=>θ o [] aU (by (cases p;exact (Δ (bn (bY aU)))))) λT p=>Η (aX (υ (θ o [] aU (ξ (Ϩ o p (λs2=>up [0,1,12] [(13,iV s2)] [] [] 0) (λU=>match U with| .inl r4=>(.exit 0,up [] [] [] [] 0)| .inr r5=>(.ret,up [] [(4,bV false)] [] [] 0)) (λU=>match U with| .inl r4=>λp=>(bm (aX (θ o [] aU (by (cases p;exact (Δ (bY aU)))))))| .inr r5=>λp=>by (cases p;exact (bH (bn (bY aU))))) λs2 x6 j t=>θ o [] aU (ϻ j (λaa j=>υ (ξ (θ o [] aU (bg j λI j=>bg j λJ j=>aba o [] (dd I J) (Ω j (λR j=>θ o [] aU (HT.xr o (bH (bn (eZ (t _ (bd j))))))) λR j=>Η (bj (aX (Τ o [] aU λ_ h=>(bz (lN j h)))))))))) λaa j=>Ϫ o (bw (bA (t _ (bd j)))))))))))))
def mH (a0:GM)(a1:GM):Option (Bool):=
 (show Option (Bool) from
  bif (a0.1==a1.1) then
   bif (a0.2.1==a1.2.1) then
    (c6 a0.2.2.1 a1.2.2.1).bind λp=>
    bif p then
     (bS a0.2.2.2.1 a1.2.2.2.1).bind λj=>
     bif j then
      (bS a0.2.2.2.2 a1.2.2.2.2).bind λo=>
      some o
     else
      some false
    else
     some false
   else
    some false
  else
   some false).bind λr=>
 some r
theorem Qm {a0}{a1}{r}(hr:mH a0 a1=some r):CallOK ν 69 [.bP (.st gM) a0,.bP (.st gM) a1] [⟨false,.bool,r⟩] []:=
 dn Tryz.func69 rfl λcx hX hF=>θ hX [] aU (ϰ hr (λv2=>up [] [(4,bV v2)] [] [] 0) (λv2 hr=>by (cases hr;exact (Δ (bY aU)))) λ_ j I=>bb j (λp j=>bb j (λJ j=>bc j MG λy7 t j=>bb j (λT j=>bc j xT λPo o j=>bb j (λR j=>bc j xT λUp U j=>Τ hX (nO 5 [kT,oH,oH,oH,oH,oH,oH,kT,oH,oH,oH,oH,(cl t),oH,kT,oH,oH,oH,oH,(cl o),oH,kT,oH,oH,oH,oH,(cl U)]) (iE p J t T (kQ o R U)) λ_ h=>(aX (h.ht (I _ (aZ j))))) λR j=>Τ hX (nO 5 [kT,oH,oH,oH,oH,oH,oH,kT,oH,oH,oH,oH,(cl t),oH,kT,oH,oH,oH,oH,(cl o),oH,kF]) (iE p J t T (dd o R)) λ_ h=>(aX (h.ht (I _ (aZ j))))) λT j=>Τ hX (nO 5 [kT,oH,oH,oH,oH,oH,oH,kT,oH,oH,oH,oH,(cl t),oH,kF]) (nB p J t T) λ_ h=>(aX (h.ht (I _ (aZ j))))) λJ j=>Τ hX (nO 5 [kT,oH,oH,oH,oH,oH,oH,kF]) (dd p J) λ_ h=>(aX (h.ht (I _ (aZ j))))) λp j=>Τ hX (nO 5 [kF]) (bD p) λ_ h=>(aX (h.ht (I _ (aZ j)))))
def dz (a0:GZ)(a1:GZ)(j:Int):Option ((Int)⊕(Unit⊕Unit)):=
 bif (decide (j<(aW a0))) then
  aY (0<=j/\j<aW a0) (
   aY (0<=j/\j<aW a1) (
    bif ((ε a0 (δ j) false) != (ε a1 (δ j) false)) then
     some (.inr (.inr ()))
    else
     some (.inl (bf .i64 j 1))))
 else
  some (.inr (.inl ()))
def eB (a0:GZ)(a1:GZ):Option (Bool):=
 bif ((aW a0) != (aW a1)) then
  some false
 else
  (rounds (dz a0 a1) 0).bind λj=>match j with
   | .inl o=>
    some true
   | .inr p=>
    some false
theorem MH {a0}{a1}{r}(p:eB a0 a1=some r):CallOK ν 107 [.bP (.sl .bool) a0,.bP (.sl .bool) a1] [⟨false,.bool,r⟩] []:=
 dn Tryz.func107 rfl λcx o hF=>θ o [] aU (υ (θ o [] aU (Ω p (λT p=>θ o [] aU (by (cases p;exact (Δ (bn (bY aU)))))) λT p=>Η (aX (υ (θ o [] aU (ξ (Ϩ o p (λs2=>up [0,1,12] [(13,iV s2)] [] [] 0) (λU=>match U with| .inl r4=>(.exit 0,up [] [] [] [] 0)| .inr r5=>(.ret,up [] [(4,bV false)] [] [] 0)) (λU=>match U with| .inl r4=>λp=>(bm (aX (θ o [] aU (by (cases p;exact (Δ (bY aU)))))))| .inr r5=>λp=>by (cases p;exact (bH (bn (bY aU))))) λs2 x6 j t=>θ o [] aU (ϻ j (λaa j=>υ (ξ (θ o [] aU (bg j λI j=>bg j λJ j=>aba o [] (dd I J) (Ω j (λR j=>θ o [] aU (HT.xr o (bH (bn (eZ (t _ (bd j))))))) λR j=>Η (bj (aX (Τ o [] aU λ_ h=>(bz (lN j h)))))))))) λaa j=>Ϫ o (bw (bA (t _ (bd j)))))))))))))
def oQ (a0:GP)(a1:GP):Option (Bool):=
 (show Option (Bool) from
  bif (a0.1==a1.1) then
   bif (a0.2.1==a1.2.1) then
    (bS a0.2.2.1 a1.2.2.1).bind λo=>
    bif o then
     (eB a0.2.2.2 a1.2.2.2).bind λj=>
     some j
    else
     some false
   else
    some false
  else
   some false).bind λp=>
 some p
theorem Qn {a0}{a1}{r}(U:oQ a0 a1=some r):CallOK ν 70 [.bP (.st gP) a0,.bP (.st gP) a1] [⟨false,.bool,r⟩] []:=
 dn Tryz.func70 rfl λcx T hF=>θ T [] aU (ϰ U (λv2=>up [] [(4,bV v2)] [] [] 0) (λv2 U=>by (cases U;exact (Δ (bY aU)))) λ_ j p=>bb j (λo j=>bb j (λt j=>bc j xT λy7 I j=>bb j (λR j=>bc j MH λPo J j=>Τ T (nO 5 [kT,oH,oH,oH,oH,oH,oH,kT,oH,oH,oH,oH,(cl I),oH,kT,oH,oH,oH,oH,(cl J)]) (iE o t I R (bD J)) λ_ h=>(aX (h.ht (p _ (aZ j))))) λR j=>Τ T (nO 5 [kT,oH,oH,oH,oH,oH,oH,kT,oH,oH,oH,oH,(cl I),oH,kF]) (nB o t I R) λ_ h=>(aX (h.ht (p _ (aZ j))))) λt j=>Τ T (nO 5 [kT,oH,oH,oH,oH,oH,oH,kF]) (dd o t) λ_ h=>(aX (h.ht (p _ (aZ j))))) λo j=>Τ T (nO 5 [kF]) (bD o) λ_ h=>(aX (h.ht (p _ (aZ j)))))
def cK (a0:GL)(a1:GL)(j:Int):Option ((Int)⊕(Unit⊕Unit)):=
 bif (decide (j<(aW a0))) then
  aY (0<=j/\j<aW a0) (
   aY (0<=j/\j<aW a1) (
    bif (!(((ε a0 (δ j) (0,0,0,0)).1==(ε a1 (δ j) (0,0,0,0)).1)&&((((ε a0 (δ j) (0,0,0,0)).2).1==((ε a1 (δ j) (0,0,0,0)).2).1)&&(((((ε a0 (δ j) (0,0,0,0)).2).2).1==(((ε a1 (δ j) (0,0,0,0)).2).2).1)&&(((((ε a0 (δ j) (0,0,0,0)).2).2).2==(((ε a1 (δ j) (0,0,0,0)).2).2).2)&&true))))) then
     some (.inr (.inr ()))
    else
     some (.inl (bf .i64 j 1))))
 else
  some (.inr (.inl ()))
def cV (a0:GL)(a1:GL):Option (Bool):=
 bif ((aW a0) != (aW a1)) then
  some false
 else
  (rounds (cK a0 a1) 0).bind λj=>match j with
   | .inl o=>
    some true
   | .inr p=>
    some false
theorem MI {a0}{a1}{r}(p:cV a0 a1=some r):CallOK ν 108 [.bP gA a0,.bP gA a1] [⟨false,.bool,r⟩] []:=
 dn Tryz.func108 rfl λcx o hF=>θ o [] aU (υ (θ o [] aU (Ω p (λT p=>θ o [] aU (by (cases p;exact (Δ (bn (bY aU)))))) λT p=>Η (aX (υ (θ o [] aU (ξ (Ϩ o p (λs2=>up [0,1,12] [(13,iV s2)] [] [] 0) (λU=>match U with| .inl r4=>(.exit 0,up [] [] [] [] 0)| .inr r5=>(.ret,up [] [(4,bV false)] [] [] 0)) (λU=>match U with| .inl r4=>λp=>(bm (aX (θ o [] aU (by (cases p;exact (Δ (bY aU)))))))| .inr r5=>λp=>by (cases p;exact (bH (bn (bY aU))))) λs2 x6 j t=>θ o [] aU (ϻ j (λaa j=>υ (ξ (θ o [] aU (bg j λI j=>bg j λJ j=>aba o [] (dd I J) (Ω j (λR j=>θ o [] aU (HT.xr o (bH (bn (eZ (t _ (bd j))))))) λR j=>Η (bj (aX (Τ o [] aU λ_ h=>(bz (lN j h)))))))))) λaa j=>Ϫ o (bw (bA (t _ (bd j)))))))))))))
def mI (a0:GG)(a1:GG):Option (Bool):=
 (show Option (Bool) from
  bif (a0.1==a1.1) then
   bif (a0.2.1==a1.2.1) then
    (cV a0.2.2 a1.2.2).bind λj=>
    some j
   else
    some false
  else
   some false).bind λo=>
 some o
theorem Qo {a0}{a1}{r}(R:mI a0 a1=some r):CallOK ν 71 [.bP (.st gR) a0,.bP (.st gR) a1] [⟨false,.bool,r⟩] []:=
 dn Tryz.func71 rfl λcx J U=>θ J [] aU (ϰ R (λT=>up [] [(4,bV T)] [] [] 0) (λT R=>by (cases R;exact (Δ (bY aU)))) λ_ j p=>bb j (λo j=>bb j (λt j=>bc j MI λy7 I j=>Τ J (nO 5 [kT,oH,oH,oH,oH,oH,oH,kT,oH,oH,oH,oH,(cl I)]) (kQ o t I) λ_ h=>(aX (h.ht (p _ (aZ j))))) λt j=>Τ J (nO 5 [kT,oH,oH,oH,oH,oH,oH,kF]) (dd o t) λ_ h=>(aX (h.ht (p _ (aZ j))))) λo j=>Τ J (nO 5 [kF]) (bD o) λ_ h=>(aX (h.ht (p _ (aZ j)))))
def fh (a0:GM×GP×GG×GI)(a1:GM×GP×GG×GI):Option (Bool):=
 (show Option (Bool) from
  (mH (a0.1.1,a0.1.2.1,a0.1.2.2.1,a0.1.2.2.2.1,a0.1.2.2.2.2) (a1.1.1,a1.1.2.1,a1.1.2.2.1,a1.1.2.2.2.1,a1.1.2.2.2.2)).bind λp=>
  bif p then
   (oQ (a0.2.1.1,a0.2.1.2.1,a0.2.1.2.2.1,a0.2.1.2.2.2) (a1.2.1.1,a1.2.1.2.1,a1.2.1.2.2.1,a1.2.1.2.2.2)).bind λr=>
   bif r then
    (mI (a0.2.2.1.1,a0.2.2.1.2.1,a0.2.2.1.2.2) (a1.2.2.1.1,a1.2.2.1.2.1,a1.2.2.1.2.2)).bind λj=>
    bif j then
     (bS a0.2.2.2 a1.2.2.2).bind λo=>
     some o
    else
     some false
   else
    some false
  else
   some false).bind λt=>
 some t
theorem ET {a0}{a1}{r}(hr:fh a0 a1=some r):CallOK ν 26 [.bP (.st (.pair (.st gM) (.pair (.st gP) (.pair (.st gR) cg)))) a0,.bP (.st (.pair (.st gM) (.pair (.st gP) (.pair (.st gR) cg)))) a1] [⟨false,.bool,r⟩] []:=
 dn Tryz.func26 rfl λcx hX hF=>θ hX [] aU (ϰ hr (λv2=>up [] [(4,bV v2)] [] [] 0) (λv2 hr=>by (cases hr;exact (Δ (bY aU)))) λ_ j T=>bc j Qm λy5 o j=>bb j (λJ j=>bc j Qn λy8 I j=>bb j (λp j=>bc j Qo λKV t j=>bb j (λR j=>bc j xT λSF U j=>Τ hX (nO 4 [(cl o),kT,oH,oH,oH,oH,(cl I),oH,kT,oH,oH,oH,oH,(cl t),oH,kT,oH,oH,oH,oH,(cl U)]) (iE o J I p (kQ t R U)) λ_ h=>(aX (h.ht (T _ (aZ j))))) λR j=>Τ hX (nO 4 [(cl o),kT,oH,oH,oH,oH,(cl I),oH,kT,oH,oH,oH,oH,(cl t),oH,kF]) (iE o J I p (dd t R)) λ_ h=>(aX (h.ht (T _ (aZ j))))) λp j=>Τ hX (nO 4 [(cl o),kT,oH,oH,oH,oH,(cl I),oH,kF]) (nB o J I p) λ_ h=>(aX (h.ht (T _ (aZ j))))) λJ j=>Τ hX (nO 4 [(cl o),kF]) (dd o J) λ_ h=>(aX (h.ht (T _ (aZ j)))))
def jP (a0:GM×GP×GG×GI)(a1:GB):Option ((GM×GP×GG×GI)×GB×Bool):=
 (dL ((a0.1.1,a0.1.2.1,a0.1.2.2.1,a0.1.2.2.2.1,a0.1.2.2.2.2),(a0.2.1.1,a0.2.1.2.1,a0.2.1.2.2.1,a0.2.1.2.2.2),(a0.2.2.1.1,a0.2.2.1.2.1,a0.2.2.1.2.2),a0.2.2.2)).bind λp=>
 bif (!p) then
  some (((0,0,([]:GL),([]:GI),([]:GI)),(0,0,([]:GI),([]:GZ)),(0,0,([]:GL)),([]:GI)),([]:GB),false)
 else
  (ez ((a0.1.1,a0.1.2.1,a0.1.2.2.1,a0.1.2.2.2.1,a0.1.2.2.2.2),(a0.2.1.1,a0.2.1.2.1,a0.2.1.2.2.1,a0.2.1.2.2.2),(a0.2.2.1.1,a0.2.2.1.2.1,a0.2.2.1.2.2),a0.2.2.2) a1).bind λj=>
  (gu ((j.1.1.1,j.1.1.2.1,j.1.1.2.2.1,j.1.1.2.2.2.1,j.1.1.2.2.2.2),(j.1.2.1.1,j.1.2.1.2.1,j.1.2.1.2.2.1,j.1.2.1.2.2.2),(j.1.2.2.1.1,j.1.2.2.1.2.1,j.1.2.2.1.2.2),j.1.2.2.2)).bind λo=>
  some (((o.1.1,o.1.2.1,o.1.2.2.1,o.1.2.2.2.1,o.1.2.2.2.2),(o.2.1.1,o.2.1.2.1,o.2.1.2.2.1,o.2.1.2.2.2),(o.2.2.1.1,o.2.2.1.2.1,o.2.2.1.2.2),o.2.2.2),j.2,true)
theorem Qp {a0}{a1}{r}(j:jP a0 a1=some r):CallOK ν 28 [.bP (.st (.pair (.st gM) (.pair (.st gP) (.pair (.st gR) cg)))) a0,.bP .str a1] [⟨true,(.st (.pair (.st gM) (.pair (.st gP) (.pair (.st gR) cg)))),r.1⟩,⟨false,.str,r.2.1⟩,⟨false,.bool,r.2.2⟩] []:=
 dn Tryz.func28 rfl λcx o R=>θ o [] aU (υ (bc j Bj λT p j=>θ o [oH,(cl p)] (bD p) (Ω j (λJ j=>θ o [] aU (by (cases j;exact (Δ (bn (bY aU)))))) λJ j=>Η (aX (bc j JW λU t j=>θ o [oH,oH,(cl t)] (bD t) (bc j EC λy6 I j=>θ o [oH,(cl I)] (bD I) (by (cases j;exact (Δ (bY aU))))))))))
def fH (p:List GB)(o:GB×GB×Int×Int×Int×Int×GL×GI×GI×Int×Int×GI×GZ×Int×Int×GL×GI):Option ((GB×GB×Int×Int×Int×Int×GL×GI×GI×Int×Int×GI×GZ×Int×Int×GL×GI)⊕((GB×GB×Int×Int×Int×GL×GI×GI×Int×Int×GI×GZ×Int×Int×GL×GI)⊕Unit)):=
 bif (decide (o.2.2.2.1<(aW p))) then
  aY (0<=o.2.2.2.1/\o.2.2.2.1<aW p) (
   (jP ((o.2.2.2.2.1,o.2.2.2.2.2.1,o.2.2.2.2.2.2.1,o.2.2.2.2.2.2.2.1,o.2.2.2.2.2.2.2.2.1),(o.2.2.2.2.2.2.2.2.2.1,o.2.2.2.2.2.2.2.2.2.2.1,o.2.2.2.2.2.2.2.2.2.2.2.1,o.2.2.2.2.2.2.2.2.2.2.2.2.1),(o.2.2.2.2.2.2.2.2.2.2.2.2.2.1,o.2.2.2.2.2.2.2.2.2.2.2.2.2.2.1,o.2.2.2.2.2.2.2.2.2.2.2.2.2.2.2.1),o.2.2.2.2.2.2.2.2.2.2.2.2.2.2.2.2) (ε p (δ o.2.2.2.1) ([]:GB))).bind λj=>
   (show Option (Bool) from
    bif (!j.2.2) then
     some true
    else
     (dL ((j.1.1.1,j.1.1.2.1,j.1.1.2.2.1,j.1.1.2.2.2.1,j.1.1.2.2.2.2),(j.1.2.1.1,j.1.2.1.2.1,j.1.2.1.2.2.1,j.1.2.1.2.2.2),(j.1.2.2.1.1,j.1.2.2.1.2.1,j.1.2.2.1.2.2),j.1.2.2.2)).bind λr=>
     some (!r)).bind λt=>
   bif t then
    some (.inr (.inr ()))
   else
    (show Option (Int⊕((GB×GB×Int×Int×Int×Int×GL×GI×GI×Int×Int×GI×GZ×Int×Int×GL×GI)⊕((GB×GB×Int×Int×Int×GL×GI×GI×Int×Int×GI×GZ×Int×Int×GL×GI)⊕Unit))) from
     (show Option (Bool) from
      bif (j.2.1==([110,111]:GB)) then
       some true
      else
       some (j.2.1==([119,104,97,116]:GB))).bind λI=>
     bif I then
      (fh ((j.1.1.1,j.1.1.2.1,j.1.1.2.2.1,j.1.1.2.2.2.1,j.1.1.2.2.2.2),(j.1.2.1.1,j.1.2.1.2.1,j.1.2.1.2.2.1,j.1.2.1.2.2.2),(j.1.2.2.1.1,j.1.2.2.1.2.1,j.1.2.2.1.2.2),j.1.2.2.2) ((o.2.2.2.2.1,o.2.2.2.2.2.1,o.2.2.2.2.2.2.1,o.2.2.2.2.2.2.2.1,o.2.2.2.2.2.2.2.2.1),(o.2.2.2.2.2.2.2.2.2.1,o.2.2.2.2.2.2.2.2.2.2.1,o.2.2.2.2.2.2.2.2.2.2.2.1,o.2.2.2.2.2.2.2.2.2.2.2.2.1),(o.2.2.2.2.2.2.2.2.2.2.2.2.2.1,o.2.2.2.2.2.2.2.2.2.2.2.2.2.2.1,o.2.2.2.2.2.2.2.2.2.2.2.2.2.2.2.1),o.2.2.2.2.2.2.2.2.2.2.2.2.2.2.2.2)).bind λJ=>
      bif (!J) then
       sw (some (.inr (.inr ())))
      else
       some (.inl (bf .i64 o.2.2.1 1))
     else
      some (.inl o.2.2.1)).bind λR=>match R with
     | .inl T=>
      aY (ζ (ε p (δ o.2.2.2.1) ([]:GB))+ζ ([10]:GB)<=bl) (
       aY (ζ o.1+ζ ((ε p (δ o.2.2.2.1) ([]:GB))++([10]:GB))<=bl) (
        aY (ζ j.2.1+ζ ([10]:GB)<=bl) (
         aY (ζ o.2.1+ζ (j.2.1++([10]:GB))<=bl) (
          some (.inl ((o.1++((ε p (δ o.2.2.2.1) ([]:GB))++([10]:GB))),(o.2.1++(j.2.1++([10]:GB))),T,(bf .i64 o.2.2.2.1 1),j.1.1.1,j.1.1.2.1,j.1.1.2.2.1,j.1.1.2.2.2.1,j.1.1.2.2.2.2,j.1.2.1.1,j.1.2.1.2.1,j.1.2.1.2.2.1,j.1.2.1.2.2.2,j.1.2.2.1.1,j.1.2.2.1.2.1,j.1.2.2.1.2.2,j.1.2.2.2))))))
     | .inr z=>some z)
 else
  some (.inr (.inl (o.1,o.2.1,o.2.2.1,o.2.2.2.2.1,o.2.2.2.2.2.1,o.2.2.2.2.2.2.1,o.2.2.2.2.2.2.2.1,o.2.2.2.2.2.2.2.2.1,o.2.2.2.2.2.2.2.2.2.1,o.2.2.2.2.2.2.2.2.2.2.1,o.2.2.2.2.2.2.2.2.2.2.2.1,o.2.2.2.2.2.2.2.2.2.2.2.2.1,o.2.2.2.2.2.2.2.2.2.2.2.2.2.1,o.2.2.2.2.2.2.2.2.2.2.2.2.2.2.1,o.2.2.2.2.2.2.2.2.2.2.2.2.2.2.2.1,o.2.2.2.2.2.2.2.2.2.2.2.2.2.2.2.2)))
def np (a0:GI)(a1:GI):Option (Bool):=
 (kR a0 a1).bind λy1=>
 bif y1 then
  some true
 else
  (pd a0).bind λj=>
  (n9 a1).bind λy6=>
  (rounds (fH y6) (([]:GB),([]:GB),0,0,j.1.1,j.1.2.1,j.1.2.2.1,j.1.2.2.2.1,j.1.2.2.2.2,j.2.1.1,j.2.1.2.1,j.2.1.2.2.1,j.2.1.2.2.2,j.2.2.1.1,j.2.2.1.2.1,j.2.2.1.2.2,j.2.2.2)).bind λr9=>match r9 with
   | .inl o=>
    (l9 ((j.1.1,j.1.2.1,j.1.2.2.1,j.1.2.2.2.1,j.1.2.2.2.2),(j.2.1.1,j.2.1.2.1,j.2.1.2.2.1,j.2.1.2.2.2),(j.2.2.1.1,j.2.2.1.2.1,j.2.2.1.2.2),j.2.2.2) o.1).bind λp=>
    (js o.2.1).bind λJ=>
    (gS (j.1.1,j.1.2.1,j.1.2.2.1,j.1.2.2.2.1,j.1.2.2.2.2)).bind λR=>
    (eo R.1).bind λr=>
    (jC (j.2.1.1,j.2.1.2.1,j.2.1.2.2.1,j.2.1.2.2.2)).bind λT=>
    (fC T.1).bind λt=>
    (gT (j.2.2.1.1,j.2.2.1.2.1,j.2.2.1.2.2)).bind λU=>
    (ep U.1).bind λI=>
    (ey j.2.2.2).bind λaa=>
    (fg aa.1).bind λab=>
    (show Option (Bool) from
     bif p.2.2 then
      bif J.2.2 then
       bif R.2 then
        bif r.2 then
         bif T.2 then
          bif t.2 then
           bif U.2 then
            bif I.2 then
             bif aa.2 then
              bif ab.2 then
               bif (p.2.1==o.2.1) then
                (fh ((p.1.1.1,p.1.1.2.1,p.1.1.2.2.1,p.1.1.2.2.2.1,p.1.1.2.2.2.2),(p.1.2.1.1,p.1.2.1.2.1,p.1.2.1.2.2.1,p.1.2.1.2.2.2),(p.1.2.2.1.1,p.1.2.2.1.2.1,p.1.2.2.1.2.2),p.1.2.2.2) ((o.2.2.2.1,o.2.2.2.2.1,o.2.2.2.2.2.1,o.2.2.2.2.2.2.1,o.2.2.2.2.2.2.2.1),(o.2.2.2.2.2.2.2.2.1,o.2.2.2.2.2.2.2.2.2.1,o.2.2.2.2.2.2.2.2.2.2.1,o.2.2.2.2.2.2.2.2.2.2.2.1),(o.2.2.2.2.2.2.2.2.2.2.2.2.1,o.2.2.2.2.2.2.2.2.2.2.2.2.2.1,o.2.2.2.2.2.2.2.2.2.2.2.2.2.2.1),o.2.2.2.2.2.2.2.2.2.2.2.2.2.2.2)).bind λad=>
                bif ad then
                 bif (J.1==o.2.2.1) then
                  bif (J.2.1==(bI .i64 (aW y6) o.2.2.1)) then
                   (fh ((r.1.1,r.1.2.1,r.1.2.2.1,r.1.2.2.2.1,r.1.2.2.2.2),(t.1.1,t.1.2.1,t.1.2.2.1,t.1.2.2.2),(I.1.1,I.1.2.1,I.1.2.2),ab.1) ((j.1.1,j.1.2.1,j.1.2.2.1,j.1.2.2.2.1,j.1.2.2.2.2),(j.2.1.1,j.2.1.2.1,j.2.1.2.2.1,j.2.1.2.2.2),(j.2.2.1.1,j.2.2.1.2.1,j.2.2.1.2.2),j.2.2.2)).bind λae=>
                   some ae
                  else
                   some false
                 else
                  some false
                else
                 some false
               else
                some false
              else
               some false
             else
              some false
            else
             some false
           else
            some false
          else
           some false
         else
          some false
        else
         some false
       else
        some false
      else
       some false
     else
      some false).bind λaf=>
    some af
   | .inr YF=>
    some false
theorem f4_ok {a0}{a1}{r}(hr:np a0 a1=some r):CallOK ν 4 [.bP (.sl (.int .u8)) a0,.bP (.sl (.int .u8)) a1] [⟨false,.bool,r⟩] []:=
 dn Tryz.func4 rfl λcx p hF=>θ p [] aU (υ (bc hr SD λy1 tq hr=>θ p [oH,oH,(cl tq)] (bD tq) (Ω hr (λAz hr=>θ p [] aU (by (cases hr;exact (Δ (bn (bY aU)))))) λAz hr=>Η (aX (bc hr SE λy4 Te hr=>θ p [oH,(cl (ϯ [true] rfl Te))] (bD (ϯ [true] rfl Te)) (bc hr Ph λy6 YG hr=>θ p [oH,(cl YG)] (bD YG) (θ p [] aU (θ p [] aU (θ p [] aU (θ p [] aU (υ (θ p [] aU (ξ (Ϩ p hr (λs8=>up [5,6,7] [(8,.one (.bp .str s8.1)),(9,.one (.bp .str s8.2.1)),(10,iV s8.2.2.1),(11,iV s8.2.2.2.1)] [0,1] [(2,.box [iC s8.2.2.2.2.1,iC s8.2.2.2.2.2.1,.bp gA s8.2.2.2.2.2.2.1,nC s8.2.2.2.2.2.2.2.1,nC s8.2.2.2.2.2.2.2.2.1,iC s8.2.2.2.2.2.2.2.2.2.1,iC s8.2.2.2.2.2.2.2.2.2.2.1,nC s8.2.2.2.2.2.2.2.2.2.2.2.1,.bp (.sl .bool) s8.2.2.2.2.2.2.2.2.2.2.2.2.1,iC s8.2.2.2.2.2.2.2.2.2.2.2.2.2.1,iC s8.2.2.2.2.2.2.2.2.2.2.2.2.2.2.1,.bp gA s8.2.2.2.2.2.2.2.2.2.2.2.2.2.2.2.1,nC s8.2.2.2.2.2.2.2.2.2.2.2.2.2.2.2.2])] 0) (λr9=>match r9 with| .inl vE=>(.exit 0,up [5,6,7] [(8,.one (.bp .str vE.1)),(9,.one (.bp .str vE.2.1)),(10,iV vE.2.2.1)] [0,1] [(2,.box [iC vE.2.2.2.1,iC vE.2.2.2.2.1,.bp gA vE.2.2.2.2.2.1,nC vE.2.2.2.2.2.2.1,nC vE.2.2.2.2.2.2.2.1,iC vE.2.2.2.2.2.2.2.2.1,iC vE.2.2.2.2.2.2.2.2.2.1,nC vE.2.2.2.2.2.2.2.2.2.2.1,.bp (.sl .bool) vE.2.2.2.2.2.2.2.2.2.2.2.1,iC vE.2.2.2.2.2.2.2.2.2.2.2.2.1,iC vE.2.2.2.2.2.2.2.2.2.2.2.2.2.1,.bp gA vE.2.2.2.2.2.2.2.2.2.2.2.2.2.2.1,nC vE.2.2.2.2.2.2.2.2.2.2.2.2.2.2.2])] 0)| .inr YF=>(.ret,up [] [(4,bV false)] [] [] 0)) (λr9=>match r9 with| .inl vE=>λhr=>(bm (aX (bc hr Qk λKV JX hr=>θ p [oH,oH,(cl JX)] (bD JX) (bc hr Ql λUp Tn hr=>θ p [oH,(cl Tn)] (bD Tn) (bc hr NK λQ0 To hr=>θ p [oH,oH,(cl To)] (bD To) (bc hr JS λPc JV hr=>θ p [oH,(cl JV)] (bD JV) (bc hr NL λSG JY hr=>θ p [oH,oH,(cl JY)] (bD JY) (bc hr JT λy21 Tp hr=>θ p [oH,(cl Tp)] (bD Tp) (bc hr JD λKW JF hr=>θ p [oH,oH,(cl JF)] (bD JF) (bc hr JU λUq Tq hr=>θ p [oH,(cl Tq)] (bD Tq) (bc hr Bb λWE Tr hr=>θ p [oH,oH,(cl Tr)] (bD Tr) (bc hr EP λYn Tt hr=>θ p [oH,(cl Tt)] (bD Tt) (ϰ hr (λv32=>up [] [(4,bV v32)] [] [] 0) (λv32 hr=>by (cases hr;exact (Δ (bY aU)))) λ_ j I=>bb j (λt j=>bb j (λJ j=>bb j (λR j=>bb j (λT j=>bb j (λaa j=>bb j (λuT j=>bb j (λsx j=>bb j (λxW j=>bb j (λuk j=>bb j (λBh j=>bb j (λHk j=>bc j ET λy46 Da j=>bb j (λxU j=>bb j (λzg j=>bb j (λQq j=>bc j ET λYk Tu j=>Τ p [oH,kT,oH,oH,kT,oH,oH,kT,oH,oH,kT,oH,oH,kT,oH,oH,kT,oH,oH,kT,oH,oH,kT,oH,oH,kT,oH,oH,kT,oH,oH,oH,oH,kT,oH,oH,(cl Da),oH,kT,oH,oH,oH,oH,kT,oH,oH,oH,oH,oH,oH,oH,kT,oH,oH,oH,oH,oH,oH,(cl Tu)] (iE t J R T (iE aa uT sx xW (iE uk Bh Hk Da (nB xU zg Qq Tu)))) λ_ h=>(aX (h.ht (I _ (aZ j))))) λQq j=>Τ p [oH,kT,oH,oH,kT,oH,oH,kT,oH,oH,kT,oH,oH,kT,oH,oH,kT,oH,oH,kT,oH,oH,kT,oH,oH,kT,oH,oH,kT,oH,oH,oH,oH,kT,oH,oH,(cl Da),oH,kT,oH,oH,oH,oH,kT,oH,oH,oH,oH,oH,oH,oH,kF] (iE t J R T (iE aa uT sx xW (iE uk Bh Hk Da (kQ xU zg Qq)))) λ_ h=>(aX (h.ht (I _ (aZ j))))) λzg j=>Τ p [oH,kT,oH,oH,kT,oH,oH,kT,oH,oH,kT,oH,oH,kT,oH,oH,kT,oH,oH,kT,oH,oH,kT,oH,oH,kT,oH,oH,kT,oH,oH,oH,oH,kT,oH,oH,(cl Da),oH,kT,oH,oH,oH,oH,kF] (iE t J R T (iE aa uT sx xW (iE uk Bh Hk Da (dd xU zg)))) λ_ h=>(aX (h.ht (I _ (aZ j))))) λxU j=>Τ p [oH,kT,oH,oH,kT,oH,oH,kT,oH,oH,kT,oH,oH,kT,oH,oH,kT,oH,oH,kT,oH,oH,kT,oH,oH,kT,oH,oH,kT,oH,oH,oH,oH,kT,oH,oH,(cl Da),oH,kF] (iE t J R T (iE aa uT sx xW (iE uk Bh Hk Da (bD xU)))) λ_ h=>(aX (h.ht (I _ (aZ j))))) λHk j=>Τ p [oH,kT,oH,oH,kT,oH,oH,kT,oH,oH,kT,oH,oH,kT,oH,oH,kT,oH,oH,kT,oH,oH,kT,oH,oH,kT,oH,oH,kT,oH,oH,oH,oH,kF] (iE t J R T (iE aa uT sx xW (kQ uk Bh Hk))) λ_ h=>(aX (h.ht (I _ (aZ j))))) λBh j=>Τ p [oH,kT,oH,oH,kT,oH,oH,kT,oH,oH,kT,oH,oH,kT,oH,oH,kT,oH,oH,kT,oH,oH,kT,oH,oH,kT,oH,oH,kF] (iE t J R T (iE aa uT sx xW (dd uk Bh))) λ_ h=>(aX (h.ht (I _ (aZ j))))) λuk j=>Τ p [oH,kT,oH,oH,kT,oH,oH,kT,oH,oH,kT,oH,oH,kT,oH,oH,kT,oH,oH,kT,oH,oH,kT,oH,oH,kF] (iE t J R T (iE aa uT sx xW (bD uk))) λ_ h=>(aX (h.ht (I _ (aZ j))))) λxW j=>Τ p [oH,kT,oH,oH,kT,oH,oH,kT,oH,oH,kT,oH,oH,kT,oH,oH,kT,oH,oH,kT,oH,oH,kF] (iE t J R T (nB aa uT sx xW)) λ_ h=>(aX (h.ht (I _ (aZ j))))) λsx j=>Τ p [oH,kT,oH,oH,kT,oH,oH,kT,oH,oH,kT,oH,oH,kT,oH,oH,kT,oH,oH,kF] (iE t J R T (kQ aa uT sx)) λ_ h=>(aX (h.ht (I _ (aZ j))))) λuT j=>Τ p [oH,kT,oH,oH,kT,oH,oH,kT,oH,oH,kT,oH,oH,kT,oH,oH,kF] (iE t J R T (dd aa uT)) λ_ h=>(aX (h.ht (I _ (aZ j))))) λaa j=>Τ p [oH,kT,oH,oH,kT,oH,oH,kT,oH,oH,kT,oH,oH,kF] (iE t J R T (bD aa)) λ_ h=>(aX (h.ht (I _ (aZ j))))) λT j=>Τ p [oH,kT,oH,oH,kT,oH,oH,kT,oH,oH,kF] (nB t J R T) λ_ h=>(aX (h.ht (I _ (aZ j))))) λR j=>Τ p [oH,kT,oH,oH,kT,oH,oH,kF] (kQ t J R) λ_ h=>(aX (h.ht (I _ (aZ j))))) λJ j=>Τ p [oH,kT,oH,oH,kF] (dd t J) λ_ h=>(aX (h.ht (I _ (aZ j))))) λt j=>Τ p [oH,kF] (bD t) λ_ h=>(aX (h.ht (I _ (aZ j)))))))))))))))))| .inr YF=>λhr=>by (cases hr;exact (bH (bn (bY aU))))) λs8 x54 o Qr=>υ (θ p [] aU (Ω o (λC8 o=>Η (aX (υ (ξ (bg o λBg o=>bc o Qp λYD JP o=>aba p (nO 5 [(cl JP)]) (kQ Bg (bG Bg) JP) (υ (ϰ o (λYH=>up [5,6,7,8,9,10,11,12,13] [(67,bV YH)] [0,1,2,10,3,4,5,6,7,8,9] [] 0) (λYH o=>Ω o (λJL o=>θ p [] aU (HT.xr p (bn (bH (bn (eZ (Qr _ (bd o)))))))) λJL o=>Η (aX (HT.jo o (λ_=>rfl) (λv67=>up [5,6,7,8,9,11,12,13] [(10,iV v67)] [0,1,2,10,3,4,5,6,7,8,9] [] 0) (λv67 o=>θ p [] aU (bg o λXE o=>bg o λXF o=>θ p [] (nB Bg (bG Bg) XE XF) (bg o λQa o=>bg o λXG o=>HT.l p [] (dd Qa XG) (bj (aX (HT.l p [] aU (bz (lN o (Le.rz [(0,0),(1,1),(2,2)] [] p hF (by kernel_rfl)))))))))) λ_ U XH Hi=>ϰ U (λv77=>up [5,6,7,8,9,10,11,12,13] [(73,bV v77)] [0,1,2,10,3,4,5,6,7,8,9] [] 0) (λv77 U=>Ω U (λXI U=>θ p [] aU (bc U ET λy81 Tv U=>θ p [oH,oH,(cl Tv)] (bD Tv) (Ω U (λXJ U=>θ p [] aU (have o:=XH U;HT.xr p (bn (bH (bn (eZ (Qr _ (bd o)))))))) λXJ U=>Η (aX (HT.re p (Hi _ (bd U))))))) λXI U=>Η (aX (HT.re p (Hi _ (bd U))))) λ_ JZ Tw=>bb JZ (λQs JZ=>Τ p [oH,oH,kT] (bD Qs) λ_ h=>(aX (h.ht (Tw _ (aZ JZ))))) λQs JZ=>Τ p [oH,oH,kF] (bD Qs) λ_ h=>(aX (h.ht (Tw _ (aZ JZ))))))) λ_ EU Tx=>bb EU (λQt EU=>Τ p [oH,oH,kT] (bD Qt) λ_ h=>(aX (h.ht (Tx _ (aZ EU))))) λQt EU=>bc EU Bj λy89 Tz EU=>Τ p [oH,oH,kF,oH,(cl Tz)] (dd Qt Tz) λ_ h=>(aX (h.ht (Tx _ (aZ EU))))))))))) λC8 o=>Ϫ p (bw (bA (Qr _ (bd o))))))))))))))))))))
end
end Go.Proofs
