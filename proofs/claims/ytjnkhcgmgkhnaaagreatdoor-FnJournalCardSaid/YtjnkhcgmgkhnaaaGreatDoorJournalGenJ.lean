import Derived.Test.YtjnkhcgmgkhnaaaGreatDoorJournalGenI
import Derived.Test.YtjnkhcgmgkhnaaaGreatDoorProg
set_option linter.all false
open BitVec renaming ofInt→Ϙ
open Go.Ide.CallOK renaming rn→ϱ
open Go.Ide.HT renaming g→θ,block→ο,seq→φ,ret→Δ,skip→Θ,k→Υ,cb→Φ,lp→ϧ,xe→Ϩ,jn→ϰ,cj→Ϻ
open Go.IntKind renaming wrap→Ρ,bits→Ϗ
open Go.Proofs.Tryz renaming prog→ν
open Int renaming toNat→δ,tmod→aac
open List renaming getD→ε,length→ζ,take→ϛ
open Nat renaming zero_lt_one→Ξ
namespace Go.Proofs
open Go.Ide
noncomputable section
def eR (a0:GM×GP×GG×GI):Option (Bool):=
 (show Option (Bool) from
  (cy (a0.1.1,a0.1.2.1,a0.1.2.2.1,a0.1.2.2.2.1,a0.1.2.2.2.2)).bind λp=>
  bif p then
   bif (decide ((bn a0.1.2.2.1)<=16)) then
    (cI (a0.2.1.1,a0.2.1.2.1,a0.2.1.2.2.1,a0.2.1.2.2.2)).bind λr=>
    bif r then
     bif (decide ((bn a0.2.1.2.2.1)<=64)) then
      (db (a0.2.2.1.1,a0.2.2.1.2.1,a0.2.2.1.2.2)).bind λj=>
      bif j then
       bif (decide ((bn a0.2.2.1.2.2)<=16)) then
        (gr a0.2.2.2 4).bind λo=>
        some o
       else
        some false
      else
       some false
     else
      some false
    else
     some false
   else
    some false
  else
   some false).bind λt=>
 some t
theorem Fl {a0}{r}(hr:eR a0=some r):CallOK ν 16 [.bZ (.st (.pair (.st gM) (.pair (.st gP) (.pair (.st gR) cC)))) a0] [⟨false,.bool,r⟩] []:=
 dB Tryz.func16 rfl λcx hX hF=>θ hX [] bm (ϰ hr (λv2=>up [] [(2,bV v2)] [] [] 0) (λv2 hr=>by (cases hr;exact (Δ (ct bm)))) λ_ j T=>bc j oY λy5 p j=>bb j (λJ j=>bb j (λU j=>bc j o9 λy9 o j=>bb j (λt j=>bb j (λR j=>bc j vA λVf I j=>bb j (λaa j=>bb j (λab j=>bc j BD λRZ Us j=>Υ hX [oH,oH,(cl p),kT,oH,oH,oH,oH,oH,oH,kT,oH,oH,(cl o),oH,kT,oH,oH,oH,oH,oH,oH,kT,oH,oH,(cl I),oH,kT,oH,oH,oH,oH,oH,oH,kT,oH,oH,(cl Us)] (lF p J U o (lF t R I aa (dp ab Us))) λ_ h=>(bp (h.ht (T _ (bt j))))) λab j=>Υ hX [oH,oH,(cl p),kT,oH,oH,oH,oH,oH,oH,kT,oH,oH,(cl o),oH,kT,oH,oH,oH,oH,oH,oH,kT,oH,oH,(cl I),oH,kT,oH,oH,oH,oH,oH,oH,kF] (lF p J U o (lF t R I aa (bQ ab))) λ_ h=>(bp (h.ht (T _ (bt j))))) λaa j=>Υ hX [oH,oH,(cl p),kT,oH,oH,oH,oH,oH,oH,kT,oH,oH,(cl o),oH,kT,oH,oH,oH,oH,oH,oH,kT,oH,oH,(cl I),oH,kF] (lF p J U o (nZ t R I aa)) λ_ h=>(bp (h.ht (T _ (bt j))))) λR j=>Υ hX [oH,oH,(cl p),kT,oH,oH,oH,oH,oH,oH,kT,oH,oH,(cl o),oH,kT,oH,oH,oH,oH,oH,oH,kF] (lF p J U o (dp t R)) λ_ h=>(bp (h.ht (T _ (bt j))))) λt j=>Υ hX [oH,oH,(cl p),kT,oH,oH,oH,oH,oH,oH,kT,oH,oH,(cl o),oH,kF] (lF p J U o (bQ t)) λ_ h=>(bp (h.ht (T _ (bt j))))) λU j=>Υ hX [oH,oH,(cl p),kT,oH,oH,oH,oH,oH,oH,kF] (ll p J U) λ_ h=>(bp (h.ht (T _ (bt j))))) λJ j=>Υ hX [oH,oH,(cl p),kF] (dp p J) λ_ h=>(bp (h.ht (T _ (bt j)))))
def fu (a0:GM×GP×GG×GI)(a1:GB):Option ((GM×GP×GG×GI)×GB):=
 (gB ((a0.1.1,a0.1.2.1,a0.1.2.2.1,a0.1.2.2.2.1,a0.1.2.2.2.2),(a0.2.1.1,a0.2.1.2.1,a0.2.1.2.2.1,a0.2.1.2.2.2),(a0.2.2.1.1,a0.2.2.1.2.1,a0.2.2.1.2.2),a0.2.2.2)).bind λo=>
 (strings_Split a1 ([32]:GB)).bind λr=>
 (kH ((o.1.1,o.1.2.1,o.1.2.2.1,o.1.2.2.2.1,o.1.2.2.2.2),(o.2.1.1,o.2.1.2.1,o.2.1.2.2.1,o.2.1.2.2.2),(o.2.2.1.1,o.2.2.1.2.1,o.2.2.1.2.2),o.2.2.2) r).bind λj=>
 bif (!j.2.2.1) then
  some (((a0.1.1,a0.1.2.1,a0.1.2.2.1,a0.1.2.2.2.1,a0.1.2.2.2.2),(a0.2.1.1,a0.2.1.2.1,a0.2.1.2.2.1,a0.2.1.2.2.2),(a0.2.2.1.1,a0.2.2.1.2.1,a0.2.2.1.2.2),a0.2.2.2),([119,104,97,116]:GB))
 else
  (show Option (Bool) from
   bif (!j.2.1) then
    some true
   else
    (eR ((j.2.2.2.1.1,j.2.2.2.1.2.1,j.2.2.2.1.2.2.1,j.2.2.2.1.2.2.2.1,j.2.2.2.1.2.2.2.2),(j.2.2.2.2.1.1,j.2.2.2.2.1.2.1,j.2.2.2.2.1.2.2.1,j.2.2.2.2.1.2.2.2),(j.2.2.2.2.2.1.1,j.2.2.2.2.2.1.2.1,j.2.2.2.2.2.1.2.2),j.2.2.2.2.2.2)).bind λp=>
    some (!p)).bind λt=>
  bif t then
   some (((a0.1.1,a0.1.2.1,a0.1.2.2.1,a0.1.2.2.2.1,a0.1.2.2.2.2),(a0.2.1.1,a0.2.1.2.1,a0.2.1.2.2.1,a0.2.1.2.2.2),(a0.2.2.1.1,a0.2.2.1.2.1,a0.2.2.1.2.2),a0.2.2.2),([110,111]:GB))
  else
   some (((j.2.2.2.1.1,j.2.2.2.1.2.1,j.2.2.2.1.2.2.1,j.2.2.2.1.2.2.2.1,j.2.2.2.1.2.2.2.2),(j.2.2.2.2.1.1,j.2.2.2.2.1.2.1,j.2.2.2.2.1.2.2.1,j.2.2.2.2.1.2.2.2),(j.2.2.2.2.2.1.1,j.2.2.2.2.2.1.2.1,j.2.2.2.2.2.1.2.2),j.2.2.2.2.2.2),j.1)
theorem Kn {a0}{a1}{r}(o:fu a0 a1=some r):CallOK ν 46 [.bZ (.st (.pair (.st gM) (.pair (.st gP) (.pair (.st gR) cC)))) a0,.bZ .str a1] [⟨false,(.st (.pair (.st gM) (.pair (.st gP) (.pair (.st gR) cC)))),r.1⟩,⟨false,.str,r.2⟩] []:=
 dB Tryz.func46 rfl λcx t hF=>θ t [(hT (.st (.pair (.st gM) (.pair (.st gP) (.pair (.st gR) cC)))))] bm (bc o E6 λy1 J o=>θ t [oH,(cl (ϱ [true] rfl J)),(hT (.st (.pair (.st gM) (.pair (.st gP) (.pair (.st gR) cC)))))] (ll (show 0<ζ [((a0.1.1,a0.1.2.1,a0.1.2.2.1,a0.1.2.2.2.1,a0.1.2.2.2.2),(a0.2.1.1,a0.2.1.2.1,a0.2.1.2.2.1,a0.2.1.2.2.2),(a0.2.2.1.1,a0.2.2.1.2.1,a0.2.2.1.2.2),a0.2.2.2)] from Ξ) (ϱ [true] rfl J) (show 0<ζ [((0,0,([]:GL),([]:GI),([]:GI)),(0,0,([]:GI),([]:GZ)),(0,0,([]:GL)),([]:GI))] from Ξ)) (bc o Bu λy3 R o=>bc o Rc λy5 T o=>θ t [oH,(cl (ϱ [true] rfl R)),(cl T)] (dp (ϱ [true] rfl R) T) (φ (θ t [] bm (Φ o (λab o=>θ t [] (bQ (show 0<ζ [((a0.1.1,a0.1.2.1,a0.1.2.2.1,a0.1.2.2.2.1,a0.1.2.2.2.2),(a0.2.1.1,a0.2.1.2.1,a0.2.1.2.2.1,a0.2.1.2.2.2),(a0.2.2.1.1,a0.2.2.1.2.1,a0.2.2.1.2.2),a0.2.2.2)] from Ξ)) (by (cases o;exact (Δ (bF (ct bm)))))) λab o=>Θ (bp (φ (ϰ o (λv9=>up [2,4,6,7] [(28,bV v9)] [0,1,2] [] 0) (λv9 o=>Φ o (λU o=>θ t [] (bQ (show 0<ζ [((a0.1.1,a0.1.2.1,a0.1.2.2.1,a0.1.2.2.2.1,a0.1.2.2.2.2),(a0.2.1.1,a0.2.1.2.1,a0.2.1.2.2.1,a0.2.1.2.2.2),(a0.2.2.1.1,a0.2.2.1.2.1,a0.2.2.1.2.2),a0.2.2.2)] from Ξ)) (by (cases o;exact (Δ (bF (ct bm)))))) λU o=>Θ (bp (θ t [] (bQ (show 0<ζ [y5.2.2.2] from Ξ)) (by (cases o;exact (Δ (ct bm))))))) λ_ j aa=>bb j (λp j=>Υ t [oH,oH,kT] (bQ p) λ_ h=>(bp (h.ht (aa _ (bt j))))) λp j=>bc j Fl λRX I j=>Υ t [oH,oH,kF,oH,(cl I)] (ll p (show 0<ζ [y5.2.2.2] from Ξ) I) λ_ h=>(bp (h.ht (aa _ (bt j))))))))))))
def dJ (p:List GB×Int)(j:Int×Int×Int×GL×GI×GI×Int×Int×GI×GZ×Int×Int×GL×GI):Option ((Int×Int×Int×GL×GI×GI×Int×Int×GI×GZ×Int×Int×GL×GI)⊕((Int×Int×GL×GI×GI×Int×Int×GI×GZ×Int×Int×GL×GI))):=
 bif (decide (j.1<(bn p.1))) then
  br (0<=j.1/\j.1<bn p.1) (
   (fu ((j.2.1,j.2.2.1,j.2.2.2.1,j.2.2.2.2.1,j.2.2.2.2.2.1),(j.2.2.2.2.2.2.1,j.2.2.2.2.2.2.2.1,j.2.2.2.2.2.2.2.2.1,j.2.2.2.2.2.2.2.2.2.1),(j.2.2.2.2.2.2.2.2.2.2.1,j.2.2.2.2.2.2.2.2.2.2.2.1,j.2.2.2.2.2.2.2.2.2.2.2.2.1),j.2.2.2.2.2.2.2.2.2.2.2.2.2) (ε p.1 (δ j.1) ([]:GB))).bind λo=>
   some (.inl ((bz .i64 j.1 1),o.1.1.1,o.1.1.2.1,o.1.1.2.2.1,o.1.1.2.2.2.1,o.1.1.2.2.2.2,o.1.2.1.1,o.1.2.1.2.1,o.1.2.1.2.2.1,o.1.2.1.2.2.2,o.1.2.2.1.1,o.1.2.2.1.2.1,o.1.2.2.1.2.2,o.1.2.2.2)))
 else
  some (.inr (j.2.1,j.2.2.1,j.2.2.2.1,j.2.2.2.2.1,j.2.2.2.2.2.1,j.2.2.2.2.2.2.1,j.2.2.2.2.2.2.2.1,j.2.2.2.2.2.2.2.2.1,j.2.2.2.2.2.2.2.2.2.1,j.2.2.2.2.2.2.2.2.2.2.1,j.2.2.2.2.2.2.2.2.2.2.2.1,j.2.2.2.2.2.2.2.2.2.2.2.2.1,j.2.2.2.2.2.2.2.2.2.2.2.2.2))
def kI (a0:GM×GP×GG×GI)(a1:GB):Option ((GM×GP×GG×GI)×Int×Bool):=
 (show Option (Bool) from
  bif (decide ((bn a1)>16000)) then
   some true
  else
   (eR ((a0.1.1,a0.1.2.1,a0.1.2.2.1,a0.1.2.2.2.1,a0.1.2.2.2.2),(a0.2.1.1,a0.2.1.2.1,a0.2.1.2.2.1,a0.2.1.2.2.2),(a0.2.2.1.1,a0.2.2.1.2.1,a0.2.2.1.2.2),a0.2.2.2)).bind λp=>
   some (!p)).bind λt=>
 bif t then
  some (((0,0,([]:GL),([]:GI),([]:GI)),(0,0,([]:GI),([]:GZ)),(0,0,([]:GL)),([]:GI)),0,false)
 else
  (jH a1).bind λr=>
  (rounds (dJ r) (0,a0.1.1,a0.1.2.1,a0.1.2.2.1,a0.1.2.2.2.1,a0.1.2.2.2.2,a0.2.1.1,a0.2.1.2.1,a0.2.1.2.2.1,a0.2.1.2.2.2,a0.2.2.1.1,a0.2.2.1.2.1,a0.2.2.1.2.2,a0.2.2.2)).bind λj=>
  (gB ((j.1,j.2.1,j.2.2.1,j.2.2.2.1,j.2.2.2.2.1),(j.2.2.2.2.2.1,j.2.2.2.2.2.2.1,j.2.2.2.2.2.2.2.1,j.2.2.2.2.2.2.2.2.1),(j.2.2.2.2.2.2.2.2.2.1,j.2.2.2.2.2.2.2.2.2.2.1,j.2.2.2.2.2.2.2.2.2.2.2.1),j.2.2.2.2.2.2.2.2.2.2.2.2)).bind λo=>
  some (((o.1.1,o.1.2.1,o.1.2.2.1,o.1.2.2.2.1,o.1.2.2.2.2),(o.2.1.1,o.2.1.2.1,o.2.1.2.2.1,o.2.1.2.2.2),(o.2.2.1.1,o.2.2.1.2.1,o.2.2.1.2.2),o.2.2.2),(bn r.1),true)
theorem Re {a0}{a1}{r}(I:kI a0 a1=some r):CallOK ν 35 [.bZ (.st (.pair (.st gM) (.pair (.st gP) (.pair (.st gR) cC)))) a0,.bZ .str a1] [⟨true,(.st (.pair (.st gM) (.pair (.st gP) (.pair (.st gR) cC)))),r.1⟩,⟨false,tI,r.2.1⟩,⟨false,.bool,r.2.2⟩] []:=
 dB Tryz.func35 rfl λcx J hF=>θ J [] bm (φ (ϰ I (λv2=>up [1,2,4] [(18,bV v2)] [0,1] [] 0) (λv2 I=>Φ I (λah I=>θ J [] bm (by (cases I;exact (Δ (bF (ct bm)))))) λah I=>Θ (bp (bc I JS λy6 ad I=>θ J [oH,(cl ad)] (bQ ad) (φ (θ J [] bm (ο (ϧ J I (λp=>up [2,4,7,25,26] [(27,iV p.1)] [1,2] [(0,.box [iC p.2.1,iC p.2.2.1,.bG gA p.2.2.2.1,nC p.2.2.2.2.1,nC p.2.2.2.2.2.1,iC p.2.2.2.2.2.2.1,iC p.2.2.2.2.2.2.2.1,nC p.2.2.2.2.2.2.2.2.1,.bG (.sl .bool) p.2.2.2.2.2.2.2.2.2.1,iC p.2.2.2.2.2.2.2.2.2.2.1,iC p.2.2.2.2.2.2.2.2.2.2.2.1,.bG gA p.2.2.2.2.2.2.2.2.2.2.2.2.1,nC p.2.2.2.2.2.2.2.2.2.2.2.2.2])] 0) (λj=>(.exit 0,up [2,4,7] [] [1,2] [(0,.box [iC j.1,iC j.2.1,.bG gA j.2.2.1,nC j.2.2.2.1,nC j.2.2.2.2.1,iC j.2.2.2.2.2.1,iC j.2.2.2.2.2.2.1,nC j.2.2.2.2.2.2.2.1,.bG (.sl .bool) j.2.2.2.2.2.2.2.2.1,iC j.2.2.2.2.2.2.2.2.2.1,iC j.2.2.2.2.2.2.2.2.2.2.1,.bG gA j.2.2.2.2.2.2.2.2.2.2.2.1,nC j.2.2.2.2.2.2.2.2.2.2.2.2])] 0)) (λj I=>(bE (bp (bc I E6 λLp T I=>θ J [oH,(cl T)] (bQ T) (by (cases I;exact (Δ (ct bm)))))))) λp Vm o ae=>θ J [] bm (Ϻ o (λaf o=>φ (ο (bg o λU o=>θ J [] (dp U (bS U)) (bc o Kn λXn aa o=>HT.l J [oH,oH,(cl aa)] (bQ aa) (bB (bp (Υ J [] bm λ_ h=>(bM (lN o h))))))))) λaf o=>Ϩ J (bL (bN (ae _ (bw o)))))))))))) λ_ t ag=>bb t (λR t=>Υ J [oH,oH,oH,kT] (bQ R) λ_ h=>(bp (h.ht (ag _ (bt t))))) λR t=>bc t Fl λR7 ab t=>Υ J [oH,oH,oH,kF,oH,(cl ab)] (dp R ab) λ_ h=>(bp (h.ht (ag _ (bt t))))))
def ml (a0:GB):Option (List GB×Bool):=
 (strings_Split a0 ([10]:GB)).bind λj=>
 (show Option (Bool) from
  br (0<=(bW .i64 (bn j) 1)/\(bW .i64 (bn j) 1)<=bn j) (
   bif (decide ((bn a0)<=16000)) then
    br (0<=(bW .i64 (bn j) 1)/\(bW .i64 (bn j) 1)<bn j) (
     some ((ε j (δ (bW .i64 (bn j) 1)) ([]:GB))==([]:GB)))
   else
    some false)).bind λv4=>
 some ((ϛ (δ (bW .i64 (bn j) 1)) j),v4)
theorem Rf {a0}{r}(J:ml a0=some r):CallOK ν 45 [.bZ .str a0] [⟨true,(.sl .str),r.1⟩,⟨false,.bool,r.2⟩] []:=
 dB Tryz.func45 rfl λcx p hF=>θ p [] bm (bc J Bu λj R J=>θ p [oH,(cl R)] (bQ R) (θ p [] bm (ϰ J (λv4=>up [] [(2,aV 0),(3,bV v4)] [] [(0,.seq .str (ϛ (δ (bW .i64 (bn j) 1)) j))] 0) (λv4 J=>by (cases J;exact (Δ (ct bm)))) λ_ o T=>bg o λt o=>bb o (λI o=>bg o λU o=>HT.dl p (nO 6 [kT]) (nZ (JI t) I U (bS U)) (bp (((Le.cv (s:=⟨[(0,0)],[],[0],false⟩) (own:=[]) (ps:=[0=0,ζ (ϛ (δ (bW .i64 (bn j) 1)) j)=δ (bW .i64 (bn j) 1),((ε j (δ (bW .i64 (bn j) 1)) ([]:GB))==([]:GB))=((ε j (δ (bW .i64 (bn j) 1)) ([]:GB))==([]:GB)),(ϛ (δ (bW .i64 (bn j) 1)) j)=ϛ (ζ (ϛ (δ (bW .i64 (bn j) 1)) j)) j]) (st':=⟨[(2,aV 0),(3,bV ((ε j (δ (bW .i64 (bn j) 1)) ([]:GB))==([]:GB)))],[(0,.seq .str (ϛ (δ (bW .i64 (bn j) 1)) j))],1⟩) p.own (λh=>by cases h) (by kernel_rfl) ⟨rfl,(EP t),rfl,(ES _ _),trivial⟩).trans (Le.a p)).ht (T _ (bt o))))) λI o=>HT.dl p (nO 6 [kF]) (dp (JI t) I) (bp (((Le.cv (s:=⟨[(0,0)],[],[0],false⟩) (own:=[]) (ps:=[0=0,ζ (ϛ (δ (bW .i64 (bn j) 1)) j)=δ (bW .i64 (bn j) 1),false=false,(ϛ (δ (bW .i64 (bn j) 1)) j)=ϛ (ζ (ϛ (δ (bW .i64 (bn j) 1)) j)) j]) (st':=⟨[(2,aV 0),(3,bV false)],[(0,.seq .str (ϛ (δ (bW .i64 (bn j) 1)) j))],1⟩) p.own (λh=>by cases h) (by kernel_rfl) ⟨rfl,(EP t),rfl,(ES _ _),trivial⟩).trans (Le.a p)).ht (T _ (bt o)))))))
def ff (p:List GB×Bool)(j:Int×Int×Int×GL×GI×GI×Int×Int×GI×GZ×Int×Int×GL×GI×GB):Option ((Int×Int×Int×GL×GI×GI×Int×Int×GI×GZ×Int×Int×GL×GI×GB)⊕((Int×Int×GL×GI×GI×Int×Int×GI×GZ×Int×Int×GL×GI×GB))):=
 bif (decide (j.1<(bn p.1))) then
  br (0<=j.1/\j.1<bn p.1) (
   (fu ((j.2.1,j.2.2.1,j.2.2.2.1,j.2.2.2.2.1,j.2.2.2.2.2.1),(j.2.2.2.2.2.2.1,j.2.2.2.2.2.2.2.1,j.2.2.2.2.2.2.2.2.1,j.2.2.2.2.2.2.2.2.2.1),(j.2.2.2.2.2.2.2.2.2.2.1,j.2.2.2.2.2.2.2.2.2.2.2.1,j.2.2.2.2.2.2.2.2.2.2.2.2.1),j.2.2.2.2.2.2.2.2.2.2.2.2.2.1) (ε p.1 (δ j.1) ([]:GB))).bind λo=>
   br (ζ o.2+ζ ([10]:GB)<=bD) (
    br (ζ j.2.2.2.2.2.2.2.2.2.2.2.2.2.2+ζ (o.2++([10]:GB))<=bD) (
     some (.inl ((bz .i64 j.1 1),o.1.1.1,o.1.1.2.1,o.1.1.2.2.1,o.1.1.2.2.2.1,o.1.1.2.2.2.2,o.1.2.1.1,o.1.2.1.2.1,o.1.2.1.2.2.1,o.1.2.1.2.2.2,o.1.2.2.1.1,o.1.2.2.1.2.1,o.1.2.2.1.2.2,o.1.2.2.2,(j.2.2.2.2.2.2.2.2.2.2.2.2.2.2++(o.2++([10]:GB))))))))
 else
  some (.inr (j.2.1,j.2.2.1,j.2.2.2.1,j.2.2.2.2.1,j.2.2.2.2.2.1,j.2.2.2.2.2.2.1,j.2.2.2.2.2.2.2.1,j.2.2.2.2.2.2.2.2.1,j.2.2.2.2.2.2.2.2.2.1,j.2.2.2.2.2.2.2.2.2.2.1,j.2.2.2.2.2.2.2.2.2.2.2.1,j.2.2.2.2.2.2.2.2.2.2.2.2.1,j.2.2.2.2.2.2.2.2.2.2.2.2.2.1,j.2.2.2.2.2.2.2.2.2.2.2.2.2.2))
def oB (a0:GM×GP×GG×GI)(a1:GB):Option ((GM×GP×GG×GI)×GB×Bool):=
 (ml a1).bind λr=>
 (show Option (Bool) from
  bif (!r.2) then
   some true
  else
   (eR ((a0.1.1,a0.1.2.1,a0.1.2.2.1,a0.1.2.2.2.1,a0.1.2.2.2.2),(a0.2.1.1,a0.2.1.2.1,a0.2.1.2.2.1,a0.2.1.2.2.2),(a0.2.2.1.1,a0.2.2.1.2.1,a0.2.2.1.2.2),a0.2.2.2)).bind λp=>
   some (!p)).bind λv4=>
 bif v4 then
  some (((0,0,([]:GL),([]:GI),([]:GI)),(0,0,([]:GI),([]:GZ)),(0,0,([]:GL)),([]:GI)),([]:GB),false)
 else
  (rounds (ff r) (0,a0.1.1,a0.1.2.1,a0.1.2.2.1,a0.1.2.2.2.1,a0.1.2.2.2.2,a0.2.1.1,a0.2.1.2.1,a0.2.1.2.2.1,a0.2.1.2.2.2,a0.2.2.1.1,a0.2.2.1.2.1,a0.2.2.1.2.2,a0.2.2.2,([]:GB))).bind λj=>
  (gB ((j.1,j.2.1,j.2.2.1,j.2.2.2.1,j.2.2.2.2.1),(j.2.2.2.2.2.1,j.2.2.2.2.2.2.1,j.2.2.2.2.2.2.2.1,j.2.2.2.2.2.2.2.2.1),(j.2.2.2.2.2.2.2.2.2.1,j.2.2.2.2.2.2.2.2.2.2.1,j.2.2.2.2.2.2.2.2.2.2.2.1),j.2.2.2.2.2.2.2.2.2.2.2.2.1)).bind λo=>
  br (j.2.2.2.2.2.2.2.2.2.2.2.2.2≠([]:GB)) (
   some (((o.1.1,o.1.2.1,o.1.2.2.1,o.1.2.2.2.1,o.1.2.2.2.2),(o.2.1.1,o.2.1.2.1,o.2.1.2.2.1,o.2.1.2.2.2),(o.2.2.1.1,o.2.2.1.2.1,o.2.2.1.2.2),o.2.2.2),j.2.2.2.2.2.2.2.2.2.2.2.2.2,true))
theorem Rg {a0}{a1}{r}(T:oB a0 a1=some r):CallOK ν 14 [.bZ (.st (.pair (.st gM) (.pair (.st gP) (.pair (.st gR) cC)))) a0,.bZ .str a1] [⟨true,(.st (.pair (.st gM) (.pair (.st gP) (.pair (.st gR) cC)))),r.1⟩,⟨false,.str,r.2.1⟩,⟨false,.bool,r.2.2⟩] []:=
 dB Tryz.func14 rfl λcx J hF=>θ J [] bm (bc T Rf λy1 vt T=>θ J [oH,(cl vt)] (bQ vt) (φ (ϰ T (λv4=>up [2,4,7] [(25,bV v4)] [0,1,2] [] 0) (λv4 T=>Φ T (λJ0 T=>θ J [] bm (by (cases T;exact (Δ (bF (ct bm)))))) λJ0 T=>Θ (bp (HT.ex ⟨[(2,pV 0 0),(4,pV 1 0),(7,aV 2),(25,bV v4)],[(0,.box [iC a0.1.1,iC a0.1.2.1,.bG gA a0.1.2.2.1,nC a0.1.2.2.2.1,nC a0.1.2.2.2.2,iC a0.2.1.1,iC a0.2.1.2.1,nC a0.2.1.2.2.1,.bG (.sl .bool) a0.2.1.2.2.2,iC a0.2.2.1.1,iC a0.2.2.1.2.1,.bG gA a0.2.2.1.2.2,nC a0.2.2.2]),(1,.box [iC 0,iC 0,.bH,.bH,.bH,iC 0,iC 0,.bH,.bH,iC 0,iC 0,.bH,.bH]),(2,.seq .str y1.1)],3⟩ J (by (refine φ (HT.rg (RG.W8 5 J rfl rfl rfl rfl rfl rfl rfl rfl rfl (by kernel_rfl) (by kernel_rfl) (by kernel_rfl) (by kernel_rfl) (by kernel_rfl) (RG.j4 [2,4,7,9] [] ⟨[(2,pV 0 0),(4,pV 1 0),(7,aV 2),(9,pV 3 0)],[(3,.pT 93 5 ([]:GB)),(0,.box [iC a0.1.1,iC a0.1.2.1,.bG gA a0.1.2.2.1,nC a0.1.2.2.2.1,nC a0.1.2.2.2.2,iC a0.2.1.1,iC a0.2.1.2.1,nC a0.2.1.2.2.1,.bG (.sl .bool) a0.2.1.2.2.2,iC a0.2.2.1.1,iC a0.2.2.1.2.1,.bG gA a0.2.2.1.2.2,nC a0.2.2.2]),(1,.box [iC 0,iC 0,.bH,.bH,.bH,iC 0,iC 0,.bH,.bH,iC 0,iC 0,.bH,.bH]),(2,.seq .str y1.1)],4⟩ J.P J.N (by kernel_rfl) bm ?_)));exact (φ (θ J [] bm (ο (ϧ J T (λR=>up [2,4,9,28,29] [(30,iV R.1)] [1,2] [(0,.box [iC R.2.1,iC R.2.2.1,.bG gA R.2.2.2.1,nC R.2.2.2.2.1,nC R.2.2.2.2.2.1,iC R.2.2.2.2.2.2.1,iC R.2.2.2.2.2.2.2.1,nC R.2.2.2.2.2.2.2.2.1,.bG (.sl .bool) R.2.2.2.2.2.2.2.2.2.1,iC R.2.2.2.2.2.2.2.2.2.2.1,iC R.2.2.2.2.2.2.2.2.2.2.2.1,.bG gA R.2.2.2.2.2.2.2.2.2.2.2.2.1,nC R.2.2.2.2.2.2.2.2.2.2.2.2.2.1]),(3,.pT 93 5 R.2.2.2.2.2.2.2.2.2.2.2.2.2.2)] 0) (λj=>(.exit 0,up [2,4,9] [] [1] [(0,.box [iC j.1,iC j.2.1,.bG gA j.2.2.1,nC j.2.2.2.1,nC j.2.2.2.2.1,iC j.2.2.2.2.2.1,iC j.2.2.2.2.2.2.1,nC j.2.2.2.2.2.2.2.1,.bG (.sl .bool) j.2.2.2.2.2.2.2.2.1,iC j.2.2.2.2.2.2.2.2.2.1,iC j.2.2.2.2.2.2.2.2.2.2.1,.bG gA j.2.2.2.2.2.2.2.2.2.2.2.1,nC j.2.2.2.2.2.2.2.2.2.2.2.2.1]),(3,.pT 93 5 j.2.2.2.2.2.2.2.2.2.2.2.2.2)] 0)) (λj T=>(bE (bp (bc T E6 λp Ut T=>bg T λYG T=>HT.ex ⟨[(2,pV 0 0),(4,pV 1 0),(9,pV 3 0)],[(0,.box [iC j.1,iC j.2.1,.bG gA j.2.2.1,nC j.2.2.2.1,nC j.2.2.2.2.1,iC j.2.2.2.2.2.1,iC j.2.2.2.2.2.2.1,nC j.2.2.2.2.2.2.2.1,.bG (.sl .bool) j.2.2.2.2.2.2.2.2.1,iC j.2.2.2.2.2.2.2.2.2.1,iC j.2.2.2.2.2.2.2.2.2.2.1,.bG gA j.2.2.2.2.2.2.2.2.2.2.2.1,nC j.2.2.2.2.2.2.2.2.2.2.2.2.1]),(1,.box [iC 0,iC 0,.bH,.bH,.bH,iC 0,iC 0,.bH,.bH,iC 0,iC 0,.bH,.bH]),(3,.pT 93 5 j.2.2.2.2.2.2.2.2.2.2.2.2.2)],4⟩ J (by (refine φ (HT.rg (RG.cut 2 [oH,(cl Ut)] ⟨[(46,.agg [iC p.1.1,iC p.1.2.1,.all 4,.all 5,.all 6,iC p.2.1.1,iC p.2.1.2.1,.all 7,.all 8,iC p.2.2.1.1,iC p.2.2.1.2.1,.all 9,.all 10]),(45,.agg [iC j.1,iC j.2.1,.bG gA j.2.2.1,nC j.2.2.2.1,nC j.2.2.2.2.1,iC j.2.2.2.2.2.1,iC j.2.2.2.2.2.2.1,nC j.2.2.2.2.2.2.2.1,.bG (.sl .bool) j.2.2.2.2.2.2.2.2.1,iC j.2.2.2.2.2.2.2.2.2.1,iC j.2.2.2.2.2.2.2.2.2.2.1,.bG gA j.2.2.2.2.2.2.2.2.2.2.2.1,nC j.2.2.2.2.2.2.2.2.2.2.2.2.1]),(2,pV 0 0),(4,pV 1 0),(9,pV 3 0)],[(4,.seq (.st gQ) p.1.2.2.1),(5,.seq tI p.1.2.2.2.1),(6,.seq tI p.1.2.2.2.2),(7,.seq tI p.2.1.2.2.1),(8,.seq .bool p.2.1.2.2.2),(9,.seq (.st gQ) p.2.2.1.2.2),(10,.seq tI p.2.2.2),(0,.box [iC j.1,iC j.2.1,.bG gA j.2.2.1,nC j.2.2.2.1,nC j.2.2.2.2.1,iC j.2.2.2.2.2.1,iC j.2.2.2.2.2.2.1,nC j.2.2.2.2.2.2.2.1,.bG (.sl .bool) j.2.2.2.2.2.2.2.2.1,iC j.2.2.2.2.2.2.2.2.2.1,iC j.2.2.2.2.2.2.2.2.2.2.1,.bG gA j.2.2.2.2.2.2.2.2.2.2.2.1,nC j.2.2.2.2.2.2.2.2.2.2.2.2.1]),(1,.box [iC 0,iC 0,.bH,.bH,.bH,iC 0,iC 0,.bH,.bH,iC 0,iC 0,.bH,.bH]),(3,.pT 93 5 j.2.2.2.2.2.2.2.2.2.2.2.2.2)],11⟩ J.P J.N (by kernel_rfl) (gH Ut bm) (RG.PM (t:=9) J hF rfl rfl rfl (by kernel_rfl) ⟨rfl,rfl⟩ rfl Xr rfl rfl YG (RG.j4 [4,5,6] [oH,oH,oH] ⟨[(4,pV 1 0),(5,.one (.bG .str j.2.2.2.2.2.2.2.2.2.2.2.2.2)),(6,bV true)],[(1,.box [iC p.1.1,iC p.1.2.1,.all 4,.all 5,.all 6,iC p.2.1.1,iC p.2.1.2.1,.all 7,.all 8,iC p.2.2.1.1,iC p.2.2.1.2.1,.all 9,.all 10]),(3,.gone),(4,.seq (.st gQ) p.1.2.2.1),(5,.seq tI p.1.2.2.2.1),(6,.seq tI p.1.2.2.2.2),(7,.seq tI p.2.1.2.2.1),(8,.seq .bool p.2.1.2.2.2),(9,.seq (.st gQ) p.2.2.1.2.2),(10,.seq tI p.2.2.2),(0,.box [iC j.1,iC j.2.1,.bG gA j.2.2.1,nC j.2.2.2.1,nC j.2.2.2.2.1,iC j.2.2.2.2.2.1,iC j.2.2.2.2.2.2.1,nC j.2.2.2.2.2.2.2.1,.bG (.sl .bool) j.2.2.2.2.2.2.2.2.1,iC j.2.2.2.2.2.2.2.2.2.1,iC j.2.2.2.2.2.2.2.2.2.2.1,.bG gA j.2.2.2.2.2.2.2.2.2.2.2.1,nC j.2.2.2.2.2.2.2.2.2.2.2.2.1]),(1,.box [iC 0,iC 0,.bH,.bH,.bH,iC 0,iC 0,.bH,.bH,iC 0,iC 0,.bH,.bH]),(3,.pT 93 5 j.2.2.2.2.2.2.2.2.2.2.2.2.2)],11⟩ J.P J.N (by kernel_rfl) bm ?_))));exact (by (cases T;exact (Δ (ct bm)))))))))) λR Vg I Q3=>θ J [] bm (Ϻ I (λBv I=>φ (ο (bg I λM4 I=>θ J [] (dp M4 (bS M4)) (bc I Kn λo Uu I=>θ J [oH,oH,(cl Uu)] (bQ Uu) (θ J [] bm (bg I λPU I=>bg I λDx I=>HT.ex ⟨[(2,pV 0 0),(4,pV 1 0),(9,pV 3 0),(13,.one (.bG .str o.2)),(28,aV 2),(29,iV (bn y1.1)),(30,iV R.1)],[(0,.box [iC o.1.1.1,iC o.1.1.2.1,.bG gA o.1.1.2.2.1,nC o.1.1.2.2.2.1,nC o.1.1.2.2.2.2,iC o.1.2.1.1,iC o.1.2.1.2.1,nC o.1.2.1.2.2.1,.bG (.sl .bool) o.1.2.1.2.2.2,iC o.1.2.2.1.1,iC o.1.2.2.1.2.1,.bG gA o.1.2.2.1.2.2,nC o.1.2.2.2]),(1,.box [iC 0,iC 0,.bH,.bH,.bH,iC 0,iC 0,.bH,.bH,iC 0,iC 0,.bH,.bH]),(3,.pT 93 5 R.2.2.2.2.2.2.2.2.2.2.2.2.2.2),(2,.seq .str y1.1)],5⟩ J (HT.WX (λhq=>(RG.cut 2 [oH,oH] ⟨[(42,.one (.bG .str (o.2++([10]:GB)))),(41,.one (.bG .str o.2)),(2,pV 0 0),(4,pV 1 0),(9,pV 3 0),(13,.one (.bG .str o.2)),(28,aV 2),(29,iV (bn y1.1)),(30,iV R.1)],[(0,.box [iC o.1.1.1,iC o.1.1.2.1,.bG gA o.1.1.2.2.1,nC o.1.1.2.2.2.1,nC o.1.1.2.2.2.2,iC o.1.2.1.1,iC o.1.2.1.2.1,nC o.1.2.1.2.2.1,.bG (.sl .bool) o.1.2.1.2.2.2,iC o.1.2.2.1.1,iC o.1.2.2.1.2.1,.bG gA o.1.2.2.1.2.2,nC o.1.2.2.2]),(1,.box [iC 0,iC 0,.bH,.bH,.bH,iC 0,iC 0,.bH,.bH,iC 0,iC 0,.bH,.bH]),(3,.pT 93 5 R.2.2.2.2.2.2.2.2.2.2.2.2.2.2),(2,.seq .str y1.1)],5⟩ J.P J.N (by kernel_rfl) (gH PU bm) (RG.To (t:=9) (s:=(o.2++([10]:GB))) J rfl rfl rfl (by kernel_rfl) ⟨rfl,rfl⟩ rfl Xq rfl rfl rfl rfl (by kernel_rfl) Dx (RG.last [] ⟨[(9,pV 5 0),(43,.dS),(42,.one (.bG .str (o.2++([10]:GB)))),(41,.one (.bG .str o.2)),(2,pV 0 0),(4,pV 1 0),(9,pV 3 0),(13,.one (.bG .str o.2)),(28,aV 2),(29,iV (bn y1.1)),(30,iV R.1)],[(3,.gone),(5,.pT 93 5 (R.2.2.2.2.2.2.2.2.2.2.2.2.2.2++(o.2++([10]:GB)))),(0,.box [iC o.1.1.1,iC o.1.1.2.1,.bG gA o.1.1.2.2.1,nC o.1.1.2.2.2.1,nC o.1.1.2.2.2.2,iC o.1.2.1.1,iC o.1.2.1.2.1,nC o.1.2.1.2.2.1,.bG (.sl .bool) o.1.2.1.2.2.2,iC o.1.2.2.1.1,iC o.1.2.2.1.2.1,.bG gA o.1.2.2.1.2.2,nC o.1.2.2.2]),(1,.box [iC 0,iC 0,.bH,.bH,.bH,iC 0,iC 0,.bH,.bH,iC 0,iC 0,.bH,.bH]),(3,.pT 93 5 R.2.2.2.2.2.2.2.2.2.2.2.2.2.2),(2,.seq .str y1.1)],6⟩ J.P J.N (by kernel_rfl) bm hq)))) (bB (bp (Υ J [] bm λ_ h=>(bM (lN I h)))))))))))) λBv I=>Ϩ J (bL (bN (Q3 _ (bw I)))))))))))))) λ_ U ZM=>bb U (λaa U=>Υ J [oH,oH,kT] (bQ aa) λ_ h=>(bp (h.ht (ZM _ (bt U))))) λaa U=>bc U Fl λZD Uv U=>Υ J [oH,oH,kF,oH,(cl Uv)] (dp aa Uv) λ_ h=>(bp (h.ht (ZM _ (bt U)))))))
def dc (a0:GL)(a1:GL)(j:Int):Option ((Int)⊕(Unit⊕Unit)):=
 bif (decide (j<(bn a0))) then
  br (0<=j/\j<bn a0) (
   br (0<=j/\j<bn a1) (
    bif (!(((ε a0 (δ j) (0,0,0,0)).1==(ε a1 (δ j) (0,0,0,0)).1)&&((((ε a0 (δ j) (0,0,0,0)).2).1==((ε a1 (δ j) (0,0,0,0)).2).1)&&(((((ε a0 (δ j) (0,0,0,0)).2).2).1==(((ε a1 (δ j) (0,0,0,0)).2).2).1)&&(((((ε a0 (δ j) (0,0,0,0)).2).2).2==(((ε a1 (δ j) (0,0,0,0)).2).2).2)&&true))))) then
     some (.inr (.inr ()))
    else
     some (.inl (bz .i64 j 1))))
 else
  some (.inr (.inl ()))
def dq (a0:GL)(a1:GL):Option (Bool):=
 bif ((bn a0) != (bn a1)) then
  some false
 else
  (rounds (dc a0 a1) 0).bind λj=>match j with
   | .inl o=>
    some true
   | .inr p=>
    some false
theorem No {a0}{a1}{r}(p:dq a0 a1=some r):CallOK ν 106 [.bZ gA a0,.bZ gA a1] [⟨false,.bool,r⟩] []:=
 dB Tryz.func106 rfl λcx o hF=>θ o [] bm (φ (θ o [] bm (Φ p (λT p=>θ o [] bm (by (cases p;exact (Δ (bF (ct bm)))))) λT p=>Θ (bp (φ (θ o [] bm (ο (ϧ o p (λs2=>up [0,1,12] [(13,iV s2)] [] [] 0) (λU=>match U with| .inl r4=>(.exit 0,up [] [] [] [] 0)| .inr r5=>(.ret,up [] [(4,bV false)] [] [] 0)) (λU=>match U with| .inl r4=>λp=>(bE (bp (θ o [] bm (by (cases p;exact (Δ (ct bm)))))))| .inr r5=>λp=>by (cases p;exact (bT (bF (ct bm))))) λs2 x6 j t=>θ o [] bm (Ϻ j (λaa j=>φ (ο (θ o [] bm (bg j λI j=>bg j λJ j=>HT.dg o [] (dp I J) (Φ j (λR j=>θ o [] bm (HT.xr o (bT (bF (fp (t _ (bw j))))))) λR j=>Θ (bB (bp (Υ o [] bm λ_ h=>(bM (lN j h)))))))))) λaa j=>Ϩ o (bL (bN (t _ (bw j)))))))))))))
def mV (a0:GM)(a1:GM):Option (Bool):=
 (show Option (Bool) from
  bif (a0.1==a1.1) then
   bif (a0.2.1==a1.2.1) then
    (dq a0.2.2.1 a1.2.2.1).bind λp=>
    bif p then
     (cm a0.2.2.2.1 a1.2.2.2.1).bind λj=>
     bif j then
      (cm a0.2.2.2.2 a1.2.2.2.2).bind λo=>
      some o
     else
      some false
    else
     some false
   else
    some false
  else
   some false).bind λr=>
 some r
theorem Rh {a0}{a1}{r}(hr:mV a0 a1=some r):CallOK ν 69 [.bZ (.st gM) a0,.bZ (.st gM) a1] [⟨false,.bool,r⟩] []:=
 dB Tryz.func69 rfl λcx hX hF=>θ hX [] bm (ϰ hr (λv2=>up [] [(4,bV v2)] [] [] 0) (λv2 hr=>by (cases hr;exact (Δ (ct bm)))) λ_ j I=>bb j (λp j=>bb j (λJ j=>bc j No λy7 t j=>bb j (λT j=>bc j yD λQc o j=>bb j (λR j=>bc j yD λVf U j=>Υ hX (nO 5 [kT,oH,oH,oH,oH,oH,oH,kT,oH,oH,oH,oH,(cl t),oH,kT,oH,oH,oH,oH,(cl o),oH,kT,oH,oH,oH,oH,(cl U)]) (lF p J t T (ll o R U)) λ_ h=>(bp (h.ht (I _ (bt j))))) λR j=>Υ hX (nO 5 [kT,oH,oH,oH,oH,oH,oH,kT,oH,oH,oH,oH,(cl t),oH,kT,oH,oH,oH,oH,(cl o),oH,kF]) (lF p J t T (dp o R)) λ_ h=>(bp (h.ht (I _ (bt j))))) λT j=>Υ hX (nO 5 [kT,oH,oH,oH,oH,oH,oH,kT,oH,oH,oH,oH,(cl t),oH,kF]) (nZ p J t T) λ_ h=>(bp (h.ht (I _ (bt j))))) λJ j=>Υ hX (nO 5 [kT,oH,oH,oH,oH,oH,oH,kF]) (dp p J) λ_ h=>(bp (h.ht (I _ (bt j))))) λp j=>Υ hX (nO 5 [kF]) (bQ p) λ_ h=>(bp (h.ht (I _ (bt j)))))
def dO (a0:GZ)(a1:GZ)(j:Int):Option ((Int)⊕(Unit⊕Unit)):=
 bif (decide (j<(bn a0))) then
  br (0<=j/\j<bn a0) (
   br (0<=j/\j<bn a1) (
    bif ((ε a0 (δ j) false) != (ε a1 (δ j) false)) then
     some (.inr (.inr ()))
    else
     some (.inl (bz .i64 j 1))))
 else
  some (.inr (.inl ()))
def eL (a0:GZ)(a1:GZ):Option (Bool):=
 bif ((bn a0) != (bn a1)) then
  some false
 else
  (rounds (dO a0 a1) 0).bind λj=>match j with
   | .inl o=>
    some true
   | .inr p=>
    some false
theorem Np {a0}{a1}{r}(p:eL a0 a1=some r):CallOK ν 107 [.bZ (.sl .bool) a0,.bZ (.sl .bool) a1] [⟨false,.bool,r⟩] []:=
 dB Tryz.func107 rfl λcx o hF=>θ o [] bm (φ (θ o [] bm (Φ p (λT p=>θ o [] bm (by (cases p;exact (Δ (bF (ct bm)))))) λT p=>Θ (bp (φ (θ o [] bm (ο (ϧ o p (λs2=>up [0,1,12] [(13,iV s2)] [] [] 0) (λU=>match U with| .inl r4=>(.exit 0,up [] [] [] [] 0)| .inr r5=>(.ret,up [] [(4,bV false)] [] [] 0)) (λU=>match U with| .inl r4=>λp=>(bE (bp (θ o [] bm (by (cases p;exact (Δ (ct bm)))))))| .inr r5=>λp=>by (cases p;exact (bT (bF (ct bm))))) λs2 x6 j t=>θ o [] bm (Ϻ j (λaa j=>φ (ο (θ o [] bm (bg j λI j=>bg j λJ j=>HT.dg o [] (dp I J) (Φ j (λR j=>θ o [] bm (HT.xr o (bT (bF (fp (t _ (bw j))))))) λR j=>Θ (bB (bp (Υ o [] bm λ_ h=>(bM (lN j h)))))))))) λaa j=>Ϩ o (bL (bN (t _ (bw j)))))))))))))
def pd (a0:GP)(a1:GP):Option (Bool):=
 (show Option (Bool) from
  bif (a0.1==a1.1) then
   bif (a0.2.1==a1.2.1) then
    (cm a0.2.2.1 a1.2.2.1).bind λo=>
    bif o then
     (eL a0.2.2.2 a1.2.2.2).bind λj=>
     some j
    else
     some false
   else
    some false
  else
   some false).bind λp=>
 some p
theorem Ri {a0}{a1}{r}(U:pd a0 a1=some r):CallOK ν 70 [.bZ (.st gP) a0,.bZ (.st gP) a1] [⟨false,.bool,r⟩] []:=
 dB Tryz.func70 rfl λcx T hF=>θ T [] bm (ϰ U (λv2=>up [] [(4,bV v2)] [] [] 0) (λv2 U=>by (cases U;exact (Δ (ct bm)))) λ_ j p=>bb j (λo j=>bb j (λt j=>bc j yD λy7 I j=>bb j (λR j=>bc j Np λQc J j=>Υ T (nO 5 [kT,oH,oH,oH,oH,oH,oH,kT,oH,oH,oH,oH,(cl I),oH,kT,oH,oH,oH,oH,(cl J)]) (lF o t I R (bQ J)) λ_ h=>(bp (h.ht (p _ (bt j))))) λR j=>Υ T (nO 5 [kT,oH,oH,oH,oH,oH,oH,kT,oH,oH,oH,oH,(cl I),oH,kF]) (nZ o t I R) λ_ h=>(bp (h.ht (p _ (bt j))))) λt j=>Υ T (nO 5 [kT,oH,oH,oH,oH,oH,oH,kF]) (dp o t) λ_ h=>(bp (h.ht (p _ (bt j))))) λo j=>Υ T (nO 5 [kF]) (bQ o) λ_ h=>(bp (h.ht (p _ (bt j)))))
def cW (a0:GL)(a1:GL)(j:Int):Option ((Int)⊕(Unit⊕Unit)):=
 bif (decide (j<(bn a0))) then
  br (0<=j/\j<bn a0) (
   br (0<=j/\j<bn a1) (
    bif (!(((ε a0 (δ j) (0,0,0,0)).1==(ε a1 (δ j) (0,0,0,0)).1)&&((((ε a0 (δ j) (0,0,0,0)).2).1==((ε a1 (δ j) (0,0,0,0)).2).1)&&(((((ε a0 (δ j) (0,0,0,0)).2).2).1==(((ε a1 (δ j) (0,0,0,0)).2).2).1)&&(((((ε a0 (δ j) (0,0,0,0)).2).2).2==(((ε a1 (δ j) (0,0,0,0)).2).2).2)&&true))))) then
     some (.inr (.inr ()))
    else
     some (.inl (bz .i64 j 1))))
 else
  some (.inr (.inl ()))
def dh (a0:GL)(a1:GL):Option (Bool):=
 bif ((bn a0) != (bn a1)) then
  some false
 else
  (rounds (cW a0 a1) 0).bind λj=>match j with
   | .inl o=>
    some true
   | .inr p=>
    some false
theorem Nq {a0}{a1}{r}(p:dh a0 a1=some r):CallOK ν 108 [.bZ gA a0,.bZ gA a1] [⟨false,.bool,r⟩] []:=
 dB Tryz.func108 rfl λcx o hF=>θ o [] bm (φ (θ o [] bm (Φ p (λT p=>θ o [] bm (by (cases p;exact (Δ (bF (ct bm)))))) λT p=>Θ (bp (φ (θ o [] bm (ο (ϧ o p (λs2=>up [0,1,12] [(13,iV s2)] [] [] 0) (λU=>match U with| .inl r4=>(.exit 0,up [] [] [] [] 0)| .inr r5=>(.ret,up [] [(4,bV false)] [] [] 0)) (λU=>match U with| .inl r4=>λp=>(bE (bp (θ o [] bm (by (cases p;exact (Δ (ct bm)))))))| .inr r5=>λp=>by (cases p;exact (bT (bF (ct bm))))) λs2 x6 j t=>θ o [] bm (Ϻ j (λaa j=>φ (ο (θ o [] bm (bg j λI j=>bg j λJ j=>HT.dg o [] (dp I J) (Φ j (λR j=>θ o [] bm (HT.xr o (bT (bF (fp (t _ (bw j))))))) λR j=>Θ (bB (bp (Υ o [] bm λ_ h=>(bM (lN j h)))))))))) λaa j=>Ϩ o (bL (bN (t _ (bw j)))))))))))))
def mW (a0:GG)(a1:GG):Option (Bool):=
 (show Option (Bool) from
  bif (a0.1==a1.1) then
   bif (a0.2.1==a1.2.1) then
    (dh a0.2.2 a1.2.2).bind λj=>
    some j
   else
    some false
  else
   some false).bind λo=>
 some o
theorem Rj {a0}{a1}{r}(R:mW a0 a1=some r):CallOK ν 71 [.bZ (.st gR) a0,.bZ (.st gR) a1] [⟨false,.bool,r⟩] []:=
 dB Tryz.func71 rfl λcx J U=>θ J [] bm (ϰ R (λT=>up [] [(4,bV T)] [] [] 0) (λT R=>by (cases R;exact (Δ (ct bm)))) λ_ j p=>bb j (λo j=>bb j (λt j=>bc j Nq λy7 I j=>Υ J (nO 5 [kT,oH,oH,oH,oH,oH,oH,kT,oH,oH,oH,oH,(cl I)]) (ll o t I) λ_ h=>(bp (h.ht (p _ (bt j))))) λt j=>Υ J (nO 5 [kT,oH,oH,oH,oH,oH,oH,kF]) (dp o t) λ_ h=>(bp (h.ht (p _ (bt j))))) λo j=>Υ J (nO 5 [kF]) (bQ o) λ_ h=>(bp (h.ht (p _ (bt j)))))
def np (a0:GM×GP×GG×GI)(a1:GM×GP×GG×GI):Option (Bool):=
 (show Option (Bool) from
  (mV (a0.1.1,a0.1.2.1,a0.1.2.2.1,a0.1.2.2.2.1,a0.1.2.2.2.2) (a1.1.1,a1.1.2.1,a1.1.2.2.1,a1.1.2.2.2.1,a1.1.2.2.2.2)).bind λp=>
  bif p then
   (pd (a0.2.1.1,a0.2.1.2.1,a0.2.1.2.2.1,a0.2.1.2.2.2) (a1.2.1.1,a1.2.1.2.1,a1.2.1.2.2.1,a1.2.1.2.2.2)).bind λr=>
   bif r then
    (mW (a0.2.2.1.1,a0.2.2.1.2.1,a0.2.2.1.2.2) (a1.2.2.1.1,a1.2.2.1.2.1,a1.2.2.1.2.2)).bind λj=>
    bif j then
     (cm a0.2.2.2 a1.2.2.2).bind λo=>
     some o
    else
     some false
   else
    some false
  else
   some false).bind λt=>
 some t
theorem Rk {a0}{a1}{r}(hr:np a0 a1=some r):CallOK ν 26 [.bZ (.st (.pair (.st gM) (.pair (.st gP) (.pair (.st gR) cC)))) a0,.bZ (.st (.pair (.st gM) (.pair (.st gP) (.pair (.st gR) cC)))) a1] [⟨false,.bool,r⟩] []:=
 dB Tryz.func26 rfl λcx hX hF=>θ hX [] bm (ϰ hr (λv2=>up [] [(4,bV v2)] [] [] 0) (λv2 hr=>by (cases hr;exact (Δ (ct bm)))) λ_ j T=>bc j Rh λy5 o j=>bb j (λJ j=>bc j Ri λy8 I j=>bb j (λp j=>bc j Rj λLp t j=>bb j (λR j=>bc j yD λRX U j=>Υ hX (nO 4 [(cl o),kT,oH,oH,oH,oH,(cl I),oH,kT,oH,oH,oH,oH,(cl t),oH,kT,oH,oH,oH,oH,(cl U)]) (lF o J I p (ll t R U)) λ_ h=>(bp (h.ht (T _ (bt j))))) λR j=>Υ hX (nO 4 [(cl o),kT,oH,oH,oH,oH,(cl I),oH,kT,oH,oH,oH,oH,(cl t),oH,kF]) (lF o J I p (dp t R)) λ_ h=>(bp (h.ht (T _ (bt j))))) λp j=>Υ hX (nO 4 [(cl o),kT,oH,oH,oH,oH,(cl I),oH,kF]) (nZ o J I p) λ_ h=>(bp (h.ht (T _ (bt j))))) λJ j=>Υ hX (nO 4 [(cl o),kF]) (dp o J) λ_ h=>(bp (h.ht (T _ (bt j)))))
def gx (o:List GB)(j:GB×Int):Option ((GB×Int)⊕GB):=
 bif (decide (j.2<(bn o))) then
  br (0<=j.2/\j.2<bn o) (
   br (ζ (ε o (δ j.2) ([]:GB))+ζ ([10]:GB)<=bD) (
    br (ζ j.1+ζ ((ε o (δ j.2) ([]:GB))++([10]:GB))<=bD) (
     some (.inl ((j.1++((ε o (δ j.2) ([]:GB))++([10]:GB))),(bz .i64 j.2 1))))))
 else
  some (.inr j.1)
def mn (a0:GI)(a1:GI):Option (Bool):=
 (rO a0 a1).bind λy1=>
 bif y1 then
  some true
 else
  (ow a0).bind λy4=>
  (eP y4).bind λj=>
  (show Option (Bool) from
   bif (!j.2) then
    some true
   else
    some ((bn j.1)==0)).bind λv9=>
  bif v9 then
   some false
  else
   (oK a1 0 256).bind λo=>
   (oK a1 1 256).bind λp=>
   br ((bz .i64 (bn j.1) 1)≠0) (
    br (0<=(aac (bz .i64 (dX .i64 256 o) p) (bz .i64 (bn j.1) 1))/\(aac (bz .i64 (dX .i64 256 o) p) (bz .i64 (bn j.1) 1))<=bn j.1) (
     (fh (cut j.1 0 (aac (bz .i64 (dX .i64 256 o) p) (bz .i64 (bn j.1) 1)))).bind λR=>
     (eP R.1).bind λR7=>
     (show Option (Bool) from
      bif (!R.2.2) then
       some true
      else
       bif (!R7.2) then
        some true
       else
        bif (decide (R.2.1>(aac (bz .i64 (dX .i64 256 o) p) (bz .i64 (bn j.1) 1)))) then
         some true
        else
         br (0<=R.2.1/\R.2.1<=bn j.1) (
          bif (R7.1 != (cut j.1 0 R.2.1)) then
           some true
          else
           some (decide ((bn R.1)>(bn y4))))).bind λv24=>
     bif v24 then
      some false
     else
      (show Option (Unit⊕(Bool)) from
       bif (decide ((bn R.1)<(bn y4))) then
        br (0<=(bz .i64 (bn R.1) 1)/\(bz .i64 (bn R.1) 1)<=bn y4) (
         (eP (ϛ (δ (bz .i64 (bn R.1) 1)) (List.drop 0 y4))).bind λYH=>
         (show Option (Bool) from
          bif (!YH.2) then
           some true
          else
           some (decide ((bn YH.1)<=(aac (bz .i64 (dX .i64 256 o) p) (bz .i64 (bn j.1) 1))))).bind λv88=>
         bif v88 then
          sX (some false)
         else
          some (.inl ()))
       else
        some (.inl ())).bind λw32=>match w32 with
       | .inl MJ=>
        (ox).bind λI=>
        (kI ((I.1.1,I.1.2.1,I.1.2.2.1,I.1.2.2.2.1,I.1.2.2.2.2),(I.2.1.1,I.2.1.2.1,I.2.1.2.2.1,I.2.1.2.2.2),(I.2.2.1.1,I.2.2.1.2.1,I.2.2.1.2.2),I.2.2.2) j.1).bind λr=>
        (rounds (gx y4) (([]:GB),0)).bind λr40=>
        (ox).bind λJ=>
        (oB ((J.1.1,J.1.2.1,J.1.2.2.1,J.1.2.2.2.1,J.1.2.2.2.2),(J.2.1.1,J.2.1.2.1,J.2.1.2.2.1,J.2.1.2.2.2),(J.2.2.1.1,J.2.2.1.2.1,J.2.2.1.2.2),J.2.2.2) r40).bind λt=>
        (show Option (Bool) from
         bif (!r.2.2) then
          some true
         else
          bif (!t.2.2) then
           some true
          else
           bif (r.2.1 != (bn y4)) then
            some true
           else
            (np ((r.1.1.1,r.1.1.2.1,r.1.1.2.2.1,r.1.1.2.2.2.1,r.1.1.2.2.2.2),(r.1.2.1.1,r.1.2.1.2.1,r.1.2.1.2.2.1,r.1.2.1.2.2.2),(r.1.2.2.1.1,r.1.2.2.1.2.1,r.1.2.2.1.2.2),r.1.2.2.2) ((t.1.1.1,t.1.1.2.1,t.1.1.2.2.1,t.1.1.2.2.2.1,t.1.1.2.2.2.2),(t.1.2.1.1,t.1.2.1.2.1,t.1.2.1.2.2.1,t.1.2.1.2.2.2),(t.1.2.2.1.1,t.1.2.2.1.2.1,t.1.2.2.1.2.2),t.1.2.2.2)).bind λZN=>
            some (!ZN)).bind λv46=>
        bif v46 then
         some false
        else
         bif ((aac (bz .i64 (dX .i64 256 o) p) (bz .i64 (bn j.1) 1))==(bn j.1)) then
          some (R.2.1==(bn j.1))
         else
          br (0<=(aac (bz .i64 (dX .i64 256 o) p) (bz .i64 (bn j.1) 1))/\(aac (bz .i64 (dX .i64 256 o) p) (bz .i64 (bn j.1) 1))<bn j.1) (
           (oK a1 2 255).bind λUw=>
           br (ζ (cut j.1 0 (aac (bz .i64 (dX .i64 256 o) p) (bz .i64 (bn j.1) 1)))+ζ (gy ([(Ρ .u8 (Ϙ (Ϗ .u8) ((((ε j.1 (δ (aac (bz .i64 (dX .i64 256 o) p) (bz .i64 (bn j.1) 1))) 0:UInt8).toNat:Nat)):Int)^^^Ϙ (Ϗ .u8) (Ρ .u8 (bz .i64 1 Uw))).toNat)]:GI))<=bD) (
            br (0<=(bz .i64 (aac (bz .i64 (dX .i64 256 o) p) (bz .i64 (bn j.1) 1)) 1)/\(bz .i64 (aac (bz .i64 (dX .i64 256 o) p) (bz .i64 (bn j.1) 1)) 1)<=bn j.1) (
             br (ζ ((cut j.1 0 (aac (bz .i64 (dX .i64 256 o) p) (bz .i64 (bn j.1) 1)))++(gy ([(Ρ .u8 (Ϙ (Ϗ .u8) ((((ε j.1 (δ (aac (bz .i64 (dX .i64 256 o) p) (bz .i64 (bn j.1) 1))) 0:UInt8).toNat:Nat)):Int)^^^Ϙ (Ϗ .u8) (Ρ .u8 (bz .i64 1 Uw))).toNat)]:GI)))+ζ (cut j.1 (bz .i64 (aac (bz .i64 (dX .i64 256 o) p) (bz .i64 (bn j.1) 1)) 1) (bn j.1))<=bD) (
              (some (((cut j.1 0 (aac (bz .i64 (dX .i64 256 o) p) (bz .i64 (bn j.1) 1)))++(gy ([(Ρ .u8 (Ϙ (Ϗ .u8) ((((ε j.1 (δ (aac (bz .i64 (dX .i64 256 o) p) (bz .i64 (bn j.1) 1))) 0:UInt8).toNat:Nat)):Int)^^^Ϙ (Ϗ .u8) (Ρ .u8 (bz .i64 1 Uw))).toNat)]:GI)))++(cut j.1 (bz .i64 (aac (bz .i64 (dX .i64 256 o) p) (bz .i64 (bn j.1) 1)) 1) (bn j.1)))).bind λU=>
              (fh U).bind λT=>
              (eP T.1).bind λVq=>
              (show Option (Bool) from
               bif T.2.2 then
                bif Vq.2 then
                 bif (decide (T.2.1<=(bn U))) then
                  br (0<=T.2.1/\T.2.1<=bn U) (
                   some (Vq.1==(cut U 0 T.2.1)))
                 else
                  some false
                else
                 some false
               else
                some false).bind λv64=>
              some v64))))
       | .inr z=>some z))
theorem f5_ok {a0}{a1}{r}(j:mn a0 a1=some r):CallOK ν 5 [.bZ (.sl (.int .u8)) a0,.bZ (.sl (.int .u8)) a1] [⟨false,.bool,r⟩] []:=
 dB Tryz.func5 rfl λcx p hF=>θ p [] bm (φ (bc j TE λy1 aN j=>θ p [oH,oH,(cl aN)] (bQ aN) (Φ j (λbk j=>θ p [] bm (by (cases j;exact (Δ (bF (ct bm)))))) λbk j=>Θ (bp (bc j P4 λy4 aO j=>θ p [oH,(cl aO)] (bQ aO) (bc j Br λy6 aP j=>θ p [oH,(cl aP)] (bQ aP) (φ (ϰ j (λv9=>up [1,5,6] [(47,bV v9)] [0] [] 0) (λv9 j=>Φ j (λaQ j=>θ p [] bm (by (cases j;exact (Δ (bF (ct bm)))))) λaQ j=>Θ (bp (θ p [] bm (bc j E4 λVf au j=>bc j E4 λRY av j=>bg j λaR j=>θ p [oH,(cl au),oH,oH,(cl av)] (ll au av aR) (bg j λaw j=>bc j JT λTF ax j=>θ p [oH,oH,oH,(cl ax)] (dp (JI aw) ax) (bc j Br λR7 ay j=>θ p [oH,(cl ay)] (bQ ay) (φ (ϰ j (λaS=>up [1,5,6,8,9,10,11] [(96,bV aS)] [0,1] [] 0) (λaS j=>Φ j (λaT j=>θ p [] bm (by (cases j;exact (Δ (bF (ct bm)))))) λaT j=>Θ (bp (HT.jo j (λ_=>rfl) (λbl=>up [1,5,6,8,9,11] [] [0] [] 0) (λbl j=>bc j JU λXA az j=>bc j Re λZG aA j=>θ p [(cl az),oH,(cl aA)] (dp az aA) (θ p [] bm (φ (θ p [] bm (ο (ϧ p j (λaM=>up [1,5,6,8,9,11,17,18,19] [(20,.one (.bG .str aM.1)),(21,iV aM.2)] [0,16,9,10,11,12,13,14,15] [] 0) (λaU=>(.exit 0,up [1,5,6,8,9,11,17,18,19] [(20,.one (.bG .str aU))] [0,16,9,10,11,12,13,14,15] [] 0)) (λaU j=>(bE (bp (bc j JU λPX aB j=>bc j Rg λy43 aC j=>θ p [(cl aB),oH,(cl aC)] (dp aB aC) (φ (ϰ j (λaW=>up [1,6,8,9,11] [(163,bV aW)] [] [] 0) (λaW j=>Φ j (λaX j=>θ p [] bm (by (cases j;exact (Δ (bF (ct bm)))))) λaX j=>Θ (bp (φ (θ p [] bm (Φ j (λaY j=>θ p [] bm (by (cases j;exact (Δ (bF (ct bm)))))) λaY j=>Θ (bp (bg j λaZ j=>bc j E4 λUw aD j=>bg j λa2 j=>bg j λa3 j=>bg j λa4 j=>HT.dg p (nO 7 [(cl aD),oH,oH,oH,(hT (.int .u8))]) (lF (JI aw) aZ aD a2 (dp (PO a3) a4)) (bq j λj=>bc j JT λYC aE j=>θ p [oH,(cl aE)] (bQ aE) (bc j Br λVq aF j=>θ p [oH,(cl aF)] (bQ aF) (ϰ j (λa5=>up [] [(4,bV a5)] [] [] 0) (λa5 j=>by (cases j;exact (Δ (ct bm)))) λ_ t ai=>bb t (λU t=>bb t (λaj t=>bb t (λao t=>bg t λa6 t=>Υ p [oH,kT,oH,oH,kT,oH,oH,oH,oH,oH,kT] (nZ U aj ao (JI a6)) λ_ h=>(bp (h.ht (ai _ (bt t))))) λao t=>Υ p [oH,kT,oH,oH,kT,oH,oH,oH,oH,oH,kF] (ll U aj ao) λ_ h=>(bp (h.ht (ai _ (bt t))))) λaj t=>Υ p [oH,kT,oH,oH,kF] (dp U aj) λ_ h=>(bp (h.ht (ai _ (bt t))))) λU t=>Υ p [oH,kF] (bQ U) λ_ h=>(bp (h.ht (ai _ (bt t)))))))))))))) λ_ I ak=>bb I (λaa I=>Υ p [oH,oH,kT] (bQ aa) λ_ h=>(bp (h.ht (ak _ (bt I))))) λaa I=>bb I (λal I=>Υ p [oH,oH,kF,oH,oH,oH,kT] (dp aa al) λ_ h=>(bp (h.ht (ak _ (bt I))))) λal I=>bb I (λaq I=>Υ p [oH,oH,kF,oH,oH,oH,kF,oH,oH,oH,oH,oH,kT] (ll aa al aq) λ_ h=>(bp (h.ht (ak _ (bt I))))) λaq I=>bc I Rk λZN aG I=>Υ p [oH,oH,kF,oH,oH,oH,kF,oH,oH,oH,oH,oH,kF,oH,oH,(cl aG)] (nZ aa al aq aG) λ_ h=>(bp (h.ht (ak _ (bt I)))))))))) λaM x76 R a7=>φ (θ p [] bm (Φ R (λa8 R=>Θ (bp (φ (ο (bg R λaH R=>bg R λa9 R=>bg R λba R=>HT.l p [] (nZ aH (bS aH) a9 ba) (bB (bp (Υ p [] bm λ_ h=>(bM (lN R h)))))))))) λa8 R=>Ϩ p (bL (bN (a7 _ (bw R)))))))))))) λ_ J bd aI=>θ p [] bm (Φ J (λbe J=>bg J λbf J=>bc J Br λYH aJ J=>θ p (nO 5 [(cl aJ)]) (dp (JI bf) aJ) (ϰ J (λbh=>up [1,5,6,8,9,11] [(118,bV bh)] [0] [] 0) (λbh J=>Φ J (λbi J=>θ p [] bm (have j:=bd J;by (cases j;exact (Δ (bF (ct bm)))))) λbi J=>Θ (bp (HT.re p (aI _ (bw J))))) λ_ ab aK=>bb ab (λar ab=>Υ p [oH,oH,kT] (bQ ar) λ_ h=>(bp (h.ht (aK _ (bt ab))))) λar ab=>Υ p [oH,oH,kF] (bQ ar) λ_ h=>(bp (h.ht (aK _ (bt ab)))))) λbe J=>Θ (bp (HT.re p (aI _ (bw J)))))))) λ_ o ad=>bb o (λT o=>Υ p [oH,oH,kT] (bQ T) λ_ h=>(bp (h.ht (ad _ (bt o))))) λT o=>bb o (λae o=>Υ p [oH,oH,kF,oH,oH,oH,kT] (dp T ae) λ_ h=>(bp (h.ht (ad _ (bt o))))) λae o=>bb o (λan o=>Υ p [oH,oH,kF,oH,oH,oH,kF,oH,oH,oH,oH,kT] (ll T ae an) λ_ h=>(bp (h.ht (ad _ (bt o))))) λan o=>bg o λaL o=>bb o (λag o=>Υ p [oH,oH,kF,oH,oH,oH,kF,oH,oH,oH,oH,kF,oH,oH,oH,oH,oH,oH,kT] (lF T ae an (JI aL) (bQ ag)) λ_ h=>(bp (h.ht (ad _ (bt o))))) λag o=>Υ p [oH,oH,kF,oH,oH,oH,kF,oH,oH,oH,oH,kF,oH,oH,oH,oH,oH,oH,kF] (lF T ae an (JI aL) (bQ ag)) λ_ h=>(bp (h.ht (ad _ (bt o)))))))))))) λ_ af bj=>bb af (λah af=>Υ p [oH,oH,kT] (bQ ah) λ_ h=>(bp (h.ht (bj _ (bt af))))) λah af=>Υ p [oH,oH,kF] (bQ ah) λ_ h=>(bp (h.ht (bj _ (bt af))))))))))))
end
end Go.Proofs
