import Derived.Test.YtjnkhcgmgkhnaaaGreatDoorJournalGenD
import Derived.Test.YtjnkhcgmgkhnaaaGreatDoorProg
set_option linter.all false
open Go.Ide.CallOK renaming rn→ϱ
open Go.Ide.HT renaming g→θ,block→ο,seq→φ,ret→Δ,skip→Θ,k→Υ,cb→Φ,lp→ϧ,xe→Ϩ,jn→ϰ,cj→Ϻ,l→Μ
open Go.Proofs.Tryz renaming prog→ν
open Int renaming toNat→δ
open List renaming getD→ε,length→ζ,length_map→Ϝ
open Nat renaming zero_lt_one→Ξ
namespace Go.Proofs
open Go.Ide
noncomputable section
def jg (a0:Int)(a2:GI×GP×GI)(s1:Int×(List (Int×Int))×GI×GI×GZ)(j:Int×(List (Int×Int))×GI×GI):Option ((Int×(List (Int×Int))×GI×GI)⊕(((List (Int×Int))×GI×GI))):=
 bif (decide (j.1<a0)) then
  (ju (ε s1.2.2.1 (δ s1.1) 0) j.1 a2.1 (a2.2.1.1,a2.2.1.2.1,a2.2.1.2.2.1,a2.2.1.2.2.2) a2.2.2).bind λo=>
  (show Option (Int×(List (Int×Int))×GI) from
   bif (!((cr (t:=tI) (u:=tI) j.2.1 o).isSome)) then
    br (cr (t:=tI) (u:=tI) j.2.1 o=none) (
     br (ζ j.2.2.1+ζ ([o]:GI)<=bD) (
      some ((bn j.2.2.1),(j.2.1++[(o,(bn j.2.2.1))]),(j.2.2.1++([o]:GI)))))
   else
    some (((cr (t:=tI) (u:=tI) j.2.1 o).getD 0),j.2.1,j.2.2.1)).bind λp=>
  br (ζ j.2.2.2+ζ ([p.1]:GI)<=bD) (
   some (.inl ((bz .i64 j.1 1),p.2.1,p.2.2,(j.2.2.2++([p.1]:GI)))))
 else
  some (.inr (j.2.1,j.2.2.1,j.2.2.2))
def jh (a0:Int)(a2:GI×GP×GI)(a3:GP×GI)(s1:Int×(List (Int×Int))×GI×GI×GZ):Option ((Int×(List (Int×Int))×GI×GI×GZ)⊕((GI×GI×GZ)⊕Unit)):=
 bif (decide (s1.1<(bn s1.2.2.1))) then
  br (0<=s1.1/\s1.1<bn s1.2.2.1) (
   (jt (ε s1.2.2.1 (δ s1.1) 0) (a3.1.1,a3.1.2.1,a3.1.2.2.1,a3.1.2.2.2) a3.2).bind λo=>
   br (ζ s1.2.2.2.2+ζ ([o]:GZ)<=bD) (
    (rounds (jg a0 a2 s1) (0,s1.2.1,s1.2.2.1,s1.2.2.2.1)).bind λj=>
    bif (decide ((bn j.2.1)>64)) then
     some (.inr (.inr ()))
    else
     some (.inl ((bz .i64 s1.1 1),j.1,j.2.1,j.2.2,(s1.2.2.2.2++([o]:GZ))))))
 else
  some (.inr (.inl (s1.2.2.1,s1.2.2.2.1,s1.2.2.2.2)))
def fH (a0:Int)(a1:Int)(a2:GI×GP×GI)(a3:GP×GI):Option (GP×Bool):=
 (rounds (jh a0 a2 a3) (0,(([]:List (Int×Int))++[(a1,0)]),([a1]:GI),([]:GI),([]:GZ))).bind λo=>match o with
  | .inl j=>
   some (((bn j.1),a0,j.2.1,j.2.2),true)
  | .inr p=>
   some ((0,0,([]:GI),([]:GZ)),false)
theorem Qv {a0}{a1}{a2}{a3}{r}(hr:fH a0 a1 a2 a3=some r):CallOK ν 65 [.bZ tI a0,.bZ tI a1,.bZ (.cl 64 (.pair cC (.pair (.st gP) (.cl 62 cC)))) a2,.bZ (.cl 66 (.pair (.st gP) (.cl 62 cC))) a3] [⟨true,(.st gP),r.1⟩,⟨false,.bool,r.2⟩] []:=
 dB Tryz.func65 rfl λcx o hF=>θ o [] bm (θ o [] bm (HT.ex ⟨[(0,iV a0),(1,iV a1),(2,.one (.bG (.cl 64 (.pair cC (.pair (.st gP) (.cl 62 cC)))) a2)),(3,.one (.bG (.cl 66 (.pair (.st gP) (.cl 62 cC))) a3)),(8,pV 0 0),(10,pV 1 0)],[(1,.box [iC 0,iC a0,.bH,.bH]),(0,.box [iC 0,iC 0,.bH,.bH])],2⟩ o (by (refine φ (HT.rg (RG.makeMap tI tI o rfl rfl rfl (by kernel_rfl) (by kernel_rfl) (RG.cut 1 [oH] ⟨[(22,iV a1),(21,.one (.fP 2)),(0,iV a0),(1,iV a1),(2,.one (.bG (.cl 64 (.pair cC (.pair (.st gP) (.cl 62 cC)))) a2)),(3,.one (.bG (.cl 66 (.pair (.st gP) (.cl 62 cC))) a3)),(8,pV 0 0),(10,pV 1 0)],[(2,.mp tI tI ([]:List (Int×Int))),(1,.box [iC 0,iC a0,.bH,.bH]),(0,.box [iC 0,iC 0,.bH,.bH])],3⟩ o.P o.N (by kernel_rfl) bm (RG.qS (t:=tI) (u:=tI) (x:=a1) (y:=0) o (.inr rfl) rfl rfl (K:=2) (E:=2) (by kernel_rfl) Qr rfl rfl rfl rfl rfl rfl rfl (show cr (t:=tI) (u:=tI) ([]:List (Int×Int)) a1=none from rfl) (RG.j4 [0,1,2,3,8,10,11] [oH,oH] ⟨[(0,iV a0),(1,iV a1),(2,.one (.bG (.cl 64 (.pair cC (.pair (.st gP) (.cl 62 cC)))) a2)),(3,.one (.bG (.cl 66 (.pair (.st gP) (.cl 62 cC))) a3)),(8,pV 0 0),(10,pV 1 0),(11,.one (.fP 2))],[(2,.mp tI tI (([]:List (Int×Int))++[(a1,0)])),(2,.mp tI tI ([]:List (Int×Int))),(1,.box [iC 0,iC a0,.bH,.bH]),(0,.box [iC 0,iC 0,.bH,.bH])],3⟩ o.P o.N (by kernel_rfl) bm ?_)))));exact (θ o [oH,(hT tI)] bm (φ (θ o [] bm (ο (ϧ o hr (λJ=>up [0,2,3,8,10,11,12] [(13,iV J.1)] [0] [(1,.box [iC 0,iC a0,.all 11,.all 12]),(2,.mp tI tI J.2.1),(3,.seq tI J.2.2.1),(11,.seq tI J.2.2.2.1),(12,.seq .bool J.2.2.2.2)] 9) (λr2=>match r2 with| .inl r3=>(.exit 0,up [8,10,12] [] [0] [(1,.box [iC 0,iC a0,.all 11,.all 12]),(3,.seq tI r3.1),(11,.seq tI r3.2.1),(12,.seq .bool r3.2.2)] 9)| .inr r4=>(.ret,up [8] [(9,bV false)] [0] [] 0)) (λr2=>match r2 with| .inl r3=>λhr=>(bE (bp (θ o [] bm (θ o [] bm (by (cases hr;exact (Δ (ct bm))))))))| .inr r4=>λhr=>by (cases hr;exact (bT (bF (ct bm))))) λJ x5 p Qk=>φ (θ o [] bm (Φ p (λPS p=>Θ (bp (φ (ο (bg p λPT p=>θ o [] (dp PT (bS PT)) (bc p Qt λU ad p=>bg p λJ1 p=>HT.dg o (nO 4 [(cl ad),(hT .bool),(hT .bool)]) (dp ad J1) (φ (θ o [] bm (ο (ϧ o p (λj=>up [0,2,3,8,10,11,12,13,14,44] [(45,iV j.1)] [0,1,14] [(2,.mp tI tI j.2.1),(3,.seq tI j.2.2.1),(11,.seq tI j.2.2.2)] 0) (λaa=>(.exit 2,up [0,2,3,8,10,11,12,13] [] [0,1,14] [(2,.mp tI tI aa.1),(3,.seq tI aa.2.1),(11,.seq tI aa.2.2)] 0)) (λaa p=>(bE (bp (θ o [] bm (Φ p (λyA p=>θ o [] bm (HT.xr o (bT (bF (fp (Qk _ (bw p))))))) λyA p=>Θ (bB (bp (Υ o [] bm λ_ h=>(bM (lN p h)))))))))) λj Zz I Ql=>θ o [] bm (Ϻ I (λJ2 I=>φ (ο (θ o [] bm (bc I Qu λT ae I=>θ o [oH,oH,oH,(cl ae)] (bQ ae) (HT.ex ⟨[(0,iV a0),(2,.one (.bG (.cl 64 (.pair cC (.pair (.st gP) (.cl 62 cC)))) a2)),(3,.one (.bG (.cl 66 (.pair (.st gP) (.cl 62 cC))) a3)),(8,pV 0 0),(10,pV 1 0),(11,.one (.fP 2)),(12,aV 3),(13,iV J.1),(14,iV (ε J.2.2.1 (δ J.1) 0)),(16,iV T),(44,iV a0),(45,iV j.1)],[(0,.box [iC 0,iC 0,.bH,.bH]),(1,.box [iC 0,iC a0,.all 11,.all 14]),(2,.mp tI tI j.2.1),(3,.seq tI j.2.2.1),(11,.seq tI j.2.2.2),(14,.seq .bool (J.2.2.2.2++([U]:GZ)))],15⟩ o (by (refine φ (HT.rg (RG.cut 2 [oH,oH] ⟨[(54,iV T),(53,.one (.fP 2)),(0,iV a0),(2,.one (.bG (.cl 64 (.pair cC (.pair (.st gP) (.cl 62 cC)))) a2)),(3,.one (.bG (.cl 66 (.pair (.st gP) (.cl 62 cC))) a3)),(8,pV 0 0),(10,pV 1 0),(11,.one (.fP 2)),(12,aV 3),(13,iV J.1),(14,iV (ε J.2.2.1 (δ J.1) 0)),(16,iV T),(44,iV a0),(45,iV j.1)],[(0,.box [iC 0,iC 0,.bH,.bH]),(1,.box [iC 0,iC a0,.all 11,.all 14]),(2,.mp tI tI j.2.1),(3,.seq tI j.2.2.1),(11,.seq tI j.2.2.2),(14,.seq .bool (J.2.2.2.2++([U]:GZ)))],15⟩ o.P o.N (by kernel_rfl) bm (RG.Bi (t:=tI) (u:=tI) (x:=T) (z:=Value.int .i64 0) (y0:=0) o rfl rfl rfl (by kernel_rfl) (K:=2) (E:=2) (by kernel_rfl) Qr rfl (by kernel_rfl) rfl rfl rfl rfl rfl (RG.j4 [0,2,3,8,10,11,12,13,14,16,17,18,44,45] [oH,oH,oH,oH,oH] ⟨[(0,iV a0),(2,.one (.bG (.cl 64 (.pair cC (.pair (.st gP) (.cl 62 cC)))) a2)),(3,.one (.bG (.cl 66 (.pair (.st gP) (.cl 62 cC))) a3)),(8,pV 0 0),(10,pV 1 0),(11,.one (.fP 2)),(12,aV 3),(13,iV J.1),(14,iV (ε J.2.2.1 (δ J.1) 0)),(16,iV T),(17,iV ((cr (t:=tI) (u:=tI) j.2.1 T).getD 0)),(18,bV ((cr (t:=tI) (u:=tI) j.2.1 T).isSome)),(44,iV a0),(45,iV j.1)],[(0,.box [iC 0,iC 0,.bH,.bH]),(1,.box [iC 0,iC a0,.all 11,.all 14]),(2,.mp tI tI j.2.1),(3,.seq tI j.2.2.1),(11,.seq tI j.2.2.2),(14,.seq .bool (J.2.2.2.2++([U]:GZ)))],15⟩ o.P o.N (by kernel_rfl) bm ?_))));exact (ϰ I (λab=>up [0,2,3,8,10,11,13,14,44,45] [(12,aV 16),(17,iV ab.1)] [0,1,11,14] [(2,.mp tI tI ab.2.1),(16,.seq tI ab.2.2)] 2) (λab I=>bg I λQm I=>Μ o [oH,oH,oH,(hT tI),(hT tI)] (bQ Qm) (bB (bp (Υ o [] bm λ_ h=>(bM (lN I h)))))) λ_ R af=>θ o [] bm (Φ R (λJ3 R=>θ o [] bm (bg R λzF R=>HT.ex ⟨[(0,iV a0),(2,.one (.bG (.cl 64 (.pair cC (.pair (.st gP) (.cl 62 cC)))) a2)),(3,.one (.bG (.cl 66 (.pair (.st gP) (.cl 62 cC))) a3)),(8,pV 0 0),(10,pV 1 0),(11,.one (.fP 2)),(12,aV 3),(13,iV J.1),(14,iV (ε J.2.2.1 (δ J.1) 0)),(16,iV T),(17,iV (bn j.2.2.1)),(44,iV a0),(45,iV j.1)],[(0,.box [iC 0,iC 0,.bH,.bH]),(1,.box [iC 0,iC a0,.all 11,.all 14]),(2,.mp tI tI j.2.1),(3,.seq tI j.2.2.1),(11,.seq tI j.2.2.2),(14,.seq .bool (J.2.2.2.2++([U]:GZ)))],15⟩ o (by (refine φ (HT.rg (RG.cut 3 [oH,oH,oH] ⟨[(64,iV (bn j.2.2.1)),(63,iV T),(62,.one (.fP 2)),(0,iV a0),(2,.one (.bG (.cl 64 (.pair cC (.pair (.st gP) (.cl 62 cC)))) a2)),(3,.one (.bG (.cl 66 (.pair (.st gP) (.cl 62 cC))) a3)),(8,pV 0 0),(10,pV 1 0),(11,.one (.fP 2)),(12,aV 3),(13,iV J.1),(14,iV (ε J.2.2.1 (δ J.1) 0)),(16,iV T),(17,iV (bn j.2.2.1)),(44,iV a0),(45,iV j.1)],[(0,.box [iC 0,iC 0,.bH,.bH]),(1,.box [iC 0,iC a0,.all 11,.all 14]),(2,.mp tI tI j.2.1),(3,.seq tI j.2.2.1),(11,.seq tI j.2.2.2),(14,.seq .bool (J.2.2.2.2++([U]:GZ)))],15⟩ o.P o.N (by kernel_rfl) bm (RG.qS (t:=tI) (u:=tI) (x:=T) (y:=(bn j.2.2.1)) o (.inl rfl) rfl rfl (K:=2) (E:=2) (by kernel_rfl) Qr rfl rfl rfl rfl rfl rfl rfl zF (RG.j4 [0,2,3,8,10,11,12,13,14,16,17,44,45] [] ⟨[(0,iV a0),(2,.one (.bG (.cl 64 (.pair cC (.pair (.st gP) (.cl 62 cC)))) a2)),(3,.one (.bG (.cl 66 (.pair (.st gP) (.cl 62 cC))) a3)),(8,pV 0 0),(10,pV 1 0),(11,.one (.fP 2)),(12,aV 3),(13,iV J.1),(14,iV (ε J.2.2.1 (δ J.1) 0)),(16,iV T),(17,iV (bn j.2.2.1)),(44,iV a0),(45,iV j.1)],[(2,.mp tI tI (j.2.1++[(T,(bn j.2.2.1))])),(0,.box [iC 0,iC 0,.bH,.bH]),(1,.box [iC 0,iC a0,.all 11,.all 14]),(2,.mp tI tI j.2.1),(3,.seq tI j.2.2.1),(11,.seq tI j.2.2.2),(14,.seq .bool (J.2.2.2.2++([U]:GZ)))],15⟩ o.P o.N (by kernel_rfl) bm ?_))));exact (bg R λJ4 R=>Υ o [oH,oH,(hT tI),(hT tI)] (bQ J4) λ_ h=>(bp (h.ht (af _ (bt R))))))))) λJ3 R=>Θ (bp (HT.re o (af _ (bt R))))))))))))) λJ2 I=>Ϩ o (bL (bN (Ql _ (bw I))))))))))))))) λPS p=>Ϩ o (bL (bN (Qk _ (bw p)))))))))))))))
def iU (a0:GP):Option (GP×Bool):=
 (cI (a0.1,a0.2.1,a0.2.2.1,a0.2.2.2)).bind λp=>
 bif (!p) then
  some ((0,0,([]:GI),([]:GZ)),false)
 else
  (lS (a0.1,a0.2.1,a0.2.2.1,a0.2.2.2)).bind λj=>
  br ((0:Int)<=0/\0<bn j) (
   (fH a0.2.1 (ε j (δ 0) 0) (j,(a0.1,a0.2.1,a0.2.2.1,a0.2.2.2),j) ((a0.1,a0.2.1,a0.2.2.1,a0.2.2.2),j)).bind λo=>
   some ((o.1.1,o.1.2.1,o.1.2.2.1,o.1.2.2.2),o.2))
theorem Qw {a0}{r}(j:iU a0=some r):CallOK ν 23 [.bZ (.st gP) a0] [⟨true,(.st gP),r.1⟩,⟨false,.bool,r.2⟩] []:=
 dB Tryz.func23 rfl λcx o R=>θ o [] bm (φ (bc j o9 λy1 p j=>θ o [oH,(cl p)] (bQ p) (Φ j (λT j=>θ o [] bm (by (cases j;exact (Δ (bF (ct bm)))))) λT j=>Θ (bp (bc j Qn λt I j=>θ o [oH,(cl (ϱ [true] rfl I))] (bQ (ϱ [true] rfl I)) (by (refine (Le.rz [(1,1),(0,0)] [] (st':=⟨[(1,pV 0 0),(2,pV 1 0),(4,.one (.ip cC t 0))],[(1,.box [iC 0,iC 0,.bH,.bH]),(0,.box [iC a0.1,iC a0.2.1,nC a0.2.2.1,.bG (.sl .bool) a0.2.2.2])],3⟩) o R (by kernel_rfl)).ht ?_;exact (θ o [⟨none,.pg⟩] bm (by (refine (Le.rz [(3,3),(1,1)] [] (st':=⟨[(1,.one (.ip (.st gP) (a0.1,a0.2.1,a0.2.2.1,a0.2.2.2) 0)),(2,pV 1 0),(4,.one (.ip cC t 0)),(5,pV 3 0)],[(3,.box [.bG (.cl 62 cC) t]),(1,.box [iC 0,iC 0,.bH,.bH])],4⟩) o R (by kernel_rfl)).ht ?_;exact (by (refine (Le.rz [(1,1)] [] (st':=⟨[(1,.one (.ip (.st gP) (a0.1,a0.2.1,a0.2.2.1,a0.2.2.2) 0)),(2,pV 1 0),(4,.one (.ip cC t 0)),(5,.one (.ip (.cl 62 cC) t 0))],[(1,.box [iC 0,iC 0,.bH,.bH])],4⟩) o R (by kernel_rfl)).ht ?_;exact (θ o [⟨none,.pg⟩] bm (bg j λU j=>bc j Qv λy7 J j=>HT.dg o (nO 6 [⟨none,.pg⟩,(cl J)]) (dp U J) (by (cases j;exact (Δ (ct bm))))))))))))))))))
def kP (a0:GP)(j:Int×GZ):Option ((Int×GZ)⊕GZ):=
 bif (decide (j.1<(bn a0.2.2.2))) then
  br (0<=j.1/\j.1<bn a0.2.2.2) (
   br (ζ j.2+ζ ([(!(ε a0.2.2.2 (δ j.1) false))]:GZ)<=bD) (
    some (.inl ((bz .i64 j.1 1),(j.2++([(!(ε a0.2.2.2 (δ j.1) false))]:GZ))))))
 else
  some (.inr j.2)
def kE (a0:GP):Option (GP×Bool):=
 (cI (a0.1,a0.2.1,a0.2.2.1,a0.2.2.2)).bind λj=>
 bif (!j) then
  some ((0,0,([]:GI),([]:GZ)),false)
 else
  (slices_Clone a0.2.2.1).bind λo=>
  (rounds (kP a0) (0,([]:GZ))).bind λp=>
  some ((a0.1,a0.2.1,o,p),true)
theorem MV {a0}{r}(p:kE a0=some r):CallOK ν 161 [.bZ (.st gP) a0] [⟨true,(.st gP),r.1⟩,⟨false,.bool,r.2⟩] []:=
 dB Tryz.func161 rfl λcx o hF=>θ o [] bm (φ (bc p o9 λy1 t p=>θ o [oH,(cl t)] (bQ t) (Φ p (λaa p=>θ o [] bm (by (cases p;exact (Δ (bF (ct bm)))))) λaa p=>Θ (bp (bc p lK λy4 I p=>HT.dg o (nO 6 [(cl I)]) (bQ I) (φ (θ o [] bm (ο (ϧ o p (λs6=>up [2,4,20,21] [(22,iV s6.1)] [1,2] [(3,.box [iC a0.1,iC a0.2.1,.all 2,.all 6]),(6,.seq .bool s6.2)] 3) (λr8=>(.exit 0,up [2,4] [] [1,2] [(3,.box [iC a0.1,iC a0.2.1,.all 2,.all 6]),(6,.seq .bool r8)] 3)) (λr8 p=>(bE (bp (θ o [] bm (by (cases p;exact (Δ (ct bm)))))))) λs6 x9 j J=>θ o [] bm (Ϻ j (λR j=>φ (ο (bg j λT j=>θ o [] (bQ T) (bg j λU j=>Μ o (nO 4 [(hT .bool),(hT .bool)]) (bQ U) (bB (bp (Υ o [] bm λ_ h=>(bM (lN j h))))))))) λR j=>Ϩ o (bL (bN (J _ (bw j))))))))))))))
def gq (a0:GG)(j:Int):Option ((Int)⊕(Unit⊕Unit)):=
 bif (decide (j<(bn a0.2.2))) then
  br (0<=j/\j<bn a0.2.2) (
   (show Option (Int) from
    bif ((((ε a0.2.2 (δ j) (0,0,0,0)).2).2).1==(-1)) then
     some (bW .i64 a0.2.1 1)
    else
     some (bW .i64 a0.1 1)).bind λo=>
   (show Option (Bool) from
    (cG ((ε a0.2.2 (δ j) (0,0,0,0)).1) 0 (bW .i64 a0.1 1)).bind λp=>
    bif (!p) then
     some true
    else
     (cG (((ε a0.2.2 (δ j) (0,0,0,0)).2).1) 0 o).bind λr=>
     bif (!r) then
      some true
     else
      (cG ((((ε a0.2.2 (δ j) (0,0,0,0)).2).2).1) (-1) (bW .i64 a0.1 1)).bind λt=>
      bif (!t) then
       some true
      else
       (cG ((((ε a0.2.2 (δ j) (0,0,0,0)).2).2).2) 0 1000).bind λI=>
       some (!I)).bind λv20=>
   bif v20 then
    some (.inr (.inr ()))
   else
    some (.inl (bz .i64 j 1)))
 else
  some (.inr (.inl ()))
def db (a0:GG):Option (Bool):=
 (show Option (Bool) from
  (cG a0.1 1 8).bind λj=>
  bif (!j) then
   some true
  else
   (cG a0.2.1 1 4).bind λo=>
   bif (!o) then
    some true
   else
    some (decide ((bn a0.2.2)>32))).bind λp=>
 bif p then
  some false
 else
  (rounds (gq a0) 0).bind λr=>match r with
   | .inl t=>
    some true
   | .inr I=>
    some false
theorem vA {a0}{r}(hr:db a0=some r):CallOK ν 41 [.bZ (.st gR) a0] [⟨false,.bool,r⟩] []:=
 dB Tryz.func41 rfl λcx I hF=>θ I [] bm (φ (ϰ hr (λv2=>up [1] [(21,bV v2)] [0] [] 0) (λv2 hr=>Φ hr (λXz hr=>θ I [] bm (by (cases hr;exact (Δ (bF (ct bm)))))) λXz hr=>Θ (bp (φ (θ I [] bm (ο (ϧ I hr (λs6=>up [1,23,24] [(25,iV s6)] [0] [] 0) (λr7=>match r7 with| .inl r8=>(.exit 0,up [] [] [] [] 0)| .inr r9=>(.ret,up [] [(2,bV false)] [] [] 0)) (λr7=>match r7 with| .inl r8=>λhr=>(bE (bp (θ I [] bm (by (cases hr;exact (Δ (ct bm)))))))| .inr r9=>λhr=>by (cases hr;exact (bT (bF (ct bm))))) λs6 Zp o TR=>θ I [] bm (Ϻ o (λFa o=>φ (ο (bg o λQx o=>θ I [] (bQ Qx) (θ I [] bm (ϰ o (λZC=>up [1,4,23,24,25] [(5,iV ZC)] [0,1] [] 0) (λZC o=>ϰ o (λv20=>up [1,23,24,25] [(66,bV v20)] [0] [] 0) (λv20 o=>Φ o (λJ9 o=>θ I [] bm (HT.xr I (bT (bF (fp (TR _ (bw o))))))) λJ9 o=>Θ (bB (bp (Υ I [] bm λ_ h=>(bM (lN o h)))))) λ_ j aa=>bc j gZ λZD t j=>bb j (λT j=>Υ I (nO 5 [(cl t),oH,kT]) (dp t T) λ_ h=>(bp (h.ht (aa _ (bt j))))) λT j=>bc j gZ λZE J j=>bb j (λab j=>Υ I (nO 5 [(cl t),oH,kF,oH,oH,oH,(cl J),oH,oH,kT]) (nZ t T J ab) λ_ h=>(bp (h.ht (aa _ (bt j))))) λab j=>bc j gZ λZF ad j=>bb j (λyB j=>Υ I (nO 5 [(cl t),oH,kF,oH,oH,oH,(cl J),oH,oH,kF,oH,oH,oH,oH,oH,(cl ad),oH,oH,kT]) (lF t T J ab (dp ad yB)) λ_ h=>(bp (h.ht (aa _ (bt j))))) λyB j=>bc j gZ λy33 TS j=>Υ I (nO 5 [(cl t),oH,kF,oH,oH,oH,(cl J),oH,oH,kF,oH,oH,oH,oH,oH,(cl ad),oH,oH,kF,oH,oH,(cl TS)]) (lF t T J ab (ll ad yB TS)) λ_ h=>(bp (h.ht (aa _ (bt j))))) λ_ U TT=>θ I [] bm (Φ U (λQj U=>Υ I [] bm λ_ h=>(bp (h.ht (TT _ (bt U))))) λQj U=>Θ (bp (HT.re I (TT _ (bt U)))))))))) λFa o=>Ϩ I (bL (bN (TR _ (bw o))))))))))) λ_ p Qe=>bc p gZ λZG R p=>bb p (λae p=>Υ I [oH,oH,(cl R),oH,kT] (dp R ae) λ_ h=>(bp (h.ht (Qe _ (bt p))))) λae p=>bc p gZ λy39 af p=>bb p (λKa p=>Υ I [oH,oH,(cl R),oH,kF,oH,oH,(cl af),oH,oH,kT] (nZ R ae af Ka) λ_ h=>(bp (h.ht (Qe _ (bt p))))) λKa p=>Υ I [oH,oH,(cl R),oH,kF,oH,oH,(cl af),oH,oH,kF] (nZ R ae af Ka) λ_ h=>(bp (h.ht (Qe _ (bt p))))))
def dC (a0:GG):Option (GG×Bool):=
 (db (a0.1,a0.2.1,a0.2.2)).bind λj=>
 bif (!j) then
  some ((0,0,([]:GL)),false)
 else
  some ((a0.1,a0.2.1,a0.2.2),true)
theorem yC {a0}{r}(j:dC a0=some r):CallOK ν 79 [.mv (.st gR) a0] [⟨true,(.st gR),r.1⟩,⟨false,.bool,r.2⟩] []:=
 Tz Tryz.func79 rfl λcx p=>θ p [] bm (φ (bc j vA λI o j=>θ p [oH,(cl o)] (bQ o) (Φ j (λt j=>θ p [] bm (by (cases j;exact (Δ (bF (ct bm)))))) λt j=>Θ (bp (θ p [] bm (by (cases j;exact (Δ (ct bm)))))))))
def lT (a0:GP)(j:Int×GL):Option ((Int×GL)⊕(GL)):=
 bif (decide (j.1<a0.2.1)) then
  br (ζ j.2+ζ ([((bz .i64 a0.1 j.1),j.1,(-1),0)]:GL)<=bD) (
   some (.inl ((bz .i64 j.1 1),(j.2++([((bz .i64 a0.1 j.1),j.1,(-1),0)]:GL)))))
 else
  some (.inr j.2)
def lU (a0:GP)(p:Int×GL)(j:Int×GL):Option ((Int×GL)⊕(GL)):=
 bif (decide (j.1<a0.2.1)) then
  (show Option (GL) from
   (cP (a0.1,a0.2.1,a0.2.2.1,a0.2.2.2) p.1 j.1).bind λo=>
   br (ζ j.2+ζ ([(p.1,(bz .i64 a0.1 j.1),o,0)]:GL)<=bD) (
    br (0<=o/\o<bn a0.2.2.2) (
     bif (ε a0.2.2.2 (δ o) false) then
      br (ζ (j.2++([(p.1,(bz .i64 a0.1 j.1),o,0)]:GL))+ζ ([(p.1,j.1,(-1),0)]:GL)<=bD) (
       some ((j.2++([(p.1,(bz .i64 a0.1 j.1),o,0)]:GL))++([(p.1,j.1,(-1),0)]:GL)))
     else
      some (j.2++([(p.1,(bz .i64 a0.1 j.1),o,0)]:GL))))).bind λr=>
  some (.inl ((bz .i64 j.1 1),r))
 else
  some (.inr j.2)
def lV (a0:GP)(j:Int×GL):Option ((Int×GL)⊕(GL)):=
 bif (decide (j.1<a0.1)) then
  (rounds (lU a0 j) (0,j.2)).bind λo=>
  some (.inl ((bz .i64 j.1 1),o))
 else
  some (.inr j.2)
def lW (a0:GP):Option (GG×Bool):=
 (show Option (Bool) from
  (cI (a0.1,a0.2.1,a0.2.2.1,a0.2.2.2)).bind λo=>
  bif (!o) then
   some true
  else
   some (decide ((bz .i64 a0.1 a0.2.1)>8))).bind λr=>
 bif r then
  some ((0,0,([]:GL)),false)
 else
  (rounds (lV a0) (0,([]:GL))).bind λt=>
  (rounds (lT a0) (0,t)).bind λp=>
  (dC ((bz .i64 a0.1 a0.2.1),a0.2.1,p)).bind λj=>
  some ((j.1.1,j.1.2.1,j.1.2.2),j.2)
theorem MW {a0}{r}(T:lW a0=some r):CallOK ν 162 [.bZ (.st gP) a0] [⟨true,(.st gR),r.1⟩,⟨false,.bool,r.2⟩] []:=
 dB Tryz.func162 rfl λcx o hF=>θ o [] bm (φ (ϰ T (λv2=>up [1,2] [(19,bV v2)] [0,1] [] 0) (λv2 T=>Φ T (λay T=>θ o [] bm (by (cases T;exact (Δ (bF (ct bm)))))) λay T=>Θ (bp (θ o [] bm (φ (θ o [] bm (ο (ϧ o T (λs6=>up [1,2,4,30] [(31,iV s6.1)] [0,1] [(2,.box [iC (bz .i64 a0.1 a0.2.1),iC a0.2.1,.all 8]),(8,.seq (.st gQ) s6.2)] 6) (λr8=>(.exit 0,up [1,2,4] [] [0,1] [(2,.box [iC (bz .i64 a0.1 a0.2.1),iC a0.2.1,.all 8]),(8,.seq (.st gQ) r8)] 6)) (λr8 T=>(bE (bp (φ (θ o [] bm (ο (ϧ o T (λs9=>up [1,2,4,71] [(72,iV s9.1)] [0,1,2] [(8,.seq (.st gQ) s9.2)] 0) (λaf=>(.exit 4,up [2,4] [] [1,2] [(8,.seq (.st gQ) af)] 0)) (λaf T=>(bE (bp (bc T yC λyu aa T=>θ o [oH,(cl aa)] (bQ aa) (by (cases T;exact (Δ (ct bm)))))))) λs9 Vg p ag=>θ o [] bm (Ϻ p (λah p=>φ (ο (θ o [] bm (bg p λai p=>Μ o (nO 8 [(hT (.st gQ)),(hT (.st gQ))]) (bQ ai) (bB (bp (Υ o [] bm λ_ h=>(bM (lN p h))))))))) λah p=>Ϩ o (bL (bN (ag _ (bw p)))))))))))) λs6 x19 t aj=>θ o [] bm (Ϻ t (λak t=>φ (ο (θ o [] bm (θ o [] bm (ο (ϧ o t (λae=>up [1,2,4,5,30,31,35] [(36,iV ae.1)] [0,1,2] [(8,.seq (.st gQ) ae.2)] 0) (λal=>(.exit 2,up [1,2,4,30,31] [] [0,1,2] [(8,.seq (.st gQ) al)] 0)) (λal t=>(bE (bB (bp (Υ o [] bm λ_ h=>(bM (lN t h))))))) λae x26 I an=>θ o [] bm (Ϻ I (λao I=>ϰ I (λaq=>up [1,2,4,5,30,31,35,36] [] [0,1] [(2,.box [iC (bz .i64 a0.1 a0.2.1),iC a0.2.1,.all 12]),(12,.seq (.st gQ) aq)] 4) (λaq I=>Υ o [] bm λ_ h=>(bM (lN I h))) λ_ j ab=>ο (θ o [] bm (bc j qX λXA ad j=>θ o [oH,oH,oH,(cl ad)] (bQ ad) (bg j λar j=>θ o (nO 9 [(hT (.st gQ)),(hT (.st gQ))]) (bQ ar) (bg j λau j=>θ o [] (bQ au) (Φ j (λav j=>bg j λaw j=>Υ o (nO 5 [(hT (.st gQ)),(hT (.st gQ))]) (bQ aw) λ_ h=>(bB (bp (h.ht (ab _ (bt j)))))) λav j=>Θ (bB (bp (HT.re o (ab _ (bt j))))))))))) λao I=>Ϩ o (bL (bN (an _ (bw I))))))))))) λak t=>Ϩ o (bL (bN (aj _ (bw t)))))))))))) λ_ J ax=>bc J o9 λZx R J=>bb J (λU J=>Υ o [oH,(cl R),oH,kT] (dp R U) λ_ h=>(bp (h.ht (ax _ (bt J))))) λU J=>Υ o [oH,(cl R),oH,kF] (dp R U) λ_ h=>(bp (h.ht (ax _ (bt J))))))
def lX (a0:GM×GP×GG×GI)(a1:GB):Option (GB×Bool×Bool×(GM×GP×GG×GI)):=
 (show Option ((Bool×(GM×GP×GG×GI))⊕(GB×Bool×Bool×(GM×GP×GG×GI))) from
  bif (a1==([98,97,99,107]:GB)) then
   (k9 (a0.1.1,a0.1.2.1,a0.1.2.2.1,a0.1.2.2.2.1,a0.1.2.2.2.2)).bind λT=>
   some (.inl (T.2,(T.1.1,T.1.2.1,T.1.2.2.1,T.1.2.2.2.1,T.1.2.2.2.2),(a0.2.1.1,a0.2.1.2.1,a0.2.1.2.2.1,a0.2.1.2.2.2),(a0.2.2.1.1,a0.2.2.1.2.1,a0.2.2.1.2.2),a0.2.2.2))
  else
   bif (a1==([116,105,100,121]:GB)) then
    (lb (a0.1.1,a0.1.2.1,a0.1.2.2.1,a0.1.2.2.2.1,a0.1.2.2.2.2)).bind λj=>
    some (.inl (j.2,(j.1.1,j.1.2.1,j.1.2.2.1,j.1.2.2.2.1,j.1.2.2.2.2),(a0.2.1.1,a0.2.1.2.1,a0.2.1.2.2.1,a0.2.1.2.2.2),(a0.2.2.1.1,a0.2.2.1.2.1,a0.2.2.1.2.2),a0.2.2.2))
   else
    bif (a1==([116,114,105,109]:GB)) then
     (pD (a0.1.1,a0.1.2.1,a0.1.2.2.1,a0.1.2.2.2.1,a0.1.2.2.2.2)).bind λo=>
     some (.inl (o.2,(o.1.1,o.1.2.1,o.1.2.2.1,o.1.2.2.2.1,o.1.2.2.2.2),(a0.2.1.1,a0.2.1.2.1,a0.2.1.2.2.1,a0.2.1.2.2.2),(a0.2.2.1.1,a0.2.2.1.2.1,a0.2.2.1.2.2),a0.2.2.2))
    else
     bif (a1==([108,101,116,116,101,114,101,100]:GB)) then
      (js (a0.1.1,a0.1.2.1,a0.1.2.2.1,a0.1.2.2.2.1,a0.1.2.2.2.2)).bind λp=>
      some (.inl (p.2,(p.1.1,p.1.2.1,p.1.2.2.1,p.1.2.2.2.1,p.1.2.2.2.2),(a0.2.1.1,a0.2.1.2.1,a0.2.1.2.2.1,a0.2.1.2.2.2),(a0.2.2.1.1,a0.2.2.1.2.1,a0.2.2.1.2.2),a0.2.2.2))
     else
      bif (a1==([114,101,112,101,97,116]:GB)) then
       (nf (a0.1.1,a0.1.2.1,a0.1.2.2.1,a0.1.2.2.2.1,a0.1.2.2.2.2)).bind λr=>
       some (.inl (r.2,(r.1.1,r.1.2.1,r.1.2.2.1,r.1.2.2.2.1,r.1.2.2.2.2),(a0.2.1.1,a0.2.1.2.1,a0.2.1.2.2.1,a0.2.1.2.2.2),(a0.2.2.1.1,a0.2.2.1.2.1,a0.2.2.1.2.2),a0.2.2.2))
      else
       bif (a1==([109,97,107,101]:GB)) then
        (oz (a0.1.1,a0.1.2.1,a0.1.2.2.1,a0.1.2.2.2.1,a0.1.2.2.2.2)).bind λt=>
        some (.inl (t.2,(a0.1.1,a0.1.2.1,a0.1.2.2.1,a0.1.2.2.2.1,a0.1.2.2.2.2),(t.1.1,t.1.2.1,t.1.2.2.1,t.1.2.2.2),(a0.2.2.1.1,a0.2.2.1.2.1,a0.2.2.1.2.2),a0.2.2.2))
       else
        bif (a1==([108,101,97,115,116]:GB)) then
         (iU (a0.2.1.1,a0.2.1.2.1,a0.2.1.2.2.1,a0.2.1.2.2.2)).bind λI=>
         some (.inl (I.2,(a0.1.1,a0.1.2.1,a0.1.2.2.1,a0.1.2.2.2.1,a0.1.2.2.2.2),(I.1.1,I.1.2.1,I.1.2.2.1,I.1.2.2.2),(a0.2.2.1.1,a0.2.2.1.2.1,a0.2.2.1.2.2),a0.2.2.2))
        else
         bif (a1==([111,116,104,101,114]:GB)) then
          (kE (a0.2.1.1,a0.2.1.2.1,a0.2.1.2.2.1,a0.2.1.2.2.2)).bind λJ=>
          some (.inl (J.2,(a0.1.1,a0.1.2.1,a0.1.2.2.1,a0.1.2.2.2.1,a0.1.2.2.2.2),(J.1.1,J.1.2.1,J.1.2.2.1,J.1.2.2.2),(a0.2.2.1.1,a0.2.2.1.2.1,a0.2.2.1.2.2),a0.2.2.2))
         else
          bif (a1==([114,117,108,101,115]:GB)) then
           (lW (a0.2.1.1,a0.2.1.2.1,a0.2.1.2.2.1,a0.2.1.2.2.2)).bind λR=>
           some (.inl (R.2,(a0.1.1,a0.1.2.1,a0.1.2.2.1,a0.1.2.2.2.1,a0.1.2.2.2.2),(a0.2.1.1,a0.2.1.2.1,a0.2.1.2.2.1,a0.2.1.2.2.2),(R.1.1,R.1.2.1,R.1.2.2),a0.2.2.2))
          else
           sX (some (([]:GB),false,false,a0))).bind λw5=>match w5 with
  | .inl U=>
   some (([111,107]:GB),U.1,true,U.2)
  | .inr z=>some z
theorem MX {a0}{a1}{r}(hr:lX a0 a1=some r):CallOK ν 132 [.own (.bx (.st (.pair (.st gM) (.pair (.st gP) (.pair (.st gR) cC))))) [a0],.bZ .str a1] [⟨false,.str,r.1⟩,⟨false,.bool,r.2.1⟩,⟨false,.bool,r.2.2.1⟩] [⟨(.bx (.st (.pair (.st gM) (.pair (.st gP) (.pair (.st gR) cC))))),[r.2.2.2]⟩]:=
 dB Tryz.func132 rfl λcx o hF=>θ o [] bm (θ o [] bm (HT.jo hr (λ_=>rfl) (λv2=>up [] [(7,bV v2.1)] [] [(0,.seq (.st (.pair (.st gM) (.pair (.st gP) (.pair (.st gR) cC)))) ([v2.2]))] 0) (λv2 hr=>θ o [] bm (by (cases hr;exact (Δ (ct (bQ (show ζ ([v2.2])=ζ [a0] from rfl))))))) λ_ j R4 p=>θ o [] bm (ο (θ o [] bm (Φ j (λJ0 j=>bc j JW λy8 Ow j=>Υ o (nO 5 [(cl (ϱ [true,false] rfl Ow))]) (ll (show 0<ζ [a0] from Ξ) (ϱ [true,false] rfl Ow) (show 0<ζ [a0] from Ξ)) λ_ h=>(bB (bp (h.ht (p _ (bw j)))))) λJ0 j=>θ o [] bm (Φ j (λBB j=>bc j By λLp t j=>Υ o (nO 5 [(cl (ϱ [true,false] rfl t))]) (ll (show 0<ζ [a0] from Ξ) (ϱ [true,false] rfl t) (show 0<ζ [a0] from Ξ)) λ_ h=>(bB (bp (h.ht (p _ (bw j)))))) λBB j=>θ o [] bm (Φ j (λFa j=>bc j MN λRX I j=>Υ o (nO 5 [(cl (ϱ [true,false] rfl I))]) (ll (show 0<ζ [a0] from Ξ) (ϱ [true,false] rfl I) (show 0<ζ [a0] from Ξ)) λ_ h=>(bB (bp (h.ht (p _ (bw j)))))) λFa j=>θ o [] bm (Φ j (λyA j=>bc j MO λRZ J j=>Υ o (nO 5 [(cl (ϱ [true,false] rfl J))]) (ll (show 0<ζ [a0] from Ξ) (ϱ [true,false] rfl J) (show 0<ζ [a0] from Ξ)) λ_ h=>(bB (bp (h.ht (p _ (bw j)))))) λyA j=>θ o [] bm (Φ j (λQy j=>bc j MP λXF R j=>Υ o (nO 5 [(cl (ϱ [true,false] rfl R))]) (ll (show 0<ζ [a0] from Ξ) (ϱ [true,false] rfl R) (show 0<ζ [a0] from Ξ)) λ_ h=>(bB (bp (h.ht (p _ (bw j)))))) λQy j=>θ o [] bm (Φ j (λXK j=>bc j MS λLq T j=>Υ o (nO 5 [(cl (ϱ [true,false] rfl T))]) (ll (show 0<ζ [a0] from Ξ) (ϱ [true,false] rfl T) (show 0<ζ [a0] from Ξ)) λ_ h=>(bB (bp (h.ht (p _ (bw j)))))) λXK j=>θ o [] bm (Φ j (λXL j=>bc j Qw λZs U j=>Υ o (nO 5 [(cl (ϱ [true,false] rfl U))]) (ll (show 0<ζ [a0] from Ξ) (ϱ [true,false] rfl U) (show 0<ζ [a0] from Ξ)) λ_ h=>(bB (bp (h.ht (p _ (bw j)))))) λXL j=>θ o [] bm (Φ j (λJ3 j=>bc j MV λy29 aa j=>Υ o (nO 5 [(cl (ϱ [true,false] rfl aa))]) (ll (show 0<ζ [a0] from Ξ) (ϱ [true,false] rfl aa) (show 0<ζ [a0] from Ξ)) λ_ h=>(bB (bp (h.ht (p _ (bw j)))))) λJ3 j=>θ o [] bm (Φ j (λKb j=>bc j MW λy32 ab j=>Υ o (nO 5 [(cl (ϱ [true,false] rfl ab))]) (ll (show 0<ζ [a0] from Ξ) (ϱ [true,false] rfl ab) (show 0<ζ [a0] from Ξ)) λ_ h=>(bB (bp (h.ht (p _ (bw j)))))) λKb j=>θ o [] bm (have hr:=R4 j;by (cases hr;exact (Δ (bT (bF (ct (bQ (show ζ ([a0])=ζ [a0] from rfl)))))))))))))))))))))
def strings_Join (a0:List GB)(a1:GB):Option GB:=
 br (a0.length<=140737488355328/\(Lib.join a0 a1).length<=140737488355328)<|some (Lib.join a0 a1)
theorem Kc {a0}{a1}{r}(h:strings_Join a0 a1=some r):CallOK ν 90 [.bZ (.sl .str) a0,.bZ .str a1] [⟨false,.str,r⟩] []:=by
 obtain ⟨I,h⟩:=fF h;have h:=bt h;subst h;have e:(a0.map λx=>ByteArray.mk x.toArray).map (·.data.toList)=a0:=by
  rw [List.map_map]
  conv=>rhs;rw [<-List.map_id a0]
  rfl
 refine L5 ⟨_,Tryz.func90,by kernel_rfl,by kernel_rfl⟩ (λe a c w=>by subst e;exact Tryz.strings_Join_none a c _ w) (λJ o c w j t p=> ?_);have:=Tryz.strings_Join J o c (a0.map λx=>ByteArray.mk x.toArray) ⟨a1.toArray⟩ w j t (by rw [Ϝ];exact I.1) (by rw [Ϝ];exact p) (by rw [e];exact I.2);rw [Ϝ,e] at this;exact this
def qY (a0:Int):Option (Bool):=
 (cG a0 (-1000000000000000) 1000000000000000).bind λj=>
 some j
theorem Qz {a0}{r}(o:qY a0=some r):CallOK ν 91 [.bZ tI a0] [⟨false,.bool,r⟩] []:=
 dB Tryz.func91 rfl λcx p t=>θ p [] bm (bc o gZ λI j o=>θ p [oH,(cl j)] (bQ j) (by (cases o;exact (Δ (ct bm)))))
def jv (a0:GI)(s1:Int):Option ((Int)⊕(Unit⊕Unit)):=
 bif (decide (s1<(bn a0))) then
  br (0<=s1/\s1<bn a0) (
   (qY (ε a0 (δ s1) 0)).bind λj=>
   bif (!j) then
    some (.inr (.inr ()))
   else
    some (.inl (bz .i64 s1 1)))
 else
  some (.inr (.inl ()))
def lY (a0:GI):Option (Bool):=
 (rounds (jv a0) 0).bind λj=>match j with
  | .inl o=>
   some (decide ((bn a0)<=64))
  | .inr p=>
   some false
theorem QA {a0}{r}(t:lY a0=some r):CallOK ν 42 [.bZ cC a0] [⟨false,.bool,r⟩] []:=
 dB Tryz.func42 rfl λcx o hF=>θ o [] bm (φ (θ o [] bm (ο (ϧ o t (λs1=>up [0,5,6] [(7,iV s1)] [] [] 0) (λR=>match R with| .inl r3=>(.exit 0,up [0] [] [] [] 0)| .inr r4=>(.ret,up [] [(2,bV false)] [] [] 0)) (λR=>match R with| .inl r3=>λt=>(bE (bp (θ o [] bm (by (cases t;exact (Δ (ct bm)))))))| .inr r4=>λt=>by (cases t;exact (bT (bF (ct bm))))) λs1 x5 j I=>θ o [] bm (Ϻ j (λT j=>φ (ο (bg j λU j=>θ o [] (bQ U) (bc j Qz λQc p j=>θ o [oH,(cl p)] (bQ p) (Φ j (λJ j=>θ o [] bm (HT.xr o (bT (bF (fp (I _ (bw j))))))) λJ j=>Θ (bB (bp (Υ o [] bm λ_ h=>(bM (lN j h)))))))))) λT j=>Ϩ o (bL (bN (I _ (bw j)))))))))
def rS (a0:List GB):Option GB:=
 bif ((bn a0)==0) then
  some ([110,111,110,101]:GB)
 else
  (strings_Join a0 ([44]:GB)).bind λj=>
  some j
theorem QB {a0}{r}(j:rS a0=some r):CallOK ν 92 [.bZ (.sl .str) a0] [⟨false,.str,r⟩] []:=
 dB Tryz.func92 rfl λcx p I=>θ p [] bm (φ (θ p [] bm (Φ j (λt j=>θ p [] bm (by (cases j;exact (Δ (bF (ct bm)))))) λt j=>Θ (bp (bc j Kc λJ o j=>θ p [oH,(cl o)] (bQ o) (by (cases j;exact (Δ (ct bm)))))))))
def jT (a0:GI)(s1:Int×List GB):Option ((Int×List GB)⊕(List GB)):=
 bif (decide (s1.1<(bn a0))) then
  br (0<=s1.1/\s1.1<bn a0) (
   (iI (ε a0 (δ s1.1) 0)).bind λj=>
   br (ζ s1.2+ζ ([j]:List GB)<=bD) (
    some (.inl ((bz .i64 s1.1 1),(s1.2++([j]:List GB))))))
 else
  some (.inr s1.2)
def nh (a0:GI):Option GB:=
 (rounds (jT a0) (0,([]:List GB))).bind λj=>
 (rS j).bind λo=>
 some o
theorem QC {a0}{r}(t:nh a0=some r):CallOK ν 43 [.bZ cC a0] [⟨false,.str,r⟩] []:=
 dB Tryz.func43 rfl λcx o hF=>θ o [] bm (θ o [] bm (φ (θ o [] bm (ο (ϧ o t (λT=>up [7,8] [(3,aV 2),(9,iV T.1)] [] [(2,.seq .str T.2)] 3) (λr3=>(.exit 0,up [] [(3,aV 2)] [] [(2,.seq .str r3)] 3)) (λr3 t=>(bE (bp (bc t QB λy4 I t=>θ o [oH,(cl I)] (bQ I) (by (cases t;exact (Δ (ct bm)))))))) λT x6 j U=>θ o [] bm (Ϻ j (λaa j=>φ (ο (bg j λJ j=>θ o [] (bQ J) (bc j Bt λLp p j=>bg j λR j=>Μ o [oH,oH,(cl p),(hT .str),(hT .str)] (dp p R) (bB (bp (Υ o [] bm λ_ h=>(bM (lN j h))))))))) λaa j=>Ϩ o (bL (bN (U _ (bw j))))))))))
def gC (a0:GI):Option (GB×Bool):=
 (lY a0).bind λj=>
 bif (!j) then
  some (([]:GB),false)
 else
  (nh a0).bind λo=>
  some (o,true)
theorem Fb {a0}{r}(j:gC a0=some r):CallOK ν 11 [.bZ cC a0] [⟨false,.str,r.1⟩,⟨false,.bool,r.2⟩] []:=
 dB Tryz.func11 rfl λcx t J=>θ t [] bm (φ (bc j QA λR o j=>θ t [oH,(cl o)] (bQ o) (Φ j (λI j=>θ t [] bm (by (cases j;exact (Δ (bF (ct bm)))))) λI j=>Θ (bp (bc j QC λT p j=>θ t [oH,(cl p)] (bQ p) (by (cases j;exact (Δ (ct bm)))))))))
def eY (a0:List GI)(s1:Int×List GB):Option ((Int×List GB)⊕(List GB⊕Unit)):=
 bif (decide (s1.1<(bn a0))) then
  br (0<=s1.1/\s1.1<bn a0) (
   (gC (ε a0 (δ s1.1) ([]:GI))).bind λj=>
   bif (!j.2) then
    some (.inr (.inr ()))
   else
    br (ζ s1.2+ζ ([j.1]:List GB)<=bD) (
     some (.inl ((bz .i64 s1.1 1),(s1.2++([j.1]:List GB))))))
 else
  some (.inr (.inl s1.2))
def hZ (a0:List GI):Option (GB×Bool):=
 (rounds (eY a0) (0,([]:List GB))).bind λj=>match j with
  | .inl o=>
   (strings_Join o ([59]:GB)).bind λp=>
   some (p,true)
  | .inr r=>
   some (([]:GB),false)
theorem Fc {a0}{r}(t:hZ a0=some r):CallOK ν 39 [.bZ (.sl cC) a0] [⟨false,.str,r.1⟩,⟨false,.bool,r.2⟩] []:=
 dB Tryz.func39 rfl λcx o hF=>θ o [] bm (θ o [] bm (φ (θ o [] bm (ο (ϧ o t (λs1=>up [10,11] [(4,aV 2),(12,iV s1.1)] [] [(2,.seq .str s1.2)] 3) (λr2=>match r2 with| .inl r3=>(.exit 0,up [] [(4,aV 2)] [] [(2,.seq .str r3)] 3)| .inr r6=>(.ret,up [] [(2,.one (.bG .str ([]:GB))),(3,bV false)] [] [] 0)) (λr2=>match r2 with| .inl r3=>λt=>(bE (bp (bc t Kc λy4 I t=>θ o [oH,(cl I)] (bQ I) (by (cases t;exact (Δ (ct bm)))))))| .inr r6=>λt=>by (cases t;exact (bT (bF (ct bm))))) λs1 x7 j J=>θ o [] bm (Ϻ j (λR j=>φ (ο (bg j λT j=>θ o [] (bQ T) (bc j Fb λyu p j=>θ o [oH,(cl p)] (bQ p) (φ (θ o [] bm (Φ j (λU j=>θ o [] bm (HT.xr o (bF (bT (bF (fp (J _ (bw j)))))))) λU j=>Θ (bp (bg j λaa j=>Μ o [oH,oH,(hT .str),(hT .str)] (bQ aa) (bB (bp (Υ o [] bm λ_ h=>(bM (lN j h)))))))))))))) λR j=>Ϩ o (bL (bN (J _ (bw j))))))))))
def gO (a0:GM)(j:Int×GI):Option ((Int×GI)⊕GI):=
 bif (decide (j.1<(bn a0.2.2.1))) then
  br (0<=j.1/\j.1<bn a0.2.2.1) (
   (some ((((ε a0.2.2.1 (δ j.1) (0,0,0,0)).2).2).1)).bind λo=>
   (some ((((ε a0.2.2.1 (δ j.1) (0,0,0,0)).2).2).2)).bind λp=>
   br (ζ j.2+ζ ([(ε a0.2.2.1 (δ j.1) (0,0,0,0)).1,((ε a0.2.2.1 (δ j.1) (0,0,0,0)).2).1,o,p]:GI)<=bD) (
    some (.inl ((bz .i64 j.1 1),(j.2++([(ε a0.2.2.1 (δ j.1) (0,0,0,0)).1,((ε a0.2.2.1 (δ j.1) (0,0,0,0)).2).1,o,p]:GI))))))
 else
  some (.inr j.2)
def jU (a0:GM):Option (GB×Bool):=
 (cy (a0.1,a0.2.1,a0.2.2.1,a0.2.2.2.1,a0.2.2.2.2)).bind λo=>
 bif (!o) then
  some (([]:GB),false)
 else
  (rounds (gO a0) (0,([]:GI))).bind λp=>
  (hZ ([([a0.1,a0.2.1]:GI),a0.2.2.2.1,a0.2.2.2.2,p]:List GI)).bind λj=>
  some (j.1,j.2)
theorem TU {a0}{r}(p:jU a0=some r):CallOK ν 8 [.bZ (.st gM) a0] [⟨false,.str,r.1⟩,⟨false,.bool,r.2⟩] []:=
 dB Tryz.func8 rfl λcx o hF=>θ o [] bm (φ (bc p oY λy1 t p=>θ o [oH,(cl t)] (bQ t) (Φ p (λaa p=>θ o [] bm (by (cases p;exact (Δ (bF (ct bm)))))) λaa p=>Θ (bp (θ o [] bm (φ (θ o [] bm (ο (ϧ o p (λs4=>up [1,12,13] [(4,aV 4),(14,iV s4.1)] [0] [(4,.seq tI s4.2)] 4) (λr6=>(.exit 0,up [1] [(4,aV 4)] [0] [(4,.seq tI r6)] 4)) (λr6 p=>(bE (bp (by (refine (Le.rz [(0,0)] [] (st':=⟨[(1,pV 0 0),(4,nV r6)],[(0,.box [iC a0.1,iC a0.2.1,.bG gA a0.2.2.1,nC a0.2.2.2.1,nC a0.2.2.2.2])],5⟩) o hF (by kernel_rfl)).ht ?_;exact (bc p Fc λy7 I p=>θ o (nO 4 [⟨none,.Io tI⟩,oH,oH,oH,oH,oH,(hT cC),(cl I)]) (bQ I) (by (cases p;exact (Δ (ct bm)))))))))) λs4 x9 j J=>θ o [] bm (Ϻ j (λR j=>φ (ο (bg j λT j=>θ o [] (bQ T) (bq j λj=>bq j λj=>bg j λU j=>Μ o (nO 9 [(hT tI),(hT tI)]) (bQ U) (bB (bp (Υ o [] bm λ_ h=>(bM (lN j h))))))))) λR j=>Ϩ o (bL (bN (J _ (bw j))))))))))))))
def eZ (a0:GP)(j:GB×Int):Option ((GB×Int)⊕GB):=
 bif (decide (j.2<(bn a0.2.2.2))) then
  (show Option GB from
   br (0<=j.2/\j.2<bn a0.2.2.2) (
    bif (ε a0.2.2.2 (δ j.2) false) then
     br (ζ j.1+ζ ([49]:GB)<=bD) (
      some (j.1++([49]:GB)))
    else
     br (ζ j.1+ζ ([48]:GB)<=bD) (
      some (j.1++([48]:GB))))).bind λo=>
  some (.inl (o,(bz .i64 j.2 1)))
 else
  some (.inr j.1)
def lZ (a0:GP):Option (GB×Bool):=
 (cI (a0.1,a0.2.1,a0.2.2.1,a0.2.2.2)).bind λp=>
 bif (!p) then
  some (([]:GB),false)
 else
  (hZ ([([a0.1,a0.2.1]:GI),a0.2.2.1]:List GI)).bind λj=>
  bif (!j.2) then
   some (([]:GB),false)
  else
   br (ζ j.1+ζ ([59]:GB)<=bD) (
    (rounds (eZ a0) ((j.1++([59]:GB)),0)).bind λo=>
    some (o,true))
theorem TV {a0}{r}(p:lZ a0=some r):CallOK ν 9 [.bZ (.st gP) a0] [⟨false,.str,r.1⟩,⟨false,.bool,r.2⟩] []:=
 dB Tryz.func9 rfl λcx t hF=>θ t [] bm (φ (bc p o9 λy1 J p=>θ t [oH,(cl J)] (bQ J) (Φ p (λah p=>θ t [] bm (by (cases p;exact (Δ (bF (ct bm)))))) λah p=>Θ (bp (bc p Fc λy4 R p=>θ t (nO 4 [⟨none,.Io tI⟩,oH,oH,(hT cC),(cl R)]) (bQ R) (φ (θ t [] bm (Φ p (λai p=>θ t [] bm (by (cases p;exact (Δ (bF (ct bm)))))) λai p=>Θ (bp (bg p λaj p=>θ t [] (bQ aj) (φ (θ t [] bm (ο (ϧ t p (λs8=>up [28,29] [(4,.one (.bG .str s8.1)),(30,iV s8.2)] [] [] 0) (λT=>(.exit 0,up [] [(4,.one (.bG .str T))] [] [] 0)) (λT p=>(bE (bp (θ t [] bm (by (cases p;exact (Δ (ct bm)))))))) λs8 Vh o U=>θ t [] bm (Ϻ o (λaa o=>ϰ o (λab=>up [28,29,30] [(4,.one (.bG .str ab))] [] [] 0) (λab o=>Υ t [] bm λ_ h=>(bM (lN o h))) λ_ j I=>ο (bg j λad j=>θ t [] (bQ ad) (θ t [] bm (Φ j (λae j=>bg j λaf j=>Υ t [] (bQ af) λ_ h=>(bB (bp (h.ht (I _ (bt j)))))) λae j=>bg j λag j=>Υ t [] (bQ ag) λ_ h=>(bB (bp (h.ht (I _ (bt j))))))))) λaa o=>Ϩ t (bL (bN (U _ (bw o)))))))))))))))))))
def gS (a0:GG)(j:Int×GI):Option ((Int×GI)⊕GI):=
 bif (decide (j.1<(bn a0.2.2))) then
  br (0<=j.1/\j.1<bn a0.2.2) (
   br (ζ j.2+ζ ([(ε a0.2.2 (δ j.1) (0,0,0,0)).1,((ε a0.2.2 (δ j.1) (0,0,0,0)).2).1,(((ε a0.2.2 (δ j.1) (0,0,0,0)).2).2).1,(((ε a0.2.2 (δ j.1) (0,0,0,0)).2).2).2]:GI)<=bD) (
    some (.inl ((bz .i64 j.1 1),(j.2++([(ε a0.2.2 (δ j.1) (0,0,0,0)).1,((ε a0.2.2 (δ j.1) (0,0,0,0)).2).1,(((ε a0.2.2 (δ j.1) (0,0,0,0)).2).2).1,(((ε a0.2.2 (δ j.1) (0,0,0,0)).2).2).2]:GI))))))
 else
  some (.inr j.2)
def jV (a0:GG):Option (GB×Bool):=
 (db (a0.1,a0.2.1,a0.2.2)).bind λo=>
 bif (!o) then
  some (([]:GB),false)
 else
  (rounds (gS a0) (0,([]:GI))).bind λp=>
  (hZ ([([a0.1,a0.2.1]:GI),p]:List GI)).bind λj=>
  some (j.1,j.2)
theorem QD {a0}{r}(p:jV a0=some r):CallOK ν 10 [.bZ (.st gR) a0] [⟨false,.str,r.1⟩,⟨false,.bool,r.2⟩] []:=
 dB Tryz.func10 rfl λcx o hF=>θ o [] bm (φ (bc p vA λy1 t p=>θ o [oH,(cl t)] (bQ t) (Φ p (λaa p=>θ o [] bm (by (cases p;exact (Δ (bF (ct bm)))))) λaa p=>Θ (bp (θ o [] bm (φ (θ o [] bm (ο (ϧ o p (λs4=>up [1,12,13] [(4,aV 4),(14,iV s4.1)] [0] [(4,.seq tI s4.2)] 4) (λr6=>(.exit 0,up [1] [(4,aV 4)] [0] [(4,.seq tI r6)] 4)) (λr6 p=>(bE (bp (by (refine (Le.rz [(0,0)] [] (st':=⟨[(1,pV 0 0),(4,nV r6)],[(0,.box [iC a0.1,iC a0.2.1,.bG gA a0.2.2])],5⟩) o hF (by kernel_rfl)).ht ?_;exact (bc p Fc λy7 I p=>θ o (nO 4 [⟨none,.Io tI⟩,oH,(hT cC),(cl I)]) (bQ I) (by (cases p;exact (Δ (ct bm)))))))))) λs4 x9 j J=>θ o [] bm (Ϻ j (λR j=>φ (ο (bg j λT j=>θ o [] (bQ T) (bg j λU j=>Μ o (nO 9 [(hT tI),(hT tI)]) (bQ U) (bB (bp (Υ o [] bm λ_ h=>(bM (lN j h))))))))) λR j=>Ϩ o (bL (bN (J _ (bw j))))))))))))))
def fe (a0:GM):Option GI:=
 (ft a0.2.2.2.1).bind λj=>
 (mL (a0.1,a0.2.1,a0.2.2.1,a0.2.2.2.1,a0.2.2.2.2) j).bind λo=>
 some o
theorem Fe {a0}{r}(j:fe a0=some r):CallOK ν 99 [.bZ (.st gM) a0] [⟨true,cC,r⟩] []:=
 dB Tryz.func99 rfl λcx t I=>θ t [] bm (bc j uM λJ o j=>θ t [oH,oH,(cl o)] (bQ o) (bc j BA λR p j=>θ t [oH,oH,(cl p)] (bQ p) (θ t [] bm (by (cases j;exact (Δ (ct bm)))))))
def l0 (a0:GM)(a1:GI)(a2:Int)(j:Int×GI):Option ((Int×GI)⊕GI):=
 bif (decide (j.1<(bn a0.2.2.1))) then
  (show Option GI from
   br (0<=j.1/\j.1<bn a0.2.2.1) (
    (some ((((ε a0.2.2.1 (δ j.1) (0,0,0,0)).2).2).1)).bind λp=>
    (some ((((ε a0.2.2.1 (δ j.1) (0,0,0,0)).2).2).2)).bind λo=>
    bif (p==a2) then
     br (0<=((ε a0.2.2.1 (δ j.1) (0,0,0,0)).2).1/\((ε a0.2.2.1 (δ j.1) (0,0,0,0)).2).1<bn j.2) (
      br (0<=(ε a0.2.2.1 (δ j.1) (0,0,0,0)).1/\(ε a0.2.2.1 (δ j.1) (0,0,0,0)).1<bn a1) (
       some (List.set j.2 (δ (((ε a0.2.2.1 (δ j.1) (0,0,0,0)).2).1)) (if (bz .i64 (ε a1 (δ ((ε a0.2.2.1 (δ j.1) (0,0,0,0)).1)) 0) o)<(ε j.2 (δ (((ε a0.2.2.1 (δ j.1) (0,0,0,0)).2).1)) 0) then (bz .i64 (ε a1 (δ ((ε a0.2.2.1 (δ j.1) (0,0,0,0)).1)) 0) o) else (ε j.2 (δ (((ε a0.2.2.1 (δ j.1) (0,0,0,0)).2).1)) 0)))))
    else
     some j.2)).bind λr=>
  some (.inl ((bz .i64 j.1 1),r))
 else
  some (.inr j.2)
def mQ (a0:GM)(a1:GI)(a2:Int):Option GI:=
 (cq ([1099511627776]:GI) (bn a1)).bind λj=>
 (rounds (l0 a0 a1 a2) (0,j)).bind λo=>
 (mL (a0.1,a0.2.1,a0.2.2.1,a0.2.2.2.1,a0.2.2.2.2) o).bind λp=>
 some p
theorem BC {a0}{a1}{a2}{r}(J:mQ a0 a1 a2=some r):CallOK ν 100 [.bZ (.st gM) a0,.bZ cC a1,.bZ tI a2] [⟨true,cC,r⟩] []:=
 dB Tryz.func100 rfl λcx t hF=>θ t [] bm (bc J wZ λy1 R J=>θ t [(hT tI),oH,oH,(cl R)] (bQ R) (φ (θ t [] bm (ο (ϧ t J (λs3=>up [1,2,3,7,15,16] [(17,iV s3.1)] [0] [(2,.seq tI s3.2)] 0) (λr5=>(.exit 0,up [3,7] [] [0] [(2,.seq tI r5)] 0)) (λr5 J=>(bE (bp (bc J BA λy6 T J=>θ t [oH,oH,(cl T)] (bQ T) (θ t [] bm (by (cases J;exact (Δ (ct bm))))))))) λs3 x8 o U=>θ t [] bm (Ϻ o (λaa o=>ϰ o (λab=>up [1,2,3,7,15,16,17] [] [0] [(2,.seq tI ab)] 0) (λab o=>Υ t [] bm λ_ h=>(bM (lN o h))) λ_ j I=>ο (bg j λad j=>θ t [] (bQ ad) (bq j λj=>bq j λj=>θ t [] bm (Φ j (λae j=>bg j λp j=>bg j λaf j=>HT.dk t [] (lF p (bS p) af p (bQ (bS p))) λ_ h=>(bB (bp (h.ht (I _ (bt j)))))) λae j=>Θ (bB (bp (HT.re t (I _ (bt j))))))))) λaa o=>Ϩ t (bL (bN (U _ (bw o))))))))))
def jK (a0:GM)(a1:GI)(j:Int×GI):Option ((Int×GI)⊕GI):=
 bif (decide (j.1<(bn a1))) then
  br (0<=j.1/\j.1<bn a1) (
   (mQ (a0.1,a0.2.1,a0.2.2.1,a0.2.2.2.1,a0.2.2.2.2) j.2 (ε a1 (δ j.1) 0)).bind λo=>
   some (.inl ((bz .i64 j.1 1),o)))
 else
  some (.inr j.2)
def pF (a0:GM)(a1:GI):Option (Int):=
 (fe (a0.1,a0.2.1,a0.2.2.1,a0.2.2.2.1,a0.2.2.2.2)).bind λj=>
 (rounds (jK a0 a1) (0,j)).bind λo=>
 (ft a0.2.2.2.2).bind λp=>
 (eK o p).bind λr=>
 some r
theorem QE {a0}{a1}{r}(p:pF a0 a1=some r):CallOK ν 51 [.bZ (.st gM) a0,.bZ cC a1] [⟨false,tI,r⟩] []:=
 dB Tryz.func51 rfl λcx o hF=>θ o [] bm (bc p Fe λy1 I p=>θ o [oH,(cl I)] (bQ I) (φ (θ o [] bm (ο (ϧ o p (λs3=>up [2,5,10,11] [(12,iV s3.1)] [0] [(1,.seq tI s3.2)] 0) (λr5=>(.exit 0,up [2,5] [] [0] [(1,.seq tI r5)] 0)) (λr5 p=>(bE (bp (bc p uM λy6 J p=>bc p uN λy8 R p=>θ o [oH,oH,oH,(cl J),(cl R)] (dp J R) (by (cases p;exact (Δ (ct bm)))))))) λs3 Zp j T=>θ o [] bm (Ϻ j (λU j=>φ (ο (bg j λaa j=>θ o [] (bQ aa) (bc j BC λRY t j=>Μ o [oH,oH,oH,(cl t)] (bQ t) (bB (bp (Υ o [] bm λ_ h=>(bM (lN j h))))))))) λU j=>Ϩ o (bL (bN (T _ (bw j))))))))))
def gr (a0:GI)(a1:Int):Option (Bool):=
 (show Option (Bool) from
  (cG a1 1 4).bind λj=>
  bif j then
   bif (decide ((bn a0)<=12)) then
    (eQ a0 0 (bW .i64 a1 1)).bind λo=>
    some o
   else
    some false
  else
   some false).bind λp=>
 some p
theorem BD {a0}{a1}{r}(T:gr a0 a1=some r):CallOK ν 50 [.bZ cC a0,.bZ tI a1] [⟨false,.bool,r⟩] []:=
 dB Tryz.func50 rfl λcx R hF=>θ R [] bm (ϰ T (λU=>up [] [(4,bV U)] [] [] 0) (λU T=>by (cases T;exact (Δ (ct bm)))) λ_ j I=>bc j gZ λy5 o j=>bb j (λp j=>bb j (λJ j=>bc j yx λy9 t j=>Υ R [oH,(cl o),kT,oH,oH,oH,oH,kT,oH,oH,oH,(cl t)] (nZ o p J t) λ_ h=>(bp (h.ht (I _ (bt j))))) λJ j=>Υ R [oH,(cl o),kT,oH,oH,oH,oH,kF] (ll o p J) λ_ h=>(bp (h.ht (I _ (bt j))))) λp j=>Υ R [oH,(cl o),kF] (dp o p) λ_ h=>(bp (h.ht (I _ (bt j)))))
def nG (a0:GM)(a1:GI):Option (Int×Bool):=
 (show Option (Bool) from
  (cy (a0.1,a0.2.1,a0.2.2.1,a0.2.2.2.1,a0.2.2.2.2)).bind λo=>
  bif (!o) then
   some true
  else
   (gr a1 a0.2.1).bind λj=>
   some (!j)).bind λp=>
 bif p then
  some (0,false)
 else
  (pF (a0.1,a0.2.1,a0.2.2.1,a0.2.2.2.1,a0.2.2.2.2) a1).bind λr=>
  some (r,true)
theorem QF {a0}{a1}{r}(p:nG a0 a1=some r):CallOK ν 17 [.bZ (.st gM) a0,.bZ cC a1] [⟨false,tI,r.1⟩,⟨false,.bool,r.2⟩] []:=
 dB Tryz.func17 rfl λcx J hF=>θ J [] bm (φ (ϰ p (λv2=>up [1,2] [(15,bV v2)] [0] [] 0) (λv2 p=>Φ p (λU p=>θ J [] bm (by (cases p;exact (Δ (bF (ct bm)))))) λU p=>Θ (bp (bc p QE λy6 R p=>θ J [oH,oH,(cl R)] (bQ R) (by (cases p;exact (Δ (ct bm))))))) λ_ j T=>bc j oY λy8 t j=>bb j (λo j=>Υ J [oH,(cl t),oH,kT] (dp t o) λ_ h=>(bp (h.ht (T _ (bt j))))) λo j=>bc j BD λLp I j=>Υ J [oH,(cl t),oH,kF,oH,oH,oH,(cl I)] (ll t o I) λ_ h=>(bp (h.ht (T _ (bt j))))))
def dy (a0:Int)(a1:Bool):Option (GB×Bool):=
 (iI a0).bind λj=>
 some (j,a1)
theorem sM {a0}{a1}{r}(o:dy a0 a1=some r):CallOK ν 135 [.bZ tI a0,.bZ .bool a1] [⟨false,.str,r.1⟩,⟨false,.bool,r.2⟩] []:=
 dB Tryz.func135 rfl λcx p t=>θ p [] bm (bc o Bt λI j o=>θ p [oH,(cl j)] (bQ j) (by (cases o;exact (Δ (ct bm)))))
end
end Go.Proofs
