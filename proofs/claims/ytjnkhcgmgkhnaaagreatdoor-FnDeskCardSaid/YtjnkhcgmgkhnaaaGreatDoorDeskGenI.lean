import Derived.Test.YtjnkhcgmgkhnaaaGreatDoorDeskGenH
import Derived.Test.YtjnkhcgmgkhnaaaGreatDoorProg
set_option linter.all false
open Go.Ide.CallOK renaming pX→ϯ
open Go.Ide.HT renaming g→θ,block→ξ,seq→υ,ret→Δ,skip→Η,k→Τ,cb→Ω,lp→Ϩ,xe→Ϫ,jn→ϰ,cj→ϻ,l→Ο
open Go.Lib renaming lastIndexByte→acC
open Go.Proofs.Tryz renaming prog→ν
open Go.RowKit.Below renaming refl→agq
open Int renaming toNat→δ
open List renaming getD→ε,length→ζ,replicate→π,set→aag
open Nat renaming zero_lt_one→Ν
namespace Go.Proofs
open Go.Ide
noncomputable section
def hU (p:List GB)(j:Int×GI):Option ((Int×GI)⊕(GI⊕Unit)):=
 bif (decide (j.1<(aW p))) then
  aY (0<=j.1/\j.1<aW p) (
   (ej (ε p (δ j.1) ([]:GB))).bind λo=>
   bif (!o.2) then
    some (.inr (.inr ()))
   else
    aY (ζ j.2+ζ ([o.1]:GI)<=bl) (
     some (.inl ((bf .i64 j.1 1),(j.2++([o.1]:GI))))))
 else
  some (.inr (.inl j.2))
def pv (a0:GB):Option (GI×Bool):=
 (rj a0).bind λj=>
 (rounds (hU j) (0,([]:GI))).bind λo=>match o with
  | .inl p=>
   some (p,true)
  | .inr r=>
   some (([]:GI),false)
theorem Qg {a0}{r}(I:pv a0=some r):CallOK ν 80 [.bP .str a0] [⟨true,cg,r.1⟩,⟨false,.bool,r.2⟩] []:=
 dn Tryz.func80 rfl λcx o hF=>θ o [] aU (θ o [] aU (υ (bc I Mz λy1 J I=>θ o [oH,(cl J)] (bD J) (ξ (Ϩ o I (λs3=>up [11,12] [(4,aV 3),(13,iV s3.1)] [0] [(3,.seq tI s3.2)] 3) (λr4=>match r4 with| .inl r5=>(.exit 0,up [] [(4,aV 3)] [] [(3,.seq tI r5)] 3)| .inr r6=>(.ret,up [] [(2,.one (.br)),(3,bV false)] [] [] 0)) (λr4=>match r4 with| .inl r5=>λI=>(bm (aX (θ o [] aU (by (cases I;exact (Δ (bY aU)))))))| .inr r6=>λI=>by (cases I;exact (bH (bn (bY aU))))) λs3 x7 j R=>θ o [] aU (ϻ j (λT j=>υ (ξ (bg j λp j=>θ o [] (dd p (bG p)) (bc j Gb λyJ t j=>θ o [oH,(cl t)] (bD t) (υ (θ o [] aU (Ω j (λU j=>θ o [] aU (HT.xr o (bn (bH (bn (eZ (R _ (bd j)))))))) λU j=>Η (aX (bg j λaa j=>Ο o [oH,oH,(hT tI),(hT tI)] (bD aa) (bj (aX (Τ o [] aU λ_ h=>(bz (lN j h)))))))))))))) λT j=>Ϫ o (bw (bA (R _ (bd j))))))))))
def fg (a0:GB):Option (GI×Bool):=
 (pv a0).bind λj=>
 (show Option (Bool) from
  bif (!j.2) then
   some true
  else
   some (decide ((aW j.1)>64))).bind λv4=>
 bif v4 then
  some (([]:GI),false)
 else
  some (j.1,true)
theorem EP {a0}{r}(o:fg a0=some r):CallOK ν 32 [.bP .str a0] [⟨true,cg,r.1⟩,⟨false,.bool,r.2⟩] []:=
 dn Tryz.func32 rfl λcx t T=>θ t [] aU (bc o Qg λU I o=>θ t [oH,(cl I)] (bD I) (υ (ϰ o (λv4=>up [4] [(17,bV v4)] [0] [] 0) (λv4 o=>Ω o (λR o=>θ t [] aU (by (cases o;exact (Δ (bn (bY aU)))))) λR o=>Η (aX (θ t [] aU (by (cases o;exact (Δ (bY aU))))))) λ_ j J=>bb j (λp j=>Τ t [oH,oH,kT] (bD p) λ_ h=>(aX (h.ht (J _ (aZ j))))) λp j=>Τ t [oH,oH,kF] (bD p) λ_ h=>(aX (h.ht (J _ (aZ j)))))))
def jr (p:List GB)(j:Int×List GI):Option ((Int×List GI)⊕(List GI⊕Unit)):=
 bif (decide (j.1<(aW p))) then
  aY (0<=j.1/\j.1<aW p) (
   (fg (ε p (δ j.1) ([]:GB))).bind λo=>
   bif (!o.2) then
    some (.inr (.inr ()))
   else
    aY (ζ j.2+ζ ([o.1]:List GI)<=bl) (
     some (.inl ((bf .i64 j.1 1),(j.2++([o.1]:List GI))))))
 else
  some (.inr (.inl j.2))
def dK (a0:GB)(a1:Int):Option (List GI×Bool):=
 (strings_Split a0 ([59]:GB)).bind λo=>
 (rounds (jr o) (0,([]:List GI))).bind λp=>match p with
  | .inl j=>
   some (j,((aW j)==a1))
  | .inr r=>
   some (([]:List GI),false)
theorem ES {a0}{a1}{r}(I:dK a0 a1=some r):CallOK ν 75 [.bP .str a0,.bP tI a1] [⟨true,(.sl (.own tI)),r.1⟩,⟨false,.bool,r.2⟩] []:=
 dn Tryz.func75 rfl λcx o hF=>θ o [] aU (θ o [] aU (υ (bc I A0 λy1 J I=>θ o [oH,(cl J)] (bD J) (ξ (Ϩ o I (λs3=>up [1,13,14] [(6,aV 4),(15,iV s3.1)] [0] [(4,.seq (.own tI) s3.2)] 4) (λr4=>match r4 with| .inl r5=>(.exit 0,up [1] [(6,aV 4)] [] [(4,.seq (.own tI) r5)] 4)| .inr r6=>(.ret,up [] [(4,.one (.br)),(5,bV false)] [] [] 0)) (λr4=>match r4 with| .inl r5=>λI=>(bm (aX (θ o [] aU (by (cases I;exact (Δ (bY aU)))))))| .inr r6=>λI=>by (cases I;exact (bH (bn (bY aU))))) λs3 x7 j R=>θ o [] aU (ϻ j (λT j=>υ (ξ (bg j λp j=>θ o [] (dd p (bG p)) (bc j EP λyJ t j=>θ o [oH,(cl t)] (bD t) (υ (θ o [] aU (Ω j (λU j=>θ o [] aU (HT.xr o (bn (bH (bn (eZ (R _ (bd j)))))))) λU j=>Η (aX (bg j λaa j=>Ο o [oH,oH,(hT (.own tI)),(hT (.own tI))] (bD aa) (bj (aX (Τ o [] aU λ_ h=>(bz (lN j h)))))))))))))) λT j=>Ϫ o (bw (bA (R _ (bd j))))))))))
def gC (j:GI)(o:GL):Option (GL):=
 aY ((0:Int)<=0/\0<aW j) (
  aY ((0:Int)<=1/\1<aW j) (
   aY ((0:Int)<=2/\2<aW j) (
    aY ((0:Int)<=3/\3<aW j) (
     aY (ζ o+ζ ([((ε j (δ 0) 0),(ε j (δ 1) 0),(ε j (δ 2) 0),(ε j (δ 3) 0))]:GL)<=bl) (
      some (o++([((ε j (δ 0) 0),(ε j (δ 1) 0),(ε j (δ 2) 0),(ε j (δ 3) 0))]:GL)))))))
def eo (a0:GB):Option (GM×Bool):=
 (dK a0 4).bind λj=>
 (show Option (Bool) from
  bif (!j.2) then
   some true
  else
   aY ((0:Int)<=0/\0<aW j.1) (
    bif ((aW (ε j.1 (δ 0) ([]:GI))) != 2) then
     some true
    else
     aY ((0:Int)<=3/\3<aW j.1) (
      some ((Int.tmod (aW (ε j.1 (δ 3) ([]:GI))) 4) != 0)))).bind λv4=>
 bif v4 then
  some ((0,0,([]:GL),([]:GI),([]:GI)),false)
 else
  aY ((0:Int)<=0/\0<aW j.1) (
   aY ((0:Int)<=0/\0<aW (ε j.1 (δ 0) ([]:GI))) (
    aY ((0:Int)<=1/\1<aW (ε j.1 (δ 0) ([]:GI))) (
     aY ((0:Int)<=1/\1<aW j.1) (
      aY ((0:Int)<=2/\2<aW j.1) (
       aY ((0:Int)<=3/\3<aW j.1) (
        aY (δ 3<ζ j.1) (
         aY (δ 1<ζ j.1) (
          aY (δ 2<ζ j.1) (
           (rZ (gC) (ε j.1 (δ 3) ([]:GI)) ([]:GL)).bind λp=>
           (ft ((ε (ε j.1 (δ 0) ([]:GI)) (δ 0) 0),(ε (ε j.1 (δ 0) ([]:GI)) (δ 1) 0),p,(ε j.1 (δ 1) ([]:GI)),(ε j.1 (δ 2) ([]:GI)))).bind λo=>
           some ((o.1.1,o.1.2.1,o.1.2.2.1,o.1.2.2.2.1,o.1.2.2.2.2),o.2))))))))))
theorem JS {a0}{r}(t:eo a0=some r):CallOK ν 29 [.bP .str a0] [⟨true,(.st gM),r.1⟩,⟨false,.bool,r.2⟩] []:=
 Ul false Tryz.func29 rfl λcx J hF az=>θ J [] aU (bc t ES λo ak t=>θ J [oH,(cl ak)] (bD ak) (υ (ϰ t (λv4=>up [2,4] [(29,bV v4)] [0,1] [] 0) (λv4 t=>Ω t (λaA t=>θ J [] aU (by (cases t;exact (Δ (bn (bY aU)))))) λaA t=>Η (aX (bg t λab t=>bg t λal t=>bg t λad t=>bg t λae t=>bg t λaf t=>HT.dg J [] (iE ab (bG ab) al (bG al) (iE ab (bG ab) ad (bG ad) (nB ae (bG ae) af (bG af)))) (υ (bg t λag t=>bg t λan t=>bg t λao t=>bg t λaq t=>bo t λr18 ar t=>HT.eg ⟨[(2,pV 0 0),(4,aV 1),(6,pV 2 0)],[(2,.box [iC (ε (ε o.1 (δ 0) ([]:GI)) (δ 0) 0),iC (ε (ε o.1 (δ 0) ([]:GI)) (δ 1) 0),.br,.row 1 (δ 1) 0,.row 1 (δ 2) 0]),(0,.box [iC 0,iC 0,.br,.br,.br]),(1,.seq (.own tI) o.1)],3⟩ J (by (refine HT.chunk (λ(U:GL)=>⟨[(2,pV 0 0),(6,pV 2 0),(50,nV (ε o.1 (δ 3) ([]:GI)))],[(0,.box [iC 0,iC 0,.br,.br,.br]),(2,.box [iC (ε (ε o.1 (δ 0) ([]:GI)) (δ 0) 0),iC (ε (ε o.1 (δ 0) ([]:GI)) (δ 1) 0),.all 8,.all 4,.all 5]),(8,.seq (.st gQ) U),(4,.seq tI (ε o.1 (δ 1) ([]:GI))),(5,.seq tI (ε o.1 (δ 2) ([]:GI)))],9⟩) (n:=3) (rs:=[oH,oH,oH]) (st1:=⟨[(50,.one (.row 1 (δ 3) 0)),(49,.one (.cZ 1 (δ 3) 1 0)),(48,aV 1),(2,pV 0 0),(4,aV 1),(6,pV 2 0)],[(2,.box [iC (ε (ε o.1 (δ 0) ([]:GI)) (δ 0) 0),iC (ε (ε o.1 (δ 0) ([]:GI)) (δ 1) 0),.br,.row 1 (δ 1) 0,.row 1 (δ 2) 0]),(0,.box [iC 0,iC 0,.br,.br,.br]),(1,.seq (.own tI) o.1)],3⟩) (ks:=[2,6,50]) (ts:=50) (ta:=7) J az chunkFn rfl rfl rfl rfl rfl rfl rfl (by kernel_rfl) (dd ag (bG ag)) (((((Le.gc (ks:=[2,6,50]) (ms:=[2,0,1]) (st':=⟨[(2,pV 0 0),(6,pV 2 0),(50,.one (.row 1 (δ 3) 0))],[(2,.box [iC (ε (ε o.1 (δ 0) ([]:GI)) (δ 0) 0),iC (ε (ε o.1 (δ 0) ([]:GI)) (δ 1) 0),.br,.row 1 (δ 1) 0,.row 1 (δ 2) 0]),(0,.box [iC 0,iC 0,.br,.br,.br]),(1,.seq (.own tI) o.1)],3⟩) (cs:=[]) J (rfl:some (⟨[(50,.one (.row 1 (δ 3) 0)),(49,.one (.cZ 1 (δ 3) 1 0)),(48,aV 1),(2,pV 0 0),(4,aV 1),(6,pV 2 0)],[(2,.box [iC (ε (ε o.1 (δ 0) ([]:GI)) (δ 0) 0),iC (ε (ε o.1 (δ 0) ([]:GI)) (δ 1) 0),.br,.row 1 (δ 1) 0,.row 1 (δ 2) 0]),(0,.box [iC 0,iC 0,.br,.br,.br]),(1,.seq (.own tI) o.1)],3⟩,([]:List Prop))=_) (by kernel_rfl)).2).trans (Le.take (own:=[]) (st':=⟨[(2,pV 0 0),(6,pV 2 0),(50,aV 3)],[(1,.gone),(3,.seq tI (ε o.1 (δ 3) ([]:GI))),(4,.seq tI (ε o.1 (δ 1) ([]:GI))),(5,.seq tI (ε o.1 (δ 2) ([]:GI))),(2,.box [iC (ε (ε o.1 (δ 0) ([]:GI)) (δ 0) 0),iC (ε (ε o.1 (δ 0) ([]:GI)) (δ 1) 0),.br,.all 4,.all 5]),(0,.box [iC 0,iC 0,.br,.br,.br]),(1,.seq (.own tI) o.1)],6⟩) 1 [(δ 3,0,3),(δ 1,0,4),(δ 2,0,5)] J.own (by kernel_rfl) (gy an (gy ao (gy aq aU))))).trans (Le.rz [(4,4),(5,5),(2,2),(0,0)] [] (st':=⟨[(2,pV 0 0),(6,pV 2 0),(50,nV (ε o.1 (δ 3) ([]:GI)))],[(4,.seq tI (ε o.1 (δ 1) ([]:GI))),(5,.seq tI (ε o.1 (δ 2) ([]:GI))),(2,.box [iC (ε (ε o.1 (δ 0) ([]:GI)) (δ 0) 0),iC (ε (ε o.1 (δ 0) ([]:GI)) (δ 1) 0),.br,.all 4,.all 5]),(0,.box [iC 0,iC 0,.br,.br,.br])],6⟩) J hF (by kernel_rfl))).trans (Le.re [(0,0),(2,2),(4,4),(5,5)] [8] (st':=⟨[(2,pV 0 0),(6,pV 2 0),(50,nV (ε o.1 (δ 3) ([]:GI)))],[(0,.box [iC 0,iC 0,.br,.br,.br]),(2,.box [iC (ε (ε o.1 (δ 0) ([]:GI)) (δ 0) 0),iC (ε (ε o.1 (δ 0) ([]:GI)) (δ 1) 0),.all 8,.all 4,.all 5]),(8,.seq (.st gQ) ([]:GL)),(4,.seq tI (ε o.1 (δ 1) ([]:GI))),(5,.seq tI (ε o.1 (δ 2) ([]:GI)))],9⟩) J (by kernel_rfl))) (λ_=>rfl) (λ_=>rfl) (by kernel_rfl) (by kernel_rfl) (by kernel_rfl) ar (λj U s22 p cx J=> ?_) ?_;exact (bg p λau p=>bg p λav p=>bg p λaw p=>bg p λax p=>bg p λay p=>by (have p:=aZ p;exact (by (subst p;exact (by (exact ⟨⟨[(70,pV 2 2),(69,aV 10),(68,aV 9),(67,.agg [iC (ε j (δ 0) 0),iC (ε j (δ 1) 0),iC (ε j (δ 2) 0),iC (ε j (δ 3) 0)]),(66,iV (ε j (δ 3) 0)),(65,.one (.ip tI (ε j (δ 3) 0) 0)),(64,nV j),(63,iV (ε j (δ 2) 0)),(62,.one (.ip tI (ε j (δ 2) 0) 0)),(61,nV j),(60,iV (ε j (δ 1) 0)),(59,.one (.ip tI (ε j (δ 1) 0) 0)),(58,nV j),(57,iV (ε j (δ 0) 0)),(56,.one (.ip tI (ε j (δ 0) 0) 0)),(55,nV j),(54,aV 8),(53,pV 2 2),(7,nV j),(2,pV 0 0),(6,pV 2 0),(50,nV (ε o.1 (δ 3) ([]:GI)))],[(2,.box [iC (ε (ε o.1 (δ 0) ([]:GI)) (δ 0) 0),iC (ε (ε o.1 (δ 0) ([]:GI)) (δ 1) 0),.all 10,.all 4,.all 5]),(8,.gone),(10,.seq (.st gQ) (U++([((ε j (δ 0) 0),(ε j (δ 1) 0),(ε j (δ 2) 0),(ε j (δ 3) 0))]:GL))),(9,.seq (.st gQ) ([((ε j (δ 0) 0),(ε j (δ 1) 0),(ε j (δ 2) 0),(ε j (δ 3) 0))]:GL)),(0,.box [iC 0,iC 0,.br,.br,.br]),(2,.box [iC (ε (ε o.1 (δ 0) ([]:GI)) (δ 0) 0),iC (ε (ε o.1 (δ 0) ([]:GI)) (δ 1) 0),.all 8,.all 4,.all 5]),(8,.seq (.st gQ) U),(4,.seq tI (ε o.1 (δ 1) ([]:GI))),(5,.seq tI (ε o.1 (δ 2) ([]:GI)))],11⟩,ue.draw 16 (hrs:=[⟨oH,[]⟩,⟨oH,[0]⟩,⟨oH,[]⟩,⟨oH,[2]⟩,⟨oH,[2,3]⟩,⟨oH,[]⟩,⟨oH,[5]⟩,⟨oH,[5,6]⟩,⟨oH,[]⟩,⟨oH,[8]⟩,⟨oH,[8,9]⟩,⟨oH,[]⟩,⟨oH,[11]⟩,⟨oH,[11,12]⟩,⟨oH,[2,3,4,5,6,7,8,9,10,11,12,13]⟩,⟨(hT (.st gQ)),[2,3,4,5,6,7,8,9,10,11,12,13,14]⟩]) (tds:=[[0,1,2,3,4,5,6,7,8,9,10,11,12,13,14,15],[0,1,2,3,4,5,6,7,8,9,10,11,12,13,14,15,16],[0,1,2,3,4,5,6,7,8,9,10,11,12,13,14,15,16,17]]) (rs:=[(hT (.st gQ)),oH,oH]) J (by kernel_rfl) (by kernel_rfl) (iE au av aw ax (bD ay)),Le.re [(0,0),(2,2),(10,8),(4,4),(5,5)] [] (st':=⟨[(2,pV 0 0),(6,pV 2 0),(50,nV (ε o.1 (δ 3) ([]:GI)))],[(0,.box [iC 0,iC 0,.br,.br,.br]),(2,.box [iC (ε (ε o.1 (δ 0) ([]:GI)) (δ 0) 0),iC (ε (ε o.1 (δ 0) ([]:GI)) (δ 1) 0),.all 8,.all 4,.all 5]),(8,.seq (.st gQ) (U++([((ε j (δ 0) 0),(ε j (δ 1) 0),(ε j (δ 2) 0),(ε j (δ 3) 0))]:GL))),(4,.seq tI (ε o.1 (δ 1) ([]:GI))),(5,.seq tI (ε o.1 (δ 2) ([]:GI)))],9⟩) J (by kernel_rfl)⟩))))));exact (aX (bc t xP λSG ah t=>θ J [oH,(cl ah)] (bD ah) (by (cases t;exact (Δ (bY aU))))))))))))) λ_ I aj=>bb I (λR I=>Τ J [oH,oH,kT] (bD R) λ_ h=>(aX (h.ht (aj _ (aZ I))))) λR I=>bg I λT I=>bb I (λaa I=>Τ J [oH,oH,kF,oH,oH,oH,oH,oH,oH,kT] (nB R T (bG T) aa) λ_ h=>(aX (h.ht (aj _ (aZ I))))) λaa I=>bg I λai I=>Τ J [oH,oH,kF,oH,oH,oH,oH,oH,oH,kF] (iE R T (bG T) aa (kQ ai (bG ai) (show (4:Int)≠0 from by decide))) λ_ h=>(aX (h.ht (aj _ (aZ I)))))))
def strings_LastIndexByte (a0:GB)(a1:Int):Option (Int):=
 aY (a0.length<4611686018427387904)<|some (acC ⟨a0.toArray⟩ a1)
theorem Qh {a0}{a1}{r}(h:strings_LastIndexByte a0 a1=some r):CallOK ν 78 [.bP .str a0,.bP (.int .u8) a1] [⟨false,tI,r⟩] []:=by
 obtain ⟨o,h⟩:=iK h;have h:=aZ h;subst h;exact uR (ps:=[⟨.str,a0⟩,⟨(.int .u8),a1⟩]) (rs:=[⟨tI,acC ⟨a0.toArray⟩ a1⟩]) ⟨_,Tryz.func78,by kernel_rfl,by kernel_rfl⟩ (by simp [Ty.simple]) (by simp [Ty.simple]) λw S j=>by
  obtain ⟨m,I⟩:=Glob.HO j;exact (Tryz.strings_LastIndexByte ⟨a0.toArray⟩ _ o w).mono λe w' ⟨p,t⟩=>⟨⟨_,p,rfl⟩,t▸agq _ _⟩
def gq (a0:GB)(o:Int)(j:Int×GZ):Option ((Int×GZ)⊕(GZ⊕Unit)):=
 bif (decide (j.1<(aW (cM (cut a0 (bf .i64 o 1) (aW a0)))))) then
  aY (0<=j.1/\j.1<aW (cM (cut a0 (bf .i64 o 1) (aW a0)))) (
   (show Option (Bool) from
    bif ((ε (cM (cut a0 (bf .i64 o 1) (aW a0))) (δ j.1) 0) != 48) then
     some ((ε (cM (cut a0 (bf .i64 o 1) (aW a0))) (δ j.1) 0) != 49)
    else
     some false).bind λp=>
   bif p then
    some (.inr (.inr ()))
   else
    aY (ζ j.2+ζ ([((ε (cM (cut a0 (bf .i64 o 1) (aW a0))) (δ j.1) 0)==49)]:GZ)<=bl) (
     some (.inl ((bf .i64 j.1 1),(j.2++([((ε (cM (cut a0 (bf .i64 o 1) (aW a0))) (δ j.1) 0)==49)]:GZ))))))
 else
  some (.inr (.inl j.2))
def fC (a0:GB):Option (GP×Bool):=
 (strings_LastIndexByte a0 59).bind λo=>
 bif (decide (o<0)) then
  some ((0,0,([]:GI),([]:GZ)),false)
 else
  aY (0<=o/\o<=aW a0) (
   (dK (cut a0 0 o) 2).bind λj=>
   (show Option (Bool) from
    bif (!j.2) then
     some true
    else
     aY ((0:Int)<=0/\0<aW j.1) (
      some ((aW (ε j.1 (δ 0) ([]:GI))) != 2))).bind λR=>
   bif R then
    some ((0,0,([]:GI),([]:GZ)),false)
   else
    aY ((0:Int)<=0/\0<aW j.1) (
     aY ((0:Int)<=0/\0<aW (ε j.1 (δ 0) ([]:GI))) (
      aY ((0:Int)<=1/\1<aW (ε j.1 (δ 0) ([]:GI))) (
       aY ((0:Int)<=1/\1<aW j.1) (
        aY (δ 1<ζ j.1) (
         aY (0<=(bf .i64 o 1)/\(bf .i64 o 1)<=aW a0) (
          aY (ζ (cut a0 (bf .i64 o 1) (aW a0))<=bl) (
           (some (ε (ε j.1 (δ 0) ([]:GI)) (δ 0) 0)).bind λp=>
           (some (ε (ε j.1 (δ 0) ([]:GI)) (δ 1) 0)).bind λr=>
           (rounds (gq a0 o) (0,([]:GZ))).bind λI=>match I with
            | .inl t=>
             (cr (p,r,(ε j.1 (δ 1) ([]:GI)),t)).bind λJ=>
             bif (!J) then
              some ((0,0,([]:GI),([]:GZ)),false)
             else
              some ((p,r,(ε j.1 (δ 1) ([]:GI)),t),true)
            | .inr T=>
             some ((0,0,([]:GI),([]:GZ)),false)))))))))
theorem JT {a0}{r}(o:fC a0=some r):CallOK ν 30 [.bP .str a0] [⟨true,(.st gP),r.1⟩,⟨false,.bool,r.2⟩] []:=
 dn Tryz.func30 rfl λcx p hF=>θ p [] aU (bc o Qh λy1 al o=>θ p [oH,(cl al)] (bD al) (υ (θ p [] aU (Ω o (λaC o=>θ p [] aU (by (cases o;exact (Δ (bn (bY aU)))))) λaC o=>Η (aX (bg o λaD o=>bc o ES λR an o=>θ p [oH,oH,oH,(cl an)] (dd (Sy aD) an) (υ (ϰ o (λv8=>up [0,2,4,5] [(30,bV v8)] [0,1] [] 0) (λv8 o=>Ω o (λao o=>θ p [] aU (by (cases o;exact (Δ (bn (bY aU)))))) λao o=>Η (aX (bg o λJ o=>bg o λaa o=>bg o λab o=>bg o λad o=>HT.dg p [] (iE J (bG J) aa (bG aa) (iE J (bG J) ab (bG ab) (dd ad (bG ad)))) (bg o λaq o=>HT.eg ⟨[(0,.one (.bp .str a0)),(2,pV 0 0),(4,iV y1),(7,pV 2 0)],[(2,.box [iC (ε (ε R.1 (δ 0) ([]:GI)) (δ 0) 0),iC (ε (ε R.1 (δ 0) ([]:GI)) (δ 1) 0),.row 1 (δ 1) 0,.br]),(0,.box [iC 0,iC 0,.br,.br]),(1,.seq (.own tI) R.1)],3⟩ p (by (refine (Le.take (own:=[]) (st':=⟨[(0,.one (.bp .str a0)),(2,pV 0 0),(4,iV y1),(7,pV 2 0)],[(1,.gone),(3,.seq tI (ε R.1 (δ 1) ([]:GI))),(2,.box [iC (ε (ε R.1 (δ 0) ([]:GI)) (δ 0) 0),iC (ε (ε R.1 (δ 0) ([]:GI)) (δ 1) 0),.all 3,.br]),(0,.box [iC 0,iC 0,.br,.br]),(1,.seq (.own tI) R.1)],4⟩) 1 [(δ 1,0,3)] p.own (by kernel_rfl) (gy aq aU)).ht ?_;exact (υ (bg o λar o=>bg o λau o=>θ p [] (dd (Sz ar) au) (bq o λo=>bq o λo=>ξ (Ϩ p o (λaj=>up [2,7,50,51] [(52,iV aj.1)] [0,4,3] [(2,.box [iC (ε (ε R.1 (δ 0) ([]:GI)) (δ 0) 0),iC (ε (ε R.1 (δ 0) ([]:GI)) (δ 1) 0),.all 3,.all 7]),(7,.seq .bool aj.2)] 3) (λak=>match ak with| .inl av=>(.exit 0,up [2,7] [] [0,3] [(2,.box [iC (ε (ε R.1 (δ 0) ([]:GI)) (δ 0) 0),iC (ε (ε R.1 (δ 0) ([]:GI)) (δ 1) 0),.all 3,.all 7]),(7,.seq .bool av)] 3)| .inr aE=>(.ret,up [2] [(3,bV false)] [0] [] 0)) (λak=>match ak with| .inl av=>λo=>(bm (aX (υ (bc o oN λYm ae o=>θ p [oH,(cl ae)] (bD ae) (Ω o (λaw o=>θ p [] aU (by (cases o;exact (Δ (bn (bY aU)))))) λaw o=>Η (aX (θ p [] aU (by (cases o;exact (Δ (bY aU)))))))))))| .inr aE=>λo=>by (cases o;exact (bH (bn (bY aU))))) λaj x30 j af=>θ p [] aU (ϻ j (λax j=>υ (ξ (bg j λag j=>θ p [] (dd ag (bG ag)) (υ (ϰ j (λay=>up [2,7,9,50,51,52] [(61,bV ay)] [0,2,4,3,7] [] 0) (λay j=>Ω j (λaz j=>θ p [] aU (HT.xr p (bn (bH (bn (eZ (af _ (bd j)))))))) λaz j=>Η (aX (bg j λaA j=>Ο p (nO 4 [(hT .bool),(hT .bool)]) (bD aA) (bj (aX (Τ p [] aU λ_ h=>(bz (lN j h)))))))) λ_ I ah=>bb I (λT I=>Τ p [oH,oH,kT] (bD T) λ_ h=>(aX (h.ht (ah _ (aZ I))))) λT I=>Τ p [oH,oH,kF] (bD T) λ_ h=>(aX (h.ht (ah _ (aZ I))))))))) λax j=>Ϫ p (bw (bA (af _ (bd j))))))))))))))) λ_ t aB=>bb t (λU t=>Τ p [oH,oH,kT] (bD U) λ_ h=>(aX (h.ht (aB _ (aZ t))))) λU t=>bg t λai t=>Τ p [oH,oH,kF] (kQ U ai (bG ai)) λ_ h=>(aX (h.ht (aB _ (aZ t))))))))))))
def gD (j:GI)(o:GL):Option (GL):=
 aY ((0:Int)<=0/\0<aW j) (
  aY ((0:Int)<=1/\1<aW j) (
   aY ((0:Int)<=2/\2<aW j) (
    aY ((0:Int)<=3/\3<aW j) (
     aY (ζ o+ζ ([((ε j (δ 0) 0),(ε j (δ 1) 0),(ε j (δ 2) 0),(ε j (δ 3) 0))]:GL)<=bl) (
      some (o++([((ε j (δ 0) 0),(ε j (δ 1) 0),(ε j (δ 2) 0),(ε j (δ 3) 0))]:GL)))))))
def ep (a0:GB):Option (GG×Bool):=
 (dK a0 2).bind λj=>
 (show Option (Bool) from
  bif (!j.2) then
   some true
  else
   aY ((0:Int)<=0/\0<aW j.1) (
    bif ((aW (ε j.1 (δ 0) ([]:GI))) != 2) then
     some true
    else
     aY ((0:Int)<=1/\1<aW j.1) (
      some ((Int.tmod (aW (ε j.1 (δ 1) ([]:GI))) 4) != 0)))).bind λv4=>
 bif v4 then
  some ((0,0,([]:GL)),false)
 else
  aY ((0:Int)<=0/\0<aW j.1) (
   aY ((0:Int)<=0/\0<aW (ε j.1 (δ 0) ([]:GI))) (
    aY ((0:Int)<=1/\1<aW (ε j.1 (δ 0) ([]:GI))) (
     (some (ε (ε j.1 (δ 0) ([]:GI)) (δ 0) 0)).bind λp=>
     (some (ε (ε j.1 (δ 0) ([]:GI)) (δ 1) 0)).bind λr=>
     aY ((0:Int)<=1/\1<aW j.1) (
      aY (δ 1<ζ j.1) (
       (rZ (gD) (ε j.1 (δ 1) ([]:GI)) ([]:GL)).bind λt=>
       (cY (p,r,t)).bind λo=>
       some ((o.1.1,o.1.2.1,o.1.2.2),o.2))))))
theorem JU {a0}{r}(t:ep a0=some r):CallOK ν 31 [.bP .str a0] [⟨true,(.st gR),r.1⟩,⟨false,.bool,r.2⟩] []:=
 Ul false Tryz.func31 rfl λcx J hF av=>θ J [] aU (bc t ES λp ai t=>θ J [oH,(cl ai)] (bD ai) (υ (ϰ t (λv4=>up [2,4] [(29,bV v4)] [0,1] [] 0) (λv4 t=>Ω t (λaw t=>θ J [] aU (by (cases t;exact (Δ (bn (bY aU)))))) λaw t=>Η (aX (bg t λab t=>bg t λaj t=>bg t λad t=>HT.dg J [] (iE ab (bG ab) aj (bG aj) (nB ab (bG ab) ad (bG ad))) (bq t λt=>bq t λt=>υ (bg t λae t=>bg t λak t=>bo t λr18 al t=>HT.ex ⟨[(2,pV 0 0),(4,aV 1),(6,pV 2 0)],[(2,.box [iC (ε (ε p.1 (δ 0) ([]:GI)) (δ 0) 0),iC (ε (ε p.1 (δ 0) ([]:GI)) (δ 1) 0),.br]),(0,.box [iC 0,iC 0,.br]),(1,.seq (.own tI) p.1)],3⟩ J (by (refine HT.chunk (λ(U:GL)=>⟨[(2,pV 0 0),(6,pV 2 0),(44,nV (ε p.1 (δ 1) ([]:GI)))],[(0,.box [iC 0,iC 0,.br]),(2,.box [iC (ε (ε p.1 (δ 0) ([]:GI)) (δ 0) 0),iC (ε (ε p.1 (δ 0) ([]:GI)) (δ 1) 0),.all 6]),(6,.seq (.st gQ) U)],7⟩) (n:=3) (rs:=[oH,oH,oH]) (st1:=⟨[(44,.one (.row 1 (δ 1) 0)),(43,.one (.cZ 1 (δ 1) 1 0)),(42,aV 1),(2,pV 0 0),(4,aV 1),(6,pV 2 0)],[(2,.box [iC (ε (ε p.1 (δ 0) ([]:GI)) (δ 0) 0),iC (ε (ε p.1 (δ 0) ([]:GI)) (δ 1) 0),.br]),(0,.box [iC 0,iC 0,.br]),(1,.seq (.own tI) p.1)],3⟩) (ks:=[2,6,44]) (ts:=44) (ta:=7) J av chunkFn rfl rfl rfl rfl rfl rfl rfl (by kernel_rfl) (dd ae (bG ae)) (((((Le.gc (ks:=[2,6,44]) (ms:=[2,0,1]) (st':=⟨[(2,pV 0 0),(6,pV 2 0),(44,.one (.row 1 (δ 1) 0))],[(2,.box [iC (ε (ε p.1 (δ 0) ([]:GI)) (δ 0) 0),iC (ε (ε p.1 (δ 0) ([]:GI)) (δ 1) 0),.br]),(0,.box [iC 0,iC 0,.br]),(1,.seq (.own tI) p.1)],3⟩) (cs:=[]) J (rfl:some (⟨[(44,.one (.row 1 (δ 1) 0)),(43,.one (.cZ 1 (δ 1) 1 0)),(42,aV 1),(2,pV 0 0),(4,aV 1),(6,pV 2 0)],[(2,.box [iC (ε (ε p.1 (δ 0) ([]:GI)) (δ 0) 0),iC (ε (ε p.1 (δ 0) ([]:GI)) (δ 1) 0),.br]),(0,.box [iC 0,iC 0,.br]),(1,.seq (.own tI) p.1)],3⟩,([]:List Prop))=_) (by kernel_rfl)).2).trans (Le.take (own:=[]) (st':=⟨[(2,pV 0 0),(6,pV 2 0),(44,aV 3)],[(1,.gone),(3,.seq tI (ε p.1 (δ 1) ([]:GI))),(2,.box [iC (ε (ε p.1 (δ 0) ([]:GI)) (δ 0) 0),iC (ε (ε p.1 (δ 0) ([]:GI)) (δ 1) 0),.br]),(0,.box [iC 0,iC 0,.br]),(1,.seq (.own tI) p.1)],4⟩) 1 [(δ 1,0,3)] J.own (by kernel_rfl) (gy ak aU))).trans (Le.rz [(2,2),(0,0)] [] (st':=⟨[(2,pV 0 0),(6,pV 2 0),(44,nV (ε p.1 (δ 1) ([]:GI)))],[(2,.box [iC (ε (ε p.1 (δ 0) ([]:GI)) (δ 0) 0),iC (ε (ε p.1 (δ 0) ([]:GI)) (δ 1) 0),.br]),(0,.box [iC 0,iC 0,.br])],4⟩) J hF (by kernel_rfl))).trans (Le.re [(0,0),(2,2)] [6] (st':=⟨[(2,pV 0 0),(6,pV 2 0),(44,nV (ε p.1 (δ 1) ([]:GI)))],[(0,.box [iC 0,iC 0,.br]),(2,.box [iC (ε (ε p.1 (δ 0) ([]:GI)) (δ 0) 0),iC (ε (ε p.1 (δ 0) ([]:GI)) (δ 1) 0),.all 6]),(6,.seq (.st gQ) ([]:GL))],7⟩) J (by kernel_rfl))) (λ_=>rfl) (λ_=>rfl) (by kernel_rfl) (by kernel_rfl) (by kernel_rfl) al (λj U s22 o cx J=> ?_) ?_;exact (bg o λan o=>bg o λao o=>bg o λaq o=>bg o λar o=>bg o λau o=>by (have o:=aZ o;exact (by (subst o;exact (by (exact ⟨⟨[(64,pV 2 2),(63,aV 8),(62,aV 7),(61,.agg [iC (ε j (δ 0) 0),iC (ε j (δ 1) 0),iC (ε j (δ 2) 0),iC (ε j (δ 3) 0)]),(60,iV (ε j (δ 3) 0)),(59,.one (.ip tI (ε j (δ 3) 0) 0)),(58,nV j),(57,iV (ε j (δ 2) 0)),(56,.one (.ip tI (ε j (δ 2) 0) 0)),(55,nV j),(54,iV (ε j (δ 1) 0)),(53,.one (.ip tI (ε j (δ 1) 0) 0)),(52,nV j),(51,iV (ε j (δ 0) 0)),(50,.one (.ip tI (ε j (δ 0) 0) 0)),(49,nV j),(48,aV 6),(47,pV 2 2),(7,nV j),(2,pV 0 0),(6,pV 2 0),(44,nV (ε p.1 (δ 1) ([]:GI)))],[(2,.box [iC (ε (ε p.1 (δ 0) ([]:GI)) (δ 0) 0),iC (ε (ε p.1 (δ 0) ([]:GI)) (δ 1) 0),.all 8]),(6,.gone),(8,.seq (.st gQ) (U++([((ε j (δ 0) 0),(ε j (δ 1) 0),(ε j (δ 2) 0),(ε j (δ 3) 0))]:GL))),(7,.seq (.st gQ) ([((ε j (δ 0) 0),(ε j (δ 1) 0),(ε j (δ 2) 0),(ε j (δ 3) 0))]:GL)),(0,.box [iC 0,iC 0,.br]),(2,.box [iC (ε (ε p.1 (δ 0) ([]:GI)) (δ 0) 0),iC (ε (ε p.1 (δ 0) ([]:GI)) (δ 1) 0),.all 6]),(6,.seq (.st gQ) U)],9⟩,ue.draw 16 (hrs:=[⟨oH,[]⟩,⟨oH,[0]⟩,⟨oH,[]⟩,⟨oH,[2]⟩,⟨oH,[2,3]⟩,⟨oH,[]⟩,⟨oH,[5]⟩,⟨oH,[5,6]⟩,⟨oH,[]⟩,⟨oH,[8]⟩,⟨oH,[8,9]⟩,⟨oH,[]⟩,⟨oH,[11]⟩,⟨oH,[11,12]⟩,⟨oH,[2,3,4,5,6,7,8,9,10,11,12,13]⟩,⟨(hT (.st gQ)),[2,3,4,5,6,7,8,9,10,11,12,13,14]⟩]) (tds:=[[0,1,2,3,4,5,6,7,8,9,10,11,12,13,14,15],[0,1,2,3,4,5,6,7,8,9,10,11,12,13,14,15,16],[0,1,2,3,4,5,6,7,8,9,10,11,12,13,14,15,16,17]]) (rs:=[(hT (.st gQ)),oH,oH]) J (by kernel_rfl) (by kernel_rfl) (iE an ao aq ar (bD au)),Le.re [(0,0),(2,2),(8,6)] [] (st':=⟨[(2,pV 0 0),(6,pV 2 0),(44,nV (ε p.1 (δ 1) ([]:GI)))],[(0,.box [iC 0,iC 0,.br]),(2,.box [iC (ε (ε p.1 (δ 0) ([]:GI)) (δ 0) 0),iC (ε (ε p.1 (δ 0) ([]:GI)) (δ 1) 0),.all 6]),(6,.seq (.st gQ) (U++([((ε j (δ 0) 0),(ε j (δ 1) 0),(ε j (δ 2) 0),(ε j (δ 3) 0))]:GL)))],7⟩) J (by kernel_rfl)⟩))))));exact (aX (bc t xS λSG af t=>θ J [oH,(cl af)] (bD af) (by (cases t;exact (Δ (bY aU))))))))))))) λ_ I ah=>bb I (λR I=>Τ J [oH,oH,kT] (bD R) λ_ h=>(aX (h.ht (ah _ (aZ I))))) λR I=>bg I λT I=>bb I (λaa I=>Τ J [oH,oH,kF,oH,oH,oH,oH,oH,oH,kT] (nB R T (bG T) aa) λ_ h=>(aX (h.ht (ah _ (aZ I))))) λaa I=>bg I λag I=>Τ J [oH,oH,kF,oH,oH,oH,oH,oH,oH,kF] (iE R T (bG T) aa (kQ ag (bG ag) (show (4:Int)≠0 from by decide))) λ_ h=>(aX (h.ht (ah _ (aZ I)))))))
def fD (a0:GP)(o:GI)(j:Int×Int):Option ((Int×Int)⊕(Int)):=
 bif (decide (j.2<(aW o))) then
  (show Option (Int) from
   aY (0<=j.2/\j.2<aW o) (
    aY (0<=j.2/\j.2<aW a0.2.2.2) (
     bif (ε a0.2.2.2 (δ j.2) false) then
      some (bf .i64 j.1 (ε o (δ j.2) 0))
     else
      some j.1))).bind λp=>
  some (.inl (p,(bf .i64 j.2 1)))
 else
  some (.inr j.1)
def fE (a0:GP)(r:Int×GI)(p:Int×GI)(j:Int×GI):Option ((Int×GI)⊕GI):=
 bif (decide (j.1<a0.2.1)) then
  (cC (a0.1,a0.2.1,a0.2.2.1,a0.2.2.2) p.1 j.1).bind λo=>
  aY (0<=o/\o<aW j.2) (
   some (.inl ((bf .i64 j.1 1),(aag j.2 (δ o) (bf .i64 (ε j.2 (δ o) 0) (ε r.2 (δ p.1) 0))))))
 else
  some (.inr j.2)
def fF (a0:GP)(o:Int×GI)(j:Int×GI):Option ((Int×GI)⊕GI):=
 bif (decide (j.1<(aW o.2))) then
  aY (0<=j.1/\j.1<aW o.2) (
   (rounds (fE a0 o j) (0,j.2)).bind λp=>
   some (.inl ((bf .i64 j.1 1),p)))
 else
  some (.inr j.2)
def fG (a0:GP)(a1:Int)(j:Int×GI):Option ((Int×GI)⊕GI):=
 bif (decide (j.1<a1)) then
  (rounds (fF a0 j) (0,(π (δ a0.1) (0:Int)))).bind λo=>
  some (.inl ((bf .i64 j.1 1),o))
 else
  some (.inr j.2)
def fU (a0:GP)(a1:Int):Option (Int×Bool):=
 (show Option (Bool) from
  (cr (a0.1,a0.2.1,a0.2.2.1,a0.2.2.2)).bind λj=>
  bif (!j) then
   some true
  else
   (ct a1 0 12).bind λo=>
   some (!o)).bind λt=>
 bif t then
  some (0,false)
 else
  aY (0<=a0.1/\a0.1<=4294967296) (
   aY ((0:Int)<=0/\0<aW (π (δ a0.1) (0:Int))) (
    (rounds (fG a0 a1) (0,(aag (π (δ a0.1) (0:Int)) (δ 0) 1))).bind λp=>
    (rounds (fD a0 p) (0,0)).bind λr=>
    some (r,true)))
theorem Qi {a0}{a1}{r}(T:fU a0 a1=some r):CallOK ν 19 [.bP (.st gP) a0,.bP tI a1] [⟨false,tI,r.1⟩,⟨false,.bool,r.2⟩] []:=
 dn Tryz.func19 rfl λcx j hF=>θ j [] aU (υ (ϰ T (λv2=>up [1,2] [(21,bV v2)] [0] [] 0) (λv2 T=>Ω T (λaH T=>θ j [] aU (by (cases T;exact (Δ (bn (bY aU)))))) λaH T=>Η (aX (bg T λal T=>θ j [oH,oH,(hT tI)] (bD (LM al)) (bg T λan T=>θ j [] (dd an (bG an)) (υ (θ j [] aU (ξ (Ϩ j T (λs8=>up [2,6,27] [(28,iV s8.1)] [0] [(1,.seq tI s8.2)] 0) (λao=>(.exit 0,up [2,6] [] [0] [(1,.seq tI ao)] 0)) (λao T=>(bm (aX (θ j [] aU (υ (θ j [] aU (ξ (Ϩ j T (λai=>up [2,59,60] [(11,iV ai.1),(61,iV ai.2)] [0,1] [] 0) (λaq=>(.exit 6,up [] [(11,iV aq)] [] [] 0)) (λaq T=>(bm (aX (θ j [] aU (by (cases T;exact (Δ (bY aU)))))))) λai Un I ar=>θ j [] aU (ϻ I (λau I=>ϰ I (λav=>up [2,59,60,61] [(11,iV av)] [0,1] [] 0) (λav I=>Τ j [] aU λ_ h=>(bz (lN I h))) λ_ o ad=>ξ (bg o λae o=>θ j [] (dd ae (bG ae)) (bg o λaw o=>θ j [] (bD aw) (Ω o (λax o=>Τ j [] aU λ_ h=>(bj (aX (h.ht (ad _ (aZ o)))))) λax o=>Η (bj (aX (HT.re j (ad _ (aZ o))))))))) λau I=>Ϫ j (bw (bA (ar _ (bd I))))))))))))) λs8 x25 J ay=>θ j [] aU (ϻ J (λaz J=>υ (ξ (θ j [oH,oH,(hT tI)] (bD (LM al)) (υ (θ j [] aU (ξ (Ϩ j J (λaj=>up [2,7,27,28,33,34] [(35,iV aj.1)] [0,1] [(2,.seq tI aj.2)] 0) (λaA=>(.exit 2,up [2,7,27,28] [] [0] [(2,.seq tI aA)] 0)) (λaA J=>(bm (aX (Ο j [] aU (bj (aX (Τ j [] aU λ_ h=>(bz (lN J h))))))))) λaj x32 p aB=>θ j [] aU (ϻ p (λaC p=>υ (ξ (bg p λaf p=>θ j [] (dd af (bG af)) (θ j [] aU (ξ (Ϩ j p (λak=>up [2,7,8,9,27,28,33,34,35,41] [(42,iV ak.1)] [0,1] [(2,.seq tI ak.2)] 0) (λaD=>(.exit 4,up [2,7,27,28,33,34,35] [] [0,1] [(2,.seq tI aD)] 0)) (λaD p=>(bm (bj (aX (Τ j [] aU λ_ h=>(bz (lN p h))))))) λak Yu t aE=>θ j [] aU (ϻ t (λaF t=>υ (ξ (θ j [] aU (bc t qz λy44 ag t=>bg t λU t=>Ο j (nO 4 [(cl ag)]) (iE ag U (bG U) U (bD (bG U))) (bj (aX (Τ j [] aU λ_ h=>(bz (lN t h))))))))) λaF t=>Ϫ j (bw (bA (aE _ (bd t))))))))))) λaC p=>Ϫ j (bw (bA (aB _ (bd p)))))))))))) λaz J=>Ϫ j (bw (bA (ay _ (bd J))))))))))))) λ_ R aG=>bc R oN λYi aa R=>bb R (λab R=>Τ j [oH,(cl aa),oH,kT] (dd aa ab) λ_ h=>(aX (h.ht (aG _ (aZ R))))) λab R=>bc R iy λy50 ah R=>Τ j [oH,(cl aa),oH,kF,oH,(cl ah)] (kQ aa ab ah) λ_ h=>(aX (h.ht (aG _ (aZ R))))))
def nI (q1:GI)(p:List GB)(o:Int×GB×Int)(j:Int×GB):Option ((Int×GB)⊕((Int×GB))):=
 bif (decide (j.1>=(ε q1 (δ o.2.2) 0))) then
  aY (0<=o.2.2/\o.2.2<aW p) (
   aY (ζ j.2+ζ (ε p (δ o.2.2) ([]:GB))<=bl) (
    some (.inl ((bI .i64 j.1 (ε q1 (δ o.2.2) 0)),(j.2++(ε p (δ o.2.2) ([]:GB)))))))
 else
  some (.inr (j.1,j.2))
def qM (q1:GI)(p:List GB)(j:Int×GB×Int):Option ((Int×GB×Int)⊕GB):=
 bif (decide (j.2.2<(aW q1))) then
  aY (0<=j.2.2/\j.2.2<aW q1) (
   (rounds (nI q1 p j) (j.1,j.2.1)).bind λo=>
   some (.inl (o.1,o.2,(bf .i64 j.2.2 1))))
 else
  some (.inr j.2.1)
def qB (a0:Int):Option GB:=
 (some ([1000,900,500,400,100,90,50,40,10,9,5,4,1]:GI)).bind λq1=>
 (some ([([77]:GB),([67,77]:GB),([68]:GB),([67,68]:GB),([67]:GB),([88,67]:GB),([76]:GB),([88,76]:GB),([88]:GB),([73,88]:GB),([86]:GB),([73,86]:GB),([73]:GB)]:List GB)).bind λj=>
 (rounds (qM q1 j) (a0,([]:GB),0)).bind λo=>
 some o
theorem MA {a0}{r}(J:qB a0=some r):CallOK ν 203 [.bP tI a0] [⟨false,.str,r⟩] []:=
 dn Tryz.func203 rfl λcx p hF=>θ p [] aU (θ p [(hT tI)] aU (bq J λJ=>θ p [(hT .str)] aU (bq J λJ=>θ p [] aU (υ (θ p [] aU (ξ (Ϩ p J (λs5=>up [4,10,11] [(0,iV s5.1),(5,.one (.bp .str s5.2.1)),(12,iV s5.2.2)] [1,0] [] 0) (λr7=>(.exit 0,up [] [(5,.one (.bp .str r7))] [] [] 0)) (λr7 J=>(bm (aX (θ p [] aU (by (cases J;exact (Δ (bY aU)))))))) λs5 x8 o U=>θ p [] aU (ϻ o (λaa o=>υ (ξ (bg o λt o=>θ p [] (dd t (bG t)) (ξ (Ϩ p o (λR=>up [4,6,7,10,11,12] [(0,iV R.1),(5,.one (.bp .str R.2))] [1,0] [] 0) (λT=>(.exit 2,up [4,10,11,12] [(0,iV T.1),(5,.one (.bp .str T.2))] [1,0] [] 0)) (λT o=>(bm (bj (aX (Τ p [] aU λ_ h=>(bz (lN o h))))))) λR x16 j ab=>υ (θ p [] aU (Ω j (λad j=>Η (aX (ξ (bg j λI j=>bg j λae j=>θ p [] (kQ I (bG I) ae) (Τ p [] aU λ_ h=>(bj (bz (lN j h)))))))) λad j=>Ϫ p (bw (bA (ab _ (bd j))))))))))) λaa o=>Ϫ p (bw (bA (U _ (bd o))))))))))))
def oe (a0:Int):Option (GB×Bool):=
 (ct a0 1 3999).bind λj=>
 bif (!j) then
  some (([]:GB),false)
 else
  (qB a0).bind λo=>
  some (o,true)
theorem MB {a0}{r}(j:oe a0=some r):CallOK ν 169 [.bP tI a0] [⟨false,.str,r.1⟩,⟨false,.bool,r.2⟩] []:=
 dn Tryz.func169 rfl λcx t J=>θ t [] aU (υ (bc j iy λR o j=>θ t [oH,(cl o)] (bD o) (Ω j (λI j=>θ t [] aU (by (cases j;exact (Δ (bn (bY aU)))))) λI j=>Η (aX (bc j MA λT p j=>θ t [oH,(cl p)] (bD p) (by (cases j;exact (Δ (bY aU)))))))))
def mV (a0:GM×GP×GG×GI)(a1:GB)(a2:GB):Option (GB×Bool×Bool×(GM×GP×GG×GI)):=
 (show Option ((Bool×(GM×GP×GG×GI))⊕(GB×Bool×Bool×(GM×GP×GG×GI))) from
  bif (a1==([109,97,99,104,105,110,101]:GB)) then
   (eo a2).bind λr=>
   some (.inl (r.2,(r.1.1,r.1.2.1,r.1.2.2.1,r.1.2.2.2.1,r.1.2.2.2.2),(a0.2.1.1,a0.2.1.2.1,a0.2.1.2.2.1,a0.2.1.2.2.2),(a0.2.2.1.1,a0.2.2.1.2.1,a0.2.2.1.2.2),a0.2.2.2))
  else
   bif (a1==([112,108,97,105,110]:GB)) then
    (fC a2).bind λj=>
    some (.inl (j.2,(a0.1.1,a0.1.2.1,a0.1.2.2.1,a0.1.2.2.2.1,a0.1.2.2.2.2),(j.1.1,j.1.2.1,j.1.2.2.1,j.1.2.2.2),(a0.2.2.1.1,a0.2.2.1.2.1,a0.2.2.1.2.2),a0.2.2.2))
   else
    bif (a1==([103,114,97,109,109,97,114]:GB)) then
     (ep a2).bind λo=>
     some (.inl (o.2,(a0.1.1,a0.1.2.1,a0.1.2.2.1,a0.1.2.2.2.1,a0.1.2.2.2.2),(a0.2.1.1,a0.2.1.2.1,a0.2.1.2.2.1,a0.2.1.2.2.2),(o.1.1,o.1.2.1,o.1.2.2),a0.2.2.2))
    else
     bif (a1==([119,111,114,100]:GB)) then
      (fg a2).bind λt=>
      some (.inl (t.2,(a0.1.1,a0.1.2.1,a0.1.2.2.1,a0.1.2.2.2.1,a0.1.2.2.2.2),(a0.2.1.1,a0.2.1.2.1,a0.2.1.2.2.1,a0.2.1.2.2.2),(a0.2.2.1.1,a0.2.2.1.2.1,a0.2.2.1.2.2),t.1))
     else
      (show Option (Bool) from
       bif (a1==([99,111,117,110,116]:GB)) then
        some (a1==([99,111,117,110,116]:GB))
       else
        some (a1==([114,111,109,97,110]:GB))).bind λv20=>
      bif v20 then
       (ej a2).bind λp=>
       (show Option (GB×Bool) from
        (show Option (Bool) from
         bif p.2 then
          some (a1==([99,111,117,110,116]:GB))
         else
          some false).bind λU=>
        bif U then
         (fU (a0.2.1.1,a0.2.1.2.1,a0.2.1.2.2.1,a0.2.1.2.2.2) p.1).bind λI=>
         (dh I.1 I.2).bind λJ=>
         some (J.1,J.2)
        else
         bif p.2 then
          (oe p.1).bind λR=>
          some (R.1,R.2)
         else
          some (([]:GB),false)).bind λT=>
       sw (some (T.1,T.2,true,a0))
      else
       sw (some (([]:GB),false,false,a0))).bind λw5=>match w5 with
  | .inl v2=>
   some (([111,107]:GB),v2.1,true,v2.2)
  | .inr z=>some z
theorem MC {a0}{a1}{a2}{r}(hr:mV a0 a1 a2=some r):CallOK ν 134 [.own (.bx (.st (.pair (.st gM) (.pair (.st gP) (.pair (.st gR) cg))))) [a0],.bP .str a1,.bP .str a2] [⟨false,.str,r.1⟩,⟨false,.bool,r.2.1⟩,⟨false,.bool,r.2.2.1⟩] [⟨(.bx (.st (.pair (.st gM) (.pair (.st gP) (.pair (.st gR) cg))))),[r.2.2.2]⟩]:=
 dn Tryz.func134 rfl λcx p hF=>θ p [] aU (θ p [] aU (HT.jo hr (λ_=>rfl) (λv2=>up [] [(9,bV v2.1)] [] [(0,.seq (.st (.pair (.st gM) (.pair (.st gP) (.pair (.st gR) cg)))) ([v2.2]))] 0) (λv2 hr=>θ p [] aU (by (cases hr;exact (Δ (bY (bD (show ζ ([v2.2])=ζ [a0] from rfl))))))) λ_ j Q2 T=>θ p [] aU (ξ (θ p [] aU (Ω j (λJs j=>bc j JS λy8 NJ j=>Τ p [oH,oH,(cl (ϯ [true,false] rfl NJ))] (dd (ϯ [true,false] rfl NJ) (show 0<ζ [a0] from Ν)) λ_ h=>(bj (aX (h.ht (T _ (bd j)))))) λJs j=>θ p [] aU (Ω j (λBa j=>bc j JT λKV U j=>Τ p [oH,oH,(cl (ϯ [true,false] rfl U))] (dd (ϯ [true,false] rfl U) (show 0<ζ [a0] from Ν)) λ_ h=>(bj (aX (h.ht (T _ (bd j)))))) λBa j=>θ p [] aU (Ω j (λEG j=>bc j JU λSF aa j=>Τ p [oH,oH,(cl (ϯ [true,false] rfl aa))] (dd (ϯ [true,false] rfl aa) (show 0<ζ [a0] from Ν)) λ_ h=>(bj (aX (h.ht (T _ (bd j)))))) λEG j=>θ p [] aU (Ω j (λxQ j=>bc j EP λPc ab j=>Τ p [oH,oH,(cl (ϯ [true,false] rfl ab))] (dd (ϯ [true,false] rfl ab) (show 0<ζ [a0] from Ν)) λ_ h=>(bj (aX (h.ht (T _ (bd j)))))) λxQ j=>ϰ j (λv20=>up [0,1,2] [(55,bV v20)] [0] [] 0) (λv20 j=>Ω j (λJz j=>bc j Gb λYw ad j=>θ p [oH,(cl ad)] (bD ad) (θ p [] aU (ϰ j (λQ1=>up [] [(12,.one (.bp .str Q1.1)),(13,bV Q1.2)] [0] [] 0) (λQ1 j=>θ p [] aU (have hr:=Q2 j;by (cases hr;exact (Δ (bH (bn (bY (bD (show ζ ([a0])=ζ [a0] from rfl))))))))) λ_ o J=>ϰ o (λKU=>up [0,10,11,12,13] [(67,bV KU)] [0] [] 0) (λKU o=>Ω o (λPa o=>bc o Qi λWk ae o=>bc o se λYr af o=>Τ p (nO 5 [(cl ae),oH,oH,(cl af)]) (kQ (show 0<ζ [a0] from Ν) ae af) λ_ h=>(aX (h.ht (J _ (aZ o))))) λPa o=>θ p [] aU (Ω o (λxW o=>bc o MB λy43 ag o=>Τ p [oH,(cl ag)] (bD ag) λ_ h=>(aX (h.ht (J _ (aZ o))))) λxW o=>Η (aX (HT.re p (J _ (aZ o)))))) λ_ t ah=>bb t (λR t=>Τ p [oH,kT] (bD R) λ_ h=>(aX (h.ht (ah _ (aZ t))))) λR t=>Τ p [oH,kF] (bD R) λ_ h=>(aX (h.ht (ah _ (aZ t))))))) λJz j=>θ p [] aU (have hr:=Q2 j;by (cases hr;exact (Δ (bH (bn (bY (bD (show ζ ([a0])=ζ [a0] from rfl))))))))) λ_ I ai=>θ p [] aU (Ω I (λzg I=>Η (aX (HT.re p (ai _ (aZ I))))) λzg I=>Τ p [] aU λ_ h=>(aX (h.ht (ai _ (aZ I)))))))))))))
def l6 (a0:GB)(a1:GB)(a2:Int)(a3:Int)(a4:Int)(s1:Int×List GI)(j:Int×GI):Option ((Int×GI)⊕GI):=
 bif (decide (j.1<(aW (π (δ (bf .i64 (aW a1) 1)) (0:Int))))) then
  (show Option GI from
   bif (s1.1==0) then
    aY (0<=j.1/\j.1<aW j.2) (
     some (aag j.2 (δ j.1) (iX .i64 j.1 a2)))
   else
    bif (j.1==0) then
     aY (0<=j.1/\j.1<aW j.2) (
      some (aag j.2 (δ j.1) (iX .i64 s1.1 a3)))
    else
     aY (0<=(bI .i64 s1.1 1)/\(bI .i64 s1.1 1)<aW s1.2) (
      aY (0<=(bI .i64 j.1 1)/\(bI .i64 j.1 1)<aW (ε s1.2 (δ (bI .i64 s1.1 1)) ([]:GI))) (
       (some (ε (ε s1.2 (δ (bI .i64 s1.1 1)) ([]:GI)) (δ (bI .i64 j.1 1)) 0)).bind λo=>
       (show Option (Int) from
        aY (0<=(bI .i64 s1.1 1)/\(bI .i64 s1.1 1)<aW a0) (
         aY (0<=(bI .i64 j.1 1)/\(bI .i64 j.1 1)<aW a1) (
          bif (((((ε a0 (δ (bI .i64 s1.1 1)) 0:UInt8).toNat:Nat)):Int) != ((((ε a1 (δ (bI .i64 j.1 1)) 0:UInt8).toNat:Nat)):Int)) then
           some (bf .i64 o a4)
          else
           some o))).bind λv30=>
       aY (0<=j.1/\j.1<aW (ε s1.2 (δ (bI .i64 s1.1 1)) ([]:GI))) (
        aY (0<=(bI .i64 j.1 1)/\(bI .i64 j.1 1)<aW j.2) (
         aY (0<=j.1/\j.1<aW j.2) (
          some (aag j.2 (δ j.1) (if (bf .i64 (ε j.2 (δ (bI .i64 j.1 1)) 0) a2)<(if (bf .i64 (ε (ε s1.2 (δ (bI .i64 s1.1 1)) ([]:GI)) (δ j.1) 0) a3)<v30 then (bf .i64 (ε (ε s1.2 (δ (bI .i64 s1.1 1)) ([]:GI)) (δ j.1) 0) a3) else v30) then (bf .i64 (ε j.2 (δ (bI .i64 j.1 1)) 0) a2) else (if (bf .i64 (ε (ε s1.2 (δ (bI .i64 s1.1 1)) ([]:GI)) (δ j.1) 0) a3)<v30 then (bf .i64 (ε (ε s1.2 (δ (bI .i64 s1.1 1)) ([]:GI)) (δ j.1) 0) a3) else v30))))))))).bind λp=>
  some (.inl ((bf .i64 j.1 1),p))
 else
  some (.inr j.2)
def l7 (a0:GB)(a1:GB)(a2:Int)(a3:Int)(a4:Int)(s1:Int×List GI):Option ((Int×List GI)⊕(List GI)):=
 bif (decide (s1.1<(bf .i64 (aW a0) 1))) then
  aY (0<=(bf .i64 (aW a1) 1)/\(bf .i64 (aW a1) 1)<=4294967296) (
   (rounds (l6 a0 a1 a2 a3 a4 s1) (0,(π (δ (bf .i64 (aW a1) 1)) (0:Int)))).bind λj=>
   aY (ζ s1.2+ζ ([j]:List GI)<=bl) (
    some (.inl ((bf .i64 s1.1 1),(s1.2++([j]:List GI))))))
 else
  some (.inr s1.2)
def l8 (a0:GB)(a1:GB)(a2:Int)(a3:Int)(a4:Int):Option (List GI):=
 (rounds (l7 a0 a1 a2 a3 a4) (0,([]:List GI))).bind λj=>
 some j
theorem MD {a0}{a1}{a2}{a3}{a4}{r}(hr:l8 a0 a1 a2 a3 a4=some r):CallOK ν 172 [.bP .str a0,.bP .str a1,.bP tI a2,.bP tI a3,.bP tI a4] [⟨false,(.sl cg),r⟩] []:=
 dn Tryz.func172 rfl λcx p hF=>θ p [] aU (θ p [] aU (υ (θ p [] aU (ξ (Ϩ p hr (λs1=>up [0,1,2,3,4,19] [(11,aV 3),(20,iV s1.1)] [] [(3,.seq cg s1.2)] 4) (λr3=>(.exit 0,up [] [(11,aV 3)] [] [(3,.seq cg r3)] 4)) (λr3 hr=>(bm (aX (θ p [] aU (by (refine (Le.rz [] [] (st':=⟨[(10,.one (.bp (.sl cg) r3))],[],4⟩) p hF (by kernel_rfl)).ht ?_;cases hr;exact (Δ (bY aU)))))))) λs1 x4 t WA=>θ p [] aU (ϻ t (λJs t=>υ (ξ (θ p [] aU (bg t λWq t=>θ p [oH,oH,oH,(hT tI)] (bD (LM Wq)) (υ (θ p [] aU (ξ (Ϩ p t (λs9=>up [0,1,2,3,4,11,12,13,19,20,28] [(29,iV s9.1)] [3] [(4,.seq tI s9.2)] 0) (λae=>(.exit 2,up [0,1,2,3,4,11,13,19,20] [] [3] [(4,.seq tI ae)] 0)) (λae t=>(bm (aX (by (refine (Le.rz [(3,3)] [] (st':=⟨[(0,.one (.bp .str a0)),(1,.one (.bp .str a1)),(2,iV a2),(3,iV a3),(4,iV a4),(11,aV 3),(13,nV ae),(19,iV (bf .i64 (aW a0) 1)),(20,iV s1.1)],[(3,.seq cg s1.2)],5⟩) p hF (by kernel_rfl)).ht ?_;exact (bg t λJt t=>Ο p [oH,oH,(hT cg),(hT cg)] (bD Jt) (bj (aX (Τ p [] aU λ_ h=>(bz (lN t h))))))))))) λs9 Wu I XB=>θ p [] aU (ϻ I (λxQ I=>ϰ I (λQY=>up [0,1,2,3,4,11,12,13,19,20,28,29] [] [3] [(4,.seq tI QY)] 0) (λQY I=>Τ p [] aU λ_ h=>(bz (lN I h))) λ_ j R=>ξ (θ p [] aU (ξ (θ p [] aU (Ω j (λBe j=>bg j λT j=>Τ p [] (dd T (bG T)) λ_ h=>(bj (bj (aX (h.ht (R _ (aZ j))))))) λBe j=>θ p [] aU (Ω j (λJz j=>bg j λU j=>Τ p [] (dd U (bG U)) λ_ h=>(bj (bj (aX (h.ht (R _ (aZ j))))))) λJz j=>bg j λJ j=>bg j λQb j=>θ p [] (kQ J (bG J) Qb) (bq j λj=>ϰ j (λv30=>up [0,1,2,3,4,11,12,13,14,19,20,28,29] [(15,iV v30)] [3,4] [] 0) (λv30 j=>bg j λPY j=>bg j λaa j=>bg j λab j=>HT.dk p [] (iE J (bG J) PY aa (kQ (bG aa) ab (bG ab))) λ_ h=>(bj (bj (aX (h.ht (R _ (aZ j))))))) λ_ o ad=>bg o λXC o=>bg o λP8 o=>HT.dg p [] (dd XC P8) (Ω o (λQe o=>Τ p [] aU λ_ h=>(aX (h.ht (ad _ (aZ o))))) λQe o=>Η (aX (HT.re p (ad _ (aZ o)))))))))))) λxQ I=>Ϫ p (bw (bA (XB _ (bd I))))))))))))) λJs t=>Ϫ p (bw (bA (WA _ (bd t))))))))))
def pk (a0:GB):Option (Bool):=
 some (decide ((aW a0)<=48))
theorem Gc {a0}{r}(o:pk a0=some r):CallOK ν 170 [.bP .str a0] [⟨false,.bool,r⟩] []:=
 dn Tryz.func170 rfl λcx j p=>θ j [] aU (θ j [] aU (by (cases o;exact (Δ (bY aU)))))
def pw (a0:GI):Option (Bool):=
 (eF a0 0 1000).bind λj=>
 some j
theorem ME {a0}{r}(o:pw a0=some r):CallOK ν 171 [.bP cg a0] [⟨false,.bool,r⟩] []:=
 dn Tryz.func171 rfl λcx p t=>θ p [] aU (bc o xN λI j o=>θ p [oH,(cl j)] (bD j) (by (cases o;exact (Δ (bY aU)))))
def mW (a0:GB)(a1:GB)(a2:Int)(a3:Int)(a4:Int):Option (Int×Bool):=
 (show Option (Bool) from
  (pk a0).bind λj=>
  bif (!j) then
   some true
  else
   (pk a1).bind λo=>
   bif (!o) then
    some true
   else
    (pw ([a2,a3,a4]:GI)).bind λp=>
    some (!p)).bind λI=>
 bif I then
  some (0,false)
 else
  (l8 a0 a1 a2 a3 a4).bind λr=>
  aY (0<=(aW a0)/\(aW a0)<aW r) (
   aY (0<=(aW a1)/\(aW a1)<aW (ε r (δ (aW a0)) ([]:GI))) (
    (some (ε (ε r (δ (aW a0)) ([]:GI)) (δ (aW a1)) 0)).bind λt=>
    some (t,true)))
theorem MF {a0}{a1}{a2}{a3}{a4}{r}(p:mW a0 a1 a2 a3 a4=some r):CallOK ν 136 [.bP .str a0,.bP .str a1,.bP tI a2,.bP tI a3,.bP tI a4] [⟨false,tI,r.1⟩,⟨false,.bool,r.2⟩] []:=
 dn Tryz.func136 rfl λcx U hF=>θ U [] aU (υ (ϰ p (λv2=>up [0,1,2,3,4] [(27,bV v2)] [] [] 0) (λv2 p=>Ω p (λab p=>θ U [] aU (by (cases p;exact (Δ (bn (bY aU)))))) λab p=>Η (aX (bc p MD λy6 aa p=>bg p λad p=>bg p λae p=>θ U (nO 5 [(cl aa)]) (kQ aa ad ae) (bq p λp=>by (cases p;exact (Δ (bY aU))))))) λ_ j T=>bc j Gc λyJ o j=>bb j (λt j=>Τ U [oH,(cl o),oH,kT] (dd o t) λ_ h=>(aX (h.ht (T _ (aZ j))))) λt j=>bc j Gc λQ0 I j=>bb j (λJ j=>Τ U [oH,(cl o),oH,kF,oH,(cl I),oH,oH,kT] (nB o t I J) λ_ h=>(aX (h.ht (T _ (aZ j))))) λJ j=>bc j ME λYl R j=>Τ U [oH,(cl o),oH,kF,oH,(cl I),oH,oH,kF,oH,oH,oH,(hT tI),(cl R)] (iE o t I J (bD R)) λ_ h=>(aX (h.ht (T _ (aZ j))))))
end
end Go.Proofs
