import Derived.Test.YtjnkhcgmgkhnaaaGreatDoorJournalGenH
import Derived.Test.YtjnkhcgmgkhnaaaGreatDoorProg
set_option linter.all false
open Go.Ide.CallOK renaming rn→ϱ
open Go.Ide.HT renaming g→θ,block→ο,seq→φ,ret→Δ,skip→Θ,k→Υ,cb→Φ,lp→ϧ,xe→Ϩ,jn→ϰ,cj→Ϻ,dg→abA
open Go.Lib renaming lastIndexByte→aew
open Go.Proofs.Tryz renaming prog→ν
open Go.RowKit.Below renaming refl→afL
open Int renaming toNat→δ
open List renaming getD→ε,length→ζ,replicate→υ,set→aaj
open Nat renaming zero_lt_one→Ξ
namespace Go.Proofs
open Go.Ide
noncomputable section
def n5 (j:GI)(o:GL):Option (GL):=
 br ((0:Int)<=0/\0<bn j) (
  br ((0:Int)<=1/\1<bn j) (
   br ((0:Int)<=2/\2<bn j) (
    br ((0:Int)<=3/\3<bn j) (
     br (ζ o+ζ ([((ε j (δ 0) 0),(ε j (δ 1) 0),(ε j (δ 2) 0),(ε j (δ 3) 0))]:GL)<=bD) (
      some (o++([((ε j (δ 0) 0),(ε j (δ 1) 0),(ε j (δ 2) 0),(ε j (δ 3) 0))]:GL)))))))
def jW (a0:GB):Option (GM×Bool):=
 (fJ a0 4).bind λj=>
 (show Option (Bool) from
  bif (!j.2) then
   some true
  else
   br ((0:Int)<=0/\0<bn j.1) (
    bif ((bn (ε j.1 (δ 0) ([]:GI))) != 2) then
     some true
    else
     br ((0:Int)<=3/\3<bn j.1) (
      some ((Int.tmod (bn (ε j.1 (δ 3) ([]:GI))) 4) != 0)))).bind λv4=>
 bif v4 then
  some ((0,0,([]:GL),([]:GI),([]:GI)),false)
 else
  br ((0:Int)<=0/\0<bn j.1) (
   br ((0:Int)<=0/\0<bn (ε j.1 (δ 0) ([]:GI))) (
    br ((0:Int)<=1/\1<bn (ε j.1 (δ 0) ([]:GI))) (
     br ((0:Int)<=1/\1<bn j.1) (
      br ((0:Int)<=2/\2<bn j.1) (
       br ((0:Int)<=3/\3<bn j.1) (
        br (δ 3<ζ j.1) (
         br (δ 1<ζ j.1) (
          br (δ 2<ζ j.1) (
           (sJ (n5) (ε j.1 (δ 3) ([]:GI)) ([]:GL)).bind λp=>
           (hU ((ε (ε j.1 (δ 0) ([]:GI)) (δ 0) 0),(ε (ε j.1 (δ 0) ([]:GI)) (δ 1) 0),p,(ε j.1 (δ 1) ([]:GI)),(ε j.1 (δ 2) ([]:GI)))).bind λo=>
           some ((o.1.1,o.1.2.1,o.1.2.2.1,o.1.2.2.2.1,o.1.2.2.2.2),o.2))))))))))
theorem Q7 {a0}{r}(t:jW a0=some r):CallOK ν 29 [.bZ .str a0] [⟨true,(.st gM),r.1⟩,⟨false,.bool,r.2⟩] []:=
 Vd false Tryz.func29 rfl λcx J hF az=>θ J [] bm (bc t Fk λo ak t=>θ J [oH,(cl ak)] (bQ ak) (φ (ϰ t (λv4=>up [2,4] [(29,bV v4)] [0,1] [] 0) (λv4 t=>Φ t (λaA t=>θ J [] bm (by (cases t;exact (Δ (bF (ct bm)))))) λaA t=>Θ (bp (bg t λab t=>bg t λal t=>bg t λad t=>bg t λae t=>bg t λaf t=>abA J [] (lF ab (bS ab) al (bS al) (lF ab (bS ab) ad (bS ad) (nZ ae (bS ae) af (bS af)))) (φ (bg t λag t=>bg t λan t=>bg t λao t=>bg t λaq t=>bo t λr18 ar t=>HT.eg ⟨[(2,pV 0 0),(4,aV 1),(6,pV 2 0)],[(2,.box [iC (ε (ε o.1 (δ 0) ([]:GI)) (δ 0) 0),iC (ε (ε o.1 (δ 0) ([]:GI)) (δ 1) 0),.bH,.row 1 (δ 1) 0,.row 1 (δ 2) 0]),(0,.box [iC 0,iC 0,.bH,.bH,.bH]),(1,.seq (.own tI) o.1)],3⟩ J (by (refine HT.chunk (λ(U:GL)=>⟨[(2,pV 0 0),(6,pV 2 0),(50,nV (ε o.1 (δ 3) ([]:GI)))],[(0,.box [iC 0,iC 0,.bH,.bH,.bH]),(2,.box [iC (ε (ε o.1 (δ 0) ([]:GI)) (δ 0) 0),iC (ε (ε o.1 (δ 0) ([]:GI)) (δ 1) 0),.all 8,.all 4,.all 5]),(8,.seq (.st gQ) U),(4,.seq tI (ε o.1 (δ 1) ([]:GI))),(5,.seq tI (ε o.1 (δ 2) ([]:GI)))],9⟩) (n:=3) (rs:=[oH,oH,oH]) (st1:=⟨[(50,.one (.row 1 (δ 3) 0)),(49,.one (.dn 1 (δ 3) 1 0)),(48,aV 1),(2,pV 0 0),(4,aV 1),(6,pV 2 0)],[(2,.box [iC (ε (ε o.1 (δ 0) ([]:GI)) (δ 0) 0),iC (ε (ε o.1 (δ 0) ([]:GI)) (δ 1) 0),.bH,.row 1 (δ 1) 0,.row 1 (δ 2) 0]),(0,.box [iC 0,iC 0,.bH,.bH,.bH]),(1,.seq (.own tI) o.1)],3⟩) (ks:=[2,6,50]) (ts:=50) (ta:=7) J az chunkFn rfl rfl rfl rfl rfl rfl rfl (by kernel_rfl) (dp ag (bS ag)) (((((Le.gc (ks:=[2,6,50]) (ms:=[2,0,1]) (st':=⟨[(2,pV 0 0),(6,pV 2 0),(50,.one (.row 1 (δ 3) 0))],[(2,.box [iC (ε (ε o.1 (δ 0) ([]:GI)) (δ 0) 0),iC (ε (ε o.1 (δ 0) ([]:GI)) (δ 1) 0),.bH,.row 1 (δ 1) 0,.row 1 (δ 2) 0]),(0,.box [iC 0,iC 0,.bH,.bH,.bH]),(1,.seq (.own tI) o.1)],3⟩) (cs:=[]) J (rfl:some (⟨[(50,.one (.row 1 (δ 3) 0)),(49,.one (.dn 1 (δ 3) 1 0)),(48,aV 1),(2,pV 0 0),(4,aV 1),(6,pV 2 0)],[(2,.box [iC (ε (ε o.1 (δ 0) ([]:GI)) (δ 0) 0),iC (ε (ε o.1 (δ 0) ([]:GI)) (δ 1) 0),.bH,.row 1 (δ 1) 0,.row 1 (δ 2) 0]),(0,.box [iC 0,iC 0,.bH,.bH,.bH]),(1,.seq (.own tI) o.1)],3⟩,([]:List Prop))=_) (by kernel_rfl)).2).trans (Le.take (own:=[]) (st':=⟨[(2,pV 0 0),(6,pV 2 0),(50,aV 3)],[(1,.gone),(3,.seq tI (ε o.1 (δ 3) ([]:GI))),(4,.seq tI (ε o.1 (δ 1) ([]:GI))),(5,.seq tI (ε o.1 (δ 2) ([]:GI))),(2,.box [iC (ε (ε o.1 (δ 0) ([]:GI)) (δ 0) 0),iC (ε (ε o.1 (δ 0) ([]:GI)) (δ 1) 0),.bH,.all 4,.all 5]),(0,.box [iC 0,iC 0,.bH,.bH,.bH]),(1,.seq (.own tI) o.1)],6⟩) 1 [(δ 3,0,3),(δ 1,0,4),(δ 2,0,5)] J.own (by kernel_rfl) (gH an (gH ao (gH aq bm))))).trans (Le.rz [(4,4),(5,5),(2,2),(0,0)] [] (st':=⟨[(2,pV 0 0),(6,pV 2 0),(50,nV (ε o.1 (δ 3) ([]:GI)))],[(4,.seq tI (ε o.1 (δ 1) ([]:GI))),(5,.seq tI (ε o.1 (δ 2) ([]:GI))),(2,.box [iC (ε (ε o.1 (δ 0) ([]:GI)) (δ 0) 0),iC (ε (ε o.1 (δ 0) ([]:GI)) (δ 1) 0),.bH,.all 4,.all 5]),(0,.box [iC 0,iC 0,.bH,.bH,.bH])],6⟩) J hF (by kernel_rfl))).trans (Le.re [(0,0),(2,2),(4,4),(5,5)] [8] (st':=⟨[(2,pV 0 0),(6,pV 2 0),(50,nV (ε o.1 (δ 3) ([]:GI)))],[(0,.box [iC 0,iC 0,.bH,.bH,.bH]),(2,.box [iC (ε (ε o.1 (δ 0) ([]:GI)) (δ 0) 0),iC (ε (ε o.1 (δ 0) ([]:GI)) (δ 1) 0),.all 8,.all 4,.all 5]),(8,.seq (.st gQ) ([]:GL)),(4,.seq tI (ε o.1 (δ 1) ([]:GI))),(5,.seq tI (ε o.1 (δ 2) ([]:GI)))],9⟩) J (by kernel_rfl))) (λ_=>rfl) (λ_=>rfl) (by kernel_rfl) (by kernel_rfl) (by kernel_rfl) ar (λj U s22 p cx J=> ?_) ?_;exact (bg p λau p=>bg p λav p=>bg p λaw p=>bg p λax p=>bg p λay p=>by (have p:=bt p;exact (by (subst p;exact (by (exact ⟨⟨[(70,pV 2 2),(69,aV 10),(68,aV 9),(67,.agg [iC (ε j (δ 0) 0),iC (ε j (δ 1) 0),iC (ε j (δ 2) 0),iC (ε j (δ 3) 0)]),(66,iV (ε j (δ 3) 0)),(65,.one (.ip tI (ε j (δ 3) 0) 0)),(64,nV j),(63,iV (ε j (δ 2) 0)),(62,.one (.ip tI (ε j (δ 2) 0) 0)),(61,nV j),(60,iV (ε j (δ 1) 0)),(59,.one (.ip tI (ε j (δ 1) 0) 0)),(58,nV j),(57,iV (ε j (δ 0) 0)),(56,.one (.ip tI (ε j (δ 0) 0) 0)),(55,nV j),(54,aV 8),(53,pV 2 2),(7,nV j),(2,pV 0 0),(6,pV 2 0),(50,nV (ε o.1 (δ 3) ([]:GI)))],[(2,.box [iC (ε (ε o.1 (δ 0) ([]:GI)) (δ 0) 0),iC (ε (ε o.1 (δ 0) ([]:GI)) (δ 1) 0),.all 10,.all 4,.all 5]),(8,.gone),(10,.seq (.st gQ) (U++([((ε j (δ 0) 0),(ε j (δ 1) 0),(ε j (δ 2) 0),(ε j (δ 3) 0))]:GL))),(9,.seq (.st gQ) ([((ε j (δ 0) 0),(ε j (δ 1) 0),(ε j (δ 2) 0),(ε j (δ 3) 0))]:GL)),(0,.box [iC 0,iC 0,.bH,.bH,.bH]),(2,.box [iC (ε (ε o.1 (δ 0) ([]:GI)) (δ 0) 0),iC (ε (ε o.1 (δ 0) ([]:GI)) (δ 1) 0),.all 8,.all 4,.all 5]),(8,.seq (.st gQ) U),(4,.seq tI (ε o.1 (δ 1) ([]:GI))),(5,.seq tI (ε o.1 (δ 2) ([]:GI)))],11⟩,uJ.draw 16 (hrs:=[⟨oH,[]⟩,⟨oH,[0]⟩,⟨oH,[]⟩,⟨oH,[2]⟩,⟨oH,[2,3]⟩,⟨oH,[]⟩,⟨oH,[5]⟩,⟨oH,[5,6]⟩,⟨oH,[]⟩,⟨oH,[8]⟩,⟨oH,[8,9]⟩,⟨oH,[]⟩,⟨oH,[11]⟩,⟨oH,[11,12]⟩,⟨oH,[2,3,4,5,6,7,8,9,10,11,12,13]⟩,⟨(hT (.st gQ)),[2,3,4,5,6,7,8,9,10,11,12,13,14]⟩]) (tds:=[[0,1,2,3,4,5,6,7,8,9,10,11,12,13,14,15],[0,1,2,3,4,5,6,7,8,9,10,11,12,13,14,15,16],[0,1,2,3,4,5,6,7,8,9,10,11,12,13,14,15,16,17]]) (rs:=[(hT (.st gQ)),oH,oH]) J (by kernel_rfl) (by kernel_rfl) (lF au av aw ax (bQ ay)),Le.re [(0,0),(2,2),(10,8),(4,4),(5,5)] [] (st':=⟨[(2,pV 0 0),(6,pV 2 0),(50,nV (ε o.1 (δ 3) ([]:GI)))],[(0,.box [iC 0,iC 0,.bH,.bH,.bH]),(2,.box [iC (ε (ε o.1 (δ 0) ([]:GI)) (δ 0) 0),iC (ε (ε o.1 (δ 0) ([]:GI)) (δ 1) 0),.all 8,.all 4,.all 5]),(8,.seq (.st gQ) (U++([((ε j (δ 0) 0),(ε j (δ 1) 0),(ε j (δ 2) 0),(ε j (δ 3) 0))]:GL))),(4,.seq tI (ε o.1 (δ 1) ([]:GI))),(5,.seq tI (ε o.1 (δ 2) ([]:GI)))],9⟩) J (by kernel_rfl)⟩))))));exact (bp (bc t yz λTF ah t=>θ J [oH,(cl ah)] (bQ ah) (by (cases t;exact (Δ (ct bm))))))))))))) λ_ I aj=>bb I (λR I=>Υ J [oH,oH,kT] (bQ R) λ_ h=>(bp (h.ht (aj _ (bt I))))) λR I=>bg I λT I=>bb I (λaa I=>Υ J [oH,oH,kF,oH,oH,oH,oH,oH,oH,kT] (nZ R T (bS T) aa) λ_ h=>(bp (h.ht (aj _ (bt I))))) λaa I=>bg I λai I=>Υ J [oH,oH,kF,oH,oH,oH,oH,oH,oH,kF] (lF R T (bS T) aa (ll ai (bS ai) (show (4:Int)≠0 from by decide))) λ_ h=>(bp (h.ht (aj _ (bt I)))))))
def strings_LastIndexByte (a0:GB)(a1:Int):Option (Int):=
 br (a0.length<4611686018427387904)<|some (aew ⟨a0.toArray⟩ a1)
theorem Q8 {a0}{a1}{r}(h:strings_LastIndexByte a0 a1=some r):CallOK ν 78 [.bZ .str a0,.bZ (.int .u8) a1] [⟨false,tI,r⟩] []:=by
 obtain ⟨o,h⟩:=fF h;have h:=bt h;subst h;exact qk (ps:=[⟨.str,a0⟩,⟨(.int .u8),a1⟩]) (rs:=[⟨tI,aew ⟨a0.toArray⟩ a1⟩]) ⟨_,Tryz.func78,by kernel_rfl,by kernel_rfl⟩ (by simp [Ty.simple]) (by simp [Ty.simple]) λw S j=>by
  obtain ⟨m,I⟩:=Glob.vc j;exact (Tryz.strings_LastIndexByte ⟨a0.toArray⟩ _ o w).mono λe w' ⟨p,t⟩=>⟨⟨_,p,rfl⟩,t▸afL _ _⟩
def gw (a0:GB)(o:Int)(j:Int×GZ):Option ((Int×GZ)⊕(GZ⊕Unit)):=
 bif (decide (j.1<(bn (cY (cut a0 (bz .i64 o 1) (bn a0)))))) then
  br (0<=j.1/\j.1<bn (cY (cut a0 (bz .i64 o 1) (bn a0)))) (
   (show Option (Bool) from
    bif ((ε (cY (cut a0 (bz .i64 o 1) (bn a0))) (δ j.1) 0) != 48) then
     some ((ε (cY (cut a0 (bz .i64 o 1) (bn a0))) (δ j.1) 0) != 49)
    else
     some false).bind λp=>
   bif p then
    some (.inr (.inr ()))
   else
    br (ζ j.2+ζ ([((ε (cY (cut a0 (bz .i64 o 1) (bn a0))) (δ j.1) 0)==49)]:GZ)<=bD) (
     some (.inl ((bz .i64 j.1 1),(j.2++([((ε (cY (cut a0 (bz .i64 o 1) (bn a0))) (δ j.1) 0)==49)]:GZ))))))
 else
  some (.inr (.inl j.2))
def mg (a0:GB):Option (GP×Bool):=
 (strings_LastIndexByte a0 59).bind λo=>
 bif (decide (o<0)) then
  some ((0,0,([]:GI),([]:GZ)),false)
 else
  br (0<=o/\o<=bn a0) (
   (fJ (cut a0 0 o) 2).bind λj=>
   (show Option (Bool) from
    bif (!j.2) then
     some true
    else
     br ((0:Int)<=0/\0<bn j.1) (
      some ((bn (ε j.1 (δ 0) ([]:GI))) != 2))).bind λR=>
   bif R then
    some ((0,0,([]:GI),([]:GZ)),false)
   else
    br ((0:Int)<=0/\0<bn j.1) (
     br ((0:Int)<=0/\0<bn (ε j.1 (δ 0) ([]:GI))) (
      br ((0:Int)<=1/\1<bn (ε j.1 (δ 0) ([]:GI))) (
       br ((0:Int)<=1/\1<bn j.1) (
        br (δ 1<ζ j.1) (
         br (0<=(bz .i64 o 1)/\(bz .i64 o 1)<=bn a0) (
          br (ζ (cut a0 (bz .i64 o 1) (bn a0))<=bD) (
           (some (ε (ε j.1 (δ 0) ([]:GI)) (δ 0) 0)).bind λp=>
           (some (ε (ε j.1 (δ 0) ([]:GI)) (δ 1) 0)).bind λr=>
           (rounds (gw a0 o) (0,([]:GZ))).bind λI=>match I with
            | .inl t=>
             (cI (p,r,(ε j.1 (δ 1) ([]:GI)),t)).bind λJ=>
             bif (!J) then
              some ((0,0,([]:GI),([]:GZ)),false)
             else
              some ((p,r,(ε j.1 (δ 1) ([]:GI)),t),true)
            | .inr T=>
             some ((0,0,([]:GI),([]:GZ)),false)))))))))
theorem Q9 {a0}{r}(o:mg a0=some r):CallOK ν 30 [.bZ .str a0] [⟨true,(.st gP),r.1⟩,⟨false,.bool,r.2⟩] []:=
 dB Tryz.func30 rfl λcx p hF=>θ p [] bm (bc o Q8 λy1 al o=>θ p [oH,(cl al)] (bQ al) (φ (θ p [] bm (Φ o (λaC o=>θ p [] bm (by (cases o;exact (Δ (bF (ct bm)))))) λaC o=>Θ (bp (bg o λaD o=>bc o Fk λR an o=>θ p [oH,oH,oH,(cl an)] (dp (JI aD) an) (φ (ϰ o (λv8=>up [0,2,4,5] [(30,bV v8)] [0,1] [] 0) (λv8 o=>Φ o (λao o=>θ p [] bm (by (cases o;exact (Δ (bF (ct bm)))))) λao o=>Θ (bp (bg o λJ o=>bg o λaa o=>bg o λab o=>bg o λad o=>abA p [] (lF J (bS J) aa (bS aa) (lF J (bS J) ab (bS ab) (dp ad (bS ad)))) (bg o λaq o=>HT.eg ⟨[(0,.one (.bG .str a0)),(2,pV 0 0),(4,iV y1),(7,pV 2 0)],[(2,.box [iC (ε (ε R.1 (δ 0) ([]:GI)) (δ 0) 0),iC (ε (ε R.1 (δ 0) ([]:GI)) (δ 1) 0),.row 1 (δ 1) 0,.bH]),(0,.box [iC 0,iC 0,.bH,.bH]),(1,.seq (.own tI) R.1)],3⟩ p (by (refine (Le.take (own:=[]) (st':=⟨[(0,.one (.bG .str a0)),(2,pV 0 0),(4,iV y1),(7,pV 2 0)],[(1,.gone),(3,.seq tI (ε R.1 (δ 1) ([]:GI))),(2,.box [iC (ε (ε R.1 (δ 0) ([]:GI)) (δ 0) 0),iC (ε (ε R.1 (δ 0) ([]:GI)) (δ 1) 0),.all 3,.bH]),(0,.box [iC 0,iC 0,.bH,.bH]),(1,.seq (.own tI) R.1)],4⟩) 1 [(δ 1,0,3)] p.own (by kernel_rfl) (gH aq bm)).ht ?_;exact (φ (bg o λar o=>bg o λau o=>θ p [] (dp (PO ar) au) (bq o λo=>bq o λo=>ο (ϧ p o (λaj=>up [2,7,50,51] [(52,iV aj.1)] [0,4,3] [(2,.box [iC (ε (ε R.1 (δ 0) ([]:GI)) (δ 0) 0),iC (ε (ε R.1 (δ 0) ([]:GI)) (δ 1) 0),.all 3,.all 7]),(7,.seq .bool aj.2)] 3) (λak=>match ak with| .inl av=>(.exit 0,up [2,7] [] [0,3] [(2,.box [iC (ε (ε R.1 (δ 0) ([]:GI)) (δ 0) 0),iC (ε (ε R.1 (δ 0) ([]:GI)) (δ 1) 0),.all 3,.all 7]),(7,.seq .bool av)] 3)| .inr aE=>(.ret,up [2] [(3,bV false)] [0] [] 0)) (λak=>match ak with| .inl av=>λo=>(bE (bp (φ (bc o o9 λZs ae o=>θ p [oH,(cl ae)] (bQ ae) (Φ o (λaw o=>θ p [] bm (by (cases o;exact (Δ (bF (ct bm)))))) λaw o=>Θ (bp (θ p [] bm (by (cases o;exact (Δ (ct bm)))))))))))| .inr aE=>λo=>by (cases o;exact (bT (bF (ct bm))))) λaj x30 j af=>θ p [] bm (Ϻ j (λax j=>φ (ο (bg j λag j=>θ p [] (dp ag (bS ag)) (φ (ϰ j (λay=>up [2,7,9,50,51,52] [(61,bV ay)] [0,2,4,3,7] [] 0) (λay j=>Φ j (λaz j=>θ p [] bm (HT.xr p (bF (bT (bF (fp (af _ (bw j)))))))) λaz j=>Θ (bp (bg j λaA j=>HT.l p (nO 4 [(hT .bool),(hT .bool)]) (bQ aA) (bB (bp (Υ p [] bm λ_ h=>(bM (lN j h)))))))) λ_ I ah=>bb I (λT I=>Υ p [oH,oH,kT] (bQ T) λ_ h=>(bp (h.ht (ah _ (bt I))))) λT I=>Υ p [oH,oH,kF] (bQ T) λ_ h=>(bp (h.ht (ah _ (bt I))))))))) λax j=>Ϩ p (bL (bN (af _ (bw j))))))))))))))) λ_ t aB=>bb t (λU t=>Υ p [oH,oH,kT] (bQ U) λ_ h=>(bp (h.ht (aB _ (bt t))))) λU t=>bg t λai t=>Υ p [oH,oH,kF] (ll U ai (bS ai)) λ_ h=>(bp (h.ht (aB _ (bt t))))))))))))
def n9 (j:GI)(o:GL):Option (GL):=
 br ((0:Int)<=0/\0<bn j) (
  br ((0:Int)<=1/\1<bn j) (
   br ((0:Int)<=2/\2<bn j) (
    br ((0:Int)<=3/\3<bn j) (
     br (ζ o+ζ ([((ε j (δ 0) 0),(ε j (δ 1) 0),(ε j (δ 2) 0),(ε j (δ 3) 0))]:GL)<=bD) (
      some (o++([((ε j (δ 0) 0),(ε j (δ 1) 0),(ε j (δ 2) 0),(ε j (δ 3) 0))]:GL)))))))
def jX (a0:GB):Option (GG×Bool):=
 (fJ a0 2).bind λj=>
 (show Option (Bool) from
  bif (!j.2) then
   some true
  else
   br ((0:Int)<=0/\0<bn j.1) (
    bif ((bn (ε j.1 (δ 0) ([]:GI))) != 2) then
     some true
    else
     br ((0:Int)<=1/\1<bn j.1) (
      some ((Int.tmod (bn (ε j.1 (δ 1) ([]:GI))) 4) != 0)))).bind λv4=>
 bif v4 then
  some ((0,0,([]:GL)),false)
 else
  br ((0:Int)<=0/\0<bn j.1) (
   br ((0:Int)<=0/\0<bn (ε j.1 (δ 0) ([]:GI))) (
    br ((0:Int)<=1/\1<bn (ε j.1 (δ 0) ([]:GI))) (
     (some (ε (ε j.1 (δ 0) ([]:GI)) (δ 0) 0)).bind λp=>
     (some (ε (ε j.1 (δ 0) ([]:GI)) (δ 1) 0)).bind λr=>
     br ((0:Int)<=1/\1<bn j.1) (
      br (δ 1<ζ j.1) (
       (sJ (n9) (ε j.1 (δ 1) ([]:GI)) ([]:GL)).bind λt=>
       (dC (p,r,t)).bind λo=>
       some ((o.1.1,o.1.2.1,o.1.2.2),o.2))))))
theorem Ra {a0}{r}(t:jX a0=some r):CallOK ν 31 [.bZ .str a0] [⟨true,(.st gR),r.1⟩,⟨false,.bool,r.2⟩] []:=
 Vd false Tryz.func31 rfl λcx J hF av=>θ J [] bm (bc t Fk λp ai t=>θ J [oH,(cl ai)] (bQ ai) (φ (ϰ t (λv4=>up [2,4] [(29,bV v4)] [0,1] [] 0) (λv4 t=>Φ t (λaw t=>θ J [] bm (by (cases t;exact (Δ (bF (ct bm)))))) λaw t=>Θ (bp (bg t λab t=>bg t λaj t=>bg t λad t=>abA J [] (lF ab (bS ab) aj (bS aj) (nZ ab (bS ab) ad (bS ad))) (bq t λt=>bq t λt=>φ (bg t λae t=>bg t λak t=>bo t λr18 al t=>HT.ex ⟨[(2,pV 0 0),(4,aV 1),(6,pV 2 0)],[(2,.box [iC (ε (ε p.1 (δ 0) ([]:GI)) (δ 0) 0),iC (ε (ε p.1 (δ 0) ([]:GI)) (δ 1) 0),.bH]),(0,.box [iC 0,iC 0,.bH]),(1,.seq (.own tI) p.1)],3⟩ J (by (refine HT.chunk (λ(U:GL)=>⟨[(2,pV 0 0),(6,pV 2 0),(44,nV (ε p.1 (δ 1) ([]:GI)))],[(0,.box [iC 0,iC 0,.bH]),(2,.box [iC (ε (ε p.1 (δ 0) ([]:GI)) (δ 0) 0),iC (ε (ε p.1 (δ 0) ([]:GI)) (δ 1) 0),.all 6]),(6,.seq (.st gQ) U)],7⟩) (n:=3) (rs:=[oH,oH,oH]) (st1:=⟨[(44,.one (.row 1 (δ 1) 0)),(43,.one (.dn 1 (δ 1) 1 0)),(42,aV 1),(2,pV 0 0),(4,aV 1),(6,pV 2 0)],[(2,.box [iC (ε (ε p.1 (δ 0) ([]:GI)) (δ 0) 0),iC (ε (ε p.1 (δ 0) ([]:GI)) (δ 1) 0),.bH]),(0,.box [iC 0,iC 0,.bH]),(1,.seq (.own tI) p.1)],3⟩) (ks:=[2,6,44]) (ts:=44) (ta:=7) J av chunkFn rfl rfl rfl rfl rfl rfl rfl (by kernel_rfl) (dp ae (bS ae)) (((((Le.gc (ks:=[2,6,44]) (ms:=[2,0,1]) (st':=⟨[(2,pV 0 0),(6,pV 2 0),(44,.one (.row 1 (δ 1) 0))],[(2,.box [iC (ε (ε p.1 (δ 0) ([]:GI)) (δ 0) 0),iC (ε (ε p.1 (δ 0) ([]:GI)) (δ 1) 0),.bH]),(0,.box [iC 0,iC 0,.bH]),(1,.seq (.own tI) p.1)],3⟩) (cs:=[]) J (rfl:some (⟨[(44,.one (.row 1 (δ 1) 0)),(43,.one (.dn 1 (δ 1) 1 0)),(42,aV 1),(2,pV 0 0),(4,aV 1),(6,pV 2 0)],[(2,.box [iC (ε (ε p.1 (δ 0) ([]:GI)) (δ 0) 0),iC (ε (ε p.1 (δ 0) ([]:GI)) (δ 1) 0),.bH]),(0,.box [iC 0,iC 0,.bH]),(1,.seq (.own tI) p.1)],3⟩,([]:List Prop))=_) (by kernel_rfl)).2).trans (Le.take (own:=[]) (st':=⟨[(2,pV 0 0),(6,pV 2 0),(44,aV 3)],[(1,.gone),(3,.seq tI (ε p.1 (δ 1) ([]:GI))),(2,.box [iC (ε (ε p.1 (δ 0) ([]:GI)) (δ 0) 0),iC (ε (ε p.1 (δ 0) ([]:GI)) (δ 1) 0),.bH]),(0,.box [iC 0,iC 0,.bH]),(1,.seq (.own tI) p.1)],4⟩) 1 [(δ 1,0,3)] J.own (by kernel_rfl) (gH ak bm))).trans (Le.rz [(2,2),(0,0)] [] (st':=⟨[(2,pV 0 0),(6,pV 2 0),(44,nV (ε p.1 (δ 1) ([]:GI)))],[(2,.box [iC (ε (ε p.1 (δ 0) ([]:GI)) (δ 0) 0),iC (ε (ε p.1 (δ 0) ([]:GI)) (δ 1) 0),.bH]),(0,.box [iC 0,iC 0,.bH])],4⟩) J hF (by kernel_rfl))).trans (Le.re [(0,0),(2,2)] [6] (st':=⟨[(2,pV 0 0),(6,pV 2 0),(44,nV (ε p.1 (δ 1) ([]:GI)))],[(0,.box [iC 0,iC 0,.bH]),(2,.box [iC (ε (ε p.1 (δ 0) ([]:GI)) (δ 0) 0),iC (ε (ε p.1 (δ 0) ([]:GI)) (δ 1) 0),.all 6]),(6,.seq (.st gQ) ([]:GL))],7⟩) J (by kernel_rfl))) (λ_=>rfl) (λ_=>rfl) (by kernel_rfl) (by kernel_rfl) (by kernel_rfl) al (λj U s22 o cx J=> ?_) ?_;exact (bg o λan o=>bg o λao o=>bg o λaq o=>bg o λar o=>bg o λau o=>by (have o:=bt o;exact (by (subst o;exact (by (exact ⟨⟨[(64,pV 2 2),(63,aV 8),(62,aV 7),(61,.agg [iC (ε j (δ 0) 0),iC (ε j (δ 1) 0),iC (ε j (δ 2) 0),iC (ε j (δ 3) 0)]),(60,iV (ε j (δ 3) 0)),(59,.one (.ip tI (ε j (δ 3) 0) 0)),(58,nV j),(57,iV (ε j (δ 2) 0)),(56,.one (.ip tI (ε j (δ 2) 0) 0)),(55,nV j),(54,iV (ε j (δ 1) 0)),(53,.one (.ip tI (ε j (δ 1) 0) 0)),(52,nV j),(51,iV (ε j (δ 0) 0)),(50,.one (.ip tI (ε j (δ 0) 0) 0)),(49,nV j),(48,aV 6),(47,pV 2 2),(7,nV j),(2,pV 0 0),(6,pV 2 0),(44,nV (ε p.1 (δ 1) ([]:GI)))],[(2,.box [iC (ε (ε p.1 (δ 0) ([]:GI)) (δ 0) 0),iC (ε (ε p.1 (δ 0) ([]:GI)) (δ 1) 0),.all 8]),(6,.gone),(8,.seq (.st gQ) (U++([((ε j (δ 0) 0),(ε j (δ 1) 0),(ε j (δ 2) 0),(ε j (δ 3) 0))]:GL))),(7,.seq (.st gQ) ([((ε j (δ 0) 0),(ε j (δ 1) 0),(ε j (δ 2) 0),(ε j (δ 3) 0))]:GL)),(0,.box [iC 0,iC 0,.bH]),(2,.box [iC (ε (ε p.1 (δ 0) ([]:GI)) (δ 0) 0),iC (ε (ε p.1 (δ 0) ([]:GI)) (δ 1) 0),.all 6]),(6,.seq (.st gQ) U)],9⟩,uJ.draw 16 (hrs:=[⟨oH,[]⟩,⟨oH,[0]⟩,⟨oH,[]⟩,⟨oH,[2]⟩,⟨oH,[2,3]⟩,⟨oH,[]⟩,⟨oH,[5]⟩,⟨oH,[5,6]⟩,⟨oH,[]⟩,⟨oH,[8]⟩,⟨oH,[8,9]⟩,⟨oH,[]⟩,⟨oH,[11]⟩,⟨oH,[11,12]⟩,⟨oH,[2,3,4,5,6,7,8,9,10,11,12,13]⟩,⟨(hT (.st gQ)),[2,3,4,5,6,7,8,9,10,11,12,13,14]⟩]) (tds:=[[0,1,2,3,4,5,6,7,8,9,10,11,12,13,14,15],[0,1,2,3,4,5,6,7,8,9,10,11,12,13,14,15,16],[0,1,2,3,4,5,6,7,8,9,10,11,12,13,14,15,16,17]]) (rs:=[(hT (.st gQ)),oH,oH]) J (by kernel_rfl) (by kernel_rfl) (lF an ao aq ar (bQ au)),Le.re [(0,0),(2,2),(8,6)] [] (st':=⟨[(2,pV 0 0),(6,pV 2 0),(44,nV (ε p.1 (δ 1) ([]:GI)))],[(0,.box [iC 0,iC 0,.bH]),(2,.box [iC (ε (ε p.1 (δ 0) ([]:GI)) (δ 0) 0),iC (ε (ε p.1 (δ 0) ([]:GI)) (δ 1) 0),.all 6]),(6,.seq (.st gQ) (U++([((ε j (δ 0) 0),(ε j (δ 1) 0),(ε j (δ 2) 0),(ε j (δ 3) 0))]:GL)))],7⟩) J (by kernel_rfl)⟩))))));exact (bp (bc t yC λTF af t=>θ J [oH,(cl af)] (bQ af) (by (cases t;exact (Δ (ct bm))))))))))))) λ_ I ah=>bb I (λR I=>Υ J [oH,oH,kT] (bQ R) λ_ h=>(bp (h.ht (ah _ (bt I))))) λR I=>bg I λT I=>bb I (λaa I=>Υ J [oH,oH,kF,oH,oH,oH,oH,oH,oH,kT] (nZ R T (bS T) aa) λ_ h=>(bp (h.ht (ah _ (bt I))))) λaa I=>bg I λag I=>Υ J [oH,oH,kF,oH,oH,oH,oH,oH,oH,kF] (lF R T (bS T) aa (ll ag (bS ag) (show (4:Int)≠0 from by decide))) λ_ h=>(bp (h.ht (ah _ (bt I)))))))
def fK (a0:GP)(o:GI)(j:Int×Int):Option ((Int×Int)⊕(Int)):=
 bif (decide (j.2<(bn o))) then
  (show Option (Int) from
   br (0<=j.2/\j.2<bn o) (
    br (0<=j.2/\j.2<bn a0.2.2.2) (
     bif (ε a0.2.2.2 (δ j.2) false) then
      some (bz .i64 j.1 (ε o (δ j.2) 0))
     else
      some j.1))).bind λp=>
  some (.inl (p,(bz .i64 j.2 1)))
 else
  some (.inr j.1)
def fL (a0:GP)(r:Int×GI)(p:Int×GI)(j:Int×GI):Option ((Int×GI)⊕GI):=
 bif (decide (j.1<a0.2.1)) then
  (cP (a0.1,a0.2.1,a0.2.2.1,a0.2.2.2) p.1 j.1).bind λo=>
  br (0<=o/\o<bn j.2) (
   some (.inl ((bz .i64 j.1 1),(aaj j.2 (δ o) (bz .i64 (ε j.2 (δ o) 0) (ε r.2 (δ p.1) 0))))))
 else
  some (.inr j.2)
def fM (a0:GP)(o:Int×GI)(j:Int×GI):Option ((Int×GI)⊕GI):=
 bif (decide (j.1<(bn o.2))) then
  br (0<=j.1/\j.1<bn o.2) (
   (rounds (fL a0 o j) (0,j.2)).bind λp=>
   some (.inl ((bz .i64 j.1 1),p)))
 else
  some (.inr j.2)
def fN (a0:GP)(a1:Int)(j:Int×GI):Option ((Int×GI)⊕GI):=
 bif (decide (j.1<a1)) then
  (rounds (fM a0 j) (0,(υ (δ a0.1) (0:Int)))).bind λo=>
  some (.inl ((bz .i64 j.1 1),o))
 else
  some (.inr j.2)
def fX (a0:GP)(a1:Int):Option (Int×Bool):=
 (show Option (Bool) from
  (cI (a0.1,a0.2.1,a0.2.2.1,a0.2.2.2)).bind λj=>
  bif (!j) then
   some true
  else
   (cG a1 0 12).bind λo=>
   some (!o)).bind λt=>
 bif t then
  some (0,false)
 else
  br (0<=a0.1/\a0.1<=4294967296) (
   br ((0:Int)<=0/\0<bn (υ (δ a0.1) (0:Int))) (
    (rounds (fN a0 a1) (0,(aaj (υ (δ a0.1) (0:Int)) (δ 0) 1))).bind λp=>
    (rounds (fK a0 p) (0,0)).bind λr=>
    some (r,true)))
theorem Rb {a0}{a1}{r}(T:fX a0 a1=some r):CallOK ν 19 [.bZ (.st gP) a0,.bZ tI a1] [⟨false,tI,r.1⟩,⟨false,.bool,r.2⟩] []:=
 dB Tryz.func19 rfl λcx j hF=>θ j [] bm (φ (ϰ T (λv2=>up [1,2] [(21,bV v2)] [0] [] 0) (λv2 T=>Φ T (λaH T=>θ j [] bm (by (cases T;exact (Δ (bF (ct bm)))))) λaH T=>Θ (bp (bg T λal T=>θ j [oH,oH,(hT tI)] (bQ (Mj al)) (bg T λan T=>θ j [] (dp an (bS an)) (φ (θ j [] bm (ο (ϧ j T (λs8=>up [2,6,27] [(28,iV s8.1)] [0] [(1,.seq tI s8.2)] 0) (λao=>(.exit 0,up [2,6] [] [0] [(1,.seq tI ao)] 0)) (λao T=>(bE (bp (θ j [] bm (φ (θ j [] bm (ο (ϧ j T (λai=>up [2,59,60] [(11,iV ai.1),(61,iV ai.2)] [0,1] [] 0) (λaq=>(.exit 6,up [] [(11,iV aq)] [] [] 0)) (λaq T=>(bE (bp (θ j [] bm (by (cases T;exact (Δ (ct bm)))))))) λai Vg I ar=>θ j [] bm (Ϻ I (λau I=>ϰ I (λav=>up [2,59,60,61] [(11,iV av)] [0,1] [] 0) (λav I=>Υ j [] bm λ_ h=>(bM (lN I h))) λ_ o ad=>ο (bg o λae o=>θ j [] (dp ae (bS ae)) (bg o λaw o=>θ j [] (bQ aw) (Φ o (λax o=>Υ j [] bm λ_ h=>(bB (bp (h.ht (ad _ (bt o)))))) λax o=>Θ (bB (bp (HT.re j (ad _ (bt o))))))))) λau I=>Ϩ j (bL (bN (ar _ (bw I))))))))))))) λs8 x25 J ay=>θ j [] bm (Ϻ J (λaz J=>φ (ο (θ j [oH,oH,(hT tI)] (bQ (Mj al)) (φ (θ j [] bm (ο (ϧ j J (λaj=>up [2,7,27,28,33,34] [(35,iV aj.1)] [0,1] [(2,.seq tI aj.2)] 0) (λaA=>(.exit 2,up [2,7,27,28] [] [0] [(2,.seq tI aA)] 0)) (λaA J=>(bE (bp (HT.l j [] bm (bB (bp (Υ j [] bm λ_ h=>(bM (lN J h))))))))) λaj x32 p aB=>θ j [] bm (Ϻ p (λaC p=>φ (ο (bg p λaf p=>θ j [] (dp af (bS af)) (θ j [] bm (ο (ϧ j p (λak=>up [2,7,8,9,27,28,33,34,35,41] [(42,iV ak.1)] [0,1] [(2,.seq tI ak.2)] 0) (λaD=>(.exit 4,up [2,7,27,28,33,34,35] [] [0,1] [(2,.seq tI aD)] 0)) (λaD p=>(bE (bB (bp (Υ j [] bm λ_ h=>(bM (lN p h))))))) λak ZB t aE=>θ j [] bm (Ϻ t (λaF t=>φ (ο (θ j [] bm (bc t qX λy44 ag t=>bg t λU t=>HT.l j (nO 4 [(cl ag)]) (lF ag U (bS U) U (bQ (bS U))) (bB (bp (Υ j [] bm λ_ h=>(bM (lN t h))))))))) λaF t=>Ϩ j (bL (bN (aE _ (bw t))))))))))) λaC p=>Ϩ j (bL (bN (aB _ (bw p)))))))))))) λaz J=>Ϩ j (bL (bN (ay _ (bw J))))))))))))) λ_ R aG=>bc R o9 λZq aa R=>bb R (λab R=>Υ j [oH,(cl aa),oH,kT] (dp aa ab) λ_ h=>(bp (h.ht (aG _ (bt R))))) λab R=>bc R gZ λy50 ah R=>Υ j [oH,(cl aa),oH,kF,oH,(cl ah)] (ll aa ab ah) λ_ h=>(bp (h.ht (aG _ (bt R))))))
def nW (q1:GI)(p:List GB)(o:Int×GB×Int)(j:Int×GB):Option ((Int×GB)⊕((Int×GB))):=
 bif (decide (j.1>=(ε q1 (δ o.2.2) 0))) then
  br (0<=o.2.2/\o.2.2<bn p) (
   br (ζ j.2+ζ (ε p (δ o.2.2) ([]:GB))<=bD) (
    some (.inl ((bW .i64 j.1 (ε q1 (δ o.2.2) 0)),(j.2++(ε p (δ o.2.2) ([]:GB)))))))
 else
  some (.inr (j.1,j.2))
def rp (q1:GI)(p:List GB)(j:Int×GB×Int):Option ((Int×GB×Int)⊕GB):=
 bif (decide (j.2.2<(bn q1))) then
  br (0<=j.2.2/\j.2.2<bn q1) (
   (rounds (nW q1 p j) (j.1,j.2.1)).bind λo=>
   some (.inl (o.1,o.2,(bz .i64 j.2.2 1))))
 else
  some (.inr j.2.1)
def qZ (a0:Int):Option GB:=
 (some ([1000,900,500,400,100,90,50,40,10,9,5,4,1]:GI)).bind λq1=>
 (some ([([77]:GB),([67,77]:GB),([68]:GB),([67,68]:GB),([67]:GB),([88,67]:GB),([76]:GB),([88,76]:GB),([88]:GB),([73,88]:GB),([86]:GB),([73,86]:GB),([73]:GB)]:List GB)).bind λj=>
 (rounds (rp q1 j) (a0,([]:GB),0)).bind λo=>
 some o
theorem Nh {a0}{r}(J:qZ a0=some r):CallOK ν 203 [.bZ tI a0] [⟨false,.str,r⟩] []:=
 dB Tryz.func203 rfl λcx p hF=>θ p [] bm (θ p [(hT tI)] bm (bq J λJ=>θ p [(hT .str)] bm (bq J λJ=>θ p [] bm (φ (θ p [] bm (ο (ϧ p J (λs5=>up [4,10,11] [(0,iV s5.1),(5,.one (.bG .str s5.2.1)),(12,iV s5.2.2)] [1,0] [] 0) (λr7=>(.exit 0,up [] [(5,.one (.bG .str r7))] [] [] 0)) (λr7 J=>(bE (bp (θ p [] bm (by (cases J;exact (Δ (ct bm)))))))) λs5 x8 o U=>θ p [] bm (Ϻ o (λaa o=>φ (ο (bg o λt o=>θ p [] (dp t (bS t)) (ο (ϧ p o (λR=>up [4,6,7,10,11,12] [(0,iV R.1),(5,.one (.bG .str R.2))] [1,0] [] 0) (λT=>(.exit 2,up [4,10,11,12] [(0,iV T.1),(5,.one (.bG .str T.2))] [1,0] [] 0)) (λT o=>(bE (bB (bp (Υ p [] bm λ_ h=>(bM (lN o h))))))) λR x16 j ab=>φ (θ p [] bm (Φ j (λad j=>Θ (bp (ο (bg j λI j=>bg j λae j=>θ p [] (ll I (bS I) ae) (Υ p [] bm λ_ h=>(bB (bM (lN j h)))))))) λad j=>Ϩ p (bL (bN (ab _ (bw j))))))))))) λaa o=>Ϩ p (bL (bN (U _ (bw o))))))))))))
def oA (a0:Int):Option (GB×Bool):=
 (cG a0 1 3999).bind λj=>
 bif (!j) then
  some (([]:GB),false)
 else
  (qZ a0).bind λo=>
  some (o,true)
theorem Ni {a0}{r}(j:oA a0=some r):CallOK ν 169 [.bZ tI a0] [⟨false,.str,r.1⟩,⟨false,.bool,r.2⟩] []:=
 dB Tryz.func169 rfl λcx t J=>θ t [] bm (φ (bc j gZ λR o j=>θ t [oH,(cl o)] (bQ o) (Φ j (λI j=>θ t [] bm (by (cases j;exact (Δ (bF (ct bm)))))) λI j=>Θ (bp (bc j Nh λT p j=>θ t [oH,(cl p)] (bQ p) (by (cases j;exact (Δ (ct bm)))))))))
def nk (a0:GM×GP×GG×GI)(a1:GB)(a2:GB):Option (GB×Bool×Bool×(GM×GP×GG×GI)):=
 (show Option ((Bool×(GM×GP×GG×GI))⊕(GB×Bool×Bool×(GM×GP×GG×GI))) from
  bif (a1==([109,97,99,104,105,110,101]:GB)) then
   (jW a2).bind λr=>
   some (.inl (r.2,(r.1.1,r.1.2.1,r.1.2.2.1,r.1.2.2.2.1,r.1.2.2.2.2),(a0.2.1.1,a0.2.1.2.1,a0.2.1.2.2.1,a0.2.1.2.2.2),(a0.2.2.1.1,a0.2.2.1.2.1,a0.2.2.1.2.2),a0.2.2.2))
  else
   bif (a1==([112,108,97,105,110]:GB)) then
    (mg a2).bind λj=>
    some (.inl (j.2,(a0.1.1,a0.1.2.1,a0.1.2.2.1,a0.1.2.2.2.1,a0.1.2.2.2.2),(j.1.1,j.1.2.1,j.1.2.2.1,j.1.2.2.2),(a0.2.2.1.1,a0.2.2.1.2.1,a0.2.2.1.2.2),a0.2.2.2))
   else
    bif (a1==([103,114,97,109,109,97,114]:GB)) then
     (jX a2).bind λo=>
     some (.inl (o.2,(a0.1.1,a0.1.2.1,a0.1.2.2.1,a0.1.2.2.2.1,a0.1.2.2.2.2),(a0.2.1.1,a0.2.1.2.1,a0.2.1.2.2.1,a0.2.1.2.2.2),(o.1.1,o.1.2.1,o.1.2.2),a0.2.2.2))
    else
     bif (a1==([119,111,114,100]:GB)) then
      (iZ a2).bind λt=>
      some (.inl (t.2,(a0.1.1,a0.1.2.1,a0.1.2.2.1,a0.1.2.2.2.1,a0.1.2.2.2.2),(a0.2.1.1,a0.2.1.2.1,a0.2.1.2.2.1,a0.2.1.2.2.2),(a0.2.2.1.1,a0.2.2.1.2.1,a0.2.2.1.2.2),t.1))
     else
      (show Option (Bool) from
       bif (a1==([99,111,117,110,116]:GB)) then
        some (a1==([99,111,117,110,116]:GB))
       else
        some (a1==([114,111,109,97,110]:GB))).bind λv20=>
      bif v20 then
       (eD a2).bind λp=>
       (show Option (GB×Bool) from
        (show Option (Bool) from
         bif p.2 then
          some (a1==([99,111,117,110,116]:GB))
         else
          some false).bind λU=>
        bif U then
         (fX (a0.2.1.1,a0.2.1.2.1,a0.2.1.2.2.1,a0.2.1.2.2.2) p.1).bind λI=>
         (dy I.1 I.2).bind λJ=>
         some (J.1,J.2)
        else
         bif p.2 then
          (oA p.1).bind λR=>
          some (R.1,R.2)
         else
          some (([]:GB),false)).bind λT=>
       sX (some (T.1,T.2,true,a0))
      else
       sX (some (([]:GB),false,false,a0))).bind λw5=>match w5 with
  | .inl v2=>
   some (([111,107]:GB),v2.1,true,v2.2)
  | .inr z=>some z
theorem Nj {a0}{a1}{a2}{r}(hr:nk a0 a1 a2=some r):CallOK ν 134 [.own (.bx (.st (.pair (.st gM) (.pair (.st gP) (.pair (.st gR) cC))))) [a0],.bZ .str a1,.bZ .str a2] [⟨false,.str,r.1⟩,⟨false,.bool,r.2.1⟩,⟨false,.bool,r.2.2.1⟩] [⟨(.bx (.st (.pair (.st gM) (.pair (.st gP) (.pair (.st gR) cC))))),[r.2.2.2]⟩]:=
 dB Tryz.func134 rfl λcx p hF=>θ p [] bm (θ p [] bm (HT.jo hr (λ_=>rfl) (λv2=>up [] [(9,bV v2.1)] [] [(0,.seq (.st (.pair (.st gM) (.pair (.st gP) (.pair (.st gR) cC)))) ([v2.2]))] 0) (λv2 hr=>θ p [] bm (by (cases hr;exact (Δ (ct (bQ (show ζ ([v2.2])=ζ [a0] from rfl))))))) λ_ j R4 T=>θ p [] bm (ο (θ p [] bm (Φ j (λJ0 j=>bc j Q7 λy8 Ow j=>Υ p [oH,oH,(cl (ϱ [true,false] rfl Ow))] (dp (ϱ [true,false] rfl Ow) (show 0<ζ [a0] from Ξ)) λ_ h=>(bB (bp (h.ht (T _ (bw j)))))) λJ0 j=>θ p [] bm (Φ j (λBB j=>bc j Q9 λLp U j=>Υ p [oH,oH,(cl (ϱ [true,false] rfl U))] (dp (ϱ [true,false] rfl U) (show 0<ζ [a0] from Ξ)) λ_ h=>(bB (bp (h.ht (T _ (bw j)))))) λBB j=>θ p [] bm (Φ j (λFa j=>bc j Ra λRX aa j=>Υ p [oH,oH,(cl (ϱ [true,false] rfl aa))] (dp (ϱ [true,false] rfl aa) (show 0<ζ [a0] from Ξ)) λ_ h=>(bB (bp (h.ht (T _ (bw j)))))) λFa j=>θ p [] bm (Φ j (λyA j=>bc j Km λRZ ab j=>Υ p [oH,oH,(cl (ϱ [true,false] rfl ab))] (dp (ϱ [true,false] rfl ab) (show 0<ζ [a0] from Ξ)) λ_ h=>(bB (bp (h.ht (T _ (bw j)))))) λyA j=>ϰ j (λv20=>up [0,1,2] [(55,bV v20)] [0] [] 0) (λv20 j=>Φ j (λJ9 j=>bc j GD λZD ad j=>θ p [oH,(cl ad)] (bQ ad) (θ p [] bm (ϰ j (λR3=>up [] [(12,.one (.bG .str R3.1)),(13,bV R3.2)] [0] [] 0) (λR3 j=>θ p [] bm (have hr:=R4 j;by (cases hr;exact (Δ (bT (bF (ct (bQ (show ζ ([a0])=ζ [a0] from rfl))))))))) λ_ o J=>ϰ o (λLo=>up [0,10,11,12,13] [(67,bV Lo)] [0] [] 0) (λLo o=>Φ o (λPW o=>bc o Rb λXh ae o=>bc o sM λZx af o=>Υ p (nO 5 [(cl ae),oH,oH,(cl af)]) (ll (show 0<ζ [a0] from Ξ) ae af) λ_ h=>(bp (h.ht (J _ (bt o))))) λPW o=>θ p [] bm (Φ o (λYD o=>bc o Ni λy43 ag o=>Υ p [oH,(cl ag)] (bQ ag) λ_ h=>(bp (h.ht (J _ (bt o))))) λYD o=>Θ (bp (HT.re p (J _ (bt o)))))) λ_ t ah=>bb t (λR t=>Υ p [oH,kT] (bQ R) λ_ h=>(bp (h.ht (ah _ (bt t))))) λR t=>Υ p [oH,kF] (bQ R) λ_ h=>(bp (h.ht (ah _ (bt t))))))) λJ9 j=>θ p [] bm (have hr:=R4 j;by (cases hr;exact (Δ (bT (bF (ct (bQ (show ζ ([a0])=ζ [a0] from rfl))))))))) λ_ I ai=>θ p [] bm (Φ I (λJ7 I=>Θ (bp (HT.re p (ai _ (bt I))))) λJ7 I=>Υ p [] bm λ_ h=>(bp (h.ht (ai _ (bt I)))))))))))))
def mh (a0:GB)(a1:GB)(a2:Int)(a3:Int)(a4:Int)(s1:Int×List GI)(j:Int×GI):Option ((Int×GI)⊕GI):=
 bif (decide (j.1<(bn (υ (δ (bz .i64 (bn a1) 1)) (0:Int))))) then
  (show Option GI from
   bif (s1.1==0) then
    br (0<=j.1/\j.1<bn j.2) (
     some (aaj j.2 (δ j.1) (dX .i64 j.1 a2)))
   else
    bif (j.1==0) then
     br (0<=j.1/\j.1<bn j.2) (
      some (aaj j.2 (δ j.1) (dX .i64 s1.1 a3)))
    else
     br (0<=(bW .i64 s1.1 1)/\(bW .i64 s1.1 1)<bn s1.2) (
      br (0<=(bW .i64 j.1 1)/\(bW .i64 j.1 1)<bn (ε s1.2 (δ (bW .i64 s1.1 1)) ([]:GI))) (
       (some (ε (ε s1.2 (δ (bW .i64 s1.1 1)) ([]:GI)) (δ (bW .i64 j.1 1)) 0)).bind λo=>
       (show Option (Int) from
        br (0<=(bW .i64 s1.1 1)/\(bW .i64 s1.1 1)<bn a0) (
         br (0<=(bW .i64 j.1 1)/\(bW .i64 j.1 1)<bn a1) (
          bif (((((ε a0 (δ (bW .i64 s1.1 1)) 0:UInt8).toNat:Nat)):Int) != ((((ε a1 (δ (bW .i64 j.1 1)) 0:UInt8).toNat:Nat)):Int)) then
           some (bz .i64 o a4)
          else
           some o))).bind λv30=>
       br (0<=j.1/\j.1<bn (ε s1.2 (δ (bW .i64 s1.1 1)) ([]:GI))) (
        br (0<=(bW .i64 j.1 1)/\(bW .i64 j.1 1)<bn j.2) (
         br (0<=j.1/\j.1<bn j.2) (
          some (aaj j.2 (δ j.1) (if (bz .i64 (ε j.2 (δ (bW .i64 j.1 1)) 0) a2)<(if (bz .i64 (ε (ε s1.2 (δ (bW .i64 s1.1 1)) ([]:GI)) (δ j.1) 0) a3)<v30 then (bz .i64 (ε (ε s1.2 (δ (bW .i64 s1.1 1)) ([]:GI)) (δ j.1) 0) a3) else v30) then (bz .i64 (ε j.2 (δ (bW .i64 j.1 1)) 0) a2) else (if (bz .i64 (ε (ε s1.2 (δ (bW .i64 s1.1 1)) ([]:GI)) (δ j.1) 0) a3)<v30 then (bz .i64 (ε (ε s1.2 (δ (bW .i64 s1.1 1)) ([]:GI)) (δ j.1) 0) a3) else v30))))))))).bind λp=>
  some (.inl ((bz .i64 j.1 1),p))
 else
  some (.inr j.2)
def mi (a0:GB)(a1:GB)(a2:Int)(a3:Int)(a4:Int)(s1:Int×List GI):Option ((Int×List GI)⊕(List GI)):=
 bif (decide (s1.1<(bz .i64 (bn a0) 1))) then
  br (0<=(bz .i64 (bn a1) 1)/\(bz .i64 (bn a1) 1)<=4294967296) (
   (rounds (mh a0 a1 a2 a3 a4 s1) (0,(υ (δ (bz .i64 (bn a1) 1)) (0:Int)))).bind λj=>
   br (ζ s1.2+ζ ([j]:List GI)<=bD) (
    some (.inl ((bz .i64 s1.1 1),(s1.2++([j]:List GI))))))
 else
  some (.inr s1.2)
def mj (a0:GB)(a1:GB)(a2:Int)(a3:Int)(a4:Int):Option (List GI):=
 (rounds (mi a0 a1 a2 a3 a4) (0,([]:List GI))).bind λj=>
 some j
theorem Nk {a0}{a1}{a2}{a3}{a4}{r}(hr:mj a0 a1 a2 a3 a4=some r):CallOK ν 172 [.bZ .str a0,.bZ .str a1,.bZ tI a2,.bZ tI a3,.bZ tI a4] [⟨false,(.sl cC),r⟩] []:=
 dB Tryz.func172 rfl λcx p hF=>θ p [] bm (θ p [] bm (φ (θ p [] bm (ο (ϧ p hr (λs1=>up [0,1,2,3,4,19] [(11,aV 3),(20,iV s1.1)] [] [(3,.seq cC s1.2)] 4) (λr3=>(.exit 0,up [] [(11,aV 3)] [] [(3,.seq cC r3)] 4)) (λr3 hr=>(bE (bp (θ p [] bm (by (refine (Le.rz [] [] (st':=⟨[(10,.one (.bG (.sl cC) r3))],[],4⟩) p hF (by kernel_rfl)).ht ?_;cases hr;exact (Δ (ct bm)))))))) λs1 x4 t XG=>θ p [] bm (Ϻ t (λJ0 t=>φ (ο (θ p [] bm (bg t λXo t=>θ p [oH,oH,oH,(hT tI)] (bQ (Mj Xo)) (φ (θ p [] bm (ο (ϧ p t (λs9=>up [0,1,2,3,4,11,12,13,19,20,28] [(29,iV s9.1)] [3] [(4,.seq tI s9.2)] 0) (λae=>(.exit 2,up [0,1,2,3,4,11,13,19,20] [] [3] [(4,.seq tI ae)] 0)) (λae t=>(bE (bp (by (refine (Le.rz [(3,3)] [] (st':=⟨[(0,.one (.bG .str a0)),(1,.one (.bG .str a1)),(2,iV a2),(3,iV a3),(4,iV a4),(11,aV 3),(13,nV ae),(19,iV (bz .i64 (bn a0) 1)),(20,iV s1.1)],[(3,.seq cC s1.2)],5⟩) p hF (by kernel_rfl)).ht ?_;exact (bg t λJ1 t=>HT.l p [oH,oH,(hT cC),(hT cC)] (bQ J1) (bB (bp (Υ p [] bm λ_ h=>(bM (lN t h))))))))))) λs9 Vm I YE=>θ p [] bm (Ϻ I (λyA I=>ϰ I (λRW=>up [0,1,2,3,4,11,12,13,19,20,28,29] [] [3] [(4,.seq tI RW)] 0) (λRW I=>Υ p [] bm λ_ h=>(bM (lN I h))) λ_ j R=>ο (θ p [] bm (ο (θ p [] bm (Φ j (λBE j=>bg j λT j=>Υ p [] (dp T (bS T)) λ_ h=>(bB (bB (bp (h.ht (R _ (bt j))))))) λBE j=>θ p [] bm (Φ j (λJ9 j=>bg j λU j=>Υ p [] (dp U (bS U)) λ_ h=>(bB (bB (bp (h.ht (R _ (bt j))))))) λJ9 j=>bg j λJ j=>bg j λQ1 j=>θ p [] (ll J (bS J) Q1) (bq j λj=>ϰ j (λv30=>up [0,1,2,3,4,11,12,13,14,19,20,28,29] [(15,iV v30)] [3,4] [] 0) (λv30 j=>bg j λQM j=>bg j λaa j=>bg j λab j=>HT.dk p [] (lF J (bS J) QM aa (ll (bS aa) ab (bS ab))) λ_ h=>(bB (bB (bp (h.ht (R _ (bt j))))))) λ_ o ad=>bg o λYF o=>bg o λQX o=>abA p [] (dp YF QX) (Φ o (λQ5 o=>Υ p [] bm λ_ h=>(bp (h.ht (ad _ (bt o))))) λQ5 o=>Θ (bp (HT.re p (ad _ (bt o)))))))))))) λyA I=>Ϩ p (bL (bN (YE _ (bw I))))))))))))) λJ0 t=>Ϩ p (bL (bN (XG _ (bw t))))))))))
def pH (a0:GB):Option (Bool):=
 some (decide ((bn a0)<=48))
theorem GV {a0}{r}(o:pH a0=some r):CallOK ν 170 [.bZ .str a0] [⟨false,.bool,r⟩] []:=
 dB Tryz.func170 rfl λcx j p=>θ j [] bm (θ j [] bm (by (cases o;exact (Δ (ct bm)))))
def pQ (a0:GI):Option (Bool):=
 (eQ a0 0 1000).bind λj=>
 some j
theorem Nl {a0}{r}(o:pQ a0=some r):CallOK ν 171 [.bZ cC a0] [⟨false,.bool,r⟩] []:=
 dB Tryz.func171 rfl λcx p t=>θ p [] bm (bc o yx λI j o=>θ p [oH,(cl j)] (bQ j) (by (cases o;exact (Δ (ct bm)))))
def nm (a0:GB)(a1:GB)(a2:Int)(a3:Int)(a4:Int):Option (Int×Bool):=
 (show Option (Bool) from
  (pH a0).bind λj=>
  bif (!j) then
   some true
  else
   (pH a1).bind λo=>
   bif (!o) then
    some true
   else
    (pQ ([a2,a3,a4]:GI)).bind λp=>
    some (!p)).bind λI=>
 bif I then
  some (0,false)
 else
  (mj a0 a1 a2 a3 a4).bind λr=>
  br (0<=(bn a0)/\(bn a0)<bn r) (
   br (0<=(bn a1)/\(bn a1)<bn (ε r (δ (bn a0)) ([]:GI))) (
    (some (ε (ε r (δ (bn a0)) ([]:GI)) (δ (bn a1)) 0)).bind λt=>
    some (t,true)))
theorem Nn {a0}{a1}{a2}{a3}{a4}{r}(p:nm a0 a1 a2 a3 a4=some r):CallOK ν 136 [.bZ .str a0,.bZ .str a1,.bZ tI a2,.bZ tI a3,.bZ tI a4] [⟨false,tI,r.1⟩,⟨false,.bool,r.2⟩] []:=
 dB Tryz.func136 rfl λcx U hF=>θ U [] bm (φ (ϰ p (λv2=>up [0,1,2,3,4] [(27,bV v2)] [] [] 0) (λv2 p=>Φ p (λab p=>θ U [] bm (by (cases p;exact (Δ (bF (ct bm)))))) λab p=>Θ (bp (bc p Nk λy6 aa p=>bg p λad p=>bg p λae p=>θ U (nO 5 [(cl aa)]) (ll aa ad ae) (bq p λp=>by (cases p;exact (Δ (ct bm))))))) λ_ j T=>bc j GV λyu o j=>bb j (λt j=>Υ U [oH,(cl o),oH,kT] (dp o t) λ_ h=>(bp (h.ht (T _ (bt j))))) λt j=>bc j GV λRY I j=>bb j (λJ j=>Υ U [oH,(cl o),oH,kF,oH,(cl I),oH,oH,kT] (nZ o t I J) λ_ h=>(bp (h.ht (T _ (bt j))))) λJ j=>bc j Nl λXn R j=>Υ U [oH,(cl o),oH,kF,oH,(cl I),oH,oH,kF,oH,oH,oH,(hT tI),(cl R)] (lF o t I J (bQ R)) λ_ h=>(bp (h.ht (T _ (bt j))))))
def kH (a0:GM×GP×GG×GI)(a1:List GB):Option (GB×Bool×Bool×(GM×GP×GG×GI)):=
 bif ((bn a1)==1) then
  br ((0:Int)<=0/\0<bn a1) (
   (lX a0 (ε a1 (δ 0) ([]:GB))).bind λo=>
   bif o.2.2.1 then
    some (o.1,o.2.1,true,o.2.2.2)
   else
    (mf o.2.2.2 (ε a1 (δ 0) ([]:GB))).bind λt=>
    some (t.1,t.2.1,t.2.2.1,t.2.2.2))
 else
  bif ((bn a1)==2) then
   br ((0:Int)<=0/\0<bn a1) (
    br ((0:Int)<=1/\1<bn a1) (
     (nk a0 (ε a1 (δ 0) ([]:GB)) (ε a1 (δ 1) ([]:GB))).bind λj=>
     some (j.1,j.2.1,j.2.2.1,j.2.2.2)))
  else
   (show Option (Bool) from
    bif ((bn a1)==3) then
     br ((0:Int)<=0/\0<bn a1) (
      some ((ε a1 (δ 0) ([]:GB))==([101,100,105,116]:GB)))
    else
     some false).bind λI=>
   bif I then
    br ((0:Int)<=1/\1<bn a1) (
     br ((0:Int)<=2/\2<bn a1) (
      (nm (ε a1 (δ 1) ([]:GB)) (ε a1 (δ 2) ([]:GB)) 1 1 1).bind λp=>
      (dy p.1 p.2).bind λr=>
      some (r.1,r.2,true,a0)))
   else
    some (([]:GB),false,false,a0)
theorem Rc {a0}{a1}{r}(j:kH a0 a1=some r):CallOK ν 95 [.own (.bx (.st (.pair (.st gM) (.pair (.st gP) (.pair (.st gR) cC))))) [a0],.bZ (.sl .str) a1] [⟨false,.str,r.1⟩,⟨false,.bool,r.2.1⟩,⟨false,.bool,r.2.2.1⟩] [⟨(.bx (.st (.pair (.st gM) (.pair (.st gP) (.pair (.st gR) cC))))),[r.2.2.2]⟩]:=
 dB Tryz.func95 rfl λcx p hF=>θ p [] bm (φ (ο (θ p [] bm (Φ j (λaj j=>bg j λU j=>bc j MX λy3 aa j=>θ p (nO 4 [(cl aa)]) (dp U aa) (φ (θ p [] bm (Φ j (λak j=>θ p [] bm (by (cases j;exact (Δ (bF (bT (bF (ct (bQ (show ζ ([y3.2.2.2])=ζ [a0] from rfl)))))))))) λak j=>Θ (bp (bc j Nf λy6 ab j=>θ p (nO 4 [(cl ab)]) (dp U ab) (by (cases j;exact (Δ (bT (bF (ct (bQ (show ζ ([y6.2.2.2])=ζ [a0] from rfl)))))))))))))) λaj j=>θ p [] bm (Φ j (λal j=>bg j λan j=>bg j λad j=>bc j Nj λao I j=>abA p (nO 7 [(cl I)]) (ll an ad I) (by (cases j;exact (Δ (bT (bF (ct (bQ (show ζ ([ao.2.2.2])=ζ [a0] from rfl))))))))) λal j=>ϰ j (λae=>up [1] [(51,bV ae)] [0] [] 0) (λae j=>Φ j (λaf j=>bg j λag j=>bg j λah j=>bc j Nn λXF J j=>bc j sM λy22 R j=>abA p (nO 6 [(cl J),oH,oH,(cl R)]) (nZ ag ah J R) (θ p [] bm (by (cases j;exact (Δ (bT (bF (ct (bQ (show ζ ([a0])=ζ [a0] from rfl)))))))))) λaf j=>Θ (bB (bp (θ p [] bm (by (cases j;exact (Δ (ct (bQ (show ζ ([a0])=ζ [a0] from rfl)))))))))) λ_ o T=>bb o (λt o=>bg o λai o=>Υ p [oH,oH,oH,kT] (dp t ai) λ_ h=>(bp (h.ht (T _ (bt o))))) λt o=>Υ p [oH,oH,oH,kF] (bQ t) λ_ h=>(bp (h.ht (T _ (bt o)))))))))
end
end Go.Proofs
