import Derived.Test.YtjnkhcgmgkhnaaaGreatDoorJournalGenG
import Derived.Test.YtjnkhcgmgkhnaaaGreatDoorProg
set_option linter.all false
open Go.Ide.CallOK renaming rn→ϱ
open Go.Ide.HT renaming g→θ,block→ο,seq→φ,ret→Δ,skip→Θ,k→Υ,cb→Φ,lp→ϧ,xe→Ϩ,jn→ϰ,cj→Ϻ,re→abi,dg→abA,dk→adQ
open Go.Proofs.Tryz renaming prog→ν
open Int renaming toNat→δ
open List renaming getD→ε,length→ζ,replicate→υ,set→aaj
open Nat renaming zero_lt_one→Ξ
namespace Go.Proofs
open Go.Ide
noncomputable section
def kR (a0:GG)(r:Int×Bool×GI)(o:Int×Bool×GI)(p:Int×Bool×GI)(j:Int×GI):Option ((Int×GI)⊕GI):=
 (show Option (Bool) from
  bif (decide (j.1<(bz .i64 o.1 r.1))) then
   some (decide ((((ε a0.2.2 (δ p.1) (0,0,0,0)).2).2).1>=0))
  else
   some false).bind λt=>
 bif t then
  br (0+104*δ o.1+8*δ (bz .i64 o.1 r.1)+1*δ ((ε a0.2.2 (δ p.1) (0,0,0,0)).1)<ζ j.2) (
   br (0<=j.1/\j.1<((13:Nat):Int)) (
    br (0<=((ε a0.2.2 (δ p.1) (0,0,0,0)).2).1/\((ε a0.2.2 (δ p.1) (0,0,0,0)).2).1<((8:Nat):Int)) (
     br (0+104*δ o.1+8*δ j.1+1*δ (((ε a0.2.2 (δ p.1) (0,0,0,0)).2).1)<ζ j.2) (
      br (0<=j.1/\j.1<((12:Nat):Int)) (
       br (0<=(((ε a0.2.2 (δ p.1) (0,0,0,0)).2).2).1/\(((ε a0.2.2 (δ p.1) (0,0,0,0)).2).2).1<((8:Nat):Int)) (
        br (0+104*δ j.1+8*δ (bz .i64 o.1 r.1)+1*δ ((((ε a0.2.2 (δ p.1) (0,0,0,0)).2).2).1)<ζ j.2) (
         some (.inl ((bz .i64 j.1 1),(aaj j.2 (0+104*δ o.1+8*δ (bz .i64 o.1 r.1)+1*δ ((ε a0.2.2 (δ p.1) (0,0,0,0)).1)) (if (bz .i64 (ε j.2 (0+104*δ o.1+8*δ (bz .i64 o.1 r.1)+1*δ ((ε a0.2.2 (δ p.1) (0,0,0,0)).1)) 0) (dX .i64 (ε j.2 (0+104*δ o.1+8*δ j.1+1*δ (((ε a0.2.2 (δ p.1) (0,0,0,0)).2).1)) 0) (ε j.2 (0+104*δ j.1+8*δ (bz .i64 o.1 r.1)+1*δ ((((ε a0.2.2 (δ p.1) (0,0,0,0)).2).2).1)) 0)))<1000000001 then (bz .i64 (ε j.2 (0+104*δ o.1+8*δ (bz .i64 o.1 r.1)+1*δ ((ε a0.2.2 (δ p.1) (0,0,0,0)).1)) 0) (dX .i64 (ε j.2 (0+104*δ o.1+8*δ j.1+1*δ (((ε a0.2.2 (δ p.1) (0,0,0,0)).2).1)) 0) (ε j.2 (0+104*δ j.1+8*δ (bz .i64 o.1 r.1)+1*δ ((((ε a0.2.2 (δ p.1) (0,0,0,0)).2).2).1)) 0))) else 1000000001)))))))))))
 else
  some (.inr j.2)
def kS (a0:GG)(a1:GI)(p:Int×Bool×GI)(j:Int×Bool×GI)(o:Int×Bool×GI):Option ((Int×Bool×GI)⊕((Bool×GI))):=
 bif (decide (o.1<(bn a0.2.2))) then
  (show Option (Bool×GI) from
   br (0<=o.1/\o.1<bn a0.2.2) (
    br (0<=j.1/\j.1<((12:Nat):Int)) (
     br (0<=(bz .i64 j.1 p.1)/\(bz .i64 j.1 p.1)<((13:Nat):Int)) (
      br (0<=(ε a0.2.2 (δ o.1) (0,0,0,0)).1/\(ε a0.2.2 (δ o.1) (0,0,0,0)).1<((8:Nat):Int)) (
       (show Option GI from
        (show Option (Bool) from
         bif (decide ((((ε a0.2.2 (δ o.1) (0,0,0,0)).2).2).1<0)) then
          bif ((bz .i64 j.1 p.1)==(bz .i64 j.1 1)) then
           br (0<=j.1/\j.1<bn a1) (
            some ((ε a1 (δ j.1) 0)==((ε a0.2.2 (δ o.1) (0,0,0,0)).2).1))
          else
           some false
         else
          some false).bind λI=>
        bif I then
         br (0+104*δ j.1+8*δ (bz .i64 j.1 p.1)+1*δ ((ε a0.2.2 (δ o.1) (0,0,0,0)).1)<ζ o.2.2) (
          some (aaj o.2.2 (0+104*δ j.1+8*δ (bz .i64 j.1 p.1)+1*δ ((ε a0.2.2 (δ o.1) (0,0,0,0)).1)) (bz .i64 (ε o.2.2 (0+104*δ j.1+8*δ (bz .i64 j.1 p.1)+1*δ ((ε a0.2.2 (δ o.1) (0,0,0,0)).1)) 0) 1)))
        else
         some o.2.2).bind λJ=>
       (rounds (kR a0 p j o) ((bz .i64 j.1 1),J)).bind λr=>
       bif o.2.1 then
        br (0+104*δ j.1+8*δ (bz .i64 j.1 p.1)+1*δ ((ε a0.2.2 (δ o.1) (0,0,0,0)).1)<ζ r) (
         some ((decide ((ε r (0+104*δ j.1+8*δ (bz .i64 j.1 p.1)+1*δ ((ε a0.2.2 (δ o.1) (0,0,0,0)).1)) 0)<=1000000000)),r))
       else
        some (false,r)))))).bind λt=>
  some (.inl ((bz .i64 o.1 1),t.1,t.2))
 else
  some (.inr (o.2.1,o.2.2))
def kU (a0:GG)(a1:GI)(r:Int×Bool×GI)(j:Int×Bool×GI):Option ((Int×Bool×GI)⊕((Bool×GI))):=
 bif (decide (j.1<(bz .i64 (bW .i64 (bn a1) r.1) 1))) then
  (show Option (Bool×GI) from
   (rounds (kS a0 a1 r j) (0,j.2.1,j.2.2)).bind λo=>
   some (o.1,o.2)).bind λp=>
  some (.inl ((bz .i64 j.1 1),p.1,p.2))
 else
  some (.inr (j.2.1,j.2.2))
def kV (a0:GG)(a1:GI)(j:Int×Bool×GI):Option ((Int×Bool×GI)⊕((Bool×GI))):=
 bif (decide (j.1<=(bn a1))) then
  (rounds (kU a0 a1 j) (0,j.2.1,j.2.2)).bind λo=>
  some (.inl ((bz .i64 j.1 1),o.1,o.2))
 else
  some (.inr (j.2.1,j.2.2))
def fW (a0:GG)(a1:GI):Option (Int×Bool):=
 (ic (a0.1,a0.2.1,a0.2.2) a1).bind λr=>
 bif (!r) then
  some (0,false)
 else
  (show Option (Bool×GI) from
   (rounds (kV a0 a1) (1,true,(υ 1248 0))).bind λj=>
   some (j.1,j.2)).bind λo=>
  bif (!o.1) then
   some (0,false)
  else
   br ((0:Int)<=0/\0<((12:Nat):Int)) (
    br (0<=(bn a1)/\(bn a1)<((13:Nat):Int)) (
     br ((0:Int)<=0/\0<((8:Nat):Int)) (
      br (0+104*δ 0+8*δ (bn a1)+1*δ 0<ζ o.2) (
       (some (ε o.2 (0+104*δ 0+8*δ (bn a1)+1*δ 0) 0)).bind λp=>
       some (p,true)))))
theorem QV {a0}{a1}{r}(hr:fW a0 a1=some r):CallOK ν 21 [.bZ (.st gR) a0,.bZ cC a1] [⟨false,tI,r.1⟩,⟨false,.bool,r.2⟩] []:=
 Vd true Tryz.func21 rfl λcx p hF uq=>θ p [] bm (φ (bc hr Kf λy1 vt hr=>θ p [oH,oH,(cl vt)] (bQ vt) (Φ hr (λAe hr=>θ p [] bm (by (cases hr;exact (Δ (bF (ct bm)))))) λAe hr=>Θ (bp (HT.ex ⟨[(2,pV 0 0),(3,pV 1 0),(11,bV (!y1))],[(1,.box [nC a1]),(0,.box [iC a0.1,iC a0.2.1,.bG gA a0.2.2])],2⟩ p (by (refine φ (HT.rg (RG.Tj false tI 1248 0 p rfl rfl rfl rfl rfl rfl (by kernel_rfl) (len:=12) (E:=114) (by kernel_rfl) (sz:=104) (by kernel_rfl) (by kernel_rfl) rfl rfl (by kernel_rfl) (RG.j4 [2,3,6] [oH,oH] ⟨[(2,pV 0 0),(3,pV 1 0),(6,pV 3 0)],[(3,.box [.dn 2 0 1 0]),(3,.box [.dS]),(2,.seq tI (υ 1248 0)),(1,.box [nC a1]),(0,.box [iC a0.1,iC a0.2.1,.bG gA a0.2.2])],4⟩ p.P p.N (by kernel_rfl) bm ?_)));exact (θ p [] bm (φ (bo hr λw7 Ye hr=>HT.ex ⟨[(2,pV 0 0),(3,pV 1 0),(6,pV 3 0),(7,pV 4 0)],[(4,.box [bC true]),(3,.box [.dn 2 0 1 0]),(2,.seq tI (υ 1248 0)),(1,.box [nC a1]),(0,.box [iC a0.1,iC a0.2.1,.bG gA a0.2.2])],5⟩ p (by (refine HT.rg (RG.cut 2 [oH,oH] ⟨[(15,iV (bn a1)),(14,nV a1),(2,pV 0 0),(3,pV 1 0),(6,pV 3 0),(7,pV 4 0)],[(4,.box [bC true]),(3,.box [.dn 2 0 1 0]),(2,.seq tI (υ 1248 0)),(1,.box [nC a1]),(0,.box [iC a0.1,iC a0.2.1,.bG gA a0.2.2])],5⟩ p.P p.N (by kernel_rfl) bm (RG.Bk [0,3,1,4] p rfl rfl rfl (by kernel_rfl) rfl (RG.cut 0 [] ⟨[(16,.one (.cls 58 [0,3,1,4])),(15,iV (bn a1)),(14,nV a1),(2,pV 0 0),(3,pV 1 0),(6,pV 3 0),(7,pV 4 0)],[(4,.box [bC true]),(3,.box [.dn 2 0 1 0]),(2,.seq tI (υ 1248 0)),(1,.box [nC a1]),(0,.box [iC a0.1,iC a0.2.1,.bG gA a0.2.2])],5⟩ p.P p.N (by kernel_rfl) bm (((Le.gc (ks:=[3,6,7,15,16]) (ms:=[4,3,2,1,0]) (st':=⟨[(3,pV 1 0),(6,pV 3 0),(7,pV 4 0),(15,iV (bn a1)),(16,.one (.cls 58 [0,3,1,4]))],[(4,.box [bC true]),(3,.box [.dn 2 0 1 0]),(2,.seq tI (υ 1248 0)),(1,.box [nC a1]),(0,.box [iC a0.1,iC a0.2.1,.bG gA a0.2.2])],5⟩) (cs:=[]) p (rfl:some (⟨[(16,.one (.cls 58 [0,3,1,4])),(15,iV (bn a1)),(14,nV a1),(2,pV 0 0),(3,pV 1 0),(6,pV 3 0),(7,pV 4 0)],[(4,.box [bC true]),(3,.box [.dn 2 0 1 0]),(2,.seq tI (υ 1248 0)),(1,.box [nC a1]),(0,.box [iC a0.1,iC a0.2.1,.bG gA a0.2.2])],5⟩,([]:List Prop))=_) (by kernel_rfl)).2).rg (RG.inl (ks:=[]) (ts:=[3,6,7]) (λT (v5:Bool×GI)=>⟨[],[(5,.gh [.ptr 1 0,.ptr 3 0,.ptr 4 0] T),(1,.box [nC a1]),(3,.box [.dn 2 0 1 0]),(4,.box [bC v5.1]),(2,.seq tI v5.2)],6⟩) (λ(v5:Bool×GI)=>[.ptr 1 0,.ptr 3 0,.ptr 4 0]) (λ(v5:Bool×GI)=>⟨[(3,pV 1 0),(6,pV 3 0),(7,pV 4 0)],[(1,.box [nC a1]),(3,.box [.dn 2 0 1 0]),(4,.box [bC v5.1]),(2,.seq tI v5.2)],6⟩) (λv=>v=w7) 5 p hF uq rfl rfl rfl (by kernel_rfl) rfl (.inr ⟨rfl,rfl⟩) rfl Tryz.func57 rfl (by kernel_rfl) rfl (by kernel_rfl) rfl (by kernel_rfl) ?_ (λ_ _=>rfl) (λT v5=>(Le.gc (ks:=[3,6,7]) (ms:=[1,3,4,2]) (st':=⟨[(3,pV 1 0),(6,pV 3 0),(7,pV 4 0)],[(1,.box [nC a1]),(3,.box [.dn 2 0 1 0]),(4,.box [bC v5.1]),(2,.seq tI v5.2)],6⟩) (cs:=[]) p (rfl:some (⟨[(17,.dS),(3,pV 1 0),(6,pV 3 0),(7,pV 4 0)],[(5,.gh [.ptr 1 0,.ptr 3 0,.ptr 4 0] T),(1,.box [nC a1]),(3,.box [.dn 2 0 1 0]),(4,.box [bC v5.1]),(2,.seq tI v5.2)],6⟩,([]:List Prop))=_) (by kernel_rfl)).2) ?_)))));exact (by (intro T cx p hF uq;exact (θ p [] bm (ο (ϧ p Ye (λJ=>up [0,1] [(4,iV J.1)] [5,0,3,1] [(4,.box [bC J.2.1]),(2,.seq tI J.2.2)] 0) (λOy=>(.exit 0,up [] [] [5,1,3] [(4,.box [bC Oy.1]),(2,.seq tI Oy.2)] 0)) (λOy Ye=>(bE ⟨.inr rfl,_,(bt Ye),Le.re [(5,5),(1,1),(3,3),(4,4),(2,2)] [] p (by kernel_rfl)⟩)) λJ Vh Fh Yf=>φ (θ p [] bm (Φ Fh (λKe Fh=>Θ (bp (φ (ο (θ p [] bm (ο (ϧ p Fh (λj=>up [0,1,4,14] [(15,iV j.1)] [5,0,3,1] [(4,.box [bC j.2.1]),(2,.seq tI j.2.2)] 0) (λOx=>(.exit 2,up [0,1,4] [] [5,0,3,1] [(4,.box [bC Ox.1]),(2,.seq tI Ox.2)] 0)) (λOx Fh=>(bE (bB (bp (Υ p [] bm λ_ h=>(bM (lN Fh h))))))) λj XP Fi Ff=>θ p [] bm (Ϻ Fi (λBE Fi=>φ (ο (θ p [] bm (bo Fi λw25 QW Fi=>HT.ex ⟨[(0,iV (bn a1)),(1,.one (.cls 58 [0,3,1,4])),(4,iV J.1),(5,iV j.1),(14,iV (bz .i64 (bW .i64 (bn a1) J.1) 1)),(15,iV j.1)],[(5,.gh [.ptr 1 0,.ptr 3 0,.ptr 4 0] T),(0,.box [iC a0.1,iC a0.2.1,.bG gA a0.2.2]),(3,.box [.dn 2 0 1 0]),(1,.box [nC a1]),(4,.box [bC j.2.1]),(2,.seq tI j.2.2)],6⟩ p (by (refine HT.rg (RG.cut 5 [oH,oH,oH,oH,oH] ⟨[(22,iV (bz .i64 j.1 J.1)),(21,iV J.1),(20,iV j.1),(19,iV j.1),(18,.one (.cls 58 [0,3,1,4])),(0,iV (bn a1)),(1,.one (.cls 58 [0,3,1,4])),(4,iV J.1),(5,iV j.1),(14,iV (bz .i64 (bW .i64 (bn a1) J.1) 1)),(15,iV j.1)],[(5,.gh [.ptr 1 0,.ptr 3 0,.ptr 4 0] T),(0,.box [iC a0.1,iC a0.2.1,.bG gA a0.2.2]),(3,.box [.dn 2 0 1 0]),(1,.box [nC a1]),(4,.box [bC j.2.1]),(2,.seq tI j.2.2)],6⟩ p.P p.N (by kernel_rfl) bm (((Le.gc (ks:=[0,1,4,14,15,18,19,22]) (ms:=[5,0,3,1,4,2]) (st':=⟨[(0,iV (bn a1)),(1,.one (.cls 58 [0,3,1,4])),(4,iV J.1),(14,iV (bz .i64 (bW .i64 (bn a1) J.1) 1)),(15,iV j.1),(18,.one (.cls 58 [0,3,1,4])),(19,iV j.1),(22,iV (bz .i64 j.1 J.1))],[(5,.gh [.ptr 1 0,.ptr 3 0,.ptr 4 0] T),(0,.box [iC a0.1,iC a0.2.1,.bG gA a0.2.2]),(3,.box [.dn 2 0 1 0]),(1,.box [nC a1]),(4,.box [bC j.2.1]),(2,.seq tI j.2.2)],6⟩) (cs:=[]) p (rfl:some (⟨[(22,iV (bz .i64 j.1 J.1)),(21,iV J.1),(20,iV j.1),(19,iV j.1),(18,.one (.cls 58 [0,3,1,4])),(0,iV (bn a1)),(1,.one (.cls 58 [0,3,1,4])),(4,iV J.1),(5,iV j.1),(14,iV (bz .i64 (bW .i64 (bn a1) J.1) 1)),(15,iV j.1)],[(5,.gh [.ptr 1 0,.ptr 3 0,.ptr 4 0] T),(0,.box [iC a0.1,iC a0.2.1,.bG gA a0.2.2]),(3,.box [.dn 2 0 1 0]),(1,.box [nC a1]),(4,.box [bC j.2.1]),(2,.seq tI j.2.2)],6⟩,([]:List Prop))=_) (by kernel_rfl)).2).rg (RG.inl (ks:=[0,3,1,4]) (ts:=[0,1,4,14,15]) (λNb (U:Bool×GI)=>⟨[],[(5,.gh [.ptr 1 0,.ptr 3 0,.ptr 4 0] T),(6,.gh [iC (bn a1),.cls 58 [0,3,1,4],iC J.1,iC (bz .i64 (bW .i64 (bn a1) J.1) 1),iC j.1] Nb),(1,.box [nC a1]),(3,.box [.dn 2 0 1 0]),(4,.box [bC U.1]),(0,.box [iC a0.1,iC a0.2.1,.bG gA a0.2.2]),(2,.seq tI U.2)],7⟩) (λ(U:Bool×GI)=>[iC (bn a1),.cls 58 [0,3,1,4],iC J.1,iC (bz .i64 (bW .i64 (bn a1) J.1) 1),iC j.1]) (λ(U:Bool×GI)=>⟨[(0,iV (bn a1)),(1,.one (.cls 58 [0,3,1,4])),(4,iV J.1),(14,iV (bz .i64 (bW .i64 (bn a1) J.1) 1)),(15,iV j.1)],[(5,.gh [.ptr 1 0,.ptr 3 0,.ptr 4 0] T),(1,.box [nC a1]),(3,.box [.dn 2 0 1 0]),(4,.box [bC U.1]),(0,.box [iC a0.1,iC a0.2.1,.bG gA a0.2.2]),(2,.seq tI U.2)],7⟩) (λv=>v=w25) 6 p hF uq rfl rfl rfl (by kernel_rfl) rfl (.inl rfl) rfl Tryz.func58 rfl (by kernel_rfl) rfl (by kernel_rfl) rfl (by kernel_rfl) ?_ (λ_ _=>rfl) (λNb U=>(Le.gc (ks:=[0,1,4,14,15]) (ms:=[5,1,3,4,0,2]) (st':=⟨[(0,iV (bn a1)),(1,.one (.cls 58 [0,3,1,4])),(4,iV J.1),(14,iV (bz .i64 (bW .i64 (bn a1) J.1) 1)),(15,iV j.1)],[(5,.gh [.ptr 1 0,.ptr 3 0,.ptr 4 0] T),(1,.box [nC a1]),(3,.box [.dn 2 0 1 0]),(4,.box [bC U.1]),(0,.box [iC a0.1,iC a0.2.1,.bG gA a0.2.2]),(2,.seq tI U.2)],7⟩) (cs:=[]) p (rfl:some (⟨[(23,.dS),(0,iV (bn a1)),(1,.one (.cls 58 [0,3,1,4])),(4,iV J.1),(14,iV (bz .i64 (bW .i64 (bn a1) J.1) 1)),(15,iV j.1)],[(5,.gh [.ptr 1 0,.ptr 3 0,.ptr 4 0] T),(6,.gh [iC (bn a1),.cls 58 [0,3,1,4],iC J.1,iC (bz .i64 (bW .i64 (bn a1) J.1) 1),iC j.1] Nb),(1,.box [nC a1]),(3,.box [.dn 2 0 1 0]),(4,.box [bC U.1]),(0,.box [iC a0.1,iC a0.2.1,.bG gA a0.2.2]),(2,.seq tI U.2)],7⟩,([]:List Prop))=_) (by kernel_rfl)).2) ?_)));exact (by (intro Nb cx p hF uq;exact (θ p [] bm (ο (ϧ p QW (λVo=>up [0,1,3,4,5,13,14] [(15,iV Vo.1)] [5,6,3,1,0] [(4,.box [bC Vo.2.1]),(2,.seq tI Vo.2.2)] 0) (λR6=>(.exit 0,up [] [] [5,6,1,3,0] [(4,.box [bC R6.1]),(2,.seq tI R6.2)] 0)) (λR6 QW=>(bE ⟨.inr rfl,_,(bt QW),Le.re [(5,5),(6,6),(1,1),(3,3),(4,4),(0,0),(2,2)] [] p (by kernel_rfl)⟩)) λVo x29 Fj QO=>θ p [] bm (Ϻ Fj (λyB Fj=>ϰ Fj (λLo=>up [0,1,3,4,5,13,14,15] [] [5,6,3,1,0] [(4,.box [bC Lo.1]),(2,.seq tI Lo.2)] 0) (λLo Fj=>Υ p [] bm λ_ h=>(bM (lN Fj h))) λ_ t Ui=>ο (bg t λQX t=>θ p [] (bQ QX) (bg t λMT t=>bg t λMU t=>bg t λHO t=>abA p [] (ll MT MU HO) (ϰ t (λVp=>up [0,1,3,4,5,9,10,13,14,15] [] [5,6,3,1,4,7,0] [(2,.seq tI Vp)] 0) (λVp t=>φ (θ p [] bm (ο (ϧ p t (λYg=>up [0,1,3,4,5,9,10,13,14,15] [(11,iV Yg.1)] [5,6,3,1,4,7,0] [(2,.seq tI Yg.2)] 0) (λZI=>(.exit 2,up [0,1,3,4,5,10,13,14,15] [] [5,6,3,1,4,0] [(2,.seq tI ZI)] 0)) (λZI t=>(bE (bp (bb t (λKh t=>bg t λYh t=>Υ p [oH,kT] (dp Kh Yh) λ_ h=>(bB (bp (h.ht (Ui _ (bt t)))))) λKh t=>Υ p [oH,kF] (bQ Kh) λ_ h=>(bB (bp (h.ht (Ui _ (bt t))))))))) λYg x50 o Yi=>φ (ϰ o (λv54=>up [0,1,3,4,5,9,10,11,13,14,15] [(60,bV v54)] [5,6,3,1,4,7,2,0] [] 0) (λv54 o=>Φ o (λHQ o=>Θ (bp (φ (ο (bg o λNa o=>bg o λPY o=>bg o λQP o=>bg o λQR o=>bg o λYj o=>bg o λYk o=>bg o λYl o=>HT.dl p [] (lF Na MT PY QP (lF QR Yj MU Yk (dp Yl Na))) (bB (bp (Υ p [] bm λ_ h=>(bM (lN o h)))))))))) λHQ o=>Ϩ p (bL (bN (Yi _ (bw o))))) λ_ Ki Uj=>bb Ki (λQY Ki=>Υ p [oH,oH,oH,kT] (bQ QY) λ_ h=>(bp (h.ht (Uj _ (bt Ki))))) λQY Ki=>Υ p [oH,oH,oH,kF] (bQ QY) λ_ h=>(bp (h.ht (Uj _ (bt Ki))))))))) λ_ R Uk=>ϰ R (λv67=>up [0,1,3,4,5,9,10,13,14,15] [(45,bV v67)] [5,6,3,1,4,7,2,0] [] 0) (λv67 R=>Φ R (λQS R=>bg R λUl R=>Υ p [] (dp Ul Ul) λ_ h=>(bp (h.ht (Uk _ (bt R))))) λQS R=>Θ (bp (abi p (Uk _ (bt R))))) λ_ I QZ=>bb I (λNc I=>bb I (λQ0 I=>bg I λYm I=>adQ p [oH,oH,oH,kT,oH,oH,oH,oH,oH,kT] (ll Nc Q0 Ym) λ_ h=>(bp (h.ht (QZ _ (bt I))))) λQ0 I=>adQ p [oH,oH,oH,kT,oH,oH,oH,oH,oH,kF] (dp Nc Q0) λ_ h=>(bp (h.ht (QZ _ (bt I))))) λNc I=>adQ p [oH,oH,oH,kF] (bQ Nc) λ_ h=>(bp (h.ht (QZ _ (bt I)))))))) λyB Fj=>Ϩ p (bL (bN (QO _ (bw Fj))))))))));exact (by (intro U Yn;exact (by (subst Yn;exact (bB (bp (Υ p [] bm λ_ h=>(bM (lN Fi h))))))))))))))) λBE Fi=>Ϩ p (bL (bN (Ff _ (bw Fi)))))))))))) λKe Fh=>Ϩ p (bL (bN (Yf _ (bw Fh)))))))))));exact (by (intro v5 Yo;exact (by (subst Yo;exact (bp (φ (θ p [] bm (Φ hr (λQT hr=>θ p [] bm (by (cases hr;exact (Δ (bF (ct bm)))))) λQT hr=>Θ (bp (bg hr λYp hr=>bg hr λYq hr=>bg hr λYr hr=>bg hr λYs hr=>abA p [] (nZ Yp Yq Yr Ys) (bq hr λhr=>by (cases hr;exact (Δ (ct bm))))))))))))))))))))))))))
def gD (a0:GG)(p:GI×GI)(j:Int×Int×Int):Option ((Int×Int×Int)⊕((Int×Int))):=
 bif (decide (j.2.2<(bn a0.2.2))) then
  (show Option (Int×Int) from
   br (0<=j.2.2/\j.2.2<bn a0.2.2) (
    (some ((((ε a0.2.2 (δ j.2.2) (0,0,0,0)).2).2).1)).bind λo=>
    (some ((((ε a0.2.2 (δ j.2.2) (0,0,0,0)).2).2).2)).bind λr=>
    (show Option (Int⊕(Int×Int)) from
     bif (decide (o>=0)) then
      (show Option (Bool) from
       br (0<=((ε a0.2.2 (δ j.2.2) (0,0,0,0)).2).1/\((ε a0.2.2 (δ j.2.2) (0,0,0,0)).2).1<bn p.2) (
        bif (decide ((ε p.2 (δ (((ε a0.2.2 (δ j.2.2) (0,0,0,0)).2).1)) 0)<0)) then
         some true
        else
         br (0<=o/\o<bn p.2) (
          some (decide ((ε p.2 (δ o) 0)<0))))).bind λJ=>
      bif J then
       sX (some (j.1,j.2.1))
      else
       br (0<=((ε a0.2.2 (δ j.2.2) (0,0,0,0)).2).1/\((ε a0.2.2 (δ j.2.2) (0,0,0,0)).2).1<bn p.2) (
        br (0<=o/\o<bn p.2) (
         some (.inl (bz .i64 r (bz .i64 (ε p.2 (δ (((ε a0.2.2 (δ j.2.2) (0,0,0,0)).2).1)) 0) (ε p.2 (δ o) 0))))))
     else
      some (.inl r)).bind λR=>match R with
     | .inl t=>
      (show Option (Bool) from
       br (0<=(ε a0.2.2 (δ j.2.2) (0,0,0,0)).1/\(ε a0.2.2 (δ j.2.2) (0,0,0,0)).1<bn p.2) (
        bif (decide ((ε p.2 (δ ((ε a0.2.2 (δ j.2.2) (0,0,0,0)).1)) 0)<0)) then
         some (decide (t<j.2.1))
        else
         some false)).bind λT=>
      bif T then
       some (j.2.2,t)
      else
       some (j.1,j.2.1)
     | .inr z=>some z)).bind λI=>
  some (.inl (I.1,I.2,(bz .i64 j.2.2 1)))
 else
  some (.inr (j.1,j.2.1))
def kt (a0:GG)(o:GI×GI):Option ((GI×GI)⊕((GI×GI))):=
 (rounds (gD a0 o) ((-1),1099511627776,0)).bind λj=>
 bif (decide (j.1<0)) then
  some (.inr (o.1,o.2))
 else
  br (0<=j.1/\j.1<bn a0.2.2) (
   br (0<=(ε a0.2.2 (δ j.1) (0,0,0,0)).1/\(ε a0.2.2 (δ j.1) (0,0,0,0)).1<bn o.1) (
    br (0<=(ε a0.2.2 (δ j.1) (0,0,0,0)).1/\(ε a0.2.2 (δ j.1) (0,0,0,0)).1<bn o.2) (
     some (.inl ((aaj o.1 (δ ((ε a0.2.2 (δ j.1) (0,0,0,0)).1)) j.1),(aaj o.2 (δ ((ε a0.2.2 (δ j.1) (0,0,0,0)).1)) j.2))))))
def ez (a0:GG):Option (GI×GI):=
 (lf a0.1).bind λo=>
 (lf a0.1).bind λp=>
 (rounds (kt a0) (o,p)).bind λj=>
 some (j.1,j.2)
theorem Kj {a0}{r}(hr:ez a0=some r):CallOK ν 59 [.bZ (.st gR) a0] [⟨true,cC,r.1⟩,⟨true,cC,r.2⟩] []:=
 dB Tryz.func59 rfl λcx I hF=>θ I [] bm (bc hr w8 λy1 vt hr=>bc hr w8 λy3 TW hr=>abA I [oH,oH,(cl vt),oH,oH,(cl TW)] (dp vt TW) (ο (ϧ I hr (λs5=>up [1,4,5] [] [0] [(1,.seq tI s5.1),(2,.seq tI s5.2)] 0) (λr7=>(.ret,up [] [(2,aV 1),(3,aV 2)] [] [(1,.seq tI r7.1),(2,.seq tI r7.2)] 0)) (λr7 hr=>by (cases hr;exact (bT (ct bm)))) λs5 x8 t Bz=>ο (θ I [] bm (φ (θ I [] bm (ο (ϧ I t (λae=>up [1,4,5,19,20] [(6,iV ae.1),(7,iV ae.2.1),(21,iV ae.2.2)] [0,1,2] [] 0) (λOz=>(.exit 2,up [1,4,5] [(6,iV Oz.1),(7,iV Oz.2)] [0,1,2] [] 0)) (λOz t=>(bE (bp (φ (θ I [] bm (Φ t (λKe t=>θ I [] bm (HT.xr I (bF (bT (fp (Bz _ (bw t))))))) λKe t=>Θ (bp (bg t λYt t=>θ I [] (bQ Yt) (bg t λaf t=>bg t λag t=>Υ I [] (nZ af (bS af) ag (bS ag)) λ_ h=>(bB (bM (lN t h)))))))))))) λae XP J Ff=>θ I [] bm (Ϻ J (λBE J=>ϰ J (λv23=>up [1,4,5,19,20,21] [(6,iV v23.1),(7,iV v23.2)] [0,1,2] [] 0) (λv23 J=>Υ I [] bm λ_ h=>(bM (lN J h))) λ_ j aa=>ο (bg j λQ1 j=>θ I [] (bQ Q1) (bq j λj=>bq j λj=>θ I [] bm (HT.jo j (λ_=>rfl) (λv32=>up [1,4,5,6,7,8,9,19,20,21] [(10,iV v32)] [0,1,2,3] [] 0) (λv32 j=>ϰ j (λYu=>up [1,4,5,6,7,8,10,19,20,21] [(68,bV Yu)] [0,1,2] [] 0) (λYu j=>Φ j (λKa j=>Υ I [] bm λ_ h=>(bB (bp (h.ht (aa _ (bt j)))))) λKa j=>Θ (bB (bp (abi I (aa _ (bt j)))))) λ_ R ah=>bg R λT R=>bb R (λab R=>Υ I (nO 6 [kT]) (ll T (bS T) ab) λ_ h=>(bp (h.ht (ah _ (bt R))))) λab R=>Υ I (nO 6 [kF]) (ll T (bS T) ab) λ_ h=>(bp (h.ht (ah _ (bt R))))) λ_ o Yv ai=>θ I [] bm (Φ o (λYw o=>φ (ϰ o (λv46=>up [1,4,5,6,7,8,9,10,19,20,21] [(44,bV v46)] [0,1,2,3] [] 0) (λv46 o=>Φ o (λJ7 o=>have j:=Yv o;HT.exit (bL (bL (bE (bp (abi I (aa _ (bt j)))))))) λJ7 o=>Θ (bp (bg o λaj o=>bg o λak o=>adQ I [] (nZ aj (bS aj) ak (bS ak)) λ_ h=>(bp (h.ht (ai _ (bw o))))))) λ_ p al=>bg p λU p=>bb p (λad p=>Υ I (nO 6 [kT]) (ll U (bS U) ad) λ_ h=>(bp (h.ht (al _ (bt p))))) λad p=>bg p λan p=>Υ I (nO 6 [kF]) (lF U (bS U) ad an (bQ (bS an))) λ_ h=>(bp (h.ht (al _ (bt p)))))) λYw o=>Θ (bp (abi I (ai _ (bw o))))))))) λBE J=>Ϩ I (bL (bN (Ff _ (bw J)))))))))))))
def cJ (j:(GG×GI×GI×Int)->Option GI)(a0:GG)(a1:GI)(a2:GI)(a3:Int):Option GI:=
 br (0<=a3/\a3<bn a2) (
  br (0<=(ε a2 (δ a3) 0)/\(ε a2 (δ a3) 0)<bn a0.2.2) (
   (some ((ε a0.2.2 (δ (ε a2 (δ a3) 0)) (0,0,0,0)).1)).bind λI=>
   (some (((ε a0.2.2 (δ (ε a2 (δ a3) 0)) (0,0,0,0)).2).1)).bind λo=>
   (some ((((ε a0.2.2 (δ (ε a2 (δ a3) 0)) (0,0,0,0)).2).2).1)).bind λt=>
   (some ((((ε a0.2.2 (δ (ε a2 (δ a3) 0)) (0,0,0,0)).2).2).2)).bind λJ=>
   bif (decide (t<0)) then
    br (ζ a1+ζ ([o]:GI)<=bD) (
     some (a1++([o]:GI)))
   else
    (j ((a0.1,a0.2.1,a0.2.2),a1,a2,o)).bind λp=>
    (j ((a0.1,a0.2.1,a0.2.2),p,a2,t)).bind λr=>
    some r))
theorem BG {t}(ih: ∀{x} {r},t x=some r->CallOK ν 202 [.bZ (.st gR) x.1,.mv cC x.2.1,.bZ cC x.2.2.1,.bZ tI x.2.2.2] [⟨true,cC,r⟩] []){a0}{a1}{a2}{a3}{r}(j:cJ t a0 a1 a2 a3=some r):CallOK ν 202 [.bZ (.st gR) a0,.mv cC a1,.bZ cC a2,.bZ tI a3] [⟨true,cC,r⟩] []:=
 Tz Tryz.func202 rfl λcx I=>θ I [] bm (bg j λT j=>bg j λU j=>abA I [] (dp T U) (bq j λj=>bq j λj=>bq j λj=>bq j λj=>φ (θ I [] bm (Φ j (λJ j=>bg j λR j=>θ I [oH,oH,oH,(hT tI),(hT tI)] (bQ R) (by (cases j;exact (Δ (bF (ct bm)))))) λJ j=>Θ (bp (bc j ih λaa o j=>bc j ih λab p j=>abA I (nO 6 [(cl o),oH,oH,oH,(cl p)]) (dp o p) (by (cases j;exact (Δ (ct bm))))))))))
def fb (a0:GG)(a1:GI)(a2:GI)(a3:Int):Option GI:=L3 (λj x=>cJ j x.1 x.2.1 x.2.2.1 x.2.2.2) (a0,a1,a2,a3)
theorem DC {a0}{a1}{a2}{a3}{r}(o:fb a0 a1 a2 a3=some r):CallOK ν 202 [.bZ (.st gR) a0,.mv cC a1,.bZ cC a2,.bZ tI a3] [⟨true,cC,r⟩] []:=
 L4 (F:=λj x=>cJ j x.1 x.2.1 x.2.2.1 x.2.2.2) (C:=λx r=>CallOK ν 202 [.bZ (.st gR) x.1,.mv cC x.2.1,.bZ cC x.2.2.1,.bZ tI x.2.2.2] [⟨true,cC,r⟩] []) (λ_ ih _ _ h=>BG (λh=>ih _ _ h) h) o
def me (a0:GG):Option (GI×Int×Bool):=
 (db (a0.1,a0.2.1,a0.2.2)).bind λp=>
 bif (!p) then
  some (([]:GI),0,false)
 else
  (ez (a0.1,a0.2.1,a0.2.2)).bind λj=>
  br ((0:Int)<=0/\0<bn j.2) (
   bif (decide ((ε j.2 (δ 0) 0)<0)) then
    some (([]:GI),0,false)
   else
    (fb (a0.1,a0.2.1,a0.2.2) ([]:GI) j.1 0).bind λo=>
    bif (decide ((bn o)>12)) then
     some (([]:GI),0,false)
    else
     some (o,(ε j.2 (δ 0) 0),true))
theorem Nd {a0}{r}(j:me a0=some r):CallOK ν 168 [.bZ (.st gR) a0] [⟨true,cC,r.1⟩,⟨false,tI,r.2.1⟩,⟨false,.bool,r.2.2⟩] []:=
 dB Tryz.func168 rfl λcx o hF=>θ o [] bm (φ (bc j vA λy1 t j=>θ o [oH,(cl t)] (bQ t) (Φ j (λT j=>θ o [] bm (by (cases j;exact (Δ (bF (ct bm)))))) λT j=>Θ (bp (bc j Kj λy4 I j=>θ o [oH,(cl I)] (bQ I) (φ (bg j λp j=>θ o [] (dp p (bS p)) (Φ j (λU j=>θ o [] bm (by (cases j;exact (Δ (bF (ct bm)))))) λU j=>Θ (bp (bc j DC λy8 J j=>θ o [oH,oH,(cl J)] (bQ J) (φ (θ o [] bm (Φ j (λR j=>θ o [] bm (by (cases j;exact (Δ (bF (ct bm)))))) λR j=>Θ (bp (abA o [] (dp p (bS p)) (by (cases j;exact (Δ (ct bm)))))))))))))))))))
def fI (a0:GQ)(a1:GI):Option (Bool):=
 (show Option (Bool) from
  bif (decide (a0.2.2.1<0)) then
   some true
  else
   br (0<=a0.2.1/\a0.2.1<bn a1) (
    bif (decide ((ε a1 (δ a0.2.1) 0)>=0)) then
     br (0<=a0.2.2.1/\a0.2.2.1<bn a1) (
      some (decide ((ε a1 (δ a0.2.2.1) 0)>=0)))
    else
     some false)).bind λj=>
 some j
theorem Kk {a0}{a1}{r}(R:fI a0 a1=some r):CallOK ν 60 [.bZ (.st gQ) a0,.fZ cC a1] [⟨false,.bool,r⟩] []:=
 dB Tryz.func60 rfl λcx J hF=>θ J [] bm (ϰ R (λU=>up [] [(3,bV U)] [] [] 0) (λU R=>by (cases R;exact (Δ (ct bm)))) λ_ j p=>bb j (λo j=>Υ J [oH,oH,oH,kT] (bQ o) λ_ h=>(bp (h.ht (p _ (bt j))))) λo j=>bg j λI j=>bb j (λt j=>bg j λT j=>Υ J [oH,oH,oH,kF,oH,oH,oH,oH,oH,oH,kT] (nZ o I t T) λ_ h=>(bp (h.ht (p _ (bt j))))) λt j=>Υ J [oH,oH,oH,kF,oH,oH,oH,oH,oH,oH,kF] (ll o I t) λ_ h=>(bp (h.ht (p _ (bt j)))))
def ka (a0:GG)(I:GI×GI)(o:GZ)(j:Int×GI):Option ((Int×GI)⊕GI):=
 bif (decide (j.1<(bn a0.2.2))) then
  (show Option GI from
   br (0<=j.1/\j.1<bn a0.2.2) (
    (show Option (Bool) from
     br (0<=(ε a0.2.2 (δ j.1) (0,0,0,0)).1/\(ε a0.2.2 (δ j.1) (0,0,0,0)).1<bn o) (
      bif (ε o (δ ((ε a0.2.2 (δ j.1) (0,0,0,0)).1)) false) then
       (fI ((ε a0.2.2 (δ j.1) (0,0,0,0)).1,((ε a0.2.2 (δ j.1) (0,0,0,0)).2).1,(((ε a0.2.2 (δ j.1) (0,0,0,0)).2).2).1,(((ε a0.2.2 (δ j.1) (0,0,0,0)).2).2).2) I.2).bind λp=>
       some p
      else
       some false)).bind λr=>
    bif r then
     br (ζ j.2+ζ ([j.1]:GI)<=bD) (
      some (j.2++([j.1]:GI)))
    else
     some j.2)).bind λt=>
  some (.inl ((bz .i64 j.1 1),t))
 else
  some (.inr j.2)
def kd (a0:GG)(t:GI×GI)(j:Int×GZ):Option ((Int×GZ)⊕GZ):=
 bif (decide (j.1<(bn a0.2.2))) then
  (show Option GZ from
   br (0<=j.1/\j.1<bn a0.2.2) (
    (show Option (Bool) from
     br (0<=(ε a0.2.2 (δ j.1) (0,0,0,0)).1/\(ε a0.2.2 (δ j.1) (0,0,0,0)).1<bn j.2) (
      bif (ε j.2 (δ ((ε a0.2.2 (δ j.1) (0,0,0,0)).1)) false) then
       bif (decide ((((ε a0.2.2 (δ j.1) (0,0,0,0)).2).2).1>=0)) then
        (fI ((ε a0.2.2 (δ j.1) (0,0,0,0)).1,((ε a0.2.2 (δ j.1) (0,0,0,0)).2).1,(((ε a0.2.2 (δ j.1) (0,0,0,0)).2).2).1,(((ε a0.2.2 (δ j.1) (0,0,0,0)).2).2).2) t.2).bind λo=>
        some o
       else
        some false
      else
       some false)).bind λp=>
    bif p then
     br (0<=((ε a0.2.2 (δ j.1) (0,0,0,0)).2).1/\((ε a0.2.2 (δ j.1) (0,0,0,0)).2).1<bn j.2) (
      br (0<=(((ε a0.2.2 (δ j.1) (0,0,0,0)).2).2).1/\(((ε a0.2.2 (δ j.1) (0,0,0,0)).2).2).1<bn (aaj j.2 (δ (((ε a0.2.2 (δ j.1) (0,0,0,0)).2).1)) true)) (
       some (aaj (aaj j.2 (δ (((ε a0.2.2 (δ j.1) (0,0,0,0)).2).1)) true) (δ ((((ε a0.2.2 (δ j.1) (0,0,0,0)).2).2).1)) true)))
    else
     some j.2)).bind λr=>
  some (.inl ((bz .i64 j.1 1),r))
 else
  some (.inr j.2)
def ke (a0:GG)(p:GI×GI)(j:Int×GZ):Option ((Int×GZ)⊕GZ):=
 bif (decide (j.1<a0.1)) then
  (rounds (kd a0 p) (0,j.2)).bind λo=>
  some (.inl ((bz .i64 j.1 1),o))
 else
  some (.inr j.2)
def iu (a0:GG):Option (GI×Bool):=
 (db (a0.1,a0.2.1,a0.2.2)).bind λr=>
 bif (!r) then
  some (([]:GI),false)
 else
  (ez (a0.1,a0.2.1,a0.2.2)).bind λp=>
  br (0<=a0.1/\a0.1<=4294967296) (
   br ((0:Int)<=0/\0<bn (υ (δ a0.1) false)) (
    (rounds (ke a0 p) (0,(aaj (υ (δ a0.1) false) (δ 0) true))).bind λj=>
    (rounds (ka a0 p j) (0,([]:GI))).bind λo=>
    some (o,true)))
theorem Q2 {a0}{r}(hr:iu a0=some r):CallOK ν 22 [.bZ (.st gR) a0] [⟨true,cC,r.1⟩,⟨false,.bool,r.2⟩] []:=
 dB Tryz.func22 rfl λcx p hF=>θ p [] bm (φ (bc hr vA λy1 vt hr=>θ p [oH,(cl vt)] (bQ vt) (Φ hr (λAe hr=>θ p [] bm (by (cases hr;exact (Δ (bF (ct bm)))))) λAe hr=>Θ (bp (bc hr Kj λy4 ZJ hr=>θ p [oH,(cl (ϱ [false,true] rfl ZJ))] (bQ (ϱ [false,true] rfl ZJ)) (by (refine (Le.rz [(0,0)] [] (st':=⟨[(1,pV 0 0),(5,.one (.ip cC y4.2 0))],[(0,.box [iC a0.1,iC a0.2.1,.bG gA a0.2.2])],3⟩) p hF (by kernel_rfl)).ht ?_;exact (θ p [] bm (bg hr λhg6 hr=>θ p [oH,oH,(hT .bool)] (bQ (Mj hg6)) (bg hr λVj hr=>θ p [] (dp Vj (bS Vj)) (φ (θ p [] bm (ο (ϧ p hr (λs8=>up [1,6,7,28] [(29,iV s8.1)] [0] [(3,.seq .bool s8.2)] 0) (λOy=>(.exit 0,up [1,6,7] [] [0] [(3,.seq .bool Oy)] 0)) (λOy hr=>(bE (bp (θ p [] bm (φ (θ p [] bm (ο (ϧ p hr (λYx=>up [6,7,65,66] [(10,aV 7),(67,iV Yx.1)] [3] [(7,.seq tI Yx.2)] 4) (λOz=>(.exit 4,up [] [(10,aV 7)] [] [(7,.seq tI Oz)] 4)) (λOz hr=>(bE (bp (θ p [] bm (by (cases hr;exact (Δ (ct bm)))))))) λYx Vg J Q3=>θ p [] bm (Ϻ J (λBv J=>ϰ J (λZK=>up [6,7,65,66,67] [(10,aV 10)] [3] [(10,.seq tI ZK)] 3) (λZK J=>Υ p [] bm λ_ h=>(bM (lN J h))) λ_ t Um=>ο (bg t λDx t=>θ p [] (bQ Dx) (ϰ t (λv24=>up [6,7,10,11,65,66,67] [(81,bV v24)] [3,7] [] 0) (λv24 t=>Φ t (λPV t=>bg t λYy t=>Υ p [oH,oH,(hT tI),(hT tI)] (bQ Yy) λ_ h=>(bB (bp (h.ht (Um _ (bt t)))))) λPV t=>Θ (bB (bp (abi p (Um _ (bt t)))))) λ_ I Un=>bg I λzF I=>bb I (λJV I=>bc I Kk λVe Uo I=>Υ p (nO 5 [kT,oH,oH,(cl Uo)]) (nZ zF (bS zF) JV Uo) λ_ h=>(bp (h.ht (Un _ (bt I))))) λJV I=>Υ p (nO 5 [kF]) (ll zF (bS zF) JV) λ_ h=>(bp (h.ht (Un _ (bt I))))))) λBv J=>Ϩ p (bL (bN (Q3 _ (bw J))))))))))))) λs8 x33 R Yz=>θ p [] bm (Ϻ R (λYA R=>φ (ο (θ p [] bm (ο (ϧ p R (λYB=>up [1,6,7,28,29,32,33] [(34,iV YB.1)] [0] [(3,.seq .bool YB.2)] 0) (λZL=>(.exit 2,up [1,6,7,28,29] [] [0] [(3,.seq .bool ZL)] 0)) (λZL R=>(bE (bB (bp (Υ p [] bm λ_ h=>(bM (lN R h))))))) λYB ZB T Qp=>θ p [] bm (Ϻ T (λJ6 T=>ϰ T (λv45=>up [1,6,7,28,29,32,33,34] [] [0] [(3,.seq .bool v45)] 0) (λv45 T=>Υ p [] bm λ_ h=>(bM (lN T h))) λ_ j Up=>ο (bg j λQq j=>θ p [] (bQ Qq) (ϰ j (λv50=>up [1,6,7,9,28,29,32,33,34] [(52,bV v50)] [0,3,4] [] 0) (λv50 j=>Φ j (λKg j=>bg j λUq j=>bg j λM9 j=>adQ p [] (nZ Uq (bS Uq) M9 (bS M9)) λ_ h=>(bB (bp (h.ht (Up _ (bt j)))))) λKg j=>Θ (bB (bp (abi p (Up _ (bt j)))))) λ_ o HP=>bg o λU o=>bb o (λHQ o=>bb o (λKl o=>bc o Kk λYC Ur o=>Υ p (nO 5 [kT,oH,oH,oH,oH,kT,oH,oH,(cl Ur)]) (lF U (bS U) HQ Kl (bQ Ur)) λ_ h=>(bp (h.ht (HP _ (bt o))))) λKl o=>Υ p (nO 5 [kT,oH,oH,oH,oH,kF]) (nZ U (bS U) HQ Kl) λ_ h=>(bp (h.ht (HP _ (bt o))))) λHQ o=>Υ p (nO 5 [kF]) (ll U (bS U) HQ) λ_ h=>(bp (h.ht (HP _ (bt o))))))) λJ6 T=>Ϩ p (bL (bN (Qp _ (bw T)))))))))) λYA R=>Ϩ p (bL (bN (Yz _ (bw R)))))))))))))))))))
def mf (a0:GM×GP×GG×GI)(a1:GB):Option (GB×Bool×Bool×(GM×GP×GG×GI)):=
 (show Option ((GB×Bool)⊕(GB×Bool×Bool×(GM×GP×GG×GI))) from
  bif (a1==([109,97,99,104,105,110,101]:GB)) then
   (jU (a0.1.1,a0.1.2.1,a0.1.2.2.1,a0.1.2.2.2.1,a0.1.2.2.2.2)).bind λy8=>
   some (.inl (y8.1,y8.2))
  else
   bif (a1==([112,108,97,105,110]:GB)) then
    (lZ (a0.2.1.1,a0.2.1.2.1,a0.2.1.2.2.1,a0.2.1.2.2.2)).bind λr=>
    some (.inl (r.1,r.2))
   else
    bif (a1==([103,114,97,109,109,97,114]:GB)) then
     (jV (a0.2.2.1.1,a0.2.2.1.2.1,a0.2.2.1.2.2)).bind λt=>
     some (.inl (t.1,t.2))
    else
     bif (a1==([119,111,114,100]:GB)) then
      (gC a0.2.2.2).bind λI=>
      some (.inl (I.1,I.2))
     else
      bif (a1==([99,111,115,116]:GB)) then
       (nG (a0.1.1,a0.1.2.1,a0.1.2.2.1,a0.1.2.2.2.1,a0.1.2.2.2.2) a0.2.2.2).bind λJ=>
       (dy J.1 J.2).bind λR=>
       some (.inl (R.1,R.2))
      else
       bif (a1==([98,101,115,116]:GB)) then
        (nj (a0.1.1,a0.1.2.1,a0.1.2.2.1,a0.1.2.2.2.1,a0.1.2.2.2.2)).bind λj=>
        (iW j.1 j.2.1 j.2.2).bind λT=>
        some (.inl (T.1,T.2))
       else
        bif (a1==([114,101,97,100,115]:GB)) then
         (jL (a0.2.1.1,a0.2.1.2.1,a0.2.1.2.2.1,a0.2.1.2.2.2) a0.2.2.2).bind λo=>
         bif o.1 then
          some (.inl (([121,101,115]:GB),o.2))
         else
          some (.inl (([110,101,118,101,114]:GB),o.2))
        else
         bif (a1==([102,105,114,115,116]:GB)) then
          (l8 (a0.2.1.1,a0.2.1.2.1,a0.2.1.2.2.1,a0.2.1.2.2.2)).bind λU=>
          (dN U.1 U.2).bind λaa=>
          some (.inl (aa.1,aa.2))
         else
          bif (a1==([108,101,97,114,110]:GB)) then
           (kG (a0.2.1.1,a0.2.1.2.1,a0.2.1.2.2.1,a0.2.1.2.2.2)).bind λab=>
           (dy ab.2.1 ab.2.2).bind λad=>
           some (.inl (ad.1,ad.2))
          else
           bif (a1==([112,97,114,115,101]:GB)) then
            (ir (a0.2.2.1.1,a0.2.2.1.2.1,a0.2.2.1.2.2) a0.2.2.2).bind λae=>
            (dy ae.1 ae.2).bind λaf=>
            some (.inl (af.1,af.2))
           else
            bif (a1==([116,114,101,101,115]:GB)) then
             (fW (a0.2.2.1.1,a0.2.2.1.2.1,a0.2.2.1.2.2) a0.2.2.2).bind λag=>
             (dy ag.1 ag.2).bind λah=>
             some (.inl (ah.1,ah.2))
            else
             bif (a1==([99,104,101,97,112]:GB)) then
              (me (a0.2.2.1.1,a0.2.2.1.2.1,a0.2.2.1.2.2)).bind λp=>
              (iW p.1 p.2.1 p.2.2).bind λai=>
              some (.inl (ai.1,ai.2))
             else
              bif (a1==([117,115,101,102,117,108]:GB)) then
               (iu (a0.2.2.1.1,a0.2.2.1.2.1,a0.2.2.1.2.2)).bind λaj=>
               (dN aj.1 aj.2).bind λak=>
               some (.inl (ak.1,ak.2))
              else
               sX (some (([]:GB),false,false,a0))).bind λw5=>match w5 with
  | .inl v2=>
   some (v2.1,v2.2,true,a0)
  | .inr z=>some z
theorem Nf {a0}{a1}{r}(hr:mf a0 a1=some r):CallOK ν 133 [.own (.bx (.st (.pair (.st gM) (.pair (.st gP) (.pair (.st gR) cC))))) [a0],.bZ .str a1] [⟨false,.str,r.1⟩,⟨false,.bool,r.2.1⟩,⟨false,.bool,r.2.2.1⟩] [⟨(.bx (.st (.pair (.st gM) (.pair (.st gP) (.pair (.st gR) cC))))),[r.2.2.2]⟩]:=
 dB Tryz.func133 rfl λcx o hF=>θ o [] bm (θ o [] bm (HT.jo hr (λ_=>rfl) (λv2=>up [] [(7,.one (.bG .str v2.1)),(8,bV v2.2)] [0] [] 0) (λv2 hr=>θ o [] bm (by (cases hr;exact (Δ (ct (bQ (show ζ ([a0])=ζ [a0] from rfl))))))) λ_ j R4 p=>θ o [] bm (ο (θ o [] bm (Φ j (λJ0 j=>bc j TU λy8 Ow j=>Υ o (nO 4 [(cl Ow)]) (dp (show 0<ζ [a0] from Ξ) Ow) λ_ h=>(bB (bp (h.ht (p _ (bw j)))))) λJ0 j=>θ o [] bm (Φ j (λBB j=>bc j TV λLp t j=>Υ o (nO 4 [(cl t)]) (dp (show 0<ζ [a0] from Ξ) t) λ_ h=>(bB (bp (h.ht (p _ (bw j)))))) λBB j=>θ o [] bm (Φ j (λFa j=>bc j QD λRX I j=>Υ o (nO 4 [(cl I)]) (dp (show 0<ζ [a0] from Ξ) I) λ_ h=>(bB (bp (h.ht (p _ (bw j)))))) λFa j=>θ o [] bm (Φ j (λyA j=>bc j Fb λRZ J j=>Υ o (nO 4 [(cl J)]) (dp (show 0<ζ [a0] from Ξ) J) λ_ h=>(bB (bp (h.ht (p _ (bw j)))))) λyA j=>θ o [] bm (Φ j (λQy j=>bc j QF λXF R j=>bc j sM λy22 T j=>adQ o (nO 8 [(cl R),oH,oH,(cl T)]) (nZ (show 0<ζ [a0] from Ξ) (show 0<ζ [a0] from Ξ) R T) λ_ h=>(bB (bp (h.ht (p _ (bw j)))))) λQy j=>θ o [] bm (Φ j (λE7 j=>bc j M3 λXp U j=>bc j GN λZE aa j=>Υ o (nO 4 [(cl U),oH,oH,oH,(cl aa)]) (ll (show 0<ζ [a0] from Ξ) U aa) λ_ h=>(bB (bp (h.ht (p _ (bw j)))))) λE7 j=>θ o [] bm (Φ j (λQo j=>bc j QH λZF ab j=>abA o (nO 8 [(cl ab)]) (ll (show 0<ζ [a0] from Ξ) (show 0<ζ [a0] from Ξ) ab) (θ o [] bm (θ o [] bm (Φ j (λyB j=>Υ o [] bm λ_ h=>(bB (bp (h.ht (p _ (bw j)))))) λyB j=>Θ (bB (bp (abi o (p _ (bw j))))))))) λQo j=>θ o [] bm (Φ j (λQL j=>bc j M5 λXA ad j=>bc j BF λZG ae j=>Υ o (nO 4 [(cl ad),oH,oH,(cl ae)]) (ll (show 0<ζ [a0] from Ξ) ad ae) λ_ h=>(bB (bp (h.ht (p _ (bw j)))))) λQL j=>θ o [] bm (Φ j (λQ5 j=>bc j M8 λy39 af j=>θ o (nO 4 [(cl af)]) (dp (show 0<ζ [a0] from Ξ) af) (bc j sM λPX ag j=>Υ o [oH,oH,(cl ag)] (bQ ag) λ_ h=>(bB (bp (h.ht (p _ (bw j))))))) λQ5 j=>θ o [] bm (Φ j (λJ6 j=>bc j QU λy44 ah j=>bc j sM λy46 ai j=>adQ o (nO 8 [(cl ah),oH,oH,(cl ai)]) (nZ (show 0<ζ [a0] from Ξ) (show 0<ζ [a0] from Ξ) ah ai) λ_ h=>(bB (bp (h.ht (p _ (bw j)))))) λJ6 j=>θ o [] bm (Φ j (λKh j=>bc j QV λZr aj j=>bc j sM λy51 ak j=>adQ o (nO 8 [(cl aj),oH,oH,(cl ak)]) (nZ (show 0<ζ [a0] from Ξ) (show 0<ζ [a0] from Ξ) aj ak) λ_ h=>(bB (bp (h.ht (p _ (bw j)))))) λKh j=>θ o [] bm (Φ j (λKg j=>bc j Nd λy54 al j=>bc j GN λy56 an j=>Υ o (nO 4 [(cl al),oH,oH,oH,(cl an)]) (ll (show 0<ζ [a0] from Ξ) al an) λ_ h=>(bB (bp (h.ht (p _ (bw j)))))) λKg j=>θ o [] bm (Φ j (λKl j=>bc j Q2 λYC ao j=>bc j BF λVq aq j=>Υ o (nO 4 [(cl ao),oH,oH,(cl aq)]) (ll (show 0<ζ [a0] from Ξ) ao aq) λ_ h=>(bB (bp (h.ht (p _ (bw j)))))) λKl j=>θ o [] bm (have hr:=R4 j;by (cases hr;exact (Δ (bT (bF (ct (bQ (show ζ ([a0])=ζ [a0] from rfl)))))))))))))))))))))))))
def rT (a0:GB):Option (List GB):=
 bif (a0==([110,111,110,101]:GB)) then
  some ([]:List GB)
 else
  (strings_Split a0 ([44]:GB)).bind λj=>
  some j
theorem Ng {a0}{r}(j:rT a0=some r):CallOK ν 118 [.bZ .str a0] [⟨true,(.sl .str),r⟩] []:=
 dB Tryz.func118 rfl λcx p I=>θ p [] bm (φ (θ p [] bm (Φ j (λt j=>θ p [] bm (by (cases j;exact (Δ (bF (ct bm)))))) λt j=>Θ (bp (bc j Bu λJ o j=>θ p [oH,(cl o)] (bQ o) (by (cases j;exact (Δ (ct bm)))))))))
def iw (p:List GB)(j:Int×GI):Option ((Int×GI)⊕(GI⊕Unit)):=
 bif (decide (j.1<(bn p))) then
  br (0<=j.1/\j.1<bn p) (
   (eD (ε p (δ j.1) ([]:GB))).bind λo=>
   bif (!o.2) then
    some (.inr (.inr ()))
   else
    br (ζ j.2+ζ ([o.1]:GI)<=bD) (
     some (.inl ((bz .i64 j.1 1),(j.2++([o.1]:GI))))))
 else
  some (.inr (.inl j.2))
def pP (a0:GB):Option (GI×Bool):=
 (rT a0).bind λj=>
 (rounds (iw j) (0,([]:GI))).bind λo=>match o with
  | .inl p=>
   some (p,true)
  | .inr r=>
   some (([]:GI),false)
theorem Q6 {a0}{r}(I:pP a0=some r):CallOK ν 80 [.bZ .str a0] [⟨true,cC,r.1⟩,⟨false,.bool,r.2⟩] []:=
 dB Tryz.func80 rfl λcx o hF=>θ o [] bm (θ o [] bm (φ (bc I Ng λy1 J I=>θ o [oH,(cl J)] (bQ J) (ο (ϧ o I (λs3=>up [11,12] [(4,aV 3),(13,iV s3.1)] [0] [(3,.seq tI s3.2)] 3) (λr4=>match r4 with| .inl r5=>(.exit 0,up [] [(4,aV 3)] [] [(3,.seq tI r5)] 3)| .inr r6=>(.ret,up [] [(2,.one (.bH)),(3,bV false)] [] [] 0)) (λr4=>match r4 with| .inl r5=>λI=>(bE (bp (θ o [] bm (by (cases I;exact (Δ (ct bm)))))))| .inr r6=>λI=>by (cases I;exact (bT (bF (ct bm))))) λs3 x7 j R=>θ o [] bm (Ϻ j (λT j=>φ (ο (bg j λp j=>θ o [] (dp p (bS p)) (bc j GD λyu t j=>θ o [oH,(cl t)] (bQ t) (φ (θ o [] bm (Φ j (λU j=>θ o [] bm (HT.xr o (bF (bT (bF (fp (R _ (bw j)))))))) λU j=>Θ (bp (bg j λaa j=>HT.l o [oH,oH,(hT tI),(hT tI)] (bQ aa) (bB (bp (Υ o [] bm λ_ h=>(bM (lN j h)))))))))))))) λT j=>Ϩ o (bL (bN (R _ (bw j))))))))))
def iZ (a0:GB):Option (GI×Bool):=
 (pP a0).bind λj=>
 (show Option (Bool) from
  bif (!j.2) then
   some true
  else
   some (decide ((bn j.1)>64))).bind λv4=>
 bif v4 then
  some (([]:GI),false)
 else
  some (j.1,true)
theorem Km {a0}{r}(o:iZ a0=some r):CallOK ν 32 [.bZ .str a0] [⟨true,cC,r.1⟩,⟨false,.bool,r.2⟩] []:=
 dB Tryz.func32 rfl λcx t T=>θ t [] bm (bc o Q6 λU I o=>θ t [oH,(cl I)] (bQ I) (φ (ϰ o (λv4=>up [4] [(17,bV v4)] [0] [] 0) (λv4 o=>Φ o (λR o=>θ t [] bm (by (cases o;exact (Δ (bF (ct bm)))))) λR o=>Θ (bp (θ t [] bm (by (cases o;exact (Δ (ct bm))))))) λ_ j J=>bb j (λp j=>Υ t [oH,oH,kT] (bQ p) λ_ h=>(bp (h.ht (J _ (bt j))))) λp j=>Υ t [oH,oH,kF] (bQ p) λ_ h=>(bp (h.ht (J _ (bt j)))))))
def jy (p:List GB)(j:Int×List GI):Option ((Int×List GI)⊕(List GI⊕Unit)):=
 bif (decide (j.1<(bn p))) then
  br (0<=j.1/\j.1<bn p) (
   (iZ (ε p (δ j.1) ([]:GB))).bind λo=>
   bif (!o.2) then
    some (.inr (.inr ()))
   else
    br (ζ j.2+ζ ([o.1]:List GI)<=bD) (
     some (.inl ((bz .i64 j.1 1),(j.2++([o.1]:List GI))))))
 else
  some (.inr (.inl j.2))
def fJ (a0:GB)(a1:Int):Option (List GI×Bool):=
 (strings_Split a0 ([59]:GB)).bind λo=>
 (rounds (jy o) (0,([]:List GI))).bind λp=>match p with
  | .inl j=>
   some (j,((bn j)==a1))
  | .inr r=>
   some (([]:List GI),false)
theorem Fk {a0}{a1}{r}(I:fJ a0 a1=some r):CallOK ν 75 [.bZ .str a0,.bZ tI a1] [⟨true,(.sl (.own tI)),r.1⟩,⟨false,.bool,r.2⟩] []:=
 dB Tryz.func75 rfl λcx o hF=>θ o [] bm (θ o [] bm (φ (bc I Bu λy1 J I=>θ o [oH,(cl J)] (bQ J) (ο (ϧ o I (λs3=>up [1,13,14] [(6,aV 4),(15,iV s3.1)] [0] [(4,.seq (.own tI) s3.2)] 4) (λr4=>match r4 with| .inl r5=>(.exit 0,up [1] [(6,aV 4)] [] [(4,.seq (.own tI) r5)] 4)| .inr r6=>(.ret,up [] [(4,.one (.bH)),(5,bV false)] [] [] 0)) (λr4=>match r4 with| .inl r5=>λI=>(bE (bp (θ o [] bm (by (cases I;exact (Δ (ct bm)))))))| .inr r6=>λI=>by (cases I;exact (bT (bF (ct bm))))) λs3 x7 j R=>θ o [] bm (Ϻ j (λT j=>φ (ο (bg j λp j=>θ o [] (dp p (bS p)) (bc j Km λyu t j=>θ o [oH,(cl t)] (bQ t) (φ (θ o [] bm (Φ j (λU j=>θ o [] bm (HT.xr o (bF (bT (bF (fp (R _ (bw j)))))))) λU j=>Θ (bp (bg j λaa j=>HT.l o [oH,oH,(hT (.own tI)),(hT (.own tI))] (bQ aa) (bB (bp (Υ o [] bm λ_ h=>(bM (lN j h)))))))))))))) λT j=>Ϩ o (bL (bN (R _ (bw j))))))))))
end
end Go.Proofs
