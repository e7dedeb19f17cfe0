import Derived.Test.YtjnkhcgmgkhnaaaGreatDoorJournalGenB
import Derived.Test.YtjnkhcgmgkhnaaaGreatDoorProg
set_option linter.all false
open BitVec renaming ofInt→Ϙ
open Go.Ide.HT renaming g→θ,block→ο,seq→φ,ret→Δ,skip→Θ,k→Υ,cb→Φ,lp→ϧ,xe→Ϩ,jn→ϰ,cj→Ϻ,re→abi,dg→abA,dk→adQ
open Go.IntKind renaming wrap→Ρ,bits→Ϗ
open Go.Lib renaming cell_of_heap→Ϯ
open Go.Proofs.SlLaysF0 renaming n6→agr
open Go.Proofs.Tryz renaming prog→ν,func214→ahI
open Go.RowKit.Below renaming heap_alloc→aar
open Go.Sort renaming grow→acG
open Int renaming toNat→δ,lt_trichotomy→acN,fdiv→adl
open List renaming getD→ε,length→ζ,replicate→υ,take→ϛ,set→aaj,drop→aaY
open Nat renaming min→abh
namespace Go.Proofs
open Go.Ide
noncomputable section
section
open Go.RowKit Go.Sort
def yy (x y:Int):Int:=if x<y then -1 else if y<x then 1 else 0
theorem HL (x:Int)(w:World):Calls ν 227 #[.int .i64 x] w λe w'=>e= .returned (.bool false)/\w'=w:=by
 go_enter Tryz.func227,Tryz.ntmps227
 go_wp2
 go_ret
 exact ⟨by simp,rfl⟩
theorem sK (x y:Int)(w:World):Calls ν 216 #[.int .i64 x,.int .i64 y] w λe w'=>e= .returned (.int .i64 (yy x y))/\w'=w:=by
 go_enter Tryz.func216,Tryz.ntmps216
 go_wp2_with (go_at_call 227;refine (HL _ _).mono ?_;rintro e w' ⟨rfl,hw⟩;rw [hw])
 all_goals (go_ret;refine ⟨?_,rfl⟩;unfold yy;(repeat' split)<;>first|rfl|(exfalso;omega))
def Ot (v:Nat->Int):Int:=if v 0≠0 then v 0 else if v 1≠0 then v 1 else if v 2≠0 then v 2 else v 3
theorem Qg {v:Nat->Int}{k:Nat}(p:k<4)(h: ∀j,j<k->v j=0)(o:v k≠0):Ot v=v k:=by
 unfold Ot;rcases (show k=0\/k=1\/k=2\/k=3 by omega) with rfl|rfl|rfl|rfl
 rw [if_pos o];rw [if_neg (by rw [h 0 (by omega)];decide),if_pos o];rw [if_neg (by rw [h 0 (by omega)];decide),if_neg (by rw [h 1 (by omega)];decide),if_pos o];rw [if_neg (by rw [h 0 (by omega)];decide),if_neg (by rw [h 1 (by omega)];decide),if_neg (by rw [h 2 (by omega)];decide)]
theorem Qh {v:Nat->Int}(h: ∀j,j<4->v j=0):Ot v=0:=by
 unfold Ot;rw [h 0 (by omega),h 1 (by omega),h 2 (by omega),h 3 (by omega)];rfl
theorem HM (b:Nat)(v:Nat->Int)(w:World)(hv: ∀j:Nat,j<4->w.cell? ⟨b,j,none⟩=some (.int .i64 (v j))):
 Calls ν 215 #[.slice (some ⟨b,0,none⟩) 4 4] w λe w'=>e= .returned (.int .i64 (Ot v))/\w'=w:=by
 go_enter Tryz.func215,Tryz.ntmps215
 go_wp2
 go_loopw [8] (λi wr=> ∃k:Nat,k<=4/\i= .int .i64 k/\wr=w/\ ∀j,j<k->v j=0) (λi _=>4 - (intOf i).toNat)
 case atStart=>exact ⟨0,Nat.zero_le _,rfl,rfl,λj hj=>by omega⟩
 case round=>
  obtain ⟨k,hk,rfl,rfl,hz⟩:=hrel;by_cases hlt:k<4
  ·have hc:=hv k hlt;by_cases hn:v k=0
   ·rw [hn] at hc;clear hv
    go_wp2
    go_roundw
    case rel=>exact ⟨k+1,by omega,by go_num,by first|rfl|trivial,λj hj=>by
     by_cases e:j=k;rw [e];exact hn;exact hz j (by omega)⟩
    case measure=>simp [intOf];omega
   ·have ho:=Qg hlt hz hn;generalize v k=q at hc hn ho;clear hv hz
    go_wp2
    go_ret
    exact ⟨by rw [ho];rfl,rfl⟩
  ·have Zy:k=4:=by omega
   subst Zy;have ho:=Qh hz;clear hv hz
   go_wp2
   go_ret
   exact ⟨by rw [ho];rfl,rfl⟩
def Ou (x y:Int×Int×Int×Int):Int:=Ot λj=>match j with
 |0=>yy x.1 y.1
 |1=>yy x.2.2.1 y.2.2.1
 |2=>yy x.2.1 y.2.1
 |_=>yy x.2.2.2 y.2.2.2
set_option maxHeartbeats 2000000 in
set_option maxRecDepth 100000 in
theorem HN (x y:Int×Int×Int×Int)(W:World):Calls ν 214 #[.agg (e4 x).toArray,.agg (e4 y).toArray] W λe w'=>e= .returned (.int .i64 (Ou x y))/\ ∃q os',w'=acG (W.drewN q) os':=by
 have e: ∃b1 b2 w2,b1=W.heap.size/\b2=W.heap.size+1/\w2=(W.alloc (.cells (e4 x).toArray 80)).alloc (.cells (e4 y).toArray 80):=⟨_,_,_,rfl,rfl,rfl⟩;obtain ⟨b1,b2,w2,e1,e2,e3⟩:=e;have hg:w2=acG (W.drewN 0) #[.cells (e4 x).toArray 80,.cells (e4 y).toArray 80]:=by
  rw [e3,alloc_eq_grow,alloc_eq_grow,grow_grow];rfl
 have k1:w2.heap[b1]? =some (.cells (e4 x).toArray 80):=by
  rw [e1,e3,aar _ _ _ (by simp)];exact heap_alloc_new W _
 have k2:w2.heap[b2]? =some (.cells (e4 y).toArray 80):=by
  rw [e2,e3];have:=heap_alloc_new (W.alloc (.cells (e4 x).toArray 80)) (.cells (e4 y).toArray 80);simpa using this
 have c10:w2.cell? ⟨b1,0,none⟩=some (.int .i64 x.1):=by rw [Ϯ k1];rfl
 have c11:w2.cell? ⟨b1,1,none⟩=some (.int .i64 x.2.1):=by rw [Ϯ k1];rfl
 have c12:w2.cell? ⟨b1,2,none⟩=some (.int .i64 x.2.2.1):=by rw [Ϯ k1];rfl
 have c13:w2.cell? ⟨b1,3,none⟩=some (.int .i64 x.2.2.2):=by rw [Ϯ k1];rfl
 have c20:w2.cell? ⟨b2,0,none⟩=some (.int .i64 y.1):=by rw [Ϯ k2];rfl
 have c21:w2.cell? ⟨b2,1,none⟩=some (.int .i64 y.2.1):=by rw [Ϯ k2];rfl
 have c22:w2.cell? ⟨b2,2,none⟩=some (.int .i64 y.2.2.1):=by rw [Ϯ k2];rfl
 have c23:w2.cell? ⟨b2,3,none⟩=some (.int .i64 y.2.2.2):=by rw [Ϯ k2];rfl
 have R1:Hid (w2=acG (W.drewN 0) #[.cells (e4 x).toArray 80,.cells (e4 y).toArray 80]):=hg;clear k1 k2 hg;unfold Ou;unfold e4 at e3⊢
 go_enter ahI,Tryz.ntmps214
 go_wp2
 rw [<-e3,<-e2,<-e1];have h0:=λW'=>sK x.1 y.1 W';have h1:=λW'=>sK x.2.1 y.2.1 W';have h2:=λW'=>sK x.2.2.1 y.2.2.1 W';have h3:=λW'=>sK x.2.2.2 y.2.2.2 W';clear e1 e2 e3;obtain ⟨r0,q0⟩: ∃r,Hid (yy x.1 y.1=r):=⟨_,rfl⟩;obtain ⟨r1,q1⟩: ∃r,Hid (yy x.2.1 y.2.1=r):=⟨_,rfl⟩;obtain ⟨r2,q2⟩: ∃r,Hid (yy x.2.2.1 y.2.2.1=r):=⟨_,rfl⟩;obtain ⟨r3,q3⟩: ∃r,Hid (yy x.2.2.2 y.2.2.2=r):=⟨_,rfl⟩;rw [q0.out] at h0;rw [q1.out] at h1;rw [q2.out] at h2;rw [q3.out] at h3;refine wp_region_still_tail 20 (by kernel_rfl) (by kernel_rfl) ?_;simp only [List.take_succ_cons,List.take_zero,List.drop_succ_cons,List.drop_zero]
 repeat still_step
 still_call (h0 _)
 repeat still_step
 still_call (h2 _)
 repeat still_step
 still_call (h1 _)
 repeat still_step
 still_call (h3 _)
 refine wpStill_nil ?_;change wpList _ _ _ _ _ w2.drew;obtain ⟨w3,e3⟩: ∃w3,Hid (w3=w2.drew):=⟨_,rfl⟩;rw [<-e3.out];clear c10 c11 c12 c13 c20 c21 c22 c23 h0 h1 h2 h3;have kb:=heap_alloc_new w3 (.cells #[.int .i64 r0,.int .i64 r2,.int .i64 r1,.int .i64 r3] 3);have ho:=HM w3.heap.size (λj=>match j with|0=>r0|1=>r2|2=>r1|_=>r3) (w3.alloc (.cells #[.int .i64 r0,.int .i64 r2,.int .i64 r1,.int .i64 r3] 3)) (λj hj=>by
  rw [Ϯ kb];rcases (show j=0\/j=1\/j=2\/j=3 by omega) with rfl|rfl|rfl|rfl<;>rfl)
 generalize hr:Ot _=r at ho;have hr:Hid (_=r):=hr;clear kb
 go_wp2_with (go_at_call 215;refine ho.mono ?_;rintro e w' ⟨rfl,hw⟩;rw [hw])
 go_ret
 refine ⟨?_,1,#[.cells (e4 x).toArray 80,.cells (e4 y).toArray 80,.cells #[.int .i64 r0,.int .i64 r2,.int .i64 r1,.int .i64 r3] 3],?_⟩;rw [q0.out,q1.out,q2.out,q3.out,hr.out];rfl;rw [e3.out,R1.out,alloc_eq_grow];show acG (acG (W.drewN 1) #[.cells (e4 x).toArray 80,.cells (e4 y).toArray 80]) _=_;rw [grow_grow];rfl
def Tryz.XB:Go.Shelf.Ren:=⟨fun|6=>213|15=>226|14=>225|28=>238|29=>150|20=>230|21=>231|22=>232|23=>233|24=>234|25=>235|26=>236|27=>237|46=>239|47=>240|48=>241|49=>242|50=>243|57=>244|n=>n,fun|22=>24|24=>80|25=>275|3=>3|39=>210|0=>0|53=>218|55=>148|4=>4|46=>304|45=>303|50=>308|5=>5|9=>9|66=>310|70=>314|76=>316|77=>317|n=>n,fun|n=>n⟩
theorem Tryz.TP:agr ν Tryz.XB:={
 mixed:=by kernel_rfl
 f6:=⟨Tryz.f213.name,by decide,Tryz.func213.trans (congrArg some (by kernel_rfl))⟩
 f14:=⟨Tryz.f225.name,by decide,Tryz.func225.trans (congrArg some (by kernel_rfl))⟩
 f15:=Tryz.func226.trans (congrArg some (by kernel_rfl))
 f20:=⟨Tryz.f230.name,by decide,Tryz.func230.trans (congrArg some (by kernel_rfl))⟩
 f21:=⟨Tryz.f231.name,by decide,Tryz.func231.trans (congrArg some (by kernel_rfl))⟩
 f22:=⟨Tryz.f232.name,by decide,Tryz.func232.trans (congrArg some (by kernel_rfl))⟩
 f23:=⟨Tryz.f233.name,by decide,Tryz.func233.trans (congrArg some (by kernel_rfl))⟩
 f24:=⟨Tryz.f234.name,by decide,Tryz.func234.trans (congrArg some (by kernel_rfl))⟩
 f25:=⟨Tryz.f235.name,by decide,Tryz.func235.trans (congrArg some (by kernel_rfl))⟩
 f26:=⟨Tryz.f236.name,by decide,Tryz.func236.trans (congrArg some (by kernel_rfl))⟩
 f27:=⟨Tryz.f237.name,by decide,Tryz.func237.trans (congrArg some (by kernel_rfl))⟩
 f28:=Tryz.func238.trans (congrArg some (by kernel_rfl))
 f29:=Tryz.func150.trans (congrArg some (by kernel_rfl))
 f46:=⟨Tryz.f239.name,by decide,Tryz.func239.trans (congrArg some (by kernel_rfl))⟩
 f47:=Tryz.func240.trans (congrArg some (by kernel_rfl))
 f48:=Tryz.func241.trans (congrArg some (by kernel_rfl))
 f49:=⟨Tryz.f242.name,by decide,Tryz.func242.trans (congrArg some (by kernel_rfl))⟩
 f50:=⟨Tryz.f243.name,by decide,Tryz.func243.trans (congrArg some (by kernel_rfl))⟩
 f57:=⟨Tryz.f244.name,by decide,Tryz.func244.trans (congrArg some (by kernel_rfl))⟩
 t0:=Tryz.underlying0
 a0:=Tryz.isAgg0
 z0:=Tryz.sizeOf0
 v0:=Tryz.zeroValue0
 t3:=Tryz.underlying3
 a3:=Tryz.isAgg3
 z3:=Tryz.sizeOf3
 v3:=Tryz.zeroValue3
 t4:=Tryz.underlying4
 a4:=Tryz.isAgg4
 z4:=Tryz.sizeOf4
 v4:=Tryz.zeroValue4
 t5:=Tryz.underlying5
 a5:=Tryz.isAgg5
 z5:=Tryz.sizeOf5
 v5:=Tryz.zeroValue5
 t9:=Tryz.underlying9
 a9:=Tryz.isAgg9
 z9:=Tryz.sizeOf9
 v9:=Tryz.zeroValue9
 t22:=Tryz.underlying24
 a22:=Tryz.isAgg24
 z22:=Tryz.sizeOf24
 v22:=Tryz.zeroValue24
 t25:=Tryz.underlying275
 a25:=Tryz.isAgg275
 z25:=Tryz.sizeOf275
 v25:=Tryz.zeroValue275
 t39:=Tryz.underlying210
 a39:=Tryz.isAgg210
 z39:=Tryz.sizeOf210
 v39:=Tryz.zeroValue210
 t45:=Tryz.underlying303
 a45:=Tryz.isAgg303
 z45:=Tryz.sizeOf303
 v45:=Tryz.zeroValue303
 t46:=Tryz.underlying304
 a46:=Tryz.isAgg304
 z46:=Tryz.sizeOf304
 v46:=Tryz.zeroValue304
 t50:=Tryz.underlying308
 a50:=Tryz.isAgg308
 z50:=Tryz.sizeOf308
 v50:=Tryz.zeroValue308
 t53:=Tryz.underlying218
 a53:=Tryz.isAgg218
 z53:=Tryz.sizeOf218
 v53:=Tryz.zeroValue218
 t55:=Tryz.underlying148
 a55:=Tryz.isAgg148
 z55:=Tryz.sizeOf148
 v55:=Tryz.zeroValue148
 t66:=Tryz.underlying310
 a66:=Tryz.isAgg310
 z66:=Tryz.sizeOf310
 v66:=Tryz.zeroValue310
 t70:=Tryz.underlying314
 a70:=Tryz.isAgg314
 z70:=Tryz.sizeOf314
 v70:=Tryz.zeroValue314
 t76:=Tryz.underlying316
 a76:=Tryz.isAgg316
 z76:=Tryz.sizeOf316
 v76:=Tryz.zeroValue316
 t77:=Tryz.underlying317
 a77:=Tryz.isAgg317
 z77:=Tryz.sizeOf317
 v77:=Tryz.zeroValue317}
theorem Bx (x y:Int×Int×Int×Int):ltOf Ou x y=decide (x.1<y.1\/x.1=y.1/\(x.2.2.1<y.2.2.1\/x.2.2.1=y.2.2.1/\(x.2.1<y.2.1\/x.2.1=y.2.1/\x.2.2.2<y.2.2.2))):=by
 obtain ⟨a,b,c,d⟩:=x;obtain ⟨j,o,p,I⟩:=y;have key:Ou (a,b,c,d) (j,o,p,I)<0↔(a<j\/a=j/\(c<p\/c=p/\(b<o\/b=o/\d<I))):=by
  unfold Ou Ot yy;simp only;rcases acN a j with h|h|h
  simp [h];subst h;rcases acN c p with h|h|h
  simp [h];subst h;rcases acN b o with h|h|h
  simp [h];subst h;rcases acN d I with h|h|h
  simp [h];simp [h];have: ¬d<I:=by omega
  simp [h,this];have r: ¬b<o:=by omega
  have t: ¬b=o:=by omega
  simp [h,r,t];have r: ¬c<p:=by omega
  have t: ¬c=p:=by omega
  simp [h,r,t];have r: ¬a<j:=by omega
  have t: ¬a=j:=by omega
  simp [h,r,t]
 unfold ltOf;exact decide_eq_decide.2 key
theorem MG:SWO (ltOf Ou) where
 irrefl x:=by rw [Bx];simp
 trans x y z h1 h2:=by rw [Bx,decide_eq_true_eq] at*;omega
 ntrans x y z h1 h2:=by rw [Bx,decide_eq_false_iff_not] at*;omega
noncomputable def Vn (xs:List (Int×Int×Int×Int)):List (Int×Int×Int×Int):=xs.mergeSort λx y=> !(ltOf Ou) y x
noncomputable def slices_SortFunc (xs:List (Int×Int×Int×Int)):Option (List (Int×Int×Int×Int)):=br (xs.length<4611686018427387904) (some (Vn xs))
theorem MH {xs r:List (Int×Int×Int×Int)}(h:slices_SortFunc xs=some r):CallOK ν 213 [.own (.sl (.st (.pair tI (.pair tI (.pair tI tI))))) xs,.fn 214] [] [⟨.sl (.st (.pair tI (.pair tI (.pair tI tI)))),r⟩]:=by
 obtain ⟨j,h⟩:=fF h;have h:=bt h;subst h;refine Mr ⟨_,Tryz.func213,by kernel_rfl,by kernel_rfl⟩ (by unfold Vn;simp) j (λ_ p cap w=>AnyF.slices_SortFunc_none Tryz.TP p cap _ w) λb cap w t I=> ?_;exact AnyQ.slices_SortFunc_total Tryz.TP 4 Tryz.isAgg80 Tryz.sizeOf80 e4 (λ_=>rfl) (λx v o=>by simp [e4] at o;rcases o with rfl|rfl|rfl|rfl<;>rfl) Ou MG 214 #[] b 0 cap xs.toArray w
  (enters_of ahI (by kernel_rfl) rfl) (λ_ _ _ _ x y=>HN x y _) t I (by simpa using j) (λx y J R=>by
   rw [Bx,decide_eq_false_iff_not] at J R;obtain ⟨a,b,c,d⟩:=x;obtain ⟨T,U,c',d'⟩:=y;simp only [Prod.mk.injEq] at*;omega)
end
def nE (a0:GQ)(a1:GQ):Option (Bool):=
 (show Option (Bool) from
  bif (a0.1==a1.1) then
   bif (a0.2.2.1==a1.2.2.1) then
    some (a0.2.1==a1.2.1)
   else
    some false
  else
   some false).bind λj=>
 some j
theorem GF {a0}{a1}{r}(J:nE a0 a1=some r):CallOK ν 218 [.bZ (.st gQ) a0,.bZ (.st gQ) a1] [⟨false,.bool,r⟩] []:=
 dB Tryz.func218 rfl λcx I T=>θ I [] bm (ϰ J (λR=>up [] [(4,bV R)] [] [] 0) (λR J=>by (cases J;exact (Δ (ct bm)))) λ_ j p=>bb j (λo j=>bb j (λt j=>Υ I (nO 5 [kT,oH,oH,oH,oH,oH,oH,kT]) (dp o t) λ_ h=>(bp (h.ht (p _ (bt j))))) λt j=>Υ I (nO 5 [kT,oH,oH,oH,oH,oH,oH,kF]) (dp o t) λ_ h=>(bp (h.ht (p _ (bt j))))) λo j=>Υ I (nO 5 [kF]) (bQ o) λ_ h=>(bp (h.ht (p _ (bt j)))))
def cU (a0:GL)(o:Int)(j:GG):Option (GG⊕((Int×GL))):=
 bif (decide (j.2.1<(((δ (bn a0) - δ o):Nat):Int))) then
  (show Option (Int×GL) from
   br (0<=j.2.1/\j.2.1<(((δ (bn a0) - δ o):Nat):Int)) (
    br ((δ o)+δ j.2.1<ζ j.2.2) (
     br (0<=(bW .i64 j.2.1 1)/\(bW .i64 j.2.1 1)<(((δ (bn a0) - δ o):Nat):Int)) (
      br ((δ o)+δ (bW .i64 j.2.1 1)<ζ j.2.2) (
       (nE ((ε j.2.2 ((δ o)+δ j.2.1) (0,0,0,0)).1,((ε j.2.2 ((δ o)+δ j.2.1) (0,0,0,0)).2).1,(((ε j.2.2 ((δ o)+δ j.2.1) (0,0,0,0)).2).2).1,(((ε j.2.2 ((δ o)+δ j.2.1) (0,0,0,0)).2).2).2) ((ε j.2.2 ((δ o)+δ (bW .i64 j.2.1 1)) (0,0,0,0)).1,((ε j.2.2 ((δ o)+δ (bW .i64 j.2.1 1)) (0,0,0,0)).2).1,(((ε j.2.2 ((δ o)+δ (bW .i64 j.2.1 1)) (0,0,0,0)).2).2).1,(((ε j.2.2 ((δ o)+δ (bW .i64 j.2.1 1)) (0,0,0,0)).2).2).2)).bind λr=>
       bif (!r) then
        br (0<=j.1/\j.1<bn j.2.2) (
         some ((bz .i64 j.1 1),(aaj j.2.2 (δ j.1) ((ε j.2.2 ((δ o)+δ j.2.1) (0,0,0,0)).1,((ε j.2.2 ((δ o)+δ j.2.1) (0,0,0,0)).2).1,(((ε j.2.2 ((δ o)+δ j.2.1) (0,0,0,0)).2).2).1,(((ε j.2.2 ((δ o)+δ j.2.1) (0,0,0,0)).2).2).2))))
       else
        some (j.1,j.2.2)))))).bind λp=>
  some (.inl (p.1,(bz .i64 j.2.1 1),p.2))
 else
  some (.inr (j.1,j.2.2))
def cV (a0:GL)(o:Int):Option ((Int)⊕(Unit⊕GL)):=
 bif (decide (o<(bn a0))) then
  br (0<=o/\o<bn a0) (
   br (0<=(bW .i64 o 1)/\(bW .i64 o 1)<bn a0) (
    (nE ((ε a0 (δ o) (0,0,0,0)).1,((ε a0 (δ o) (0,0,0,0)).2).1,(((ε a0 (δ o) (0,0,0,0)).2).2).1,(((ε a0 (δ o) (0,0,0,0)).2).2).2) ((ε a0 (δ (bW .i64 o 1)) (0,0,0,0)).1,((ε a0 (δ (bW .i64 o 1)) (0,0,0,0)).2).1,(((ε a0 (δ (bW .i64 o 1)) (0,0,0,0)).2).2).1,(((ε a0 (δ (bW .i64 o 1)) (0,0,0,0)).2).2).2)).bind λr=>
    bif r then
     br (0<=o/\o<=bn a0) (
      (rounds (cU a0 o) (o,1,a0)).bind λj=>
      br (0<=j.1/\j.1<=bn j.2) (
       (some (ϛ (δ j.1) j.2++υ (δ (bn j.2) - δ j.1) (0,0,0,0)++aaY ((δ j.1)+(δ (bn j.2) - δ j.1)) j.2)).bind λp=>
       br (0<=j.1/\j.1<=bn p) (
        some (.inr (.inr (ϛ (δ j.1) p))))))
    else
     some (.inl (bz .i64 o 1))))
 else
  some (.inr (.inl ()))
def b9 (a0:GL):Option (GL):=
 bif (decide ((bn a0)<2)) then
  some a0
 else
  (rounds (cV a0) 1).bind λj=>match j with
   | .inl p=>
    some a0
   | .inr o=>
    some o
set_option maxRecDepth 100000 in
theorem oy {a0}{r}(J:b9 a0=some r):CallOK ν 217 [.mv gA a0,.fn 218] [⟨true,gA,r⟩] []:=
 Tz Tryz.func217 rfl λcx t=>θ t [] bm (φ (θ t [] bm (Φ J (λax J=>θ t [] bm (by (cases J;exact (Δ (bF (ct bm)))))) λax J=>Θ (bp (φ (θ t [] bm (ο (ϧ t J (λs2=>up [0,1] [(5,iV s2)] [0] [] 0) (λr3=>match r3 with| .inl r4=>(.exit 0,up [0] [] [0] [] 0)| .inr r5=>(.ret,up [] [(4,aV 0)] [] [(0,.seq (.st gQ) r5)] 0)) (λr3=>match r3 with| .inl r4=>λJ=>(bE (bp (θ t [] bm (by (cases J;exact (Δ (ct bm)))))))| .inr r5=>λJ=>by (cases J;exact (bT (bF (ct bm))))) λs2 x6 p ak=>φ (θ t [] bm (Φ p (λQi p=>Θ (bp (φ (ο (bg p λU p=>bg p λaa p=>bc p GF λyu ab p=>abA t (nO 10 [(cl ab)]) (lF U (bS U) aa (bS aa) (bQ ab)) (Φ p (λal p=>bg p λan p=>θ t [] (bQ (PO an)) (φ (θ t [] bm (ο (ϧ t p (λR=>up [0,1,6] [(5,iV R.1),(7,iV R.2.1)] [] [(0,.seq (.st gQ) R.2.2)] 0) (λj=>(.exit 2,up [0] [(5,iV j.1)] [] [(0,.seq (.st gQ) j.2)] 0)) (λj p=>(bE (bp (bg p λao p=>HT.ex ⟨[(0,aV 0),(5,iV j.1)],[(0,.seq (.st gQ) j.2)],1⟩ t (by (refine φ (HT.rg (RG.cut 3 [oH,oH,oH] ⟨[(61,.one (.ref 0 (δ j.1) (δ (bn j.2) - δ j.1))),(60,iV j.1),(59,aV 0),(0,aV 0),(5,iV j.1)],[(0,.seq (.st gQ) j.2)],1⟩ t.P t.N (by kernel_rfl) (gH (PO ao) bm) (RG.clear (T:=24) (el:=80) (z0:=(0,0,0,0)) t rfl ⟨rfl,rfl,rfl⟩ rfl rfl (by kernel_rfl) (by kernel_rfl) rfl rfl rfl (RG.j4 [0,5] [] ⟨[(0,aV 0),(5,iV j.1)],[(0,.seq (.st gQ) (ϛ (δ j.1) j.2++υ (δ (bn j.2) - δ j.1) (0,0,0,0)++aaY ((δ j.1)+(δ (bn j.2) - δ j.1)) j.2)),(0,.seq (.st gQ) j.2)],1⟩ t.P t.N (by kernel_rfl) bm ?_))));exact (bq p λp=>bg p λad p=>θ t [] (bQ (JI ad)) ((Le.cv (s:=⟨[(0,0)],[],[0],false⟩) (own:=[]) (ps:=[0=0,ζ (ϛ (δ j.1) (ϛ (δ j.1) j.2++υ (δ (bn j.2) - δ j.1) (0,0,0,0)++aaY ((δ j.1)+(δ (bn j.2) - δ j.1)) j.2))=δ j.1,(ϛ (δ j.1) (ϛ (δ j.1) j.2++υ (δ (bn j.2) - δ j.1) (0,0,0,0)++aaY ((δ j.1)+(δ (bn j.2) - δ j.1)) j.2))=ϛ (ζ (ϛ (δ j.1) (ϛ (δ j.1) j.2++υ (δ (bn j.2) - δ j.1) (0,0,0,0)++aaY ((δ j.1)+(δ (bn j.2) - δ j.1)) j.2))) (ϛ (δ j.1) j.2++υ (δ (bn j.2) - δ j.1) (0,0,0,0)++aaY ((δ j.1)+(δ (bn j.2) - δ j.1)) j.2)]) (st':=⟨[(4,aV 0)],[(0,.seq (.st gQ) (ϛ (δ j.1) (ϛ (δ j.1) j.2++υ (δ (bn j.2) - δ j.1) (0,0,0,0)++aaY ((δ j.1)+(δ (bn j.2) - δ j.1)) j.2)))],1⟩) t.own (λh=>by cases h) (by kernel_rfl) ⟨rfl,(EP ad),(ES _ _),trivial⟩).ht (Δ (bT (bF (fp (ak _ (bw p)))))))))))))) λR x23 I aq=>φ (θ t [] bm (Φ I (λar I=>Θ (bp (ϰ I (λaj=>up [0,1,6,7] [(5,iV aj.1)] [] [(0,.seq (.st gQ) aj.2)] 0) (λaj I=>Υ t [] bm λ_ h=>(bM (lN I h))) λ_ o ae=>ο (bg o λaf o=>bg o λag o=>bg o λau o=>bg o λav o=>bc o GF λXC ah o=>abA t (nO 10 [(cl ah)]) (lF af ag au av (bQ ah)) (Φ o (λaw o=>bg o λai o=>θ t [] (nZ af ag ai (bS ai)) (Υ t [] bm λ_ h=>(bB (bp (h.ht (ae _ (bt o))))))) λaw o=>Θ (bB (bp (abi t (ae _ (bt o)))))))))) λar I=>Ϩ t (bL (bN (aq _ (bw I))))))))))) λal p=>Θ (bB (bp (Υ t [] bm λ_ h=>(bM (lN p h))))))))))) λQi p=>Ϩ t (bL (bN (ak _ (bw p))))))))))))))
def sL (a0:GL):Option (GL):=
 (slices_Clone a0).bind λj=>
 (slices_SortFunc j).bind λo=>
 (b9 o).bind λp=>
 some p
theorem MI {a0}{r}(j:sL a0=some r):CallOK ν 186 [.bZ gA a0] [⟨true,gA,r⟩] []:=
 dB Tryz.func186 rfl λcx I J=>θ I [] bm (bc j E5 λR o j=>θ I [oH,(cl o)] (bQ o) (bc j MH λT p j=>θ I [oH,(cl p)] (bQ p) (bc j oy λU t j=>θ I [oH,(cl t)] (bQ t) (by (cases j;exact (Δ (ct bm)))))))
def lb (a0:GM):Option (GM×Bool):=
 (cy (a0.1,a0.2.1,a0.2.2.1,a0.2.2.2.1,a0.2.2.2.2)).bind λj=>
 bif (!j) then
  some ((0,0,([]:GL),([]:GI),([]:GI)),false)
 else
  (sL a0.2.2.1).bind λo=>
  (slices_Clone a0.2.2.2.1).bind λp=>
  (slices_Clone a0.2.2.2.2).bind λr=>
  some ((a0.1,a0.2.1,o,p,r),true)
theorem By {a0}{r}(j:lb a0=some r):CallOK ν 156 [.bZ (.st gM) a0] [⟨true,(.st gM),r.1⟩,⟨false,.bool,r.2⟩] []:=
 dB Tryz.func156 rfl λcx J T=>θ J [] bm (φ (bc j oY λU o j=>θ J [oH,(cl o)] (bQ o) (Φ j (λR j=>θ J [] bm (by (cases j;exact (Δ (bF (ct bm)))))) λR j=>Θ (bp (bc j MI λy4 p j=>bc j lK λy6 t j=>bc j lK λy8 I j=>abA J (nO 6 [(cl p),oH,oH,(cl t),oH,oH,(cl I)]) (ll p t I) (by (cases j;exact (Δ (ct bm)))))))))
def kD (a0:GM)(a2:Bool)(j:Int×GZ):Option ((Int×GZ)⊕GZ):=
 bif (decide (j.1<(bn a0.2.2.1))) then
  (show Option GZ from
   br (0<=j.1/\j.1<bn a0.2.2.1) (
    (some ((((ε a0.2.2.1 (δ j.1) (0,0,0,0)).2).2).1)).bind λp=>
    (some ((((ε a0.2.2.1 (δ j.1) (0,0,0,0)).2).2).2)).bind λr=>
    (show Option (Int×Int) from
     bif a2 then
      some (((ε a0.2.2.1 (δ j.1) (0,0,0,0)).2).1,(ε a0.2.2.1 (δ j.1) (0,0,0,0)).1)
     else
      some ((ε a0.2.2.1 (δ j.1) (0,0,0,0)).1,((ε a0.2.2.1 (δ j.1) (0,0,0,0)).2).1)).bind λo=>
    br (0<=o.2/\o.2<bn j.2) (
     bif (ε j.2 (δ o.2) false) then
      some (aaj j.2 (δ o.2) true)
     else
      br (0<=o.1/\o.1<bn j.2) (
       some (aaj j.2 (δ o.2) (ε j.2 (δ o.1) false)))))).bind λv20=>
  some (.inl ((bz .i64 j.1 1),v20))
 else
  some (.inr j.2)
def nR (a0:GM)(a2:Bool)(p:GZ)(j:Int×GZ):Option ((Int×GZ)⊕GZ):=
 bif (decide (j.1<(bn p))) then
  (rounds (kD a0 a2) (0,j.2)).bind λo=>
  some (.inl ((bz .i64 j.1 1),o))
 else
  some (.inr j.2)
def nS (a1:GI)(j:Int×GZ):Option ((Int×GZ)⊕GZ):=
 bif (decide (j.1<(bn a1))) then
  br (0<=j.1/\j.1<bn a1) (
   br (0<=j.1/\j.1<bn j.2) (
    some (.inl ((bz .i64 j.1 1),(aaj j.2 (δ j.1) (decide ((ε a1 (δ j.1) 0)>=0)))))))
 else
  some (.inr j.2)
def lL (a0:GM)(a1:GI)(a2:Bool):Option GZ:=
 br (0<=a0.1/\a0.1<=4294967296) (
  (rounds (nS a1) (0,(υ (δ a0.1) false))).bind λj=>
  (rounds (nR a0 a2 j) (0,j)).bind λo=>
  some o)
theorem GH {a0}{a1}{a2}{r}(hr:lL a0 a1 a2=some r):CallOK ν 187 [.bZ (.st gM) a0,.bZ cC a1,.bZ .bool a2] [⟨true,(.sl .bool),r⟩] []:=
 dB Tryz.func187 rfl λcx p hF=>θ p [] bm (bg hr λEr hr=>θ p [oH,oH,(hT .bool)] (bQ (Mj Er)) (φ (θ p [] bm (ο (ϧ p hr (λs2=>up [2,3,7,15,16] [(17,iV s2.1)] [0] [(1,.seq .bool s2.2)] 0) (λr4=>(.exit 0,up [2,3,7] [] [0] [(1,.seq .bool r4)] 0)) (λr4 hr=>(bE (bp (φ (θ p [] bm (ο (ϧ p hr (λs5=>up [2,3,7,29] [(30,iV s5.1)] [0] [(1,.seq .bool s5.2)] 0) (λr7=>(.exit 2,up [7] [] [] [(1,.seq .bool r7)] 0)) (λr7 hr=>(bE (bp (θ p [] bm (by (cases hr;exact (Δ (ct bm)))))))) λs5 x8 R Bz=>θ p [] bm (Ϻ R (λE8 R=>φ (ο (θ p [] bm (ο (ϧ p R (λT=>up [2,3,7,29,30,33,34] [(35,iV T.1)] [0] [(1,.seq .bool T.2)] 0) (λOv=>(.exit 4,up [2,3,7,29,30] [] [0] [(1,.seq .bool Ov)] 0)) (λOv R=>(bE (bB (bp (Υ p [] bm λ_ h=>(bM (lN R h))))))) λT x15 I JX=>θ p [] bm (Ϻ I (λJY I=>ϰ I (λv20=>up [2,3,7,29,30,33,34,35] [] [0] [(1,.seq .bool v20)] 0) (λv20 I=>Υ p [] bm λ_ h=>(bM (lN I h))) λ_ j aa=>ο (bg j λXD j=>θ p [] (bQ XD) (bq j λj=>bq j λj=>ϰ j (λMJ=>up [2,3,7,11,29,30,33,34,35] [] [0,1] [(2,.box [iC MJ.1,iC MJ.2,iC ((((ε a0.2.2.1 (δ T.1) (0,0,0,0)).2).2).1),iC ((((ε a0.2.2.1 (δ T.1) (0,0,0,0)).2).2).2)])] 0) (λMJ j=>bg j λt j=>bb j (λU j=>adQ p (nO 8 [kT]) (lF t (bS t) U t (bQ (bS t))) λ_ h=>(bB (bp (h.ht (aa _ (bt j)))))) λU j=>bg j λab j=>adQ p (nO 8 [kF]) (lF t (bS t) U ab (ll (bS ab) t (bS t))) λ_ h=>(bB (bp (h.ht (aa _ (bt j)))))) λ_ J ad=>θ p [] bm (Φ J (λQj J=>Υ p [] bm λ_ h=>(bp (h.ht (ad _ (bt J))))) λQj J=>Θ (bp (abi p (ad _ (bt J)))))))) λJY I=>Ϩ p (bL (bN (JX _ (bw I)))))))))) λE8 R=>Ϩ p (bL (bN (Bz _ (bw R)))))))))))) λs2 XE o JZ=>θ p [] bm (Ϻ o (λBw o=>φ (ο (bg o λHO o=>θ p [] (bQ HO) (bg o λae o=>HT.l p [] (dp ae (bS ae)) (bB (bp (Υ p [] bm λ_ h=>(bM (lN o h))))))))) λBw o=>Ϩ p (bL (bN (JZ _ (bw o))))))))))
def nT (a0:Int)(a1:Int):Option (Int×Int):=
 (some (Ρ .u64 (Ϙ (Ϗ .u64) a0&&& Ϙ (Ϗ .u64) 4294967295).toNat)).bind λq1=>
 (some (Ρ .u64 (Ϙ (Ϗ .u64) a1&&& Ϙ (Ϗ .u64) 4294967295).toNat)).bind λo=>
 (some (bz .u64 (dX .u64 (adl a0 (2^(min (δ 32) (Ϗ .u64)))) o) (adl (dX .u64 q1 o) (2^(min (δ 32) (Ϗ .u64)))))).bind λp=>
 (some (Ρ .u64 (Ϙ (Ϗ .u64) p&&& Ϙ (Ϗ .u64) 4294967295).toNat)).bind λr=>
 (some (bz .u64 r (dX .u64 q1 (adl a1 (2^(min (δ 32) (Ϗ .u64))))))).bind λt=>
 (some (bz .u64 (bz .u64 (dX .u64 (adl a0 (2^(min (δ 32) (Ϗ .u64)))) (adl a1 (2^(min (δ 32) (Ϗ .u64))))) (adl p (2^(min (δ 32) (Ϗ .u64))))) (adl t (2^(min (δ 32) (Ϗ .u64)))))).bind λj=>
 some (j,(dX .u64 a0 a1))
theorem MK {a0}{a1}{r}(j:nT a0 a1=some r):CallOK ν 205 [.bZ (.int .u64) a0,.bZ (.int .u64) a1] [⟨false,(.int .u64),r.1⟩,⟨false,(.int .u64),r.2⟩] []:=
 dB Tryz.func205 rfl λcx o p=>θ o [] bm (θ o [] bm (bq j λj=>θ o [] (bQ (show (0:Int)<=32 from by decide)) (θ o [] bm (bq j λj=>θ o [] (bQ (show (0:Int)<=32 from by decide)) (θ o [] bm (θ o [] (bQ (show (0:Int)<=32 from by decide)) (bq j λj=>θ o [] bm (bq j λj=>θ o [] (bQ (show (0:Int)<=32 from by decide)) (θ o [] bm (bq j λj=>θ o [] (bQ (show (0:Int)<=32 from by decide)) (bq j λj=>θ o [] bm (by (cases j;exact (Δ (ct bm)))))))))))))))
def ko (a0:Int)(a1:Int):Option (Int×Int):=
 (nT a0 a1).bind λj=>
 some (j.1,j.2)
theorem ML {a0}{a1}{r}(o:ko a0 a1=some r):CallOK ν 173 [.bZ (.int .u64) a0,.bZ (.int .u64) a1] [⟨false,(.int .u64),r.1⟩,⟨false,(.int .u64),r.2⟩] []:=
 dB Tryz.func173 rfl λcx p t=>θ p [] bm (φ (HT.c0 (rfl:false=false) (Θ (bp (bc o MK λI j o=>θ p [oH,oH,(cl j)] (bQ j) (θ p [] bm (by (cases o;exact (Δ (ct bm))))))))))
def eE (j:Int×GI):Option ((Int×GI)⊕GI):=
 bif (decide (j.1<(bn j.2))) then
  br (0<=j.1/\j.1<=bn j.2) (
   some (.inl ((bz .i64 j.1 ((abh (ζ (ϛ (δ j.1) (aaY 0 j.2))) (δ (bn j.2) - δ j.1):Nat):Int)),(ϛ (δ j.1) j.2++ϛ (abh (ζ (ϛ (δ j.1) (aaY 0 j.2))) (δ (bn j.2) - δ j.1)) (ϛ (δ j.1) (aaY 0 j.2))++aaY ((δ j.1)+abh (ζ (ϛ (δ j.1) (aaY 0 j.2))) (δ (bn j.2) - δ j.1)) j.2))))
 else
  some (.inr j.2)
def cq (a0:GI)(a1:Int):Option GI:=
 bif (decide (a1<0)) then
  none
 else
  (ko (Ρ .u64 (bn a0)) (Ρ .u64 a1)).bind λj=>
  (show Option (Bool) from
   bif (decide (j.1>0)) then
    some true
   else
    some (decide (j.2>9223372036854775807))).bind λt=>
  bif t then
   none
  else
   br (0<=(Ρ .i64 j.2)/\(Ρ .i64 j.2)<=4294967296) (
    (some ((abh (ζ a0) (ζ (υ (δ (Ρ .i64 j.2)) (0:Int))):Nat):Int)).bind λo=>
    (some (ϛ 0 (υ (δ (Ρ .i64 j.2)) (0:Int))++ϛ (abh (ζ a0) (ζ (υ (δ (Ρ .i64 j.2)) (0:Int)))) a0++aaY (0+abh (ζ a0) (ζ (υ (δ (Ρ .i64 j.2)) (0:Int)))) (υ (δ (Ρ .i64 j.2)) (0:Int)))).bind λp=>
    (rounds (eE) (o,p)).bind λr=>
    some r)
theorem wZ {a0}{a1}{r}(o:cq a0 a1=some r):CallOK ν 140 [.bZ cC a0,.bZ tI a1] [⟨true,cC,r⟩] []:=
 dB Tryz.func140 rfl λcx p hF=>θ p [] bm (φ (θ p [] bm (Φ o (λae o=>nn o) λae o=>Θ (bp (bc o ML λy2 T o=>θ p (nO 5 [(cl T)]) (bQ T) (φ (ϰ o (λv5=>up [0,6] [(26,bV v5)] [] [] 0) (λv5 o=>Φ o (λaf o=>nn o) λaf o=>Θ (bp (bg o λag o=>θ p [oH,oH,(hT tI)] (bQ (Mj ag)) (θ p [] bm (bq o λo=>bq o λo=>φ (ο (ϧ p o (λR=>up [7] [(8,iV R.1)] [] [(0,.seq tI R.2)] 0) (λU=>(.exit 0,up [7] [] [] [(0,.seq tI U)] 0)) (λU o=>(bE (bp (θ p [] bm (by (cases o;exact (Δ (ct bm)))))))) λR Zz j aa=>φ (θ p [] bm (Φ j (λab j=>Θ (bp (ο (bg j λJ j=>adQ p [] (dp (PO J) (JI J)) λ_ h=>(bB (bM (lN j h))))))) λab j=>Ϩ p (bL (bN (aa _ (bw j))))))))))))) λ_ t ad=>bb t (λI t=>Υ p [oH,oH,kT] (bQ I) λ_ h=>(bp (h.ht (ad _ (bt t))))) λI t=>Υ p [oH,oH,kF] (bQ I) λ_ h=>(bp (h.ht (ad _ (bt t)))))))))))
def lf (a0:Int):Option GI:=
 (cq ([(-1)]:GI) a0).bind λj=>
 some j
theorem w8 {a0}{r}(o:lf a0=some r):CallOK ν 105 [.bZ tI a0] [⟨true,cC,r⟩] []:=
 dB Tryz.func105 rfl λcx p t=>θ p [] bm (bc o wZ λI j o=>θ p [(hT tI),oH,(cl j)] (bQ j) (by (cases o;exact (Δ (ct bm)))))
def oZ (a0:GM)(o:GI×Int×GI×GI)(j:Int×GL):Option ((Int×GL)⊕(GL)):=
 bif (decide (j.1<(bn a0.2.2.1))) then
  (show Option (GL) from
   br (0<=j.1/\j.1<bn a0.2.2.1) (
    (some ((((ε a0.2.2.1 (δ j.1) (0,0,0,0)).2).2).1)).bind λp=>
    (some ((((ε a0.2.2.1 (δ j.1) (0,0,0,0)).2).2).2)).bind λr=>
    (show Option (Bool) from
     br (0<=(ε a0.2.2.1 (δ j.1) (0,0,0,0)).1/\(ε a0.2.2.1 (δ j.1) (0,0,0,0)).1<bn o.1) (
      bif (decide ((ε o.1 (δ ((ε a0.2.2.1 (δ j.1) (0,0,0,0)).1)) 0)>=0)) then
       br (0<=((ε a0.2.2.1 (δ j.1) (0,0,0,0)).2).1/\((ε a0.2.2.1 (δ j.1) (0,0,0,0)).2).1<bn o.1) (
        some (decide ((ε o.1 (δ (((ε a0.2.2.1 (δ j.1) (0,0,0,0)).2).1)) 0)>=0)))
      else
       some false)).bind λt=>
    bif t then
     br (0<=(ε a0.2.2.1 (δ j.1) (0,0,0,0)).1/\(ε a0.2.2.1 (δ j.1) (0,0,0,0)).1<bn o.1) (
      br (0<=((ε a0.2.2.1 (δ j.1) (0,0,0,0)).2).1/\((ε a0.2.2.1 (δ j.1) (0,0,0,0)).2).1<bn o.1) (
       br (ζ j.2+ζ ([((ε o.1 (δ ((ε a0.2.2.1 (δ j.1) (0,0,0,0)).1)) 0),(ε o.1 (δ (((ε a0.2.2.1 (δ j.1) (0,0,0,0)).2).1)) 0),p,r)]:GL)<=bD) (
        some (j.2++([((ε o.1 (δ ((ε a0.2.2.1 (δ j.1) (0,0,0,0)).1)) 0),(ε o.1 (δ (((ε a0.2.2.1 (δ j.1) (0,0,0,0)).2).1)) 0),p,r)]:GL)))))
    else
     some j.2)).bind λI=>
  some (.inl ((bz .i64 j.1 1),I))
 else
  some (.inr j.2)
def o6 (a0:GM)(r:GZ)(t:GZ)(I:GI)(j:Int×GI×Int×GI×GI):Option ((Int×GI×Int×GI×GI)⊕((GI×Int×GI×GI))):=
 bif (decide (j.1<(bn I))) then
  (show Option (GI×Int×GI×GI) from
   (show Option (Bool) from
    br (0<=j.1/\j.1<bn r) (
     bif (ε r (δ j.1) false) then
      br (0<=j.1/\j.1<bn t) (
       some (ε t (δ j.1) false))
     else
      some false)).bind λp=>
   bif p then
    br (0<=j.1/\j.1<bn j.2.1) (
     br (0<=j.1/\j.1<bn a0.2.2.2.1) (
      br (ζ j.2.2.2.1+ζ ([(ε a0.2.2.2.1 (δ j.1) 0)]:GI)<=bD) (
       br (0<=j.1/\j.1<bn a0.2.2.2.2) (
        br (ζ j.2.2.2.2+ζ ([(ε a0.2.2.2.2 (δ j.1) 0)]:GI)<=bD) (
         some ((aaj j.2.1 (δ j.1) j.2.2.1),(bz .i64 j.2.2.1 1),(j.2.2.2.1++([(ε a0.2.2.2.1 (δ j.1) 0)]:GI)),(j.2.2.2.2++([(ε a0.2.2.2.2 (δ j.1) 0)]:GI))))))))
   else
    some (j.2.1,j.2.2.1,j.2.2.2.1,j.2.2.2.2)).bind λo=>
  some (.inl ((bz .i64 j.1 1),o.1,o.2.1,o.2.2.1,o.2.2.2))
 else
  some (.inr (j.2.1,j.2.2.1,j.2.2.2.1,j.2.2.2.2))
def pD (a0:GM):Option (GM×Bool):=
 (cy (a0.1,a0.2.1,a0.2.2.1,a0.2.2.2.1,a0.2.2.2.2)).bind λt=>
 bif (!t) then
  some ((0,0,([]:GL),([]:GI),([]:GI)),false)
 else
  (lL (a0.1,a0.2.1,a0.2.2.1,a0.2.2.2.1,a0.2.2.2.2) a0.2.2.2.1 false).bind λI=>
  (lL (a0.1,a0.2.1,a0.2.2.1,a0.2.2.2.1,a0.2.2.2.2) a0.2.2.2.2 true).bind λJ=>
  (lf a0.1).bind λr=>
  (rounds (o6 a0 I J r) (0,r,0,([]:GI),([]:GI))).bind λo=>
  (rounds (oZ a0 o) (0,([]:GL))).bind λp=>
  (lb (o.2.1,a0.2.1,p,o.2.2.1,o.2.2.2)).bind λj=>
  some ((j.1.1,j.1.2.1,j.1.2.2.1,j.1.2.2.2.1,j.1.2.2.2.2),j.2)
theorem MN {a0}{r}(T:pD a0=some r):CallOK ν 157 [.bZ (.st gM) a0] [⟨true,(.st gM),r.1⟩,⟨false,.bool,r.2⟩] []:=
 dB Tryz.func157 rfl λcx p hF=>θ p [] bm (φ (bc T oY λy1 aw T=>θ p [oH,(cl aw)] (bQ aw) (Φ T (λaQ T=>θ p [] bm (by (cases T;exact (Δ (bF (ct bm)))))) λaQ T=>Θ (bp (bc T GH λy4 ax T=>bc T GH λy6 ay T=>abA p [oH,oH,oH,(cl ax),oH,oH,oH,(cl ay)] (dp ax ay) (bc T w8 λy8 az T=>θ p [oH,oH,(cl az)] (bQ az) (θ p [] bm (φ (θ p [] bm (ο (ϧ p T (λad=>up [1,2,4,5,6,7,30] [(31,iV ad.1)] [0,1,2,3] [(4,.seq tI ad.2.1),(5,.box [iC ad.2.2.1,iC a0.2.1,.bH,.all 10,.all 11]),(10,.seq tI ad.2.2.2.1),(11,.seq tI ad.2.2.2.2)] 6) (λU=>(.exit 0,up [1,2,6,7] [] [0,1] [(4,.seq tI U.1),(5,.box [iC U.2.1,iC a0.2.1,.bH,.all 10,.all 11]),(10,.seq tI U.2.2.1),(11,.seq tI U.2.2.2)] 6)) (λU T=>(bE (bp (φ (θ p [] bm (ο (ϧ p T (λav=>up [2,6,7,75,76] [(77,iV av.1)] [1,4,10,11] [(5,.box [iC U.2.1,iC a0.2.1,.all 15,.all 10,.all 11]),(15,.seq (.st gQ) av.2)] 4) (λaA=>(.exit 2,up [2,7] [] [1,10,11] [(5,.box [iC U.2.1,iC a0.2.1,.all 15,.all 10,.all 11]),(15,.seq (.st gQ) aA)] 4)) (λaA T=>(bE (bp (bc T By λaR ah T=>θ p [oH,(cl ah)] (bQ ah) (by (cases T;exact (Δ (ct bm)))))))) λav aS J aB=>θ p [] bm (Ϻ J (λaC J=>ϰ J (λaD=>up [2,6,7,75,76,77] [] [1,4,10,11] [(5,.box [iC U.2.1,iC a0.2.1,.all 18,.all 10,.all 11]),(18,.seq (.st gQ) aD)] 3) (λaD J=>Υ p [] bm λ_ h=>(bM (lN J h))) λ_ j ai=>ο (bg j λaE j=>θ p [] (bQ aE) (bq j λj=>bq j λj=>ϰ j (λaF=>up [2,6,7,10,75,76,77] [(94,bV aF)] [1,4,5,16,15,10,11] [] 0) (λaF j=>Φ j (λaG j=>bg j λaj j=>bg j λak j=>bg j λaH j=>adQ p (nO 17 [(hT (.st gQ)),(hT (.st gQ))]) (lF aj (bS aj) ak (bS ak) (bQ aH)) λ_ h=>(bB (bp (h.ht (ai _ (bt j)))))) λaG j=>Θ (bB (bp (abi p (ai _ (bt j)))))) λ_ t al=>bg t λaa t=>bb t (λae t=>bg t λan t=>Υ p (nO 6 [kT]) (lF aa (bS aa) ae an (bQ (bS an))) λ_ h=>(bp (h.ht (al _ (bt t))))) λae t=>Υ p (nO 6 [kF]) (ll aa (bS aa) ae) λ_ h=>(bp (h.ht (al _ (bt t))))))) λaC J=>Ϩ p (bL (bN (aB _ (bw J)))))))))))) λad aT R aI=>θ p [] bm (Ϻ R (λaJ R=>ϰ R (λaf=>up [1,2,4,5,6,7,30,31] [] [0,1,2,3] [(4,.seq tI af.1),(5,.box [iC af.2.1,iC a0.2.1,.bH,.all 13,.all 15]),(13,.seq tI af.2.2.1),(15,.seq tI af.2.2.2)] 4) (λaf R=>Υ p [] bm λ_ h=>(bM (lN R h))) λ_ o ao=>ο (θ p [] bm (ϰ o (λaK=>up [1,2,4,5,6,7,8,30,31] [(43,bV aK)] [0,1,2,3,4,5,10,11] [] 0) (λaK o=>Φ o (λaL o=>bg o λaq o=>θ p [] (dp aq (bS aq)) (θ p [] bm (bg o λaM o=>bg o λaN o=>abA p (nO 7 [(hT tI),(hT tI)]) (dp aM aN) (bg o λaO o=>bg o λaP o=>adQ p (nO 7 [(hT tI),(hT tI)]) (dp aO aP) λ_ h=>(bB (bp (h.ht (ao _ (bt o))))))))) λaL o=>Θ (bB (bp (abi p (ao _ (bt o)))))) λ_ I ar=>bg I λab I=>bb I (λag I=>bg I λau I=>Υ p (nO 4 [kT]) (lF ab (bS ab) ag au (bQ (bS au))) λ_ h=>(bp (h.ht (ar _ (bt I))))) λag I=>Υ p (nO 4 [kF]) (ll ab (bS ab) ag) λ_ h=>(bp (h.ht (ar _ (bt I))))))) λaJ R=>Ϩ p (bL (bN (aI _ (bw R))))))))))))))))
def iT (o:GI)(j:Int×GI):Option ((Int×GI)⊕GI):=
 bif (decide (j.1<(bn o))) then
  (show Option GI from
   br (0<=j.1/\j.1<bn j.2) (
    bif (decide ((ε j.2 (δ j.1) 0)<0)) then
     some (aaj j.2 (δ j.1) 1099511627776)
    else
     some j.2)).bind λv11=>
  some (.inl ((bz .i64 j.1 1),v11))
 else
  some (.inr j.2)
def ft (a0:GI):Option GI:=
 (slices_Clone a0).bind λj=>
 (rounds (iT j) (0,j)).bind λo=>
 some o
theorem uM {a0}{r}(J:ft a0=some r):CallOK ν 102 [.bZ cC a0] [⟨true,cC,r⟩] []:=
 dB Tryz.func102 rfl λcx t hF=>θ t [] bm (bc J lK λy1 R J=>θ t [oH,(cl R)] (bQ R) (φ (θ t [] bm (ο (ϧ t J (λU=>up [3,8,9] [(10,iV U.1)] [] [(0,.seq tI U.2)] 0) (λr5=>(.exit 0,up [3] [] [] [(0,.seq tI r5)] 0)) (λr5 J=>(bE (bp (θ t [] bm (by (cases J;exact (Δ (ct bm)))))))) λU x6 o aa=>θ t [] bm (Ϻ o (λab o=>ϰ o (λv11=>up [3,8,9,10] [] [] [(0,.seq tI v11)] 0) (λv11 o=>Υ t [] bm λ_ h=>(bM (lN o h))) λ_ j I=>ο (bg j λp j=>θ t [] (dp p (bS p)) (θ t [] bm (Φ j (λT j=>Υ t [] (dp p (bS p)) λ_ h=>(bB (bp (h.ht (I _ (bt j)))))) λT j=>Θ (bB (bp (abi t (I _ (bt j))))))))) λab o=>Ϩ t (bL (bN (aa _ (bw o))))))))))
def kp (a0:GM)(j:Int×GI):Option ((Int×GI)⊕GI):=
 bif (decide (j.1<(bn a0.2.2.1))) then
  (show Option GI from
   br (0<=j.1/\j.1<bn a0.2.2.1) (
    (some ((((ε a0.2.2.1 (δ j.1) (0,0,0,0)).2).2).1)).bind λp=>
    (some ((((ε a0.2.2.1 (δ j.1) (0,0,0,0)).2).2).2)).bind λo=>
    bif (decide (p<0)) then
     br (0<=((ε a0.2.2.1 (δ j.1) (0,0,0,0)).2).1/\((ε a0.2.2.1 (δ j.1) (0,0,0,0)).2).1<bn j.2) (
      br (0<=(ε a0.2.2.1 (δ j.1) (0,0,0,0)).1/\(ε a0.2.2.1 (δ j.1) (0,0,0,0)).1<bn j.2) (
       some (aaj j.2 (δ (((ε a0.2.2.1 (δ j.1) (0,0,0,0)).2).1)) (if (bz .i64 (ε j.2 (δ ((ε a0.2.2.1 (δ j.1) (0,0,0,0)).1)) 0) o)<(ε j.2 (δ (((ε a0.2.2.1 (δ j.1) (0,0,0,0)).2).1)) 0) then (bz .i64 (ε j.2 (δ ((ε a0.2.2.1 (δ j.1) (0,0,0,0)).1)) 0) o) else (ε j.2 (δ (((ε a0.2.2.1 (δ j.1) (0,0,0,0)).2).1)) 0)))))
    else
     some j.2)).bind λr=>
  some (.inl ((bz .i64 j.1 1),r))
 else
  some (.inr j.2)
def kq (a0:GM)(a1:GI)(s1:Int×GI):Option ((Int×GI)⊕GI):=
 bif (decide (s1.1<(bn a1))) then
  (rounds (kp a0) (0,s1.2)).bind λj=>
  some (.inl ((bz .i64 s1.1 1),j))
 else
  some (.inr s1.2)
def mL (a0:GM)(a1:GI):Option GI:=
 (rounds (kq a0 a1) (0,a1)).bind λj=>
 br (ζ j=ζ a1) (
  some j)
theorem BA {a0}{a1}{r}(T:mL a0 a1=some r):CallOK ν 139 [.bZ (.st gM) a0,.own cC a1] [] [⟨cC,r⟩]:=
 dB Tryz.func139 rfl λcx p hF=>θ p [] bm (θ p [] bm (ο (ϧ p T (λs1=>up [1,2,7] [(8,iV s1.1)] [1] [(0,.seq tI s1.2)] 0) (λr3=>(.exit 0,up [] [] [] [(0,.seq tI r3)] 0)) (λr3 T=>bg T λhg4 T=>by (cases T;exact (bE (ct (bQ hg4))))) λs1 x5 t Qk=>θ p [] bm (Ϻ t (λPS t=>φ (ο (θ p [] bm (ο (ϧ p t (λs9=>up [1,2,7,8,11,12] [(13,iV s9.1)] [1] [(0,.seq tI s9.2)] 0) (λU=>(.exit 2,up [1,2,7,8] [] [1] [(0,.seq tI U)] 0)) (λU t=>(bE (bB (bp (Υ p [] bm λ_ h=>(bM (lN t h))))))) λs9 x12 o aa=>θ p [] bm (Ϻ o (λab o=>ϰ o (λad=>up [1,2,7,8,11,12,13] [] [1] [(0,.seq tI ad)] 0) (λad o=>Υ p [] bm λ_ h=>(bM (lN o h))) λ_ j J=>ο (bg j λae j=>θ p [] (bQ ae) (bq j λj=>bq j λj=>θ p [] bm (Φ j (λaf j=>bg j λI j=>bg j λR j=>adQ p [] (lF I (bS I) R (bS R) (dp I (bS I))) λ_ h=>(bB (bp (h.ht (J _ (bt j)))))) λaf j=>Θ (bB (bp (abi p (J _ (bt j))))))))) λab o=>Ϩ p (bL (bN (aa _ (bw o)))))))))) λPS t=>Ϩ p (bL (bN (Qk _ (bw t))))))))
def eF (a0:GI)(a1:GI)(s1:Int×Int):Option ((Int×Int)⊕(Int)):=
 bif (decide (s1.2<(bn a0))) then
  br (0<=s1.2/\s1.2<bn a0) (
   br (0<=s1.2/\s1.2<bn a1) (
    some (.inl ((if (bz .i64 (ε a0 (δ s1.2) 0) (ε a1 (δ s1.2) 0))<s1.1 then (bz .i64 (ε a0 (δ s1.2) 0) (ε a1 (δ s1.2) 0)) else s1.1),(bz .i64 s1.2 1)))))
 else
  some (.inr s1.1)
def eK (a0:GI)(a1:GI):Option (Int):=
 (rounds (eF a0 a1) (1099511627776,0)).bind λj=>
 bif (decide (j>=1099511627776)) then
  some (-1)
 else
  some j
theorem uN {a0}{a1}{r}(p:eK a0 a1=some r):CallOK ν 101 [.bZ cC a0,.bZ cC a1] [⟨false,tI,r⟩] []:=
 dB Tryz.func101 rfl λcx o hF=>θ o [] bm (θ o [] bm (φ (θ o [] bm (ο (ϧ o p (λI=>up [0,1,8] [(5,iV I.1),(9,iV I.2)] [] [] 0) (λr3=>(.exit 0,up [] [(5,iV r3)] [] [] 0)) (λr3 p=>(bE (bp (φ (θ o [] bm (Φ p (λJ p=>θ o [] bm (by (cases p;exact (Δ (bF (ct bm)))))) λJ p=>Θ (bp (θ o [] bm (by (cases p;exact (Δ (ct bm)))))))))))) λI x5 j R=>θ o [] bm (Ϻ j (λT j=>φ (ο (θ o [] bm (bg j λU j=>bg j λt j=>HT.dl o [] (dp U t) (bB (bp (Υ o [] bm λ_ h=>(bM (lN j h))))))))) λT j=>Ϩ o (bL (bN (R _ (bw j))))))))))
def gj (a0:GM)(R:Int×GL×GI)(p:GI)(o:Int×GL)(j:Int×GL):Option ((Int×GL)⊕(GL)):=
 bif (decide (j.1<(bn a0.2.2.1))) then
  (show Option (GL) from
   br (0<=j.1/\j.1<bn a0.2.2.1) (
    (some ((((ε a0.2.2.1 (δ j.1) (0,0,0,0)).2).2).1)).bind λr=>
    (some ((((ε a0.2.2.1 (δ j.1) (0,0,0,0)).2).2).2)).bind λt=>
    (show Option (Bool) from
     bif (decide ((ε p (δ o.1) 0)<1099511627776)) then
      bif (decide (r>=0)) then
       some ((ε a0.2.2.1 (δ j.1) (0,0,0,0)).1==o.1)
      else
       some false
     else
      some false).bind λI=>
    bif I then
     br (ζ j.2+ζ ([(R.1,((ε a0.2.2.1 (δ j.1) (0,0,0,0)).2).1,r,(bz .i64 (ε p (δ o.1) 0) t))]:GL)<=bD) (
      some (j.2++([(R.1,((ε a0.2.2.1 (δ j.1) (0,0,0,0)).2).1,r,(bz .i64 (ε p (δ o.1) 0) t))]:GL)))
    else
     some j.2)).bind λJ=>
  some (.inl ((bz .i64 j.1 1),J))
 else
  some (.inr j.2)
def gm (a0:GM)(r:Int×GL×GI)(o:GI)(j:Int×GL):Option ((Int×GL)⊕(GL)):=
 bif (decide (j.1<(bn o))) then
  br (0<=j.1/\j.1<bn o) (
   (rounds (gj a0 r o j) (0,j.2)).bind λp=>
   some (.inl ((bz .i64 j.1 1),p)))
 else
  some (.inr j.2)
def jJ (a0:GM)(I:GI)(j:Int×GL×GI):Option ((Int×GL×GI)⊕((GL×GI))):=
 bif (decide (j.1<a0.1)) then
  (cq ([1099511627776]:GI) a0.1).bind λo=>
  br (0<=j.1/\j.1<bn o) (
   (mL (a0.1,a0.2.1,a0.2.2.1,a0.2.2.2.1,a0.2.2.2.2) (aaj o (δ j.1) 0)).bind λp=>
   (rounds (gm a0 j p) (0,j.2.1)).bind λt=>
   (eK p I).bind λr=>
   br (ζ j.2.2+ζ ([r]:GI)<=bD) (
    some (.inl ((bz .i64 j.1 1),t,(j.2.2++([r]:GI))))))
 else
  some (.inr (j.2.1,j.2.2))
def js (a0:GM):Option (GM×Bool):=
 (cy (a0.1,a0.2.1,a0.2.2.1,a0.2.2.2.1,a0.2.2.2.2)).bind λp=>
 bif (!p) then
  some ((0,0,([]:GL),([]:GI),([]:GI)),false)
 else
  (slices_Clone a0.2.2.2.1).bind λr=>
  (ft a0.2.2.2.2).bind λt=>
  (rounds (jJ a0 t) (0,([]:GL),([]:GI))).bind λo=>
  (lb (a0.1,a0.2.1,o.1,r,o.2)).bind λj=>
  some ((j.1.1,j.1.2.1,j.1.2.2.1,j.1.2.2.2.1,j.1.2.2.2.2),j.2)
theorem MO {a0}{r}(R:js a0=some r):CallOK ν 158 [.bZ (.st gM) a0] [⟨true,(.st gM),r.1⟩,⟨false,.bool,r.2⟩] []:=
 dB Tryz.func158 rfl λcx p hF=>θ p [] bm (φ (bc R oY λy1 an R=>θ p [oH,(cl an)] (bQ an) (Φ R (λAe R=>θ p [] bm (by (cases R;exact (Δ (bF (ct bm)))))) λAe R=>Θ (bp (bc R lK λy4 ao R=>abA p (nO 6 [(cl ao)]) (bQ ao) (bc R uM λy6 aq R=>θ p [oH,oH,(cl aq)] (bQ aq) (φ (θ p [] bm (ο (ϧ p R (λs8=>up [1,2,4,5,28] [(29,iV s8.1)] [0,1,4,2] [(3,.box [iC a0.1,iC a0.2.1,.all 14,.all 2,.all 15]),(14,.seq (.st gQ) s8.2.1),(15,.seq tI s8.2.2)] 11) (λaj=>(.exit 0,up [2,4] [] [1,2] [(3,.box [iC a0.1,iC a0.2.1,.all 14,.all 2,.all 15]),(14,.seq (.st gQ) aj.1),(15,.seq tI aj.2)] 11)) (λaj R=>(bE (bp (bc R By λLp ab R=>θ p [oH,(cl ab)] (bQ ab) (by (cases R;exact (Δ (ct bm)))))))) λs8 Vm j ar=>θ p [] bm (Ϻ j (λau j=>φ (ο (θ p [] bm (bc j wZ λRZ ad j=>θ p [(hT tI),oH,oH,(cl ad)] (bQ ad) (bg j λae j=>θ p [] (dp ae (bS ae)) (bc j BA λXF af j=>θ p [oH,oH,(cl af)] (bQ af) (φ (θ p [] bm (ο (ϧ p j (λak=>up [1,2,4,5,6,7,28,29,42,43] [(44,iV ak.1)] [0,1,3,4,17,2,15] [(14,.seq (.st gQ) ak.2)] 0) (λav=>(.exit 2,up [1,2,4,5,7,28,29] [] [0,1,3,4,17,2,15] [(14,.seq (.st gQ) av)] 0)) (λav j=>(bE (bp (bc j uN λXp ag j=>bg j λaw j=>HT.dl p (nO 4 [(cl ag),(hT tI),(hT tI)]) (dp ag aw) (bB (bp (Υ p [] bm λ_ h=>(bM (lN j h))))))))) λak ZA t ax=>θ p [] bm (Ϻ t (λay t=>φ (ο (bg t λah t=>θ p [] (dp ah (bS ah)) (θ p [] bm (ο (ϧ p t (λal=>up [1,2,4,5,6,7,8,9,28,29,42,43,44,50,51] [(52,iV al.1)] [0,1,3,4,17,2,15] [(14,.seq (.st gQ) al.2)] 0) (λaz=>(.exit 4,up [1,2,4,5,6,7,28,29,42,43,44] [] [0,1,3,4,17,2,15] [(14,.seq (.st gQ) az)] 0)) (λaz t=>(bE (bB (bp (Υ p [] bm λ_ h=>(bM (lN t h))))))) λal XE J aA=>θ p [] bm (Ϻ J (λaB J=>ϰ J (λaC=>up [1,2,4,5,6,7,8,9,28,29,42,43,44,50,51,52] [] [0,1,4,17,2,15] [(3,.box [iC a0.1,iC a0.2.1,.all 20,.all 2,.all 15]),(20,.seq (.st gQ) aC)] 3) (λaC J=>Υ p [] bm λ_ h=>(bM (lN J h))) λ_ o ai=>ο (bg o λaD o=>θ p [] (bQ aD) (bq o λo=>bq o λo=>ϰ o (λaE=>up [1,2,4,5,6,7,8,9,11,28,29,42,43,44,50,51,52] [(68,bV aE)] [0,1,3,4,17,18,14,2,15] [] 0) (λaE o=>Φ o (λaF o=>bg o λaG o=>Υ p (nO 12 [(hT (.st gQ)),(hT (.st gQ))]) (bQ aG) λ_ h=>(bB (bp (h.ht (ai _ (bt o)))))) λaF o=>Θ (bB (bp (abi p (ai _ (bt o)))))) λ_ I U=>bb I (λT I=>bb I (λaa I=>Υ p [oH,oH,kT,oH,oH,oH,oH,kT] (dp T aa) λ_ h=>(bp (h.ht (U _ (bt I))))) λaa I=>Υ p [oH,oH,kT,oH,oH,oH,oH,kF] (dp T aa) λ_ h=>(bp (h.ht (U _ (bt I))))) λT I=>Υ p [oH,oH,kF] (bQ T) λ_ h=>(bp (h.ht (U _ (bt I))))))) λaB J=>Ϩ p (bL (bN (aA _ (bw J))))))))))) λay t=>Ϩ p (bL (bN (ax _ (bw t))))))))))))))) λau j=>Ϩ p (bL (bN (ar _ (bw j)))))))))))))))
end
end Go.Proofs
