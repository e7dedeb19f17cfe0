import Derived.Test.YtjnkhcgmgkhnaaaGreatDoorLibD
import Derived.RangeFuncBound
import Derived.RangeFuncCalls
import Derived.RangeFuncNested
import Derived.Shelf.Abstract
import Derived.Shelf.RegionOpen
import Derived.OwnWalkIn
import Derived.TacticsInMore
import Derived.LoopNIn
import Derived.LoopIn
import Derived.WalkKit
import Derived.Test.YtjnkhcgmgkhnaaaGreatDoorProg
set_option linter.all false
namespace Go.Proofs
open Go.Ide
section
open Go.RowKit Go.Shelf
theorem Tryz.ch_call (a:Option Addr)(len cap:Nat)(w:World):Calls Tryz.prog 76 #[.slice a len cap,.int .i64 4] w fun e w'=>
 e= .returned (.func (.func 116) #[] #[.pointer (some ⟨w.heap.size,0,none⟩),.pointer (some ⟨w.heap.size+1,0,none⟩)])∧w'=(w.alloc (.cells #[.slice a len cap] 25)).alloc (.cells #[.int .i64 4] 3):=by
 go_enter Tryz.func76,Tryz.ntmps76
 go_wp2
 go_ret
 exact ⟨rfl,rfl⟩
set_option maxRecDepth 100000 in
set_option maxHeartbeats 4000000 in
theorem Tryz.ch_iter (l Bs Bn:Nat)(al:Option Addr)(b off m cap:Nat)(hm:m≤1048576)(hcap:4*m≤cap)(ha:0<m→al=some ⟨b,off,none⟩)(J:Nat→World→Prop)(hd: ∀k W,J k W→J k W.drew)(hY: ∀k W,J k W→k<m→YieldAt Fence.wide 0 Tryz.prog l #[.slice (some ⟨b,off+4*k,none⟩) 4 4] W fun e W'=>e= .returned (.bool true)∧J (k+1) W'∧W'.heap[Bs]? =W.heap[Bs]? ∧W'.heap[Bn]? =W.heap[Bn]?)(W:World)(hBs:W.cell? ⟨Bs,0,none⟩=some (.slice al (4*m) cap))(hBn:W.cell? ⟨Bn,0,none⟩=some (.int .i64 4))(h0:J 0 W):
 CallsIn Fence.wide 1 Tryz.prog 116 #[.func (.yield l) #[] #[],.pointer (some ⟨Bs,0,none⟩),.pointer (some ⟨Bn,0,none⟩)] W fun e W'=>(∃v,e= .returned v)∧J m W':=by
 obtain ⟨F,hF⟩: ∃F,F=Fence.wide:=⟨_,rfl⟩;have h126:F.fn 116:=by rw [hF];trivial
 have hro:F.round=none:=by rw [hF];rfl
 rw [←hF] at hY⊢;clear hF;refine callsIn_of_wp Tryz.func116 rfl h126 ?_ hro;simp only [Tryz.ntmps116,List.size_toArray,List.length_cons,List.length_nil,Nat.reduceAdd,Nat.reduceSub,Array.replicate_succ,Array.replicate_zero,List.push_toArray,List.append_toArray,List.nil_append,List.cons_append]
 gi_wp2
 gi_loopw [4] (fun i wr=> ∃k:Nat,k≤m∧i= .int .i64 ((4*k:Nat):Int)∧J k wr∧wr.cell? ⟨Bs,0,none⟩=some (.slice al (4*m) cap)∧wr.cell? ⟨Bn,0,none⟩=some (.int .i64 4))
  (fun i _=>4*m - (intOf i).toNat)
 case atStart=>exact ⟨0,Nat.zero_le _,rfl,h0,hBs,hBn⟩
 case round=>
  obtain ⟨k,hk,rfl,hJs,hBs,hBn⟩:=hrel;by_cases hlt:k<m
  ·have ha:=ha (by omega);subst ha;obtain ⟨fn,tmps,assign,body,hy,hR⟩:=hY k wr.drew (hd _ _ hJs) hlt;have hn1:1≤1:=Nat.le_refl 1
   gi_wp2
   gi_region
   gi_wp2
   all_goals
    refine hR.mono ?_;rintro e W3 ⟨rfl,hJ3,q1,q2⟩;have hBs3:W3.cell? ⟨Bs,0,none⟩=some (.slice (some ⟨b,off,none⟩) (4*m) cap):=(World.cell?_of_block (a:=⟨Bs,0,none⟩) (w:=wr.drew) q1).trans hBs;have hBn3:W3.cell? ⟨Bn,0,none⟩=some (.int .i64 4):=(World.cell?_of_block (a:=⟨Bn,0,none⟩) (w:=wr.drew) q2).trans hBn
    gi_wp2
    go_roundw
    case rel=>exact ⟨k+1,by omega,by simp;omega,hJ3,hBs3,hBn3⟩
    case measure=>simp [intOf];omega
  ·obtain rfl:k=m:=by omega
   gi_wp2
   go_end0
   exact ⟨⟨_,rfl⟩,hJs⟩
theorem chunkFn:ChunkFn Tryz.prog 76 116:=
 ⟨⟨_,Tryz.func76,by kernel_rfl,by kernel_rfl⟩,⟨_,Tryz.func116,by kernel_rfl,by kernel_rfl⟩,⟨25,3,Tryz.ch_call⟩,Tryz.ch_iter⟩
end
end Go.Proofs
