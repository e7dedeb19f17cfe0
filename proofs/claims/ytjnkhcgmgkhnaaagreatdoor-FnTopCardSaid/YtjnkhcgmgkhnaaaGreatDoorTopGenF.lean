import Derived.Test.YtjnkhcgmgkhnaaaGreatDoorTopGenE
import Derived.Test.YtjnkhcgmgkhnaaaGreatDoorProg
set_option linter.unusedVariables false
set_option linter.unusedSimpArgs false
set_option linter.unusedSectionVars false
namespace Go.Proofs
open Go.Ide
section
open Go.RowKit
theorem qt {w w':World}(h:w'=w∨ ∃t,w'=Lib.bytesWorld w 5 t):Below w.heap.size w w':=by
 rcases h with rfl|⟨t,rfl⟩
 exact Below.refl _ _;unfold Lib.bytesWorld;exact Lib.below_freeze ((Below.drew (Below.refl _ w)).alloc (Nat.le_refl _) _) (p:=⟨w.heap.size,_,none⟩) (Nat.le_refl _) _
theorem xp {a b c:World}(h:Below a.heap.size a b)(k:Below b.heap.size b c):Below a.heap.size a c:=
 h.trans ⟨k.os,k.tape,k.output,k.size,fun i hi=>k.block i (Nat.lt_of_lt_of_le hi h.size)⟩
theorem qu (v:Int)(w:World):Calls Tryz.prog 91 #[.int .i64 v] w fun e w'=>e= .returned (.bool (decide (-1000000000000000≤v)&&decide (v≤1000000000000000)))∧w'=w:=by
 by_cases h0: -1000000000000000≤v
 ·by_cases h1:v≤1000000000000000
  ·go_enter Tryz.func91,Tryz.ntmps91
   go_wp2
   go_ret
   exact ⟨by simp [h0,h1],rfl⟩
  ·go_enter Tryz.func91,Tryz.ntmps91
   go_wp2
   go_ret
   exact ⟨by simp [h0,h1],rfl⟩
 ·go_enter Tryz.func91,Tryz.ntmps91
  go_wp2
  go_ret
  exact ⟨by rw [show decide (-1000000000000000≤v)=false by simp only [decide_eq_false_iff_not];omega];rfl,rfl⟩
theorem FZ (v:Int)(h0: -9223372036854775808≤v)(h1:v≤9223372036854775807)(w:World)(t:TypeId)(fr:Nat×Nat)(ht:w.heap[1]? =some (.cells pow10Cells t fr)):
 Calls Tryz.prog 13 #[.int .i64 v] w fun e w'=>e= .returned (.string ⟨(Lib.itoa v).toArray⟩)∧Below w.heap.size w w':=by
 go_enter Tryz.func13,Tryz.ntmps13
 go_wp2_with (go_at_call 44;refine (Tryz.strconv_FormatInt_10 v h0 h1 w (Jt ht)).mono ?_)
 rintro e w2 ⟨rfl,k,os,rfl⟩;have hb:=Lib.below_grow w.heap.size w (Nat.le_refl _) k os;generalize Go.Sort.grow (w.drewN k) os=w2 at hb⊢
 go_wp2
 go_ret
 exact ⟨rfl,hb⟩
set_option maxRecDepth 100000 in
theorem Tx (s:ByteArray)(v:Int)(h:Lib.parseIntB 64 s.data.toList= .ok v)(hs:s.size≤281474976710656)(w:World)(t:TypeId)(fr:Nat×Nat)(ht:w.heap[1]? =some (.cells pow10Cells t fr))(h1:1<w.heap.size)(Xf: -1000000000000000≤v)(R0:v≤1000000000000000)(he:ByteArray.mk (Lib.itoa v).toArray=s):
 Calls Tryz.prog 119 #[.string s] w fun e w'=>e= .returned (.tuple #[.int .i64 v,.bool true])∧Below w.heap.size w w':=by
 have Tz:(decide (-1000000000000000≤v)&&decide (v≤1000000000000000))=true:=by simp [Xf,R0]
 go_enter Tryz.func119,Tryz.ntmps119
 go_wp2_with (go_at_call 143;refine (Tryz.strconv_ParseInt_10_at64_ok _ (by omega) v h w).mono ?_)
 rintro e w1 ⟨rfl,Lc⟩;have hb:=qt Lc;have Ot:w1.heap[1]? =some (.cells pow10Cells t fr):=(hb.block 1 h1).trans ht;clear Lc h
 go_wp2_with (go_at_call 91;refine (qu v w1).mono ?_)
 rintro e w2 ⟨rfl,rfl⟩;rw [Tz]
 go_wp2_with (go_at_call 13;refine (FZ v (by omega) (by omega) w2 t fr Ot).mono ?_)
 rintro e w3 ⟨rfl,pZ⟩;rw [he]
 go_wp2
 go_ret2
 exact ⟨rfl,xp hb pZ⟩
set_option maxRecDepth 100000 in
theorem J2 (s:ByteArray)(v:Int)(h:Lib.parseIntB 64 s.data.toList= .ok v)(hs:s.size≤281474976710656)(w:World)(t:TypeId)(fr:Nat×Nat)(ht:w.heap[1]? =some (.cells pow10Cells t fr))(h1:1<w.heap.size)(Xf: -1000000000000000≤v)(R0:v≤1000000000000000)(he:ByteArray.mk (Lib.itoa v).toArray≠s):
 Calls Tryz.prog 119 #[.string s] w fun e w'=>e= .returned (.tuple #[.int .i64 0,.bool false])∧Below w.heap.size w w':=by
 have Tz:(decide (-1000000000000000≤v)&&decide (v≤1000000000000000))=true:=by simp [Xf,R0]
 go_enter Tryz.func119,Tryz.ntmps119
 go_wp2_with (go_at_call 143;refine (Tryz.strconv_ParseInt_10_at64_ok _ (by omega) v h w).mono ?_)
 rintro e w1 ⟨rfl,Lc⟩;have hb:=qt Lc;have Ot:w1.heap[1]? =some (.cells pow10Cells t fr):=(hb.block 1 h1).trans ht;clear Lc h
 go_wp2_with (go_at_call 91;refine (qu v w1).mono ?_)
 rintro e w2 ⟨rfl,rfl⟩;rw [Tz]
 go_wp2_with (go_at_call 13;refine (FZ v (by omega) (by omega) w2 t fr Ot).mono ?_)
 rintro e w3 ⟨rfl,pZ⟩;have Lp:((ByteArray.mk (Lib.itoa v).toArray).toList==s.toList)=false:=by
  rw [beq_eq_false_iff_ne];intro q;rw [ByteArray.toList_eq,ByteArray.toList_eq] at q;exact he (WideShapes.bytes_inj q)
 generalize ByteArray.mk (Lib.itoa v).toArray=q at he Lp⊢;clear he
 go_wp2
 go_ret2
 exact ⟨rfl,xp hb pZ⟩
set_option maxRecDepth 100000 in
theorem Qh (s:ByteArray)(v:Int)(h:Lib.parseIntB 64 s.data.toList= .ok v)(hs:s.size≤281474976710656)(w:World)(Tz:(decide (-1000000000000000≤v)&&decide (v≤1000000000000000))=false):
 Calls Tryz.prog 119 #[.string s] w fun e w'=>e= .returned (.tuple #[.int .i64 0,.bool false])∧Below w.heap.size w w':=by
 go_enter Tryz.func119,Tryz.ntmps119
 go_wp2_with (go_at_call 143;refine (Tryz.strconv_ParseInt_10_at64_ok _ (by omega) v h w).mono ?_)
 rintro e w1 ⟨rfl,Lc⟩;have hb:=qt Lc;clear Lc h
 go_wp2_with (go_at_call 91;refine (qu v w1).mono ?_)
 rintro e w2 ⟨rfl,rfl⟩;rw [Tz]
 go_wp2
 go_ret2
 exact ⟨rfl,hb⟩
set_option maxRecDepth 100000 in
theorem G6 (s:ByteArray)(h:Lib.parseIntB 64 s.data.toList=Lib.parseIntB 64 [])(hs:s.size≤281474976710656)(w:World)(ev:Value)(hv:w.cell? ⟨4,0,none⟩=some ev)(GS:ev= .nilIface∨ ∃te pe,ev= .iface te pe):
 Calls Tryz.prog 119 #[.string s] w fun e w'=>e= .returned (.tuple #[.int .i64 0,.bool false])∧Below w.heap.size w w':=by
 go_enter Tryz.func119,Tryz.ntmps119
 go_wp2_with (go_at_call 143;refine (Tryz.strconv_ParseInt_10_at64_syntax _ (by omega) h ev w hv GS).mono ?_)
 rintro e w1 ⟨N,rfl,_,_,hb⟩;clear h hv GS
 go_wp2
 go_ret2
 exact ⟨rfl,hb⟩
set_option maxRecDepth 100000 in
theorem J3 (s:ByteArray)(h:Lib.parseIntB 64 s.data.toList= .range)(hs:s.size≤281474976710656)(w:World)(ev:Value)(hv:w.cell? ⟨5,0,none⟩=some ev)(GS:ev= .nilIface∨ ∃te pe,ev= .iface te pe):
 Calls Tryz.prog 119 #[.string s] w fun e w'=>e= .returned (.tuple #[.int .i64 0,.bool false])∧Below w.heap.size w w':=by
 go_enter Tryz.func119,Tryz.ntmps119
 go_wp2_with (go_at_call 143;refine (Tryz.strconv_ParseInt_10_at64_range _ (by omega) h ev w hv GS).mono ?_)
 rintro e w1 ⟨N,rfl,_,_,hb⟩;clear h hv GS
 go_wp2
 go_ret2
 exact ⟨rfl,hb⟩
end
noncomputable def mb (s:List UInt8):Int×Bool:=
 match Lib.parseIntB 64 s with
 | .ok v=>if (-1000000000000000≤v∧v≤1000000000000000)∧Lib.itoa v=s then (v,true) else (0,false)
 |_=>(0,false)
noncomputable def de (a0:List UInt8):Option (Int×Bool):=
 ai (a0.length≤281474976710656)<|some (mb a0)
theorem F3 {a0:List UInt8}{r:Int×Bool}(h:de a0=some r):CallOK Tryz.prog 119 [.bl .str a0] [⟨false,(.int .i64),r.1⟩,⟨false,.bool,r.2⟩] []:=by
 obtain ⟨hg,h⟩:=ig h;have h:=ah h;subst h;exact uo (ps:=[⟨.str,a0⟩]) (rs:=[⟨.int .i64,(mb a0).1⟩,⟨.bool,(mb a0).2⟩]) ⟨_,Tryz.func119,by kernel_rfl,by kernel_rfl⟩ (by simp [Ty.simple]) (by simp [Ty.simple]) fun w S hgl=>by
  obtain ⟨_,t,fr,ht⟩:=Glob.pow hgl;obtain ⟨_,⟨h6,e6,c6,v6⟩,h7,e7,c7,v7⟩:=hgl;have h1:1<w.heap.size:=(Array.getElem?_eq_some_iff.1 ht).1;have key:Calls Tryz.prog 119 #[.string ⟨a0.toArray⟩] w fun e w'=>e= .returned (.tuple #[.int .i64 (mb a0).1,.bool (mb a0).2])∧RowKit.Below w.heap.size w w':=by
   unfold mb;cases hp:Lib.parseIntB 64 a0 with
   |ok v=>
    simp only;by_cases hi: -1000000000000000≤v∧v≤1000000000000000;by_cases he:Lib.itoa v=a0;rw [if_pos ⟨hi,he⟩];exact Tx ⟨a0.toArray⟩ v hp hg w t fr ht h1 hi.1 hi.2 (by rw [he]);rw [if_neg fun q=>he q.2];exact J2 ⟨a0.toArray⟩ v hp hg w t fr ht h1 hi.1 hi.2 (fun q=>he (by injection q with q;exact List.toArray_inj q));rw [if_neg fun q=>hi q.1];exact Qh ⟨a0.toArray⟩ v hp hg w (by
     rw [Bool.eq_false_iff];intro q;simp only [Bool.and_eq_true,decide_eq_true_eq] at q;exact hi q)
   |range=>exact J3 ⟨a0.toArray⟩ hp hg w e7 c7 v7
   |_=>exact G6 ⟨a0.toArray⟩ hp hg w e6 c6 v6
  exact key.mono fun e w' ⟨he,hw⟩=>⟨⟨_,he,rfl⟩,hw⟩
noncomputable def fM (y1:List (List UInt8))(s3:Int×List Int):Option ((Int×List Int)⊕(List Int⊕Unit)):=
 bif (decide (s3.1<(ae y1))) then
  ai ((0:Int)≤s3.1∧s3.1<ae y1) (
   (de (List.getD y1 (Int.toNat s3.1) ([]:List UInt8))).bind fun mD=>
   bif (!mD.2) then
    some (.inr (.inr ()))
   else
    ai (List.length s3.2+List.length ([mD.1]:List Int)≤av) (
     some (.inl ((aj .i64 s3.1 (1:Int)),(s3.2++([mD.1]:List Int))))))
 else
  some (.inr (.inl s3.2))
noncomputable def nY (a0:List UInt8):Option (List Int×Bool):=
 (qp a0).bind fun y1=>
 (rounds (fM y1) ((0:Int),([]:List Int))).bind fun r4=>match r4 with
  | .inl r5=>
   some (r5,true)
  | .inr r6=>
   some (([]:List Int),false)
theorem Qi {a0:List UInt8}{r:List Int×Bool}(hr:nY a0=some r):CallOK Tryz.prog 80 [.bl .str a0] [⟨true,aN,r.1⟩,⟨false,.bool,r.2⟩] []:=
 fe Tryz.func80 rfl fun cx hX hF=>HT.g hX [] aa (HT.g hX [] aa (HT.seq (bc hr MH fun y1 bQ hr=>HT.g hX [oH,(cl bQ)] (aQ bQ) (HT.block (HT.lp hX hr (fun s3=>up [11,12] [(4,aV 3),(13,iV s3.1)] [0] [(3,.seq tI s3.2)] 3) (fun r4=>match r4 with| .inl r5=>(.exit 0,up [] [(4,aV 3)] [] [(3,.seq tI r5)] 3)| .inr r6=>(.ret,up [] [(2,.one (.az)),(3,bV false)] [] [] 0)) (fun r4=>match r4 with| .inl r5=>fun hr=>(aI (af (HT.g hX [] aa (by (cases hr;exact (HT.ret (bN aa)))))))| .inr r6=>fun hr=>by (cases hr;exact (br (aD (bN aa))))) fun s3 x7 jr HD=>HT.g hX [] aa (HT.cj jr (fun fU jr=>HT.seq (HT.block (bg jr fun pH jr=>HT.g hX [] (dT pH (bd pH)) (bc jr F3 fun mD rr jr=>HT.g hX [oH,(cl rr)] (aQ rr) (HT.seq (HT.g hX [] aa (HT.cb jr (fun mq jr=>HT.g hX [] aa (HT.xr hX (aD (br (aD (jE (HD _ (an jr)))))))) fun mq jr=>HT.skip (af (bg jr fun pI jr=>HT.l hX [oH,oH,(hT tI),(hT tI)] (aQ pI) (aE (af (HT.k hX [] aa fun _ h=>(aU (lN jr h)))))))))))))) fun fU jr=>HT.xe hX (aT (aW (HD _ (an jr))))))))))
noncomputable def fg (a0:List UInt8):Option (List Int×Bool):=
 (nY a0).bind fun y1=>
 (show Option (Bool) from
  bif (!y1.2) then
   some true
  else
   some (decide ((ae y1.1)>(64:Int)))).bind fun v4=>
 bif v4 then
  some (([]:List Int),false)
 else
  some (y1.1,true)
theorem J4 {a0:List UInt8}{r:List Int×Bool}(hr:fg a0=some r):CallOK Tryz.prog 32 [.bl .str a0] [⟨true,aN,r.1⟩,⟨false,.bool,r.2⟩] []:=
 fe Tryz.func32 rfl fun cx hX hF=>HT.g hX [] aa (bc hr Qi fun y1 bQ hr=>HT.g hX [oH,(cl bQ)] (aQ bQ) (HT.seq (HT.jn hr (fun v4=>up [4] [(17,bV v4)] [0] [] 0) (fun v4 hr=>HT.cb hr (fun lQ hr=>HT.g hX [] aa (by (cases hr;exact (HT.ret (aD (bN aa)))))) fun lQ hr=>HT.skip (af (HT.g hX [] aa (by (cases hr;exact (HT.ret (bN aa))))))) fun _ kY Dd=>bb kY (fun nR kY=>HT.k hX [oH,oH,kT] (aQ nR) fun _ h=>(af (h.ht (Dd _ (ah kY))))) fun nR kY=>HT.k hX [oH,oH,kF] (aQ nR) fun _ h=>(af (h.ht (Dd _ (ah kY)))))))
noncomputable def gS (y1:List (List UInt8))(s3:Int×List (List Int)):Option ((Int×List (List Int))⊕(List (List Int)⊕Unit)):=
 bif (decide (s3.1<(ae y1))) then
  ai ((0:Int)≤s3.1∧s3.1<ae y1) (
   (fg (List.getD y1 (Int.toNat s3.1) ([]:List UInt8))).bind fun mD=>
   bif (!mD.2) then
    some (.inr (.inr ()))
   else
    ai (List.length s3.2+List.length ([mD.1]:List (List Int))≤av) (
     some (.inl ((aj .i64 s3.1 (1:Int)),(s3.2++([mD.1]:List (List Int)))))))
 else
  some (.inr (.inl s3.2))
noncomputable def dq (a0:List UInt8)(a1:Int):Option (List (List Int)×Bool):=
 (strings_Split a0 ([59]:List UInt8)).bind fun y1=>
 (rounds (gS y1) ((0:Int),([]:List (List Int)))).bind fun r4=>match r4 with
  | .inl r5=>
   some (r5,((ae r5)==a1))
  | .inr r6=>
   some (([]:List (List Int)),false)
theorem EA {a0:List UInt8}{a1:Int}{r:List (List Int)×Bool}(hr:dq a0 a1=some r):CallOK Tryz.prog 75 [.bl .str a0,.bl tI a1] [⟨true,(.sl (.own tI)),r.1⟩,⟨false,.bool,r.2⟩] []:=
 fe Tryz.func75 rfl fun cx hX hF=>HT.g hX [] aa (HT.g hX [] aa (HT.seq (bc hr AA fun y1 bQ hr=>HT.g hX [oH,(cl bQ)] (aQ bQ) (HT.block (HT.lp hX hr (fun s3=>up [1,13,14] [(6,aV 4),(15,iV s3.1)] [0] [(4,.seq (.own tI) s3.2)] 4) (fun r4=>match r4 with| .inl r5=>(.exit 0,up [1] [(6,aV 4)] [] [(4,.seq (.own tI) r5)] 4)| .inr r6=>(.ret,up [] [(4,.one (.az)),(5,bV false)] [] [] 0)) (fun r4=>match r4 with| .inl r5=>fun hr=>(aI (af (HT.g hX [] aa (by (cases hr;exact (HT.ret (bN aa)))))))| .inr r6=>fun hr=>by (cases hr;exact (br (aD (bN aa))))) fun s3 x7 jr HD=>HT.g hX [] aa (HT.cj jr (fun fU jr=>HT.seq (HT.block (bg jr fun pH jr=>HT.g hX [] (dT pH (bd pH)) (bc jr J4 fun mD rr jr=>HT.g hX [oH,(cl rr)] (aQ rr) (HT.seq (HT.g hX [] aa (HT.cb jr (fun mq jr=>HT.g hX [] aa (HT.xr hX (aD (br (aD (jE (HD _ (an jr)))))))) fun mq jr=>HT.skip (af (bg jr fun pI jr=>HT.l hX [oH,oH,(hT (.own tI)),(hT (.own tI))] (aQ pI) (aE (af (HT.k hX [] aa fun _ h=>(aU (lN jr h)))))))))))))) fun fU jr=>HT.xe hX (aT (aW (HD _ (an jr))))))))))
noncomputable def lb (a0:Int×Int×List (Int×Int×Int×Int)×List Int×List Int):Option ((Int×Int×List (Int×Int×Int×Int)×List Int×List Int)×Bool):=
 (bW (a0.1,a0.2.1,a0.2.2.1,a0.2.2.2.1,a0.2.2.2.2)).bind fun y1=>
 bif (!y1) then
  some (((0:Int),(0:Int),([]:List (Int×Int×Int×Int)),([]:List Int),([]:List Int)),false)
 else
  some ((a0.1,a0.2.1,a0.2.2.1,a0.2.2.2.1,a0.2.2.2.2),true)
theorem EB {a0:Int×Int×List (Int×Int×Int×Int)×List Int×List Int}{r:(Int×Int×List (Int×Int×Int×Int)×List Int×List Int)×Bool}(hr:lb a0=some r):CallOK Tryz.prog 77 [.mv (.st (.pair tI (.pair tI (.pair (.sl (.st (.pair tI (.pair tI (.pair tI tI))))) (.pair aN aN))))) a0] [⟨true,(.st (.pair tI (.pair tI (.pair (.sl (.st (.pair tI (.pair tI (.pair tI tI))))) (.pair aN aN))))),r.1⟩,⟨false,.bool,r.2⟩] []:=
 Ya Tryz.func77 rfl fun cx hX=>HT.g hX [] aa (HT.seq (bc hr xg fun y1 bQ hr=>HT.g hX [oH,(cl bQ)] (aQ bQ) (HT.cb hr (fun pZ hr=>HT.g hX [] aa (by (cases hr;exact (HT.ret (aD (bN aa)))))) fun pZ hr=>HT.skip (af (HT.g hX [] aa (by (cases hr;exact (HT.ret (bN aa)))))))))
noncomputable def jg (dv:List Int)(Cz:(List (Int×Int×Int×Int))):Option ((List (Int×Int×Int×Int))):=
 ai ((0:Int)≤(0:Int)∧(0:Int)<ae dv) (
  ai ((0:Int)≤(1:Int)∧(1:Int)<ae dv) (
   ai ((0:Int)≤(2:Int)∧(2:Int)<ae dv) (
    ai ((0:Int)≤(3:Int)∧(3:Int)<ae dv) (
     ai (List.length Cz+List.length ([((List.getD dv (Int.toNat (0:Int)) (0:Int)),(List.getD dv (Int.toNat (1:Int)) (0:Int)),(List.getD dv (Int.toNat (2:Int)) (0:Int)),(List.getD dv (Int.toNat (3:Int)) (0:Int)))]:List (Int×Int×Int×Int))≤av) (
      some (Cz++([((List.getD dv (Int.toNat (0:Int)) (0:Int)),(List.getD dv (Int.toNat (1:Int)) (0:Int)),(List.getD dv (Int.toNat (2:Int)) (0:Int)),(List.getD dv (Int.toNat (3:Int)) (0:Int)))]:List (Int×Int×Int×Int))))))))
noncomputable def fN (a0:List UInt8):Option ((Int×Int×List (Int×Int×Int×Int)×List Int×List Int)×Bool):=
 (dq a0 (4:Int)).bind fun y1=>
 (show Option (Bool) from
  bif (!y1.2) then
   some true
  else
   ai ((0:Int)≤(0:Int)∧(0:Int)<ae y1.1) (
    bif ((ae (List.getD y1.1 (Int.toNat (0:Int)) ([]:List Int))) != (2:Int)) then
     some true
    else
     ai ((0:Int)≤(3:Int)∧(3:Int)<ae y1.1) (
      some ((Int.tmod (ae (List.getD y1.1 (Int.toNat (3:Int)) ([]:List Int))) (4:Int)) != (0:Int))))).bind fun v4=>
 bif v4 then
  some (((0:Int),(0:Int),([]:List (Int×Int×Int×Int)),([]:List Int),([]:List Int)),false)
 else
  ai ((0:Int)≤(0:Int)∧(0:Int)<ae y1.1) (
   ai ((0:Int)≤(0:Int)∧(0:Int)<ae (List.getD y1.1 (Int.toNat (0:Int)) ([]:List Int))) (
    ai ((0:Int)≤(1:Int)∧(1:Int)<ae (List.getD y1.1 (Int.toNat (0:Int)) ([]:List Int))) (
     ai ((0:Int)≤(1:Int)∧(1:Int)<ae y1.1) (
      ai ((0:Int)≤(2:Int)∧(2:Int)<ae y1.1) (
       ai ((0:Int)≤(3:Int)∧(3:Int)<ae y1.1) (
        ai (Int.toNat (3:Int)<List.length y1.1) (
         ai (Int.toNat (1:Int)<List.length y1.1) (
          ai (Int.toNat (2:Int)<List.length y1.1) (
           (tq (jg) (List.getD y1.1 (Int.toNat (3:Int)) ([]:List Int)) ([]:List (Int×Int×Int×Int))).bind fun TA=>
           (lb ((List.getD (List.getD y1.1 (Int.toNat (0:Int)) ([]:List Int)) (Int.toNat (0:Int)) (0:Int)),(List.getD (List.getD y1.1 (Int.toNat (0:Int)) ([]:List Int)) (Int.toNat (1:Int)) (0:Int)),TA,(List.getD y1.1 (Int.toNat (1:Int)) ([]:List Int)),(List.getD y1.1 (Int.toNat (2:Int)) ([]:List Int)))).bind fun gm=>
           some ((gm.1.1,gm.1.2.1,gm.1.2.2.1,gm.1.2.2.2.1,gm.1.2.2.2.2),gm.2))))))))))
theorem Qj {a0:List UInt8}{r:(Int×Int×List (Int×Int×Int×Int)×List Int×List Int)×Bool}(hr:fN a0=some r):CallOK Tryz.prog 29 [.bl .str a0] [⟨true,(.st (.pair tI (.pair tI (.pair (.sl (.st (.pair tI (.pair tI (.pair tI tI))))) (.pair aN aN))))),r.1⟩,⟨false,.bool,r.2⟩] []:=
 UA false Tryz.func29 rfl fun cx hX hF lJ=>HT.g hX [] aa (bc hr EA fun y1 bQ hr=>HT.g hX [oH,(cl bQ)] (aQ bQ) (HT.seq (HT.jn hr (fun v4=>up [2,4] [(29,bV v4)] [0,1] [] 0) (fun v4 hr=>HT.cb hr (fun lQ hr=>HT.g hX [] aa (by (cases hr;exact (HT.ret (aD (bN aa)))))) fun lQ hr=>HT.skip (af (bg hr fun Ck hr=>bg hr fun tB hr=>bg hr fun pr hr=>bg hr fun pH hr=>bg hr fun xf hr=>HT.dg hX [] (lx Ck (bd Ck) tB (bd tB) (lx Ck (bd Ck) pr (bd pr) (oJ pH (bd pH) xf (bd xf)))) (HT.seq (bg hr fun sf hr=>bg hr fun si hr=>bg hr fun pI hr=>bg hr fun yD hr=>bo hr fun TA Qk hr=>HT.eg ⟨[(2,pV 0 0),(4,aV 1),(6,pV 2 0)],[(2,.box [iC (List.getD (List.getD y1.1 (Int.toNat (0:Int)) ([]:List Int)) (Int.toNat (0:Int)) (0:Int)),iC (List.getD (List.getD y1.1 (Int.toNat (0:Int)) ([]:List Int)) (Int.toNat (1:Int)) (0:Int)),.az,.row 1 (Int.toNat (1:Int)) 0,.row 1 (Int.toNat (2:Int)) 0]),(0,.box [iC (0:Int),iC (0:Int),.az,.az,.az]),(1,.seq (.own tI) y1.1)],3⟩ hX (by (refine HT.chunk (fun (Cz:(List (Int×Int×Int×Int)))=>⟨[(2,pV 0 0),(6,pV 2 0),(50,nV (List.getD y1.1 (Int.toNat (3:Int)) ([]:List Int)))],[(0,.box [iC (0:Int),iC (0:Int),.az,.az,.az]),(2,.box [iC (List.getD (List.getD y1.1 (Int.toNat (0:Int)) ([]:List Int)) (Int.toNat (0:Int)) (0:Int)),iC (List.getD (List.getD y1.1 (Int.toNat (0:Int)) ([]:List Int)) (Int.toNat (1:Int)) (0:Int)),.all 8,.all 4,.all 5]),(8,.seq (.st (.pair tI (.pair tI (.pair tI tI)))) Cz),(4,.seq tI (List.getD y1.1 (Int.toNat (1:Int)) ([]:List Int))),(5,.seq tI (List.getD y1.1 (Int.toNat (2:Int)) ([]:List Int)))],9⟩) (n:=3) (rs:=[oH,oH,oH]) (st1:=⟨[(50,.one (.row 1 (Int.toNat (3:Int)) 0)),(49,.one (.bT 1 (Int.toNat (3:Int)) 1 0)),(48,aV 1),(2,pV 0 0),(4,aV 1),(6,pV 2 0)],[(2,.box [iC (List.getD (List.getD y1.1 (Int.toNat (0:Int)) ([]:List Int)) (Int.toNat (0:Int)) (0:Int)),iC (List.getD (List.getD y1.1 (Int.toNat (0:Int)) ([]:List Int)) (Int.toNat (1:Int)) (0:Int)),.az,.row 1 (Int.toNat (1:Int)) 0,.row 1 (Int.toNat (2:Int)) 0]),(0,.box [iC (0:Int),iC (0:Int),.az,.az,.az]),(1,.seq (.own tI) y1.1)],3⟩) (ks:=[2,6,50]) (ts:=50) (ta:=7) hX lJ chunkFn rfl rfl rfl rfl rfl rfl rfl (by kernel_rfl) (dT sf (bd sf)) (((((Le.gc (ks:=[2,6,50]) (ms:=[2,0,1]) (st':=⟨[(2,pV 0 0),(6,pV 2 0),(50,.one (.row 1 (Int.toNat (3:Int)) 0))],[(2,.box [iC (List.getD (List.getD y1.1 (Int.toNat (0:Int)) ([]:List Int)) (Int.toNat (0:Int)) (0:Int)),iC (List.getD (List.getD y1.1 (Int.toNat (0:Int)) ([]:List Int)) (Int.toNat (1:Int)) (0:Int)),.az,.row 1 (Int.toNat (1:Int)) 0,.row 1 (Int.toNat (2:Int)) 0]),(0,.box [iC (0:Int),iC (0:Int),.az,.az,.az]),(1,.seq (.own tI) y1.1)],3⟩) (cs:=[]) hX (rfl:some (⟨[(50,.one (.row 1 (Int.toNat (3:Int)) 0)),(49,.one (.bT 1 (Int.toNat (3:Int)) 1 0)),(48,aV 1),(2,pV 0 0),(4,aV 1),(6,pV 2 0)],[(2,.box [iC (List.getD (List.getD y1.1 (Int.toNat (0:Int)) ([]:List Int)) (Int.toNat (0:Int)) (0:Int)),iC (List.getD (List.getD y1.1 (Int.toNat (0:Int)) ([]:List Int)) (Int.toNat (1:Int)) (0:Int)),.az,.row 1 (Int.toNat (1:Int)) 0,.row 1 (Int.toNat (2:Int)) 0]),(0,.box [iC (0:Int),iC (0:Int),.az,.az,.az]),(1,.seq (.own tI) y1.1)],3⟩,([]:List Prop))=_) (by kernel_rfl)).2).trans (Le.take (own:=[]) (st':=⟨[(2,pV 0 0),(6,pV 2 0),(50,aV 3)],[(1,.gone),(3,.seq tI (List.getD y1.1 (Int.toNat (3:Int)) ([]:List Int))),(4,.seq tI (List.getD y1.1 (Int.toNat (1:Int)) ([]:List Int))),(5,.seq tI (List.getD y1.1 (Int.toNat (2:Int)) ([]:List Int))),(2,.box [iC (List.getD (List.getD y1.1 (Int.toNat (0:Int)) ([]:List Int)) (Int.toNat (0:Int)) (0:Int)),iC (List.getD (List.getD y1.1 (Int.toNat (0:Int)) ([]:List Int)) (Int.toNat (1:Int)) (0:Int)),.az,.all 4,.all 5]),(0,.box [iC (0:Int),iC (0:Int),.az,.az,.az]),(1,.seq (.own tI) y1.1)],6⟩) 1 [(Int.toNat (3:Int),0,3),(Int.toNat (1:Int),0,4),(Int.toNat (2:Int),0,5)] hX.own (by kernel_rfl) (iK si (iK pI (iK yD aa))))).trans (Le.rz [(4,4),(5,5),(2,2),(0,0)] [] (st':=⟨[(2,pV 0 0),(6,pV 2 0),(50,nV (List.getD y1.1 (Int.toNat (3:Int)) ([]:List Int)))],[(4,.seq tI (List.getD y1.1 (Int.toNat (1:Int)) ([]:List Int))),(5,.seq tI (List.getD y1.1 (Int.toNat (2:Int)) ([]:List Int))),(2,.box [iC (List.getD (List.getD y1.1 (Int.toNat (0:Int)) ([]:List Int)) (Int.toNat (0:Int)) (0:Int)),iC (List.getD (List.getD y1.1 (Int.toNat (0:Int)) ([]:List Int)) (Int.toNat (1:Int)) (0:Int)),.az,.all 4,.all 5]),(0,.box [iC (0:Int),iC (0:Int),.az,.az,.az])],6⟩) hX hF (by kernel_rfl))).trans (Le.re [(0,0),(2,2),(4,4),(5,5)] [8] (st':=⟨[(2,pV 0 0),(6,pV 2 0),(50,nV (List.getD y1.1 (Int.toNat (3:Int)) ([]:List Int)))],[(0,.box [iC (0:Int),iC (0:Int),.az,.az,.az]),(2,.box [iC (List.getD (List.getD y1.1 (Int.toNat (0:Int)) ([]:List Int)) (Int.toNat (0:Int)) (0:Int)),iC (List.getD (List.getD y1.1 (Int.toNat (0:Int)) ([]:List Int)) (Int.toNat (1:Int)) (0:Int)),.all 8,.all 4,.all 5]),(8,.seq (.st (.pair tI (.pair tI (.pair tI tI)))) ([]:List (Int×Int×Int×Int))),(4,.seq tI (List.getD y1.1 (Int.toNat (1:Int)) ([]:List Int))),(5,.seq tI (List.getD y1.1 (Int.toNat (2:Int)) ([]:List Int)))],9⟩) hX (by kernel_rfl))) (fun _=>rfl) (fun _=>rfl) (by kernel_rfl) (by kernel_rfl) (by kernel_rfl) Qk (fun dv Cz Z5 ld cx hX=> ?_) ?_;exact (bg ld fun J5 ld=>bg ld fun Aw ld=>bg ld fun vr ld=>bg ld fun yB ld=>bg ld fun Cv ld=>by (have ld:=ah ld;exact (by (subst ld;exact (by (exact ⟨⟨[(70,pV 2 2),(69,aV 10),(68,aV 9),(67,.agg [iC (List.getD dv (Int.toNat (0:Int)) (0:Int)),iC (List.getD dv (Int.toNat (1:Int)) (0:Int)),iC (List.getD dv (Int.toNat (2:Int)) (0:Int)),iC (List.getD dv (Int.toNat (3:Int)) (0:Int))]),(66,iV (List.getD dv (Int.toNat (3:Int)) (0:Int))),(65,.one (.ip tI (List.getD dv (Int.toNat (3:Int)) (0:Int)) 0)),(64,nV dv),(63,iV (List.getD dv (Int.toNat (2:Int)) (0:Int))),(62,.one (.ip tI (List.getD dv (Int.toNat (2:Int)) (0:Int)) 0)),(61,nV dv),(60,iV (List.getD dv (Int.toNat (1:Int)) (0:Int))),(59,.one (.ip tI (List.getD dv (Int.toNat (1:Int)) (0:Int)) 0)),(58,nV dv),(57,iV (List.getD dv (Int.toNat (0:Int)) (0:Int))),(56,.one (.ip tI (List.getD dv (Int.toNat (0:Int)) (0:Int)) 0)),(55,nV dv),(54,aV 8),(53,pV 2 2),(7,nV dv),(2,pV 0 0),(6,pV 2 0),(50,nV (List.getD y1.1 (Int.toNat (3:Int)) ([]:List Int)))],[(2,.box [iC (List.getD (List.getD y1.1 (Int.toNat (0:Int)) ([]:List Int)) (Int.toNat (0:Int)) (0:Int)),iC (List.getD (List.getD y1.1 (Int.toNat (0:Int)) ([]:List Int)) (Int.toNat (1:Int)) (0:Int)),.all 10,.all 4,.all 5]),(8,.gone),(10,.seq (.st (.pair tI (.pair tI (.pair tI tI)))) (Cz++([((List.getD dv (Int.toNat (0:Int)) (0:Int)),(List.getD dv (Int.toNat (1:Int)) (0:Int)),(List.getD dv (Int.toNat (2:Int)) (0:Int)),(List.getD dv (Int.toNat (3:Int)) (0:Int)))]:List (Int×Int×Int×Int)))),(9,.seq (.st (.pair tI (.pair tI (.pair tI tI)))) ([((List.getD dv (Int.toNat (0:Int)) (0:Int)),(List.getD dv (Int.toNat (1:Int)) (0:Int)),(List.getD dv (Int.toNat (2:Int)) (0:Int)),(List.getD dv (Int.toNat (3:Int)) (0:Int)))]:List (Int×Int×Int×Int))),(0,.box [iC (0:Int),iC (0:Int),.az,.az,.az]),(2,.box [iC (List.getD (List.getD y1.1 (Int.toNat (0:Int)) ([]:List Int)) (Int.toNat (0:Int)) (0:Int)),iC (List.getD (List.getD y1.1 (Int.toNat (0:Int)) ([]:List Int)) (Int.toNat (1:Int)) (0:Int)),.all 8,.all 4,.all 5]),(8,.seq (.st (.pair tI (.pair tI (.pair tI tI)))) Cz),(4,.seq tI (List.getD y1.1 (Int.toNat (1:Int)) ([]:List Int))),(5,.seq tI (List.getD y1.1 (Int.toNat (2:Int)) ([]:List Int)))],11⟩,tw.draw 16 (hrs:=[⟨oH,[]⟩,⟨oH,[0]⟩,⟨oH,[]⟩,⟨oH,[2]⟩,⟨oH,[2,3]⟩,⟨oH,[]⟩,⟨oH,[5]⟩,⟨oH,[5,6]⟩,⟨oH,[]⟩,⟨oH,[8]⟩,⟨oH,[8,9]⟩,⟨oH,[]⟩,⟨oH,[11]⟩,⟨oH,[11,12]⟩,⟨oH,[2,3,4,5,6,7,8,9,10,11,12,13]⟩,⟨(hT (.st (.pair tI (.pair tI (.pair tI tI))))),[2,3,4,5,6,7,8,9,10,11,12,13,14]⟩]) (tds:=[[0,1,2,3,4,5,6,7,8,9,10,11,12,13,14,15],[0,1,2,3,4,5,6,7,8,9,10,11,12,13,14,15,16],[0,1,2,3,4,5,6,7,8,9,10,11,12,13,14,15,16,17]]) (rs:=[(hT (.st (.pair tI (.pair tI (.pair tI tI))))),oH,oH]) hX (by kernel_rfl) (by kernel_rfl) (lx J5 Aw vr yB (aQ Cv)),Le.re [(0,0),(2,2),(10,8),(4,4),(5,5)] [] (st':=⟨[(2,pV 0 0),(6,pV 2 0),(50,nV (List.getD y1.1 (Int.toNat (3:Int)) ([]:List Int)))],[(0,.box [iC (0:Int),iC (0:Int),.az,.az,.az]),(2,.box [iC (List.getD (List.getD y1.1 (Int.toNat (0:Int)) ([]:List Int)) (Int.toNat (0:Int)) (0:Int)),iC (List.getD (List.getD y1.1 (Int.toNat (0:Int)) ([]:List Int)) (Int.toNat (1:Int)) (0:Int)),.all 8,.all 4,.all 5]),(8,.seq (.st (.pair tI (.pair tI (.pair tI tI)))) (Cz++([((List.getD dv (Int.toNat (0:Int)) (0:Int)),(List.getD dv (Int.toNat (1:Int)) (0:Int)),(List.getD dv (Int.toNat (2:Int)) (0:Int)),(List.getD dv (Int.toNat (3:Int)) (0:Int)))]:List (Int×Int×Int×Int)))),(4,.seq tI (List.getD y1.1 (Int.toNat (1:Int)) ([]:List Int))),(5,.seq tI (List.getD y1.1 (Int.toNat (2:Int)) ([]:List Int)))],9⟩) hX (by kernel_rfl)⟩))))));exact (af (bc hr EB fun gm CA hr=>HT.g hX [oH,(cl CA)] (aQ CA) (by (cases hr;exact (HT.ret (bN aa))))))))))))) fun _ kY Dd=>bb kY (fun nS kY=>HT.k hX [oH,oH,kT] (aQ nS) fun _ h=>(af (h.ht (Dd _ (ah kY))))) fun nS kY=>bg kY fun xq kY=>bb kY (fun sj kY=>HT.k hX [oH,oH,kF,oH,oH,oH,oH,oH,oH,kT] (oJ nS xq (bd xq) sj) fun _ h=>(af (h.ht (Dd _ (ah kY))))) fun sj kY=>bg kY fun J6 kY=>HT.k hX [oH,oH,kF,oH,oH,oH,oH,oH,oH,kF] (lx nS xq (bd xq) sj (oI J6 (bd J6) (show (4:Int)≠0 from by decide))) fun _ h=>(af (h.ht (Dd _ (ah kY)))))))
noncomputable def strings_LastIndexByte (a0:List UInt8)(a1:Int):Option (Int):=
 ai (a0.length<4611686018427387904)<|some (Lib.lastIndexByte ⟨a0.toArray⟩ a1)
theorem Ql {a0:List UInt8}{a1:Int}{r:Int}(h:strings_LastIndexByte a0 a1=some r):CallOK Tryz.prog 78 [.bl .str a0,.bl (.int .u8) a1] [⟨false,tI,r⟩] []:=by
 obtain ⟨hg,h⟩:=ig h;have h:=ah h;subst h;exact uo (ps:=[⟨.str,a0⟩,⟨(.int .u8),a1⟩]) (rs:=[⟨tI,Lib.lastIndexByte ⟨a0.toArray⟩ a1⟩]) ⟨_,Tryz.func78,by kernel_rfl,by kernel_rfl⟩ (by simp [Ty.simple]) (by simp [Ty.simple]) fun w S hgl=>by
  obtain ⟨m,hm⟩:=Glob.HJ hgl;exact (Tryz.strings_LastIndexByte ⟨a0.toArray⟩ _ hg w).mono fun e w' ⟨he,hw⟩=>⟨⟨_,he,rfl⟩,hw▸RowKit.Below.refl _ _⟩
noncomputable def fb (a0:List UInt8)(y1:Int)(ry:Int×List Bool):Option ((Int×List Bool)⊕(List Bool⊕Unit)):=
 bif (decide (ry.1<(ae (bG (cut a0 (aj .i64 y1 (1:Int)) (ae a0)))))) then
  ai ((0:Int)≤ry.1∧ry.1<ae (bG (cut a0 (aj .i64 y1 (1:Int)) (ae a0)))) (
   (show Option (Bool) from
    bif ((List.getD (bG (cut a0 (aj .i64 y1 (1:Int)) (ae a0))) (Int.toNat ry.1) (0:Int)) != (48:Int)) then
     some ((List.getD (bG (cut a0 (aj .i64 y1 (1:Int)) (ae a0))) (Int.toNat ry.1) (0:Int)) != (49:Int))
    else
     some false).bind fun UO=>
   bif UO then
    some (.inr (.inr ()))
   else
    ai (List.length ry.2+List.length ([((List.getD (bG (cut a0 (aj .i64 y1 (1:Int)) (ae a0))) (Int.toNat ry.1) (0:Int))==(49:Int))]:List Bool)≤av) (
     some (.inl ((aj .i64 ry.1 (1:Int)),(ry.2++([((List.getD (bG (cut a0 (aj .i64 y1 (1:Int)) (ae a0))) (Int.toNat ry.1) (0:Int))==(49:Int))]:List Bool))))))
 else
  some (.inr (.inl ry.2))
noncomputable def iz (a0:List UInt8):Option ((Int×Int×List Int×List Bool)×Bool):=
 (strings_LastIndexByte a0 (59:Int)).bind fun y1=>
 bif (decide (y1<(0:Int))) then
  some (((0:Int),(0:Int),([]:List Int),([]:List Bool)),false)
 else
  ai ((0:Int)≤y1∧y1≤ae a0) (
   (dq (cut a0 (0:Int) y1) (2:Int)).bind fun y5=>
   (show Option (Bool) from
    bif (!y5.2) then
     some true
    else
     ai ((0:Int)≤(0:Int)∧(0:Int)<ae y5.1) (
      some ((ae (List.getD y5.1 (Int.toNat (0:Int)) ([]:List Int))) != (2:Int)))).bind fun v8=>
   bif v8 then
    some (((0:Int),(0:Int),([]:List Int),([]:List Bool)),false)
   else
    ai ((0:Int)≤(0:Int)∧(0:Int)<ae y5.1) (
     ai ((0:Int)≤(0:Int)∧(0:Int)<ae (List.getD y5.1 (Int.toNat (0:Int)) ([]:List Int))) (
      ai ((0:Int)≤(1:Int)∧(1:Int)<ae (List.getD y5.1 (Int.toNat (0:Int)) ([]:List Int))) (
       ai ((0:Int)≤(1:Int)∧(1:Int)<ae y5.1) (
        ai (Int.toNat (1:Int)<List.length y5.1) (
         ai ((0:Int)≤(aj .i64 y1 (1:Int))∧(aj .i64 y1 (1:Int))≤ae a0) (
          ai (List.length (cut a0 (aj .i64 y1 (1:Int)) (ae a0))≤av) (
           (some (List.getD (List.getD y5.1 (Int.toNat (0:Int)) ([]:List Int)) (Int.toNat (0:Int)) (0:Int))).bind fun Td=>
           (some (List.getD (List.getD y5.1 (Int.toNat (0:Int)) ([]:List Int)) (Int.toNat (1:Int)) (0:Int))).bind fun UF=>
           (rounds (fb a0 y1) ((0:Int),([]:List Bool))).bind fun TB=>match TB with
            | .inl HF=>
             (ca (Td,UF,(List.getD y5.1 (Int.toNat (1:Int)) ([]:List Int)),HF)).bind fun HE=>
             bif (!HE) then
              some (((0:Int),(0:Int),([]:List Int),([]:List Bool)),false)
             else
              some ((Td,UF,(List.getD y5.1 (Int.toNat (1:Int)) ([]:List Int)),HF),true)
            | .inr Yn=>
             some (((0:Int),(0:Int),([]:List Int),([]:List Bool)),false)))))))))
theorem Qm {a0:List UInt8}{r:(Int×Int×List Int×List Bool)×Bool}(hr:iz a0=some r):CallOK Tryz.prog 30 [.bl .str a0] [⟨true,(.st (.pair tI (.pair tI (.pair aN (.sl .bool))))),r.1⟩,⟨false,.bool,r.2⟩] []:=
 fe Tryz.func30 rfl fun cx hX hF=>HT.g hX [] aa (bc hr Ql fun y1 bQ hr=>HT.g hX [oH,(cl bQ)] (aQ bQ) (HT.seq (HT.g hX [] aa (HT.cb hr (fun pZ hr=>HT.g hX [] aa (by (cases hr;exact (HT.ret (aD (bN aa)))))) fun pZ hr=>HT.skip (af (bg hr fun Tc hr=>bc hr EA fun y5 iL hr=>HT.g hX [oH,oH,oH,(cl iL)] (dT (UB Tc) iL) (HT.seq (HT.jn hr (fun v8=>up [0,2,4,5] [(30,bV v8)] [0,1] [] 0) (fun v8 hr=>HT.cb hr (fun nT hr=>HT.g hX [] aa (by (cases hr;exact (HT.ret (aD (bN aa)))))) fun nT hr=>HT.skip (af (bg hr fun xf hr=>bg hr fun sf hr=>bg hr fun si hr=>bg hr fun pI hr=>HT.dg hX [] (lx xf (bd xf) sf (bd sf) (lx xf (bd xf) si (bd si) (dT pI (bd pI)))) (bg hr fun yD hr=>HT.eg ⟨[(0,.one (.aB .str a0)),(2,pV 0 0),(4,iV y1),(7,pV 2 0)],[(2,.box [iC (List.getD (List.getD y5.1 (Int.toNat (0:Int)) ([]:List Int)) (Int.toNat (0:Int)) (0:Int)),iC (List.getD (List.getD y5.1 (Int.toNat (0:Int)) ([]:List Int)) (Int.toNat (1:Int)) (0:Int)),.row 1 (Int.toNat (1:Int)) 0,.az]),(0,.box [iC (0:Int),iC (0:Int),.az,.az]),(1,.seq (.own tI) y5.1)],3⟩ hX (by (refine (Le.take (own:=[]) (st':=⟨[(0,.one (.aB .str a0)),(2,pV 0 0),(4,iV y1),(7,pV 2 0)],[(1,.gone),(3,.seq tI (List.getD y5.1 (Int.toNat (1:Int)) ([]:List Int))),(2,.box [iC (List.getD (List.getD y5.1 (Int.toNat (0:Int)) ([]:List Int)) (Int.toNat (0:Int)) (0:Int)),iC (List.getD (List.getD y5.1 (Int.toNat (0:Int)) ([]:List Int)) (Int.toNat (1:Int)) (0:Int)),.all 3,.az]),(0,.box [iC (0:Int),iC (0:Int),.az,.az]),(1,.seq (.own tI) y5.1)],4⟩) 1 [(Int.toNat (1:Int),0,3)] hX.own (by kernel_rfl) (iK yD aa)).ht ?_;exact (HT.seq (bg hr fun AD hr=>bg hr fun yA hr=>HT.g hX [] (dT (Yb AD) yA) (bq hr fun hr=>bq hr fun hr=>HT.block (HT.lp hX hr (fun ry=>up [2,7,50,51] [(52,iV ry.1)] [0,4,3] [(2,.box [iC (List.getD (List.getD y5.1 (Int.toNat (0:Int)) ([]:List Int)) (Int.toNat (0:Int)) (0:Int)),iC (List.getD (List.getD y5.1 (Int.toNat (0:Int)) ([]:List Int)) (Int.toNat (1:Int)) (0:Int)),.all 3,.all 7]),(7,.seq .bool ry.2)] 3) (fun TB=>match TB with| .inl HF=>(.exit 0,up [2,7] [] [0,3] [(2,.box [iC (List.getD (List.getD y5.1 (Int.toNat (0:Int)) ([]:List Int)) (Int.toNat (0:Int)) (0:Int)),iC (List.getD (List.getD y5.1 (Int.toNat (0:Int)) ([]:List Int)) (Int.toNat (1:Int)) (0:Int)),.all 3,.all 7]),(7,.seq .bool HF)] 3)| .inr Yn=>(.ret,up [2] [(3,bV false)] [0] [] 0)) (fun TB=>match TB with| .inl HF=>fun hr=>(aI (af (HT.seq (bc hr uu fun HE Cp hr=>HT.g hX [oH,(cl Cp)] (aQ Cp) (HT.cb hr (fun Ax hr=>HT.g hX [] aa (by (cases hr;exact (HT.ret (aD (bN aa)))))) fun Ax hr=>HT.skip (af (HT.g hX [] aa (by (cases hr;exact (HT.ret (bN aa)))))))))))| .inr Yn=>fun hr=>by (cases hr;exact (br (aD (bN aa))))) fun ry x30 sx TC=>HT.g hX [] aa (HT.cj sx (fun Ek sx=>HT.seq (HT.block (bg sx fun TE sx=>HT.g hX [] (dT TE (bd TE)) (HT.seq (HT.jn sx (fun UO=>up [2,7,9,50,51,52] [(61,bV UO)] [0,2,4,3,7] [] 0) (fun UO sx=>HT.cb sx (fun Em sx=>HT.g hX [] aa (HT.xr hX (aD (br (aD (jE (TC _ (an sx)))))))) fun Em sx=>HT.skip (af (bg sx fun P4 sx=>HT.l hX (nO 4 [(hT .bool),(hT .bool)]) (aQ P4) (aE (af (HT.k hX [] aa fun _ h=>(aU (lN sx h)))))))) fun _ J7 TF=>bb J7 (fun xk J7=>HT.k hX [oH,oH,kT] (aQ xk) fun _ h=>(af (h.ht (TF _ (ah J7))))) fun xk J7=>HT.k hX [oH,oH,kF] (aQ xk) fun _ h=>(af (h.ht (TF _ (ah J7))))))))) fun Ek sx=>HT.xe hX (aT (aW (TC _ (an sx))))))))))))))) fun _ EC Yo=>bb EC (fun AK EC=>HT.k hX [oH,oH,kT] (aQ AK) fun _ h=>(af (h.ht (Yo _ (ah EC))))) fun AK EC=>bg EC fun TG EC=>HT.k hX [oH,oH,kF] (oI AK TG (bd TG)) fun _ h=>(af (h.ht (Yo _ (ah EC))))))))))))
noncomputable def gI (a0:Int×Int×List (Int×Int×Int×Int)):Option ((Int×Int×List (Int×Int×Int×Int))×Bool):=
 (bX (a0.1,a0.2.1,a0.2.2)).bind fun y1=>
 bif (!y1) then
  some (((0:Int),(0:Int),([]:List (Int×Int×Int×Int))),false)
 else
  some ((a0.1,a0.2.1,a0.2.2),true)
theorem ED {a0:Int×Int×List (Int×Int×Int×Int)}{r:(Int×Int×List (Int×Int×Int×Int))×Bool}(hr:gI a0=some r):CallOK Tryz.prog 79 [.mv (.st (.pair tI (.pair tI (.sl (.st (.pair tI (.pair tI (.pair tI tI)))))))) a0] [⟨true,(.st (.pair tI (.pair tI (.sl (.st (.pair tI (.pair tI (.pair tI tI)))))))),r.1⟩,⟨false,.bool,r.2⟩] []:=
 Ya Tryz.func79 rfl fun cx hX=>HT.g hX [] aa (HT.seq (bc hr xj fun y1 bQ hr=>HT.g hX [oH,(cl bQ)] (aQ bQ) (HT.cb hr (fun pZ hr=>HT.g hX [] aa (by (cases hr;exact (HT.ret (aD (bN aa)))))) fun pZ hr=>HT.skip (af (HT.g hX [] aa (by (cases hr;exact (HT.ret (bN aa)))))))))
noncomputable def jh (dv:List Int)(Cz:(List (Int×Int×Int×Int))):Option ((List (Int×Int×Int×Int))):=
 ai ((0:Int)≤(0:Int)∧(0:Int)<ae dv) (
  ai ((0:Int)≤(1:Int)∧(1:Int)<ae dv) (
   ai ((0:Int)≤(2:Int)∧(2:Int)<ae dv) (
    ai ((0:Int)≤(3:Int)∧(3:Int)<ae dv) (
     ai (List.length Cz+List.length ([((List.getD dv (Int.toNat (0:Int)) (0:Int)),(List.getD dv (Int.toNat (1:Int)) (0:Int)),(List.getD dv (Int.toNat (2:Int)) (0:Int)),(List.getD dv (Int.toNat (3:Int)) (0:Int)))]:List (Int×Int×Int×Int))≤av) (
      some (Cz++([((List.getD dv (Int.toNat (0:Int)) (0:Int)),(List.getD dv (Int.toNat (1:Int)) (0:Int)),(List.getD dv (Int.toNat (2:Int)) (0:Int)),(List.getD dv (Int.toNat (3:Int)) (0:Int)))]:List (Int×Int×Int×Int))))))))
noncomputable def fO (a0:List UInt8):Option ((Int×Int×List (Int×Int×Int×Int))×Bool):=
 (dq a0 (2:Int)).bind fun y1=>
 (show Option (Bool) from
  bif (!y1.2) then
   some true
  else
   ai ((0:Int)≤(0:Int)∧(0:Int)<ae y1.1) (
    bif ((ae (List.getD y1.1 (Int.toNat (0:Int)) ([]:List Int))) != (2:Int)) then
     some true
    else
     ai ((0:Int)≤(1:Int)∧(1:Int)<ae y1.1) (
      some ((Int.tmod (ae (List.getD y1.1 (Int.toNat (1:Int)) ([]:List Int))) (4:Int)) != (0:Int))))).bind fun v4=>
 bif v4 then
  some (((0:Int),(0:Int),([]:List (Int×Int×Int×Int))),false)
 else
  ai ((0:Int)≤(0:Int)∧(0:Int)<ae y1.1) (
   ai ((0:Int)≤(0:Int)∧(0:Int)<ae (List.getD y1.1 (Int.toNat (0:Int)) ([]:List Int))) (
    ai ((0:Int)≤(1:Int)∧(1:Int)<ae (List.getD y1.1 (Int.toNat (0:Int)) ([]:List Int))) (
     (some (List.getD (List.getD y1.1 (Int.toNat (0:Int)) ([]:List Int)) (Int.toNat (0:Int)) (0:Int))).bind fun WM=>
     (some (List.getD (List.getD y1.1 (Int.toNat (0:Int)) ([]:List Int)) (Int.toNat (1:Int)) (0:Int))).bind fun Z6=>
     ai ((0:Int)≤(1:Int)∧(1:Int)<ae y1.1) (
      ai (Int.toNat (1:Int)<List.length y1.1) (
       (tq (jh) (List.getD y1.1 (Int.toNat (1:Int)) ([]:List Int)) ([]:List (Int×Int×Int×Int))).bind fun TA=>
       (gI (WM,Z6,TA)).bind fun gm=>
       some ((gm.1.1,gm.1.2.1,gm.1.2.2),gm.2))))))
theorem Qn {a0:List UInt8}{r:(Int×Int×List (Int×Int×Int×Int))×Bool}(hr:fO a0=some r):CallOK Tryz.prog 31 [.bl .str a0] [⟨true,(.st (.pair tI (.pair tI (.sl (.st (.pair tI (.pair tI (.pair tI tI)))))))),r.1⟩,⟨false,.bool,r.2⟩] []:=
 UA false Tryz.func31 rfl fun cx hX hF lJ=>HT.g hX [] aa (bc hr EA fun y1 bQ hr=>HT.g hX [oH,(cl bQ)] (aQ bQ) (HT.seq (HT.jn hr (fun v4=>up [2,4] [(29,bV v4)] [0,1] [] 0) (fun v4 hr=>HT.cb hr (fun lQ hr=>HT.g hX [] aa (by (cases hr;exact (HT.ret (aD (bN aa)))))) fun lQ hr=>HT.skip (af (bg hr fun Ck hr=>bg hr fun tB hr=>bg hr fun pr hr=>HT.dg hX [] (lx Ck (bd Ck) tB (bd tB) (oJ Ck (bd Ck) pr (bd pr))) (bq hr fun hr=>bq hr fun hr=>HT.seq (bg hr fun pI hr=>bg hr fun yD hr=>bo hr fun TA Qk hr=>HT.ex ⟨[(2,pV 0 0),(4,aV 1),(6,pV 2 0)],[(2,.box [iC (List.getD (List.getD y1.1 (Int.toNat (0:Int)) ([]:List Int)) (Int.toNat (0:Int)) (0:Int)),iC (List.getD (List.getD y1.1 (Int.toNat (0:Int)) ([]:List Int)) (Int.toNat (1:Int)) (0:Int)),.az]),(0,.box [iC (0:Int),iC (0:Int),.az]),(1,.seq (.own tI) y1.1)],3⟩ hX (by (refine HT.chunk (fun (Cz:(List (Int×Int×Int×Int)))=>⟨[(2,pV 0 0),(6,pV 2 0),(44,nV (List.getD y1.1 (Int.toNat (1:Int)) ([]:List Int)))],[(0,.box [iC (0:Int),iC (0:Int),.az]),(2,.box [iC (List.getD (List.getD y1.1 (Int.toNat (0:Int)) ([]:List Int)) (Int.toNat (0:Int)) (0:Int)),iC (List.getD (List.getD y1.1 (Int.toNat (0:Int)) ([]:List Int)) (Int.toNat (1:Int)) (0:Int)),.all 6]),(6,.seq (.st (.pair tI (.pair tI (.pair tI tI)))) Cz)],7⟩) (n:=3) (rs:=[oH,oH,oH]) (st1:=⟨[(44,.one (.row 1 (Int.toNat (1:Int)) 0)),(43,.one (.bT 1 (Int.toNat (1:Int)) 1 0)),(42,aV 1),(2,pV 0 0),(4,aV 1),(6,pV 2 0)],[(2,.box [iC (List.getD (List.getD y1.1 (Int.toNat (0:Int)) ([]:List Int)) (Int.toNat (0:Int)) (0:Int)),iC (List.getD (List.getD y1.1 (Int.toNat (0:Int)) ([]:List Int)) (Int.toNat (1:Int)) (0:Int)),.az]),(0,.box [iC (0:Int),iC (0:Int),.az]),(1,.seq (.own tI) y1.1)],3⟩) (ks:=[2,6,44]) (ts:=44) (ta:=7) hX lJ chunkFn rfl rfl rfl rfl rfl rfl rfl (by kernel_rfl) (dT pI (bd pI)) (((((Le.gc (ks:=[2,6,44]) (ms:=[2,0,1]) (st':=⟨[(2,pV 0 0),(6,pV 2 0),(44,.one (.row 1 (Int.toNat (1:Int)) 0))],[(2,.box [iC (List.getD (List.getD y1.1 (Int.toNat (0:Int)) ([]:List Int)) (Int.toNat (0:Int)) (0:Int)),iC (List.getD (List.getD y1.1 (Int.toNat (0:Int)) ([]:List Int)) (Int.toNat (1:Int)) (0:Int)),.az]),(0,.box [iC (0:Int),iC (0:Int),.az]),(1,.seq (.own tI) y1.1)],3⟩) (cs:=[]) hX (rfl:some (⟨[(44,.one (.row 1 (Int.toNat (1:Int)) 0)),(43,.one (.bT 1 (Int.toNat (1:Int)) 1 0)),(42,aV 1),(2,pV 0 0),(4,aV 1),(6,pV 2 0)],[(2,.box [iC (List.getD (List.getD y1.1 (Int.toNat (0:Int)) ([]:List Int)) (Int.toNat (0:Int)) (0:Int)),iC (List.getD (List.getD y1.1 (Int.toNat (0:Int)) ([]:List Int)) (Int.toNat (1:Int)) (0:Int)),.az]),(0,.box [iC (0:Int),iC (0:Int),.az]),(1,.seq (.own tI) y1.1)],3⟩,([]:List Prop))=_) (by kernel_rfl)).2).trans (Le.take (own:=[]) (st':=⟨[(2,pV 0 0),(6,pV 2 0),(44,aV 3)],[(1,.gone),(3,.seq tI (List.getD y1.1 (Int.toNat (1:Int)) ([]:List Int))),(2,.box [iC (List.getD (List.getD y1.1 (Int.toNat (0:Int)) ([]:List Int)) (Int.toNat (0:Int)) (0:Int)),iC (List.getD (List.getD y1.1 (Int.toNat (0:Int)) ([]:List Int)) (Int.toNat (1:Int)) (0:Int)),.az]),(0,.box [iC (0:Int),iC (0:Int),.az]),(1,.seq (.own tI) y1.1)],4⟩) 1 [(Int.toNat (1:Int),0,3)] hX.own (by kernel_rfl) (iK yD aa))).trans (Le.rz [(2,2),(0,0)] [] (st':=⟨[(2,pV 0 0),(6,pV 2 0),(44,nV (List.getD y1.1 (Int.toNat (1:Int)) ([]:List Int)))],[(2,.box [iC (List.getD (List.getD y1.1 (Int.toNat (0:Int)) ([]:List Int)) (Int.toNat (0:Int)) (0:Int)),iC (List.getD (List.getD y1.1 (Int.toNat (0:Int)) ([]:List Int)) (Int.toNat (1:Int)) (0:Int)),.az]),(0,.box [iC (0:Int),iC (0:Int),.az])],4⟩) hX hF (by kernel_rfl))).trans (Le.re [(0,0),(2,2)] [6] (st':=⟨[(2,pV 0 0),(6,pV 2 0),(44,nV (List.getD y1.1 (Int.toNat (1:Int)) ([]:List Int)))],[(0,.box [iC (0:Int),iC (0:Int),.az]),(2,.box [iC (List.getD (List.getD y1.1 (Int.toNat (0:Int)) ([]:List Int)) (Int.toNat (0:Int)) (0:Int)),iC (List.getD (List.getD y1.1 (Int.toNat (0:Int)) ([]:List Int)) (Int.toNat (1:Int)) (0:Int)),.all 6]),(6,.seq (.st (.pair tI (.pair tI (.pair tI tI)))) ([]:List (Int×Int×Int×Int)))],7⟩) hX (by kernel_rfl))) (fun _=>rfl) (fun _=>rfl) (by kernel_rfl) (by kernel_rfl) (by kernel_rfl) Qk (fun dv Cz Z5 ld cx hX=> ?_) ?_;exact (bg ld fun J5 ld=>bg ld fun Aw ld=>bg ld fun vr ld=>bg ld fun yB ld=>bg ld fun Cv ld=>by (have ld:=ah ld;exact (by (subst ld;exact (by (exact ⟨⟨[(64,pV 2 2),(63,aV 8),(62,aV 7),(61,.agg [iC (List.getD dv (Int.toNat (0:Int)) (0:Int)),iC (List.getD dv (Int.toNat (1:Int)) (0:Int)),iC (List.getD dv (Int.toNat (2:Int)) (0:Int)),iC (List.getD dv (Int.toNat (3:Int)) (0:Int))]),(60,iV (List.getD dv (Int.toNat (3:Int)) (0:Int))),(59,.one (.ip tI (List.getD dv (Int.toNat (3:Int)) (0:Int)) 0)),(58,nV dv),(57,iV (List.getD dv (Int.toNat (2:Int)) (0:Int))),(56,.one (.ip tI (List.getD dv (Int.toNat (2:Int)) (0:Int)) 0)),(55,nV dv),(54,iV (List.getD dv (Int.toNat (1:Int)) (0:Int))),(53,.one (.ip tI (List.getD dv (Int.toNat (1:Int)) (0:Int)) 0)),(52,nV dv),(51,iV (List.getD dv (Int.toNat (0:Int)) (0:Int))),(50,.one (.ip tI (List.getD dv (Int.toNat (0:Int)) (0:Int)) 0)),(49,nV dv),(48,aV 6),(47,pV 2 2),(7,nV dv),(2,pV 0 0),(6,pV 2 0),(44,nV (List.getD y1.1 (Int.toNat (1:Int)) ([]:List Int)))],[(2,.box [iC (List.getD (List.getD y1.1 (Int.toNat (0:Int)) ([]:List Int)) (Int.toNat (0:Int)) (0:Int)),iC (List.getD (List.getD y1.1 (Int.toNat (0:Int)) ([]:List Int)) (Int.toNat (1:Int)) (0:Int)),.all 8]),(6,.gone),(8,.seq (.st (.pair tI (.pair tI (.pair tI tI)))) (Cz++([((List.getD dv (Int.toNat (0:Int)) (0:Int)),(List.getD dv (Int.toNat (1:Int)) (0:Int)),(List.getD dv (Int.toNat (2:Int)) (0:Int)),(List.getD dv (Int.toNat (3:Int)) (0:Int)))]:List (Int×Int×Int×Int)))),(7,.seq (.st (.pair tI (.pair tI (.pair tI tI)))) ([((List.getD dv (Int.toNat (0:Int)) (0:Int)),(List.getD dv (Int.toNat (1:Int)) (0:Int)),(List.getD dv (Int.toNat (2:Int)) (0:Int)),(List.getD dv (Int.toNat (3:Int)) (0:Int)))]:List (Int×Int×Int×Int))),(0,.box [iC (0:Int),iC (0:Int),.az]),(2,.box [iC (List.getD (List.getD y1.1 (Int.toNat (0:Int)) ([]:List Int)) (Int.toNat (0:Int)) (0:Int)),iC (List.getD (List.getD y1.1 (Int.toNat (0:Int)) ([]:List Int)) (Int.toNat (1:Int)) (0:Int)),.all 6]),(6,.seq (.st (.pair tI (.pair tI (.pair tI tI)))) Cz)],9⟩,tw.draw 16 (hrs:=[⟨oH,[]⟩,⟨oH,[0]⟩,⟨oH,[]⟩,⟨oH,[2]⟩,⟨oH,[2,3]⟩,⟨oH,[]⟩,⟨oH,[5]⟩,⟨oH,[5,6]⟩,⟨oH,[]⟩,⟨oH,[8]⟩,⟨oH,[8,9]⟩,⟨oH,[]⟩,⟨oH,[11]⟩,⟨oH,[11,12]⟩,⟨oH,[2,3,4,5,6,7,8,9,10,11,12,13]⟩,⟨(hT (.st (.pair tI (.pair tI (.pair tI tI))))),[2,3,4,5,6,7,8,9,10,11,12,13,14]⟩]) (tds:=[[0,1,2,3,4,5,6,7,8,9,10,11,12,13,14,15],[0,1,2,3,4,5,6,7,8,9,10,11,12,13,14,15,16],[0,1,2,3,4,5,6,7,8,9,10,11,12,13,14,15,16,17]]) (rs:=[(hT (.st (.pair tI (.pair tI (.pair tI tI))))),oH,oH]) hX (by kernel_rfl) (by kernel_rfl) (lx J5 Aw vr yB (aQ Cv)),Le.re [(0,0),(2,2),(8,6)] [] (st':=⟨[(2,pV 0 0),(6,pV 2 0),(44,nV (List.getD y1.1 (Int.toNat (1:Int)) ([]:List Int)))],[(0,.box [iC (0:Int),iC (0:Int),.az]),(2,.box [iC (List.getD (List.getD y1.1 (Int.toNat (0:Int)) ([]:List Int)) (Int.toNat (0:Int)) (0:Int)),iC (List.getD (List.getD y1.1 (Int.toNat (0:Int)) ([]:List Int)) (Int.toNat (1:Int)) (0:Int)),.all 6]),(6,.seq (.st (.pair tI (.pair tI (.pair tI tI)))) (Cz++([((List.getD dv (Int.toNat (0:Int)) (0:Int)),(List.getD dv (Int.toNat (1:Int)) (0:Int)),(List.getD dv (Int.toNat (2:Int)) (0:Int)),(List.getD dv (Int.toNat (3:Int)) (0:Int)))]:List (Int×Int×Int×Int))))],7⟩) hX (by kernel_rfl)⟩))))));exact (af (bc hr ED fun gm CA hr=>HT.g hX [oH,(cl CA)] (aQ CA) (by (cases hr;exact (HT.ret (bN aa))))))))))))) fun _ kY Dd=>bb kY (fun nS kY=>HT.k hX [oH,oH,kT] (aQ nS) fun _ h=>(af (h.ht (Dd _ (ah kY))))) fun nS kY=>bg kY fun xq kY=>bb kY (fun sj kY=>HT.k hX [oH,oH,kF,oH,oH,oH,oH,oH,oH,kT] (oJ nS xq (bd xq) sj) fun _ h=>(af (h.ht (Dd _ (ah kY))))) fun sj kY=>bg kY fun J6 kY=>HT.k hX [oH,oH,kF,oH,oH,oH,oH,oH,oH,kF] (lx nS xq (bd xq) sj (oI J6 (bd J6) (show (4:Int)≠0 from by decide))) fun _ h=>(af (h.ht (Dd _ (ah kY)))))))
noncomputable def ei (a0:Int×Int×List Int×List Bool)(cR:List Int)(ji:Int×Int):Option ((Int×Int)⊕(Int)):=
 bif (decide (ji.2<(ae cR))) then
  (show Option (Int) from
   ai ((0:Int)≤ji.2∧ji.2<ae cR) (
    ai ((0:Int)≤ji.2∧ji.2<ae a0.2.2.2) (
     bif (List.getD a0.2.2.2 (Int.toNat ji.2) false) then
      some (aj .i64 ji.1 (List.getD cR (Int.toNat ji.2) (0:Int)))
     else
      some ji.1))).bind fun MD=>
  some (.inl (MD,(aj .i64 ji.2 (1:Int))))
 else
  some (.inr ji.1)
noncomputable def ek (a0:Int×Int×List Int×List Bool)(s8:Int×List Int)(F4:Int×List Int)(oi:Int×List Int):Option ((Int×List Int)⊕(List Int)):=
 bif (decide (oi.1<a0.2.1)) then
  (cH (a0.1,a0.2.1,a0.2.2.1,a0.2.2.2) F4.1 oi.1).bind fun TH=>
  ai ((0:Int)≤TH∧TH<ae oi.2) (
   some (.inl ((aj .i64 oi.1 (1:Int)),(List.set oi.2 (Int.toNat TH) (aj .i64 (List.getD oi.2 (Int.toNat TH) (0:Int)) (List.getD s8.2 (Int.toNat F4.1) (0:Int)))))))
 else
  some (.inr oi.2)
noncomputable def eo (a0:Int×Int×List Int×List Bool)(s8:Int×List Int)(F4:Int×List Int):Option ((Int×List Int)⊕(List Int)):=
 bif (decide (F4.1<(ae s8.2))) then
  ai ((0:Int)≤F4.1∧F4.1<ae s8.2) (
   (rounds (ek a0 s8 F4) ((0:Int),F4.2)).bind fun ME=>
   some (.inl ((aj .i64 F4.1 (1:Int)),ME)))
 else
  some (.inr F4.2)
noncomputable def ep (a0:Int×Int×List Int×List Bool)(a1:Int)(s8:Int×List Int):Option ((Int×List Int)⊕(List Int)):=
 bif (decide (s8.1<a1)) then
  (rounds (eo a0 s8) ((0:Int),(List.replicate (Int.toNat a0.1) (0:Int)))).bind fun UP=>
  some (.inl ((aj .i64 s8.1 (1:Int)),UP))
 else
  some (.inr s8.2)
noncomputable def dE (a0:Int×Int×List Int×List Bool)(a1:Int):Option (Int×Bool):=
 (show Option (Bool) from
  (ca (a0.1,a0.2.1,a0.2.2.1,a0.2.2.2)).bind fun HC=>
  bif (!HC) then
   some true
  else
   (bj a1 (0:Int) (12:Int)).bind fun Yp=>
   some (!Yp)).bind fun v2=>
 bif v2 then
  some ((0:Int),false)
 else
  ai ((0:Int)≤a0.1∧a0.1≤4294967296) (
   ai ((0:Int)≤(0:Int)∧(0:Int)<ae (List.replicate (Int.toNat a0.1) (0:Int))) (
    (rounds (ep a0 a1) ((0:Int),(List.set (List.replicate (Int.toNat a0.1) (0:Int)) (Int.toNat (0:Int)) (1:Int)))).bind fun cR=>
    (rounds (ei a0 cR) ((0:Int),(0:Int))).bind fun uA=>
    some (uA,true)))
theorem J8 {a0:Int×Int×List Int×List Bool}{a1:Int}{r:Int×Bool}(hr:dE a0 a1=some r):CallOK Tryz.prog 19 [.bl (.st (.pair tI (.pair tI (.pair aN (.sl .bool))))) a0,.bl tI a1] [⟨false,tI,r.1⟩,⟨false,.bool,r.2⟩] []:=
 fe Tryz.func19 rfl fun cx hX hF=>HT.g hX [] aa (HT.seq (HT.jn hr (fun v2=>up [1,2] [(21,bV v2)] [0] [] 0) (fun v2 hr=>HT.cb hr (fun nj hr=>HT.g hX [] aa (by (cases hr;exact (HT.ret (aD (bN aa)))))) fun nj hr=>HT.skip (af (bg hr fun Er hr=>HT.g hX [oH,oH,(hT tI)] (aQ (Rd Er)) (bg hr fun Dc hr=>HT.g hX [] (dT Dc (bd Dc)) (HT.seq (HT.g hX [] aa (HT.block (HT.lp hX hr (fun s8=>up [2,6,27] [(28,iV s8.1)] [0] [(1,.seq tI s8.2)] 0) (fun cR=>(.exit 0,up [2,6] [] [0] [(1,.seq tI cR)] 0)) (fun cR hr=>(aI (af (HT.g hX [] aa (HT.seq (HT.g hX [] aa (HT.block (HT.lp hX hr (fun ji=>up [2,59,60] [(11,iV ji.1),(61,iV ji.2)] [0,1] [] 0) (fun uA=>(.exit 6,up [] [(11,iV uA)] [] [] 0)) (fun uA hr=>(aI (af (HT.g hX [] aa (by (cases hr;exact (HT.ret (bN aa)))))))) fun ji WD gg Ei=>HT.g hX [] aa (HT.cj gg (fun uq gg=>HT.jn gg (fun MD=>up [2,59,60,61] [(11,iV MD)] [0,1] [] 0) (fun MD gg=>HT.k hX [] aa fun _ h=>(aU (lN gg h))) fun _ k9 JZ=>HT.block (bg k9 fun qf k9=>HT.g hX [] (dT qf (bd qf)) (bg k9 fun Cu k9=>HT.g hX [] (aQ Cu) (HT.cb k9 (fun Jp k9=>HT.k hX [] aa fun _ h=>(aE (af (h.ht (JZ _ (ah k9)))))) fun Jp k9=>HT.skip (aE (af (HT.re hX (JZ _ (ah k9))))))))) fun uq gg=>HT.xe hX (aT (aW (Ei _ (an gg))))))))))))) fun s8 x25 EE Xg=>HT.g hX [] aa (HT.cj EE (fun Ax EE=>HT.seq (HT.block (HT.g hX [oH,oH,(hT tI)] (aQ (Rd Er)) (HT.seq (HT.g hX [] aa (HT.block (HT.lp hX EE (fun F4=>up [2,7,27,28,33,34] [(35,iV F4.1)] [0,1] [(2,.seq tI F4.2)] 0) (fun UP=>(.exit 2,up [2,7,27,28] [] [0] [(2,.seq tI UP)] 0)) (fun UP EE=>(aI (af (HT.l hX [] aa (aE (af (HT.k hX [] aa fun _ h=>(aU (lN EE h))))))))) fun F4 x32 AL Xh=>HT.g hX [] aa (HT.cj AL (fun Ps AL=>HT.seq (HT.block (bg AL fun TI AL=>HT.g hX [] (dT TI (bd TI)) (HT.g hX [] aa (HT.block (HT.lp hX AL (fun oi=>up [2,7,8,9,27,28,33,34,35,41] [(42,iV oi.1)] [0,1] [(2,.seq tI oi.2)] 0) (fun ME=>(.exit 4,up [2,7,27,28,33,34,35] [] [0,1] [(2,.seq tI ME)] 0)) (fun ME AL=>(aI (aE (af (HT.k hX [] aa fun _ h=>(aU (lN AL h))))))) fun oi Yl lU JH=>HT.g hX [] aa (HT.cj lU (fun uw lU=>HT.seq (HT.block (HT.g hX [] aa (bc lU AE fun TH TJ lU=>bg lU fun MI lU=>HT.l hX (nO 4 [(cl TJ)]) (lx TJ MI (bd MI) MI (aQ (bd MI))) (aE (af (HT.k hX [] aa fun _ h=>(aU (lN lU h))))))))) fun uw lU=>HT.xe hX (aT (aW (JH _ (an lU))))))))))) fun Ps AL=>HT.xe hX (aT (aW (Xh _ (an AL)))))))))))) fun Ax EE=>HT.xe hX (aT (aW (Xg _ (an EE))))))))))))) fun _ ay ez=>bc ay uu fun HC yu ay=>bb ay (fun Eu ay=>HT.k hX [oH,(cl yu),oH,kT] (dT yu Eu) fun _ h=>(af (h.ht (ez _ (ah ay))))) fun Eu ay=>bc ay gE fun Yp TK ay=>HT.k hX [oH,(cl yu),oH,kF,oH,(cl TK)] (oI yu Eu TK) fun _ h=>(af (h.ht (ez _ (ah ay))))))
end Go.Proofs
