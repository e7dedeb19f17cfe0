import Derived.Test.YtjnkhcgmgkhnaaaGreatDoorJournalGenA
import Derived.Test.YtjnkhcgmgkhnaaaGreatDoorProg
set_option linter.all false
open Array renaming getElem?_eq_some_iff→ϝ,getElem?_modify→aa5
open Go renaming Value→π,World→Ε,Calls→aaW
open Go.ByteArray renaming toList_eq→aey
open Go.Extern.AbiNoEscape renaming same→agq
open Go.Ide.CallOK renaming sF→ad7
open Go.Ide.Glob renaming ok→adm,vc→aeW
open Go.Ide.HT renaming g→θ,block→ο,seq→φ,ret→Δ,skip→Θ,k→Υ,cb→Φ,lp→ϧ,jn→ϰ,wH→adO,isNil→afJ
open Go.Ide.Ty renaming simple→aca
open Go.Lib renaming itoa→ϡ,cell_of_heap→Ϯ,parseIntB→aaJ,IsBuilderF→aa1,indexByte→acv,byteCells→acw,contains→acL,BuilderAtF→adt,cut→adB,frozen_of_heap→adR,bytesWorld→adU,strCells→afj,byteCells_length→afB
open Go.Lib.BuilderAtF renaming put→ahG
open Go.Lib.IsBuilderF renaming of→ahH
open Go.Oper renaming upon_value→aei
open Go.Proofs.Tryz renaming prog→ν,underlying9→aat,underlying22→abx,strconv_ParseInt_10_at64_ok→abZ,underlying91→acd,func119→acu,ntmps119→acM,ntmps91→afb,func47→afr,func91→afs,underlying205→afM,ntmps96→ahE,ntmps47→ahF,func96→ahU,func49→ahV,func13→ahW,func33→ahX
open Go.Result renaming andThen→aaU
open Go.RowKit.Below renaming heap_setCell→ab4,refl→afL
open Go.World renaming setCell→aeY,shape?→ag1
open Int renaming toNat→δ
open List renaming getD→ε,length→ζ,set→aaj
open Nat renaming le_refl→ς,le_of_ble_eq_true→ϑ,lt_of_lt_of_le→ϕ
open Option renaming map_eq_some_iff→aeR
namespace Go.Proofs
open Go.Ide
noncomputable section
section
open Go.RowKit
theorem Tryz.Zt:(Tryz.prog.info? 93).map (·.size)=some 2:=by kernel_rfl
theorem Tryz.P6:liesAt ν Tryz.prog.depth 93 (2/Tryz.prog.cellsOf 93) 0 93 1=true:=by kernel_rfl
theorem Tryz.Ap:(Tryz.prog.info? 5).map (λi=>(i.zero,i.size,i.bytes))=some (some (.int .u8 0),1,1):=by kernel_rfl
set_option maxHeartbeats 1000000 in
set_option maxRecDepth 100000 in
theorem Dy (b:Nat)(w:Ε)(h0:w.cell? ⟨b,0,none⟩=some (.pointer none))(hsh:w.shape? b=some (93,2))(UP:w.frozen? ⟨b,0,none⟩=false):
 aaW ν 96 #[.pointer (some ⟨b,0,none⟩)] w λe w'=>e= .returned (.tuple #[])/\w'=w.setCell ⟨b,0,none⟩ (.pointer (some ⟨b,0,none⟩)):=by
 obtain ⟨j,hj,hjs⟩:=aeR.1 Tryz.Zt
 go_enter ahU,ahE
 go_wp2
 rw [Lib.run_to_unsafe w ⟨b,0,none⟩ acd afM hj (by rw [hjs];decide) hsh (Nat.zero_lt_succ 1)];simp only [aaU];rw [aei]
 go_wp2
 rw [run_callFunc_extern Tryz.func137 (by kernel_rfl) (by kernel_rfl) (by kernel_rfl) (e:=agq) (by kernel_rfl)];rw [Lib.run_noEscape];simp only [aaU];rw [aei]
 go_wp2
 rw [Lib.run_from_unsafe w ⟨b,0,none⟩ afM acd hj hsh Tryz.P6];simp only [aaU];rw [aei]
 go_wp2
 go_end0
 exact ⟨rfl,rfl⟩
set_option maxHeartbeats 1000000 in
set_option maxRecDepth 100000 in
theorem GC (b:Nat)(w:Ε)(h0:w.cell? ⟨b,0,none⟩=some (.pointer (some ⟨b,0,none⟩))):
 aaW ν 96 #[.pointer (some ⟨b,0,none⟩)] w λe w'=>e= .returned (.tuple #[])/\w'=w:=by
 obtain ⟨j,hj,_⟩:=aeR.1 Tryz.Zt
 go_enter ahU,ahE
 go_wp2
 rw [Lib.run_neq_ptr_same w _ acd hj]
 go_wp2
 go_end0
 exact ⟨rfl,rfl⟩
theorem P7 (b:Nat)(p v:π)(w:Ε)(hp:p= .pointer none\/p= .pointer (some ⟨b,0,none⟩))(j:w.heap[b]? =some (.cells #[p,v] 93 (0,0))):
 aaW ν 96 #[.pointer (some ⟨b,0,none⟩)] w λe w'=>e= .returned (.tuple #[])/\w'.heap[b]? =some (.cells #[.pointer (some ⟨b,0,none⟩),v] 93 (0,0))/\bU [b] w w'/\(∀i,i≠b->w'.heap[i]? =w.heap[i]?)/\w'.heap.size=w.heap.size:=by
 have o:w.cell? ⟨b,0,none⟩=some p:=by rw [Ϯ j];rfl
 rcases hp with rfl|rfl
 refine (Dy b w o (by simp [ag1,j]) (adR j 0)).mono ?_;rintro e w' ⟨rfl,rfl⟩;exact ⟨rfl,by simp [aeY,aa5,j],bU.setCell w ⟨b,0,none⟩ _,λi r=>ab4 w ⟨b,0,none⟩ _ i r,by simp⟩;refine (GC b w o).mono ?_;rintro e w' ⟨rfl,rfl⟩;exact ⟨rfl,j,bU.refl _ _,λ_ _=>rfl,rfl⟩
set_option maxHeartbeats 2000000 in
set_option maxRecDepth 100000 in
theorem Xq:Tm ν 47 93 5:=by
 refine ⟨⟨_,afr,by kernel_rfl,by kernel_rfl⟩,λb p v own xs s w hp hb iH Bl hlen=> ?_⟩;obtain ⟨i0,hi,Ix,Se,PF⟩:=info_parts Tryz.Ap
 go_enter afr,ahF
 go_wp2_with (go_at_call 96;refine (P7 b p v w hp hb).mono ?_)
 rintro e w1 ⟨rfl,Gg,Hj,ho1,I4⟩;have Om:tV own w1 5 v (lh xs):=Bl.bJ λg hg=>ho1 g (λe=>iH (by rw [hg,e]));have c0:w1.cell? ⟨b,0,none⟩=some (.pointer (some ⟨b,0,none⟩)):=by rw [Ϯ Gg];rfl
 have c1:w1.cell? ⟨b,1,none⟩=some v:=by rw [Ϯ Gg];rfl
 go_wp2_with (at_builtin;refine tM rfl _ _ 22 9 rfl abx aat hi Ix Se PF Om hlen rfl rfl ?_)
 intro v' IH w2 JO On sY;have hlt:b<w1.heap.size:=(ϝ.1 Gg).1;have s7:w2.heap[b]? =some (.cells #[.pointer (some ⟨b,0,none⟩),v] 93 (0,0)):=by
  rw [sY.block b hlt (λh=>iH (by rw [Option.mem_toList] at h;exact h))];exact Gg
 have d0:w2.cell? ⟨b,0,none⟩=some (.pointer (some ⟨b,0,none⟩)):=by rw [Ϯ s7];rfl
 have d1:w2.cell? ⟨b,1,none⟩=some v:=by rw [Ϯ s7];rfl
 have f1:w2.frozen? ⟨b,1,none⟩=false:=adR s7 1;have Gd:IH≠some b:=λh=>by
  rcases On with e|e
  exact iH (e▸h);rw [e] at h;injection h with h;omega
 obtain ⟨ao,n',cap,rfl⟩: ∃ao n' cap,v'= .slice ao n' cap:=by
  cases IH with
  |none=>exact ⟨_,_,_,JO.1⟩
  |some g=>obtain ⟨cap,_,h,_⟩:=JO;exact ⟨_,_,_,h⟩
 clear Bl Om
 go_wp2
 go_ret2
 refine ⟨⟨_,rfl⟩,.slice ao n' cap,IH,by simp [aeY,aa5,s7],Gd,JO.bJ λg hg=>ab4 w2 ⟨b,1,none⟩ _ g (λe=>Gd (by rw [hg,e])),?_,?_⟩;rcases On with e|e
 exact .inl e;exact .inr λg hg=>by rw [e] at hg;injection hg with hg;omega
 have up: ∀{F:List Nat} {a b':Ε},(∀x∈F,x∈b::own.toList)->bU F a b'->bU (b::own.toList) a b':=λhF h=>⟨h.os,h.tape,h.output,h.size,λi hi hn=>h.block i hi (λhx=>hn (hF i hx)),h.sz⟩;exact ((up (by simp) Hj).trans (up (λx hx=>List.mem_cons_of_mem _ hx) sY)).trans (up (by simp) (bU.setCell w2 ⟨b,1,none⟩ _))
theorem lJ (w:Ε)(g n:Nat):(w.drew.freeze ⟨g,0,none⟩ n).os=w.os/\(w.drew.freeze ⟨g,0,none⟩ n).tape=w.tape/\(w.drew.freeze ⟨g,0,none⟩ n).output=w.output/\w.heap.size<=(w.drew.freeze ⟨g,0,none⟩ n).heap.size/\ ∀i,g≠i->(w.drew.freeze ⟨g,0,none⟩ n).heap[i]? =w.heap[i]? :=by
 have j:w.drew.heap=w.heap:=rfl;unfold World.freeze;split;exact ⟨rfl,rfl,rfl,ς _,λ_ _=>rfl⟩;refine ⟨rfl,rfl,rfl,?_,λi o=> ?_⟩;simp [j];simp [j,aa5,o]
set_option maxHeartbeats 2000000 in
set_option maxRecDepth 100000 in
theorem Xr:Tn ν 49 93 5:=by
 refine ⟨⟨_,ahV,by kernel_rfl,by kernel_rfl⟩,λb p v own xs w hp hb iH Bl hx=> ?_⟩;cases own with
 |none=>exact absurd Bl.2 (by cases xs with|nil=>exact absurd rfl hx|cons=>simp [lh])
 |some g=>
  obtain ⟨cap,cur,rfl,hg,hn,U8,hcs,UT⟩:=Bl;rw [iR] at hn UT hb;have En:xs.length≠0:=by simpa using hx
  have c1:w.drew.cell? ⟨b,1,none⟩=some (.slice (some ⟨g,0,none⟩) xs.length cap):=by
   have:w.drew.heap[b]? =some (.cells #[p,.slice (some ⟨g,0,none⟩) xs.length cap] 93 (0,0)):=hb;rw [Ϯ this];rfl
  have hSD:(Builtin.unsafeSliceData_ #[22] 163 #[.slice (some ⟨g,0,none⟩) xs.length cap]).run ν w.drew= .ok (.pointer (some ⟨g,0,none⟩)) w.drew:=
   Lib.run_unsafeSliceData_row _ _ _ _ _ _ (by omega)
  have HH:dA w.drew g cur:=⟨5,0,0,hg,.inl rfl⟩;have hUS:(Builtin.unsafeString_ #[163,3] 9 #[.pointer (some ⟨g,0,none⟩),.int .i64 xs.length]).run ν w.drew= .ok (.string ⟨xs.toArray⟩) (w.drew.freeze ⟨g,0,none⟩ xs.length):=by
   refine Lib.run_unsafeString_row w.drew 163 3 9 5 Tryz.underlying163 Tryz.pA.cellsByte g cur.size (by have oE:w.drew.heap[g]? =some (.cells cur 5 (0,0)):=hg;simp [ag1,oE]) xs hx (by omega) (by unfold maxLen at U8;omega) ?_;intro j x hj;rw [cw,HH.cell,Nat.zero_add,<-Array.getElem?_toList];have:(lh xs)[j]? =some (.int .u8 x.toNat):=by simp [lh,hj]
   rw [<-UT,List.getElem?_take] at this;split at this;exact this;cases this
  clear HH
  go_enter ahV,Tryz.ntmps49
  go_wp2
  go_region
  all_goals (go_wp2;go_ret;exact ⟨rfl,(lJ w g xs.length).1,(lJ w g xs.length).2.1,(lJ w g xs.length).2.2.1,(lJ w g xs.length).2.2.2.1,λi _ iH=>(lJ w g xs.length).2.2.2.2 i λe=>iH (congrArg some e)⟩)
end
section
open Go.RowKit
theorem rP {w w':Ε}(h:w'=w\/ ∃t,w'=adU w 5 t):Below w.heap.size w w':=by
 rcases h with rfl|⟨t,rfl⟩
 exact Below.refl _ _;unfold adU;exact Lib.below_freeze ((Below.drew (Below.refl _ w)).alloc (ς _) _) (p:=⟨w.heap.size,_,none⟩) (ς _) _
theorem qW {a b c:Ε}(h:Below a.heap.size a b)(k:Below b.heap.size b c):Below a.heap.size a c:=
 h.trans ⟨k.os,k.tape,k.output,k.size,λi j=>k.block i (ϕ j h.size)⟩
theorem rQ (v:Int)(w:Ε):aaW ν 91 #[.int .i64 v] w λe w'=>e= .returned (.bool (decide (-1000000000000000<=v)&&decide (v<=1000000000000000)))/\w'=w:=by
 by_cases h0: -1000000000000000<=v
 ·by_cases h1:v<=1000000000000000
  ·go_enter afs,afb
   go_wp2
   go_ret
   exact ⟨by simp [h0,h1],rfl⟩
  ·go_enter afs,afb
   go_wp2
   go_ret
   exact ⟨by simp [h0,h1],rfl⟩
 ·go_enter afs,afb
  go_wp2
  go_ret
  exact ⟨by rw [show decide (-1000000000000000<=v)=false by simp only [decide_eq_false_iff_not];omega];rfl,rfl⟩
theorem Bq (v:Int)(h0: -9223372036854775808<=v)(h1:v<=9223372036854775807)(w:Ε)(t:TypeId)(fr:Nat×Nat)(ht:w.heap[1]? =some (.cells pow10Cells t fr)):
 aaW ν 13 #[.int .i64 v] w λe w'=>e= .returned (.string ⟨(ϡ v).toArray⟩)/\Below w.heap.size w w':=by
 go_enter ahW,Tryz.ntmps13
 go_wp2_with (go_at_call 44;refine (Tryz.strconv_FormatInt_10 v h0 h1 w (JM ht)).mono ?_)
 rintro e w2 ⟨rfl,k,os,rfl⟩;have hb:=Lib.below_grow w.heap.size w (ς _) k os;generalize Go.Sort.grow (w.drewN k) os=w2 at hb⊢
 go_wp2
 go_ret
 exact ⟨rfl,hb⟩
set_option maxRecDepth 100000 in
theorem TG (s:ByteArray)(v:Int)(h:aaJ 64 s.data.toList= .ok v)(hs:s.size<=281474976710656)(w:Ε)(t:TypeId)(fr:Nat×Nat)(ht:w.heap[1]? =some (.cells pow10Cells t fr))(h1:1<w.heap.size)(Xs: -1000000000000000<=v)(Xt:v<=1000000000000000)(he:ByteArray.mk (ϡ v).toArray=s):
 aaW ν 119 #[.string s] w λe w'=>e= .returned (.tuple #[.int .i64 v,.bool true])/\Below w.heap.size w w':=by
 have TH:(decide (-1000000000000000<=v)&&decide (v<=1000000000000000))=true:=by simp [Xs,Xt]
 go_enter acu,acM
 go_wp2_with (go_at_call 143;refine (abZ _ (by omega) v h w).mono ?_)
 rintro e w1 ⟨rfl,Oo⟩;have hb:=rP Oo;have Pc:w1.heap[1]? =some (.cells pow10Cells t fr):=(hb.block 1 h1).trans ht;clear Oo h
 go_wp2_with (go_at_call 91;refine (rQ v w1).mono ?_)
 rintro e w2 ⟨rfl,rfl⟩;rw [TH]
 go_wp2_with (go_at_call 13;refine (Bq v (by omega) (by omega) w2 t fr Pc).mono ?_)
 rintro e w3 ⟨rfl,Ae⟩;rw [he]
 go_wp2
 go_ret2
 exact ⟨rfl,qW hb Ae⟩
set_option maxRecDepth 100000 in
theorem JP (s:ByteArray)(v:Int)(h:aaJ 64 s.data.toList= .ok v)(hs:s.size<=281474976710656)(w:Ε)(t:TypeId)(fr:Nat×Nat)(ht:w.heap[1]? =some (.cells pow10Cells t fr))(h1:1<w.heap.size)(Xs: -1000000000000000<=v)(Xt:v<=1000000000000000)(he:ByteArray.mk (ϡ v).toArray≠s):
 aaW ν 119 #[.string s] w λe w'=>e= .returned (.tuple #[.int .i64 0,.bool false])/\Below w.heap.size w w':=by
 have TH:(decide (-1000000000000000<=v)&&decide (v<=1000000000000000))=true:=by simp [Xs,Xt]
 go_enter acu,acM
 go_wp2_with (go_at_call 143;refine (abZ _ (by omega) v h w).mono ?_)
 rintro e w1 ⟨rfl,Oo⟩;have hb:=rP Oo;have Pc:w1.heap[1]? =some (.cells pow10Cells t fr):=(hb.block 1 h1).trans ht;clear Oo h
 go_wp2_with (go_at_call 91;refine (rQ v w1).mono ?_)
 rintro e w2 ⟨rfl,rfl⟩;rw [TH]
 go_wp2_with (go_at_call 13;refine (Bq v (by omega) (by omega) w2 t fr Pc).mono ?_)
 rintro e w3 ⟨rfl,Ae⟩;have WB:((ByteArray.mk (ϡ v).toArray).toList==s.toList)=false:=by
  rw [beq_eq_false_iff_ne];intro q;rw [aey,aey] at q;exact he (WideShapes.bytes_inj q)
 generalize ByteArray.mk (ϡ v).toArray=q at he WB⊢;clear he
 go_wp2
 go_ret2
 exact ⟨rfl,qW hb Ae⟩
set_option maxRecDepth 100000 in
theorem P8 (s:ByteArray)(v:Int)(h:aaJ 64 s.data.toList= .ok v)(hs:s.size<=281474976710656)(w:Ε)(TH:(decide (-1000000000000000<=v)&&decide (v<=1000000000000000))=false):
 aaW ν 119 #[.string s] w λe w'=>e= .returned (.tuple #[.int .i64 0,.bool false])/\Below w.heap.size w w':=by
 go_enter acu,acM
 go_wp2_with (go_at_call 143;refine (abZ _ (by omega) v h w).mono ?_)
 rintro e w1 ⟨rfl,Oo⟩;have hb:=rP Oo;clear Oo h
 go_wp2_with (go_at_call 91;refine (rQ v w1).mono ?_)
 rintro e w2 ⟨rfl,rfl⟩;rw [TH]
 go_wp2
 go_ret2
 exact ⟨rfl,hb⟩
set_option maxRecDepth 100000 in
theorem HJ (s:ByteArray)(h:aaJ 64 s.data.toList=aaJ 64 [])(hs:s.size<=281474976710656)(w:Ε)(ev:π)(hv:w.cell? ⟨4,0,none⟩=some ev)(HF:ev= .nilIface\/ ∃te pe,ev= .iface te pe):
 aaW ν 119 #[.string s] w λe w'=>e= .returned (.tuple #[.int .i64 0,.bool false])/\Below w.heap.size w w':=by
 go_enter acu,acM
 go_wp2_with (go_at_call 143;refine (Tryz.strconv_ParseInt_10_at64_syntax _ (by omega) h ev w hv HF).mono ?_)
 rintro e w1 ⟨N,rfl,_,_,hb⟩;clear h hv HF
 go_wp2
 go_ret2
 exact ⟨rfl,hb⟩
set_option maxRecDepth 100000 in
theorem JQ (s:ByteArray)(h:aaJ 64 s.data.toList= .range)(hs:s.size<=281474976710656)(w:Ε)(ev:π)(hv:w.cell? ⟨5,0,none⟩=some ev)(HF:ev= .nilIface\/ ∃te pe,ev= .iface te pe):
 aaW ν 119 #[.string s] w λe w'=>e= .returned (.tuple #[.int .i64 0,.bool false])/\Below w.heap.size w w':=by
 go_enter acu,acM
 go_wp2_with (go_at_call 143;refine (Tryz.strconv_ParseInt_10_at64_range _ (by omega) h ev w hv HF).mono ?_)
 rintro e w1 ⟨N,rfl,_,_,hb⟩;clear h hv HF
 go_wp2
 go_ret2
 exact ⟨rfl,hb⟩
end
noncomputable def qm (s:List UInt8):Int×Bool:=
 match aaJ 64 s with
 | .ok v=>if (-1000000000000000<=v/\v<=1000000000000000)/\ϡ v=s then (v,true) else (0,false)
 |_=>(0,false)
noncomputable def eD (a0:List UInt8):Option (Int×Bool):=
 br (a0.length<=281474976710656)<|some (qm a0)
theorem GD {a0:List UInt8}{r:Int×Bool}(h:eD a0=some r):CallOK ν 119 [.bZ .str a0] [⟨false,(.int .i64),r.1⟩,⟨false,.bool,r.2⟩] []:=by
 obtain ⟨p,h⟩:=fF h;have h:=bt h;subst h;exact qk (ps:=[⟨.str,a0⟩]) (rs:=[⟨.int .i64,(qm a0).1⟩,⟨.bool,(qm a0).2⟩]) ⟨_,acu,by kernel_rfl,by kernel_rfl⟩ (by simp [aca]) (by simp [aca]) λw S I=>by
  obtain ⟨_,t,fr,ht⟩:=Glob.pow I;obtain ⟨_,⟨h6,R,T,v6⟩,h7,U,c7,v7⟩:=I;have J:1<w.heap.size:=(ϝ.1 ht).1;have key:aaW ν 119 #[.string ⟨a0.toArray⟩] w λe w'=>e= .returned (.tuple #[.int .i64 (qm a0).1,.bool (qm a0).2])/\RowKit.Below w.heap.size w w':=by
   unfold qm;cases hp:aaJ 64 a0 with
   |ok v=>
    simp only;by_cases j: -1000000000000000<=v/\v<=1000000000000000;by_cases o:ϡ v=a0;rw [if_pos ⟨j,o⟩];exact TG ⟨a0.toArray⟩ v hp p w t fr ht J j.1 j.2 (by rw [o]);rw [if_neg λq=>o q.2];exact JP ⟨a0.toArray⟩ v hp p w t fr ht J j.1 j.2 (λq=>o (by injection q with q;exact List.toArray_inj q));rw [if_neg λq=>j q.1];exact P8 ⟨a0.toArray⟩ v hp p w (by
     rw [Bool.eq_false_iff];intro q;simp only [Bool.and_eq_true,decide_eq_true_eq] at q;exact j q)
   |range=>exact JQ ⟨a0.toArray⟩ hp p w U c7 v7
   |_=>exact HJ ⟨a0.toArray⟩ hp p w R T v6
  exact key.mono λe w' ⟨o,hw⟩=>⟨⟨_,o,rfl⟩,hw⟩
section
open Go.RowKit
theorem Xu (B b:Nat)(j:List π)(w:Ε)(h:aa1 93 5 B b j w):
 aaW ν 96 #[.pointer (some ⟨b,0,none⟩)] w λe w'=>e= .returned (.tuple #[])/\(adt 93 5 B b (.pointer (some ⟨b,0,none⟩)) j w'/\Below B w w'):=by
 rcases h with h|h
 refine (Dy b w h.cell0 h.shape h.frozen0).mono ?_;rintro e w' ⟨rfl,rfl⟩;exact ⟨rfl,h.used _,(Below.refl B w).setCell (p:=⟨b,0,none⟩) h.1 _⟩;refine (GC b w h.cell0).mono ?_;rintro e w' ⟨rfl,rfl⟩;exact ⟨rfl,h,Below.refl B _⟩
set_option maxHeartbeats 2000000 in
set_option maxRecDepth 100000 in
theorem Xv (B b:Nat)(bs:List π)(s:ByteArray)(w:Ε)(h:aa1 93 5 B b bs w)(hlen:bs.length+s.size<=140737488355328)(Zo:B<=w.heap.size):
 aaW ν 47 #[.pointer (some ⟨b,0,none⟩),.string s] w λe w'=>e= .returned (.tuple #[.int .i64 s.size,.nilIface])/\(adt 93 5 B b (.pointer (some ⟨b,0,none⟩)) (bs++afj s) w'/\Below B w w'):=by
 obtain ⟨i0,hi,Ix,Se,PF⟩:=info_parts Tryz.Ap
 go_enter afr,ahF
 go_wp2_with (go_at_call 96;refine (Xu B b bs _ h).mono ?_)
 rintro e w1 ⟨rfl,h1,Gg⟩;obtain ⟨hB,v,HH,uB,iH⟩:=h1;have c0:w1.cell? ⟨b,0,none⟩=some (.pointer (some ⟨b,0,none⟩)):=by rw [Ϯ HH];rfl
 have c1:w1.cell? ⟨b,1,none⟩=some v:=by rw [Ϯ HH];rfl
 go_wp2_with (at_builtin;refine Lib.wpList_append_own_stringF _ rfl _ _ 22 9 rfl B 5 i0 abx aat hi Ix Se PF _ _ _ rfl uB s rfl ?c3 ?c4 ?c5 ?_)
 case c3=>unfold maxLen;omega
 case c4=>omega
 case c5=>have:=Gg.size;omega
 intro v' w2 Gy Oq _;have hlt:b<w1.heap.size:=by
  rcases Nat.lt_or_ge b w1.heap.size with h'|h'
  exact h';simp [Array.getElem?_eq_none h'] at HH
 have s7:w2.heap[b]? =some (.cells #[.pointer (some ⟨b,0,none⟩),v] 93 (0,0)):=by
  rw [Oq.block b hlt (λe=>iH e.symm)];exact HH
 have d0:w2.cell? ⟨b,0,none⟩=some (.pointer (some ⟨b,0,none⟩)):=by rw [Ϯ s7];rfl
 have d1:w2.cell? ⟨b,1,none⟩=some v:=by rw [Ϯ s7];rfl
 have f1:w2.frozen? ⟨b,1,none⟩=false:=adR s7 1;obtain ⟨ao,n',cap,rfl⟩: ∃ao n' cap,v'= .slice ao n' cap:=by
  rcases Gy.2 with ⟨hv,_⟩|⟨g,cap,cur,fz,hv,_⟩
  exact ⟨_,_,_,hv⟩;exact ⟨_,_,_,hv⟩
 go_wp2
 go_ret2
 refine ⟨rfl,?_,?_⟩;exact ahG (T:=93) (e:=5) hB s7 (bs':=bs++afj s) (by simpa [Lib.strCells_length] using Gy) (by decide);exact (Gg.grown Oq (by have:=Gg.size;omega) (λk hk=>(uB.lt k hk).1)).setCell (p:=⟨b,1,none⟩) hB _
theorem HK {c:Int}{s:List UInt8}{r:Int×Bool}(h:eI c s=some r)(w:Ε)(o:adm w (There w)):
 aaW ν 82 #[.int .i64 c,.string ⟨s.toArray⟩] w λe w'=>e= .returned (.tuple #[.int .i64 r.1,.bool r.2])/\Below w.heap.size w w':=by
 refine ((CallOK.simple (ps:=[⟨.int .i64,c⟩,⟨.str,s⟩]) (rs:=[⟨.int .i64,r.1⟩,⟨.bool,r.2⟩]) (JN h) (by simp [aca]) (by simp [aca]) w o)).mono λe w' ⟨⟨v,p,j⟩,t⟩=> ?_;have j:v= .tuple #[.int .i64 r.1,.bool r.2]:=j;exact ⟨by rw [p,j],t⟩
def pO (acc:List UInt8)(c:Int)(l:List UInt8):List UInt8:=acc++(ϡ c++[32]++l++[10])
noncomputable def Lr:List (List UInt8)->Int->List UInt8->Option (List UInt8×Bool)
 |[],_,j=>some (j,true)
 |l::r,c,j=>bif acL l [10] then some ([],false) else
  (eI c l).bind λy=>
  br (-9223372036854775808<=y.1/\y.1<=9223372036854775807) (
   bif decide ((pO j y.1 l).length>16000) then some ([],false) else Lr r y.1 (pO j y.1 l))
theorem Dz {l:List UInt8}{r:List (List UInt8)}{c:Int}{acc:List UInt8}{o:List UInt8×Bool}(h:Lr (l::r) c acc=some o):
 (acL l [10]=true->o=([],false))/\(acL l [10]=false-> ∃j t,eI c l=some (j,t)/\ -9223372036854775808<=j/\j<=9223372036854775807/\
  ((pO acc j l).length>16000->o=([],false))/\((pO acc j l).length<=16000->Lr r j (pO acc j l)=some o)):=by
 unfold Lr at h;constructor;intro I;rw [I,cond_true] at h;injection h with h;exact h.symm;intro I;rw [I,cond_false] at h;obtain ⟨⟨j,t⟩,T,U⟩:=qP h;obtain ⟨J,p⟩:=fF U;refine ⟨j,t,T,J.1,J.2,λR=> ?_,λR=> ?_⟩;rw [show decide ((pO acc j l).length>16000)=true by simpa using R,cond_true] at p;injection p with p;exact p.symm;rw [show decide ((pO acc j l).length>16000)=false by simp only [decide_eq_false_iff_not];omega,cond_false] at p;exact p
theorem zE {B b:Nat}{I:List π}{w w':Ε}(h:aa1 93 5 B b I w)(U:Below w.heap.size w w'):aa1 93 5 B b I w':=by
 have key: ∀p,adt 93 5 B b p I w->adt 93 5 B b p I w':=λp ⟨hB,v,t,j,J⟩=>by
  have lt: ∀{k:Nat} {o:Obj},w.heap[k]? =some o->k<w.heap.size:=λh=>(ϝ.1 h).1;refine ⟨hB,v,(U.block b (lt t)).trans t,⟨j.1,?_⟩,J⟩;rcases j.2 with h|⟨g,cap,R,fz,hv,T,hg,r⟩
  exact .inl h;exact .inr ⟨g,cap,R,fz,hv,T,(U.block g (lt hg)).trans hg,r⟩
 rcases h with h|h
 exact .inl (key _ h);exact .inr (key _ h)
theorem yw {w w':Ε}(h:Below w.heap.size w w')(o:adm w (There w)):adm w' (There w'):=
 Glob.mono (λb j=>⟨ϕ j h.size,h.block b j⟩) o
set_option maxHeartbeats 4000000 in
set_option maxRecDepth 1000000 in
theorem MB (xs:List (List UInt8))(r:List UInt8×Bool)(a:Option Addr)(cap:Nat)(w:Ε)(hg:adm w (There w))(hn:xs.length<=1048576)(hl: ∀l∈xs,l.length<=1048576)(hc: ∀i (h:i<xs.length),∃bk o,a=some ⟨bk,o,none⟩/\bk<w.heap.size/\w.cell? ⟨bk,o+i,none⟩=some (.string ⟨xs[i].toArray⟩))(hcap:xs.length<=cap)(hr:Lr xs 0 []=some r):
 aaW ν 33 #[.slice a xs.length cap] w λe w'=>e= .returned (.tuple #[.string ⟨r.1.toArray⟩,.bool r.2])/\Below w.heap.size w w':=by
 go_enter ahX,Tryz.ntmps33
 go_wp2
 go_loopw [5,11] (λc i wr=> ∃(k:Nat) (ck:Int) (acc:List UInt8),k<=xs.length/\c= .int .i64 ck/\i= .int .i64 k/\Lr (xs.drop k) ck acc=some r/\aa1 93 5 w.heap.size w.heap.size (acw acc) wr/\Below w.heap.size w wr/\acc.length<=16000) (λ_ i _=>xs.length - (intOf i).toNat)
 case atStart=>
  exact ⟨0,0,[],Nat.zero_le _,rfl,rfl,hr,ahH (Lib.fresh_isBuilder 93 5 w),(Below.refl _ w).alloc (ς _) _,by simp⟩
 case round=>
  obtain ⟨k,ck,acc,hk,rfl,rfl,hj,hI,P9,qF⟩:=hrel;have R0:=yw P9 hg;have hlen:xs.length<=9223372036854775807:=by omega
  by_cases hlt:k<xs.length
  ·obtain ⟨bk,o,rfl,HH,fC⟩:=hc k hlt;have fC:wr.cell? ⟨bk,o+k,none⟩=some (.string ⟨xs[k].toArray⟩):=(World.cell?_of_block (P9.block bk HH)).trans fC;have zd:=hl _ (List.getElem_mem hlt);rw [List.drop_eq_getElem_cons hlt] at hj;generalize xs[k]=l at fC zd hj;obtain ⟨m,hm⟩:=aeW R0;have R1:Hid (adm wr (There wr)):=R0;have Xw:Hid (_=some r):=hj;have hm:Hid (∃m,wr.cell? ⟨0,0,none⟩=some (.int .i64 m)):=aeW R0;clear hc hr hl hg R0 hj
   go_wp2_with (go_at_call 81;obtain ⟨m,hm⟩:=hm;refine (Tryz.strings_Contains _ _ m wr (by show l.length<_;omega) hm).mono ?_)
   ·have R2:acL l [10]=true:=by assumption
    have hj:=(Dz Xw).1 R2;subst hj
    go_ret2
    exact ⟨rfl,P9⟩
   ·have R2:acL l [10]=false:=by assumption
    obtain ⟨y1,y2,hy,Zu,UX,Gd,TI⟩:=(Dz Xw).2 R2;have Xx:Hid ((pO acc y1 l).length>16000->r=([],false)):=Gd;have TJ:Hid ((pO acc y1 l).length<=16000->Lr (xs.drop (k+1)) y1 (pO acc y1 l)=some r):=TI;clear R2 hm Xw Gd TI;have hyB:Hid (eI ck l=some (y1,y2)):=hy;clear hy;refine (HK hyB _ R1).mono ?_;rintro e w2 ⟨rfl,s7⟩;have R1:Hid (adm w2 (There w2)):=yw s7 R1;obtain ⟨_,t,fr,ht⟩:=Glob.pow R1
    go_wp2_with (go_at_call 13;refine (Bq y1 Zu UX w2 t fr ht).mono ?_)
    rintro e w3 ⟨rfl,Ae⟩;clear ht;have TK:Below w.heap.size w w3:=P9.trans ((qW s7 Ae).mono P9.size);have Zv:aa1 93 5 w.heap.size w.heap.size (acw acc) w3:=zE hI (qW s7 Ae);have RQ:=Lib.itoa_length_le y1 Zu UX;have hqs:(ByteArray.mk (ϡ y1).toArray).size<=21:=RQ;have NW:(pO acc y1 l).length<=1100000:=by unfold pO;simp only [List.length_append,List.length_cons,List.length_nil];omega
    have JR:acw acc++afj (ByteArray.mk (ϡ y1).toArray++{data:= #[32]}++{data:=l.toArray}++{data:= #[10]})=acw (pO acc y1 l):=by
     rw [Lib.strCells_eq,<-Lib.byteCells_append];unfold pO;simp
    have hcs:(ByteArray.mk (ϡ y1).toArray++{data:= #[32]}++{data:=l.toArray}++{data:= #[10]}).size<=1100000:=by
     simp only [ByteArray.size_append];have:(ByteArray.mk l.toArray).size=l.length:=rfl;have:(ByteArray.mk #[32]).size=1:=rfl;have:(ByteArray.mk #[10]).size=1:=rfl;omega
    clear RQ;generalize ByteArray.mk (ϡ y1).toArray=q at hqs JR hcs⊢;have JR:Hid (_=_):=JR;have hcs:Hid (_<=1100000):=hcs
    go_wp2_with (go_at_call 47;refine (Xv _ _ _ _ w3 Zv (by rw [afB];have:=hcs.out;omega) (by have:=TK.size;omega)).mono ?_)
    rintro e w4 ⟨rfl,Vi,hb4⟩;have Vi:aa1 93 5 w.heap.size w.heap.size (acw (pO acc y1 l)) w4:=by rw [<-JR.out];exact .inr Vi
    have TL:=TK.trans hb4;clear JR hcs hI Zv
    go_wp2_with (go_at_call 83;refine (Tryz.Builder_Len_f _ _ _ w4 Vi).mono ?_)
    rintro e w5 ⟨rfl,rfl⟩;rw [afB];have RO: ∀n,(pO acc y1 l).length=n->Hid ((pO acc y1 l).length=n):=λn h=>h;generalize RJ:(pO acc y1 l).length=ln at NW⊢;have RJ:=RO ln RJ;clear RO
    go_wp2
    ·have Y6:16000<ln:=by omega
     have hj:=Xx.out (by have:=RJ.out;omega);subst hj
     go_ret2
     exact ⟨rfl,TL⟩
    ·have hle:ln<=16000:=by omega
     have hj:=TJ.out (by have:=RJ.out;omega)
     go_roundw
     case rel=>
      exact ⟨k+1,y1,pO acc y1 l,by omega,rfl,by go_num,hj,Vi,TL,by have:=RJ.out;omega⟩
     case measure=>simp [intOf];omega
  ·have PE:k=xs.length:=by omega
   subst PE;rw [List.drop_length] at hj;have hj:some (acc,true)=some r:=hj;injection hj with hj;subst hj;clear hc hr hl hg R0
   go_wp2_with (go_at_call 49;refine (Tryz.Builder_String_any_f _ _ acc wr hI P9.size).mono ?_)
   rintro e w1 ⟨rfl,_,Gg⟩
   go_wp2
   go_ret2
   exact ⟨rfl,P9.trans Gg⟩
end
noncomputable def eP (a0:List (List UInt8)):Option (List UInt8×Bool):=
 br (a0.length<=1048576/\(a0.all λl=>decide (l.length<=1048576))=true) (Lr a0 0 [])
theorem Br {a0:List (List UInt8)}{r:List UInt8×Bool}(h:eP a0=some r):CallOK ν 33 [.bZ (.sl .str) a0] [⟨false,.str,r.1⟩,⟨false,.bool,r.2⟩] []:=by
 obtain ⟨⟨hn,hl⟩,h⟩:=fF h;have hl: ∀l∈a0,l.length<=1048576:=λl hm=>by simpa using List.all_eq_true.1 hl l hm
 refine ⟨⟨_,ahX,by kernel_rfl,by kernel_rfl⟩,λw S vals U F hB hI hS RM R hgl=> ?_⟩;obtain ⟨v1,A1,rfl,rfl,⟨e1,Py,k1,r1⟩⟩: ∃v1 A1,vals=[v1]/\U=[A1]/\xB S w (.bZ (.sl .str) a0) v1 A1:=by
  cases vals with
  |nil=>exact R.elim
  |cons v1 vals=>
   cases U with
   |nil=>exact R.elim
   |cons A1 U=>
    obtain ⟨h1,R⟩:=R;cases vals with
    |cons v2 vals=>exact R.elim
    |nil=>
     cases U with
     |cons A2 U=>exact R.elim
     |nil=>exact ⟨v1,A1,rfl,rfl,h1⟩
 obtain ⟨a,cap,hcs,hcap,p⟩:=r1;have q1:v1= .slice a a0.length cap:=by
  have k1:Py=[v1]:=k1;rw [k1] at hcs;injection hcs
 subst e1 q1;have hF: ∀b,b ∉ F:=λb hb=>by
  obtain ⟨γ,t,_⟩:=(hB b).1 hb;simp at t
 refine (MB a0 r a cap w (Glob.mono (λb hb=>⟨(hS b hb).1,rfl⟩) hgl) hn hl (λi hi=> ?_) hcap h).mono λe w' ⟨he,hw⟩=> ?_;obtain ⟨T,es,ea,hs,I,kK⟩:=p i hi;have Co:es=[.string ⟨a0[i].toArray⟩]:=kK;have zT:=I 0 (.string ⟨a0[i].toArray⟩) (by rw [Co];rfl);have U3:T=⟨T.block,T.off,none⟩:=by
  obtain ⟨Zw,Iq,j,_,o,J⟩:=p 0 (by omega);have:Zw=T:=by rw [ea] at j;injection j with j;exact j.symm
  subst this;have Xy:Iq=[.string ⟨a0[0].toArray⟩]:=J;have hc:=o 0 (.string ⟨a0[0].toArray⟩) (by rw [Xy];rfl);exact Am (show w.cell? Zw=some _ by simpa [Addr.add,Ty.size] using hc)
 refine ⟨T.block,T.off,by rw [ea,<-U3],(hS _ hs).1,?_⟩;rw [U3,cw] at zT;simpa [Ty.size] using zT;exact ⟨_,[],[],he,λb=>by simp,⟨List.Pairwise.nil,λγ t=>by simp at t⟩,⟨_,qQ (rs:=[⟨.str,r.1⟩,⟨.bool,r.2⟩]) (by simp [aca]),rfl⟩,λb hb=>by simp at hb,bU.below hw,trivial⟩
def oK (a0:GI)(a1:Int)(a2:Int):Option (Int):=
 (show Option (Bool) from
  bif (decide (a2<=1)) then
   some true
  else
   some (decide (a1>=(bn a0)))).bind λj=>
 bif j then
  some 0
 else
  br (0<=a1/\a1<bn a0) (
   br (a2≠0) (
    some (Int.tmod (IntKind.wrap .i64 (ε a0 (δ a1) 0)) a2)))
theorem E4 {a0}{a1}{a2}{r}(j:oK a0 a1 a2=some r):CallOK ν 12 [.bZ (.sl (.int .u8)) a0,.bZ tI a1,.bZ tI a2] [⟨false,tI,r⟩] []:=
 dB Tryz.func12 rfl λcx t hF=>θ t [] bm (φ (ϰ j (λU=>up [0,1,2] [(14,bV U)] [] [] 0) (λU j=>Φ j (λJ j=>θ t [] bm (by (cases j;exact (Δ (bF (ct bm)))))) λJ j=>Θ (bp (bg j λR j=>bg j λT j=>θ t [] (dp R T) (by (cases j;exact (Δ (ct bm))))))) λ_ o I=>bb o (λp o=>Υ t [oH,oH,kT] (bQ p) λ_ h=>(bp (h.ht (I _ (bt o))))) λp o=>Υ t [oH,oH,kF] (bQ p) λ_ h=>(bp (h.ht (I _ (bt o))))))
def strings_IndexByte (a0:GB)(a1:Int):Option (Int):=
 some (acv a0 (δ a1).toUInt8)
theorem MC {a0}{a1}{r}(h:strings_IndexByte a0 a1=some r):CallOK ν 121 [.bZ .str a0,.bZ (.int .u8) a1] [⟨false,tI,r⟩] []:=by
 have h:=bt h;subst h;exact qk (ps:=[⟨.str,a0⟩,⟨(.int .u8),a1⟩]) (rs:=[⟨tI,acv a0 (δ a1).toUInt8⟩]) ⟨_,Tryz.func121,by kernel_rfl,by kernel_rfl⟩ (by simp [aca]) (by simp [aca]) λw S j=>by
  obtain ⟨m,t⟩:=aeW j;exact (Tryz.strings_IndexByte ⟨a0.toArray⟩ _ w).mono λe w' ⟨o,p⟩=>⟨⟨_,o,rfl⟩,p▸afL _ _⟩
def strings_Cut (a0:GB)(a1:GB):Option (GB×GB×Bool):=
 br (a0.length<4294967281)<|some ((adB a0 a1).1,(adB a0 a1).2.1,(adB a0 a1).2.2)
theorem MD {a0}{a1}{r}(h:strings_Cut a0 a1=some r):CallOK ν 122 [.bZ .str a0,.bZ .str a1] [⟨false,.str,r.1⟩,⟨false,.str,r.2.1⟩,⟨false,.bool,r.2.2⟩] []:=by
 obtain ⟨o,h⟩:=fF h;have h:=bt h;subst h;exact qk (ps:=[⟨.str,a0⟩,⟨.str,a1⟩]) (rs:=[⟨.str,(adB a0 a1).1⟩,⟨.str,(adB a0 a1).2.1⟩,⟨.bool,(adB a0 a1).2.2⟩]) ⟨_,Tryz.func122,by kernel_rfl,by kernel_rfl⟩ (by simp [aca]) (by simp [aca]) λw S j=>by
  obtain ⟨m,p⟩:=aeW j;exact (Tryz.strings_Cut ⟨a0.toArray⟩ ⟨a1.toArray⟩ m w o p).mono λe w' ⟨t,k,I⟩=>⟨⟨_,t,rfl⟩,I▸⟨rfl,rfl,rfl,ς _,λ_ _=>rfl⟩⟩
def iI (a0:Int):Option GB:=
 (lI a0 10).bind λj=>
 some j
theorem Bt {a0}{r}(o:iI a0=some r):CallOK ν 13 [.bZ tI a0] [⟨false,.str,r⟩] []:=
 dB ahW rfl λcx p t=>θ p [] bm (bc o P5 λI j o=>θ p [oH,(cl j)] (bQ j) (by (cases o;exact (Δ (ct bm)))))
def pC (a0:GB)(s1:Int×Int×List GB):Option ((Int×Int×List GB)⊕((Int×List GB))):=
 br (0<=s1.2.1/\s1.2.1<=bn a0) (
  (strings_IndexByte (cut a0 s1.2.1 (bn a0)) 10).bind λo=>
  bif (decide (o<0)) then
   some (.inr (s1.2.1,s1.2.2))
  else
   br (0<=s1.2.1/\s1.2.1<=(bz .i64 s1.2.1 o)/\(bz .i64 s1.2.1 o)<=bn a0) (
    (strings_Cut (cut a0 s1.2.1 (bz .i64 s1.2.1 o)) ([32]:GB)).bind λj=>
    (eI s1.1 j.2.1).bind λp=>
    (show Option (Bool) from
     bif (!j.2.2) then
      some true
     else
      (iI p.1).bind λr=>
      some (j.1 != r)).bind λt=>
    bif t then
     some (.inr (s1.2.1,s1.2.2))
    else
     br (ζ s1.2.2+ζ ([j.2.1]:List GB)<=bD) (
      some (.inl (p.1,(bz .i64 s1.2.1 (bz .i64 o 1)),(s1.2.2++([j.2.1]:List GB)))))))
def jH (a0:GB):Option (List GB×Int):=
 (rounds (pC a0) (0,0,([]:List GB))).bind λj=>
 some (j.2,j.1)
theorem JS {a0}{r}(hr:jH a0=some r):CallOK ν 84 [.bZ .str a0] [⟨true,(.sl .str),r.1⟩,⟨false,tI,r.2⟩] []:=
 dB Tryz.func84 rfl λcx p hF=>θ p [] bm (θ p [] bm (θ p [] bm (θ p [] bm (ο (ϧ p hr (λs1=>up [0] [(4,aV 2),(5,iV s1.1),(6,iV s1.2.1)] [] [(2,.seq .str s1.2.2)] 3) (λr3=>(.ret,up [] [(2,aV 2),(3,iV r3.1)] [] [(2,.seq .str r3.2)] 3)) (λr3 hr=>by (cases hr;exact (bT (ct bm)))) λs1 x4 j U=>ο (bg j λVj j=>bc j MC λy8 aa j=>θ p [oH,oH,oH,(cl aa)] (dp (PO Vj) aa) (φ (θ p [] bm (Φ j (λab j=>θ p [] bm (HT.xr p (bF (bT (fp (U _ (bw j))))))) λab j=>Θ (bp (bg j λad j=>bc j MD λyu I j=>θ p (nO 6 [(cl I)]) (dp ad I) (bc j JN λRX J j=>θ p [oH,oH,(cl J)] (bQ J) (φ (ϰ j (λae=>up [0,4,6,7,9,11] [(46,bV ae)] [2] [] 0) (λae j=>Φ j (λaf j=>θ p [] bm (HT.xr p (bF (bT (fp (U _ (bw j))))))) λaf j=>Θ (bp (bg j λag j=>θ p [oH,oH,(hT .str),(hT .str)] (bQ ag) (θ p [] bm (Υ p [] bm λ_ h=>(bB (bM (lN j h)))))))) λ_ o R=>bb o (λt o=>Υ p [oH,oH,kT] (bQ t) λ_ h=>(bp (h.ht (R _ (bt o))))) λt o=>bc o Bt λLq T o=>Υ p [oH,oH,kF,oH,oH,(cl T)] (dp t T) λ_ h=>(bp (h.ht (R _ (bt o))))))))))))))))))
def fh (a0:GB):Option (List GB×Int×Bool):=
 bif (decide ((bn a0)>16000)) then
  some (([]:List GB),0,false)
 else
  (jH a0).bind λj=>
  some (j.1,j.2,true)
theorem JT {a0}{r}(j:fh a0=some r):CallOK ν 34 [.bZ .str a0] [⟨true,(.sl .str),r.1⟩,⟨false,tI,r.2.1⟩,⟨false,.bool,r.2.2⟩] []:=
 dB Tryz.func34 rfl λcx o I=>θ o [] bm (φ (θ o [] bm (Φ j (λt j=>θ o [] bm (by (cases j;exact (Δ (bF (ct bm)))))) λt j=>Θ (bp (bc j JS λJ p j=>θ o [oH,(cl p)] (bQ p) (θ o [] bm (by (cases j;exact (Δ (ct bm))))))))))
def ox:Option ((GM×GP×GG×GI)):=
 (some ([(0,0,0,1),(0,0,(-1),1)]:GL)).bind λq1=>
 some ((2,1,([(0,1,0,3)]:GL),([0,(-1)]:GI),([(-1),0]:GI)),(2,1,([1,0]:GI),([true,false]:GZ)),(1,1,q1),([0]:GI))
theorem JU {r}(j:ox=some r):CallOK ν 15 [] [⟨true,(.st (.pair (.st gM) (.pair (.st gP) (.pair (.st gR) cC)))),r⟩] []:=
 dB Tryz.func15 rfl λcx o p=>θ o [] bm (θ o [oH,(hT (.st gQ)),(hT tI),(hT tI),oH,(hT tI),(hT .bool),oH,oH,oH,(hT (.st gQ)),oH,(hT tI)] bm (bq j λj=>by (cases j;exact (Δ (ct bm)))))
theorem E5 {xs y}(h:slices_Clone xs=some y):CallOK ν 67 [.bZ gA xs] [⟨true,gA,y⟩] []:=by
 obtain ⟨p,h⟩:=fF h;have h:=bt h;subst h;refine ad7 (ts:=[(true,gA)]) Tryz.func67 rfl (by kernel_rfl) (ϑ (by kernel_rfl)) λcx j o I J=> ?_;show HT cx ⟨[(0,.one (.bG gA xs))],[],0⟩ _ _;refine adO [0] [⟨none,.no⟩] ⟨[(0,.one (.bG gA xs))],[],0⟩ j o (by kernel_rfl) bm ?_;refine φ ?_;refine afJ (t3:=3) (t4:=4) (v:= .one (.bG gA xs)) (t:=(.st gQ)) (xs:=xs) (st1:=⟨[(3,.one (.bG gA xs)),(0,.one (.bG gA xs))],[],0⟩) j o (by kernel_rfl) rfl rfl rfl rfl (e:=80) (by kernel_rfl) rfl rfl (λb r=> ?_);show HT cx ⟨[(4,.one (.bG .bool b)),(3,.one (.bG gA xs)),(0,.one (.bG gA xs))],[],0⟩ _ _;cases b with
 |true=>
  have e:=r rfl;subst e;refine HT.Dh rfl rfl ?_;refine adO [2] [⟨none,.no⟩] ⟨[(2,.one .bH)],[],0⟩ j o (by kernel_rfl) bm ?_;exact Δ (bF ⟨[.one .bH],[],[],by kernel_rfl,by kernel_rfl,rfl,by kernel_rfl,by kernel_rfl,trivial⟩)
 |false=>
  refine HT.Ak rfl rfl ?_;refine Θ (bp ?_);refine adO [2] [⟨none,.no⟩,⟨none,.no⟩,⟨none,.ty (.st gQ)⟩,⟨none,.no⟩] ⟨[(2,.one (.all 0))],[(0,.seq (.st gQ) xs)],1⟩ j o (by kernel_rfl) (gH p bm) ?_;exact Δ ⟨[.one (.all 0)],[0],[],by kernel_rfl,by kernel_rfl,rfl,by kernel_rfl,by kernel_rfl,trivial⟩
theorem lK {xs y}(h:slices_Clone xs=some y):CallOK ν 68 [.bZ cC xs] [⟨true,cC,y⟩] []:=by
 obtain ⟨p,h⟩:=fF h;have h:=bt h;subst h;refine ad7 (ts:=[(true,cC)]) Tryz.func68 rfl (by kernel_rfl) (ϑ (by kernel_rfl)) λcx j o I J=> ?_;show HT cx ⟨[(0,.one (.bG cC xs))],[],0⟩ _ _;refine adO [0] [⟨none,.no⟩] ⟨[(0,.one (.bG cC xs))],[],0⟩ j o (by kernel_rfl) bm ?_;refine φ ?_;refine afJ (t3:=3) (t4:=4) (v:= .one (.bG cC xs)) (t:=tI) (xs:=xs) (st1:=⟨[(3,.one (.bG cC xs)),(0,.one (.bG cC xs))],[],0⟩) j o (by kernel_rfl) rfl rfl rfl rfl (e:=2) (by kernel_rfl) rfl rfl (λb r=> ?_);show HT cx ⟨[(4,.one (.bG .bool b)),(3,.one (.bG cC xs)),(0,.one (.bG cC xs))],[],0⟩ _ _;cases b with
 |true=>
  have e:=r rfl;subst e;refine HT.Dh rfl rfl ?_;refine adO [2] [⟨none,.no⟩] ⟨[(2,.one .bH)],[],0⟩ j o (by kernel_rfl) bm ?_;exact Δ (bF ⟨[.one .bH],[],[],by kernel_rfl,by kernel_rfl,rfl,by kernel_rfl,by kernel_rfl,trivial⟩)
 |false=>
  refine HT.Ak rfl rfl ?_;refine Θ (bp ?_);refine adO [2] [⟨none,.no⟩,⟨none,.no⟩,⟨none,.ty tI⟩,⟨none,.no⟩] ⟨[(2,.one (.all 0))],[(0,.seq tI xs)],1⟩ j o (by kernel_rfl) (gH p bm) ?_;exact Δ ⟨[.one (.all 0)],[0],[],by kernel_rfl,by kernel_rfl,rfl,by kernel_rfl,by kernel_rfl,trivial⟩
theorem ME {xs y}(h:slices_Clone xs=some y):CallOK ν 138 [.bZ (.sl .bool) xs] [⟨true,(.sl .bool),y⟩] []:=by
 obtain ⟨p,h⟩:=fF h;have h:=bt h;subst h;refine ad7 (ts:=[(true,(.sl .bool))]) Tryz.func138 rfl (by kernel_rfl) (ϑ (by kernel_rfl)) λcx j o I J=> ?_;show HT cx ⟨[(0,.one (.bG (.sl .bool) xs))],[],0⟩ _ _;refine adO [0] [⟨none,.no⟩] ⟨[(0,.one (.bG (.sl .bool) xs))],[],0⟩ j o (by kernel_rfl) bm ?_;refine φ ?_;refine afJ (t3:=3) (t4:=4) (v:= .one (.bG (.sl .bool) xs)) (t:= .bool) (xs:=xs) (st1:=⟨[(3,.one (.bG (.sl .bool) xs)),(0,.one (.bG (.sl .bool) xs))],[],0⟩) j o (by kernel_rfl) rfl rfl rfl rfl (e:=4) (by kernel_rfl) rfl rfl (λb r=> ?_);show HT cx ⟨[(4,.one (.bG .bool b)),(3,.one (.bG (.sl .bool) xs)),(0,.one (.bG (.sl .bool) xs))],[],0⟩ _ _;cases b with
 |true=>
  have e:=r rfl;subst e;refine HT.Dh rfl rfl ?_;refine adO [2] [⟨none,.no⟩] ⟨[(2,.one .bH)],[],0⟩ j o (by kernel_rfl) bm ?_;exact Δ (bF ⟨[.one .bH],[],[],by kernel_rfl,by kernel_rfl,rfl,by kernel_rfl,by kernel_rfl,trivial⟩)
 |false=>
  refine HT.Ak rfl rfl ?_;refine Θ (bp ?_);refine adO [2] [⟨none,.no⟩,⟨none,.no⟩,⟨none,.ty .bool⟩,⟨none,.no⟩] ⟨[(2,.one (.all 0))],[(0,.seq .bool xs)],1⟩ j o (by kernel_rfl) (gH p bm) ?_;exact Δ ⟨[.one (.all 0)],[0],[],by kernel_rfl,by kernel_rfl,rfl,by kernel_rfl,by kernel_rfl,trivial⟩
def oX (a0:GP):Option (GP):=
 (slices_Clone a0.2.2.1).bind λj=>
 (slices_Clone a0.2.2.2).bind λo=>
 some (a0.1,a0.2.1,j,o)
theorem Qa {a0}{r}(j:oX a0=some r):CallOK ν 97 [.bZ (.st gP) a0] [⟨true,(.st gP),r⟩] []:=
 dB Tryz.func97 rfl λcx t I=>θ t [] bm (bc j lK λJ o j=>bc j ME λR p j=>HT.dg t (nO 6 [(cl o),oH,oH,(cl p)]) (dp o p) (by (cases j;exact (Δ (ct bm)))))
theorem Qb {xs y}(h:slices_Clone xs=some y):CallOK ν 98 [.bZ gA xs] [⟨true,gA,y⟩] []:=by
 obtain ⟨p,h⟩:=fF h;have h:=bt h;subst h;refine ad7 (ts:=[(true,gA)]) Tryz.func98 rfl (by kernel_rfl) (ϑ (by kernel_rfl)) λcx j o I J=> ?_;show HT cx ⟨[(0,.one (.bG gA xs))],[],0⟩ _ _;refine adO [0] [⟨none,.no⟩] ⟨[(0,.one (.bG gA xs))],[],0⟩ j o (by kernel_rfl) bm ?_;refine φ ?_;refine afJ (t3:=3) (t4:=4) (v:= .one (.bG gA xs)) (t:=(.st gQ)) (xs:=xs) (st1:=⟨[(3,.one (.bG gA xs)),(0,.one (.bG gA xs))],[],0⟩) j o (by kernel_rfl) rfl rfl rfl rfl (e:=85) (by kernel_rfl) rfl rfl (λb r=> ?_);show HT cx ⟨[(4,.one (.bG .bool b)),(3,.one (.bG gA xs)),(0,.one (.bG gA xs))],[],0⟩ _ _;cases b with
 |true=>
  have e:=r rfl;subst e;refine HT.Dh rfl rfl ?_;refine adO [2] [⟨none,.no⟩] ⟨[(2,.one .bH)],[],0⟩ j o (by kernel_rfl) bm ?_;exact Δ (bF ⟨[.one .bH],[],[],by kernel_rfl,by kernel_rfl,rfl,by kernel_rfl,by kernel_rfl,trivial⟩)
 |false=>
  refine HT.Ak rfl rfl ?_;refine Θ (bp ?_);refine adO [2] [⟨none,.no⟩,⟨none,.no⟩,⟨none,.ty (.st gQ)⟩,⟨none,.no⟩] ⟨[(2,.one (.all 0))],[(0,.seq (.st gQ) xs)],1⟩ j o (by kernel_rfl) (gH p bm) ?_;exact Δ ⟨[.one (.all 0)],[0],[],by kernel_rfl,by kernel_rfl,rfl,by kernel_rfl,by kernel_rfl,trivial⟩
def gB (a0:GM×GP×GG×GI):Option ((GM×GP×GG×GI)):=
 (slices_Clone a0.1.2.2.1).bind λp=>
 (slices_Clone a0.1.2.2.2.1).bind λr=>
 (slices_Clone a0.1.2.2.2.2).bind λt=>
 (oX (a0.2.1.1,a0.2.1.2.1,a0.2.1.2.2.1,a0.2.1.2.2.2)).bind λj=>
 (slices_Clone a0.2.2.1.2.2).bind λI=>
 (slices_Clone a0.2.2.2).bind λo=>
 some ((a0.1.1,a0.1.2.1,p,r,t),(j.1,j.2.1,j.2.2.1,j.2.2.2),(a0.2.2.1.1,a0.2.2.1.2.1,I),o)
theorem E6 {a0}{r}(j:gB a0=some r):CallOK ν 48 [.bZ (.st (.pair (.st gM) (.pair (.st gP) (.pair (.st gR) cC)))) a0] [⟨true,(.st (.pair (.st gM) (.pair (.st gP) (.pair (.st gR) cC)))),r⟩] []:=
 dB Tryz.func48 rfl λcx T hF=>θ T [] bm (θ T [] bm (bc j E5 λy1 t j=>bc j lK λy3 I j=>bc j lK λy5 J j=>bc j Qa λy7 R j=>bc j Qb λy9 o j=>bc j lK λU p j=>HT.dg T (nO 6 [(cl t),oH,oH,(cl I),oH,oH,(cl J),oH,oH,oH,(cl R),oH,oH,oH,oH,oH,oH,oH,oH,oH,(cl o),oH,oH,oH,(cl p)]) (lF t I J R (dp o p)) (by (cases j;exact (Δ (ct bm))))))
def strings_Split (a0 a1:GB):Option (List GB):=
 br (a0.length<4294967281/\1<=a1.length)<|some (Lib.split a0 a1)
theorem Bu {a0 a1}{r}(h:strings_Split a0 a1=some r):CallOK ν 94 [.bZ .str a0,.bZ .str a1] [⟨true,.sl .str,r⟩] []:=by
 obtain ⟨j,h⟩:=fF h;have h:=bt h;subst h;exact Jx ⟨_,Tryz.func94,by kernel_rfl,by kernel_rfl⟩ j.1 j.2 λw S o=>by
  obtain ⟨m,p⟩:=aeW o;exact Tryz.strings_Split _ _ m w j.1 p j.2
def jr (a0:GI)(a1:Int)(a2:Int)(s1:Int):Option ((Int)⊕(Unit⊕Unit)):=
 bif (decide (s1<(bn a0))) then
  br (0<=s1/\s1<bn a0) (
   (cG (ε a0 (δ s1) 0) a1 a2).bind λj=>
   bif (!j) then
    some (.inr (.inr ()))
   else
    some (.inl (bz .i64 s1 1)))
 else
  some (.inr (.inl ()))
def eQ (a0:GI)(a1:Int)(a2:Int):Option (Bool):=
 (rounds (jr a0 a1 a2) 0).bind λj=>match j with
  | .inl o=>
   some true
  | .inr p=>
   some false
theorem yx {a0}{a1}{a2}{r}(t:eQ a0 a1 a2=some r):CallOK ν 89 [.bZ cC a0,.bZ tI a1,.bZ tI a2] [⟨false,.bool,r⟩] []:=
 dB Tryz.func89 rfl λcx o hF=>θ o [] bm (φ (θ o [] bm (ο (ϧ o t (λs1=>up [1,2,9,10] [(11,iV s1)] [] [] 0) (λR=>match R with| .inl r3=>(.exit 0,up [] [] [] [] 0)| .inr r4=>(.ret,up [] [(6,bV false)] [] [] 0)) (λR=>match R with| .inl r3=>λt=>(bE (bp (θ o [] bm (by (cases t;exact (Δ (ct bm)))))))| .inr r4=>λt=>by (cases t;exact (bT (bF (ct bm))))) λs1 x5 j I=>θ o [] bm (HT.cj j (λT j=>φ (ο (bg j λU j=>θ o [] (bQ U) (bc j gZ λQc p j=>θ o [oH,oH,oH,(cl p)] (bQ p) (Φ j (λJ j=>θ o [] bm (HT.xr o (bT (bF (fp (I _ (bw j))))))) λJ j=>Θ (bB (bp (Υ o [] bm λ_ h=>(bM (lN j h)))))))))) λT j=>HT.xe o (bL (bN (I _ (bw j)))))))))
def gi (a0:GM)(j:Int):Option ((Int)⊕(Unit⊕Unit)):=
 bif (decide (j<(bn a0.2.2.1))) then
  br (0<=j/\j<bn a0.2.2.1) (
   (show Option (Bool) from
    (cG ((ε a0.2.2.1 (δ j) (0,0,0,0)).1) 0 (bW .i64 a0.1 1)).bind λo=>
    bif (!o) then
     some true
    else
     (cG (((ε a0.2.2.1 (δ j) (0,0,0,0)).2).1) 0 (bW .i64 a0.1 1)).bind λp=>
     bif (!p) then
      some true
     else
      (cG ((((ε a0.2.2.1 (δ j) (0,0,0,0)).2).2).1) (-1) (bW .i64 a0.2.1 1)).bind λr=>
      bif (!r) then
       some true
      else
       (cG ((((ε a0.2.2.1 (δ j) (0,0,0,0)).2).2).2) 0 1000).bind λt=>
       some (!t)).bind λI=>
   bif I then
    some (.inr (.inr ()))
   else
    some (.inl (bz .i64 j 1)))
 else
  some (.inr (.inl ()))
def cy (a0:GM):Option (Bool):=
 (show Option (Bool) from
  (cG a0.1 1 16).bind λj=>
  bif (!j) then
   some true
  else
   (cG a0.2.1 1 4).bind λo=>
   bif (!o) then
    some true
   else
    some (decide ((bn a0.2.2.1)>128))).bind λt=>
 bif t then
  some false
 else
  (rounds (gi a0) 0).bind λI=>match I with
   | .inl R=>
    (show Option (Bool) from
     bif ((bn a0.2.2.2.1)==a0.1) then
      bif ((bn a0.2.2.2.2)==a0.1) then
       (eQ a0.2.2.2.1 (-1) 1000).bind λp=>
       bif p then
        (eQ a0.2.2.2.2 (-1) 1000).bind λr=>
        some r
       else
        some false
      else
       some false
     else
      some false).bind λv10=>
    some v10
   | .inr J=>
    some false
theorem oY {a0}{r}(hr:cy a0=some r):CallOK ν 38 [.bZ (.st gM) a0] [⟨false,.bool,r⟩] []:=
 dB Tryz.func38 rfl λcx J hF=>θ J [] bm (φ (ϰ hr (λv2=>up [1] [(20,bV v2)] [0] [] 0) (λv2 hr=>Φ hr (λXz hr=>θ J [] bm (by (cases hr;exact (Δ (bF (ct bm)))))) λXz hr=>Θ (bp (φ (θ J [] bm (ο (ϧ J hr (λs6=>up [1,22,23] [(24,iV s6)] [0] [] 0) (λr7=>match r7 with| .inl r8=>(.exit 0,up [1] [] [0] [] 0)| .inr Vk=>(.ret,up [] [(2,bV false)] [] [] 0)) (λr7=>match r7 with| .inl r8=>λhr=>(bE (bp (ϰ hr (λv10=>up [] [(2,bV v10)] [] [] 0) (λv10 hr=>by (cases hr;exact (Δ (ct bm)))) λ_ o Vl=>bb o (λU o=>bb o (λab o=>bc o yx λRY ad o=>bb o (λBv o=>bc o yx λXn TM o=>Υ J (nO 6 [kT,oH,oH,oH,oH,oH,oH,oH,kT,oH,oH,(cl ad),oH,kT,oH,oH,(cl TM)]) (lF U ab ad Bv (bQ TM)) λ_ h=>(bp (h.ht (Vl _ (bt o))))) λBv o=>Υ J (nO 6 [kT,oH,oH,oH,oH,oH,oH,oH,kT,oH,oH,(cl ad),oH,kF]) (nZ U ab ad Bv) λ_ h=>(bp (h.ht (Vl _ (bt o))))) λab o=>Υ J (nO 6 [kT,oH,oH,oH,oH,oH,oH,oH,kF]) (dp U ab) λ_ h=>(bp (h.ht (Vl _ (bt o))))) λU o=>Υ J (nO 6 [kF]) (bQ U) λ_ h=>(bp (h.ht (Vl _ (bt o)))))))| .inr Vk=>λhr=>by (cases hr;exact (bT (bF (ct bm))))) λs6 x21 p MF=>θ J [] bm (HT.cj p (λE7 p=>φ (ο (bg p λQd p=>θ J [] (bQ Qd) (ϰ p (λR3=>up [1,22,23,24] [(58,bV R3)] [0] [] 0) (λR3 p=>Φ p (λJV p=>θ J [] bm (HT.xr J (bT (bF (fp (MF _ (bw p))))))) λJV p=>Θ (bB (bp (Υ J [] bm λ_ h=>(bM (lN p h)))))) λ_ j ae=>bc j gZ λVe I j=>bb j (λaa j=>Υ J (nO 5 [(cl I),oH,kT]) (dp I aa) λ_ h=>(bp (h.ht (ae _ (bt j))))) λaa j=>bc j gZ λXA R j=>bb j (λaf j=>Υ J (nO 5 [(cl I),oH,kF,oH,oH,oH,oH,oH,(cl R),oH,oH,kT]) (nZ I aa R af) λ_ h=>(bp (h.ht (ae _ (bt j))))) λaf j=>bc j gZ λy37 ag j=>bb j (λBw j=>Υ J (nO 5 [(cl I),oH,kF,oH,oH,oH,oH,oH,(cl R),oH,oH,kF,oH,oH,oH,oH,oH,(cl ag),oH,oH,kT]) (lF I aa R af (dp ag Bw)) λ_ h=>(bp (h.ht (ae _ (bt j))))) λBw j=>bc j gZ λZx TO j=>Υ J (nO 5 [(cl I),oH,kF,oH,oH,oH,oH,oH,(cl R),oH,oH,kF,oH,oH,oH,oH,oH,(cl ag),oH,oH,kF,oH,oH,(cl TO)]) (lF I aa R af (ll ag Bw TO)) λ_ h=>(bp (h.ht (ae _ (bt j)))))))) λE7 p=>HT.xe J (bL (bN (MF _ (bw p))))))))))) λ_ t Qe=>bc t gZ λy42 T t=>bb t (λah t=>Υ J [oH,oH,(cl T),oH,kT] (dp T ah) λ_ h=>(bp (h.ht (Qe _ (bt t))))) λah t=>bc t gZ λy45 ai t=>bb t (λQf t=>Υ J [oH,oH,(cl T),oH,kF,oH,oH,(cl ai),oH,oH,kT] (nZ T ah ai Qf) λ_ h=>(bp (h.ht (Qe _ (bt t))))) λQf t=>Υ J [oH,oH,(cl T),oH,kF,oH,oH,(cl ai),oH,oH,kF] (nZ T ah ai Qf) λ_ h=>(bp (h.ht (Qe _ (bt t))))))
def jI (o:GL)(j:Int×GL):Option ((Int×GL)⊕(GL)):=
 bif (decide (j.1<(bn o))) then
  br (0<=j.1/\j.1<bn j.2) (
   br (0<=j.1/\j.1<bn (aaj j.2 (δ j.1) (((ε j.2 (δ j.1) (0,0,0,0)).2).1,((ε j.2 (δ j.1) (0,0,0,0)).2).1,(((ε j.2 (δ j.1) (0,0,0,0)).2).2).1,(((ε j.2 (δ j.1) (0,0,0,0)).2).2).2))) (
    some (.inl ((bz .i64 j.1 1),(aaj (aaj j.2 (δ j.1) (((ε j.2 (δ j.1) (0,0,0,0)).2).1,((ε j.2 (δ j.1) (0,0,0,0)).2).1,(((ε j.2 (δ j.1) (0,0,0,0)).2).2).1,(((ε j.2 (δ j.1) (0,0,0,0)).2).2).2)) (δ j.1) ((ε (aaj j.2 (δ j.1) (((ε j.2 (δ j.1) (0,0,0,0)).2).1,((ε j.2 (δ j.1) (0,0,0,0)).2).1,(((ε j.2 (δ j.1) (0,0,0,0)).2).2).1,(((ε j.2 (δ j.1) (0,0,0,0)).2).2).2)) (δ j.1) (0,0,0,0)).1,(ε j.2 (δ j.1) (0,0,0,0)).1,(((ε (aaj j.2 (δ j.1) (((ε j.2 (δ j.1) (0,0,0,0)).2).1,((ε j.2 (δ j.1) (0,0,0,0)).2).1,(((ε j.2 (δ j.1) (0,0,0,0)).2).2).1,(((ε j.2 (δ j.1) (0,0,0,0)).2).2).2)) (δ j.1) (0,0,0,0)).2).2).1,(((ε (aaj j.2 (δ j.1) (((ε j.2 (δ j.1) (0,0,0,0)).2).1,((ε j.2 (δ j.1) (0,0,0,0)).2).1,(((ε j.2 (δ j.1) (0,0,0,0)).2).2).1,(((ε j.2 (δ j.1) (0,0,0,0)).2).2).2)) (δ j.1) (0,0,0,0)).2).2).2))))))
 else
  some (.inr j.2)
def k9 (a0:GM):Option (GM×Bool):=
 (cy (a0.1,a0.2.1,a0.2.2.1,a0.2.2.2.1,a0.2.2.2.2)).bind λp=>
 bif (!p) then
  some ((0,0,([]:GL),([]:GI),([]:GI)),false)
 else
  (slices_Clone a0.2.2.1).bind λo=>
  (rounds (jI o) (0,o)).bind λr=>
  (slices_Clone a0.2.2.2.2).bind λt=>
  (slices_Clone a0.2.2.2.1).bind λj=>
  some ((a0.1,a0.2.1,r,t,j),true)
theorem JW {a0}{r}(o:k9 a0=some r):CallOK ν 24 [.bZ (.st gM) a0] [⟨true,(.st gM),r.1⟩,⟨false,.bool,r.2⟩] []:=
 dB Tryz.func24 rfl λcx t hF=>θ t [] bm (φ (bc o oY λy1 T o=>θ t [oH,(cl T)] (bQ T) (Φ o (λad o=>θ t [] bm (by (cases o;exact (Δ (bF (ct bm)))))) λad o=>Θ (bp (bc o E5 λy4 U o=>θ t [oH,oH,(cl U)] (bQ U) (φ (θ t [] bm (ο (ϧ t o (λs6=>up [1,2,4,14,15] [(16,iV s6.1)] [0,1] [(2,.seq (.st gQ) s6.2)] 0) (λr8=>(.exit 0,up [1,2,4] [] [0,1] [(2,.seq (.st gQ) r8)] 0)) (λr8 o=>(bE (bp (bc o lK λy9 I o=>bc o lK λLp J o=>HT.dg t (nO 7 [(cl I),oH,oH,(cl J)]) (dp I J) (by (cases o;exact (Δ (ct bm)))))))) λs6 Vm j aa=>θ t [] bm (HT.cj j (λab j=>φ (ο (bg j λp j=>θ t [] (dp p (bS p)) (bg j λR j=>HT.dl t [] (nZ p (bS p) R (bS R)) (bB (bp (Υ t [] bm λ_ h=>(bM (lN j h))))))))) λab j=>HT.xe t (bL (bN (aa _ (bw j))))))))))))))
end
end Go.Proofs
