import Derived.Test.YtjnkhcgmgkhnaaaGreatDoorJournalPlB
import Derived.Test.YtjnkhcgmgkhnaaaGreatDoorCards
import Derived.Test.YtjnkhcgmgkhnaaaGreatDoorTie
import Derived.Lib.LaidU8
import Derived.WalkKit
import Derived.ProofKit
import Derived.OpenShut
import Derived.Deep.DeepHandedRow
import Derived.Lib.LaidTab
set_option linter.all false
namespace Go.Proofs.YtjnkhcgmgkhnaaaGreatDoor
open Go.ChangeShapes Go.WideShapes Go.ChangeAt Go.RowKit Go.Ide
theorem Journal.own:ownKnob Tryz.prog.godebug=none:=by kernel_rfl
theorem Journal.all: ∀l:List TD,l.map TD.t=[.sl (.int .u8),.sl (.int .u8)]→(∀d∈l,WfD d.t d.x)→CallOK Tryz.prog 5 (immArgs l) [⟨false,.bool,true⟩] []:=by
 intro l hl hw
 match l,hl,hw with
 |[⟨_,x0⟩,⟨_,x1⟩],rfl,hw=>exact f5_ok (FnJournal_law x0 x1 (hw _ (List.Mem.head _)) (hw _ (List.Mem.tail _ (List.Mem.head _))))
noncomputable def Journal.world (os:Os):World:=
 let w0:=World.holding Tryz.prog os ⟨#[],#[],[]⟩;let put (h:Array Obj) (g:Nat) (cs:Array Value):Array Obj:=h.modify g fun
  | .cells _ t frozen=> .cells cs t frozen
  |o=>o
 let h1:=put w0.heap 1 pow10Cells;let h2:=put h1 2 (([0,1,28,2,29,14,24,3,30,22,20,15,25,17,4,8,31,27,13,23,21,19,16,7,26,12,18,6,11,5,10,9]:List Nat).map fun z:Nat=>Value.int .u8 (z:Int)).toArray;let h3:=put h2 3 (([0,1,56,2,57,49,28,3,61,58,42,50,38,29,17,4,62,47,59,36,45,43,51,22,53,39,33,30,24,18,12,5,63,55,48,27,60,41,37,16,46,35,44,21,52,32,23,11,54,26,40,15,34,20,31,10,25,14,19,9,13,8,7,6]:List Nat).map fun z:Nat=>Value.int .u8 (z:Int)).toArray;let h4:=put h3 6 (Go.Pinned.utf8FirstZ.map fun z:Nat=>Value.int .u8 (z:Int)).toArray;let h5:=put h4 7 (([128,191,160,191,128,159,144,191,128,143]++List.replicate 22 0:List Nat).map fun z:Nat=>Value.int .u8 (z:Int)).toArray;let h6:=put h5 4 #[.iface 299 (.pointer (some ⟨w0.heap.size,0,none⟩))];let h7:=put h6 5 #[.iface 299 (.pointer (some ⟨w0.heap.size+1,0,none⟩))]
 {w0 with heap:=(h7.push (.cells #[.string ⟨#[105,110,118,97,108,105,100,32,115,121,110,116,97,120]⟩] 301)).push (.cells #[.string ⟨#[118,97,108,117,101,32,111,117,116,32,111,102,32,114,97,110,103,101]⟩] 301)}
theorem Journal.met (os:Os):laidMet Tryz.prog Rows.fnJournalRow.laid ((Journal.world os).forCall (fun _ _=>0) ⟨#[],#[.slice none 0 0,.slice none 0 0],[]⟩).memory:=
 laidMet_of_run' 8 (by kernel_rfl) (by kernel_rfl)
theorem Journal.reads (os:Os){H:Type}(enc:TypeId×Value→H): ∃places,DataW.whole enc Tryz.prog ((Journal.world os).forCall (fun _ _=>0) ⟨#[],#[.slice none 0 0,.slice none 0 0],[]⟩).memory Tryz.f5.params.toList Rows.fnJournalSpec.vars false (#[.slice none 0 0,.slice none 0 0]:Array Value).toList 8=some ([.nil,.nil],[],places):=
 ⟨[],by kernel_rfl⟩
theorem Journal.iface {H:Type}{enc:TypeId×Value→H}{P:Program}{t:TypeId}{ms:Array (String×TypeId)}(ht:P.underlying t=some (.interface ms)){W:World}{base:Nat}{sp:Nat→Bool}{hd:Bool}{fuel:Nat}{cs:List Value}{y:DataW H×List MemPlace}(h:DataW.trod enc P W base sp hd fuel t cs=some y): ∃v,cs=[v]∧(v= .nilIface∨ ∃u x,v= .iface u x):=by
 cases fuel with
 |zero=>simp [DataW.trod] at h
 |succ n=>
  match cs,h with
  |[],h=>simp [DataW.trod,ht] at h
  |[v],h=>
   refine ⟨v,rfl,?_⟩;cases v<;>first|exact .inl rfl|exact .inr ⟨_,_,rfl⟩|simp [DataW.trod,ht] at h
  |_::_::_,h=>simp [DataW.trod,ht] at h
theorem Journal.errV {W:World}{l:List (String×DataW Unit)}{n:String}{d:DataW Unit}{g:Nat}{ms:Array (String×TypeId)}(h:laidMet Tryz.prog l W)(hm:(n,d)∈l)(hg:Tryz.prog.globalNamed n=some g)(hu:((Tryz.prog.globals[g]?).map (·.type)).bind Tryz.prog.underlying=some (.interface ms)):g<W.heap.size∧ErrV W g:=by
 obtain ⟨g',t,cs,fuel,p,h1,h2,h3,h4⟩:=Lib.laidMet.reads (P:=Tryz.prog) (w:=W) (l:=l) h hm;obtain rfl:=Option.some.inj (hg.symm.trans h1);rw [h2,Option.bind_some] at hu;obtain ⟨v,hv,hi⟩:=Journal.iface (ms:=ms) hu h4;unfold World.var? at h3;rw [hg,Option.bind_some] at h3;split at h3;rename_i c t' fr hh;injection h3 with h3;subst h3;refine ⟨(Array.getElem?_eq_some_iff.1 hh).1,v,?_,hi⟩;have:c[0]? =some v:=by
  rw [←Array.getElem?_toList,hv];rfl
 simp [World.cell?,hh,this];cases h3
theorem Journal.powTab {W:World}{l:List (String×DataW Unit)}(h:laidMet Tryz.prog l W)(hm:("internal/strconv.uint64pow10",Rows.laid_internal_strconv_uint64pow10)∈l): ∃t fr,W.heap[1]? =some (.cells pow10Cells t fr):=by
 obtain ⟨g,t,cs,fuel,p,h1,h2,h3,h4⟩:=Lib.laidMet.reads (P:=Tryz.prog) (w:=W) (l:=l) h hm;have e1:Tryz.prog.globalNamed "internal/strconv.uint64pow10"=some 1:=by kernel_rfl
 obtain rfl:=Option.some.inj (e1.symm.trans h1);have hcs:cs.toList=Lib.pow10Tab.map fun z=>Value.int .u64 z:=by
  rw [show Rows.laid_internal_strconv_uint64pow10=Lib.tabData .u64 Lib.pow10Tab by kernel_rfl] at h4;obtain rfl:217=t:=Option.some.inj ((show (Tryz.prog.globals[1]?).map (·.type)=some 217 by kernel_rfl).symm.trans h2);exact Lib.cells_of_tab (P:=Tryz.prog) (n:=20) (e:=148) (by kernel_rfl) (by kernel_rfl) (by kernel_rfl) (by kernel_rfl) h4
 unfold World.var? at h3;rw [e1,Option.bind_some] at h3;split at h3;rename_i c t' fr hh;injection h3 with h3;subst h3;refine ⟨t',fr,?_⟩;rw [hh];have:c=pow10Cells:=by
  apply Array.toList_inj.1;rw [hcs];unfold pow10Cells Lib.pow10Tab;rw [List.map_map];rfl
 rw [this];cases h3
end Go.Proofs.YtjnkhcgmgkhnaaaGreatDoor
