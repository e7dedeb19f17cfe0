import Derived.Test.YtjnkhcgmgkhnaaaGreatDoorJournalWld
set_option linter.all false
namespace Go.Proofs.YtjnkhcgmgkhnaaaGreatDoor
open Go.ChangeShapes Go.WideShapes Go.ChangeAt Go.RowKit Go.Ide
set_option maxRecDepth 100000 in
theorem Journal.lifted (os:Os)(started:os.Started)(H:Type)(enc:TypeId×Value→H)(F:Stop.Interp):
 ReturnsInHanded {} Tryz.checked os 5 .any ((OpenSpec.ofChange Rows.fnJournalSpec).preRow enc Tryz.prog Tryz.f5 Rows.fnJournalRow.domain false Rows.fnJournalRow.laid) (((OpenSpec.ofChange Rows.fnJournalSpec).at F).post enc Tryz.prog Tryz.f5 false true false false):=by
 obtain ⟨places,hx⟩:=Journal.reads os enc;refine returnsInHanded_of_row (C:=Tryz.checked) (s:=OpenSpec.ofChange Rows.fnJournalSpec) Journal.own started (by kernel_rfl) Tryz.func5
  (witness_row_at (enc:=enc) (C:=Tryz.checked) false (Journal.world os) #[.slice none 0 0,.slice none 0 0] rfl (by kernel_rfl) (by kernel_rfl) (by kernel_rfl)
   (OpenSpec.preRow_of_cond 8 hx (by kernel_rfl) (fun k hk=>by cases hk) (by kernel_rfl) (Journal.met os))) ?_
 intro W base args ds gs before hval hW _ _ _ hL hsh _;have hgl:Glob.ok W (There W):=by
  obtain ⟨m,hm⟩: ∃m,W.cell? ⟨0,0,none⟩=some (.int .i64 m):=Go.Proofs.cell_of_shapedOpen_int (zero:= #[.int .i64 0]) (t:=3) hsh (of_decide_eq_true (by kernel_rfl)) (by kernel_rfl) rfl (by kernel_rfl) (by kernel_rfl) Tryz.underlying3;obtain ⟨t,fr,ht⟩:=Journal.powTab (W:=W) (l:=Rows.fnJournalRow.laid) hL (.tail _ (.tail _ (.head _)));refine ⟨⟨⟨?_,m,hm⟩,(Array.getElem?_eq_some_iff.1 ht).1,t,fr,ht⟩,Journal.errV (W:=W) (l:=Rows.fnJournalRow.laid) (g:=4) hL (.tail _ (.tail _ (.tail _ (.tail _ (.tail _ (.head _)))))) (by kernel_rfl) Tryz.underlying97,Journal.errV (W:=W) (l:=Rows.fnJournalRow.laid) (g:=5) hL (.tail _ (.tail _ (.tail _ (.tail _ (.head _))))) (by kernel_rfl) Tryz.underlying97⟩;show 0<W.heap.size;apply Nat.pos_of_ne_zero;intro h0;have:W.heap[0]? =none:=by rw [Array.getElem?_eq_none];omega
  simp [World.cell?,this] at hm
 exact law_run (P:=Tryz.prog) (f:=5) (fn:=Tryz.f5) (s:=Rows.fnJournalSpec) (T:=4) (ts:=[.sl (.int .u8),.sl (.int .u8)]) (base:=base) (by kernel_rfl) (by kernel_rfl) rfl (by kernel_rfl) (by kernel_rfl) (by kernel_rfl) (fun h=>by
  match ds,h with
  |[d0,d1],_=>rfl) Journal.all hval hgl hW
end Go.Proofs.YtjnkhcgmgkhnaaaGreatDoor
