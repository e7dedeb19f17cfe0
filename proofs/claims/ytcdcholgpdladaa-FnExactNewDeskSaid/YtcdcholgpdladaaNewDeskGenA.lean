import Derived.Test.YtcdcholgpdladaaLibC
import Derived.Test.YtcdcholgpdladaaProg
set_option linter.unusedVariables false
set_option linter.unusedSimpArgs false
set_option linter.unusedSectionVars false
/-
  Functions as plain functions, and their contracts. Printed by a program.
-/
namespace Go.Proofs
open Go.Ide

noncomputable def spec_NewDesk  : Option (((Int × Int × List (Int × Int × Int × Int) × List Int × List Int) × (Int × Int × List Int × List Bool) × (Int × Int × List (Int × Int × Int × Int)) × List Int)) :=
  (some ([((0 : Int), (0 : Int), (0 : Int), (1 : Int)), ((0 : Int), (0 : Int), (-1 : Int), (1 : Int))] : List (Int × Int × Int × Int))).bind fun q1 =>
  some (((2 : Int), (1 : Int), ([((0 : Int), (1 : Int), (0 : Int), (3 : Int))] : List (Int × Int × Int × Int)), ([(0 : Int), (-1 : Int)] : List Int), ([(-1 : Int), (0 : Int)] : List Int)), ((2 : Int), (1 : Int), ([(1 : Int), (0 : Int)] : List Int), ([true, false] : List Bool)), ((1 : Int), (1 : Int), q1), ([(0 : Int)] : List Int))

theorem f6_ok  {r : ((Int × Int × List (Int × Int × Int × Int) × List Int × List Int) × (Int × Int × List Int × List Bool) × (Int × Int × List (Int × Int × Int × Int)) × List Int)} (hr : spec_NewDesk = some r) : CallOK Try.prog 6 [] [⟨true, (.st (.pair (.st (.pair (.int .i64) (.pair (.int .i64) (.pair (.sl (.st (.pair (.int .i64) (.pair (.int .i64) (.pair (.int .i64) (.int .i64)))))) (.pair (.sl (.int .i64)) (.sl (.int .i64))))))) (.pair (.st (.pair (.int .i64) (.pair (.int .i64) (.pair (.sl (.int .i64)) (.sl .bool))))) (.pair (.st (.pair (.int .i64) (.pair (.int .i64) (.sl (.st (.pair (.int .i64) (.pair (.int .i64) (.pair (.int .i64) (.int .i64))))))))) (.sl (.int .i64)))))), r⟩] [] := by
  unfold spec_NewDesk at hr
  refine CallOK.of_body (ts := [(true, (.st (.pair (.st (.pair (.int .i64) (.pair (.int .i64) (.pair (.sl (.st (.pair (.int .i64) (.pair (.int .i64) (.pair (.int .i64) (.int .i64)))))) (.pair (.sl (.int .i64)) (.sl (.int .i64))))))) (.pair (.st (.pair (.int .i64) (.pair (.int .i64) (.pair (.sl (.int .i64)) (.sl .bool))))) (.pair (.st (.pair (.int .i64) (.pair (.int .i64) (.sl (.st (.pair (.int .i64) (.pair (.int .i64) (.pair (.int .i64) (.int .i64))))))))) (.sl (.int .i64)))))))]) Try.func6 rfl (by kernel_rfl) (Nat.le_of_ble_eq_true (by kernel_rfl)) fun cx hP hN hO hF => ?_
  have hO : cx.own.map Prod.fst = [] := hO
  have hF := hF rfl
  show HT cx ⟨[], [], 0⟩ _ _
  refine HT.reg1 [0] [⟨none, .no⟩] ⟨[(0, .one (.ptr 0 0))], [(0, .box [.dat (.int .i64) (0 : Int), .dat (.int .i64) (0 : Int), .nilS, .nilS, .nilS, .dat (.int .i64) (0 : Int), .dat (.int .i64) (0 : Int), .nilS, .nilS, .dat (.int .i64) (0 : Int), .dat (.int .i64) (0 : Int), .nilS, .nilS])], 1⟩ hP hN (by kernel_rfl) allNil ?_
  refine HT.reg1 [0, 1] [⟨none, .no⟩, ⟨none, .ty (.st (.pair (.int .i64) (.pair (.int .i64) (.pair (.int .i64) (.int .i64)))))⟩, ⟨none, .ty (.int .i64)⟩, ⟨none, .ty (.int .i64)⟩, ⟨none, .no⟩, ⟨none, .no⟩, ⟨none, .no⟩, ⟨none, .no⟩] ⟨[(0, .one (.ptr 0 0)), (1, .one (.ptr 4 0))], [(4, .box [.dat (.int .i64) (2 : Int), .dat (.int .i64) (1 : Int), .all 1, .all 2, .all 3, .dat (.int .i64) (0 : Int), .dat (.int .i64) (0 : Int), .nilS, .nilS, .dat (.int .i64) (0 : Int), .dat (.int .i64) (0 : Int), .nilS, .nilS]), (4, .box [.dat (.int .i64) (0 : Int), .dat (.int .i64) (0 : Int), .nilS, .nilS, .nilS, .dat (.int .i64) (0 : Int), .dat (.int .i64) (0 : Int), .nilS, .nilS, .dat (.int .i64) (0 : Int), .dat (.int .i64) (0 : Int), .nilS, .nilS]), (3, .seq (.int .i64) ([(-1 : Int), (0 : Int)] : List Int)), (2, .seq (.int .i64) ([(0 : Int), (-1 : Int)] : List Int)), (1, .seq (.st (.pair (.int .i64) (.pair (.int .i64) (.pair (.int .i64) (.int .i64))))) ([((0 : Int), (1 : Int), (0 : Int), (3 : Int))] : List (Int × Int × Int × Int))), (0, .box [.dat (.int .i64) (0 : Int), .dat (.int .i64) (0 : Int), .nilS, .nilS, .nilS, .dat (.int .i64) (0 : Int), .dat (.int .i64) (0 : Int), .nilS, .nilS, .dat (.int .i64) (0 : Int), .dat (.int .i64) (0 : Int), .nilS, .nilS])], 5⟩ hP hN (by kernel_rfl) allNil ?_
  refine HT.reg1 [0, 1] [⟨none, .ty (.int .i64)⟩, ⟨none, .ty .bool⟩, ⟨none, .no⟩, ⟨none, .no⟩, ⟨none, .no⟩] ⟨[(0, .one (.ptr 0 0)), (1, .one (.ptr 4 0))], [(4, .box [.dat (.int .i64) (2 : Int), .dat (.int .i64) (1 : Int), .all 1, .all 2, .all 3, .dat (.int .i64) (2 : Int), .dat (.int .i64) (1 : Int), .all 5, .all 6, .dat (.int .i64) (0 : Int), .dat (.int .i64) (0 : Int), .nilS, .nilS]), (6, .seq .bool ([true, false] : List Bool)), (5, .seq (.int .i64) ([(1 : Int), (0 : Int)] : List Int)), (4, .box [.dat (.int .i64) (2 : Int), .dat (.int .i64) (1 : Int), .all 1, .all 2, .all 3, .dat (.int .i64) (0 : Int), .dat (.int .i64) (0 : Int), .nilS, .nilS, .dat (.int .i64) (0 : Int), .dat (.int .i64) (0 : Int), .nilS, .nilS]), (4, .box [.dat (.int .i64) (0 : Int), .dat (.int .i64) (0 : Int), .nilS, .nilS, .nilS, .dat (.int .i64) (0 : Int), .dat (.int .i64) (0 : Int), .nilS, .nilS, .dat (.int .i64) (0 : Int), .dat (.int .i64) (0 : Int), .nilS, .nilS]), (3, .seq (.int .i64) ([(-1 : Int), (0 : Int)] : List Int)), (2, .seq (.int .i64) ([(0 : Int), (-1 : Int)] : List Int)), (1, .seq (.st (.pair (.int .i64) (.pair (.int .i64) (.pair (.int .i64) (.int .i64))))) ([((0 : Int), (1 : Int), (0 : Int), (3 : Int))] : List (Int × Int × Int × Int))), (0, .box [.dat (.int .i64) (0 : Int), .dat (.int .i64) (0 : Int), .nilS, .nilS, .nilS, .dat (.int .i64) (0 : Int), .dat (.int .i64) (0 : Int), .nilS, .nilS, .dat (.int .i64) (0 : Int), .dat (.int .i64) (0 : Int), .nilS, .nilS])], 7⟩ hP hN (by kernel_rfl) allNil ?_
  refine HT.reg1 [0, 1] [⟨none, .no⟩, ⟨none, .no⟩, ⟨none, .ty (.st (.pair (.int .i64) (.pair (.int .i64) (.pair (.int .i64) (.int .i64)))))⟩, ⟨none, .no⟩, ⟨none, .no⟩, ⟨none, .no⟩] ⟨[(0, .one (.ptr 0 0)), (1, .one (.ptr 4 0))], [(4, .box [.dat (.int .i64) (2 : Int), .dat (.int .i64) (1 : Int), .all 1, .all 2, .all 3, .dat (.int .i64) (2 : Int), .dat (.int .i64) (1 : Int), .all 5, .all 6, .dat (.int .i64) (1 : Int), .dat (.int .i64) (1 : Int), .all 7, .nilS]), (7, .seq (.st (.pair (.int .i64) (.pair (.int .i64) (.pair (.int .i64) (.int .i64))))) ([((0 : Int), (0 : Int), (0 : Int), (1 : Int)), ((0 : Int), (0 : Int), (-1 : Int), (1 : Int))] : List (Int × Int × Int × Int))), (4, .box [.dat (.int .i64) (2 : Int), .dat (.int .i64) (1 : Int), .all 1, .all 2, .all 3, .dat (.int .i64) (2 : Int), .dat (.int .i64) (1 : Int), .all 5, .all 6, .dat (.int .i64) (0 : Int), .dat (.int .i64) (0 : Int), .nilS, .nilS]), (6, .seq .bool ([true, false] : List Bool)), (5, .seq (.int .i64) ([(1 : Int), (0 : Int)] : List Int)), (4, .box [.dat (.int .i64) (2 : Int), .dat (.int .i64) (1 : Int), .all 1, .all 2, .all 3, .dat (.int .i64) (0 : Int), .dat (.int .i64) (0 : Int), .nilS, .nilS, .dat (.int .i64) (0 : Int), .dat (.int .i64) (0 : Int), .nilS, .nilS]), (4, .box [.dat (.int .i64) (0 : Int), .dat (.int .i64) (0 : Int), .nilS, .nilS, .nilS, .dat (.int .i64) (0 : Int), .dat (.int .i64) (0 : Int), .nilS, .nilS, .dat (.int .i64) (0 : Int), .dat (.int .i64) (0 : Int), .nilS, .nilS]), (3, .seq (.int .i64) ([(-1 : Int), (0 : Int)] : List Int)), (2, .seq (.int .i64) ([(0 : Int), (-1 : Int)] : List Int)), (1, .seq (.st (.pair (.int .i64) (.pair (.int .i64) (.pair (.int .i64) (.int .i64))))) ([((0 : Int), (1 : Int), (0 : Int), (3 : Int))] : List (Int × Int × Int × Int))), (0, .box [.dat (.int .i64) (0 : Int), .dat (.int .i64) (0 : Int), .nilS, .nilS, .nilS, .dat (.int .i64) (0 : Int), .dat (.int .i64) (0 : Int), .nilS, .nilS, .dat (.int .i64) (0 : Int), .dat (.int .i64) (0 : Int), .nilS, .nilS])], 8⟩ hP hN (by kernel_rfl) allNil ?_
  obtain ⟨q1, hq2, hr⟩ := of_bind hr
  have hq2 := of_some2 hq2
  refine (Le.cv (s := ⟨[(4, 4), (7, 7), (6, 6), (5, 5), (3, 3), (2, 2), (1, 1), (0, 0)], [], [], false⟩) (own := []) (ps := [(2 : Int) = (2 : Int), (1 : Int) = (1 : Int), (2 : Int) = (2 : Int), (1 : Int) = (1 : Int), (1 : Int) = (1 : Int), (1 : Int) = (1 : Int), q1 = ([((0 : Int), (0 : Int), (0 : Int), (1 : Int)), ((0 : Int), (0 : Int), (-1 : Int), (1 : Int))] : List (Int × Int × Int × Int)), ([true, false] : List Bool) = ([true, false] : List Bool), ([(1 : Int), (0 : Int)] : List Int) = ([(1 : Int), (0 : Int)] : List Int), ([(-1 : Int), (0 : Int)] : List Int) = ([(-1 : Int), (0 : Int)] : List Int), ([(0 : Int), (-1 : Int)] : List Int) = ([(0 : Int), (-1 : Int)] : List Int), ([((0 : Int), (1 : Int), (0 : Int), (3 : Int))] : List (Int × Int × Int × Int)) = ([((0 : Int), (1 : Int), (0 : Int), (3 : Int))] : List (Int × Int × Int × Int)), (0 : Int) = (0 : Int), (0 : Int) = (0 : Int), (0 : Int) = (0 : Int), (0 : Int) = (0 : Int), (0 : Int) = (0 : Int), (0 : Int) = (0 : Int)]) (st' := ⟨[(0, .one (.ptr 0 0)), (1, .one (.ptr 4 0))], [(4, .box [.dat (.int .i64) (2 : Int), .dat (.int .i64) (1 : Int), .all 1, .all 2, .all 3, .dat (.int .i64) (2 : Int), .dat (.int .i64) (1 : Int), .all 5, .all 6, .dat (.int .i64) (1 : Int), .dat (.int .i64) (1 : Int), .all 7, .nilS]), (7, .seq (.st (.pair (.int .i64) (.pair (.int .i64) (.pair (.int .i64) (.int .i64))))) q1), (6, .seq .bool ([true, false] : List Bool)), (5, .seq (.int .i64) ([(1 : Int), (0 : Int)] : List Int)), (3, .seq (.int .i64) ([(-1 : Int), (0 : Int)] : List Int)), (2, .seq (.int .i64) ([(0 : Int), (-1 : Int)] : List Int)), (1, .seq (.st (.pair (.int .i64) (.pair (.int .i64) (.pair (.int .i64) (.int .i64))))) ([((0 : Int), (1 : Int), (0 : Int), (3 : Int))] : List (Int × Int × Int × Int))), (0, .box [.dat (.int .i64) (0 : Int), .dat (.int .i64) (0 : Int), .nilS, .nilS, .nilS, .dat (.int .i64) (0 : Int), .dat (.int .i64) (0 : Int), .nilS, .nilS, .dat (.int .i64) (0 : Int), .dat (.int .i64) (0 : Int), .nilS, .nilS])], 8⟩) hO (fun h => by cases h) (by kernel_rfl) ⟨rfl, rfl, rfl, rfl, rfl, rfl, hq2, rfl, rfl, rfl, rfl, rfl, rfl, rfl, rfl, rfl, rfl, rfl, trivial⟩).ht ?_
  refine HT.reg1 [0, 1] [⟨none, .ty (.int .i64)⟩, ⟨none, .no⟩, ⟨none, .no⟩] ⟨[(0, .one (.ptr 0 0)), (1, .one (.ptr 4 0))], [(4, .box [.dat (.int .i64) (2 : Int), .dat (.int .i64) (1 : Int), .all 1, .all 2, .all 3, .dat (.int .i64) (2 : Int), .dat (.int .i64) (1 : Int), .all 5, .all 6, .dat (.int .i64) (1 : Int), .dat (.int .i64) (1 : Int), .all 7, .all 8]), (8, .seq (.int .i64) ([(0 : Int)] : List Int)), (4, .box [.dat (.int .i64) (2 : Int), .dat (.int .i64) (1 : Int), .all 1, .all 2, .all 3, .dat (.int .i64) (2 : Int), .dat (.int .i64) (1 : Int), .all 5, .all 6, .dat (.int .i64) (1 : Int), .dat (.int .i64) (1 : Int), .all 7, .nilS]), (7, .seq (.st (.pair (.int .i64) (.pair (.int .i64) (.pair (.int .i64) (.int .i64))))) q1), (6, .seq .bool ([true, false] : List Bool)), (5, .seq (.int .i64) ([(1 : Int), (0 : Int)] : List Int)), (3, .seq (.int .i64) ([(-1 : Int), (0 : Int)] : List Int)), (2, .seq (.int .i64) ([(0 : Int), (-1 : Int)] : List Int)), (1, .seq (.st (.pair (.int .i64) (.pair (.int .i64) (.pair (.int .i64) (.int .i64))))) ([((0 : Int), (1 : Int), (0 : Int), (3 : Int))] : List (Int × Int × Int × Int))), (0, .box [.dat (.int .i64) (0 : Int), .dat (.int .i64) (0 : Int), .nilS, .nilS, .nilS, .dat (.int .i64) (0 : Int), .dat (.int .i64) (0 : Int), .nilS, .nilS, .dat (.int .i64) (0 : Int), .dat (.int .i64) (0 : Int), .nilS, .nilS])], 9⟩ hP hN (by kernel_rfl) allNil ?_
  refine HT.reg1 [0] [⟨none, .no⟩, ⟨none, .no⟩] ⟨[(0, .one (.ptr 0 0))], [(0, .box [.dat (.int .i64) (2 : Int), .dat (.int .i64) (1 : Int), .all 1, .all 2, .all 3, .dat (.int .i64) (2 : Int), .dat (.int .i64) (1 : Int), .all 5, .all 6, .dat (.int .i64) (1 : Int), .dat (.int .i64) (1 : Int), .all 7, .all 8]), (4, .box [.dat (.int .i64) (2 : Int), .dat (.int .i64) (1 : Int), .all 1, .all 2, .all 3, .dat (.int .i64) (2 : Int), .dat (.int .i64) (1 : Int), .all 5, .all 6, .dat (.int .i64) (1 : Int), .dat (.int .i64) (1 : Int), .all 7, .all 8]), (8, .seq (.int .i64) ([(0 : Int)] : List Int)), (4, .box [.dat (.int .i64) (2 : Int), .dat (.int .i64) (1 : Int), .all 1, .all 2, .all 3, .dat (.int .i64) (2 : Int), .dat (.int .i64) (1 : Int), .all 5, .all 6, .dat (.int .i64) (1 : Int), .dat (.int .i64) (1 : Int), .all 7, .nilS]), (7, .seq (.st (.pair (.int .i64) (.pair (.int .i64) (.pair (.int .i64) (.int .i64))))) q1), (6, .seq .bool ([true, false] : List Bool)), (5, .seq (.int .i64) ([(1 : Int), (0 : Int)] : List Int)), (3, .seq (.int .i64) ([(-1 : Int), (0 : Int)] : List Int)), (2, .seq (.int .i64) ([(0 : Int), (-1 : Int)] : List Int)), (1, .seq (.st (.pair (.int .i64) (.pair (.int .i64) (.pair (.int .i64) (.int .i64))))) ([((0 : Int), (1 : Int), (0 : Int), (3 : Int))] : List (Int × Int × Int × Int))), (0, .box [.dat (.int .i64) (0 : Int), .dat (.int .i64) (0 : Int), .nilS, .nilS, .nilS, .dat (.int .i64) (0 : Int), .dat (.int .i64) (0 : Int), .nilS, .nilS, .dat (.int .i64) (0 : Int), .dat (.int .i64) (0 : Int), .nilS, .nilS])], 9⟩ hP hN (by kernel_rfl) allNil ?_
  have hr := of_some hr
  subst hr
  exact HT.ret ⟨[.agg [.dat (.int .i64) (2 : Int), .dat (.int .i64) (1 : Int), .all 1, .all 2, .all 3, .dat (.int .i64) (2 : Int), .dat (.int .i64) (1 : Int), .all 5, .all 6, .dat (.int .i64) (1 : Int), .dat (.int .i64) (1 : Int), .all 7, .all 8]], [1, 2, 3, 5, 6, 7, 8], [], by kernel_rfl, by kernel_rfl, rfl, by kernel_rfl, by kernel_rfl, trivial⟩

noncomputable def impl_NewDesk  : Option (((Int × Int × List (Int × Int × Int × Int) × List Int × List Int) × (Int × Int × List Int × List Bool) × (Int × Int × List (Int × Int × Int × Int)) × List Int)) :=
  (some ([((0 : Int), (0 : Int), (0 : Int), (1 : Int)), ((0 : Int), (0 : Int), (-1 : Int), (1 : Int))] : List (Int × Int × Int × Int))).bind fun q1 =>
  some (((2 : Int), (1 : Int), ([((0 : Int), (1 : Int), (0 : Int), (3 : Int))] : List (Int × Int × Int × Int)), ([(0 : Int), (-1 : Int)] : List Int), ([(-1 : Int), (0 : Int)] : List Int)), ((2 : Int), (1 : Int), ([(1 : Int), (0 : Int)] : List Int), ([true, false] : List Bool)), ((1 : Int), (1 : Int), q1), ([(0 : Int)] : List Int))

theorem f7_ok  {r : ((Int × Int × List (Int × Int × Int × Int) × List Int × List Int) × (Int × Int × List Int × List Bool) × (Int × Int × List (Int × Int × Int × Int)) × List Int)} (hr : impl_NewDesk = some r) : CallOK Try.prog 7 [] [⟨true, (.st (.pair (.st (.pair (.int .i64) (.pair (.int .i64) (.pair (.sl (.st (.pair (.int .i64) (.pair (.int .i64) (.pair (.int .i64) (.int .i64)))))) (.pair (.sl (.int .i64)) (.sl (.int .i64))))))) (.pair (.st (.pair (.int .i64) (.pair (.int .i64) (.pair (.sl (.int .i64)) (.sl .bool))))) (.pair (.st (.pair (.int .i64) (.pair (.int .i64) (.sl (.st (.pair (.int .i64) (.pair (.int .i64) (.pair (.int .i64) (.int .i64))))))))) (.sl (.int .i64)))))), r⟩] [] := by
  unfold impl_NewDesk at hr
  refine CallOK.of_body (ts := [(true, (.st (.pair (.st (.pair (.int .i64) (.pair (.int .i64) (.pair (.sl (.st (.pair (.int .i64) (.pair (.int .i64) (.pair (.int .i64) (.int .i64)))))) (.pair (.sl (.int .i64)) (.sl (.int .i64))))))) (.pair (.st (.pair (.int .i64) (.pair (.int .i64) (.pair (.sl (.int .i64)) (.sl .bool))))) (.pair (.st (.pair (.int .i64) (.pair (.int .i64) (.sl (.st (.pair (.int .i64) (.pair (.int .i64) (.pair (.int .i64) (.int .i64))))))))) (.sl (.int .i64)))))))]) Try.func7 rfl (by kernel_rfl) (Nat.le_of_ble_eq_true (by kernel_rfl)) fun cx hP hN hO hF => ?_
  have hO : cx.own.map Prod.fst = [] := hO
  have hF := hF rfl
  show HT cx ⟨[], [], 0⟩ _ _
  refine HT.reg1 [0] [⟨none, .no⟩] ⟨[(0, .one (.ptr 0 0))], [(0, .box [.dat (.int .i64) (0 : Int), .dat (.int .i64) (0 : Int), .nilS, .nilS, .nilS, .dat (.int .i64) (0 : Int), .dat (.int .i64) (0 : Int), .nilS, .nilS, .dat (.int .i64) (0 : Int), .dat (.int .i64) (0 : Int), .nilS, .nilS])], 1⟩ hP hN (by kernel_rfl) allNil ?_
  refine HT.reg1 [0] [⟨none, .no⟩, ⟨none, .ty (.st (.pair (.int .i64) (.pair (.int .i64) (.pair (.int .i64) (.int .i64)))))⟩, ⟨none, .ty (.int .i64)⟩, ⟨none, .ty (.int .i64)⟩, ⟨none, .no⟩, ⟨none, .ty (.int .i64)⟩, ⟨none, .ty .bool⟩, ⟨none, .no⟩, ⟨none, .no⟩, ⟨none, .no⟩, ⟨none, .ty (.st (.pair (.int .i64) (.pair (.int .i64) (.pair (.int .i64) (.int .i64)))))⟩, ⟨none, .no⟩, ⟨none, .ty (.int .i64)⟩, ⟨none, .no⟩, ⟨none, .no⟩] ⟨[(0, .one (.ptr 0 0))], [(0, .box [.dat (.int .i64) (2 : Int), .dat (.int .i64) (1 : Int), .all 1, .all 2, .all 3, .dat (.int .i64) (2 : Int), .dat (.int .i64) (1 : Int), .all 4, .all 5, .dat (.int .i64) (1 : Int), .dat (.int .i64) (1 : Int), .all 6, .all 7]), (7, .seq (.int .i64) ([(0 : Int)] : List Int)), (6, .seq (.st (.pair (.int .i64) (.pair (.int .i64) (.pair (.int .i64) (.int .i64))))) ([((0 : Int), (0 : Int), (0 : Int), (1 : Int)), ((0 : Int), (0 : Int), (-1 : Int), (1 : Int))] : List (Int × Int × Int × Int))), (5, .seq .bool ([true, false] : List Bool)), (4, .seq (.int .i64) ([(1 : Int), (0 : Int)] : List Int)), (3, .seq (.int .i64) ([(-1 : Int), (0 : Int)] : List Int)), (2, .seq (.int .i64) ([(0 : Int), (-1 : Int)] : List Int)), (1, .seq (.st (.pair (.int .i64) (.pair (.int .i64) (.pair (.int .i64) (.int .i64))))) ([((0 : Int), (1 : Int), (0 : Int), (3 : Int))] : List (Int × Int × Int × Int))), (0, .box [.dat (.int .i64) (0 : Int), .dat (.int .i64) (0 : Int), .nilS, .nilS, .nilS, .dat (.int .i64) (0 : Int), .dat (.int .i64) (0 : Int), .nilS, .nilS, .dat (.int .i64) (0 : Int), .dat (.int .i64) (0 : Int), .nilS, .nilS])], 8⟩ hP hN (by kernel_rfl) allNil ?_
  obtain ⟨q1, hq2, hr⟩ := of_bind hr
  have hq2 := of_some2 hq2
  refine (Le.cv (s := ⟨[(0, 0), (7, 7), (6, 6), (5, 5), (4, 4), (3, 3), (2, 2), (1, 1)], [], [], false⟩) (own := []) (ps := [(2 : Int) = (2 : Int), (1 : Int) = (1 : Int), (2 : Int) = (2 : Int), (1 : Int) = (1 : Int), (1 : Int) = (1 : Int), (1 : Int) = (1 : Int), ([(0 : Int)] : List Int) = ([(0 : Int)] : List Int), q1 = ([((0 : Int), (0 : Int), (0 : Int), (1 : Int)), ((0 : Int), (0 : Int), (-1 : Int), (1 : Int))] : List (Int × Int × Int × Int)), ([true, false] : List Bool) = ([true, false] : List Bool), ([(1 : Int), (0 : Int)] : List Int) = ([(1 : Int), (0 : Int)] : List Int), ([(-1 : Int), (0 : Int)] : List Int) = ([(-1 : Int), (0 : Int)] : List Int), ([(0 : Int), (-1 : Int)] : List Int) = ([(0 : Int), (-1 : Int)] : List Int), ([((0 : Int), (1 : Int), (0 : Int), (3 : Int))] : List (Int × Int × Int × Int)) = ([((0 : Int), (1 : Int), (0 : Int), (3 : Int))] : List (Int × Int × Int × Int))]) (st' := ⟨[(0, .one (.ptr 0 0))], [(0, .box [.dat (.int .i64) (2 : Int), .dat (.int .i64) (1 : Int), .all 1, .all 2, .all 3, .dat (.int .i64) (2 : Int), .dat (.int .i64) (1 : Int), .all 4, .all 5, .dat (.int .i64) (1 : Int), .dat (.int .i64) (1 : Int), .all 6, .all 7]), (7, .seq (.int .i64) ([(0 : Int)] : List Int)), (6, .seq (.st (.pair (.int .i64) (.pair (.int .i64) (.pair (.int .i64) (.int .i64))))) q1), (5, .seq .bool ([true, false] : List Bool)), (4, .seq (.int .i64) ([(1 : Int), (0 : Int)] : List Int)), (3, .seq (.int .i64) ([(-1 : Int), (0 : Int)] : List Int)), (2, .seq (.int .i64) ([(0 : Int), (-1 : Int)] : List Int)), (1, .seq (.st (.pair (.int .i64) (.pair (.int .i64) (.pair (.int .i64) (.int .i64))))) ([((0 : Int), (1 : Int), (0 : Int), (3 : Int))] : List (Int × Int × Int × Int)))], 8⟩) hO (fun h => by cases h) (by kernel_rfl) ⟨rfl, rfl, rfl, rfl, rfl, rfl, rfl, hq2, rfl, rfl, rfl, rfl, rfl, trivial⟩).ht ?_
  have hr := of_some hr
  subst hr
  exact HT.ret ⟨[.agg [.dat (.int .i64) (2 : Int), .dat (.int .i64) (1 : Int), .all 1, .all 2, .all 3, .dat (.int .i64) (2 : Int), .dat (.int .i64) (1 : Int), .all 4, .all 5, .dat (.int .i64) (1 : Int), .dat (.int .i64) (1 : Int), .all 6, .all 7]], [1, 2, 3, 4, 5, 6, 7], [], by kernel_rfl, by kernel_rfl, rfl, by kernel_rfl, by kernel_rfl, trivial⟩

noncomputable def laws_eqArc (a0 : Int × Int × Int × Int) (a1 : Int × Int × Int × Int) : Option (Bool) :=
  bif (a0.1 != a1.1) then
    some false
  else
    bif (a0.2.1 != a1.2.1) then
      some false
    else
      bif (a0.2.2.1 != a1.2.2.1) then
        some false
      else
        bif (a0.2.2.2 != a1.2.2.2) then
          some false
        else
          some true

theorem f74_ok {a0 : Int × Int × Int × Int} {a1 : Int × Int × Int × Int} {r : Bool} (hr : laws_eqArc a0 a1 = some r) : CallOK Try.prog 74 [.imm (.st (.pair (.int .i64) (.pair (.int .i64) (.pair (.int .i64) (.int .i64))))) a0, .imm (.st (.pair (.int .i64) (.pair (.int .i64) (.pair (.int .i64) (.int .i64))))) a1] [⟨false, .bool, r⟩] [] := by
  unfold laws_eqArc at hr
  refine CallOK.of_body (ts := [(false, .bool)]) Try.func74 rfl (by kernel_rfl) (Nat.le_of_ble_eq_true (by kernel_rfl)) fun cx hP hN hO hF => ?_
  have hO : cx.own.map Prod.fst = [] := hO
  have hF := hF rfl
  show HT cx ⟨[(0, .agg [.dat (.int .i64) a0.1, .dat (.int .i64) a0.2.1, .dat (.int .i64) a0.2.2.1, .dat (.int .i64) a0.2.2.2]), (1, .agg [.dat (.int .i64) a1.1, .dat (.int .i64) a1.2.1, .dat (.int .i64) a1.2.2.1, .dat (.int .i64) a1.2.2.2])], [], 0⟩ _ _
  refine HT.reg1 [2, 3] [⟨none, .no⟩, ⟨none, .no⟩, ⟨none, .no⟩] ⟨[(2, .one (.ptr 0 0)), (3, .one (.ptr 1 0))], [(1, .box [.dat (.int .i64) a1.1, .dat (.int .i64) a1.2.1, .dat (.int .i64) a1.2.2.1, .dat (.int .i64) a1.2.2.2]), (0, .box [.dat (.int .i64) a0.1, .dat (.int .i64) a0.2.1, .dat (.int .i64) a0.2.2.1, .dat (.int .i64) a0.2.2.2])], 2⟩ hP hN (by kernel_rfl) allNil ?_
  refine HT.seq ?_
  refine HT.reg1 [2, 3, 9] [⟨none, .no⟩, ⟨none, .no⟩, ⟨none, .no⟩, ⟨none, .no⟩, ⟨none, .no⟩] ⟨[(2, .one (.ptr 0 0)), (3, .one (.ptr 1 0)), (9, .one (.dat .bool (a0.1 != a1.1)))], [(1, .box [.dat (.int .i64) a1.1, .dat (.int .i64) a1.2.1, .dat (.int .i64) a1.2.2.1, .dat (.int .i64) a1.2.2.2]), (0, .box [.dat (.int .i64) a0.1, .dat (.int .i64) a0.2.1, .dat (.int .i64) a0.2.2.1, .dat (.int .i64) a0.2.2.2])], 2⟩ hP hN (by kernel_rfl) allNil ?_
  rcases of_bif hr with ⟨hb1, hr⟩ | ⟨hb1, hr⟩
  · refine HT.cond1 rfl hb1 ?_
    refine HT.reg1 [4] [⟨none, .no⟩] ⟨[(4, .one (.dat .bool false))], [(1, .box [.dat (.int .i64) a1.1, .dat (.int .i64) a1.2.1, .dat (.int .i64) a1.2.2.1, .dat (.int .i64) a1.2.2.2]), (0, .box [.dat (.int .i64) a0.1, .dat (.int .i64) a0.2.1, .dat (.int .i64) a0.2.2.1, .dat (.int .i64) a0.2.2.2])], 2⟩ hP hN (by kernel_rfl) allNil ?_
    have hr := of_some hr
    subst hr
    exact HT.ret (qThenR ⟨[.one (.dat .bool false)], [], [], by kernel_rfl, by kernel_rfl, rfl, by kernel_rfl, by kernel_rfl, trivial⟩)
  · refine HT.cond0 rfl hb1 ?_
    refine HT.skip (qThen ?_)
    refine HT.seq ?_
    refine HT.reg1 [2, 3, 14] [⟨none, .no⟩, ⟨none, .no⟩, ⟨none, .no⟩, ⟨none, .no⟩, ⟨none, .no⟩] ⟨[(2, .one (.ptr 0 0)), (3, .one (.ptr 1 0)), (14, .one (.dat .bool (a0.2.1 != a1.2.1)))], [(1, .box [.dat (.int .i64) a1.1, .dat (.int .i64) a1.2.1, .dat (.int .i64) a1.2.2.1, .dat (.int .i64) a1.2.2.2]), (0, .box [.dat (.int .i64) a0.1, .dat (.int .i64) a0.2.1, .dat (.int .i64) a0.2.2.1, .dat (.int .i64) a0.2.2.2])], 2⟩ hP hN (by kernel_rfl) allNil ?_
    rcases of_bif hr with ⟨hb2, hr⟩ | ⟨hb2, hr⟩
    · refine HT.cond1 rfl hb2 ?_
      refine HT.reg1 [4] [⟨none, .no⟩] ⟨[(4, .one (.dat .bool false))], [(1, .box [.dat (.int .i64) a1.1, .dat (.int .i64) a1.2.1, .dat (.int .i64) a1.2.2.1, .dat (.int .i64) a1.2.2.2]), (0, .box [.dat (.int .i64) a0.1, .dat (.int .i64) a0.2.1, .dat (.int .i64) a0.2.2.1, .dat (.int .i64) a0.2.2.2])], 2⟩ hP hN (by kernel_rfl) allNil ?_
      have hr := of_some hr
      subst hr
      exact HT.ret (qThenR ⟨[.one (.dat .bool false)], [], [], by kernel_rfl, by kernel_rfl, rfl, by kernel_rfl, by kernel_rfl, trivial⟩)
    · refine HT.cond0 rfl hb2 ?_
      refine HT.skip (qThen ?_)
      refine HT.seq ?_
      refine HT.reg1 [2, 3, 19] [⟨none, .no⟩, ⟨none, .no⟩, ⟨none, .no⟩, ⟨none, .no⟩, ⟨none, .no⟩] ⟨[(2, .one (.ptr 0 0)), (3, .one (.ptr 1 0)), (19, .one (.dat .bool (a0.2.2.1 != a1.2.2.1)))], [(1, .box [.dat (.int .i64) a1.1, .dat (.int .i64) a1.2.1, .dat (.int .i64) a1.2.2.1, .dat (.int .i64) a1.2.2.2]), (0, .box [.dat (.int .i64) a0.1, .dat (.int .i64) a0.2.1, .dat (.int .i64) a0.2.2.1, .dat (.int .i64) a0.2.2.2])], 2⟩ hP hN (by kernel_rfl) allNil ?_
      rcases of_bif hr with ⟨hb3, hr⟩ | ⟨hb3, hr⟩
      · refine HT.cond1 rfl hb3 ?_
        refine HT.reg1 [4] [⟨none, .no⟩] ⟨[(4, .one (.dat .bool false))], [(1, .box [.dat (.int .i64) a1.1, .dat (.int .i64) a1.2.1, .dat (.int .i64) a1.2.2.1, .dat (.int .i64) a1.2.2.2]), (0, .box [.dat (.int .i64) a0.1, .dat (.int .i64) a0.2.1, .dat (.int .i64) a0.2.2.1, .dat (.int .i64) a0.2.2.2])], 2⟩ hP hN (by kernel_rfl) allNil ?_
        have hr := of_some hr
        subst hr
        exact HT.ret (qThenR ⟨[.one (.dat .bool false)], [], [], by kernel_rfl, by kernel_rfl, rfl, by kernel_rfl, by kernel_rfl, trivial⟩)
      · refine HT.cond0 rfl hb3 ?_
        refine HT.skip (qThen ?_)
        refine HT.seq ?_
        refine HT.reg1 [24] [⟨none, .no⟩, ⟨none, .no⟩, ⟨none, .no⟩, ⟨none, .no⟩, ⟨none, .no⟩] ⟨[(24, .one (.dat .bool (a0.2.2.2 != a1.2.2.2)))], [(1, .box [.dat (.int .i64) a1.1, .dat (.int .i64) a1.2.1, .dat (.int .i64) a1.2.2.1, .dat (.int .i64) a1.2.2.2]), (0, .box [.dat (.int .i64) a0.1, .dat (.int .i64) a0.2.1, .dat (.int .i64) a0.2.2.1, .dat (.int .i64) a0.2.2.2])], 2⟩ hP hN (by kernel_rfl) allNil ?_
        rcases of_bif hr with ⟨hb4, hr⟩ | ⟨hb4, hr⟩
        · refine HT.cond1 rfl hb4 ?_
          refine HT.reg1 [4] [⟨none, .no⟩] ⟨[(4, .one (.dat .bool false))], [(1, .box [.dat (.int .i64) a1.1, .dat (.int .i64) a1.2.1, .dat (.int .i64) a1.2.2.1, .dat (.int .i64) a1.2.2.2]), (0, .box [.dat (.int .i64) a0.1, .dat (.int .i64) a0.2.1, .dat (.int .i64) a0.2.2.1, .dat (.int .i64) a0.2.2.2])], 2⟩ hP hN (by kernel_rfl) allNil ?_
          have hr := of_some hr
          subst hr
          exact HT.ret (qThenR ⟨[.one (.dat .bool false)], [], [], by kernel_rfl, by kernel_rfl, rfl, by kernel_rfl, by kernel_rfl, trivial⟩)
        · refine HT.cond0 rfl hb4 ?_
          refine HT.skip (qThen ?_)
          refine HT.reg1 [4] [⟨none, .no⟩] ⟨[(4, .one (.dat .bool true))], [(1, .box [.dat (.int .i64) a1.1, .dat (.int .i64) a1.2.1, .dat (.int .i64) a1.2.2.1, .dat (.int .i64) a1.2.2.2]), (0, .box [.dat (.int .i64) a0.1, .dat (.int .i64) a0.2.1, .dat (.int .i64) a0.2.2.1, .dat (.int .i64) a0.2.2.2])], 2⟩ hP hN (by kernel_rfl) allNil ?_
          have hr := of_some hr
          subst hr
          exact HT.ret ⟨[.one (.dat .bool true)], [], [], by kernel_rfl, by kernel_rfl, rfl, by kernel_rfl, by kernel_rfl, trivial⟩

noncomputable def laws_eqArcS_B1 (a0 : List (Int × Int × Int × Int)) (a1 : List (Int × Int × Int × Int)) (s2 : Int) : Option ((Int) ⊕ (Unit ⊕ Unit)) :=
  bif (decide (s2 < (lenI a0))) then
    guardP ((0 : Int) ≤ s2 ∧ s2 < lenI a0) (
      guardP ((0 : Int) ≤ s2 ∧ s2 < lenI a1) (
        (laws_eqArc ((List.getD a0 (Int.toNat s2) ((0 : Int), (0 : Int), (0 : Int), (0 : Int))).1, ((List.getD a0 (Int.toNat s2) ((0 : Int), (0 : Int), (0 : Int), (0 : Int))).2).1, (((List.getD a0 (Int.toNat s2) ((0 : Int), (0 : Int), (0 : Int), (0 : Int))).2).2).1, (((List.getD a0 (Int.toNat s2) ((0 : Int), (0 : Int), (0 : Int), (0 : Int))).2).2).2) ((List.getD a1 (Int.toNat s2) ((0 : Int), (0 : Int), (0 : Int), (0 : Int))).1, ((List.getD a1 (Int.toNat s2) ((0 : Int), (0 : Int), (0 : Int), (0 : Int))).2).1, (((List.getD a1 (Int.toNat s2) ((0 : Int), (0 : Int), (0 : Int), (0 : Int))).2).2).1, (((List.getD a1 (Int.toNat s2) ((0 : Int), (0 : Int), (0 : Int), (0 : Int))).2).2).2)).bind fun y12 =>
        bif (!y12) then
          some (.inr (.inr ()))
        else
          some (.inl (wadd .i64 s2 (1 : Int)))))
  else
    some (.inr (.inl ()))

noncomputable def laws_eqArcS (a0 : List (Int × Int × Int × Int)) (a1 : List (Int × Int × Int × Int)) : Option (Bool) :=
  bif ((lenI a0) != (lenI a1)) then
    some false
  else
    (rounds (laws_eqArcS_B1 a0 a1) (0 : Int)).bind fun r3 => match r3 with
      | .inl r4 =>
        some true
      | .inr r5 =>
        some false

theorem f50_ok {a0 : List (Int × Int × Int × Int)} {a1 : List (Int × Int × Int × Int)} {r : Bool} (hr : laws_eqArcS a0 a1 = some r) : CallOK Try.prog 50 [.imm (.sl (.st (.pair (.int .i64) (.pair (.int .i64) (.pair (.int .i64) (.int .i64)))))) a0, .imm (.sl (.st (.pair (.int .i64) (.pair (.int .i64) (.pair (.int .i64) (.int .i64)))))) a1] [⟨false, .bool, r⟩] [] := by
  unfold laws_eqArcS at hr
  refine CallOK.of_body (ts := [(false, .bool)]) Try.func50 rfl (by kernel_rfl) (Nat.le_of_ble_eq_true (by kernel_rfl)) fun cx hP hN hO hF => ?_
  have hO : cx.own.map Prod.fst = [] := hO
  have hF := hF rfl
  show HT cx ⟨[(0, .one (.dat (.sl (.st (.pair (.int .i64) (.pair (.int .i64) (.pair (.int .i64) (.int .i64)))))) a0)), (1, .one (.dat (.sl (.st (.pair (.int .i64) (.pair (.int .i64) (.pair (.int .i64) (.int .i64)))))) a1))], [], 0⟩ _ _
  refine HT.reg1 [0, 1] [⟨none, .no⟩] ⟨[(0, .one (.dat (.sl (.st (.pair (.int .i64) (.pair (.int .i64) (.pair (.int .i64) (.int .i64)))))) a0)), (1, .one (.dat (.sl (.st (.pair (.int .i64) (.pair (.int .i64) (.pair (.int .i64) (.int .i64)))))) a1))], [], 0⟩ hP hN (by kernel_rfl) allNil ?_
  refine HT.seq ?_
  refine HT.reg1 [0, 1, 10] [⟨none, .no⟩, ⟨none, .no⟩, ⟨none, .no⟩, ⟨none, .no⟩, ⟨none, .no⟩] ⟨[(0, .one (.dat (.sl (.st (.pair (.int .i64) (.pair (.int .i64) (.pair (.int .i64) (.int .i64)))))) a0)), (1, .one (.dat (.sl (.st (.pair (.int .i64) (.pair (.int .i64) (.pair (.int .i64) (.int .i64)))))) a1)), (10, .one (.dat .bool ((lenI a0) != (lenI a1))))], [], 0⟩ hP hN (by kernel_rfl) allNil ?_
  rcases of_bif hr with ⟨hb1, hr⟩ | ⟨hb1, hr⟩
  · refine HT.cond1 rfl hb1 ?_
    refine HT.reg1 [4] [⟨none, .no⟩] ⟨[(4, .one (.dat .bool false))], [], 0⟩ hP hN (by kernel_rfl) allNil ?_
    have hr := of_some hr
    subst hr
    exact HT.ret (qThenR ⟨[.one (.dat .bool false)], [], [], by kernel_rfl, by kernel_rfl, rfl, by kernel_rfl, by kernel_rfl, trivial⟩)
  · refine HT.cond0 rfl hb1 ?_
    refine HT.skip (qThen ?_)
    refine HT.seq ?_
    refine HT.reg1 [0, 1, 5] [⟨none, .no⟩] ⟨[(0, .one (.dat (.sl (.st (.pair (.int .i64) (.pair (.int .i64) (.pair (.int .i64) (.int .i64)))))) a0)), (1, .one (.dat (.sl (.st (.pair (.int .i64) (.pair (.int .i64) (.pair (.int .i64) (.int .i64)))))) a1)), (5, .one (.dat (.int .i64) (0 : Int)))], [], 0⟩ hP hN (by kernel_rfl) allNil ?_
    refine HT.block ?_
    obtain ⟨r3, hL15, hr⟩ := of_bind hr
    refine (Le.cv (s := ⟨[], [], [], false⟩) (own := []) (ps := [a0 = a0, a1 = a1, (0 : Int) = (0 : Int)]) (st' := ⟨[(0, .one (.dat (.sl (.st (.pair (.int .i64) (.pair (.int .i64) (.pair (.int .i64) (.int .i64)))))) a0)), (1, .one (.dat (.sl (.st (.pair (.int .i64) (.pair (.int .i64) (.pair (.int .i64) (.int .i64)))))) a1)), (5, .one (.dat (.int .i64) (0 : Int)))], [], 0⟩) hO (fun h => by cases h) (by kernel_rfl) ⟨rfl, rfl, rfl, trivial⟩).ht ?_
    refine HT.loopE (s := (0 : Int)) (fun (s2 : Int) => ⟨[(0, .one (.dat (.sl (.st (.pair (.int .i64) (.pair (.int .i64) (.pair (.int .i64) (.int .i64)))))) a0)), (1, .one (.dat (.sl (.st (.pair (.int .i64) (.pair (.int .i64) (.pair (.int .i64) (.int .i64)))))) a1)), (5, .one (.dat (.int .i64) s2))], [], 0⟩) (fun (r3 : Unit ⊕ Unit) => match r3 with | .inl r4 => (.exit 0, ⟨[], [], 0⟩) | .inr r5 => (.ret, ⟨[(4, .one (.dat .bool false))], [], 0⟩)) hL15 ?_ (fun s2 x6 hx7 hk8 => ?_)
    · rcases r3 with r4 | r5
      · refine (qBlockX (qThen ?_))
        refine HT.reg1 [4] [⟨none, .no⟩] ⟨[(4, .one (.dat .bool true))], [], 0⟩ hP hN (by kernel_rfl) allNil ?_
        have hr := of_some hr
        subst hr
        exact HT.ret ⟨[.one (.dat .bool true)], [], [], by kernel_rfl, by kernel_rfl, rfl, by kernel_rfl, by kernel_rfl, trivial⟩
      · have hr := of_some hr
        subst hr
        exact (qBlockR (qThenR ⟨[.one (.dat .bool false)], [], [], by kernel_rfl, by kernel_rfl, rfl, by kernel_rfl, by kernel_rfl, trivial⟩))
    · refine HT.seq ?_
      refine HT.reg1 [0, 1, 5, 14] [⟨none, .no⟩, ⟨none, .no⟩, ⟨none, .no⟩, ⟨none, .no⟩] ⟨[(0, .one (.dat (.sl (.st (.pair (.int .i64) (.pair (.int .i64) (.pair (.int .i64) (.int .i64)))))) a0)), (1, .one (.dat (.sl (.st (.pair (.int .i64) (.pair (.int .i64) (.pair (.int .i64) (.int .i64)))))) a1)), (5, .one (.dat (.int .i64) s2)), (14, .one (.dat .bool (decide (s2 < (lenI a0)))))], [], 0⟩ hP hN (by kernel_rfl) allNil ?_
      rcases of_bif hx7 with ⟨hb9, hx7⟩ | ⟨hb9, hx7⟩
      · refine HT.cond1 rfl hb9 ?_
        refine HT.skip (qThen ?_)
        refine HT.seq ?_
        refine HT.block ?_
        obtain ⟨hg10, hx7⟩ := of_guard hx7
        obtain ⟨hg11, hx7⟩ := of_guard hx7
        obtain ⟨y12, hc13, hx7⟩ := of_bind hx7
        refine HT.drw1 [0, 1, 5, 26] 8 [⟨⟨none, .no⟩, []⟩, ⟨⟨none, .no⟩, []⟩, ⟨⟨none, .no⟩, [0, 1]⟩, ⟨⟨none, .no⟩, [0, 1, 2]⟩, ⟨⟨none, .no⟩, []⟩, ⟨⟨none, .no⟩, []⟩, ⟨⟨none, .no⟩, [4, 5]⟩, ⟨⟨none, .no⟩, [4, 5, 6]⟩] [[0, 1, 2, 3, 4, 5, 6, 7], [0, 1, 2, 3, 4, 5, 6, 7, 8]] [⟨none, .call [.imm (.st (.pair (.int .i64) (.pair (.int .i64) (.pair (.int .i64) (.int .i64))))), .imm (.st (.pair (.int .i64) (.pair (.int .i64) (.pair (.int .i64) (.int .i64)))))] [⟨false, .bool, y12⟩] []⟩, ⟨none, .no⟩] ⟨[(0, .one (.dat (.sl (.st (.pair (.int .i64) (.pair (.int .i64) (.pair (.int .i64) (.int .i64)))))) a0)), (1, .one (.dat (.sl (.st (.pair (.int .i64) (.pair (.int .i64) (.pair (.int .i64) (.int .i64)))))) a1)), (5, .one (.dat (.int .i64) s2)), (26, .one (.dat .bool (!y12)))], [], 0⟩ hP hN (by kernel_rfl) (by kernel_rfl) (allCons hg10 (allCons hg11 (allCons (f74_ok hc13) allNil))) ?_
        rcases of_bif hx7 with ⟨hb14, hx7⟩ | ⟨hb14, hx7⟩
        · refine HT.cond1 rfl hb14 ?_
          refine HT.reg1 [4] [⟨none, .no⟩] ⟨[(4, .one (.dat .bool false))], [], 0⟩ hP hN (by kernel_rfl) allNil ?_
          have hx7 := of_some hx7
          subst hx7
          refine (Le.cv (s := ⟨[], [], [], false⟩) (own := []) (ps := [false = false]) (st' := ⟨[(4, .one (.dat .bool false))], [], 0⟩) hO (fun h => by cases h) (by kernel_rfl) ⟨rfl, trivial⟩).ht ?_
          exact HT.ret (qBlockR (qThenR (qLoopR (hk8 (.inr ()) rfl))))
        · refine HT.cond0 rfl hb14 ?_
          refine HT.skip (qBlock (qThen ?_))
          have hx7 := of_some hx7
          subst hx7
          refine HT.reg (rs := [⟨none, .no⟩, ⟨none, .no⟩, ⟨none, .no⟩]) (st' := ⟨[(5, .one (.dat (.int .i64) (wadd .i64 s2 (1 : Int)))), (16, .one (.dat (.int .i64) (wadd .i64 s2 (1 : Int)))), (15, .one (.dat (.int .i64) s2)), (0, .one (.dat (.sl (.st (.pair (.int .i64) (.pair (.int .i64) (.pair (.int .i64) (.int .i64)))))) a0)), (1, .one (.dat (.sl (.st (.pair (.int .i64) (.pair (.int .i64) (.pair (.int .i64) (.int .i64)))))) a1)), (5, .one (.dat (.int .i64) s2)), (26, .one (.dat .bool (!y12)))], [], 0⟩) hP hN (by kernel_rfl) allNil (qLoopN ⟨(wadd .i64 s2 (1 : Int)), rfl, Le.cv (s := ⟨[], [], [], false⟩) (own := []) (ps := [a0 = a0, a1 = a1, (wadd .i64 s2 (1 : Int)) = (wadd .i64 s2 (1 : Int))]) (st' := ⟨[(0, .one (.dat (.sl (.st (.pair (.int .i64) (.pair (.int .i64) (.pair (.int .i64) (.int .i64)))))) a0)), (1, .one (.dat (.sl (.st (.pair (.int .i64) (.pair (.int .i64) (.pair (.int .i64) (.int .i64)))))) a1)), (5, .one (.dat (.int .i64) (wadd .i64 s2 (1 : Int))))], [], 0⟩) hO (fun h => by cases h) (by kernel_rfl) ⟨rfl, rfl, rfl, trivial⟩⟩)
      · refine HT.cond0 rfl hb9 ?_
        have hx7 := of_some hx7
        subst hx7
        refine (Le.cv (s := ⟨[], [], [], false⟩) (own := []) (ps := []) (st' := ⟨[], [], 0⟩) hO (fun h => by cases h) (by kernel_rfl) trivial).ht ?_
        exact HT.exit (qThenE (qLoopE (hk8 (.inl ()) rfl)))

noncomputable def laws_eqInt64S_B1 (a0 : List Int) (a1 : List Int) (s2 : Int) : Option ((Int) ⊕ (Unit ⊕ Unit)) :=
  bif (decide (s2 < (lenI a0))) then
    guardP ((0 : Int) ≤ s2 ∧ s2 < lenI a0) (
      guardP ((0 : Int) ≤ s2 ∧ s2 < lenI a1) (
        bif ((List.getD a0 (Int.toNat s2) (0 : Int)) != (List.getD a1 (Int.toNat s2) (0 : Int))) then
          some (.inr (.inr ()))
        else
          some (.inl (wadd .i64 s2 (1 : Int)))))
  else
    some (.inr (.inl ()))

noncomputable def laws_eqInt64S (a0 : List Int) (a1 : List Int) : Option (Bool) :=
  bif ((lenI a0) != (lenI a1)) then
    some false
  else
    (rounds (laws_eqInt64S_B1 a0 a1) (0 : Int)).bind fun r3 => match r3 with
      | .inl r4 =>
        some true
      | .inr r5 =>
        some false

theorem f20_ok {a0 : List Int} {a1 : List Int} {r : Bool} (hr : laws_eqInt64S a0 a1 = some r) : CallOK Try.prog 20 [.imm (.sl (.int .i64)) a0, .imm (.sl (.int .i64)) a1] [⟨false, .bool, r⟩] [] := by
  unfold laws_eqInt64S at hr
  refine CallOK.of_body (ts := [(false, .bool)]) Try.func20 rfl (by kernel_rfl) (Nat.le_of_ble_eq_true (by kernel_rfl)) fun cx hP hN hO hF => ?_
  have hO : cx.own.map Prod.fst = [] := hO
  have hF := hF rfl
  show HT cx ⟨[(0, .one (.dat (.sl (.int .i64)) a0)), (1, .one (.dat (.sl (.int .i64)) a1))], [], 0⟩ _ _
  refine HT.reg1 [0, 1] [⟨none, .no⟩] ⟨[(0, .one (.dat (.sl (.int .i64)) a0)), (1, .one (.dat (.sl (.int .i64)) a1))], [], 0⟩ hP hN (by kernel_rfl) allNil ?_
  refine HT.seq ?_
  refine HT.reg1 [0, 1, 10] [⟨none, .no⟩, ⟨none, .no⟩, ⟨none, .no⟩, ⟨none, .no⟩, ⟨none, .no⟩] ⟨[(0, .one (.dat (.sl (.int .i64)) a0)), (1, .one (.dat (.sl (.int .i64)) a1)), (10, .one (.dat .bool ((lenI a0) != (lenI a1))))], [], 0⟩ hP hN (by kernel_rfl) allNil ?_
  rcases of_bif hr with ⟨hb1, hr⟩ | ⟨hb1, hr⟩
  · refine HT.cond1 rfl hb1 ?_
    refine HT.reg1 [4] [⟨none, .no⟩] ⟨[(4, .one (.dat .bool false))], [], 0⟩ hP hN (by kernel_rfl) allNil ?_
    have hr := of_some hr
    subst hr
    exact HT.ret (qThenR ⟨[.one (.dat .bool false)], [], [], by kernel_rfl, by kernel_rfl, rfl, by kernel_rfl, by kernel_rfl, trivial⟩)
  · refine HT.cond0 rfl hb1 ?_
    refine HT.skip (qThen ?_)
    refine HT.seq ?_
    refine HT.reg1 [0, 1, 5] [⟨none, .no⟩] ⟨[(0, .one (.dat (.sl (.int .i64)) a0)), (1, .one (.dat (.sl (.int .i64)) a1)), (5, .one (.dat (.int .i64) (0 : Int)))], [], 0⟩ hP hN (by kernel_rfl) allNil ?_
    refine HT.block ?_
    obtain ⟨r3, hL13, hr⟩ := of_bind hr
    refine (Le.cv (s := ⟨[], [], [], false⟩) (own := []) (ps := [a0 = a0, a1 = a1, (0 : Int) = (0 : Int)]) (st' := ⟨[(0, .one (.dat (.sl (.int .i64)) a0)), (1, .one (.dat (.sl (.int .i64)) a1)), (5, .one (.dat (.int .i64) (0 : Int)))], [], 0⟩) hO (fun h => by cases h) (by kernel_rfl) ⟨rfl, rfl, rfl, trivial⟩).ht ?_
    refine HT.loopE (s := (0 : Int)) (fun (s2 : Int) => ⟨[(0, .one (.dat (.sl (.int .i64)) a0)), (1, .one (.dat (.sl (.int .i64)) a1)), (5, .one (.dat (.int .i64) s2))], [], 0⟩) (fun (r3 : Unit ⊕ Unit) => match r3 with | .inl r4 => (.exit 0, ⟨[], [], 0⟩) | .inr r5 => (.ret, ⟨[(4, .one (.dat .bool false))], [], 0⟩)) hL13 ?_ (fun s2 x6 hx7 hk8 => ?_)
    · rcases r3 with r4 | r5
      · refine (qBlockX (qThen ?_))
        refine HT.reg1 [4] [⟨none, .no⟩] ⟨[(4, .one (.dat .bool true))], [], 0⟩ hP hN (by kernel_rfl) allNil ?_
        have hr := of_some hr
        subst hr
        exact HT.ret ⟨[.one (.dat .bool true)], [], [], by kernel_rfl, by kernel_rfl, rfl, by kernel_rfl, by kernel_rfl, trivial⟩
      · have hr := of_some hr
        subst hr
        exact (qBlockR (qThenR ⟨[.one (.dat .bool false)], [], [], by kernel_rfl, by kernel_rfl, rfl, by kernel_rfl, by kernel_rfl, trivial⟩))
    · refine HT.seq ?_
      refine HT.reg1 [0, 1, 5, 14] [⟨none, .no⟩, ⟨none, .no⟩, ⟨none, .no⟩, ⟨none, .no⟩] ⟨[(0, .one (.dat (.sl (.int .i64)) a0)), (1, .one (.dat (.sl (.int .i64)) a1)), (5, .one (.dat (.int .i64) s2)), (14, .one (.dat .bool (decide (s2 < (lenI a0)))))], [], 0⟩ hP hN (by kernel_rfl) allNil ?_
      rcases of_bif hx7 with ⟨hb9, hx7⟩ | ⟨hb9, hx7⟩
      · refine HT.cond1 rfl hb9 ?_
        refine HT.skip (qThen ?_)
        refine HT.seq ?_
        refine HT.block ?_
        obtain ⟨hg10, hx7⟩ := of_guard hx7
        obtain ⟨hg11, hx7⟩ := of_guard hx7
        refine HT.drw1 [0, 1, 5, 25] 8 [⟨⟨none, .no⟩, []⟩, ⟨⟨none, .no⟩, []⟩, ⟨⟨none, .no⟩, [0, 1]⟩, ⟨⟨none, .no⟩, [0, 1, 2]⟩, ⟨⟨none, .no⟩, []⟩, ⟨⟨none, .no⟩, []⟩, ⟨⟨none, .no⟩, [4, 5]⟩, ⟨⟨none, .no⟩, [4, 5, 6]⟩] [[0, 1, 2, 3, 4, 5, 6, 7]] [⟨none, .no⟩] ⟨[(0, .one (.dat (.sl (.int .i64)) a0)), (1, .one (.dat (.sl (.int .i64)) a1)), (5, .one (.dat (.int .i64) s2)), (25, .one (.dat .bool ((List.getD a0 (Int.toNat s2) (0 : Int)) != (List.getD a1 (Int.toNat s2) (0 : Int)))))], [], 0⟩ hP hN (by kernel_rfl) (by kernel_rfl) (allCons hg10 (allCons hg11 allNil)) ?_
        rcases of_bif hx7 with ⟨hb12, hx7⟩ | ⟨hb12, hx7⟩
        · refine HT.cond1 rfl hb12 ?_
          refine HT.reg1 [4] [⟨none, .no⟩] ⟨[(4, .one (.dat .bool false))], [], 0⟩ hP hN (by kernel_rfl) allNil ?_
          have hx7 := of_some hx7
          subst hx7
          refine (Le.cv (s := ⟨[], [], [], false⟩) (own := []) (ps := [false = false]) (st' := ⟨[(4, .one (.dat .bool false))], [], 0⟩) hO (fun h => by cases h) (by kernel_rfl) ⟨rfl, trivial⟩).ht ?_
          exact HT.ret (qBlockR (qThenR (qLoopR (hk8 (.inr ()) rfl))))
        · refine HT.cond0 rfl hb12 ?_
          refine HT.skip (qBlock (qThen ?_))
          have hx7 := of_some hx7
          subst hx7
          refine HT.reg (rs := [⟨none, .no⟩, ⟨none, .no⟩, ⟨none, .no⟩]) (st' := ⟨[(5, .one (.dat (.int .i64) (wadd .i64 s2 (1 : Int)))), (16, .one (.dat (.int .i64) (wadd .i64 s2 (1 : Int)))), (15, .one (.dat (.int .i64) s2)), (0, .one (.dat (.sl (.int .i64)) a0)), (1, .one (.dat (.sl (.int .i64)) a1)), (5, .one (.dat (.int .i64) s2)), (25, .one (.dat .bool ((List.getD a0 (Int.toNat s2) (0 : Int)) != (List.getD a1 (Int.toNat s2) (0 : Int)))))], [], 0⟩) hP hN (by kernel_rfl) allNil (qLoopN ⟨(wadd .i64 s2 (1 : Int)), rfl, Le.cv (s := ⟨[], [], [], false⟩) (own := []) (ps := [a0 = a0, a1 = a1, (wadd .i64 s2 (1 : Int)) = (wadd .i64 s2 (1 : Int))]) (st' := ⟨[(0, .one (.dat (.sl (.int .i64)) a0)), (1, .one (.dat (.sl (.int .i64)) a1)), (5, .one (.dat (.int .i64) (wadd .i64 s2 (1 : Int))))], [], 0⟩) hO (fun h => by cases h) (by kernel_rfl) ⟨rfl, rfl, rfl, trivial⟩⟩)
      · refine HT.cond0 rfl hb9 ?_
        have hx7 := of_some hx7
        subst hx7
        refine (Le.cv (s := ⟨[], [], [], false⟩) (own := []) (ps := []) (st' := ⟨[], [], 0⟩) hO (fun h => by cases h) (by kernel_rfl) trivial).ht ?_
        exact HT.exit (qThenE (qLoopE (hk8 (.inl ()) rfl)))

noncomputable def laws_eqMachine (a0 : Int × Int × List (Int × Int × Int × Int) × List Int × List Int) (a1 : Int × Int × List (Int × Int × Int × Int) × List Int × List Int) : Option (Bool) :=
  bif (a0.1 != a1.1) then
    some false
  else
    bif (a0.2.1 != a1.2.1) then
      some false
    else
      (laws_eqArcS a0.2.2.1 a1.2.2.1).bind fun y3 =>
      bif (!y3) then
        some false
      else
        (laws_eqInt64S a0.2.2.2.1 a1.2.2.2.1).bind fun y6 =>
        bif (!y6) then
          some false
        else
          (laws_eqInt64S a0.2.2.2.2 a1.2.2.2.2).bind fun y9 =>
          bif (!y9) then
            some false
          else
            some true

theorem f17_ok {a0 : Int × Int × List (Int × Int × Int × Int) × List Int × List Int} {a1 : Int × Int × List (Int × Int × Int × Int) × List Int × List Int} {r : Bool} (hr : laws_eqMachine a0 a1 = some r) : CallOK Try.prog 17 [.imm (.st (.pair (.int .i64) (.pair (.int .i64) (.pair (.sl (.st (.pair (.int .i64) (.pair (.int .i64) (.pair (.int .i64) (.int .i64)))))) (.pair (.sl (.int .i64)) (.sl (.int .i64))))))) a0, .imm (.st (.pair (.int .i64) (.pair (.int .i64) (.pair (.sl (.st (.pair (.int .i64) (.pair (.int .i64) (.pair (.int .i64) (.int .i64)))))) (.pair (.sl (.int .i64)) (.sl (.int .i64))))))) a1] [⟨false, .bool, r⟩] [] := by
  unfold laws_eqMachine at hr
  refine CallOK.of_body (ts := [(false, .bool)]) Try.func17 rfl (by kernel_rfl) (Nat.le_of_ble_eq_true (by kernel_rfl)) fun cx hP hN hO hF => ?_
  have hO : cx.own.map Prod.fst = [] := hO
  have hF := hF rfl
  show HT cx ⟨[(0, .agg [.dat (.int .i64) a0.1, .dat (.int .i64) a0.2.1, .dat (.sl (.st (.pair (.int .i64) (.pair (.int .i64) (.pair (.int .i64) (.int .i64)))))) a0.2.2.1, .dat (.sl (.int .i64)) a0.2.2.2.1, .dat (.sl (.int .i64)) a0.2.2.2.2]), (1, .agg [.dat (.int .i64) a1.1, .dat (.int .i64) a1.2.1, .dat (.sl (.st (.pair (.int .i64) (.pair (.int .i64) (.pair (.int .i64) (.int .i64)))))) a1.2.2.1, .dat (.sl (.int .i64)) a1.2.2.2.1, .dat (.sl (.int .i64)) a1.2.2.2.2])], [], 0⟩ _ _
  refine HT.reg1 [2, 3] [⟨none, .no⟩, ⟨none, .no⟩, ⟨none, .no⟩] ⟨[(2, .one (.ptr 0 0)), (3, .one (.ptr 1 0))], [(1, .box [.dat (.int .i64) a1.1, .dat (.int .i64) a1.2.1, .dat (.sl (.st (.pair (.int .i64) (.pair (.int .i64) (.pair (.int .i64) (.int .i64)))))) a1.2.2.1, .dat (.sl (.int .i64)) a1.2.2.2.1, .dat (.sl (.int .i64)) a1.2.2.2.2]), (0, .box [.dat (.int .i64) a0.1, .dat (.int .i64) a0.2.1, .dat (.sl (.st (.pair (.int .i64) (.pair (.int .i64) (.pair (.int .i64) (.int .i64)))))) a0.2.2.1, .dat (.sl (.int .i64)) a0.2.2.2.1, .dat (.sl (.int .i64)) a0.2.2.2.2])], 2⟩ hP hN (by kernel_rfl) allNil ?_
  refine HT.seq ?_
  refine HT.reg1 [2, 3, 9] [⟨none, .no⟩, ⟨none, .no⟩, ⟨none, .no⟩, ⟨none, .no⟩, ⟨none, .no⟩] ⟨[(2, .one (.ptr 0 0)), (3, .one (.ptr 1 0)), (9, .one (.dat .bool (a0.1 != a1.1)))], [(1, .box [.dat (.int .i64) a1.1, .dat (.int .i64) a1.2.1, .dat (.sl (.st (.pair (.int .i64) (.pair (.int .i64) (.pair (.int .i64) (.int .i64)))))) a1.2.2.1, .dat (.sl (.int .i64)) a1.2.2.2.1, .dat (.sl (.int .i64)) a1.2.2.2.2]), (0, .box [.dat (.int .i64) a0.1, .dat (.int .i64) a0.2.1, .dat (.sl (.st (.pair (.int .i64) (.pair (.int .i64) (.pair (.int .i64) (.int .i64)))))) a0.2.2.1, .dat (.sl (.int .i64)) a0.2.2.2.1, .dat (.sl (.int .i64)) a0.2.2.2.2])], 2⟩ hP hN (by kernel_rfl) allNil ?_
  rcases of_bif hr with ⟨hb1, hr⟩ | ⟨hb1, hr⟩
  · refine HT.cond1 rfl hb1 ?_
    refine HT.reg1 [4] [⟨none, .no⟩] ⟨[(4, .one (.dat .bool false))], [(1, .box [.dat (.int .i64) a1.1, .dat (.int .i64) a1.2.1, .dat (.sl (.st (.pair (.int .i64) (.pair (.int .i64) (.pair (.int .i64) (.int .i64)))))) a1.2.2.1, .dat (.sl (.int .i64)) a1.2.2.2.1, .dat (.sl (.int .i64)) a1.2.2.2.2]), (0, .box [.dat (.int .i64) a0.1, .dat (.int .i64) a0.2.1, .dat (.sl (.st (.pair (.int .i64) (.pair (.int .i64) (.pair (.int .i64) (.int .i64)))))) a0.2.2.1, .dat (.sl (.int .i64)) a0.2.2.2.1, .dat (.sl (.int .i64)) a0.2.2.2.2])], 2⟩ hP hN (by kernel_rfl) allNil ?_
    have hr := of_some hr
    subst hr
    exact HT.ret (qThenR ⟨[.one (.dat .bool false)], [], [], by kernel_rfl, by kernel_rfl, rfl, by kernel_rfl, by kernel_rfl, trivial⟩)
  · refine HT.cond0 rfl hb1 ?_
    refine HT.skip (qThen ?_)
    refine HT.seq ?_
    refine HT.reg1 [2, 3, 14] [⟨none, .no⟩, ⟨none, .no⟩, ⟨none, .no⟩, ⟨none, .no⟩, ⟨none, .no⟩] ⟨[(2, .one (.ptr 0 0)), (3, .one (.ptr 1 0)), (14, .one (.dat .bool (a0.2.1 != a1.2.1)))], [(1, .box [.dat (.int .i64) a1.1, .dat (.int .i64) a1.2.1, .dat (.sl (.st (.pair (.int .i64) (.pair (.int .i64) (.pair (.int .i64) (.int .i64)))))) a1.2.2.1, .dat (.sl (.int .i64)) a1.2.2.2.1, .dat (.sl (.int .i64)) a1.2.2.2.2]), (0, .box [.dat (.int .i64) a0.1, .dat (.int .i64) a0.2.1, .dat (.sl (.st (.pair (.int .i64) (.pair (.int .i64) (.pair (.int .i64) (.int .i64)))))) a0.2.2.1, .dat (.sl (.int .i64)) a0.2.2.2.1, .dat (.sl (.int .i64)) a0.2.2.2.2])], 2⟩ hP hN (by kernel_rfl) allNil ?_
    rcases of_bif hr with ⟨hb2, hr⟩ | ⟨hb2, hr⟩
    · refine HT.cond1 rfl hb2 ?_
      refine HT.reg1 [4] [⟨none, .no⟩] ⟨[(4, .one (.dat .bool false))], [(1, .box [.dat (.int .i64) a1.1, .dat (.int .i64) a1.2.1, .dat (.sl (.st (.pair (.int .i64) (.pair (.int .i64) (.pair (.int .i64) (.int .i64)))))) a1.2.2.1, .dat (.sl (.int .i64)) a1.2.2.2.1, .dat (.sl (.int .i64)) a1.2.2.2.2]), (0, .box [.dat (.int .i64) a0.1, .dat (.int .i64) a0.2.1, .dat (.sl (.st (.pair (.int .i64) (.pair (.int .i64) (.pair (.int .i64) (.int .i64)))))) a0.2.2.1, .dat (.sl (.int .i64)) a0.2.2.2.1, .dat (.sl (.int .i64)) a0.2.2.2.2])], 2⟩ hP hN (by kernel_rfl) allNil ?_
      have hr := of_some hr
      subst hr
      exact HT.ret (qThenR ⟨[.one (.dat .bool false)], [], [], by kernel_rfl, by kernel_rfl, rfl, by kernel_rfl, by kernel_rfl, trivial⟩)
    · refine HT.cond0 rfl hb2 ?_
      refine HT.skip (qThen ?_)
      refine HT.seq ?_
      obtain ⟨y3, hc4, hr⟩ := of_bind hr
      refine HT.reg1 [2, 3, 20] [⟨none, .no⟩, ⟨none, .no⟩, ⟨none, .no⟩, ⟨none, .no⟩, ⟨none, .call [.imm (.sl (.st (.pair (.int .i64) (.pair (.int .i64) (.pair (.int .i64) (.int .i64)))))), .imm (.sl (.st (.pair (.int .i64) (.pair (.int .i64) (.pair (.int .i64) (.int .i64))))))] [⟨false, .bool, y3⟩] []⟩, ⟨none, .no⟩] ⟨[(2, .one (.ptr 0 0)), (3, .one (.ptr 1 0)), (20, .one (.dat .bool (!y3)))], [(1, .box [.dat (.int .i64) a1.1, .dat (.int .i64) a1.2.1, .dat (.sl (.st (.pair (.int .i64) (.pair (.int .i64) (.pair (.int .i64) (.int .i64)))))) a1.2.2.1, .dat (.sl (.int .i64)) a1.2.2.2.1, .dat (.sl (.int .i64)) a1.2.2.2.2]), (0, .box [.dat (.int .i64) a0.1, .dat (.int .i64) a0.2.1, .dat (.sl (.st (.pair (.int .i64) (.pair (.int .i64) (.pair (.int .i64) (.int .i64)))))) a0.2.2.1, .dat (.sl (.int .i64)) a0.2.2.2.1, .dat (.sl (.int .i64)) a0.2.2.2.2])], 2⟩ hP hN (by kernel_rfl) (allCons (f50_ok hc4) allNil) ?_
      rcases of_bif hr with ⟨hb5, hr⟩ | ⟨hb5, hr⟩
      · refine HT.cond1 rfl hb5 ?_
        refine HT.reg1 [4] [⟨none, .no⟩] ⟨[(4, .one (.dat .bool false))], [(1, .box [.dat (.int .i64) a1.1, .dat (.int .i64) a1.2.1, .dat (.sl (.st (.pair (.int .i64) (.pair (.int .i64) (.pair (.int .i64) (.int .i64)))))) a1.2.2.1, .dat (.sl (.int .i64)) a1.2.2.2.1, .dat (.sl (.int .i64)) a1.2.2.2.2]), (0, .box [.dat (.int .i64) a0.1, .dat (.int .i64) a0.2.1, .dat (.sl (.st (.pair (.int .i64) (.pair (.int .i64) (.pair (.int .i64) (.int .i64)))))) a0.2.2.1, .dat (.sl (.int .i64)) a0.2.2.2.1, .dat (.sl (.int .i64)) a0.2.2.2.2])], 2⟩ hP hN (by kernel_rfl) allNil ?_
        have hr := of_some hr
        subst hr
        exact HT.ret (qThenR ⟨[.one (.dat .bool false)], [], [], by kernel_rfl, by kernel_rfl, rfl, by kernel_rfl, by kernel_rfl, trivial⟩)
      · refine HT.cond0 rfl hb5 ?_
        refine HT.skip (qThen ?_)
        refine HT.seq ?_
        obtain ⟨y6, hc7, hr⟩ := of_bind hr
        refine HT.reg1 [2, 3, 26] [⟨none, .no⟩, ⟨none, .no⟩, ⟨none, .no⟩, ⟨none, .no⟩, ⟨none, .call [.imm (.sl (.int .i64)), .imm (.sl (.int .i64))] [⟨false, .bool, y6⟩] []⟩, ⟨none, .no⟩] ⟨[(2, .one (.ptr 0 0)), (3, .one (.ptr 1 0)), (26, .one (.dat .bool (!y6)))], [(1, .box [.dat (.int .i64) a1.1, .dat (.int .i64) a1.2.1, .dat (.sl (.st (.pair (.int .i64) (.pair (.int .i64) (.pair (.int .i64) (.int .i64)))))) a1.2.2.1, .dat (.sl (.int .i64)) a1.2.2.2.1, .dat (.sl (.int .i64)) a1.2.2.2.2]), (0, .box [.dat (.int .i64) a0.1, .dat (.int .i64) a0.2.1, .dat (.sl (.st (.pair (.int .i64) (.pair (.int .i64) (.pair (.int .i64) (.int .i64)))))) a0.2.2.1, .dat (.sl (.int .i64)) a0.2.2.2.1, .dat (.sl (.int .i64)) a0.2.2.2.2])], 2⟩ hP hN (by kernel_rfl) (allCons (f20_ok hc7) allNil) ?_
        rcases of_bif hr with ⟨hb8, hr⟩ | ⟨hb8, hr⟩
        · refine HT.cond1 rfl hb8 ?_
          refine HT.reg1 [4] [⟨none, .no⟩] ⟨[(4, .one (.dat .bool false))], [(1, .box [.dat (.int .i64) a1.1, .dat (.int .i64) a1.2.1, .dat (.sl (.st (.pair (.int .i64) (.pair (.int .i64) (.pair (.int .i64) (.int .i64)))))) a1.2.2.1, .dat (.sl (.int .i64)) a1.2.2.2.1, .dat (.sl (.int .i64)) a1.2.2.2.2]), (0, .box [.dat (.int .i64) a0.1, .dat (.int .i64) a0.2.1, .dat (.sl (.st (.pair (.int .i64) (.pair (.int .i64) (.pair (.int .i64) (.int .i64)))))) a0.2.2.1, .dat (.sl (.int .i64)) a0.2.2.2.1, .dat (.sl (.int .i64)) a0.2.2.2.2])], 2⟩ hP hN (by kernel_rfl) allNil ?_
          have hr := of_some hr
          subst hr
          exact HT.ret (qThenR ⟨[.one (.dat .bool false)], [], [], by kernel_rfl, by kernel_rfl, rfl, by kernel_rfl, by kernel_rfl, trivial⟩)
        · refine HT.cond0 rfl hb8 ?_
          refine HT.skip (qThen ?_)
          refine HT.seq ?_
          obtain ⟨y9, hc10, hr⟩ := of_bind hr
          refine HT.reg1 [32] [⟨none, .no⟩, ⟨none, .no⟩, ⟨none, .no⟩, ⟨none, .no⟩, ⟨none, .call [.imm (.sl (.int .i64)), .imm (.sl (.int .i64))] [⟨false, .bool, y9⟩] []⟩, ⟨none, .no⟩] ⟨[(32, .one (.dat .bool (!y9)))], [(1, .box [.dat (.int .i64) a1.1, .dat (.int .i64) a1.2.1, .dat (.sl (.st (.pair (.int .i64) (.pair (.int .i64) (.pair (.int .i64) (.int .i64)))))) a1.2.2.1, .dat (.sl (.int .i64)) a1.2.2.2.1, .dat (.sl (.int .i64)) a1.2.2.2.2]), (0, .box [.dat (.int .i64) a0.1, .dat (.int .i64) a0.2.1, .dat (.sl (.st (.pair (.int .i64) (.pair (.int .i64) (.pair (.int .i64) (.int .i64)))))) a0.2.2.1, .dat (.sl (.int .i64)) a0.2.2.2.1, .dat (.sl (.int .i64)) a0.2.2.2.2])], 2⟩ hP hN (by kernel_rfl) (allCons (f20_ok hc10) allNil) ?_
          rcases of_bif hr with ⟨hb11, hr⟩ | ⟨hb11, hr⟩
          · refine HT.cond1 rfl hb11 ?_
            refine HT.reg1 [4] [⟨none, .no⟩] ⟨[(4, .one (.dat .bool false))], [(1, .box [.dat (.int .i64) a1.1, .dat (.int .i64) a1.2.1, .dat (.sl (.st (.pair (.int .i64) (.pair (.int .i64) (.pair (.int .i64) (.int .i64)))))) a1.2.2.1, .dat (.sl (.int .i64)) a1.2.2.2.1, .dat (.sl (.int .i64)) a1.2.2.2.2]), (0, .box [.dat (.int .i64) a0.1, .dat (.int .i64) a0.2.1, .dat (.sl (.st (.pair (.int .i64) (.pair (.int .i64) (.pair (.int .i64) (.int .i64)))))) a0.2.2.1, .dat (.sl (.int .i64)) a0.2.2.2.1, .dat (.sl (.int .i64)) a0.2.2.2.2])], 2⟩ hP hN (by kernel_rfl) allNil ?_
            have hr := of_some hr
            subst hr
            exact HT.ret (qThenR ⟨[.one (.dat .bool false)], [], [], by kernel_rfl, by kernel_rfl, rfl, by kernel_rfl, by kernel_rfl, trivial⟩)
          · refine HT.cond0 rfl hb11 ?_
            refine HT.skip (qThen ?_)
            refine HT.reg1 [4] [⟨none, .no⟩] ⟨[(4, .one (.dat .bool true))], [(1, .box [.dat (.int .i64) a1.1, .dat (.int .i64) a1.2.1, .dat (.sl (.st (.pair (.int .i64) (.pair (.int .i64) (.pair (.int .i64) (.int .i64)))))) a1.2.2.1, .dat (.sl (.int .i64)) a1.2.2.2.1, .dat (.sl (.int .i64)) a1.2.2.2.2]), (0, .box [.dat (.int .i64) a0.1, .dat (.int .i64) a0.2.1, .dat (.sl (.st (.pair (.int .i64) (.pair (.int .i64) (.pair (.int .i64) (.int .i64)))))) a0.2.2.1, .dat (.sl (.int .i64)) a0.2.2.2.1, .dat (.sl (.int .i64)) a0.2.2.2.2])], 2⟩ hP hN (by kernel_rfl) allNil ?_
            have hr := of_some hr
            subst hr
            exact HT.ret ⟨[.one (.dat .bool true)], [], [], by kernel_rfl, by kernel_rfl, rfl, by kernel_rfl, by kernel_rfl, trivial⟩

noncomputable def laws_eqBoolS_B1 (a0 : List Bool) (a1 : List Bool) (s2 : Int) : Option ((Int) ⊕ (Unit ⊕ Unit)) :=
  bif (decide (s2 < (lenI a0))) then
    guardP ((0 : Int) ≤ s2 ∧ s2 < lenI a0) (
      guardP ((0 : Int) ≤ s2 ∧ s2 < lenI a1) (
        bif ((List.getD a0 (Int.toNat s2) false) != (List.getD a1 (Int.toNat s2) false)) then
          some (.inr (.inr ()))
        else
          some (.inl (wadd .i64 s2 (1 : Int)))))
  else
    some (.inr (.inl ()))

noncomputable def laws_eqBoolS (a0 : List Bool) (a1 : List Bool) : Option (Bool) :=
  bif ((lenI a0) != (lenI a1)) then
    some false
  else
    (rounds (laws_eqBoolS_B1 a0 a1) (0 : Int)).bind fun r3 => match r3 with
      | .inl r4 =>
        some true
      | .inr r5 =>
        some false

theorem f51_ok {a0 : List Bool} {a1 : List Bool} {r : Bool} (hr : laws_eqBoolS a0 a1 = some r) : CallOK Try.prog 51 [.imm (.sl .bool) a0, .imm (.sl .bool) a1] [⟨false, .bool, r⟩] [] := by
  unfold laws_eqBoolS at hr
  refine CallOK.of_body (ts := [(false, .bool)]) Try.func51 rfl (by kernel_rfl) (Nat.le_of_ble_eq_true (by kernel_rfl)) fun cx hP hN hO hF => ?_
  have hO : cx.own.map Prod.fst = [] := hO
  have hF := hF rfl
  show HT cx ⟨[(0, .one (.dat (.sl .bool) a0)), (1, .one (.dat (.sl .bool) a1))], [], 0⟩ _ _
  refine HT.reg1 [0, 1] [⟨none, .no⟩] ⟨[(0, .one (.dat (.sl .bool) a0)), (1, .one (.dat (.sl .bool) a1))], [], 0⟩ hP hN (by kernel_rfl) allNil ?_
  refine HT.seq ?_
  refine HT.reg1 [0, 1, 10] [⟨none, .no⟩, ⟨none, .no⟩, ⟨none, .no⟩, ⟨none, .no⟩, ⟨none, .no⟩] ⟨[(0, .one (.dat (.sl .bool) a0)), (1, .one (.dat (.sl .bool) a1)), (10, .one (.dat .bool ((lenI a0) != (lenI a1))))], [], 0⟩ hP hN (by kernel_rfl) allNil ?_
  rcases of_bif hr with ⟨hb1, hr⟩ | ⟨hb1, hr⟩
  · refine HT.cond1 rfl hb1 ?_
    refine HT.reg1 [4] [⟨none, .no⟩] ⟨[(4, .one (.dat .bool false))], [], 0⟩ hP hN (by kernel_rfl) allNil ?_
    have hr := of_some hr
    subst hr
    exact HT.ret (qThenR ⟨[.one (.dat .bool false)], [], [], by kernel_rfl, by kernel_rfl, rfl, by kernel_rfl, by kernel_rfl, trivial⟩)
  · refine HT.cond0 rfl hb1 ?_
    refine HT.skip (qThen ?_)
    refine HT.seq ?_
    refine HT.reg1 [0, 1, 5] [⟨none, .no⟩] ⟨[(0, .one (.dat (.sl .bool) a0)), (1, .one (.dat (.sl .bool) a1)), (5, .one (.dat (.int .i64) (0 : Int)))], [], 0⟩ hP hN (by kernel_rfl) allNil ?_
    refine HT.block ?_
    obtain ⟨r3, hL13, hr⟩ := of_bind hr
    refine (Le.cv (s := ⟨[], [], [], false⟩) (own := []) (ps := [a0 = a0, a1 = a1, (0 : Int) = (0 : Int)]) (st' := ⟨[(0, .one (.dat (.sl .bool) a0)), (1, .one (.dat (.sl .bool) a1)), (5, .one (.dat (.int .i64) (0 : Int)))], [], 0⟩) hO (fun h => by cases h) (by kernel_rfl) ⟨rfl, rfl, rfl, trivial⟩).ht ?_
    refine HT.loopE (s := (0 : Int)) (fun (s2 : Int) => ⟨[(0, .one (.dat (.sl .bool) a0)), (1, .one (.dat (.sl .bool) a1)), (5, .one (.dat (.int .i64) s2))], [], 0⟩) (fun (r3 : Unit ⊕ Unit) => match r3 with | .inl r4 => (.exit 0, ⟨[], [], 0⟩) | .inr r5 => (.ret, ⟨[(4, .one (.dat .bool false))], [], 0⟩)) hL13 ?_ (fun s2 x6 hx7 hk8 => ?_)
    · rcases r3 with r4 | r5
      · refine (qBlockX (qThen ?_))
        refine HT.reg1 [4] [⟨none, .no⟩] ⟨[(4, .one (.dat .bool true))], [], 0⟩ hP hN (by kernel_rfl) allNil ?_
        have hr := of_some hr
        subst hr
        exact HT.ret ⟨[.one (.dat .bool true)], [], [], by kernel_rfl, by kernel_rfl, rfl, by kernel_rfl, by kernel_rfl, trivial⟩
      · have hr := of_some hr
        subst hr
        exact (qBlockR (qThenR ⟨[.one (.dat .bool false)], [], [], by kernel_rfl, by kernel_rfl, rfl, by kernel_rfl, by kernel_rfl, trivial⟩))
    · refine HT.seq ?_
      refine HT.reg1 [0, 1, 5, 14] [⟨none, .no⟩, ⟨none, .no⟩, ⟨none, .no⟩, ⟨none, .no⟩] ⟨[(0, .one (.dat (.sl .bool) a0)), (1, .one (.dat (.sl .bool) a1)), (5, .one (.dat (.int .i64) s2)), (14, .one (.dat .bool (decide (s2 < (lenI a0)))))], [], 0⟩ hP hN (by kernel_rfl) allNil ?_
      rcases of_bif hx7 with ⟨hb9, hx7⟩ | ⟨hb9, hx7⟩
      · refine HT.cond1 rfl hb9 ?_
        refine HT.skip (qThen ?_)
        refine HT.seq ?_
        refine HT.block ?_
        obtain ⟨hg10, hx7⟩ := of_guard hx7
        obtain ⟨hg11, hx7⟩ := of_guard hx7
        refine HT.drw1 [0, 1, 5, 25] 8 [⟨⟨none, .no⟩, []⟩, ⟨⟨none, .no⟩, []⟩, ⟨⟨none, .no⟩, [0, 1]⟩, ⟨⟨none, .no⟩, [0, 1, 2]⟩, ⟨⟨none, .no⟩, []⟩, ⟨⟨none, .no⟩, []⟩, ⟨⟨none, .no⟩, [4, 5]⟩, ⟨⟨none, .no⟩, [4, 5, 6]⟩] [[0, 1, 2, 3, 4, 5, 6, 7]] [⟨none, .no⟩] ⟨[(0, .one (.dat (.sl .bool) a0)), (1, .one (.dat (.sl .bool) a1)), (5, .one (.dat (.int .i64) s2)), (25, .one (.dat .bool ((List.getD a0 (Int.toNat s2) false) != (List.getD a1 (Int.toNat s2) false))))], [], 0⟩ hP hN (by kernel_rfl) (by kernel_rfl) (allCons hg10 (allCons hg11 allNil)) ?_
        rcases of_bif hx7 with ⟨hb12, hx7⟩ | ⟨hb12, hx7⟩
        · refine HT.cond1 rfl hb12 ?_
          refine HT.reg1 [4] [⟨none, .no⟩] ⟨[(4, .one (.dat .bool false))], [], 0⟩ hP hN (by kernel_rfl) allNil ?_
          have hx7 := of_some hx7
          subst hx7
          refine (Le.cv (s := ⟨[], [], [], false⟩) (own := []) (ps := [false = false]) (st' := ⟨[(4, .one (.dat .bool false))], [], 0⟩) hO (fun h => by cases h) (by kernel_rfl) ⟨rfl, trivial⟩).ht ?_
          exact HT.ret (qBlockR (qThenR (qLoopR (hk8 (.inr ()) rfl))))
        · refine HT.cond0 rfl hb12 ?_
          refine HT.skip (qBlock (qThen ?_))
          have hx7 := of_some hx7
          subst hx7
          refine HT.reg (rs := [⟨none, .no⟩, ⟨none, .no⟩, ⟨none, .no⟩]) (st' := ⟨[(5, .one (.dat (.int .i64) (wadd .i64 s2 (1 : Int)))), (16, .one (.dat (.int .i64) (wadd .i64 s2 (1 : Int)))), (15, .one (.dat (.int .i64) s2)), (0, .one (.dat (.sl .bool) a0)), (1, .one (.dat (.sl .bool) a1)), (5, .one (.dat (.int .i64) s2)), (25, .one (.dat .bool ((List.getD a0 (Int.toNat s2) false) != (List.getD a1 (Int.toNat s2) false))))], [], 0⟩) hP hN (by kernel_rfl) allNil (qLoopN ⟨(wadd .i64 s2 (1 : Int)), rfl, Le.cv (s := ⟨[], [], [], false⟩) (own := []) (ps := [a0 = a0, a1 = a1, (wadd .i64 s2 (1 : Int)) = (wadd .i64 s2 (1 : Int))]) (st' := ⟨[(0, .one (.dat (.sl .bool) a0)), (1, .one (.dat (.sl .bool) a1)), (5, .one (.dat (.int .i64) (wadd .i64 s2 (1 : Int))))], [], 0⟩) hO (fun h => by cases h) (by kernel_rfl) ⟨rfl, rfl, rfl, trivial⟩⟩)
      · refine HT.cond0 rfl hb9 ?_
        have hx7 := of_some hx7
        subst hx7
        refine (Le.cv (s := ⟨[], [], [], false⟩) (own := []) (ps := []) (st' := ⟨[], [], 0⟩) hO (fun h => by cases h) (by kernel_rfl) trivial).ht ?_
        exact HT.exit (qThenE (qLoopE (hk8 (.inl ()) rfl)))

noncomputable def laws_eqPlain (a0 : Int × Int × List Int × List Bool) (a1 : Int × Int × List Int × List Bool) : Option (Bool) :=
  bif (a0.1 != a1.1) then
    some false
  else
    bif (a0.2.1 != a1.2.1) then
      some false
    else
      (laws_eqInt64S a0.2.2.1 a1.2.2.1).bind fun y3 =>
      bif (!y3) then
        some false
      else
        (laws_eqBoolS a0.2.2.2 a1.2.2.2).bind fun y6 =>
        bif (!y6) then
          some false
        else
          some true

theorem f18_ok {a0 : Int × Int × List Int × List Bool} {a1 : Int × Int × List Int × List Bool} {r : Bool} (hr : laws_eqPlain a0 a1 = some r) : CallOK Try.prog 18 [.imm (.st (.pair (.int .i64) (.pair (.int .i64) (.pair (.sl (.int .i64)) (.sl .bool))))) a0, .imm (.st (.pair (.int .i64) (.pair (.int .i64) (.pair (.sl (.int .i64)) (.sl .bool))))) a1] [⟨false, .bool, r⟩] [] := by
  unfold laws_eqPlain at hr
  refine CallOK.of_body (ts := [(false, .bool)]) Try.func18 rfl (by kernel_rfl) (Nat.le_of_ble_eq_true (by kernel_rfl)) fun cx hP hN hO hF => ?_
  have hO : cx.own.map Prod.fst = [] := hO
  have hF := hF rfl
  show HT cx ⟨[(0, .agg [.dat (.int .i64) a0.1, .dat (.int .i64) a0.2.1, .dat (.sl (.int .i64)) a0.2.2.1, .dat (.sl .bool) a0.2.2.2]), (1, .agg [.dat (.int .i64) a1.1, .dat (.int .i64) a1.2.1, .dat (.sl (.int .i64)) a1.2.2.1, .dat (.sl .bool) a1.2.2.2])], [], 0⟩ _ _
  refine HT.reg1 [2, 3] [⟨none, .no⟩, ⟨none, .no⟩, ⟨none, .no⟩] ⟨[(2, .one (.ptr 0 0)), (3, .one (.ptr 1 0))], [(1, .box [.dat (.int .i64) a1.1, .dat (.int .i64) a1.2.1, .dat (.sl (.int .i64)) a1.2.2.1, .dat (.sl .bool) a1.2.2.2]), (0, .box [.dat (.int .i64) a0.1, .dat (.int .i64) a0.2.1, .dat (.sl (.int .i64)) a0.2.2.1, .dat (.sl .bool) a0.2.2.2])], 2⟩ hP hN (by kernel_rfl) allNil ?_
  refine HT.seq ?_
  refine HT.reg1 [2, 3, 9] [⟨none, .no⟩, ⟨none, .no⟩, ⟨none, .no⟩, ⟨none, .no⟩, ⟨none, .no⟩] ⟨[(2, .one (.ptr 0 0)), (3, .one (.ptr 1 0)), (9, .one (.dat .bool (a0.1 != a1.1)))], [(1, .box [.dat (.int .i64) a1.1, .dat (.int .i64) a1.2.1, .dat (.sl (.int .i64)) a1.2.2.1, .dat (.sl .bool) a1.2.2.2]), (0, .box [.dat (.int .i64) a0.1, .dat (.int .i64) a0.2.1, .dat (.sl (.int .i64)) a0.2.2.1, .dat (.sl .bool) a0.2.2.2])], 2⟩ hP hN (by kernel_rfl) allNil ?_
  rcases of_bif hr with ⟨hb1, hr⟩ | ⟨hb1, hr⟩
  · refine HT.cond1 rfl hb1 ?_
    refine HT.reg1 [4] [⟨none, .no⟩] ⟨[(4, .one (.dat .bool false))], [(1, .box [.dat (.int .i64) a1.1, .dat (.int .i64) a1.2.1, .dat (.sl (.int .i64)) a1.2.2.1, .dat (.sl .bool) a1.2.2.2]), (0, .box [.dat (.int .i64) a0.1, .dat (.int .i64) a0.2.1, .dat (.sl (.int .i64)) a0.2.2.1, .dat (.sl .bool) a0.2.2.2])], 2⟩ hP hN (by kernel_rfl) allNil ?_
    have hr := of_some hr
    subst hr
    exact HT.ret (qThenR ⟨[.one (.dat .bool false)], [], [], by kernel_rfl, by kernel_rfl, rfl, by kernel_rfl, by kernel_rfl, trivial⟩)
  · refine HT.cond0 rfl hb1 ?_
    refine HT.skip (qThen ?_)
    refine HT.seq ?_
    refine HT.reg1 [2, 3, 14] [⟨none, .no⟩, ⟨none, .no⟩, ⟨none, .no⟩, ⟨none, .no⟩, ⟨none, .no⟩] ⟨[(2, .one (.ptr 0 0)), (3, .one (.ptr 1 0)), (14, .one (.dat .bool (a0.2.1 != a1.2.1)))], [(1, .box [.dat (.int .i64) a1.1, .dat (.int .i64) a1.2.1, .dat (.sl (.int .i64)) a1.2.2.1, .dat (.sl .bool) a1.2.2.2]), (0, .box [.dat (.int .i64) a0.1, .dat (.int .i64) a0.2.1, .dat (.sl (.int .i64)) a0.2.2.1, .dat (.sl .bool) a0.2.2.2])], 2⟩ hP hN (by kernel_rfl) allNil ?_
    rcases of_bif hr with ⟨hb2, hr⟩ | ⟨hb2, hr⟩
    · refine HT.cond1 rfl hb2 ?_
      refine HT.reg1 [4] [⟨none, .no⟩] ⟨[(4, .one (.dat .bool false))], [(1, .box [.dat (.int .i64) a1.1, .dat (.int .i64) a1.2.1, .dat (.sl (.int .i64)) a1.2.2.1, .dat (.sl .bool) a1.2.2.2]), (0, .box [.dat (.int .i64) a0.1, .dat (.int .i64) a0.2.1, .dat (.sl (.int .i64)) a0.2.2.1, .dat (.sl .bool) a0.2.2.2])], 2⟩ hP hN (by kernel_rfl) allNil ?_
      have hr := of_some hr
      subst hr
      exact HT.ret (qThenR ⟨[.one (.dat .bool false)], [], [], by kernel_rfl, by kernel_rfl, rfl, by kernel_rfl, by kernel_rfl, trivial⟩)
    · refine HT.cond0 rfl hb2 ?_
      refine HT.skip (qThen ?_)
      refine HT.seq ?_
      obtain ⟨y3, hc4, hr⟩ := of_bind hr
      refine HT.reg1 [2, 3, 20] [⟨none, .no⟩, ⟨none, .no⟩, ⟨none, .no⟩, ⟨none, .no⟩, ⟨none, .call [.imm (.sl (.int .i64)), .imm (.sl (.int .i64))] [⟨false, .bool, y3⟩] []⟩, ⟨none, .no⟩] ⟨[(2, .one (.ptr 0 0)), (3, .one (.ptr 1 0)), (20, .one (.dat .bool (!y3)))], [(1, .box [.dat (.int .i64) a1.1, .dat (.int .i64) a1.2.1, .dat (.sl (.int .i64)) a1.2.2.1, .dat (.sl .bool) a1.2.2.2]), (0, .box [.dat (.int .i64) a0.1, .dat (.int .i64) a0.2.1, .dat (.sl (.int .i64)) a0.2.2.1, .dat (.sl .bool) a0.2.2.2])], 2⟩ hP hN (by kernel_rfl) (allCons (f20_ok hc4) allNil) ?_
      rcases of_bif hr with ⟨hb5, hr⟩ | ⟨hb5, hr⟩
      · refine HT.cond1 rfl hb5 ?_
        refine HT.reg1 [4] [⟨none, .no⟩] ⟨[(4, .one (.dat .bool false))], [(1, .box [.dat (.int .i64) a1.1, .dat (.int .i64) a1.2.1, .dat (.sl (.int .i64)) a1.2.2.1, .dat (.sl .bool) a1.2.2.2]), (0, .box [.dat (.int .i64) a0.1, .dat (.int .i64) a0.2.1, .dat (.sl (.int .i64)) a0.2.2.1, .dat (.sl .bool) a0.2.2.2])], 2⟩ hP hN (by kernel_rfl) allNil ?_
        have hr := of_some hr
        subst hr
        exact HT.ret (qThenR ⟨[.one (.dat .bool false)], [], [], by kernel_rfl, by kernel_rfl, rfl, by kernel_rfl, by kernel_rfl, trivial⟩)
      · refine HT.cond0 rfl hb5 ?_
        refine HT.skip (qThen ?_)
        refine HT.seq ?_
        obtain ⟨y6, hc7, hr⟩ := of_bind hr
        refine HT.reg1 [26] [⟨none, .no⟩, ⟨none, .no⟩, ⟨none, .no⟩, ⟨none, .no⟩, ⟨none, .call [.imm (.sl .bool), .imm (.sl .bool)] [⟨false, .bool, y6⟩] []⟩, ⟨none, .no⟩] ⟨[(26, .one (.dat .bool (!y6)))], [(1, .box [.dat (.int .i64) a1.1, .dat (.int .i64) a1.2.1, .dat (.sl (.int .i64)) a1.2.2.1, .dat (.sl .bool) a1.2.2.2]), (0, .box [.dat (.int .i64) a0.1, .dat (.int .i64) a0.2.1, .dat (.sl (.int .i64)) a0.2.2.1, .dat (.sl .bool) a0.2.2.2])], 2⟩ hP hN (by kernel_rfl) (allCons (f51_ok hc7) allNil) ?_
        rcases of_bif hr with ⟨hb8, hr⟩ | ⟨hb8, hr⟩
        · refine HT.cond1 rfl hb8 ?_
          refine HT.reg1 [4] [⟨none, .no⟩] ⟨[(4, .one (.dat .bool false))], [(1, .box [.dat (.int .i64) a1.1, .dat (.int .i64) a1.2.1, .dat (.sl (.int .i64)) a1.2.2.1, .dat (.sl .bool) a1.2.2.2]), (0, .box [.dat (.int .i64) a0.1, .dat (.int .i64) a0.2.1, .dat (.sl (.int .i64)) a0.2.2.1, .dat (.sl .bool) a0.2.2.2])], 2⟩ hP hN (by kernel_rfl) allNil ?_
          have hr := of_some hr
          subst hr
          exact HT.ret (qThenR ⟨[.one (.dat .bool false)], [], [], by kernel_rfl, by kernel_rfl, rfl, by kernel_rfl, by kernel_rfl, trivial⟩)
        · refine HT.cond0 rfl hb8 ?_
          refine HT.skip (qThen ?_)
          refine HT.reg1 [4] [⟨none, .no⟩] ⟨[(4, .one (.dat .bool true))], [(1, .box [.dat (.int .i64) a1.1, .dat (.int .i64) a1.2.1, .dat (.sl (.int .i64)) a1.2.2.1, .dat (.sl .bool) a1.2.2.2]), (0, .box [.dat (.int .i64) a0.1, .dat (.int .i64) a0.2.1, .dat (.sl (.int .i64)) a0.2.2.1, .dat (.sl .bool) a0.2.2.2])], 2⟩ hP hN (by kernel_rfl) allNil ?_
          have hr := of_some hr
          subst hr
          exact HT.ret ⟨[.one (.dat .bool true)], [], [], by kernel_rfl, by kernel_rfl, rfl, by kernel_rfl, by kernel_rfl, trivial⟩

noncomputable def laws_eqRule (a0 : Int × Int × Int × Int) (a1 : Int × Int × Int × Int) : Option (Bool) :=
  bif (a0.1 != a1.1) then
    some false
  else
    bif (a0.2.1 != a1.2.1) then
      some false
    else
      bif (a0.2.2.1 != a1.2.2.1) then
        some false
      else
        bif (a0.2.2.2 != a1.2.2.2) then
          some false
        else
          some true

theorem f75_ok {a0 : Int × Int × Int × Int} {a1 : Int × Int × Int × Int} {r : Bool} (hr : laws_eqRule a0 a1 = some r) : CallOK Try.prog 75 [.imm (.st (.pair (.int .i64) (.pair (.int .i64) (.pair (.int .i64) (.int .i64))))) a0, .imm (.st (.pair (.int .i64) (.pair (.int .i64) (.pair (.int .i64) (.int .i64))))) a1] [⟨false, .bool, r⟩] [] := by
  unfold laws_eqRule at hr
  refine CallOK.of_body (ts := [(false, .bool)]) Try.func75 rfl (by kernel_rfl) (Nat.le_of_ble_eq_true (by kernel_rfl)) fun cx hP hN hO hF => ?_
  have hO : cx.own.map Prod.fst = [] := hO
  have hF := hF rfl
  show HT cx ⟨[(0, .agg [.dat (.int .i64) a0.1, .dat (.int .i64) a0.2.1, .dat (.int .i64) a0.2.2.1, .dat (.int .i64) a0.2.2.2]), (1, .agg [.dat (.int .i64) a1.1, .dat (.int .i64) a1.2.1, .dat (.int .i64) a1.2.2.1, .dat (.int .i64) a1.2.2.2])], [], 0⟩ _ _
  refine HT.reg1 [2, 3] [⟨none, .no⟩, ⟨none, .no⟩, ⟨none, .no⟩] ⟨[(2, .one (.ptr 0 0)), (3, .one (.ptr 1 0))], [(1, .box [.dat (.int .i64) a1.1, .dat (.int .i64) a1.2.1, .dat (.int .i64) a1.2.2.1, .dat (.int .i64) a1.2.2.2]), (0, .box [.dat (.int .i64) a0.1, .dat (.int .i64) a0.2.1, .dat (.int .i64) a0.2.2.1, .dat (.int .i64) a0.2.2.2])], 2⟩ hP hN (by kernel_rfl) allNil ?_
  refine HT.seq ?_
  refine HT.reg1 [2, 3, 9] [⟨none, .no⟩, ⟨none, .no⟩, ⟨none, .no⟩, ⟨none, .no⟩, ⟨none, .no⟩] ⟨[(2, .one (.ptr 0 0)), (3, .one (.ptr 1 0)), (9, .one (.dat .bool (a0.1 != a1.1)))], [(1, .box [.dat (.int .i64) a1.1, .dat (.int .i64) a1.2.1, .dat (.int .i64) a1.2.2.1, .dat (.int .i64) a1.2.2.2]), (0, .box [.dat (.int .i64) a0.1, .dat (.int .i64) a0.2.1, .dat (.int .i64) a0.2.2.1, .dat (.int .i64) a0.2.2.2])], 2⟩ hP hN (by kernel_rfl) allNil ?_
  rcases of_bif hr with ⟨hb1, hr⟩ | ⟨hb1, hr⟩
  · refine HT.cond1 rfl hb1 ?_
    refine HT.reg1 [4] [⟨none, .no⟩] ⟨[(4, .one (.dat .bool false))], [(1, .box [.dat (.int .i64) a1.1, .dat (.int .i64) a1.2.1, .dat (.int .i64) a1.2.2.1, .dat (.int .i64) a1.2.2.2]), (0, .box [.dat (.int .i64) a0.1, .dat (.int .i64) a0.2.1, .dat (.int .i64) a0.2.2.1, .dat (.int .i64) a0.2.2.2])], 2⟩ hP hN (by kernel_rfl) allNil ?_
    have hr := of_some hr
    subst hr
    exact HT.ret (qThenR ⟨[.one (.dat .bool false)], [], [], by kernel_rfl, by kernel_rfl, rfl, by kernel_rfl, by kernel_rfl, trivial⟩)
  · refine HT.cond0 rfl hb1 ?_
    refine HT.skip (qThen ?_)
    refine HT.seq ?_
    refine HT.reg1 [2, 3, 14] [⟨none, .no⟩, ⟨none, .no⟩, ⟨none, .no⟩, ⟨none, .no⟩, ⟨none, .no⟩] ⟨[(2, .one (.ptr 0 0)), (3, .one (.ptr 1 0)), (14, .one (.dat .bool (a0.2.1 != a1.2.1)))], [(1, .box [.dat (.int .i64) a1.1, .dat (.int .i64) a1.2.1, .dat (.int .i64) a1.2.2.1, .dat (.int .i64) a1.2.2.2]), (0, .box [.dat (.int .i64) a0.1, .dat (.int .i64) a0.2.1, .dat (.int .i64) a0.2.2.1, .dat (.int .i64) a0.2.2.2])], 2⟩ hP hN (by kernel_rfl) allNil ?_
    rcases of_bif hr with ⟨hb2, hr⟩ | ⟨hb2, hr⟩
    · refine HT.cond1 rfl hb2 ?_
      refine HT.reg1 [4] [⟨none, .no⟩] ⟨[(4, .one (.dat .bool false))], [(1, .box [.dat (.int .i64) a1.1, .dat (.int .i64) a1.2.1, .dat (.int .i64) a1.2.2.1, .dat (.int .i64) a1.2.2.2]), (0, .box [.dat (.int .i64) a0.1, .dat (.int .i64) a0.2.1, .dat (.int .i64) a0.2.2.1, .dat (.int .i64) a0.2.2.2])], 2⟩ hP hN (by kernel_rfl) allNil ?_
      have hr := of_some hr
      subst hr
      exact HT.ret (qThenR ⟨[.one (.dat .bool false)], [], [], by kernel_rfl, by kernel_rfl, rfl, by kernel_rfl, by kernel_rfl, trivial⟩)
    · refine HT.cond0 rfl hb2 ?_
      refine HT.skip (qThen ?_)
      refine HT.seq ?_
      refine HT.reg1 [2, 3, 19] [⟨none, .no⟩, ⟨none, .no⟩, ⟨none, .no⟩, ⟨none, .no⟩, ⟨none, .no⟩] ⟨[(2, .one (.ptr 0 0)), (3, .one (.ptr 1 0)), (19, .one (.dat .bool (a0.2.2.1 != a1.2.2.1)))], [(1, .box [.dat (.int .i64) a1.1, .dat (.int .i64) a1.2.1, .dat (.int .i64) a1.2.2.1, .dat (.int .i64) a1.2.2.2]), (0, .box [.dat (.int .i64) a0.1, .dat (.int .i64) a0.2.1, .dat (.int .i64) a0.2.2.1, .dat (.int .i64) a0.2.2.2])], 2⟩ hP hN (by kernel_rfl) allNil ?_
      rcases of_bif hr with ⟨hb3, hr⟩ | ⟨hb3, hr⟩
      · refine HT.cond1 rfl hb3 ?_
        refine HT.reg1 [4] [⟨none, .no⟩] ⟨[(4, .one (.dat .bool false))], [(1, .box [.dat (.int .i64) a1.1, .dat (.int .i64) a1.2.1, .dat (.int .i64) a1.2.2.1, .dat (.int .i64) a1.2.2.2]), (0, .box [.dat (.int .i64) a0.1, .dat (.int .i64) a0.2.1, .dat (.int .i64) a0.2.2.1, .dat (.int .i64) a0.2.2.2])], 2⟩ hP hN (by kernel_rfl) allNil ?_
        have hr := of_some hr
        subst hr
        exact HT.ret (qThenR ⟨[.one (.dat .bool false)], [], [], by kernel_rfl, by kernel_rfl, rfl, by kernel_rfl, by kernel_rfl, trivial⟩)
      · refine HT.cond0 rfl hb3 ?_
        refine HT.skip (qThen ?_)
        refine HT.seq ?_
        refine HT.reg1 [24] [⟨none, .no⟩, ⟨none, .no⟩, ⟨none, .no⟩, ⟨none, .no⟩, ⟨none, .no⟩] ⟨[(24, .one (.dat .bool (a0.2.2.2 != a1.2.2.2)))], [(1, .box [.dat (.int .i64) a1.1, .dat (.int .i64) a1.2.1, .dat (.int .i64) a1.2.2.1, .dat (.int .i64) a1.2.2.2]), (0, .box [.dat (.int .i64) a0.1, .dat (.int .i64) a0.2.1, .dat (.int .i64) a0.2.2.1, .dat (.int .i64) a0.2.2.2])], 2⟩ hP hN (by kernel_rfl) allNil ?_
        rcases of_bif hr with ⟨hb4, hr⟩ | ⟨hb4, hr⟩
        · refine HT.cond1 rfl hb4 ?_
          refine HT.reg1 [4] [⟨none, .no⟩] ⟨[(4, .one (.dat .bool false))], [(1, .box [.dat (.int .i64) a1.1, .dat (.int .i64) a1.2.1, .dat (.int .i64) a1.2.2.1, .dat (.int .i64) a1.2.2.2]), (0, .box [.dat (.int .i64) a0.1, .dat (.int .i64) a0.2.1, .dat (.int .i64) a0.2.2.1, .dat (.int .i64) a0.2.2.2])], 2⟩ hP hN (by kernel_rfl) allNil ?_
          have hr := of_some hr
          subst hr
          exact HT.ret (qThenR ⟨[.one (.dat .bool false)], [], [], by kernel_rfl, by kernel_rfl, rfl, by kernel_rfl, by kernel_rfl, trivial⟩)
        · refine HT.cond0 rfl hb4 ?_
          refine HT.skip (qThen ?_)
          refine HT.reg1 [4] [⟨none, .no⟩] ⟨[(4, .one (.dat .bool true))], [(1, .box [.dat (.int .i64) a1.1, .dat (.int .i64) a1.2.1, .dat (.int .i64) a1.2.2.1, .dat (.int .i64) a1.2.2.2]), (0, .box [.dat (.int .i64) a0.1, .dat (.int .i64) a0.2.1, .dat (.int .i64) a0.2.2.1, .dat (.int .i64) a0.2.2.2])], 2⟩ hP hN (by kernel_rfl) allNil ?_
          have hr := of_some hr
          subst hr
          exact HT.ret ⟨[.one (.dat .bool true)], [], [], by kernel_rfl, by kernel_rfl, rfl, by kernel_rfl, by kernel_rfl, trivial⟩

noncomputable def laws_eqRuleS_B1 (a0 : List (Int × Int × Int × Int)) (a1 : List (Int × Int × Int × Int)) (s2 : Int) : Option ((Int) ⊕ (Unit ⊕ Unit)) :=
  bif (decide (s2 < (lenI a0))) then
    guardP ((0 : Int) ≤ s2 ∧ s2 < lenI a0) (
      guardP ((0 : Int) ≤ s2 ∧ s2 < lenI a1) (
        (laws_eqRule ((List.getD a0 (Int.toNat s2) ((0 : Int), (0 : Int), (0 : Int), (0 : Int))).1, ((List.getD a0 (Int.toNat s2) ((0 : Int), (0 : Int), (0 : Int), (0 : Int))).2).1, (((List.getD a0 (Int.toNat s2) ((0 : Int), (0 : Int), (0 : Int), (0 : Int))).2).2).1, (((List.getD a0 (Int.toNat s2) ((0 : Int), (0 : Int), (0 : Int), (0 : Int))).2).2).2) ((List.getD a1 (Int.toNat s2) ((0 : Int), (0 : Int), (0 : Int), (0 : Int))).1, ((List.getD a1 (Int.toNat s2) ((0 : Int), (0 : Int), (0 : Int), (0 : Int))).2).1, (((List.getD a1 (Int.toNat s2) ((0 : Int), (0 : Int), (0 : Int), (0 : Int))).2).2).1, (((List.getD a1 (Int.toNat s2) ((0 : Int), (0 : Int), (0 : Int), (0 : Int))).2).2).2)).bind fun y12 =>
        bif (!y12) then
          some (.inr (.inr ()))
        else
          some (.inl (wadd .i64 s2 (1 : Int)))))
  else
    some (.inr (.inl ()))

noncomputable def laws_eqRuleS (a0 : List (Int × Int × Int × Int)) (a1 : List (Int × Int × Int × Int)) : Option (Bool) :=
  bif ((lenI a0) != (lenI a1)) then
    some false
  else
    (rounds (laws_eqRuleS_B1 a0 a1) (0 : Int)).bind fun r3 => match r3 with
      | .inl r4 =>
        some true
      | .inr r5 =>
        some false

theorem f52_ok {a0 : List (Int × Int × Int × Int)} {a1 : List (Int × Int × Int × Int)} {r : Bool} (hr : laws_eqRuleS a0 a1 = some r) : CallOK Try.prog 52 [.imm (.sl (.st (.pair (.int .i64) (.pair (.int .i64) (.pair (.int .i64) (.int .i64)))))) a0, .imm (.sl (.st (.pair (.int .i64) (.pair (.int .i64) (.pair (.int .i64) (.int .i64)))))) a1] [⟨false, .bool, r⟩] [] := by
  unfold laws_eqRuleS at hr
  refine CallOK.of_body (ts := [(false, .bool)]) Try.func52 rfl (by kernel_rfl) (Nat.le_of_ble_eq_true (by kernel_rfl)) fun cx hP hN hO hF => ?_
  have hO : cx.own.map Prod.fst = [] := hO
  have hF := hF rfl
  show HT cx ⟨[(0, .one (.dat (.sl (.st (.pair (.int .i64) (.pair (.int .i64) (.pair (.int .i64) (.int .i64)))))) a0)), (1, .one (.dat (.sl (.st (.pair (.int .i64) (.pair (.int .i64) (.pair (.int .i64) (.int .i64)))))) a1))], [], 0⟩ _ _
  refine HT.reg1 [0, 1] [⟨none, .no⟩] ⟨[(0, .one (.dat (.sl (.st (.pair (.int .i64) (.pair (.int .i64) (.pair (.int .i64) (.int .i64)))))) a0)), (1, .one (.dat (.sl (.st (.pair (.int .i64) (.pair (.int .i64) (.pair (.int .i64) (.int .i64)))))) a1))], [], 0⟩ hP hN (by kernel_rfl) allNil ?_
  refine HT.seq ?_
  refine HT.reg1 [0, 1, 10] [⟨none, .no⟩, ⟨none, .no⟩, ⟨none, .no⟩, ⟨none, .no⟩, ⟨none, .no⟩] ⟨[(0, .one (.dat (.sl (.st (.pair (.int .i64) (.pair (.int .i64) (.pair (.int .i64) (.int .i64)))))) a0)), (1, .one (.dat (.sl (.st (.pair (.int .i64) (.pair (.int .i64) (.pair (.int .i64) (.int .i64)))))) a1)), (10, .one (.dat .bool ((lenI a0) != (lenI a1))))], [], 0⟩ hP hN (by kernel_rfl) allNil ?_
  rcases of_bif hr with ⟨hb1, hr⟩ | ⟨hb1, hr⟩
  · refine HT.cond1 rfl hb1 ?_
    refine HT.reg1 [4] [⟨none, .no⟩] ⟨[(4, .one (.dat .bool false))], [], 0⟩ hP hN (by kernel_rfl) allNil ?_
    have hr := of_some hr
    subst hr
    exact HT.ret (qThenR ⟨[.one (.dat .bool false)], [], [], by kernel_rfl, by kernel_rfl, rfl, by kernel_rfl, by kernel_rfl, trivial⟩)
  · refine HT.cond0 rfl hb1 ?_
    refine HT.skip (qThen ?_)
    refine HT.seq ?_
    refine HT.reg1 [0, 1, 5] [⟨none, .no⟩] ⟨[(0, .one (.dat (.sl (.st (.pair (.int .i64) (.pair (.int .i64) (.pair (.int .i64) (.int .i64)))))) a0)), (1, .one (.dat (.sl (.st (.pair (.int .i64) (.pair (.int .i64) (.pair (.int .i64) (.int .i64)))))) a1)), (5, .one (.dat (.int .i64) (0 : Int)))], [], 0⟩ hP hN (by kernel_rfl) allNil ?_
    refine HT.block ?_
    obtain ⟨r3, hL15, hr⟩ := of_bind hr
    refine (Le.cv (s := ⟨[], [], [], false⟩) (own := []) (ps := [a0 = a0, a1 = a1, (0 : Int) = (0 : Int)]) (st' := ⟨[(0, .one (.dat (.sl (.st (.pair (.int .i64) (.pair (.int .i64) (.pair (.int .i64) (.int .i64)))))) a0)), (1, .one (.dat (.sl (.st (.pair (.int .i64) (.pair (.int .i64) (.pair (.int .i64) (.int .i64)))))) a1)), (5, .one (.dat (.int .i64) (0 : Int)))], [], 0⟩) hO (fun h => by cases h) (by kernel_rfl) ⟨rfl, rfl, rfl, trivial⟩).ht ?_
    refine HT.loopE (s := (0 : Int)) (fun (s2 : Int) => ⟨[(0, .one (.dat (.sl (.st (.pair (.int .i64) (.pair (.int .i64) (.pair (.int .i64) (.int .i64)))))) a0)), (1, .one (.dat (.sl (.st (.pair (.int .i64) (.pair (.int .i64) (.pair (.int .i64) (.int .i64)))))) a1)), (5, .one (.dat (.int .i64) s2))], [], 0⟩) (fun (r3 : Unit ⊕ Unit) => match r3 with | .inl r4 => (.exit 0, ⟨[], [], 0⟩) | .inr r5 => (.ret, ⟨[(4, .one (.dat .bool false))], [], 0⟩)) hL15 ?_ (fun s2 x6 hx7 hk8 => ?_)
    · rcases r3 with r4 | r5
      · refine (qBlockX (qThen ?_))
        refine HT.reg1 [4] [⟨none, .no⟩] ⟨[(4, .one (.dat .bool true))], [], 0⟩ hP hN (by kernel_rfl) allNil ?_
        have hr := of_some hr
        subst hr
        exact HT.ret ⟨[.one (.dat .bool true)], [], [], by kernel_rfl, by kernel_rfl, rfl, by kernel_rfl, by kernel_rfl, trivial⟩
      · have hr := of_some hr
        subst hr
        exact (qBlockR (qThenR ⟨[.one (.dat .bool false)], [], [], by kernel_rfl, by kernel_rfl, rfl, by kernel_rfl, by kernel_rfl, trivial⟩))
    · refine HT.seq ?_
      refine HT.reg1 [0, 1, 5, 14] [⟨none, .no⟩, ⟨none, .no⟩, ⟨none, .no⟩, ⟨none, .no⟩] ⟨[(0, .one (.dat (.sl (.st (.pair (.int .i64) (.pair (.int .i64) (.pair (.int .i64) (.int .i64)))))) a0)), (1, .one (.dat (.sl (.st (.pair (.int .i64) (.pair (.int .i64) (.pair (.int .i64) (.int .i64)))))) a1)), (5, .one (.dat (.int .i64) s2)), (14, .one (.dat .bool (decide (s2 < (lenI a0)))))], [], 0⟩ hP hN (by kernel_rfl) allNil ?_
      rcases of_bif hx7 with ⟨hb9, hx7⟩ | ⟨hb9, hx7⟩
      · refine HT.cond1 rfl hb9 ?_
        refine HT.skip (qThen ?_)
        refine HT.seq ?_
        refine HT.block ?_
        obtain ⟨hg10, hx7⟩ := of_guard hx7
        obtain ⟨hg11, hx7⟩ := of_guard hx7
        obtain ⟨y12, hc13, hx7⟩ := of_bind hx7
        refine HT.drw1 [0, 1, 5, 26] 8 [⟨⟨none, .no⟩, []⟩, ⟨⟨none, .no⟩, []⟩, ⟨⟨none, .no⟩, [0, 1]⟩, ⟨⟨none, .no⟩, [0, 1, 2]⟩, ⟨⟨none, .no⟩, []⟩, ⟨⟨none, .no⟩, []⟩, ⟨⟨none, .no⟩, [4, 5]⟩, ⟨⟨none, .no⟩, [4, 5, 6]⟩] [[0, 1, 2, 3, 4, 5, 6, 7], [0, 1, 2, 3, 4, 5, 6, 7, 8]] [⟨none, .call [.imm (.st (.pair (.int .i64) (.pair (.int .i64) (.pair (.int .i64) (.int .i64))))), .imm (.st (.pair (.int .i64) (.pair (.int .i64) (.pair (.int .i64) (.int .i64)))))] [⟨false, .bool, y12⟩] []⟩, ⟨none, .no⟩] ⟨[(0, .one (.dat (.sl (.st (.pair (.int .i64) (.pair (.int .i64) (.pair (.int .i64) (.int .i64)))))) a0)), (1, .one (.dat (.sl (.st (.pair (.int .i64) (.pair (.int .i64) (.pair (.int .i64) (.int .i64)))))) a1)), (5, .one (.dat (.int .i64) s2)), (26, .one (.dat .bool (!y12)))], [], 0⟩ hP hN (by kernel_rfl) (by kernel_rfl) (allCons hg10 (allCons hg11 (allCons (f75_ok hc13) allNil))) ?_
        rcases of_bif hx7 with ⟨hb14, hx7⟩ | ⟨hb14, hx7⟩
        · refine HT.cond1 rfl hb14 ?_
          refine HT.reg1 [4] [⟨none, .no⟩] ⟨[(4, .one (.dat .bool false))], [], 0⟩ hP hN (by kernel_rfl) allNil ?_
          have hx7 := of_some hx7
          subst hx7
          refine (Le.cv (s := ⟨[], [], [], false⟩) (own := []) (ps := [false = false]) (st' := ⟨[(4, .one (.dat .bool false))], [], 0⟩) hO (fun h => by cases h) (by kernel_rfl) ⟨rfl, trivial⟩).ht ?_
          exact HT.ret (qBlockR (qThenR (qLoopR (hk8 (.inr ()) rfl))))
        · refine HT.cond0 rfl hb14 ?_
          refine HT.skip (qBlock (qThen ?_))
          have hx7 := of_some hx7
          subst hx7
          refine HT.reg (rs := [⟨none, .no⟩, ⟨none, .no⟩, ⟨none, .no⟩]) (st' := ⟨[(5, .one (.dat (.int .i64) (wadd .i64 s2 (1 : Int)))), (16, .one (.dat (.int .i64) (wadd .i64 s2 (1 : Int)))), (15, .one (.dat (.int .i64) s2)), (0, .one (.dat (.sl (.st (.pair (.int .i64) (.pair (.int .i64) (.pair (.int .i64) (.int .i64)))))) a0)), (1, .one (.dat (.sl (.st (.pair (.int .i64) (.pair (.int .i64) (.pair (.int .i64) (.int .i64)))))) a1)), (5, .one (.dat (.int .i64) s2)), (26, .one (.dat .bool (!y12)))], [], 0⟩) hP hN (by kernel_rfl) allNil (qLoopN ⟨(wadd .i64 s2 (1 : Int)), rfl, Le.cv (s := ⟨[], [], [], false⟩) (own := []) (ps := [a0 = a0, a1 = a1, (wadd .i64 s2 (1 : Int)) = (wadd .i64 s2 (1 : Int))]) (st' := ⟨[(0, .one (.dat (.sl (.st (.pair (.int .i64) (.pair (.int .i64) (.pair (.int .i64) (.int .i64)))))) a0)), (1, .one (.dat (.sl (.st (.pair (.int .i64) (.pair (.int .i64) (.pair (.int .i64) (.int .i64)))))) a1)), (5, .one (.dat (.int .i64) (wadd .i64 s2 (1 : Int))))], [], 0⟩) hO (fun h => by cases h) (by kernel_rfl) ⟨rfl, rfl, rfl, trivial⟩⟩)
      · refine HT.cond0 rfl hb9 ?_
        have hx7 := of_some hx7
        subst hx7
        refine (Le.cv (s := ⟨[], [], [], false⟩) (own := []) (ps := []) (st' := ⟨[], [], 0⟩) hO (fun h => by cases h) (by kernel_rfl) trivial).ht ?_
        exact HT.exit (qThenE (qLoopE (hk8 (.inl ()) rfl)))

noncomputable def laws_eqGrammar (a0 : Int × Int × List (Int × Int × Int × Int)) (a1 : Int × Int × List (Int × Int × Int × Int)) : Option (Bool) :=
  bif (a0.1 != a1.1) then
    some false
  else
    bif (a0.2.1 != a1.2.1) then
      some false
    else
      (laws_eqRuleS a0.2.2 a1.2.2).bind fun y3 =>
      bif (!y3) then
        some false
      else
        some true

theorem f19_ok {a0 : Int × Int × List (Int × Int × Int × Int)} {a1 : Int × Int × List (Int × Int × Int × Int)} {r : Bool} (hr : laws_eqGrammar a0 a1 = some r) : CallOK Try.prog 19 [.imm (.st (.pair (.int .i64) (.pair (.int .i64) (.sl (.st (.pair (.int .i64) (.pair (.int .i64) (.pair (.int .i64) (.int .i64))))))))) a0, .imm (.st (.pair (.int .i64) (.pair (.int .i64) (.sl (.st (.pair (.int .i64) (.pair (.int .i64) (.pair (.int .i64) (.int .i64))))))))) a1] [⟨false, .bool, r⟩] [] := by
  unfold laws_eqGrammar at hr
  refine CallOK.of_body (ts := [(false, .bool)]) Try.func19 rfl (by kernel_rfl) (Nat.le_of_ble_eq_true (by kernel_rfl)) fun cx hP hN hO hF => ?_
  have hO : cx.own.map Prod.fst = [] := hO
  have hF := hF rfl
  show HT cx ⟨[(0, .agg [.dat (.int .i64) a0.1, .dat (.int .i64) a0.2.1, .dat (.sl (.st (.pair (.int .i64) (.pair (.int .i64) (.pair (.int .i64) (.int .i64)))))) a0.2.2]), (1, .agg [.dat (.int .i64) a1.1, .dat (.int .i64) a1.2.1, .dat (.sl (.st (.pair (.int .i64) (.pair (.int .i64) (.pair (.int .i64) (.int .i64)))))) a1.2.2])], [], 0⟩ _ _
  refine HT.reg1 [2, 3] [⟨none, .no⟩, ⟨none, .no⟩, ⟨none, .no⟩] ⟨[(2, .one (.ptr 0 0)), (3, .one (.ptr 1 0))], [(1, .box [.dat (.int .i64) a1.1, .dat (.int .i64) a1.2.1, .dat (.sl (.st (.pair (.int .i64) (.pair (.int .i64) (.pair (.int .i64) (.int .i64)))))) a1.2.2]), (0, .box [.dat (.int .i64) a0.1, .dat (.int .i64) a0.2.1, .dat (.sl (.st (.pair (.int .i64) (.pair (.int .i64) (.pair (.int .i64) (.int .i64)))))) a0.2.2])], 2⟩ hP hN (by kernel_rfl) allNil ?_
  refine HT.seq ?_
  refine HT.reg1 [2, 3, 9] [⟨none, .no⟩, ⟨none, .no⟩, ⟨none, .no⟩, ⟨none, .no⟩, ⟨none, .no⟩] ⟨[(2, .one (.ptr 0 0)), (3, .one (.ptr 1 0)), (9, .one (.dat .bool (a0.1 != a1.1)))], [(1, .box [.dat (.int .i64) a1.1, .dat (.int .i64) a1.2.1, .dat (.sl (.st (.pair (.int .i64) (.pair (.int .i64) (.pair (.int .i64) (.int .i64)))))) a1.2.2]), (0, .box [.dat (.int .i64) a0.1, .dat (.int .i64) a0.2.1, .dat (.sl (.st (.pair (.int .i64) (.pair (.int .i64) (.pair (.int .i64) (.int .i64)))))) a0.2.2])], 2⟩ hP hN (by kernel_rfl) allNil ?_
  rcases of_bif hr with ⟨hb1, hr⟩ | ⟨hb1, hr⟩
  · refine HT.cond1 rfl hb1 ?_
    refine HT.reg1 [4] [⟨none, .no⟩] ⟨[(4, .one (.dat .bool false))], [(1, .box [.dat (.int .i64) a1.1, .dat (.int .i64) a1.2.1, .dat (.sl (.st (.pair (.int .i64) (.pair (.int .i64) (.pair (.int .i64) (.int .i64)))))) a1.2.2]), (0, .box [.dat (.int .i64) a0.1, .dat (.int .i64) a0.2.1, .dat (.sl (.st (.pair (.int .i64) (.pair (.int .i64) (.pair (.int .i64) (.int .i64)))))) a0.2.2])], 2⟩ hP hN (by kernel_rfl) allNil ?_
    have hr := of_some hr
    subst hr
    exact HT.ret (qThenR ⟨[.one (.dat .bool false)], [], [], by kernel_rfl, by kernel_rfl, rfl, by kernel_rfl, by kernel_rfl, trivial⟩)
  · refine HT.cond0 rfl hb1 ?_
    refine HT.skip (qThen ?_)
    refine HT.seq ?_
    refine HT.reg1 [2, 3, 14] [⟨none, .no⟩, ⟨none, .no⟩, ⟨none, .no⟩, ⟨none, .no⟩, ⟨none, .no⟩] ⟨[(2, .one (.ptr 0 0)), (3, .one (.ptr 1 0)), (14, .one (.dat .bool (a0.2.1 != a1.2.1)))], [(1, .box [.dat (.int .i64) a1.1, .dat (.int .i64) a1.2.1, .dat (.sl (.st (.pair (.int .i64) (.pair (.int .i64) (.pair (.int .i64) (.int .i64)))))) a1.2.2]), (0, .box [.dat (.int .i64) a0.1, .dat (.int .i64) a0.2.1, .dat (.sl (.st (.pair (.int .i64) (.pair (.int .i64) (.pair (.int .i64) (.int .i64)))))) a0.2.2])], 2⟩ hP hN (by kernel_rfl) allNil ?_
    rcases of_bif hr with ⟨hb2, hr⟩ | ⟨hb2, hr⟩
    · refine HT.cond1 rfl hb2 ?_
      refine HT.reg1 [4] [⟨none, .no⟩] ⟨[(4, .one (.dat .bool false))], [(1, .box [.dat (.int .i64) a1.1, .dat (.int .i64) a1.2.1, .dat (.sl (.st (.pair (.int .i64) (.pair (.int .i64) (.pair (.int .i64) (.int .i64)))))) a1.2.2]), (0, .box [.dat (.int .i64) a0.1, .dat (.int .i64) a0.2.1, .dat (.sl (.st (.pair (.int .i64) (.pair (.int .i64) (.pair (.int .i64) (.int .i64)))))) a0.2.2])], 2⟩ hP hN (by kernel_rfl) allNil ?_
      have hr := of_some hr
      subst hr
      exact HT.ret (qThenR ⟨[.one (.dat .bool false)], [], [], by kernel_rfl, by kernel_rfl, rfl, by kernel_rfl, by kernel_rfl, trivial⟩)
    · refine HT.cond0 rfl hb2 ?_
      refine HT.skip (qThen ?_)
      refine HT.seq ?_
      obtain ⟨y3, hc4, hr⟩ := of_bind hr
      refine HT.reg1 [20] [⟨none, .no⟩, ⟨none, .no⟩, ⟨none, .no⟩, ⟨none, .no⟩, ⟨none, .call [.imm (.sl (.st (.pair (.int .i64) (.pair (.int .i64) (.pair (.int .i64) (.int .i64)))))), .imm (.sl (.st (.pair (.int .i64) (.pair (.int .i64) (.pair (.int .i64) (.int .i64))))))] [⟨false, .bool, y3⟩] []⟩, ⟨none, .no⟩] ⟨[(20, .one (.dat .bool (!y3)))], [(1, .box [.dat (.int .i64) a1.1, .dat (.int .i64) a1.2.1, .dat (.sl (.st (.pair (.int .i64) (.pair (.int .i64) (.pair (.int .i64) (.int .i64)))))) a1.2.2]), (0, .box [.dat (.int .i64) a0.1, .dat (.int .i64) a0.2.1, .dat (.sl (.st (.pair (.int .i64) (.pair (.int .i64) (.pair (.int .i64) (.int .i64)))))) a0.2.2])], 2⟩ hP hN (by kernel_rfl) (allCons (f52_ok hc4) allNil) ?_
      rcases of_bif hr with ⟨hb5, hr⟩ | ⟨hb5, hr⟩
      · refine HT.cond1 rfl hb5 ?_
        refine HT.reg1 [4] [⟨none, .no⟩] ⟨[(4, .one (.dat .bool false))], [(1, .box [.dat (.int .i64) a1.1, .dat (.int .i64) a1.2.1, .dat (.sl (.st (.pair (.int .i64) (.pair (.int .i64) (.pair (.int .i64) (.int .i64)))))) a1.2.2]), (0, .box [.dat (.int .i64) a0.1, .dat (.int .i64) a0.2.1, .dat (.sl (.st (.pair (.int .i64) (.pair (.int .i64) (.pair (.int .i64) (.int .i64)))))) a0.2.2])], 2⟩ hP hN (by kernel_rfl) allNil ?_
        have hr := of_some hr
        subst hr
        exact HT.ret (qThenR ⟨[.one (.dat .bool false)], [], [], by kernel_rfl, by kernel_rfl, rfl, by kernel_rfl, by kernel_rfl, trivial⟩)
      · refine HT.cond0 rfl hb5 ?_
        refine HT.skip (qThen ?_)
        refine HT.reg1 [4] [⟨none, .no⟩] ⟨[(4, .one (.dat .bool true))], [(1, .box [.dat (.int .i64) a1.1, .dat (.int .i64) a1.2.1, .dat (.sl (.st (.pair (.int .i64) (.pair (.int .i64) (.pair (.int .i64) (.int .i64)))))) a1.2.2]), (0, .box [.dat (.int .i64) a0.1, .dat (.int .i64) a0.2.1, .dat (.sl (.st (.pair (.int .i64) (.pair (.int .i64) (.pair (.int .i64) (.int .i64)))))) a0.2.2])], 2⟩ hP hN (by kernel_rfl) allNil ?_
        have hr := of_some hr
        subst hr
        exact HT.ret ⟨[.one (.dat .bool true)], [], [], by kernel_rfl, by kernel_rfl, rfl, by kernel_rfl, by kernel_rfl, trivial⟩

noncomputable def laws_eqDesk (a0 : (Int × Int × List (Int × Int × Int × Int) × List Int × List Int) × (Int × Int × List Int × List Bool) × (Int × Int × List (Int × Int × Int × Int)) × List Int) (a1 : (Int × Int × List (Int × Int × Int × Int) × List Int × List Int) × (Int × Int × List Int × List Bool) × (Int × Int × List (Int × Int × Int × Int)) × List Int) : Option (Bool) :=
  (laws_eqMachine (a0.1.1, a0.1.2.1, a0.1.2.2.1, a0.1.2.2.2.1, a0.1.2.2.2.2) (a1.1.1, a1.1.2.1, a1.1.2.2.1, a1.1.2.2.2.1, a1.1.2.2.2.2)).bind fun y1 =>
  bif (!y1) then
    some false
  else
    (laws_eqPlain (a0.2.1.1, a0.2.1.2.1, a0.2.1.2.2.1, a0.2.1.2.2.2) (a1.2.1.1, a1.2.1.2.1, a1.2.1.2.2.1, a1.2.1.2.2.2)).bind fun y4 =>
    bif (!y4) then
      some false
    else
      (laws_eqGrammar (a0.2.2.1.1, a0.2.2.1.2.1, a0.2.2.1.2.2) (a1.2.2.1.1, a1.2.2.1.2.1, a1.2.2.1.2.2)).bind fun y7 =>
      bif (!y7) then
        some false
      else
        (laws_eqInt64S a0.2.2.2 a1.2.2.2).bind fun y10 =>
        bif (!y10) then
          some false
        else
          some true

theorem f8_ok {a0 : (Int × Int × List (Int × Int × Int × Int) × List Int × List Int) × (Int × Int × List Int × List Bool) × (Int × Int × List (Int × Int × Int × Int)) × List Int} {a1 : (Int × Int × List (Int × Int × Int × Int) × List Int × List Int) × (Int × Int × List Int × List Bool) × (Int × Int × List (Int × Int × Int × Int)) × List Int} {r : Bool} (hr : laws_eqDesk a0 a1 = some r) : CallOK Try.prog 8 [.imm (.st (.pair (.st (.pair (.int .i64) (.pair (.int .i64) (.pair (.sl (.st (.pair (.int .i64) (.pair (.int .i64) (.pair (.int .i64) (.int .i64)))))) (.pair (.sl (.int .i64)) (.sl (.int .i64))))))) (.pair (.st (.pair (.int .i64) (.pair (.int .i64) (.pair (.sl (.int .i64)) (.sl .bool))))) (.pair (.st (.pair (.int .i64) (.pair (.int .i64) (.sl (.st (.pair (.int .i64) (.pair (.int .i64) (.pair (.int .i64) (.int .i64))))))))) (.sl (.int .i64)))))) a0, .imm (.st (.pair (.st (.pair (.int .i64) (.pair (.int .i64) (.pair (.sl (.st (.pair (.int .i64) (.pair (.int .i64) (.pair (.int .i64) (.int .i64)))))) (.pair (.sl (.int .i64)) (.sl (.int .i64))))))) (.pair (.st (.pair (.int .i64) (.pair (.int .i64) (.pair (.sl (.int .i64)) (.sl .bool))))) (.pair (.st (.pair (.int .i64) (.pair (.int .i64) (.sl (.st (.pair (.int .i64) (.pair (.int .i64) (.pair (.int .i64) (.int .i64))))))))) (.sl (.int .i64)))))) a1] [⟨false, .bool, r⟩] [] := by
  unfold laws_eqDesk at hr
  refine CallOK.of_body (ts := [(false, .bool)]) Try.func8 rfl (by kernel_rfl) (Nat.le_of_ble_eq_true (by kernel_rfl)) fun cx hP hN hO hF => ?_
  have hO : cx.own.map Prod.fst = [] := hO
  have hF := hF rfl
  show HT cx ⟨[(0, .agg [.dat (.int .i64) a0.1.1, .dat (.int .i64) a0.1.2.1, .dat (.sl (.st (.pair (.int .i64) (.pair (.int .i64) (.pair (.int .i64) (.int .i64)))))) a0.1.2.2.1, .dat (.sl (.int .i64)) a0.1.2.2.2.1, .dat (.sl (.int .i64)) a0.1.2.2.2.2, .dat (.int .i64) a0.2.1.1, .dat (.int .i64) a0.2.1.2.1, .dat (.sl (.int .i64)) a0.2.1.2.2.1, .dat (.sl .bool) a0.2.1.2.2.2, .dat (.int .i64) a0.2.2.1.1, .dat (.int .i64) a0.2.2.1.2.1, .dat (.sl (.st (.pair (.int .i64) (.pair (.int .i64) (.pair (.int .i64) (.int .i64)))))) a0.2.2.1.2.2, .dat (.sl (.int .i64)) a0.2.2.2]), (1, .agg [.dat (.int .i64) a1.1.1, .dat (.int .i64) a1.1.2.1, .dat (.sl (.st (.pair (.int .i64) (.pair (.int .i64) (.pair (.int .i64) (.int .i64)))))) a1.1.2.2.1, .dat (.sl (.int .i64)) a1.1.2.2.2.1, .dat (.sl (.int .i64)) a1.1.2.2.2.2, .dat (.int .i64) a1.2.1.1, .dat (.int .i64) a1.2.1.2.1, .dat (.sl (.int .i64)) a1.2.1.2.2.1, .dat (.sl .bool) a1.2.1.2.2.2, .dat (.int .i64) a1.2.2.1.1, .dat (.int .i64) a1.2.2.1.2.1, .dat (.sl (.st (.pair (.int .i64) (.pair (.int .i64) (.pair (.int .i64) (.int .i64)))))) a1.2.2.1.2.2, .dat (.sl (.int .i64)) a1.2.2.2])], [], 0⟩ _ _
  refine HT.reg1 [2, 3] [⟨none, .no⟩, ⟨none, .no⟩, ⟨none, .no⟩] ⟨[(2, .one (.ptr 0 0)), (3, .one (.ptr 1 0))], [(1, .box [.dat (.int .i64) a1.1.1, .dat (.int .i64) a1.1.2.1, .dat (.sl (.st (.pair (.int .i64) (.pair (.int .i64) (.pair (.int .i64) (.int .i64)))))) a1.1.2.2.1, .dat (.sl (.int .i64)) a1.1.2.2.2.1, .dat (.sl (.int .i64)) a1.1.2.2.2.2, .dat (.int .i64) a1.2.1.1, .dat (.int .i64) a1.2.1.2.1, .dat (.sl (.int .i64)) a1.2.1.2.2.1, .dat (.sl .bool) a1.2.1.2.2.2, .dat (.int .i64) a1.2.2.1.1, .dat (.int .i64) a1.2.2.1.2.1, .dat (.sl (.st (.pair (.int .i64) (.pair (.int .i64) (.pair (.int .i64) (.int .i64)))))) a1.2.2.1.2.2, .dat (.sl (.int .i64)) a1.2.2.2]), (0, .box [.dat (.int .i64) a0.1.1, .dat (.int .i64) a0.1.2.1, .dat (.sl (.st (.pair (.int .i64) (.pair (.int .i64) (.pair (.int .i64) (.int .i64)))))) a0.1.2.2.1, .dat (.sl (.int .i64)) a0.1.2.2.2.1, .dat (.sl (.int .i64)) a0.1.2.2.2.2, .dat (.int .i64) a0.2.1.1, .dat (.int .i64) a0.2.1.2.1, .dat (.sl (.int .i64)) a0.2.1.2.2.1, .dat (.sl .bool) a0.2.1.2.2.2, .dat (.int .i64) a0.2.2.1.1, .dat (.int .i64) a0.2.2.1.2.1, .dat (.sl (.st (.pair (.int .i64) (.pair (.int .i64) (.pair (.int .i64) (.int .i64)))))) a0.2.2.1.2.2, .dat (.sl (.int .i64)) a0.2.2.2])], 2⟩ hP hN (by kernel_rfl) allNil ?_
  refine HT.seq ?_
  obtain ⟨y1, hc2, hr⟩ := of_bind hr
  refine HT.reg1 [2, 3, 10] [⟨none, .no⟩, ⟨none, .no⟩, ⟨none, .no⟩, ⟨none, .no⟩, ⟨none, .call [.imm (.st (.pair (.int .i64) (.pair (.int .i64) (.pair (.sl (.st (.pair (.int .i64) (.pair (.int .i64) (.pair (.int .i64) (.int .i64)))))) (.pair (.sl (.int .i64)) (.sl (.int .i64))))))), .imm (.st (.pair (.int .i64) (.pair (.int .i64) (.pair (.sl (.st (.pair (.int .i64) (.pair (.int .i64) (.pair (.int .i64) (.int .i64)))))) (.pair (.sl (.int .i64)) (.sl (.int .i64)))))))] [⟨false, .bool, y1⟩] []⟩, ⟨none, .no⟩] ⟨[(2, .one (.ptr 0 0)), (3, .one (.ptr 1 0)), (10, .one (.dat .bool (!y1)))], [(1, .box [.dat (.int .i64) a1.1.1, .dat (.int .i64) a1.1.2.1, .dat (.sl (.st (.pair (.int .i64) (.pair (.int .i64) (.pair (.int .i64) (.int .i64)))))) a1.1.2.2.1, .dat (.sl (.int .i64)) a1.1.2.2.2.1, .dat (.sl (.int .i64)) a1.1.2.2.2.2, .dat (.int .i64) a1.2.1.1, .dat (.int .i64) a1.2.1.2.1, .dat (.sl (.int .i64)) a1.2.1.2.2.1, .dat (.sl .bool) a1.2.1.2.2.2, .dat (.int .i64) a1.2.2.1.1, .dat (.int .i64) a1.2.2.1.2.1, .dat (.sl (.st (.pair (.int .i64) (.pair (.int .i64) (.pair (.int .i64) (.int .i64)))))) a1.2.2.1.2.2, .dat (.sl (.int .i64)) a1.2.2.2]), (0, .box [.dat (.int .i64) a0.1.1, .dat (.int .i64) a0.1.2.1, .dat (.sl (.st (.pair (.int .i64) (.pair (.int .i64) (.pair (.int .i64) (.int .i64)))))) a0.1.2.2.1, .dat (.sl (.int .i64)) a0.1.2.2.2.1, .dat (.sl (.int .i64)) a0.1.2.2.2.2, .dat (.int .i64) a0.2.1.1, .dat (.int .i64) a0.2.1.2.1, .dat (.sl (.int .i64)) a0.2.1.2.2.1, .dat (.sl .bool) a0.2.1.2.2.2, .dat (.int .i64) a0.2.2.1.1, .dat (.int .i64) a0.2.2.1.2.1, .dat (.sl (.st (.pair (.int .i64) (.pair (.int .i64) (.pair (.int .i64) (.int .i64)))))) a0.2.2.1.2.2, .dat (.sl (.int .i64)) a0.2.2.2])], 2⟩ hP hN (by kernel_rfl) (allCons (f17_ok hc2) allNil) ?_
  rcases of_bif hr with ⟨hb3, hr⟩ | ⟨hb3, hr⟩
  · refine HT.cond1 rfl hb3 ?_
    refine HT.reg1 [4] [⟨none, .no⟩] ⟨[(4, .one (.dat .bool false))], [(1, .box [.dat (.int .i64) a1.1.1, .dat (.int .i64) a1.1.2.1, .dat (.sl (.st (.pair (.int .i64) (.pair (.int .i64) (.pair (.int .i64) (.int .i64)))))) a1.1.2.2.1, .dat (.sl (.int .i64)) a1.1.2.2.2.1, .dat (.sl (.int .i64)) a1.1.2.2.2.2, .dat (.int .i64) a1.2.1.1, .dat (.int .i64) a1.2.1.2.1, .dat (.sl (.int .i64)) a1.2.1.2.2.1, .dat (.sl .bool) a1.2.1.2.2.2, .dat (.int .i64) a1.2.2.1.1, .dat (.int .i64) a1.2.2.1.2.1, .dat (.sl (.st (.pair (.int .i64) (.pair (.int .i64) (.pair (.int .i64) (.int .i64)))))) a1.2.2.1.2.2, .dat (.sl (.int .i64)) a1.2.2.2]), (0, .box [.dat (.int .i64) a0.1.1, .dat (.int .i64) a0.1.2.1, .dat (.sl (.st (.pair (.int .i64) (.pair (.int .i64) (.pair (.int .i64) (.int .i64)))))) a0.1.2.2.1, .dat (.sl (.int .i64)) a0.1.2.2.2.1, .dat (.sl (.int .i64)) a0.1.2.2.2.2, .dat (.int .i64) a0.2.1.1, .dat (.int .i64) a0.2.1.2.1, .dat (.sl (.int .i64)) a0.2.1.2.2.1, .dat (.sl .bool) a0.2.1.2.2.2, .dat (.int .i64) a0.2.2.1.1, .dat (.int .i64) a0.2.2.1.2.1, .dat (.sl (.st (.pair (.int .i64) (.pair (.int .i64) (.pair (.int .i64) (.int .i64)))))) a0.2.2.1.2.2, .dat (.sl (.int .i64)) a0.2.2.2])], 2⟩ hP hN (by kernel_rfl) allNil ?_
    have hr := of_some hr
    subst hr
    exact HT.ret (qThenR ⟨[.one (.dat .bool false)], [], [], by kernel_rfl, by kernel_rfl, rfl, by kernel_rfl, by kernel_rfl, trivial⟩)
  · refine HT.cond0 rfl hb3 ?_
    refine HT.skip (qThen ?_)
    refine HT.seq ?_
    obtain ⟨y4, hc5, hr⟩ := of_bind hr
    refine HT.reg1 [2, 3, 16] [⟨none, .no⟩, ⟨none, .no⟩, ⟨none, .no⟩, ⟨none, .no⟩, ⟨none, .call [.imm (.st (.pair (.int .i64) (.pair (.int .i64) (.pair (.sl (.int .i64)) (.sl .bool))))), .imm (.st (.pair (.int .i64) (.pair (.int .i64) (.pair (.sl (.int .i64)) (.sl .bool)))))] [⟨false, .bool, y4⟩] []⟩, ⟨none, .no⟩] ⟨[(2, .one (.ptr 0 0)), (3, .one (.ptr 1 0)), (16, .one (.dat .bool (!y4)))], [(1, .box [.dat (.int .i64) a1.1.1, .dat (.int .i64) a1.1.2.1, .dat (.sl (.st (.pair (.int .i64) (.pair (.int .i64) (.pair (.int .i64) (.int .i64)))))) a1.1.2.2.1, .dat (.sl (.int .i64)) a1.1.2.2.2.1, .dat (.sl (.int .i64)) a1.1.2.2.2.2, .dat (.int .i64) a1.2.1.1, .dat (.int .i64) a1.2.1.2.1, .dat (.sl (.int .i64)) a1.2.1.2.2.1, .dat (.sl .bool) a1.2.1.2.2.2, .dat (.int .i64) a1.2.2.1.1, .dat (.int .i64) a1.2.2.1.2.1, .dat (.sl (.st (.pair (.int .i64) (.pair (.int .i64) (.pair (.int .i64) (.int .i64)))))) a1.2.2.1.2.2, .dat (.sl (.int .i64)) a1.2.2.2]), (0, .box [.dat (.int .i64) a0.1.1, .dat (.int .i64) a0.1.2.1, .dat (.sl (.st (.pair (.int .i64) (.pair (.int .i64) (.pair (.int .i64) (.int .i64)))))) a0.1.2.2.1, .dat (.sl (.int .i64)) a0.1.2.2.2.1, .dat (.sl (.int .i64)) a0.1.2.2.2.2, .dat (.int .i64) a0.2.1.1, .dat (.int .i64) a0.2.1.2.1, .dat (.sl (.int .i64)) a0.2.1.2.2.1, .dat (.sl .bool) a0.2.1.2.2.2, .dat (.int .i64) a0.2.2.1.1, .dat (.int .i64) a0.2.2.1.2.1, .dat (.sl (.st (.pair (.int .i64) (.pair (.int .i64) (.pair (.int .i64) (.int .i64)))))) a0.2.2.1.2.2, .dat (.sl (.int .i64)) a0.2.2.2])], 2⟩ hP hN (by kernel_rfl) (allCons (f18_ok hc5) allNil) ?_
    rcases of_bif hr with ⟨hb6, hr⟩ | ⟨hb6, hr⟩
    · refine HT.cond1 rfl hb6 ?_
      refine HT.reg1 [4] [⟨none, .no⟩] ⟨[(4, .one (.dat .bool false))], [(1, .box [.dat (.int .i64) a1.1.1, .dat (.int .i64) a1.1.2.1, .dat (.sl (.st (.pair (.int .i64) (.pair (.int .i64) (.pair (.int .i64) (.int .i64)))))) a1.1.2.2.1, .dat (.sl (.int .i64)) a1.1.2.2.2.1, .dat (.sl (.int .i64)) a1.1.2.2.2.2, .dat (.int .i64) a1.2.1.1, .dat (.int .i64) a1.2.1.2.1, .dat (.sl (.int .i64)) a1.2.1.2.2.1, .dat (.sl .bool) a1.2.1.2.2.2, .dat (.int .i64) a1.2.2.1.1, .dat (.int .i64) a1.2.2.1.2.1, .dat (.sl (.st (.pair (.int .i64) (.pair (.int .i64) (.pair (.int .i64) (.int .i64)))))) a1.2.2.1.2.2, .dat (.sl (.int .i64)) a1.2.2.2]), (0, .box [.dat (.int .i64) a0.1.1, .dat (.int .i64) a0.1.2.1, .dat (.sl (.st (.pair (.int .i64) (.pair (.int .i64) (.pair (.int .i64) (.int .i64)))))) a0.1.2.2.1, .dat (.sl (.int .i64)) a0.1.2.2.2.1, .dat (.sl (.int .i64)) a0.1.2.2.2.2, .dat (.int .i64) a0.2.1.1, .dat (.int .i64) a0.2.1.2.1, .dat (.sl (.int .i64)) a0.2.1.2.2.1, .dat (.sl .bool) a0.2.1.2.2.2, .dat (.int .i64) a0.2.2.1.1, .dat (.int .i64) a0.2.2.1.2.1, .dat (.sl (.st (.pair (.int .i64) (.pair (.int .i64) (.pair (.int .i64) (.int .i64)))))) a0.2.2.1.2.2, .dat (.sl (.int .i64)) a0.2.2.2])], 2⟩ hP hN (by kernel_rfl) allNil ?_
      have hr := of_some hr
      subst hr
      exact HT.ret (qThenR ⟨[.one (.dat .bool false)], [], [], by kernel_rfl, by kernel_rfl, rfl, by kernel_rfl, by kernel_rfl, trivial⟩)
    · refine HT.cond0 rfl hb6 ?_
      refine HT.skip (qThen ?_)
      refine HT.seq ?_
      obtain ⟨y7, hc8, hr⟩ := of_bind hr
      refine HT.reg1 [2, 3, 22] [⟨none, .no⟩, ⟨none, .no⟩, ⟨none, .no⟩, ⟨none, .no⟩, ⟨none, .call [.imm (.st (.pair (.int .i64) (.pair (.int .i64) (.sl (.st (.pair (.int .i64) (.pair (.int .i64) (.pair (.int .i64) (.int .i64))))))))), .imm (.st (.pair (.int .i64) (.pair (.int .i64) (.sl (.st (.pair (.int .i64) (.pair (.int .i64) (.pair (.int .i64) (.int .i64)))))))))] [⟨false, .bool, y7⟩] []⟩, ⟨none, .no⟩] ⟨[(2, .one (.ptr 0 0)), (3, .one (.ptr 1 0)), (22, .one (.dat .bool (!y7)))], [(1, .box [.dat (.int .i64) a1.1.1, .dat (.int .i64) a1.1.2.1, .dat (.sl (.st (.pair (.int .i64) (.pair (.int .i64) (.pair (.int .i64) (.int .i64)))))) a1.1.2.2.1, .dat (.sl (.int .i64)) a1.1.2.2.2.1, .dat (.sl (.int .i64)) a1.1.2.2.2.2, .dat (.int .i64) a1.2.1.1, .dat (.int .i64) a1.2.1.2.1, .dat (.sl (.int .i64)) a1.2.1.2.2.1, .dat (.sl .bool) a1.2.1.2.2.2, .dat (.int .i64) a1.2.2.1.1, .dat (.int .i64) a1.2.2.1.2.1, .dat (.sl (.st (.pair (.int .i64) (.pair (.int .i64) (.pair (.int .i64) (.int .i64)))))) a1.2.2.1.2.2, .dat (.sl (.int .i64)) a1.2.2.2]), (0, .box [.dat (.int .i64) a0.1.1, .dat (.int .i64) a0.1.2.1, .dat (.sl (.st (.pair (.int .i64) (.pair (.int .i64) (.pair (.int .i64) (.int .i64)))))) a0.1.2.2.1, .dat (.sl (.int .i64)) a0.1.2.2.2.1, .dat (.sl (.int .i64)) a0.1.2.2.2.2, .dat (.int .i64) a0.2.1.1, .dat (.int .i64) a0.2.1.2.1, .dat (.sl (.int .i64)) a0.2.1.2.2.1, .dat (.sl .bool) a0.2.1.2.2.2, .dat (.int .i64) a0.2.2.1.1, .dat (.int .i64) a0.2.2.1.2.1, .dat (.sl (.st (.pair (.int .i64) (.pair (.int .i64) (.pair (.int .i64) (.int .i64)))))) a0.2.2.1.2.2, .dat (.sl (.int .i64)) a0.2.2.2])], 2⟩ hP hN (by kernel_rfl) (allCons (f19_ok hc8) allNil) ?_
      rcases of_bif hr with ⟨hb9, hr⟩ | ⟨hb9, hr⟩
      · refine HT.cond1 rfl hb9 ?_
        refine HT.reg1 [4] [⟨none, .no⟩] ⟨[(4, .one (.dat .bool false))], [(1, .box [.dat (.int .i64) a1.1.1, .dat (.int .i64) a1.1.2.1, .dat (.sl (.st (.pair (.int .i64) (.pair (.int .i64) (.pair (.int .i64) (.int .i64)))))) a1.1.2.2.1, .dat (.sl (.int .i64)) a1.1.2.2.2.1, .dat (.sl (.int .i64)) a1.1.2.2.2.2, .dat (.int .i64) a1.2.1.1, .dat (.int .i64) a1.2.1.2.1, .dat (.sl (.int .i64)) a1.2.1.2.2.1, .dat (.sl .bool) a1.2.1.2.2.2, .dat (.int .i64) a1.2.2.1.1, .dat (.int .i64) a1.2.2.1.2.1, .dat (.sl (.st (.pair (.int .i64) (.pair (.int .i64) (.pair (.int .i64) (.int .i64)))))) a1.2.2.1.2.2, .dat (.sl (.int .i64)) a1.2.2.2]), (0, .box [.dat (.int .i64) a0.1.1, .dat (.int .i64) a0.1.2.1, .dat (.sl (.st (.pair (.int .i64) (.pair (.int .i64) (.pair (.int .i64) (.int .i64)))))) a0.1.2.2.1, .dat (.sl (.int .i64)) a0.1.2.2.2.1, .dat (.sl (.int .i64)) a0.1.2.2.2.2, .dat (.int .i64) a0.2.1.1, .dat (.int .i64) a0.2.1.2.1, .dat (.sl (.int .i64)) a0.2.1.2.2.1, .dat (.sl .bool) a0.2.1.2.2.2, .dat (.int .i64) a0.2.2.1.1, .dat (.int .i64) a0.2.2.1.2.1, .dat (.sl (.st (.pair (.int .i64) (.pair (.int .i64) (.pair (.int .i64) (.int .i64)))))) a0.2.2.1.2.2, .dat (.sl (.int .i64)) a0.2.2.2])], 2⟩ hP hN (by kernel_rfl) allNil ?_
        have hr := of_some hr
        subst hr
        exact HT.ret (qThenR ⟨[.one (.dat .bool false)], [], [], by kernel_rfl, by kernel_rfl, rfl, by kernel_rfl, by kernel_rfl, trivial⟩)
      · refine HT.cond0 rfl hb9 ?_
        refine HT.skip (qThen ?_)
        refine HT.seq ?_
        obtain ⟨y10, hc11, hr⟩ := of_bind hr
        refine HT.reg1 [28] [⟨none, .no⟩, ⟨none, .no⟩, ⟨none, .no⟩, ⟨none, .no⟩, ⟨none, .call [.imm (.sl (.int .i64)), .imm (.sl (.int .i64))] [⟨false, .bool, y10⟩] []⟩, ⟨none, .no⟩] ⟨[(28, .one (.dat .bool (!y10)))], [(1, .box [.dat (.int .i64) a1.1.1, .dat (.int .i64) a1.1.2.1, .dat (.sl (.st (.pair (.int .i64) (.pair (.int .i64) (.pair (.int .i64) (.int .i64)))))) a1.1.2.2.1, .dat (.sl (.int .i64)) a1.1.2.2.2.1, .dat (.sl (.int .i64)) a1.1.2.2.2.2, .dat (.int .i64) a1.2.1.1, .dat (.int .i64) a1.2.1.2.1, .dat (.sl (.int .i64)) a1.2.1.2.2.1, .dat (.sl .bool) a1.2.1.2.2.2, .dat (.int .i64) a1.2.2.1.1, .dat (.int .i64) a1.2.2.1.2.1, .dat (.sl (.st (.pair (.int .i64) (.pair (.int .i64) (.pair (.int .i64) (.int .i64)))))) a1.2.2.1.2.2, .dat (.sl (.int .i64)) a1.2.2.2]), (0, .box [.dat (.int .i64) a0.1.1, .dat (.int .i64) a0.1.2.1, .dat (.sl (.st (.pair (.int .i64) (.pair (.int .i64) (.pair (.int .i64) (.int .i64)))))) a0.1.2.2.1, .dat (.sl (.int .i64)) a0.1.2.2.2.1, .dat (.sl (.int .i64)) a0.1.2.2.2.2, .dat (.int .i64) a0.2.1.1, .dat (.int .i64) a0.2.1.2.1, .dat (.sl (.int .i64)) a0.2.1.2.2.1, .dat (.sl .bool) a0.2.1.2.2.2, .dat (.int .i64) a0.2.2.1.1, .dat (.int .i64) a0.2.2.1.2.1, .dat (.sl (.st (.pair (.int .i64) (.pair (.int .i64) (.pair (.int .i64) (.int .i64)))))) a0.2.2.1.2.2, .dat (.sl (.int .i64)) a0.2.2.2])], 2⟩ hP hN (by kernel_rfl) (allCons (f20_ok hc11) allNil) ?_
        rcases of_bif hr with ⟨hb12, hr⟩ | ⟨hb12, hr⟩
        · refine HT.cond1 rfl hb12 ?_
          refine HT.reg1 [4] [⟨none, .no⟩] ⟨[(4, .one (.dat .bool false))], [(1, .box [.dat (.int .i64) a1.1.1, .dat (.int .i64) a1.1.2.1, .dat (.sl (.st (.pair (.int .i64) (.pair (.int .i64) (.pair (.int .i64) (.int .i64)))))) a1.1.2.2.1, .dat (.sl (.int .i64)) a1.1.2.2.2.1, .dat (.sl (.int .i64)) a1.1.2.2.2.2, .dat (.int .i64) a1.2.1.1, .dat (.int .i64) a1.2.1.2.1, .dat (.sl (.int .i64)) a1.2.1.2.2.1, .dat (.sl .bool) a1.2.1.2.2.2, .dat (.int .i64) a1.2.2.1.1, .dat (.int .i64) a1.2.2.1.2.1, .dat (.sl (.st (.pair (.int .i64) (.pair (.int .i64) (.pair (.int .i64) (.int .i64)))))) a1.2.2.1.2.2, .dat (.sl (.int .i64)) a1.2.2.2]), (0, .box [.dat (.int .i64) a0.1.1, .dat (.int .i64) a0.1.2.1, .dat (.sl (.st (.pair (.int .i64) (.pair (.int .i64) (.pair (.int .i64) (.int .i64)))))) a0.1.2.2.1, .dat (.sl (.int .i64)) a0.1.2.2.2.1, .dat (.sl (.int .i64)) a0.1.2.2.2.2, .dat (.int .i64) a0.2.1.1, .dat (.int .i64) a0.2.1.2.1, .dat (.sl (.int .i64)) a0.2.1.2.2.1, .dat (.sl .bool) a0.2.1.2.2.2, .dat (.int .i64) a0.2.2.1.1, .dat (.int .i64) a0.2.2.1.2.1, .dat (.sl (.st (.pair (.int .i64) (.pair (.int .i64) (.pair (.int .i64) (.int .i64)))))) a0.2.2.1.2.2, .dat (.sl (.int .i64)) a0.2.2.2])], 2⟩ hP hN (by kernel_rfl) allNil ?_
          have hr := of_some hr
          subst hr
          exact HT.ret (qThenR ⟨[.one (.dat .bool false)], [], [], by kernel_rfl, by kernel_rfl, rfl, by kernel_rfl, by kernel_rfl, trivial⟩)
        · refine HT.cond0 rfl hb12 ?_
          refine HT.skip (qThen ?_)
          refine HT.reg1 [4] [⟨none, .no⟩] ⟨[(4, .one (.dat .bool true))], [(1, .box [.dat (.int .i64) a1.1.1, .dat (.int .i64) a1.1.2.1, .dat (.sl (.st (.pair (.int .i64) (.pair (.int .i64) (.pair (.int .i64) (.int .i64)))))) a1.1.2.2.1, .dat (.sl (.int .i64)) a1.1.2.2.2.1, .dat (.sl (.int .i64)) a1.1.2.2.2.2, .dat (.int .i64) a1.2.1.1, .dat (.int .i64) a1.2.1.2.1, .dat (.sl (.int .i64)) a1.2.1.2.2.1, .dat (.sl .bool) a1.2.1.2.2.2, .dat (.int .i64) a1.2.2.1.1, .dat (.int .i64) a1.2.2.1.2.1, .dat (.sl (.st (.pair (.int .i64) (.pair (.int .i64) (.pair (.int .i64) (.int .i64)))))) a1.2.2.1.2.2, .dat (.sl (.int .i64)) a1.2.2.2]), (0, .box [.dat (.int .i64) a0.1.1, .dat (.int .i64) a0.1.2.1, .dat (.sl (.st (.pair (.int .i64) (.pair (.int .i64) (.pair (.int .i64) (.int .i64)))))) a0.1.2.2.1, .dat (.sl (.int .i64)) a0.1.2.2.2.1, .dat (.sl (.int .i64)) a0.1.2.2.2.2, .dat (.int .i64) a0.2.1.1, .dat (.int .i64) a0.2.1.2.1, .dat (.sl (.int .i64)) a0.2.1.2.2.1, .dat (.sl .bool) a0.2.1.2.2.2, .dat (.int .i64) a0.2.2.1.1, .dat (.int .i64) a0.2.2.1.2.1, .dat (.sl (.st (.pair (.int .i64) (.pair (.int .i64) (.pair (.int .i64) (.int .i64)))))) a0.2.2.1.2.2, .dat (.sl (.int .i64)) a0.2.2.2])], 2⟩ hP hN (by kernel_rfl) allNil ?_
          have hr := of_some hr
          subst hr
          exact HT.ret ⟨[.one (.dat .bool true)], [], [], by kernel_rfl, by kernel_rfl, rfl, by kernel_rfl, by kernel_rfl, trivial⟩

noncomputable def laws_markArcS_B1  (s1 : Int × Int × (List (Int × Int × Int × Int))) : Option ((Int × Int × (List (Int × Int × Int × Int))) ⊕ ((Int × (List (Int × Int × Int × Int))))) :=
  bif (decide (s1.2.1 < (lenI s1.2.2))) then
    guardP ((0 : Int) ≤ s1.2.1 ∧ s1.2.1 < lenI s1.2.2) (
      (some (List.set s1.2.2 (Int.toNat s1.2.1) (s1.1, ((List.getD s1.2.2 (Int.toNat s1.2.1) ((0 : Int), (0 : Int), (0 : Int), (0 : Int))).2).1, (((List.getD s1.2.2 (Int.toNat s1.2.1) ((0 : Int), (0 : Int), (0 : Int), (0 : Int))).2).2).1, (((List.getD s1.2.2 (Int.toNat s1.2.1) ((0 : Int), (0 : Int), (0 : Int), (0 : Int))).2).2).2))).bind fun q10 =>
      guardP ((0 : Int) ≤ s1.2.1 ∧ s1.2.1 < lenI q10) (
        (some (List.set q10 (Int.toNat s1.2.1) ((List.getD q10 (Int.toNat s1.2.1) ((0 : Int), (0 : Int), (0 : Int), (0 : Int))).1, (wadd .i64 s1.1 (1 : Int)), (((List.getD q10 (Int.toNat s1.2.1) ((0 : Int), (0 : Int), (0 : Int), (0 : Int))).2).2).1, (((List.getD q10 (Int.toNat s1.2.1) ((0 : Int), (0 : Int), (0 : Int), (0 : Int))).2).2).2))).bind fun q13 =>
        guardP ((0 : Int) ≤ s1.2.1 ∧ s1.2.1 < lenI q13) (
          (some (List.set q13 (Int.toNat s1.2.1) ((List.getD q13 (Int.toNat s1.2.1) ((0 : Int), (0 : Int), (0 : Int), (0 : Int))).1, ((List.getD q13 (Int.toNat s1.2.1) ((0 : Int), (0 : Int), (0 : Int), (0 : Int))).2).1, (wadd .i64 (wadd .i64 s1.1 (1 : Int)) (1 : Int)), (((List.getD q13 (Int.toNat s1.2.1) ((0 : Int), (0 : Int), (0 : Int), (0 : Int))).2).2).2))).bind fun q16 =>
          guardP ((0 : Int) ≤ s1.2.1 ∧ s1.2.1 < lenI q16) (
            (some (List.set q16 (Int.toNat s1.2.1) ((List.getD q16 (Int.toNat s1.2.1) ((0 : Int), (0 : Int), (0 : Int), (0 : Int))).1, ((List.getD q16 (Int.toNat s1.2.1) ((0 : Int), (0 : Int), (0 : Int), (0 : Int))).2).1, (((List.getD q16 (Int.toNat s1.2.1) ((0 : Int), (0 : Int), (0 : Int), (0 : Int))).2).2).1, (wadd .i64 (wadd .i64 (wadd .i64 s1.1 (1 : Int)) (1 : Int)) (1 : Int))))).bind fun q19 =>
            some (.inl ((wadd .i64 (wadd .i64 (wadd .i64 (wadd .i64 s1.1 (1 : Int)) (1 : Int)) (1 : Int)) (1 : Int)), (wadd .i64 s1.2.1 (1 : Int)), q19))))))
  else
    some (.inr (s1.1, s1.2.2))

noncomputable def laws_markArcS (a0 : List (Int × Int × Int × Int)) (a1 : Int) : Option (Int × (List (Int × Int × Int × Int))) :=
  (rounds (laws_markArcS_B1) (a1, (0 : Int), a0)).bind fun r3 =>
  guardP (List.length r3.2 = List.length a0) (
    some (r3.1, r3.2))

theorem f53_ok {a0 : List (Int × Int × Int × Int)} {a1 : Int} {r : Int × (List (Int × Int × Int × Int))} (hr : laws_markArcS a0 a1 = some r) : CallOK Try.prog 53 [.own (.sl (.st (.pair (.int .i64) (.pair (.int .i64) (.pair (.int .i64) (.int .i64)))))) a0, .imm (.int .i64) a1] [⟨false, (.int .i64), r.1⟩] [⟨(.sl (.st (.pair (.int .i64) (.pair (.int .i64) (.pair (.int .i64) (.int .i64)))))), r.2⟩] := by
  unfold laws_markArcS at hr
  refine CallOK.of_body (ts := [(false, (.int .i64))]) Try.func53 rfl (by kernel_rfl) (Nat.le_of_ble_eq_true (by kernel_rfl)) fun cx hP hN hO hF => ?_
  have hO : cx.own.map Prod.fst = [0] := hO
  have hF := hF rfl
  show HT cx ⟨[(0, .one (.all 0)), (1, .one (.dat (.int .i64) a1))], [(0, .seq (.st (.pair (.int .i64) (.pair (.int .i64) (.pair (.int .i64) (.int .i64))))) a0)], 1⟩ _ _
  refine HT.reg1 [0, 1] [⟨none, .no⟩] ⟨[(0, .one (.all 0)), (1, .one (.dat (.int .i64) a1))], [(0, .seq (.st (.pair (.int .i64) (.pair (.int .i64) (.pair (.int .i64) (.int .i64))))) a0)], 1⟩ hP hN (by kernel_rfl) allNil ?_
  refine HT.seq ?_
  refine HT.reg1 [0, 1, 5] [⟨none, .no⟩] ⟨[(0, .one (.all 0)), (1, .one (.dat (.int .i64) a1)), (5, .one (.dat (.int .i64) (0 : Int)))], [(0, .seq (.st (.pair (.int .i64) (.pair (.int .i64) (.pair (.int .i64) (.int .i64))))) a0)], 1⟩ hP hN (by kernel_rfl) allNil ?_
  refine HT.block ?_
  obtain ⟨r2, hL21, hr⟩ := of_bind hr
  refine (Le.cv (s := ⟨[(0, 0)], [], [], false⟩) (own := [0]) (ps := [a1 = a1, (0 : Int) = (0 : Int), a0 = a0]) (st' := ⟨[(0, .one (.all 0)), (1, .one (.dat (.int .i64) a1)), (5, .one (.dat (.int .i64) (0 : Int)))], [(0, .seq (.st (.pair (.int .i64) (.pair (.int .i64) (.pair (.int .i64) (.int .i64))))) a0)], 1⟩) hO (fun h => by cases h) (by kernel_rfl) ⟨rfl, rfl, rfl, trivial⟩).ht ?_
  refine HT.loopE (s := (a1, (0 : Int), a0)) (fun (s1 : Int × Int × (List (Int × Int × Int × Int))) => ⟨[(0, .one (.all 0)), (1, .one (.dat (.int .i64) s1.1)), (5, .one (.dat (.int .i64) s1.2.1))], [(0, .seq (.st (.pair (.int .i64) (.pair (.int .i64) (.pair (.int .i64) (.int .i64))))) s1.2.2)], 1⟩) (fun (r3 : (Int × (List (Int × Int × Int × Int)))) => (.exit 0, ⟨[(1, .one (.dat (.int .i64) r3.1))], [(0, .seq (.st (.pair (.int .i64) (.pair (.int .i64) (.pair (.int .i64) (.int .i64))))) r3.2)], 1⟩)) hL21 ?_ (fun s1 x5 hx6 hk7 => ?_)
  · refine (qBlockX (qThen ?_))
    refine HT.reg1 [4] [⟨none, .no⟩, ⟨none, .no⟩] ⟨[(4, .one (.dat (.int .i64) r2.1))], [(0, .seq (.st (.pair (.int .i64) (.pair (.int .i64) (.pair (.int .i64) (.int .i64))))) r2.2)], 1⟩ hP hN (by kernel_rfl) allNil ?_
    obtain ⟨hg4, hr⟩ := of_guard hr
    have hr := of_some hr
    subst hr
    exact HT.ret ⟨[.one (.dat (.int .i64) r2.1)], [], [List.length r2.2 = List.length a0], by kernel_rfl, by kernel_rfl, rfl, by kernel_rfl, by kernel_rfl, ⟨hg4, trivial⟩⟩
  · refine HT.seq ?_
    refine HT.reg1 [0, 1, 5, 9] [⟨none, .no⟩, ⟨none, .no⟩, ⟨none, .no⟩, ⟨none, .no⟩] ⟨[(0, .one (.all 0)), (1, .one (.dat (.int .i64) s1.1)), (5, .one (.dat (.int .i64) s1.2.1)), (9, .one (.dat .bool (decide (s1.2.1 < (lenI s1.2.2)))))], [(0, .seq (.st (.pair (.int .i64) (.pair (.int .i64) (.pair (.int .i64) (.int .i64))))) s1.2.2)], 1⟩ hP hN (by kernel_rfl) allNil ?_
    rcases of_bif hx6 with ⟨hb8, hx6⟩ | ⟨hb8, hx6⟩
    · refine HT.cond1 rfl hb8 ?_
      refine HT.skip (qThen ?_)
      refine HT.seq ?_
      refine HT.block ?_
      obtain ⟨hg9, hx6⟩ := of_guard hx6
      refine HT.reg1 [0, 1, 5] [⟨none, .no⟩, ⟨none, .no⟩, ⟨none, .no⟩, ⟨none, .no⟩, ⟨none, .no⟩, ⟨none, .no⟩] ⟨[(0, .one (.all 0)), (1, .one (.dat (.int .i64) s1.1)), (5, .one (.dat (.int .i64) s1.2.1))], [(0, .seq (.st (.pair (.int .i64) (.pair (.int .i64) (.pair (.int .i64) (.int .i64))))) (List.set s1.2.2 (Int.toNat s1.2.1) (s1.1, ((List.getD s1.2.2 (Int.toNat s1.2.1) ((0 : Int), (0 : Int), (0 : Int), (0 : Int))).2).1, (((List.getD s1.2.2 (Int.toNat s1.2.1) ((0 : Int), (0 : Int), (0 : Int), (0 : Int))).2).2).1, (((List.getD s1.2.2 (Int.toNat s1.2.1) ((0 : Int), (0 : Int), (0 : Int), (0 : Int))).2).2).2))), (0, .seq (.st (.pair (.int .i64) (.pair (.int .i64) (.pair (.int .i64) (.int .i64))))) s1.2.2)], 1⟩ hP hN (by kernel_rfl) (allCons hg9 (allCons (natLt hg9) allNil)) ?_
      obtain ⟨q10, hq11, hx6⟩ := of_bind hx6
      have hq11 := of_some2 hq11
      refine (Le.cv (s := ⟨[(0, 0)], [], [], false⟩) (own := [0]) (ps := [s1.1 = s1.1, s1.2.1 = s1.2.1, q10 = (List.set s1.2.2 (Int.toNat s1.2.1) (s1.1, ((List.getD s1.2.2 (Int.toNat s1.2.1) ((0 : Int), (0 : Int), (0 : Int), (0 : Int))).2).1, (((List.getD s1.2.2 (Int.toNat s1.2.1) ((0 : Int), (0 : Int), (0 : Int), (0 : Int))).2).2).1, (((List.getD s1.2.2 (Int.toNat s1.2.1) ((0 : Int), (0 : Int), (0 : Int), (0 : Int))).2).2).2))]) (st' := ⟨[(0, .one (.all 0)), (1, .one (.dat (.int .i64) s1.1)), (5, .one (.dat (.int .i64) s1.2.1))], [(0, .seq (.st (.pair (.int .i64) (.pair (.int .i64) (.pair (.int .i64) (.int .i64))))) q10)], 1⟩) hO (fun h => by cases h) (by kernel_rfl) ⟨rfl, rfl, hq11, trivial⟩).ht ?_
      refine HT.reg1 [0, 1, 5] [⟨none, .no⟩, ⟨none, .no⟩, ⟨none, .no⟩] ⟨[(0, .one (.all 0)), (1, .one (.dat (.int .i64) (wadd .i64 s1.1 (1 : Int)))), (5, .one (.dat (.int .i64) s1.2.1))], [(0, .seq (.st (.pair (.int .i64) (.pair (.int .i64) (.pair (.int .i64) (.int .i64))))) q10)], 1⟩ hP hN (by kernel_rfl) allNil ?_
      obtain ⟨hg12, hx6⟩ := of_guard hx6
      refine HT.reg1 [0, 1, 5] [⟨none, .no⟩, ⟨none, .no⟩, ⟨none, .no⟩, ⟨none, .no⟩, ⟨none, .no⟩, ⟨none, .no⟩] ⟨[(0, .one (.all 0)), (1, .one (.dat (.int .i64) (wadd .i64 s1.1 (1 : Int)))), (5, .one (.dat (.int .i64) s1.2.1))], [(0, .seq (.st (.pair (.int .i64) (.pair (.int .i64) (.pair (.int .i64) (.int .i64))))) (List.set q10 (Int.toNat s1.2.1) ((List.getD q10 (Int.toNat s1.2.1) ((0 : Int), (0 : Int), (0 : Int), (0 : Int))).1, (wadd .i64 s1.1 (1 : Int)), (((List.getD q10 (Int.toNat s1.2.1) ((0 : Int), (0 : Int), (0 : Int), (0 : Int))).2).2).1, (((List.getD q10 (Int.toNat s1.2.1) ((0 : Int), (0 : Int), (0 : Int), (0 : Int))).2).2).2))), (0, .seq (.st (.pair (.int .i64) (.pair (.int .i64) (.pair (.int .i64) (.int .i64))))) q10)], 1⟩ hP hN (by kernel_rfl) (allCons hg12 (allCons (natLt hg12) allNil)) ?_
      obtain ⟨q13, hq14, hx6⟩ := of_bind hx6
      have hq14 := of_some2 hq14
      refine (Le.cv (s := ⟨[(0, 0)], [], [], false⟩) (own := [0]) (ps := [(wadd .i64 s1.1 (1 : Int)) = (wadd .i64 s1.1 (1 : Int)), s1.2.1 = s1.2.1, q13 = (List.set q10 (Int.toNat s1.2.1) ((List.getD q10 (Int.toNat s1.2.1) ((0 : Int), (0 : Int), (0 : Int), (0 : Int))).1, (wadd .i64 s1.1 (1 : Int)), (((List.getD q10 (Int.toNat s1.2.1) ((0 : Int), (0 : Int), (0 : Int), (0 : Int))).2).2).1, (((List.getD q10 (Int.toNat s1.2.1) ((0 : Int), (0 : Int), (0 : Int), (0 : Int))).2).2).2))]) (st' := ⟨[(0, .one (.all 0)), (1, .one (.dat (.int .i64) (wadd .i64 s1.1 (1 : Int)))), (5, .one (.dat (.int .i64) s1.2.1))], [(0, .seq (.st (.pair (.int .i64) (.pair (.int .i64) (.pair (.int .i64) (.int .i64))))) q13)], 1⟩) hO (fun h => by cases h) (by kernel_rfl) ⟨rfl, rfl, hq14, trivial⟩).ht ?_
      refine HT.reg1 [0, 1, 5] [⟨none, .no⟩, ⟨none, .no⟩, ⟨none, .no⟩] ⟨[(0, .one (.all 0)), (1, .one (.dat (.int .i64) (wadd .i64 (wadd .i64 s1.1 (1 : Int)) (1 : Int)))), (5, .one (.dat (.int .i64) s1.2.1))], [(0, .seq (.st (.pair (.int .i64) (.pair (.int .i64) (.pair (.int .i64) (.int .i64))))) q13)], 1⟩ hP hN (by kernel_rfl) allNil ?_
      obtain ⟨hg15, hx6⟩ := of_guard hx6
      refine HT.reg1 [0, 1, 5] [⟨none, .no⟩, ⟨none, .no⟩, ⟨none, .no⟩, ⟨none, .no⟩, ⟨none, .no⟩, ⟨none, .no⟩] ⟨[(0, .one (.all 0)), (1, .one (.dat (.int .i64) (wadd .i64 (wadd .i64 s1.1 (1 : Int)) (1 : Int)))), (5, .one (.dat (.int .i64) s1.2.1))], [(0, .seq (.st (.pair (.int .i64) (.pair (.int .i64) (.pair (.int .i64) (.int .i64))))) (List.set q13 (Int.toNat s1.2.1) ((List.getD q13 (Int.toNat s1.2.1) ((0 : Int), (0 : Int), (0 : Int), (0 : Int))).1, ((List.getD q13 (Int.toNat s1.2.1) ((0 : Int), (0 : Int), (0 : Int), (0 : Int))).2).1, (wadd .i64 (wadd .i64 s1.1 (1 : Int)) (1 : Int)), (((List.getD q13 (Int.toNat s1.2.1) ((0 : Int), (0 : Int), (0 : Int), (0 : Int))).2).2).2))), (0, .seq (.st (.pair (.int .i64) (.pair (.int .i64) (.pair (.int .i64) (.int .i64))))) q13)], 1⟩ hP hN (by kernel_rfl) (allCons hg15 (allCons (natLt hg15) allNil)) ?_
      obtain ⟨q16, hq17, hx6⟩ := of_bind hx6
      have hq17 := of_some2 hq17
      refine (Le.cv (s := ⟨[(0, 0)], [], [], false⟩) (own := [0]) (ps := [(wadd .i64 (wadd .i64 s1.1 (1 : Int)) (1 : Int)) = (wadd .i64 (wadd .i64 s1.1 (1 : Int)) (1 : Int)), s1.2.1 = s1.2.1, q16 = (List.set q13 (Int.toNat s1.2.1) ((List.getD q13 (Int.toNat s1.2.1) ((0 : Int), (0 : Int), (0 : Int), (0 : Int))).1, ((List.getD q13 (Int.toNat s1.2.1) ((0 : Int), (0 : Int), (0 : Int), (0 : Int))).2).1, (wadd .i64 (wadd .i64 s1.1 (1 : Int)) (1 : Int)), (((List.getD q13 (Int.toNat s1.2.1) ((0 : Int), (0 : Int), (0 : Int), (0 : Int))).2).2).2))]) (st' := ⟨[(0, .one (.all 0)), (1, .one (.dat (.int .i64) (wadd .i64 (wadd .i64 s1.1 (1 : Int)) (1 : Int)))), (5, .one (.dat (.int .i64) s1.2.1))], [(0, .seq (.st (.pair (.int .i64) (.pair (.int .i64) (.pair (.int .i64) (.int .i64))))) q16)], 1⟩) hO (fun h => by cases h) (by kernel_rfl) ⟨rfl, rfl, hq17, trivial⟩).ht ?_
      refine HT.reg1 [0, 1, 5] [⟨none, .no⟩, ⟨none, .no⟩, ⟨none, .no⟩] ⟨[(0, .one (.all 0)), (1, .one (.dat (.int .i64) (wadd .i64 (wadd .i64 (wadd .i64 s1.1 (1 : Int)) (1 : Int)) (1 : Int)))), (5, .one (.dat (.int .i64) s1.2.1))], [(0, .seq (.st (.pair (.int .i64) (.pair (.int .i64) (.pair (.int .i64) (.int .i64))))) q16)], 1⟩ hP hN (by kernel_rfl) allNil ?_
      obtain ⟨hg18, hx6⟩ := of_guard hx6
      refine HT.reg1 [0, 1, 5] [⟨none, .no⟩, ⟨none, .no⟩, ⟨none, .no⟩, ⟨none, .no⟩, ⟨none, .no⟩, ⟨none, .no⟩] ⟨[(0, .one (.all 0)), (1, .one (.dat (.int .i64) (wadd .i64 (wadd .i64 (wadd .i64 s1.1 (1 : Int)) (1 : Int)) (1 : Int)))), (5, .one (.dat (.int .i64) s1.2.1))], [(0, .seq (.st (.pair (.int .i64) (.pair (.int .i64) (.pair (.int .i64) (.int .i64))))) (List.set q16 (Int.toNat s1.2.1) ((List.getD q16 (Int.toNat s1.2.1) ((0 : Int), (0 : Int), (0 : Int), (0 : Int))).1, ((List.getD q16 (Int.toNat s1.2.1) ((0 : Int), (0 : Int), (0 : Int), (0 : Int))).2).1, (((List.getD q16 (Int.toNat s1.2.1) ((0 : Int), (0 : Int), (0 : Int), (0 : Int))).2).2).1, (wadd .i64 (wadd .i64 (wadd .i64 s1.1 (1 : Int)) (1 : Int)) (1 : Int))))), (0, .seq (.st (.pair (.int .i64) (.pair (.int .i64) (.pair (.int .i64) (.int .i64))))) q16)], 1⟩ hP hN (by kernel_rfl) (allCons hg18 (allCons (natLt hg18) allNil)) ?_
      obtain ⟨q19, hq20, hx6⟩ := of_bind hx6
      have hq20 := of_some2 hq20
      refine (Le.cv (s := ⟨[(0, 0)], [], [], false⟩) (own := [0]) (ps := [(wadd .i64 (wadd .i64 (wadd .i64 s1.1 (1 : Int)) (1 : Int)) (1 : Int)) = (wadd .i64 (wadd .i64 (wadd .i64 s1.1 (1 : Int)) (1 : Int)) (1 : Int)), s1.2.1 = s1.2.1, q19 = (List.set q16 (Int.toNat s1.2.1) ((List.getD q16 (Int.toNat s1.2.1) ((0 : Int), (0 : Int), (0 : Int), (0 : Int))).1, ((List.getD q16 (Int.toNat s1.2.1) ((0 : Int), (0 : Int), (0 : Int), (0 : Int))).2).1, (((List.getD q16 (Int.toNat s1.2.1) ((0 : Int), (0 : Int), (0 : Int), (0 : Int))).2).2).1, (wadd .i64 (wadd .i64 (wadd .i64 s1.1 (1 : Int)) (1 : Int)) (1 : Int))))]) (st' := ⟨[(0, .one (.all 0)), (1, .one (.dat (.int .i64) (wadd .i64 (wadd .i64 (wadd .i64 s1.1 (1 : Int)) (1 : Int)) (1 : Int)))), (5, .one (.dat (.int .i64) s1.2.1))], [(0, .seq (.st (.pair (.int .i64) (.pair (.int .i64) (.pair (.int .i64) (.int .i64))))) q19)], 1⟩) hO (fun h => by cases h) (by kernel_rfl) ⟨rfl, rfl, hq20, trivial⟩).ht ?_
      refine HT.reg (rs := [⟨none, .no⟩, ⟨none, .no⟩, ⟨none, .no⟩]) (st' := ⟨[(1, .one (.dat (.int .i64) (wadd .i64 (wadd .i64 (wadd .i64 (wadd .i64 s1.1 (1 : Int)) (1 : Int)) (1 : Int)) (1 : Int)))), (39, .one (.dat (.int .i64) (wadd .i64 (wadd .i64 (wadd .i64 (wadd .i64 s1.1 (1 : Int)) (1 : Int)) (1 : Int)) (1 : Int)))), (38, .one (.dat (.int .i64) (wadd .i64 (wadd .i64 (wadd .i64 s1.1 (1 : Int)) (1 : Int)) (1 : Int)))), (0, .one (.all 0)), (1, .one (.dat (.int .i64) (wadd .i64 (wadd .i64 (wadd .i64 s1.1 (1 : Int)) (1 : Int)) (1 : Int)))), (5, .one (.dat (.int .i64) s1.2.1))], [(0, .seq (.st (.pair (.int .i64) (.pair (.int .i64) (.pair (.int .i64) (.int .i64))))) q19)], 1⟩) hP hN (by kernel_rfl) allNil (qBlock (qThen ?_))
      have hx6 := of_some hx6
      subst hx6
      refine HT.reg (rs := [⟨none, .no⟩, ⟨none, .no⟩, ⟨none, .no⟩]) (st' := ⟨[(5, .one (.dat (.int .i64) (wadd .i64 s1.2.1 (1 : Int)))), (11, .one (.dat (.int .i64) (wadd .i64 s1.2.1 (1 : Int)))), (10, .one (.dat (.int .i64) s1.2.1)), (1, .one (.dat (.int .i64) (wadd .i64 (wadd .i64 (wadd .i64 (wadd .i64 s1.1 (1 : Int)) (1 : Int)) (1 : Int)) (1 : Int)))), (39, .one (.dat (.int .i64) (wadd .i64 (wadd .i64 (wadd .i64 (wadd .i64 s1.1 (1 : Int)) (1 : Int)) (1 : Int)) (1 : Int)))), (38, .one (.dat (.int .i64) (wadd .i64 (wadd .i64 (wadd .i64 s1.1 (1 : Int)) (1 : Int)) (1 : Int)))), (0, .one (.all 0)), (1, .one (.dat (.int .i64) (wadd .i64 (wadd .i64 (wadd .i64 s1.1 (1 : Int)) (1 : Int)) (1 : Int)))), (5, .one (.dat (.int .i64) s1.2.1))], [(0, .seq (.st (.pair (.int .i64) (.pair (.int .i64) (.pair (.int .i64) (.int .i64))))) q19)], 1⟩) hP hN (by kernel_rfl) allNil (qLoopN ⟨((wadd .i64 (wadd .i64 (wadd .i64 (wadd .i64 s1.1 (1 : Int)) (1 : Int)) (1 : Int)) (1 : Int)), (wadd .i64 s1.2.1 (1 : Int)), q19), rfl, Le.cv (s := ⟨[(0, 0)], [], [], false⟩) (own := [0]) (ps := [(wadd .i64 (wadd .i64 (wadd .i64 (wadd .i64 s1.1 (1 : Int)) (1 : Int)) (1 : Int)) (1 : Int)) = (wadd .i64 (wadd .i64 (wadd .i64 (wadd .i64 s1.1 (1 : Int)) (1 : Int)) (1 : Int)) (1 : Int)), (wadd .i64 s1.2.1 (1 : Int)) = (wadd .i64 s1.2.1 (1 : Int)), q19 = q19]) (st' := ⟨[(0, .one (.all 0)), (1, .one (.dat (.int .i64) (wadd .i64 (wadd .i64 (wadd .i64 (wadd .i64 s1.1 (1 : Int)) (1 : Int)) (1 : Int)) (1 : Int)))), (5, .one (.dat (.int .i64) (wadd .i64 s1.2.1 (1 : Int))))], [(0, .seq (.st (.pair (.int .i64) (.pair (.int .i64) (.pair (.int .i64) (.int .i64))))) q19)], 1⟩) hO (fun h => by cases h) (by kernel_rfl) ⟨rfl, rfl, rfl, trivial⟩⟩)
    · refine HT.cond0 rfl hb8 ?_
      have hx6 := of_some hx6
      subst hx6
      refine (Le.cv (s := ⟨[(0, 0)], [], [], false⟩) (own := [0]) (ps := [s1.1 = s1.1, s1.2.2 = s1.2.2]) (st' := ⟨[(1, .one (.dat (.int .i64) s1.1))], [(0, .seq (.st (.pair (.int .i64) (.pair (.int .i64) (.pair (.int .i64) (.int .i64))))) s1.2.2)], 1⟩) hO (fun h => by cases h) (by kernel_rfl) ⟨rfl, rfl, trivial⟩).ht ?_
      exact HT.exit (qThenE (qLoopE (hk7 (s1.1, s1.2.2) rfl)))

noncomputable def laws_markInt64S_B1  (s1 : Int × Int × List Int) : Option ((Int × Int × List Int) ⊕ ((Int × List Int))) :=
  bif (decide (s1.2.1 < (lenI s1.2.2))) then
    guardP ((0 : Int) ≤ s1.2.1 ∧ s1.2.1 < lenI s1.2.2) (
      some (.inl ((wadd .i64 s1.1 (1 : Int)), (wadd .i64 s1.2.1 (1 : Int)), (List.set s1.2.2 (Int.toNat s1.2.1) s1.1))))
  else
    some (.inr (s1.1, s1.2.2))

noncomputable def laws_markInt64S (a0 : List Int) (a1 : Int) : Option (Int × List Int) :=
  (rounds (laws_markInt64S_B1) (a1, (0 : Int), a0)).bind fun r3 =>
  guardP (List.length r3.2 = List.length a0) (
    some (r3.1, r3.2))

theorem f24_ok {a0 : List Int} {a1 : Int} {r : Int × List Int} (hr : laws_markInt64S a0 a1 = some r) : CallOK Try.prog 24 [.own (.sl (.int .i64)) a0, .imm (.int .i64) a1] [⟨false, (.int .i64), r.1⟩] [⟨(.sl (.int .i64)), r.2⟩] := by
  unfold laws_markInt64S at hr
  refine CallOK.of_body (ts := [(false, (.int .i64))]) Try.func24 rfl (by kernel_rfl) (Nat.le_of_ble_eq_true (by kernel_rfl)) fun cx hP hN hO hF => ?_
  have hO : cx.own.map Prod.fst = [0] := hO
  have hF := hF rfl
  show HT cx ⟨[(0, .one (.all 0)), (1, .one (.dat (.int .i64) a1))], [(0, .seq (.int .i64) a0)], 1⟩ _ _
  refine HT.reg1 [0, 1] [⟨none, .no⟩] ⟨[(0, .one (.all 0)), (1, .one (.dat (.int .i64) a1))], [(0, .seq (.int .i64) a0)], 1⟩ hP hN (by kernel_rfl) allNil ?_
  refine HT.seq ?_
  refine HT.reg1 [0, 1, 5] [⟨none, .no⟩] ⟨[(0, .one (.all 0)), (1, .one (.dat (.int .i64) a1)), (5, .one (.dat (.int .i64) (0 : Int)))], [(0, .seq (.int .i64) a0)], 1⟩ hP hN (by kernel_rfl) allNil ?_
  refine HT.block ?_
  obtain ⟨r2, hL10, hr⟩ := of_bind hr
  refine (Le.cv (s := ⟨[(0, 0)], [], [], false⟩) (own := [0]) (ps := [a1 = a1, (0 : Int) = (0 : Int), a0 = a0]) (st' := ⟨[(0, .one (.all 0)), (1, .one (.dat (.int .i64) a1)), (5, .one (.dat (.int .i64) (0 : Int)))], [(0, .seq (.int .i64) a0)], 1⟩) hO (fun h => by cases h) (by kernel_rfl) ⟨rfl, rfl, rfl, trivial⟩).ht ?_
  refine HT.loopE (s := (a1, (0 : Int), a0)) (fun (s1 : Int × Int × List Int) => ⟨[(0, .one (.all 0)), (1, .one (.dat (.int .i64) s1.1)), (5, .one (.dat (.int .i64) s1.2.1))], [(0, .seq (.int .i64) s1.2.2)], 1⟩) (fun (r3 : (Int × List Int)) => (.exit 0, ⟨[(1, .one (.dat (.int .i64) r3.1))], [(0, .seq (.int .i64) r3.2)], 1⟩)) hL10 ?_ (fun s1 x5 hx6 hk7 => ?_)
  · refine (qBlockX (qThen ?_))
    refine HT.reg1 [4] [⟨none, .no⟩, ⟨none, .no⟩] ⟨[(4, .one (.dat (.int .i64) r2.1))], [(0, .seq (.int .i64) r2.2)], 1⟩ hP hN (by kernel_rfl) allNil ?_
    obtain ⟨hg4, hr⟩ := of_guard hr
    have hr := of_some hr
    subst hr
    exact HT.ret ⟨[.one (.dat (.int .i64) r2.1)], [], [List.length r2.2 = List.length a0], by kernel_rfl, by kernel_rfl, rfl, by kernel_rfl, by kernel_rfl, ⟨hg4, trivial⟩⟩
  · refine HT.seq ?_
    refine HT.reg1 [0, 1, 5, 9] [⟨none, .no⟩, ⟨none, .no⟩, ⟨none, .no⟩, ⟨none, .no⟩] ⟨[(0, .one (.all 0)), (1, .one (.dat (.int .i64) s1.1)), (5, .one (.dat (.int .i64) s1.2.1)), (9, .one (.dat .bool (decide (s1.2.1 < (lenI s1.2.2)))))], [(0, .seq (.int .i64) s1.2.2)], 1⟩ hP hN (by kernel_rfl) allNil ?_
    rcases of_bif hx6 with ⟨hb8, hx6⟩ | ⟨hb8, hx6⟩
    · refine HT.cond1 rfl hb8 ?_
      refine HT.skip (qThen ?_)
      refine HT.seq ?_
      refine HT.block ?_
      obtain ⟨hg9, hx6⟩ := of_guard hx6
      refine HT.reg1 [0, 1, 5] [⟨none, .no⟩, ⟨none, .no⟩, ⟨none, .no⟩, ⟨none, .no⟩, ⟨none, .no⟩] ⟨[(0, .one (.all 0)), (1, .one (.dat (.int .i64) s1.1)), (5, .one (.dat (.int .i64) s1.2.1))], [(0, .seq (.int .i64) (List.set s1.2.2 (Int.toNat s1.2.1) s1.1)), (0, .seq (.int .i64) s1.2.2)], 1⟩ hP hN (by kernel_rfl) (allCons hg9 (allCons (natLt hg9) allNil)) ?_
      refine HT.reg (rs := [⟨none, .no⟩, ⟨none, .no⟩, ⟨none, .no⟩]) (st' := ⟨[(1, .one (.dat (.int .i64) (wadd .i64 s1.1 (1 : Int)))), (17, .one (.dat (.int .i64) (wadd .i64 s1.1 (1 : Int)))), (16, .one (.dat (.int .i64) s1.1)), (0, .one (.all 0)), (1, .one (.dat (.int .i64) s1.1)), (5, .one (.dat (.int .i64) s1.2.1))], [(0, .seq (.int .i64) (List.set s1.2.2 (Int.toNat s1.2.1) s1.1)), (0, .seq (.int .i64) s1.2.2)], 1⟩) hP hN (by kernel_rfl) allNil (qBlock (qThen ?_))
      have hx6 := of_some hx6
      subst hx6
      refine HT.reg (rs := [⟨none, .no⟩, ⟨none, .no⟩, ⟨none, .no⟩]) (st' := ⟨[(5, .one (.dat (.int .i64) (wadd .i64 s1.2.1 (1 : Int)))), (11, .one (.dat (.int .i64) (wadd .i64 s1.2.1 (1 : Int)))), (10, .one (.dat (.int .i64) s1.2.1)), (1, .one (.dat (.int .i64) (wadd .i64 s1.1 (1 : Int)))), (17, .one (.dat (.int .i64) (wadd .i64 s1.1 (1 : Int)))), (16, .one (.dat (.int .i64) s1.1)), (0, .one (.all 0)), (1, .one (.dat (.int .i64) s1.1)), (5, .one (.dat (.int .i64) s1.2.1))], [(0, .seq (.int .i64) (List.set s1.2.2 (Int.toNat s1.2.1) s1.1)), (0, .seq (.int .i64) s1.2.2)], 1⟩) hP hN (by kernel_rfl) allNil (qLoopN ⟨((wadd .i64 s1.1 (1 : Int)), (wadd .i64 s1.2.1 (1 : Int)), (List.set s1.2.2 (Int.toNat s1.2.1) s1.1)), rfl, Le.cv (s := ⟨[(0, 0)], [], [], false⟩) (own := [0]) (ps := [(wadd .i64 s1.1 (1 : Int)) = (wadd .i64 s1.1 (1 : Int)), (wadd .i64 s1.2.1 (1 : Int)) = (wadd .i64 s1.2.1 (1 : Int)), (List.set s1.2.2 (Int.toNat s1.2.1) s1.1) = (List.set s1.2.2 (Int.toNat s1.2.1) s1.1)]) (st' := ⟨[(0, .one (.all 0)), (1, .one (.dat (.int .i64) (wadd .i64 s1.1 (1 : Int)))), (5, .one (.dat (.int .i64) (wadd .i64 s1.2.1 (1 : Int))))], [(0, .seq (.int .i64) (List.set s1.2.2 (Int.toNat s1.2.1) s1.1))], 1⟩) hO (fun h => by cases h) (by kernel_rfl) ⟨rfl, rfl, rfl, trivial⟩⟩)
    · refine HT.cond0 rfl hb8 ?_
      have hx6 := of_some hx6
      subst hx6
      refine (Le.cv (s := ⟨[(0, 0)], [], [], false⟩) (own := [0]) (ps := [s1.1 = s1.1, s1.2.2 = s1.2.2]) (st' := ⟨[(1, .one (.dat (.int .i64) s1.1))], [(0, .seq (.int .i64) s1.2.2)], 1⟩) hO (fun h => by cases h) (by kernel_rfl) ⟨rfl, rfl, trivial⟩).ht ?_
      exact HT.exit (qThenE (qLoopE (hk7 (s1.1, s1.2.2) rfl)))

noncomputable def laws_markMachine (a0 : Int × Int × List (Int × Int × Int × Int) × List Int × List Int) (a1 : Int) : Option (Int × (Int × Int × List (Int × Int × Int × Int) × List Int × List Int)) :=
  (laws_markArcS a0.2.2.1 a1).bind fun y1 =>
  (laws_markInt64S a0.2.2.2.1 y1.1).bind fun y3 =>
  (laws_markInt64S a0.2.2.2.2 y3.1).bind fun y5 =>
  guardP (List.length y1.2 = List.length a0.2.2.1) (
    guardP (List.length y3.2 = List.length a0.2.2.2.1) (
      guardP (List.length y5.2 = List.length a0.2.2.2.2) (
        some (y5.1, a0.1, a0.2.1, y1.2, y3.2, y5.2))))

theorem f21_ok {a0 : Int × Int × List (Int × Int × Int × Int) × List Int × List Int} {a1 : Int} {r : Int × (Int × Int × List (Int × Int × Int × Int) × List Int × List Int)} (hr : laws_markMachine a0 a1 = some r) : CallOK Try.prog 21 [.own (.st (.pair (.int .i64) (.pair (.int .i64) (.pair (.sl (.st (.pair (.int .i64) (.pair (.int .i64) (.pair (.int .i64) (.int .i64)))))) (.pair (.sl (.int .i64)) (.sl (.int .i64))))))) a0, .imm (.int .i64) a1] [⟨false, (.int .i64), r.1⟩] [⟨(.st (.pair (.int .i64) (.pair (.int .i64) (.pair (.sl (.st (.pair (.int .i64) (.pair (.int .i64) (.pair (.int .i64) (.int .i64)))))) (.pair (.sl (.int .i64)) (.sl (.int .i64))))))), r.2⟩] := by
  unfold laws_markMachine at hr
  refine CallOK.of_body (ts := [(false, (.int .i64))]) Try.func21 rfl (by kernel_rfl) (Nat.le_of_ble_eq_true (by kernel_rfl)) fun cx hP hN hO hF => ?_
  have hO : cx.own.map Prod.fst = [0, 1, 2] := hO
  have hF := hF rfl
  show HT cx ⟨[(0, .agg [.dat (.int .i64) a0.1, .dat (.int .i64) a0.2.1, .all 0, .all 1, .all 2]), (1, .one (.dat (.int .i64) a1))], [(0, .seq (.st (.pair (.int .i64) (.pair (.int .i64) (.pair (.int .i64) (.int .i64))))) a0.2.2.1), (1, .seq (.int .i64) a0.2.2.2.1), (2, .seq (.int .i64) a0.2.2.2.2)], 3⟩ _ _
  refine HT.reg1 [1, 2] [⟨none, .no⟩, ⟨none, .no⟩] ⟨[(1, .one (.dat (.int .i64) a1)), (2, .one (.ptr 3 0))], [(3, .box [.dat (.int .i64) a0.1, .dat (.int .i64) a0.2.1, .all 0, .all 1, .all 2]), (0, .seq (.st (.pair (.int .i64) (.pair (.int .i64) (.pair (.int .i64) (.int .i64))))) a0.2.2.1), (1, .seq (.int .i64) a0.2.2.2.1), (2, .seq (.int .i64) a0.2.2.2.2)], 4⟩ hP hN (by kernel_rfl) allNil ?_
  obtain ⟨y1, hc2, hr⟩ := of_bind hr
  refine HT.reg1 [1, 2] [⟨none, .no⟩, ⟨none, .no⟩, ⟨none, .no⟩, ⟨none, .call [.own (.sl (.st (.pair (.int .i64) (.pair (.int .i64) (.pair (.int .i64) (.int .i64)))))), .imm (.int .i64)] [⟨false, (.int .i64), y1.1⟩] [⟨(.sl (.st (.pair (.int .i64) (.pair (.int .i64) (.pair (.int .i64) (.int .i64)))))), y1.2⟩]⟩, ⟨none, .no⟩] ⟨[(1, .one (.dat (.int .i64) y1.1)), (2, .one (.ptr 3 0))], [(0, .seq (.st (.pair (.int .i64) (.pair (.int .i64) (.pair (.int .i64) (.int .i64))))) y1.2), (3, .box [.dat (.int .i64) a0.1, .dat (.int .i64) a0.2.1, .all 0, .all 1, .all 2]), (0, .seq (.st (.pair (.int .i64) (.pair (.int .i64) (.pair (.int .i64) (.int .i64))))) a0.2.2.1), (1, .seq (.int .i64) a0.2.2.2.1), (2, .seq (.int .i64) a0.2.2.2.2)], 4⟩ hP hN (by kernel_rfl) (allCons (f53_ok hc2) allNil) ?_
  obtain ⟨y3, hc4, hr⟩ := of_bind hr
  refine HT.reg1 [1, 2] [⟨none, .no⟩, ⟨none, .no⟩, ⟨none, .no⟩, ⟨none, .call [.own (.sl (.int .i64)), .imm (.int .i64)] [⟨false, (.int .i64), y3.1⟩] [⟨(.sl (.int .i64)), y3.2⟩]⟩, ⟨none, .no⟩] ⟨[(1, .one (.dat (.int .i64) y3.1)), (2, .one (.ptr 3 0))], [(1, .seq (.int .i64) y3.2), (0, .seq (.st (.pair (.int .i64) (.pair (.int .i64) (.pair (.int .i64) (.int .i64))))) y1.2), (3, .box [.dat (.int .i64) a0.1, .dat (.int .i64) a0.2.1, .all 0, .all 1, .all 2]), (0, .seq (.st (.pair (.int .i64) (.pair (.int .i64) (.pair (.int .i64) (.int .i64))))) a0.2.2.1), (1, .seq (.int .i64) a0.2.2.2.1), (2, .seq (.int .i64) a0.2.2.2.2)], 4⟩ hP hN (by kernel_rfl) (allCons (f24_ok hc4) allNil) ?_
  obtain ⟨y5, hc6, hr⟩ := of_bind hr
  refine HT.reg1 [1] [⟨none, .no⟩, ⟨none, .no⟩, ⟨none, .no⟩, ⟨none, .call [.own (.sl (.int .i64)), .imm (.int .i64)] [⟨false, (.int .i64), y5.1⟩] [⟨(.sl (.int .i64)), y5.2⟩]⟩, ⟨none, .no⟩] ⟨[(1, .one (.dat (.int .i64) y5.1))], [(2, .seq (.int .i64) y5.2), (1, .seq (.int .i64) y3.2), (0, .seq (.st (.pair (.int .i64) (.pair (.int .i64) (.pair (.int .i64) (.int .i64))))) y1.2), (3, .box [.dat (.int .i64) a0.1, .dat (.int .i64) a0.2.1, .all 0, .all 1, .all 2]), (0, .seq (.st (.pair (.int .i64) (.pair (.int .i64) (.pair (.int .i64) (.int .i64))))) a0.2.2.1), (1, .seq (.int .i64) a0.2.2.2.1), (2, .seq (.int .i64) a0.2.2.2.2)], 4⟩ hP hN (by kernel_rfl) (allCons (f24_ok hc6) allNil) ?_
  refine HT.reg1 [4] [⟨none, .no⟩, ⟨none, .no⟩] ⟨[(4, .one (.dat (.int .i64) y5.1))], [(2, .seq (.int .i64) y5.2), (1, .seq (.int .i64) y3.2), (0, .seq (.st (.pair (.int .i64) (.pair (.int .i64) (.pair (.int .i64) (.int .i64))))) y1.2), (3, .box [.dat (.int .i64) a0.1, .dat (.int .i64) a0.2.1, .all 0, .all 1, .all 2]), (0, .seq (.st (.pair (.int .i64) (.pair (.int .i64) (.pair (.int .i64) (.int .i64))))) a0.2.2.1), (1, .seq (.int .i64) a0.2.2.2.1), (2, .seq (.int .i64) a0.2.2.2.2)], 4⟩ hP hN (by kernel_rfl) allNil ?_
  obtain ⟨hg7, hr⟩ := of_guard hr
  obtain ⟨hg8, hr⟩ := of_guard hr
  obtain ⟨hg9, hr⟩ := of_guard hr
  have hr := of_some hr
  subst hr
  exact HT.ret ⟨[.one (.dat (.int .i64) y5.1)], [], [List.length y1.2 = List.length a0.2.2.1, List.length y3.2 = List.length a0.2.2.2.1, List.length y5.2 = List.length a0.2.2.2.2], by kernel_rfl, by kernel_rfl, rfl, by kernel_rfl, by kernel_rfl, ⟨hg7, hg8, hg9, trivial⟩⟩

noncomputable def laws_markBoolS_B1  (s1 : Int × Int × List Bool) : Option ((Int × Int × List Bool) ⊕ ((Int × List Bool))) :=
  bif (decide (s1.2.1 < (lenI s1.2.2))) then
    guardP ((0 : Int) ≤ s1.2.1 ∧ s1.2.1 < lenI s1.2.2) (
      some (.inl ((wadd .i64 s1.1 (1 : Int)), (wadd .i64 s1.2.1 (1 : Int)), (List.set s1.2.2 (Int.toNat s1.2.1) ((Int.tmod s1.1 (3 : Int)) == (0 : Int))))))
  else
    some (.inr (s1.1, s1.2.2))

noncomputable def laws_markBoolS (a0 : List Bool) (a1 : Int) : Option (Int × List Bool) :=
  (rounds (laws_markBoolS_B1) (a1, (0 : Int), a0)).bind fun r3 =>
  guardP (List.length r3.2 = List.length a0) (
    some (r3.1, r3.2))

theorem f54_ok {a0 : List Bool} {a1 : Int} {r : Int × List Bool} (hr : laws_markBoolS a0 a1 = some r) : CallOK Try.prog 54 [.own (.sl .bool) a0, .imm (.int .i64) a1] [⟨false, (.int .i64), r.1⟩] [⟨(.sl .bool), r.2⟩] := by
  unfold laws_markBoolS at hr
  refine CallOK.of_body (ts := [(false, (.int .i64))]) Try.func54 rfl (by kernel_rfl) (Nat.le_of_ble_eq_true (by kernel_rfl)) fun cx hP hN hO hF => ?_
  have hO : cx.own.map Prod.fst = [0] := hO
  have hF := hF rfl
  show HT cx ⟨[(0, .one (.all 0)), (1, .one (.dat (.int .i64) a1))], [(0, .seq .bool a0)], 1⟩ _ _
  refine HT.reg1 [0, 1] [⟨none, .no⟩] ⟨[(0, .one (.all 0)), (1, .one (.dat (.int .i64) a1))], [(0, .seq .bool a0)], 1⟩ hP hN (by kernel_rfl) allNil ?_
  refine HT.seq ?_
  refine HT.reg1 [0, 1, 5] [⟨none, .no⟩] ⟨[(0, .one (.all 0)), (1, .one (.dat (.int .i64) a1)), (5, .one (.dat (.int .i64) (0 : Int)))], [(0, .seq .bool a0)], 1⟩ hP hN (by kernel_rfl) allNil ?_
  refine HT.block ?_
  obtain ⟨r2, hL10, hr⟩ := of_bind hr
  refine (Le.cv (s := ⟨[(0, 0)], [], [], false⟩) (own := [0]) (ps := [a1 = a1, (0 : Int) = (0 : Int), a0 = a0]) (st' := ⟨[(0, .one (.all 0)), (1, .one (.dat (.int .i64) a1)), (5, .one (.dat (.int .i64) (0 : Int)))], [(0, .seq .bool a0)], 1⟩) hO (fun h => by cases h) (by kernel_rfl) ⟨rfl, rfl, rfl, trivial⟩).ht ?_
  refine HT.loopE (s := (a1, (0 : Int), a0)) (fun (s1 : Int × Int × List Bool) => ⟨[(0, .one (.all 0)), (1, .one (.dat (.int .i64) s1.1)), (5, .one (.dat (.int .i64) s1.2.1))], [(0, .seq .bool s1.2.2)], 1⟩) (fun (r3 : (Int × List Bool)) => (.exit 0, ⟨[(1, .one (.dat (.int .i64) r3.1))], [(0, .seq .bool r3.2)], 1⟩)) hL10 ?_ (fun s1 x5 hx6 hk7 => ?_)
  · refine (qBlockX (qThen ?_))
    refine HT.reg1 [4] [⟨none, .no⟩, ⟨none, .no⟩] ⟨[(4, .one (.dat (.int .i64) r2.1))], [(0, .seq .bool r2.2)], 1⟩ hP hN (by kernel_rfl) allNil ?_
    obtain ⟨hg4, hr⟩ := of_guard hr
    have hr := of_some hr
    subst hr
    exact HT.ret ⟨[.one (.dat (.int .i64) r2.1)], [], [List.length r2.2 = List.length a0], by kernel_rfl, by kernel_rfl, rfl, by kernel_rfl, by kernel_rfl, ⟨hg4, trivial⟩⟩
  · refine HT.seq ?_
    refine HT.reg1 [0, 1, 5, 9] [⟨none, .no⟩, ⟨none, .no⟩, ⟨none, .no⟩, ⟨none, .no⟩] ⟨[(0, .one (.all 0)), (1, .one (.dat (.int .i64) s1.1)), (5, .one (.dat (.int .i64) s1.2.1)), (9, .one (.dat .bool (decide (s1.2.1 < (lenI s1.2.2)))))], [(0, .seq .bool s1.2.2)], 1⟩ hP hN (by kernel_rfl) allNil ?_
    rcases of_bif hx6 with ⟨hb8, hx6⟩ | ⟨hb8, hx6⟩
    · refine HT.cond1 rfl hb8 ?_
      refine HT.skip (qThen ?_)
      refine HT.seq ?_
      refine HT.block ?_
      obtain ⟨hg9, hx6⟩ := of_guard hx6
      refine HT.reg1 [0, 1, 5] [⟨none, .no⟩, ⟨none, .no⟩, ⟨none, .no⟩, ⟨none, .no⟩, ⟨none, .no⟩, ⟨none, .no⟩, ⟨none, .no⟩] ⟨[(0, .one (.all 0)), (1, .one (.dat (.int .i64) s1.1)), (5, .one (.dat (.int .i64) s1.2.1))], [(0, .seq .bool (List.set s1.2.2 (Int.toNat s1.2.1) ((Int.tmod s1.1 (3 : Int)) == (0 : Int)))), (0, .seq .bool s1.2.2)], 1⟩ hP hN (by kernel_rfl) (allCons (show (3 : Int) ≠ 0 from by decide) (allCons hg9 (allCons (natLt hg9) allNil))) ?_
      refine HT.reg (rs := [⟨none, .no⟩, ⟨none, .no⟩, ⟨none, .no⟩]) (st' := ⟨[(1, .one (.dat (.int .i64) (wadd .i64 s1.1 (1 : Int)))), (19, .one (.dat (.int .i64) (wadd .i64 s1.1 (1 : Int)))), (18, .one (.dat (.int .i64) s1.1)), (0, .one (.all 0)), (1, .one (.dat (.int .i64) s1.1)), (5, .one (.dat (.int .i64) s1.2.1))], [(0, .seq .bool (List.set s1.2.2 (Int.toNat s1.2.1) ((Int.tmod s1.1 (3 : Int)) == (0 : Int)))), (0, .seq .bool s1.2.2)], 1⟩) hP hN (by kernel_rfl) allNil (qBlock (qThen ?_))
      have hx6 := of_some hx6
      subst hx6
      refine HT.reg (rs := [⟨none, .no⟩, ⟨none, .no⟩, ⟨none, .no⟩]) (st' := ⟨[(5, .one (.dat (.int .i64) (wadd .i64 s1.2.1 (1 : Int)))), (11, .one (.dat (.int .i64) (wadd .i64 s1.2.1 (1 : Int)))), (10, .one (.dat (.int .i64) s1.2.1)), (1, .one (.dat (.int .i64) (wadd .i64 s1.1 (1 : Int)))), (19, .one (.dat (.int .i64) (wadd .i64 s1.1 (1 : Int)))), (18, .one (.dat (.int .i64) s1.1)), (0, .one (.all 0)), (1, .one (.dat (.int .i64) s1.1)), (5, .one (.dat (.int .i64) s1.2.1))], [(0, .seq .bool (List.set s1.2.2 (Int.toNat s1.2.1) ((Int.tmod s1.1 (3 : Int)) == (0 : Int)))), (0, .seq .bool s1.2.2)], 1⟩) hP hN (by kernel_rfl) allNil (qLoopN ⟨((wadd .i64 s1.1 (1 : Int)), (wadd .i64 s1.2.1 (1 : Int)), (List.set s1.2.2 (Int.toNat s1.2.1) ((Int.tmod s1.1 (3 : Int)) == (0 : Int)))), rfl, Le.cv (s := ⟨[(0, 0)], [], [], false⟩) (own := [0]) (ps := [(wadd .i64 s1.1 (1 : Int)) = (wadd .i64 s1.1 (1 : Int)), (wadd .i64 s1.2.1 (1 : Int)) = (wadd .i64 s1.2.1 (1 : Int)), (List.set s1.2.2 (Int.toNat s1.2.1) ((Int.tmod s1.1 (3 : Int)) == (0 : Int))) = (List.set s1.2.2 (Int.toNat s1.2.1) ((Int.tmod s1.1 (3 : Int)) == (0 : Int)))]) (st' := ⟨[(0, .one (.all 0)), (1, .one (.dat (.int .i64) (wadd .i64 s1.1 (1 : Int)))), (5, .one (.dat (.int .i64) (wadd .i64 s1.2.1 (1 : Int))))], [(0, .seq .bool (List.set s1.2.2 (Int.toNat s1.2.1) ((Int.tmod s1.1 (3 : Int)) == (0 : Int))))], 1⟩) hO (fun h => by cases h) (by kernel_rfl) ⟨rfl, rfl, rfl, trivial⟩⟩)
    · refine HT.cond0 rfl hb8 ?_
      have hx6 := of_some hx6
      subst hx6
      refine (Le.cv (s := ⟨[(0, 0)], [], [], false⟩) (own := [0]) (ps := [s1.1 = s1.1, s1.2.2 = s1.2.2]) (st' := ⟨[(1, .one (.dat (.int .i64) s1.1))], [(0, .seq .bool s1.2.2)], 1⟩) hO (fun h => by cases h) (by kernel_rfl) ⟨rfl, rfl, trivial⟩).ht ?_
      exact HT.exit (qThenE (qLoopE (hk7 (s1.1, s1.2.2) rfl)))

noncomputable def laws_markPlain (a0 : Int × Int × List Int × List Bool) (a1 : Int) : Option (Int × (Int × Int × List Int × List Bool)) :=
  (laws_markInt64S a0.2.2.1 a1).bind fun y1 =>
  (laws_markBoolS a0.2.2.2 y1.1).bind fun y3 =>
  guardP (List.length y1.2 = List.length a0.2.2.1) (
    guardP (List.length y3.2 = List.length a0.2.2.2) (
      some (y3.1, a0.1, a0.2.1, y1.2, y3.2)))

theorem f22_ok {a0 : Int × Int × List Int × List Bool} {a1 : Int} {r : Int × (Int × Int × List Int × List Bool)} (hr : laws_markPlain a0 a1 = some r) : CallOK Try.prog 22 [.own (.st (.pair (.int .i64) (.pair (.int .i64) (.pair (.sl (.int .i64)) (.sl .bool))))) a0, .imm (.int .i64) a1] [⟨false, (.int .i64), r.1⟩] [⟨(.st (.pair (.int .i64) (.pair (.int .i64) (.pair (.sl (.int .i64)) (.sl .bool))))), r.2⟩] := by
  unfold laws_markPlain at hr
  refine CallOK.of_body (ts := [(false, (.int .i64))]) Try.func22 rfl (by kernel_rfl) (Nat.le_of_ble_eq_true (by kernel_rfl)) fun cx hP hN hO hF => ?_
  have hO : cx.own.map Prod.fst = [0, 1] := hO
  have hF := hF rfl
  show HT cx ⟨[(0, .agg [.dat (.int .i64) a0.1, .dat (.int .i64) a0.2.1, .all 0, .all 1]), (1, .one (.dat (.int .i64) a1))], [(0, .seq (.int .i64) a0.2.2.1), (1, .seq .bool a0.2.2.2)], 2⟩ _ _
  refine HT.reg1 [1, 2] [⟨none, .no⟩, ⟨none, .no⟩] ⟨[(1, .one (.dat (.int .i64) a1)), (2, .one (.ptr 2 0))], [(2, .box [.dat (.int .i64) a0.1, .dat (.int .i64) a0.2.1, .all 0, .all 1]), (0, .seq (.int .i64) a0.2.2.1), (1, .seq .bool a0.2.2.2)], 3⟩ hP hN (by kernel_rfl) allNil ?_
  obtain ⟨y1, hc2, hr⟩ := of_bind hr
  refine HT.reg1 [1, 2] [⟨none, .no⟩, ⟨none, .no⟩, ⟨none, .no⟩, ⟨none, .call [.own (.sl (.int .i64)), .imm (.int .i64)] [⟨false, (.int .i64), y1.1⟩] [⟨(.sl (.int .i64)), y1.2⟩]⟩, ⟨none, .no⟩] ⟨[(1, .one (.dat (.int .i64) y1.1)), (2, .one (.ptr 2 0))], [(0, .seq (.int .i64) y1.2), (2, .box [.dat (.int .i64) a0.1, .dat (.int .i64) a0.2.1, .all 0, .all 1]), (0, .seq (.int .i64) a0.2.2.1), (1, .seq .bool a0.2.2.2)], 3⟩ hP hN (by kernel_rfl) (allCons (f24_ok hc2) allNil) ?_
  obtain ⟨y3, hc4, hr⟩ := of_bind hr
  refine HT.reg1 [1] [⟨none, .no⟩, ⟨none, .no⟩, ⟨none, .no⟩, ⟨none, .call [.own (.sl .bool), .imm (.int .i64)] [⟨false, (.int .i64), y3.1⟩] [⟨(.sl .bool), y3.2⟩]⟩, ⟨none, .no⟩] ⟨[(1, .one (.dat (.int .i64) y3.1))], [(1, .seq .bool y3.2), (0, .seq (.int .i64) y1.2), (2, .box [.dat (.int .i64) a0.1, .dat (.int .i64) a0.2.1, .all 0, .all 1]), (0, .seq (.int .i64) a0.2.2.1), (1, .seq .bool a0.2.2.2)], 3⟩ hP hN (by kernel_rfl) (allCons (f54_ok hc4) allNil) ?_
  refine HT.reg1 [4] [⟨none, .no⟩, ⟨none, .no⟩] ⟨[(4, .one (.dat (.int .i64) y3.1))], [(1, .seq .bool y3.2), (0, .seq (.int .i64) y1.2), (2, .box [.dat (.int .i64) a0.1, .dat (.int .i64) a0.2.1, .all 0, .all 1]), (0, .seq (.int .i64) a0.2.2.1), (1, .seq .bool a0.2.2.2)], 3⟩ hP hN (by kernel_rfl) allNil ?_
  obtain ⟨hg5, hr⟩ := of_guard hr
  obtain ⟨hg6, hr⟩ := of_guard hr
  have hr := of_some hr
  subst hr
  exact HT.ret ⟨[.one (.dat (.int .i64) y3.1)], [], [List.length y1.2 = List.length a0.2.2.1, List.length y3.2 = List.length a0.2.2.2], by kernel_rfl, by kernel_rfl, rfl, by kernel_rfl, by kernel_rfl, ⟨hg5, hg6, trivial⟩⟩

noncomputable def laws_markRuleS_B1  (s1 : Int × Int × (List (Int × Int × Int × Int))) : Option ((Int × Int × (List (Int × Int × Int × Int))) ⊕ ((Int × (List (Int × Int × Int × Int))))) :=
  bif (decide (s1.2.1 < (lenI s1.2.2))) then
    guardP ((0 : Int) ≤ s1.2.1 ∧ s1.2.1 < lenI s1.2.2) (
      (some (List.set s1.2.2 (Int.toNat s1.2.1) (s1.1, ((List.getD s1.2.2 (Int.toNat s1.2.1) ((0 : Int), (0 : Int), (0 : Int), (0 : Int))).2).1, (((List.getD s1.2.2 (Int.toNat s1.2.1) ((0 : Int), (0 : Int), (0 : Int), (0 : Int))).2).2).1, (((List.getD s1.2.2 (Int.toNat s1.2.1) ((0 : Int), (0 : Int), (0 : Int), (0 : Int))).2).2).2))).bind fun q10 =>
      guardP ((0 : Int) ≤ s1.2.1 ∧ s1.2.1 < lenI q10) (
        (some (List.set q10 (Int.toNat s1.2.1) ((List.getD q10 (Int.toNat s1.2.1) ((0 : Int), (0 : Int), (0 : Int), (0 : Int))).1, (wadd .i64 s1.1 (1 : Int)), (((List.getD q10 (Int.toNat s1.2.1) ((0 : Int), (0 : Int), (0 : Int), (0 : Int))).2).2).1, (((List.getD q10 (Int.toNat s1.2.1) ((0 : Int), (0 : Int), (0 : Int), (0 : Int))).2).2).2))).bind fun q13 =>
        guardP ((0 : Int) ≤ s1.2.1 ∧ s1.2.1 < lenI q13) (
          (some (List.set q13 (Int.toNat s1.2.1) ((List.getD q13 (Int.toNat s1.2.1) ((0 : Int), (0 : Int), (0 : Int), (0 : Int))).1, ((List.getD q13 (Int.toNat s1.2.1) ((0 : Int), (0 : Int), (0 : Int), (0 : Int))).2).1, (wadd .i64 (wadd .i64 s1.1 (1 : Int)) (1 : Int)), (((List.getD q13 (Int.toNat s1.2.1) ((0 : Int), (0 : Int), (0 : Int), (0 : Int))).2).2).2))).bind fun q16 =>
          guardP ((0 : Int) ≤ s1.2.1 ∧ s1.2.1 < lenI q16) (
            (some (List.set q16 (Int.toNat s1.2.1) ((List.getD q16 (Int.toNat s1.2.1) ((0 : Int), (0 : Int), (0 : Int), (0 : Int))).1, ((List.getD q16 (Int.toNat s1.2.1) ((0 : Int), (0 : Int), (0 : Int), (0 : Int))).2).1, (((List.getD q16 (Int.toNat s1.2.1) ((0 : Int), (0 : Int), (0 : Int), (0 : Int))).2).2).1, (wadd .i64 (wadd .i64 (wadd .i64 s1.1 (1 : Int)) (1 : Int)) (1 : Int))))).bind fun q19 =>
            some (.inl ((wadd .i64 (wadd .i64 (wadd .i64 (wadd .i64 s1.1 (1 : Int)) (1 : Int)) (1 : Int)) (1 : Int)), (wadd .i64 s1.2.1 (1 : Int)), q19))))))
  else
    some (.inr (s1.1, s1.2.2))

noncomputable def laws_markRuleS (a0 : List (Int × Int × Int × Int)) (a1 : Int) : Option (Int × (List (Int × Int × Int × Int))) :=
  (rounds (laws_markRuleS_B1) (a1, (0 : Int), a0)).bind fun r3 =>
  guardP (List.length r3.2 = List.length a0) (
    some (r3.1, r3.2))

theorem f55_ok {a0 : List (Int × Int × Int × Int)} {a1 : Int} {r : Int × (List (Int × Int × Int × Int))} (hr : laws_markRuleS a0 a1 = some r) : CallOK Try.prog 55 [.own (.sl (.st (.pair (.int .i64) (.pair (.int .i64) (.pair (.int .i64) (.int .i64)))))) a0, .imm (.int .i64) a1] [⟨false, (.int .i64), r.1⟩] [⟨(.sl (.st (.pair (.int .i64) (.pair (.int .i64) (.pair (.int .i64) (.int .i64)))))), r.2⟩] := by
  unfold laws_markRuleS at hr
  refine CallOK.of_body (ts := [(false, (.int .i64))]) Try.func55 rfl (by kernel_rfl) (Nat.le_of_ble_eq_true (by kernel_rfl)) fun cx hP hN hO hF => ?_
  have hO : cx.own.map Prod.fst = [0] := hO
  have hF := hF rfl
  show HT cx ⟨[(0, .one (.all 0)), (1, .one (.dat (.int .i64) a1))], [(0, .seq (.st (.pair (.int .i64) (.pair (.int .i64) (.pair (.int .i64) (.int .i64))))) a0)], 1⟩ _ _
  refine HT.reg1 [0, 1] [⟨none, .no⟩] ⟨[(0, .one (.all 0)), (1, .one (.dat (.int .i64) a1))], [(0, .seq (.st (.pair (.int .i64) (.pair (.int .i64) (.pair (.int .i64) (.int .i64))))) a0)], 1⟩ hP hN (by kernel_rfl) allNil ?_
  refine HT.seq ?_
  refine HT.reg1 [0, 1, 5] [⟨none, .no⟩] ⟨[(0, .one (.all 0)), (1, .one (.dat (.int .i64) a1)), (5, .one (.dat (.int .i64) (0 : Int)))], [(0, .seq (.st (.pair (.int .i64) (.pair (.int .i64) (.pair (.int .i64) (.int .i64))))) a0)], 1⟩ hP hN (by kernel_rfl) allNil ?_
  refine HT.block ?_
  obtain ⟨r2, hL21, hr⟩ := of_bind hr
  refine (Le.cv (s := ⟨[(0, 0)], [], [], false⟩) (own := [0]) (ps := [a1 = a1, (0 : Int) = (0 : Int), a0 = a0]) (st' := ⟨[(0, .one (.all 0)), (1, .one (.dat (.int .i64) a1)), (5, .one (.dat (.int .i64) (0 : Int)))], [(0, .seq (.st (.pair (.int .i64) (.pair (.int .i64) (.pair (.int .i64) (.int .i64))))) a0)], 1⟩) hO (fun h => by cases h) (by kernel_rfl) ⟨rfl, rfl, rfl, trivial⟩).ht ?_
  refine HT.loopE (s := (a1, (0 : Int), a0)) (fun (s1 : Int × Int × (List (Int × Int × Int × Int))) => ⟨[(0, .one (.all 0)), (1, .one (.dat (.int .i64) s1.1)), (5, .one (.dat (.int .i64) s1.2.1))], [(0, .seq (.st (.pair (.int .i64) (.pair (.int .i64) (.pair (.int .i64) (.int .i64))))) s1.2.2)], 1⟩) (fun (r3 : (Int × (List (Int × Int × Int × Int)))) => (.exit 0, ⟨[(1, .one (.dat (.int .i64) r3.1))], [(0, .seq (.st (.pair (.int .i64) (.pair (.int .i64) (.pair (.int .i64) (.int .i64))))) r3.2)], 1⟩)) hL21 ?_ (fun s1 x5 hx6 hk7 => ?_)
  · refine (qBlockX (qThen ?_))
    refine HT.reg1 [4] [⟨none, .no⟩, ⟨none, .no⟩] ⟨[(4, .one (.dat (.int .i64) r2.1))], [(0, .seq (.st (.pair (.int .i64) (.pair (.int .i64) (.pair (.int .i64) (.int .i64))))) r2.2)], 1⟩ hP hN (by kernel_rfl) allNil ?_
    obtain ⟨hg4, hr⟩ := of_guard hr
    have hr := of_some hr
    subst hr
    exact HT.ret ⟨[.one (.dat (.int .i64) r2.1)], [], [List.length r2.2 = List.length a0], by kernel_rfl, by kernel_rfl, rfl, by kernel_rfl, by kernel_rfl, ⟨hg4, trivial⟩⟩
  · refine HT.seq ?_
    refine HT.reg1 [0, 1, 5, 9] [⟨none, .no⟩, ⟨none, .no⟩, ⟨none, .no⟩, ⟨none, .no⟩] ⟨[(0, .one (.all 0)), (1, .one (.dat (.int .i64) s1.1)), (5, .one (.dat (.int .i64) s1.2.1)), (9, .one (.dat .bool (decide (s1.2.1 < (lenI s1.2.2)))))], [(0, .seq (.st (.pair (.int .i64) (.pair (.int .i64) (.pair (.int .i64) (.int .i64))))) s1.2.2)], 1⟩ hP hN (by kernel_rfl) allNil ?_
    rcases of_bif hx6 with ⟨hb8, hx6⟩ | ⟨hb8, hx6⟩
    · refine HT.cond1 rfl hb8 ?_
      refine HT.skip (qThen ?_)
      refine HT.seq ?_
      refine HT.block ?_
      obtain ⟨hg9, hx6⟩ := of_guard hx6
      refine HT.reg1 [0, 1, 5] [⟨none, .no⟩, ⟨none, .no⟩, ⟨none, .no⟩, ⟨none, .no⟩, ⟨none, .no⟩, ⟨none, .no⟩] ⟨[(0, .one (.all 0)), (1, .one (.dat (.int .i64) s1.1)), (5, .one (.dat (.int .i64) s1.2.1))], [(0, .seq (.st (.pair (.int .i64) (.pair (.int .i64) (.pair (.int .i64) (.int .i64))))) (List.set s1.2.2 (Int.toNat s1.2.1) (s1.1, ((List.getD s1.2.2 (Int.toNat s1.2.1) ((0 : Int), (0 : Int), (0 : Int), (0 : Int))).2).1, (((List.getD s1.2.2 (Int.toNat s1.2.1) ((0 : Int), (0 : Int), (0 : Int), (0 : Int))).2).2).1, (((List.getD s1.2.2 (Int.toNat s1.2.1) ((0 : Int), (0 : Int), (0 : Int), (0 : Int))).2).2).2))), (0, .seq (.st (.pair (.int .i64) (.pair (.int .i64) (.pair (.int .i64) (.int .i64))))) s1.2.2)], 1⟩ hP hN (by kernel_rfl) (allCons hg9 (allCons (natLt hg9) allNil)) ?_
      obtain ⟨q10, hq11, hx6⟩ := of_bind hx6
      have hq11 := of_some2 hq11
      refine (Le.cv (s := ⟨[(0, 0)], [], [], false⟩) (own := [0]) (ps := [s1.1 = s1.1, s1.2.1 = s1.2.1, q10 = (List.set s1.2.2 (Int.toNat s1.2.1) (s1.1, ((List.getD s1.2.2 (Int.toNat s1.2.1) ((0 : Int), (0 : Int), (0 : Int), (0 : Int))).2).1, (((List.getD s1.2.2 (Int.toNat s1.2.1) ((0 : Int), (0 : Int), (0 : Int), (0 : Int))).2).2).1, (((List.getD s1.2.2 (Int.toNat s1.2.1) ((0 : Int), (0 : Int), (0 : Int), (0 : Int))).2).2).2))]) (st' := ⟨[(0, .one (.all 0)), (1, .one (.dat (.int .i64) s1.1)), (5, .one (.dat (.int .i64) s1.2.1))], [(0, .seq (.st (.pair (.int .i64) (.pair (.int .i64) (.pair (.int .i64) (.int .i64))))) q10)], 1⟩) hO (fun h => by cases h) (by kernel_rfl) ⟨rfl, rfl, hq11, trivial⟩).ht ?_
      refine HT.reg1 [0, 1, 5] [⟨none, .no⟩, ⟨none, .no⟩, ⟨none, .no⟩] ⟨[(0, .one (.all 0)), (1, .one (.dat (.int .i64) (wadd .i64 s1.1 (1 : Int)))), (5, .one (.dat (.int .i64) s1.2.1))], [(0, .seq (.st (.pair (.int .i64) (.pair (.int .i64) (.pair (.int .i64) (.int .i64))))) q10)], 1⟩ hP hN (by kernel_rfl) allNil ?_
      obtain ⟨hg12, hx6⟩ := of_guard hx6
      refine HT.reg1 [0, 1, 5] [⟨none, .no⟩, ⟨none, .no⟩, ⟨none, .no⟩, ⟨none, .no⟩, ⟨none, .no⟩, ⟨none, .no⟩] ⟨[(0, .one (.all 0)), (1, .one (.dat (.int .i64) (wadd .i64 s1.1 (1 : Int)))), (5, .one (.dat (.int .i64) s1.2.1))], [(0, .seq (.st (.pair (.int .i64) (.pair (.int .i64) (.pair (.int .i64) (.int .i64))))) (List.set q10 (Int.toNat s1.2.1) ((List.getD q10 (Int.toNat s1.2.1) ((0 : Int), (0 : Int), (0 : Int), (0 : Int))).1, (wadd .i64 s1.1 (1 : Int)), (((List.getD q10 (Int.toNat s1.2.1) ((0 : Int), (0 : Int), (0 : Int), (0 : Int))).2).2).1, (((List.getD q10 (Int.toNat s1.2.1) ((0 : Int), (0 : Int), (0 : Int), (0 : Int))).2).2).2))), (0, .seq (.st (.pair (.int .i64) (.pair (.int .i64) (.pair (.int .i64) (.int .i64))))) q10)], 1⟩ hP hN (by kernel_rfl) (allCons hg12 (allCons (natLt hg12) allNil)) ?_
      obtain ⟨q13, hq14, hx6⟩ := of_bind hx6
      have hq14 := of_some2 hq14
      refine (Le.cv (s := ⟨[(0, 0)], [], [], false⟩) (own := [0]) (ps := [(wadd .i64 s1.1 (1 : Int)) = (wadd .i64 s1.1 (1 : Int)), s1.2.1 = s1.2.1, q13 = (List.set q10 (Int.toNat s1.2.1) ((List.getD q10 (Int.toNat s1.2.1) ((0 : Int), (0 : Int), (0 : Int), (0 : Int))).1, (wadd .i64 s1.1 (1 : Int)), (((List.getD q10 (Int.toNat s1.2.1) ((0 : Int), (0 : Int), (0 : Int), (0 : Int))).2).2).1, (((List.getD q10 (Int.toNat s1.2.1) ((0 : Int), (0 : Int), (0 : Int), (0 : Int))).2).2).2))]) (st' := ⟨[(0, .one (.all 0)), (1, .one (.dat (.int .i64) (wadd .i64 s1.1 (1 : Int)))), (5, .one (.dat (.int .i64) s1.2.1))], [(0, .seq (.st (.pair (.int .i64) (.pair (.int .i64) (.pair (.int .i64) (.int .i64))))) q13)], 1⟩) hO (fun h => by cases h) (by kernel_rfl) ⟨rfl, rfl, hq14, trivial⟩).ht ?_
      refine HT.reg1 [0, 1, 5] [⟨none, .no⟩, ⟨none, .no⟩, ⟨none, .no⟩] ⟨[(0, .one (.all 0)), (1, .one (.dat (.int .i64) (wadd .i64 (wadd .i64 s1.1 (1 : Int)) (1 : Int)))), (5, .one (.dat (.int .i64) s1.2.1))], [(0, .seq (.st (.pair (.int .i64) (.pair (.int .i64) (.pair (.int .i64) (.int .i64))))) q13)], 1⟩ hP hN (by kernel_rfl) allNil ?_
      obtain ⟨hg15, hx6⟩ := of_guard hx6
      refine HT.reg1 [0, 1, 5] [⟨none, .no⟩, ⟨none, .no⟩, ⟨none, .no⟩, ⟨none, .no⟩, ⟨none, .no⟩, ⟨none, .no⟩] ⟨[(0, .one (.all 0)), (1, .one (.dat (.int .i64) (wadd .i64 (wadd .i64 s1.1 (1 : Int)) (1 : Int)))), (5, .one (.dat (.int .i64) s1.2.1))], [(0, .seq (.st (.pair (.int .i64) (.pair (.int .i64) (.pair (.int .i64) (.int .i64))))) (List.set q13 (Int.toNat s1.2.1) ((List.getD q13 (Int.toNat s1.2.1) ((0 : Int), (0 : Int), (0 : Int), (0 : Int))).1, ((List.getD q13 (Int.toNat s1.2.1) ((0 : Int), (0 : Int), (0 : Int), (0 : Int))).2).1, (wadd .i64 (wadd .i64 s1.1 (1 : Int)) (1 : Int)), (((List.getD q13 (Int.toNat s1.2.1) ((0 : Int), (0 : Int), (0 : Int), (0 : Int))).2).2).2))), (0, .seq (.st (.pair (.int .i64) (.pair (.int .i64) (.pair (.int .i64) (.int .i64))))) q13)], 1⟩ hP hN (by kernel_rfl) (allCons hg15 (allCons (natLt hg15) allNil)) ?_
      obtain ⟨q16, hq17, hx6⟩ := of_bind hx6
      have hq17 := of_some2 hq17
      refine (Le.cv (s := ⟨[(0, 0)], [], [], false⟩) (own := [0]) (ps := [(wadd .i64 (wadd .i64 s1.1 (1 : Int)) (1 : Int)) = (wadd .i64 (wadd .i64 s1.1 (1 : Int)) (1 : Int)), s1.2.1 = s1.2.1, q16 = (List.set q13 (Int.toNat s1.2.1) ((List.getD q13 (Int.toNat s1.2.1) ((0 : Int), (0 : Int), (0 : Int), (0 : Int))).1, ((List.getD q13 (Int.toNat s1.2.1) ((0 : Int), (0 : Int), (0 : Int), (0 : Int))).2).1, (wadd .i64 (wadd .i64 s1.1 (1 : Int)) (1 : Int)), (((List.getD q13 (Int.toNat s1.2.1) ((0 : Int), (0 : Int), (0 : Int), (0 : Int))).2).2).2))]) (st' := ⟨[(0, .one (.all 0)), (1, .one (.dat (.int .i64) (wadd .i64 (wadd .i64 s1.1 (1 : Int)) (1 : Int)))), (5, .one (.dat (.int .i64) s1.2.1))], [(0, .seq (.st (.pair (.int .i64) (.pair (.int .i64) (.pair (.int .i64) (.int .i64))))) q16)], 1⟩) hO (fun h => by cases h) (by kernel_rfl) ⟨rfl, rfl, hq17, trivial⟩).ht ?_
      refine HT.reg1 [0, 1, 5] [⟨none, .no⟩, ⟨none, .no⟩, ⟨none, .no⟩] ⟨[(0, .one (.all 0)), (1, .one (.dat (.int .i64) (wadd .i64 (wadd .i64 (wadd .i64 s1.1 (1 : Int)) (1 : Int)) (1 : Int)))), (5, .one (.dat (.int .i64) s1.2.1))], [(0, .seq (.st (.pair (.int .i64) (.pair (.int .i64) (.pair (.int .i64) (.int .i64))))) q16)], 1⟩ hP hN (by kernel_rfl) allNil ?_
      obtain ⟨hg18, hx6⟩ := of_guard hx6
      refine HT.reg1 [0, 1, 5] [⟨none, .no⟩, ⟨none, .no⟩, ⟨none, .no⟩, ⟨none, .no⟩, ⟨none, .no⟩, ⟨none, .no⟩] ⟨[(0, .one (.all 0)), (1, .one (.dat (.int .i64) (wadd .i64 (wadd .i64 (wadd .i64 s1.1 (1 : Int)) (1 : Int)) (1 : Int)))), (5, .one (.dat (.int .i64) s1.2.1))], [(0, .seq (.st (.pair (.int .i64) (.pair (.int .i64) (.pair (.int .i64) (.int .i64))))) (List.set q16 (Int.toNat s1.2.1) ((List.getD q16 (Int.toNat s1.2.1) ((0 : Int), (0 : Int), (0 : Int), (0 : Int))).1, ((List.getD q16 (Int.toNat s1.2.1) ((0 : Int), (0 : Int), (0 : Int), (0 : Int))).2).1, (((List.getD q16 (Int.toNat s1.2.1) ((0 : Int), (0 : Int), (0 : Int), (0 : Int))).2).2).1, (wadd .i64 (wadd .i64 (wadd .i64 s1.1 (1 : Int)) (1 : Int)) (1 : Int))))), (0, .seq (.st (.pair (.int .i64) (.pair (.int .i64) (.pair (.int .i64) (.int .i64))))) q16)], 1⟩ hP hN (by kernel_rfl) (allCons hg18 (allCons (natLt hg18) allNil)) ?_
      obtain ⟨q19, hq20, hx6⟩ := of_bind hx6
      have hq20 := of_some2 hq20
      refine (Le.cv (s := ⟨[(0, 0)], [], [], false⟩) (own := [0]) (ps := [(wadd .i64 (wadd .i64 (wadd .i64 s1.1 (1 : Int)) (1 : Int)) (1 : Int)) = (wadd .i64 (wadd .i64 (wadd .i64 s1.1 (1 : Int)) (1 : Int)) (1 : Int)), s1.2.1 = s1.2.1, q19 = (List.set q16 (Int.toNat s1.2.1) ((List.getD q16 (Int.toNat s1.2.1) ((0 : Int), (0 : Int), (0 : Int), (0 : Int))).1, ((List.getD q16 (Int.toNat s1.2.1) ((0 : Int), (0 : Int), (0 : Int), (0 : Int))).2).1, (((List.getD q16 (Int.toNat s1.2.1) ((0 : Int), (0 : Int), (0 : Int), (0 : Int))).2).2).1, (wadd .i64 (wadd .i64 (wadd .i64 s1.1 (1 : Int)) (1 : Int)) (1 : Int))))]) (st' := ⟨[(0, .one (.all 0)), (1, .one (.dat (.int .i64) (wadd .i64 (wadd .i64 (wadd .i64 s1.1 (1 : Int)) (1 : Int)) (1 : Int)))), (5, .one (.dat (.int .i64) s1.2.1))], [(0, .seq (.st (.pair (.int .i64) (.pair (.int .i64) (.pair (.int .i64) (.int .i64))))) q19)], 1⟩) hO (fun h => by cases h) (by kernel_rfl) ⟨rfl, rfl, hq20, trivial⟩).ht ?_
      refine HT.reg (rs := [⟨none, .no⟩, ⟨none, .no⟩, ⟨none, .no⟩]) (st' := ⟨[(1, .one (.dat (.int .i64) (wadd .i64 (wadd .i64 (wadd .i64 (wadd .i64 s1.1 (1 : Int)) (1 : Int)) (1 : Int)) (1 : Int)))), (39, .one (.dat (.int .i64) (wadd .i64 (wadd .i64 (wadd .i64 (wadd .i64 s1.1 (1 : Int)) (1 : Int)) (1 : Int)) (1 : Int)))), (38, .one (.dat (.int .i64) (wadd .i64 (wadd .i64 (wadd .i64 s1.1 (1 : Int)) (1 : Int)) (1 : Int)))), (0, .one (.all 0)), (1, .one (.dat (.int .i64) (wadd .i64 (wadd .i64 (wadd .i64 s1.1 (1 : Int)) (1 : Int)) (1 : Int)))), (5, .one (.dat (.int .i64) s1.2.1))], [(0, .seq (.st (.pair (.int .i64) (.pair (.int .i64) (.pair (.int .i64) (.int .i64))))) q19)], 1⟩) hP hN (by kernel_rfl) allNil (qBlock (qThen ?_))
      have hx6 := of_some hx6
      subst hx6
      refine HT.reg (rs := [⟨none, .no⟩, ⟨none, .no⟩, ⟨none, .no⟩]) (st' := ⟨[(5, .one (.dat (.int .i64) (wadd .i64 s1.2.1 (1 : Int)))), (11, .one (.dat (.int .i64) (wadd .i64 s1.2.1 (1 : Int)))), (10, .one (.dat (.int .i64) s1.2.1)), (1, .one (.dat (.int .i64) (wadd .i64 (wadd .i64 (wadd .i64 (wadd .i64 s1.1 (1 : Int)) (1 : Int)) (1 : Int)) (1 : Int)))), (39, .one (.dat (.int .i64) (wadd .i64 (wadd .i64 (wadd .i64 (wadd .i64 s1.1 (1 : Int)) (1 : Int)) (1 : Int)) (1 : Int)))), (38, .one (.dat (.int .i64) (wadd .i64 (wadd .i64 (wadd .i64 s1.1 (1 : Int)) (1 : Int)) (1 : Int)))), (0, .one (.all 0)), (1, .one (.dat (.int .i64) (wadd .i64 (wadd .i64 (wadd .i64 s1.1 (1 : Int)) (1 : Int)) (1 : Int)))), (5, .one (.dat (.int .i64) s1.2.1))], [(0, .seq (.st (.pair (.int .i64) (.pair (.int .i64) (.pair (.int .i64) (.int .i64))))) q19)], 1⟩) hP hN (by kernel_rfl) allNil (qLoopN ⟨((wadd .i64 (wadd .i64 (wadd .i64 (wadd .i64 s1.1 (1 : Int)) (1 : Int)) (1 : Int)) (1 : Int)), (wadd .i64 s1.2.1 (1 : Int)), q19), rfl, Le.cv (s := ⟨[(0, 0)], [], [], false⟩) (own := [0]) (ps := [(wadd .i64 (wadd .i64 (wadd .i64 (wadd .i64 s1.1 (1 : Int)) (1 : Int)) (1 : Int)) (1 : Int)) = (wadd .i64 (wadd .i64 (wadd .i64 (wadd .i64 s1.1 (1 : Int)) (1 : Int)) (1 : Int)) (1 : Int)), (wadd .i64 s1.2.1 (1 : Int)) = (wadd .i64 s1.2.1 (1 : Int)), q19 = q19]) (st' := ⟨[(0, .one (.all 0)), (1, .one (.dat (.int .i64) (wadd .i64 (wadd .i64 (wadd .i64 (wadd .i64 s1.1 (1 : Int)) (1 : Int)) (1 : Int)) (1 : Int)))), (5, .one (.dat (.int .i64) (wadd .i64 s1.2.1 (1 : Int))))], [(0, .seq (.st (.pair (.int .i64) (.pair (.int .i64) (.pair (.int .i64) (.int .i64))))) q19)], 1⟩) hO (fun h => by cases h) (by kernel_rfl) ⟨rfl, rfl, rfl, trivial⟩⟩)
    · refine HT.cond0 rfl hb8 ?_
      have hx6 := of_some hx6
      subst hx6
      refine (Le.cv (s := ⟨[(0, 0)], [], [], false⟩) (own := [0]) (ps := [s1.1 = s1.1, s1.2.2 = s1.2.2]) (st' := ⟨[(1, .one (.dat (.int .i64) s1.1))], [(0, .seq (.st (.pair (.int .i64) (.pair (.int .i64) (.pair (.int .i64) (.int .i64))))) s1.2.2)], 1⟩) hO (fun h => by cases h) (by kernel_rfl) ⟨rfl, rfl, trivial⟩).ht ?_
      exact HT.exit (qThenE (qLoopE (hk7 (s1.1, s1.2.2) rfl)))

noncomputable def laws_markGrammar (a0 : Int × Int × List (Int × Int × Int × Int)) (a1 : Int) : Option (Int × (Int × Int × List (Int × Int × Int × Int))) :=
  (laws_markRuleS a0.2.2 a1).bind fun y1 =>
  guardP (List.length y1.2 = List.length a0.2.2) (
    some (y1.1, a0.1, a0.2.1, y1.2))

theorem f23_ok {a0 : Int × Int × List (Int × Int × Int × Int)} {a1 : Int} {r : Int × (Int × Int × List (Int × Int × Int × Int))} (hr : laws_markGrammar a0 a1 = some r) : CallOK Try.prog 23 [.own (.st (.pair (.int .i64) (.pair (.int .i64) (.sl (.st (.pair (.int .i64) (.pair (.int .i64) (.pair (.int .i64) (.int .i64))))))))) a0, .imm (.int .i64) a1] [⟨false, (.int .i64), r.1⟩] [⟨(.st (.pair (.int .i64) (.pair (.int .i64) (.sl (.st (.pair (.int .i64) (.pair (.int .i64) (.pair (.int .i64) (.int .i64))))))))), r.2⟩] := by
  unfold laws_markGrammar at hr
  refine CallOK.of_body (ts := [(false, (.int .i64))]) Try.func23 rfl (by kernel_rfl) (Nat.le_of_ble_eq_true (by kernel_rfl)) fun cx hP hN hO hF => ?_
  have hO : cx.own.map Prod.fst = [0] := hO
  have hF := hF rfl
  show HT cx ⟨[(0, .agg [.dat (.int .i64) a0.1, .dat (.int .i64) a0.2.1, .all 0]), (1, .one (.dat (.int .i64) a1))], [(0, .seq (.st (.pair (.int .i64) (.pair (.int .i64) (.pair (.int .i64) (.int .i64))))) a0.2.2)], 1⟩ _ _
  refine HT.reg1 [1, 2] [⟨none, .no⟩, ⟨none, .no⟩] ⟨[(1, .one (.dat (.int .i64) a1)), (2, .one (.ptr 1 0))], [(1, .box [.dat (.int .i64) a0.1, .dat (.int .i64) a0.2.1, .all 0]), (0, .seq (.st (.pair (.int .i64) (.pair (.int .i64) (.pair (.int .i64) (.int .i64))))) a0.2.2)], 2⟩ hP hN (by kernel_rfl) allNil ?_
  obtain ⟨y1, hc2, hr⟩ := of_bind hr
  refine HT.reg1 [1] [⟨none, .no⟩, ⟨none, .no⟩, ⟨none, .no⟩, ⟨none, .call [.own (.sl (.st (.pair (.int .i64) (.pair (.int .i64) (.pair (.int .i64) (.int .i64)))))), .imm (.int .i64)] [⟨false, (.int .i64), y1.1⟩] [⟨(.sl (.st (.pair (.int .i64) (.pair (.int .i64) (.pair (.int .i64) (.int .i64)))))), y1.2⟩]⟩, ⟨none, .no⟩] ⟨[(1, .one (.dat (.int .i64) y1.1))], [(0, .seq (.st (.pair (.int .i64) (.pair (.int .i64) (.pair (.int .i64) (.int .i64))))) y1.2), (1, .box [.dat (.int .i64) a0.1, .dat (.int .i64) a0.2.1, .all 0]), (0, .seq (.st (.pair (.int .i64) (.pair (.int .i64) (.pair (.int .i64) (.int .i64))))) a0.2.2)], 2⟩ hP hN (by kernel_rfl) (allCons (f55_ok hc2) allNil) ?_
  refine HT.reg1 [4] [⟨none, .no⟩, ⟨none, .no⟩] ⟨[(4, .one (.dat (.int .i64) y1.1))], [(0, .seq (.st (.pair (.int .i64) (.pair (.int .i64) (.pair (.int .i64) (.int .i64))))) y1.2), (1, .box [.dat (.int .i64) a0.1, .dat (.int .i64) a0.2.1, .all 0]), (0, .seq (.st (.pair (.int .i64) (.pair (.int .i64) (.pair (.int .i64) (.int .i64))))) a0.2.2)], 2⟩ hP hN (by kernel_rfl) allNil ?_
  obtain ⟨hg3, hr⟩ := of_guard hr
  have hr := of_some hr
  subst hr
  exact HT.ret ⟨[.one (.dat (.int .i64) y1.1)], [], [List.length y1.2 = List.length a0.2.2], by kernel_rfl, by kernel_rfl, rfl, by kernel_rfl, by kernel_rfl, ⟨hg3, trivial⟩⟩

noncomputable def laws_markDesk (a0 : (Int × Int × List (Int × Int × Int × Int) × List Int × List Int) × (Int × Int × List Int × List Bool) × (Int × Int × List (Int × Int × Int × Int)) × List Int) (a1 : Int) : Option (Int × ((Int × Int × List (Int × Int × Int × Int) × List Int × List Int) × (Int × Int × List Int × List Bool) × (Int × Int × List (Int × Int × Int × Int)) × List Int)) :=
  (laws_markMachine (a0.1.1, a0.1.2.1, a0.1.2.2.1, a0.1.2.2.2.1, a0.1.2.2.2.2) a1).bind fun y1 =>
  (laws_markPlain (a0.2.1.1, a0.2.1.2.1, a0.2.1.2.2.1, a0.2.1.2.2.2) y1.1).bind fun y3 =>
  (laws_markGrammar (a0.2.2.1.1, a0.2.2.1.2.1, a0.2.2.1.2.2) y3.1).bind fun y5 =>
  (laws_markInt64S a0.2.2.2 y5.1).bind fun y7 =>
  guardP (List.length y1.2.2.2.1 = List.length a0.1.2.2.1) (
    guardP (List.length y1.2.2.2.2.1 = List.length a0.1.2.2.2.1) (
      guardP (List.length y1.2.2.2.2.2 = List.length a0.1.2.2.2.2) (
        guardP (List.length y3.2.2.2.1 = List.length a0.2.1.2.2.1) (
          guardP (List.length y3.2.2.2.2 = List.length a0.2.1.2.2.2) (
            guardP (List.length y5.2.2.2 = List.length a0.2.2.1.2.2) (
              guardP (List.length y7.2 = List.length a0.2.2.2) (
                some (y7.1, (a0.1.1, a0.1.2.1, y1.2.2.2.1, y1.2.2.2.2.1, y1.2.2.2.2.2), (a0.2.1.1, a0.2.1.2.1, y3.2.2.2.1, y3.2.2.2.2), (a0.2.2.1.1, a0.2.2.1.2.1, y5.2.2.2), y7.2))))))))

theorem f9_ok {a0 : (Int × Int × List (Int × Int × Int × Int) × List Int × List Int) × (Int × Int × List Int × List Bool) × (Int × Int × List (Int × Int × Int × Int)) × List Int} {a1 : Int} {r : Int × ((Int × Int × List (Int × Int × Int × Int) × List Int × List Int) × (Int × Int × List Int × List Bool) × (Int × Int × List (Int × Int × Int × Int)) × List Int)} (hr : laws_markDesk a0 a1 = some r) : CallOK Try.prog 9 [.own (.st (.pair (.st (.pair (.int .i64) (.pair (.int .i64) (.pair (.sl (.st (.pair (.int .i64) (.pair (.int .i64) (.pair (.int .i64) (.int .i64)))))) (.pair (.sl (.int .i64)) (.sl (.int .i64))))))) (.pair (.st (.pair (.int .i64) (.pair (.int .i64) (.pair (.sl (.int .i64)) (.sl .bool))))) (.pair (.st (.pair (.int .i64) (.pair (.int .i64) (.sl (.st (.pair (.int .i64) (.pair (.int .i64) (.pair (.int .i64) (.int .i64))))))))) (.sl (.int .i64)))))) a0, .imm (.int .i64) a1] [⟨false, (.int .i64), r.1⟩] [⟨(.st (.pair (.st (.pair (.int .i64) (.pair (.int .i64) (.pair (.sl (.st (.pair (.int .i64) (.pair (.int .i64) (.pair (.int .i64) (.int .i64)))))) (.pair (.sl (.int .i64)) (.sl (.int .i64))))))) (.pair (.st (.pair (.int .i64) (.pair (.int .i64) (.pair (.sl (.int .i64)) (.sl .bool))))) (.pair (.st (.pair (.int .i64) (.pair (.int .i64) (.sl (.st (.pair (.int .i64) (.pair (.int .i64) (.pair (.int .i64) (.int .i64))))))))) (.sl (.int .i64)))))), r.2⟩] := by
  unfold laws_markDesk at hr
  refine CallOK.of_body (ts := [(false, (.int .i64))]) Try.func9 rfl (by kernel_rfl) (Nat.le_of_ble_eq_true (by kernel_rfl)) fun cx hP hN hO hF => ?_
  have hO : cx.own.map Prod.fst = [0, 1, 2, 3, 4, 5, 6] := hO
  have hF := hF rfl
  show HT cx ⟨[(0, .agg [.dat (.int .i64) a0.1.1, .dat (.int .i64) a0.1.2.1, .all 0, .all 1, .all 2, .dat (.int .i64) a0.2.1.1, .dat (.int .i64) a0.2.1.2.1, .all 3, .all 4, .dat (.int .i64) a0.2.2.1.1, .dat (.int .i64) a0.2.2.1.2.1, .all 5, .all 6]), (1, .one (.dat (.int .i64) a1))], [(0, .seq (.st (.pair (.int .i64) (.pair (.int .i64) (.pair (.int .i64) (.int .i64))))) a0.1.2.2.1), (1, .seq (.int .i64) a0.1.2.2.2.1), (2, .seq (.int .i64) a0.1.2.2.2.2), (3, .seq (.int .i64) a0.2.1.2.2.1), (4, .seq .bool a0.2.1.2.2.2), (5, .seq (.st (.pair (.int .i64) (.pair (.int .i64) (.pair (.int .i64) (.int .i64))))) a0.2.2.1.2.2), (6, .seq (.int .i64) a0.2.2.2)], 7⟩ _ _
  refine HT.reg1 [1, 2] [⟨none, .no⟩, ⟨none, .no⟩] ⟨[(1, .one (.dat (.int .i64) a1)), (2, .one (.ptr 7 0))], [(7, .box [.dat (.int .i64) a0.1.1, .dat (.int .i64) a0.1.2.1, .all 0, .all 1, .all 2, .dat (.int .i64) a0.2.1.1, .dat (.int .i64) a0.2.1.2.1, .all 3, .all 4, .dat (.int .i64) a0.2.2.1.1, .dat (.int .i64) a0.2.2.1.2.1, .all 5, .all 6]), (0, .seq (.st (.pair (.int .i64) (.pair (.int .i64) (.pair (.int .i64) (.int .i64))))) a0.1.2.2.1), (1, .seq (.int .i64) a0.1.2.2.2.1), (2, .seq (.int .i64) a0.1.2.2.2.2), (3, .seq (.int .i64) a0.2.1.2.2.1), (4, .seq .bool a0.2.1.2.2.2), (5, .seq (.st (.pair (.int .i64) (.pair (.int .i64) (.pair (.int .i64) (.int .i64))))) a0.2.2.1.2.2), (6, .seq (.int .i64) a0.2.2.2)], 8⟩ hP hN (by kernel_rfl) allNil ?_
  obtain ⟨y1, hc2, hr⟩ := of_bind hr
  refine HT.reg1 [1, 2] [⟨none, .no⟩, ⟨none, .no⟩, ⟨none, .no⟩, ⟨none, .call [.own (.st (.pair (.int .i64) (.pair (.int .i64) (.pair (.sl (.st (.pair (.int .i64) (.pair (.int .i64) (.pair (.int .i64) (.int .i64)))))) (.pair (.sl (.int .i64)) (.sl (.int .i64))))))), .imm (.int .i64)] [⟨false, (.int .i64), y1.1⟩] [⟨(.st (.pair (.int .i64) (.pair (.int .i64) (.pair (.sl (.st (.pair (.int .i64) (.pair (.int .i64) (.pair (.int .i64) (.int .i64)))))) (.pair (.sl (.int .i64)) (.sl (.int .i64))))))), y1.2⟩]⟩, ⟨none, .no⟩] ⟨[(1, .one (.dat (.int .i64) y1.1)), (2, .one (.ptr 7 0))], [(0, .seq (.st (.pair (.int .i64) (.pair (.int .i64) (.pair (.int .i64) (.int .i64))))) y1.2.2.2.1), (1, .seq (.int .i64) y1.2.2.2.2.1), (2, .seq (.int .i64) y1.2.2.2.2.2), (7, .box [.dat (.int .i64) a0.1.1, .dat (.int .i64) a0.1.2.1, .all 0, .all 1, .all 2, .dat (.int .i64) a0.2.1.1, .dat (.int .i64) a0.2.1.2.1, .all 3, .all 4, .dat (.int .i64) a0.2.2.1.1, .dat (.int .i64) a0.2.2.1.2.1, .all 5, .all 6]), (0, .seq (.st (.pair (.int .i64) (.pair (.int .i64) (.pair (.int .i64) (.int .i64))))) a0.1.2.2.1), (1, .seq (.int .i64) a0.1.2.2.2.1), (2, .seq (.int .i64) a0.1.2.2.2.2), (3, .seq (.int .i64) a0.2.1.2.2.1), (4, .seq .bool a0.2.1.2.2.2), (5, .seq (.st (.pair (.int .i64) (.pair (.int .i64) (.pair (.int .i64) (.int .i64))))) a0.2.2.1.2.2), (6, .seq (.int .i64) a0.2.2.2)], 8⟩ hP hN (by kernel_rfl) (allCons (f21_ok hc2) allNil) ?_
  obtain ⟨y3, hc4, hr⟩ := of_bind hr
  refine HT.reg1 [1, 2] [⟨none, .no⟩, ⟨none, .no⟩, ⟨none, .no⟩, ⟨none, .call [.own (.st (.pair (.int .i64) (.pair (.int .i64) (.pair (.sl (.int .i64)) (.sl .bool))))), .imm (.int .i64)] [⟨false, (.int .i64), y3.1⟩] [⟨(.st (.pair (.int .i64) (.pair (.int .i64) (.pair (.sl (.int .i64)) (.sl .bool))))), y3.2⟩]⟩, ⟨none, .no⟩] ⟨[(1, .one (.dat (.int .i64) y3.1)), (2, .one (.ptr 7 0))], [(3, .seq (.int .i64) y3.2.2.2.1), (4, .seq .bool y3.2.2.2.2), (0, .seq (.st (.pair (.int .i64) (.pair (.int .i64) (.pair (.int .i64) (.int .i64))))) y1.2.2.2.1), (1, .seq (.int .i64) y1.2.2.2.2.1), (2, .seq (.int .i64) y1.2.2.2.2.2), (7, .box [.dat (.int .i64) a0.1.1, .dat (.int .i64) a0.1.2.1, .all 0, .all 1, .all 2, .dat (.int .i64) a0.2.1.1, .dat (.int .i64) a0.2.1.2.1, .all 3, .all 4, .dat (.int .i64) a0.2.2.1.1, .dat (.int .i64) a0.2.2.1.2.1, .all 5, .all 6]), (0, .seq (.st (.pair (.int .i64) (.pair (.int .i64) (.pair (.int .i64) (.int .i64))))) a0.1.2.2.1), (1, .seq (.int .i64) a0.1.2.2.2.1), (2, .seq (.int .i64) a0.1.2.2.2.2), (3, .seq (.int .i64) a0.2.1.2.2.1), (4, .seq .bool a0.2.1.2.2.2), (5, .seq (.st (.pair (.int .i64) (.pair (.int .i64) (.pair (.int .i64) (.int .i64))))) a0.2.2.1.2.2), (6, .seq (.int .i64) a0.2.2.2)], 8⟩ hP hN (by kernel_rfl) (allCons (f22_ok hc4) allNil) ?_
  obtain ⟨y5, hc6, hr⟩ := of_bind hr
  refine HT.reg1 [1, 2] [⟨none, .no⟩, ⟨none, .no⟩, ⟨none, .no⟩, ⟨none, .call [.own (.st (.pair (.int .i64) (.pair (.int .i64) (.sl (.st (.pair (.int .i64) (.pair (.int .i64) (.pair (.int .i64) (.int .i64))))))))), .imm (.int .i64)] [⟨false, (.int .i64), y5.1⟩] [⟨(.st (.pair (.int .i64) (.pair (.int .i64) (.sl (.st (.pair (.int .i64) (.pair (.int .i64) (.pair (.int .i64) (.int .i64))))))))), y5.2⟩]⟩, ⟨none, .no⟩] ⟨[(1, .one (.dat (.int .i64) y5.1)), (2, .one (.ptr 7 0))], [(5, .seq (.st (.pair (.int .i64) (.pair (.int .i64) (.pair (.int .i64) (.int .i64))))) y5.2.2.2), (3, .seq (.int .i64) y3.2.2.2.1), (4, .seq .bool y3.2.2.2.2), (0, .seq (.st (.pair (.int .i64) (.pair (.int .i64) (.pair (.int .i64) (.int .i64))))) y1.2.2.2.1), (1, .seq (.int .i64) y1.2.2.2.2.1), (2, .seq (.int .i64) y1.2.2.2.2.2), (7, .box [.dat (.int .i64) a0.1.1, .dat (.int .i64) a0.1.2.1, .all 0, .all 1, .all 2, .dat (.int .i64) a0.2.1.1, .dat (.int .i64) a0.2.1.2.1, .all 3, .all 4, .dat (.int .i64) a0.2.2.1.1, .dat (.int .i64) a0.2.2.1.2.1, .all 5, .all 6]), (0, .seq (.st (.pair (.int .i64) (.pair (.int .i64) (.pair (.int .i64) (.int .i64))))) a0.1.2.2.1), (1, .seq (.int .i64) a0.1.2.2.2.1), (2, .seq (.int .i64) a0.1.2.2.2.2), (3, .seq (.int .i64) a0.2.1.2.2.1), (4, .seq .bool a0.2.1.2.2.2), (5, .seq (.st (.pair (.int .i64) (.pair (.int .i64) (.pair (.int .i64) (.int .i64))))) a0.2.2.1.2.2), (6, .seq (.int .i64) a0.2.2.2)], 8⟩ hP hN (by kernel_rfl) (allCons (f23_ok hc6) allNil) ?_
  obtain ⟨y7, hc8, hr⟩ := of_bind hr
  refine HT.reg1 [1] [⟨none, .no⟩, ⟨none, .no⟩, ⟨none, .no⟩, ⟨none, .call [.own (.sl (.int .i64)), .imm (.int .i64)] [⟨false, (.int .i64), y7.1⟩] [⟨(.sl (.int .i64)), y7.2⟩]⟩, ⟨none, .no⟩] ⟨[(1, .one (.dat (.int .i64) y7.1))], [(6, .seq (.int .i64) y7.2), (5, .seq (.st (.pair (.int .i64) (.pair (.int .i64) (.pair (.int .i64) (.int .i64))))) y5.2.2.2), (3, .seq (.int .i64) y3.2.2.2.1), (4, .seq .bool y3.2.2.2.2), (0, .seq (.st (.pair (.int .i64) (.pair (.int .i64) (.pair (.int .i64) (.int .i64))))) y1.2.2.2.1), (1, .seq (.int .i64) y1.2.2.2.2.1), (2, .seq (.int .i64) y1.2.2.2.2.2), (7, .box [.dat (.int .i64) a0.1.1, .dat (.int .i64) a0.1.2.1, .all 0, .all 1, .all 2, .dat (.int .i64) a0.2.1.1, .dat (.int .i64) a0.2.1.2.1, .all 3, .all 4, .dat (.int .i64) a0.2.2.1.1, .dat (.int .i64) a0.2.2.1.2.1, .all 5, .all 6]), (0, .seq (.st (.pair (.int .i64) (.pair (.int .i64) (.pair (.int .i64) (.int .i64))))) a0.1.2.2.1), (1, .seq (.int .i64) a0.1.2.2.2.1), (2, .seq (.int .i64) a0.1.2.2.2.2), (3, .seq (.int .i64) a0.2.1.2.2.1), (4, .seq .bool a0.2.1.2.2.2), (5, .seq (.st (.pair (.int .i64) (.pair (.int .i64) (.pair (.int .i64) (.int .i64))))) a0.2.2.1.2.2), (6, .seq (.int .i64) a0.2.2.2)], 8⟩ hP hN (by kernel_rfl) (allCons (f24_ok hc8) allNil) ?_
  refine HT.reg1 [4] [⟨none, .no⟩, ⟨none, .no⟩] ⟨[(4, .one (.dat (.int .i64) y7.1))], [(6, .seq (.int .i64) y7.2), (5, .seq (.st (.pair (.int .i64) (.pair (.int .i64) (.pair (.int .i64) (.int .i64))))) y5.2.2.2), (3, .seq (.int .i64) y3.2.2.2.1), (4, .seq .bool y3.2.2.2.2), (0, .seq (.st (.pair (.int .i64) (.pair (.int .i64) (.pair (.int .i64) (.int .i64))))) y1.2.2.2.1), (1, .seq (.int .i64) y1.2.2.2.2.1), (2, .seq (.int .i64) y1.2.2.2.2.2), (7, .box [.dat (.int .i64) a0.1.1, .dat (.int .i64) a0.1.2.1, .all 0, .all 1, .all 2, .dat (.int .i64) a0.2.1.1, .dat (.int .i64) a0.2.1.2.1, .all 3, .all 4, .dat (.int .i64) a0.2.2.1.1, .dat (.int .i64) a0.2.2.1.2.1, .all 5, .all 6]), (0, .seq (.st (.pair (.int .i64) (.pair (.int .i64) (.pair (.int .i64) (.int .i64))))) a0.1.2.2.1), (1, .seq (.int .i64) a0.1.2.2.2.1), (2, .seq (.int .i64) a0.1.2.2.2.2), (3, .seq (.int .i64) a0.2.1.2.2.1), (4, .seq .bool a0.2.1.2.2.2), (5, .seq (.st (.pair (.int .i64) (.pair (.int .i64) (.pair (.int .i64) (.int .i64))))) a0.2.2.1.2.2), (6, .seq (.int .i64) a0.2.2.2)], 8⟩ hP hN (by kernel_rfl) allNil ?_
  obtain ⟨hg9, hr⟩ := of_guard hr
  obtain ⟨hg10, hr⟩ := of_guard hr
  obtain ⟨hg11, hr⟩ := of_guard hr
  obtain ⟨hg12, hr⟩ := of_guard hr
  obtain ⟨hg13, hr⟩ := of_guard hr
  obtain ⟨hg14, hr⟩ := of_guard hr
  obtain ⟨hg15, hr⟩ := of_guard hr
  have hr := of_some hr
  subst hr
  exact HT.ret ⟨[.one (.dat (.int .i64) y7.1)], [], [List.length y1.2.2.2.1 = List.length a0.1.2.2.1, List.length y1.2.2.2.2.1 = List.length a0.1.2.2.2.1, List.length y1.2.2.2.2.2 = List.length a0.1.2.2.2.2, List.length y3.2.2.2.1 = List.length a0.2.1.2.2.1, List.length y3.2.2.2.2 = List.length a0.2.1.2.2.2, List.length y5.2.2.2 = List.length a0.2.2.1.2.2, List.length y7.2 = List.length a0.2.2.2], by kernel_rfl, by kernel_rfl, rfl, by kernel_rfl, by kernel_rfl, ⟨hg9, hg10, hg11, hg12, hg13, hg14, hg15, trivial⟩⟩

noncomputable def laws_heldArcS_B1 (a0 : List (Int × Int × Int × Int)) (s1 : Int × Int) : Option ((Int × Int) ⊕ (Int ⊕ Unit)) :=
  bif (decide (s1.2 < (lenI a0))) then
    guardP ((0 : Int) ≤ s1.2 ∧ s1.2 < lenI a0) (
      bif ((List.getD a0 (Int.toNat s1.2) ((0 : Int), (0 : Int), (0 : Int), (0 : Int))).1 != s1.1) then
        some (.inr (.inr ()))
      else
        bif (((List.getD a0 (Int.toNat s1.2) ((0 : Int), (0 : Int), (0 : Int), (0 : Int))).2).1 != (wadd .i64 s1.1 (1 : Int))) then
          some (.inr (.inr ()))
        else
          bif ((((List.getD a0 (Int.toNat s1.2) ((0 : Int), (0 : Int), (0 : Int), (0 : Int))).2).2).1 != (wadd .i64 (wadd .i64 s1.1 (1 : Int)) (1 : Int))) then
            some (.inr (.inr ()))
          else
            bif ((((List.getD a0 (Int.toNat s1.2) ((0 : Int), (0 : Int), (0 : Int), (0 : Int))).2).2).2 != (wadd .i64 (wadd .i64 (wadd .i64 s1.1 (1 : Int)) (1 : Int)) (1 : Int))) then
              some (.inr (.inr ()))
            else
              some (.inl ((wadd .i64 (wadd .i64 (wadd .i64 (wadd .i64 s1.1 (1 : Int)) (1 : Int)) (1 : Int)) (1 : Int)), (wadd .i64 s1.2 (1 : Int)))))
  else
    some (.inr (.inl s1.1))

noncomputable def laws_heldArcS (a0 : List (Int × Int × Int × Int)) (a1 : Int) : Option (Int) :=
  (rounds (laws_heldArcS_B1 a0) (a1, (0 : Int))).bind fun r2 => match r2 with
    | .inl r3 =>
      some r3
    | .inr r4 =>
      some (-1 : Int)

theorem f56_ok {a0 : List (Int × Int × Int × Int)} {a1 : Int} {r : Int} (hr : laws_heldArcS a0 a1 = some r) : CallOK Try.prog 56 [.imm (.sl (.st (.pair (.int .i64) (.pair (.int .i64) (.pair (.int .i64) (.int .i64)))))) a0, .imm (.int .i64) a1] [⟨false, (.int .i64), r⟩] [] := by
  unfold laws_heldArcS at hr
  refine CallOK.of_body (ts := [(false, (.int .i64))]) Try.func56 rfl (by kernel_rfl) (Nat.le_of_ble_eq_true (by kernel_rfl)) fun cx hP hN hO hF => ?_
  have hO : cx.own.map Prod.fst = [] := hO
  have hF := hF rfl
  show HT cx ⟨[(0, .one (.dat (.sl (.st (.pair (.int .i64) (.pair (.int .i64) (.pair (.int .i64) (.int .i64)))))) a0)), (1, .one (.dat (.int .i64) a1))], [], 0⟩ _ _
  refine HT.reg1 [0, 1] [⟨none, .no⟩] ⟨[(0, .one (.dat (.sl (.st (.pair (.int .i64) (.pair (.int .i64) (.pair (.int .i64) (.int .i64)))))) a0)), (1, .one (.dat (.int .i64) a1))], [], 0⟩ hP hN (by kernel_rfl) allNil ?_
  refine HT.seq ?_
  refine HT.reg1 [0, 1, 5] [⟨none, .no⟩] ⟨[(0, .one (.dat (.sl (.st (.pair (.int .i64) (.pair (.int .i64) (.pair (.int .i64) (.int .i64)))))) a0)), (1, .one (.dat (.int .i64) a1)), (5, .one (.dat (.int .i64) (0 : Int)))], [], 0⟩ hP hN (by kernel_rfl) allNil ?_
  refine HT.block ?_
  obtain ⟨r2, hL14, hr⟩ := of_bind hr
  refine (Le.cv (s := ⟨[], [], [], false⟩) (own := []) (ps := [a0 = a0, a1 = a1, (0 : Int) = (0 : Int)]) (st' := ⟨[(0, .one (.dat (.sl (.st (.pair (.int .i64) (.pair (.int .i64) (.pair (.int .i64) (.int .i64)))))) a0)), (1, .one (.dat (.int .i64) a1)), (5, .one (.dat (.int .i64) (0 : Int)))], [], 0⟩) hO (fun h => by cases h) (by kernel_rfl) ⟨rfl, rfl, rfl, trivial⟩).ht ?_
  refine HT.loopE (s := (a1, (0 : Int))) (fun (s1 : Int × Int) => ⟨[(0, .one (.dat (.sl (.st (.pair (.int .i64) (.pair (.int .i64) (.pair (.int .i64) (.int .i64)))))) a0)), (1, .one (.dat (.int .i64) s1.1)), (5, .one (.dat (.int .i64) s1.2))], [], 0⟩) (fun (r2 : Int ⊕ Unit) => match r2 with | .inl r3 => (.exit 0, ⟨[(1, .one (.dat (.int .i64) r3))], [], 0⟩) | .inr r4 => (.ret, ⟨[(4, .one (.dat (.int .i64) (-1 : Int)))], [], 0⟩)) hL14 ?_ (fun s1 x5 hx6 hk7 => ?_)
  · rcases r2 with r3 | r4
    · refine (qBlockX (qThen ?_))
      refine HT.reg1 [4] [⟨none, .no⟩, ⟨none, .no⟩] ⟨[(4, .one (.dat (.int .i64) r3))], [], 0⟩ hP hN (by kernel_rfl) allNil ?_
      have hr := of_some hr
      subst hr
      exact HT.ret ⟨[.one (.dat (.int .i64) r3)], [], [], by kernel_rfl, by kernel_rfl, rfl, by kernel_rfl, by kernel_rfl, trivial⟩
    · have hr := of_some hr
      subst hr
      exact (qBlockR (qThenR ⟨[.one (.dat (.int .i64) (-1 : Int))], [], [], by kernel_rfl, by kernel_rfl, rfl, by kernel_rfl, by kernel_rfl, trivial⟩))
  · refine HT.seq ?_
    refine HT.reg1 [0, 1, 5, 9] [⟨none, .no⟩, ⟨none, .no⟩, ⟨none, .no⟩, ⟨none, .no⟩] ⟨[(0, .one (.dat (.sl (.st (.pair (.int .i64) (.pair (.int .i64) (.pair (.int .i64) (.int .i64)))))) a0)), (1, .one (.dat (.int .i64) s1.1)), (5, .one (.dat (.int .i64) s1.2)), (9, .one (.dat .bool (decide (s1.2 < (lenI a0)))))], [], 0⟩ hP hN (by kernel_rfl) allNil ?_
    rcases of_bif hx6 with ⟨hb8, hx6⟩ | ⟨hb8, hx6⟩
    · refine HT.cond1 rfl hb8 ?_
      refine HT.skip (qThen ?_)
      refine HT.seq ?_
      refine HT.block ?_
      refine HT.seq ?_
      obtain ⟨hg9, hx6⟩ := of_guard hx6
      refine HT.reg1 [0, 1, 5, 18] [⟨none, .no⟩, ⟨none, .no⟩, ⟨none, .no⟩, ⟨none, .no⟩, ⟨none, .no⟩, ⟨none, .no⟩, ⟨none, .no⟩] ⟨[(0, .one (.dat (.sl (.st (.pair (.int .i64) (.pair (.int .i64) (.pair (.int .i64) (.int .i64)))))) a0)), (1, .one (.dat (.int .i64) s1.1)), (5, .one (.dat (.int .i64) s1.2)), (18, .one (.dat .bool ((List.getD a0 (Int.toNat s1.2) ((0 : Int), (0 : Int), (0 : Int), (0 : Int))).1 != s1.1)))], [], 0⟩ hP hN (by kernel_rfl) (allCons hg9 allNil) ?_
      rcases of_bif hx6 with ⟨hb10, hx6⟩ | ⟨hb10, hx6⟩
      · refine HT.cond1 rfl hb10 ?_
        refine HT.reg1 [4] [⟨none, .no⟩] ⟨[(4, .one (.dat (.int .i64) (-1 : Int)))], [], 0⟩ hP hN (by kernel_rfl) allNil ?_
        have hx6 := of_some hx6
        subst hx6
        refine (Le.cv (s := ⟨[], [], [], false⟩) (own := []) (ps := [(-1 : Int) = (-1 : Int)]) (st' := ⟨[(4, .one (.dat (.int .i64) (-1 : Int)))], [], 0⟩) hO (fun h => by cases h) (by kernel_rfl) ⟨rfl, trivial⟩).ht ?_
        exact HT.ret (qThenR (qBlockR (qThenR (qLoopR (hk7 (.inr ()) rfl)))))
      · refine HT.cond0 rfl hb10 ?_
        refine HT.skip (qThen ?_)
        refine HT.reg1 [0, 1, 5] [⟨none, .no⟩, ⟨none, .no⟩, ⟨none, .no⟩] ⟨[(0, .one (.dat (.sl (.st (.pair (.int .i64) (.pair (.int .i64) (.pair (.int .i64) (.int .i64)))))) a0)), (1, .one (.dat (.int .i64) (wadd .i64 s1.1 (1 : Int)))), (5, .one (.dat (.int .i64) s1.2))], [], 0⟩ hP hN (by kernel_rfl) allNil ?_
        refine HT.seq ?_
        refine HT.reg1 [0, 1, 5, 27] [⟨none, .no⟩, ⟨none, .no⟩, ⟨none, .no⟩, ⟨none, .no⟩, ⟨none, .no⟩, ⟨none, .no⟩, ⟨none, .no⟩] ⟨[(0, .one (.dat (.sl (.st (.pair (.int .i64) (.pair (.int .i64) (.pair (.int .i64) (.int .i64)))))) a0)), (1, .one (.dat (.int .i64) (wadd .i64 s1.1 (1 : Int)))), (5, .one (.dat (.int .i64) s1.2)), (27, .one (.dat .bool (((List.getD a0 (Int.toNat s1.2) ((0 : Int), (0 : Int), (0 : Int), (0 : Int))).2).1 != (wadd .i64 s1.1 (1 : Int)))))], [], 0⟩ hP hN (by kernel_rfl) (allCons hg9 allNil) ?_
        rcases of_bif hx6 with ⟨hb11, hx6⟩ | ⟨hb11, hx6⟩
        · refine HT.cond1 rfl hb11 ?_
          refine HT.reg1 [4] [⟨none, .no⟩] ⟨[(4, .one (.dat (.int .i64) (-1 : Int)))], [], 0⟩ hP hN (by kernel_rfl) allNil ?_
          have hx6 := of_some hx6
          subst hx6
          refine (Le.cv (s := ⟨[], [], [], false⟩) (own := []) (ps := [(-1 : Int) = (-1 : Int)]) (st' := ⟨[(4, .one (.dat (.int .i64) (-1 : Int)))], [], 0⟩) hO (fun h => by cases h) (by kernel_rfl) ⟨rfl, trivial⟩).ht ?_
          exact HT.ret (qThenR (qBlockR (qThenR (qLoopR (hk7 (.inr ()) rfl)))))
        · refine HT.cond0 rfl hb11 ?_
          refine HT.skip (qThen ?_)
          refine HT.reg1 [0, 1, 5] [⟨none, .no⟩, ⟨none, .no⟩, ⟨none, .no⟩] ⟨[(0, .one (.dat (.sl (.st (.pair (.int .i64) (.pair (.int .i64) (.pair (.int .i64) (.int .i64)))))) a0)), (1, .one (.dat (.int .i64) (wadd .i64 (wadd .i64 s1.1 (1 : Int)) (1 : Int)))), (5, .one (.dat (.int .i64) s1.2))], [], 0⟩ hP hN (by kernel_rfl) allNil ?_
          refine HT.seq ?_
          refine HT.reg1 [0, 1, 5, 36] [⟨none, .no⟩, ⟨none, .no⟩, ⟨none, .no⟩, ⟨none, .no⟩, ⟨none, .no⟩, ⟨none, .no⟩, ⟨none, .no⟩] ⟨[(0, .one (.dat (.sl (.st (.pair (.int .i64) (.pair (.int .i64) (.pair (.int .i64) (.int .i64)))))) a0)), (1, .one (.dat (.int .i64) (wadd .i64 (wadd .i64 s1.1 (1 : Int)) (1 : Int)))), (5, .one (.dat (.int .i64) s1.2)), (36, .one (.dat .bool ((((List.getD a0 (Int.toNat s1.2) ((0 : Int), (0 : Int), (0 : Int), (0 : Int))).2).2).1 != (wadd .i64 (wadd .i64 s1.1 (1 : Int)) (1 : Int)))))], [], 0⟩ hP hN (by kernel_rfl) (allCons hg9 allNil) ?_
          rcases of_bif hx6 with ⟨hb12, hx6⟩ | ⟨hb12, hx6⟩
          · refine HT.cond1 rfl hb12 ?_
            refine HT.reg1 [4] [⟨none, .no⟩] ⟨[(4, .one (.dat (.int .i64) (-1 : Int)))], [], 0⟩ hP hN (by kernel_rfl) allNil ?_
            have hx6 := of_some hx6
            subst hx6
            refine (Le.cv (s := ⟨[], [], [], false⟩) (own := []) (ps := [(-1 : Int) = (-1 : Int)]) (st' := ⟨[(4, .one (.dat (.int .i64) (-1 : Int)))], [], 0⟩) hO (fun h => by cases h) (by kernel_rfl) ⟨rfl, trivial⟩).ht ?_
            exact HT.ret (qThenR (qBlockR (qThenR (qLoopR (hk7 (.inr ()) rfl)))))
          · refine HT.cond0 rfl hb12 ?_
            refine HT.skip (qThen ?_)
            refine HT.reg1 [0, 1, 5] [⟨none, .no⟩, ⟨none, .no⟩, ⟨none, .no⟩] ⟨[(0, .one (.dat (.sl (.st (.pair (.int .i64) (.pair (.int .i64) (.pair (.int .i64) (.int .i64)))))) a0)), (1, .one (.dat (.int .i64) (wadd .i64 (wadd .i64 (wadd .i64 s1.1 (1 : Int)) (1 : Int)) (1 : Int)))), (5, .one (.dat (.int .i64) s1.2))], [], 0⟩ hP hN (by kernel_rfl) allNil ?_
            refine HT.seq ?_
            refine HT.reg1 [0, 1, 5, 45] [⟨none, .no⟩, ⟨none, .no⟩, ⟨none, .no⟩, ⟨none, .no⟩, ⟨none, .no⟩, ⟨none, .no⟩, ⟨none, .no⟩] ⟨[(0, .one (.dat (.sl (.st (.pair (.int .i64) (.pair (.int .i64) (.pair (.int .i64) (.int .i64)))))) a0)), (1, .one (.dat (.int .i64) (wadd .i64 (wadd .i64 (wadd .i64 s1.1 (1 : Int)) (1 : Int)) (1 : Int)))), (5, .one (.dat (.int .i64) s1.2)), (45, .one (.dat .bool ((((List.getD a0 (Int.toNat s1.2) ((0 : Int), (0 : Int), (0 : Int), (0 : Int))).2).2).2 != (wadd .i64 (wadd .i64 (wadd .i64 s1.1 (1 : Int)) (1 : Int)) (1 : Int)))))], [], 0⟩ hP hN (by kernel_rfl) (allCons hg9 allNil) ?_
            rcases of_bif hx6 with ⟨hb13, hx6⟩ | ⟨hb13, hx6⟩
            · refine HT.cond1 rfl hb13 ?_
              refine HT.reg1 [4] [⟨none, .no⟩] ⟨[(4, .one (.dat (.int .i64) (-1 : Int)))], [], 0⟩ hP hN (by kernel_rfl) allNil ?_
              have hx6 := of_some hx6
              subst hx6
              refine (Le.cv (s := ⟨[], [], [], false⟩) (own := []) (ps := [(-1 : Int) = (-1 : Int)]) (st' := ⟨[(4, .one (.dat (.int .i64) (-1 : Int)))], [], 0⟩) hO (fun h => by cases h) (by kernel_rfl) ⟨rfl, trivial⟩).ht ?_
              exact HT.ret (qThenR (qBlockR (qThenR (qLoopR (hk7 (.inr ()) rfl)))))
            · refine HT.cond0 rfl hb13 ?_
              refine HT.skip (qThen ?_)
              refine HT.reg (rs := [⟨none, .no⟩, ⟨none, .no⟩, ⟨none, .no⟩]) (st' := ⟨[(1, .one (.dat (.int .i64) (wadd .i64 (wadd .i64 (wadd .i64 (wadd .i64 s1.1 (1 : Int)) (1 : Int)) (1 : Int)) (1 : Int)))), (47, .one (.dat (.int .i64) (wadd .i64 (wadd .i64 (wadd .i64 (wadd .i64 s1.1 (1 : Int)) (1 : Int)) (1 : Int)) (1 : Int)))), (46, .one (.dat (.int .i64) (wadd .i64 (wadd .i64 (wadd .i64 s1.1 (1 : Int)) (1 : Int)) (1 : Int)))), (0, .one (.dat (.sl (.st (.pair (.int .i64) (.pair (.int .i64) (.pair (.int .i64) (.int .i64)))))) a0)), (1, .one (.dat (.int .i64) (wadd .i64 (wadd .i64 (wadd .i64 s1.1 (1 : Int)) (1 : Int)) (1 : Int)))), (5, .one (.dat (.int .i64) s1.2)), (45, .one (.dat .bool ((((List.getD a0 (Int.toNat s1.2) ((0 : Int), (0 : Int), (0 : Int), (0 : Int))).2).2).2 != (wadd .i64 (wadd .i64 (wadd .i64 s1.1 (1 : Int)) (1 : Int)) (1 : Int)))))], [], 0⟩) hP hN (by kernel_rfl) allNil (qBlock (qThen ?_))
              have hx6 := of_some hx6
              subst hx6
              refine HT.reg (rs := [⟨none, .no⟩, ⟨none, .no⟩, ⟨none, .no⟩]) (st' := ⟨[(5, .one (.dat (.int .i64) (wadd .i64 s1.2 (1 : Int)))), (11, .one (.dat (.int .i64) (wadd .i64 s1.2 (1 : Int)))), (10, .one (.dat (.int .i64) s1.2)), (1, .one (.dat (.int .i64) (wadd .i64 (wadd .i64 (wadd .i64 (wadd .i64 s1.1 (1 : Int)) (1 : Int)) (1 : Int)) (1 : Int)))), (47, .one (.dat (.int .i64) (wadd .i64 (wadd .i64 (wadd .i64 (wadd .i64 s1.1 (1 : Int)) (1 : Int)) (1 : Int)) (1 : Int)))), (46, .one (.dat (.int .i64) (wadd .i64 (wadd .i64 (wadd .i64 s1.1 (1 : Int)) (1 : Int)) (1 : Int)))), (0, .one (.dat (.sl (.st (.pair (.int .i64) (.pair (.int .i64) (.pair (.int .i64) (.int .i64)))))) a0)), (1, .one (.dat (.int .i64) (wadd .i64 (wadd .i64 (wadd .i64 s1.1 (1 : Int)) (1 : Int)) (1 : Int)))), (5, .one (.dat (.int .i64) s1.2)), (45, .one (.dat .bool ((((List.getD a0 (Int.toNat s1.2) ((0 : Int), (0 : Int), (0 : Int), (0 : Int))).2).2).2 != (wadd .i64 (wadd .i64 (wadd .i64 s1.1 (1 : Int)) (1 : Int)) (1 : Int)))))], [], 0⟩) hP hN (by kernel_rfl) allNil (qLoopN ⟨((wadd .i64 (wadd .i64 (wadd .i64 (wadd .i64 s1.1 (1 : Int)) (1 : Int)) (1 : Int)) (1 : Int)), (wadd .i64 s1.2 (1 : Int))), rfl, Le.cv (s := ⟨[], [], [], false⟩) (own := []) (ps := [a0 = a0, (wadd .i64 (wadd .i64 (wadd .i64 (wadd .i64 s1.1 (1 : Int)) (1 : Int)) (1 : Int)) (1 : Int)) = (wadd .i64 (wadd .i64 (wadd .i64 (wadd .i64 s1.1 (1 : Int)) (1 : Int)) (1 : Int)) (1 : Int)), (wadd .i64 s1.2 (1 : Int)) = (wadd .i64 s1.2 (1 : Int))]) (st' := ⟨[(0, .one (.dat (.sl (.st (.pair (.int .i64) (.pair (.int .i64) (.pair (.int .i64) (.int .i64)))))) a0)), (1, .one (.dat (.int .i64) (wadd .i64 (wadd .i64 (wadd .i64 (wadd .i64 s1.1 (1 : Int)) (1 : Int)) (1 : Int)) (1 : Int)))), (5, .one (.dat (.int .i64) (wadd .i64 s1.2 (1 : Int))))], [], 0⟩) hO (fun h => by cases h) (by kernel_rfl) ⟨rfl, rfl, rfl, trivial⟩⟩)
    · refine HT.cond0 rfl hb8 ?_
      have hx6 := of_some hx6
      subst hx6
      refine (Le.cv (s := ⟨[], [], [], false⟩) (own := []) (ps := [s1.1 = s1.1]) (st' := ⟨[(1, .one (.dat (.int .i64) s1.1))], [], 0⟩) hO (fun h => by cases h) (by kernel_rfl) ⟨rfl, trivial⟩).ht ?_
      exact HT.exit (qThenE (qLoopE (hk7 (.inl s1.1) rfl)))

noncomputable def laws_heldInt64S_B1 (a0 : List Int) (s1 : Int × Int) : Option ((Int × Int) ⊕ (Int ⊕ Unit)) :=
  bif (decide (s1.2 < (lenI a0))) then
    guardP ((0 : Int) ≤ s1.2 ∧ s1.2 < lenI a0) (
      bif ((List.getD a0 (Int.toNat s1.2) (0 : Int)) != s1.1) then
        some (.inr (.inr ()))
      else
        some (.inl ((wadd .i64 s1.1 (1 : Int)), (wadd .i64 s1.2 (1 : Int)))))
  else
    some (.inr (.inl s1.1))

noncomputable def laws_heldInt64S (a0 : List Int) (a1 : Int) : Option (Int) :=
  (rounds (laws_heldInt64S_B1 a0) (a1, (0 : Int))).bind fun r2 => match r2 with
    | .inl r3 =>
      some r3
    | .inr r4 =>
      some (-1 : Int)

theorem f28_ok {a0 : List Int} {a1 : Int} {r : Int} (hr : laws_heldInt64S a0 a1 = some r) : CallOK Try.prog 28 [.imm (.sl (.int .i64)) a0, .imm (.int .i64) a1] [⟨false, (.int .i64), r⟩] [] := by
  unfold laws_heldInt64S at hr
  refine CallOK.of_body (ts := [(false, (.int .i64))]) Try.func28 rfl (by kernel_rfl) (Nat.le_of_ble_eq_true (by kernel_rfl)) fun cx hP hN hO hF => ?_
  have hO : cx.own.map Prod.fst = [] := hO
  have hF := hF rfl
  show HT cx ⟨[(0, .one (.dat (.sl (.int .i64)) a0)), (1, .one (.dat (.int .i64) a1))], [], 0⟩ _ _
  refine HT.reg1 [0, 1] [⟨none, .no⟩] ⟨[(0, .one (.dat (.sl (.int .i64)) a0)), (1, .one (.dat (.int .i64) a1))], [], 0⟩ hP hN (by kernel_rfl) allNil ?_
  refine HT.seq ?_
  refine HT.reg1 [0, 1, 5] [⟨none, .no⟩] ⟨[(0, .one (.dat (.sl (.int .i64)) a0)), (1, .one (.dat (.int .i64) a1)), (5, .one (.dat (.int .i64) (0 : Int)))], [], 0⟩ hP hN (by kernel_rfl) allNil ?_
  refine HT.block ?_
  obtain ⟨r2, hL11, hr⟩ := of_bind hr
  refine (Le.cv (s := ⟨[], [], [], false⟩) (own := []) (ps := [a0 = a0, a1 = a1, (0 : Int) = (0 : Int)]) (st' := ⟨[(0, .one (.dat (.sl (.int .i64)) a0)), (1, .one (.dat (.int .i64) a1)), (5, .one (.dat (.int .i64) (0 : Int)))], [], 0⟩) hO (fun h => by cases h) (by kernel_rfl) ⟨rfl, rfl, rfl, trivial⟩).ht ?_
  refine HT.loopE (s := (a1, (0 : Int))) (fun (s1 : Int × Int) => ⟨[(0, .one (.dat (.sl (.int .i64)) a0)), (1, .one (.dat (.int .i64) s1.1)), (5, .one (.dat (.int .i64) s1.2))], [], 0⟩) (fun (r2 : Int ⊕ Unit) => match r2 with | .inl r3 => (.exit 0, ⟨[(1, .one (.dat (.int .i64) r3))], [], 0⟩) | .inr r4 => (.ret, ⟨[(4, .one (.dat (.int .i64) (-1 : Int)))], [], 0⟩)) hL11 ?_ (fun s1 x5 hx6 hk7 => ?_)
  · rcases r2 with r3 | r4
    · refine (qBlockX (qThen ?_))
      refine HT.reg1 [4] [⟨none, .no⟩, ⟨none, .no⟩] ⟨[(4, .one (.dat (.int .i64) r3))], [], 0⟩ hP hN (by kernel_rfl) allNil ?_
      have hr := of_some hr
      subst hr
      exact HT.ret ⟨[.one (.dat (.int .i64) r3)], [], [], by kernel_rfl, by kernel_rfl, rfl, by kernel_rfl, by kernel_rfl, trivial⟩
    · have hr := of_some hr
      subst hr
      exact (qBlockR (qThenR ⟨[.one (.dat (.int .i64) (-1 : Int))], [], [], by kernel_rfl, by kernel_rfl, rfl, by kernel_rfl, by kernel_rfl, trivial⟩))
  · refine HT.seq ?_
    refine HT.reg1 [0, 1, 5, 9] [⟨none, .no⟩, ⟨none, .no⟩, ⟨none, .no⟩, ⟨none, .no⟩] ⟨[(0, .one (.dat (.sl (.int .i64)) a0)), (1, .one (.dat (.int .i64) s1.1)), (5, .one (.dat (.int .i64) s1.2)), (9, .one (.dat .bool (decide (s1.2 < (lenI a0)))))], [], 0⟩ hP hN (by kernel_rfl) allNil ?_
    rcases of_bif hx6 with ⟨hb8, hx6⟩ | ⟨hb8, hx6⟩
    · refine HT.cond1 rfl hb8 ?_
      refine HT.skip (qThen ?_)
      refine HT.seq ?_
      refine HT.block ?_
      refine HT.seq ?_
      obtain ⟨hg9, hx6⟩ := of_guard hx6
      refine HT.reg1 [0, 1, 5, 17] [⟨none, .no⟩, ⟨none, .no⟩, ⟨none, .no⟩, ⟨none, .no⟩, ⟨none, .no⟩, ⟨none, .no⟩] ⟨[(0, .one (.dat (.sl (.int .i64)) a0)), (1, .one (.dat (.int .i64) s1.1)), (5, .one (.dat (.int .i64) s1.2)), (17, .one (.dat .bool ((List.getD a0 (Int.toNat s1.2) (0 : Int)) != s1.1)))], [], 0⟩ hP hN (by kernel_rfl) (allCons hg9 allNil) ?_
      rcases of_bif hx6 with ⟨hb10, hx6⟩ | ⟨hb10, hx6⟩
      · refine HT.cond1 rfl hb10 ?_
        refine HT.reg1 [4] [⟨none, .no⟩] ⟨[(4, .one (.dat (.int .i64) (-1 : Int)))], [], 0⟩ hP hN (by kernel_rfl) allNil ?_
        have hx6 := of_some hx6
        subst hx6
        refine (Le.cv (s := ⟨[], [], [], false⟩) (own := []) (ps := [(-1 : Int) = (-1 : Int)]) (st' := ⟨[(4, .one (.dat (.int .i64) (-1 : Int)))], [], 0⟩) hO (fun h => by cases h) (by kernel_rfl) ⟨rfl, trivial⟩).ht ?_
        exact HT.ret (qThenR (qBlockR (qThenR (qLoopR (hk7 (.inr ()) rfl)))))
      · refine HT.cond0 rfl hb10 ?_
        refine HT.skip (qThen ?_)
        refine HT.reg (rs := [⟨none, .no⟩, ⟨none, .no⟩, ⟨none, .no⟩]) (st' := ⟨[(1, .one (.dat (.int .i64) (wadd .i64 s1.1 (1 : Int)))), (19, .one (.dat (.int .i64) (wadd .i64 s1.1 (1 : Int)))), (18, .one (.dat (.int .i64) s1.1)), (0, .one (.dat (.sl (.int .i64)) a0)), (1, .one (.dat (.int .i64) s1.1)), (5, .one (.dat (.int .i64) s1.2)), (17, .one (.dat .bool ((List.getD a0 (Int.toNat s1.2) (0 : Int)) != s1.1)))], [], 0⟩) hP hN (by kernel_rfl) allNil (qBlock (qThen ?_))
        have hx6 := of_some hx6
        subst hx6
        refine HT.reg (rs := [⟨none, .no⟩, ⟨none, .no⟩, ⟨none, .no⟩]) (st' := ⟨[(5, .one (.dat (.int .i64) (wadd .i64 s1.2 (1 : Int)))), (11, .one (.dat (.int .i64) (wadd .i64 s1.2 (1 : Int)))), (10, .one (.dat (.int .i64) s1.2)), (1, .one (.dat (.int .i64) (wadd .i64 s1.1 (1 : Int)))), (19, .one (.dat (.int .i64) (wadd .i64 s1.1 (1 : Int)))), (18, .one (.dat (.int .i64) s1.1)), (0, .one (.dat (.sl (.int .i64)) a0)), (1, .one (.dat (.int .i64) s1.1)), (5, .one (.dat (.int .i64) s1.2)), (17, .one (.dat .bool ((List.getD a0 (Int.toNat s1.2) (0 : Int)) != s1.1)))], [], 0⟩) hP hN (by kernel_rfl) allNil (qLoopN ⟨((wadd .i64 s1.1 (1 : Int)), (wadd .i64 s1.2 (1 : Int))), rfl, Le.cv (s := ⟨[], [], [], false⟩) (own := []) (ps := [a0 = a0, (wadd .i64 s1.1 (1 : Int)) = (wadd .i64 s1.1 (1 : Int)), (wadd .i64 s1.2 (1 : Int)) = (wadd .i64 s1.2 (1 : Int))]) (st' := ⟨[(0, .one (.dat (.sl (.int .i64)) a0)), (1, .one (.dat (.int .i64) (wadd .i64 s1.1 (1 : Int)))), (5, .one (.dat (.int .i64) (wadd .i64 s1.2 (1 : Int))))], [], 0⟩) hO (fun h => by cases h) (by kernel_rfl) ⟨rfl, rfl, rfl, trivial⟩⟩)
    · refine HT.cond0 rfl hb8 ?_
      have hx6 := of_some hx6
      subst hx6
      refine (Le.cv (s := ⟨[], [], [], false⟩) (own := []) (ps := [s1.1 = s1.1]) (st' := ⟨[(1, .one (.dat (.int .i64) s1.1))], [], 0⟩) hO (fun h => by cases h) (by kernel_rfl) ⟨rfl, trivial⟩).ht ?_
      exact HT.exit (qThenE (qLoopE (hk7 (.inl s1.1) rfl)))

noncomputable def laws_heldMachine (a0 : Int × Int × List (Int × Int × Int × Int) × List Int × List Int) (a1 : Int) : Option (Int) :=
  (laws_heldArcS a0.2.2.1 a1).bind fun y1 =>
  bif (decide (y1 < (0 : Int))) then
    some (-1 : Int)
  else
    (laws_heldInt64S a0.2.2.2.1 y1).bind fun y4 =>
    bif (decide (y4 < (0 : Int))) then
      some (-1 : Int)
    else
      (laws_heldInt64S a0.2.2.2.2 y4).bind fun y7 =>
      bif (decide (y7 < (0 : Int))) then
        some (-1 : Int)
      else
        some y7

theorem f25_ok {a0 : Int × Int × List (Int × Int × Int × Int) × List Int × List Int} {a1 : Int} {r : Int} (hr : laws_heldMachine a0 a1 = some r) : CallOK Try.prog 25 [.imm (.st (.pair (.int .i64) (.pair (.int .i64) (.pair (.sl (.st (.pair (.int .i64) (.pair (.int .i64) (.pair (.int .i64) (.int .i64)))))) (.pair (.sl (.int .i64)) (.sl (.int .i64))))))) a0, .imm (.int .i64) a1] [⟨false, (.int .i64), r⟩] [] := by
  unfold laws_heldMachine at hr
  refine CallOK.of_body (ts := [(false, (.int .i64))]) Try.func25 rfl (by kernel_rfl) (Nat.le_of_ble_eq_true (by kernel_rfl)) fun cx hP hN hO hF => ?_
  have hO : cx.own.map Prod.fst = [] := hO
  have hF := hF rfl
  show HT cx ⟨[(0, .agg [.dat (.int .i64) a0.1, .dat (.int .i64) a0.2.1, .dat (.sl (.st (.pair (.int .i64) (.pair (.int .i64) (.pair (.int .i64) (.int .i64)))))) a0.2.2.1, .dat (.sl (.int .i64)) a0.2.2.2.1, .dat (.sl (.int .i64)) a0.2.2.2.2]), (1, .one (.dat (.int .i64) a1))], [], 0⟩ _ _
  refine HT.reg1 [1, 2] [⟨none, .no⟩, ⟨none, .no⟩] ⟨[(1, .one (.dat (.int .i64) a1)), (2, .one (.ptr 0 0))], [(0, .box [.dat (.int .i64) a0.1, .dat (.int .i64) a0.2.1, .dat (.sl (.st (.pair (.int .i64) (.pair (.int .i64) (.pair (.int .i64) (.int .i64)))))) a0.2.2.1, .dat (.sl (.int .i64)) a0.2.2.2.1, .dat (.sl (.int .i64)) a0.2.2.2.2])], 1⟩ hP hN (by kernel_rfl) allNil ?_
  obtain ⟨y1, hc2, hr⟩ := of_bind hr
  refine HT.reg1 [1, 2] [⟨none, .no⟩, ⟨none, .no⟩, ⟨none, .no⟩, ⟨none, .call [.imm (.sl (.st (.pair (.int .i64) (.pair (.int .i64) (.pair (.int .i64) (.int .i64)))))), .imm (.int .i64)] [⟨false, (.int .i64), y1⟩] []⟩, ⟨none, .no⟩] ⟨[(1, .one (.dat (.int .i64) y1)), (2, .one (.ptr 0 0))], [(0, .box [.dat (.int .i64) a0.1, .dat (.int .i64) a0.2.1, .dat (.sl (.st (.pair (.int .i64) (.pair (.int .i64) (.pair (.int .i64) (.int .i64)))))) a0.2.2.1, .dat (.sl (.int .i64)) a0.2.2.2.1, .dat (.sl (.int .i64)) a0.2.2.2.2])], 1⟩ hP hN (by kernel_rfl) (allCons (f56_ok hc2) allNil) ?_
  refine HT.seq ?_
  refine HT.reg1 [1, 2, 10] [⟨none, .no⟩, ⟨none, .no⟩] ⟨[(1, .one (.dat (.int .i64) y1)), (2, .one (.ptr 0 0)), (10, .one (.dat .bool (decide (y1 < (0 : Int)))))], [(0, .box [.dat (.int .i64) a0.1, .dat (.int .i64) a0.2.1, .dat (.sl (.st (.pair (.int .i64) (.pair (.int .i64) (.pair (.int .i64) (.int .i64)))))) a0.2.2.1, .dat (.sl (.int .i64)) a0.2.2.2.1, .dat (.sl (.int .i64)) a0.2.2.2.2])], 1⟩ hP hN (by kernel_rfl) allNil ?_
  rcases of_bif hr with ⟨hb3, hr⟩ | ⟨hb3, hr⟩
  · refine HT.cond1 rfl hb3 ?_
    refine HT.reg1 [4] [⟨none, .no⟩] ⟨[(4, .one (.dat (.int .i64) (-1 : Int)))], [(0, .box [.dat (.int .i64) a0.1, .dat (.int .i64) a0.2.1, .dat (.sl (.st (.pair (.int .i64) (.pair (.int .i64) (.pair (.int .i64) (.int .i64)))))) a0.2.2.1, .dat (.sl (.int .i64)) a0.2.2.2.1, .dat (.sl (.int .i64)) a0.2.2.2.2])], 1⟩ hP hN (by kernel_rfl) allNil ?_
    have hr := of_some hr
    subst hr
    exact HT.ret (qThenR ⟨[.one (.dat (.int .i64) (-1 : Int))], [], [], by kernel_rfl, by kernel_rfl, rfl, by kernel_rfl, by kernel_rfl, trivial⟩)
  · refine HT.cond0 rfl hb3 ?_
    refine HT.skip (qThen ?_)
    obtain ⟨y4, hc5, hr⟩ := of_bind hr
    refine HT.reg1 [1, 2] [⟨none, .no⟩, ⟨none, .no⟩, ⟨none, .no⟩, ⟨none, .call [.imm (.sl (.int .i64)), .imm (.int .i64)] [⟨false, (.int .i64), y4⟩] []⟩, ⟨none, .no⟩] ⟨[(1, .one (.dat (.int .i64) y4)), (2, .one (.ptr 0 0))], [(0, .box [.dat (.int .i64) a0.1, .dat (.int .i64) a0.2.1, .dat (.sl (.st (.pair (.int .i64) (.pair (.int .i64) (.pair (.int .i64) (.int .i64)))))) a0.2.2.1, .dat (.sl (.int .i64)) a0.2.2.2.1, .dat (.sl (.int .i64)) a0.2.2.2.2])], 1⟩ hP hN (by kernel_rfl) (allCons (f28_ok hc5) allNil) ?_
    refine HT.seq ?_
    refine HT.reg1 [1, 2, 16] [⟨none, .no⟩, ⟨none, .no⟩] ⟨[(1, .one (.dat (.int .i64) y4)), (2, .one (.ptr 0 0)), (16, .one (.dat .bool (decide (y4 < (0 : Int)))))], [(0, .box [.dat (.int .i64) a0.1, .dat (.int .i64) a0.2.1, .dat (.sl (.st (.pair (.int .i64) (.pair (.int .i64) (.pair (.int .i64) (.int .i64)))))) a0.2.2.1, .dat (.sl (.int .i64)) a0.2.2.2.1, .dat (.sl (.int .i64)) a0.2.2.2.2])], 1⟩ hP hN (by kernel_rfl) allNil ?_
    rcases of_bif hr with ⟨hb6, hr⟩ | ⟨hb6, hr⟩
    · refine HT.cond1 rfl hb6 ?_
      refine HT.reg1 [4] [⟨none, .no⟩] ⟨[(4, .one (.dat (.int .i64) (-1 : Int)))], [(0, .box [.dat (.int .i64) a0.1, .dat (.int .i64) a0.2.1, .dat (.sl (.st (.pair (.int .i64) (.pair (.int .i64) (.pair (.int .i64) (.int .i64)))))) a0.2.2.1, .dat (.sl (.int .i64)) a0.2.2.2.1, .dat (.sl (.int .i64)) a0.2.2.2.2])], 1⟩ hP hN (by kernel_rfl) allNil ?_
      have hr := of_some hr
      subst hr
      exact HT.ret (qThenR ⟨[.one (.dat (.int .i64) (-1 : Int))], [], [], by kernel_rfl, by kernel_rfl, rfl, by kernel_rfl, by kernel_rfl, trivial⟩)
    · refine HT.cond0 rfl hb6 ?_
      refine HT.skip (qThen ?_)
      obtain ⟨y7, hc8, hr⟩ := of_bind hr
      refine HT.reg1 [1] [⟨none, .no⟩, ⟨none, .no⟩, ⟨none, .no⟩, ⟨none, .call [.imm (.sl (.int .i64)), .imm (.int .i64)] [⟨false, (.int .i64), y7⟩] []⟩, ⟨none, .no⟩] ⟨[(1, .one (.dat (.int .i64) y7))], [(0, .box [.dat (.int .i64) a0.1, .dat (.int .i64) a0.2.1, .dat (.sl (.st (.pair (.int .i64) (.pair (.int .i64) (.pair (.int .i64) (.int .i64)))))) a0.2.2.1, .dat (.sl (.int .i64)) a0.2.2.2.1, .dat (.sl (.int .i64)) a0.2.2.2.2])], 1⟩ hP hN (by kernel_rfl) (allCons (f28_ok hc8) allNil) ?_
      refine HT.seq ?_
      refine HT.reg1 [1, 22] [⟨none, .no⟩, ⟨none, .no⟩] ⟨[(1, .one (.dat (.int .i64) y7)), (22, .one (.dat .bool (decide (y7 < (0 : Int)))))], [(0, .box [.dat (.int .i64) a0.1, .dat (.int .i64) a0.2.1, .dat (.sl (.st (.pair (.int .i64) (.pair (.int .i64) (.pair (.int .i64) (.int .i64)))))) a0.2.2.1, .dat (.sl (.int .i64)) a0.2.2.2.1, .dat (.sl (.int .i64)) a0.2.2.2.2])], 1⟩ hP hN (by kernel_rfl) allNil ?_
      rcases of_bif hr with ⟨hb9, hr⟩ | ⟨hb9, hr⟩
      · refine HT.cond1 rfl hb9 ?_
        refine HT.reg1 [4] [⟨none, .no⟩] ⟨[(4, .one (.dat (.int .i64) (-1 : Int)))], [(0, .box [.dat (.int .i64) a0.1, .dat (.int .i64) a0.2.1, .dat (.sl (.st (.pair (.int .i64) (.pair (.int .i64) (.pair (.int .i64) (.int .i64)))))) a0.2.2.1, .dat (.sl (.int .i64)) a0.2.2.2.1, .dat (.sl (.int .i64)) a0.2.2.2.2])], 1⟩ hP hN (by kernel_rfl) allNil ?_
        have hr := of_some hr
        subst hr
        exact HT.ret (qThenR ⟨[.one (.dat (.int .i64) (-1 : Int))], [], [], by kernel_rfl, by kernel_rfl, rfl, by kernel_rfl, by kernel_rfl, trivial⟩)
      · refine HT.cond0 rfl hb9 ?_
        refine HT.skip (qThen ?_)
        refine HT.reg1 [4] [⟨none, .no⟩, ⟨none, .no⟩] ⟨[(4, .one (.dat (.int .i64) y7))], [(0, .box [.dat (.int .i64) a0.1, .dat (.int .i64) a0.2.1, .dat (.sl (.st (.pair (.int .i64) (.pair (.int .i64) (.pair (.int .i64) (.int .i64)))))) a0.2.2.1, .dat (.sl (.int .i64)) a0.2.2.2.1, .dat (.sl (.int .i64)) a0.2.2.2.2])], 1⟩ hP hN (by kernel_rfl) allNil ?_
        have hr := of_some hr
        subst hr
        exact HT.ret ⟨[.one (.dat (.int .i64) y7)], [], [], by kernel_rfl, by kernel_rfl, rfl, by kernel_rfl, by kernel_rfl, trivial⟩

noncomputable def laws_heldBoolS_B1 (a0 : List Bool) (s1 : Int × Int) : Option ((Int × Int) ⊕ (Int ⊕ Unit)) :=
  bif (decide (s1.2 < (lenI a0))) then
    guardP ((0 : Int) ≤ s1.2 ∧ s1.2 < lenI a0) (
      bif ((List.getD a0 (Int.toNat s1.2) false) != ((Int.tmod s1.1 (3 : Int)) == (0 : Int))) then
        some (.inr (.inr ()))
      else
        some (.inl ((wadd .i64 s1.1 (1 : Int)), (wadd .i64 s1.2 (1 : Int)))))
  else
    some (.inr (.inl s1.1))

noncomputable def laws_heldBoolS (a0 : List Bool) (a1 : Int) : Option (Int) :=
  (rounds (laws_heldBoolS_B1 a0) (a1, (0 : Int))).bind fun r2 => match r2 with
    | .inl r3 =>
      some r3
    | .inr r4 =>
      some (-1 : Int)

theorem f57_ok {a0 : List Bool} {a1 : Int} {r : Int} (hr : laws_heldBoolS a0 a1 = some r) : CallOK Try.prog 57 [.imm (.sl .bool) a0, .imm (.int .i64) a1] [⟨false, (.int .i64), r⟩] [] := by
  unfold laws_heldBoolS at hr
  refine CallOK.of_body (ts := [(false, (.int .i64))]) Try.func57 rfl (by kernel_rfl) (Nat.le_of_ble_eq_true (by kernel_rfl)) fun cx hP hN hO hF => ?_
  have hO : cx.own.map Prod.fst = [] := hO
  have hF := hF rfl
  show HT cx ⟨[(0, .one (.dat (.sl .bool) a0)), (1, .one (.dat (.int .i64) a1))], [], 0⟩ _ _
  refine HT.reg1 [0, 1] [⟨none, .no⟩] ⟨[(0, .one (.dat (.sl .bool) a0)), (1, .one (.dat (.int .i64) a1))], [], 0⟩ hP hN (by kernel_rfl) allNil ?_
  refine HT.seq ?_
  refine HT.reg1 [0, 1, 5] [⟨none, .no⟩] ⟨[(0, .one (.dat (.sl .bool) a0)), (1, .one (.dat (.int .i64) a1)), (5, .one (.dat (.int .i64) (0 : Int)))], [], 0⟩ hP hN (by kernel_rfl) allNil ?_
  refine HT.block ?_
  obtain ⟨r2, hL11, hr⟩ := of_bind hr
  refine (Le.cv (s := ⟨[], [], [], false⟩) (own := []) (ps := [a0 = a0, a1 = a1, (0 : Int) = (0 : Int)]) (st' := ⟨[(0, .one (.dat (.sl .bool) a0)), (1, .one (.dat (.int .i64) a1)), (5, .one (.dat (.int .i64) (0 : Int)))], [], 0⟩) hO (fun h => by cases h) (by kernel_rfl) ⟨rfl, rfl, rfl, trivial⟩).ht ?_
  refine HT.loopE (s := (a1, (0 : Int))) (fun (s1 : Int × Int) => ⟨[(0, .one (.dat (.sl .bool) a0)), (1, .one (.dat (.int .i64) s1.1)), (5, .one (.dat (.int .i64) s1.2))], [], 0⟩) (fun (r2 : Int ⊕ Unit) => match r2 with | .inl r3 => (.exit 0, ⟨[(1, .one (.dat (.int .i64) r3))], [], 0⟩) | .inr r4 => (.ret, ⟨[(4, .one (.dat (.int .i64) (-1 : Int)))], [], 0⟩)) hL11 ?_ (fun s1 x5 hx6 hk7 => ?_)
  · rcases r2 with r3 | r4
    · refine (qBlockX (qThen ?_))
      refine HT.reg1 [4] [⟨none, .no⟩, ⟨none, .no⟩] ⟨[(4, .one (.dat (.int .i64) r3))], [], 0⟩ hP hN (by kernel_rfl) allNil ?_
      have hr := of_some hr
      subst hr
      exact HT.ret ⟨[.one (.dat (.int .i64) r3)], [], [], by kernel_rfl, by kernel_rfl, rfl, by kernel_rfl, by kernel_rfl, trivial⟩
    · have hr := of_some hr
      subst hr
      exact (qBlockR (qThenR ⟨[.one (.dat (.int .i64) (-1 : Int))], [], [], by kernel_rfl, by kernel_rfl, rfl, by kernel_rfl, by kernel_rfl, trivial⟩))
  · refine HT.seq ?_
    refine HT.reg1 [0, 1, 5, 9] [⟨none, .no⟩, ⟨none, .no⟩, ⟨none, .no⟩, ⟨none, .no⟩] ⟨[(0, .one (.dat (.sl .bool) a0)), (1, .one (.dat (.int .i64) s1.1)), (5, .one (.dat (.int .i64) s1.2)), (9, .one (.dat .bool (decide (s1.2 < (lenI a0)))))], [], 0⟩ hP hN (by kernel_rfl) allNil ?_
    rcases of_bif hx6 with ⟨hb8, hx6⟩ | ⟨hb8, hx6⟩
    · refine HT.cond1 rfl hb8 ?_
      refine HT.skip (qThen ?_)
      refine HT.seq ?_
      refine HT.block ?_
      refine HT.seq ?_
      obtain ⟨hg9, hx6⟩ := of_guard hx6
      refine HT.reg1 [0, 1, 5, 19] [⟨none, .no⟩, ⟨none, .no⟩, ⟨none, .no⟩, ⟨none, .no⟩, ⟨none, .no⟩, ⟨none, .no⟩, ⟨none, .no⟩, ⟨none, .no⟩] ⟨[(0, .one (.dat (.sl .bool) a0)), (1, .one (.dat (.int .i64) s1.1)), (5, .one (.dat (.int .i64) s1.2)), (19, .one (.dat .bool ((List.getD a0 (Int.toNat s1.2) false) != ((Int.tmod s1.1 (3 : Int)) == (0 : Int)))))], [], 0⟩ hP hN (by kernel_rfl) (allCons hg9 (allCons (show (3 : Int) ≠ 0 from by decide) allNil)) ?_
      rcases of_bif hx6 with ⟨hb10, hx6⟩ | ⟨hb10, hx6⟩
      · refine HT.cond1 rfl hb10 ?_
        refine HT.reg1 [4] [⟨none, .no⟩] ⟨[(4, .one (.dat (.int .i64) (-1 : Int)))], [], 0⟩ hP hN (by kernel_rfl) allNil ?_
        have hx6 := of_some hx6
        subst hx6
        refine (Le.cv (s := ⟨[], [], [], false⟩) (own := []) (ps := [(-1 : Int) = (-1 : Int)]) (st' := ⟨[(4, .one (.dat (.int .i64) (-1 : Int)))], [], 0⟩) hO (fun h => by cases h) (by kernel_rfl) ⟨rfl, trivial⟩).ht ?_
        exact HT.ret (qThenR (qBlockR (qThenR (qLoopR (hk7 (.inr ()) rfl)))))
      · refine HT.cond0 rfl hb10 ?_
        refine HT.skip (qThen ?_)
        refine HT.reg (rs := [⟨none, .no⟩, ⟨none, .no⟩, ⟨none, .no⟩]) (st' := ⟨[(1, .one (.dat (.int .i64) (wadd .i64 s1.1 (1 : Int)))), (21, .one (.dat (.int .i64) (wadd .i64 s1.1 (1 : Int)))), (20, .one (.dat (.int .i64) s1.1)), (0, .one (.dat (.sl .bool) a0)), (1, .one (.dat (.int .i64) s1.1)), (5, .one (.dat (.int .i64) s1.2)), (19, .one (.dat .bool ((List.getD a0 (Int.toNat s1.2) false) != ((Int.tmod s1.1 (3 : Int)) == (0 : Int)))))], [], 0⟩) hP hN (by kernel_rfl) allNil (qBlock (qThen ?_))
        have hx6 := of_some hx6
        subst hx6
        refine HT.reg (rs := [⟨none, .no⟩, ⟨none, .no⟩, ⟨none, .no⟩]) (st' := ⟨[(5, .one (.dat (.int .i64) (wadd .i64 s1.2 (1 : Int)))), (11, .one (.dat (.int .i64) (wadd .i64 s1.2 (1 : Int)))), (10, .one (.dat (.int .i64) s1.2)), (1, .one (.dat (.int .i64) (wadd .i64 s1.1 (1 : Int)))), (21, .one (.dat (.int .i64) (wadd .i64 s1.1 (1 : Int)))), (20, .one (.dat (.int .i64) s1.1)), (0, .one (.dat (.sl .bool) a0)), (1, .one (.dat (.int .i64) s1.1)), (5, .one (.dat (.int .i64) s1.2)), (19, .one (.dat .bool ((List.getD a0 (Int.toNat s1.2) false) != ((Int.tmod s1.1 (3 : Int)) == (0 : Int)))))], [], 0⟩) hP hN (by kernel_rfl) allNil (qLoopN ⟨((wadd .i64 s1.1 (1 : Int)), (wadd .i64 s1.2 (1 : Int))), rfl, Le.cv (s := ⟨[], [], [], false⟩) (own := []) (ps := [a0 = a0, (wadd .i64 s1.1 (1 : Int)) = (wadd .i64 s1.1 (1 : Int)), (wadd .i64 s1.2 (1 : Int)) = (wadd .i64 s1.2 (1 : Int))]) (st' := ⟨[(0, .one (.dat (.sl .bool) a0)), (1, .one (.dat (.int .i64) (wadd .i64 s1.1 (1 : Int)))), (5, .one (.dat (.int .i64) (wadd .i64 s1.2 (1 : Int))))], [], 0⟩) hO (fun h => by cases h) (by kernel_rfl) ⟨rfl, rfl, rfl, trivial⟩⟩)
    · refine HT.cond0 rfl hb8 ?_
      have hx6 := of_some hx6
      subst hx6
      refine (Le.cv (s := ⟨[], [], [], false⟩) (own := []) (ps := [s1.1 = s1.1]) (st' := ⟨[(1, .one (.dat (.int .i64) s1.1))], [], 0⟩) hO (fun h => by cases h) (by kernel_rfl) ⟨rfl, trivial⟩).ht ?_
      exact HT.exit (qThenE (qLoopE (hk7 (.inl s1.1) rfl)))

noncomputable def laws_heldPlain (a0 : Int × Int × List Int × List Bool) (a1 : Int) : Option (Int) :=
  (laws_heldInt64S a0.2.2.1 a1).bind fun y1 =>
  bif (decide (y1 < (0 : Int))) then
    some (-1 : Int)
  else
    (laws_heldBoolS a0.2.2.2 y1).bind fun y4 =>
    bif (decide (y4 < (0 : Int))) then
      some (-1 : Int)
    else
      some y4

theorem f26_ok {a0 : Int × Int × List Int × List Bool} {a1 : Int} {r : Int} (hr : laws_heldPlain a0 a1 = some r) : CallOK Try.prog 26 [.imm (.st (.pair (.int .i64) (.pair (.int .i64) (.pair (.sl (.int .i64)) (.sl .bool))))) a0, .imm (.int .i64) a1] [⟨false, (.int .i64), r⟩] [] := by
  unfold laws_heldPlain at hr
  refine CallOK.of_body (ts := [(false, (.int .i64))]) Try.func26 rfl (by kernel_rfl) (Nat.le_of_ble_eq_true (by kernel_rfl)) fun cx hP hN hO hF => ?_
  have hO : cx.own.map Prod.fst = [] := hO
  have hF := hF rfl
  show HT cx ⟨[(0, .agg [.dat (.int .i64) a0.1, .dat (.int .i64) a0.2.1, .dat (.sl (.int .i64)) a0.2.2.1, .dat (.sl .bool) a0.2.2.2]), (1, .one (.dat (.int .i64) a1))], [], 0⟩ _ _
  refine HT.reg1 [1, 2] [⟨none, .no⟩, ⟨none, .no⟩] ⟨[(1, .one (.dat (.int .i64) a1)), (2, .one (.ptr 0 0))], [(0, .box [.dat (.int .i64) a0.1, .dat (.int .i64) a0.2.1, .dat (.sl (.int .i64)) a0.2.2.1, .dat (.sl .bool) a0.2.2.2])], 1⟩ hP hN (by kernel_rfl) allNil ?_
  obtain ⟨y1, hc2, hr⟩ := of_bind hr
  refine HT.reg1 [1, 2] [⟨none, .no⟩, ⟨none, .no⟩, ⟨none, .no⟩, ⟨none, .call [.imm (.sl (.int .i64)), .imm (.int .i64)] [⟨false, (.int .i64), y1⟩] []⟩, ⟨none, .no⟩] ⟨[(1, .one (.dat (.int .i64) y1)), (2, .one (.ptr 0 0))], [(0, .box [.dat (.int .i64) a0.1, .dat (.int .i64) a0.2.1, .dat (.sl (.int .i64)) a0.2.2.1, .dat (.sl .bool) a0.2.2.2])], 1⟩ hP hN (by kernel_rfl) (allCons (f28_ok hc2) allNil) ?_
  refine HT.seq ?_
  refine HT.reg1 [1, 2, 10] [⟨none, .no⟩, ⟨none, .no⟩] ⟨[(1, .one (.dat (.int .i64) y1)), (2, .one (.ptr 0 0)), (10, .one (.dat .bool (decide (y1 < (0 : Int)))))], [(0, .box [.dat (.int .i64) a0.1, .dat (.int .i64) a0.2.1, .dat (.sl (.int .i64)) a0.2.2.1, .dat (.sl .bool) a0.2.2.2])], 1⟩ hP hN (by kernel_rfl) allNil ?_
  rcases of_bif hr with ⟨hb3, hr⟩ | ⟨hb3, hr⟩
  · refine HT.cond1 rfl hb3 ?_
    refine HT.reg1 [4] [⟨none, .no⟩] ⟨[(4, .one (.dat (.int .i64) (-1 : Int)))], [(0, .box [.dat (.int .i64) a0.1, .dat (.int .i64) a0.2.1, .dat (.sl (.int .i64)) a0.2.2.1, .dat (.sl .bool) a0.2.2.2])], 1⟩ hP hN (by kernel_rfl) allNil ?_
    have hr := of_some hr
    subst hr
    exact HT.ret (qThenR ⟨[.one (.dat (.int .i64) (-1 : Int))], [], [], by kernel_rfl, by kernel_rfl, rfl, by kernel_rfl, by kernel_rfl, trivial⟩)
  · refine HT.cond0 rfl hb3 ?_
    refine HT.skip (qThen ?_)
    obtain ⟨y4, hc5, hr⟩ := of_bind hr
    refine HT.reg1 [1] [⟨none, .no⟩, ⟨none, .no⟩, ⟨none, .no⟩, ⟨none, .call [.imm (.sl .bool), .imm (.int .i64)] [⟨false, (.int .i64), y4⟩] []⟩, ⟨none, .no⟩] ⟨[(1, .one (.dat (.int .i64) y4))], [(0, .box [.dat (.int .i64) a0.1, .dat (.int .i64) a0.2.1, .dat (.sl (.int .i64)) a0.2.2.1, .dat (.sl .bool) a0.2.2.2])], 1⟩ hP hN (by kernel_rfl) (allCons (f57_ok hc5) allNil) ?_
    refine HT.seq ?_
    refine HT.reg1 [1, 16] [⟨none, .no⟩, ⟨none, .no⟩] ⟨[(1, .one (.dat (.int .i64) y4)), (16, .one (.dat .bool (decide (y4 < (0 : Int)))))], [(0, .box [.dat (.int .i64) a0.1, .dat (.int .i64) a0.2.1, .dat (.sl (.int .i64)) a0.2.2.1, .dat (.sl .bool) a0.2.2.2])], 1⟩ hP hN (by kernel_rfl) allNil ?_
    rcases of_bif hr with ⟨hb6, hr⟩ | ⟨hb6, hr⟩
    · refine HT.cond1 rfl hb6 ?_
      refine HT.reg1 [4] [⟨none, .no⟩] ⟨[(4, .one (.dat (.int .i64) (-1 : Int)))], [(0, .box [.dat (.int .i64) a0.1, .dat (.int .i64) a0.2.1, .dat (.sl (.int .i64)) a0.2.2.1, .dat (.sl .bool) a0.2.2.2])], 1⟩ hP hN (by kernel_rfl) allNil ?_
      have hr := of_some hr
      subst hr
      exact HT.ret (qThenR ⟨[.one (.dat (.int .i64) (-1 : Int))], [], [], by kernel_rfl, by kernel_rfl, rfl, by kernel_rfl, by kernel_rfl, trivial⟩)
    · refine HT.cond0 rfl hb6 ?_
      refine HT.skip (qThen ?_)
      refine HT.reg1 [4] [⟨none, .no⟩, ⟨none, .no⟩] ⟨[(4, .one (.dat (.int .i64) y4))], [(0, .box [.dat (.int .i64) a0.1, .dat (.int .i64) a0.2.1, .dat (.sl (.int .i64)) a0.2.2.1, .dat (.sl .bool) a0.2.2.2])], 1⟩ hP hN (by kernel_rfl) allNil ?_
      have hr := of_some hr
      subst hr
      exact HT.ret ⟨[.one (.dat (.int .i64) y4)], [], [], by kernel_rfl, by kernel_rfl, rfl, by kernel_rfl, by kernel_rfl, trivial⟩

noncomputable def laws_heldRuleS_B1 (a0 : List (Int × Int × Int × Int)) (s1 : Int × Int) : Option ((Int × Int) ⊕ (Int ⊕ Unit)) :=
  bif (decide (s1.2 < (lenI a0))) then
    guardP ((0 : Int) ≤ s1.2 ∧ s1.2 < lenI a0) (
      bif ((List.getD a0 (Int.toNat s1.2) ((0 : Int), (0 : Int), (0 : Int), (0 : Int))).1 != s1.1) then
        some (.inr (.inr ()))
      else
        bif (((List.getD a0 (Int.toNat s1.2) ((0 : Int), (0 : Int), (0 : Int), (0 : Int))).2).1 != (wadd .i64 s1.1 (1 : Int))) then
          some (.inr (.inr ()))
        else
          bif ((((List.getD a0 (Int.toNat s1.2) ((0 : Int), (0 : Int), (0 : Int), (0 : Int))).2).2).1 != (wadd .i64 (wadd .i64 s1.1 (1 : Int)) (1 : Int))) then
            some (.inr (.inr ()))
          else
            bif ((((List.getD a0 (Int.toNat s1.2) ((0 : Int), (0 : Int), (0 : Int), (0 : Int))).2).2).2 != (wadd .i64 (wadd .i64 (wadd .i64 s1.1 (1 : Int)) (1 : Int)) (1 : Int))) then
              some (.inr (.inr ()))
            else
              some (.inl ((wadd .i64 (wadd .i64 (wadd .i64 (wadd .i64 s1.1 (1 : Int)) (1 : Int)) (1 : Int)) (1 : Int)), (wadd .i64 s1.2 (1 : Int)))))
  else
    some (.inr (.inl s1.1))

noncomputable def laws_heldRuleS (a0 : List (Int × Int × Int × Int)) (a1 : Int) : Option (Int) :=
  (rounds (laws_heldRuleS_B1 a0) (a1, (0 : Int))).bind fun r2 => match r2 with
    | .inl r3 =>
      some r3
    | .inr r4 =>
      some (-1 : Int)

theorem f58_ok {a0 : List (Int × Int × Int × Int)} {a1 : Int} {r : Int} (hr : laws_heldRuleS a0 a1 = some r) : CallOK Try.prog 58 [.imm (.sl (.st (.pair (.int .i64) (.pair (.int .i64) (.pair (.int .i64) (.int .i64)))))) a0, .imm (.int .i64) a1] [⟨false, (.int .i64), r⟩] [] := by
  unfold laws_heldRuleS at hr
  refine CallOK.of_body (ts := [(false, (.int .i64))]) Try.func58 rfl (by kernel_rfl) (Nat.le_of_ble_eq_true (by kernel_rfl)) fun cx hP hN hO hF => ?_
  have hO : cx.own.map Prod.fst = [] := hO
  have hF := hF rfl
  show HT cx ⟨[(0, .one (.dat (.sl (.st (.pair (.int .i64) (.pair (.int .i64) (.pair (.int .i64) (.int .i64)))))) a0)), (1, .one (.dat (.int .i64) a1))], [], 0⟩ _ _
  refine HT.reg1 [0, 1] [⟨none, .no⟩] ⟨[(0, .one (.dat (.sl (.st (.pair (.int .i64) (.pair (.int .i64) (.pair (.int .i64) (.int .i64)))))) a0)), (1, .one (.dat (.int .i64) a1))], [], 0⟩ hP hN (by kernel_rfl) allNil ?_
  refine HT.seq ?_
  refine HT.reg1 [0, 1, 5] [⟨none, .no⟩] ⟨[(0, .one (.dat (.sl (.st (.pair (.int .i64) (.pair (.int .i64) (.pair (.int .i64) (.int .i64)))))) a0)), (1, .one (.dat (.int .i64) a1)), (5, .one (.dat (.int .i64) (0 : Int)))], [], 0⟩ hP hN (by kernel_rfl) allNil ?_
  refine HT.block ?_
  obtain ⟨r2, hL14, hr⟩ := of_bind hr
  refine (Le.cv (s := ⟨[], [], [], false⟩) (own := []) (ps := [a0 = a0, a1 = a1, (0 : Int) = (0 : Int)]) (st' := ⟨[(0, .one (.dat (.sl (.st (.pair (.int .i64) (.pair (.int .i64) (.pair (.int .i64) (.int .i64)))))) a0)), (1, .one (.dat (.int .i64) a1)), (5, .one (.dat (.int .i64) (0 : Int)))], [], 0⟩) hO (fun h => by cases h) (by kernel_rfl) ⟨rfl, rfl, rfl, trivial⟩).ht ?_
  refine HT.loopE (s := (a1, (0 : Int))) (fun (s1 : Int × Int) => ⟨[(0, .one (.dat (.sl (.st (.pair (.int .i64) (.pair (.int .i64) (.pair (.int .i64) (.int .i64)))))) a0)), (1, .one (.dat (.int .i64) s1.1)), (5, .one (.dat (.int .i64) s1.2))], [], 0⟩) (fun (r2 : Int ⊕ Unit) => match r2 with | .inl r3 => (.exit 0, ⟨[(1, .one (.dat (.int .i64) r3))], [], 0⟩) | .inr r4 => (.ret, ⟨[(4, .one (.dat (.int .i64) (-1 : Int)))], [], 0⟩)) hL14 ?_ (fun s1 x5 hx6 hk7 => ?_)
  · rcases r2 with r3 | r4
    · refine (qBlockX (qThen ?_))
      refine HT.reg1 [4] [⟨none, .no⟩, ⟨none, .no⟩] ⟨[(4, .one (.dat (.int .i64) r3))], [], 0⟩ hP hN (by kernel_rfl) allNil ?_
      have hr := of_some hr
      subst hr
      exact HT.ret ⟨[.one (.dat (.int .i64) r3)], [], [], by kernel_rfl, by kernel_rfl, rfl, by kernel_rfl, by kernel_rfl, trivial⟩
    · have hr := of_some hr
      subst hr
      exact (qBlockR (qThenR ⟨[.one (.dat (.int .i64) (-1 : Int))], [], [], by kernel_rfl, by kernel_rfl, rfl, by kernel_rfl, by kernel_rfl, trivial⟩))
  · refine HT.seq ?_
    refine HT.reg1 [0, 1, 5, 9] [⟨none, .no⟩, ⟨none, .no⟩, ⟨none, .no⟩, ⟨none, .no⟩] ⟨[(0, .one (.dat (.sl (.st (.pair (.int .i64) (.pair (.int .i64) (.pair (.int .i64) (.int .i64)))))) a0)), (1, .one (.dat (.int .i64) s1.1)), (5, .one (.dat (.int .i64) s1.2)), (9, .one (.dat .bool (decide (s1.2 < (lenI a0)))))], [], 0⟩ hP hN (by kernel_rfl) allNil ?_
    rcases of_bif hx6 with ⟨hb8, hx6⟩ | ⟨hb8, hx6⟩
    · refine HT.cond1 rfl hb8 ?_
      refine HT.skip (qThen ?_)
      refine HT.seq ?_
      refine HT.block ?_
      refine HT.seq ?_
      obtain ⟨hg9, hx6⟩ := of_guard hx6
      refine HT.reg1 [0, 1, 5, 18] [⟨none, .no⟩, ⟨none, .no⟩, ⟨none, .no⟩, ⟨none, .no⟩, ⟨none, .no⟩, ⟨none, .no⟩, ⟨none, .no⟩] ⟨[(0, .one (.dat (.sl (.st (.pair (.int .i64) (.pair (.int .i64) (.pair (.int .i64) (.int .i64)))))) a0)), (1, .one (.dat (.int .i64) s1.1)), (5, .one (.dat (.int .i64) s1.2)), (18, .one (.dat .bool ((List.getD a0 (Int.toNat s1.2) ((0 : Int), (0 : Int), (0 : Int), (0 : Int))).1 != s1.1)))], [], 0⟩ hP hN (by kernel_rfl) (allCons hg9 allNil) ?_
      rcases of_bif hx6 with ⟨hb10, hx6⟩ | ⟨hb10, hx6⟩
      · refine HT.cond1 rfl hb10 ?_
        refine HT.reg1 [4] [⟨none, .no⟩] ⟨[(4, .one (.dat (.int .i64) (-1 : Int)))], [], 0⟩ hP hN (by kernel_rfl) allNil ?_
        have hx6 := of_some hx6
        subst hx6
        refine (Le.cv (s := ⟨[], [], [], false⟩) (own := []) (ps := [(-1 : Int) = (-1 : Int)]) (st' := ⟨[(4, .one (.dat (.int .i64) (-1 : Int)))], [], 0⟩) hO (fun h => by cases h) (by kernel_rfl) ⟨rfl, trivial⟩).ht ?_
        exact HT.ret (qThenR (qBlockR (qThenR (qLoopR (hk7 (.inr ()) rfl)))))
      · refine HT.cond0 rfl hb10 ?_
        refine HT.skip (qThen ?_)
        refine HT.reg1 [0, 1, 5] [⟨none, .no⟩, ⟨none, .no⟩, ⟨none, .no⟩] ⟨[(0, .one (.dat (.sl (.st (.pair (.int .i64) (.pair (.int .i64) (.pair (.int .i64) (.int .i64)))))) a0)), (1, .one (.dat (.int .i64) (wadd .i64 s1.1 (1 : Int)))), (5, .one (.dat (.int .i64) s1.2))], [], 0⟩ hP hN (by kernel_rfl) allNil ?_
        refine HT.seq ?_
        refine HT.reg1 [0, 1, 5, 27] [⟨none, .no⟩, ⟨none, .no⟩, ⟨none, .no⟩, ⟨none, .no⟩, ⟨none, .no⟩, ⟨none, .no⟩, ⟨none, .no⟩] ⟨[(0, .one (.dat (.sl (.st (.pair (.int .i64) (.pair (.int .i64) (.pair (.int .i64) (.int .i64)))))) a0)), (1, .one (.dat (.int .i64) (wadd .i64 s1.1 (1 : Int)))), (5, .one (.dat (.int .i64) s1.2)), (27, .one (.dat .bool (((List.getD a0 (Int.toNat s1.2) ((0 : Int), (0 : Int), (0 : Int), (0 : Int))).2).1 != (wadd .i64 s1.1 (1 : Int)))))], [], 0⟩ hP hN (by kernel_rfl) (allCons hg9 allNil) ?_
        rcases of_bif hx6 with ⟨hb11, hx6⟩ | ⟨hb11, hx6⟩
        · refine HT.cond1 rfl hb11 ?_
          refine HT.reg1 [4] [⟨none, .no⟩] ⟨[(4, .one (.dat (.int .i64) (-1 : Int)))], [], 0⟩ hP hN (by kernel_rfl) allNil ?_
          have hx6 := of_some hx6
          subst hx6
          refine (Le.cv (s := ⟨[], [], [], false⟩) (own := []) (ps := [(-1 : Int) = (-1 : Int)]) (st' := ⟨[(4, .one (.dat (.int .i64) (-1 : Int)))], [], 0⟩) hO (fun h => by cases h) (by kernel_rfl) ⟨rfl, trivial⟩).ht ?_
          exact HT.ret (qThenR (qBlockR (qThenR (qLoopR (hk7 (.inr ()) rfl)))))
        · refine HT.cond0 rfl hb11 ?_
          refine HT.skip (qThen ?_)
          refine HT.reg1 [0, 1, 5] [⟨none, .no⟩, ⟨none, .no⟩, ⟨none, .no⟩] ⟨[(0, .one (.dat (.sl (.st (.pair (.int .i64) (.pair (.int .i64) (.pair (.int .i64) (.int .i64)))))) a0)), (1, .one (.dat (.int .i64) (wadd .i64 (wadd .i64 s1.1 (1 : Int)) (1 : Int)))), (5, .one (.dat (.int .i64) s1.2))], [], 0⟩ hP hN (by kernel_rfl) allNil ?_
          refine HT.seq ?_
          refine HT.reg1 [0, 1, 5, 36] [⟨none, .no⟩, ⟨none, .no⟩, ⟨none, .no⟩, ⟨none, .no⟩, ⟨none, .no⟩, ⟨none, .no⟩, ⟨none, .no⟩] ⟨[(0, .one (.dat (.sl (.st (.pair (.int .i64) (.pair (.int .i64) (.pair (.int .i64) (.int .i64)))))) a0)), (1, .one (.dat (.int .i64) (wadd .i64 (wadd .i64 s1.1 (1 : Int)) (1 : Int)))), (5, .one (.dat (.int .i64) s1.2)), (36, .one (.dat .bool ((((List.getD a0 (Int.toNat s1.2) ((0 : Int), (0 : Int), (0 : Int), (0 : Int))).2).2).1 != (wadd .i64 (wadd .i64 s1.1 (1 : Int)) (1 : Int)))))], [], 0⟩ hP hN (by kernel_rfl) (allCons hg9 allNil) ?_
          rcases of_bif hx6 with ⟨hb12, hx6⟩ | ⟨hb12, hx6⟩
          · refine HT.cond1 rfl hb12 ?_
            refine HT.reg1 [4] [⟨none, .no⟩] ⟨[(4, .one (.dat (.int .i64) (-1 : Int)))], [], 0⟩ hP hN (by kernel_rfl) allNil ?_
            have hx6 := of_some hx6
            subst hx6
            refine (Le.cv (s := ⟨[], [], [], false⟩) (own := []) (ps := [(-1 : Int) = (-1 : Int)]) (st' := ⟨[(4, .one (.dat (.int .i64) (-1 : Int)))], [], 0⟩) hO (fun h => by cases h) (by kernel_rfl) ⟨rfl, trivial⟩).ht ?_
            exact HT.ret (qThenR (qBlockR (qThenR (qLoopR (hk7 (.inr ()) rfl)))))
          · refine HT.cond0 rfl hb12 ?_
            refine HT.skip (qThen ?_)
            refine HT.reg1 [0, 1, 5] [⟨none, .no⟩, ⟨none, .no⟩, ⟨none, .no⟩] ⟨[(0, .one (.dat (.sl (.st (.pair (.int .i64) (.pair (.int .i64) (.pair (.int .i64) (.int .i64)))))) a0)), (1, .one (.dat (.int .i64) (wadd .i64 (wadd .i64 (wadd .i64 s1.1 (1 : Int)) (1 : Int)) (1 : Int)))), (5, .one (.dat (.int .i64) s1.2))], [], 0⟩ hP hN (by kernel_rfl) allNil ?_
            refine HT.seq ?_
            refine HT.reg1 [0, 1, 5, 45] [⟨none, .no⟩, ⟨none, .no⟩, ⟨none, .no⟩, ⟨none, .no⟩, ⟨none, .no⟩, ⟨none, .no⟩, ⟨none, .no⟩] ⟨[(0, .one (.dat (.sl (.st (.pair (.int .i64) (.pair (.int .i64) (.pair (.int .i64) (.int .i64)))))) a0)), (1, .one (.dat (.int .i64) (wadd .i64 (wadd .i64 (wadd .i64 s1.1 (1 : Int)) (1 : Int)) (1 : Int)))), (5, .one (.dat (.int .i64) s1.2)), (45, .one (.dat .bool ((((List.getD a0 (Int.toNat s1.2) ((0 : Int), (0 : Int), (0 : Int), (0 : Int))).2).2).2 != (wadd .i64 (wadd .i64 (wadd .i64 s1.1 (1 : Int)) (1 : Int)) (1 : Int)))))], [], 0⟩ hP hN (by kernel_rfl) (allCons hg9 allNil) ?_
            rcases of_bif hx6 with ⟨hb13, hx6⟩ | ⟨hb13, hx6⟩
            · refine HT.cond1 rfl hb13 ?_
              refine HT.reg1 [4] [⟨none, .no⟩] ⟨[(4, .one (.dat (.int .i64) (-1 : Int)))], [], 0⟩ hP hN (by kernel_rfl) allNil ?_
              have hx6 := of_some hx6
              subst hx6
              refine (Le.cv (s := ⟨[], [], [], false⟩) (own := []) (ps := [(-1 : Int) = (-1 : Int)]) (st' := ⟨[(4, .one (.dat (.int .i64) (-1 : Int)))], [], 0⟩) hO (fun h => by cases h) (by kernel_rfl) ⟨rfl, trivial⟩).ht ?_
              exact HT.ret (qThenR (qBlockR (qThenR (qLoopR (hk7 (.inr ()) rfl)))))
            · refine HT.cond0 rfl hb13 ?_
              refine HT.skip (qThen ?_)
              refine HT.reg (rs := [⟨none, .no⟩, ⟨none, .no⟩, ⟨none, .no⟩]) (st' := ⟨[(1, .one (.dat (.int .i64) (wadd .i64 (wadd .i64 (wadd .i64 (wadd .i64 s1.1 (1 : Int)) (1 : Int)) (1 : Int)) (1 : Int)))), (47, .one (.dat (.int .i64) (wadd .i64 (wadd .i64 (wadd .i64 (wadd .i64 s1.1 (1 : Int)) (1 : Int)) (1 : Int)) (1 : Int)))), (46, .one (.dat (.int .i64) (wadd .i64 (wadd .i64 (wadd .i64 s1.1 (1 : Int)) (1 : Int)) (1 : Int)))), (0, .one (.dat (.sl (.st (.pair (.int .i64) (.pair (.int .i64) (.pair (.int .i64) (.int .i64)))))) a0)), (1, .one (.dat (.int .i64) (wadd .i64 (wadd .i64 (wadd .i64 s1.1 (1 : Int)) (1 : Int)) (1 : Int)))), (5, .one (.dat (.int .i64) s1.2)), (45, .one (.dat .bool ((((List.getD a0 (Int.toNat s1.2) ((0 : Int), (0 : Int), (0 : Int), (0 : Int))).2).2).2 != (wadd .i64 (wadd .i64 (wadd .i64 s1.1 (1 : Int)) (1 : Int)) (1 : Int)))))], [], 0⟩) hP hN (by kernel_rfl) allNil (qBlock (qThen ?_))
              have hx6 := of_some hx6
              subst hx6
              refine HT.reg (rs := [⟨none, .no⟩, ⟨none, .no⟩, ⟨none, .no⟩]) (st' := ⟨[(5, .one (.dat (.int .i64) (wadd .i64 s1.2 (1 : Int)))), (11, .one (.dat (.int .i64) (wadd .i64 s1.2 (1 : Int)))), (10, .one (.dat (.int .i64) s1.2)), (1, .one (.dat (.int .i64) (wadd .i64 (wadd .i64 (wadd .i64 (wadd .i64 s1.1 (1 : Int)) (1 : Int)) (1 : Int)) (1 : Int)))), (47, .one (.dat (.int .i64) (wadd .i64 (wadd .i64 (wadd .i64 (wadd .i64 s1.1 (1 : Int)) (1 : Int)) (1 : Int)) (1 : Int)))), (46, .one (.dat (.int .i64) (wadd .i64 (wadd .i64 (wadd .i64 s1.1 (1 : Int)) (1 : Int)) (1 : Int)))), (0, .one (.dat (.sl (.st (.pair (.int .i64) (.pair (.int .i64) (.pair (.int .i64) (.int .i64)))))) a0)), (1, .one (.dat (.int .i64) (wadd .i64 (wadd .i64 (wadd .i64 s1.1 (1 : Int)) (1 : Int)) (1 : Int)))), (5, .one (.dat (.int .i64) s1.2)), (45, .one (.dat .bool ((((List.getD a0 (Int.toNat s1.2) ((0 : Int), (0 : Int), (0 : Int), (0 : Int))).2).2).2 != (wadd .i64 (wadd .i64 (wadd .i64 s1.1 (1 : Int)) (1 : Int)) (1 : Int)))))], [], 0⟩) hP hN (by kernel_rfl) allNil (qLoopN ⟨((wadd .i64 (wadd .i64 (wadd .i64 (wadd .i64 s1.1 (1 : Int)) (1 : Int)) (1 : Int)) (1 : Int)), (wadd .i64 s1.2 (1 : Int))), rfl, Le.cv (s := ⟨[], [], [], false⟩) (own := []) (ps := [a0 = a0, (wadd .i64 (wadd .i64 (wadd .i64 (wadd .i64 s1.1 (1 : Int)) (1 : Int)) (1 : Int)) (1 : Int)) = (wadd .i64 (wadd .i64 (wadd .i64 (wadd .i64 s1.1 (1 : Int)) (1 : Int)) (1 : Int)) (1 : Int)), (wadd .i64 s1.2 (1 : Int)) = (wadd .i64 s1.2 (1 : Int))]) (st' := ⟨[(0, .one (.dat (.sl (.st (.pair (.int .i64) (.pair (.int .i64) (.pair (.int .i64) (.int .i64)))))) a0)), (1, .one (.dat (.int .i64) (wadd .i64 (wadd .i64 (wadd .i64 (wadd .i64 s1.1 (1 : Int)) (1 : Int)) (1 : Int)) (1 : Int)))), (5, .one (.dat (.int .i64) (wadd .i64 s1.2 (1 : Int))))], [], 0⟩) hO (fun h => by cases h) (by kernel_rfl) ⟨rfl, rfl, rfl, trivial⟩⟩)
    · refine HT.cond0 rfl hb8 ?_
      have hx6 := of_some hx6
      subst hx6
      refine (Le.cv (s := ⟨[], [], [], false⟩) (own := []) (ps := [s1.1 = s1.1]) (st' := ⟨[(1, .one (.dat (.int .i64) s1.1))], [], 0⟩) hO (fun h => by cases h) (by kernel_rfl) ⟨rfl, trivial⟩).ht ?_
      exact HT.exit (qThenE (qLoopE (hk7 (.inl s1.1) rfl)))

noncomputable def laws_heldGrammar (a0 : Int × Int × List (Int × Int × Int × Int)) (a1 : Int) : Option (Int) :=
  (laws_heldRuleS a0.2.2 a1).bind fun y1 =>
  bif (decide (y1 < (0 : Int))) then
    some (-1 : Int)
  else
    some y1

theorem f27_ok {a0 : Int × Int × List (Int × Int × Int × Int)} {a1 : Int} {r : Int} (hr : laws_heldGrammar a0 a1 = some r) : CallOK Try.prog 27 [.imm (.st (.pair (.int .i64) (.pair (.int .i64) (.sl (.st (.pair (.int .i64) (.pair (.int .i64) (.pair (.int .i64) (.int .i64))))))))) a0, .imm (.int .i64) a1] [⟨false, (.int .i64), r⟩] [] := by
  unfold laws_heldGrammar at hr
  refine CallOK.of_body (ts := [(false, (.int .i64))]) Try.func27 rfl (by kernel_rfl) (Nat.le_of_ble_eq_true (by kernel_rfl)) fun cx hP hN hO hF => ?_
  have hO : cx.own.map Prod.fst = [] := hO
  have hF := hF rfl
  show HT cx ⟨[(0, .agg [.dat (.int .i64) a0.1, .dat (.int .i64) a0.2.1, .dat (.sl (.st (.pair (.int .i64) (.pair (.int .i64) (.pair (.int .i64) (.int .i64)))))) a0.2.2]), (1, .one (.dat (.int .i64) a1))], [], 0⟩ _ _
  refine HT.reg1 [1, 2] [⟨none, .no⟩, ⟨none, .no⟩] ⟨[(1, .one (.dat (.int .i64) a1)), (2, .one (.ptr 0 0))], [(0, .box [.dat (.int .i64) a0.1, .dat (.int .i64) a0.2.1, .dat (.sl (.st (.pair (.int .i64) (.pair (.int .i64) (.pair (.int .i64) (.int .i64)))))) a0.2.2])], 1⟩ hP hN (by kernel_rfl) allNil ?_
  obtain ⟨y1, hc2, hr⟩ := of_bind hr
  refine HT.reg1 [1] [⟨none, .no⟩, ⟨none, .no⟩, ⟨none, .no⟩, ⟨none, .call [.imm (.sl (.st (.pair (.int .i64) (.pair (.int .i64) (.pair (.int .i64) (.int .i64)))))), .imm (.int .i64)] [⟨false, (.int .i64), y1⟩] []⟩, ⟨none, .no⟩] ⟨[(1, .one (.dat (.int .i64) y1))], [(0, .box [.dat (.int .i64) a0.1, .dat (.int .i64) a0.2.1, .dat (.sl (.st (.pair (.int .i64) (.pair (.int .i64) (.pair (.int .i64) (.int .i64)))))) a0.2.2])], 1⟩ hP hN (by kernel_rfl) (allCons (f58_ok hc2) allNil) ?_
  refine HT.seq ?_
  refine HT.reg1 [1, 10] [⟨none, .no⟩, ⟨none, .no⟩] ⟨[(1, .one (.dat (.int .i64) y1)), (10, .one (.dat .bool (decide (y1 < (0 : Int)))))], [(0, .box [.dat (.int .i64) a0.1, .dat (.int .i64) a0.2.1, .dat (.sl (.st (.pair (.int .i64) (.pair (.int .i64) (.pair (.int .i64) (.int .i64)))))) a0.2.2])], 1⟩ hP hN (by kernel_rfl) allNil ?_
  rcases of_bif hr with ⟨hb3, hr⟩ | ⟨hb3, hr⟩
  · refine HT.cond1 rfl hb3 ?_
    refine HT.reg1 [4] [⟨none, .no⟩] ⟨[(4, .one (.dat (.int .i64) (-1 : Int)))], [(0, .box [.dat (.int .i64) a0.1, .dat (.int .i64) a0.2.1, .dat (.sl (.st (.pair (.int .i64) (.pair (.int .i64) (.pair (.int .i64) (.int .i64)))))) a0.2.2])], 1⟩ hP hN (by kernel_rfl) allNil ?_
    have hr := of_some hr
    subst hr
    exact HT.ret (qThenR ⟨[.one (.dat (.int .i64) (-1 : Int))], [], [], by kernel_rfl, by kernel_rfl, rfl, by kernel_rfl, by kernel_rfl, trivial⟩)
  · refine HT.cond0 rfl hb3 ?_
    refine HT.skip (qThen ?_)
    refine HT.reg1 [4] [⟨none, .no⟩, ⟨none, .no⟩] ⟨[(4, .one (.dat (.int .i64) y1))], [(0, .box [.dat (.int .i64) a0.1, .dat (.int .i64) a0.2.1, .dat (.sl (.st (.pair (.int .i64) (.pair (.int .i64) (.pair (.int .i64) (.int .i64)))))) a0.2.2])], 1⟩ hP hN (by kernel_rfl) allNil ?_
    have hr := of_some hr
    subst hr
    exact HT.ret ⟨[.one (.dat (.int .i64) y1)], [], [], by kernel_rfl, by kernel_rfl, rfl, by kernel_rfl, by kernel_rfl, trivial⟩

end Go.Proofs
