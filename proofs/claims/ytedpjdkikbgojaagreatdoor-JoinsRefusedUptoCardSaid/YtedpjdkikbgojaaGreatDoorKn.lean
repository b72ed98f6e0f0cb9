/- known() of the law JoinsRefused: a closed call, evaluated, parts of it apart. -/
import Derived.Test.YtedpjdkikbgojaaGreatDoorXo
import Derived.Test.YtedpjdkikbgojaaGreatDoorCd
set_option maxRecDepth 100000
open Go Go.EvC
namespace Go.Proofs.YtedpjdkikbgojaaGreatDoorK
set_option maxHeartbeats 0 in
theorem known_says : says ((evsG gl Tryz.prog pt [c0, c1, c2, c3] 1000000 1000000).call (.fn 6 []) (trH gl .leaf) 1) true = true := by kernel_rfl

theorem known_any (w : World) (hT : TabsIn gz w) : Calls Tryz.prog 6 #[] w fun e w' => e = .returned (.bool true) ∧ RowKit.Below w.heap.size w w' :=
  ev_cutG mixed pt_ok (cuts_cons ok0 (cuts_cons ok1 (cuts_cons ok2 (cuts_cons ok3 cuts_nil)))) known_says .nil w (tabs_glob hT)
end Go.Proofs.YtedpjdkikbgojaaGreatDoorK
