/- known() of the law ConsoleLong, in parts: the data. -/
import Derived.Test.YtfnieibeimklcaaGreatDoorEcV
import Derived.KernelRfl
import Derived.Test.YtfnieibeimklcaaGreatDoorProg
set_option maxRecDepth 100000
open Go Go.EvC
namespace Go.Proofs.YtfnieibeimklcaaGreatDoorK
theorem mixed : Tryz.prog.follows .mixedOrders = true := by kernel_rfl
abbrev I (n : Nat) : AV := .int .i64 (.ofNat n)
abbrev B (n : Nat) : AV := .int .u8 (.ofNat n)
abbrev L : Tr AV := .leaf
abbrev N (v : AV) : Tr AV := .node (some v) .leaf .leaf
def o0 : AObj := .glob [(B 0), (B 0), (B 0), (B 0), (B 0), (B 0), (B 0), (B 0), (B 0), (B 1), (B 1), (B 1), (B 1), (B 1), (B 0), (B 0), (B 0), (B 0), (B 0), (B 0), (B 0), (B 0), (B 0), (B 0), (B 0), (B 0), (B 0), (B 0), (B 0), (B 0), (B 0), (B 0), (B 1), (B 0), (B 0), (B 0), (B 0), (B 0), (B 0), (B 0), (B 0), (B 0), (B 0), (B 0), (B 0), (B 0), (B 0), (B 0), (B 0), (B 0), (B 0), (B 0), (B 0), (B 0), (B 0), (B 0), (B 0), (B 0), (B 0), (B 0), (B 0), (B 0), (B 0), (B 0), (B 0), (B 0), (B 0), (B 0), (B 0), (B 0), (B 0), (B 0), (B 0), (B 0), (B 0), (B 0), (B 0), (B 0), (B 0), (B 0), (B 0), (B 0), (B 0), (B 0), (B 0), (B 0), (B 0), (B 0), (B 0), (B 0), (B 0), (B 0), (B 0), (B 0), (B 0), (B 0), (B 0), (B 0), (B 0), (B 0), (B 0), (B 0), (B 0), (B 0), (B 0), (B 0), (B 0), (B 0), (B 0), (B 0), (B 0), (B 0), (B 0), (B 0), (B 0), (B 0), (B 0), (B 0), (B 0), (B 0), (B 0), (B 0), (B 0), (B 0), (B 0), (B 0), (B 0), (B 0), (B 0), (B 0), (B 0), (B 0), (B 0), (B 0), (B 0), (B 0), (B 0), (B 0), (B 0), (B 0), (B 0), (B 0), (B 0), (B 0), (B 0), (B 0), (B 0), (B 0), (B 0), (B 0), (B 0), (B 0), (B 0), (B 0), (B 0), (B 0), (B 0), (B 0), (B 0), (B 0), (B 0), (B 0), (B 0), (B 0), (B 0), (B 0), (B 0), (B 0), (B 0), (B 0), (B 0), (B 0), (B 0), (B 0), (B 0), (B 0), (B 0), (B 0), (B 0), (B 0), (B 0), (B 0), (B 0), (B 0), (B 0), (B 0), (B 0), (B 0), (B 0), (B 0), (B 0), (B 0), (B 0), (B 0), (B 0), (B 0), (B 0), (B 0), (B 0), (B 0), (B 0), (B 0), (B 0), (B 0), (B 0), (B 0), (B 0), (B 0), (B 0), (B 0), (B 0), (B 0), (B 0), (B 0), (B 0), (B 0), (B 0), (B 0), (B 0), (B 0), (B 0), (B 0), (B 0), (B 0), (B 0), (B 0), (B 0), (B 0), (B 0), (B 0), (B 0), (B 0), (B 0), (B 0), (B 0), (B 0), (B 0), (B 0), (B 0), (B 0), (B 0), (B 0), (B 0), (B 0), (B 0), (B 0), (B 0), (B 0), (B 0), (B 0), (B 0), (B 0), (B 0), (B 0), (B 0), (B 0)]
def o1 : AObj := .glob [(B 0), (B 1), (B 56), (B 2), (B 57), (B 49), (B 28), (B 3), (B 61), (B 58), (B 42), (B 50), (B 38), (B 29), (B 17), (B 4), (B 62), (B 47), (B 59), (B 36), (B 45), (B 43), (B 51), (B 22), (B 53), (B 39), (B 33), (B 30), (B 24), (B 18), (B 12), (B 5), (B 63), (B 55), (B 48), (B 27), (B 60), (B 41), (B 37), (B 16), (B 46), (B 35), (B 44), (B 21), (B 52), (B 32), (B 23), (B 11), (B 54), (B 26), (B 40), (B 15), (B 34), (B 20), (B 31), (B 10), (B 25), (B 14), (B 19), (B 9), (B 13), (B 8), (B 7), (B 6)]
def o2 : AObj := .cells 5 L [(B 108), (B 111), (B 111), (B 112), (B 101), (B 114), (B 32), (B 97), (B 59), (B 32), (B 109), (B 97), (B 105), (B 110), (B 32), (B 123), (B 32), (B 108), (B 111), (B 103), (B 32), (B 55), (B 59), (B 32), (B 125), (B 10)] 26 true
def o3 : AObj := .cells 528 L [(I 2), (.str 6 125780003614572), (I 0), (I 1), (I 1), (I 1), (.str 1 97), (I 0), (I 1), (I 8), (I 4), (.str 1 59), (I 0), (I 1), (I 9), (I 2), (.str 4 1852399981), (I 0), (I 1), (I 11), (I 4), (.str 1 123), (I 0), (I 1), (I 16), (I 2), (.str 3 6778732), (I 0), (I 1), (I 18), (I 3), (.str 1 55), (I 7), (I 1), (I 22), (I 4), (.str 1 59), (I 0), (I 1), (I 23), (I 4), (.str 1 125), (I 0), (I 1), (I 25)] 45 true
def o4 : AObj := .cells 536 (N (.slo 503 20 5 5)) [(.slo 503 0 9 5), (I 0)] 2 false
def o5 : AObj := .cells 534 L [(.ptr 524 0)] 1 false
def o6 : AObj := .cells 536 (.node (some (.sle 503)) (N (I 0)) L) [(.slo 503 0 9 5), (I 0)] 2 false
def o7 : AObj := .cells 689 (.node none L (.node none L (N (.slo 882 0 1 1)))) [(I 12), (.str 0 0), (I 0), (I 1), (I 16), .sl0, .sl0] 7 false
def o8 : AObj := .cells 539 L [(.ptr 975 0)] 1 true
def o9 : AObj := .cells 539 L [(.ptr 954 0)] 1 false
def o10 : AObj := .cells 689 (.node none L (N (I 7))) [(I 26), (.str 0 0), (I 0), (I 1), (I 22), .sl0, .sl0] 7 false
def o11 : AObj := .cells 689 L [(I 18), (.str 0 0), (I 0), (I 1), (I 18), .sl0, (.sl 915 0 1 1)] 7 false
def o12 : AObj := .cells 536 L [(.slo 503 0 9 5), (I 0)] 2 false
def o13 : AObj := .cells 689 (.node none L (.node none L (N (.slo 670 0 2 1)))) [(I 1), (.str 0 0), (I 0), (I 1), (I 1), .sl0, .sl0] 7 false
def o14 : AObj := .cells 689 (.node none (N (.str 1 97)) L) [(I 2), (.str 0 0), (I 0), (I 1), (I 1), .sl0, .sl0] 7 false
def o15 : AObj := .cells 539 L [(.ptr 659 0), (.ptr 1079 0)] 2 true
def o16 : AObj := .cells 539 L [(.ptr 868 0)] 1 false
def o17 : AObj := .cells 689 L [(I 11), (.str 0 0), (I 0), (I 1), (I 11), .sl0, (.sl 769 0 1 1)] 7 false
def o18 : AObj := .cells 3 L [(I 1), (I 2)] 2 true
def o19 : AObj := .cells 3 L [(I 3)] 1 true
def o20 : AObj := .cells 3 L [(I 4)] 1 true
def o21 : AObj := .cells 3 L [(I 5)] 1 true
def o22 : AObj := .cells 355 (.node none (.node none (.node none (.node none L (N (.slo 1148 0 1 1))) (.node none (.node none (N .sl0) L) L)) (.node (some (.slo 1114 0 2 1)) (.node none (N (.slo 1131 0 1 1)) L) (.node none L (N (.slo 1165 0 1 1))))) L) [(I 1), (.str 0 0), (I 0), (I 1), (I 1), .sl0, (I 2), (.str 1 97), (I 0), (I 1), (I 1), .sl0, (I 11), (.str 0 0), (I 0), (I 1), (I 11), .sl0, (I 12), (.str 0 0), (I 0), (I 1), (I 16), .sl0, (I 18), (.str 0 0), (I 0), (I 1), (I 18), .sl0, (I 26), (.str 0 0), (I 7), (I 1), (I 22), .sl0] 36 true
def o23 : AObj := .cells 547 L [(I 0), (I 0)] 12 false
def o24 : AObj := .cells 3 (.node (some (.int .i64 (.negSucc 0))) (.node (some (.int .i64 (.negSucc 0))) (N (I 0)) (N (I 0))) (.node (some (.int .i64 (.negSucc 0))) (N (I 0)) L)) [(I 0)] 6 false
def o25 : AObj := .cells 3 L [(I 1)] 1 true
def o26 : AObj := .cells 376 L [(I 2), (.int .i64 (.negSucc 0)), (.str 4 1852399981), .sl0] 4 true
def o27 : AObj := .cells 5 L [] 0 true
def o28 : AObj := .cells 86 L [(I 1), (I 1), (I 13), (I 1), (I 1), (I 13)] 6 true
def o29 : AObj := .map [⟨(.str 5 491328398945), (.agg [(.bool true)]), 0⟩, ⟨(.str 3 7500385), (.agg [(.bool true)]), 1⟩, ⟨(.str 4 1819042147), (.agg [(.bool true)]), 2⟩, ⟨(.str 6 119182715674979), (.agg [(.bool true)]), 3⟩, ⟨(.str 5 495857003619), (.agg [(.bool true)]), 4⟩, ⟨(.str 4 1886220131), (.agg [(.bool true)]), 5⟩, ⟨(.str 6 111550524650083), (.agg [(.bool true)]), 6⟩, ⟨(.str 7 34181009552663908), (.agg [(.bool true)]), 7⟩, ⟨(.str 7 28548142445324644), (.agg [(.bool true)]), 8⟩, ⟨(.str 4 1702063205), (.agg [(.bool true)]), 9⟩, ⟨(.str 6 111516181425765), (.agg [(.bool true)]), 10⟩, ⟨(.str 5 500068349541), (.agg [(.bool true)]), 11⟩, ⟨(.str 2 28262), (.agg [(.bool true)]), 12⟩, ⟨(.str 5 500069003878), (.agg [(.bool true)]), 13⟩, ⟨(.str 4 1684955496), (.agg [(.bool true)]), 14⟩, ⟨(.str 2 26217), (.agg [(.bool true)]), 15⟩, ⟨(.str 3 7630441), (.agg [(.bool true)]), 16⟩, ⟨(.str 2 29801), (.agg [(.bool true)]), 17⟩, ⟨(.str 4 1852403562), (.agg [(.bool true)]), 18⟩, ⟨(.str 3 7234924), (.agg [(.bool true)]), 19⟩, ⟨(.str 3 6778732), (.agg [(.bool true)]), 20⟩, ⟨(.str 6 125780003614572), (.agg [(.bool true)]), 21⟩, ⟨(.str 4 1852399981), (.agg [(.bool true)]), 22⟩, ⟨(.str 3 7824750), (.agg [(.bool true)]), 23⟩, ⟨(.str 4 1819047278), (.agg [(.bool true)]), 24⟩, ⟨(.str 3 6710895), (.agg [(.bool true)]), 25⟩, ⟨(.str 2 28271), (.agg [(.bool true)]), 26⟩, ⟨(.str 4 1953722224), (.agg [(.bool true)]), 27⟩, ⟨(.str 6 121437875889522), (.agg [(.bool true)]), 28⟩, ⟨(.str 5 474449277043), (.agg [(.bool true)]), 29⟩, ⟨(.str 5 500135195763), (.agg [(.bool true)]), 30⟩, ⟨(.str 4 1886352499), (.agg [(.bool true)]), 31⟩, ⟨(.str 2 28532), (.agg [(.bool true)]), 32⟩, ⟨(.str 3 7040884), (.agg [(.bool true)]), 33⟩, ⟨(.str 3 7496054), (.agg [(.bool true)]), 34⟩, ⟨(.str 5 435610544247), (.agg [(.bool true)]), 35⟩] 36
def c0 : Cut := ⟨185, [(.slo 106 0 26 1)], 112, [(0, o0), (7, o1), (106, o2)], (.tup [(.slo 503 0 9 5), .sl0]), [(0, o0), (7, o1), (106, o2), (503, o3)], 520⟩
def c1 : Cut := ⟨665, [(.ptr 524 0), (.str 1 123), (.fn (.func 666) [] [(.ptr 772 0)])], 774, [(0, o0), (7, o1), (503, o3), (524, o4), (772, o5)], (.ptr 868 0), [(0, o0), (7, o1), (503, o3), (524, o6), (772, o5), (868, o7), (882, o8), (915, o9), (954, o10), (975, o11)], 1078⟩
def c2 : Cut := ⟨309, [(.ptr 524 0)], 526, [(0, o0), (7, o1), (503, o3), (524, o12)], (.ptr 528 0), [(0, o0), (7, o1), (503, o3), (524, o6), (528, o13), (659, o14), (670, o15), (769, o16), (868, o7), (882, o8), (915, o9), (954, o10), (975, o11), (1079, o17)], 1080⟩
def c3 : Cut := ⟨103, [(.agg [(.slo 1177 0 6 6)])], 1192, [(0, o0), (7, o1), (1114, o18), (1131, o19), (1148, o20), (1165, o21), (1177, o22)], (.tup [(.agg [(.sl 1885 0 6 6), (.sl 1889 0 6 6), (.slo 1945 0 1 1), .sl0, .sl0, .sl0, .sl0, (.slo 2189 0 1 4), (I 0)]), .sl0]), [(0, o0), (7, o1), (1114, o18), (1131, o19), (1148, o20), (1165, o21), (1177, o22), (1885, o23), (1889, o24), (1945, o25), (2189, o26)], 2326⟩
def c4 : Cut := ⟨49, [(.slo 4634 0 0 1)], 4636, [(0, o0), (7, o1), (4634, o27)], (.tup [(.agg [.sl0, .sl0, .sl0, .sl0, .sl0, .sl0, (I 0), .sl0]), (.slo 5126 0 2 3), (I 0)]), [(0, o0), (7, o1), (4634, o27), (5126, o28)], 5173⟩
def w0 : Cut := ⟨300, [], 12, [(0, o0), (7, o1)], (.map 12), [(0, o0), (7, o1), (12, o29)], 87⟩
def gz : GZ := [(0, .u8, [0, 0, 0, 0, 0, 0, 0, 0, 0, 1, 1, 1, 1, 1, 0, 0, 0, 0, 0, 0, 0, 0, 0, 0, 0, 0, 0, 0, 0, 0, 0, 0, 1, 0, 0, 0, 0, 0, 0, 0, 0, 0, 0, 0, 0, 0, 0, 0, 0, 0, 0, 0, 0, 0, 0, 0, 0, 0, 0, 0, 0, 0, 0, 0, 0, 0, 0, 0, 0, 0, 0, 0, 0, 0, 0, 0, 0, 0, 0, 0, 0, 0, 0, 0, 0, 0, 0, 0, 0, 0, 0, 0, 0, 0, 0, 0, 0, 0, 0, 0, 0, 0, 0, 0, 0, 0, 0, 0, 0, 0, 0, 0, 0, 0, 0, 0, 0, 0, 0, 0, 0, 0, 0, 0, 0, 0, 0, 0, 0, 0, 0, 0, 0, 0, 0, 0, 0, 0, 0, 0, 0, 0, 0, 0, 0, 0, 0, 0, 0, 0, 0, 0, 0, 0, 0, 0, 0, 0, 0, 0, 0, 0, 0, 0, 0, 0, 0, 0, 0, 0, 0, 0, 0, 0, 0, 0, 0, 0, 0, 0, 0, 0, 0, 0, 0, 0, 0, 0, 0, 0, 0, 0, 0, 0, 0, 0, 0, 0, 0, 0, 0, 0, 0, 0, 0, 0, 0, 0, 0, 0, 0, 0, 0, 0, 0, 0, 0, 0, 0, 0, 0, 0, 0, 0, 0, 0, 0, 0, 0, 0, 0, 0, 0, 0, 0, 0, 0, 0, 0, 0, 0, 0, 0, 0, 0, 0, 0, 0, 0, 0, 0, 0, 0, 0, 0, 0]), (7, .u8, [0, 1, 56, 2, 57, 49, 28, 3, 61, 58, 42, 50, 38, 29, 17, 4, 62, 47, 59, 36, 45, 43, 51, 22, 53, 39, 33, 30, 24, 18, 12, 5, 63, 55, 48, 27, 60, 41, 37, 16, 46, 35, 44, 21, 52, 32, 23, 11, 54, 26, 40, 15, 34, 20, 31, 10, 25, 14, 19, 9, 13, 8, 7, 6])]
def gl : List (Nat × AObj) := tabG gz
def pe0_0 : List AV × AV := ([(.str 1 59)], (.bool false))
def pe0_1 : List AV × AV := ([(.str 3 6778732)], (.bool true))
def pl0 : List (List AV × AV) := [pe0_0, pe0_1]
def pt : Pures := [(670, pl0)]
end Go.Proofs.YtfnieibeimklcaaGreatDoorK
section
set_option maxRecDepth 100000
open Go Go.EvC
namespace Go.Proofs.YtfnieibeimklcaaGreatDoorK
set_option maxHeartbeats 0 in
theorem w0f : cutB ((evsG gl Tryz.prog [] [] 1000000 1000000).call (.fn w0.g w0.args) (trH w0.hin .leaf) w0.nx0) w0 = true := by kernel_rfl
end Go.Proofs.YtfnieibeimklcaaGreatDoorK
end
section
set_option maxRecDepth 100000
open Go Go.EvC
namespace Go.Proofs.YtfnieibeimklcaaGreatDoorK
/-- What is looked at. -/
noncomputable def pB0 : List AV × AV → Bool := fun p => cond (allL scal2 p.1) (cond (scal2 p.2) (valB ((evsG gl Tryz.prog [] [w0] 1000000 1000000).call (.fn 670 p.1) (trH gl .leaf) 11) p.2) false) false
set_option maxHeartbeats 0 in
theorem pf0_0 : pB0 pe0_0 = true := by kernel_rfl
set_option maxHeartbeats 0 in
theorem pf0_1 : pB0 pe0_1 = true := by kernel_rfl
end Go.Proofs.YtfnieibeimklcaaGreatDoorK
end
