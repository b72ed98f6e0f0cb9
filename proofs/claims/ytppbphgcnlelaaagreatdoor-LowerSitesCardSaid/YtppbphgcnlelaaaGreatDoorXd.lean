/- known() of the law LowerSites, in parts: the data. -/
import Derived.Test.YtppbphgcnlelaaaGreatDoorCd
import Derived.KernelRfl
import Derived.Test.YtppbphgcnlelaaaGreatDoorProg
set_option maxRecDepth 100000
open Go Go.EvC
namespace Go.Proofs.YtppbphgcnlelaaaGreatDoorK
theorem mixed : Tryz.prog.follows .mixedOrders = true := by kernel_rfl
abbrev I (n : Nat) : AV := .int .i64 (.ofNat n)
abbrev B (n : Nat) : AV := .int .u8 (.ofNat n)
abbrev L : Tr AV := .leaf
abbrev N (v : AV) : Tr AV := .node (some v) .leaf .leaf
def o0 : AObj := .glob [(B 0), (B 0), (B 0), (B 0), (B 0), (B 0), (B 0), (B 0), (B 0), (B 1), (B 1), (B 1), (B 1), (B 1), (B 0), (B 0), (B 0), (B 0), (B 0), (B 0), (B 0), (B 0), (B 0), (B 0), (B 0), (B 0), (B 0), (B 0), (B 0), (B 0), (B 0), (B 0), (B 1), (B 0), (B 0), (B 0), (B 0), (B 0), (B 0), (B 0), (B 0), (B 0), (B 0), (B 0), (B 0), (B 0), (B 0), (B 0), (B 0), (B 0), (B 0), (B 0), (B 0), (B 0), (B 0), (B 0), (B 0), (B 0), (B 0), (B 0), (B 0), (B 0), (B 0), (B 0), (B 0), (B 0), (B 0), (B 0), (B 0), (B 0), (B 0), (B 0), (B 0), (B 0), (B 0), (B 0), (B 0), (B 0), (B 0), (B 0), (B 0), (B 0), (B 0), (B 0), (B 0), (B 0), (B 0), (B 0), (B 0), (B 0), (B 0), (B 0), (B 0), (B 0), (B 0), (B 0), (B 0), (B 0), (B 0), (B 0), (B 0), (B 0), (B 0), (B 0), (B 0), (B 0), (B 0), (B 0), (B 0), (B 0), (B 0), (B 0), (B 0), (B 0), (B 0), (B 0), (B 0), (B 0), (B 0), (B 0), (B 0), (B 0), (B 0), (B 0), (B 0), (B 0), (B 0), (B 0), (B 0), (B 0), (B 0), (B 0), (B 0), (B 0), (B 0), (B 0), (B 0), (B 0), (B 0), (B 0), (B 0), (B 0), (B 0), (B 0), (B 0), (B 0), (B 0), (B 0), (B 0), (B 0), (B 0), (B 0), (B 0), (B 0), (B 0), (B 0), (B 0), (B 0), (B 0), (B 0), (B 0), (B 0), (B 0), (B 0), (B 0), (B 0), (B 0), (B 0), (B 0), (B 0), (B 0), (B 0), (B 0), (B 0), (B 0), (B 0), (B 0), (B 0), (B 0), (B 0), (B 0), (B 0), (B 0), (B 0), (B 0), (B 0), (B 0), (B 0), (B 0), (B 0), (B 0), (B 0), (B 0), (B 0), (B 0), (B 0), (B 0), (B 0), (B 0), (B 0), (B 0), (B 0), (B 0), (B 0), (B 0), (B 0), (B 0), (B 0), (B 0), (B 0), (B 0), (B 0), (B 0), (B 0), (B 0), (B 0), (B 0), (B 0), (B 0), (B 0), (B 0), (B 0), (B 0), (B 0), (B 0), (B 0), (B 0), (B 0), (B 0), (B 0), (B 0), (B 0), (B 0), (B 0), (B 0), (B 0), (B 0), (B 0), (B 0), (B 0), (B 0), (B 0), (B 0), (B 0), (B 0), (B 0), (B 0), (B 0), (B 0), (B 0), (B 0), (B 0), (B 0), (B 0), (B 0), (B 0)]
def o1 : AObj := .cells 5 L [(B 108), (B 111), (B 111), (B 112), (B 101), (B 114), (B 32), (B 97), (B 59), (B 32), (B 118), (B 97), (B 114), (B 32), (B 102), (B 32), (B 105), (B 110), (B 116), (B 59), (B 32), (B 118), (B 97), (B 114), (B 32), (B 103), (B 32), (B 105), (B 110), (B 116), (B 59), (B 32), (B 109), (B 97), (B 105), (B 110), (B 32), (B 123), (B 32), (B 118), (B 97), (B 114), (B 32), (B 120), (B 32), (B 105), (B 110), (B 116), (B 32), (B 61), (B 32), (B 49), (B 59), (B 32), (B 103), (B 32), (B 61), (B 32), (B 120), (B 32), (B 43), (B 32), (B 50), (B 59), (B 32), (B 125)] 66 false
def o2 : AObj := .cells 3 L [(I 3)] 1 true
def o3 : AObj := .cells 3 L [(I 5)] 1 true
def o4 : AObj := .cells 3 L [(I 1), (I 2), (I 4), (I 6)] 4 true
def o5 : AObj := .cells 3 L [(I 7)] 1 true
def o6 : AObj := .cells 3 L [(I 9), (I 10)] 2 true
def o7 : AObj := .cells 3 L [(I 8), (I 11)] 2 true
def o8 : AObj := .cells 3 L [(I 12), (I 13)] 2 true
def o9 : AObj := .cells 3 L [(I 14), (I 15)] 2 true
def o10 : AObj := .cells 80 (.node none (.node none (.node none (.node none (.node none (.node none L (N .sl0)) (N (.slo 1944 0 2 1))) (.node none (.node none (N (.slo 1979 0 2 1)) L) L)) (.node none (.node none L (.node none (N (.slo 2014 0 2 1)) L)) L)) (.node (some (.slo 1856 0 4 1)) (.node none L (.node none (N (.slo 1873 0 1 1)) L)) L)) L) [(I 1), (.str 0 0), (I 0), (I 1), (I 1), .sl0, (I 2), (.str 1 97), (I 0), (I 1), (I 1), .sl0, (I 6), (.str 1 102), (I 0), (I 1), (I 11), (.slo 1801 0 1 1), (I 5), (.str 3 7630441), (I 0), (I 1), (I 17), .sl0, (I 6), (.str 1 103), (I 0), (I 1), (I 22), (.slo 1837 0 1 1), (I 5), (.str 3 7630441), (I 0), (I 1), (I 28), .sl0, (I 11), (.str 0 0), (I 0), (I 1), (I 33), .sl0, (I 12), (.str 0 0), (I 0), (I 1), (I 38), .sl0, (I 13), (.str 1 120), (I 0), (I 1), (I 40), (.slo 1925 0 2 1), (I 5), (.str 3 7630441), (I 0), (I 1), (I 46), .sl0, (I 26), (.str 0 0), (I 1), (I 1), (I 52), .sl0, (I 14), (.str 0 0), (I 0), (I 1), (I 55), .sl0, (I 29), (.str 1 103), (I 0), (I 1), (I 55), .sl0, (I 32), (.str 1 43), (I 0), (I 1), (I 61), .sl0, (I 29), (.str 1 120), (I 0), (I 1), (I 59), .sl0, (I 26), (.str 0 0), (I 2), (I 1), (I 63), .sl0] 96 true
def o11 : AObj := .cells 136 (.node none (.node none L (.node none (.node none L (N (I 1))) (.node none L (N (I 8))))) (.node none (.node none (.node none L (N (I 2))) (.node none L (N (I 1)))) L)) [(I 0), (I 0)] 32 false
def o12 : AObj := .cells 3 (.node (some (.int .i64 (.negSucc 0))) (.node (some (.int .i64 (.negSucc 0))) (.node (some (.int .i64 (.negSucc 0))) (.node (some (I 0)) (N (I 0)) L) (N (I 0))) (.node (some (.int .i64 (.negSucc 0))) (N (I 0)) (N (I 0)))) (.node (some (.int .i64 (.negSucc 0))) (.node (some (.int .i64 (.negSucc 0))) (N (I 0)) (N (I 0))) (.node (some (.int .i64 (.negSucc 0))) (N (I 0)) (N (I 0))))) [(I 0)] 16 false
def o13 : AObj := .cells 3 L [(I 1)] 1 true
def o14 : AObj := .cells 3 L [(I 2), (I 4)] 2 true
def o15 : AObj := .cells 103 L [(I 6), (.int .i64 (.negSucc 0)), (.str 4 1852399981), .sl0] 4 true
def o16 : AObj := .cells 5 L [(B 108), (B 111), (B 111), (B 112), (B 101), (B 114), (B 32), (B 97), (B 59), (B 32), (B 109), (B 97), (B 105), (B 110), (B 32), (B 123), (B 32), (B 118), (B 97), (B 114), (B 32), (B 120), (B 32), (B 105), (B 110), (B 116), (B 32), (B 61), (B 32), (B 49), (B 59), (B 32), (B 99), (B 97), (B 108), (B 108), (B 32), (B 102), (B 110), (B 32), (B 123), (B 32), (B 120), (B 32), (B 61), (B 32), (B 105), (B 116), (B 59), (B 32), (B 125), (B 59), (B 32), (B 125)] 54 false
def o17 : AObj := .cells 3 L [(I 1), (I 2)] 2 true
def o18 : AObj := .cells 3 L [(I 5), (I 6)] 2 true
def o19 : AObj := .cells 3 L [(I 4), (I 7)] 2 true
def o20 : AObj := .cells 3 L [(I 8)] 1 true
def o21 : AObj := .cells 3 L [(I 9)] 1 true
def o22 : AObj := .cells 3 L [(I 10)] 1 true
def o23 : AObj := .cells 3 L [(I 11), (I 12)] 2 true
def o24 : AObj := .cells 80 (.node none (.node none (.node none (.node none (.node none L (N (.slo 7595 0 1 1))) (N (.slo 7578 0 2 1))) (.node none L (.node none L (N (.slo 7629 0 1 1))))) (.node (some (.slo 7490 0 2 1)) (.node none (.node (some (.slo 7507 0 1 1)) (.node none (N (.slo 7664 0 2 1)) L) L) L) (.node none (.node none L (N (.slo 7612 0 1 1))) (.node none (.node none (N .sl0) L) L)))) L) [(I 1), (.str 0 0), (I 0), (I 1), (I 1), .sl0, (I 2), (.str 1 97), (I 0), (I 1), (I 1), .sl0, (I 11), (.str 0 0), (I 0), (I 1), (I 11), .sl0, (I 12), (.str 0 0), (I 0), (I 1), (I 16), .sl0, (I 13), (.str 1 120), (I 0), (I 1), (I 18), (.slo 7559 0 2 1), (I 5), (.str 3 7630441), (I 0), (I 1), (I 24), .sl0, (I 26), (.str 0 0), (I 1), (I 1), (I 30), .sl0, (I 15), (.str 0 0), (I 0), (I 1), (I 33), .sl0, (I 36), (.str 0 0), (I 0), (I 1), (I 38), .sl0, (I 12), (.str 0 0), (I 0), (I 1), (I 41), .sl0, (I 14), (.str 0 0), (I 0), (I 1), (I 43), .sl0, (I 29), (.str 1 120), (I 0), (I 1), (I 43), .sl0, (I 28), (.str 0 0), (I 0), (I 1), (I 47), .sl0] 78 true
def o25 : AObj := .map [⟨(.str 5 491328398945), (.agg [(.bool true)]), 0⟩, ⟨(.str 3 7500385), (.agg [(.bool true)]), 1⟩, ⟨(.str 4 1819042147), (.agg [(.bool true)]), 2⟩, ⟨(.str 6 119182715674979), (.agg [(.bool true)]), 3⟩, ⟨(.str 5 495857003619), (.agg [(.bool true)]), 4⟩, ⟨(.str 4 1886220131), (.agg [(.bool true)]), 5⟩, ⟨(.str 6 111550524650083), (.agg [(.bool true)]), 6⟩, ⟨(.str 7 34181009552663908), (.agg [(.bool true)]), 7⟩, ⟨(.str 7 28548142445324644), (.agg [(.bool true)]), 8⟩, ⟨(.str 4 1702063205), (.agg [(.bool true)]), 9⟩, ⟨(.str 6 111516181425765), (.agg [(.bool true)]), 10⟩, ⟨(.str 5 500068349541), (.agg [(.bool true)]), 11⟩, ⟨(.str 2 28262), (.agg [(.bool true)]), 12⟩, ⟨(.str 5 500069003878), (.agg [(.bool true)]), 13⟩, ⟨(.str 4 1684955496), (.agg [(.bool true)]), 14⟩, ⟨(.str 2 26217), (.agg [(.bool true)]), 15⟩, ⟨(.str 3 7630441), (.agg [(.bool true)]), 16⟩, ⟨(.str 2 29801), (.agg [(.bool true)]), 17⟩, ⟨(.str 4 1852403562), (.agg [(.bool true)]), 18⟩, ⟨(.str 3 7234924), (.agg [(.bool true)]), 19⟩, ⟨(.str 3 6778732), (.agg [(.bool true)]), 20⟩, ⟨(.str 6 125780003614572), (.agg [(.bool true)]), 21⟩, ⟨(.str 4 1852399981), (.agg [(.bool true)]), 22⟩, ⟨(.str 3 7824750), (.agg [(.bool true)]), 23⟩, ⟨(.str 4 1819047278), (.agg [(.bool true)]), 24⟩, ⟨(.str 3 6710895), (.agg [(.bool true)]), 25⟩, ⟨(.str 2 28271), (.agg [(.bool true)]), 26⟩, ⟨(.str 4 1953722224), (.agg [(.bool true)]), 27⟩, ⟨(.str 6 121437875889522), (.agg [(.bool true)]), 28⟩, ⟨(.str 5 474449277043), (.agg [(.bool true)]), 29⟩, ⟨(.str 5 500135195763), (.agg [(.bool true)]), 30⟩, ⟨(.str 4 1886352499), (.agg [(.bool true)]), 31⟩, ⟨(.str 2 28532), (.agg [(.bool true)]), 32⟩, ⟨(.str 3 7040884), (.agg [(.bool true)]), 33⟩, ⟨(.str 3 7496054), (.agg [(.bool true)]), 34⟩, ⟨(.str 5 435610544247), (.agg [(.bool true)]), 35⟩] 36
def c0 : Cut := ⟨9, [(.sl 7 0 66 66)], 12, [(0, o0), (7, o1)], (.tup [(.agg [(.slo 2026 0 16 6)]), .sl0]), [(0, o0), (7, o1), (1801, o2), (1837, o3), (1856, o4), (1873, o5), (1925, o6), (1944, o7), (1979, o8), (2014, o9), (2026, o10)], 2039⟩
def c1 : Cut := ⟨10, [(.agg [(.slo 2026 0 16 6)])], 2042, [(0, o0), (1801, o2), (1837, o3), (1856, o4), (1873, o5), (1925, o6), (1944, o7), (1979, o8), (2014, o9), (2026, o10)], (.tup [(.agg [(.sl 3373 0 16 16), (.sl 3377 0 16 16), (.slo 3433 0 1 1), .sl0, (.slo 3558 0 2 1), .sl0, .sl0, (.slo 4141 0 1 4), (I 0)]), .sl0]), [(0, o0), (1801, o2), (1837, o3), (1856, o4), (1873, o5), (1925, o6), (1944, o7), (1979, o8), (2014, o9), (2026, o10), (3373, o11), (3377, o12), (3433, o13), (3558, o14), (4141, o15)], 4588⟩
def c2 : Cut := ⟨9, [(.sl 5967 0 54 54)], 5972, [(0, o0), (5967, o16)], (.tup [(.agg [(.slo 7676 0 13 6)]), .sl0]), [(0, o0), (5967, o16), (7490, o17), (7507, o2), (7559, o18), (7578, o19), (7595, o20), (7612, o21), (7629, o22), (7664, o23), (7676, o24)], 7691⟩
def w0 : Cut := ⟨35, [], 8, [(0, o0)], (.map 8), [(0, o0), (8, o25)], 83⟩
def gz : GZ := [(0, .u8, [0, 0, 0, 0, 0, 0, 0, 0, 0, 1, 1, 1, 1, 1, 0, 0, 0, 0, 0, 0, 0, 0, 0, 0, 0, 0, 0, 0, 0, 0, 0, 0, 1, 0, 0, 0, 0, 0, 0, 0, 0, 0, 0, 0, 0, 0, 0, 0, 0, 0, 0, 0, 0, 0, 0, 0, 0, 0, 0, 0, 0, 0, 0, 0, 0, 0, 0, 0, 0, 0, 0, 0, 0, 0, 0, 0, 0, 0, 0, 0, 0, 0, 0, 0, 0, 0, 0, 0, 0, 0, 0, 0, 0, 0, 0, 0, 0, 0, 0, 0, 0, 0, 0, 0, 0, 0, 0, 0, 0, 0, 0, 0, 0, 0, 0, 0, 0, 0, 0, 0, 0, 0, 0, 0, 0, 0, 0, 0, 0, 0, 0, 0, 0, 0, 0, 0, 0, 0, 0, 0, 0, 0, 0, 0, 0, 0, 0, 0, 0, 0, 0, 0, 0, 0, 0, 0, 0, 0, 0, 0, 0, 0, 0, 0, 0, 0, 0, 0, 0, 0, 0, 0, 0, 0, 0, 0, 0, 0, 0, 0, 0, 0, 0, 0, 0, 0, 0, 0, 0, 0, 0, 0, 0, 0, 0, 0, 0, 0, 0, 0, 0, 0, 0, 0, 0, 0, 0, 0, 0, 0, 0, 0, 0, 0, 0, 0, 0, 0, 0, 0, 0, 0, 0, 0, 0, 0, 0, 0, 0, 0, 0, 0, 0, 0, 0, 0, 0, 0, 0, 0, 0, 0, 0, 0, 0, 0, 0, 0, 0, 0, 0, 0, 0, 0, 0, 0])]
def gl : List (Nat × AObj) := tabG gz
def pe0_0 : List AV × AV := ([(.str 1 59)], (.bool false))
def pe0_1 : List AV × AV := ([(.str 3 7496054)], (.bool true))
def pe0_2 : List AV × AV := ([(.str 2 29801)], (.bool true))
def pe0_3 : List AV × AV := ([(.str 1 43)], (.bool false))
def pe0_4 : List AV × AV := ([(.str 6 125780003614572)], (.bool true))
def pe0_5 : List AV × AV := ([(.str 1 123)], (.bool false))
def pe0_6 : List AV × AV := ([(.str 1 125)], (.bool false))
def pe0_7 : List AV × AV := ([(.str 4 1819042147)], (.bool true))
def pe0_8 : List AV × AV := ([(.str 1 61)], (.bool false))
def pe0_9 : List AV × AV := ([(.str 3 7630441)], (.bool true))
def pe0_10 : List AV × AV := ([(.str 2 28262)], (.bool true))
def pe0_11 : List AV × AV := ([(.str 4 1852399981)], (.bool true))
def pl0 : List (List AV × AV) := [pe0_0, pe0_1, pe0_2, pe0_3, pe0_4, pe0_5, pe0_6, pe0_7, pe0_8, pe0_9, pe0_10, pe0_11]
def pe1_0 : List AV × AV := ([(.str 1 120)], (.bool true))
def pe1_1 : List AV × AV := ([(.str 1 97)], (.bool true))
def pe1_2 : List AV × AV := ([(.str 1 103)], (.bool true))
def pl1 : List (List AV × AV) := [pe1_0, pe1_1, pe1_2]
def pe2_0 : List AV × AV := ([(.str 3 7630441)], (.bool true))
def pl2 : List (List AV × AV) := [pe2_0]
def pt : Pures := [(196, pl0), (107, pl1), (108, pl2)]
end Go.Proofs.YtppbphgcnlelaaaGreatDoorK
