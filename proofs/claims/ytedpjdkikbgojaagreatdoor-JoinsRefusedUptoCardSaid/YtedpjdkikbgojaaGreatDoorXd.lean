/- known() of the law JoinsRefused, in parts: the data. -/
import Derived.Test.YtedpjdkikbgojaaGreatDoorCd
import Derived.KernelRfl
import Derived.Test.YtedpjdkikbgojaaGreatDoorProg
set_option maxRecDepth 100000
open Go Go.EvC
namespace Go.Proofs.YtedpjdkikbgojaaGreatDoorK
theorem mixed : Tryz.prog.follows .mixedOrders = true := by kernel_rfl
abbrev I (n : Nat) : AV := .int .i64 (.ofNat n)
abbrev B (n : Nat) : AV := .int .u8 (.ofNat n)
abbrev L : Tr AV := .leaf
abbrev N (v : AV) : Tr AV := .node (some v) .leaf .leaf
def o0 : AObj := .glob [(B 0), (B 1), (B 56), (B 2), (B 57), (B 49), (B 28), (B 3), (B 61), (B 58), (B 42), (B 50), (B 38), (B 29), (B 17), (B 4), (B 62), (B 47), (B 59), (B 36), (B 45), (B 43), (B 51), (B 22), (B 53), (B 39), (B 33), (B 30), (B 24), (B 18), (B 12), (B 5), (B 63), (B 55), (B 48), (B 27), (B 60), (B 41), (B 37), (B 16), (B 46), (B 35), (B 44), (B 21), (B 52), (B 32), (B 23), (B 11), (B 54), (B 26), (B 40), (B 15), (B 34), (B 20), (B 31), (B 10), (B 25), (B 14), (B 19), (B 9), (B 13), (B 8), (B 7), (B 6)]
def o1 : AObj := .cells 5 L [(B 108), (B 111), (B 111), (B 112), (B 101), (B 114), (B 32), (B 97), (B 59), (B 32), (B 118), (B 97), (B 114), (B 32), (B 104), (B 32), (B 104), (B 97), (B 110), (B 100), (B 59), (B 32), (B 109), (B 97), (B 105), (B 110), (B 32), (B 123), (B 32), (B 115), (B 112), (B 97), (B 119), (B 110), (B 32), (B 102), (B 110), (B 32), (B 123), (B 32), (B 106), (B 111), (B 105), (B 110), (B 32), (B 104), (B 59), (B 32), (B 125), (B 32), (B 116), (B 111), (B 32), (B 104), (B 59), (B 32), (B 125)] 57 false
def o2 : AObj := .cells 9 L [(.str 1 97)] 1 true
def o3 : AObj := .cells 222 L [(.str 1 104), (I 4)] 2 true
def o4 : AObj := .cells 43 (.node none L (.node none L (.node (some (I 0)) L (.node (some (I 1)) (N (I 2)) L)))) [(I 21), (I 0), (I 0), (I 0), (I 1), .sl0, (.int .i64 (.negSucc 0)), (I 1), (I 28), (I 1), (I 0), (I 0), (I 0), .sl0, (.int .i64 (.negSucc 0)), (I 1), (I 10), (I 1), (I 0), (I 0), (I 0), .sl0, (.int .i64 (.negSucc 0)), (I 1), (I 33), (I 0), (I 0), (I 0), (I 0), .sl0, (.int .i64 (.negSucc 0)), (I 1)] 32 true
def o5 : AObj := .cells 43 (.node none L (.node none L (.node (some (I 3)) L (N (I 4))))) [(I 9), (I 0), (I 0), (I 0), (I 0), .sl0, (.int .i64 (.negSucc 0)), (I 1), (I 29), (I 0), (I 0), (I 0), (I 0), .sl0, (.int .i64 (.negSucc 0)), (I 1), (I 33), (I 0), (I 0), (I 0), (I 0), .sl0, (.int .i64 (.negSucc 0)), (I 1)] 24 true
def o6 : AObj := .cells 47 L [(I 0), (I 0), (I 0), (I 1), (I 0), (I 2), (I 1), (I 0), (I 1), (I 1)] 10 true
def o7 : AObj := .cells 39 L [(.str 4 1852399981), (I 0), (I 2), (.slo 7066 0 4 8), (.str 6 54075490656621), (I 0), (I 1), (.slo 7210 0 3 8)] 8 true
def o8 : AObj := .cells 5 L [(B 108), (B 111), (B 111), (B 112), (B 101), (B 114), (B 32), (B 97), (B 59), (B 32), (B 118), (B 97), (B 114), (B 32), (B 104), (B 32), (B 104), (B 97), (B 110), (B 100), (B 59), (B 32), (B 109), (B 97), (B 105), (B 110), (B 32), (B 123), (B 32), (B 115), (B 112), (B 97), (B 119), (B 110), (B 32), (B 102), (B 110), (B 32), (B 123), (B 32), (B 125), (B 32), (B 116), (B 111), (B 32), (B 104), (B 59), (B 32), (B 106), (B 111), (B 105), (B 110), (B 32), (B 104), (B 59), (B 32), (B 125)] 57 false
def o9 : AObj := .cells 43 (.node none L (.node none L (.node (some (I 0)) L (.node (some (I 1)) (.node (some (I 2)) (N (I 4)) L) (N (I 3)))))) [(I 21), (I 0), (I 0), (I 0), (I 1), .sl0, (.int .i64 (.negSucc 0)), (I 1), (I 28), (I 1), (I 0), (I 0), (I 0), .sl0, (.int .i64 (.negSucc 0)), (I 1), (I 10), (I 1), (I 0), (I 0), (I 0), .sl0, (.int .i64 (.negSucc 0)), (I 1), (I 9), (I 2), (I 0), (I 0), (I 0), .sl0, (.int .i64 (.negSucc 0)), (I 1), (I 29), (I 2), (I 0), (I 0), (I 0), .sl0, (.int .i64 (.negSucc 0)), (I 1), (I 33), (I 0), (I 0), (I 0), (I 0), .sl0, (.int .i64 (.negSucc 0)), (I 1)] 48 true
def o10 : AObj := .cells 47 L [(I 0), (I 0), (I 0), (I 1), (I 0), (I 2), (I 0), (I 3), (I 0), (I 4)] 10 true
def o11 : AObj := .cells 43 L [(I 33), (I 0), (I 0), (I 0), (I 0), .sl0, (.int .i64 (.negSucc 0)), (I 1)] 8 true
def o12 : AObj := .cells 39 L [(.str 4 1852399981), (I 0), (I 3), (.slo 14239 0 6 8), (.str 6 54075490656621), (I 0), (I 0), (.slo 14330 0 1 8)] 8 true
def o13 : AObj := .cells 3 L [(I 4)] 1 true
def o14 : AObj := .cells 41 L [(.slo 20432 0 1 1)] 1 true
def c0 : Cut := ⟨34, [(.sl 1 0 57 57)], 6, [(0, o0), (1, o1)], (.tup [(.agg [(.slo 6516 0 1 1), .sl0, (.slo 6530 0 1 2), (.slo 7243 0 2 4), .sl0, .sl0, (I 0), (.slo 7239 0 5 2)]), .sl0, (I 0)]), [(0, o0), (1, o1), (6516, o2), (6530, o3), (7066, o4), (7210, o5), (7239, o6), (7243, o7)], 7249⟩
def c1 : Cut := ⟨34, [(.sl 7254 0 57 57)], 7259, [(0, o0), (7254, o8)], (.tup [(.agg [(.slo 13626 0 1 1), .sl0, (.slo 13640 0 1 2), (.slo 14353 0 2 4), .sl0, .sl0, (I 0), (.slo 14283 0 5 2)]), .sl0, (I 0)]), [(0, o0), (7254, o8), (13626, o2), (13640, o3), (14239, o9), (14283, o10), (14330, o11), (14353, o12)], 14359⟩
def c2 : Cut := ⟨7, [(.agg [(.slo 6516 0 1 1), .sl0, (.slo 6530 0 1 2), (.slo 7243 0 2 4), .sl0, .sl0, (I 0), (.slo 7239 0 5 2)])], 14365, [(0, o0), (6516, o2), (6530, o3), (7066, o4), (7210, o5), (7239, o6), (7243, o7)], (.tup [(.slo 20441 0 1 1), (I 0)]), [(0, o0), (6516, o2), (6530, o3), (7066, o4), (7210, o5), (7239, o6), (7243, o7), (20432, o13), (20441, o14)], 20448⟩
def c3 : Cut := ⟨7, [(.agg [(.slo 13626 0 1 1), .sl0, (.slo 13640 0 1 2), (.slo 14353 0 2 4), .sl0, .sl0, (I 0), (.slo 14283 0 5 2)])], 20449, [(0, o0), (13626, o2), (13640, o3), (14239, o9), (14283, o10), (14330, o11), (14353, o12)], (.tup [.sl0, (I 0)]), [(0, o0), (13626, o2), (13640, o3), (14239, o9), (14283, o10), (14330, o11), (14353, o12)], 26483⟩
def gz : GZ := [(0, .u8, [0, 1, 56, 2, 57, 49, 28, 3, 61, 58, 42, 50, 38, 29, 17, 4, 62, 47, 59, 36, 45, 43, 51, 22, 53, 39, 33, 30, 24, 18, 12, 5, 63, 55, 48, 27, 60, 41, 37, 16, 46, 35, 44, 21, 52, 32, 23, 11, 54, 26, 40, 15, 34, 20, 31, 10, 25, 14, 19, 9, 13, 8, 7, 6])]
def gl : List (Nat × AObj) := tabG gz
def pe0_0 : List AV × AV := ([(I 33)], (.str 0 0))
def pl0 : List (List AV × AV) := [pe0_0]
def pe1_0 : List AV × AV := ([(I 29), (.str 1 104)], (.bool true))
def pe1_1 : List AV × AV := ([(I 6), (.str 1 104)], (.bool true))
def pe1_2 : List AV × AV := ([(I 2), (.str 1 97)], (.bool true))
def pl1 : List (List AV × AV) := [pe1_0, pe1_1, pe1_2]
def pe2_0 : List AV × AV := ([(.str 1 104)], (.bool false))
def pe2_1 : List AV × AV := ([(.str 1 97)], (.bool false))
def pe2_2 : List AV × AV := ([(.str 4 1684955496)], (.bool true))
def pe2_3 : List AV × AV := ([(.str 4 1852399981)], (.bool true))
def pe2_4 : List AV × AV := ([(.str 4 1852403562)], (.bool true))
def pe2_5 : List AV × AV := ([(.str 5 474449277043)], (.bool true))
def pe2_6 : List AV × AV := ([(.str 2 28532)], (.bool true))
def pe2_7 : List AV × AV := ([(.str 6 125780003614572)], (.bool true))
def pe2_8 : List AV × AV := ([(.str 3 7496054)], (.bool true))
def pl2 : List (List AV × AV) := [pe2_0, pe2_1, pe2_2, pe2_3, pe2_4, pe2_5, pe2_6, pe2_7, pe2_8]
def pe3_0 : List AV × AV := ([(I 33)], (.bool false))
def pl3 : List (List AV × AV) := [pe3_0]
def pt : Pures := [(210, pl0), (198, pl1), (153, pl2), (174, pl3)]
end Go.Proofs.YtedpjdkikbgojaaGreatDoorK
