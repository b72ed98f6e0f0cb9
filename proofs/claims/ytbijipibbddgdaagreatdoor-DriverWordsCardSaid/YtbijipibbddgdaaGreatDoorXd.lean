/- known() of the law DriverWords, in parts: the data. -/
import Derived.Test.YtbijipibbddgdaaGreatDoorCd
import Derived.KernelRfl
import Derived.Test.YtbijipibbddgdaaGreatDoorProg
set_option maxRecDepth 100000
open Go Go.EvC
namespace Go.Proofs.YtbijipibbddgdaaGreatDoorK
theorem mixed : Tryz.prog.follows .mixedOrders = true := by kernel_rfl
abbrev I (n : Nat) : AV := .int .i64 (.ofNat n)
abbrev B (n : Nat) : AV := .int .u8 (.ofNat n)
abbrev L : Tr AV := .leaf
abbrev N (v : AV) : Tr AV := .node (some v) .leaf .leaf
def o0 : AObj := .glob [(B 0), (B 0), (B 0), (B 0), (B 0), (B 0), (B 0), (B 0), (B 0), (B 1), (B 1), (B 1), (B 1), (B 1), (B 0), (B 0), (B 0), (B 0), (B 0), (B 0), (B 0), (B 0), (B 0), (B 0), (B 0), (B 0), (B 0), (B 0), (B 0), (B 0), (B 0), (B 0), (B 1), (B 0), (B 0), (B 0), (B 0), (B 0), (B 0), (B 0), (B 0), (B 0), (B 0), (B 0), (B 0), (B 0), (B 0), (B 0), (B 0), (B 0), (B 0), (B 0), (B 0), (B 0), (B 0), (B 0), (B 0), (B 0), (B 0), (B 0), (B 0), (B 0), (B 0), (B 0), (B 0), (B 0), (B 0), (B 0), (B 0), (B 0), (B 0), (B 0), (B 0), (B 0), (B 0), (B 0), (B 0), (B 0), (B 0), (B 0), (B 0), (B 0), (B 0), (B 0), (B 0), (B 0), (B 0), (B 0), (B 0), (B 0), (B 0), (B 0), (B 0), (B 0), (B 0), (B 0), (B 0), (B 0), (B 0), (B 0), (B 0), (B 0), (B 0), (B 0), (B 0), (B 0), (B 0), (B 0), (B 0), (B 0), (B 0), (B 0), (B 0), (B 0), (B 0), (B 0), (B 0), (B 0), (B 0), (B 0), (B 0), (B 0), (B 0), (B 0), (B 0), (B 0), (B 0), (B 0), (B 0), (B 0), (B 0), (B 0), (B 0), (B 0), (B 0), (B 0), (B 0), (B 0), (B 0), (B 0), (B 0), (B 0), (B 0), (B 0), (B 0), (B 0), (B 0), (B 0), (B 0), (B 0), (B 0), (B 0), (B 0), (B 0), (B 0), (B 0), (B 0), (B 0), (B 0), (B 0), (B 0), (B 0), (B 0), (B 0), (B 0), (B 0), (B 0), (B 0), (B 0), (B 0), (B 0), (B 0), (B 0), (B 0), (B 0), (B 0), (B 0), (B 0), (B 0), (B 0), (B 0), (B 0), (B 0), (B 0), (B 0), (B 0), (B 0), (B 0), (B 0), (B 0), (B 0), (B 0), (B 0), (B 0), (B 0), (B 0), (B 0), (B 0), (B 0), (B 0), (B 0), (B 0), (B 0), (B 0), (B 0), (B 0), (B 0), (B 0), (B 0), (B 0), (B 0), (B 0), (B 0), (B 0), (B 0), (B 0), (B 0), (B 0), (B 0), (B 0), (B 0), (B 0), (B 0), (B 0), (B 0), (B 0), (B 0), (B 0), (B 0), (B 0), (B 0), (B 0), (B 0), (B 0), (B 0), (B 0), (B 0), (B 0), (B 0), (B 0), (B 0), (B 0), (B 0), (B 0), (B 0), (B 0), (B 0), (B 0), (B 0), (B 0), (B 0), (B 0), (B 0), (B 0), (B 0), (B 0)]
def o1 : AObj := .glob [(B 0), (B 1), (B 56), (B 2), (B 57), (B 49), (B 28), (B 3), (B 61), (B 58), (B 42), (B 50), (B 38), (B 29), (B 17), (B 4), (B 62), (B 47), (B 59), (B 36), (B 45), (B 43), (B 51), (B 22), (B 53), (B 39), (B 33), (B 30), (B 24), (B 18), (B 12), (B 5), (B 63), (B 55), (B 48), (B 27), (B 60), (B 41), (B 37), (B 16), (B 46), (B 35), (B 44), (B 21), (B 52), (B 32), (B 23), (B 11), (B 54), (B 26), (B 40), (B 15), (B 34), (B 20), (B 31), (B 10), (B 25), (B 14), (B 19), (B 9), (B 13), (B 8), (B 7), (B 6)]
def o2 : AObj := .cells 264 L [(I 2), (.str 6 125780003614572), (I 0), (I 1), (I 1), (I 1), (.str 2 26997), (I 0), (I 1), (I 8), (I 4), (.str 1 59), (I 0), (I 1), (I 10), (I 2), (.str 4 1852399981), (I 0), (I 1), (I 12), (I 4), (.str 1 123), (I 0), (I 1), (I 17), (I 4), (.str 1 125), (I 0), (I 1), (I 19)] 30 true
def o3 : AObj := .cells 272 (N (.slo 327 15 3 5)) [(.slo 327 0 6 5), (I 0)] 2 false
def o4 : AObj := .cells 272 (.node (some (.sle 327)) (N (I 0)) L) [(.slo 327 0 6 5), (I 0)] 2 false
def o5 : AObj := .cells 275 L [(.ptr 756 0)] 1 false
def o6 : AObj := .cells 386 L [(I 12), (.str 0 0), (I 0), (I 1), (I 17), .sl0, .sl0] 7 false
def o7 : AObj := .cells 386 L [(I 11), (.str 0 0), (I 0), (I 1), (I 12), .sl0, (.sl 657 0 1 1)] 7 false
def o8 : AObj := .cells 5 L [(B 108), (B 111), (B 111), (B 112), (B 101), (B 114), (B 32), (B 117), (B 105), (B 59), (B 32), (B 109), (B 97), (B 105), (B 110), (B 32), (B 123), (B 32), (B 125)] 19 false
def o9 : AObj := .cells 3 L [(I 1), (I 2)] 2 true
def o10 : AObj := .cells 3 L [(I 3)] 1 true
def o11 : AObj := .cells 150 (.node none (.node none (.node none (.node none L (N .sl0)) L) (.node (some (.slo 881 0 2 1)) (.node none (N (.slo 898 0 1 1)) L) L)) L) [(I 1), (.str 0 0), (I 0), (I 1), (I 1), .sl0, (I 2), (.str 2 26997), (I 0), (I 1), (I 1), .sl0, (I 11), (.str 0 0), (I 0), (I 1), (I 12), .sl0, (I 12), (.str 0 0), (I 0), (I 1), (I 17), .sl0] 24 true
def o12 : AObj := .cells 49 (.node (some (.slo 2039 0 1 1)) (.node (some .sl0) (.node (some (.slo 2103 0 1 4)) (N .sl0) (N .sl0)) (.node (some .sl0) (N (I 0)) L)) (.node (some .sl0) (.node (some .sl0) (N .sl0) L) (.node (some (I 0)) (N .sl0) L))) [.sl0, .sl0, .sl0, .sl0, .sl0, .sl0, (I 0), .sl0, .sl0, (I 0), .sl0, .sl0] 12 false
def o13 : AObj := .cells 9 L [(.str 2 26997)] 1 true
def o14 : AObj := .cells 182 L [(I 33), (I 0), (I 0), (I 0), (I 0), .sl0, (.int .i64 (.negSucc 0)), (I 1)] 8 true
def o15 : AObj := .cells 177 L [(.str 4 1852399981), (I 0), (I 0), (.slo 2080 0 1 8)] 4 true
def c0 : Cut := ⟨235, [(.ptr 336 0)], 562, [(1, o0), (4, o1), (327, o2), (336, o3)], (.ptr 846 0), [(1, o0), (4, o1), (327, o2), (336, o4), (657, o5), (756, o6), (846, o7)], 847⟩
def c1 : Cut := ⟨24, [(.sl 7 0 19 19)], 36, [(1, o0), (4, o1), (7, o8)], (.tup [(.agg [(.slo 910 0 4 6)]), .sl0]), [(1, o0), (4, o1), (7, o8), (881, o9), (898, o10), (910, o11)], 920⟩
def c2 : Cut := ⟨10, [(.sl 7 0 19 19)], 11, [(1, o0), (4, o1), (7, o8)], (.ptr 13 0), [(1, o0), (4, o1), (7, o8), (13, o12), (2039, o13), (2080, o14), (2103, o15)], 4233⟩
def gz : GZ := [(1, .u8, [0, 0, 0, 0, 0, 0, 0, 0, 0, 1, 1, 1, 1, 1, 0, 0, 0, 0, 0, 0, 0, 0, 0, 0, 0, 0, 0, 0, 0, 0, 0, 0, 1, 0, 0, 0, 0, 0, 0, 0, 0, 0, 0, 0, 0, 0, 0, 0, 0, 0, 0, 0, 0, 0, 0, 0, 0, 0, 0, 0, 0, 0, 0, 0, 0, 0, 0, 0, 0, 0, 0, 0, 0, 0, 0, 0, 0, 0, 0, 0, 0, 0, 0, 0, 0, 0, 0, 0, 0, 0, 0, 0, 0, 0, 0, 0, 0, 0, 0, 0, 0, 0, 0, 0, 0, 0, 0, 0, 0, 0, 0, 0, 0, 0, 0, 0, 0, 0, 0, 0, 0, 0, 0, 0, 0, 0, 0, 0, 0, 0, 0, 0, 0, 0, 0, 0, 0, 0, 0, 0, 0, 0, 0, 0, 0, 0, 0, 0, 0, 0, 0, 0, 0, 0, 0, 0, 0, 0, 0, 0, 0, 0, 0, 0, 0, 0, 0, 0, 0, 0, 0, 0, 0, 0, 0, 0, 0, 0, 0, 0, 0, 0, 0, 0, 0, 0, 0, 0, 0, 0, 0, 0, 0, 0, 0, 0, 0, 0, 0, 0, 0, 0, 0, 0, 0, 0, 0, 0, 0, 0, 0, 0, 0, 0, 0, 0, 0, 0, 0, 0, 0, 0, 0, 0, 0, 0, 0, 0, 0, 0, 0, 0, 0, 0, 0, 0, 0, 0, 0, 0, 0, 0, 0, 0, 0, 0, 0, 0, 0, 0, 0, 0, 0, 0, 0, 0]), (4, .u8, [0, 1, 56, 2, 57, 49, 28, 3, 61, 58, 42, 50, 38, 29, 17, 4, 62, 47, 59, 36, 45, 43, 51, 22, 53, 39, 33, 30, 24, 18, 12, 5, 63, 55, 48, 27, 60, 41, 37, 16, 46, 35, 44, 21, 52, 32, 23, 11, 54, 26, 40, 15, 34, 20, 31, 10, 25, 14, 19, 9, 13, 8, 7, 6])]
def gl : List (Nat × AObj) := tabG gz
def pe0_0 : List AV × AV := ([(I 33)], (.bool false))
def pl0 : List (List AV × AV) := [pe0_0]
def pe1_0 : List AV × AV := ([(I 33)], (.str 0 0))
def pl1 : List (List AV × AV) := [pe1_0]
def pt : Pures := [(352, pl0), (404, pl1)]
end Go.Proofs.YtbijipibbddgdaaGreatDoorK
