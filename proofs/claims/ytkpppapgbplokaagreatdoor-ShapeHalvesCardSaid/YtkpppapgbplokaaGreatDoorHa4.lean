/- What is proved: contracts of functions of this translation, walked; their plain meaning. No condition beyond those that each theorem names. -/
import Derived.Test.YtkpppapgbplokaaGreatDoorHa3
set_option linter.all false
namespace Go.Ac
open Go Go.Proofs
set_option maxRecDepth 10000
set_option maxHeartbeats 1000000
def zV : AV := .agg [iA 0, iA 0, .str [], .val (.slice none 0 0), .val (.slice none 0 0)]
def L30 (ps : List (List (List UInt8))) (b : Bool) (l out : List JV) (i : Nat) : AS := ⟨[(1, .sl 1 (ppA ps) []), (2, bA b), (6, .gp 100001 0), (7, .gp 100002 0), (22, .sl 5 (encVs l) []), (23, iA (encVs l).length), (24, iA i)], [(100001, .box zV .own), (100002, .box (.agg [iA 5, iA 0, .str [], .val (.slice none 0 0), .gs 100003 0 out.length]) .own), (100003, .arr 25 5 (encVs out) .own)]⟩
def E30l (out : List JV) : AS := ⟨[(6, .gp 100001 0), (7, .gp 100002 0)], [(100001, .box zV .own), (100002, .box (.agg [iA 5, iA 0, .str [], .val (.slice none 0 0), .gs 100003 0 out.length]) .own), (100003, .arr 25 5 (encVs out) .own)]⟩
def O30 (h : JH) (l : List JV) (ps : List (List (List UInt8))) (b : Bool) (n : Int) (ns : List (List UInt8)) (out : List JV) (i : Nat) : AS := ⟨[(1, .sl 1 (ppA ps) []), (2, bA b), (3, .gp 100000 0), (6, .gp 100001 0), (10, .gp 100002 0), (60, iA n), (61, iA i)], [(100000, .box (encV (.mk h l)) .own), (100001, .box zV .own), (100002, .box (.agg [iA 6, iA 0, .str [], .gs 100003 0 ns.length, .gs 100004 0 out.length]) .own), (100003, .arr 9 1 (ns.map AV.str) .own), (100004, .arr 25 5 (encVs out) .own)]⟩
def E30o (ns : List (List UInt8)) (out : List JV) : AS := ⟨[(6, .gp 100001 0), (10, .gp 100002 0)], [(100001, .box zV .own), (100002, .box (.agg [iA 6, iA 0, .str [], .gs 100003 0 ns.length, .gs 100004 0 out.length]) .own), (100003, .arr 9 1 (ns.map AV.str) .own), (100004, .arr 25 5 (encVs out) .own)]⟩
theorem p30l_0 (W : World) (h : JH) (l out : List JV) (ps : List (List (List UInt8))) (b : Bool) : sF W { lp := true, fin := 9 } 30 [eV h l, .sl 1 (ppA ps) [], bA b] [] 100000 [bt, ee, .loopM [] [(100003, 5)] (L30 ps b l [] 0) (.exit 1) (E30l out), ee, .fin [] [] (.agg [iA 5, iA 0, .str [], .val (Value.slice none 0 0), .gs 100003 0 out.length]) [(100003, .arr 25 5 (encVs out) .own)], ee] [] = .ok (.ret (.agg [iA 5, iA 0, .str [], .val (Value.slice none 0 0), .gs 100003 0 out.length]) [(100003, .arr 25 5 (encVs out) .own)], [ee], [MatchK [] [] [] { t := [(0, .agg [iA 5, iA 0, .str [], .val (Value.slice none 0 0), .gs 100003 0 out.length])], h := [(100001, gB (.agg [iA 5, iA 0, .str [], .val (Value.slice none 0 0), .gs 100003 0 out.length])), (100002, gB (.agg [iA 5, iA 0, .str [], .val (Value.slice none 0 0), .gs 100003 0 out.length])), (100003, .arr 25 5 (encVs out) .own)] } { t := [(0, .agg [iA 5, iA 0, .str [], .val (Value.slice none 0 0), .gs 100003 0 out.length])], h := [(100003, .arr 25 5 (encVs out) .own)] }, LZ W [] 30 0 (L30 ps b l [] 0) (.exit 1) (E30l out), MatchK [] [] [(100003, 5)] { t := [(1, sL 1 (ppA ps)), (2, bA b), (6, .gp 100001 0), (7, .gp 100002 0), (22, sL 5 (encVs l)), (23, iA (↑(encVs l).length : Int)), (24, iA 0)], h := [(100000, gB (eV h l)), (100001, gB (.agg [iA 0, iA 0, .str [], .val (Value.slice none 0 0), .val (Value.slice none 0 0)])), (100002, gB (.agg [iA 5, iA 0, .str [], .val (Value.slice none 0 0), .val (Value.slice none 0 0)]))] } (L30 ps b l [] 0), decide (h.kind = 5) = true]) := by kernel_rfl
theorem p30o_0 (W : World) (h : JH) (l out : List JV) (ps : List (List (List UInt8))) (ns : List (List UInt8)) (b : Bool) (n : Int) : sF W { lp := true, fin := 9 } 30 [eV h l, .sl 1 (ppA ps) [], bA b] [] 100000 [bf, bt, ee, .loopM [] [(100003, 1), (100004, 5)] (O30 h l ps b n [] [] 0) (.exit 3) (E30o ns out), ee, .fin [] [] (.agg [iA 6, iA 0, .str [], .gs 100003 0 ns.length, .gs 100004 0 out.length]) [(100003, .arr 9 1 (List.map AV.str ns) .own), (100004, .arr 25 5 (encVs out) .own)], ee] [] = .ok (.ret (.agg [iA 6, iA 0, .str [], .gs 100003 0 ns.length, .gs 100004 0 out.length]) [(100003, .arr 9 1 (List.map AV.str ns) .own), (100004, .arr 25 5 (encVs out) .own)], [ee], [MatchK [] [] [] { t := [(0, .agg [iA 6, iA 0, .str [], .gs 100003 0 ns.length, .gs 100004 0 out.length])], h := [(100001, gB (.agg [iA 6, iA 0, .str [], .gs 100003 0 ns.length, .gs 100004 0 out.length])), (100002, gB (.agg [iA 6, iA 0, .str [], .gs 100003 0 ns.length, .gs 100004 0 out.length])), (100003, .arr 9 1 (List.map AV.str ns) .own), (100004, .arr 25 5 (encVs out) .own)] } { t := [(0, .agg [iA 6, iA 0, .str [], .gs 100003 0 ns.length, .gs 100004 0 out.length])], h := [(100003, .arr 9 1 (List.map AV.str ns) .own), (100004, .arr 25 5 (encVs out) .own)] }, LZ W [] 30 1 (O30 h l ps b n [] [] 0) (.exit 3) (E30o ns out), MatchK [] [] [(100003, 1), (100004, 5)] { t := [(1, sL 1 (ppA ps)), (2, bA b), (3, .gp 100000 0), (6, .gp 100001 0), (10, .gp 100002 0), (60, iA (if (↑(encVs l).length : Int) < (↑(List.map AV.str h.names).length : Int) then (↑(encVs l).length : Int) else (↑(List.map AV.str h.names).length : Int))), (61, iA 0)], h := [(100000, gB (eV h l)), (100001, gB (.agg [iA 0, iA 0, .str [], .val (Value.slice none 0 0), .val (Value.slice none 0 0)])), (100002, gB (.agg [iA 6, iA 0, .str [], .val (Value.slice none 0 0), .val (Value.slice none 0 0)]))] } (O30 h l ps b n [] [] 0), decide (h.kind = 6) = true, decide (h.kind = 5) = false]) := by kernel_rfl
theorem p30x_0 (W : World) (h : JH) (l : List JV) (ps : List (List (List UInt8))) (b : Bool) : sF W { lp := true } 30 [eV h l, .sl 1 (ppA ps) [], bA b] [] 100000 [bf, bf, ee] [] = .ok (.ret (eV h l) [], [ee], [decide (h.kind = 6) = false, decide (h.kind = 5) = false]) := by kernel_rfl
theorem p11_1 (W : World) (h hy : JH) (l y : List JV) (ps : List (List (List UInt8))) (b : Bool) : sF W { lp := true, tl := [30] } 11 [.ip (.agg [.sl 1 (ppA ps) [], bA b]) 0, eV h l] [] 100000 [aE 7, bf, ee, cR (eV hy y) [], ee] [] = .ok (.ret (eV hy y) [], [ee], [MZ W 30 [eV h l, sL 1 (ppA ps), bA b] [] (.ret (eV hy y) []), decide ((↑(ppA ps).length : Int) = 0) = false]) := by kernel_rfl
theorem p4_0 (W : World) (h : JH) (l : List JV) (n : Int) : sF W { tl := [17] } 4 [.sl 5 [eV h l] []] [] 100000 [ee, cR (iA n) [], ee] [] = .ok (.ret (bA (decide (5000 < IntKind.i64.wrap (0 + n)))) [], [aE 9999998], [MZ W 17 [eV h l, iA 5000] [] (.ret (iA n) [])]) := by kernel_rfl
theorem b30l_0 (W : World) (hx hy : JH) (l k y out : List JV) (ps : List (List (List UInt8))) (b : Bool) (i : Nat) : sQ W { lp := true, tl := [30] } 30 0 [] [1, 2, 6, 7, 22, 23, 24] (L30 ps b l out i) [bt, aE 1, oS (eV hx k), bt, bt, bt, bt, ee, cR (eV hy y) [], aE 1, .lg, .lg, ee] = .ok ((.normal, { t := [(1, sL 1 (ppA ps)), (2, bA b), (6, .gp 100001 0), (7, .gp 100002 0), (22, sL 5 (encVs l)), (23, iA (↑(encVs l).length : Int)), (24, iA (IntKind.i64.wrap ((↑i : Int) + 1)))], h := [(100001, gB (.agg [iA 0, iA 0, .str [], .val (Value.slice none 0 0), .val (Value.slice none 0 0)])), (100002, gB (.agg [iA 5, iA 0, .str [], .val (Value.slice none 0 0), .gs 100006 0 (out.length + [eV hy y].length)])), (100003, .dead), (100004, gB (eV hx k)), (100005, .arr 25 5 [eV hy y] .own), (100006, .arr 25 5 (List.take out.length (encVs out) ++ [eV hy y]) .own)] }), [ee], ((out.length + [eV hy y].length) * 80 ≤ 140737488355328) :: ((St.own = St.own ∨ St.own = St.shr ∧ out.length = (encVs out).length) ∧ out.length ≤ (encVs out).length) :: MZ W 30 [eV hx k, sL 1 (ppA ps), bA b] [] (.ret (eV hy y) []) :: (d4 (decide (hx.kind = 6) = true) [(encVs l)[(↑i : Int).toNat]? = some (eV hx k), decide ((↑i : Int) < (↑(encVs l).length : Int)) = true])) := by kernel_rfl
theorem b30l_1 (W : World) (hx hy : JH) (l k y out : List JV) (ps : List (List (List UInt8))) (b : Bool) (i : Nat) : sQ W { lp := true, tl := [30] } 30 0 [] [1, 2, 6, 7, 22, 23, 24] (L30 ps b l out i) [bt, aE 1, oS (eV hx k), bf, bf, bf, bf, bt, bt, bt, ee, cR (eV hy y) [], aE 1, .lg, .lg, ee] = .ok ((.normal, { t := [(1, sL 1 (ppA ps)), (2, bA b), (6, .gp 100001 0), (7, .gp 100002 0), (22, sL 5 (encVs l)), (23, iA (↑(encVs l).length : Int)), (24, iA (IntKind.i64.wrap ((↑i : Int) + 1)))], h := [(100001, gB (.agg [iA 0, iA 0, .str [], .val (Value.slice none 0 0), .val (Value.slice none 0 0)])), (100002, gB (.agg [iA 5, iA 0, .str [], .val (Value.slice none 0 0), .gs 100006 0 (out.length + [eV hy y].length)])), (100003, .dead), (100004, gB (eV hx k)), (100005, .arr 25 5 [eV hy y] .own), (100006, .arr 25 5 (List.take out.length (encVs out) ++ [eV hy y]) .own)] }), [ee], ((out.length + [eV hy y].length) * 80 ≤ 140737488355328) :: ((St.own = St.own ∨ St.own = St.shr ∧ out.length = (encVs out).length) ∧ out.length ≤ (encVs out).length) :: MZ W 30 [eV hx k, sL 1 (ppA ps), bA b] [] (.ret (eV hy y) []) :: (d3 (decide (hx.kind = 5) = true) (d4 (decide (hx.kind = 6) = false) [(encVs l)[(↑i : Int).toNat]? = some (eV hx k), decide ((↑i : Int) < (↑(encVs l).length : Int)) = true]))) := by kernel_rfl
theorem b30l_2 (W : World) (hx hy : JH) (l k y out : List JV) (ps : List (List (List UInt8))) (b : Bool) (i : Nat) : sQ W { lp := true, tl := [30] } 30 0 [] [1, 2, 6, 7, 22, 23, 24] (L30 ps b l out i) [bt, aE 1, oS (eV hx k), bf, bf, bf, bf, bf, bf, bf, bt, ee, cR (eV hy y) [], aE 1, .lg, .lg, ee] = .ok ((.normal, { t := [(1, sL 1 (ppA ps)), (2, bA b), (6, .gp 100001 0), (7, .gp 100002 0), (22, sL 5 (encVs l)), (23, iA (↑(encVs l).length : Int)), (24, iA (IntKind.i64.wrap ((↑i : Int) + 1)))], h := [(100001, gB (.agg [iA 0, iA 0, .str [], .val (Value.slice none 0 0), .val (Value.slice none 0 0)])), (100002, gB (.agg [iA 5, iA 0, .str [], .val (Value.slice none 0 0), .gs 100006 0 (out.length + [eV hy y].length)])), (100003, .dead), (100004, gB (eV hx k)), (100005, .arr 25 5 [eV hy y] .own), (100006, .arr 25 5 (List.take out.length (encVs out) ++ [eV hy y]) .own)] }), [ee], ((out.length + [eV hy y].length) * 80 ≤ 140737488355328) :: ((St.own = St.own ∨ St.own = St.shr ∧ out.length = (encVs out).length) ∧ out.length ≤ (encVs out).length) :: MZ W 30 [eV hx k, sL 1 (ppA ps), bA b] [] (.ret (eV hy y) []) :: ((!b) = true) :: (d3 (decide (hx.kind = 5) = false) (d4 (decide (hx.kind = 6) = false) [(encVs l)[(↑i : Int).toNat]? = some (eV hx k), decide ((↑i : Int) < (↑(encVs l).length : Int)) = true]))) := by kernel_rfl
theorem b30l_3 (W : World) (hx : JH) (l k out : List JV) (ps : List (List (List UInt8))) (b : Bool) (i : Nat) : sQ W { lp := true, tl := [30] } 30 0 [] [1, 2, 6, 7, 22, 23, 24] (L30 ps b l out i) [bt, aE 1, oS (eV hx k), bf, bf, bf, bf, bf, bf, bf, bf, ee] = .ok ((.normal, { t := [(1, sL 1 (ppA ps)), (2, bA b), (6, .gp 100001 0), (7, .gp 100002 0), (22, sL 5 (encVs l)), (23, iA (↑(encVs l).length : Int)), (24, iA (IntKind.i64.wrap ((↑i : Int) + 1)))], h := [(100001, gB (.agg [iA 0, iA 0, .str [], .val (Value.slice none 0 0), .val (Value.slice none 0 0)])), (100002, gB (.agg [iA 5, iA 0, .str [], .val (Value.slice none 0 0), .gs 100003 0 out.length])), (100003, .arr 25 5 (encVs out) .own), (100004, gB (eV hx k))] }), [ee], ((!b) = false) :: (d3 (decide (hx.kind = 5) = false) (d4 (decide (hx.kind = 6) = false) [(encVs l)[(↑i : Int).toNat]? = some (eV hx k), decide ((↑i : Int) < (↑(encVs l).length : Int)) = true]))) := by kernel_rfl
theorem b30l_4 (W : World) (l out : List JV) (ps : List (List (List UInt8))) (b : Bool) (i : Nat) : sQ W { lp := true, tl := [30] } 30 0 [] [1, 2, 6, 7, 22, 23, 24] (L30 ps b l out i) [bf, ee] = .ok ((.exit 1, { t := [(1, sL 1 (ppA ps)), (2, bA b), (6, .gp 100001 0), (7, .gp 100002 0), (22, sL 5 (encVs l)), (23, iA (↑(encVs l).length : Int)), (24, iA (↑i : Int))], h := [(100001, gB (.agg [iA 0, iA 0, .str [], .val (Value.slice none 0 0), .val (Value.slice none 0 0)])), (100002, gB (.agg [iA 5, iA 0, .str [], .val (Value.slice none 0 0), .gs 100003 0 out.length])), (100003, .arr 25 5 (encVs out) .own)] }), [ee], [decide ((↑i : Int) < (↑(encVs l).length : Int)) = false]) := by kernel_rfl
theorem b30o_tte6_0 (W : World) (h hx : JH) (l k out : List JV) (ps : List (List (List UInt8))) (ns : List (List UInt8)) (n : Int) (i : Nat) (s : List UInt8) : sQ W { lp := true, tl := [30, 47] } 30 1 [] [1, 2, 3, 6, 10, 60, 61] (O30 h l ps true n ns out i) [bt, aE 1, oS (eV hx k), aE 1, oS (.str s), ee, cR (.tup [sL 1 (ppA []), bA true]) [], bt, bt, bt, bt, aE 5, oS (.str s), aE 1, .lg, .lg, aE 1, .lg, .lg, ee] = .ok ((.normal, { t := [(1, sL 1 (ppA ps)), (2, bA true), (3, .gp 100000 0), (6, .gp 100001 0), (10, .gp 100002 0), (60, iA n), (61, iA (IntKind.i64.wrap ((↑i : Int) + 1)))], h := [(100000, gB (eV h l)), (100001, gB (.agg [iA 0, iA 0, .str [], .val (Value.slice none 0 0), .val (Value.slice none 0 0)])), (100002, gB (.agg [iA 6, iA 0, .str [], .gs 100007 0 (ns.length + [AV.str s].length), .gs 100009 0 (out.length + [eV hx k].length)])), (100003, .dead), (100004, .dead), (100005, gB (eV hx k)), (100006, .arr 9 1 [.str s] .own), (100007, .arr 9 1 (List.take ns.length (List.map AV.str ns) ++ [AV.str s]) .own), (100008, .arr 25 5 [eV hx k] .own), (100009, .arr 25 5 (List.take out.length (encVs out) ++ [eV hx k]) .own)] }), [ee], ((out.length + [eV hx k].length) * 80 ≤ 140737488355328) :: ((St.own = St.own ∨ St.own = St.shr ∧ out.length = (encVs out).length) ∧ out.length ≤ (encVs out).length) :: ((ns.length + [AV.str s].length) * 16 ≤ 140737488355328) :: ((St.own = St.own ∨ St.own = St.shr ∧ ns.length = (List.map AV.str ns).length) ∧ ns.length ≤ (List.map AV.str ns).length) :: ((List.map AV.str h.names)[(↑i : Int).toNat]? = some (AV.str s)) :: (d4 (decide (hx.kind = 6) = true) [MZ W 47 [sL 1 (ppA ps), .str s] [] (.ret (.tup [sL 1 [], bA true]) []), (List.map AV.str h.names)[(↑i : Int).toNat]? = some (AV.str s), (encVs l)[(↑i : Int).toNat]? = some (eV hx k), decide ((↑i : Int) < n) = true])) := by kernel_rfl
theorem b30o_tte7_0 (W : World) (h hx : JH) (l k out : List JV) (ps : List (List (List UInt8))) (ns : List (List UInt8)) (n : Int) (i : Nat) (s : List UInt8) : sQ W { lp := true, tl := [30, 47] } 30 1 [] [1, 2, 3, 6, 10, 60, 61] (O30 h l ps true n ns out i) [bt, aE 1, oS (eV hx k), aE 1, oS (.str s), ee, cR (.tup [sL 1 (ppA []), bA true]) [], bf, bf, bf, bf, aE 5, oS (.str s), aE 1, .lg, .lg, aE 1, .lg, .lg, ee] = .ok ((.normal, { t := [(1, sL 1 (ppA ps)), (2, bA true), (3, .gp 100000 0), (6, .gp 100001 0), (10, .gp 100002 0), (60, iA n), (61, iA (IntKind.i64.wrap ((↑i : Int) + 1)))], h := [(100000, gB (eV h l)), (100001, gB (.agg [iA 0, iA 0, .str [], .val (Value.slice none 0 0), .val (Value.slice none 0 0)])), (100002, gB (.agg [iA 6, iA 0, .str [], .gs 100007 0 (ns.length + [AV.str s].length), .gs 100009 0 (out.length + [eV hx k].length)])), (100003, .dead), (100004, .dead), (100005, gB (eV hx k)), (100006, .arr 9 1 [.str s] .own), (100007, .arr 9 1 (List.take ns.length (List.map AV.str ns) ++ [AV.str s]) .own), (100008, .arr 25 5 [eV hx k] .own), (100009, .arr 25 5 (List.take out.length (encVs out) ++ [eV hx k]) .own)] }), [ee], ((out.length + [eV hx k].length) * 80 ≤ 140737488355328) :: ((St.own = St.own ∨ St.own = St.shr ∧ out.length = (encVs out).length) ∧ out.length ≤ (encVs out).length) :: ((ns.length + [AV.str s].length) * 16 ≤ 140737488355328) :: ((St.own = St.own ∨ St.own = St.shr ∧ ns.length = (List.map AV.str ns).length) ∧ ns.length ≤ (List.map AV.str ns).length) :: ((List.map AV.str h.names)[(↑i : Int).toNat]? = some (AV.str s)) :: (d4 (decide (hx.kind = 6) = false) [MZ W 47 [sL 1 (ppA ps), .str s] [] (.ret (.tup [sL 1 [], bA true]) []), (List.map AV.str h.names)[(↑i : Int).toNat]? = some (AV.str s), (encVs l)[(↑i : Int).toNat]? = some (eV hx k), decide ((↑i : Int) < n) = true])) := by kernel_rfl
theorem b30o_tte7_1 (W : World) (h : JH) (l out : List JV) (ps : List (List (List UInt8))) (ns : List (List UInt8)) (n : Int) (i : Nat) : sQ W { lp := true, tl := [30, 47] } 30 1 [] [1, 2, 3, 6, 10, 60, 61] (O30 h l ps true n ns out i) [bf, ee] = .ok ((.exit 3, { t := [(1, sL 1 (ppA ps)), (2, bA true), (3, .gp 100000 0), (6, .gp 100001 0), (10, .gp 100002 0), (60, iA n), (61, iA (↑i : Int))], h := [(100000, gB (eV h l)), (100001, gB (.agg [iA 0, iA 0, .str [], .val (Value.slice none 0 0), .val (Value.slice none 0 0)])), (100002, gB (.agg [iA 6, iA 0, .str [], .gs 100003 0 ns.length, .gs 100004 0 out.length])), (100003, .arr 9 1 (List.map AV.str ns) .own), (100004, .arr 25 5 (encVs out) .own)] }), [ee], [decide ((↑i : Int) < n) = false]) := by kernel_rfl
theorem b30o_tfe6_0 (W : World) (h hx : JH) (l k out : List JV) (ps : List (List (List UInt8))) (ns : List (List UInt8)) (n : Int) (i : Nat) (s : List UInt8) : sQ W { lp := true, tl := [30, 47] } 30 1 [] [1, 2, 3, 6, 10, 60, 61] (O30 h l ps true n ns out i) [bt, aE 1, oS (eV hx k), aE 1, oS (.str s), ee, cR (.tup [sL 1 (ppA []), bA false]) [], bt, bt, bt, bt, ee] = .ok ((.normal, { t := [(1, sL 1 (ppA ps)), (2, bA true), (3, .gp 100000 0), (6, .gp 100001 0), (10, .gp 100002 0), (60, iA n), (61, iA (IntKind.i64.wrap ((↑i : Int) + 1)))], h := [(100000, gB (eV h l)), (100001, gB (.agg [iA 0, iA 0, .str [], .val (Value.slice none 0 0), .val (Value.slice none 0 0)])), (100002, gB (.agg [iA 6, iA 0, .str [], .gs 100003 0 ns.length, .gs 100004 0 out.length])), (100003, .arr 9 1 (List.map AV.str ns) .own), (100004, .arr 25 5 (encVs out) .own), (100005, gB (eV hx k))] }), [aE 9999978], d4 (decide (hx.kind = 6) = true) [MZ W 47 [sL 1 (ppA ps), .str s] [] (.ret (.tup [sL 1 [], bA false]) []), (List.map AV.str h.names)[(↑i : Int).toNat]? = some (AV.str s), (encVs l)[(↑i : Int).toNat]? = some (eV hx k), decide ((↑i : Int) < n) = true]) := by kernel_rfl
theorem b30o_tfe7_0 (W : World) (h hx : JH) (l k out : List JV) (ps : List (List (List UInt8))) (ns : List (List UInt8)) (n : Int) (i : Nat) (s : List UInt8) : sQ W { lp := true, tl := [30, 47] } 30 1 [] [1, 2, 3, 6, 10, 60, 61] (O30 h l ps true n ns out i) [bt, aE 1, oS (eV hx k), aE 1, oS (.str s), ee, cR (.tup [sL 1 (ppA []), bA false]) [], bf, bf, bf, bf, ee] = .ok ((.normal, { t := [(1, sL 1 (ppA ps)), (2, bA true), (3, .gp 100000 0), (6, .gp 100001 0), (10, .gp 100002 0), (60, iA n), (61, iA (IntKind.i64.wrap ((↑i : Int) + 1)))], h := [(100000, gB (eV h l)), (100001, gB (.agg [iA 0, iA 0, .str [], .val (Value.slice none 0 0), .val (Value.slice none 0 0)])), (100002, gB (.agg [iA 6, iA 0, .str [], .gs 100003 0 ns.length, .gs 100004 0 out.length])), (100003, .arr 9 1 (List.map AV.str ns) .own), (100004, .arr 25 5 (encVs out) .own), (100005, gB (eV hx k))] }), [aE 9999978], d4 (decide (hx.kind = 6) = false) [MZ W 47 [sL 1 (ppA ps), .str s] [] (.ret (.tup [sL 1 [], bA false]) []), (List.map AV.str h.names)[(↑i : Int).toNat]? = some (AV.str s), (encVs l)[(↑i : Int).toNat]? = some (eV hx k), decide ((↑i : Int) < n) = true]) := by kernel_rfl
theorem b30o_tfn5_1 (W : World) (h hx hy : JH) (l k y out : List JV) (ps rs : List (List (List UInt8))) (ns : List (List UInt8)) (n : Int) (i : Nat) (s : List UInt8) (r0 : List (List UInt8)) : sQ W { lp := true, tl := [30, 47] } 30 1 [] [1, 2, 3, 6, 10, 60, 61] (O30 h l ps true n ns out i) [bt, aE 1, oS (eV hx k), aE 1, oS (.str s), ee, cR (.tup [sL 1 (ppA (r0 :: rs)), bA false]) [], bf, bf, bf, bf, aE 20, bf, ee, cR (eV hy y) [], aE 1, oS (.str s), aE 1, .lg, .lg, aE 1, .lg, .lg, ee] = .ok ((.normal, { t := [(1, sL 1 (ppA ps)), (2, bA true), (3, .gp 100000 0), (6, .gp 100001 0), (10, .gp 100002 0), (60, iA n), (61, iA (IntKind.i64.wrap ((↑i : Int) + 1)))], h := [(100000, gB (eV h l)), (100001, gB (.agg [iA 0, iA 0, .str [], .val (Value.slice none 0 0), .val (Value.slice none 0 0)])), (100002, gB (.agg [iA 6, iA 0, .str [], .gs 100007 0 (ns.length + [AV.str s].length), .gs 100009 0 (out.length + [eV hy y].length)])), (100003, .dead), (100004, .dead), (100005, gB (eV hy y)), (100006, .arr 9 1 [.str s] .own), (100007, .arr 9 1 (List.take ns.length (List.map AV.str ns) ++ [AV.str s]) .own), (100008, .arr 25 5 [eV hy y] .own), (100009, .arr 25 5 (List.take out.length (encVs out) ++ [eV hy y]) .own)] }), [ee], ((out.length + [eV hy y].length) * 80 ≤ 140737488355328) :: ((St.own = St.own ∨ St.own = St.shr ∧ out.length = (encVs out).length) ∧ out.length ≤ (encVs out).length) :: ((ns.length + [AV.str s].length) * 16 ≤ 140737488355328) :: ((St.own = St.own ∨ St.own = St.shr ∧ ns.length = (List.map AV.str ns).length) ∧ ns.length ≤ (List.map AV.str ns).length) :: ((List.map AV.str h.names)[(↑i : Int).toNat]? = some (AV.str s)) :: MZ W 30 [eV hx k, sL 1 (sL 1 (List.map AV.str r0) :: ppA rs), bA true] [] (.ret (eV hy y) []) :: ((!decide (hx.kind = 5)) = false) :: (d4 (decide (hx.kind = 6) = false) [MZ W 47 [sL 1 (ppA ps), .str s] [] (.ret (.tup [sL 1 (sL 1 (List.map AV.str r0) :: ppA rs), bA false]) []), (List.map AV.str h.names)[(↑i : Int).toNat]? = some (AV.str s), (encVs l)[(↑i : Int).toNat]? = some (eV hx k), decide ((↑i : Int) < n) = true])) := by kernel_rfl
theorem b30o_tfn6_0 (W : World) (h hx hy : JH) (l k y out : List JV) (ps rs : List (List (List UInt8))) (ns : List (List UInt8)) (n : Int) (i : Nat) (s : List UInt8) (r0 : List (List UInt8)) : sQ W { lp := true, tl := [30, 47] } 30 1 [] [1, 2, 3, 6, 10, 60, 61] (O30 h l ps true n ns out i) [bt, aE 1, oS (eV hx k), aE 1, oS (.str s), ee, cR (.tup [sL 1 (ppA (r0 :: rs)), bA false]) [], bt, bt, bt, bt, ee, cR (eV hy y) [], aE 1, oS (.str s), aE 1, .lg, .lg, aE 1, .lg, .lg, ee] = .ok ((.normal, { t := [(1, sL 1 (ppA ps)), (2, bA true), (3, .gp 100000 0), (6, .gp 100001 0), (10, .gp 100002 0), (60, iA n), (61, iA (IntKind.i64.wrap ((↑i : Int) + 1)))], h := [(100000, gB (eV h l)), (100001, gB (.agg [iA 0, iA 0, .str [], .val (Value.slice none 0 0), .val (Value.slice none 0 0)])), (100002, gB (.agg [iA 6, iA 0, .str [], .gs 100007 0 (ns.length + [AV.str s].length), .gs 100009 0 (out.length + [eV hy y].length)])), (100003, .dead), (100004, .dead), (100005, gB (eV hy y)), (100006, .arr 9 1 [.str s] .own), (100007, .arr 9 1 (List.take ns.length (List.map AV.str ns) ++ [AV.str s]) .own), (100008, .arr 25 5 [eV hy y] .own), (100009, .arr 25 5 (List.take out.length (encVs out) ++ [eV hy y]) .own)] }), [ee], ((out.length + [eV hy y].length) * 80 ≤ 140737488355328) :: ((St.own = St.own ∨ St.own = St.shr ∧ out.length = (encVs out).length) ∧ out.length ≤ (encVs out).length) :: ((ns.length + [AV.str s].length) * 16 ≤ 140737488355328) :: ((St.own = St.own ∨ St.own = St.shr ∧ ns.length = (List.map AV.str ns).length) ∧ ns.length ≤ (List.map AV.str ns).length) :: ((List.map AV.str h.names)[(↑i : Int).toNat]? = some (AV.str s)) :: MZ W 30 [eV hx k, sL 1 (sL 1 (List.map AV.str r0) :: ppA rs), bA true] [] (.ret (eV hy y) []) :: (d4 (decide (hx.kind = 6) = true) [MZ W 47 [sL 1 (ppA ps), .str s] [] (.ret (.tup [sL 1 (sL 1 (List.map AV.str r0) :: ppA rs), bA false]) []), (List.map AV.str h.names)[(↑i : Int).toNat]? = some (AV.str s), (encVs l)[(↑i : Int).toNat]? = some (eV hx k), decide ((↑i : Int) < n) = true])) := by kernel_rfl
theorem b30o_tfn7_0 (W : World) (h hx : JH) (l k out : List JV) (ps rs : List (List (List UInt8))) (ns : List (List UInt8)) (n : Int) (i : Nat) (s : List UInt8) (r0 : List (List UInt8)) : sQ W { lp := true, tl := [30, 47] } 30 1 [] [1, 2, 3, 6, 10, 60, 61] (O30 h l ps true n ns out i) [bt, aE 1, oS (eV hx k), aE 1, oS (.str s), ee, cR (.tup [sL 1 (ppA (r0 :: rs)), bA false]) [], bf, bf, bf, bf, aE 20, bt, bt, ee] = .ok ((.normal, { t := [(1, sL 1 (ppA ps)), (2, bA true), (3, .gp 100000 0), (6, .gp 100001 0), (10, .gp 100002 0), (60, iA n), (61, iA (IntKind.i64.wrap ((↑i : Int) + 1)))], h := [(100000, gB (eV h l)), (100001, gB (.agg [iA 0, iA 0, .str [], .val (Value.slice none 0 0), .val (Value.slice none 0 0)])), (100002, gB (.agg [iA 6, iA 0, .str [], .gs 100003 0 ns.length, .gs 100004 0 out.length])), (100003, .arr 9 1 (List.map AV.str ns) .own), (100004, .arr 25 5 (encVs out) .own), (100005, gB (eV hx k))] }), [ee], d2 ((!decide (hx.kind = 5)) = true) (d4 (decide (hx.kind = 6) = false) [MZ W 47 [sL 1 (ppA ps), .str s] [] (.ret (.tup [sL 1 (sL 1 (List.map AV.str r0) :: ppA rs), bA false]) []), (List.map AV.str h.names)[(↑i : Int).toNat]? = some (AV.str s), (encVs l)[(↑i : Int).toNat]? = some (eV hx k), decide ((↑i : Int) < n) = true])) := by kernel_rfl
theorem b30o_fte6_0 (W : World) (h hx : JH) (l k out : List JV) (ps : List (List (List UInt8))) (ns : List (List UInt8)) (n : Int) (i : Nat) (s : List UInt8) : sQ W { lp := true, tl := [30, 47] } 30 1 [] [1, 2, 3, 6, 10, 60, 61] (O30 h l ps false n ns out i) [bt, aE 1, oS (eV hx k), aE 1, oS (.str s), ee, cR (.tup [sL 1 (ppA []), bA true]) [], bt, bt, bt, bt, ee] = .ok ((.normal, { t := [(1, sL 1 (ppA ps)), (2, bA false), (3, .gp 100000 0), (6, .gp 100001 0), (10, .gp 100002 0), (60, iA n), (61, iA (IntKind.i64.wrap ((↑i : Int) + 1)))], h := [(100000, gB (eV h l)), (100001, gB (.agg [iA 0, iA 0, .str [], .val (Value.slice none 0 0), .val (Value.slice none 0 0)])), (100002, gB (.agg [iA 6, iA 0, .str [], .gs 100003 0 ns.length, .gs 100004 0 out.length])), (100003, .arr 9 1 (List.map AV.str ns) .own), (100004, .arr 25 5 (encVs out) .own), (100005, gB (eV hx k))] }), [aE 9999979], d4 (decide (hx.kind = 6) = true) [MZ W 47 [sL 1 (ppA ps), .str s] [] (.ret (.tup [sL 1 [], bA true]) []), (List.map AV.str h.names)[(↑i : Int).toNat]? = some (AV.str s), (encVs l)[(↑i : Int).toNat]? = some (eV hx k), decide ((↑i : Int) < n) = true]) := by kernel_rfl
theorem b30o_fte7_0 (W : World) (h hx : JH) (l k out : List JV) (ps : List (List (List UInt8))) (ns : List (List UInt8)) (n : Int) (i : Nat) (s : List UInt8) : sQ W { lp := true, tl := [30, 47] } 30 1 [] [1, 2, 3, 6, 10, 60, 61] (O30 h l ps false n ns out i) [bt, aE 1, oS (eV hx k), aE 1, oS (.str s), ee, cR (.tup [sL 1 (ppA []), bA true]) [], bf, bf, bf, bf, ee] = .ok ((.normal, { t := [(1, sL 1 (ppA ps)), (2, bA false), (3, .gp 100000 0), (6, .gp 100001 0), (10, .gp 100002 0), (60, iA n), (61, iA (IntKind.i64.wrap ((↑i : Int) + 1)))], h := [(100000, gB (eV h l)), (100001, gB (.agg [iA 0, iA 0, .str [], .val (Value.slice none 0 0), .val (Value.slice none 0 0)])), (100002, gB (.agg [iA 6, iA 0, .str [], .gs 100003 0 ns.length, .gs 100004 0 out.length])), (100003, .arr 9 1 (List.map AV.str ns) .own), (100004, .arr 25 5 (encVs out) .own), (100005, gB (eV hx k))] }), [aE 9999979], d4 (decide (hx.kind = 6) = false) [MZ W 47 [sL 1 (ppA ps), .str s] [] (.ret (.tup [sL 1 [], bA true]) []), (List.map AV.str h.names)[(↑i : Int).toNat]? = some (AV.str s), (encVs l)[(↑i : Int).toNat]? = some (eV hx k), decide ((↑i : Int) < n) = true]) := by kernel_rfl
theorem b30o_fte7_1 (W : World) (h : JH) (l out : List JV) (ps : List (List (List UInt8))) (ns : List (List UInt8)) (n : Int) (i : Nat) : sQ W { lp := true, tl := [30, 47] } 30 1 [] [1, 2, 3, 6, 10, 60, 61] (O30 h l ps false n ns out i) [bf, ee] = .ok ((.exit 3, { t := [(1, sL 1 (ppA ps)), (2, bA false), (3, .gp 100000 0), (6, .gp 100001 0), (10, .gp 100002 0), (60, iA n), (61, iA (↑i : Int))], h := [(100000, gB (eV h l)), (100001, gB (.agg [iA 0, iA 0, .str [], .val (Value.slice none 0 0), .val (Value.slice none 0 0)])), (100002, gB (.agg [iA 6, iA 0, .str [], .gs 100003 0 ns.length, .gs 100004 0 out.length])), (100003, .arr 9 1 (List.map AV.str ns) .own), (100004, .arr 25 5 (encVs out) .own)] }), [ee], [decide ((↑i : Int) < n) = false]) := by kernel_rfl
theorem b30o_ffe6_0 (W : World) (h hx : JH) (l k out : List JV) (ps : List (List (List UInt8))) (ns : List (List UInt8)) (n : Int) (i : Nat) (s : List UInt8) : sQ W { lp := true, tl := [30, 47] } 30 1 [] [1, 2, 3, 6, 10, 60, 61] (O30 h l ps false n ns out i) [bt, aE 1, oS (eV hx k), aE 1, oS (.str s), ee, cR (.tup [sL 1 (ppA []), bA false]) [], bt, bt, bt, bt, aE 12, oS (.str s), aE 1, .lg, .lg, aE 1, .lg, .lg, ee] = .ok ((.normal, { t := [(1, sL 1 (ppA ps)), (2, bA false), (3, .gp 100000 0), (6, .gp 100001 0), (10, .gp 100002 0), (60, iA n), (61, iA (IntKind.i64.wrap ((↑i : Int) + 1)))], h := [(100000, gB (eV h l)), (100001, gB (.agg [iA 0, iA 0, .str [], .val (Value.slice none 0 0), .val (Value.slice none 0 0)])), (100002, gB (.agg [iA 6, iA 0, .str [], .gs 100007 0 (ns.length + [AV.str s].length), .gs 100009 0 (out.length + [eV hx k].length)])), (100003, .dead), (100004, .dead), (100005, gB (eV hx k)), (100006, .arr 9 1 [.str s] .own), (100007, .arr 9 1 (List.take ns.length (List.map AV.str ns) ++ [AV.str s]) .own), (100008, .arr 25 5 [eV hx k] .own), (100009, .arr 25 5 (List.take out.length (encVs out) ++ [eV hx k]) .own)] }), [ee], ((out.length + [eV hx k].length) * 80 ≤ 140737488355328) :: ((St.own = St.own ∨ St.own = St.shr ∧ out.length = (encVs out).length) ∧ out.length ≤ (encVs out).length) :: ((ns.length + [AV.str s].length) * 16 ≤ 140737488355328) :: ((St.own = St.own ∨ St.own = St.shr ∧ ns.length = (List.map AV.str ns).length) ∧ ns.length ≤ (List.map AV.str ns).length) :: ((List.map AV.str h.names)[(↑i : Int).toNat]? = some (AV.str s)) :: (d4 (decide (hx.kind = 6) = true) [MZ W 47 [sL 1 (ppA ps), .str s] [] (.ret (.tup [sL 1 [], bA false]) []), (List.map AV.str h.names)[(↑i : Int).toNat]? = some (AV.str s), (encVs l)[(↑i : Int).toNat]? = some (eV hx k), decide ((↑i : Int) < n) = true])) := by kernel_rfl
theorem b30o_ffe7_0 (W : World) (h hx : JH) (l k out : List JV) (ps : List (List (List UInt8))) (ns : List (List UInt8)) (n : Int) (i : Nat) (s : List UInt8) : sQ W { lp := true, tl := [30, 47] } 30 1 [] [1, 2, 3, 6, 10, 60, 61] (O30 h l ps false n ns out i) [bt, aE 1, oS (eV hx k), aE 1, oS (.str s), ee, cR (.tup [sL 1 (ppA []), bA false]) [], bf, bf, bf, bf, aE 12, oS (.str s), aE 1, .lg, .lg, aE 1, .lg, .lg, ee] = .ok ((.normal, { t := [(1, sL 1 (ppA ps)), (2, bA false), (3, .gp 100000 0), (6, .gp 100001 0), (10, .gp 100002 0), (60, iA n), (61, iA (IntKind.i64.wrap ((↑i : Int) + 1)))], h := [(100000, gB (eV h l)), (100001, gB (.agg [iA 0, iA 0, .str [], .val (Value.slice none 0 0), .val (Value.slice none 0 0)])), (100002, gB (.agg [iA 6, iA 0, .str [], .gs 100007 0 (ns.length + [AV.str s].length), .gs 100009 0 (out.length + [eV hx k].length)])), (100003, .dead), (100004, .dead), (100005, gB (eV hx k)), (100006, .arr 9 1 [.str s] .own), (100007, .arr 9 1 (List.take ns.length (List.map AV.str ns) ++ [AV.str s]) .own), (100008, .arr 25 5 [eV hx k] .own), (100009, .arr 25 5 (List.take out.length (encVs out) ++ [eV hx k]) .own)] }), [ee], ((out.length + [eV hx k].length) * 80 ≤ 140737488355328) :: ((St.own = St.own ∨ St.own = St.shr ∧ out.length = (encVs out).length) ∧ out.length ≤ (encVs out).length) :: ((ns.length + [AV.str s].length) * 16 ≤ 140737488355328) :: ((St.own = St.own ∨ St.own = St.shr ∧ ns.length = (List.map AV.str ns).length) ∧ ns.length ≤ (List.map AV.str ns).length) :: ((List.map AV.str h.names)[(↑i : Int).toNat]? = some (AV.str s)) :: (d4 (decide (hx.kind = 6) = false) [MZ W 47 [sL 1 (ppA ps), .str s] [] (.ret (.tup [sL 1 [], bA false]) []), (List.map AV.str h.names)[(↑i : Int).toNat]? = some (AV.str s), (encVs l)[(↑i : Int).toNat]? = some (eV hx k), decide ((↑i : Int) < n) = true])) := by kernel_rfl
theorem b30o_ffn5_0 (W : World) (h hx hy : JH) (l k y out : List JV) (ps rs : List (List (List UInt8))) (ns : List (List UInt8)) (n : Int) (i : Nat) (s : List UInt8) (r0 : List (List UInt8)) : sQ W { lp := true, tl := [30, 47] } 30 1 [] [1, 2, 3, 6, 10, 60, 61] (O30 h l ps false n ns out i) [bt, aE 1, oS (eV hx k), aE 1, oS (.str s), ee, cR (.tup [sL 1 (ppA (r0 :: rs)), bA false]) [], bf, bf, bf, bf, ee, cR (eV hy y) [], aE 1, oS (.str s), aE 1, .lg, .lg, aE 1, .lg, .lg, ee] = .ok ((.normal, { t := [(1, sL 1 (ppA ps)), (2, bA false), (3, .gp 100000 0), (6, .gp 100001 0), (10, .gp 100002 0), (60, iA n), (61, iA (IntKind.i64.wrap ((↑i : Int) + 1)))], h := [(100000, gB (eV h l)), (100001, gB (.agg [iA 0, iA 0, .str [], .val (Value.slice none 0 0), .val (Value.slice none 0 0)])), (100002, gB (.agg [iA 6, iA 0, .str [], .gs 100007 0 (ns.length + [AV.str s].length), .gs 100009 0 (out.length + [eV hy y].length)])), (100003, .dead), (100004, .dead), (100005, gB (eV hy y)), (100006, .arr 9 1 [.str s] .own), (100007, .arr 9 1 (List.take ns.length (List.map AV.str ns) ++ [AV.str s]) .own), (100008, .arr 25 5 [eV hy y] .own), (100009, .arr 25 5 (List.take out.length (encVs out) ++ [eV hy y]) .own)] }), [ee], ((out.length + [eV hy y].length) * 80 ≤ 140737488355328) :: ((St.own = St.own ∨ St.own = St.shr ∧ out.length = (encVs out).length) ∧ out.length ≤ (encVs out).length) :: ((ns.length + [AV.str s].length) * 16 ≤ 140737488355328) :: ((St.own = St.own ∨ St.own = St.shr ∧ ns.length = (List.map AV.str ns).length) ∧ ns.length ≤ (List.map AV.str ns).length) :: ((List.map AV.str h.names)[(↑i : Int).toNat]? = some (AV.str s)) :: MZ W 30 [eV hx k, sL 1 (sL 1 (List.map AV.str r0) :: ppA rs), bA false] [] (.ret (eV hy y) []) :: (d4 (decide (hx.kind = 6) = false) [MZ W 47 [sL 1 (ppA ps), .str s] [] (.ret (.tup [sL 1 (sL 1 (List.map AV.str r0) :: ppA rs), bA false]) []), (List.map AV.str h.names)[(↑i : Int).toNat]? = some (AV.str s), (encVs l)[(↑i : Int).toNat]? = some (eV hx k), decide ((↑i : Int) < n) = true])) := by kernel_rfl
theorem b30o_ffn6_0 (W : World) (h hx hy : JH) (l k y out : List JV) (ps rs : List (List (List UInt8))) (ns : List (List UInt8)) (n : Int) (i : Nat) (s : List UInt8) (r0 : List (List UInt8)) : sQ W { lp := true, tl := [30, 47] } 30 1 [] [1, 2, 3, 6, 10, 60, 61] (O30 h l ps false n ns out i) [bt, aE 1, oS (eV hx k), aE 1, oS (.str s), ee, cR (.tup [sL 1 (ppA (r0 :: rs)), bA false]) [], bt, bt, bt, bt, ee, cR (eV hy y) [], aE 1, oS (.str s), aE 1, .lg, .lg, aE 1, .lg, .lg, ee] = .ok ((.normal, { t := [(1, sL 1 (ppA ps)), (2, bA false), (3, .gp 100000 0), (6, .gp 100001 0), (10, .gp 100002 0), (60, iA n), (61, iA (IntKind.i64.wrap ((↑i : Int) + 1)))], h := [(100000, gB (eV h l)), (100001, gB (.agg [iA 0, iA 0, .str [], .val (Value.slice none 0 0), .val (Value.slice none 0 0)])), (100002, gB (.agg [iA 6, iA 0, .str [], .gs 100007 0 (ns.length + [AV.str s].length), .gs 100009 0 (out.length + [eV hy y].length)])), (100003, .dead), (100004, .dead), (100005, gB (eV hy y)), (100006, .arr 9 1 [.str s] .own), (100007, .arr 9 1 (List.take ns.length (List.map AV.str ns) ++ [AV.str s]) .own), (100008, .arr 25 5 [eV hy y] .own), (100009, .arr 25 5 (List.take out.length (encVs out) ++ [eV hy y]) .own)] }), [ee], ((out.length + [eV hy y].length) * 80 ≤ 140737488355328) :: ((St.own = St.own ∨ St.own = St.shr ∧ out.length = (encVs out).length) ∧ out.length ≤ (encVs out).length) :: ((ns.length + [AV.str s].length) * 16 ≤ 140737488355328) :: ((St.own = St.own ∨ St.own = St.shr ∧ ns.length = (List.map AV.str ns).length) ∧ ns.length ≤ (List.map AV.str ns).length) :: ((List.map AV.str h.names)[(↑i : Int).toNat]? = some (AV.str s)) :: MZ W 30 [eV hx k, sL 1 (sL 1 (List.map AV.str r0) :: ppA rs), bA false] [] (.ret (eV hy y) []) :: (d4 (decide (hx.kind = 6) = true) [MZ W 47 [sL 1 (ppA ps), .str s] [] (.ret (.tup [sL 1 (sL 1 (List.map AV.str r0) :: ppA rs), bA false]) []), (List.map AV.str h.names)[(↑i : Int).toNat]? = some (AV.str s), (encVs l)[(↑i : Int).toNat]? = some (eV hx k), decide ((↑i : Int) < n) = true])) := by kernel_rfl
theorem b30o_ffn7_0 (W : World) (h hx hy : JH) (l k y out : List JV) (ps rs : List (List (List UInt8))) (ns : List (List UInt8)) (n : Int) (i : Nat) (s : List UInt8) (r0 : List (List UInt8)) : sQ W { lp := true, tl := [30, 47] } 30 1 [] [1, 2, 3, 6, 10, 60, 61] (O30 h l ps false n ns out i) [bt, aE 1, oS (eV hx k), aE 1, oS (.str s), ee, cR (.tup [sL 1 (ppA (r0 :: rs)), bA false]) [], bf, bf, bf, bf, ee, cR (eV hy y) [], aE 1, oS (.str s), aE 1, .lg, .lg, aE 1, .lg, .lg, ee] = .ok ((.normal, { t := [(1, sL 1 (ppA ps)), (2, bA false), (3, .gp 100000 0), (6, .gp 100001 0), (10, .gp 100002 0), (60, iA n), (61, iA (IntKind.i64.wrap ((↑i : Int) + 1)))], h := [(100000, gB (eV h l)), (100001, gB (.agg [iA 0, iA 0, .str [], .val (Value.slice none 0 0), .val (Value.slice none 0 0)])), (100002, gB (.agg [iA 6, iA 0, .str [], .gs 100007 0 (ns.length + [AV.str s].length), .gs 100009 0 (out.length + [eV hy y].length)])), (100003, .dead), (100004, .dead), (100005, gB (eV hy y)), (100006, .arr 9 1 [.str s] .own), (100007, .arr 9 1 (List.take ns.length (List.map AV.str ns) ++ [AV.str s]) .own), (100008, .arr 25 5 [eV hy y] .own), (100009, .arr 25 5 (List.take out.length (encVs out) ++ [eV hy y]) .own)] }), [ee], ((out.length + [eV hy y].length) * 80 ≤ 140737488355328) :: ((St.own = St.own ∨ St.own = St.shr ∧ out.length = (encVs out).length) ∧ out.length ≤ (encVs out).length) :: ((ns.length + [AV.str s].length) * 16 ≤ 140737488355328) :: ((St.own = St.own ∨ St.own = St.shr ∧ ns.length = (List.map AV.str ns).length) ∧ ns.length ≤ (List.map AV.str ns).length) :: ((List.map AV.str h.names)[(↑i : Int).toNat]? = some (AV.str s)) :: MZ W 30 [eV hx k, sL 1 (sL 1 (List.map AV.str r0) :: ppA rs), bA false] [] (.ret (eV hy y) []) :: (d4 (decide (hx.kind = 6) = false) [MZ W 47 [sL 1 (ppA ps), .str s] [] (.ret (.tup [sL 1 (sL 1 (List.map AV.str r0) :: ppA rs), bA false]) []), (List.map AV.str h.names)[(↑i : Int).toNat]? = some (AV.str s), (encVs l)[(↑i : Int).toNat]? = some (eV hx k), decide ((↑i : Int) < n) = true])) := by kernel_rfl
theorem zho {p : Prop} (h : p := by and_intros <;> first | exact trivial | exact gOK_ph' rfl (by decide) rfl | exact gOK_eq rfl rfl rfl | (refine gOK_box rfl rfl rfl ?_; exact zp) | exact gOK_arr rfl rfl rfl zb | exact gOK_arr rfl rfl hsetN zb | exact gOK_arr rfl rfl hsetO zb) : p := h
theorem Ha4_z1 {kp f ph σ σ'} (h : MatchK kp f ph σ σ' := by exact ⟨by rfl, (by simp only [L30, E30l, O30, E30o, zV, tOK, List.map_cons, List.map_nil, and_true] <;> exact zt), (by simp only [L30, E30l, O30, E30o, zV, hOK, List.map_cons, List.map_nil, and_true] <;> exact zho), (by simp only [L30, E30l, O30, E30o, zV, liveT, List.map_cons, List.map_nil, and_true] <;> exact zv), (by simp only [L30, E30l, O30, E30o, zV, liveH, List.map_cons, List.map_nil, and_true] <;> exact zv)⟩) : MatchK kp f ph σ σ' := h
theorem Ha4_z2 {cs} (h : Holds cs := by simp only [Holds, and_true] <;> and_intros <;> first | assumption | exact zd | exact Ha4_z1) : Holds cs := h
theorem call30h : callable Tryz.prog 30 = true := by kernel_rfl
theorem call11h : callable Tryz.prog 11 = true := by kernel_rfl
theorem call4h : callable Tryz.prog 4 = true := by kernel_rfl
section
variable (W : World)
theorem encVs_ap : ∀ (a b : List JV), encVs (a ++ b) = encVs a ++ encVs b
  | [], b => rfl
  | x :: a, b => by rw [List.cons_append, encVs, encVs, encVs_ap a b]; rfl
theorem push_o (out : List JV) (x : JV) : List.take out.length (encVs out) ++ [encV x] = encVs (out ++ [x]) := by rw [← encVs_len out, List.take_length, encVs_ap]; rfl
theorem push_n (ns : List (List UInt8)) (s : List UInt8) : List.take ns.length (List.map AV.str ns) ++ [AV.str s] = List.map AV.str (ns ++ [s]) := by
  have : List.take ns.length (List.map AV.str ns) = List.map AV.str ns := List.take_of_length_le (by simp)
  rw [this, List.map_append]; rfl
theorem thrL_at {b : Bool} {ps : List (List (List UInt8))} {l : List JV} {i : Nat} {x : JV} (h : l[i]? = some x) : thrL b ps (l.drop i) = if deepB x = true ∨ b = false then thrV b ps x :: thrL b ps (l.drop (i + 1)) else thrL b ps (l.drop (i + 1)) := by rw [drop_get h, thrL]
theorem thrM_at {b : Bool} {ps : List (List (List UInt8))} {ns : List (List UInt8)} {l : List JV} {i : Nat} {s : List UInt8} {x : JV} (hs : ns[i]? = some s) (h : l[i]? = some x) : thrM b ps (ns.drop i) (l.drop i) =
    if (b = true ∧ (restsV ps s).2 = true) ∨ (b = false ∧ (restsV ps s).2 = false ∧ (restsV ps s).1 = []) then (s :: (thrM b ps (ns.drop (i + 1)) (l.drop (i + 1))).1, x :: (thrM b ps (ns.drop (i + 1)) (l.drop (i + 1))).2)
    else if (b = true ∧ ((restsV ps s).1 = [] ∨ deepB x = false)) ∨ (b = false ∧ (restsV ps s).2 = true) then thrM b ps (ns.drop (i + 1)) (l.drop (i + 1))
    else (s :: (thrM b ps (ns.drop (i + 1)) (l.drop (i + 1))).1, thrV b (restsV ps s).1 x :: (thrM b ps (ns.drop (i + 1)) (l.drop (i + 1))).2) := by rw [drop_get hs, drop_get h, thrM]
theorem thrM_nil {b : Bool} {ps : List (List (List UInt8))} {ns : List (List UInt8)} {l : List JV} (h : ns = [] ∨ l = []) : thrM b ps ns l = ([], []) := by
  rcases h with rfl | rfl
  · cases l <;> simp [thrM]
  · cases ns <;> simp [thrM]
inductive Rnd (h : JH) (l : List JV) (ps : List (List (List UInt8))) (b : Bool) (m : Nat) (s : List UInt8) (x : JV) (i : Nat) : Prop
  | keep (y : JV) (ht : ∀ r : List (List UInt8) × List JV, (thrM b ps (h.names.drop (i + 1)) (l.drop (i + 1))) = r → thrM b ps (h.names.drop i) (l.drop i) = (s :: r.1, y :: r.2))
      (hb : ∀ (ns : List (List UInt8)) (out : List JV), ns.length ≤ i → out.length ≤ i → BodyC Tryz.prog W [] (nslots Tryz.prog 30) (loopOf Tryz.prog 30 1) (O30 h l ps b m ns out i) .normal (O30 h l ps b m (ns ++ [s]) (out ++ [y]) (i + 1)))
  | skip (ht : thrM b ps (h.names.drop i) (l.drop i) = thrM b ps (h.names.drop (i + 1)) (l.drop (i + 1)))
      (hb : ∀ (ns : List (List UInt8)) (out : List JV), BodyC Tryz.prog W [] (nslots Tryz.prog 30) (loopOf Tryz.prog 30 1) (O30 h l ps b m ns out i) .normal (O30 h l ps b m ns out (i + 1)))
theorem round30 (h : JH) (l : List JV) (ps : List (List (List UInt8))) (b : Bool) (m : Nat) (s : List UInt8) (x : JV) (i : Nat) (hne : ∀ p ∈ ps, p ≠ []) (hpl : ps.length ≤ 2 ^ 30) (hs : h.names[i]? = some s) (hx : l[i]? = some x) (him : i < m) (hm : m ≤ 2 ^ 31)
    (ih : ∀ (rs : List (List (List UInt8))), rs.length ≤ 2 ^ 30 → (∀ p ∈ rs, p ≠ []) → Pure Tryz.prog W 30 [encV x, .sl 1 (ppA rs) [], bA b] (encV (thrV b rs x))) : Rnd W h l ps b m s x i := by
  have e : decide ((i : Int) < (m : Int)) = true := decide_eq_true (by omega)
  have hws : IntKind.i64.wrap ((i : Int) + 1) = ((i + 1 : Nat) : Int) := wrap_succ (by omega)
  have hc47 := mut_of_pure (by rfl) (rests47 W ps s hne hpl)
  have hr1 := rests_len ps s
  have hr2 := rests_ne hne s
  have hr3 : (restsV ps s).2 = true → (restsV ps s).1 = [] := fun g => restsG_snd s ps [] g
  have hgs : (h.names.map AV.str)[((i : Int)).toNat]? = some (AV.str s) := by rw [Int.toNat_natCast]; exact strs_get hs
  have hat := thrM_at (b := b) (ps := ps) hs hx
  generalize restsV ps s = r at hc47 hr1 hr2 hr3 hat
  obtain ⟨rs, wh⟩ := r
  simp only at hc47 hr1 hr2 hr3 hat
  have hc30 := mut_of_pure (by simp [cloL, encV_clo, AV.clo, bA]) (ih rs (by omega) hr2)
  have hdp : deepB x = true ↔ (x.kind = 6 ∨ x.kind = 5) := by simp [deepB]
  generalize hy : thrV b rs x = y at hc30 hat
  obtain ⟨hx1, k⟩ := x
  obtain ⟨hy1, k2⟩ := y
  have hk1 : (JV.mk hx1 k).kind = hx1.kind := rfl
  rw [hk1] at hdp
  have hget : (encVs l)[((i : Int)).toNat]? = some (encV (.mk hx1 k)) := by rw [Int.toNat_natCast]; exact encVs_get hx
  have len1 : ∀ (ns : List (List UInt8)), ns.length ≤ i → (ns.length + [AV.str s].length) * 16 ≤ 140737488355328 := fun ns hn => by simp only [List.length_cons, List.length_nil]; omega
  have len2 : ∀ (out : List JV) (z : JV), out.length ≤ i → (out.length + [encV z].length) * 80 ≤ 140737488355328 := fun out z hn => by simp only [List.length_cons, List.length_nil]; omega
  have le1 : ∀ (ns : List (List UInt8)), (St.own = St.own ∨ St.own = St.shr ∧ ns.length = (List.map AV.str ns).length) ∧ ns.length ≤ (List.map AV.str ns).length := fun ns => ⟨.inl rfl, by rw [List.length_map]; omega⟩
  have le2 : ∀ (out : List JV), (St.own = St.own ∨ St.own = St.shr ∧ out.length = (encVs out).length) ∧ out.length ≤ (encVs out).length := fun out => ⟨.inl rfl, by rw [encVs_len]; omega⟩
  cases b with
  | true =>
    cases wh with
    | true =>
      obtain rfl := hr3 rfl
      by_cases k6 : hx1.kind = 6
      · have c6 := decide_eq_true k6
        refine .keep (.mk hx1 k) (fun r hr => by rw [hat, if_pos (.inl ⟨rfl, rfl⟩), hr]) fun ns out hn ho => ?_
        have hsetN := push_n ns s
        have hsetO := push_o out (.mk hx1 k)
        have q1 := len1 ns hn
        have q2 := len2 out (.mk hx1 k) ho
        have q3 := le1 ns
        have q4 := le2 out
        exact body_of_sbodyK mixedz (b30o_tte6_0 W h hx1 l k out ps ns m i s) Ha4_z2 [(100003, 100007), (100004, 100009)] [] Ha4_z1
      · have c6 := decide_eq_false k6
        refine .keep (.mk hx1 k) (fun r hr => by rw [hat, if_pos (.inl ⟨rfl, rfl⟩), hr]) fun ns out hn ho => ?_
        have hsetN := push_n ns s
        have hsetO := push_o out (.mk hx1 k)
        have q1 := len1 ns hn
        have q2 := len2 out (.mk hx1 k) ho
        have q3 := le1 ns
        have q4 := le2 out
        exact body_of_sbodyK mixedz (b30o_tte7_0 W h hx1 l k out ps ns m i s) Ha4_z2 [(100003, 100007), (100004, 100009)] [] Ha4_z1
    | false =>
      have n1 : ¬ ((true = true ∧ false = true) ∨ (true = false ∧ false = false ∧ rs = [])) := by simp
      cases rs with
      | nil =>
        by_cases k6 : hx1.kind = 6
        · have c6 := decide_eq_true k6
          exact .skip (by rw [hat, if_neg n1, if_pos (.inl ⟨rfl, .inl rfl⟩)]) fun ns out => body_of_sbodyK mixedz (b30o_tfe6_0 W h hx1 l k out ps ns m i s) Ha4_z2 [] [] Ha4_z1
        · have c6 := decide_eq_false k6
          exact .skip (by rw [hat, if_neg n1, if_pos (.inl ⟨rfl, .inl rfl⟩)]) fun ns out => body_of_sbodyK mixedz (b30o_tfe7_0 W h hx1 l k out ps ns m i s) Ha4_z2 [] [] Ha4_z1
      | cons r0 rs =>
        by_cases k6 : hx1.kind = 6
        · have c6 := decide_eq_true k6
          have n2 : ¬ ((true = true ∧ (r0 :: rs = [] ∨ deepB (.mk hx1 k) = false)) ∨ (true = false ∧ false = true)) := by rw [hdp.2 (.inl k6)]; simp
          refine .keep (.mk hy1 k2) (fun r hr => by rw [hat, if_neg n1, if_neg n2, hr]) fun ns out hn ho => ?_
          have hsetN := push_n ns s
          have hsetO := push_o out (.mk hy1 k2)
          have q1 := len1 ns hn
          have q2 := len2 out (.mk hy1 k2) ho
          have q3 := le1 ns
          have q4 := le2 out
          exact body_of_sbodyK mixedz (b30o_tfn6_0 W h hx1 hy1 l k k2 out ps rs ns m i s r0) Ha4_z2 [(100003, 100007), (100004, 100009)] [] Ha4_z1
        · have c6 := decide_eq_false k6
          by_cases k5 : hx1.kind = 5
          · have c5 : (!decide (hx1.kind = 5)) = false := by rw [decide_eq_true k5]; rfl
            have n2 : ¬ ((true = true ∧ (r0 :: rs = [] ∨ deepB (.mk hx1 k) = false)) ∨ (true = false ∧ false = true)) := by rw [hdp.2 (.inr k5)]; simp
            refine .keep (.mk hy1 k2) (fun r hr => by rw [hat, if_neg n1, if_neg n2, hr]) fun ns out hn ho => ?_
            have hsetN := push_n ns s
            have hsetO := push_o out (.mk hy1 k2)
            have q1 := len1 ns hn
            have q2 := len2 out (.mk hy1 k2) ho
            have q3 := le1 ns
            have q4 := le2 out
            exact body_of_sbodyK mixedz (b30o_tfn5_1 W h hx1 hy1 l k k2 out ps rs ns m i s r0) Ha4_z2 [(100003, 100007), (100004, 100009)] [] Ha4_z1
          · have c5 : (!decide (hx1.kind = 5)) = true := by rw [decide_eq_false k5]; rfl
            have nd : deepB (.mk hx1 k) = false := by cases hd : deepB (.mk hx1 k) with | false => rfl | true => exact absurd (hdp.1 hd) (by simp [k6, k5])
            exact .skip (by rw [hat, if_neg n1, if_pos (.inl ⟨rfl, .inr nd⟩)]) fun ns out => body_of_sbodyK mixedz (b30o_tfn7_0 W h hx1 l k out ps rs ns m i s r0) Ha4_z2 [] [] Ha4_z1
  | false =>
    cases wh with
    | true =>
      obtain rfl := hr3 rfl
      have n1 : ¬ ((false = true ∧ true = true) ∨ (false = false ∧ true = false ∧ ([] : List (List (List UInt8))) = [])) := by simp
      by_cases k6 : hx1.kind = 6
      · have c6 := decide_eq_true k6
        exact .skip (by rw [hat, if_neg n1, if_pos (.inr ⟨rfl, rfl⟩)]) fun ns out => body_of_sbodyK mixedz (b30o_fte6_0 W h hx1 l k out ps ns m i s) Ha4_z2 [] [] Ha4_z1
      · have c6 := decide_eq_false k6
        exact .skip (by rw [hat, if_neg n1, if_pos (.inr ⟨rfl, rfl⟩)]) fun ns out => body_of_sbodyK mixedz (b30o_fte7_0 W h hx1 l k out ps ns m i s) Ha4_z2 [] [] Ha4_z1
    | false =>
      cases rs with
      | nil =>
        by_cases k6 : hx1.kind = 6
        · have c6 := decide_eq_true k6
          refine .keep (.mk hx1 k) (fun r hr => by rw [hat, if_pos (.inr ⟨rfl, rfl, rfl⟩), hr]) fun ns out hn ho => ?_
          have hsetN := push_n ns s
          have hsetO := push_o out (.mk hx1 k)
          have q1 := len1 ns hn
          have q2 := len2 out (.mk hx1 k) ho
          have q3 := le1 ns
          have q4 := le2 out
          exact body_of_sbodyK mixedz (b30o_ffe6_0 W h hx1 l k out ps ns m i s) Ha4_z2 [(100003, 100007), (100004, 100009)] [] Ha4_z1
        · have c6 := decide_eq_false k6
          refine .keep (.mk hx1 k) (fun r hr => by rw [hat, if_pos (.inr ⟨rfl, rfl, rfl⟩), hr]) fun ns out hn ho => ?_
          have hsetN := push_n ns s
          have hsetO := push_o out (.mk hx1 k)
          have q1 := len1 ns hn
          have q2 := len2 out (.mk hx1 k) ho
          have q3 := le1 ns
          have q4 := le2 out
          exact body_of_sbodyK mixedz (b30o_ffe7_0 W h hx1 l k out ps ns m i s) Ha4_z2 [(100003, 100007), (100004, 100009)] [] Ha4_z1
      | cons r0 rs =>
        have n1 : ¬ ((false = true ∧ false = true) ∨ (false = false ∧ false = false ∧ r0 :: rs = [])) := by simp
        have n2 : ¬ ((false = true ∧ (r0 :: rs = [] ∨ deepB (.mk hx1 k) = false)) ∨ (false = false ∧ false = true)) := by simp
        by_cases k6 : hx1.kind = 6
        · have c6 := decide_eq_true k6
          refine .keep (.mk hy1 k2) (fun r hr => by rw [hat, if_neg n1, if_neg n2, hr]) fun ns out hn ho => ?_
          have hsetN := push_n ns s
          have hsetO := push_o out (.mk hy1 k2)
          have q1 := len1 ns hn
          have q2 := len2 out (.mk hy1 k2) ho
          have q3 := le1 ns
          have q4 := le2 out
          exact body_of_sbodyK mixedz (b30o_ffn6_0 W h hx1 hy1 l k k2 out ps rs ns m i s r0) Ha4_z2 [(100003, 100007), (100004, 100009)] [] Ha4_z1
        · have c6 := decide_eq_false k6
          by_cases k5 : hx1.kind = 5
          · have c5 := decide_eq_true k5
            refine .keep (.mk hy1 k2) (fun r hr => by rw [hat, if_neg n1, if_neg n2, hr]) fun ns out hn ho => ?_
            have hsetN := push_n ns s
            have hsetO := push_o out (.mk hy1 k2)
            have q1 := len1 ns hn
            have q2 := len2 out (.mk hy1 k2) ho
            have q3 := le1 ns
            have q4 := le2 out
            exact body_of_sbodyK mixedz (b30o_ffn5_0 W h hx1 hy1 l k k2 out ps rs ns m i s r0) Ha4_z2 [(100003, 100007), (100004, 100009)] [] Ha4_z1
          · have c5 := decide_eq_false k5
            refine .keep (.mk hy1 k2) (fun r hr => by rw [hat, if_neg n1, if_neg n2, hr]) fun ns out hn ho => ?_
            have hsetN := push_n ns s
            have hsetO := push_o out (.mk hy1 k2)
            have q1 := len1 ns hn
            have q2 := len2 out (.mk hy1 k2) ho
            have q3 := le1 ns
            have q4 := le2 out
            exact body_of_sbodyK mixedz (b30o_ffn7_0 W h hx1 hy1 l k k2 out ps rs ns m i s r0) Ha4_z2 [(100003, 100007), (100004, 100009)] [] Ha4_z1
theorem loop30o (h : JH) (l : List JV) (ps : List (List (List UInt8))) (b : Bool) (m : Nat) (hm : m ≤ 2 ^ 31) (hmn : m ≤ h.names.length) (hml : m ≤ l.length) (hmin : m = l.length ∨ m = h.names.length) (hne : ∀ p ∈ ps, p ≠ []) (hpl : ps.length ≤ 2 ^ 30)
    (ih : ∀ (i : Nat) (x : JV), l[i]? = some x → ∀ (rs : List (List (List UInt8))), rs.length ≤ 2 ^ 30 → (∀ p ∈ rs, p ≠ []) → Pure Tryz.prog W 30 [encV x, .sl 1 (ppA rs) [], bA b] (encV (thrV b rs x))) :
    ∀ (j i : Nat) (ns : List (List UInt8)) (out : List JV), m - i = j → i ≤ m → ns.length ≤ i → out.length ≤ i →
      LoopC Tryz.prog W [] (nslots Tryz.prog 30) (loopOf Tryz.prog 30 1) (O30 h l ps b m ns out i) (.exit 3) (E30o (ns ++ (thrM b ps (h.names.drop i) (l.drop i)).1) (out ++ (thrM b ps (h.names.drop i) (l.drop i)).2)) := by
  intro j
  induction j with
  | zero =>
    intro i ns out hj hi hn ho
    have e : decide ((i : Int) < (m : Int)) = false := decide_eq_false (by omega)
    rw [thrM_nil (ns := h.names.drop i) (l := l.drop i) (by
      rcases hmin with q | q
      · right; exact List.drop_of_length_le (by omega)
      · left; exact List.drop_of_length_le (by omega)), List.append_nil, List.append_nil]
    cases b with
    | true => exact loop_last (by simp) (body_of_sbodyK mixedz (b30o_tte7_1 W h l out ps ns m i) Ha4_z2 [] [] Ha4_z1)
    | false => exact loop_last (by simp) (body_of_sbodyK mixedz (b30o_fte7_1 W h l out ps ns m i) Ha4_z2 [] [] Ha4_z1)
  | succ j ihj =>
    intro i ns out hj hi hn ho
    obtain ⟨x, hx⟩ := getOf (l := l) (i := i) (by omega)
    obtain ⟨s, hs⟩ := getOf (l := h.names) (i := i) (by omega)
    rcases round30 W h l ps b m s x i hne hpl hs hx (by omega) hm (ih i x hx) with ⟨y, ht, hb⟩ | ⟨ht, hb⟩
    · have h1 := ihj (i + 1) (ns ++ [s]) (out ++ [y]) (by omega) (by omega) (by rw [List.length_append]; simp only [List.length_cons, List.length_nil]; omega) (by rw [List.length_append]; simp only [List.length_cons, List.length_nil]; omega)
      rw [List.append_assoc, List.append_assoc] at h1
      rw [ht _ rfl]
      exact loop_next (hb ns out hn ho) h1
    · rw [ht]
      exact loop_next (hb ns out) (ihj (i + 1) ns out (by omega) (by omega) (by omega) (by omega))
theorem loop30l (l : List JV) (ps : List (List (List UInt8))) (b : Bool) (hl : l.length ≤ 2 ^ 31)
    (ih : ∀ (i : Nat) (x : JV), l[i]? = some x → Pure Tryz.prog W 30 [encV x, .sl 1 (ppA ps) [], bA b] (encV (thrV b ps x))) :
    ∀ (j i : Nat) (out : List JV), l.length - i = j → i ≤ l.length → out.length ≤ i → LoopC Tryz.prog W [] (nslots Tryz.prog 30) (loopOf Tryz.prog 30 0) (L30 ps b l out i) (.exit 1) (E30l (out ++ thrL b ps (l.drop i))) := by
  intro j
  induction j with
  | zero =>
    intro i out hj hi ho
    have e : decide ((i : Int) < (((encVs l).length : Nat) : Int)) = false := by rw [encVs_len]; exact decide_eq_false (by omega)
    rw [List.drop_of_length_le (l := l) (by omega), thrL, List.append_nil]
    exact loop_last (by simp) (body_of_sbodyK mixedz (b30l_4 W l out ps b i) Ha4_z2 [] [] Ha4_z1)
  | succ j ihj =>
    intro i out hj hi ho
    obtain ⟨x, hx⟩ := getOf (l := l) (i := i) (by omega)
    have e : decide ((i : Int) < (((encVs l).length : Nat) : Int)) = true := by rw [encVs_len]; exact decide_eq_true (by omega)
    have hws : IntKind.i64.wrap ((i : Int) + 1) = ((i + 1 : Nat) : Int) := wrap_succ (by omega)
    have hc30 := mut_of_pure (by simp [cloL, encV_clo, AV.clo, bA]) (ih i x hx)
    have hdp : deepB x = true ↔ (x.kind = 6 ∨ x.kind = 5) := by simp [deepB]
    rw [thrL_at hx]
    generalize thrV b ps x = y at hc30
    obtain ⟨hx1, k⟩ := x
    obtain ⟨hy1, k2⟩ := y
    have hk1 : (JV.mk hx1 k).kind = hx1.kind := rfl
    rw [hk1] at hdp
    have hget : (encVs l)[((i : Int)).toNat]? = some (encV (.mk hx1 k)) := by rw [Int.toNat_natCast]; exact encVs_get hx
    have q2 : (out.length + [encV (.mk hy1 k2)].length) * 80 ≤ 140737488355328 := by simp only [List.length_cons, List.length_nil]; omega
    have q4 : (St.own = St.own ∨ St.own = St.shr ∧ out.length = (encVs out).length) ∧ out.length ≤ (encVs out).length := ⟨.inl rfl, by rw [encVs_len]; omega⟩
    have hsetO := push_o out (.mk hy1 k2)
    have hone : (out ++ [JV.mk hy1 k2]).length ≤ i + 1 := by rw [List.length_append]; simp only [List.length_cons, List.length_nil]; omega
    have h1 := ihj (i + 1) (out ++ [.mk hy1 k2]) (by omega) (by omega) hone
    rw [List.append_assoc, List.singleton_append] at h1
    by_cases k6 : hx1.kind = 6
    · have c6 := decide_eq_true k6
      rw [if_pos (.inl (hdp.2 (.inl k6)))]
      exact loop_next (body_of_sbodyK mixedz (b30l_0 W hx1 hy1 l k k2 out ps b i) Ha4_z2 [(100003, 100006)] [] Ha4_z1) h1
    have c6 := decide_eq_false k6
    by_cases k5 : hx1.kind = 5
    · have c5 := decide_eq_true k5
      rw [if_pos (.inl (hdp.2 (.inr k5)))]
      exact loop_next (body_of_sbodyK mixedz (b30l_1 W hx1 hy1 l k k2 out ps b i) Ha4_z2 [(100003, 100006)] [] Ha4_z1) h1
    have c5 := decide_eq_false k5
    have nd : ¬ deepB (.mk hx1 k) = true := fun hd => absurd (hdp.1 hd) (by simp [k6, k5])
    cases b with
    | true =>
      have cb : (!true) = false := rfl
      rw [if_neg (by rintro (q | q); exact nd q; cases q)]
      exact loop_next (body_of_sbodyK mixedz (b30l_3 W hx1 l k out ps true i) Ha4_z2 [] [] Ha4_z1) (ihj (i + 1) out (by omega) (by omega) (by omega))
    | false =>
      have cb : (!false) = true := rfl
      rw [if_pos (.inr rfl)]
      exact loop_next (body_of_sbodyK mixedz (b30l_2 W hx1 hy1 l k k2 out ps false i) Ha4_z2 [(100003, 100006)] [] Ha4_z1) h1
theorem through30 (b : Bool) : ∀ (n : Nat) (v : JV) (ps : List (List (List UInt8))), sizeV v < n → cntV v ≤ 2 ^ 30 → ps.length ≤ 2 ^ 30 → (∀ p ∈ ps, p ≠ []) → Pure Tryz.prog W 30 [encV v, .sl 1 (ppA ps) [], bA b] (encV (thrV b ps v))
  | 0, _, _, h, _, _, _ => by omega
  | n + 1, .mk h l, ps, hs, hc, hpl, hne => by
    have hln := cntV_len (.mk h l)
    simp only [JV.items, JV.names, JV.hd] at hln
    have ih : ∀ (i : Nat) (x : JV), l[i]? = some x → ∀ (rs : List (List (List UInt8))), rs.length ≤ 2 ^ 30 → (∀ p ∈ rs, p ≠ []) → Pure Tryz.prog W 30 [encV x, .sl 1 (ppA rs) [], bA b] (encV (thrV b rs x)) := fun i x hx rs h1 h2 =>
      through30 b n x rs (by have := sizeV_item (v := .mk h l) hx; omega) (by have := cntV_item (v := .mk h l) hx; omega) h1 h2
    rw [thrV]
    by_cases k5 : h.kind = 5
    · have c5 := decide_eq_true k5
      rw [if_pos k5]
      have hlp := loop30l W l ps b (by omega) (fun i x hx => ih i x hx ps hpl hne) l.length 0 [] (by omega) (by omega) (Nat.le_refl _)
      rw [List.drop_zero, List.nil_append] at hlp
      generalize thrL b ps l = out at hlp ⊢
      have hM := mut_of_sfun mixedz call30h rfl (p30l_0 W h l out ps b) ⟨Ha4_z1, hlp, Ha4_z1, c5, trivial⟩
      refine pure_leR ?_ (pure_frz [(100003, .arr 25 5 (encVs out) .own)] (r' := .agg [iA 5, iA 0, .str [], .val (.slice none 0 0), .sl 5 (encVs out) []]) hM (frz2 rfl (encVs_clo out)) ?_ ?_)
      · exact .agg (.cons (.refl _) (.cons (.refl _) (.cons (.refl _) (.cons (.nil 1) (.cons (.refl _) .nil)))))
      · simp [clA, clL, lk, iA, ← encVs_len out]
      · simp [AV.clo, cloL, encVs_clo, iA]
    have c5 := decide_eq_false k5
    rw [if_neg k5]
    by_cases k6 : h.kind = 6
    · have c6 := decide_eq_true k6
      rw [if_pos k6]
      have hmin : (JV.mk h l).mem = l.length ∨ (JV.mk h l).mem = h.names.length := by rw [mem_mk]; split <;> omega
      have hme : (if ((encVs l).length : Int) < ((List.map AV.str h.names).length : Int) then ((encVs l).length : Int) else ((List.map AV.str h.names).length : Int)) = (((JV.mk h l).mem : Nat) : Int) := by
        rw [mem_mk, encVs_len, List.length_map]; split <;> split <;> omega
      have hmn := JV.mem_names (.mk h l)
      have hml := JV.mem_items (.mk h l)
      simp only [JV.items, JV.names, JV.hd] at hmn hml
      generalize (JV.mk h l).mem = m at hmin hme hmn hml
      have hlp := loop30o W h l ps b m (by omega) hmn hml hmin hne hpl ih m 0 [] [] (by omega) (by omega) (Nat.le_refl _) (Nat.le_refl _)
      rw [List.drop_zero, List.drop_zero, List.nil_append, List.nil_append] at hlp
      generalize (thrM b ps h.names l).1 = ns at hlp ⊢
      generalize (thrM b ps h.names l).2 = out at hlp ⊢
      have hM := mut_of_sfun mixedz call30h rfl (p30o_0 W h l out ps ns b m) ⟨Ha4_z1, hlp, Ha4_z1, c6, c5, trivial⟩
      refine pure_frz [(100003, .arr 9 1 (ns.map AV.str) .own), (100004, .arr 25 5 (encVs out) .own)] hM ?_ ?_ (encV_clo _)
      · intro p hp
        simp only [List.mem_cons, List.not_mem_nil, or_false] at hp
        rcases hp with rfl | rfl
        · exact ⟨rfl, cloL_str _⟩
        · exact ⟨rfl, encVs_clo _⟩
      · simp [clA, clL, lk, iA, encV, ← encVs_len out]; try exact List.take_of_length_le (by simp)
    have c6 := decide_eq_false k6
    rw [if_neg k6]
    exact pure_of_mut (encV_clo _) (mut_of_sfun mixedz call30h rfl (p30x_0 W h l ps b) Ha4_z2)
def fldA (ps : List (List (List UInt8))) (b : Bool) : AV := .ip (.agg [.sl 1 (ppA ps) [], bA b]) 0
theorem apply11 (b : Bool) (v : JV) (ps : List (List (List UInt8))) (hc : cntV v ≤ 2 ^ 30) (hpl : ps.length ≤ 2 ^ 30) (hne : ∀ p ∈ ps, p ≠ []) (h0 : ps ≠ []) : Pure Tryz.prog W 11 [fldA ps b, encV v] (encV (thrV b ps v)) := by
  have h1 := mut_of_pure (by simp [cloL, encV_clo, AV.clo, bA]) (through30 W b _ v ps (Nat.lt_succ_self _) hc hpl hne)
  have e : decide (((ppA ps).length : Int) = 0) = false := by
    rw [ppA_len]; refine decide_eq_false fun q => h0 (List.length_eq_zero_iff.1 (by omega))
  generalize thrV b ps v = y at h1 ⊢
  obtain ⟨h, l⟩ := v
  obtain ⟨hy, k⟩ := y
  exact pure_of_mut (encV_clo _) (mut_of_sfun mixedz call11h rfl (p11_1 W h hy l k ps b) Ha4_z2)
theorem large4 (v : JV) (hok : okV v) : ∃ g : Bool, Pure Tryz.prog W 4 [.sl 5 [encV v] []] (bA g) ∧ (g = false → cntV v ≤ 5000) := by
  have h1 := mut_of_pure (by simp [cloL, encV_clo, AV.clo, iA]) (parts W v 5000 hok (by omega) (by omega))
  have h2 := partsV_bd v 5000 hok (by omega)
  obtain ⟨h, l⟩ := v
  have hw : IntKind.i64.wrap (0 + partsV (.mk h l) 5000) = partsV (.mk h l) 5000 := by rw [Int.zero_add]; exact IntWalk.i64_in _ (by omega)
  refine ⟨_, pure_of_mut rfl (mut_of_sfun mixedz call4h rfl (p4_0 W h l (partsV (.mk h l) 5000)) Ha4_z2), fun hg => ?_⟩
  rw [hw, decide_eq_false_iff_not] at hg
  have := parts_cnt (.mk h l) 5000 (by omega)
  omega
end
end Go.Ac

