/- What is proved: contracts of functions of this translation, walked; their plain meaning. No condition beyond those that each theorem names. -/
import Derived.Test.YtohlmhkiejpkgaaGreatDoorPn
set_option linter.all false
namespace Go.Ac
open Go Go.Proofs
set_option maxRecDepth 10000
set_option maxHeartbeats 2000000
def Q73 (ns acc : List AV) (i : Nat) : AS := ⟨[(3, .gs 100001 0 acc.length), (19, .sl 1 ns []), (20, iA ns.length), (21, iA i)], [(100001, .arr 58 7 acc .own)]⟩
def G73 (ns acc : List AV) (i : Nat) : AS := ⟨[(3, .gs 100001 0 acc.length), (37, .sl 1 ns []), (38, iA ns.length), (39, iA i)], [(100001, .arr 58 7 acc .own)]⟩
def C73 (s : List UInt8) (P T acc : List AV) (i : Nat) : AS := ⟨[(3, .gs 100001 0 acc.length), (10, .gp 100000 0), (52, .sl 7 T []), (53, iA T.length), (54, iA i)], [(100000, .box (.agg [.str s, .sl 1 P [], .sl 7 T []]) .own), (100001, .arr 58 7 acc .own)]⟩
def E73 (acc : List AV) : AS := ⟨[(3, .gs 100001 0 acc.length)], [(100001, .arr 58 7 acc .own)]⟩
def trA (nm : List UInt8) (h : JH) (l : List JV) (kf : Nat) (ys : List AV) : AV := .agg [.str nm, iA h.kind, iA h.int, .str h.text, .sl 1 (h.names.map .str) [], .sl 5 (encVs l) [], .fn (.func kf) [] ys]
def ndA (s : List UInt8) (op : Int) (h : JH) (l : List JV) : AV := .agg [.str s, iA op, iA h.kind, iA h.int, .str h.text, .sl 1 (h.names.map .str) [], .sl 5 (encVs l) []]
abbrev oB (s : List UInt8) (v : AV) : AV := .agg [iA 6, iA 0, .str [], .sl 1 [.str s] [], .sl 5 [v] []]
def W8 : List AV := [.str [], .str [36, 101, 113], .str [36, 103, 116], .str [36, 103, 116, 101], .str [36, 108, 116], .str [36, 108, 116, 101], .str [36, 105, 110]]
def S8 (hd : JH) (ld : List JV) (N : List AV) (i : Nat) : AS := ⟨[(3, .gp 100001 0), (9, .sl 7 N []), (10, .gs 100003 0 7), (11, iA i)], [(100001, .box (encV (.mk hd ld)) .own), (100003, .arr 9 1 W8 .own)]⟩
def E8 : AS := ⟨[], []⟩
theorem bqg_0 (W : World) (ns acc r : List AV) (i : Nat) (Q : List AV) (s2 : List UInt8) : sQ W { lp := true, tl := [73] } 73 0 [] [3, 19, 20, 21] (Q73 ns acc i) [bt, aE 1, oS (.ifc 155 (.agg [.str s2, sL 1 Q])), ee, cR (sL 7 r) [], aE 1, .lg, .lg, ee] = .ok ((.normal, { t := [(3, .gs 100002 0 (acc.length + r.length)), (19, sL 1 ns), (20, iA (↑ns.length : Int)), (21, iA (IntKind.i64.wrap ((↑i : Int) + 1)))], h := [(100001, .dead), (100002, .arr 58 7 (List.take acc.length acc ++ r) .own)] }), [ee], [(acc.length + r.length) * 104 ≤ 140737488355328, (St.own = St.own ∨ St.own = St.shr ∧ acc.length = acc.length) ∧ acc.length ≤ acc.length, MZ W 73 [.ifc 155 (.agg [.str s2, sL 1 Q])] [] (.ret (sL 7 r) []), ns[(↑i : Int).toNat]? = some (AV.ifc 155 (.agg [.str s2, sL 1 Q])), decide ((↑i : Int) < (↑ns.length : Int)) = true]) := by kernel_rfl
theorem bqg_1 (W : World) (ns acc : List AV) (i : Nat) : sQ W { lp := true, tl := [73] } 73 0 [] [3, 19, 20, 21] (Q73 ns acc i) [bf, ee] = .ok ((.exit 1, { t := [(3, .gs 100001 0 acc.length), (19, sL 1 ns), (20, iA (↑ns.length : Int)), (21, iA (↑i : Int))], h := [(100001, .arr 58 7 acc .own)] }), [ee], [decide ((↑i : Int) < (↑ns.length : Int)) = false]) := by kernel_rfl
theorem bqc_0 (W : World) (ns acc r : List AV) (i : Nat) (P2 T2 : List AV) (s2 : List UInt8) : sQ W { lp := true, tl := [73] } 73 0 [] [3, 19, 20, 21] (Q73 ns acc i) [bt, aE 1, oS (.ifc 152 (.agg [.str s2, sL 1 P2, sL 7 T2])), ee, cR (sL 7 r) [], aE 1, .lg, .lg, ee] = .ok ((.normal, { t := [(3, .gs 100002 0 (acc.length + r.length)), (19, sL 1 ns), (20, iA (↑ns.length : Int)), (21, iA (IntKind.i64.wrap ((↑i : Int) + 1)))], h := [(100001, .dead), (100002, .arr 58 7 (List.take acc.length acc ++ r) .own)] }), [ee], [(acc.length + r.length) * 104 ≤ 140737488355328, (St.own = St.own ∨ St.own = St.shr ∧ acc.length = acc.length) ∧ acc.length ≤ acc.length, MZ W 73 [.ifc 152 (.agg [.str s2, sL 1 P2, sL 7 T2])] [] (.ret (sL 7 r) []), ns[(↑i : Int).toNat]? = some (AV.ifc 152 (.agg [.str s2, sL 1 P2, sL 7 T2])), decide ((↑i : Int) < (↑ns.length : Int)) = true]) := by kernel_rfl
theorem bg_0 (W : World) (ns acc r : List AV) (i : Nat) (Q : List AV) : sQ W { lp := true, tl := [73] } 73 1 [] [3, 37, 38, 39] (G73 ns acc i) [bt, aE 1, oS (.ifc 105 (.agg [sL 1 Q])), ee, cR (sL 7 r) [], aE 1, .lg, .lg, ee] = .ok ((.normal, { t := [(3, .gs 100002 0 (acc.length + r.length)), (37, sL 1 ns), (38, iA (↑ns.length : Int)), (39, iA (IntKind.i64.wrap ((↑i : Int) + 1)))], h := [(100001, .dead), (100002, .arr 58 7 (List.take acc.length acc ++ r) .own)] }), [ee], [(acc.length + r.length) * 104 ≤ 140737488355328, (St.own = St.own ∨ St.own = St.shr ∧ acc.length = acc.length) ∧ acc.length ≤ acc.length, MZ W 73 [.ifc 105 (.agg [sL 1 Q])] [] (.ret (sL 7 r) []), ns[(↑i : Int).toNat]? = some (AV.ifc 105 (.agg [sL 1 Q])), decide ((↑i : Int) < (↑ns.length : Int)) = true]) := by kernel_rfl
theorem bg_1 (W : World) (ns acc : List AV) (i : Nat) : sQ W { lp := true, tl := [73] } 73 1 [] [3, 37, 38, 39] (G73 ns acc i) [bf, ee] = .ok ((.exit 3, { t := [(3, .gs 100001 0 acc.length), (37, sL 1 ns), (38, iA (↑ns.length : Int)), (39, iA (↑i : Int))], h := [(100001, .arr 58 7 acc .own)] }), [ee], [decide ((↑i : Int) < (↑ns.length : Int)) = false]) := by kernel_rfl
theorem bc_0 (W : World) (s nm : List UInt8) (P T acc : List AV) (i : Nat) (h : JH) (l : List JV) (kf : Nat) (ys : List AV) (op : Int) : sQ W { lp := true, tl := [114] } 73 2 [] [3, 10, 52, 53, 54] (C73 s P T acc i) [bt, aE 1, oS (trA nm h l kf ys), ee, cR (iA op) [], bt, aE 1, .lg, .lg, ee] = .ok ((.normal, { t := [(3, .gs 100004 0 (acc.length + [AV.agg [.str s, iA op, iA h.kind, iA h.int, .str h.3, sL 1 (List.map AV.str h.names), sL 5 (encVs l)]].length)), (10, .gp 100000 0), (52, sL 7 T), (53, iA (↑T.length : Int)), (54, iA (IntKind.i64.wrap ((↑i : Int) + 1)))], h := [(100000, gB (.agg [.str s, sL 1 P, sL 7 T])), (100001, .dead), (100002, gB (.agg [.str nm, iA h.kind, iA h.int, .str h.3, sL 1 (List.map AV.str h.names), sL 5 (encVs l), .fn (Fn.func kf) [] ys])), (100003, .arr 58 7 [.agg [.str s, iA op, iA h.kind, iA h.int, .str h.3, sL 1 (List.map AV.str h.names), sL 5 (encVs l)]] .own), (100004, .arr 58 7 (List.take acc.length acc ++ [AV.agg [.str s, iA op, iA h.kind, iA h.int, .str h.3, sL 1 (List.map AV.str h.names), sL 5 (encVs l)]]) .own)] }), [ee], [(acc.length + [AV.agg [.str s, iA op, iA h.kind, iA h.int, .str h.3, sL 1 (List.map AV.str h.names), sL 5 (encVs l)]].length) * 104 ≤ 140737488355328, (St.own = St.own ∨ St.own = St.shr ∧ acc.length = acc.length) ∧ acc.length ≤ acc.length, decide (0 < op) = true, MZ W 114 [.str nm] [] (.ret (iA op) []), T[(↑i : Int).toNat]? = some (AV.agg [.str nm, iA h.kind, iA h.int, .str h.3, sL 1 (List.map AV.str h.names), sL 5 (encVs l), .fn (Fn.func kf) [] ys]), decide ((↑i : Int) < (↑T.length : Int)) = true]) := by kernel_rfl
theorem bc_1 (W : World) (s nm : List UInt8) (P T acc : List AV) (i : Nat) (h : JH) (l : List JV) (kf : Nat) (ys : List AV) (op : Int) : sQ W { lp := true, tl := [114] } 73 2 [] [3, 10, 52, 53, 54] (C73 s P T acc i) [bt, aE 1, oS (trA nm h l kf ys), ee, cR (iA op) [], bf, ee] = .ok ((.normal, { t := [(3, .gs 100001 0 acc.length), (10, .gp 100000 0), (52, sL 7 T), (53, iA (↑T.length : Int)), (54, iA (IntKind.i64.wrap ((↑i : Int) + 1)))], h := [(100000, gB (.agg [.str s, sL 1 P, sL 7 T])), (100001, .arr 58 7 acc .own), (100002, gB (.agg [.str nm, iA h.kind, iA h.int, .str h.3, sL 1 (List.map AV.str h.names), sL 5 (encVs l), .fn (Fn.func kf) [] ys]))] }), [ee], [decide (0 < op) = false, MZ W 114 [.str nm] [] (.ret (iA op) []), T[(↑i : Int).toNat]? = some (AV.agg [.str nm, iA h.kind, iA h.int, .str h.3, sL 1 (List.map AV.str h.names), sL 5 (encVs l), .fn (Fn.func kf) [] ys]), decide ((↑i : Int) < (↑T.length : Int)) = true]) := by kernel_rfl
theorem bc_2 (W : World) (s : List UInt8) (P T acc : List AV) (i : Nat) : sQ W { lp := true, tl := [114] } 73 2 [] [3, 10, 52, 53, 54] (C73 s P T acc i) [bf, ee] = .ok ((.exit 5, { t := [(3, .gs 100001 0 acc.length), (10, .gp 100000 0), (52, sL 7 T), (53, iA (↑T.length : Int)), (54, iA (↑i : Int))], h := [(100000, gB (.agg [.str s, sL 1 P, sL 7 T])), (100001, .arr 58 7 acc .own)] }), [ee], [decide ((↑i : Int) < (↑T.length : Int)) = false]) := by kernel_rfl
theorem pq_0 (W : World) (ns acc : List AV) : sF W { lp := true, fin := 9 } 73 [.ifc 105 (.agg [.sl 1 ns []])] [] 100000 [ee, .loopM [] [(100001, 7)] (Q73 ns [] 0) (.exit 1) (E73 acc), ee, .fin [] [] (.gs 100001 0 acc.length) [(100001, .arr 58 7 acc .own)], ee] [] = .ok (.ret (.gs 100001 0 acc.length) [(100001, .arr 58 7 acc .own)], [ee], [MatchK [] [] [] { t := [(0, .gs 100001 0 acc.length)], h := [(100001, .arr 58 7 acc .own)] } { t := [(0, .gs 100001 0 acc.length)], h := [(100001, .arr 58 7 acc .own)] }, LZ W [] 73 0 (Q73 ns [] 0) (.exit 1) (E73 acc), MatchK [] [] [(100001, 7)] { t := [(3, .val (Value.slice none 0 0)), (19, sL 1 ns), (20, iA (↑ns.length : Int)), (21, iA 0)], h := [(100000, gB (.agg [sL 1 ns]))] } (Q73 ns [] 0)]) := by kernel_rfl
theorem pg_0 (W : World) (ns acc : List AV) : sF W { lp := true, fin := 9 } 73 [.ifc 155 (.agg [.str [36, 97, 110, 100], .sl 1 ns []])] [] 100000 [ee, .loopM [] [(100001, 7)] (G73 ns [] 0) (.exit 3) (E73 acc), ee, .fin [] [] (.gs 100001 0 acc.length) [(100001, .arr 58 7 acc .own)], ee] [] = .ok (.ret (.gs 100001 0 acc.length) [(100001, .arr 58 7 acc .own)], [ee], [MatchK [] [] [] { t := [(0, .gs 100001 0 acc.length)], h := [(100001, .arr 58 7 acc .own)] } { t := [(0, .gs 100001 0 acc.length)], h := [(100001, .arr 58 7 acc .own)] }, LZ W [] 73 1 (G73 ns [] 0) (.exit 3) (E73 acc), MatchK [] [] [(100001, 7)] { t := [(3, .val (Value.slice none 0 0)), (37, sL 1 ns), (38, iA (↑ns.length : Int)), (39, iA 0)], h := [(100000, gB (.agg [.str [36, 97, 110, 100], sL 1 ns]))] } (G73 ns [] 0)]) := by kernel_rfl
theorem pgn_0 (W : World) (s : List UInt8) (ns : List AV) : sF W { lp := true } 73 [.ifc 155 (.agg [.str s, .sl 1 ns []])] [] 100000 [aE 2, bt, ee] [] = .ok (.ret (.val (Value.slice none 0 0)) [], [ee], [(!decide (s = [36, 97, 110, 100])) = true]) := by kernel_rfl
theorem pc_0 (W : World) (s : List UInt8) (P T acc : List AV) : sF W { lp := true, fin := 9 } 73 [.ifc 152 (.agg [.str s, .sl 1 P [], .sl 7 T []])] [] 100000 [ee, .loopM [] [(100001, 7)] (C73 s P T [] 0) (.exit 5) (E73 acc), ee, .fin [] [] (.gs 100001 0 acc.length) [(100001, .arr 58 7 acc .own)], ee] [] = .ok (.ret (.gs 100001 0 acc.length) [(100001, .arr 58 7 acc .own)], [ee], [MatchK [] [] [] { t := [(0, .gs 100001 0 acc.length)], h := [(100001, .arr 58 7 acc .own)] } { t := [(0, .gs 100001 0 acc.length)], h := [(100001, .arr 58 7 acc .own)] }, LZ W [] 73 2 (C73 s P T [] 0) (.exit 5) (E73 acc), MatchK [] [] [(100001, 7)] { t := [(3, .val (Value.slice none 0 0)), (10, .gp 100000 0), (52, sL 7 T), (53, iA (↑T.length : Int)), (54, iA 0)], h := [(100000, gB (.agg [.str s, sL 1 P, sL 7 T]))] } (C73 s P T [] 0)]) := by kernel_rfl
theorem p114_0 (W : World) (s : List UInt8) : sF W { lp := true } 114 [.str s] [] 100000 [bt, ee] [] = .ok (.ret (iA 1) [], [ee], [decide (s = [36, 101, 113]) = true]) := by kernel_rfl
theorem p114_1 (W : World) (s : List UInt8) : sF W { lp := true } 114 [.str s] [] 100000 [bf, bt, ee] [] = .ok (.ret (iA 2) [], [ee], [decide (s = [36, 103, 116]) = true, decide (s = [36, 101, 113]) = false]) := by kernel_rfl
theorem p114_2 (W : World) (s : List UInt8) : sF W { lp := true } 114 [.str s] [] 100000 [bf, bf, bt, ee] [] = .ok (.ret (iA 3) [], [ee], [decide (s = [36, 103, 116, 101]) = true, decide (s = [36, 103, 116]) = false, decide (s = [36, 101, 113]) = false]) := by kernel_rfl
theorem p114_3 (W : World) (s : List UInt8) : sF W { lp := true } 114 [.str s] [] 100000 [bf, bf, bf, bt, ee] [] = .ok (.ret (iA 4) [], [ee], [decide (s = [36, 108, 116]) = true, decide (s = [36, 103, 116, 101]) = false, decide (s = [36, 103, 116]) = false, decide (s = [36, 101, 113]) = false]) := by kernel_rfl
theorem p114_4 (W : World) (s : List UInt8) : sF W { lp := true } 114 [.str s] [] 100000 [bf, bf, bf, bf, bt, ee] [] = .ok (.ret (iA 5) [], [ee], [decide (s = [36, 108, 116, 101]) = true, decide (s = [36, 108, 116]) = false, decide (s = [36, 103, 116, 101]) = false, decide (s = [36, 103, 116]) = false, decide (s = [36, 101, 113]) = false]) := by kernel_rfl
theorem p114_5 (W : World) (s : List UInt8) : sF W { lp := true } 114 [.str s] [] 100000 [bf, bf, bf, bf, bf, bt, ee] [] = .ok (.ret (iA 6) [], [ee], [decide (s = [36, 105, 110]) = true, decide (s = [36, 108, 116, 101]) = false, decide (s = [36, 108, 116]) = false, decide (s = [36, 103, 116, 101]) = false, decide (s = [36, 103, 116]) = false, decide (s = [36, 101, 113]) = false]) := by kernel_rfl
theorem p114_6 (W : World) (s : List UInt8) : sF W { lp := true } 114 [.str s] [] 100000 [bf, bf, bf, bf, bf, bf, ee] [] = .ok (.ret (iA 0) [], [ee], [decide (s = [36, 105, 110]) = false, decide (s = [36, 108, 116, 101]) = false, decide (s = [36, 108, 116]) = false, decide (s = [36, 103, 116, 101]) = false, decide (s = [36, 103, 116]) = false, decide (s = [36, 101, 113]) = false]) := by kernel_rfl
theorem b8_2 (W : World) (s wd : List UInt8) (N : List AV) (i : Nat) (h hd : JH) (l ld : List JV) (op : Int) : sQ W { lp := true, tl := [26, 27] } 8 0 [] [3, 9, 10, 11] (S8 hd ld N i) [bt, aE 1, oS (ndA s op h l), bf, bf, bf, aE 1, oS (ndA s op h l), bf, bf, bf, bf, bf, aE 1, oS (ndA s op h l), aE 1, oS (ndA s op h l), .lg, oS (.str wd), aE 1, oS (ndA s op h l), ee, cR (oB wd (eV h l)) [], ee, cR (oB s (oB wd (eV h l))) [], ee, cR (.tup [bA true, bA true]) [], ee] = .ok ((.normal, { t := [(3, .gp 100001 0), (9, sL 7 N), (10, .gs 100003 0 7), (11, iA (IntKind.i64.wrap ((↑i : Int) + 1)))], h := [(100001, gB (eV hd ld)), (100003, .arr 9 1 [.str [], .str [36, 101, 113], .str [36, 103, 116], .str [36, 103, 116, 101], .str [36, 108, 116], .str [36, 108, 116, 101], .str [36, 105, 110]] .own)] }), [aE 9999996], MZ W 27 [.agg [iA 6, iA 0, .str [], sL 1 [.str s], sL 5 [.agg [iA 6, iA 0, .str [], sL 1 [.str wd], sL 5 [eV h l]]]], eV hd ld] [] (.ret (.tup [bA true, bA true]) []) :: MZ W 26 [.str s, .agg [iA 6, iA 0, .str [], sL 1 [.str wd], sL 5 [eV h l]]] [] (.ret (.agg [iA 6, iA 0, .str [], sL 1 [.str s], sL 5 [.agg [iA 6, iA 0, .str [], sL 1 [.str wd], sL 5 [eV h l]]]]) []) :: MZ W 26 [.str wd, .agg [iA h.kind, iA h.int, .str h.3, sL 1 (List.map AV.str h.names), sL 5 (encVs l)]] [] (.ret (.agg [iA 6, iA 0, .str [], sL 1 [.str wd], sL 5 [eV h l]]) []) :: (N[(↑i : Int).toNat]? = some (AV.agg [.str s, iA op, iA h.kind, iA h.int, .str h.3, sL 1 (List.map AV.str h.names), sL 5 (encVs l)])) :: (W8[0 + op.toNat]? = some (AV.str wd)) :: (0 ≤ op ∧ op < 7) :: (d2 (N[(↑i : Int).toNat]? = some (AV.agg [.str s, iA op, iA h.kind, iA h.int, .str h.3, sL 1 (List.map AV.str h.names), sL 5 (encVs l)])) ((decide (6 < op) = false) :: (d4 (decide (op < 1) = false) ((N[(↑i : Int).toNat]? = some (AV.agg [.str s, iA op, iA h.kind, iA h.int, .str h.3, sL 1 (List.map AV.str h.names), sL 5 (encVs l)])) :: (d3 (decide (op < 1) = false) [N[(↑i : Int).toNat]? = some (AV.agg [.str s, iA op, iA h.kind, iA h.int, .str h.3, sL 1 (List.map AV.str h.names), sL 5 (encVs l)]), decide ((↑i : Int) < (↑N.length : Int)) = true])))))) := by kernel_rfl
theorem b8_3 (W : World) (N : List AV) (i : Nat) (hd : JH) (ld : List JV) : sQ W { lp := true, tl := [26, 27] } 8 0 [] [3, 9, 10, 11] (S8 hd ld N i) [bf, ee] = .ok ((.exit 0, { t := [(3, .gp 100001 0), (9, sL 7 N), (10, .gs 100003 0 7), (11, iA (↑i : Int))], h := [(100001, gB (eV hd ld)), (100003, .arr 9 1 [.str [], .str [36, 101, 113], .str [36, 103, 116], .str [36, 103, 116, 101], .str [36, 108, 116], .str [36, 108, 116, 101], .str [36, 105, 110]] .own)] }), [ee], [decide ((↑i : Int) < (↑N.length : Int)) = false]) := by kernel_rfl
theorem p31_0 (W : World) (N C : List AV) (t : Int) : sF W { lp := true, tl := [73] } 31 [(.ip (.agg [.sl 1 C [], iA t]) 0)] [] 100000 [ee, cR (sL 7 N) [], ee] [] = .ok (.ret (sL 7 N) [], [ee], [MZ W 73 [.ifc 105 (.agg [sL 1 C])] [] (.ret (sL 7 N) [])]) := by kernel_rfl
theorem p8_0 (W : World) (hd hq : JH) (ld lq : List JV) (w c : Bool) : sF W { lp := true, tl := [14, 15, 16, 17, 20, 31] } 8 [eV hq lq, eV hd ld] [] 100000 [ee, cR (bA w) [(100002, .arr 25 5 [eV hq lq, eV hd ld] .own)], bt, ee, cR (bA c) [], ee] [] = .ok (.ret (bA c) [], [ee], [MZ W 15 [] [] (.ret (bA c) []), w = true, MZ W 14 [.gs 100002 0 2] [(100002, .arr 25 5 [eV hq lq, eV hd ld] .own)] (.ret (bA w) [(100002, .arr 25 5 [eV hq lq, eV hd ld] .own)])]) := by kernel_rfl
theorem p8_1 (W : World) (hd hq : JH) (ld lq : List JV) (e : Int) (w c : Bool) : sF W { lp := true, tl := [14, 15, 16, 17, 20, 31] } 8 [eV hq lq, eV hd ld] [] 100000 [ee, cR (bA w) [(100002, .arr 25 5 [eV hq lq, eV hd ld] .own)], bf, ee, cR (.tup [iA e, .top]) [], bt, ee, cR (bA c) [], ee] [] = .ok (.ret (bA c) [], [ee], [MZ W 15 [] [] (.ret (bA c) []), (!decide (e = 0)) = true, MZ W 16 [eV hq lq] [] (.ret (.tup [iA e, .top]) []), w = false, MZ W 14 [.gs 100002 0 2] [(100002, .arr 25 5 [eV hq lq, eV hd ld] .own)] (.ret (bA w) [(100002, .arr 25 5 [eV hq lq, eV hd ld] .own)])]) := by kernel_rfl
theorem p8_2 (W : World) (C : List AV) (hd hq : JH) (ld lq : List JV) (t e : Int) (w c b : Bool) : sF W { lp := true, tl := [14, 15, 16, 17, 20, 31] } 8 [eV hq lq, eV hd ld] [] 100000 [ee, cR (bA w) [(100002, .arr 25 5 [eV hq lq, eV hd ld] .own)], bf, ee, cR (.tup [iA e, .top]) [], bf, ee, cR (.tup [(AV.agg [sL 1 C, iA t]).ip 0, iA 0]) [], ee, cR (bA b) [], bt, ee, cR (bA c) [], ee] [] = .ok (.ret (bA c) [], [ee], [MZ W 15 [] [] (.ret (bA c) []), (!b) = true, MZ W 20 [(AV.agg [sL 1 C, iA t]).ip 0, eV hd ld] [] (.ret (bA b) []), MZ W 17 [eV hq lq] [] (.ret (.tup [(AV.agg [sL 1 C, iA t]).ip 0, iA 0]) []), (!decide (e = 0)) = false, MZ W 16 [eV hq lq] [] (.ret (.tup [iA e, .top]) []), w = false, MZ W 14 [.gs 100002 0 2] [(100002, .arr 25 5 [eV hq lq, eV hd ld] .own)] (.ret (bA w) [(100002, .arr 25 5 [eV hq lq, eV hd ld] .own)])]) := by kernel_rfl
theorem p8_3 (W : World) (N C : List AV) (hd hq : JH) (ld lq : List JV) (t e : Int) (w c b : Bool) : sF W { lp := true, tl := [14, 15, 16, 17, 20, 31] } 8 [eV hq lq, eV hd ld] [] 100000 [ee, cR (bA w) [(100002, .arr 25 5 [eV hq lq, eV hd ld] .own)], bf, ee, cR (.tup [iA e, .top]) [], bf, ee, cR (.tup [(AV.agg [sL 1 C, iA t]).ip 0, iA 0]) [], ee, cR (bA b) [], bf, ee, cR (sL 7 N) [], ee, .loopM [] [] (S8 hd ld N 0) (.exit 0) E8, ee, cR (bA c) [], ee] [] = .ok (.ret (bA c) [], [ee], [MZ W 15 [] [] (.ret (bA c) []), LZ W [] 8 0 (S8 hd ld N 0) (.exit 0) E8, MatchK [] [] [] { t := [(3, .gp 100001 0), (9, sL 7 N), (10, .gs 100003 0 7), (11, iA 0)], h := [(100000, gB (eV hq lq)), (100001, gB (eV hd ld)), (100002, .arr 25 5 [eV hq lq, eV hd ld] .own), (100003, .arr 9 1 [.str [], .str [36, 101, 113], .str [36, 103, 116], .str [36, 103, 116, 101], .str [36, 108, 116], .str [36, 108, 116, 101], .str [36, 105, 110]] .own)] } (S8 hd ld N 0), MZ W 31 [(AV.agg [sL 1 C, iA t]).ip 0] [] (.ret (sL 7 N) []), (!b) = false, MZ W 20 [(AV.agg [sL 1 C, iA t]).ip 0, eV hd ld] [] (.ret (bA b) []), MZ W 17 [eV hq lq] [] (.ret (.tup [(AV.agg [sL 1 C, iA t]).ip 0, iA 0]) []), (!decide (e = 0)) = false, MZ W 16 [eV hq lq] [] (.ret (.tup [iA e, .top]) []), w = false, MZ W 14 [.gs 100002 0 2] [(100002, .arr 25 5 [eV hq lq, eV hd ld] .own)] (.ret (bA w) [(100002, .arr 25 5 [eV hq lq, eV hd ld] .own)])]) := by kernel_rfl
theorem Fn1_z1 {kp f ph σ σ'} (h : MatchK kp f ph σ σ' := by exact ⟨by rfl, (by simp only [Q73, G73, C73, E73, S8, E8, tOK, List.map_cons, List.map_nil, and_true] <;> exact zt), (by simp only [Q73, G73, C73, E73, S8, E8, hOK, List.map_cons, List.map_nil, and_true] <;> exact zh), (by simp only [Q73, G73, C73, E73, S8, E8, liveT, List.map_cons, List.map_nil, and_true] <;> exact zv), (by simp only [Q73, G73, C73, E73, S8, E8, liveH, List.map_cons, List.map_nil, and_true] <;> exact zv)⟩) : MatchK kp f ph σ σ' := h
theorem Fn1_z2 {cs} (h : Holds cs := by simp only [Holds, and_true] <;> and_intros <;> first | assumption | exact zd | exact Fn1_z1) : Holds cs := h
theorem call73 : callable Tryz.prog 73 = true := by kernel_rfl
theorem call114 : callable Tryz.prog 114 = true := by kernel_rfl
theorem call31 : callable Tryz.prog 31 = true := by kernel_rfl
theorem call8 : callable Tryz.prog 8 = true := by kernel_rfl
theorem needed114 (W : World) (s : List UInt8) : Pure Tryz.prog W 114 [.str s] (iA (neededF s)) := by
  unfold neededF
  by_cases h1 : s = sEq
  · rw [if_pos h1]; have c1 := decide_eq_true h1; exact pure_of_mut rfl (mut_of_sfun mixedz call114 rfl (p114_0 W s) ⟨c1, trivial⟩)
  rw [if_neg h1]
  have c1 := decide_eq_false h1
  by_cases h2 : s = sGt
  · rw [if_pos h2]; have c2 := decide_eq_true h2; exact pure_of_mut rfl (mut_of_sfun mixedz call114 rfl (p114_1 W s) ⟨c2, c1, trivial⟩)
  rw [if_neg h2]
  have c2 := decide_eq_false h2
  by_cases h3 : s = sGte
  · rw [if_pos h3]; have c3 := decide_eq_true h3; exact pure_of_mut rfl (mut_of_sfun mixedz call114 rfl (p114_2 W s) ⟨c3, c2, c1, trivial⟩)
  rw [if_neg h3]
  have c3 := decide_eq_false h3
  by_cases h4 : s = sLt
  · rw [if_pos h4]; have c4 := decide_eq_true h4; exact pure_of_mut rfl (mut_of_sfun mixedz call114 rfl (p114_3 W s) ⟨c4, c3, c2, c1, trivial⟩)
  rw [if_neg h4]
  have c4 := decide_eq_false h4
  by_cases h5 : s = sLte
  · rw [if_pos h5]; have c5 := decide_eq_true h5; exact pure_of_mut rfl (mut_of_sfun mixedz call114 rfl (p114_4 W s) ⟨c5, c4, c3, c2, c1, trivial⟩)
  rw [if_neg h5]
  have c5 := decide_eq_false h5
  by_cases h6 : s = sIn
  · rw [if_pos h6]; have c6 := decide_eq_true h6; exact pure_of_mut rfl (mut_of_sfun mixedz call114 rfl (p114_5 W s) ⟨c6, c5, c4, c3, c2, c1, trivial⟩)
  rw [if_neg h6]
  have c6 := decide_eq_false h6
  exact pure_of_mut rfl (mut_of_sfun mixedz call114 rfl (p114_6 W s) ⟨c6, c5, c4, c3, c2, c1, trivial⟩)
def encN (x : Nd) : AV := ndA x.1 x.2.1 x.2.2.hd x.2.2.items
theorem encN_clo (x : Nd) : (encN x).clo = true := by simp [encN, ndA, AV.clo, cloL, iA]
theorem cloL_encN : ∀ l : List Nd, cloL (l.map encN) = true
  | [] => rfl
  | x :: l => by simp only [List.map_cons, cloL, encN_clo, cloL_encN l, Bool.and_self]
theorem cloL_app2 (a b : List AV) (ha : cloL a = true) (hb : cloL b = true) : cloL (a ++ b) = true := by rw [cloL_app, ha, hb]; rfl
theorem fn_ite {c : Prop} [Decidable c] {a b : AV} (ha : ∃ k ys, a = .fn (.func k) [] ys) (hb : ∃ k ys, b = .fn (.func k) [] ys) : ∃ k ys, (if c then a else b) = .fn (.func k) [] ys := by split <;> assumption
theorem asks_fn (T N : List AV) (nm : List UInt8) (x : JV) : ∃ k ys, asksA T N nm x = .fn (.func k) [] ys := by
  unfold asksA
  repeat (refine fn_ite ⟨_, _, rfl⟩ ?_)
  exact ⟨_, _, rfl⟩
section
variable (W : World)
theorem loopC73 (s : List UInt8) (P : List AV) (F : List UInt8 × JV → AV) (hF : ∀ p, ∃ k ys, F p = .fn (.func k) [] ys) (ms : List (List UInt8 × JV)) (hl : ms.length ≤ 2 ^ 30) : ∀ (j i : Nat), ms.length - i = j → i ≤ ms.length →
    LoopC Tryz.prog W [] (nslots Tryz.prog 73) (loopOf Tryz.prog 73 2) (C73 s P (termsA F ms) ((needT s (ms.take i)).map encN) i) (.exit 5) (E73 ((needT s ms).map encN)) := by
  intro j
  have hTl : (termsA F ms).length = ms.length := by simp [termsA]
  induction j with
  | zero =>
    intro i hk hle
    have e : i = ms.length := by omega
    subst e
    rw [List.take_length]
    have hcl := cloL_encN (needT s ms)
    have hdc : decide (((ms.length : Nat) : Int) < ((termsA F ms).length : Int)) = false := by rw [hTl]; exact decide_eq_false (by omega)
    exact loop_last (by simp) (body_of_sbodyK mixedz (bc_2 W s P (termsA F ms) _ ms.length) Fn1_z2 [] [] Fn1_z1)
  | succ j ih =>
    intro i hk hle
    obtain ⟨p, hp⟩ := getOf (l := ms) (i := i) (by omega)
    have hws : IntKind.i64.wrap ((i : Int) + 1) = ((i + 1 : Nat) : Int) := wrap_succ (by omega)
    have hnx := ih (i + 1) (by omega) (by omega)
    have hst : needT s (ms.take (i + 1)) = needT s (ms.take i) ++ (if 0 < neededF p.1 then [(s, neededF p.1, p.2)] else []) := by unfold needT; rw [take_snoc hp, List.flatMap_append]; simp
    have hb0 := needT_len s (ms.take i)
    simp only [List.length_take] at hb0
    have hc := mut_of_pure (by rfl) (needed114 W p.1)
    obtain ⟨k, ys, hk2⟩ := hF p
    obtain ⟨nm, v⟩ := p
    obtain ⟨h, l⟩ := v
    have hget : (termsA F ms)[((i : Int)).toNat]? = some (trA nm h l k ys) := by
      rw [Int.toNat_natCast, termsA, List.getElem?_map, hp]; simp only [Option.map_some, termA, hk2]; rfl
    have hdc : decide ((i : Int) < ((termsA F ms).length : Int)) = true := by rw [hTl]; exact decide_eq_true (by omega)
    rw [hst] at hnx
    have hcl := cloL_encN (needT s (ms.take i))
    by_cases hop : 0 < neededF nm
    · simp only [if_pos hop, List.map_append, List.map_cons, List.map_nil] at hnx
      have hop2 : decide (0 < neededF nm) = true := decide_eq_true hop
      have hcx : cloL [encN (s, neededF nm, .mk h l)] = true := by simp only [cloL, encN_clo, Bool.and_self]
      have hbl : ((needT s (ms.take i)).map encN).length ≤ 2 ^ 30 := by rw [List.length_map]; omega
      generalize (needT s (ms.take i)).map encN = acc at hnx hcl hbl ⊢
      have hcl2 := cloL_app2 _ _ hcl hcx
      have hgl : acc.length + [encN (s, neededF nm, .mk h l)].length = (acc ++ [encN (s, neededF nm, .mk h l)]).length := by rw [List.length_append]
      have hset : List.take acc.length acc ++ [encN (s, neededF nm, .mk h l)] = acc ++ [encN (s, neededF nm, .mk h l)] := by rw [List.take_length]
      refine loop_next (body_of_sbodyK mixedz (bc_0 W s nm P (termsA F ms) acc i h l k ys (neededF nm)) ?_ [(100001, 100004)] [] Fn1_z1) hnx
      exact Fn1_z2
    · simp only [if_neg hop, List.append_nil] at hnx
      have hop2 : decide (0 < neededF nm) = false := decide_eq_false hop
      generalize (needT s (ms.take i)).map encN = acc at hnx hcl ⊢
      exact loop_next (body_of_sbodyK mixedz (bc_1 W s nm P (termsA F ms) acc i h l k ys (neededF nm)) Fn1_z2 [] [] Fn1_z1) hnx
theorem clause73 (s : List UInt8) (P : List AV) (F : List UInt8 × JV → AV) (hF : ∀ p, ∃ k ys, F p = .fn (.func k) [] ys) (ms : List (List UInt8 × JV)) (hl : ms.length ≤ 2 ^ 30) : Pure Tryz.prog W 73 [clauseA s P (termsA F ms)] (.sl 7 ((needT s ms).map encN) []) := by
  have hlp := loopC73 W s P F hF ms hl _ 0 rfl (Nat.zero_le _)
  rw [List.take_zero] at hlp
  have hcl := cloL_encN (needT s ms)
  exact pure_frz1 (mut_of_sfun mixedz call73 rfl (pc_0 W s P (termsA F ms) ((needT s ms).map encN)) Fn1_z2) rfl hcl
end
end Go.Ac

