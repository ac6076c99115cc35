/- What is proved: contracts of functions of this translation, walked; their plain meaning. No condition beyond those that each theorem names. -/
import Derived.Test.YtkpppapgbplokaaGreatDoorHa6
import Derived.Test.YtkpppapgbplokaaGreatDoorHLw7
set_option linter.all false
namespace Go.Ac
open Go Go.Proofs
set_option maxRecDepth 10000
set_option maxHeartbeats 1000000
def numA (b : Int) : AV := .agg [iA 3, iA b, .str [], .val (.slice none 0 0), .val (.slice none 0 0)]
def S3 (h : JH) (l : List JV) (ts : List (List UInt8)) (i : Nat) : AS := ⟨[(0, .sl 1 (ts.map AV.str) []), (3, .gp 100000 0), (5, .gp 100001 0), (6, .gp 100002 0), (7, iA i)], [(100000, .box (encV (.mk h l)) .own), (100001, .box (.agg [iA 6, iA 0, .str [], .gs 100003 0 i, .gs 100004 0 i]) .own), (100002, .box (.agg [iA 6, iA 0, .str [], .gs 100005 0 i, .gs 100006 0 i]) .own), (100003, .arr 9 1 ((ts.take i).map AV.str) .own), (100004, .arr 25 5 (List.replicate i (numA 1)) .own), (100005, .arr 9 1 ((ts.take i).map AV.str) .own), (100006, .arr 25 5 (List.replicate i (numA 0)) .own)]⟩
def fldV (ts : List (List UInt8)) (b : Int) : AV := .agg [iA 6, iA 0, .str [], .sl 1 (ts.map AV.str) [], .sl 5 (List.replicate ts.length (numA b)) []]
def E3 (h : JH) (l : List JV) (ts : List (List UInt8)) : AS := ⟨[(0, .sl 1 (ts.map AV.str) []), (3, .gp 100000 0), (5, .gp 100001 0), (6, .gp 100002 0)], [(100000, .box (encV (.mk h l)) .own), (100001, .box (fldV ts 1) .own), (100002, .box (fldV ts 0) .own)]⟩
def V3 (d a b : JV) (ts : List (List UInt8)) (i : Nat) : AS := ⟨[(0, .sl 1 (ts.map AV.str) []), (3, .gp 100000 0), (14, .gp 100001 0), (15, .gp 100002 0), (16, iA i)], [(100000, .box (encV d) .own), (100001, .box (encV a) .own), (100002, .box (encV b) .own)]⟩
def W3 (d a b : JV) : AS := ⟨[(3, .gp 100000 0), (14, .gp 100001 0), (15, .gp 100002 0)], [(100000, .box (encV d) .own), (100001, .box (encV a) .own), (100002, .box (encV b) .own)]⟩
theorem p3a_0 (W : World) (h : JH) (l : List JV) (ts : List (List UInt8)) : sF W { lp := true, tl := [4, 5, 6, 8, 9, 11, 31, 13, 14, 15, 16] } 3 [.sl 1 (ts.map AV.str) [], eV h l] [] 100000 [ee, cR (bA true) [(100001, .arr 25 5 [eV h l] .own)], ee, cR (bA true) [], ee] [] = .ok (.ret (bA true) [], [ee], [MZ W 6 [] [] (.ret (bA true) []), MZ W 4 [.gs 100001 0 1] [(100001, .arr 25 5 [eV h l] .own)] (.ret (bA true) [(100001, .arr 25 5 [eV h l] .own)])]) := by kernel_rfl
theorem p3b_0 (W : World) (h : JH) (l : List JV) (ts : List (List UInt8)) : sF W { lp := true, tl := [4, 5, 6, 8, 9, 11, 31, 13, 14, 15, 16] } 3 [.sl 1 (ts.map AV.str) [], eV h l] [] 100000 [ee, cR (bA false) [(100001, .arr 25 5 [eV h l] .own)], aE 4, bt, bt, bt, bt, ee, cR (bA true) [], ee] [] = .ok (.ret (bA true) [], [ee], MZ W 6 [] [] (.ret (bA true) []) :: (d4 (decide (32 < (↑(List.map AV.str ts).length : Int)) = true) [MZ W 4 [.gs 100001 0 1] [(100001, .arr 25 5 [eV h l] .own)] (.ret (bA false) [(100001, .arr 25 5 [eV h l] .own)])])) := by kernel_rfl
theorem p3c_0 (W : World) (h : JH) (l : List JV) (ts : List (List UInt8)) (e : Int) : sF W { lp := true, tl := [4, 5, 6, 8, 9, 11, 31, 13, 14, 15, 16] } 3 [.sl 1 (ts.map AV.str) [], eV h l] [] 100000 [ee, cR (bA false) [(100001, .arr 25 5 [eV h l] .own)], aE 4, bf, bf, ee, cR (iA e) [], bf, bf, bt, ee, cR (bA true) [], ee] [] = .ok (.ret (bA true) [], [ee], MZ W 6 [] [] (.ret (bA true) []) :: ((!decide (e = 0)) = true) :: (d2 (decide (32 < (↑(List.map AV.str ts).length : Int)) = false) (MZ W 5 [eV h l] [] (.ret (iA e) []) :: (d2 (decide (32 < (↑(List.map AV.str ts).length : Int)) = false) [MZ W 4 [.gs 100001 0 1] [(100001, .arr 25 5 [eV h l] .own)] (.ret (bA false) [(100001, .arr 25 5 [eV h l] .own)])])))) := by kernel_rfl
theorem p3d_0 (W : World) (h : JH) (l : List JV) (ts : List (List UInt8)) (fs : List (List (List UInt8))) (c : Bool) (e2 : Int) : sF W { lp := true, tl := [4, 5, 6, 8, 9, 11, 31, 13, 14, 15, 16] } 3 [.sl 1 (ts.map AV.str) [], eV h l] [] 100000 [ee, cR (bA false) [(100001, .arr 25 5 [eV h l] .own)], aE 4, bf, bf, ee, cR (iA 0) [], bf, bf, ee, .loopM [(100001, 100002), (100002, 100003)] [(100003, 1), (100004, 5), (100005, 1), (100006, 5)] (S3 h l ts 0) (.exit 0) (E3 h l ts), ee, cR (.tup [.agg [sL 1 (ppA fs), bA c], iA e2]) [], bt, bt, bt, bt, ee, cR (bA true) [], ee] [] = .ok (.ret (bA true) [], [ee], MZ W 6 [] [] (.ret (bA true) []) :: (d4 ((!decide (e2 = 0)) = true) (MZ W 8 [fldV ts 1] [] (.ret (.tup [.agg [sL 1 (ppA fs), bA c], iA e2]) []) :: LZ W [] 3 0 (S3 h l ts 0) (.exit 0) (E3 h l ts) :: MatchK [] [(100001, 100002), (100002, 100003)] [(100003, 1), (100004, 5), (100005, 1), (100006, 5)] { t := [(0, sL 1 (List.map AV.str ts)), (3, .gp 100000 0), (5, .gp 100002 0), (6, .gp 100003 0), (7, iA 0)], h := [(100000, gB (eV h l)), (100001, .arr 25 5 [eV h l] .own), (100002, gB (.agg [iA 6, iA 0, .str [], .val (Value.slice none 0 0), .val (Value.slice none 0 0)])), (100003, gB (.agg [iA 6, iA 0, .str [], .val (Value.slice none 0 0), .val (Value.slice none 0 0)]))] } (S3 h l ts 0) :: (d2 (decide (32 < (↑(List.map AV.str ts).length : Int)) = false) (MZ W 5 [eV h l] [] (.ret (iA 0) []) :: (d2 (decide (32 < (↑(List.map AV.str ts).length : Int)) = false) [MZ W 4 [.gs 100001 0 1] [(100001, .arr 25 5 [eV h l] .own)] (.ret (bA false) [(100001, .arr 25 5 [eV h l] .own)])])))))) := by kernel_rfl
theorem p3e_0 (W : World) (h : JH) (l : List JV) (ts : List (List UInt8)) (fs : List (List (List UInt8))) (c : Bool) : sF W { lp := true, tl := [4, 5, 6, 8, 9, 11, 31, 13, 14, 15, 16] } 3 [.sl 1 (ts.map AV.str) [], eV h l] [] 100000 [ee, cR (bA false) [(100001, .arr 25 5 [eV h l] .own)], aE 4, bf, bf, ee, cR (iA 0) [], bf, bf, ee, .loopM [(100001, 100002), (100002, 100003)] [(100003, 1), (100004, 5), (100005, 1), (100006, 5)] (S3 h l ts 0) (.exit 0) (E3 h l ts), ee, cR (.tup [.agg [sL 1 (ppA fs), bA c], iA 0]) [], aE 4, bt, ee, cR (bA true) [], ee] [] = .ok (.ret (bA true) [], [ee], MZ W 6 [] [] (.ret (bA true) []) :: (decide ((↑(List.map AV.str ts).length : Int) = 0) = true) :: MZ W 8 [fldV ts 1] [] (.ret (.tup [.agg [sL 1 (ppA fs), bA c], iA 0]) []) :: LZ W [] 3 0 (S3 h l ts 0) (.exit 0) (E3 h l ts) :: MatchK [] [(100001, 100002), (100002, 100003)] [(100003, 1), (100004, 5), (100005, 1), (100006, 5)] { t := [(0, sL 1 (List.map AV.str ts)), (3, .gp 100000 0), (5, .gp 100002 0), (6, .gp 100003 0), (7, iA 0)], h := [(100000, gB (eV h l)), (100001, .arr 25 5 [eV h l] .own), (100002, gB (.agg [iA 6, iA 0, .str [], .val (Value.slice none 0 0), .val (Value.slice none 0 0)])), (100003, gB (.agg [iA 6, iA 0, .str [], .val (Value.slice none 0 0), .val (Value.slice none 0 0)]))] } (S3 h l ts 0) :: (d2 (decide (32 < (↑(List.map AV.str ts).length : Int)) = false) (MZ W 5 [eV h l] [] (.ret (iA 0) []) :: (d2 (decide (32 < (↑(List.map AV.str ts).length : Int)) = false) [MZ W 4 [.gs 100001 0 1] [(100001, .arr 25 5 [eV h l] .own)] (.ret (bA false) [(100001, .arr 25 5 [eV h l] .own)])])))) := by kernel_rfl
theorem p3f_0 (W : World) (h ha hb : JH) (l la lb : List JV) (ts : List (List UInt8)) (ps fs : List (List (List UInt8))) (c : Bool) : sF W { lp := true, tl := [4, 5, 6, 8, 9, 11, 31, 13, 14, 15, 16] } 3 [.sl 1 (ts.map AV.str) [], eV h l] [] 100000 [ee, cR (bA false) [(100001, .arr 25 5 [eV h l] .own)], aE 4, bf, bf, ee, cR (iA 0) [], bf, bf, ee, .loopM [(100001, 100002), (100002, 100003)] [(100003, 1), (100004, 5), (100005, 1), (100006, 5)] (S3 h l ts 0) (.exit 0) (E3 h l ts), ee, cR (.tup [.agg [sL 1 (ppA fs), bA c], iA 0]) [], aE 4, bf, ee, cR (.tup [(AV.agg [sL 1 (ppA ps), bA true]).ip 0, iA 0]) [], ee, cR (.tup [(AV.agg [sL 1 (ppA ps), bA false]).ip 0, iA 0]) [], ee, cR (eV ha la) [], ee, cR (eV hb lb) [], ee, cR (eV ha la) [], ee, cR (bA true) [], ee, cR (eV hb lb) [], ee, cR (bA true) [], ee, cR (bA false) [], ee, cR (bA true) [], ee] [] = .ok (.ret (bA true) [], [ee], MZ W 6 [] [] (.ret (bA true) []) :: MZ W 13 [eV h l] [] (.ret (bA false) []) :: MZ W 31 [eV hb lb, eV hb lb] [] (.ret (bA true) []) :: MZ W 11 [(AV.agg [sL 1 (ppA ps), bA false]).ip 0, eV hb lb] [] (.ret (eV hb lb) []) :: MZ W 31 [eV ha la, eV ha la] [] (.ret (bA true) []) :: MZ W 11 [(AV.agg [sL 1 (ppA ps), bA true]).ip 0, eV ha la] [] (.ret (eV ha la) []) :: MZ W 11 [(AV.agg [sL 1 (ppA ps), bA false]).ip 0, eV h l] [] (.ret (eV hb lb) []) :: MZ W 11 [(AV.agg [sL 1 (ppA ps), bA true]).ip 0, eV h l] [] (.ret (eV ha la) []) :: MZ W 9 [fldV ts 0] [] (.ret (.tup [(AV.agg [sL 1 (ppA ps), bA false]).ip 0, iA 0]) []) :: MZ W 9 [fldV ts 1] [] (.ret (.tup [(AV.agg [sL 1 (ppA ps), bA true]).ip 0, iA 0]) []) :: (decide ((↑(List.map AV.str ts).length : Int) = 0) = false) :: MZ W 8 [fldV ts 1] [] (.ret (.tup [.agg [sL 1 (ppA fs), bA c], iA 0]) []) :: LZ W [] 3 0 (S3 h l ts 0) (.exit 0) (E3 h l ts) :: MatchK [] [(100001, 100002), (100002, 100003)] [(100003, 1), (100004, 5), (100005, 1), (100006, 5)] { t := [(0, sL 1 (List.map AV.str ts)), (3, .gp 100000 0), (5, .gp 100002 0), (6, .gp 100003 0), (7, iA 0)], h := [(100000, gB (eV h l)), (100001, .arr 25 5 [eV h l] .own), (100002, gB (.agg [iA 6, iA 0, .str [], .val (Value.slice none 0 0), .val (Value.slice none 0 0)])), (100003, gB (.agg [iA 6, iA 0, .str [], .val (Value.slice none 0 0), .val (Value.slice none 0 0)]))] } (S3 h l ts 0) :: (d2 (decide (32 < (↑(List.map AV.str ts).length : Int)) = false) (MZ W 5 [eV h l] [] (.ret (iA 0) []) :: (d2 (decide (32 < (↑(List.map AV.str ts).length : Int)) = false) [MZ W 4 [.gs 100001 0 1] [(100001, .arr 25 5 [eV h l] .own)] (.ret (bA false) [(100001, .arr 25 5 [eV h l] .own)])])))) := by kernel_rfl
theorem p3g_0 (W : World) (h ha hb : JH) (l la lb : List JV) (ts : List (List UInt8)) (ps fs : List (List (List UInt8))) (c : Bool) : sF W { lp := true, tl := [4, 5, 6, 8, 9, 11, 31, 13, 14, 15, 16] } 3 [.sl 1 (ts.map AV.str) [], eV h l] [] 100000 [ee, cR (bA false) [(100001, .arr 25 5 [eV h l] .own)], aE 4, bf, bf, ee, cR (iA 0) [], bf, bf, ee, .loopM [(100001, 100002), (100002, 100003)] [(100003, 1), (100004, 5), (100005, 1), (100006, 5)] (S3 h l ts 0) (.exit 0) (E3 h l ts), ee, cR (.tup [.agg [sL 1 (ppA fs), bA c], iA 0]) [], aE 4, bf, ee, cR (.tup [(AV.agg [sL 1 (ppA ps), bA true]).ip 0, iA 0]) [], ee, cR (.tup [(AV.agg [sL 1 (ppA ps), bA false]).ip 0, iA 0]) [], ee, cR (eV ha la) [], ee, cR (eV hb lb) [], ee, cR (eV ha la) [], ee, cR (bA true) [], ee, cR (eV hb lb) [], ee, cR (bA true) [], ee, cR (bA true) [], aE 4, bt, ee, cR (bA true) [], ee] [] = .ok (.ret (bA true) [], [ee], MZ W 6 [] [] (.ret (bA true) []) :: ((!decide (h.kind = 6)) = true) :: MZ W 13 [eV h l] [] (.ret (bA true) []) :: MZ W 31 [eV hb lb, eV hb lb] [] (.ret (bA true) []) :: MZ W 11 [(AV.agg [sL 1 (ppA ps), bA false]).ip 0, eV hb lb] [] (.ret (eV hb lb) []) :: MZ W 31 [eV ha la, eV ha la] [] (.ret (bA true) []) :: MZ W 11 [(AV.agg [sL 1 (ppA ps), bA true]).ip 0, eV ha la] [] (.ret (eV ha la) []) :: MZ W 11 [(AV.agg [sL 1 (ppA ps), bA false]).ip 0, eV h l] [] (.ret (eV hb lb) []) :: MZ W 11 [(AV.agg [sL 1 (ppA ps), bA true]).ip 0, eV h l] [] (.ret (eV ha la) []) :: MZ W 9 [fldV ts 0] [] (.ret (.tup [(AV.agg [sL 1 (ppA ps), bA false]).ip 0, iA 0]) []) :: MZ W 9 [fldV ts 1] [] (.ret (.tup [(AV.agg [sL 1 (ppA ps), bA true]).ip 0, iA 0]) []) :: (decide ((↑(List.map AV.str ts).length : Int) = 0) = false) :: MZ W 8 [fldV ts 1] [] (.ret (.tup [.agg [sL 1 (ppA fs), bA c], iA 0]) []) :: LZ W [] 3 0 (S3 h l ts 0) (.exit 0) (E3 h l ts) :: MatchK [] [(100001, 100002), (100002, 100003)] [(100003, 1), (100004, 5), (100005, 1), (100006, 5)] { t := [(0, sL 1 (List.map AV.str ts)), (3, .gp 100000 0), (5, .gp 100002 0), (6, .gp 100003 0), (7, iA 0)], h := [(100000, gB (eV h l)), (100001, .arr 25 5 [eV h l] .own), (100002, gB (.agg [iA 6, iA 0, .str [], .val (Value.slice none 0 0), .val (Value.slice none 0 0)])), (100003, gB (.agg [iA 6, iA 0, .str [], .val (Value.slice none 0 0), .val (Value.slice none 0 0)]))] } (S3 h l ts 0) :: (d2 (decide (32 < (↑(List.map AV.str ts).length : Int)) = false) (MZ W 5 [eV h l] [] (.ret (iA 0) []) :: (d2 (decide (32 < (↑(List.map AV.str ts).length : Int)) = false) [MZ W 4 [.gs 100001 0 1] [(100001, .arr 25 5 [eV h l] .own)] (.ret (bA false) [(100001, .arr 25 5 [eV h l] .own)])])))) := by kernel_rfl
theorem p3h_0 (W : World) (h ha hb : JH) (l la lb : List JV) (ts : List (List UInt8)) (ps fs : List (List (List UInt8))) (c : Bool) (na nb nd : Int) : sF W { lp := true, tl := [4, 5, 6, 8, 9, 11, 31, 13, 14, 15, 16] } 3 [.sl 1 (ts.map AV.str) [], eV h l] [] 100000 [ee, cR (bA false) [(100001, .arr 25 5 [eV h l] .own)], aE 4, bf, bf, ee, cR (iA 0) [], bf, bf, ee, .loopM [(100001, 100002), (100002, 100003)] [(100003, 1), (100004, 5), (100005, 1), (100006, 5)] (S3 h l ts 0) (.exit 0) (E3 h l ts), ee, cR (.tup [.agg [sL 1 (ppA fs), bA c], iA 0]) [], aE 4, bf, ee, cR (.tup [(AV.agg [sL 1 (ppA ps), bA true]).ip 0, iA 0]) [], ee, cR (.tup [(AV.agg [sL 1 (ppA ps), bA false]).ip 0, iA 0]) [], ee, cR (eV ha la) [], ee, cR (eV hb lb) [], ee, cR (eV ha la) [], ee, cR (bA true) [], ee, cR (eV hb lb) [], ee, cR (bA true) [], ee, cR (bA true) [], aE 4, bf, ee, .loopM [(100001, 100004), (100002, 100005)] [] (V3 (JV.mk h l) (JV.mk ha la) (JV.mk hb lb) ts 0) (.exit 2) (W3 (JV.mk h l) (JV.mk ha la) (JV.mk hb lb)), ee, cR (iA na) [], ee, cR (iA nb) [], ee, cR (iA nd) [], bt, ee, cR (bA true) [], bt, ee] [] = .ok (.ret (bA true) [], [ee], (decide (IntKind.i64.wrap (na + nb) = nd) = true) :: MZ W 6 [] [] (.ret (bA true) []) :: (decide (IntKind.i64.wrap (na + nb) = nd) = true) :: MZ W 16 [eV h l] [] (.ret (iA nd) []) :: MZ W 16 [eV hb lb] [] (.ret (iA nb) []) :: MZ W 16 [eV ha la] [] (.ret (iA na) []) :: LZ W [] 3 1 (V3 (JV.mk h l) (JV.mk ha la) (JV.mk hb lb) ts 0) (.exit 2) (W3 (JV.mk h l) (JV.mk ha la) (JV.mk hb lb)) :: MatchK [] [(100001, 100004), (100002, 100005)] [] { t := [(0, sL 1 (List.map AV.str ts)), (3, .gp 100000 0), (14, .gp 100004 0), (15, .gp 100005 0), (16, iA 0)], h := [(100000, gB (eV h l)), (100001, .box (fldV ts 1) .own), (100002, .box (fldV ts 0) .own), (100003, gB (.agg [sL 1 (ppA fs), bA c])), (100004, gB (eV ha la)), (100005, gB (eV hb lb))] } (V3 (JV.mk h l) (JV.mk ha la) (JV.mk hb lb) ts 0) :: ((!decide (h.kind = 6)) = false) :: MZ W 13 [eV h l] [] (.ret (bA true) []) :: MZ W 31 [eV hb lb, eV hb lb] [] (.ret (bA true) []) :: MZ W 11 [(AV.agg [sL 1 (ppA ps), bA false]).ip 0, eV hb lb] [] (.ret (eV hb lb) []) :: MZ W 31 [eV ha la, eV ha la] [] (.ret (bA true) []) :: MZ W 11 [(AV.agg [sL 1 (ppA ps), bA true]).ip 0, eV ha la] [] (.ret (eV ha la) []) :: MZ W 11 [(AV.agg [sL 1 (ppA ps), bA false]).ip 0, eV h l] [] (.ret (eV hb lb) []) :: MZ W 11 [(AV.agg [sL 1 (ppA ps), bA true]).ip 0, eV h l] [] (.ret (eV ha la) []) :: MZ W 9 [fldV ts 0] [] (.ret (.tup [(AV.agg [sL 1 (ppA ps), bA false]).ip 0, iA 0]) []) :: MZ W 9 [fldV ts 1] [] (.ret (.tup [(AV.agg [sL 1 (ppA ps), bA true]).ip 0, iA 0]) []) :: (decide ((↑(List.map AV.str ts).length : Int) = 0) = false) :: MZ W 8 [fldV ts 1] [] (.ret (.tup [.agg [sL 1 (ppA fs), bA c], iA 0]) []) :: LZ W [] 3 0 (S3 h l ts 0) (.exit 0) (E3 h l ts) :: MatchK [] [(100001, 100002), (100002, 100003)] [(100003, 1), (100004, 5), (100005, 1), (100006, 5)] { t := [(0, sL 1 (List.map AV.str ts)), (3, .gp 100000 0), (5, .gp 100002 0), (6, .gp 100003 0), (7, iA 0)], h := [(100000, gB (eV h l)), (100001, .arr 25 5 [eV h l] .own), (100002, gB (.agg [iA 6, iA 0, .str [], .val (Value.slice none 0 0), .val (Value.slice none 0 0)])), (100003, gB (.agg [iA 6, iA 0, .str [], .val (Value.slice none 0 0), .val (Value.slice none 0 0)]))] } (S3 h l ts 0) :: (d2 (decide (32 < (↑(List.map AV.str ts).length : Int)) = false) (MZ W 5 [eV h l] [] (.ret (iA 0) []) :: (d2 (decide (32 < (↑(List.map AV.str ts).length : Int)) = false) [MZ W 4 [.gs 100001 0 1] [(100001, .arr 25 5 [eV h l] .own)] (.ret (bA false) [(100001, .arr 25 5 [eV h l] .own)])])))) := by kernel_rfl
theorem b3_0 (W : World) (h : JH) (l : List JV) (ts : List (List UInt8)) (i : Nat) (s : List UInt8) : sQ W { lp := true } 3 0 [] [0, 3, 4, 5, 6, 7] (S3 h l ts i) [bt, aE 1, oS (.str s), aE 1, .lg, .lg, aE 1, oS (.str s), aE 1, .lg, .lg, aE 2, .lg, .lg, aE 2, .lg, .lg, ee] = .ok ((.normal, { t := [(0, sL 1 (List.map AV.str ts)), (3, .gp 100000 0), (5, .gp 100001 0), (6, .gp 100002 0), (7, iA (IntKind.i64.wrap ((↑i : Int) + 1)))], h := [(100000, gB (eV h l)), (100001, gB (.agg [iA 6, iA 0, .str [], .gs 100008 0 (i + [AV.str s].length), .gs 100012 0 (i + [numA 1].length)])), (100002, gB (.agg [iA 6, iA 0, .str [], .gs 100010 0 (i + [AV.str s].length), .gs 100014 0 (i + [numA 0].length)])), (100003, .dead), (100004, .dead), (100005, .dead), (100006, .dead), (100007, .arr 9 1 [.str s] .own), (100008, .arr 9 1 (List.take i (List.map AV.str (List.take i ts)) ++ [AV.str s]) .own), (100009, .arr 9 1 [.str s] .own), (100010, .arr 9 1 (List.take i (List.map AV.str (List.take i ts)) ++ [AV.str s]) .own), (100011, .arr 25 5 [numA 1] .own), (100012, .arr 25 5 (List.take i (List.replicate i (numA 1)) ++ [numA 1]) .own), (100013, .arr 25 5 [numA 0] .own), (100014, .arr 25 5 (List.take i (List.replicate i (numA 0)) ++ [numA 0]) .own)] }), [ee], [(i + [numA 0].length) * 80 ≤ 140737488355328, (St.own = St.own ∨ St.own = St.shr ∧ i = (List.replicate i (numA 0)).length) ∧ i ≤ (List.replicate i (numA 0)).length, (i + [numA 1].length) * 80 ≤ 140737488355328, (St.own = St.own ∨ St.own = St.shr ∧ i = (List.replicate i (numA 1)).length) ∧ i ≤ (List.replicate i (numA 1)).length, (i + [AV.str s].length) * 16 ≤ 140737488355328, (St.own = St.own ∨ St.own = St.shr ∧ i = (List.map AV.str (List.take i ts)).length) ∧ i ≤ (List.map AV.str (List.take i ts)).length, (List.map AV.str ts)[(↑i : Int).toNat]? = some (AV.str s), (i + [AV.str s].length) * 16 ≤ 140737488355328, (St.own = St.own ∨ St.own = St.shr ∧ i = (List.map AV.str (List.take i ts)).length) ∧ i ≤ (List.map AV.str (List.take i ts)).length, (List.map AV.str ts)[(↑i : Int).toNat]? = some (AV.str s), decide ((↑i : Int) < (↑(List.map AV.str ts).length : Int)) = true]) := by kernel_rfl
theorem b3_1 (W : World) (h : JH) (l : List JV) (ts : List (List UInt8)) (i : Nat) : sQ W { lp := true } 3 0 [] [0, 3, 4, 5, 6, 7] (S3 h l ts i) [bf, ee] = .ok ((.exit 0, { t := [(0, sL 1 (List.map AV.str ts)), (3, .gp 100000 0), (5, .gp 100001 0), (6, .gp 100002 0), (7, iA (↑i : Int))], h := [(100000, gB (eV h l)), (100001, gB (.agg [iA 6, iA 0, .str [], .gs 100003 0 i, .gs 100004 0 i])), (100002, gB (.agg [iA 6, iA 0, .str [], .gs 100005 0 i, .gs 100006 0 i])), (100003, .arr 9 1 (List.map AV.str (List.take i ts)) .own), (100004, .arr 25 5 (List.replicate i (numA 1)) .own), (100005, .arr 9 1 (List.map AV.str (List.take i ts)) .own), (100006, .arr 25 5 (List.replicate i (numA 0)) .own)] }), [ee], [decide ((↑i : Int) < (↑(List.map AV.str ts).length : Int)) = false]) := by kernel_rfl
theorem b3v_1 (W : World) (h ha hb hx hz : JH) (l la lb lx lz : List JV) (ts : List (List UInt8)) (tt : Bool) (ea aa : Int) (i : Nat) (s : List UInt8) (p : List (List UInt8)) : sQ W { lp := true, tl := [14, 15, 31] } 3 1 [] [0, 3, 4, 14, 15, 16] (V3 (.mk h l) (.mk ha la) (.mk hb lb) ts i) [bt, aE 1, oS (.str s), ee, cR (.tup [sL 1 (List.map AV.str p), iA ea, iA aa]) [], ee, cR (.tup [eV hx lx, bA tt]) [], ee, cR (.tup [eV hx lx, bA tt]) [], ee, cR (.tup [eV hz lz, bA false]) [], bf, bf, ee, cR (bA true) [], ee] = .ok ((.normal, { t := [(0, sL 1 (List.map AV.str ts)), (3, .gp 100000 0), (14, .gp 100001 0), (15, .gp 100002 0), (16, iA (IntKind.i64.wrap ((↑i : Int) + 1)))], h := [(100000, gB (eV h l)), (100001, gB (eV ha la)), (100002, gB (eV hb lb)), (100003, gB (eV hx lx)), (100004, gB (eV hx lx)), (100005, gB (eV hz lz))] }), [aE 9999997], MZ W 31 [eV hx lx, eV hx lx] [] (.ret (bA true) []) :: (d2 ((!tt == tt) = false) [MZ W 15 [eV hb lb, sL 1 (List.map AV.str p)] [] (.ret (.tup [eV hz lz, bA false]) []), MZ W 15 [eV ha la, sL 1 (List.map AV.str p)] [] (.ret (.tup [eV hx lx, bA tt]) []), MZ W 15 [eV h l, sL 1 (List.map AV.str p)] [] (.ret (.tup [eV hx lx, bA tt]) []), MZ W 14 [.str s] [] (.ret (.tup [sL 1 (List.map AV.str p), iA ea, iA aa]) []), (List.map AV.str ts)[(↑i : Int).toNat]? = some (AV.str s), decide ((↑i : Int) < (↑(List.map AV.str ts).length : Int)) = true])) := by kernel_rfl
theorem b3v_2 (W : World) (h ha hb : JH) (l la lb : List JV) (ts : List (List UInt8)) (i : Nat) : sQ W { lp := true, tl := [14, 15, 31] } 3 1 [] [0, 3, 4, 14, 15, 16] (V3 (.mk h l) (.mk ha la) (.mk hb lb) ts i) [bf, ee] = .ok ((.exit 2, { t := [(0, sL 1 (List.map AV.str ts)), (3, .gp 100000 0), (14, .gp 100001 0), (15, .gp 100002 0), (16, iA (↑i : Int))], h := [(100000, gB (eV h l)), (100001, gB (eV ha la)), (100002, gB (eV hb lb))] }), [ee], [decide ((↑i : Int) < (↑(List.map AV.str ts).length : Int)) = false]) := by kernel_rfl
theorem zh3 {p : Prop} (h : p := by and_intros <;> first | exact trivial | exact gOK_ph' rfl (by decide) rfl | exact gOK_eq rfl rfl rfl | (refine gOK_box rfl rfl rfl ?_; exact zp) | exact gOK_arr rfl rfl rfl (by assumption) | exact gOK_arr rfl rfl hsetS (by assumption) | exact gOK_arr rfl rfl hset1 (by assumption) | exact gOK_arr rfl rfl hset0 (by assumption)) : p := h
theorem Ha7_z1 {kp f ph σ σ'} (h : MatchK kp f ph σ σ' := by exact ⟨by rfl, (by simp only [S3, E3, V3, W3, numA, fldV, tOK, List.map_cons, List.map_nil, and_true] <;> exact zt), (by simp only [S3, E3, V3, W3, numA, fldV, hOK, List.map_cons, List.map_nil, and_true] <;> exact zh3), (by simp only [S3, E3, V3, W3, numA, fldV, liveT, List.map_cons, List.map_nil, and_true] <;> exact zvp), (by simp only [S3, E3, V3, W3, numA, fldV, liveH, List.map_cons, List.map_nil, and_true] <;> exact zvp)⟩) : MatchK kp f ph σ σ' := h
theorem Ha7_z2 {cs} (h : Holds cs := by simp only [Holds, and_true] <;> and_intros <;> first | assumption | exact zd | exact Ha7_z1) : Holds cs := h
theorem call3h : callable Tryz.prog 3 = true := by kernel_rfl
theorem rep_clo3 (b : Int) : ∀ n : Nat, cloL (List.replicate n (numA b)) = true
  | 0 => rfl
  | n + 1 => by rw [List.replicate_succ]; simp only [cloL, rep_clo3 b n, Bool.and_true]; rfl
section
variable (W : World)
theorem numA_le (b : Int) : Le (numA b) (encV (oneV2 b)) := .agg (.cons (.refl _) (.cons (.refl _) (.cons (.refl _) (.cons (.nil 1) (.cons (.nil 5) .nil)))))
theorem repL_le (b : Int) : ∀ n : Nat, LeL (List.replicate n (numA b)) (encVs (List.replicate n (oneV2 b)))
  | 0 => .nil
  | n + 1 => by rw [List.replicate_succ, List.replicate_succ, encVs]; exact .cons (numA_le b) (repL_le b n)
theorem rep_flat (b : Int) (n : Nat) : ∀ e ∈ encVs (List.replicate n (oneV2 b)), e.flat.length = 5 := fun e he => by
  obtain ⟨i, hi⟩ := List.mem_iff_getElem?.1 he
  have : (encVs (List.replicate n (oneV2 b)))[i]? = (if i < n then some (encV (oneV2 b)) else none) := by rw [encVs_map, List.getElem?_map, List.getElem?_replicate]; split <;> rfl
  rw [this] at hi
  split at hi
  · cases hi; rfl
  · cases hi
theorem fldV_le (ts : List (List UInt8)) (b : Int) : LeL [fldV ts b] [encV (.mk (inH ts) (inL ts b))] := .cons (.agg (.cons (.refl _) (.cons (.refl _) (.cons (.refl _) (.cons (.refl _) (.cons (.els (repL_le b _) (rep_flat b _)) .nil)))))) .nil
theorem loop3a (h : JH) (l : List JV) (ts : List (List UInt8)) (hlen : ts.length ≤ 32) : ∀ (j i : Nat), ts.length - i = j → i ≤ ts.length → LoopC Tryz.prog W [] (nslots Tryz.prog 3) (loopOf Tryz.prog 3 0) (S3 h l ts i) (.exit 0) (E3 h l ts) := by
  intro j
  induction j with
  | zero =>
    intro i hj hi
    obtain rfl : i = ts.length := by omega
    have e : decide ((ts.length : Int) < (((ts.map AV.str).length : Nat) : Int)) = false := by rw [List.length_map]; exact decide_eq_false (by omega)
    have hb := b3_1 W h l ts ts.length
    have c1 := cloL_str (ts.take ts.length)
    have c2 := rep_clo3 1 ts.length
    have c3 := rep_clo3 0 ts.length
    have h1 := body_of_sbodyK mixedz hb ⟨e, trivial⟩ [] [] (σ3 := ⟨[(0, .sl 1 (ts.map AV.str) []), (3, .gp 100000 0), (5, .gp 100001 0), (6, .gp 100002 0)], (S3 h l ts ts.length).h⟩) Ha7_z1
    have hf : ∀ p ∈ [(100003, .arr 9 1 ((ts.take ts.length).map AV.str) .own), (100004, .arr 25 5 (List.replicate ts.length (numA 1)) .own), (100005, .arr 9 1 ((ts.take ts.length).map AV.str) .own), (100006, .arr 25 5 (List.replicate ts.length (numA 0)) .own)], hg (S3 h l ts ts.length).h p.1 = some p.2 ∧ Frzable p.2 := by
      intro p hp
      simp only [List.mem_cons, List.not_mem_nil, or_false] at hp
      rcases hp with rfl | rfl | rfl | rfl
      · exact ⟨rfl, c1⟩
      · exact ⟨rfl, c2⟩
      · exact ⟨rfl, c1⟩
      · exact ⟨rfl, c3⟩
    have e9 : ∀ {α : Type} (x : List α), x.length = ts.length → List.take ts.length (List.drop 0 x) = x := fun x hx => by rw [List.drop_zero, List.take_of_length_le (by omega)]
    have h2 := body_sub (SubK.refl [] _) h1 (fun E _ a w r => sub_frzA (σ := ⟨[(0, .sl 1 (ts.map AV.str) []), (3, .gp 100000 0), (5, .gp 100001 0), (6, .gp 100002 0)], (S3 h l ts ts.length).h⟩) _ hf E a w r)
    refine loop_last (by simp) (body_sub (SubK.refl [] _) h2 ?_)
    refine sub_match (f := []) (ph := []) ?_
    have t1 : List.take ts.length ts = ts := List.take_length
    have e1 : ∀ b k1 k2, clA [(100003, .arr 9 1 ((ts.take ts.length).map AV.str) .own), (100004, .arr 25 5 (List.replicate ts.length (numA 1)) .own), (100005, .arr 9 1 ((ts.take ts.length).map AV.str) .own), (100006, .arr 25 5 (List.replicate ts.length (numA 0)) .own)] (.agg [iA 6, iA 0, .str [], .gs k1 0 ts.length, .gs k2 0 ts.length]) = .agg [iA 6, iA 0, .str [], clA [(100003, .arr 9 1 ((ts.take ts.length).map AV.str) .own), (100004, .arr 25 5 (List.replicate ts.length (numA 1)) .own), (100005, .arr 9 1 ((ts.take ts.length).map AV.str) .own), (100006, .arr 25 5 (List.replicate ts.length (numA 0)) .own)] (.gs k1 0 ts.length), clA [(100003, .arr 9 1 ((ts.take ts.length).map AV.str) .own), (100004, .arr 25 5 (List.replicate ts.length (numA 1)) .own), (100005, .arr 9 1 ((ts.take ts.length).map AV.str) .own), (100006, .arr 25 5 (List.replicate ts.length (numA 0)) .own)] (.gs k2 0 ts.length)] → clA [(100003, .arr 9 1 ((ts.take ts.length).map AV.str) .own), (100004, .arr 25 5 (List.replicate ts.length (numA 1)) .own), (100005, .arr 9 1 ((ts.take ts.length).map AV.str) .own), (100006, .arr 25 5 (List.replicate ts.length (numA 0)) .own)] (.gs k1 0 ts.length) = .sl 1 (ts.map AV.str) [] → clA [(100003, .arr 9 1 ((ts.take ts.length).map AV.str) .own), (100004, .arr 25 5 (List.replicate ts.length (numA 1)) .own), (100005, .arr 9 1 ((ts.take ts.length).map AV.str) .own), (100006, .arr 25 5 (List.replicate ts.length (numA 0)) .own)] (.gs k2 0 ts.length) = .sl 5 (List.replicate ts.length (numA b)) [] → clA [(100003, .arr 9 1 ((ts.take ts.length).map AV.str) .own), (100004, .arr 25 5 (List.replicate ts.length (numA 1)) .own), (100005, .arr 9 1 ((ts.take ts.length).map AV.str) .own), (100006, .arr 25 5 (List.replicate ts.length (numA 0)) .own)] (.agg [iA 6, iA 0, .str [], .gs k1 0 ts.length, .gs k2 0 ts.length]) = fldV ts b := fun b k1 k2 h1 h2 h3 => by rw [h1, h2, h3]; rfl
    have g3 : clA [(100003, .arr 9 1 ((ts.take ts.length).map AV.str) .own), (100004, .arr 25 5 (List.replicate ts.length (numA 1)) .own), (100005, .arr 9 1 ((ts.take ts.length).map AV.str) .own), (100006, .arr 25 5 (List.replicate ts.length (numA 0)) .own)] (.gs 100003 0 ts.length) = .sl 1 (ts.map AV.str) [] := by simp [clA, lk, t1]; try exact List.take_of_length_le (by simp)
    have g5 : clA [(100003, .arr 9 1 ((ts.take ts.length).map AV.str) .own), (100004, .arr 25 5 (List.replicate ts.length (numA 1)) .own), (100005, .arr 9 1 ((ts.take ts.length).map AV.str) .own), (100006, .arr 25 5 (List.replicate ts.length (numA 0)) .own)] (.gs 100005 0 ts.length) = .sl 1 (ts.map AV.str) [] := by simp [clA, lk, t1]; try exact List.take_of_length_le (by simp)
    have g4 : clA [(100003, .arr 9 1 ((ts.take ts.length).map AV.str) .own), (100004, .arr 25 5 (List.replicate ts.length (numA 1)) .own), (100005, .arr 9 1 ((ts.take ts.length).map AV.str) .own), (100006, .arr 25 5 (List.replicate ts.length (numA 0)) .own)] (.gs 100004 0 ts.length) = .sl 5 (List.replicate ts.length (numA 1)) [] := by simp [clA, lk]; try exact List.take_of_length_le (by simp)
    have g6 : clA [(100003, .arr 9 1 ((ts.take ts.length).map AV.str) .own), (100004, .arr 25 5 (List.replicate ts.length (numA 1)) .own), (100005, .arr 9 1 ((ts.take ts.length).map AV.str) .own), (100006, .arr 25 5 (List.replicate ts.length (numA 0)) .own)] (.gs 100006 0 ts.length) = .sl 5 (List.replicate ts.length (numA 0)) [] := by simp [clA, lk]; try exact List.take_of_length_le (by simp)
    have x1 := e1 1 100003 100004 rfl g3 g4
    have x0 := e1 0 100005 100006 rfl g5 g6
    refine ⟨by rfl, ?_, ?_, ?_, ?_⟩
    · simp only [E3, tOK, and_true]
      and_intros
      · exact zl
      · exact zl
      · exact zl
      · exact zl
    · simp only [E3, hOK, and_true]
      and_intros
      · exact gOK_box rfl rfl rfl zl
      · exact gOK_eq rfl (by show _ = some (GE.box (fldV ts 1) .own); rw [← x1]; rfl) rfl
      · exact gOK_eq rfl (by show _ = some (GE.box (fldV ts 0) .own); rw [← x0]; rfl) rfl
    · simp only [E3, liveT, List.map_cons, List.map_nil, and_true]; exact zvp
    · simp only [E3, liveH, List.map_cons, List.map_nil, and_true]; exact zvp
  | succ j ihj =>
    intro i hj hi
    obtain ⟨s, hs⟩ := getOf (l := ts) (i := i) (by omega)
    have e : decide ((i : Int) < (((ts.map AV.str).length : Nat) : Int)) = true := by rw [List.length_map]; exact decide_eq_true (by omega)
    have hget : (ts.map AV.str)[((i : Int)).toNat]? = some (AV.str s) := by rw [Int.toNat_natCast]; exact strs_get hs
    have hws : IntKind.i64.wrap ((i : Int) + 1) = ((i + 1 : Nat) : Int) := wrap_succ (by omega)
    have hsetS : List.take i (List.map AV.str (List.take i ts)) ++ [AV.str s] = List.map AV.str (List.take (i + 1) ts) := by rw [take_snoc hs, List.map_append, List.take_of_length_le (by simp; omega)]; rfl
    have hset1 : List.take i (List.replicate i (numA 1)) ++ [numA 1] = List.replicate (i + 1) (numA 1) := by rw [List.take_of_length_le (by simp), List.replicate_succ']
    have hset0 : List.take i (List.replicate i (numA 0)) ++ [numA 0] = List.replicate (i + 1) (numA 0) := by rw [List.take_of_length_le (by simp), List.replicate_succ']
    have c1 := cloL_str (ts.take (i + 1))
    have c2 := rep_clo3 1 (i + 1)
    have c3 := rep_clo3 0 (i + 1)
    have l1 : (List.map AV.str (List.take i ts)).length = i := by rw [List.length_map, List.length_take]; omega
    have l2 (b : Int) : (List.replicate i (numA b)).length = i := List.length_replicate
    have q1 : (St.own = St.own ∨ St.own = St.shr ∧ i = (List.map AV.str (List.take i ts)).length) ∧ i ≤ (List.map AV.str (List.take i ts)).length := ⟨.inl rfl, by omega⟩
    have q2 : (St.own = St.own ∨ St.own = St.shr ∧ i = (List.replicate i (numA 1)).length) ∧ i ≤ (List.replicate i (numA 1)).length := ⟨.inl rfl, by rw [l2 1]; omega⟩
    have q3 : (St.own = St.own ∨ St.own = St.shr ∧ i = (List.replicate i (numA 0)).length) ∧ i ≤ (List.replicate i (numA 0)).length := ⟨.inl rfl, by rw [l2 0]; omega⟩
    have q4 : (i + [AV.str s].length) * 16 ≤ 140737488355328 := by simp only [List.length_cons, List.length_nil]; omega
    have q5 (b : Int) : (i + [numA b].length) * 80 ≤ 140737488355328 := by simp only [List.length_cons, List.length_nil]; omega
    exact loop_next (body_of_sbodyK mixedz (b3_0 W h l ts i s) ⟨q5 0, q3, q5 1, q2, q4, q1, hget, q4, q1, hget, e, trivial⟩ [(100003, 100008), (100004, 100012), (100005, 100010), (100006, 100014)] [] (σ3 := S3 h l ts (i + 1)) Ha7_z1) (ihj (i + 1) (by omega) (by omega))
theorem getV_ok : ∀ (p : List (List UInt8)) {v x : JV}, okV v → getV v p = some x → okV x
  | [], v, x, h, e => by rw [getV] at e; cases e; exact h
  | s :: p, v, x, h, e => by
    rw [getV] at e
    split at e
    · cases e
    · split at e
      · rename_i y hy; exact getV_ok p (okV_item h hy) e
      · cases e
theorem loop3v (v : JV) (ts : List (List UInt8)) (hlen : ts.length ≤ 32) (hcnt : cntV v ≤ 2 ^ 30) (hpl : plainD v) (hE : ∀ t ∈ ts, parseE t = 0) (htl : ∀ t ∈ ts, t.length ≤ 2 ^ 50) : ∀ (j i : Nat), ts.length - i = j → i ≤ ts.length →
    LoopC Tryz.prog W [] (nslots Tryz.prog 3) (loopOf Tryz.prog 3 1) (V3 v (thrV true (ts.map parseP) v) (thrV false (ts.map parseP) v) ts i) (.exit 2) (W3 v (thrV true (ts.map parseP) v) (thrV false (ts.map parseP) v)) := by
  have hca := thr_cnt true (ts.map parseP) v
  have hcb := thr_cnt false (ts.map parseP) v
  have hin := fun p => get_in p (ts.map parseP) v hpl
  have hout := fun p => get_out p (ts.map parseP) v hpl
  generalize hga : thrV true (ts.map parseP) v = a at *
  generalize hgb : thrV false (ts.map parseP) v = b at *
  have o1 := okV_cnt v hcnt
  have o2 := okV_cnt a (by omega)
  have o3 := okV_cnt b (by omega)
  intro j
  induction j with
  | zero =>
    intro i hj hi
    have e : decide ((i : Int) < (((ts.map AV.str).length : Nat) : Int)) = false := by rw [List.length_map]; exact decide_eq_false (by omega)
    obtain ⟨h, l⟩ := v
    obtain ⟨ha, la⟩ := a
    obtain ⟨hb, lb⟩ := b
    exact loop_last (by simp) (body_of_sbodyK mixedz (b3v_2 W h ha hb l la lb ts i) Ha7_z2 [] [] Ha7_z1)
  | succ j ihj =>
    intro i hj hi
    obtain ⟨t, ht⟩ := getOf (l := ts) (i := i) (by omega)
    have htm := List.mem_of_getElem? ht
    have e : decide ((i : Int) < (((ts.map AV.str).length : Nat) : Int)) = true := by rw [List.length_map]; exact decide_eq_true (by omega)
    have hget : (ts.map AV.str)[((i : Int)).toNat]? = some (AV.str t) := by rw [Int.toNat_natCast]; exact strs_get ht
    have hws : IntKind.i64.wrap ((i : Int) + 1) = ((i + 1 : Nat) : Int) := wrap_succ (by omega)
    obtain ⟨_, hne, h16⟩ := parse_ok (hE t htm)
    have hP : MutC Tryz.prog W 14 [.str t] [] (.ret (parseAV t) []) := mut_of_pure (by rfl) (Parse23 W t (htl t htm))
    unfold parseAV at hP
    have hm : parseP t ∈ ts.map parseP := List.mem_map.2 ⟨t, htm, rfl⟩
    have i1 := hin _ hm hne
    have i2 := hout _ hm hne
    have g1 := mut_of_pure (by simp [cloL, encV_clo, AV.clo, cloL_str]) (get15 W (parseP t) v o1 (by omega))
    have g2 := mut_of_pure (by simp [cloL, encV_clo, AV.clo, cloL_str]) (get15 W (parseP t) a o2 (by omega))
    have g3 := mut_of_pure (by simp [cloL, encV_clo, AV.clo, cloL_str]) (get15 W (parseP t) b o3 (by omega))
    rw [getAV_none i2] at g3
    have hx : ∃ x tt, okV x ∧ getAV v (parseP t) = .tup [encV x, bA tt] ∧ getAV a (parseP t) = .tup [encV x, bA tt] := by
      cases hv : getV v (parseP t) with
      | none => exact ⟨.mk ⟨0, 0, [], []⟩ [], false, okV_cnt _ (by simp [cntV, cntVs]), getAV_none hv, getAV_none (i1.trans hv)⟩
      | some x => exact ⟨x, true, getV_ok _ o1 hv, getAV_some hv, getAV_some (i1.trans hv)⟩
    obtain ⟨x, tt, ox, e1, e2⟩ := hx
    rw [e1] at g1
    rw [e2] at g2
    have hq := mut_of_pure (by simp [cloL, encV_clo]) (equal67 W _ x x (Nat.lt_succ_self _) ox)
    rw [eqV_true] at hq
    have ht2 : (!tt == tt) = false := by cases tt <;> rfl
    have nx := ihj (i + 1) (by omega) (by omega)
    obtain ⟨h, l⟩ := v
    obtain ⟨ha, la⟩ := a
    obtain ⟨hb, lb⟩ := b
    obtain ⟨hx1, lx⟩ := x
    exact loop_next (body_of_sbodyK mixedz (b3v_1 W h ha hb hx1 ⟨0, 0, [], []⟩ l la lb lx [] ts tt (parseE t) (parseA t) i t (parseP t)) ⟨hq, ht2, ht2, g3, g2, g1, hP, hget, e, trivial⟩ [] [] (σ3 := V3 (.mk h l) (.mk ha la) (.mk hb lb) ts (i + 1)) Ha7_z1) nx
theorem halves3 (ts : List (List UInt8)) (v : JV) (hok : okV v) (htl : ∀ t ∈ ts, t.length ≤ 2 ^ 50) : Pure Tryz.prog W 3 [.sl 1 (ts.map AV.str) [], encV v] (bA true) := by
  obtain ⟨g, hg4, hcnt⟩ := large4 W v hok
  have h6 : MutC Tryz.prog W 6 [] [] (.ret (bA true) []) := mut_of_pure rfl (live6 W)
  have h4 : MutC Tryz.prog W 4 [.gs 100001 0 1] [(100001, .arr 25 5 [encV v] .own)] (.ret (bA g) [(100001, .arr 25 5 [encV v] .own)]) := by
    refine mut_of_pureFlat (frz2 rfl (by simp [Frzable, cloL, encV_clo])) rfl (by simp [clL, clA, lk, cloL, AV.clo, encV_clo]) rfl ?_
    exact hg4
  have h5 : MutC Tryz.prog W 5 [encV v] [] (.ret (iA (chkV v 0)) []) := mut_of_pure (by simp [cloL, encV_clo]) (check5 W v hok)
  cases g with
  | true =>
    obtain ⟨h, l⟩ := v
    exact pure_of_mut rfl (mut_of_sfun mixedz call3h rfl (p3a_0 W h l ts) Ha7_z2)
  | false =>
  have hcn : cntV v ≤ 2 ^ 30 := by have := hcnt rfl; omega
  by_cases hlen : ts.length ≤ 32
  case neg =>
    have c1 : decide (32 < (((ts.map AV.str).length : Nat) : Int)) = true := by rw [List.length_map]; exact decide_eq_true (by omega)
    obtain ⟨h, l⟩ := v
    exact pure_of_mut rfl (mut_of_sfun mixedz call3h rfl (p3b_0 W h l ts) Ha7_z2)
  have c1 : decide (32 < (((ts.map AV.str).length : Nat) : Int)) = false := by rw [List.length_map]; exact decide_eq_false (by omega)
  by_cases hc : chkV v 0 = 0
  case neg =>
    have c2 : (!decide (chkV v 0 = 0)) = true := by rw [decide_eq_false hc]; rfl
    obtain ⟨h, l⟩ := v
    exact pure_of_mut rfl (mut_of_sfun mixedz call3h rfl (p3c_0 W h l ts (chkV (.mk h l) 0)) Ha7_z2)
  rw [hc] at h5
  obtain ⟨fs, c, hp8⟩ := rparse8 W ts hlen htl
  have h8 := mut_of_pure (by simp [cloL, fldV, AV.clo, cloL_str, rep_clo3, bA, iA]) (pure_le (fldV_le ts 1) hp8)
  have hl0 := loop3a W v.hd v.items ts hlen ts.length 0 (by omega) (by omega)
  by_cases he : pfE ts [] = 0
  case neg =>
    have c2 : (!decide (pfE ts [] = 0)) = true := by rw [decide_eq_false he]; rfl
    obtain ⟨h, l⟩ := v
    exact pure_of_mut rfl (mut_of_sfun mixedz call3h rfl (p3d_0 W h l ts fs c (pfE ts [])) Ha7_z2)
  rw [he] at h8
  by_cases h0 : ts = []
  · have c2 : decide (((((ts.map AV.str).length : Nat) : Int)) = 0) = true := by rw [h0]; rfl
    obtain ⟨h, l⟩ := v
    exact pure_of_mut rfl (mut_of_sfun mixedz call3h rfl (p3e_0 W h l ts fs c) Ha7_z2)
  have c2 : decide (((((ts.map AV.str).length : Nat) : Int)) = 0) = false := by
    rw [List.length_map]; refine decide_eq_false fun q => h0 (List.length_eq_zero_iff.1 (by omega))
  have hE := pfE_ok he
  have hps0 : ts.map parseP ≠ [] := fun q => h0 (List.map_eq_nil_iff.1 q)
  have hpsl : (ts.map parseP).length ≤ 2 ^ 30 := by rw [List.length_map]; omega
  have hpsn : ∀ p ∈ ts.map parseP, p ≠ [] := fun p hp => by
    obtain ⟨t, ht, rfl⟩ := List.mem_map.1 hp
    exact (parse_ok (hE t ht)).2.1
  have h91 := mut_of_pure (by simp [cloL, fldV, AV.clo, cloL_str, rep_clo3, bA, iA]) (pure_le (fldV_le ts 1) (parse9_1 W ts hlen h0 he))
  have h90 := mut_of_pure (by simp [cloL, fldV, AV.clo, cloL_str, rep_clo3, bA, iA]) (pure_le (fldV_le ts 0) (parse9_0 W ts hlen h0 he))
  have hca := thr_cnt true (ts.map parseP) v
  have hcb := thr_cnt false (ts.map parseP) v
  have clf : ∀ (b : Bool) (x : JV), cloL [fldA (ts.map parseP) b, encV x] = true := fun b x => by simp [cloL, fldA, AV.clo, ppA_clo, encV_clo, bA]
  have a1 := mut_of_pure (clf true _) (apply11 W true v (ts.map parseP) hcn hpsl hpsn hps0)
  have a0 := mut_of_pure (clf false _) (apply11 W false v (ts.map parseP) hcn hpsl hpsn hps0)
  have a11 := mut_of_pure (clf true _) (apply11 W true (thrV true (ts.map parseP) v) (ts.map parseP) (by omega) hpsl hpsn hps0)
  have a00 := mut_of_pure (clf false _) (apply11 W false (thrV false (ts.map parseP) v) (ts.map parseP) (by omega) hpsl hpsn hps0)
  rw [thr_twice] at a11 a00
  have q1 := mut_of_pure (by simp [cloL, encV_clo]) (equal67 W _ (thrV true (ts.map parseP) v) (thrV true (ts.map parseP) v) (Nat.lt_succ_self _) (okV_cnt _ (by omega)))
  have q0 := mut_of_pure (by simp [cloL, encV_clo]) (equal67 W _ (thrV false (ts.map parseP) v) (thrV false (ts.map parseP) v) (Nat.lt_succ_self _) (okV_cnt _ (by omega)))
  rw [eqV_true] at q1 q0
  have h13 := mut_of_pure (by simp [cloL, encV_clo]) (simple13 W _ v (Nat.lt_succ_self _) hok)
  have hl1 : v.kind = 6 → simpleV v = true → LoopC Tryz.prog W [] (nslots Tryz.prog 3) (loopOf Tryz.prog 3 1) (V3 v (thrV true (ts.map parseP) v) (thrV false (ts.map parseP) v) ts 0) (.exit 2) (W3 v (thrV true (ts.map parseP) v) (thrV false (ts.map parseP) v)) :=
    fun _ hs => loop3v W v ts hlen hcn (chk_plain v 0 hc hs) hE htl ts.length 0 (by omega) (by omega)
  have hsum : v.kind = 6 → simpleV v = true → leavesV (thrV true (ts.map parseP) v) + leavesV (thrV false (ts.map parseP) v) = leavesV v := fun hk hs => leaves_sum (ts.map parseP) v (chk_plain v 0 hc hs) hk
  have n1 := mut_of_pure (by simp [cloL, encV_clo]) (leaves16 W _ v (Nat.lt_succ_self _) hcn)
  have n2 := mut_of_pure (by simp [cloL, encV_clo]) (leaves16 W _ (thrV true (ts.map parseP) v) (Nat.lt_succ_self _) (by omega))
  have n3 := mut_of_pure (by simp [cloL, encV_clo]) (leaves16 W _ (thrV false (ts.map parseP) v) (Nat.lt_succ_self _) (by omega))
  have hlv := leaves_cnt v
  generalize thrV true (ts.map parseP) v = a at *
  generalize thrV false (ts.map parseP) v = b at *
  unfold fldA at h91 h90 a1 a0 a11 a00
  generalize ts.map parseP = ps at *
  cases hs : simpleV v with
  | false =>
    rw [hs] at h13
    obtain ⟨h, l⟩ := v
    obtain ⟨ha, la⟩ := a
    obtain ⟨hb, lb⟩ := b
    exact pure_of_mut rfl (mut_of_sfun mixedz call3h rfl (p3f_0 W h ha hb l la lb ts ps fs c) Ha7_z2)
  | true =>
  rw [hs] at h13
  by_cases hk : v.kind = 6
  case neg =>
    have c3 : (!decide (v.kind = 6)) = true := by rw [decide_eq_false hk]; rfl
    obtain ⟨h, l⟩ := v
    obtain ⟨ha, la⟩ := a
    obtain ⟨hb, lb⟩ := b
    exact pure_of_mut rfl (mut_of_sfun mixedz call3h rfl (p3g_0 W h ha hb l la lb ts ps fs c) Ha7_z2)
  have c3 : (!decide (v.kind = 6)) = false := by rw [decide_eq_true hk]; rfl
  have hl2 := hl1 hk hs
  have hsm := hsum hk hs
  have c4 : decide (IntKind.i64.wrap ((leavesV a : Int) + (leavesV b : Int)) = (leavesV v : Int)) = true := by
    have : ((leavesV a : Int) + (leavesV b : Int)) = (leavesV v : Int) := by omega
    rw [this, IntWalk.i64_in _ (by omega)]; exact decide_eq_true rfl
  clear hl1 hsum
  obtain ⟨h, l⟩ := v
  obtain ⟨ha, la⟩ := a
  obtain ⟨hb, lb⟩ := b
  exact pure_of_mut rfl (mut_of_sfun mixedz call3h rfl (p3h_0 W h ha hb l la lb ts ps fs c _ _ _) Ha7_z2)
end
end Go.Ac

