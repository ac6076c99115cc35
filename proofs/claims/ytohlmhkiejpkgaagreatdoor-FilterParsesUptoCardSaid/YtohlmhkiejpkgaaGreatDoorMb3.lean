/- What is proved: contracts of functions of this translation, walked; their plain meaning. No condition beyond those that each theorem names. -/
import Derived.Test.YtohlmhkiejpkgaaGreatDoorMb2
set_option linter.all false
namespace Go.Ac
open Go Go.Proofs
set_option maxRecDepth 10000
set_option maxHeartbeats 1000000
theorem Fe2_z1 {kp f ph σ σ'} (h:MatchK kp f ph σ σ':=by exact ⟨by rfl,(by simp only [P0,rdH,panO,S111,H111,E111,tOK,List.map_cons,List.map_nil,and_true]<;>exact zt),(by simp only [P0,rdH,panO,S111,H111,E111,hOK,List.map_cons,List.map_nil,and_true]<;>exact zh),(by simp only [P0,rdH,panO,S111,H111,E111,liveT,List.map_cons,List.map_nil,and_true]<;>exact zv),(by simp only [P0,rdH,panO,S111,H111,E111,liveH,List.map_cons,List.map_nil,and_true]<;>exact zv)⟩):MatchK kp f ph σ σ':=h
theorem ek111_0 (W:World) (h:JH) (l:List JV) (d t:Int):sfun Tryz.prog W {lp:=true,tl:=[148]} 1000 9 111 [.gp 100000 0,encV (.mk h l),iA d] (rdH t) 100001 [Ans.br true,Ans.br true,Ans.br true,Ans.br true,Ans.br true,Ans.ev 10000000] []=.ok (OutC.pan (AV.ifc 98 (AV.agg [iA 40])) [(100000,GE.box (iA t) St.own)],[Ans.ev 9999993],[(!decide (h.kind=6))=true,(!decide (h.kind=6))=true,(!decide (h.kind=6))=true,(!decide (h.kind=6))=true,(!decide (h.kind=6))=true]):=kr
theorem ek111_1 (W:World) (h:JH) (l:List JV) (d t:Int):sfun Tryz.prog W {lp:=true,tl:=[148]} 1000 9 111 [.gp 100000 0,encV (.mk h l),iA d] (rdH t) 100001 [Ans.br false,Ans.br false,Ans.br false,Ans.br false,Ans.br false,Ans.br true,Ans.br true,Ans.br true,Ans.br true,Ans.br true,Ans.ev 10000000] []=.ok (OutC.pan (AV.ifc 98 (AV.agg [iA 40])) [(100000,GE.box (iA t) St.own)],[Ans.ev 9999998],[decide ((↑(List.map AV.str h.names).length:Int)=0)=true,decide ((↑(List.map AV.str h.names).length:Int)=0)=true,decide ((↑(List.map AV.str h.names).length:Int)=0)=true,decide ((↑(List.map AV.str h.names).length:Int)=0)=true,decide ((↑(List.map AV.str h.names).length:Int)=0)=true,(!decide (h.kind=6))=false,(!decide (h.kind=6))=false,(!decide (h.kind=6))=false,(!decide (h.kind=6))=false,(!decide (h.kind=6))=false]):=kr
theorem ek111_2 (W:World) (h:JH) (l:List JV) (d t:Int):sfun Tryz.prog W {lp:=true,tl:=[148]} 1000 9 111 [.gp 100000 0,encV (.mk h l),iA d] (rdH t) 100001 [Ans.br false,Ans.br false,Ans.br false,Ans.br false,Ans.br false,Ans.br false,Ans.br false,Ans.br false,Ans.br false,Ans.br false,Ans.br true,Ans.ev 10000000] []=.ok (OutC.pan (AV.ifc 98 (AV.agg [iA 40])) [(100000,GE.box (iA t) St.own)],[Ans.ev 9999999],[decide ((↑(encVs l).length:Int)=0)=true,decide ((↑(List.map AV.str h.names).length:Int)=0)=false,decide ((↑(List.map AV.str h.names).length:Int)=0)=false,decide ((↑(List.map AV.str h.names).length:Int)=0)=false,decide ((↑(List.map AV.str h.names).length:Int)=0)=false,decide ((↑(List.map AV.str h.names).length:Int)=0)=false,(!decide (h.kind=6))=false,(!decide (h.kind=6))=false,(!decide (h.kind=6))=false,(!decide (h.kind=6))=false,(!decide (h.kind=6))=false]):=kr
theorem ek111_3 (W:World) (h:JH) (l:List JV) (d t:Int):sfun Tryz.prog W {lp:=true,tl:=[148]} 1000 9 111 [.gp 100000 0,encV (.mk h l),iA d] (rdH t) 100001 [Ans.br false,Ans.br false,Ans.br false,Ans.br false,Ans.br false,Ans.br false,Ans.br false,Ans.br false,Ans.br false,Ans.br false,Ans.br false,Ans.br true,Ans.ev 10000000] []=.ok (OutC.pan (AV.ifc 98 (AV.agg [iA 44])) [(100000,GE.box (iA t) St.own)],[Ans.ev 9999999],[decide (16<d)=true,decide ((↑(encVs l).length:Int)=0)=false,decide ((↑(List.map AV.str h.names).length:Int)=0)=false,decide ((↑(List.map AV.str h.names).length:Int)=0)=false,decide ((↑(List.map AV.str h.names).length:Int)=0)=false,decide ((↑(List.map AV.str h.names).length:Int)=0)=false,decide ((↑(List.map AV.str h.names).length:Int)=0)=false,(!decide (h.kind=6))=false,(!decide (h.kind=6))=false,(!decide (h.kind=6))=false,(!decide (h.kind=6))=false,(!decide (h.kind=6))=false]):=kr
theorem el111_1 (W:World) (h:JH) (l:List JV) (d t m e:Int):sfun Tryz.prog W {lp:=true,tl:=[148]} 1000 9 111 [.gp 100000 0,encV (.mk h l),iA d] (rdH t) 100001 [Ans.br false,Ans.br false,Ans.br false,Ans.br false,Ans.br false,Ans.br false,Ans.br false,Ans.br false,Ans.br false,Ans.br false,Ans.br false,Ans.br false,Ans.ev 10000000,Ans.call (OutC.ret (AV.mp 100002) [(100002,GE.map opsM St.own)]),Ans.ev 10000000,Ans.loopM [] [(100003,7)] (S111 h l d t [] m 0) (XEnd.pan (gaveA e)) P0,Ans.ev 10000000] []=.ok (OutC.pan (AV.ifc 98 (AV.agg [iA e])) [(100000,GE.box AV.top St.own)],[Ans.ev 10000000],[LoopC Tryz.prog W [100000] (nslots Tryz.prog 111) (loopOf Tryz.prog 111 0) {t:=[(0,AV.gp 100000 0),(2,iA d),(4,AV.gp 100001 0),(7,AV.gs 100003 0 0),(8,AV.mp 100002),(38,iA m),(39,iA 0)],h:=[(100000,GE.box (iA t) St.own),(100001,GE.box (encV (JV.mk h l)) St.own),(100002,GE.map opsM St.own),(100003,GE.arr 158 7 [] St.own)]} (XEnd.pan (AV.ifc 98 (AV.agg [iA e]))) {t:=[],h:=[(100000,GE.box AV.top St.own)]},MatchK [100000] [] [(100003,7)] {t:=[(0,AV.gp 100000 0),(2,iA d),(4,AV.gp 100001 0),(7,AV.val (Value.slice none 0 0)),(8,AV.mp 100002),(38,iA (if (↑(encVs l).length:Int)<(↑(List.map AV.str h.names).length:Int) then (↑(encVs l).length:Int) else (↑(List.map AV.str h.names).length:Int))),(39,iA 0)],h:=[(100000,GE.box (iA t) St.own),(100001,GE.box (encV (JV.mk h l)) St.own),(100002,GE.map opsM St.own)]} {t:=[(0,AV.gp 100000 0),(2,iA d),(4,AV.gp 100001 0),(7,AV.gs 100003 0 0),(8,AV.mp 100002),(38,iA m),(39,iA 0)],h:=[(100000,GE.box (iA t) St.own),(100001,GE.box (encV (JV.mk h l)) St.own),(100002,GE.map opsM St.own),(100003,GE.arr 158 7 [] St.own)]},MutC Tryz.prog W 148 [] [] (OutC.ret (AV.mp 100002) [(100002,GE.map opsM St.own)]),decide (16<d)=false,decide ((↑(encVs l).length:Int)=0)=false,decide ((↑(List.map AV.str h.names).length:Int)=0)=false,decide ((↑(List.map AV.str h.names).length:Int)=0)=false,decide ((↑(List.map AV.str h.names).length:Int)=0)=false,decide ((↑(List.map AV.str h.names).length:Int)=0)=false,decide ((↑(List.map AV.str h.names).length:Int)=0)=false,(!decide (h.kind=6))=false,(!decide (h.kind=6))=false,(!decide (h.kind=6))=false,(!decide (h.kind=6))=false,(!decide (h.kind=6))=false]):=kr
theorem em111_0 (W:World) (h:JH) (l:List JV) (d t m:Int) (ts:List AV) (i:Nat) (s:List UInt8):sbodyK Tryz.prog W {lp:=true,pd:=[(16,20)],tl:=[],mq:=true} 111 0 [100000] [] (S111 h l d t ts m i) [Ans.br true,Ans.ev 1,Ans.opt (some (AV.str s)),Ans.ev 1,Ans.opt none,Ans.br true,Ans.ev 10000000]=.ok ((XEnd.pan (AV.ifc 98 (AV.agg [iA 43])),{t:=[],h:=[(100000,GE.box (iA t) St.own),(100001,GE.box (encV (JV.mk h l)) St.own),(100002,GE.map opsM St.own),(100003,GE.arr 158 7 ts St.own),(100004,GE.box (AV.agg [AV.val Value.nilFunc]) St.own)]}),[Ans.ev 9999999],[decide (t=64)=true,lookT opsM s=none,(List.map AV.str h.names)[(i:Int).toNat]?=some (AV.str s),decide ((i:Int)<m)=true]):=kr
theorem en111_0 (W:World) (h:JH) (l:List JV) (d t m:Int) (ts:List AV) (i:Nat) (s:List UInt8) (kf:Nat) (ys:List AV):sbodyK Tryz.prog W {lp:=true,pd:=[(16,20)],tl:=[],mq:=true} 111 0 [100000] [] (S111 h l d t ts m i) [Ans.br true,Ans.ev 1,Ans.opt (some (AV.str s)),Ans.ev 1,Ans.opt (some (AV.agg [AV.fn (Fn.func kf) [] ys])),Ans.br true,Ans.ev 10000000]=.ok ((XEnd.pan (AV.ifc 98 (AV.agg [iA 43])),{t:=[],h:=[(100000,GE.box (iA t) St.own),(100001,GE.box (encV (JV.mk h l)) St.own),(100002,GE.map opsM St.own),(100003,GE.arr 158 7 ts St.own),(100004,GE.box (AV.agg [AV.fn (Fn.func kf) [] ys]) St.own)]}),[Ans.ev 9999999],[decide (t=64)=true,lookT opsM s=some (AV.agg [AV.fn (Fn.func kf) [] ys]),(List.map AV.str h.names)[(i:Int).toNat]?=some (AV.str s),decide ((i:Int)<m)=true]):=kr
theorem ep111_0 (W:World) (h:JH) (l:List JV) (d t m:Int) (ts:List AV) (i:Nat) (s:List UInt8) (kf:Nat):sbodyK Tryz.prog W {lp:=true,pd:=[(16,20)],tl:=[],mq:=true} 111 0 [100000] [] (S111 h l d t ts m i) [Ans.br true,Ans.ev 1,Ans.opt (some (AV.str s)),Ans.ev 1,Ans.opt (some (AV.agg [AV.val (Value.func (Fn.func kf) #[] #[])])),Ans.br true,Ans.ev 10000000]=.ok ((XEnd.pan (AV.ifc 98 (AV.agg [iA 43])),{t:=[],h:=[(100000,GE.box (iA t) St.own),(100001,GE.box (encV (JV.mk h l)) St.own),(100002,GE.map opsM St.own),(100003,GE.arr 158 7 ts St.own),(100004,GE.box (AV.agg [AV.val (Value.func (Fn.func kf) #[] #[])]) St.own)]}),[Ans.ev 9999999],[decide (t=64)=true,lookT opsM s=some (AV.agg [AV.val (Value.func (Fn.func kf) #[] #[])]),(List.map AV.str h.names)[(i:Int).toNat]?=some (AV.str s),decide ((i:Int)<m)=true]):=kr
theorem eo111_0 (W:World) (h:JH) (l:List JV) (d t m:Int) (ts:List AV) (i:Nat) (s:List UInt8):sbodyK Tryz.prog W {lp:=true,pd:=[(16,20)],tl:=[],mq:=true} 111 0 [100000] [] (S111 h l d t ts m i) [Ans.br true,Ans.ev 1,Ans.opt (some (AV.str s)),Ans.ev 1,Ans.opt none,Ans.br false,Ans.ev 10000000]=.ok ((XEnd.pan (AV.ifc 98 (AV.agg [iA 41])),{t:=[],h:=[(100000,GE.box (iA t) St.own),(100001,GE.box (encV (JV.mk h l)) St.own),(100002,GE.map opsM St.own),(100003,GE.arr 158 7 ts St.own),(100004,GE.box (AV.agg [AV.val Value.nilFunc]) St.own)]}),[Ans.ev 9999998],[decide (t=64)=false,lookT opsM s=none,(List.map AV.str h.names)[(i:Int).toNat]?=some (AV.str s),decide ((i:Int)<m)=true]):=kr
theorem er111_sIn_0 (W:World) (h:JH) (l:List JV) (d t m e:Int) (ts:List AV) (i:Nat) (h2:JH) (l2:List JV):sbodyK Tryz.prog W {lp:=true,pd:=[(16,20)],tl:=[208]} 111 0 [100000] [] (S111 h l d t ts m i) [Ans.br true,Ans.ev 1,Ans.opt (some (AV.str [36,105,110])),Ans.br false,Ans.ev 2,Ans.opt (some (AV.str [36,105,110])),Ans.ev 1,Ans.opt (some (encV (JV.mk h2 l2))),Ans.ev 1,Ans.opt (some (encV (JV.mk h2 l2))),Ans.ev 10000000,Ans.call (panO e),Ans.ev 10000000]=.ok ((XEnd.pan (AV.ifc 98 (AV.agg [iA e])),{t:=[],h:=[(100000,GE.box AV.top St.own),(100001,GE.box (encV (JV.mk h l)) St.own),(100002,GE.map opsM St.own),(100003,GE.arr 158 7 ts St.own),(100004,GE.box (AV.agg [AV.fn (Fn.func 208) [] [(bA true).ip 0]]) St.own)]}),[Ans.ev 10000000],[MutC Tryz.prog W 208 [AV.gp 100000 0,encV (JV.mk h2 l2),iA d,(bA true).ip 0] [(100000,GE.box (iA (IntKind.i64.wrap (t+1))) St.own)] (OutC.pan (AV.ifc 98 (AV.agg [iA e])) [(100000,GE.box AV.top St.own)]),(encVs l)[(i:Int).toNat]?=some (encV (JV.mk h2 l2)),(encVs l)[(i:Int).toNat]?=some (encV (JV.mk h2 l2)),(List.map AV.str h.names)[(i:Int).toNat]?=some (AV.str [36,105,110]),decide (t=64)=false,(List.map AV.str h.names)[(i:Int).toNat]?=some (AV.str [36,105,110]),decide ((i:Int)<m)=true]):=kr
theorem er111_sNin_0 (W:World) (h:JH) (l:List JV) (d t m e:Int) (ts:List AV) (i:Nat) (h2:JH) (l2:List JV):sbodyK Tryz.prog W {lp:=true,pd:=[(16,20)],tl:=[208]} 111 0 [100000] [] (S111 h l d t ts m i) [Ans.br true,Ans.ev 1,Ans.opt (some (AV.str [36,110,105,110])),Ans.br false,Ans.ev 2,Ans.opt (some (AV.str [36,110,105,110])),Ans.ev 1,Ans.opt (some (encV (JV.mk h2 l2))),Ans.ev 1,Ans.opt (some (encV (JV.mk h2 l2))),Ans.ev 10000000,Ans.call (panO e),Ans.ev 10000000]=.ok ((XEnd.pan (AV.ifc 98 (AV.agg [iA e])),{t:=[],h:=[(100000,GE.box AV.top St.own),(100001,GE.box (encV (JV.mk h l)) St.own),(100002,GE.map opsM St.own),(100003,GE.arr 158 7 ts St.own),(100004,GE.box (AV.agg [AV.fn (Fn.func 208) [] [(bA false).ip 0]]) St.own)]}),[Ans.ev 10000000],[MutC Tryz.prog W 208 [AV.gp 100000 0,encV (JV.mk h2 l2),iA d,(bA false).ip 0] [(100000,GE.box (iA (IntKind.i64.wrap (t+1))) St.own)] (OutC.pan (AV.ifc 98 (AV.agg [iA e])) [(100000,GE.box AV.top St.own)]),(encVs l)[(i:Int).toNat]?=some (encV (JV.mk h2 l2)),(encVs l)[(i:Int).toNat]?=some (encV (JV.mk h2 l2)),(List.map AV.str h.names)[(i:Int).toNat]?=some (AV.str [36,110,105,110]),decide (t=64)=false,(List.map AV.str h.names)[(i:Int).toNat]?=some (AV.str [36,110,105,110]),decide ((i:Int)<m)=true]):=kr
theorem er111_sAll_0 (W:World) (h:JH) (l:List JV) (d t m e:Int) (ts:List AV) (i:Nat) (h2:JH) (l2:List JV):sbodyK Tryz.prog W {lp:=true,pd:=[(16,20)],tl:=[180]} 111 0 [100000] [] (S111 h l d t ts m i) [Ans.br true,Ans.ev 1,Ans.opt (some (AV.str [36,97,108,108])),Ans.br false,Ans.ev 2,Ans.opt (some (AV.str [36,97,108,108])),Ans.ev 1,Ans.opt (some (encV (JV.mk h2 l2))),Ans.ev 1,Ans.opt (some (encV (JV.mk h2 l2))),Ans.ev 10000000,Ans.call (panO e),Ans.ev 10000000]=.ok ((XEnd.pan (AV.ifc 98 (AV.agg [iA e])),{t:=[],h:=[(100000,GE.box AV.top St.own),(100001,GE.box (encV (JV.mk h l)) St.own),(100002,GE.map opsM St.own),(100003,GE.arr 158 7 ts St.own),(100004,GE.box (AV.agg [AV.val (Value.func (Fn.func 180) #[] #[])]) St.own)]}),[Ans.ev 10000000],[MutC Tryz.prog W 180 [AV.gp 100000 0,encV (JV.mk h2 l2),iA d] [(100000,GE.box (iA (IntKind.i64.wrap (t+1))) St.own)] (OutC.pan (AV.ifc 98 (AV.agg [iA e])) [(100000,GE.box AV.top St.own)]),(encVs l)[(i:Int).toNat]?=some (encV (JV.mk h2 l2)),(encVs l)[(i:Int).toNat]?=some (encV (JV.mk h2 l2)),(List.map AV.str h.names)[(i:Int).toNat]?=some (AV.str [36,97,108,108]),decide (t=64)=false,(List.map AV.str h.names)[(i:Int).toNat]?=some (AV.str [36,97,108,108]),decide ((i:Int)<m)=true]):=kr
theorem er111_sExists_0 (W:World) (h:JH) (l:List JV) (d t m e:Int) (ts:List AV) (i:Nat) (h2:JH) (l2:List JV):sbodyK Tryz.prog W {lp:=true,pd:=[(16,20)],tl:=[181]} 111 0 [100000] [] (S111 h l d t ts m i) [Ans.br true,Ans.ev 1,Ans.opt (some (AV.str [36,101,120,105,115,116,115])),Ans.br false,Ans.ev 2,Ans.opt (some (AV.str [36,101,120,105,115,116,115])),Ans.ev 1,Ans.opt (some (encV (JV.mk h2 l2))),Ans.ev 1,Ans.opt (some (encV (JV.mk h2 l2))),Ans.ev 10000000,Ans.call (panO e),Ans.ev 10000000]=.ok ((XEnd.pan (AV.ifc 98 (AV.agg [iA e])),{t:=[],h:=[(100000,GE.box AV.top St.own),(100001,GE.box (encV (JV.mk h l)) St.own),(100002,GE.map opsM St.own),(100003,GE.arr 158 7 ts St.own),(100004,GE.box (AV.agg [AV.val (Value.func (Fn.func 181) #[] #[])]) St.own)]}),[Ans.ev 10000000],[MutC Tryz.prog W 181 [AV.gp 100000 0,encV (JV.mk h2 l2),iA d] [(100000,GE.box (iA (IntKind.i64.wrap (t+1))) St.own)] (OutC.pan (AV.ifc 98 (AV.agg [iA e])) [(100000,GE.box AV.top St.own)]),(encVs l)[(i:Int).toNat]?=some (encV (JV.mk h2 l2)),(encVs l)[(i:Int).toNat]?=some (encV (JV.mk h2 l2)),(List.map AV.str h.names)[(i:Int).toNat]?=some (AV.str [36,101,120,105,115,116,115]),decide (t=64)=false,(List.map AV.str h.names)[(i:Int).toNat]?=some (AV.str [36,101,120,105,115,116,115]),decide ((i:Int)<m)=true]):=kr
theorem er111_sType_0 (W:World) (h:JH) (l:List JV) (d t m e:Int) (ts:List AV) (i:Nat) (h2:JH) (l2:List JV):sbodyK Tryz.prog W {lp:=true,pd:=[(16,20)],tl:=[182]} 111 0 [100000] [] (S111 h l d t ts m i) [Ans.br true,Ans.ev 1,Ans.opt (some (AV.str [36,116,121,112,101])),Ans.br false,Ans.ev 2,Ans.opt (some (AV.str [36,116,121,112,101])),Ans.ev 1,Ans.opt (some (encV (JV.mk h2 l2))),Ans.ev 1,Ans.opt (some (encV (JV.mk h2 l2))),Ans.ev 10000000,Ans.call (panO e),Ans.ev 10000000]=.ok ((XEnd.pan (AV.ifc 98 (AV.agg [iA e])),{t:=[],h:=[(100000,GE.box AV.top St.own),(100001,GE.box (encV (JV.mk h l)) St.own),(100002,GE.map opsM St.own),(100003,GE.arr 158 7 ts St.own),(100004,GE.box (AV.agg [AV.val (Value.func (Fn.func 182) #[] #[])]) St.own)]}),[Ans.ev 10000000],[MutC Tryz.prog W 182 [AV.gp 100000 0,encV (JV.mk h2 l2),iA d] [(100000,GE.box (iA (IntKind.i64.wrap (t+1))) St.own)] (OutC.pan (AV.ifc 98 (AV.agg [iA e])) [(100000,GE.box AV.top St.own)]),(encVs l)[(i:Int).toNat]?=some (encV (JV.mk h2 l2)),(encVs l)[(i:Int).toNat]?=some (encV (JV.mk h2 l2)),(List.map AV.str h.names)[(i:Int).toNat]?=some (AV.str [36,116,121,112,101]),decide (t=64)=false,(List.map AV.str h.names)[(i:Int).toNat]?=some (AV.str [36,116,121,112,101]),decide ((i:Int)<m)=true]):=kr
theorem er111_sSize_0 (W:World) (h:JH) (l:List JV) (d t m e:Int) (ts:List AV) (i:Nat) (h2:JH) (l2:List JV):sbodyK Tryz.prog W {lp:=true,pd:=[(16,20)],tl:=[183]} 111 0 [100000] [] (S111 h l d t ts m i) [Ans.br true,Ans.ev 1,Ans.opt (some (AV.str [36,115,105,122,101])),Ans.br false,Ans.ev 2,Ans.opt (some (AV.str [36,115,105,122,101])),Ans.ev 1,Ans.opt (some (encV (JV.mk h2 l2))),Ans.ev 1,Ans.opt (some (encV (JV.mk h2 l2))),Ans.ev 10000000,Ans.call (panO e),Ans.ev 10000000]=.ok ((XEnd.pan (AV.ifc 98 (AV.agg [iA e])),{t:=[],h:=[(100000,GE.box AV.top St.own),(100001,GE.box (encV (JV.mk h l)) St.own),(100002,GE.map opsM St.own),(100003,GE.arr 158 7 ts St.own),(100004,GE.box (AV.agg [AV.val (Value.func (Fn.func 183) #[] #[])]) St.own)]}),[Ans.ev 10000000],[MutC Tryz.prog W 183 [AV.gp 100000 0,encV (JV.mk h2 l2),iA d] [(100000,GE.box (iA (IntKind.i64.wrap (t+1))) St.own)] (OutC.pan (AV.ifc 98 (AV.agg [iA e])) [(100000,GE.box AV.top St.own)]),(encVs l)[(i:Int).toNat]?=some (encV (JV.mk h2 l2)),(encVs l)[(i:Int).toNat]?=some (encV (JV.mk h2 l2)),(List.map AV.str h.names)[(i:Int).toNat]?=some (AV.str [36,115,105,122,101]),decide (t=64)=false,(List.map AV.str h.names)[(i:Int).toNat]?=some (AV.str [36,115,105,122,101]),decide ((i:Int)<m)=true]):=kr
theorem er111_sMod_0 (W:World) (h:JH) (l:List JV) (d t m e:Int) (ts:List AV) (i:Nat) (h2:JH) (l2:List JV):sbodyK Tryz.prog W {lp:=true,pd:=[(16,20)],tl:=[184]} 111 0 [100000] [] (S111 h l d t ts m i) [Ans.br true,Ans.ev 1,Ans.opt (some (AV.str [36,109,111,100])),Ans.br false,Ans.ev 2,Ans.opt (some (AV.str [36,109,111,100])),Ans.ev 1,Ans.opt (some (encV (JV.mk h2 l2))),Ans.ev 1,Ans.opt (some (encV (JV.mk h2 l2))),Ans.ev 10000000,Ans.call (panO e),Ans.ev 10000000]=.ok ((XEnd.pan (AV.ifc 98 (AV.agg [iA e])),{t:=[],h:=[(100000,GE.box AV.top St.own),(100001,GE.box (encV (JV.mk h l)) St.own),(100002,GE.map opsM St.own),(100003,GE.arr 158 7 ts St.own),(100004,GE.box (AV.agg [AV.val (Value.func (Fn.func 184) #[] #[])]) St.own)]}),[Ans.ev 10000000],[MutC Tryz.prog W 184 [AV.gp 100000 0,encV (JV.mk h2 l2),iA d] [(100000,GE.box (iA (IntKind.i64.wrap (t+1))) St.own)] (OutC.pan (AV.ifc 98 (AV.agg [iA e])) [(100000,GE.box AV.top St.own)]),(encVs l)[(i:Int).toNat]?=some (encV (JV.mk h2 l2)),(encVs l)[(i:Int).toNat]?=some (encV (JV.mk h2 l2)),(List.map AV.str h.names)[(i:Int).toNat]?=some (AV.str [36,109,111,100]),decide (t=64)=false,(List.map AV.str h.names)[(i:Int).toNat]?=some (AV.str [36,109,111,100]),decide ((i:Int)<m)=true]):=kr
theorem er111_sNot_0 (W:World) (h:JH) (l:List JV) (d t m e:Int) (ts:List AV) (i:Nat) (h2:JH) (l2:List JV):sbodyK Tryz.prog W {lp:=true,pd:=[(16,20)],tl:=[185]} 111 0 [100000] [] (S111 h l d t ts m i) [Ans.br true,Ans.ev 1,Ans.opt (some (AV.str [36,110,111,116])),Ans.br false,Ans.ev 2,Ans.opt (some (AV.str [36,110,111,116])),Ans.ev 1,Ans.opt (some (encV (JV.mk h2 l2))),Ans.ev 1,Ans.opt (some (encV (JV.mk h2 l2))),Ans.ev 10000000,Ans.call (panO e),Ans.ev 10000000]=.ok ((XEnd.pan (AV.ifc 98 (AV.agg [iA e])),{t:=[],h:=[(100000,GE.box AV.top St.own),(100001,GE.box (encV (JV.mk h l)) St.own),(100002,GE.map opsM St.own),(100003,GE.arr 158 7 ts St.own),(100004,GE.box (AV.agg [AV.val (Value.func (Fn.func 185) #[] #[])]) St.own)]}),[Ans.ev 10000000],[MutC Tryz.prog W 185 [AV.gp 100000 0,encV (JV.mk h2 l2),iA d] [(100000,GE.box (iA (IntKind.i64.wrap (t+1))) St.own)] (OutC.pan (AV.ifc 98 (AV.agg [iA e])) [(100000,GE.box AV.top St.own)]),(encVs l)[(i:Int).toNat]?=some (encV (JV.mk h2 l2)),(encVs l)[(i:Int).toNat]?=some (encV (JV.mk h2 l2)),(List.map AV.str h.names)[(i:Int).toNat]?=some (AV.str [36,110,111,116]),decide (t=64)=false,(List.map AV.str h.names)[(i:Int).toNat]?=some (AV.str [36,110,111,116]),decide ((i:Int)<m)=true]):=kr
theorem er111_sElem_0 (W:World) (h:JH) (l:List JV) (d t m e:Int) (ts:List AV) (i:Nat) (h2:JH) (l2:List JV):sbodyK Tryz.prog W {lp:=true,pd:=[(16,20)],tl:=[186]} 111 0 [100000] [] (S111 h l d t ts m i) [Ans.br true,Ans.ev 1,Ans.opt (some (AV.str [36,101,108,101,109,77,97,116,99,104])),Ans.br false,Ans.ev 2,Ans.opt (some (AV.str [36,101,108,101,109,77,97,116,99,104])),Ans.ev 1,Ans.opt (some (encV (JV.mk h2 l2))),Ans.ev 1,Ans.opt (some (encV (JV.mk h2 l2))),Ans.ev 10000000,Ans.call (panO e),Ans.ev 10000000]=.ok ((XEnd.pan (AV.ifc 98 (AV.agg [iA e])),{t:=[],h:=[(100000,GE.box AV.top St.own),(100001,GE.box (encV (JV.mk h l)) St.own),(100002,GE.map opsM St.own),(100003,GE.arr 158 7 ts St.own),(100004,GE.box (AV.agg [AV.val (Value.func (Fn.func 186) #[] #[])]) St.own)]}),[Ans.ev 10000000],[MutC Tryz.prog W 186 [AV.gp 100000 0,encV (JV.mk h2 l2),iA d] [(100000,GE.box (iA (IntKind.i64.wrap (t+1))) St.own)] (OutC.pan (AV.ifc 98 (AV.agg [iA e])) [(100000,GE.box AV.top St.own)]),(encVs l)[(i:Int).toNat]?=some (encV (JV.mk h2 l2)),(encVs l)[(i:Int).toNat]?=some (encV (JV.mk h2 l2)),(List.map AV.str h.names)[(i:Int).toNat]?=some (AV.str [36,101,108,101,109,77,97,116,99,104]),decide (t=64)=false,(List.map AV.str h.names)[(i:Int).toNat]?=some (AV.str [36,101,108,101,109,77,97,116,99,104]),decide ((i:Int)<m)=true]):=kr
theorem Fe2_m1 {kp f ph σ σ'} (h:MatchK kp f ph σ σ':=by exact Fe2_z1):MatchK kp f ph σ σ':=h
theorem Fe2_m4 {cs} (h:Holds cs:=by simp only [Holds,and_true]<;>and_intros<;>first|exact zd|(exact hk;done)|(exact hb5;done)|exact Fe2_m1):Holds cs:=h
def TestE (W:World) (n:Nat):Prop:=∀ (v:JV) (d t e:Int),chkT n v d t=.error e->sizeV v<n->cntV v<=2 ^ 30->nmV v->0<=d->d<=17->0<=t->t<=64->MutC Tryz.prog W 111 [.gp 100000 0,encV v,iA d] (rdH t) (panO e)
def QueryE (W:World) (n:Nat):Prop:=∀ (v:JV) (d t e:Int),chkQ n v d t=.error e->sizeV v<n->cntV v<=2 ^ 30->nmV v->0<=d->d<=17->0<=t->t<=64->MutC Tryz.prog W 63 [.gp 100000 0,encV v,iA d] (rdH t) (panO e)
theorem lookT_no {s:List UInt8} (h:isOp s=false):lookT opsM s=none:=by
 have hn:∀ x ∈ [sEq,sNe,sGt,sGte,sLt,sLte,sIn,sNin,sAll,sExists,sType,sSize,sMod,sNot,sElem],¬ s=x:=by
  intro x hx e
  subst e
  rw [show isOp s=true from List.contains_iff_mem.2 hx] at h
  cases h
 unfold opsM
 simp only [lookT]
 rw [if_neg (show ¬ s=[36,101,113] from hn sEq (by decide)),if_neg (show ¬ s=[36,110,101] from hn sNe (by decide)),if_neg (show ¬ s=[36,103,116] from hn sGt (by decide)),if_neg (show ¬ s=[36,103,116,101] from hn sGte (by decide)),if_neg (show ¬ s=[36,108,116] from hn sLt (by decide)),if_neg (show ¬ s=[36,108,116,101] from hn sLte (by decide)),if_neg (show ¬ s=[36,105,110] from hn sIn (by decide)),if_neg (show ¬ s=[36,110,105,110] from hn sNin (by decide)),if_neg (show ¬ s=[36,97,108,108] from hn sAll (by decide)),if_neg (show ¬ s=[36,101,120,105,115,116,115] from hn sExists (by decide)),if_neg (show ¬ s=[36,116,121,112,101] from hn sType (by decide)),if_neg (show ¬ s=[36,115,105,122,101] from hn sSize (by decide)),if_neg (show ¬ s=[36,109,111,100] from hn sMod (by decide)),if_neg (show ¬ s=[36,110,111,116] from hn sNot (by decide)),if_neg (show ¬ s=[36,101,108,101,109,77,97,116,99,104] from hn sElem (by decide))]
theorem lookT_yes {s:List UInt8} (h:isOp s=true):(∃ kf ys,lookT opsM s=some (.agg [.fn (.func kf) [] ys]))\/∃ kf,lookT opsM s=some (.agg [.val (.func (.func kf) #[] #[])]):=by
 rcases op_cases h with rfl|rfl|rfl|rfl|rfl|rfl|rfl|rfl|rfl|rfl|rfl|rfl|rfl|rfl|rfl
 all_goals first|exact .inr ⟨_,by rfl⟩|exact .inl ⟨_,_,by rfl⟩
section
variable (W:World) (h:JH) (l:List JV) (d t m:Int) (ts:List AV) (i:Nat)
theorem stE_many (s:List UInt8) (hi:(i:Int)<m) (ht:t=64) (hx:h.names[i]?=some s):BodyC Tryz.prog W [100000] (nslots Tryz.prog 111) (loopOf Tryz.prog 111 0) (S111 h l d t ts m i) (.pan (gaveA 43)) P0:=by
 have hget:(List.map AV.str h.names)[((i:Int)).toNat]?=some (AV.str s):=by rw [Int.toNat_natCast];exact strs_get hx
 have hb1:decide (t=64)=true:=decide_eq_true ht
 cases ho:isOp s with
 | false =>
  have hk:=lookT_no ho
  exact body_of_sbodyK mixedz (em111_0 W h l d t m ts i s) Fe2_m4 [] [] Fe2_m1
 | true =>
  rcases lookT_yes ho with ⟨kf,ys,hk⟩|⟨kf,hk⟩
  ·exact body_of_sbodyK mixedz (en111_0 W h l d t m ts i s kf ys) Fe2_m4 [] [] Fe2_m1
  ·exact body_of_sbodyK mixedz (ep111_0 W h l d t m ts i s kf) Fe2_m4 [] [] Fe2_m1
theorem stE_op (s:List UInt8) (hi:(i:Int)<m) (ht:t<64) (ho:isOp s=false) (hx:h.names[i]?=some s):BodyC Tryz.prog W [100000] (nslots Tryz.prog 111) (loopOf Tryz.prog 111 0) (S111 h l d t ts m i) (.pan (gaveA 41)) P0:=by
 have hget:(List.map AV.str h.names)[((i:Int)).toNat]?=some (AV.str s):=by rw [Int.toNat_natCast];exact strs_get hx
 have hb1:decide (t=64)=false:=decide_eq_false (by omega)
 have hk:=lookT_no ho
 exact body_of_sbodyK mixedz (eo111_0 W h l d t m ts i s) Fe2_m4 [] [] Fe2_m1
theorem stE_sIn (e:Int) (x:JV) (hi:(i:Int)<m) (ht:0<=t/\t<64) (hx:h.names[i]?=some sIn) (hv:l[i]?=some x) (hM:MkE W x d (t+1) 208 [.ip (bA true) 0] e):BodyC Tryz.prog W [100000] (nslots Tryz.prog 111) (loopOf Tryz.prog 111 0) (S111 h l d t ts m i) (.pan (gaveA e)) P0:=by
 have hwt:IntKind.i64.wrap (t+1)=t+1:=IntWalk.i64_in _ (by omega)
 have hc:=hM
 unfold MkE at hc
 rw [<-hwt] at hc
 obtain ⟨h2,l2⟩:=x
 have hget:(List.map AV.str h.names)[((i:Int)).toNat]?=some (AV.str [36,105,110]):=by rw [Int.toNat_natCast];exact strs_get hx
 have hget2:(encVs l)[((i:Int)).toNat]?=some (encV (.mk h2 l2)):=by rw [Int.toNat_natCast];exact encVs_get hv
 have hb1:decide (t=64)=false:=decide_eq_false (by omega)
 exact body_of_sbodyK mixedz (er111_sIn_0 W h l d t m e ts i h2 l2) Fe2_m4 [] [] Fe2_m1
theorem stE_sNin (e:Int) (x:JV) (hi:(i:Int)<m) (ht:0<=t/\t<64) (hx:h.names[i]?=some sNin) (hv:l[i]?=some x) (hM:MkE W x d (t+1) 208 [.ip (bA false) 0] e):BodyC Tryz.prog W [100000] (nslots Tryz.prog 111) (loopOf Tryz.prog 111 0) (S111 h l d t ts m i) (.pan (gaveA e)) P0:=by
 have hwt:IntKind.i64.wrap (t+1)=t+1:=IntWalk.i64_in _ (by omega)
 have hc:=hM
 unfold MkE at hc
 rw [<-hwt] at hc
 obtain ⟨h2,l2⟩:=x
 have hget:(List.map AV.str h.names)[((i:Int)).toNat]?=some (AV.str [36,110,105,110]):=by rw [Int.toNat_natCast];exact strs_get hx
 have hget2:(encVs l)[((i:Int)).toNat]?=some (encV (.mk h2 l2)):=by rw [Int.toNat_natCast];exact encVs_get hv
 have hb1:decide (t=64)=false:=decide_eq_false (by omega)
 exact body_of_sbodyK mixedz (er111_sNin_0 W h l d t m e ts i h2 l2) Fe2_m4 [] [] Fe2_m1
theorem stE_sAll (e:Int) (x:JV) (hi:(i:Int)<m) (ht:0<=t/\t<64) (hx:h.names[i]?=some sAll) (hv:l[i]?=some x) (hM:MkE W x d (t+1) 180 [] e):BodyC Tryz.prog W [100000] (nslots Tryz.prog 111) (loopOf Tryz.prog 111 0) (S111 h l d t ts m i) (.pan (gaveA e)) P0:=by
 have hwt:IntKind.i64.wrap (t+1)=t+1:=IntWalk.i64_in _ (by omega)
 have hc:=hM
 unfold MkE at hc
 rw [<-hwt] at hc
 obtain ⟨h2,l2⟩:=x
 have hget:(List.map AV.str h.names)[((i:Int)).toNat]?=some (AV.str [36,97,108,108]):=by rw [Int.toNat_natCast];exact strs_get hx
 have hget2:(encVs l)[((i:Int)).toNat]?=some (encV (.mk h2 l2)):=by rw [Int.toNat_natCast];exact encVs_get hv
 have hb1:decide (t=64)=false:=decide_eq_false (by omega)
 exact body_of_sbodyK mixedz (er111_sAll_0 W h l d t m e ts i h2 l2) Fe2_m4 [] [] Fe2_m1
theorem stE_sExists (e:Int) (x:JV) (hi:(i:Int)<m) (ht:0<=t/\t<64) (hx:h.names[i]?=some sExists) (hv:l[i]?=some x) (hM:MkE W x d (t+1) 181 [] e):BodyC Tryz.prog W [100000] (nslots Tryz.prog 111) (loopOf Tryz.prog 111 0) (S111 h l d t ts m i) (.pan (gaveA e)) P0:=by
 have hwt:IntKind.i64.wrap (t+1)=t+1:=IntWalk.i64_in _ (by omega)
 have hc:=hM
 unfold MkE at hc
 rw [<-hwt] at hc
 obtain ⟨h2,l2⟩:=x
 have hget:(List.map AV.str h.names)[((i:Int)).toNat]?=some (AV.str [36,101,120,105,115,116,115]):=by rw [Int.toNat_natCast];exact strs_get hx
 have hget2:(encVs l)[((i:Int)).toNat]?=some (encV (.mk h2 l2)):=by rw [Int.toNat_natCast];exact encVs_get hv
 have hb1:decide (t=64)=false:=decide_eq_false (by omega)
 exact body_of_sbodyK mixedz (er111_sExists_0 W h l d t m e ts i h2 l2) Fe2_m4 [] [] Fe2_m1
theorem stE_sType (e:Int) (x:JV) (hi:(i:Int)<m) (ht:0<=t/\t<64) (hx:h.names[i]?=some sType) (hv:l[i]?=some x) (hM:MkE W x d (t+1) 182 [] e):BodyC Tryz.prog W [100000] (nslots Tryz.prog 111) (loopOf Tryz.prog 111 0) (S111 h l d t ts m i) (.pan (gaveA e)) P0:=by
 have hwt:IntKind.i64.wrap (t+1)=t+1:=IntWalk.i64_in _ (by omega)
 have hc:=hM
 unfold MkE at hc
 rw [<-hwt] at hc
 obtain ⟨h2,l2⟩:=x
 have hget:(List.map AV.str h.names)[((i:Int)).toNat]?=some (AV.str [36,116,121,112,101]):=by rw [Int.toNat_natCast];exact strs_get hx
 have hget2:(encVs l)[((i:Int)).toNat]?=some (encV (.mk h2 l2)):=by rw [Int.toNat_natCast];exact encVs_get hv
 have hb1:decide (t=64)=false:=decide_eq_false (by omega)
 exact body_of_sbodyK mixedz (er111_sType_0 W h l d t m e ts i h2 l2) Fe2_m4 [] [] Fe2_m1
theorem stE_sSize (e:Int) (x:JV) (hi:(i:Int)<m) (ht:0<=t/\t<64) (hx:h.names[i]?=some sSize) (hv:l[i]?=some x) (hM:MkE W x d (t+1) 183 [] e):BodyC Tryz.prog W [100000] (nslots Tryz.prog 111) (loopOf Tryz.prog 111 0) (S111 h l d t ts m i) (.pan (gaveA e)) P0:=by
 have hwt:IntKind.i64.wrap (t+1)=t+1:=IntWalk.i64_in _ (by omega)
 have hc:=hM
 unfold MkE at hc
 rw [<-hwt] at hc
 obtain ⟨h2,l2⟩:=x
 have hget:(List.map AV.str h.names)[((i:Int)).toNat]?=some (AV.str [36,115,105,122,101]):=by rw [Int.toNat_natCast];exact strs_get hx
 have hget2:(encVs l)[((i:Int)).toNat]?=some (encV (.mk h2 l2)):=by rw [Int.toNat_natCast];exact encVs_get hv
 have hb1:decide (t=64)=false:=decide_eq_false (by omega)
 exact body_of_sbodyK mixedz (er111_sSize_0 W h l d t m e ts i h2 l2) Fe2_m4 [] [] Fe2_m1
theorem stE_sMod (e:Int) (x:JV) (hi:(i:Int)<m) (ht:0<=t/\t<64) (hx:h.names[i]?=some sMod) (hv:l[i]?=some x) (hM:MkE W x d (t+1) 184 [] e):BodyC Tryz.prog W [100000] (nslots Tryz.prog 111) (loopOf Tryz.prog 111 0) (S111 h l d t ts m i) (.pan (gaveA e)) P0:=by
 have hwt:IntKind.i64.wrap (t+1)=t+1:=IntWalk.i64_in _ (by omega)
 have hc:=hM
 unfold MkE at hc
 rw [<-hwt] at hc
 obtain ⟨h2,l2⟩:=x
 have hget:(List.map AV.str h.names)[((i:Int)).toNat]?=some (AV.str [36,109,111,100]):=by rw [Int.toNat_natCast];exact strs_get hx
 have hget2:(encVs l)[((i:Int)).toNat]?=some (encV (.mk h2 l2)):=by rw [Int.toNat_natCast];exact encVs_get hv
 have hb1:decide (t=64)=false:=decide_eq_false (by omega)
 exact body_of_sbodyK mixedz (er111_sMod_0 W h l d t m e ts i h2 l2) Fe2_m4 [] [] Fe2_m1
theorem stE_sNot (e:Int) (x:JV) (hi:(i:Int)<m) (ht:0<=t/\t<64) (hx:h.names[i]?=some sNot) (hv:l[i]?=some x) (hM:MkE W x d (t+1) 185 [] e):BodyC Tryz.prog W [100000] (nslots Tryz.prog 111) (loopOf Tryz.prog 111 0) (S111 h l d t ts m i) (.pan (gaveA e)) P0:=by
 have hwt:IntKind.i64.wrap (t+1)=t+1:=IntWalk.i64_in _ (by omega)
 have hc:=hM
 unfold MkE at hc
 rw [<-hwt] at hc
 obtain ⟨h2,l2⟩:=x
 have hget:(List.map AV.str h.names)[((i:Int)).toNat]?=some (AV.str [36,110,111,116]):=by rw [Int.toNat_natCast];exact strs_get hx
 have hget2:(encVs l)[((i:Int)).toNat]?=some (encV (.mk h2 l2)):=by rw [Int.toNat_natCast];exact encVs_get hv
 have hb1:decide (t=64)=false:=decide_eq_false (by omega)
 exact body_of_sbodyK mixedz (er111_sNot_0 W h l d t m e ts i h2 l2) Fe2_m4 [] [] Fe2_m1
theorem stE_sElem (e:Int) (x:JV) (hi:(i:Int)<m) (ht:0<=t/\t<64) (hx:h.names[i]?=some sElem) (hv:l[i]?=some x) (hM:MkE W x d (t+1) 186 [] e):BodyC Tryz.prog W [100000] (nslots Tryz.prog 111) (loopOf Tryz.prog 111 0) (S111 h l d t ts m i) (.pan (gaveA e)) P0:=by
 have hwt:IntKind.i64.wrap (t+1)=t+1:=IntWalk.i64_in _ (by omega)
 have hc:=hM
 unfold MkE at hc
 rw [<-hwt] at hc
 obtain ⟨h2,l2⟩:=x
 have hget:(List.map AV.str h.names)[((i:Int)).toNat]?=some (AV.str [36,101,108,101,109,77,97,116,99,104]):=by rw [Int.toNat_natCast];exact strs_get hx
 have hget2:(encVs l)[((i:Int)).toNat]?=some (encV (.mk h2 l2)):=by rw [Int.toNat_natCast];exact encVs_get hv
 have hb1:decide (t=64)=false:=decide_eq_false (by omega)
 exact body_of_sbodyK mixedz (er111_sElem_0 W h l d t m e ts i h2 l2) Fe2_m4 [] [] Fe2_m1
theorem round111E (n:Nat) (hT:TestE W n) (hQ:QueryE W n) (e:Int) (p:List UInt8×JV) (hp:(JV.mk h l).mems[i]?=some p) (hi:(i:Int)<m) (hd:0<=d/\d<=16) (ht0:0<=t) (ht64:t<=64)
 (hs:sizeV p.2<n) (hcn:cntV p.2<=2 ^ 30) (hnm:nmV p.2)
 (hu:(if 64<=t then Except.error 43 else if (!isOp p.1)=true then .error 41 else if (!takesB p.1 p.2)=true then .error 42 else if p.1=sNot then chkT n p.2 (d+1) (t+1) else if p.1=sElem then (if (isTestB p.2 && !joinsB (firstS p.2))=true then chkT n p.2 (d+1) (t+1) else chkQ n p.2 (d+1) (t+1)) else .ok (t+1))=(.error e:Except Int Int)):BodyC Tryz.prog W [100000] (nslots Tryz.prog 111) (loopOf Tryz.prog 111 0) (S111 h l d t ts m i) (.pan (gaveA e)) P0:=by
 obtain ⟨nm,x⟩:=p
 have hz:=(List.getElem?_zip_eq_some (l₁:=h.names) (l₂:=l) (i:=i)).1 hp
 obtain ⟨hx,hv⟩:=hz
 simp only at hu hs hcn hnm hx hv
 split at hu
 ·rename_i h64
  cases hu
  exact stE_many W h l d t m ts i nm hi (by omega) hx
 rename_i h64
 have ht:0<=t/\t<64:=⟨ht0,by omega⟩
 split at hu
 ·rename_i hop
  cases hu
  exact stE_op W h l d t m ts i nm hi (by omega) (by simpa using hop) hx
 rename_i hop
 have hop:isOp nm=true:=by simpa using hop
 split at hu
 ·rename_i htk
  cases hu
  have htk:takesB nm x=false:=by simpa using htk
  rcases op_cases hop with rfl|rfl|rfl|rfl|rfl|rfl|rfl|rfl|rfl|rfl|rfl|rfl|rfl|rfl|rfl
  ·exact absurd (show takesB sEq x=true from rfl) (by rw [htk];decide)
  ·exact absurd (show takesB sNe x=true from rfl) (by rw [htk];decide)
  ·exact absurd (show takesB sGt x=true from rfl) (by rw [htk];decide)
  ·exact absurd (show takesB sGte x=true from rfl) (by rw [htk];decide)
  ·exact absurd (show takesB sLt x=true from rfl) (by rw [htk];decide)
  ·exact absurd (show takesB sLte x=true from rfl) (by rw [htk];decide)
  ·exact stE_sIn W h l d t m ts i 42 x hi ht hx hv (mkE_208 W x d (t+1) true (of_decide_eq_false (show decide (x.kind=5)=false from htk)))
  ·exact stE_sNin W h l d t m ts i 42 x hi ht hx hv (mkE_208 W x d (t+1) false (of_decide_eq_false (show decide (x.kind=5)=false from htk)))
  ·exact stE_sAll W h l d t m ts i 42 x hi ht hx hv (mkE_180 W x d (t+1) (of_decide_eq_false (show decide (x.kind=5)=false from htk)))
  ·exact stE_sExists W h l d t m ts i 42 x hi ht hx hv (mkE_181 W x d (t+1) (of_decide_eq_false (show decide (x.kind=1\/x.kind=2)=false from htk)))
  ·refine stE_sType W h l d t m ts i 42 x hi ht hx hv (mkE_182 W x d (t+1) fun q=>?_)
   have hk:(decide (x.kind=4) && decide (0<=typeN x.text))=false:=htk
   rw [decide_eq_true q.1,decide_eq_true q.2] at hk
   cases hk
  ·refine stE_sSize W h l d t m ts i 42 x hi ht hx hv (mkE_183 W x d (t+1) fun q=>?_)
   have hk:(decide (x.kind=3) && decide (0<=x.int))=false:=htk
   rw [decide_eq_true q.1,decide_eq_true q.2] at hk
   cases hk
  ·exact stE_sMod W h l d t m ts i 42 x hi ht hx hv (mkE_184 W x d (t+1) htk)
  ·exact absurd (show takesB sNot x=true from rfl) (by rw [htk];decide)
  ·exact absurd (show takesB sElem x=true from rfl) (by rw [htk];decide)
 by_cases e1:nm=sNot
 ·subst e1
  rw [if_pos rfl] at hu
  exact stE_sNot W h l d t m ts i e x hi ht hx hv (mkE_185 W x d (t+1) (by omega) e (hT x (d+1) (t+1) e hu hs hcn hnm (by omega) (by omega) (by omega) (by omega)))
 rw [if_neg e1] at hu
 by_cases e2:nm=sElem
 ·subst e2
  rw [if_pos rfl] at hu
  exact stE_sElem W h l d t m ts i e x hi ht hx hv (mkE_186 W x d (t+1) (by omega) e (fun q=>hT x (d+1) (t+1) e (by rw [if_pos q] at hu;exact hu) hs hcn hnm (by omega) (by omega) (by omega) (by omega)) (fun q=>hQ x (d+1) (t+1) e (by rw [if_neg (by rw [q];decide)] at hu;exact hu) hs hcn hnm (by omega) (by omega) (by omega) (by omega)))
 rw [if_neg e2] at hu
 cases hu
end
theorem test111E (W:World) (n:Nat) (hR:TestR W n) (hQR:QueryR W n) (hT:TestE W n) (hQ:QueryE W n):TestE W (n+1):=by
 intro v d t e hk hsz hcn hnm hd0 hd17 ht0 ht64
 obtain ⟨h,l⟩:=v
 have hln:=mems_ln (.mk h l)
 have hme:=mem_min h l
 have hml:=JV.mems_len (.mk h l)
 have m1:=JV.mem_names (.mk h l)
 have m2:=JV.mem_items (.mk h l)
 simp only [JV.names,JV.items,JV.hd] at m1 m2
 rw [chkT] at hk
 split at hk
 ·rename_i hor
  cases hk
  by_cases q:h.kind=6
  ·have hb1:(!decide (h.kind=6))=false:=by rw [decide_eq_true q];rfl
   have hm0:(JV.mk h l).mems=[]:=hor.resolve_left fun r=>r q
   have hmz:(JV.mk h l).mem=0:=by rw [<-hml,hm0];rfl
   by_cases hn:h.names.length=0
   ·have hb2:decide (((List.map AV.str h.names).length:Int)=0)=true:=decide_eq_true (by rw [List.length_map];omega)
    exact mut_matchP [] [] (mut_of_sfun mixedz call111 rfl (ek111_1 W h l d t) Fe2_m4) Fe2_m1
   ·have hb2:decide (((List.map AV.str h.names).length:Int)=0)=false:=decide_eq_false (by rw [List.length_map];omega)
    have hl0:l.length=0:=by
     have:(JV.mk h l).mem=if l.length<h.names.length then l.length else h.names.length:=rfl
     rw [hmz] at this
     split at this<;>omega
    have hb3:decide (((encVs l).length:Int)=0)=true:=decide_eq_true (by rw [encVs_len];omega)
    exact mut_matchP [] [] (mut_of_sfun mixedz call111 rfl (ek111_2 W h l d t) Fe2_m4) Fe2_m1
  ·have hb1:(!decide (h.kind=6))=true:=by rw [decide_eq_false q];rfl
   exact mut_matchP [] [] (mut_of_sfun mixedz call111 rfl (ek111_0 W h l d t) Fe2_m4) Fe2_m1
 rename_i hne
 have k6:h.kind=6:=Classical.byContradiction fun q=>hne (.inl q)
 have hmne:(JV.mk h l).mems ≠ []:=fun e=>hne (.inr e)
 have hm0:0<(JV.mk h l).mem:=by rw [<-hml];exact List.length_pos_iff.2 hmne
 have hb1:(!decide (h.kind=6))=false:=by rw [decide_eq_true k6];rfl
 have hb2:decide (((List.map AV.str h.names).length:Int)=0)=false:=decide_eq_false (by rw [List.length_map];omega)
 have hb3:decide (((encVs l).length:Int)=0)=false:=decide_eq_false (by rw [encVs_len];omega)
 split at hk
 ·rename_i hd16
  cases hk
  have hb4:decide (16<d)=true:=decide_eq_true hd16
  exact mut_matchP [] [] (mut_of_sfun mixedz call111 rfl (ek111_3 W h l d t) Fe2_m4) Fe2_m1
 rename_i hd16
 have hb4:decide (16<d)=false:=decide_eq_false hd16
 have hlp:LoopC Tryz.prog W [100000] (nslots Tryz.prog 111) (loopOf Tryz.prog 111 0) (S111 h l d t [] ((JV.mk h l).mem:Nat) 0) (.pan (gaveA e)) P0:=by
  refine loopC_inv (fun q:Nat×Int=>S111 h l d q.2 (termsA (fun p=>asksA (tT n p.2) (qN n p.2) p.1 p.2) ((JV.mk h l).mems.take q.1)) ((JV.mk h l).mem:Nat) q.1)
   (fun q=>q.1<=(JV.mk h l).mems.length/\foldX _ ((JV.mk h l).mems.drop q.1) q.2=.error e/\0<=q.2/\q.2<=64) (fun q=>(JV.mk h l).mems.length - q.1) (by simp) ?_ (0,t) ⟨by simp,hk,ht0,ht64⟩
  rintro ⟨i,u⟩ ⟨a1,a2,a3,a4⟩
  simp only at a1 a2 a3 a4
  by_cases hi:i<(JV.mk h l).mems.length
  ·obtain ⟨p,hp⟩:=getOf hi
   rw [drop_get hp,foldX] at a2
   have hpm:=mems_mem (List.mem_of_getElem? hp)
   have hpi:=mem_item hpm.2
   split at a2
   ·left
    rename_i u1 hu
    have hle:u<=u1/\(u<=64->u1<=64):=by
     have hu':=hu
     split at hu'
     ·cases hu'
     split at hu'
     ·cases hu'
     split at hu'
     ·cases hu'
     split at hu'
     ·have:=(chk_le n).1 _ _ _ _ hu';exact ⟨by omega,fun q=>this.2 (by omega)⟩
     split at hu'
     ·split at hu'
      ·have:=(chk_le n).1 _ _ _ _ hu';exact ⟨by omega,fun q=>this.2 (by omega)⟩
      ·have:=(chk_le n).2 _ _ _ _ hu';exact ⟨by omega,fun q=>this.2 (by omega)⟩
     ·cases hu';exact ⟨by omega,fun q=>by omega⟩
    refine ⟨(i+1,u1),⟨by simp only;omega,a2,by simp only;omega,hle.2 a4⟩,by simp only;omega,?_⟩
    simp only
    rw [terms_snoc hp]
    exact round111 W h l n hR hQR d u u1 _ _ i p hp (by omega) (by omega) (by simp only [termsA,List.length_map,List.length_take];omega) (terms_clo (fun p=>asks_clo _ _ _ _) _) ⟨hd0,by omega⟩ a3 a4 (by omega) (by omega) (nmV_mem hnm hpm.2) hu
   ·right
    rename_i e1 hu
    cases a2
    exact round111E W h l d u _ _ i n hT hQ e p hp (by omega) ⟨hd0,by omega⟩ a3 a4 (by omega) (by omega) (nmV_mem hnm hpm.2) hu
  ·have hil:i=(JV.mk h l).mems.length:=by omega
   subst hil
   rw [List.drop_length] at a2
   simp only [foldX] at a2
   cases a2
 have hc:=ops148 W
 exact mut_matchP [] [] (mut_of_sfun mixedz call111 rfl (el111_1 W h l d t ((JV.mk h l).mem:Nat) e) Fe2_m4) Fe2_m1
end Go.Ac

namespace Go.Ac
open Go Go.Proofs
set_option maxRecDepth 10000
set_option maxHeartbeats 1000000
theorem Fe3_z1 {kp f ph σ σ'} (h:MatchK kp f ph σ σ':=by exact ⟨by rfl,(by simp only [P0,rdH,panO,S63,E63,S108,E108,tOK,List.map_cons,List.map_nil,and_true]<;>exact zt),(by simp only [P0,rdH,panO,S63,E63,S108,E108,hOK,List.map_cons,List.map_nil,and_true]<;>exact zh),(by simp only [P0,rdH,panO,S63,E63,S108,E108,liveT,List.map_cons,List.map_nil,and_true]<;>exact zv),(by simp only [P0,rdH,panO,S63,E63,S108,E108,liveH,List.map_cons,List.map_nil,and_true]<;>exact zv)⟩):MatchK kp f ph σ σ':=h
theorem eg63_0 (W:World) (h:JH) (l:List JV) (d t m e:Int) (ns:List AV) (i:Nat) (s:List UInt8) (h2:JH) (l2:List JV):sbodyK Tryz.prog W {lp:=true,pd:=[(11,6),(19,7)],tl:=[107,108]} 63 0 [100000] [] (S63 h l d t ns m i) [Ans.br true,Ans.ev 1,Ans.opt (some (AV.str s)),Ans.ev 1,Ans.opt (some (encV (JV.mk h2 l2))),Ans.ev 10000000,Ans.call (OutC.ret (bA true) []),Ans.ev 10000000,Ans.call (panO e),Ans.ev 10000000]=.ok ((XEnd.pan (AV.ifc 98 (AV.agg [iA e])),{t:=[],h:=[(100000,GE.box AV.top St.own),(100001,GE.box (encV (JV.mk h l)) St.own),(100002,GE.box (AV.agg [AV.val (Value.slice none 0 0)]) St.own),(100003,GE.box (AV.agg [AV.gs 100004 0 ns.length]) St.own),(100004,GE.arr 146 1 ns St.own),(100005,GE.box (encV (JV.mk h2 l2)) St.own)]}),[Ans.ev 10000000],[MutC Tryz.prog W 108 [AV.gp 100000 0,AV.str s,encV (JV.mk h2 l2),iA d] [(100000,GE.box (iA t) St.own)] (OutC.pan (AV.ifc 98 (AV.agg [iA e])) [(100000,GE.box AV.top St.own)]),MutC Tryz.prog W 107 [AV.str s] [] (OutC.ret (bA true) []),(encVs l)[(i:Int).toNat]?=some (encV (JV.mk h2 l2)),(List.map AV.str h.names)[(i:Int).toNat]?=some (AV.str s),decide ((i:Int)<m)=true]):=kr
theorem ed63_0 (W:World) (h:JH) (l:List JV) (d t m:Int) (ns:List AV) (i:Nat) (s:List UInt8) (h2:JH) (l2:List JV):sbodyK Tryz.prog W {lp:=true,pd:=[(11,6),(19,7)],tl:=[107,109]} 63 0 [100000] [] (S63 h l d t ns m i) [Ans.br true,Ans.ev 1,Ans.opt (some (AV.str s)),Ans.ev 1,Ans.opt (some (encV (JV.mk h2 l2))),Ans.ev 10000000,Ans.call (OutC.ret (bA false) []),Ans.ev 10000000,Ans.call (OutC.ret (bA true) []),Ans.ev 10000000]=.ok ((XEnd.pan (AV.ifc 98 (AV.agg [iA 41])),{t:=[],h:=[(100000,GE.box (iA t) St.own),(100001,GE.box (encV (JV.mk h l)) St.own),(100002,GE.box (AV.agg [AV.val (Value.slice none 0 0)]) St.own),(100003,GE.box (AV.agg [AV.gs 100004 0 ns.length]) St.own),(100004,GE.arr 146 1 ns St.own),(100005,GE.box (encV (JV.mk h2 l2)) St.own)]}),[Ans.ev 9999998],[MutC Tryz.prog W 109 [AV.str s] [] (OutC.ret (bA true) []),MutC Tryz.prog W 107 [AV.str s] [] (OutC.ret (bA false) []),(encVs l)[(i:Int).toNat]?=some (encV (JV.mk h2 l2)),(List.map AV.str h.names)[(i:Int).toNat]?=some (AV.str s),decide ((i:Int)<m)=true]):=kr
theorem ea63_0 (W:World) (h:JH) (l:List JV) (d t m a e2:Int) (ns:List AV) (i:Nat) (s:List UInt8) (h2:JH) (l2:List JV) (P:List AV):sbodyK Tryz.prog W {lp:=true,pd:=[(11,6),(19,7)],tl:=[107,109,76]} 63 0 [100000] [] (S63 h l d t ns m i) [Ans.br true,Ans.ev 1,Ans.opt (some (AV.str s)),Ans.ev 1,Ans.opt (some (encV (JV.mk h2 l2))),Ans.ev 10000000,Ans.call (OutC.ret (bA false) []),Ans.ev 10000000,Ans.call (OutC.ret (bA false) []),Ans.ev 10000000,Ans.call (OutC.ret (AV.tup [AV.sl 1 P [],iA e2,iA a]) []),Ans.br true,Ans.ev 10000000]=.ok ((XEnd.pan (AV.ifc 98 (AV.agg [iA e2])),{t:=[],h:=[(100000,GE.box (iA t) St.own),(100001,GE.box (encV (JV.mk h l)) St.own),(100002,GE.box (AV.agg [AV.val (Value.slice none 0 0)]) St.own),(100003,GE.box (AV.agg [AV.gs 100004 0 ns.length]) St.own),(100004,GE.arr 146 1 ns St.own),(100005,GE.box (encV (JV.mk h2 l2)) St.own)]}),[Ans.ev 9999999],[(!decide (e2=0))=true,MutC Tryz.prog W 76 [AV.str s] [] (OutC.ret (AV.tup [AV.sl 1 P [],iA e2,iA a]) []),MutC Tryz.prog W 109 [AV.str s] [] (OutC.ret (bA false) []),MutC Tryz.prog W 107 [AV.str s] [] (OutC.ret (bA false) []),(encVs l)[(i:Int).toNat]?=some (encV (JV.mk h2 l2)),(List.map AV.str h.names)[(i:Int).toNat]?=some (AV.str s),decide ((i:Int)<m)=true]):=kr
theorem et63_0 (W:World) (h:JH) (l:List JV) (d t m a e:Int) (ns:List AV) (i:Nat) (s:List UInt8) (h2:JH) (l2:List JV) (P:List AV):sbodyK Tryz.prog W {lp:=true,pd:=[(11,6),(19,7)],tl:=[107,109,76,110,111]} 63 0 [100000] [] (S63 h l d t ns m i) [Ans.br true,Ans.ev 1,Ans.opt (some (AV.str s)),Ans.ev 1,Ans.opt (some (encV (JV.mk h2 l2))),Ans.ev 10000000,Ans.call (OutC.ret (bA false) []),Ans.ev 10000000,Ans.call (OutC.ret (bA false) []),Ans.ev 10000000,Ans.call (OutC.ret (AV.tup [AV.sl 1 P [],iA 0,iA a]) []),Ans.ev 10000000,Ans.call (OutC.ret (bA true) []),Ans.ev 10000000,Ans.call (panO e),Ans.ev 10000000]=.ok ((XEnd.pan (AV.ifc 98 (AV.agg [iA e])),{t:=[],h:=[(100000,GE.box AV.top St.own),(100001,GE.box (encV (JV.mk h l)) St.own),(100002,GE.box (AV.agg [AV.val (Value.slice none 0 0)]) St.own),(100003,GE.box (AV.agg [AV.gs 100004 0 ns.length]) St.own),(100004,GE.arr 146 1 ns St.own),(100005,GE.box (encV (JV.mk h2 l2)) St.own)]}),[Ans.ev 10000000],[MutC Tryz.prog W 111 [AV.gp 100000 0,encV (JV.mk h2 l2),iA d] [(100000,GE.box (iA t) St.own)] (OutC.pan (AV.ifc 98 (AV.agg [iA e])) [(100000,GE.box AV.top St.own)]),MutC Tryz.prog W 110 [encV (JV.mk h2 l2)] [] (OutC.ret (bA true) []),MutC Tryz.prog W 76 [AV.str s] [] (OutC.ret (AV.tup [AV.sl 1 P [],iA 0,iA a]) []),MutC Tryz.prog W 109 [AV.str s] [] (OutC.ret (bA false) []),MutC Tryz.prog W 107 [AV.str s] [] (OutC.ret (bA false) []),(encVs l)[(i:Int).toNat]?=some (encV (JV.mk h2 l2)),(List.map AV.str h.names)[(i:Int).toNat]?=some (AV.str s),decide ((i:Int)<m)=true]):=kr
theorem en63_0 (W:World) (h:JH) (l:List JV) (d t m a e:Int) (ns:List AV) (i:Nat) (s:List UInt8) (h2:JH) (l2:List JV) (P:List AV):sbodyK Tryz.prog W {lp:=true,pd:=[(11,6),(19,7)],tl:=[107,109,76,110,111]} 63 0 [100000] [] (S63 h l d t ns m i) [Ans.br true,Ans.ev 1,Ans.opt (some (AV.str s)),Ans.ev 1,Ans.opt (some (encV (JV.mk h2 l2))),Ans.ev 10000000,Ans.call (OutC.ret (bA false) []),Ans.ev 10000000,Ans.call (OutC.ret (bA false) []),Ans.ev 10000000,Ans.call (OutC.ret (AV.tup [AV.sl 1 P [],iA 0,iA a]) []),Ans.ev 10000000,Ans.call (OutC.ret (bA false) []),Ans.ev 10000000,Ans.call (OutC.pan (gaveA e) [(100000,GE.box AV.top St.own),(100006,GE.arr 9 1 [AV.str [36,101,113]] St.own),(100007,GE.arr 25 5 [encV (JV.mk h2 l2)] St.own)]),Ans.ev 10000000]=.ok ((XEnd.pan (AV.ifc 98 (AV.agg [iA e])),{t:=[],h:=[(100000,GE.box AV.top St.own),(100001,GE.box (encV (JV.mk h l)) St.own),(100002,GE.box (AV.agg [AV.val (Value.slice none 0 0)]) St.own),(100003,GE.box (AV.agg [AV.gs 100004 0 ns.length]) St.own),(100004,GE.arr 146 1 ns St.own),(100005,GE.box (AV.agg [iA 6,iA 0,AV.str [],AV.gs 100006 0 1,AV.gs 100007 0 1]) St.own),(100006,GE.arr 9 1 [AV.str [36,101,113]] St.own),(100007,GE.arr 25 5 [encV (JV.mk h2 l2)] St.own)]}),[Ans.ev 10000000],[MutC Tryz.prog W 111 [AV.gp 100000 0,AV.agg [iA 6,iA 0,AV.str [],AV.gs 100006 0 1,AV.gs 100007 0 1],iA d] [(100000,GE.box (iA t) St.own),(100006,GE.arr 9 1 [AV.str [36,101,113]] St.own),(100007,GE.arr 25 5 [encV (JV.mk h2 l2)] St.own)] (OutC.pan (AV.ifc 98 (AV.agg [iA e])) [(100000,GE.box AV.top St.own),(100006,GE.arr 9 1 [AV.str [36,101,113]] St.own),(100007,GE.arr 25 5 [encV (JV.mk h2 l2)] St.own)]),MutC Tryz.prog W 110 [encV (JV.mk h2 l2)] [] (OutC.ret (bA false) []),MutC Tryz.prog W 76 [AV.str s] [] (OutC.ret (AV.tup [AV.sl 1 P [],iA 0,iA a]) []),MutC Tryz.prog W 109 [AV.str s] [] (OutC.ret (bA false) []),MutC Tryz.prog W 107 [AV.str s] [] (OutC.ret (bA false) []),(encVs l)[(i:Int).toNat]?=some (encV (JV.mk h2 l2)),(List.map AV.str h.names)[(i:Int).toNat]?=some (AV.str s),decide ((i:Int)<m)=true]):=kr
theorem eb108_0 (W:World) (h:JH) (l:List JV) (d t e:Int) (ns:List AV) (i:Nat) (s:List UInt8) (h2:JH) (l2:List JV):sbodyK Tryz.prog W {lp:=true,pd:=[(7,6)],tl:=[63]} 108 0 [100000] [] (S108 l d t s ns i) [Ans.br true,Ans.ev 1,Ans.opt (some (encV (JV.mk h2 l2))),Ans.ev 10000000,Ans.call (panO e),Ans.ev 10000000]=.ok ((XEnd.pan (AV.ifc 98 (AV.agg [iA e])),{t:=[],h:=[(100000,GE.box AV.top St.own),(100002,GE.box (AV.agg [AV.str s,AV.gs 100003 0 ns.length]) St.own),(100003,GE.arr 146 1 ns St.own),(100004,GE.box (encV (JV.mk h2 l2)) St.own)]}),[Ans.ev 10000000],[MutC Tryz.prog W 63 [AV.gp 100000 0,encV (JV.mk h2 l2),iA (IntKind.i64.wrap (d+1))] [(100000,GE.box (iA t) St.own)] (OutC.pan (AV.ifc 98 (AV.agg [iA e])) [(100000,GE.box AV.top St.own)]),(encVs l)[(i:Int).toNat]?=some (encV (JV.mk h2 l2)),decide ((i:Int)<(l.length:Int))=true]):=kr
theorem ek63_0 (W:World) (h:JH) (l:List JV) (d t:Int):sfun Tryz.prog W {lp:=true} 1000 9 63 [.gp 100000 0,encV (.mk h l),iA d] (rdH t) 100001 [Ans.br true,Ans.ev 10000000] []=.ok (OutC.pan (AV.ifc 98 (AV.agg [iA 40])) [(100000,GE.box (iA t) St.own)],[Ans.ev 9999999],[(!decide (h.kind=6))=true]):=kr
theorem eD63_0 (W:World) (h:JH) (l:List JV) (d t:Int):sfun Tryz.prog W {lp:=true} 1000 9 63 [.gp 100000 0,encV (.mk h l),iA d] (rdH t) 100001 [Ans.br false,Ans.br true,Ans.ev 10000000] []=.ok (OutC.pan (AV.ifc 98 (AV.agg [iA 44])) [(100000,GE.box (iA t) St.own)],[Ans.ev 9999999],[decide (16<d)=true,(!decide (h.kind=6))=false]):=kr
theorem el63_0 (W:World) (h:JH) (l:List JV) (d t m e:Int):sfun Tryz.prog W {lp:=true} 1000 9 63 [.gp 100000 0,encV (.mk h l),iA d] (rdH t) 100001 [Ans.br false,Ans.br false,Ans.ev 10000000,Ans.loopM [] [(100004,1)] (S63 h l d t [] m 0) (XEnd.pan (gaveA e)) P0,Ans.ev 10000000] []=.ok (OutC.pan (AV.ifc 98 (AV.agg [iA e])) [(100000,GE.box AV.top St.own)],[Ans.ev 10000000],[LoopC Tryz.prog W [100000] (nslots Tryz.prog 63) (loopOf Tryz.prog 63 0) {t:=[(0,AV.gp 100000 0),(2,iA d),(4,AV.gp 100001 0),(6,AV.gp 100002 0),(7,AV.gp 100003 0),(27,iA m),(28,iA 0)],h:=[(100000,GE.box (iA t) St.own),(100001,GE.box (encV (JV.mk h l)) St.own),(100002,GE.box (AV.agg [AV.val (Value.slice none 0 0)]) St.own),(100003,GE.box (AV.agg [AV.gs 100004 0 0]) St.own),(100004,GE.arr 146 1 [] St.own)]} (XEnd.pan (AV.ifc 98 (AV.agg [iA e]))) {t:=[],h:=[(100000,GE.box AV.top St.own)]},MatchK [100000] [] [(100004,1)] {t:=[(0,AV.gp 100000 0),(2,iA d),(4,AV.gp 100001 0),(6,AV.gp 100002 0),(7,AV.gp 100003 0),(27,iA (if (↑(encVs l).length:Int)<(↑(List.map AV.str h.names).length:Int) then (↑(encVs l).length:Int) else (↑(List.map AV.str h.names).length:Int))),(28,iA 0)],h:=[(100000,GE.box (iA t) St.own),(100001,GE.box (encV (JV.mk h l)) St.own),(100002,GE.box (AV.agg [AV.val (Value.slice none 0 0)]) St.own),(100003,GE.box (AV.agg [AV.val (Value.slice none 0 0)]) St.own)]} {t:=[(0,AV.gp 100000 0),(2,iA d),(4,AV.gp 100001 0),(6,AV.gp 100002 0),(7,AV.gp 100003 0),(27,iA m),(28,iA 0)],h:=[(100000,GE.box (iA t) St.own),(100001,GE.box (encV (JV.mk h l)) St.own),(100002,GE.box (AV.agg [AV.val (Value.slice none 0 0)]) St.own),(100003,GE.box (AV.agg [AV.gs 100004 0 0]) St.own),(100004,GE.arr 146 1 [] St.own)]},decide (16<d)=false,(!decide (h.kind=6))=false]):=kr
theorem ek108_0 (W:World) (h:JH) (l:List JV) (d t:Int) (s:List UInt8):sfun Tryz.prog W {lp:=true} 1000 9 108 [.gp 100000 0,.str s,encV (.mk h l),iA d] (rdH t) 100001 [Ans.br true,Ans.br true,Ans.br true,Ans.br true,Ans.br true,Ans.ev 10000000] []=.ok (OutC.pan (AV.ifc 98 (AV.agg [iA 42])) [(100000,GE.box (iA t) St.own)],[Ans.ev 9999998],[(!decide (h.kind=5))=true,(!decide (h.kind=5))=true,(!decide (h.kind=5))=true,(!decide (h.kind=5))=true,(!decide (h.kind=5))=true]):=kr
theorem ek108_1 (W:World) (h:JH) (l:List JV) (d t:Int) (s:List UInt8):sfun Tryz.prog W {lp:=true} 1000 9 108 [.gp 100000 0,.str s,encV (.mk h l),iA d] (rdH t) 100001 [Ans.br false,Ans.br false,Ans.br false,Ans.br false,Ans.br false,Ans.br true,Ans.ev 10000000] []=.ok (OutC.pan (AV.ifc 98 (AV.agg [iA 42])) [(100000,GE.box (iA t) St.own)],[Ans.ev 9999999],[decide ((↑(encVs l).length:Int)=0)=true,(!decide (h.kind=5))=false,(!decide (h.kind=5))=false,(!decide (h.kind=5))=false,(!decide (h.kind=5))=false,(!decide (h.kind=5))=false]):=kr
theorem el108_0 (W:World) (h:JH) (l:List JV) (d t e:Int) (s:List UInt8):sfun Tryz.prog W {lp:=true} 1000 9 108 [.gp 100000 0,.str s,encV (.mk h l),iA d] (rdH t) 100001 [Ans.br false,Ans.br false,Ans.br false,Ans.br false,Ans.br false,Ans.br false,Ans.ev 10000000,Ans.loopM [] [(100003,1)] (S108 l d t s [] 0) (XEnd.pan (gaveA e)) P0,Ans.ev 10000000] []=.ok (OutC.pan (AV.ifc 98 (AV.agg [iA e])) [(100000,GE.box AV.top St.own)],[Ans.ev 10000000],[LoopC Tryz.prog W [100000] (nslots Tryz.prog 108) (loopOf Tryz.prog 108 0) {t:=[(0,AV.gp 100000 0),(3,iA d),(9,AV.gp 100002 0),(25,AV.sl 5 (encVs l) []),(26,iA (l.length:Int)),(27,iA 0)],h:=[(100000,GE.box (iA t) St.own),(100002,GE.box (AV.agg [AV.str s,AV.gs 100003 0 0]) St.own),(100003,GE.arr 146 1 [] St.own)]} (XEnd.pan (AV.ifc 98 (AV.agg [iA e]))) {t:=[],h:=[(100000,GE.box AV.top St.own)]},MatchK [100000] [] [(100003,1)] {t:=[(0,AV.gp 100000 0),(3,iA d),(9,AV.gp 100002 0),(25,AV.sl 5 (encVs l) []),(26,iA (↑(encVs l).length:Int)),(27,iA 0)],h:=[(100000,GE.box (iA t) St.own),(100001,GE.box (encV (JV.mk h l)) St.own),(100002,GE.box (AV.agg [AV.str s,AV.val (Value.slice none 0 0)]) St.own)]} {t:=[(0,AV.gp 100000 0),(3,iA d),(9,AV.gp 100002 0),(25,AV.sl 5 (encVs l) []),(26,iA (l.length:Int)),(27,iA 0)],h:=[(100000,GE.box (iA t) St.own),(100002,GE.box (AV.agg [AV.str s,AV.gs 100003 0 0]) St.own),(100003,GE.arr 146 1 [] St.own)]},decide ((↑(encVs l).length:Int)=0)=false,(!decide (h.kind=5))=false,(!decide (h.kind=5))=false,(!decide (h.kind=5))=false,(!decide (h.kind=5))=false,(!decide (h.kind=5))=false]):=kr
theorem ew111_0 (W:World) (d t:Int) (h2:JH) (l2:List JV):sfun Tryz.prog W {lp:=true} 1000 9 111 [.gp 100000 0,.agg [iA 6,iA 0,.str [],.gs 100006 0 1,.gs 100007 0 1],iA d] [(100000,.box (iA t) .own),(100006,.arr 9 1 [.str [36,101,113]] .own),(100007,.arr 25 5 [encV (.mk h2 l2)] .own)] 100008 [Ans.ev 11,Ans.br false,Ans.ev 10000000,Ans.un,Ans.ev 3,Ans.br true,Ans.ev 10000000] []=.ok (OutC.pan (AV.ifc 98 (AV.agg [iA 43])) [(100000,GE.box (iA t) St.own),(100006,GE.arr 9 1 [AV.str [36,101,113]] St.own),(100007,GE.arr 25 5 [encV (JV.mk h2 l2)] St.own)],[Ans.ev 9999999],[decide (t=64)=true,decide (16<d)=false]):=kr
theorem ep17_0 (W:World) (h:JH) (l:List JV) (e:Int):sfunD Tryz.prog W {lp:=true,tl:=[63]} 1000 9 17 [encV (.mk h l)] [] 100000 [Ans.ev 10000000,Ans.call (OutC.pan (gaveA e) [(100003,GE.box AV.top St.own)]),Ans.ev 10000000] []=.ok (OutC.ret (AV.tup [AV.val (Value.pointer none),iA e]) [],[Ans.ev 10000000],[MutC Tryz.prog W 63 [AV.gp 100003 0,encV (JV.mk h l),iA 0] [(100003,GE.box (AV.agg [iA 0]) St.own)] (OutC.pan (AV.ifc 98 (AV.agg [iA e])) [(100003,GE.box AV.top St.own)])]):=kr
theorem Fe3_m1 {kp f ph σ σ'} (h:MatchK kp f ph σ σ':=by exact Fe3_z1):MatchK kp f ph σ σ':=h
theorem Fe3_m4 {cs} (h:Holds cs:=by simp only [Holds,and_true]<;>and_intros<;>first|exact zd|(exact hk;done)|(exact hb5;done)|exact Fe3_m1):Holds cs:=h
theorem parseE_20 {s:List UInt8} (h:parseE s ≠ 0):parseE s=20:=by
 unfold parseE at h ⊢
 split at h
 ·exact absurd rfl h
 ·rfl
section
variable (W:World)
theorem wrap111E (x:JV) (d t:Int) (hd:0<=d/\d<=16) (ht:t=64):MutC Tryz.prog W 111 [.gp 100000 0,.agg [iA 6,iA 0,.str [],.gs 100006 0 1,.gs 100007 0 1],iA d] [(100000,.box (iA t) .own),(100006,.arr 9 1 [.str [36,101,113]] .own),(100007,.arr 25 5 [encV x] .own)]
 (.pan (gaveA 43) [(100000,.box .top .own),(100006,.arr 9 1 [.str [36,101,113]] .own),(100007,.arr 25 5 [encV x] .own)]):=by
 have hb1:decide (t=64)=true:=decide_eq_true ht
 have hb2:decide (16<d)=false:=decide_eq_false (by omega)
 obtain ⟨h2,l2⟩:=x
 exact mut_matchP [] [] (mut_of_sfun mixedz call111 rfl (ew111_0 W d t h2 l2) Fe3_m4) Fe3_m1
theorem group108E (n:Nat) (hR:QueryR W n) (hQ:QueryE W n) (s:List UInt8) (x:JV) (d t e:Int) (hk:(if x.kind ≠ 5\/x.items=[] then Except.error 42 else foldX (fun y u=>chkQ n y (d+1) u) x.items t)=(.error e:Except Int Int)) (hsz:sizeV x<=n) (hcn:cntV x<=2 ^ 30) (hnm:nmV x) (hd:0<=d/\d<=16) (ht0:0<=t) (ht64:t<=64) :
 MutC Tryz.prog W 108 [.gp 100000 0,.str s,encV x,iA d] (rdH t) (panO e):=by
 by_cases hor:x.kind ≠ 5\/x.items=[]
 ·rw [if_pos hor] at hk
  cases hk
  obtain ⟨h,l⟩:=x
  by_cases q:h.kind=5
  ·have hb1:(!decide (h.kind=5))=false:=by rw [decide_eq_true q];rfl
   have hl0:l=[]:=hor.resolve_left fun r=>r q
   have hb2:decide (((encVs l).length:Int)=0)=true:=decide_eq_true (by rw [encVs_len,hl0];rfl)
   exact mut_matchP [] [] (mut_of_sfun mixedz call108 rfl (ek108_1 W h l d t s) Fe3_m4) Fe3_m1
  ·have hb1:(!decide (h.kind=5))=true:=by rw [decide_eq_false q];rfl
   exact mut_matchP [] [] (mut_of_sfun mixedz call108 rfl (ek108_0 W h l d t s) Fe3_m4) Fe3_m1
 rw [if_neg hor] at hk
 obtain ⟨h,l⟩:=x
 have hcl0:=cntV_len (.mk h l)
 simp only [JV.items,JV.names,JV.hd] at hk hcl0
 have k5:h.kind=5:=Classical.byContradiction fun q=>hor (.inl q)
 have hne:l ≠ []:=fun q=>hor (.inr q)
 have hwd:IntKind.i64.wrap (d+1)=d+1:=IntWalk.i64_in _ (by omega)
 have hlp:LoopC Tryz.prog W [100000] (nslots Tryz.prog 108) (loopOf Tryz.prog 108 0) (S108 l d t s [] 0) (.pan (gaveA e)) P0:=by
  refine loopC_inv (fun q:Nat×Int=>S108 l d q.2 s (nodesQ (qN n) (l.take q.1)) q.1) (fun q=>q.1<=l.length/\foldX (fun y u=>chkQ n y (d+1) u) (l.drop q.1) q.2=.error e/\0<=q.2/\q.2<=64) (fun q=>l.length - q.1) (by simp) ?_ (0,t) ⟨by simp,hk,ht0,ht64⟩
  rintro ⟨i,u⟩ ⟨a1,a2,a3,a4⟩
  simp only at a1 a2 a3 a4
  have hws:IntKind.i64.wrap ((i:Int)+1)=((i+1:Nat):Int):=wrap_succ (by omega)
  by_cases hi:i<l.length
  ·obtain ⟨y,hy⟩:=getOf hi
   rw [drop_get hy,foldX] at a2
   have hyi:=mem_item (v:=.mk h l) (List.mem_of_getElem? hy)
   have hyn:=nmV_mem (v:=.mk h l) hnm (List.mem_of_getElem? hy)
   have hget:(encVs l)[((i:Int)).toNat]?=some (encV y):=by rw [Int.toNat_natCast];exact encVs_get hy
   split at a2
   ·left
    rename_i u1 hu
    have hle:=(chk_le n).2 _ _ _ _ hu
    refine ⟨(i+1,u1),⟨by simp only;omega,a2,by simp only;omega,hle.2 a4⟩,by simp only;omega,?_⟩
    have hc:MutC Tryz.prog W 63 [.gp 100000 0,encV y,iA (IntKind.i64.wrap (d+1))] (rdH u) (.ret (.agg [.sl 1 (qN n y) []]) (rdH u1)):=by
     rw [hwd];exact hR y (d+1) u u1 hu (by omega) (by omega) hyn (by omega) a3 a4
    have hsn:nodesQ (qN n) (l.take (i+1))=nodesQ (qN n) (l.take i)++[.ifc 105 (.agg [.sl 1 (qN n y) []])]:=by unfold nodesQ;rw [take_snoc hy,List.map_append];rfl
    have hlen:(nodesQ (qN n) (l.take i)).length<=2 ^ 30:=by simp only [nodesQ,List.length_map,List.length_take];omega
    have hcl:=nodesQ_clo (qN n) (l.take (i+1))
    simp only
    rw [hsn] at hcl ⊢
    generalize nodesQ (qN n) (l.take i)=ns at hlen hcl
    obtain ⟨h2,l2⟩:=y
    exact body_of_sbodyK mixedz (b108_0 W h l d u u1 ns i s h2 l2 (qN n (.mk h2 l2))) Fb14_z3 [(100003,100006)] [] Fb14_z1
   ·right
    rename_i e1 hu
    cases a2
    have hc:MutC Tryz.prog W 63 [.gp 100000 0,encV y,iA (IntKind.i64.wrap (d+1))] (rdH u) (panO e):=by
     rw [hwd];exact hQ y (d+1) u e hu (by omega) (by omega) hyn (by omega) (by omega) a3 a4
    simp only
    generalize nodesQ (qN n) (l.take i)=ns
    obtain ⟨h2,l2⟩:=y
    exact body_of_sbodyK mixedz (eb108_0 W h l d u e ns i s h2 l2) Fe3_m4 [] [] Fe3_m1
  ·have hil:i=l.length:=by omega
   subst hil
   rw [List.drop_length] at a2
   simp only [foldX] at a2
   cases a2
 have hb1:(!decide (h.kind=5))=false:=by rw [decide_eq_true k5];rfl
 have hb2:decide (((encVs l).length:Int)=0)=false:=decide_eq_false (by rw [encVs_len];have:=List.length_pos_iff.2 hne;omega)
 exact mut_matchP [] [] (mut_of_sfun mixedz call108 rfl (el108_0 W h l d t e s) Fe3_m4) Fe3_m1
theorem round63E (h:JH) (l:List JV) (n:Nat) (hT:TestE W n) (hR:QueryR W n) (hQ:QueryE W n) (d t e:Int) (ns:List AV) (m:Int) (i:Nat) (p:List UInt8×JV) (hp:(JV.mk h l).mems[i]?=some p) (hi:(i:Int)<m) (hd:0<=d/\d<=16) (ht0:0<=t) (ht64:t<=64)
 (hs:sizeV p.2<n) (hcn:cntV p.2<=2 ^ 30) (hnm:nmV p.2) (hns:p.1.length<=2 ^ 30)
 (hu:(if joinsB p.1=true then (if p.2.kind ≠ 5\/p.2.items=[] then .error 42 else foldX (fun y t=>chkQ n y (d+1) t) p.2.items t) else if dollarB p.1=true then .error 41 else if parseE p.1 ≠ 0 then .error 20 else if isTestB p.2=true then chkT n p.2 d t else if 64<=t then .error 43 else .ok (t+1))=(.error e:Except Int Int)) :
 BodyC Tryz.prog W [100000] (nslots Tryz.prog 63) (loopOf Tryz.prog 63 0) (S63 h l d t ns m i) (.pan (gaveA e)) P0:=by
 obtain ⟨s,x⟩:=p
 have hz:=(List.getElem?_zip_eq_some (l₁:=h.names) (l₂:=l) (i:=i)).1 hp
 obtain ⟨hx,hv⟩:=hz
 simp only at hu hs hcn hnm hx hv hns
 have hget:(List.map AV.str h.names)[((i:Int)).toNat]?=some (AV.str s):=by rw [Int.toNat_natCast];exact strs_get hx
 have hget2:(encVs l)[((i:Int)).toNat]?=some (encV x):=by rw [Int.toNat_natCast];exact encVs_get hv
 have hc1:=mut_of_pure (by rfl) (logical107 W s)
 by_cases hj:joinsB s=true
 ·rw [if_pos hj] at hu
  rw [hj] at hc1
  have hc2:=group108E W n hR hQ s x d t e hu (by omega) hcn hnm hd ht0 ht64
  obtain ⟨h2,l2⟩:=x
  exact body_of_sbodyK mixedz (eg63_0 W h l d t m e ns i s h2 l2) Fe3_m4 [] [] Fe3_m1
 have hj':joinsB s=false:=by simpa using hj
 rw [if_neg hj] at hu
 rw [hj'] at hc1
 have hc2:=mut_of_pure (by rfl) (dollar109 W s)
 split at hu
 ·rename_i hdl
  cases hu
  rw [hdl] at hc2
  obtain ⟨h2,l2⟩:=x
  exact body_of_sbodyK mixedz (ed63_0 W h l d t m ns i s h2 l2) Fe3_m4 [] [] Fe3_m1
 rename_i hdl
 rw [show dollarB s=false by simpa using hdl] at hc2
 have hc3:=mut_of_pure (by rfl) (Parse76 W s hns)
 unfold parseAV at hc3
 split at hu
 ·rename_i hpe
  cases hu
  rw [parseE_20 hpe] at hc3
  have hb1:(!decide ((20:Int)=0))=true:=rfl
  obtain ⟨h2,l2⟩:=x
  exact body_of_sbodyK mixedz (ea63_0 W h l d t m (parseA s) 20 ns i s h2 l2 ((parseP s).map AV.str)) Fe3_m4 [] [] Fe3_m1
 rename_i hpe
 have hpe:parseE s=0:=Classical.byContradiction hpe
 rw [hpe] at hc3
 have hc4:=mut_of_pure (by simp only [cloL,encV_clo,Bool.and_self]) (isTest110 W x)
 by_cases ht:isTestB x=true
 ·rw [if_pos ht] at hu
  rw [ht] at hc4
  have hc5:=hT x d t e hu hs hcn hnm hd.1 (by omega) ht0 ht64
  obtain ⟨h2,l2⟩:=x
  exact body_of_sbodyK mixedz (et63_0 W h l d t m (parseA s) e ns i s h2 l2 ((parseP s).map AV.str)) Fe3_m4 [] [] Fe3_m1
 ·rw [if_neg ht] at hu
  rw [show isTestB x=false by simpa using ht] at hc4
  split at hu
  ·rename_i h64
   cases hu
   have hc5:=wrap111E W x d t hd (by omega)
   obtain ⟨h2,l2⟩:=x
   exact body_of_sbodyK mixedz (en63_0 W h l d t m (parseA s) 43 ns i s h2 l2 ((parseP s).map AV.str)) Fe3_m4 [] [] Fe3_m1
  ·cases hu
theorem query63E (n:Nat) (hTR:TestR W n) (hQR:QueryR W n) (hT:TestE W n) (hQ:QueryE W n):QueryE W (n+1):=by
 intro v d t e hk hsz hcn hnm hd0 hd17 ht0 ht64
 obtain ⟨h,l⟩:=v
 rw [chkQ] at hk
 split at hk
 ·rename_i q
  cases hk
  have hb1:(!decide (h.kind=6))=true:=by rw [decide_eq_false (show ¬ h.kind=6 from q)];rfl
  exact mut_matchP [] [] (mut_of_sfun mixedz call63 rfl (ek63_0 W h l d t) Fe3_m4) Fe3_m1
 rename_i hne
 have k6:h.kind=6:=Classical.byContradiction hne
 have hb1:(!decide (h.kind=6))=false:=by rw [decide_eq_true k6];rfl
 split at hk
 ·rename_i hd16
  cases hk
  have hb2:decide (16<d)=true:=decide_eq_true hd16
  exact mut_matchP [] [] (mut_of_sfun mixedz call63 rfl (eD63_0 W h l d t) Fe3_m4) Fe3_m1
 rename_i hd16
 have hb2:decide (16<d)=false:=decide_eq_false hd16
 have hln:=mems_ln (.mk h l)
 have hme:=mem_min h l
 have hml:=JV.mems_len (.mk h l)
 have hlp:LoopC Tryz.prog W [100000] (nslots Tryz.prog 63) (loopOf Tryz.prog 63 0) (S63 h l d t [] ((JV.mk h l).mem:Nat) 0) (.pan (gaveA e)) P0:=by
  refine loopC_inv (fun q:Nat×Int=>S63 h l d q.2 (((JV.mk h l).mems.take q.1).map (nodeA n)) ((JV.mk h l).mem:Nat) q.1)
   (fun q=>q.1<=(JV.mk h l).mems.length/\foldX _ ((JV.mk h l).mems.drop q.1) q.2=.error e/\0<=q.2/\q.2<=64) (fun q=>(JV.mk h l).mems.length - q.1) (by simp) ?_ (0,t) ⟨by simp,hk,ht0,ht64⟩
  rintro ⟨i,u⟩ ⟨a1,a2,a3,a4⟩
  simp only at a1 a2 a3 a4
  by_cases hi:i<(JV.mk h l).mems.length
  ·obtain ⟨p,hp⟩:=getOf hi
   rw [drop_get hp,foldX] at a2
   have hpm:=mems_mem (List.mem_of_getElem? hp)
   have hpi:=mem_item hpm.2
   split at a2
   ·left
    rename_i u1 hu
    have hle:u<=u1/\(u<=64->u1<=64):=by
     have hu':=hu
     split at hu'
     ·split at hu'
      ·cases hu'
      ·exact foldX_le (fun y hy u u' hu=>(chk_le n).2 _ _ _ _ hu) hu'
     split at hu'
     ·cases hu'
     split at hu'
     ·cases hu'
     split at hu'
     ·exact (chk_le n).1 _ _ _ _ hu'
     split at hu'
     ·cases hu'
     ·cases hu';exact ⟨by omega,fun q=>by omega⟩
    have hsn:((JV.mk h l).mems.take (i+1)).map (nodeA n)=((JV.mk h l).mems.take i).map (nodeA n)++[nodeA n p]:=by rw [take_snoc hp,List.map_append];rfl
    have hcl:=nodes_clo n ((JV.mk h l).mems.take (i+1))
    refine ⟨(i+1,u1),⟨by simp only;omega,a2,by simp only;omega,hle.2 a4⟩,by simp only;omega,?_⟩
    simp only
    rw [hsn] at hcl ⊢
    exact round63 W h l n hTR hQR d u u1 _ _ i p hp (by omega) (by omega) (by simp only [List.length_map,List.length_take];omega) hcl ⟨hd0,by omega⟩ a3 a4 (by omega) (by omega) (nmV_mem hnm hpm.2) (nmV_name hnm hpm.1) hu
   ·right
    rename_i e1 hu
    cases a2
    exact round63E W h l n hT hQR hQ d u e _ _ i p hp (by omega) ⟨hd0,by omega⟩ a3 a4 (by omega) (by omega) (nmV_mem hnm hpm.2) (nmV_name hnm hpm.1) hu
  ·have hil:i=(JV.mk h l).mems.length:=by omega
   subst hil
   rw [List.drop_length] at a2
   simp only [foldX] at a2
   cases a2
 exact mut_matchP [] [] (mut_of_sfun mixedz call63 rfl (el63_0 W h l d t ((JV.mk h l).mem:Nat) e) Fe3_m4) Fe3_m1
theorem readersE:∀ n,TestE W n/\QueryE W n
 | 0=>⟨fun v d t e _ h=>by omega,fun v d t e _ h=>by omega⟩
 | n+1=>⟨test111E W n (readers W n).1 (readers W n).2 (readersE n).1 (readersE n).2,query63E W n (readers W n).1 (readers W n).2 (readersE n).1 (readersE n).2⟩
theorem parse17E {n:Nat} {q:JV} {e:Int} (hk:chkQ n q 0 0=.error e) (hsz:sizeV q<n) (hcn:cntV q<=2 ^ 30) (hnm:nmV q):Pure Tryz.prog W 17 [encV q] (.tup [.val (.pointer none),iA e]):=by
 have h1:=(readersE W n).2 q 0 0 e hk hsz hcn hnm (Int.le_refl _) (by omega) (Int.le_refl _) (by omega)
 have hcl:cloL [encV q,iA 0]=true:=by simp [cloL,encV_clo,iA,AV.clo]
 have h2:=mut_nameP (k1:=100000) (k2:=100003) (x:=iA 0) (rest:=[encV q,iA 0]) (by omega) rfl rfl rfl hcl h1
 have hf:(iA 0).flat=(AV.agg [iA 0]).flat:=rfl
 have hc:=mut_flat1 hf h2
 obtain ⟨h,l⟩:=q
 exact pure_of_mut rfl (mut_of_sfunD mixedz call17 rfl (ep17_0 W h l e) Fe3_m4)
end
end Go.Ac

namespace Go.Ac
open Go
theorem joins_dollar {s:List UInt8} (h:joinsB s=true):dollarB s=true:=by
 simp only [joinsB,Bool.or_eq_true,decide_eq_true_eq] at h
 rcases h with (rfl|rfl)|rfl<;>rfl
end Go.Ac

namespace Go.Ac
open Go Go.Proofs
set_option maxRecDepth 10000
set_option maxHeartbeats 1000000
theorem Fb15_z1 {kp f ph σ σ'} (h:MatchK kp f ph σ σ':=by exact ⟨by rfl,(by simp only [S146,E146,S61i,ckH,tOK,List.map_cons,List.map_nil,and_true]<;>exact zt),(by simp only [S146,E146,S61i,ckH,hOK,List.map_cons,List.map_nil,and_true]<;>exact zh),(by simp only [S146,E146,S61i,ckH,liveT,List.map_cons,List.map_nil,and_true]<;>exact zv),(by simp only [S146,E146,S61i,ckH,liveH,List.map_cons,List.map_nil,and_true]<;>exact zv)⟩):MatchK kp f ph σ σ':=h
theorem Fb15_z2 {cs} (h:Holds cs:=by simp only [Holds,and_true]<;>and_intros<;>first|exact zd):Holds cs:=h
def ckH (t e:AV):List (Nat×GE):=[(100000,.box (.agg [t,e]) .own)]
def S146 (h:JH) (l:List JV) (d:Int) (t:AV) (e:Int) (i:Nat):AS:=⟨[(0,.gp 100000 0),(2,iA d),(4,.gp 100001 0),(6,iA i)],[(100000,.box (.agg [t,iA e]) .own),(100001,.box (encV (.mk h l)) .own)]⟩
def E146 (t:AV) (e:Int):AS:=⟨[],[(100000,.box (.agg [t,iA e]) .own)]⟩
def S61i (h2:JH) (l2:List JV) (h:JH) (l:List JV) (d:Int) (t:AV) (e:Int) (i k:Nat):AS:=⟨[(0,.gp 100000 0),(2,iA d),(4,.gp 100001 0),(6,iA i),(8,.gp 100002 0),(9,iA k)],[(100000,.box (.agg [t,iA e]) .own),(100001,.box (encV (.mk h l)) .own),(100002,.box (encV (.mk h2 l2)) .own)]⟩
theorem p65_0 (W:World) (h:JH) (l:List JV):sF W {} 65 [eV h l] [] 100000 [bt,ee] []=.ok (.ret (iA (↑(List.map AV.str h.names).length:Int)) [],[ee],[decide ((↑(List.map AV.str h.names).length:Int)<(↑(encVs l).length:Int))=true]):=kr
theorem p65_1 (W:World) (h:JH) (l:List JV):sF W {} 65 [eV h l] [] 100000 [bf,ee] []=.ok (.ret (iA (↑(encVs l).length:Int)) [],[ee],[decide ((↑(List.map AV.str h.names).length:Int)<(↑(encVs l).length:Int))=false]):=kr
theorem p74_0 (W:World) (h:JH) (l:List JV):sF W {} 74 [eV h l] [] 100000 [bt,bt,bt,bt,ee] []=.ok (.ret (.str []) [],[aE 9999999],d4 ((!decide (h.kind=6))=true) []):=kr
theorem p74_1 (W:World) (h:JH) (l:List JV):sF W {} 74 [eV h l] [] 100000 [bf,bf,aE 1,bt,bf,bf,bt,ee] []=.ok (.ret (.str []) [],[ee],(decide ((↑(List.map AV.str h.names).length:Int)=0)=true)::(d2 ((!decide (h.kind=6))=false) ((decide ((↑(List.map AV.str h.names).length:Int)<(↑(encVs l).length:Int))=true)::(d2 ((!decide (h.kind=6))=false) [])))):=kr
theorem p74_2 (W:World) (h:JH) (l:List JV) (s:List UInt8):sF W {} 74 [eV h l] [] 100000 [bf,bf,aE 1,bt,bf,bf,bf,aE 1,oS (.str s),ee] []=.ok (.ret (.str s) [],[ee],((List.map AV.str h.names)[0]?=some (AV.str s))::(decide ((↑(List.map AV.str h.names).length:Int)=0)=false)::(d2 ((!decide (h.kind=6))=false) ((decide ((↑(List.map AV.str h.names).length:Int)<(↑(encVs l).length:Int))=true)::(d2 ((!decide (h.kind=6))=false) [])))):=kr
theorem p74_3 (W:World) (h:JH) (l:List JV):sF W {} 74 [eV h l] [] 100000 [bf,bf,aE 1,bf,bf,bf,bt,ee] []=.ok (.ret (.str []) [],[ee],(decide ((↑(encVs l).length:Int)=0)=true)::(d2 ((!decide (h.kind=6))=false) ((decide ((↑(List.map AV.str h.names).length:Int)<(↑(encVs l).length:Int))=false)::(d2 ((!decide (h.kind=6))=false) [])))):=kr
theorem p74_4 (W:World) (h:JH) (l:List JV) (s:List UInt8):sF W {} 74 [eV h l] [] 100000 [bf,bf,aE 1,bf,bf,bf,bf,aE 1,oS (.str s),ee] []=.ok (.ret (.str s) [],[ee],((List.map AV.str h.names)[0]?=some (AV.str s))::(decide ((↑(encVs l).length:Int)=0)=false)::(d2 ((!decide (h.kind=6))=false) ((decide ((↑(List.map AV.str h.names).length:Int)<(↑(encVs l).length:Int))=false)::(d2 ((!decide (h.kind=6))=false) [])))):=kr
theorem p69_0 (W:World) (s:List UInt8) (x:UInt8):sF W {} 69 [.str s] [] 100000 [bt,bt,aE 1,Ans.byt (some x),bt,bt,ee] []=.ok (.ret (bA (decide ((x.toNat:Int)=36))) [],[ee],d2 (decide (0<(s.length:Int))=true) ((s[0]?=some x)::(d2 (decide (0<(s.length:Int))=true) []))):=kr
theorem p69_1 (W:World) (s:List UInt8):sF W {} 69 [.str s] [] 100000 [bf,bf,bf,bf,ee] []=.ok (.ret (bA false) [],[ee],d4 (decide (0<(s.length:Int))=false) []):=kr
theorem p70_0 (W:World) (s:List UInt8):sF W {} 70 [.str s] [] 100000 [bt,bt,bt,ee] []=.ok (.ret (bA true) [],[aE 9999997],d3 (decide (s=[36,97,110,100])=true) []):=kr
theorem p70_1 (W:World) (s:List UInt8):sF W {} 70 [.str s] [] 100000 [bf,bf,bf,bt,bt,bt,ee] []=.ok (.ret (bA true) [],[ee],d3 (decide (s=[36,111,114])=true) (d3 (decide (s=[36,97,110,100])=false) [])):=kr
theorem p70_2 (W:World) (s:List UInt8):sF W {} 70 [.str s] [] 100000 [bf,bf,bf,bf,bf,bf,ee] []=.ok (.ret (bA (decide (s=[36,110,111,114]))) [],[ee],d3 (decide (s=[36,111,114])=false) (d3 (decide (s=[36,97,110,100])=false) [])):=kr
theorem p188_0 (W:World) (s:List UInt8):sF W {lp:=true} 188 [.str s] [] 100000 [ee,.un,aE 3,bt,ee] []=.ok (.ret (iA 0) [],[aE 9999998],[decide ([110,117,108,108]=s)=true]):=kr
theorem p188_1 (W:World) (s:List UInt8):sF W {lp:=true} 188 [.str s] [] 100000 [ee,.un,aE 3,bf,ee,.un,aE 3,bt,ee] []=.ok (.ret (iA 2) [],[aE 9999998],[decide ([98,111,111,108]=s)=true,decide ([110,117,108,108]=s)=false]):=kr
theorem p188_2 (W:World) (s:List UInt8):sF W {lp:=true} 188 [.str s] [] 100000 [ee,.un,aE 3,bf,ee,.un,aE 3,bf,ee,.un,aE 3,bt,ee] []=.ok (.ret (iA 3) [],[aE 9999998],[decide ([105,110,116]=s)=true,decide ([98,111,111,108]=s)=false,decide ([110,117,108,108]=s)=false]):=kr
theorem p188_3 (W:World) (s:List UInt8):sF W {lp:=true} 188 [.str s] [] 100000 [ee,.un,aE 3,bf,ee,.un,aE 3,bf,ee,.un,aE 3,bf,ee,.un,aE 3,bt,ee] []=.ok (.ret (iA 4) [],[aE 9999998],[decide ([115,116,114,105,110,103]=s)=true,decide ([105,110,116]=s)=false,decide ([98,111,111,108]=s)=false,decide ([110,117,108,108]=s)=false]):=kr
theorem p188_4 (W:World) (s:List UInt8):sF W {lp:=true} 188 [.str s] [] 100000 [ee,.un,aE 3,bf,ee,.un,aE 3,bf,ee,.un,aE 3,bf,ee,.un,aE 3,bf,ee,.un,aE 3,bt,ee] []=.ok (.ret (iA 5) [],[aE 9999998],[decide ([97,114,114,97,121]=s)=true,decide ([115,116,114,105,110,103]=s)=false,decide ([105,110,116]=s)=false,decide ([98,111,111,108]=s)=false,decide ([110,117,108,108]=s)=false]):=kr
theorem p188_5 (W:World) (s:List UInt8):sF W {lp:=true} 188 [.str s] [] 100000 [ee,.un,aE 3,bf,ee,.un,aE 3,bf,ee,.un,aE 3,bf,ee,.un,aE 3,bf,ee,.un,aE 3,bf,ee,.un,aE 3,bt,ee] []=.ok (.ret (iA 6) [],[aE 9999998],[decide ([111,98,106,101,99,116]=s)=true,decide ([97,114,114,97,121]=s)=false,decide ([115,116,114,105,110,103]=s)=false,decide ([105,110,116]=s)=false,decide ([98,111,111,108]=s)=false,decide ([110,117,108,108]=s)=false]):=kr
theorem p188_6 (W:World) (s:List UInt8):sF W {lp:=true} 188 [.str s] [] 100000 [ee,.un,aE 3,bf,ee,.un,aE 3,bf,ee,.un,aE 3,bf,ee,.un,aE 3,bf,ee,.un,aE 3,bf,ee,.un,aE 3,bf,ee,.un,ee] []=.ok (.ret (iA (-1)) [],[aE 9999999],[decide ([111,98,106,101,99,116]=s)=false,decide ([97,114,114,97,121]=s)=false,decide ([115,116,114,105,110,103]=s)=false,decide ([105,110,116]=s)=false,decide ([98,111,111,108]=s)=false,decide ([110,117,108,108]=s)=false]):=kr
theorem p105_0 (W:World) (h:JH) (l:List JV) (d t m:Int) (s:List UInt8) (P:List AV) (a:Int):sF W {lp:=true,tl:=[23,74,69,146]} 105 [.gp 100000 0,.str s,eV h l,iA d] (ckH (iA t) (iA 0)) 100001 [ee,cR (.tup [sL 1 P,iA m,iA a]) [],bt,ee] []=.ok (.ret (.tup []) [(100000,gB (.agg [iA t,iA 20]))],[aE 9999998],[(!decide (m=0))=true,MZ W 23 [.str s] [] (.ret (.tup [sL 1 P,iA m,iA a]) [])]):=kr
theorem p105_1 (W:World) (h:JH) (l:List JV) (d t t2 m:Int) (s:List UInt8) (P:List AV) (b:Bool) (a:Int):sF W {lp:=true,tl:=[23,74,69,146]} 105 [.gp 100000 0,.str s,eV h l,iA d] (ckH (iA t) (iA 0)) 100001 [ee,cR (.tup [sL 1 P,iA m,iA a]) [],bf,ee,cR (.str (firstS (JV.mk h l))) [],ee,cR (bA b) [],bt,ee,cR (.tup []) (ckH (iA t2) (iA 0)),ee] []=.ok (.ret (.tup []) [(100000,gB (.agg [iA t2,iA 0]))],[ee],[MZ W 146 [.gp 100000 0,eV h l,iA d] [(100000,gB (.agg [iA t,iA 0]))] (.ret (.tup []) [(100000,gB (.agg [iA t2,iA 0]))]),b=true,MZ W 69 [.str (firstS (JV.mk h l))] [] (.ret (bA b) []),MZ W 74 [eV h l] [] (.ret (.str (firstS (JV.mk h l))) []),(!decide (m=0))=false,MZ W 23 [.str s] [] (.ret (.tup [sL 1 P,iA m,iA a]) [])]):=kr
theorem p105_2 (W:World) (h:JH) (l:List JV) (d t m:Int) (s:List UInt8) (P:List AV) (b:Bool) (a:Int):sF W {lp:=true,tl:=[23,74,69,146]} 105 [.gp 100000 0,.str s,eV h l,iA d] (ckH (iA t) (iA 0)) 100001 [ee,cR (.tup [sL 1 P,iA m,iA a]) [],bf,ee,cR (.str (firstS (JV.mk h l))) [],ee,cR (bA b) [],bf,aE 1,bt,ee] []=.ok (.ret (.tup []) [(100000,gB (.agg [iA (IntKind.i64.wrap (t+1)),iA 43]))],[aE 9999998],[decide (64<=t)=true,b=false,MZ W 69 [.str (firstS (JV.mk h l))] [] (.ret (bA b) []),MZ W 74 [eV h l] [] (.ret (.str (firstS (JV.mk h l))) []),(!decide (m=0))=false,MZ W 23 [.str s] [] (.ret (.tup [sL 1 P,iA m,iA a]) [])]):=kr
theorem p105_3 (W:World) (h:JH) (l:List JV) (d t m:Int) (s:List UInt8) (P:List AV) (b:Bool) (a:Int):sF W {lp:=true,tl:=[23,74,69,146]} 105 [.gp 100000 0,.str s,eV h l,iA d] (ckH (iA t) (iA 0)) 100001 [ee,cR (.tup [sL 1 P,iA m,iA a]) [],bf,ee,cR (.str (firstS (JV.mk h l))) [],ee,cR (bA b) [],bf,aE 1,bf,ee] []=.ok (.ret (.tup []) [(100000,gB (.agg [iA (IntKind.i64.wrap (t+1)),iA 0]))],[ee],[decide (64<=t)=false,b=false,MZ W 69 [.str (firstS (JV.mk h l))] [] (.ret (bA b) []),MZ W 74 [eV h l] [] (.ret (.str (firstS (JV.mk h l))) []),(!decide (m=0))=false,MZ W 23 [.str s] [] (.ret (.tup [sL 1 P,iA m,iA a]) [])]):=kr
theorem q105_0 (W:World) (h:JH) (l:List JV) (d t e m:Int) (s:List UInt8) (P:List AV) (b:Bool) (a:Int):sF W {lp:=true,tl:=[23,74,69,146]} 105 [.gp 100000 0,.str s,eV h l,iA d] (ckH (iA t) (iA 0)) 100001 [ee,cR (.tup [sL 1 P,iA m,iA a]) [],bf,ee,cR (.str (firstS (JV.mk h l))) [],ee,cR (bA b) [],bt,ee,cR (.tup []) (ckH .top (iA e)),ee] []=.ok (.ret (.tup []) [(100000,gB (.agg [.top,iA e]))],[ee],[MZ W 146 [.gp 100000 0,eV h l,iA d] [(100000,gB (.agg [iA t,iA 0]))] (.ret (.tup []) [(100000,gB (.agg [.top,iA e]))]),b=true,MZ W 69 [.str (firstS (JV.mk h l))] [] (.ret (bA b) []),MZ W 74 [eV h l] [] (.ret (.str (firstS (JV.mk h l))) []),(!decide (m=0))=false,MZ W 23 [.str s] [] (.ret (.tup [sL 1 P,iA m,iA a]) [])]):=kr
theorem o146_0 (W:World) (h:JH) (l:List JV) (d t m:Int) (i:Nat):sQ W {lp:=true,tl:=[65,168]} 146 0 [100000] [0,2,4,6] (S146 h l d (iA t) 0 i) [ee,cR (iA m) [],bt,bt,bt,bt,bt,bt,aE 2,bt,ee]=.ok ((.normal,{t:=[(0,.gp 100000 0),(2,iA d),(4,.gp 100001 0),(6,iA (IntKind.i64.wrap ((i:Int)+1)))],h:=[(100000,gB (.agg [iA (IntKind.i64.wrap (t+1)),iA 43])),(100001,gB (eV h l))]}),[aE 9999997],(decide (64<=t)=true)::(d6 (decide ((i:Int)<m)=true) [MZ W 65 [eV h l] [] (.ret (iA m) [])])):=kr
theorem o146_1 (W:World) (h:JH) (l:List JV) (d t t2 m:Int) (i:Nat) (s:List UInt8) (h2:JH) (l2:List JV):sQ W {lp:=true,tl:=[65,168]} 146 0 [100000] [0,2,4,6] (S146 h l d (iA t) 0 i) [ee,cR (iA m) [],bt,bt,bt,bt,bt,bt,aE 2,bf,aE 2,oS (.str s),aE 1,oS (eV h2 l2),ee,cR (.tup []) (ckH (iA t2) (iA 0)),ee]=.ok ((.normal,{t:=[(0,.gp 100000 0),(2,iA d),(4,.gp 100001 0),(6,iA (IntKind.i64.wrap ((i:Int)+1)))],h:=[(100000,gB (.agg [iA t2,iA 0])),(100001,gB (eV h l))]}),[ee],MZ W 168 [.gp 100000 0,.str s,eV h2 l2,iA d] [(100000,gB (.agg [iA (IntKind.i64.wrap (t+1)),iA 0]))] (.ret (.tup []) [(100000,gB (.agg [iA t2,iA 0]))])::((encVs l)[(i:Int).toNat]?=some (eV h2 l2))::((List.map AV.str h.names)[(i:Int).toNat]?=some (AV.str s))::(decide (64<=t)=false)::(d6 (decide ((i:Int)<m)=true) [MZ W 65 [eV h l] [] (.ret (iA m) [])])):=kr
theorem p146o_0 (W:World) (h:JH) (l:List JV) (d t:Int):sF W {lp:=true,tl:=[65]} 146 [.gp 100000 0,eV h l,iA d] (ckH (iA t) (iA 0)) 100001 [bt,bt,bt,bt,ee] []=.ok (.ret (.tup []) [(100000,gB (.agg [iA t,iA 40]))],[aE 9999997],d4 ((!decide (h.kind=6))=true) []):=kr
theorem p146o_1 (W:World) (h:JH) (l:List JV) (d t m:Int):sF W {lp:=true,tl:=[65]} 146 [.gp 100000 0,eV h l,iA d] (ckH (iA t) (iA 0)) 100001 [bf,bf,ee,cR (iA m) [],bf,bf,bt,ee] []=.ok (.ret (.tup []) [(100000,gB (.agg [iA t,iA 40]))],[aE 9999998],(decide (m=0)=true)::(d2 ((!decide (h.kind=6))=false) (MZ W 65 [eV h l] [] (.ret (iA m) [])::(d2 ((!decide (h.kind=6))=false) [])))):=kr
theorem p146o_2 (W:World) (h:JH) (l:List JV) (d t m:Int):sF W {lp:=true,tl:=[65]} 146 [.gp 100000 0,eV h l,iA d] (ckH (iA t) (iA 0)) 100001 [bf,bf,ee,cR (iA m) [],bf,bf,bf,bt,ee] []=.ok (.ret (.tup []) [(100000,gB (.agg [iA t,iA 44]))],[aE 9999998],(decide (16<d)=true)::(decide (m=0)=false)::(d2 ((!decide (h.kind=6))=false) (MZ W 65 [eV h l] [] (.ret (iA m) [])::(d2 ((!decide (h.kind=6))=false) [])))):=kr
theorem p146o_3 (W:World) (h:JH) (l:List JV) (d t t2 m:Int):sF W {lp:=true,tl:=[65]} 146 [.gp 100000 0,eV h l,iA d] (ckH (iA t) (iA 0)) 100001 [bf,bf,ee,cR (iA m) [],bf,bf,bf,bf,ee,.loopM [] [] (S146 h l d (iA t) 0 0) (.exit 0) (E146 (iA t2) 0),ee] []=.ok (.ret (.tup []) [(100000,gB (.agg [iA t2,iA 0]))],[ee],LZ W [100000] 146 0 (S146 h l d (iA t) 0 0) (.exit 0) (E146 (iA t2) 0)::MatchK [100000] [] [] {t:=[(0,.gp 100000 0),(2,iA d),(4,.gp 100001 0),(6,iA 0)],h:=[(100000,gB (.agg [iA t,iA 0])),(100001,gB (eV h l))]} (S146 h l d (iA t) 0 0)::(decide (16<d)=false)::(decide (m=0)=false)::(d2 ((!decide (h.kind=6))=false) (MZ W 65 [eV h l] [] (.ret (iA m) [])::(d2 ((!decide (h.kind=6))=false) [])))):=kr
theorem p61o_0 (W:World) (h:JH) (l:List JV) (d t:Int):sF W {lp:=true,tl:=[65]} 61 [.gp 100000 0,eV h l,iA d] (ckH (iA t) (iA 0)) 100001 [bt,ee] []=.ok (.ret (.tup []) [(100000,gB (.agg [iA t,iA 40]))],[aE 9999998],[(!decide (h.kind=6))=true]):=kr
theorem p61o_1 (W:World) (h:JH) (l:List JV) (d t:Int):sF W {lp:=true,tl:=[65]} 61 [.gp 100000 0,eV h l,iA d] (ckH (iA t) (iA 0)) 100001 [bf,bt,ee] []=.ok (.ret (.tup []) [(100000,gB (.agg [iA t,iA 44]))],[aE 9999998],[decide (16<d)=true,(!decide (h.kind=6))=false]):=kr
theorem p61o_2 (W:World) (h:JH) (l:List JV) (d t t2:Int):sF W {lp:=true,tl:=[65]} 61 [.gp 100000 0,eV h l,iA d] (ckH (iA t) (iA 0)) 100001 [bf,bf,ee,.loopM [] [] (S146 h l d (iA t) 0 0) (.exit 0) (E146 (iA t2) 0),ee] []=.ok (.ret (.tup []) [(100000,gB (.agg [iA t2,iA 0]))],[ee],[LZ W [100000] 61 0 (S146 h l d (iA t) 0 0) (.exit 0) (E146 (iA t2) 0),MatchK [100000] [] [] {t:=[(0,.gp 100000 0),(2,iA d),(4,.gp 100001 0),(6,iA 0)],h:=[(100000,gB (.agg [iA t,iA 0])),(100001,gB (eV h l))]} (S146 h l d (iA t) 0 0),decide (16<d)=false,(!decide (h.kind=6))=false]):=kr
theorem o61_0 (W:World) (h:JH) (l:List JV) (d t m:Int) (i:Nat) (s:List UInt8) (h2:JH) (l2:List JV) (b2:Bool):sQ W {lp:=true,tl:=[65,70,69,105]} 61 0 [100000] [0,2,4,6] (S146 h l d (iA t) 0 i) [ee,cR (iA m) [],bt,bt,bt,bt,bt,bt,aE 2,oS (.str s),aE 1,oS (eV h2 l2),ee,cR (bA false) [],ee,cR (bA b2) [],bt,ee]=.ok ((.normal,{t:=[(0,.gp 100000 0),(2,iA d),(4,.gp 100001 0),(6,iA (IntKind.i64.wrap ((i:Int)+1)))],h:=[(100000,gB (.agg [iA t,iA 41])),(100001,gB (eV h l)),(100002,gB (eV h2 l2))]}),[aE 9999998],(b2=true)::MZ W 69 [.str s] [] (.ret (bA b2) [])::MZ W 70 [.str s] [] (.ret (bA false) [])::((encVs l)[(i:Int).toNat]?=some (eV h2 l2))::((List.map AV.str h.names)[(i:Int).toNat]?=some (AV.str s))::(d6 (decide ((i:Int)<m)=true) [MZ W 65 [eV h l] [] (.ret (iA m) [])])):=kr
theorem o61_1 (W:World) (h:JH) (l:List JV) (d t t2 m:Int) (i:Nat) (s:List UInt8) (h2:JH) (l2:List JV) (b2:Bool):sQ W {lp:=true,tl:=[65,70,69,105]} 61 0 [100000] [0,2,4,6] (S146 h l d (iA t) 0 i) [ee,cR (iA m) [],bt,bt,bt,bt,bt,bt,aE 2,oS (.str s),aE 1,oS (eV h2 l2),ee,cR (bA false) [],ee,cR (bA b2) [],bf,ee,cR (.tup []) (ckH (iA t2) (iA 0)),ee]=.ok ((.normal,{t:=[(0,.gp 100000 0),(2,iA d),(4,.gp 100001 0),(6,iA (IntKind.i64.wrap ((i:Int)+1)))],h:=[(100000,gB (.agg [iA t2,iA 0])),(100001,gB (eV h l)),(100002,gB (eV h2 l2))]}),[ee],MZ W 105 [.gp 100000 0,.str s,eV h2 l2,iA d] [(100000,gB (.agg [iA t,iA 0]))] (.ret (.tup []) [(100000,gB (.agg [iA t2,iA 0]))])::(b2=false)::MZ W 69 [.str s] [] (.ret (bA b2) [])::MZ W 70 [.str s] [] (.ret (bA false) [])::((encVs l)[(i:Int).toNat]?=some (eV h2 l2))::((List.map AV.str h.names)[(i:Int).toNat]?=some (AV.str s))::(d6 (decide ((i:Int)<m)=true) [MZ W 65 [eV h l] [] (.ret (iA m) [])])):=kr
theorem g61o_0 (W:World) (h:JH) (l:List JV) (d t t2 m:Int) (i:Nat) (s:List UInt8) (h2:JH) (l2:List JV):sQ W {lp:=true,tl:=[65,70,69,105]} 61 0 [100000] [0,2,4,6] (S146 h l d (iA t) 0 i) [ee,cR (iA m) [],bt,bt,bt,bt,bt,bt,aE 2,oS (.str s),aE 1,oS (eV h2 l2),ee,cR (bA true) [],aE 1,bf,bf,bf,bf,bf,bf,ee,.loopM [] [] (S61i h2 l2 h l d (iA t) 0 i 0) (.exit 3) (S146 h l d (iA t2) 0 i),ee]=.ok ((.normal,{t:=[(0,.gp 100000 0),(2,iA d),(4,.gp 100001 0),(6,iA (IntKind.i64.wrap ((i:Int)+1)))],h:=[(100000,gB (.agg [iA t2,iA 0])),(100001,gB (eV h l))]}),[ee],LZ W [100000] 61 1 (S61i h2 l2 h l d (iA t) 0 i 0) (.exit 3) (S146 h l d (iA t2) 0 i)::MatchK [100000] [] [] {t:=[(0,.gp 100000 0),(2,iA d),(4,.gp 100001 0),(6,iA (i:Int)),(8,.gp 100002 0),(9,iA 0)],h:=[(100000,gB (.agg [iA t,iA 0])),(100001,gB (eV h l)),(100002,gB (eV h2 l2))]} (S61i h2 l2 h l d (iA t) 0 i 0)::(decide ((↑(encVs l2).length:Int)=0)=false)::((!decide (h2.kind=5))=false)::(d4 ((!decide (h2.kind=5))=false) (MZ W 70 [.str s] [] (.ret (bA true) [])::((encVs l)[(i:Int).toNat]?=some (eV h2 l2))::((List.map AV.str h.names)[(i:Int).toNat]?=some (AV.str s))::(d6 (decide ((i:Int)<m)=true) [MZ W 65 [eV h l] [] (.ret (iA m) [])])))):=kr
theorem oi61_0 (W:World) (h:JH) (l:List JV) (d t t2:Int) (i k:Nat) (h2:JH) (l2:List JV) (h3:JH) (l3:List JV):sQ W {lp:=true,tl:=[61]} 61 1 [100000] [0,2,4,6,8,9] (S61i h2 l2 h l d (iA t) 0 i k) [aE 6,bt,aE 1,oS (eV h3 l3),ee,cR (.tup []) (ckH (iA t2) (iA 0)),ee]=.ok ((.normal,{t:=[(0,.gp 100000 0),(2,iA d),(4,.gp 100001 0),(6,iA (i:Int)),(8,.gp 100002 0),(9,iA (IntKind.i64.wrap ((k:Int)+1)))],h:=[(100000,gB (.agg [iA t2,iA 0])),(100001,gB (eV h l)),(100002,gB (eV h2 l2))]}),[ee],[MZ W 61 [.gp 100000 0,eV h3 l3,iA (IntKind.i64.wrap (d+1))] [(100000,gB (.agg [iA t,iA 0]))] (.ret (.tup []) [(100000,gB (.agg [iA t2,iA 0]))]),(encVs l2)[(k:Int).toNat]?=some (eV h3 l3),decide ((k:Int)<(↑(encVs l2).length:Int))=true]):=kr
theorem oi61_1 (W:World) (h:JH) (l:List JV) (d t:Int) (i k:Nat) (h2:JH) (l2:List JV):sQ W {lp:=true,tl:=[61]} 61 1 [100000] [0,2,4,6,8,9] (S61i h2 l2 h l d (iA t) 0 i k) [aE 6,bf,ee]=.ok ((.exit 3,{t:=[(0,.gp 100000 0),(2,iA d),(4,.gp 100001 0),(6,iA (i:Int)),(8,.gp 100002 0),(9,iA (k:Int))],h:=[(100000,gB (.agg [iA t,iA 0])),(100001,gB (eV h l)),(100002,gB (eV h2 l2))]}),[ee],[decide ((k:Int)<(↑(encVs l2).length:Int))=false]):=kr
theorem p16o_0 (W:World) (h:JH) (l:List JV) (t2:Int):sF W {lp:=true,tl:=[61]} 16 [eV h l] [] 100000 [ee,cR (.tup []) [(100001,gB (.agg [iA t2,iA 0]))],ee] []=.ok (.ret (.tup [iA 0,iA t2]) [],[ee],[MZ W 61 [.gp 100001 0,eV h l,iA 0] [(100001,gB (.agg [iA 0,iA 0]))] (.ret (.tup []) [(100001,gB (.agg [iA t2,iA 0]))])]):=kr
theorem x146_0 (W:World) (h:JH) (l:List JV) (d t e m:Int) (i:Nat) (s:List UInt8) (h2:JH) (l2:List JV):sQ W {lp:=true,tl:=[65,168]} 146 0 [100000] [0,2,4,6] (S146 h l d (iA t) 0 i) [ee,cR (iA m) [],bt,bt,bt,bt,bt,bt,aE 2,bf,aE 2,oS (.str s),aE 1,oS (eV h2 l2),ee,cR (.tup []) (ckH .top (iA e)),ee]=.ok ((.normal,{t:=[(0,.gp 100000 0),(2,iA d),(4,.gp 100001 0),(6,iA (IntKind.i64.wrap ((i:Int)+1)))],h:=[(100000,gB (.agg [.top,iA e])),(100001,gB (eV h l))]}),[ee],MZ W 168 [.gp 100000 0,.str s,eV h2 l2,iA d] [(100000,gB (.agg [iA (IntKind.i64.wrap (t+1)),iA 0]))] (.ret (.tup []) [(100000,gB (.agg [.top,iA e]))])::((encVs l)[(i:Int).toNat]?=some (eV h2 l2))::((List.map AV.str h.names)[(i:Int).toNat]?=some (AV.str s))::(decide (64<=t)=false)::(d6 (decide ((i:Int)<m)=true) [MZ W 65 [eV h l] [] (.ret (iA m) [])])):=kr
theorem p146x_3 (W:World) (h:JH) (l:List JV) (d t e m:Int):sF W {lp:=true,tl:=[65]} 146 [.gp 100000 0,eV h l,iA d] (ckH (iA t) (iA 0)) 100001 [bf,bf,ee,cR (iA m) [],bf,bf,bf,bf,ee,.loopM [] [] (S146 h l d (iA t) 0 0) (.exit 0) (E146 .top e),ee] []=.ok (.ret (.tup []) [(100000,gB (.agg [.top,iA e]))],[ee],LZ W [100000] 146 0 (S146 h l d (iA t) 0 0) (.exit 0) (E146 .top e)::MatchK [100000] [] [] {t:=[(0,.gp 100000 0),(2,iA d),(4,.gp 100001 0),(6,iA 0)],h:=[(100000,gB (.agg [iA t,iA 0])),(100001,gB (eV h l))]} (S146 h l d (iA t) 0 0)::(decide (16<d)=false)::(decide (m=0)=false)::(d2 ((!decide (h.kind=6))=false) (MZ W 65 [eV h l] [] (.ret (iA m) [])::(d2 ((!decide (h.kind=6))=false) [])))):=kr
theorem p61x_2 (W:World) (h:JH) (l:List JV) (d t e:Int):sF W {lp:=true,tl:=[65]} 61 [.gp 100000 0,eV h l,iA d] (ckH (iA t) (iA 0)) 100001 [bf,bf,ee,.loopM [] [] (S146 h l d (iA t) 0 0) (.exit 0) (E146 .top e),ee] []=.ok (.ret (.tup []) [(100000,gB (.agg [.top,iA e]))],[ee],[LZ W [100000] 61 0 (S146 h l d (iA t) 0 0) (.exit 0) (E146 .top e),MatchK [100000] [] [] {t:=[(0,.gp 100000 0),(2,iA d),(4,.gp 100001 0),(6,iA 0)],h:=[(100000,gB (.agg [iA t,iA 0])),(100001,gB (eV h l))]} (S146 h l d (iA t) 0 0),decide (16<d)=false,(!decide (h.kind=6))=false]):=kr
theorem x61_0 (W:World) (h:JH) (l:List JV) (d t e m:Int) (i:Nat) (s:List UInt8) (h2:JH) (l2:List JV) (b2:Bool):sQ W {lp:=true,tl:=[65,70,69,105]} 61 0 [100000] [0,2,4,6] (S146 h l d (iA t) 0 i) [ee,cR (iA m) [],bt,bt,bt,bt,bt,bt,aE 2,oS (.str s),aE 1,oS (eV h2 l2),ee,cR (bA false) [],ee,cR (bA b2) [],bf,ee,cR (.tup []) (ckH .top (iA e)),ee]=.ok ((.normal,{t:=[(0,.gp 100000 0),(2,iA d),(4,.gp 100001 0),(6,iA (IntKind.i64.wrap ((i:Int)+1)))],h:=[(100000,gB (.agg [.top,iA e])),(100001,gB (eV h l)),(100002,gB (eV h2 l2))]}),[ee],MZ W 105 [.gp 100000 0,.str s,eV h2 l2,iA d] [(100000,gB (.agg [iA t,iA 0]))] (.ret (.tup []) [(100000,gB (.agg [.top,iA e]))])::(b2=false)::MZ W 69 [.str s] [] (.ret (bA b2) [])::MZ W 70 [.str s] [] (.ret (bA false) [])::((encVs l)[(i:Int).toNat]?=some (eV h2 l2))::((List.map AV.str h.names)[(i:Int).toNat]?=some (AV.str s))::(d6 (decide ((i:Int)<m)=true) [MZ W 65 [eV h l] [] (.ret (iA m) [])])):=kr
theorem g61x_0 (W:World) (h:JH) (l:List JV) (d t e m:Int) (i:Nat) (s:List UInt8) (h2:JH) (l2:List JV):sQ W {lp:=true,tl:=[65,70,69,105]} 61 0 [100000] [0,2,4,6] (S146 h l d (iA t) 0 i) [ee,cR (iA m) [],bt,bt,bt,bt,bt,bt,aE 2,oS (.str s),aE 1,oS (eV h2 l2),ee,cR (bA true) [],aE 1,bf,bf,bf,bf,bf,bf,ee,.loopM [] [] (S61i h2 l2 h l d (iA t) 0 i 0) (.exit 3) (S146 h l d .top e i),ee]=.ok ((.normal,{t:=[(0,.gp 100000 0),(2,iA d),(4,.gp 100001 0),(6,iA (IntKind.i64.wrap ((i:Int)+1)))],h:=[(100000,gB (.agg [.top,iA e])),(100001,gB (eV h l))]}),[ee],LZ W [100000] 61 1 (S61i h2 l2 h l d (iA t) 0 i 0) (.exit 3) (S146 h l d .top e i)::MatchK [100000] [] [] {t:=[(0,.gp 100000 0),(2,iA d),(4,.gp 100001 0),(6,iA (i:Int)),(8,.gp 100002 0),(9,iA 0)],h:=[(100000,gB (.agg [iA t,iA 0])),(100001,gB (eV h l)),(100002,gB (eV h2 l2))]} (S61i h2 l2 h l d (iA t) 0 i 0)::(decide ((↑(encVs l2).length:Int)=0)=false)::((!decide (h2.kind=5))=false)::(d4 ((!decide (h2.kind=5))=false) (MZ W 70 [.str s] [] (.ret (bA true) [])::((encVs l)[(i:Int).toNat]?=some (eV h2 l2))::((List.map AV.str h.names)[(i:Int).toNat]?=some (AV.str s))::(d6 (decide ((i:Int)<m)=true) [MZ W 65 [eV h l] [] (.ret (iA m) [])])))):=kr
theorem xi61_0 (W:World) (h:JH) (l:List JV) (d t e:Int) (i k:Nat) (h2:JH) (l2:List JV) (h3:JH) (l3:List JV):sQ W {lp:=true,tl:=[61]} 61 1 [100000] [0,2,4,6,8,9] (S61i h2 l2 h l d (iA t) 0 i k) [aE 6,bt,aE 1,oS (eV h3 l3),ee,cR (.tup []) (ckH .top (iA e)),ee]=.ok ((.normal,{t:=[(0,.gp 100000 0),(2,iA d),(4,.gp 100001 0),(6,iA (i:Int)),(8,.gp 100002 0),(9,iA (IntKind.i64.wrap ((k:Int)+1)))],h:=[(100000,gB (.agg [.top,iA e])),(100001,gB (eV h l)),(100002,gB (eV h2 l2))]}),[ee],[MZ W 61 [.gp 100000 0,eV h3 l3,iA (IntKind.i64.wrap (d+1))] [(100000,gB (.agg [iA t,iA 0]))] (.ret (.tup []) [(100000,gB (.agg [.top,iA e]))]),(encVs l2)[(k:Int).toNat]?=some (eV h3 l3),decide ((k:Int)<(↑(encVs l2).length:Int))=true]):=kr
theorem p16x_0 (W:World) (h:JH) (l:List JV) (e:Int):sF W {lp:=true,tl:=[61]} 16 [eV h l] [] 100000 [ee,cR (.tup []) [(100001,gB (.agg [.top,iA e]))],ee] []=.ok (.ret (.tup [iA e,.top]) [],[ee],[MZ W 61 [.gp 100001 0,eV h l,iA 0] [(100001,gB (.agg [iA 0,iA 0]))] (.ret (.tup []) [(100001,gB (.agg [.top,iA e]))])]):=kr
theorem h61k_0 (W:World) (h:JH) (l:List JV) (d t m:Int) (i:Nat) (s:List UInt8) (h2:JH) (l2:List JV):sQ W {lp:=true,tl:=[65,70]} 61 0 [100000] [0,2,4,6] (S146 h l d (iA t) 0 i) [ee,cR (iA m) [],bt,bt,bt,bt,bt,bt,aE 2,oS (.str s),aE 1,oS (eV h2 l2),ee,cR (bA true) [],aE 1,bt,bt,bt,bt,bt,ee,.loopM [] [] (S61i h2 l2 h l d .top 42 i 0) (.exit 3) (S146 h l d .top 42 i),ee]=.ok ((.normal,{t:=[(0,.gp 100000 0),(2,iA d),(4,.gp 100001 0),(6,iA (IntKind.i64.wrap ((i:Int)+1)))],h:=[(100000,gB (.agg [.top,iA 42])),(100001,gB (eV h l))]}),[ee],LZ W [100000] 61 1 (S61i h2 l2 h l d .top 42 i 0) (.exit 3) (S146 h l d .top 42 i)::MatchK [100000] [] [] {t:=[(0,.gp 100000 0),(2,iA d),(4,.gp 100001 0),(6,iA (i:Int)),(8,.gp 100002 0),(9,iA 0)],h:=[(100000,gB (.agg [iA t,iA 42])),(100001,gB (eV h l)),(100002,gB (eV h2 l2))]} (S61i h2 l2 h l d .top 42 i 0)::((!decide (h2.kind=5))=true)::(d4 ((!decide (h2.kind=5))=true) (MZ W 70 [.str s] [] (.ret (bA true) [])::((encVs l)[(i:Int).toNat]?=some (eV h2 l2))::((List.map AV.str h.names)[(i:Int).toNat]?=some (AV.str s))::(d6 (decide ((i:Int)<m)=true) [MZ W 65 [eV h l] [] (.ret (iA m) [])])))):=kr
theorem h61e_0 (W:World) (h:JH) (l:List JV) (d t m:Int) (i:Nat) (s:List UInt8) (h2:JH) (l2:List JV):sQ W {lp:=true,tl:=[65,70]} 61 0 [100000] [0,2,4,6] (S146 h l d (iA t) 0 i) [ee,cR (iA m) [],bt,bt,bt,bt,bt,bt,aE 2,oS (.str s),aE 1,oS (eV h2 l2),ee,cR (bA true) [],aE 1,bf,bf,bf,bf,bf,bt,ee,.loopM [] [] (S61i h2 l2 h l d .top 42 i 0) (.exit 3) (S146 h l d .top 42 i),ee]=.ok ((.normal,{t:=[(0,.gp 100000 0),(2,iA d),(4,.gp 100001 0),(6,iA (IntKind.i64.wrap ((i:Int)+1)))],h:=[(100000,gB (.agg [.top,iA 42])),(100001,gB (eV h l))]}),[ee],LZ W [100000] 61 1 (S61i h2 l2 h l d .top 42 i 0) (.exit 3) (S146 h l d .top 42 i)::MatchK [100000] [] [] {t:=[(0,.gp 100000 0),(2,iA d),(4,.gp 100001 0),(6,iA (i:Int)),(8,.gp 100002 0),(9,iA 0)],h:=[(100000,gB (.agg [iA t,iA 42])),(100001,gB (eV h l)),(100002,gB (eV h2 l2))]} (S61i h2 l2 h l d .top 42 i 0)::(decide ((↑(encVs l2).length:Int)=0)=true)::((!decide (h2.kind=5))=false)::(d4 ((!decide (h2.kind=5))=false) (MZ W 70 [.str s] [] (.ret (bA true) [])::((encVs l)[(i:Int).toNat]?=some (eV h2 l2))::((List.map AV.str h.names)[(i:Int).toNat]?=some (AV.str s))::(d6 (decide ((i:Int)<m)=true) [MZ W 65 [eV h l] [] (.ret (iA m) [])])))):=kr
theorem y146_0 (W:World) (h:JH) (l:List JV) (d t m:Int) (i:Nat):sQ W {lp:=true,tl:=[65]} 146 0 [100000] [] (S146 h l d (iA t) 0 i) [ee,cR (iA m) [],bf,bf,bf,bf,bf,bf,ee]=.ok ((.exit 0,{t:=[],h:=[(100000,gB (.agg [iA t,iA 0])),(100001,gB (eV h l))]}),[aE 9999999],d6 (decide ((i:Int)<m)=false) [MZ W 65 [eV h l] [] (.ret (iA m) [])]):=kr
theorem z146_0 (W:World) (h:JH) (l:List JV) (d t e m:Int) (i:Nat):sQ W {lp:=true,tl:=[65]} 146 0 [100000] [] (S146 h l d .top e i) [ee,cR (iA m) [],bt,bt,bt,bt,bt,bt,bf,ee]=.ok ((.exit 0,{t:=[],h:=[(100000,gB (.agg [.top,iA e])),(100001,gB (eV h l))]}),[ee],(decide (e=0)=false)::(d6 (decide ((i:Int)<m)=true) [MZ W 65 [eV h l] [] (.ret (iA m) [])])):=kr
theorem z146_1 (W:World) (h:JH) (l:List JV) (d t e m:Int) (i:Nat):sQ W {lp:=true,tl:=[65]} 146 0 [100000] [] (S146 h l d .top e i) [ee,cR (iA m) [],bf,bf,bf,bf,bf,bf,ee]=.ok ((.exit 0,{t:=[],h:=[(100000,gB (.agg [.top,iA e])),(100001,gB (eV h l))]}),[aE 9999999],d6 (decide ((i:Int)<m)=false) [MZ W 65 [eV h l] [] (.ret (iA m) [])]):=kr
theorem y61_0 (W:World) (h:JH) (l:List JV) (d t m:Int) (i:Nat):sQ W {lp:=true,tl:=[65]} 61 0 [100000] [] (S146 h l d (iA t) 0 i) [ee,cR (iA m) [],bf,bf,bf,bf,bf,bf,ee]=.ok ((.exit 0,{t:=[],h:=[(100000,gB (.agg [iA t,iA 0])),(100001,gB (eV h l))]}),[aE 9999999],d6 (decide ((i:Int)<m)=false) [MZ W 65 [eV h l] [] (.ret (iA m) [])]):=kr
theorem z61_0 (W:World) (h:JH) (l:List JV) (d t e m:Int) (i:Nat):sQ W {lp:=true,tl:=[65]} 61 0 [100000] [] (S146 h l d .top e i) [ee,cR (iA m) [],bt,bt,bt,bt,bt,bt,bf,ee]=.ok ((.exit 0,{t:=[],h:=[(100000,gB (.agg [.top,iA e])),(100001,gB (eV h l))]}),[ee],(decide (e=0)=false)::(d6 (decide ((i:Int)<m)=true) [MZ W 65 [eV h l] [] (.ret (iA m) [])])):=kr
theorem z61_1 (W:World) (h:JH) (l:List JV) (d t e m:Int) (i:Nat):sQ W {lp:=true,tl:=[65]} 61 0 [100000] [] (S146 h l d .top e i) [ee,cR (iA m) [],bf,bf,bf,bf,bf,bf,ee]=.ok ((.exit 0,{t:=[],h:=[(100000,gB (.agg [.top,iA e])),(100001,gB (eV h l))]}),[aE 9999999],d6 (decide ((i:Int)<m)=false) [MZ W 65 [eV h l] [] (.ret (iA m) [])]):=kr
theorem k61_0 (W:World) (h:JH) (l:List JV) (d t e:Int) (i k:Nat) (h2:JH) (l2:List JV):sQ W {lp:=true,tl:=[61]} 61 1 [100000] [0,2,4,6] (S61i h2 l2 h l d .top e i k) [bf,bf,bf,bf,bf,bf,ee]=.ok ((.exit 3,{t:=[(0,.gp 100000 0),(2,iA d),(4,.gp 100001 0),(6,iA (i:Int))],h:=[(100000,gB (.agg [.top,iA e])),(100001,gB (eV h l)),(100002,gB (eV h2 l2))]}),[aE 9999999],d6 (decide (e=0)=false) []):=kr
theorem o168_sEq_0 (W:World) (h:JH) (l:List JV) (d t:Int):sF W {lp:=true,tl:=[188,74,69,70,146,61]} 168 [.gp 100000 0,.str [36,101,113],eV h l,iA d] (ckH (iA t) (iA 0)) 100001 [ee] []=.ok (.ret (.tup []) [(100000,gB (.agg [iA t,iA 0]))],[aE 9999997],[]):=kr
theorem o168_sNe_0 (W:World) (h:JH) (l:List JV) (d t:Int):sF W {lp:=true,tl:=[188,74,69,70,146,61]} 168 [.gp 100000 0,.str [36,110,101],eV h l,iA d] (ckH (iA t) (iA 0)) 100001 [ee] []=.ok (.ret (.tup []) [(100000,gB (.agg [iA t,iA 0]))],[aE 9999996],[]):=kr
theorem o168_sGt_0 (W:World) (h:JH) (l:List JV) (d t:Int):sF W {lp:=true,tl:=[188,74,69,70,146,61]} 168 [.gp 100000 0,.str [36,103,116],eV h l,iA d] (ckH (iA t) (iA 0)) 100001 [ee] []=.ok (.ret (.tup []) [(100000,gB (.agg [iA t,iA 0]))],[aE 9999995],[]):=kr
theorem o168_sGte_0 (W:World) (h:JH) (l:List JV) (d t:Int):sF W {lp:=true,tl:=[188,74,69,70,146,61]} 168 [.gp 100000 0,.str [36,103,116,101],eV h l,iA d] (ckH (iA t) (iA 0)) 100001 [ee] []=.ok (.ret (.tup []) [(100000,gB (.agg [iA t,iA 0]))],[aE 9999994],[]):=kr
theorem o168_sLt_0 (W:World) (h:JH) (l:List JV) (d t:Int):sF W {lp:=true,tl:=[188,74,69,70,146,61]} 168 [.gp 100000 0,.str [36,108,116],eV h l,iA d] (ckH (iA t) (iA 0)) 100001 [ee] []=.ok (.ret (.tup []) [(100000,gB (.agg [iA t,iA 0]))],[aE 9999993],[]):=kr
theorem o168_sLte_0 (W:World) (h:JH) (l:List JV) (d t:Int):sF W {lp:=true,tl:=[188,74,69,70,146,61]} 168 [.gp 100000 0,.str [36,108,116,101],eV h l,iA d] (ckH (iA t) (iA 0)) 100001 [ee] []=.ok (.ret (.tup []) [(100000,gB (.agg [iA t,iA 0]))],[aE 9999993],[]):=kr
theorem o168_sIn_0 (W:World) (h:JH) (l:List JV) (d t:Int):sF W {lp:=true,tl:=[188,74,69,70,146,61]} 168 [.gp 100000 0,.str [36,105,110],eV h l,iA d] (ckH (iA t) (iA 0)) 100001 [aE 8,bt,ee] []=.ok (.ret (.tup []) [(100000,gB (.agg [iA t,iA 42]))],[aE 9999998],[(!decide (h.kind=5))=true]):=kr
theorem o168_sIn_1 (W:World) (h:JH) (l:List JV) (d t:Int):sF W {lp:=true,tl:=[188,74,69,70,146,61]} 168 [.gp 100000 0,.str [36,105,110],eV h l,iA d] (ckH (iA t) (iA 0)) 100001 [aE 8,bf,ee] []=.ok (.ret (.tup []) [(100000,gB (.agg [iA t,iA 0]))],[ee],[(!decide (h.kind=5))=false]):=kr
theorem o168_sNin_0 (W:World) (h:JH) (l:List JV) (d t:Int):sF W {lp:=true,tl:=[188,74,69,70,146,61]} 168 [.gp 100000 0,.str [36,110,105,110],eV h l,iA d] (ckH (iA t) (iA 0)) 100001 [aE 9,bt,ee] []=.ok (.ret (.tup []) [(100000,gB (.agg [iA t,iA 42]))],[aE 9999998],[(!decide (h.kind=5))=true]):=kr
theorem o168_sNin_1 (W:World) (h:JH) (l:List JV) (d t:Int):sF W {lp:=true,tl:=[188,74,69,70,146,61]} 168 [.gp 100000 0,.str [36,110,105,110],eV h l,iA d] (ckH (iA t) (iA 0)) 100001 [aE 9,bf,ee] []=.ok (.ret (.tup []) [(100000,gB (.agg [iA t,iA 0]))],[ee],[(!decide (h.kind=5))=false]):=kr
theorem o168_sAll_0 (W:World) (h:JH) (l:List JV) (d t:Int):sF W {lp:=true,tl:=[188,74,69,70,146,61]} 168 [.gp 100000 0,.str [36,97,108,108],eV h l,iA d] (ckH (iA t) (iA 0)) 100001 [aE 9,bt,ee] []=.ok (.ret (.tup []) [(100000,gB (.agg [iA t,iA 42]))],[aE 9999998],[(!decide (h.kind=5))=true]):=kr
theorem o168_sAll_1 (W:World) (h:JH) (l:List JV) (d t:Int):sF W {lp:=true,tl:=[188,74,69,70,146,61]} 168 [.gp 100000 0,.str [36,97,108,108],eV h l,iA d] (ckH (iA t) (iA 0)) 100001 [aE 9,bf,ee] []=.ok (.ret (.tup []) [(100000,gB (.agg [iA t,iA 0]))],[ee],[(!decide (h.kind=5))=false]):=kr
theorem o168_sExists_0 (W:World) (h:JH) (l:List JV) (d t:Int):sF W {lp:=true,tl:=[188,74,69,70,146,61]} 168 [.gp 100000 0,.str [36,101,120,105,115,116,115],eV h l,iA d] (ckH (iA t) (iA 0)) 100001 [aE 10,bt,bt,bt,bt,ee] []=.ok (.ret (.tup []) [(100000,gB (.agg [iA t,iA 0]))],[aE 9999999],d4 (decide (h.kind=1)=true) []):=kr
theorem o168_sExists_1 (W:World) (h:JH) (l:List JV) (d t:Int):sF W {lp:=true,tl:=[188,74,69,70,146,61]} 168 [.gp 100000 0,.str [36,101,120,105,115,116,115],eV h l,iA d] (ckH (iA t) (iA 0)) 100001 [aE 10,bf,bf,bf,bf,bt,ee] []=.ok (.ret (.tup []) [(100000,gB (.agg [iA t,iA 42]))],[aE 9999998],((!decide (h.kind=2))=true)::(d4 (decide (h.kind=1)=false) [])):=kr
theorem o168_sExists_2 (W:World) (h:JH) (l:List JV) (d t:Int):sF W {lp:=true,tl:=[188,74,69,70,146,61]} 168 [.gp 100000 0,.str [36,101,120,105,115,116,115],eV h l,iA d] (ckH (iA t) (iA 0)) 100001 [aE 10,bf,bf,bf,bf,bf,ee] []=.ok (.ret (.tup []) [(100000,gB (.agg [iA t,iA 0]))],[ee],((!decide (h.kind=2))=false)::(d4 (decide (h.kind=1)=false) [])):=kr
theorem o168_sType_0 (W:World) (h:JH) (l:List JV) (d t:Int):sF W {lp:=true,tl:=[188,74,69,70,146,61]} 168 [.gp 100000 0,.str [36,116,121,112,101],eV h l,iA d] (ckH (iA t) (iA 0)) 100001 [aE 11,bt,bt,bt,ee,cR (iA (typeN h.text)) [],bt,bt,bt,ee] []=.ok (.ret (.tup []) [(100000,gB (.agg [iA t,iA 42]))],[aE 9999998],((!decide (0<=typeN h.text))=true)::(d2 (decide (h.kind=4)=true) (MZ W 188 [.str h.3] [] (.ret (iA (typeN h.text)) [])::(d3 (decide (h.kind=4)=true) [])))):=kr
theorem o168_sType_1 (W:World) (h:JH) (l:List JV) (d t:Int):sF W {lp:=true,tl:=[188,74,69,70,146,61]} 168 [.gp 100000 0,.str [36,116,121,112,101],eV h l,iA d] (ckH (iA t) (iA 0)) 100001 [aE 11,bt,bt,bt,ee,cR (iA (typeN h.text)) [],bt,bt,bf,ee] []=.ok (.ret (.tup []) [(100000,gB (.agg [iA t,iA 0]))],[ee],((!decide (0<=typeN h.text))=false)::(d2 (decide (h.kind=4)=true) (MZ W 188 [.str h.3] [] (.ret (iA (typeN h.text)) [])::(d3 (decide (h.kind=4)=true) [])))):=kr
theorem o168_sType_2 (W:World) (h:JH) (l:List JV) (d t:Int):sF W {lp:=true,tl:=[188,74,69,70,146,61]} 168 [.gp 100000 0,.str [36,116,121,112,101],eV h l,iA d] (ckH (iA t) (iA 0)) 100001 [aE 11,bf,bf,bf,bf,bf,ee] []=.ok (.ret (.tup []) [(100000,gB (.agg [iA t,iA 42]))],[aE 9999997],(decide (h.kind=4)=false)::(d4 (decide (h.kind=4)=false) [])):=kr
theorem o168_sSize_0 (W:World) (h:JH) (l:List JV) (d t:Int):sF W {lp:=true,tl:=[188,74,69,70,146,61]} 168 [.gp 100000 0,.str [36,115,105,122,101],eV h l,iA d] (ckH (iA t) (iA 0)) 100001 [aE 12,bt,bt,bt,bt,bt,ee] []=.ok (.ret (.tup []) [(100000,gB (.agg [iA t,iA 42]))],[aE 9999998],((!decide (0<=h.int))=true)::(d4 (decide (h.kind=3)=true) [])):=kr
theorem o168_sSize_1 (W:World) (h:JH) (l:List JV) (d t:Int):sF W {lp:=true,tl:=[188,74,69,70,146,61]} 168 [.gp 100000 0,.str [36,115,105,122,101],eV h l,iA d] (ckH (iA t) (iA 0)) 100001 [aE 12,bt,bt,bt,bt,bf,ee] []=.ok (.ret (.tup []) [(100000,gB (.agg [iA t,iA 0]))],[ee],((!decide (0<=h.int))=false)::(d4 (decide (h.kind=3)=true) [])):=kr
theorem o168_sSize_2 (W:World) (h:JH) (l:List JV) (d t:Int):sF W {lp:=true,tl:=[188,74,69,70,146,61]} 168 [.gp 100000 0,.str [36,115,105,122,101],eV h l,iA d] (ckH (iA t) (iA 0)) 100001 [aE 12,bf,bf,bf,bf,ee] []=.ok (.ret (.tup []) [(100000,gB (.agg [iA t,iA 42]))],[aE 9999997],d4 (decide (h.kind=3)=false) []):=kr
theorem o168_sMod_0 (W:World) (h:JH) (l:List JV) (d t:Int) (h3:JH) (l3:List JV) (h4:JH) (l4:List JV):sF W {lp:=true,tl:=[188,74,69,70,146,61]} 168 [.gp 100000 0,.str [36,109,111,100],eV h l,iA d] (ckH (iA t) (iA 0)) 100001 [aE 13,bt,bt,bt,bt,bt,bt,bt,bt,aE 1,oS (eV h3 l3),bt,bt,bt,bt,bt,bt,bt,aE 1,oS (eV h4 l4),bt,bt,bt,bt,bt,bt,bt,aE 1,oS (eV h3 l3),bt,bt,bt,bt,bt,ee] []=.ok (.ret (.tup []) [(100000,gB (.agg [iA t,iA 42]))],[aE 9999998],((!!decide (h3.int=0))=true)::(d4 (decide (h4.kind=3)=true) (((encVs l)[0]?=some (eV h3 l3))::(d3 (decide (h4.kind=3)=true) (d4 (decide (h3.kind=3)=true) (((encVs l)[1]?=some (eV h4 l4))::(d3 (decide (h3.kind=3)=true) (d4 (decide ((↑(encVs l).length:Int)=2)=true) (((encVs l)[0]?=some (eV h3 l3))::(d3 (decide ((↑(encVs l).length:Int)=2)=true) ((decide (h.kind=5)=true)::(d4 (decide (h.kind=5)=true) [])))))))))))):=kr
theorem o168_sMod_1 (W:World) (h:JH) (l:List JV) (d t:Int) (h3:JH) (l3:List JV) (h4:JH) (l4:List JV):sF W {lp:=true,tl:=[188,74,69,70,146,61]} 168 [.gp 100000 0,.str [36,109,111,100],eV h l,iA d] (ckH (iA t) (iA 0)) 100001 [aE 13,bt,bt,bt,bt,bt,bt,bt,bt,aE 1,oS (eV h3 l3),bt,bt,bt,bt,bt,bt,bt,aE 1,oS (eV h4 l4),bt,bt,bt,bt,bt,bt,bt,aE 1,oS (eV h3 l3),bt,bt,bt,bt,bf,ee] []=.ok (.ret (.tup []) [(100000,gB (.agg [iA t,iA 0]))],[ee],((!!decide (h3.int=0))=false)::(d4 (decide (h4.kind=3)=true) (((encVs l)[0]?=some (eV h3 l3))::(d3 (decide (h4.kind=3)=true) (d4 (decide (h3.kind=3)=true) (((encVs l)[1]?=some (eV h4 l4))::(d3 (decide (h3.kind=3)=true) (d4 (decide ((↑(encVs l).length:Int)=2)=true) (((encVs l)[0]?=some (eV h3 l3))::(d3 (decide ((↑(encVs l).length:Int)=2)=true) ((decide (h.kind=5)=true)::(d4 (decide (h.kind=5)=true) [])))))))))))):=kr
theorem o168_sMod_2 (W:World) (h:JH) (l:List JV) (d t:Int) (h3:JH) (l3:List JV) (h4:JH) (l4:List JV):sF W {lp:=true,tl:=[188,74,69,70,146,61]} 168 [.gp 100000 0,.str [36,109,111,100],eV h l,iA d] (ckH (iA t) (iA 0)) 100001 [aE 13,bt,bt,bt,bt,bt,bt,bt,bt,aE 1,oS (eV h3 l3),bt,bt,bt,bt,bt,bt,bt,aE 1,oS (eV h4 l4),bt,bt,bt,bt,bf,bf,bf,bf,bf,bf,bf,ee] []=.ok (.ret (.tup []) [(100000,gB (.agg [iA t,iA 42]))],[aE 9999997],(decide (h4.kind=3)=false)::(d6 (decide (h4.kind=3)=false) (d4 (decide (h3.kind=3)=true) (((encVs l)[1]?=some (eV h4 l4))::(d3 (decide (h3.kind=3)=true) (d4 (decide ((↑(encVs l).length:Int)=2)=true) (((encVs l)[0]?=some (eV h3 l3))::(d3 (decide ((↑(encVs l).length:Int)=2)=true) ((decide (h.kind=5)=true)::(d4 (decide (h.kind=5)=true) [])))))))))):=kr
theorem o168_sMod_3 (W:World) (h:JH) (l:List JV) (d t:Int) (h3:JH) (l3:List JV):sF W {lp:=true,tl:=[188,74,69,70,146,61]} 168 [.gp 100000 0,.str [36,109,111,100],eV h l,iA d] (ckH (iA t) (iA 0)) 100001 [aE 13,bt,bt,bt,bt,bt,bt,bt,bt,aE 1,oS (eV h3 l3),bt,bt,bt,bt,bf,bf,bf,bf,bf,bf,bf,ee] []=.ok (.ret (.tup []) [(100000,gB (.agg [iA t,iA 42]))],[aE 9999990],(decide (h3.kind=3)=false)::(d6 (decide (h3.kind=3)=false) (d4 (decide ((↑(encVs l).length:Int)=2)=true) (((encVs l)[0]?=some (eV h3 l3))::(d3 (decide ((↑(encVs l).length:Int)=2)=true) ((decide (h.kind=5)=true)::(d4 (decide (h.kind=5)=true) []))))))):=kr
theorem o168_sMod_4 (W:World) (h:JH) (l:List JV) (d t:Int):sF W {lp:=true,tl:=[188,74,69,70,146,61]} 168 [.gp 100000 0,.str [36,109,111,100],eV h l,iA d] (ckH (iA t) (iA 0)) 100001 [aE 13,bt,bt,bt,bt,bt,bf,bf,bf,bf,bf,bf,bf,ee] []=.ok (.ret (.tup []) [(100000,gB (.agg [iA t,iA 42]))],[aE 9999983],(decide ((↑(encVs l).length:Int)=2)=false)::(d6 (decide ((↑(encVs l).length:Int)=2)=false) ((decide (h.kind=5)=true)::(d4 (decide (h.kind=5)=true) [])))):=kr
theorem o168_sMod_5 (W:World) (h:JH) (l:List JV) (d t:Int):sF W {lp:=true,tl:=[188,74,69,70,146,61]} 168 [.gp 100000 0,.str [36,109,111,100],eV h l,iA d] (ckH (iA t) (iA 0)) 100001 [aE 13,bf,bf,bf,bf,bf,ee] []=.ok (.ret (.tup []) [(100000,gB (.agg [iA t,iA 42]))],[aE 9999976],(decide (h.kind=5)=false)::(d4 (decide (h.kind=5)=false) [])):=kr
theorem o168_sNot_0 (W:World) (h:JH) (l:List JV) (d t t2:Int):sF W {lp:=true,tl:=[188,74,69,70,146,61]} 168 [.gp 100000 0,.str [36,110,111,116],eV h l,iA d] (ckH (iA t) (iA 0)) 100001 [ee,cR (.tup []) (ckH (iA t2) (iA 0)),ee] []=.ok (.ret (.tup []) [(100000,gB (.agg [iA t2,iA 0]))],[aE 9999999],[MZ W 146 [.gp 100000 0,eV h l,iA (IntKind.i64.wrap (d+1))] [(100000,gB (.agg [iA t,iA 0]))] (.ret (.tup []) [(100000,gB (.agg [iA t2,iA 0]))])]):=kr
theorem x168_sNot_0 (W:World) (h:JH) (l:List JV) (d t e:Int):sF W {lp:=true,tl:=[188,74,69,70,146,61]} 168 [.gp 100000 0,.str [36,110,111,116],eV h l,iA d] (ckH (iA t) (iA 0)) 100001 [ee,cR (.tup []) (ckH .top (iA e)),ee] []=.ok (.ret (.tup []) [(100000,gB (.agg [.top,iA e]))],[aE 9999999],[MZ W 146 [.gp 100000 0,eV h l,iA (IntKind.i64.wrap (d+1))] [(100000,gB (.agg [iA t,iA 0]))] (.ret (.tup []) [(100000,gB (.agg [.top,iA e]))])]):=kr
theorem o168_sElem_0 (W:World) (h:JH) (l:List JV) (d t t2:Int) (b b2:Bool):sF W {lp:=true,tl:=[188,74,69,70,146,61]} 168 [.gp 100000 0,.str [36,101,108,101,109,77,97,116,99,104],eV h l,iA d] (ckH (iA t) (iA 0)) 100001 [ee,cR (.str (firstS (JV.mk h l))) [],ee,cR (bA b) [],bt,bt,ee,cR (.str (firstS (JV.mk h l))) [],bt,ee,cR (bA b2) [],bt,bt,bt,ee,cR (.tup []) (ckH (iA t2) (iA 0)),ee] []=.ok (.ret (.tup []) [(100000,gB (.agg [iA t2,iA 0]))],[aE 9999999],[MZ W 146 [.gp 100000 0,eV h l,iA (IntKind.i64.wrap (d+1))] [(100000,gB (.agg [iA t,iA 0]))] (.ret (.tup []) [(100000,gB (.agg [iA t2,iA 0]))]),(!b2)=true,b=true,b=true,MZ W 70 [.str (firstS (JV.mk h l))] [] (.ret (bA b2) []),b=true,MZ W 74 [eV h l] [] (.ret (.str (firstS (JV.mk h l))) []),b=true,b=true,MZ W 69 [.str (firstS (JV.mk h l))] [] (.ret (bA b) []),MZ W 74 [eV h l] [] (.ret (.str (firstS (JV.mk h l))) [])]):=kr
theorem o168_sElem_1 (W:World) (h:JH) (l:List JV) (d t t2:Int) (b b2:Bool):sF W {lp:=true,tl:=[188,74,69,70,146,61]} 168 [.gp 100000 0,.str [36,101,108,101,109,77,97,116,99,104],eV h l,iA d] (ckH (iA t) (iA 0)) 100001 [ee,cR (.str (firstS (JV.mk h l))) [],ee,cR (bA b) [],bt,bt,ee,cR (.str (firstS (JV.mk h l))) [],bt,ee,cR (bA b2) [],bt,bt,bf,ee,cR (.tup []) (ckH (iA t2) (iA 0)),ee] []=.ok (.ret (.tup []) [(100000,gB (.agg [iA t2,iA 0]))],[aE 9999999],[MZ W 61 [.gp 100000 0,eV h l,iA (IntKind.i64.wrap (d+1))] [(100000,gB (.agg [iA t,iA 0]))] (.ret (.tup []) [(100000,gB (.agg [iA t2,iA 0]))]),(!b2)=false,b=true,b=true,MZ W 70 [.str (firstS (JV.mk h l))] [] (.ret (bA b2) []),b=true,MZ W 74 [eV h l] [] (.ret (.str (firstS (JV.mk h l))) []),b=true,b=true,MZ W 69 [.str (firstS (JV.mk h l))] [] (.ret (bA b) []),MZ W 74 [eV h l] [] (.ret (.str (firstS (JV.mk h l))) [])]):=kr
theorem o168_sElem_2 (W:World) (h:JH) (l:List JV) (d t t2:Int) (b:Bool):sF W {lp:=true,tl:=[188,74,69,70,146,61]} 168 [.gp 100000 0,.str [36,101,108,101,109,77,97,116,99,104],eV h l,iA d] (ckH (iA t) (iA 0)) 100001 [ee,cR (.str (firstS (JV.mk h l))) [],ee,cR (bA b) [],bf,bf,bf,bf,bf,ee,cR (.tup []) (ckH (iA t2) (iA 0)),ee] []=.ok (.ret (.tup []) [(100000,gB (.agg [iA t2,iA 0]))],[aE 9999999],[MZ W 61 [.gp 100000 0,eV h l,iA (IntKind.i64.wrap (d+1))] [(100000,gB (.agg [iA t,iA 0]))] (.ret (.tup []) [(100000,gB (.agg [iA t2,iA 0]))]),b=false,b=false,b=false,b=false,b=false,MZ W 69 [.str (firstS (JV.mk h l))] [] (.ret (bA b) []),MZ W 74 [eV h l] [] (.ret (.str (firstS (JV.mk h l))) [])]):=kr
theorem x168_sElem_0 (W:World) (h:JH) (l:List JV) (d t e:Int) (b b2:Bool):sF W {lp:=true,tl:=[188,74,69,70,146,61]} 168 [.gp 100000 0,.str [36,101,108,101,109,77,97,116,99,104],eV h l,iA d] (ckH (iA t) (iA 0)) 100001 [ee,cR (.str (firstS (JV.mk h l))) [],ee,cR (bA b) [],bt,bt,ee,cR (.str (firstS (JV.mk h l))) [],bt,ee,cR (bA b2) [],bt,bt,bt,ee,cR (.tup []) (ckH .top (iA e)),ee] []=.ok (.ret (.tup []) [(100000,gB (.agg [.top,iA e]))],[aE 9999999],[MZ W 146 [.gp 100000 0,eV h l,iA (IntKind.i64.wrap (d+1))] [(100000,gB (.agg [iA t,iA 0]))] (.ret (.tup []) [(100000,gB (.agg [.top,iA e]))]),(!b2)=true,b=true,b=true,MZ W 70 [.str (firstS (JV.mk h l))] [] (.ret (bA b2) []),b=true,MZ W 74 [eV h l] [] (.ret (.str (firstS (JV.mk h l))) []),b=true,b=true,MZ W 69 [.str (firstS (JV.mk h l))] [] (.ret (bA b) []),MZ W 74 [eV h l] [] (.ret (.str (firstS (JV.mk h l))) [])]):=kr
theorem x168_sElem_1 (W:World) (h:JH) (l:List JV) (d t e:Int) (b b2:Bool):sF W {lp:=true,tl:=[188,74,69,70,146,61]} 168 [.gp 100000 0,.str [36,101,108,101,109,77,97,116,99,104],eV h l,iA d] (ckH (iA t) (iA 0)) 100001 [ee,cR (.str (firstS (JV.mk h l))) [],ee,cR (bA b) [],bt,bt,ee,cR (.str (firstS (JV.mk h l))) [],bt,ee,cR (bA b2) [],bt,bt,bf,ee,cR (.tup []) (ckH .top (iA e)),ee] []=.ok (.ret (.tup []) [(100000,gB (.agg [.top,iA e]))],[aE 9999999],[MZ W 61 [.gp 100000 0,eV h l,iA (IntKind.i64.wrap (d+1))] [(100000,gB (.agg [iA t,iA 0]))] (.ret (.tup []) [(100000,gB (.agg [.top,iA e]))]),(!b2)=false,b=true,b=true,MZ W 70 [.str (firstS (JV.mk h l))] [] (.ret (bA b2) []),b=true,MZ W 74 [eV h l] [] (.ret (.str (firstS (JV.mk h l))) []),b=true,b=true,MZ W 69 [.str (firstS (JV.mk h l))] [] (.ret (bA b) []),MZ W 74 [eV h l] [] (.ret (.str (firstS (JV.mk h l))) [])]):=kr
theorem x168_sElem_2 (W:World) (h:JH) (l:List JV) (d t e:Int) (b:Bool):sF W {lp:=true,tl:=[188,74,69,70,146,61]} 168 [.gp 100000 0,.str [36,101,108,101,109,77,97,116,99,104],eV h l,iA d] (ckH (iA t) (iA 0)) 100001 [ee,cR (.str (firstS (JV.mk h l))) [],ee,cR (bA b) [],bf,bf,bf,bf,bf,ee,cR (.tup []) (ckH .top (iA e)),ee] []=.ok (.ret (.tup []) [(100000,gB (.agg [.top,iA e]))],[aE 9999999],[MZ W 61 [.gp 100000 0,eV h l,iA (IntKind.i64.wrap (d+1))] [(100000,gB (.agg [iA t,iA 0]))] (.ret (.tup []) [(100000,gB (.agg [.top,iA e]))]),b=false,b=false,b=false,b=false,b=false,MZ W 69 [.str (firstS (JV.mk h l))] [] (.ret (bA b) []),MZ W 74 [eV h l] [] (.ret (.str (firstS (JV.mk h l))) [])]):=kr
theorem u168_0 (W:World) (h:JH) (l:List JV) (d t:Int) (s:List UInt8):sF W {lp:=true,tl:=[188,74,69,70,146,61]} 168 [.gp 100000 0,.str s,eV h l,iA d] (ckH (iA t) (iA 0)) 100001 [bf,bf,bf,bf,bf,bf,bf,bf,bf,bf,bf,bf,bf,bf,bf,ee] []=.ok (.ret (.tup []) [(100000,gB (.agg [iA t,iA 41]))],[aE 9999997],[decide (s=[36,101,108,101,109,77,97,116,99,104])=false,decide (s=[36,110,111,116])=false,decide (s=[36,109,111,100])=false,decide (s=[36,115,105,122,101])=false,decide (s=[36,116,121,112,101])=false,decide (s=[36,101,120,105,115,116,115])=false,decide (s=[36,97,108,108])=false,decide (s=[36,110,105,110])=false,decide (s=[36,105,110])=false,decide (s=[36,108,116,101])=false,decide (s=[36,108,116])=false,decide (s=[36,103,116,101])=false,decide (s=[36,103,116])=false,decide (s=[36,110,101])=false,decide (s=[36,101,113])=false]):=kr
theorem call65:callable Tryz.prog 65=true:=kr
theorem call74:callable Tryz.prog 74=true:=kr
theorem call69:callable Tryz.prog 69=true:=kr
theorem call70:callable Tryz.prog 70=true:=kr
theorem call188:callable Tryz.prog 188=true:=kr
theorem call105:callable Tryz.prog 105=true:=kr
theorem call146:callable Tryz.prog 146=true:=kr
theorem call61:callable Tryz.prog 61=true:=kr
theorem call168:callable Tryz.prog 168=true:=kr
theorem call16:callable Tryz.prog 16=true:=kr
def ckO:Except Int Int->OutC
 | .ok t=>.ret (.tup []) (ckH (iA t) (iA 0))
 | .error e=>.ret (.tup []) (ckH .top (iA e))
theorem foldX_err {α:Type} {f:α->Int->Except Int Int}:∀ {l:List α},(∀ a ∈ l,∀ u e,f a u=.error e->e ≠ 0)->∀ {t e:Int},foldX f l t=.error e->e ≠ 0
 | [],_,t,e,h=>by simp only [foldX] at h;cases h
 | a::l,hf,t,e,h=>by
  simp only [foldX] at h
  split at h
  ·exact foldX_err (fun b hb=>hf b (by simp [hb])) h
  ·rename_i e1 h1;cases h;exact hf a (by simp) _ _ h1
theorem chk_err:∀ n,(∀ v d t e,chkT n v d t=.error e->e ≠ 0)/\(∀ v d t e,chkQ n v d t=.error e->e ≠ 0)
 | 0=>⟨fun v d t e h=>(by rw [chkT] at h;cases h),fun v d t e h=>(by rw [chkQ] at h;cases h)⟩
 | n+1=>by
  obtain ⟨iT,iQ⟩:=chk_err n
  refine ⟨fun v d t e h=>?_,fun v d t e h=>?_⟩
  ·rw [chkT] at h
   split at h
   ·cases h;decide
   split at h
   ·cases h;decide
   refine foldX_err (fun p hp u e hu=>?_) h
   split at hu
   ·cases hu;decide
   split at hu
   ·cases hu;decide
   split at hu
   ·cases hu;decide
   split at hu
   ·exact iT _ _ _ _ hu
   split at hu
   ·split at hu
    ·exact iT _ _ _ _ hu
    ·exact iQ _ _ _ _ hu
   ·cases hu
  ·rw [chkQ] at h
   split at h
   ·cases h;decide
   split at h
   ·cases h;decide
   refine foldX_err (fun p hp u e hu=>?_) h
   split at hu
   ·split at hu
    ·cases hu;decide
    ·exact foldX_err (fun y hy u e hu=>iQ _ _ _ _ hu) hu
   split at hu
   ·cases hu;decide
   split at hu
   ·cases hu;decide
   split at hu
   ·exact iT _ _ _ _ hu
   split at hu
   ·cases hu;decide
   ·cases hu
section
variable (W:World)
theorem err_of {f:FuncId} {As:List AV} {t t1 e:Int} (h:MutC Tryz.prog W f As (ckH (iA t) (iA 0)) (.ret (.tup []) [(100000,.box (.agg [iA t1,iA e]) .own)])):MutC Tryz.prog W f As (ckH (iA t) (iA 0)) (ckO (.error e)):=mut_match [] [] h Fb15_z1
theorem members65 (v:JV):Pure Tryz.prog W 65 [encV v] (iA (v.mem:Nat)):=by
 obtain ⟨h,l⟩:=v
 rw [mem_mk]
 by_cases q:(h.names.length:Int)<(l.length:Int)
 ·refine goB (iA_inj ?_) rfl (mut_of_sfun mixedz call65 rfl (p65_0 W h l) Fb15_z2)
  rw [if_neg (by omega),List.length_map]
 ·refine goB (iA_inj ?_) rfl (mut_of_sfun mixedz call65 rfl (p65_1 W h l) Fb15_z2)
  rw [encVs_len];split<;>omega
theorem first74 (v:JV):Pure Tryz.prog W 74 [encV v] (.str (firstS v)):=by
 obtain ⟨h,l⟩:=v
 rw [first_mk]
 by_cases k:h.kind=6
 case neg =>
  have hb1:(!decide (h.kind=6))=true:=by rw [decide_eq_false k];rfl
  rw [if_neg k];exact pure_of_mut rfl (mut_of_sfun mixedz call74 rfl (p74_0 W h l) Fb15_z2)
 have hb1:(!decide (h.kind=6))=false:=by rw [decide_eq_true k];rfl
 rw [if_pos k]
 obtain ⟨k1,i1,t1,n1⟩:=h
 by_cases q:(n1.length:Int)<(l.length:Int)
 ·cases n1 with
  | nil=>exact pure_of_mut rfl (mut_of_sfun mixedz call74 rfl (p74_1 W ⟨k1,i1,t1,[]⟩ l) Fb15_z2)
  | cons a r =>
   cases l with
   | nil=>exfalso;simp only [List.length_cons,List.length_nil] at q;omega
   | cons b l =>
    have hget:(List.map AV.str (a::r))[0]?=some (AV.str a):=rfl
    exact pure_of_mut rfl (mut_of_sfun mixedz call74 rfl (p74_2 W ⟨k1,i1,t1,a::r⟩ (b::l) a) Fb15_z2)
 ·cases l with
  | nil =>
   have:n1.zip ([]:List JV)=[]:=by cases n1<;>rfl
   rw [this]
   exact pure_of_mut rfl (mut_of_sfun mixedz call74 rfl (p74_3 W ⟨k1,i1,t1,n1⟩ []) Fb15_z2)
  | cons b l =>
   cases n1 with
   | nil=>exfalso;simp only [List.length_cons,List.length_nil] at q;omega
   | cons a r =>
    have hget:(List.map AV.str (a::r))[0]?=some (AV.str a):=rfl
    exact pure_of_mut rfl (mut_of_sfun mixedz call74 rfl (p74_4 W ⟨k1,i1,t1,a::r⟩ (b::l) a) Fb15_z2)
theorem joins70 (s:List UInt8):Pure Tryz.prog W 70 [.str s] (bA (joinsB s)):=by
 by_cases e1:s=sAnd
 ·have e1':s=[36,97,110,100]:=e1
  exact goB (bA_inj (by simp [joinsB,e1])) rfl (mut_of_sfun mixedz call70 rfl (p70_0 W s) Fb15_z2)
 have e1':¬ s=[36,97,110,100]:=e1
 by_cases e2:s=sOr
 ·have e2':s=[36,111,114]:=e2
  exact goB (bA_inj (by simp [joinsB,e2])) rfl (mut_of_sfun mixedz call70 rfl (p70_1 W s) Fb15_z2)
 have e2':¬ s=[36,111,114]:=e2
 refine goB (bA_inj ?_) rfl (mut_of_sfun mixedz call70 rfl (p70_2 W s) Fb15_z2)
 rw [joinsB,decide_eq_false e1,decide_eq_false e2];rfl
theorem dollar69 (s:List UInt8):Pure Tryz.prog W 69 [.str s] (bA (dollarB s)):=by
 cases s with
 | nil=>exact pure_of_mut rfl (mut_of_sfun mixedz call69 rfl (p69_1 W []) Fb15_z2)
 | cons c s =>
  have hget:(c::s)[0]?=some c:=rfl
  refine goB (bA_inj ?_) rfl (mut_of_sfun mixedz call69 rfl (p69_0 W (c::s) c) Fb15_z2)
  rw [dollarB,Bool.eq_iff_iff,decide_eq_true_eq,decide_eq_true_eq,u8_eq c 36 36 rfl];simp
theorem type188 (s:List UInt8):Pure Tryz.prog W 188 [.str s] (iA (typeN s)):=by
 by_cases e0:s=[110,117,108,108]
 case pos =>
  have f0:=e0.symm
  exact goB (iA_inj (by unfold typeN;rw [if_pos e0])) rfl (mut_of_sfun mixedz call188 rfl (p188_0 W s) Fb15_z2)
 have f0:¬ [110,117,108,108]=s:=fun q=>e0 q.symm
 by_cases e1:s=[98,111,111,108]
 case pos =>
  have f1:=e1.symm
  exact goB (iA_inj (by unfold typeN;rw [if_neg e0,if_pos e1])) rfl (mut_of_sfun mixedz call188 rfl (p188_1 W s) Fb15_z2)
 have f1:¬ [98,111,111,108]=s:=fun q=>e1 q.symm
 by_cases e2:s=[105,110,116]
 case pos =>
  have f2:=e2.symm
  exact goB (iA_inj (by unfold typeN;rw [if_neg e0,if_neg e1,if_pos e2])) rfl (mut_of_sfun mixedz call188 rfl (p188_2 W s) Fb15_z2)
 have f2:¬ [105,110,116]=s:=fun q=>e2 q.symm
 by_cases e3:s=[115,116,114,105,110,103]
 case pos =>
  have f3:=e3.symm
  exact goB (iA_inj (by unfold typeN;rw [if_neg e0,if_neg e1,if_neg e2,if_pos e3])) rfl (mut_of_sfun mixedz call188 rfl (p188_3 W s) Fb15_z2)
 have f3:¬ [115,116,114,105,110,103]=s:=fun q=>e3 q.symm
 by_cases e4:s=[97,114,114,97,121]
 case pos =>
  have f4:=e4.symm
  exact goB (iA_inj (by unfold typeN;rw [if_neg e0,if_neg e1,if_neg e2,if_neg e3,if_pos e4])) rfl (mut_of_sfun mixedz call188 rfl (p188_4 W s) Fb15_z2)
 have f4:¬ [97,114,114,97,121]=s:=fun q=>e4 q.symm
 by_cases e5:s=[111,98,106,101,99,116]
 case pos =>
  have f5:=e5.symm
  exact goB (iA_inj (by unfold typeN;rw [if_neg e0,if_neg e1,if_neg e2,if_neg e3,if_neg e4,if_pos e5])) rfl (mut_of_sfun mixedz call188 rfl (p188_5 W s) Fb15_z2)
 have f5:¬ [111,98,106,101,99,116]=s:=fun q=>e5 q.symm
 exact goB (iA_inj (by unfold typeN;rw [if_neg e0,if_neg e1,if_neg e2,if_neg e3,if_neg e4,if_neg e5])) rfl (mut_of_sfun mixedz call188 rfl (p188_6 W s) Fb15_z2)
end
end Go.Ac

