/- The functions of the translation over the abstract machine -/
import Derived.Test.YtjmhpjoedfegkaaGreatDoorRwGx
open Option renaming some->b
open Bool renaming true->c,false->a
open Go.Proofs.Tryz
namespace Go.Am
open Go.Proofs
set_option maxRecDepth 100000
noncomputable abbrev Ce (f n:Nat):=Y7 cfg (Za cfg) (ZT cfg (cfg.keep f) n) (cfg.keep f) n Zc Z7
noncomputable abbrev ZBm (f n:Nat):=ZT cfg (cfg.keep f) n
noncomputable section
abbrev ZAX (f n:Nat)(F:Func)(p:Nat):KL->AL->Hp->Z3:=λk h H=>Ce f n (sub (Z1 F) (dx p)) k (Y3 (cfg.keep f) (sub (Z1 F) (dx p)) h) H
variable (V O x v Y t J U Q I W:AV)(X H:Hp)
noncomputable abbrev c8 (f n:Nat)(F:Func)(p:Nat)(G:Hp):=λk K=>Ce f n (sub (Z1 F) (dx p)) (Zd cfg n f F G) k K
def Zbd:Z3:=c8 15 41 f15 127 X [(10,W)] H
def Zbc:Z3:=c8 15 41 f15 63 X [(0,Y),(10,W)] H
def Zbb:Z3:=c8 15 41 f15 31 X [(0,Y),(3,J),(5,U),(6,Q),(10,W)] H
def Zba:Z3:=c8 15 41 f15 7 X [(0,Y),(3,J),(5,U),(6,Q)] H
def ZdP:Z3:=
 Z0 (ZY O H) λu=>
 Z0 (ZY x u.2) λh=>
 Z0 (Y5 (.pointer 90) .eql V .nilp) λj=>
 Zh j
 (b ((.tuple [(.str []),(.int .i64 5)]),h.2))
 (Zba V v u.1 h.1 H h.2)
theorem Zhp:Zbd W X H =
 b ((.tuple [W,(.int .i64 0)]),H):=Z9 [3,6,9,12]
theorem IM:Zbc Y W X H =
 Z0 (V6 [Y,W] H) λh=>
 Z0 (Z2 .neq h.1 (.int .i64 0)) λj=>
 Zh j
 (b ((.tuple [(.str []),h.1]),h.2))
 (Zbd W X h.2):=Z9 [3,6,9,12]
theorem P1:Zbb Y J U Q W X H =
 Z0 (Z4 c 6 U H) λu=>
 Z0 (Z4 c 5 Q H) λw=>
 Z0 (Ze Sy [u,w,J] H) λj=>
 Z0 (WO [Y,W,j.1] j.2) λh=>
 Z0 (Z2 .neq h.1 (.int .i64 0)) λy=>
 Zh y
 (b ((.tuple [(.str []),h.1]),h.2))
 (Zbc Y W X h.2):=Z9 [3,6,9,12]
theorem Gv:Zba Y J U Q X H =
 Z0 (Vx [Y] H) λh=>
 Z0 (ZK h.1 0) λu=>
 Z0 (ZK h.1 1) λj=>
 Z0 (Z2 .neq j (.int .i64 0)) λw=>
 Zh w
 (b ((.tuple [(.str []),j]),h.2))
 (Zbb Y J U Q u X h.2):=Z9 [3,6,9,12]
theorem Zje:OG [V,O,x,v] H=ZdP V O x v H:=Be 41 [3,6,9,12] func15
def Zek:Z3:=c8 20 11 f20 7 X [(0,Y),(1,t)] H
def Zgy:Z3:=
 Z0 (Y5 (.pointer 90) .eql V .nilp) λh=>
 Zh h
 (b (.nilp,H))
 (Zek V O H H)
theorem ZjD:Zek Y t X H =
 Z0 ((Yb [(0,1,Y),(1,1,t)] [.nilp,(.str []),(.int .i64 0),(.str []),(.bool a),(.bool a)]).map .agg) λt9=>
 Z0 (ZY t9 H) λh=>
 b (h.1,h.2):=Z9 [3]
theorem Zlg:fG [V,O] H=Zgy V O H:=Be 11 [3] func20
def L5:Z3:=c8 43 75 f43 31 X [(0,Y)] H
def Qf:Z3:=c8 43 75 f43 15 X [(0,Y)] H
def Zb9:KL:=Zc (ZAX 43 75 f43 15) (Zd cfg 75 43 f43 X)
def L6:Z3:=Ce 43 75 (sub (Z1 f43) [1,1,0,1,0,1,1]) (Zb9 X) [(0,Y),(5,U),(6,Q),(7,I)] H
def L4:Z3:=c8 43 75 f43 7 X [(0,Y)] H
def Eg:Z3:=
 Z0 (Y5 (.pointer 106) .eql V .nilp) λt9=>
 Zh t9
 (b ((.tuple [(.str []),(.bool a),(.int .i64 5)]),H))
 (L4 V H H)
theorem RQ:L5 Y X H =
 Z0 (Zw Y) λt72=>
 Z0 (Z6 3 t72) λh=>
 Z0 (Z4 a 1 h H) λj=>
 b ((.tuple [j,(.bool c),(.int .i64 0)]),H):=Z9 [3,7,12,14]
theorem VD:Qf Y X H =
 Z0 (Zw Y) λh=>
 Z0 (Z6 5 h) λj=>
 Z0 (Z4 a 1 j H) λt70=>
 Zh t70
 (b ((.tuple [(.str []),(.bool a),(.int .i64 0)]),H))
 (L5 Y X H):=Z9 [3,7,12,14]
theorem RR:L6 Y U Q I X H =
 Z0 (Z2 .eql I (.int .i64 5)) λy=>
 Z0 (Zw Y) λz=>
 Z0 (Z6 5 z) λA=>
 Z0 (Zg 1 A y H) λh=>
 Z0 (Zw Y) λB=>
 Z0 (Z6 5 B) λC=>
 Z0 (Z4 a 1 C h.2) λD=>
 Z0 (YU .not D) λE=>
 Zh E
 (Z0 (Zw Y) λF=>
 Z0 (Z6 3 F) λG=>
 Z0 (Zg 1 G U h.2) λj=>
 Z0 (Zw Y) λL=>
 Z0 (Z6 2 L) λM=>
 Z0 (Zg 1 M Q j.2) λu=>
 Z0 (Zw Y) λN=>
 Z0 (Z6 4 N) λP=>
 Z0 (Zg 1 P (.bool c) u.2) λw=>
 Qf Y X w.2)
 (Qf Y X h.2):=Z9 [3,7,12,14]
theorem Wm:L4 Y X H =
 Z0 (Zw Y) λy=>
 Z0 (Z6 4 y) λz=>
 Z0 (Z4 a 1 z H) λA=>
 Z0 (YU .not A) λh=>
 Z0 (Z8 h c bf (b Y)) λB=>
 Z0 (Z8 h c bf (Zw B)) λC=>
 Z0 (Z8 h c bf (Z6 5 C)) λD=>
 Z0 (Z8 h c bf (Z4 a 1 D H)) λE=>
 Z0 (Z8 h c bf (YU .not E)) λF=>
 Z0 (Zm h F (.bool a)) λG=>
 Zh G
 (Z0 (Zw Y) λL=>
 Z0 (Z6 0 L) λM=>
 Z0 (Z4 a 1 M H) λN=>
 Z0 (Zw Y) λP=>
 Z0 (Z6 1 P) λR=>
 Z0 (Z4 a 1 R H) λS=>
 Z0 (Zw Y) λT=>
 Z0 (Z6 2 T) λZ=>
 Z0 (Z4 a 1 Z H) λaa=>
 Z0 (V5 [N,S,aa] H) λj=>
 Z0 (ZK j.1 0) λab=>
 Z0 (ZK j.1 1) λt37=>
 Z0 (ZK j.1 2) λu=>
 Z0 (Z2 .neq u (.int .i64 0)) λw=>
 Z0 (Z8 w c bf (b u)) λac=>
 Z0 (Z8 w c bf (Z2 .neq ac (.int .i64 5))) λad=>
 Z0 (Zm w ad (.bool a)) λae=>
 Zh ae
 (b ((.tuple [(.str []),(.bool a),u]),j.2))
 (L6 Y ab t37 u X j.2))
 (Qf Y X H):=Z9 [3,7,12,14]
theorem fN:QU [V] H=Eg V H:=Be 75 [3,7,12,14] func43
def Ba:Z3:=c8 44 21 f44 15 X [(5,U),(6,Q),(7,I)] H
def Ef:Z3:=
 Z0 (QU [V] H) λh=>
 Z0 (ZK h.1 0) λu=>
 Z0 (ZK h.1 1) λj=>
 Z0 (ZK h.1 2) λw=>
 Zh j
 (Z0 (Zw V) λz=>
 Z0 (Z6 4 z) λA=>
 Z0 (Zg 1 A (.bool a) h.2) λy=>
 Ba u j w H y.2)
 (Ba u j w H h.2)
theorem RP:Ba U Q I X H =
 b ((.tuple [U,Q,I]),H):=Z9 [4]
theorem fM:Do [V] H=Ef V H:=Be 21 [4] func44
end
end Go.Am
