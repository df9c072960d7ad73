/- The functions of the translation over the abstract machine -/
import Derived.Test.YtjmhpjoedfegkaaGreatDoorRwGx
open Option renaming some->b
open Bool renaming true->c,false->a
open Go.Proofs.Tryz
namespace Go.Am
open Go.Proofs
set_option maxRecDepth 100000
noncomputable abbrev fC (f n:Nat):=Y7 cfg (Za cfg) (ZT cfg (cfg.keep f) n) (cfg.keep f) n Zc Z7
noncomputable abbrev ZBn (f n:Nat):=ZT cfg (cfg.keep f) n
noncomputable section
variable (V O I x Y v J U Q t W:AV)(X H:Hp)
noncomputable abbrev bz (f n:Nat)(F:Func)(p:Nat)(G:Hp):=λk K=>fC f n (sub (Z1 F) (dx p)) (Zd cfg n f F G) k K
def nJ:Z3:=bz 13 39 f13 127 X [(10,W)] H
def nI:Z3:=bz 13 39 f13 63 X [(0,Y),(10,W)] H
def nH:Z3:=bz 13 39 f13 31 X [(0,Y),(3,J),(5,U),(6,Q),(10,W)] H
def nG:Z3:=bz 13 39 f13 7 X [(0,Y),(3,J),(5,U),(6,Q)] H
def CK:Z3:=
 Z0 (ZY O H) λu=>
 Z0 (ZY I u.2) λh=>
 Z0 (Y5 (.pointer 87) .eql V .nilp) λj=>
 Zh j
 (b ((.tuple [(.str []),(.int .i64 5)]),h.2))
 (nG V x u.1 h.1 H h.2)
theorem Au:nJ W X H =
 b ((.tuple [W,(.int .i64 0)]),H):=Z9 [3,6,9,12]
theorem Rs:nI Y W X H =
 Z0 (Xq [Y,W] H) λh=>
 Z0 (Z2 .neq h.1 (.int .i64 0)) λj=>
 Zh j
 (b ((.tuple [(.str []),h.1]),h.2))
 (nJ W X h.2):=Z9 [3,6,9,12]
theorem Ku:nH Y J U Q W X H =
 Z0 (Z4 c 6 U H) λu=>
 Z0 (Z4 c 5 Q H) λw=>
 Z0 (Ze Bv [u,w,J] H) λj=>
 Z0 (Xh [Y,W,j.1] j.2) λh=>
 Z0 (Z2 .neq h.1 (.int .i64 0)) λy=>
 Zh y
 (b ((.tuple [(.str []),h.1]),h.2))
 (nI Y W X h.2):=Z9 [3,6,9,12]
theorem Uy:nG Y J U Q X H =
 Z0 (XJ [Y] H) λh=>
 Z0 (ZK h.1 0) λu=>
 Z0 (ZK h.1 1) λj=>
 Z0 (Z2 .neq j (.int .i64 0)) λw=>
 Zh w
 (b ((.tuple [(.str []),j]),h.2))
 (nH Y J U Q u X h.2):=Z9 [3,6,9,12]
theorem Iu:GO [V,O,I,x] H=CK V O I x H:=Be 39 [3,6,9,12] func13
def Zcd:Z3:=bz 19 11 f19 7 X [(0,Y),(1,v)] H
def ZdS:Z3:=
 Z0 (Y5 (.pointer 87) .eql V .nilp) λh=>
 Zh h
 (b (.nilp,H))
 (Zcd V O H H)
theorem ZiE:Zcd Y v X H =
 Z0 ((Yb [(0,1,Y),(1,1,v)] [.nilp,(.str []),(.int .i64 0),(.bool a),(.bool a),(.str [])]).map .agg) λt9=>
 Z0 (ZY t9 H) λh=>
 b (h.1,h.2):=Z9 [3]
theorem Zjh:Ma [V,O] H=ZdS V O H:=Be 11 [3] func19
def Gf:Z3:=bz 24 24 f24 15 X [(5,U),(6,Q),(7,t)] H
def GU:Z3:=
 Z0 (Wj [V] H) λh=>
 Z0 (ZK h.1 0) λw=>
 Z0 (ZK h.1 1) λj=>
 Z0 (ZK h.1 2) λy=>
 Zh j
 (Z0 (Zw V) λA=>
 Z0 (Z6 3 A) λB=>
 Z0 (Zg 1 B (.bool a) h.2) λz=>
 Z0 (Zw V) λC=>
 Z0 (Z6 5 C) λD=>
 Z0 (Zg 1 D (.str []) z.2) λu=>
 Gf w j y H u.2)
 (Gf w j y H h.2)
theorem Vl:Gf U Q t X H =
 b ((.tuple [U,Q,t]),H):=Z9 [4]
theorem RH:Vo [V] H=GU V H:=Be 24 [4] func24
def Nb:Z3:=bz 25 68 f25 31 X [(0,Y)] H
def UP:Z3:=bz 25 68 f25 15 X [(0,Y)] H
def Na:Z3:=bz 25 68 f25 7 X [(0,Y)] H
def GV:Z3:=
 Z0 (Y5 (.pointer 104) .eql V .nilp) λt9=>
 Zh t9
 (b ((.tuple [(.str []),(.bool a),(.int .i64 5)]),H))
 (Na V H H)
theorem Vm:Nb Y X H =
 Z0 (Zw Y) λh=>
 Z0 (Z6 5 h) λj=>
 Z0 (Z4 a 1 j H) λu=>
 b ((.tuple [u,(.bool c),(.int .i64 0)]),H):=Z9 [3,11,13]
theorem YB:UP Y X H =
 Z0 (Zw Y) λh=>
 Z0 (Z6 3 h) λj=>
 Z0 (Z4 a 1 j H) λu=>
 Z0 (YU .not u) λw=>
 Zh w
 (b ((.tuple [(.str []),(.bool a),(.int .i64 0)]),H))
 (Nb Y X H):=Z9 [3,11,13]
theorem Yp:Na Y X H =
 Z0 (Zw Y) λB=>
 Z0 (Z6 3 B) λC=>
 Z0 (Z4 a 1 C H) λD=>
 Z0 (YU .not D) λj=>
 Z0 (Z8 j c bf (b Y)) λE=>
 Z0 (Z8 j c bf (Zw E)) λF=>
 Z0 (Z8 j c bf (Z6 4 F)) λG=>
 Z0 (Z8 j c bf (Z4 a 1 G H)) λL=>
 Z0 (Z8 j c bf (YU .not L)) λM=>
 Z0 (Zm j M (.bool a)) λN=>
 Zh N
 (Z0 (Zw Y) λP=>
 Z0 (Z6 0 P) λR=>
 Z0 (Z4 a 1 R H) λS=>
 Z0 (Zw Y) λT=>
 Z0 (Z6 1 T) λZ=>
 Z0 (Z4 a 1 Z H) λaa=>
 Z0 (Zw Y) λab=>
 Z0 (Z6 2 ab) λac=>
 Z0 (Z4 a 1 ac H) λad=>
 Z0 (YH [S,aa,ad] H) λh=>
 Z0 (ZK h.1 0) λae=>
 Z0 (ZK h.1 1) λt37=>
 Z0 (ZK h.1 2) λu=>
 Z0 (Z2 .eql u (.int .i64 0)) λaf=>
 Zh af
 (Z0 (Zw Y) λag=>
 Z0 (Z6 5 ag) λah=>
 Z0 (Zg 1 ah ae h.2) λw=>
 Z0 (Zw Y) λai=>
 Z0 (Z6 2 ai) λaj=>
 Z0 (Zg 1 aj t37 w.2) λy=>
 Z0 (Zw Y) λak=>
 Z0 (Z6 3 ak) λal=>
 Z0 (Zg 1 al (.bool c) y.2) λz=>
 UP Y X z.2)
 (Z0 (Z2 .eql u (.int .i64 5)) λam=>
 Zh am
 (Z0 (Zw Y) λan=>
 Z0 (Z6 4 an) λao=>
 Z0 (Zg 1 ao (.bool c) h.2) λA=>
 UP Y X A.2)
 (b ((.tuple [(.str []),(.bool a),u]),h.2))))
 (UP Y X H):=Z9 [3,11,13]
theorem RI:Wj [V] H=GV V H:=Be 68 [3,11,13] func25
end
end Go.Am
