/- awake of chapter 24 -/
import Derived.Test.YtmclihijlmlpkaaGreatDoorXeGx
open Option renaming some->I,none->U
open Bool renaming true->O,false->K
open Go.Am.AV renaming int->Q
open Go.IntKind renaming i64->J
namespace Go.Am
open Go.Proofs
set_option maxRecDepth 100000
noncomputable abbrev ZAQ (f n:Nat):=Yg cfg (Zb cfg) (Y0 cfg (cfg.keep f) n) (cfg.keep f) n Za Z5
noncomputable abbrev ZBe (f n:Nat):=Y0 cfg (cfg.keep f) n
noncomputable section
variable (Y:AV)(X H:Hp)
def oG:Z4:=ZAQ 6 87 (sub (Z1 Tryz.f6) [1,1,1]) (Zf cfg 87 6 Tryz.f6 X) [(1,Y)] H
def Zd6:Z4:=
 Z0 (NK [(Q J 262144)] H) λg=>
 Z0 (YJ (.pointer 67) .eql g.1 .nilp) λh=>
 Zl h
 (I ((.bool K),g.2))
 (oG g.1 H g.2)
theorem Zgw:oG Y X H =
 Z0 (Y4 (.str [48,49,50,51,52,53,54,55,56,57,48,49,50,51,52,53,54,55,56,57,48,49,50,51,52,53,54,55,56,57,48,49,50,51,52,53,54,55,56,57]) (I (Q J 1)) U U) λM=>
 Z0 (YK .add (.str [101]) M) λN=>
 Z0 (Y4 (.str [48,49,50,51,52,53,54,55,56,57,48,49,50,51,52,53,54,55,56,57,48,49,50,51,52,53,54,55,56,57,48,49,50,51,52,53,54,55,56,57]) (I (Q J 1)) U U) λR=>
 Z0 (YK .add (.str [97]) R) λS=>
 Z0 (Y4 (.str [48,49,50,51,52,53,54,55,56,57,48,49,50,51,52,53,54,55,56,57,48,49,50,51,52,53,54,55,56,57,48,49,50,51,52,53,54,55,56,57]) (I (Q J 1)) U U) λT=>
 Z0 (YK .add (.str [100]) T) λZ=>
 Z0 (Y4 (.str [48,49,50,51,52,53,54,55,56,57,48,49,50,51,52,53,54,55,56,57,48,49,50,51,52,53,54,55,56,57,48,49,50,51,52,53,54,55,56,57]) (I (Q J 1)) U U) λaa=>
 Z0 (YK .add (.str [98]) aa) λab=>
 Z0 (Y4 (.str [48,49,50,51,52,53,54,55,56,57,48,49,50,51,52,53,54,55,56,57,48,49,50,51,52,53,54,55,56,57,48,49,50,51,52,53,54,55,56,57]) (I (Q J 1)) U U) λac=>
 Z0 (YK .add (.str [99]) ac) λad=>
 Z0 ((Zt 1 [(0,N),(1,S),(2,Z),(3,ab),(4,ad)] [(.str []),(.str []),(.str []),(.str []),(.str [])]).map (.vs 1 .clip)) λA=>
 Z0 (Ze US [] H) λE=>
 Z0 ((Yq [(1,1,(Q J (-1)))] [.nils,(Q J 0),(Q J 0),(.bool K),(.bool K)]).map .agg) λae=>
 Z0 ((Yq [(0,1,(Q J 64)),(1,1,(Q J 2))] [(Q J 0),(Q J 0)]).map .agg) λaf=>
 Z0 (U6 [Y,E.1,ae,af,A] E.2) λu=>
 Z0 (ZQ u.1 0) λB=>
 Z0 (ZQ u.1 1) λag=>
 Z0 (ZQ u.1 2) λt37=>
 Z0 (I ((.ptr u.2.length 0),u.2++[.cells [(Q J 0),(Q J 0),(Q J 0),(Q J 0)]])) λL=>
 Z0 (Zc 4 L.1 ag L.2) λF=>
 Z0 ((Zt 1 [(0,(Q J 40)),(1,(Q J 40)),(2,(Q J 40))] [(Q J 0),(Q J 0),(Q J 0)]).map (.vs 1 .clip)) λah=>
 Z0 ((Yq [(0,1,(Q J 64)),(1,1,(Q J 2))] [(Q J 0),(Q J 0)]).map .agg) λai=>
 Z0 (Ze PO [ah,ai] F.2) λg=>
 Z0 (ZQ g.1 0) λaj=>
 Z0 (ZQ g.1 1) λak=>
 Z0 (Z3 .eql t37 (Q J 0)) λw=>
 Z0 (Z7 w O (.tuple []) (I B)) λal=>
 Z0 (Z7 w O (.tuple []) (Zk (.slice 9) al)) λam=>
 Z0 (Z7 w O (.tuple []) (Z3 .eql am (Q J 5))) λan=>
 Z0 (Zm w an (.bool K)) λh=>
 Z0 (Z7 h O (.tuple []) (I B)) λao=>
 Z0 (Z7 h O (.tuple []) (Zj 1 ao (Q J 0))) λap=>
 Z0 (Z7 h O (.tuple []) (Z2 K 1 ap g.2)) λaq=>
 Z0 (Z7 h O (.tuple []) (I A)) λar=>
 Z0 (Z7 h O (.tuple []) (Zj 1 ar (Q J 1))) λau=>
 Z0 (Z7 h O (.tuple []) (Z2 K 1 au g.2)) λaw=>
 Z0 (Z7 h O (.tuple []) (YK .eql aq aw)) λax=>
 Z0 (Zm h ax (.bool K)) λj=>
 Z0 (Z7 j O (.tuple []) (I B)) λay=>
 Z0 (Z7 j O (.tuple []) (Zj 1 ay (Q J 4))) λaz=>
 Z0 (Z7 j O (.tuple []) (Z2 K 1 az g.2)) λba=>
 Z0 (Z7 j O (.tuple []) (I A)) λbb=>
 Z0 (Z7 j O (.tuple []) (Zj 1 bb (Q J 0))) λbc=>
 Z0 (Z7 j O (.tuple []) (Z2 K 1 bc g.2)) λbd=>
 Z0 (Z7 j O (.tuple []) (YK .eql ba bd)) λbe=>
 Z0 (Zm j be (.bool K)) λy=>
 Z0 (Z7 y O (.tuple []) (Z8 0 L.1)) λt70=>
 Z0 (Z7 y O (.tuple []) (Z2 K 1 t70 g.2)) λbf=>
 Z0 (Z7 y O (.tuple []) (Z3 .eql bf (Q J 5))) λt72=>
 Z0 (Zm y t72 (.bool K)) λz=>
 Z0 (Z7 z O (.tuple []) (Z8 2 L.1)) λbg=>
 Z0 (Z7 z O (.tuple []) (Z2 K 1 bg g.2)) λbh=>
 Z0 (Z7 z O (.tuple []) (Z3 .eql bh (Q J 56))) λbi=>
 Z0 (Zm z bi (.bool K)) λC=>
 Z0 (Z7 C O (.tuple []) (I aj)) λbj=>
 Z0 (Z7 C O (.tuple []) (Z3 .eql bj (Q J 3))) λbk=>
 Z0 (Zm C bk (.bool K)) λD=>
 Z0 (Z7 D O (.tuple []) (I ak)) λbl=>
 Z0 (Z7 D O (.tuple []) (Z3 .geq bl (Q J 1))) λbm=>
 Z0 (Zm D bm (.bool K)) λbn=>
 I (bn,g.2):=Z9 [4]
theorem Zj9:Dl [] H=Zd6 H:=Be 87 [4] Tryz.func6
end
end Go.Am
