/- awake of chapter 22 and the O6 -/
import Derived.Test.YtjmhpjoedfegkaaGreatDoorRwGx
open Option renaming some->b
open Bool renaming true->a,false->I
open Go.Am.AV renaming int->Q
open Go.IntKind renaming i64->J
namespace Go.Am
open Go.Proofs
set_option maxRecDepth 100000
noncomputable abbrev ZAW (f n:Nat):=Y7 cfg (Za cfg) (ZT cfg (cfg.keep f) n) (cfg.keep f) n Zc Z7
noncomputable abbrev ZBl (f n:Nat):=ZT cfg (cfg.keep f) n
noncomputable section
variable (V U O Y X W:AV)(K H:Hp)
def Zai:Z3:=ZAW 6 93 (sub (Z1 Tryz.f6) [1,1,1,1,1,1,1,1]) (Zd cfg 93 6 Tryz.f6 K) [(7,V),(8,U),(9,O),(10,Y),(11,X),(12,W)] H
def ZdA:Z3:=
 Z0 ((ZB 1 [(0,(.str [97])),(1,(.str [98,98])),(2,(.str [99]))] [(.str []),(.str []),(.str [])]).map (.vs 1 .clip)) λN=>
 Z0 (Ze Cs [N,(Q J 35)] H) λw=>
 Z0 (Mb [(Q J 1000)] w.2) λF=>
 Z0 (VB [F.1,(.str [97]),(Q J 1000)] F.2) λz=>
 Z0 (ZK z.1 0) λL=>
 Z0 (ZK z.1 1) λP=>
 Z0 (Ze Q0 [] z.2) λG=>
 Z0 ((Yb [(1,1,(Q J (-1)))] [.nils,(Q J 0),(Q J 0),(.bool I),(.bool I)]).map .agg) λR=>
 Z0 ((ZB 1 [(0,(.str [98])),(1,(.str [97]))] [(.str []),(.str [])]).map (.vs 1 .clip)) λS=>
 Z0 (GO [L,G.1,R,S] G.2) λA=>
 Z0 (ZK A.1 0) λM=>
 Z0 (ZK A.1 1) λT=>
 Z0 (Ma [L,M] A.2) λB=>
 Z0 (Vo [B.1] B.2) λy=>
 Z0 (ZK y.1 0) λZ=>
 Z0 (ZK y.1 1) λaa=>
 Z0 (ZK y.1 2) λab=>
 Z0 (Wj [B.1] y.2) λh=>
 Z0 (ZK h.1 0) λac=>
 Z0 (ZK h.1 1) λad=>
 Z0 (ZK h.1 2) λae=>
 Z0 (Zf (.slice 27) w.1) λaf=>
 Z0 (Z2 .neq af (Q J 2)) λu=>
 Z0 (Z8 u I (.tuple []) (b w.1)) λag=>
 Z0 (Z8 u I (.tuple []) (Zr 1 ag (Q J 0))) λah=>
 Z0 (Z8 u I (.tuple []) (Z4 I 1 ah h.2)) λai=>
 Z0 (Z8 u I (.tuple []) (Zf (.slice 9) ai)) λaj=>
 Z0 (Z8 u I (.tuple []) (Z2 .neq aj (Q J 2))) λak=>
 Z0 (Zm u (.bool a) ak) λj=>
 Z0 (Z8 j I (.tuple []) (b w.1)) λal=>
 Z0 (Z8 j I (.tuple []) (Zr 1 al (Q J 1))) λam=>
 Z0 (Z8 j I (.tuple []) (Z4 I 1 am h.2)) λan=>
 Z0 (Z8 j I (.tuple []) (Zr 1 an (Q J 0))) λao=>
 Z0 (Z8 j I (.tuple []) (Z4 I 1 ao h.2)) λap=>
 Z0 (Z8 j I (.tuple []) (Y1 .neq ap (.str [99]))) λaq=>
 Z0 (Zm j (.bool a) aq) λC=>
 Z0 (Z8 C I (.tuple []) (b P)) λar=>
 Z0 (Z8 C I (.tuple []) (Z2 .neq ar (Q J 0))) λau=>
 Z0 (Zm C (.bool a) au) λD=>
 Z0 (Z8 D I (.tuple []) (b T)) λaw=>
 Z0 (Z8 D I (.tuple []) (Z2 .neq aw (Q J 0))) λax=>
 Z0 (Zm D (.bool a) ax) λE=>
 Z0 (Z8 E I (.tuple []) (b M)) λt70=>
 Z0 (Z8 E I (.tuple []) (Y1 .neq t70 (.str [46,116,109,112,46,97,46,49]))) λay=>
 Z0 (Zm E (.bool a) ay) λt72=>
 Zh t72
 (b ((.bool I),h.2))
 (Zai Z aa ab ac ad ae H h.2)
theorem ZgB:Zai V U O Y X W K H =
 Z0 (Y1 .eql V (.str [97])) λw=>
 Z0 (Z8 w a (.tuple []) (b U)) λz=>
 Z0 (Zm w z (.bool I)) λh=>
 Z0 (Z8 h a (.tuple []) (b O)) λA=>
 Z0 (Z8 h a (.tuple []) (Z2 .eql A (Q J 0))) λB=>
 Z0 (Zm h B (.bool I)) λj=>
 Z0 (Z8 j a (.tuple []) (b Y)) λC=>
 Z0 (Z8 j a (.tuple []) (Y1 .eql C (.str [98]))) λD=>
 Z0 (Zm j D (.bool I)) λy=>
 Z0 (Z8 y a (.tuple []) (b X)) λE=>
 Z0 (Zm y E (.bool I)) λu=>
 Z0 (Z8 u a (.tuple []) (b W)) λF=>
 Z0 (Z8 u a (.tuple []) (Z2 .eql F (Q J 0))) λG=>
 Z0 (Zm u G (.bool I)) λL=>
 b (L,H):=Z9 [9]
theorem ZiY:DQ [] H=ZdA H:=Be 93 [9] Tryz.func6
end
end Go.Am
