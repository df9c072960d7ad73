/- awake of chapter 24 -/
import Derived.Test.YtnaneekpogohaaaGreatDoorXeGx
open Go.Am.AV renaming int->zA
open Go.IntKind renaming i64->J
namespace Go.Am
open Go.Proofs
set_option maxRecDepth 100000
noncomputable abbrev Zyt (f n:Nat):=Yl cfg (Za cfg) (Y4 cfg (cfg.keep f) n) (cfg.keep f) n Zc Z6
noncomputable abbrev ZyU (f n:Nat):=Y4 cfg (cfg.keep f) n
noncomputable section
variable (x1:AV)(H0 H:Hp)
def ZbE:Z4:=Zyt 32 87 (sub (Z1 Tryz.f32) [1,1,1]) (Zg cfg 87 32 Tryz.f32 H0) [(1,x1)] H
def Zem:Z4:=
 Z0 (PG [(zA J 262144)] H) fun g=>
 Z0 (Yy (.pointer 82) .eql g.1 .nilp) fun h=>
 Zj h
 (some ((.bool false),g.2))
 (ZbE g.1 H g.2)
theorem Zgc:ZbE x1 H0 H =
 Z0 (ZU (.str [48,49,50,51,52,53,54,55,56,57,48,49,50,51,52,53,54,55,56,57,48,49,50,51,52,53,54,55,56,57,48,49,50,51,52,53,54,55,56,57]) (some (zA J 1)) none none) fun L=>
 Z0 (Yr .add (.str [101]) L) fun M=>
 Z0 (ZU (.str [48,49,50,51,52,53,54,55,56,57,48,49,50,51,52,53,54,55,56,57,48,49,50,51,52,53,54,55,56,57,48,49,50,51,52,53,54,55,56,57]) (some (zA J 1)) none none) fun N=>
 Z0 (Yr .add (.str [97]) N) fun O=>
 Z0 (ZU (.str [48,49,50,51,52,53,54,55,56,57,48,49,50,51,52,53,54,55,56,57,48,49,50,51,52,53,54,55,56,57,48,49,50,51,52,53,54,55,56,57]) (some (zA J 1)) none none) fun Q=>
 Z0 (Yr .add (.str [100]) Q) fun R=>
 Z0 (ZU (.str [48,49,50,51,52,53,54,55,56,57,48,49,50,51,52,53,54,55,56,57,48,49,50,51,52,53,54,55,56,57,48,49,50,51,52,53,54,55,56,57]) (some (zA J 1)) none none) fun S=>
 Z0 (Yr .add (.str [98]) S) fun T=>
 Z0 (ZU (.str [48,49,50,51,52,53,54,55,56,57,48,49,50,51,52,53,54,55,56,57,48,49,50,51,52,53,54,55,56,57,48,49,50,51,52,53,54,55,56,57]) (some (zA J 1)) none none) fun U=>
 Z0 (Yr .add (.str [99]) U) fun V=>
 Z0 ((ZA 1 [(0,M),(1,O),(2,R),(3,T),(4,V)] [(.str []),(.str []),(.str []),(.str []),(.str [])]).map (.vs 1 .clip)) fun A=>
 Z0 (Zf UN [] H) fun E=>
 Z0 ((YD [(1,1,(zA J (-1)))] [.nils,(zA J 0),(zA J 0),(.bool false),(.bool false)]).map .agg) fun W=>
 Z0 ((YD [(0,1,(zA J 64)),(1,1,(zA J 2))] [(zA J 0),(zA J 0)]).map .agg) fun X=>
 Z0 (Xp [x1,E.1,W,X,A] E.2) fun u=>
 Z0 (ZO u.1 0) fun B=>
 Z0 (ZO u.1 1) fun Y=>
 Z0 (ZO u.1 2) fun t37=>
 Z0 (some ((.ptr u.2.length 0),u.2++[.cells [(zA J 0),(zA J 0),(zA J 0),(zA J 0)]])) fun K=>
 Z0 (Zb 4 K.1 Y K.2) fun F=>
 Z0 ((ZA 1 [(0,(zA J 40)),(1,(zA J 40)),(2,(zA J 40))] [(zA J 0),(zA J 0),(zA J 0)]).map (.vs 1 .clip)) fun Z=>
 Z0 ((YD [(0,1,(zA J 64)),(1,1,(zA J 2))] [(zA J 0),(zA J 0)]).map .agg) fun aa=>
 Z0 (Zf TP [Z,aa] F.2) fun g=>
 Z0 (ZO g.1 0) fun ab=>
 Z0 (ZO g.1 1) fun ac=>
 Z0 (Z5 .eql t37 (zA J 0)) fun w=>
 Z0 (Z8 w true (.tuple []) (some B)) fun ad=>
 Z0 (Z8 w true (.tuple []) (Zk (.slice 9) ad)) fun ae=>
 Z0 (Z8 w true (.tuple []) (Z5 .eql ae (zA J 5))) fun af=>
 Z0 (Zi w af (.bool false)) fun h=>
 Z0 (Z8 h true (.tuple []) (some B)) fun ag=>
 Z0 (Z8 h true (.tuple []) (Zo 1 ag (zA J 0))) fun ah=>
 Z0 (Z8 h true (.tuple []) (Z3 false 1 ah g.2)) fun ai=>
 Z0 (Z8 h true (.tuple []) (some A)) fun aj=>
 Z0 (Z8 h true (.tuple []) (Zo 1 aj (zA J 1))) fun ak=>
 Z0 (Z8 h true (.tuple []) (Z3 false 1 ak g.2)) fun al=>
 Z0 (Z8 h true (.tuple []) (Yr .eql ai al)) fun am=>
 Z0 (Zi h am (.bool false)) fun j=>
 Z0 (Z8 j true (.tuple []) (some B)) fun an=>
 Z0 (Z8 j true (.tuple []) (Zo 1 an (zA J 4))) fun ao=>
 Z0 (Z8 j true (.tuple []) (Z3 false 1 ao g.2)) fun ap=>
 Z0 (Z8 j true (.tuple []) (some A)) fun aq=>
 Z0 (Z8 j true (.tuple []) (Zo 1 aq (zA J 0))) fun ar=>
 Z0 (Z8 j true (.tuple []) (Z3 false 1 ar g.2)) fun au=>
 Z0 (Z8 j true (.tuple []) (Yr .eql ap au)) fun aw=>
 Z0 (Zi j aw (.bool false)) fun y=>
 Z0 (Z8 y true (.tuple []) (Z7 0 K.1)) fun t70=>
 Z0 (Z8 y true (.tuple []) (Z3 false 1 t70 g.2)) fun ax=>
 Z0 (Z8 y true (.tuple []) (Z5 .eql ax (zA J 5))) fun t72=>
 Z0 (Zi y t72 (.bool false)) fun z=>
 Z0 (Z8 z true (.tuple []) (Z7 2 K.1)) fun ay=>
 Z0 (Z8 z true (.tuple []) (Z3 false 1 ay g.2)) fun az=>
 Z0 (Z8 z true (.tuple []) (Z5 .eql az (zA J 56))) fun ba=>
 Z0 (Zi z ba (.bool false)) fun C=>
 Z0 (Z8 C true (.tuple []) (some ab)) fun bb=>
 Z0 (Z8 C true (.tuple []) (Z5 .eql bb (zA J 3))) fun bc=>
 Z0 (Zi C bc (.bool false)) fun D=>
 Z0 (Z8 D true (.tuple []) (some ac)) fun bd=>
 Z0 (Z8 D true (.tuple []) (Z5 .geq bd (zA J 1))) fun be=>
 Z0 (Zi D be (.bool false)) fun bf=>
 some (bf,g.2):=Z9 [4]
theorem Zi0:Kp [] H=Zem H:=Be 87 [4] Tryz.func32
end
end Go.Am
