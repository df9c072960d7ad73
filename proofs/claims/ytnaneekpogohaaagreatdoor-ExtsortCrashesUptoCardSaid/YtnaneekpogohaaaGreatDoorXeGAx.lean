/- awake of chapter 24 -/
import Derived.Test.YtnaneekpogohaaaGreatDoorXeGx
open Go.Am.AV renaming int->J
open Go.IntKind renaming i64->zA
namespace Go.Am
open Go.Proofs
set_option maxRecDepth 100000
noncomputable abbrev ZzY (f n:Nat):=Yn cfg (Zb cfg) (Y5 cfg (cfg.keep f) n) (cfg.keep f) n Zc Z8
noncomputable abbrev ZAq (f n:Nat):=Y5 cfg (cfg.keep f) n
noncomputable section
variable (x1:AV)(H0 H:Hp)
def ZcJ:Z5:=ZzY 32 87 (sub (Z1 Tryz.f32) [1,1,1]) (Zf cfg 87 32 Tryz.f32 H0) [(1,x1)] H
def Zfr:Z5:=
 Z0 (Du [(J zA 262144)] H) fun g=>
 Z0 (Yo (.pointer 82) .eql g.1 .nilp) fun h=>
 Zj h
 (some ((.bool false),g.2))
 (ZcJ g.1 H g.2)
theorem Zhn:ZcJ x1 H0 H =
 Z0 (ZU (.str [48,49,50,51,52,53,54,55,56,57,48,49,50,51,52,53,54,55,56,57,48,49,50,51,52,53,54,55,56,57,48,49,50,51,52,53,54,55,56,57]) (some (J zA 1)) none none) fun K=>
 Z0 (Yx .add (.str [101]) K) fun L=>
 Z0 (ZU (.str [48,49,50,51,52,53,54,55,56,57,48,49,50,51,52,53,54,55,56,57,48,49,50,51,52,53,54,55,56,57,48,49,50,51,52,53,54,55,56,57]) (some (J zA 1)) none none) fun M=>
 Z0 (Yx .add (.str [97]) M) fun N=>
 Z0 (ZU (.str [48,49,50,51,52,53,54,55,56,57,48,49,50,51,52,53,54,55,56,57,48,49,50,51,52,53,54,55,56,57,48,49,50,51,52,53,54,55,56,57]) (some (J zA 1)) none none) fun O=>
 Z0 (Yx .add (.str [100]) O) fun Q=>
 Z0 (ZU (.str [48,49,50,51,52,53,54,55,56,57,48,49,50,51,52,53,54,55,56,57,48,49,50,51,52,53,54,55,56,57,48,49,50,51,52,53,54,55,56,57]) (some (J zA 1)) none none) fun R=>
 Z0 (Yx .add (.str [98]) R) fun S=>
 Z0 (ZU (.str [48,49,50,51,52,53,54,55,56,57,48,49,50,51,52,53,54,55,56,57,48,49,50,51,52,53,54,55,56,57,48,49,50,51,52,53,54,55,56,57]) (some (J zA 1)) none none) fun T=>
 Z0 (Yx .add (.str [99]) T) fun U=>
 Z0 ((ZB 1 [(0,L),(1,N),(2,Q),(3,S),(4,U)] [(.str []),(.str []),(.str []),(.str []),(.str [])]).map (.vs 1 .clip)) fun A=>
 Z0 (Zh VL [] H) fun E=>
 Z0 ((YF [(1,1,(J zA (-1)))] [.nils,(J zA 0),(J zA 0),(.bool false),(.bool false)]).map .agg) fun V=>
 Z0 ((YF [(0,1,(J zA 64)),(1,1,(J zA 2))] [(J zA 0),(J zA 0)]).map .agg) fun W=>
 Z0 (YR [x1,E.1,V,W,A] E.2) fun u=>
 Z0 (ZJ u.1 0) fun B=>
 Z0 (ZJ u.1 1) fun X=>
 Z0 (ZJ u.1 2) fun t37=>
 Z0 (some ((.ptr u.2.length 0),u.2++[.cells [(J zA 0),(J zA 0),(J zA 0),(J zA 0)]])) fun I=>
 Z0 (Za 4 I.1 X I.2) fun F=>
 Z0 ((ZB 1 [(0,(J zA 40)),(1,(J zA 40)),(2,(J zA 40))] [(J zA 0),(J zA 0),(J zA 0)]).map (.vs 1 .clip)) fun Y=>
 Z0 ((YF [(0,1,(J zA 64)),(1,1,(J zA 2))] [(J zA 0),(J zA 0)]).map .agg) fun Z=>
 Z0 (Zh Pg [Y,Z] F.2) fun g=>
 Z0 (ZJ g.1 0) fun aa=>
 Z0 (ZJ g.1 1) fun ab=>
 Z0 (Z4 .eql t37 (J zA 0)) fun w=>
 Z0 (Z7 w true (.tuple []) (some B)) fun ac=>
 Z0 (Z7 w true (.tuple []) (Zk (.slice 9) ac)) fun ad=>
 Z0 (Z7 w true (.tuple []) (Z4 .eql ad (J zA 5))) fun ae=>
 Z0 (Zi w ae (.bool false)) fun h=>
 Z0 (Z7 h true (.tuple []) (some B)) fun af=>
 Z0 (Z7 h true (.tuple []) (Zo 1 af (J zA 0))) fun ag=>
 Z0 (Z7 h true (.tuple []) (Z3 false 1 ag g.2)) fun ah=>
 Z0 (Z7 h true (.tuple []) (some A)) fun ai=>
 Z0 (Z7 h true (.tuple []) (Zo 1 ai (J zA 1))) fun aj=>
 Z0 (Z7 h true (.tuple []) (Z3 false 1 aj g.2)) fun ak=>
 Z0 (Z7 h true (.tuple []) (Yx .eql ah ak)) fun al=>
 Z0 (Zi h al (.bool false)) fun j=>
 Z0 (Z7 j true (.tuple []) (some B)) fun am=>
 Z0 (Z7 j true (.tuple []) (Zo 1 am (J zA 4))) fun an=>
 Z0 (Z7 j true (.tuple []) (Z3 false 1 an g.2)) fun ao=>
 Z0 (Z7 j true (.tuple []) (some A)) fun ap=>
 Z0 (Z7 j true (.tuple []) (Zo 1 ap (J zA 0))) fun aq=>
 Z0 (Z7 j true (.tuple []) (Z3 false 1 aq g.2)) fun ar=>
 Z0 (Z7 j true (.tuple []) (Yx .eql ao ar)) fun au=>
 Z0 (Zi j au (.bool false)) fun y=>
 Z0 (Z7 y true (.tuple []) (Z6 0 I.1)) fun t70=>
 Z0 (Z7 y true (.tuple []) (Z3 false 1 t70 g.2)) fun aw=>
 Z0 (Z7 y true (.tuple []) (Z4 .eql aw (J zA 5))) fun t72=>
 Z0 (Zi y t72 (.bool false)) fun z=>
 Z0 (Z7 z true (.tuple []) (Z6 2 I.1)) fun ax=>
 Z0 (Z7 z true (.tuple []) (Z3 false 1 ax g.2)) fun ay=>
 Z0 (Z7 z true (.tuple []) (Z4 .eql ay (J zA 56))) fun az=>
 Z0 (Zi z az (.bool false)) fun C=>
 Z0 (Z7 C true (.tuple []) (some aa)) fun ba=>
 Z0 (Z7 C true (.tuple []) (Z4 .eql ba (J zA 3))) fun bb=>
 Z0 (Zi C bb (.bool false)) fun D=>
 Z0 (Z7 D true (.tuple []) (some ab)) fun bc=>
 Z0 (Z7 D true (.tuple []) (Z4 .geq bc (J zA 1))) fun bd=>
 Z0 (Zi D bd (.bool false)) fun be=>
 some (be,g.2):=Z9 [4]
theorem Zja:Dr [] H=Zfr H:=Be 87 [4] Tryz.func32
end
end Go.Am
