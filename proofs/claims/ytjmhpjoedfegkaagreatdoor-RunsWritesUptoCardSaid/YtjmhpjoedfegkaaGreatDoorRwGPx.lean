/- The functions of the translation over the abstract machine -/
import Derived.Test.YtjmhpjoedfegkaaGreatDoorRwGx
open Option renaming some->K
open Go.Proofs.Tryz
namespace Go.Am
open Go.Proofs
set_option maxRecDepth 100000
noncomputable abbrev ZiW (f n:Nat):=Y7 cfg (Za cfg) (ZT cfg (cfg.keep f) n) (cfg.keep f) n Zc Z7
noncomputable abbrev Zzs (f n:Nat):=ZT cfg (cfg.keep f) n
noncomputable section
abbrev Zzq (f n:Nat)(F:Func)(p:dv):KL->AL->Hp->Z3:=λk h H=>ZiW f n (sub (Z1 F) p) k (Y3 (cfg.keep f) (sub (Z1 F) p) h) H
abbrev Zvs (f n:Nat)(F:Func)(p:dv):KL->AL->Hp->Z3:=λk h H=>Zzs f n (sub (Z1 F) p) k (Y3 (cfg.keep f) (sub (Z1 F) p) h) H
variable (O N S U V T R Q Y X Z P:AV)(W H:Hp)
abbrev aa:dv:=[6,11,12,13,16]
def E5:Z3:=ZiW 23 61 (sub (Z1 f23) [1,1,1,1,1,1]) (Zd cfg 61 23 f23 W) [(6,V)] H
def nD:Z3:=ZiW 23 61 (sub (Z1 f23) [1,1,1,1,1]) (Zd cfg 61 23 f23 W) [(5,U),(6,V),(7,T)] H
def KX:KL:=Zc (Zzq 23 61 f23 [1,1,1,1,1]) (Zd cfg 61 23 f23 W)
theorem Zce:ZV 61 (KX W):=Zv (C:=cfg) (kp:=cfg.keep 23) (sub (Z1 f23) [1,1,1,1,1]) (Zy 23 f23 W)
def nF:Z3:=ZiW 23 61 (sub (Z1 f23) [1,1,1,1,0,1,0,0,1,1,1]) (Zc (Zvs 23 61 f23 [1,1,1,1,0,1,0,0]) (Z7 0 (KX W))) [(1,S),(5,U),(6,V),(7,T),(8,R),(15,Y),(16,X),(17,Z)] H
def ZlM:KL:=Zc (Zzq 23 61 f23 [1,1,1,1,0,1,0,0,1,1,1]) (Zc (Zvs 23 61 f23 [1,1,1,1,0,1,0,0]) (Z7 0 (KX W)))
def E6:Z3:=ZiW 23 61 (sub (Z1 f23) [1,1,1,1,0,1,0,0,1,1,0,0,1,1,1]) (Z7 1 (ZlM W)) [(1,S),(5,U),(6,V),(7,T),(8,R),(11,Q),(15,Y),(16,X),(17,Z)] H
def nE:Z3:=ZiW 23 61 (sub (Z1 f23) [1,1,1,1,0,1,0,0,1,1]) (Zc (Zvs 23 61 f23 [1,1,1,1,0,1,0,0]) (Z7 0 (KX W))) [(1,S),(5,U),(6,V),(7,T),(8,R),(15,Y),(16,X),(17,Z),(18,P)] H
def R3:Z3:=Zzs 23 61 (sub (Z1 f23) [1,1,1,1,0,1,0,0]) (Z7 0 (KX W)) [(1,S),(5,U),(6,V),(7,T),(8,R),(15,Y),(16,X),(17,Z)] H
def Zac:Z3:=
 Z0 (Ze Yq [O] H) λh=>
 Z0 (Zf (.slice 9) h.1) λj=>
 R3 N h.1 .nils (.int .i64 0) (.int .i64 0) h.1 j (.int .i64 0) H h.2
theorem Zgb:E5 V W H =
 K (V,H):=Z9 aa
theorem Zga:nD U V T W H =
 Z0 (Zf (.slice 9) U) λh=>
 Z0 (Z2 .gtr h (.int .i64 0)) λu=>
 Zh u
 (Z0 (Yk 1 U (K T) (K h) (K h)) λw=>
 Z0 ((ZB 1 [(0,w)] [.nils]).map (.vs 1 .clip)) λy=>
 Z0 (V1 false 1 24 V y H) λj=>
 E5 j.1 W j.2)
 (E5 V W H):=Z9 aa
theorem Rq:nF S U V T R Y X Z W H =
 Z0 (Z2 .add Z (.int .i64 1)) λh=>
 R3 S U V T R Y X h W H:=Z9 aa
theorem Rr:E6 S U V T R Q Y X Z W H =
 Z0 (Z2 .add R Q) λh=>
 nF S U V T h Y X Z W H:=Z9 aa
theorem Zgc:nE S U V T R Y X Z P W H =
 Z0 (Zr 1 Y Z) λw=>
 Z0 (Z4 false 1 w H) λy=>
 Z0 (Zf .string y) λz=>
 Z0 (Z2 .add z (.int .i64 16)) λj=>
 Z0 (Z2 .gtr Z T) λh=>
 Z0 (Z8 h true bf (K R)) λA=>
 Z0 (Z8 h true bf (K j)) λB=>
 Z0 (Z8 h true bf (Z2 .add A B)) λC=>
 Z0 (Z8 h true bf (K S)) λD=>
 Z0 (Z8 h true bf (Z2 .gtr C D)) λE=>
 Z0 (Zm h E (.bool false)) λF=>
 Zh F
 (Z0 (Yk 1 U (K T) (K Z) (K Z)) λG=>
 Z0 ((ZB 1 [(0,G)] [.nils]).map (.vs 1 .clip)) λL=>
 Z0 (V1 false 1 24 V L H) λu=>
 E6 S U u.1 Z (.int .i64 0) j Y X Z W u.2)
 (E6 S U V T R j Y X Z W H):=Z9 aa
theorem At:R3 S U V T R Y X Z W H =
 Z0 (Z2 .lss Z X) λh=>
 Zh h
 (nE S U V T R Y X Z h W H)
 (nD U V T W H):=(ZC (C:=cfg) [6,11,12,13,16] (Zo 0 (Zce W)) _ _).trans dz
theorem ZgA:Cs [O,N] H=Zac O N H:=Be 61 [6,11,12,13,16] func23
end
end Go.Am
