/- The helpers of chapter 24's laws -/
import Derived.Test.YtnaneekpogohaaaGreatDoorXeCox
import Derived.Test.YtnaneekpogohaaaGreatDoorXeAwx
import Derived.Test.YtnaneekpogohaaaGreatDoorXeGLx
import Derived.Test.YtnaneekpogohaaaGreatDoorXeYzx
namespace Go.Am
set_option linter.unusedSectionVars false
set_option maxRecDepth 100000
def Zxy (l:List Zg):Prop:=l.length<=40/\∀ s∈l,s.length<=200
def Uc (p:Spec)(xp:AV)(mem w:Int):List AV:=p.cells xp++[.int .i64 mem,.int .i64 w]
section
variable {p:Spec}{xp:AV}{mem w:Int}
theorem ZwV (H:Hp):ZO (.agg (Uc p xp mem w)) H=some (.ptr H.length 0,H++[.cells (Uc p xp mem w)]):=Yf _ _
theorem Zgv {H:Hp}{n:Nat}(h:H[n]?=some (.cells (Uc p xp mem w))):Z3 true 5 (.ptr n 0) H=some (.agg (p.cells xp)):=by rw[YE h];rfl
theorem ZwW {H:Hp}{n:Nat}(h:H[n]?=some (.cells (Uc p xp mem w))):Z3 true 2 (.ptr n 5) H=some (.agg [.int .i64 mem,.int .i64 w]):=by rw[YE h];rfl
theorem ZyS:Z7 0 (.vp (Uc p xp mem w))=some (.vp (Uc p xp mem w)):=rfl
theorem ZyT:Z7 5 (.vp (Uc p xp mem w))=some (.vp [.int .i64 mem,.int .i64 w]):=rfl
theorem Zua:XE true 5 (.vp (Uc p xp mem w))=some (.agg (p.cells xp)):=rfl
theorem Zu9:XE true 2 (.vp [.int .i64 mem,.int .i64 w])=some (.agg [.int .i64 mem,.int .i64 w]):=rfl
end
theorem Zmm (o:Nat):Z7 5 (.ptr o 0)=some (.ptr o 5):=rfl
theorem Zrr:DS Zgw=true:=by kernel_rfl
theorem Zrp {t:Nat}{s:Sto}(j:StoOk s)(g:s.files=[]):Zs8 t s:=fun H S h=>by
 obtain⟨H',A',u,y,z,A⟩:=ZnB h j g Zgw (by show 4<=_;omega) Zrr 262144;exact⟨H',A',H.length+1,u,y,z,A⟩
theorem ZoU:BOk []:=⟨by simp,(fun f g=>by cases g),(fun f g=>by cases g),by simp,by simp[Zs],(fun f g=>by cases g)⟩
theorem ZAl:LocSm defL:=⟨by simp[defL],by simp[defL],by simp[defL]⟩
end Go.Am
namespace Go.Am
open Go.Proofs Go.Proofs.YtnaneekpogohaaaGreatDoor
set_option maxRecDepth 100000
section
variable {H:Type}
theorem Zxn {n:Nat}{d:DataW H}{j:List AV}(h:TV Tryz.prog n 24 d j)(D:J6 d):∃ (p:Spec) (xp:AV),j=p.cells xp/\Sl 5 xp (p.keys.map Ke.av)/\(∀ k∈p.keys,KeOk k)/\p.keys.length<=1048576:=by
 obtain⟨K,parts,m,rfl,rfl,B,C,g⟩:=h.fields Ztf;obtain⟨a,b,c,d,e,rfl⟩:=Zer B;obtain⟨a',b',c',d',A,rfl⟩:=Zer C;obtain⟨x,J,rfl,I,E,F⟩:=ZyI (g 0 22 a a' rfl rfl rfl) (ZkD D (i:=0) rfl);obtain⟨y,_,rfl,_⟩:=(g 1 3 b b' rfl rfl rfl).int GO;obtain⟨z,_,rfl,_⟩:=(g 2 3 c c' rfl rfl rfl).int GO;obtain⟨u,_,rfl⟩:=(g 3 4 d d' rfl rfl rfl).bool Zpl;obtain⟨v,_,rfl⟩:=(g 4 4 e A rfl rfl rfl).bool Zpl;exact⟨⟨J,y,z,v,u⟩,x,rfl,I,E,F⟩
theorem ZwX {d:DataW H}{a:AV}(h:AT Tryz.prog 28 d a)(y:J6 d):∃ (p:Spec) (xp:AV) (mem w:Int),a=.agg (Uc p xp mem w)/\Sl 5 xp (p.keys.map Ke.av)/\(∀ k∈p.keys,KeOk k)/\p.keys.length<=1048576:=by
 obtain⟨n,D,z,e0⟩:=h.agg Zzk;subst e0;obtain⟨E,parts,m,rfl,rfl,j,u,g⟩:=z.fields Zth;obtain⟨a,b,rfl⟩:=ZiK j;obtain⟨a',b',rfl⟩:=ZiK u;obtain⟨p,xp,rfl,A,B,C⟩:=Zxn (g 0 24 a a' rfl rfl rfl) (ZkD y (i:=0) rfl);obtain⟨m,w,rfl⟩:=Zxj (g 1 26 b b' rfl rfl rfl);exact⟨p,xp,m,w,by simp[Uc],A,B,C⟩
end
end Go.Am
