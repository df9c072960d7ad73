/-
  Strings by a table; capital letters.
-/
import Derived.Test.YtehanadfidoodaaGreatDoorNkKx
namespace Go.Am
set_option maxRecDepth 100000
def VB (b:UInt8):AV:=.int .u8 b.toNat
def Ww (t s:List UInt8):List UInt8:=s.map fun b=>t.getD b.toNat 0
theorem ZcK:∀ s:List UInt8,Wg (s.map VB)=some s:=by
 intro s
 induction s with
 |nil=>rfl
 |cons b l ih =>
  show (match Wg (l.map VB) with|some l=>some (UInt8.ofNat (b.toNat:Int).toNat::l)|none=>none)=_
  rw[ih]
  simp
theorem Zn1 {t:List UInt8}(ht:t.length=256)(b:UInt8):Zr (.str t) (.int .u8 b.toNat)=some (.int .u8 (t.getD b.toNat 0).toNat):=by
 have hb:b.toNat<t.length:=by rw[ht];exact b.toNat_lt
 simp[Zr,List.getElem?_eq_getElem hb,List.getD_eq_getElem?_getD]
theorem ZwT (o e n:Nat){i:Nat}(hi:i<n):Zl 1 (.ws false 1 o e n) (.int .i64 (i:Int))=some (.wp o e i):=by
 simp[Zl,hi]
theorem Zrs (e:Nat)(l:List AV)(i:Nat):Z3 false 1 (.wp 0 e i) [AObj.row e l]=l[i]?:=by simp[Z3,Go.Am.apart]
theorem ZoZ (e:Nat)(l:List AV){i:Nat}(hi:i<l.length)(v:AV)(hk:v.known=true)(hv:v.cells.length=1):Zi 1 (.wp 0 e i) v [AObj.row e l]=some (.tuple [],[AObj.row e (splice l i v.cells)]):=by
 unfold Zi YB
 simp only[List.getElem?_cons_zero]
 rw[if_pos ⟨trivial,hk,hv,by omega⟩]
 rfl
theorem Zow (a:List AV)(x y:AV)(b:List AV):splice (a++x::b) a.length [y]=a++y::b:=by
 unfold splice
 simp
theorem Zmp {t:List UInt8}(ht:t.length=256)(s:List UInt8)(hs:s.length≤4611686018427387904)(H0:Hp):∀ (r done:List UInt8),s=done++r →
 Q9 (.str t) (.ws false 1 0 0 s.length) (.int .i64 (s.length:Int)) (.int .i64 (done.length:Int)) H0 [AObj.row 0 ((Ww t done).map VB++r.map VB)]=some (.str (Ww t s),[AObj.row 0 ((Ww t s).map VB)]):=by
 intro r
 induction r with
 |nil =>
  intro done hd
  obtain rfl:done=s:=by rw[hd,List.append_nil]
  rw[Ff]
  have hlt:decide ((done.length:Int)<(done.length:Int))=false:=by simp
  have hel:UF (.ws false 1 0 0 done.length) [AObj.row 0 ((Ww t done).map VB)]=some ((Ww t done).map VB):=by
   simp[UF,elems,Ww]
   exact ZfX _ _ (by simp)
  have hr:UE (.ws false 1 0 0 done.length) [AObj.row 0 ((Ww t done).map VB)]=some (.str (Ww t done)):=by
   unfold UE
   simp only[UQ,hel,ZcK]
  simp only[go_sem,hlt,Ik,List.map_nil,List.append_nil,hr]
 |cons b r ih =>
  intro done hd
  rw[Ff]
  have hl:done.length<s.length:=by rw[hd];simp
  have hlt:decide ((done.length:Int)<(s.length:Int))=true:=by simp;omega
  have hw:IntKind.i64.wrap ((done.length:Int)+1)=((done.length+1:Nat):Int):=by rw[Zq (by omega) (by omega)];omega
  have hml:((Ww t done).map VB).length=done.length:=by simp[Ww]
  have hget:((Ww t done).map VB++(b::r).map VB)[done.length]?=some (.int .u8 b.toNat):=by
   rw[List.getElem?_append_right (by omega),hml]
   simp[VB]
  have hst:Zi 1 (.wp 0 0 done.length) (.int .u8 (t.getD b.toNat 0).toNat) [AObj.row 0 ((Ww t done).map VB++(b::r).map VB)]=some (.tuple [],[AObj.row 0 ((Ww t (done++[b])).map VB++r.map VB)]):=by
   rw[ZoZ 0 _ (by simp[Ww]) _ rfl rfl]
   have:=Zow ((Ww t done).map VB) (VB b) (.int .u8 (t.getD b.toNat 0).toNat) (r.map VB)
   rw[hml]at this
   simp only[List.map_cons,AV.cells]
   rw[this]
   simp[Ww,VB]
  have:=ih (done++[b]) (by rw[hd];simp)
  rw[List.length_append,List.length_singleton]at this
  simp only[go_sem,hlt,Il,ZwT 0 0 s.length hl,Zrs,hget,Zn1 ht,hst,Im,hw]
  exact this
theorem Zmo {t:List UInt8}(ht:t.length=256)(s:List UInt8)(hs:s.length≤4611686018427387904)(H:Hp):Zc BK [.str t,.str s] H=some (.str (Ww t s),H):=by
 refine WH (a':=.str t) (b':=.str s) (H1:=[AObj.row 0 ((Ww t s).map VB)]) rfl rfl ?_ rfl
 rw[O4]
 unfold Lc
 have:=Zmp ht s hs [] s [] rfl
 simp only[List.length_nil,Ww,List.map_nil,List.nil_append]at this
 have e:CP (.str s) []=some (.ws false 1 0 0 s.length,[AObj.row 0 (s.map VB)]):=rfl
 have ea:Zj (.slice 5) (.ws false 1 0 0 s.length)=some (.int .i64 s.length):=rfl
 simp only[e,ea,go_sem]
 exact this
theorem Zr7 (b:UInt8):(Zz 1 [(0,AV.int .u8 b.toNat)] [(.int .u8 0)]).map (AV.vs 1 .clip)=some (.vs 1 .clip [VB b]):=rfl
theorem ZmX {n:Nat}{H:Hp}{x:AV}{s:List UInt8}(h:RowN n H 1 x (s.map VB)):UE x H=some (.str s):=by
 rcases h with ⟨rfl,h⟩|⟨t,e,rfl,_⟩
 ·have:s=[]:=by cases s with
   |nil=>rfl
   |cons a l=>simp at h
  subst this
  rfl
 ·unfold UE UQ
  simp only[if_true,ZcK]
theorem Zld {t:List UInt8}(ht:t.length=256)(s:List UInt8)(hs:s.length≤1048576)(H0:Hp):∀ (r done:List UInt8) (x:AV) (H:Hp),s=done++r→RowN 0 H 1 x ((Ww t done).map VB) →
 ∃ H',GK (.str t) (.str s) x (.int .i64 (done.length:Int)) H0 H=some (.str (Ww t s),H'):=by
 intro r
 induction r with
 |nil =>
  intro done x H hd hx
  rw[List.append_nil]at hd
  subst hd
  rw[Nx]
  have hlt:decide ((s.length:Int)<(s.length:Int))=false:=by simp
  simp only[go_sem,ZJ,hlt,Zdw,ZmX hx]
  exact⟨_,rfl⟩
 |cons b r ih =>
  intro done x H hd hx
  rw[Nx]
  have hl:done.length<s.length:=by rw[hd];simp
  have hlt:decide ((done.length:Int)<(s.length:Int))=true:=by simp;omega
  have hw:IntKind.i64.wrap ((done.length:Int)+1)=((done.length+1:Nat):Int):=by rw[Zq (by omega) (by omega)];omega
  have hb:s[done.length]?=some b:=by rw[hd,List.getElem?_append_right (by omega)];simp
  obtain⟨x',H',e1,e2,_,_,_⟩:=hx.app (Nat.zero_le _) 1 (.vs 1 .clip [VB (t.getD b.toNat 0)]) [VB (t.getD b.toNat 0)] (by simp[elems]) (by simp[Ww];omega)
  simp only[go_sem,ZJ,hlt,Zdx,ZC hb,Zn1 ht,Zr7,e1,Zdy,hw]
  have:=ih (done++[b]) x' H' (by rw[hd];simp) (by simpa[Ww]using e2)
  rw[List.length_append,List.length_singleton]at this
  exact this
theorem Zlc {t:List UInt8}(ht:t.length=256)(s:List UInt8)(hs:s.length≤1048576)(H:Hp):Zc PU [.str t,.str s] H=some (.str (Ww t s),H):=by
 obtain⟨H',h⟩:=Zld ht s hs [] s [] .nils [] rfl (RowN.nil 0 [] 1)
 refine WH (a':=.str t) (b':=.str s) (H1:=H') rfl rfl ?_ rfl
 rw[Zev]
 unfold IZ
 exact h
theorem ZmI:defL.up.length=256∧defL.w.length=256:=⟨by simp[defL],by simp[defL]⟩
theorem ZiY (L:Loc):(ZR L).up.length=256:=by
 unfold ZR
 cases h:(XB L != 0) with
 |true=>exact ZmI.1
 |false=>exact (checked h).2.2
theorem HU (L:Loc):(ZR L).w.length=256:=by
 unfold ZR
 cases h:(XB L != 0) with
 |true=>exact ZmI.2
 |false=>exact (checked h).1
def upS (L:Loc)(s:List UInt8):List UInt8:=Ww (ZR L).up s
theorem Zh1 {a:AV}{L:Loc}(h:LocAV a L)(hok:LocOk L)(s:List UInt8)(hs:s.length≤1048576)(H:Hp):Zc FB [a,.str s] H=some (.str (upS L s),H)∧Zc Ef [a,.str s] H=some (.str (upS L s),H):=by
 obtain⟨a1,h1,h2⟩:=h.close [] 0 2
 have hv:=fun H=>Zh5 h2 hok H
 have hrv:=fun H=>ZcU h2 hok H
 obtain⟨x,c,e,rfl,hx,hc,he⟩:=h2
 have hl:Z3 true 6 (.ptr 0 0) [AObj.cells (L.cells x c e)]=some (.agg (L.cells x c e)):=by simp[Z3,Go.Am.apart,Loc.cells]
 constructor
 ·obtain⟨v,hv1,xv,cv,ev,rfl,_⟩:=hv [AObj.cells (L.cells x c e)]
  have hf:PN false 1 3 (.agg ((ZR L).cells xv cv ev))=some (.str (ZR L).up):=rfl
  refine WH h1 (b':=.str s) rfl (H1:=[AObj.cells (L.cells x c e)]) ?_ rfl
  rw[ZbA]
  unfold Si
  simp only[go_sem,List.nil_append,List.length_nil,hl,hv1,hf,Zmo (ZiY L) s (by omega)]
  rfl
 ·obtain⟨v,hv1,xv,cv,ev,rfl,_⟩:=hrv [AObj.cells (L.cells x c e)]
  have hf:PN false 1 3 (.agg ((ZR L).cells xv cv ev))=some (.str (ZR L).up):=rfl
  refine WH h1 (b':=.str s) rfl (H1:=[AObj.cells (L.cells x c e)]) ?_ rfl
  rw[Zhf]
  unfold Zci
  simp only[go_sem,List.nil_append,List.length_nil,hl,hv1,hf,Zlc (ZiY L) s hs]
  rfl
end Go.Am
