/-
  Strings by a table; capital letters.
-/
import Derived.Test.YtehanadfidoodaaGreatDoorNkKx
namespace Go.Am
set_option linter.unusedSimpArgs false
set_option linter.unusedVariables false
set_option maxRecDepth 100000
def UA (b:UInt8):AV:=.int .u8 b.toNat
def Wn (t s:List UInt8):List UInt8:=s.map fun b=>t.getD b.toNat 0
theorem O2:∀ s:List UInt8,Wb (s.map UA)=some s:=by
 intro s
 induction s with
 |nil=>rfl
 |cons b l ih =>
  show (match Wb (l.map UA) with|some l=>some (UInt8.ofNat (b.toNat:Int).toNat::l)|none=>none)=_
  rw[ih]
  simp
theorem ZhC {t:List UInt8}(ht:t.length=256)(b:UInt8):Zu (.str t) (.int .u8 b.toNat)=some (.int .u8 (t.getD b.toNat 0).toNat):=by
 have hb:b.toNat<t.length:=by rw[ht];exact b.toNat_lt
 simp[Zu,List.getElem?_eq_getElem hb,List.getD_eq_getElem?_getD]
theorem ZrB (o e n:Nat){i:Nat}(hi:i<n):Zn 1 (.ws false 1 o e n) (.int .i64 (i:Int))=some (.wp o e i):=by
 simp[Zn,hi]
theorem Zm7 (e:Nat)(l:List AV)(i:Nat):Z4 false 1 (.wp 0 e i) [AObj.row e l]=l[i]?:=by simp[Z4,Go.Am.apart]
theorem ZjC (e:Nat)(l:List AV){i:Nat}(hi:i<l.length)(v:AV)(hk:v.known=true)(hv:v.cells.length=1):Zh 1 (.wp 0 e i) v [AObj.row e l]=some (.tuple [],[AObj.row e (splice l i v.cells)]):=by
 unfold Zh Xe
 simp only[List.getElem?_cons_zero]
 rw[if_pos ⟨trivial,hk,hv,by omega⟩]
 rfl
theorem Zjd (a:List AV)(x y:AV)(b:List AV):splice (a++x::b) a.length [y]=a++y::b:=by
 unfold splice
 simp
theorem ZgX {t:List UInt8}(ht:t.length=256)(s:List UInt8)(hs:s.length≤4611686018427387904)(H0:Hp):∀ (r done:List UInt8),s=done++r →
 Q9 (.str t) (.ws false 1 0 0 s.length) (.int .i64 (s.length:Int)) (.int .i64 (done.length:Int)) H0 [AObj.row 0 ((Wn t done).map UA++r.map UA)]=some (.str (Wn t s),[AObj.row 0 ((Wn t s).map UA)]):=by
 intro r
 induction r with
 |nil =>
  intro done hd
  obtain rfl:done=s:=by rw[hd,List.append_nil]
  rw[Dt]
  have hlt:decide ((done.length:Int)<(done.length:Int))=false:=by simp
  have hel:UB (.ws false 1 0 0 done.length) [AObj.row 0 ((Wn t done).map UA)]=some ((Wn t done).map UA):=by
   simp[UB,elems,Wn]
   exact Zb7 _ _ (by simp)
  have hr:Q2 (.ws false 1 0 0 done.length) [AObj.row 0 ((Wn t done).map UA)]=some (.str (Wn t done)):=by
   unfold Q2
   simp only[UK,hel,O2]
  simp only[go_sem,hlt,Co,List.map_nil,List.append_nil,hr]
 |cons b r ih =>
  intro done hd
  rw[Dt]
  have hl:done.length<s.length:=by rw[hd];simp
  have hlt:decide ((done.length:Int)<(s.length:Int))=true:=by simp;omega
  have hw:IntKind.i64.wrap ((done.length:Int)+1)=((done.length+1:Nat):Int):=by rw[Zr (by omega) (by omega)];omega
  have hml:((Wn t done).map UA).length=done.length:=by simp[Wn]
  have hget:((Wn t done).map UA++(b::r).map UA)[done.length]?=some (.int .u8 b.toNat):=by
   rw[List.getElem?_append_right (by omega),hml]
   simp[UA]
  have hst:Zh 1 (.wp 0 0 done.length) (.int .u8 (t.getD b.toNat 0).toNat) [AObj.row 0 ((Wn t done).map UA++(b::r).map UA)]=some (.tuple [],[AObj.row 0 ((Wn t (done++[b])).map UA++r.map UA)]):=by
   rw[ZjC 0 _ (by simp[Wn]) _ rfl rfl]
   have:=Zjd ((Wn t done).map UA) (UA b) (.int .u8 (t.getD b.toNat 0).toNat) (r.map UA)
   rw[hml]at this
   simp only[List.map_cons,AV.cells]
   rw[this]
   simp[Wn,UA]
  have:=ih (done++[b]) (by rw[hd];simp)
  rw[List.length_append,List.length_singleton]at this
  simp only[go_sem,hlt,Cp,ZrB 0 0 s.length hl,Zm7,hget,ZhC ht,hst,Cq,hw]
  exact this
theorem ZgW {t:List UInt8}(ht:t.length=256)(s:List UInt8)(hs:s.length≤4611686018427387904)(H:Hp):Ze Bj [.str t,.str s] H=some (.str (Wn t s),H):=by
 refine JF (a':=.str t) (b':=.str s) (H1:=[AObj.row 0 ((Wn t s).map UA)]) rfl rfl ?_ rfl
 rw[He]
 unfold Nv
 have:=ZgX ht s hs [] s [] rfl
 simp only[List.length_nil,Wn,List.map_nil,List.nil_append]at this
 have e:Ev (.str s) []=some (.ws false 1 0 0 s.length,[AObj.row 0 (s.map UA)]):=rfl
 have ea:Zk (.slice 5) (.ws false 1 0 0 s.length)=some (.int .i64 s.length):=rfl
 simp only[e,ea,go_sem]
 exact this
theorem Zrk (b:UInt8):(ZF 1 [(0,AV.int .u8 b.toNat)] [(.int .u8 0)]).map (AV.vs 1 .clip)=some (.vs 1 .clip [UA b]):=rfl
theorem Zql {n:Nat}{H:Hp}{x:AV}{s:List UInt8}(h:RowN n H 1 x (s.map UA)):Q2 x H=some (.str s):=by
 rcases h with ⟨rfl,h⟩|⟨t,e,rfl,_⟩
 ·have:s=[]:=by cases s with
   |nil=>rfl
   |cons a l=>simp at h
  subst this
  rfl
 ·unfold Q2 UK
  simp only[if_true,O2]
theorem ZfI {t:List UInt8}(ht:t.length=256)(s:List UInt8)(hs:s.length≤1048576)(H0:Hp):∀ (r done:List UInt8) (x:AV) (H:Hp),s=done++r→RowN 0 H 1 x ((Wn t done).map UA) →
 ∃ H',Gv (.str t) (.str s) x (.int .i64 (done.length:Int)) H0 H=some (.str (Wn t s),H'):=by
 intro r
 induction r with
 |nil =>
  intro done x H hd hx
  rw[List.append_nil]at hd
  subst hd
  rw[Pd]
  have hlt:decide ((s.length:Int)<(s.length:Int))=false:=by simp
  simp only[go_sem,Ym,hlt,Ox,Zql hx]
  exact⟨_,rfl⟩
 |cons b r ih =>
  intro done x H hd hx
  rw[Pd]
  have hl:done.length<s.length:=by rw[hd];simp
  have hlt:decide ((done.length:Int)<(s.length:Int))=true:=by simp;omega
  have hw:IntKind.i64.wrap ((done.length:Int)+1)=((done.length+1:Nat):Int):=by rw[Zr (by omega) (by omega)];omega
  have hb:s[done.length]?=some b:=by rw[hd,List.getElem?_append_right (by omega)];simp
  obtain⟨x',H',e1,e2,_,_,_⟩:=hx.app (Nat.zero_le _) 1 (.vs 1 .clip [UA (t.getD b.toNat 0)]) [UA (t.getD b.toNat 0)] (by simp[elems]) (by simp[Wn];omega)
  simp only[go_sem,Ym,hlt,Oy,ZU hb,ZhC ht,Zrk,e1,Oz,hw]
  have:=ih (done++[b]) x' H' (by rw[hd];simp) (by simpa[Wn]using e2)
  rw[List.length_append,List.length_singleton]at this
  exact this
theorem ZfH {t:List UInt8}(ht:t.length=256)(s:List UInt8)(hs:s.length≤1048576)(H:Hp):Ze TI [.str t,.str s] H=some (.str (Wn t s),H):=by
 obtain⟨H',h⟩:=ZfI ht s hs [] s [] .nils [] rfl (RowN.nil 0 [] 1)
 refine JF (a':=.str t) (b':=.str s) (H1:=H') rfl rfl ?_ rfl
 rw[Zaj]
 unfold Ha
 exact h
theorem Zhi:defL.up.length=256∧defL.w.length=256:=⟨by simp[defL],by simp[defL]⟩
theorem ZdF (L:Loc):(Y4 L).up.length=256:=by
 unfold Y4
 cases h:(Xu L != 0) with
 |true=>exact Zhi.1
 |false=>exact (checked h).2.2
theorem Zg5 (L:Loc):(Y4 L).w.length=256:=by
 unfold Y4
 cases h:(Xu L != 0) with
 |true=>exact Zhi.2
 |false=>exact (checked h).1
def upS (L:Loc)(s:List UInt8):List UInt8:=Wn (Y4 L).up s
theorem ZjL {a:AV}{L:Loc}(h:LocAV a L)(hok:LocOk L)(s:List UInt8)(hs:s.length≤1048576)(H:Hp):Ze DM [a,.str s] H=some (.str (upS L s),H)∧Ze IJ [a,.str s] H=some (.str (upS L s),H):=by
 obtain⟨a1,h1,h2⟩:=h.close [] 0 2
 have hv:=fun H=>Zc7 h2 hok H
 have hrv:=fun H=>Zh7 h2 hok H
 obtain⟨x,c,e,rfl,hx,hc,he⟩:=h2
 have hl:Z4 true 6 (.ptr 0 0) [AObj.cells (L.cells x c e)]=some (.agg (L.cells x c e)):=by simp[Z4,Go.Am.apart,Loc.cells]
 constructor
 ·obtain⟨v,hv1,xv,cv,ev,rfl,_⟩:=hv [AObj.cells (L.cells x c e)]
  have hf:TC false 1 3 (.agg ((Y4 L).cells xv cv ev))=some (.str (Y4 L).up):=rfl
  refine JF h1 (b':=.str s) rfl (H1:=[AObj.cells (L.cells x c e)]) ?_ rfl
  rw[Il]
  unfold Lg
  simp only[go_sem,List.nil_append,List.length_nil,hl,hv1,hf,ZgW (ZdF L) s (by omega)]
  rfl
 ·obtain⟨v,hv1,xv,cv,ev,rfl,_⟩:=hrv [AObj.cells (L.cells x c e)]
  have hf:TC false 1 3 (.agg ((Y4 L).cells xv cv ev))=some (.str (Y4 L).up):=rfl
  refine JF h1 (b':=.str s) rfl (H1:=[AObj.cells (L.cells x c e)]) ?_ rfl
  rw[Zcf]
  unfold IN
  simp only[go_sem,List.nil_append,List.length_nil,hl,hv1,hf,ZfH (ZdF L) s hs]
  rfl
end Go.Am
