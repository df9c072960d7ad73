/-
  Strings by a table; capital letters.
-/
import Derived.Test.YtehanadfidoodaaGreatDoorNkKx
namespace Go.Am
set_option linter.unusedSimpArgs false
set_option linter.unusedVariables false
set_option maxRecDepth 100000
def UR (b:UInt8):AV:=.int .u8 b.toNat
def Wz (t s:List UInt8):List UInt8:=s.map fun b=>t.getD b.toNat 0
theorem ZaB:∀ s:List UInt8,Wn (s.map UR)=some s:=by
 intro s
 induction s with
 |nil=>rfl
 |cons b l ih =>
  show (match Wn (l.map UR) with|some l=>some (UInt8.ofNat (b.toNat:Int).toNat::l)|none=>none)=_
  rw[ih]
  simp
theorem Zjn {t:List UInt8}(ht:t.length=256)(b:UInt8):Zw (.str t) (.int .u8 b.toNat)=some (.int .u8 (t.getD b.toNat 0).toNat):=by
 have hb:b.toNat<t.length:=by rw[ht];exact b.toNat_lt
 simp[Zw,List.getElem?_eq_getElem hb,List.getD_eq_getElem?_getD]
theorem Zt5 (o e n:Nat){i:Nat}(hi:i<n):Zl 1 (.ws false 1 o e n) (.int .i64 (i:Int))=some (.wp o e i):=by
 simp[Zl,hi]
theorem ZnQ (e:Nat)(l:List AV)(i:Nat):Z4 false 1 (.wp 0 e i) [AObj.row e l]=l[i]?:=by simp[Z4,Go.Am.apart]
theorem Zls (e:Nat)(l:List AV){i:Nat}(hi:i<l.length)(v:AV)(hk:v.known=true)(hv:v.cells.length=1):Zi 1 (.wp 0 e i) v [AObj.row e l]=some (.tuple [],[AObj.row e (splice l i v.cells)]):=by
 unfold Zi Xm
 simp only[List.getElem?_cons_zero]
 rw[if_pos ⟨trivial,hk,hv,by omega⟩]
 rfl
theorem Zl2 (a:List AV)(x y:AV)(b:List AV):splice (a++x::b) a.length [y]=a++y::b:=by
 unfold splice
 simp
theorem ZiG {t:List UInt8}(ht:t.length=256)(s:List UInt8)(hs:s.length≤4611686018427387904)(H0:Hp):∀ (r done:List UInt8),s=done++r →
 Ql (.str t) (.ws false 1 0 0 s.length) (.int .i64 (s.length:Int)) (.int .i64 (done.length:Int)) H0 [AObj.row 0 ((Wz t done).map UR++r.map UR)]=some (.str (Wz t s),[AObj.row 0 ((Wz t s).map UR)]):=by
 intro r
 induction r with
 |nil =>
  intro done hd
  obtain rfl:done=s:=by rw[hd,List.append_nil]
  rw[F9]
  have hlt:decide ((done.length:Int)<(done.length:Int))=false:=by simp
  have hel:US (.ws false 1 0 0 done.length) [AObj.row 0 ((Wz t done).map UR)]=some ((Wz t done).map UR):=by
   simp[US,elems,Wz]
   exact ZcK _ _ (by simp)
  have hr:Qe (.ws false 1 0 0 done.length) [AObj.row 0 ((Wz t done).map UR)]=some (.str (Wz t done)):=by
   unfold Qe
   simp only[Q0,hel,ZaB]
  simp only[go_sem,hlt,HN,List.map_nil,List.append_nil,hr]
 |cons b r ih =>
  intro done hd
  rw[F9]
  have hl:done.length<s.length:=by rw[hd];simp
  have hlt:decide ((done.length:Int)<(s.length:Int))=true:=by simp;omega
  have hw:IntKind.i64.wrap ((done.length:Int)+1)=((done.length+1:Nat):Int):=by rw[Zr (by omega) (by omega)];omega
  have hml:((Wz t done).map UR).length=done.length:=by simp[Wz]
  have hget:((Wz t done).map UR++(b::r).map UR)[done.length]?=some (.int .u8 b.toNat):=by
   rw[List.getElem?_append_right (by omega),hml]
   simp[UR]
  have hst:Zi 1 (.wp 0 0 done.length) (.int .u8 (t.getD b.toNat 0).toNat) [AObj.row 0 ((Wz t done).map UR++(b::r).map UR)]=some (.tuple [],[AObj.row 0 ((Wz t (done++[b])).map UR++r.map UR)]):=by
   rw[Zls 0 _ (by simp[Wz]) _ rfl rfl]
   have:=Zl2 ((Wz t done).map UR) (UR b) (.int .u8 (t.getD b.toNat 0).toNat) (r.map UR)
   rw[hml]at this
   simp only[List.map_cons,AV.cells]
   rw[this]
   simp[Wz,UR]
  have:=ih (done++[b]) (by rw[hd];simp)
  rw[List.length_append,List.length_singleton]at this
  simp only[go_sem,hlt,HO,Zt5 0 0 s.length hl,ZnQ,hget,Zjn ht,hst,HP,hw]
  exact this
theorem ZiF {t:List UInt8}(ht:t.length=256)(s:List UInt8)(hs:s.length≤4611686018427387904)(H:Hp):Ze BX [.str t,.str s] H=some (.str (Wz t s),H):=by
 refine K9 (a':=.str t) (b':=.str s) (H1:=[AObj.row 0 ((Wz t s).map UR)]) rfl rfl ?_ rfl
 rw[AK]
 unfold Ml
 have:=ZiG ht s hs [] s [] rfl
 simp only[List.length_nil,Wz,List.map_nil,List.nil_append]at this
 have e:SH (.str s) []=some (.ws false 1 0 0 s.length,[AObj.row 0 (s.map UR)]):=rfl
 have ea:Zk (.slice 5) (.ws false 1 0 0 s.length)=some (.int .i64 s.length):=rfl
 simp only[e,ea,go_sem]
 exact this
theorem ZsQ (b:UInt8):(ZA 1 [(0,AV.int .u8 b.toNat)] [(.int .u8 0)]).map (AV.vs 1 .clip)=some (.vs 1 .clip [UR b]):=rfl
theorem ZrT {n:Nat}{H:Hp}{x:AV}{s:List UInt8}(h:RowN n H 1 x (s.map UR)):Qe x H=some (.str s):=by
 rcases h with ⟨rfl,h⟩|⟨t,e,rfl,_⟩
 ·have:s=[]:=by cases s with
   |nil=>rfl
   |cons a l=>simp at h
  subst this
  rfl
 ·unfold Qe Q0
  simp only[if_true,ZaB]
theorem Zht {t:List UInt8}(ht:t.length=256)(s:List UInt8)(hs:s.length≤1048576)(H0:Hp):∀ (r done:List UInt8) (x:AV) (H:Hp),s=done++r→RowN 0 H 1 x ((Wz t done).map UR) →
 ∃ H',B4 (.str t) (.str s) x (.int .i64 (done.length:Int)) H0 H=some (.str (Wz t s),H'):=by
 intro r
 induction r with
 |nil =>
  intro done x H hd hx
  rw[List.append_nil]at hd
  subst hd
  rw[PW]
  have hlt:decide ((s.length:Int)<(s.length:Int))=false:=by simp
  simp only[go_sem,Ym,hlt,Zb5,ZrT hx]
  exact⟨_,rfl⟩
 |cons b r ih =>
  intro done x H hd hx
  rw[PW]
  have hl:done.length<s.length:=by rw[hd];simp
  have hlt:decide ((done.length:Int)<(s.length:Int))=true:=by simp;omega
  have hw:IntKind.i64.wrap ((done.length:Int)+1)=((done.length+1:Nat):Int):=by rw[Zr (by omega) (by omega)];omega
  have hb:s[done.length]?=some b:=by rw[hd,List.getElem?_append_right (by omega)];simp
  obtain⟨x',H',e1,e2,_,_,_⟩:=hx.app (Nat.zero_le _) 1 (.vs 1 .clip [UR (t.getD b.toNat 0)]) [UR (t.getD b.toNat 0)] (by simp[elems]) (by simp[Wz];omega)
  simp only[go_sem,Ym,hlt,Zb6,Y0 hb,Zjn ht,ZsQ,e1,Zb7,hw]
  have:=ih (done++[b]) x' H' (by rw[hd];simp) (by simpa[Wz]using e2)
  rw[List.length_append,List.length_singleton]at this
  exact this
theorem Zhs {t:List UInt8}(ht:t.length=256)(s:List UInt8)(hs:s.length≤1048576)(H:Hp):Ze Ps [.str t,.str s] H=some (.str (Wz t s),H):=by
 obtain⟨H',h⟩:=Zht ht s hs [] s [] .nils [] rfl (RowN.nil 0 [] 1)
 refine K9 (a':=.str t) (b':=.str s) (H1:=H') rfl rfl ?_ rfl
 rw[ZbX]
 unfold AG
 exact h
theorem Zj2:defL.up.length=256∧defL.w.length=256:=⟨by simp[defL],by simp[defL]⟩
theorem Zfq (L:Loc):(Y6 L).up.length=256:=by
 unfold Y6
 cases h:(XH L != 0) with
 |true=>exact Zj2.1
 |false=>exact (checked h).2.2
theorem ZhP (L:Loc):(Y6 L).w.length=256:=by
 unfold Y6
 cases h:(XH L != 0) with
 |true=>exact Zj2.2
 |false=>exact (checked h).1
def upS (L:Loc)(s:List UInt8):List UInt8:=Wz (Y6 L).up s
theorem ZlA {a:AV}{L:Loc}(h:LocAV a L)(hok:LocOk L)(s:List UInt8)(hs:s.length≤1048576)(H:Hp):Ze Fx [a,.str s] H=some (.str (upS L s),H)∧Ze Zal [a,.str s] H=some (.str (upS L s),H):=by
 obtain⟨a1,h1,h2⟩:=h.close [] 0 2
 have hv:=fun H=>ZdK h2 hok H
 have hrv:=fun H=>ZiQ h2 hok H
 obtain⟨x,c,e,rfl,hx,hc,he⟩:=h2
 have hl:Z4 true 6 (.ptr 0 0) [AObj.cells (L.cells x c e)]=some (.agg (L.cells x c e)):=by simp[Z4,Go.Am.apart,Loc.cells]
 constructor
 ·obtain⟨v,hv1,xv,cv,ev,rfl,_⟩:=hv [AObj.cells (L.cells x c e)]
  have hf:Po false 1 3 (.agg ((Y6 L).cells xv cv ev))=some (.str (Y6 L).up):=rfl
  refine K9 h1 (b':=.str s) rfl (H1:=[AObj.cells (L.cells x c e)]) ?_ rfl
  rw[OQ]
  unfold Eb
  simp only[go_sem,List.nil_append,List.length_nil,hl,hv1,hf,ZiF (Zfq L) s (by omega)]
  rfl
 ·obtain⟨v,hv1,xv,cv,ev,rfl,_⟩:=hrv [AObj.cells (L.cells x c e)]
  have hf:Po false 1 3 (.agg ((Y6 L).cells xv cv ev))=some (.str (Y6 L).up):=rfl
  refine K9 h1 (b':=.str s) rfl (H1:=[AObj.cells (L.cells x c e)]) ?_ rfl
  rw[ZdT]
  unfold Zap
  simp only[go_sem,List.nil_append,List.length_nil,hl,hv1,hf,Zhs (Zfq L) s hs]
  rfl
end Go.Am
