/-
  Strings by a table; capital letters.
-/
import Derived.Test.YtehanadfidoodaaGreatDoorTkKx
namespace Go.Am
set_option linter.unusedSimpArgs false
set_option linter.unusedVariables false
set_option maxRecDepth 100000

def by8 (b:UInt8):AV:=.int .u8 b.toNat
def mapS (t s:List UInt8):List UInt8:=s.map fun b=>t.getD b.toNat 0
theorem Zu1:∀ s:List UInt8,ZcI (s.map by8)=some s:=by
 intro s
 induction s with
 | nil=>rfl
 | cons b l ih =>
  show (match ZcI (l.map by8) with | some l=>some (UInt8.ofNat (b.toNat:Int).toNat :: l) | none=>none)=_
  rw [ih]
  simp
theorem ZCd {t:List UInt8} (ht:t.length=256) (b:UInt8):Zaj (.str t) (.int .u8 b.toNat)=some (.int .u8 (t.getD b.toNat 0).toNat):=by
 have hb:b.toNat < t.length:=by rw [ht];exact b.toNat_lt
 simp [Zaj,List.getElem?_eq_getElem hb,List.getD_eq_getElem?_getD]
theorem ZJP (o e n:Nat) {i:Nat} (hi:i < n):Zad 1 (.ws false 1 o e n) (.int .i64 (i:Int))=some (.wp o e i):=by
 simp [Zad,hi]
theorem ZFQ (e:Nat) (l:List AV) (i:Nat):Za2 false 1 (.wp 0 e i) [AObj.row e l]=l[i]?:=by simp [Za2,Go.Am.apart]
theorem ZDZ (e:Nat) (l:List AV) {i:Nat} (hi:i < l.length) (v:AV) (hk:v.known=true) (hv:v.cells.length=1):Zag 1 (.wp 0 e i) v [AObj.row e l]=some (.tuple [],[AObj.row e (splice l i v.cells)]):=by
 unfold Zag ZaQ
 simp only [List.getElem?_cons_zero]
 rw [if_pos ⟨trivial,hk,hv,by omega⟩]
 rfl
theorem ZDA (a:List AV) (x y:AV) (b:List AV):splice (a++x :: b) a.length [y]=a++y :: b:=by
 unfold splice
 simp
theorem ZBE {t : List UInt8} (ht : t.length = 256) (s : List UInt8) (hs : s.length ≤ 4611686018427387904) (H0 : Hp) : ∀ (r done : List UInt8), s = done ++ r →
    Ze2 (.str t) (.ws false 1 0 0 s.length) (.int .i64 (s.length:Int)) (.int .i64 (done.length:Int)) H0 [AObj.row 0 ((mapS t done).map by8++r.map by8)]=some (.str (mapS t s),[AObj.row 0 ((mapS t s).map by8)]):=by
 intro r
 induction r with
 | nil =>
  intro done hd
  obtain rfl:done=s:=by rw [hd,List.append_nil]
  rw [Zim]
  have hlt:decide ((done.length:Int) < (done.length:Int))=false:=by simp
  have hel:ZdK (.ws false 1 0 0 done.length) [AObj.row 0 ((mapS t done).map by8)]=some ((mapS t done).map by8):=by
   simp [ZdK,elems,mapS]
   exact Zww _ _ (by simp)
  have hr:cvRd (.ws false 1 0 0 done.length) [AObj.row 0 ((mapS t done).map by8)]=some (.str (mapS t done)):=by
   unfold cvRd
   simp only [Zh3,hel,Zu1]
  simp only [go_sem,hlt,Zqq,List.map_nil,List.append_nil,hr]
 | cons b r ih =>
  intro done hd
  rw [Zim]
  have hl:done.length < s.length:=by rw [hd];simp
  have hlt:decide ((done.length:Int) < (s.length:Int))=true:=by simp;omega
  have hw:IntKind.i64.wrap ((done.length:Int)+1)=((done.length+1:Nat):Int):=by rw [Zai (by omega) (by omega)];omega
  have hml:((mapS t done).map by8).length=done.length:=by simp [mapS]
  have hget:((mapS t done).map by8++(b :: r).map by8)[done.length]?=some (.int .u8 b.toNat):=by
   rw [List.getElem?_append_right (by omega),hml]
   simp [by8]
  have hst:Zag 1 (.wp 0 0 done.length) (.int .u8 (t.getD b.toNat 0).toNat) [AObj.row 0 ((mapS t done).map by8++(b :: r).map by8)]=some (.tuple [],[AObj.row 0 ((mapS t (done++[b])).map by8++r.map by8)]):=by
   rw [ZDZ 0 _ (by simp [mapS]) _ rfl rfl]
   have:=ZDA ((mapS t done).map by8) (by8 b) (.int .u8 (t.getD b.toNat 0).toNat) (r.map by8)
   rw [hml] at this
   simp only [List.map_cons,AV.cells]
   rw [this]
   simp [mapS,by8]
  have:=ih (done++[b]) (by rw [hd];simp)
  rw [List.length_append,List.length_singleton] at this
  simp only [go_sem,hlt,Zqr,ZJP 0 0 s.length hl,ZFQ,hget,ZCd ht,hst,Zqs,hw]
  exact this
theorem ZBD {t:List UInt8} (ht:t.length=256) (s:List UInt8) (hs:s.length≤4611686018427387904) (H:Hp):Za5 Zhd [.str t,.str s] H=some (.str (mapS t s),H):=by
 refine Zdf (a':=.str t) (b':=.str s) (H1:=[AObj.row 0 ((mapS t s).map by8)]) rfl rfl ?_ rfl
 rw [Zr3]
 unfold Zmt
 have:=ZBE ht s hs [] s [] rfl
 simp only [List.length_nil,mapS,List.map_nil,List.nil_append] at this
 have e:Zp2 (.str s) []=some (.ws false 1 0 0 s.length,[AObj.row 0 (s.map by8)]):=rfl
 have ea:Zaf (.slice 5) (.ws false 1 0 0 s.length)=some (.int .i64 s.length):=rfl
 simp only [e,ea,go_sem]
 exact this

theorem ZFx (b:UInt8):(Zau 1 [(0,AV.int .u8 b.toNat)] [(.int .u8 0)]).map (AV.vs 1 .clip)=some (.vs 1 .clip [by8 b]):=rfl
theorem ZCa {n:Nat} {H:Hp} {x:AV} {s:List UInt8} (h:RowN n H 1 x (s.map by8)):cvRd x H=some (.str s):=by
 rcases h with ⟨rfl,h⟩ | ⟨t,e,rfl,_⟩
 ·have : s = [] := by cases s with
     | nil=>rfl
     | cons a l=>simp at h
  subst this
  rfl
 ·unfold cvRd Zh3
  simp only [if_true,Zu1]
theorem ZAH {t : List UInt8} (ht : t.length = 256) (s : List UInt8) (hs : s.length ≤ 1048576) (H0 : Hp) : ∀ (r done : List UInt8) (x : AV) (H : Hp), s = done ++ r → RowN 0 H 1 x ((mapS t done).map by8) →
    ∃ H',ZgA (.str t) (.str s) x (.int .i64 (done.length:Int)) H0 H=some (.str (mapS t s),H'):=by
 intro r
 induction r with
 | nil =>
  intro done x H hd hx
  rw [List.append_nil] at hd
  subst hd
  rw [Zln]
  have hlt:decide ((s.length:Int) < (s.length:Int))=false:=by simp
  simp only [go_sem,Zat,hlt,ZuF,ZCa hx]
  exact ⟨_,rfl⟩
 | cons b r ih =>
  intro done x H hd hx
  rw [Zln]
  have hl:done.length < s.length:=by rw [hd];simp
  have hlt:decide ((done.length:Int) < (s.length:Int))=true:=by simp;omega
  have hw:IntKind.i64.wrap ((done.length:Int)+1)=((done.length+1:Nat):Int):=by rw [Zai (by omega) (by omega)];omega
  have hb:s[done.length]?=some b:=by rw [hd,List.getElem?_append_right (by omega)];simp
  obtain ⟨x',H',e1,e2,_,_,_⟩:=hx.app (Nat.zero_le _) 1 (.vs 1 .clip [by8 (t.getD b.toNat 0)]) [by8 (t.getD b.toNat 0)] (by simp [elems]) (by simp [mapS];omega)
  simp only [go_sem,Zat,hlt,ZuG,Zax hb,ZCd ht,ZFx,e1,ZuH,hw]
  have:=ih (done++[b]) x' H' (by rw [hd];simp) (by simpa [mapS] using e2)
  rw [List.length_append,List.length_singleton] at this
  exact this
theorem ZAG {t:List UInt8} (ht:t.length=256) (s:List UInt8) (hs:s.length≤1048576) (H:Hp):Za5 Zl5 [.str t,.str s] H=some (.str (mapS t s),H):=by
 obtain ⟨H',h⟩:=ZAH ht s hs [] s [] .nils [] rfl (RowN.nil 0 [] 1)
 refine Zdf (a':=.str t) (b':=.str s) (H1:=H') rfl rfl ?_ rfl
 rw [Zvh]
 unfold ZqZ
 exact h
theorem ZBV:defL.up.length=256∧defL.w.length=256:=⟨by simp [defL],by simp [defL]⟩
theorem ZyU (L:Loc):(Zay L).up.length=256:=by
 unfold Zay
 cases h:(ZbH L != 0) with
 | true=>exact ZBV.1
 | false=>exact (checked h).2.2
theorem ZpG (L:Loc):(Zay L).w.length=256:=by
 unfold Zay
 cases h:(ZbH L != 0) with
 | true=>exact ZBV.2
 | false=>exact (checked h).1
def upS (L:Loc) (s:List UInt8):List UInt8:=mapS (Zay L).up s
theorem Zxj {a:AV} {L:Loc} (h:LocAV a L) (hok:LocOk L) (s:List UInt8) (hs:s.length≤1048576) (H:Hp):Za5 Zix [a,.str s] H=some (.str (upS L s),H)∧Za5 Znf [a,.str s] H=some (.str (upS L s),H):=by
 obtain ⟨a1,h1,h2⟩:=h.close [] 0 2
 have hv:=fun H=>Zxn h2 hok H
 have hrv:=fun H=>Zu9 h2 hok H
 obtain ⟨x,c,e,rfl,hx,hc,he⟩:=h2
 have hl:Za2 true 6 (.ptr 0 0) [AObj.cells (L.cells x c e)]=some (.agg (L.cells x c e)):=by simp [Za2,Go.Am.apart,Loc.cells]
 constructor
 ·obtain ⟨v,hv1,xv,cv,ev,rfl,_⟩:=hv [AObj.cells (L.cells x c e)]
  have hf:Zl1 false 1 3 (.agg ((Zay L).cells xv cv ev))=some (.str (Zay L).up):=rfl
  refine Zdf h1 (b':=.str s) rfl (H1:=[AObj.cells (L.cells x c e)]) ?_ rfl
  rw [ZsZ]
  unfold ZnP
  simp only [go_sem,List.nil_append,List.length_nil,hl,hv1,hf,ZBD (ZyU L) s (by omega)]
  rfl
 ·obtain ⟨v,hv1,xv,cv,ev,rfl,_⟩:=hrv [AObj.cells (L.cells x c e)]
  have hf:Zl1 false 1 3 (.agg ((Zay L).cells xv cv ev))=some (.str (Zay L).up):=rfl
  refine Zdf h1 (b':=.str s) rfl (H1:=[AObj.cells (L.cells x c e)]) ?_ rfl
  rw [Zxv]
  unfold ZtD
  simp only [go_sem,List.nil_append,List.length_nil,hl,hv1,hf,ZAG (ZyU L) s hs]
  rfl
end Go.Am
