/-
  Bytes told apart; names; letters and digits alone.
-/
import Derived.Test.YtehanadfidoodaaGreatDoorTkSx
import Derived.Test.YtehanadfidoodaaGreatDoorTkGCx
namespace Go.Am
set_option linter.unusedSimpArgs false
set_option linter.unusedVariables false
set_option maxRecDepth 100000

theorem ZmJ {α β γ:Type} (x:Option α) (f:α→Option β) (g:β→Option γ):bnd (bnd x f) g=bnd x fun a=>bnd (f a) g:=by cases x <;> rfl
def Zpp (t13_9 x8:AV):Option AV :=
 bnd (ibin .eql t13_9 (.int .u8 95)) fun t15_10 =>
 bnd (gdv t15_10 false (.tuple []) (some t13_9)) fun t17_11 =>
 bnd (gdv t15_10 false (.tuple []) (ibin .geq t17_11 (.int .u8 97))) fun t18_12 =>
 bnd (gdv t15_10 false (.tuple []) (some t18_12)) fun t19_13 =>
 bnd (gdv t19_13 true (.tuple []) (some t13_9)) fun t20_14 =>
 bnd (gdv t19_13 true (.tuple []) (ibin .leq t20_14 (.int .u8 122))) fun t21_15 =>
 bnd (gdv t15_10 false (.tuple []) (Zae t19_13 t21_15 (.bool false))) fun t22_16 =>
 bnd (Zae t15_10 (.bool true) t22_16) fun t23_17 =>
 bnd (gdv t23_17 false (.tuple []) (some t13_9)) fun t25_18 =>
 bnd (gdv t23_17 false (.tuple []) (ibin .geq t25_18 (.int .u8 65))) fun t26_19 =>
 bnd (gdv t23_17 false (.tuple []) (some t26_19)) fun t27_20 =>
 bnd (gdv t27_20 true (.tuple []) (some t13_9)) fun t28_21 =>
 bnd (gdv t27_20 true (.tuple []) (ibin .leq t28_21 (.int .u8 90))) fun t29_22 =>
 bnd (gdv t23_17 false (.tuple []) (Zae t27_20 t29_22 (.bool false))) fun t30_23 =>
 bnd (Zae t23_17 (.bool true) t30_23) fun t31_24 =>
 bnd (aun .not t31_24) fun t33_25 =>
 bnd (gdv t33_25 true (.tuple []) (some x8)) fun t35_26 =>
 bnd (gdv t33_25 true (.tuple []) (ibin .eql t35_26 (.int .i64 0))) fun t36_27 =>
 bnd (gdv t33_25 true (.tuple []) (some t36_27)) fun t37_28 =>
 bnd (gdv t37_28 false (.tuple []) (some t13_9)) fun t38_29 =>
 bnd (gdv t37_28 false (.tuple []) (ibin .lss t38_29 (.int .u8 48))) fun t39_30 =>
 bnd (gdv t33_25 true (.tuple []) (Zae t37_28 (.bool true) t39_30)) fun t40_31 =>
 bnd (gdv t33_25 true (.tuple []) (some t40_31)) fun t41_32 =>
 bnd (gdv t41_32 false (.tuple []) (some t13_9)) fun t42_33 =>
 bnd (gdv t41_32 false (.tuple []) (ibin .gtr t42_33 (.int .u8 57))) fun t43_34 =>
 bnd (gdv t33_25 true (.tuple []) (Zae t41_32 (.bool true) t43_34)) fun t44_35 =>
 bnd (Zae t33_25 t44_35 (.bool false)) fun t45_36 =>
 some t45_36
theorem Zin (x0 x7 x8 x9 : AV) (H0 H : Hp) : ZiL x0 x7 x8 x9 H0 H =
    bnd (Zaj x0 x8) fun t13_9 =>
    bnd (Zpp t13_9 x8) fun t45_36 =>
    cnd t45_36 (some ((.bool false),H)) (ZiM x0 x7 x8 H0 H):=by
 rw [Ztz];simp only [Zpp,ZmJ,ZeZ]
def Zxa (t31_2:AV):Option AV :=
 bnd (ibin .geq t31_2 (.int .u8 97)) fun t33_3 =>
 bnd (gdv t33_3 true (.tuple []) (some t31_2)) fun t35_4 =>
 bnd (gdv t33_3 true (.tuple []) (ibin .leq t35_4 (.int .u8 122))) fun t36_5 =>
 bnd (Zae t33_3 t36_5 (.bool false)) fun t37_6 =>
 bnd (gdv t37_6 false (.tuple []) (some t31_2)) fun t39_7 =>
 bnd (gdv t37_6 false (.tuple []) (ibin .geq t39_7 (.int .u8 65))) fun t40_8 =>
 bnd (gdv t37_6 false (.tuple []) (some t40_8)) fun t41_9 =>
 bnd (gdv t41_9 true (.tuple []) (some t31_2)) fun t42_10 =>
 bnd (gdv t41_9 true (.tuple []) (ibin .leq t42_10 (.int .u8 90))) fun t43_11 =>
 bnd (gdv t37_6 false (.tuple []) (Zae t41_9 t43_11 (.bool false))) fun t44_12 =>
 bnd (Zae t37_6 (.bool true) t44_12) fun t45_13 =>
 bnd (gdv t45_13 false (.tuple []) (some t31_2)) fun t47_14 =>
 bnd (gdv t45_13 false (.tuple []) (ibin .geq t47_14 (.int .u8 48))) fun t48_15 =>
 bnd (gdv t45_13 false (.tuple []) (some t48_15)) fun t49_16 =>
 bnd (gdv t49_16 true (.tuple []) (some t31_2)) fun t50_17 =>
 bnd (gdv t49_16 true (.tuple []) (ibin .leq t50_17 (.int .u8 57))) fun t51_18 =>
 bnd (gdv t45_13 false (.tuple []) (Zae t49_16 t51_18 (.bool false))) fun t52_19 =>
 bnd (Zae t45_13 (.bool true) t52_19) fun t53_20 =>
 bnd (gdv t53_20 false (.tuple []) (some t31_2)) fun t55_21 =>
 bnd (gdv t53_20 false (.tuple []) (ibin .eql t55_21 (.int .u8 95))) fun t56_22 =>
 bnd (Zae t53_20 (.bool true) t56_22) fun t57_23 =>
 bnd (aun .not t57_23) fun t58_24 =>
 some t58_24
theorem Zrs (x0 x3 : AV) (H0 H : Hp) : ZjS x0 x3 H0 H =
    bnd (Zaj x0 x3) fun t31_2 =>
    bnd (Zxa t31_2) fun t58_24 =>
    cnd t58_24 (some ((.bool false),H)) (ZjT x0 x3 H0 H):=by
 rw [ZuC];simp only [Zxa,ZmJ,ZeZ]
def Zx7 (r16_4a t14_3:AV):Option AV :=
 bnd (gdv r16_4a false (.tuple []) (some t14_3)) fun t18_5 =>
 bnd (gdv r16_4a false (.tuple []) (ibin .geq t18_5 (.int .u8 48))) fun t19_6 =>
 bnd (gdv r16_4a false (.tuple []) (some t19_6)) fun t20_7 =>
 bnd (gdv t20_7 true (.tuple []) (some t14_3)) fun t21_8 =>
 bnd (gdv t20_7 true (.tuple []) (ibin .leq t21_8 (.int .u8 57))) fun t22_9 =>
 bnd (gdv r16_4a false (.tuple []) (Zae t20_7 t22_9 (.bool false))) fun t23_10 =>
 bnd (Zae r16_4a (.bool true) t23_10) fun t24_11 =>
 bnd (gdv t24_11 false (.tuple []) (some t14_3)) fun t26_12 =>
 bnd (gdv t24_11 false (.tuple []) (ibin .geq t26_12 (.int .u8 97))) fun t27_13 =>
 bnd (gdv t24_11 false (.tuple []) (some t27_13)) fun t28_14 =>
 bnd (gdv t28_14 true (.tuple []) (some t14_3)) fun t29_15 =>
 bnd (gdv t28_14 true (.tuple []) (ibin .leq t29_15 (.int .u8 122))) fun t30_16 =>
 bnd (gdv t24_11 false (.tuple []) (Zae t28_14 t30_16 (.bool false))) fun t31_17 =>
 bnd (Zae t24_11 (.bool true) t31_17) fun t32_18 =>
 bnd (gdv t32_18 false (.tuple []) (some t14_3)) fun t34_19 =>
 bnd (gdv t32_18 false (.tuple []) (ibin .geq t34_19 (.int .u8 65))) fun t35_20 =>
 bnd (gdv t32_18 false (.tuple []) (some t35_20)) fun t36_21 =>
 bnd (gdv t36_21 true (.tuple []) (some t14_3)) fun t37_22 =>
 bnd (gdv t36_21 true (.tuple []) (ibin .leq t37_22 (.int .u8 90))) fun t38_23 =>
 bnd (gdv t32_18 false (.tuple []) (Zae t36_21 t38_23 (.bool false))) fun t39_24 =>
 bnd (Zae t32_18 (.bool true) t39_24) fun t40_25 =>
 some t40_25
theorem ZuM (x0 x3 x4 : AV) (H0 H : Hp) : Zns x0 x3 x4 H0 H =
    bnd (Zaj x0 x4) fun t14_3 =>
    bnd (Zds [t14_3] H) fun r16_4 =>
    bnd (Zx7 r16_4.1 t14_3) fun t40_25 =>
    cnd t40_25 (bnd ((Zau 1 [(0,t14_3)] [(.int .u8 0)]).map (.vs 1 .clip)) fun t43_26=>bnd (ZaH 1 1 x3 t43_26 r16_4.2) fun r44_27=>Zg6 x0 r44_27.1 x4 H0 r44_27.2) (Zg6 x0 x3 x4 H0 r16_4.2):=by
 rw [ZxL];simp only [Zx7,ZmJ,ZeZ]
def ZzE (r15_7a t13_6:AV):Option AV :=
 bnd (gdv r15_7a false (.tuple []) (some t13_6)) fun t17_8 =>
 bnd (gdv r15_7a false (.tuple []) (ibin .geq t17_8 (.int .u8 97))) fun t18_9 =>
 bnd (gdv r15_7a false (.tuple []) (some t18_9)) fun t19_10 =>
 bnd (gdv t19_10 true (.tuple []) (some t13_6)) fun t20_11 =>
 bnd (gdv t19_10 true (.tuple []) (ibin .leq t20_11 (.int .u8 122))) fun t21_12 =>
 bnd (gdv r15_7a false (.tuple []) (Zae t19_10 t21_12 (.bool false))) fun t22_13 =>
 bnd (Zae r15_7a (.bool true) t22_13) fun t23_14 =>
 bnd (gdv t23_14 false (.tuple []) (some t13_6)) fun t25_15 =>
 bnd (gdv t23_14 false (.tuple []) (ibin .geq t25_15 (.int .u8 65))) fun t26_16 =>
 bnd (gdv t23_14 false (.tuple []) (some t26_16)) fun t27_17 =>
 bnd (gdv t27_17 true (.tuple []) (some t13_6)) fun t28_18 =>
 bnd (gdv t27_17 true (.tuple []) (ibin .leq t28_18 (.int .u8 90))) fun t29_19 =>
 bnd (gdv t23_14 false (.tuple []) (Zae t27_17 t29_19 (.bool false))) fun t30_20 =>
 bnd (Zae t23_14 (.bool true) t30_20) fun t31_21 =>
 bnd (gdv t31_21 false (.tuple []) (some t13_6)) fun t33_22 =>
 bnd (gdv t31_21 false (.tuple []) (ibin .geq t33_22 (.int .u8 48))) fun t34_23 =>
 bnd (gdv t31_21 false (.tuple []) (some t34_23)) fun t35_24 =>
 bnd (gdv t35_24 true (.tuple []) (some t13_6)) fun t36_25 =>
 bnd (gdv t35_24 true (.tuple []) (ibin .leq t36_25 (.int .u8 57))) fun t37_26 =>
 bnd (gdv t31_21 false (.tuple []) (Zae t35_24 t37_26 (.bool false))) fun t38_27 =>
 bnd (Zae t31_21 (.bool true) t38_27) fun t39_28 =>
 some t39_28
theorem Zpy (x0 x3 x7 x8 x9 : AV) (H0 H : Hp) : Zi8 x0 x3 x7 x8 x9 H0 H =
    bnd (Zaj x0 x8) fun t13_6 =>
    bnd (Zcj [t13_6] H) fun r15_7 =>
    bnd (ZzE r15_7.1 t13_6) fun t39_28 =>
    cnd t39_28 (bnd (byteE.run [x3,t13_6] r15_7.2) fun r41_29=>Zdr x0 x3 x7 x8 H0 r41_29.2) (Zdr x0 x3 x7 x8 H0 r15_7.2):=by
 rw [Zsy];simp only [ZzE,ZmJ,ZeZ]

def ZlE:Option AV→Option Bool
 | some (.bool b)=>some b
 | _=>none
theorem Zg7 {x:Option AV} {b:Bool} (h:ZlE x=some b):x=some (.bool b):=by
 unfold ZlE at h
 split at h
 ·injection h with h;subst h;rfl
 ·cases h
def ZFj (n:Nat):Bool:=(decide (97≤n) && decide (n≤122)) || (decide (65≤n) && decide (n≤90))
def ZmN (n:Nat):Bool:=decide (48≤n) && decide (n≤57)
def Zdh (n:Nat):Bool:=n == 95 || ZFj n || ZmN n
theorem Zyz:((List.range 256).all fun n=>(ZlE (Zpp (.int .u8 (n:Int)) (.int .i64 1)) == some (!Zdh n)) && (ZlE (Zpp (.int .u8 (n:Int)) (.int .i64 0)) == some (!Zdh n || ZmN n)))=true:=by kernel_rfl
theorem ZDV:((List.range 256).all fun n=>(ZlE (Zxa (.int .u8 (n:Int))) == some (!Zdh n)))=true:=by kernel_rfl
theorem ZzH (b:UInt8):b.toNat < 256:=b.toNat_lt
theorem ZBH (b:UInt8):Zpp (.int .u8 b.toNat) (.int .i64 0)=some (.bool (!Zdh b.toNat || ZmN b.toNat)):=by
 have h:=ZdP Zyz (ZzH b)
 simp only [Bool.and_eq_true,beq_iff_eq] at h
 exact Zg7 h.2
theorem ZDD (b:UInt8) {i:Int} (hi:(i == 0)=false):Zpp (.int .u8 b.toNat) (.int .i64 i)=some (.bool (!Zdh b.toNat)):=by
 have h:=ZdP Zyz (ZzH b)
 simp only [Bool.and_eq_true,beq_iff_eq] at h
 rw [← Zg7 h.1]
 have e:ibin .eql (.int .i64 i) (.int .i64 0)=ibin .eql (.int .i64 1) (.int .i64 0):=by simp only [ibin,Zdb,ZcP,hi];rfl
 unfold Zpp
 iterate 16 refine congrArg (bnd _) (funext fun t=>?_)
 cases t with
 | bool b =>
  cases b
  ·rfl
  ·simp only [ZFa,ZeZ,e]
 | _=>rfl
theorem ZFO (b:UInt8):Zxa (.int .u8 b.toNat)=some (.bool (!Zdh b.toNat)):=by
 have h:=ZdP ZDV (ZzH b)
 simp only [beq_iff_eq] at h
 exact Zg7 h

def Zco (s:List UInt8):Bool :=
 match s with
 | []=>false
 | b :: _=>decide (s.length≤32) && !ZmN b.toNat && s.all fun c=>Zdh c.toNat
theorem ZC1 (s:List UInt8) (hs:s.length≤4611686018427387904) (H0 H:Hp):ZiK (.str s) H0 H=some (.bool (!s.isEmpty && decide (s.length≤32)),H):=by
 rw [Zty]
 cases s with
 | nil=>simp [go_sem,sbin,ZsA]
 | cons b l =>
  simp only [sbin,ZsA,go_sem,Zaf]
  have:(!((b :: l) == ([]:List UInt8)))=true:=rfl
  have c:decide (((b :: l).length:Int)≤32)=decide ((b :: l).length≤32):=by rw [Bool.eq_iff_iff];simp;omega
  simp only [this,go_sem,c,List.isEmpty_cons,Bool.not_false,Bool.true_and]
theorem ZFq (s : List UInt8) (hs : s.length ≤ 4611686018427387904) (H0 H : Hp) : ∀ (k i : Nat), s.length - i = k → 0 < i → i ≤ s.length →
    Zfu (.str s) (.int .i64 s.length) (.int .i64 i) H0 H=some (.bool (((s.drop i).all fun c=>Zdh c.toNat) && (!s.isEmpty && decide (s.length≤32))),H):=by
 intro k
 induction k with
 | zero =>
  intro i hk h0 hi
  rw [ZdD]
  have hlt:decide ((i:Int) < (s.length:Int))=false:=by simp;omega
  have hd:s.drop i=[]:=List.drop_eq_nil_iff.2 (by omega)
  simp only [go_sem,hlt,ZC1 s hs,hd,List.all_nil,Bool.true_and]
 | succ k ih =>
  intro i hk h0 hi
  rw [ZdD]
  have hl:i < s.length:=by omega
  have hlt:decide ((i:Int) < (s.length:Int))=true:=by simp;omega
  have hw:IntKind.i64.wrap ((i:Int)+1)=((i+1:Nat):Int):=by rw [Zai (by omega) (by omega)];omega
  have h0':((i:Int) == 0)=false:=by simp;omega
  simp only [go_sem,hlt,Zin,Zax (List.getElem?_eq_getElem hl),ZDD _ h0']
  rw [List.drop_eq_getElem_cons hl,List.all_cons]
  cases hb:Zdh s[i].toNat with
  | false=>simp only [go_sem,Bool.not_false,Bool.false_and]
  | true =>
   simp only [go_sem,Bool.not_true,Bool.true_and,Zkx,hw]
   exact ih (i+1) (by omega) (by omega) (by omega)
theorem ZFr (s:List UInt8) (hs:s.length≤4611686018427387904) (H:Hp):Zel [.str s] H=some (.bool (Zco s),H):=by
 rw [Zum]
 unfold ZpN
 simp only [go_sem,Zaf]
 cases s with
 | nil=>rw [ZdD];simp [go_sem,ZC1 [] (by simp),Zco]
 | cons b l =>
  rw [ZdD]
  have hlt:decide ((0:Int) < ((b :: l).length:Int))=true:=by simp
  have hw:IntKind.i64.wrap ((0:Int)+1)=((0+1:Nat):Int):=by decide
  have hidx:Zaj (.str (b :: l)) (.int .i64 0)=some (.int .u8 b.toNat):=by simp [Zaj]
  simp only [go_sem,hlt,Zin,hidx,ZBH]
  cases hb:(!Zdh b.toNat || ZmN b.toNat) with
  | true =>
   have:Zco (b :: l)=false:=by
    unfold Zco
    simp only [Bool.or_eq_true,Bool.not_eq_true'] at hb
    rcases hb with hb | hb <;> simp [hb]
   simp only [go_sem,this]
  | false =>
   simp only [Bool.or_eq_false_iff,Bool.not_eq_false'] at hb
   simp only [go_sem,Zkx,hw]
   rw [ZFq (b :: l) hs H H l.length 1 (by simp) (by omega) (by simp)]
   have:Zco (b :: l)=(((b :: l).drop 1).all (fun c=>Zdh c.toNat) && (!(b :: l).isEmpty && decide ((b :: l).length≤32))):=by
    unfold Zco
    simp only [hb.1,hb.2,List.all_cons,List.drop_one,List.tail_cons,List.isEmpty_cons,Bool.not_false,Bool.true_and,Bool.and_true]
    rw [Bool.and_comm]
   rw [this]
theorem ZDW (s : List UInt8) (hs : s.length ≤ 4611686018427387904) (H0 H : Hp) : ∀ (k i : Nat), s.length - i = k → i ≤ s.length →
    Zgy (.str s) (.int .i64 i) H0 H=some (.bool ((s.drop i).all fun c=>Zdh c.toNat),H):=by
 intro k
 induction k with
 | zero =>
  intro i hk hi
  rw [Zll]
  have hlt:decide ((i:Int) < (s.length:Int))=false:=by simp;omega
  have hd:s.drop i=[]:=List.drop_eq_nil_iff.2 (by omega)
  simp only [go_sem,Zaf,hlt,ZuB,hd,List.all_nil]
 | succ k ih =>
  intro i hk hi
  rw [Zll]
  have hl:i < s.length:=by omega
  have hlt:decide ((i:Int) < (s.length:Int))=true:=by simp;omega
  have hw:IntKind.i64.wrap ((i:Int)+1)=((i+1:Nat):Int):=by rw [Zai (by omega) (by omega)];omega
  simp only [go_sem,Zaf,hlt,Zrs,Zax (List.getElem?_eq_getElem hl),ZFO]
  rw [List.drop_eq_getElem_cons hl,List.all_cons]
  cases hb:Zdh s[i].toNat with
  | false=>simp only [go_sem,Bool.not_false,Bool.false_and]
  | true =>
   simp only [go_sem,Bool.not_true,Bool.true_and,ZuD,hw]
   exact ih (i+1) (by omega) (by omega)
theorem ZDX (s:List UInt8) (hs:s.length≤4611686018427387904) (H:Hp):ZeQ [.str s] H=some (.bool (Zco s),H):=by
 rw [Zvf]
 unfold ZqY
 simp only [go_sem,Zaf]
 cases s with
 | nil=>simp [go_sem,Zco]
 | cons b l =>
  have h0:((((b :: l).length:Nat):Int) == 0)=false:=by simp;omega
  have hidx:Zaj (.str (b :: l)) (.int .i64 0)=some (.int .u8 b.toNat):=by simp [Zaj]
  simp only [go_sem,h0]
  by_cases h32:32 < (b :: l).length
  ·have c1:decide ((32:Int) < ((b :: l).length:Int))=true:=by simp at h32 ⊢;omega
   have   : Zco (b :: l) = false := by unfold Zco; have : decide ((b :: l).length ≤ 32) = false := by simp at h32 ⊢; omega
                                       rw [this];rfl
   simp only [go_sem,c1,this]
  ·have c1:decide ((32:Int) < ((b :: l).length:Int))=false:=by simp at h32 ⊢;omega
   have c2:decide ((b :: l).length≤32)=true:=by simp at h32 ⊢;omega
   have hl:=ZDW (b :: l) hs H H (b :: l).length 0 (by simp) (by omega)
   rw [show ((0:Nat):Int)=0 from rfl,List.drop_zero] at hl
   have hn:Zco (b :: l)=(!ZmN b.toNat && (b :: l).all fun c=>Zdh c.toNat):=by unfold Zco;simp only [c2,Bool.true_and]
   simp only [go_sem,c1,hidx,ZuA,hl,hn]
   have e1:decide ((48:Int)≤(b.toNat:Int))=decide (48≤b.toNat):=by rw [Bool.eq_iff_iff];simp;omega
   have e2:decide ((b.toNat:Int)≤(57:Int))=decide (b.toNat≤57):=by rw [Bool.eq_iff_iff];simp;omega
   unfold ZmN
   simp only [e1,e2]
   cases h48:decide (48≤b.toNat) with
   | false=>simp only [go_sem,Bool.false_and,Bool.not_false,Bool.true_and]
   | true =>
    cases h57:decide (b.toNat≤57) with
    | false=>simp only [go_sem,hidx,e2,h57,Bool.true_and,Bool.not_false]
    | true=>simp only [go_sem,hidx,e2,h57,Bool.true_and,Bool.not_true,Bool.false_and]
theorem ZyA (s:List UInt8) (hs:s.length≤4611686018427387904) (H:Hp):Za5 Zel [.str s] H=some (.bool (Zco s),H):=Zcn rfl (ZFr s hs []) rfl
theorem Zxb (s:List UInt8) (hs:s.length≤4611686018427387904) (H:Hp):Za5 ZeQ [.str s] H=some (.bool (Zco s),H):=Zcn rfl (ZDX s hs []) rfl
end Go.Am
namespace Go.Am
set_option linter.unusedSimpArgs false
set_option linter.unusedVariables false

theorem ZCs (a b c d e:AV) (H:Hp):(Zaa 0 (.vp [a,b,c,d,e])=some (.vp [a,b,c,d,e]))∧(Zaa 1 (.vp [a,b,c,d,e])=some (.vp [b,c,d,e]))∧(Zaa 2 (.vp [a,b,c,d,e])=some (.vp [c,d,e]))∧(Zaa 3 (.vp [a,b,c,d,e])=some (.vp [d,e])):=⟨rfl,rfl,rfl,rfl⟩
theorem Zwf (a b:AV):(Zaa 0 (.vp [a,b])=some (.vp [a,b]))∧(Zaa 1 (.vp [a,b])=some (.vp [b])):=⟨rfl,rfl⟩
theorem Zan (a:AV) (l:List AV) (H:Hp):Za2 false 1 (.vp (a :: l)) H=some a:=(Eq.refl _).trans (Eq.refl _)
theorem ZhN (a:AV) (l:List AV):Zcq false 1 (.vp (a :: l))=some a:=(Eq.refl _).trans (Eq.refl _)
theorem Zwi (a b:AV) (H:Hp):Za2 true 2 (.vp [a,b]) H=some (.agg [a,b]):=by simp [Za2,Go.Am.apart]
theorem ZAh {tok:Tok} {fs:List (Nat × Nat)} {i:Int} {p:Nat × Nat} (h0:0≤i) (h:fs[i.toNat]?=some p):Zad 2 (.vs 2 tok (fs.map ZbY)) (.int .i64 i)=some (.vp [.int .i64 p.1,.int .i64 p.2]):=by
 simp [Zad,h0,h,ZbY,AV.cells]
theorem Zs2 (H:Hp) (a b:AV):Zag 2 (.ptr H.length 0) (.agg [a,b]) (H++[.cells [.int .i64 0,.int .i64 0]])=some (.tuple [],H++[.cells [a,b]]):=by
 rw [Zh1 (sz:=2) (v:=.agg [a,b]) (Zbp _ _) rfl rfl (by simp)]
 simp [AV.cells,splice]
theorem Zv0 (H:Hp) (l:List AV) (k:AV→Hp→Res):frzK (.ptr H.length 0) (H++[.cells l]) k=k (.vp l) (H++[.dead]):=by
 rw [ZwL (Zbp _ _),ZHu]
theorem Zn5 {line : List UInt8} {f e : Nat} (hf : f ≤ line.length) (he : e ≤ line.length) (H0 H : Hp) :
    ZdJ (.str line) (.int .i64 (f:Int)) (.int .i64 (e:Int)) H0 H=some (.str (if e < f then [] else (line.take e).drop f),H):=by
 rw [Zti]
 by_cases h:e≤f
 ·have c:decide ((e:Int)≤(f:Int))=true:=by simp;omega
  have hd:(if e < f then [] else (line.take e).drop f)=[]:=by
   split
   ·rfl
   ·simp;omega
  simp only [go_sem,c,hd]
 ·have c:decide ((e:Int)≤(f:Int))=false:=by simp;omega
  have hs:=Zwk (s:=line) (n:=(f:Int)) (m:=(e:Int)) .i64 .i64 (by omega) (by omega) (by omega)
  have e1:((f:Int)).toNat=f:=by omega
  have e2:((e:Int)).toNat=e:=by omega
  rw [e1,e2] at hs
  have hd:¬ e < f:=by omega
  simp only [go_sem,c,Ztj,hs,hd,if_false]
theorem Zqd {line : List UInt8} (hlen : line.length ≤ 1048576) {k : Ke} (hk : KeOk k) (sep : Int) (H : Hp) :
    ∃ H',Zgn [.str line,.agg k.cells,.int .i64 sep] H=some (.str (ex line (fields line sep) k),H'):=by
 rw [Zuh]
 unfold ZpK
 have hbox:abox (.agg k.cells) H=some (.ptr H.length 0,H++[.cells k.cells]):=Zoa rfl
 have hget:=Zbp H (.cells k.cells)
 obtain ⟨x',H2,g1,g2,g3⟩:=ZBu hlen sep (H++[.cells k.cells])
 have hget2:=g3 _ _ hget
 simp only [Ke.cells] at hbox hget hget2 g1 ⊢
 obtain ⟨v0,v1,v2,v3⟩:=ZCs (.int .i64 k.ff) (.int .i64 k.fc) (.int .i64 k.tf) (.int .i64 k.tc) (.int .i64 k.fl) H
 simp only [hbox,go_sem,g1,ZwL hget2,v0,v1,Zan,ZhN,ZFn,g2.len,List.length_map]
 by_cases hin:max k.ff 1≤((fields line sep).length:Int)
 ·have c1:decide (((fields line sep).length:Int) < max k.ff 1)=false:=by simp;omega
  have hff:=hk.ff
  have hfc:=hk.fc
  have hix:(max k.ff 1 - 1).toNat < (fields line sep).length:=by omega
  obtain ⟨⟨a,b⟩,hab⟩:∃ p,(fields line sep)[(max k.ff 1 - 1).toNat]?=some p:=⟨_,List.getElem?_eq_getElem hix⟩
  obtain ⟨r1,r2⟩:=ZmO line sep _ (List.mem_of_getElem? hab)
  simp only at r1 r2
  have w0:IntKind.i64.wrap (max k.ff 1 - 1)=max k.ff 1 - 1:=Zai (by omega) (by omega)
  have w1:IntKind.i64.wrap (max k.fc 1 - 1)=max k.fc 1 - 1:=Zai (by omega) (by omega)
  have w2:IntKind.i64.wrap ((b:Int) - a)=(b:Int) - a:=Zai (by omega) (by omega)
  have w3:IntKind.i64.wrap ((a:Int)+min (max k.fc 1 - 1) ((b:Int) - a))=((Zdd a b k:Nat):Int):=by rw [Zai (by omega) (by omega)];unfold Zdd;omega
  have hfl:Zdd a b k≤line.length:=by unfold Zdd;omega
  rcases g2 with ⟨_,hnil⟩ | ⟨tt,te,rfl,_⟩
  ·have:fields line sep=[]:=by simpa using hnil
   rw [this] at hix
   simp at hix
  have hidx:=ZAh (tok:=.own tt te) (fs:=fields line sep) (i:=max k.ff 1 - 1) (by omega) hab
  obtain ⟨u0,u1⟩:=Zwf (.int .i64 (a:Int)) (.int .i64 (b:Int))
  simp only [c1,go_sem,Zth,w0,hidx,Zwi,Zs2,Zv0,u0,u1,ZhN,Zan,w1,w2,ZwU,w3,v2]
  have fin:∀ e:Nat,e≤line.length→e=ZgH line (fields line sep) k→ex line (fields line sep) k=(if e < Zdd a b k then [] else (line.take e).drop (Zdd a b k)):=by
   intro e _ he
   subst he
   unfold ex
   rw [if_pos hin,Zl2 hab]
  by_cases ht:0 < k.tf
  ·have c2:decide ((0:Int) < k.tf)=true:=by simp [ht]
   have htf:=hk.tf
   simp only [c2,go_sem,Zan,List.length_map,v2]
   by_cases hin2:k.tf≤((fields line sep).length:Int)
   ·have c3:decide (k.tf≤((fields line sep).length:Int))=true:=by simp [hin2]
    have hix2:(k.tf - 1).toNat < (fields line sep).length:=by omega
    obtain ⟨⟨a2,b2⟩,hab2⟩:∃ p,(fields line sep)[(k.tf - 1).toNat]?=some p:=⟨_,List.getElem?_eq_getElem hix2⟩
    obtain ⟨s1,s2⟩:=ZmO line sep _ (List.mem_of_getElem? hab2)
    simp only at s1 s2
    have w6:IntKind.i64.wrap (k.tf - 1)=k.tf - 1:=Zai (by omega) (by omega)
    have hidx2:=ZAh (tok:=.own tt te) (fs:=fields line sep) (i:=k.tf - 1) (by omega) hab2
    obtain ⟨t0,t1⟩:=Zwf (.int .i64 (a2:Int)) (.int .i64 (b2:Int))
    simp only [c3,go_sem,v2,Zan,w6,hidx2,Zwi,Zs2]
    have htc:=hk.tc
    simp only [Nat.zero_add,Zaq (Zbp _ _),List.getElem?_cons_zero,List.getElem?_cons_succ,go_sem,v3,Zan]
    by_cases hc:0 < k.tc
    ·have c4:decide ((0:Int) < k.tc)=true:=by simp [hc]
     have w4:IntKind.i64.wrap ((b2:Int) - a2)=(b2:Int) - a2:=Zai (by omega) (by omega)
     have w5:IntKind.i64.wrap ((a2:Int)+min k.tc ((b2:Int) - a2))=((a2+(min k.tc ((b2:Int) - a2)).toNat:Nat):Int):=by rw [Zai (by omega) (by omega)];omega
     simp only [c4,go_sem,Zv0,t0,t1,ZhN,Zan,v3,w4,ZwU,w5]
     rw [Zn5 hfl (by omega)]
     rw [fin (a2+(min k.tc ((b2:Int) - a2)).toNat) (by omega) (by unfold ZgH;rw [if_pos ⟨ht,hin2⟩,Zl2 hab2];simp [hc])]
     exact ⟨_,rfl⟩
    ·have c4:decide ((0:Int) < k.tc)=false:=by simp;omega
     simp only [c4,go_sem]
     rw [Zn5 hfl s2]
     rw [fin b2 s2 (by unfold ZgH;rw [if_pos ⟨ht,hin2⟩,Zl2 hab2];simp [hc])]
     exact ⟨_,rfl⟩
   ·have c3:decide (k.tf≤((fields line sep).length:Int))=false:=by simp;omega
    simp only [c3,go_sem]
    rw [Zn5 hfl (Nat.le_refl _)]
    rw [fin line.length (Nat.le_refl _) (by unfold ZgH;rw [if_neg (fun h=>hin2 h.2)])]
    exact ⟨_,rfl⟩
  ·have c2:decide ((0:Int) < k.tf)=false:=by simp;omega
   simp only [Zan,go_sem,c2]
   rw [Zn5 hfl (Nat.le_refl _)]
   rw [fin line.length (Nat.le_refl _) (by unfold ZgH;rw [if_neg (fun h=>ht h.1)])]
   exact ⟨_,rfl⟩
 ·have c1:decide (((fields line sep).length:Int) < max k.ff 1)=true:=by simp;omega
  simp only [c1,go_sem]
  have:ex line (fields line sep) k=[]:=by unfold ex;rw [if_neg hin]
  rw [this]
  exact ⟨_,rfl⟩
end Go.Am
namespace Go.Am
set_option linter.unusedSimpArgs false
set_option linter.unusedVariables false
set_option maxRecDepth 100000

def chkL {α:Type} (bad:α→Option Int) (key:α→List UInt8):List α→List (List UInt8)→Int
 | [],_=>0
 | c :: r,seen=>match bad c with
  | some e=>e
  | none=>if seen.contains (key c) then 6 else chkL bad key r (seen++[key c])
theorem Zh2 {α : Type} (bad : α → Option Int) (key : α → List UInt8) (c : α) (r : List α) (seen : List (List UInt8)) : chkL bad key (c :: r) seen = match bad c with
    | some e=>e
    | none=>if seen.contains (key c) then 6 else chkL bad key r (seen++[key c]):=(Eq.refl _).trans (Eq.refl _)

def MapS (es:List (AV × AV × Nat)) (seen:List (List UInt8)):Prop:=es.map (fun e=>(e.1,e.2.1))=seen.map fun s=>(AV.str s,AV.bool true)
theorem ZwH (k : List UInt8) : ∀ (es : List (AV × AV × Nat)) (seen : List (List UInt8)) (i : Nat), MapS es seen →
    if seen.contains k then ∃ j,Zcw (.str k) es i=some (some (j,.bool true)) else Zcw (.str k) es i=some none:=by
 intro es
 induction es with
 | nil =>
  intro seen i h
  cases seen with
  | nil=>simp [Zcw]
  | cons s r=>simp [MapS] at h
 | cons e es ih =>
  intro seen i h
  cases seen with
  | nil=>simp [MapS] at h
  | cons s r =>
   obtain ⟨a,b,c⟩:=e
   simp only [MapS,List.map_cons,List.cons.injEq,Prod.mk.injEq] at h
   obtain ⟨⟨rfl,rfl⟩,h2⟩:=h
   have:=ih r (i+1) h2
   simp only [Zcw,ZiH,List.contains_cons]
   cases hk:(k == s) with
   | true=>simp
   | false=>simpa using this
theorem ZyN {H : Hp} {m : Nat} {es : List (AV × AV × Nat)} {c : Nat} {seen : List (List UInt8)} (hm : H[m]? = some (.map es c)) (hs : MapS es seen) (k : List UInt8) :
    Zbb .string (.bool false) false (.map m) (.str k) H=some (.bool (seen.contains k)):=by
 have h:=ZwH k es seen 0 hs
 unfold Zbb
 simp only [ZcY,if_true,Zc7,hm]
 cases hk:seen.contains k with
 | true =>
  rw [hk] at h
  obtain ⟨j,hj⟩:=h
  simp [hj]
 | false =>
  rw [hk] at h
  simp at h
  simp [h]
theorem ZAN {H : Hp} {m : Nat} {es : List (AV × AV × Nat)} {c : Nat} {seen : List (List UInt8)} (hm : H[m]? = some (.map es c)) (hs : MapS es seen) {k : List UInt8} (hk : seen.contains k = false) :
    Zd2 .string (.map m) (.str k) (.bool true) H=some (.tuple [],H.set m (.map (es++[(.str k,.bool true,c)]) (c+1)))∧MapS (es++[(.str k,.bool true,c)]) (seen++[k]):=by
 have h:=ZwH k es seen 0 hs
 rw [hk] at h
 simp at h
 constructor
 ·unfold Zd2
  simp only [hm,ZcY,if_true,h]
 ·unfold MapS at hs ⊢
  simp [hs]

theorem ZhM (l:List AV):Zaa 0 (.vp l)=some (.vp l):=by simp [Zaa]
def Zcu (c:List UInt8 × List Int):AV:=.agg (.str c.1 :: c.2.map (.int .u64))
def ZlG (c:List UInt8 × List Int):Option Int:=if Zco c.1 then none else some 4
def clsS (l:List (List UInt8 × List Int)):Int:=if 24 < l.length then 3 else chkL ZlG Prod.fst l []
def ZsD (l:List (List UInt8 × List Int)):Prop:=∀ c ∈ l,c.2.length=4∧c.1.length≤4611686018427387904
theorem Sl.cls {x:AV} {l:List (List UInt8 × List Int)} (h:Sl 5 x (l.map Zcu)) {i:Nat} {c:List UInt8 × List Int} (hi:l[i]?=some c):Zad 5 x (.int .i64 (i:Int))=some (.vp (.str c.1 :: c.2.map (.int .u64))):=h.idx (c:=Zcu c) (by simp [hi])
theorem Zbr (n:Nat) (l:List AV) (hl:l.length=n) (H:Hp):Za2 true n (.vp l) H=some (.agg l):=by
 subst hl
 simp [Za2,Go.Am.apart]
theorem ZlD (H:Hp) (n:Nat) (l z:List AV) (hl:l.length=n) (hz:z.length=n):Zag n (.ptr H.length 0) (.agg l) (H++[.cells z])=some (.tuple [],H++[.cells l]):=by
 rw [Zh1 (sz:=n) (v:=.agg l) (Zbp _ _) rfl hl (by omega)]
 simp [AV.cells,splice,hz,hl]
theorem ZGA {x : AV} {l : List (List UInt8 × List Int)} (h : Sl 5 x (l.map Zcu)) (hl : l.length ≤ 24) (hok : ZsD l) (H0 : Hp) (m : Nat) : ∀ (k i : Nat) (H : Hp) (es : List (AV × AV × Nat)) (c : Nat), l.length - i = k → i ≤ l.length →
    H[m]?=some (.map es c)→MapS es ((l.take i).map Prod.fst) →
    ∃ H',Zcc (.map m) x (.int .i64 (l.length:Int)) (.int .i64 (i:Int)) H0 H=some (.int .i64 (chkL ZlG Prod.fst (l.drop i) ((l.take i).map Prod.fst)),H'):=by
 intro k
 induction k with
 | zero =>
  intro i H es c hk hi hm hs
  rw [ZeL]
  have hlt:decide ((i:Int) < (l.length:Int))=false:=by simp;omega
  have hd:l.drop i=[]:=List.drop_eq_nil_iff.2 (by omega)
  simp only [go_sem,hlt,ZkS,hd]
  exact ⟨_,rfl⟩
 | succ k ih =>
  intro i H es c hk hi hm hs
  rw [ZeL]
  have hl1:i < l.length:=by omega
  have hlt:decide ((i:Int) < (l.length:Int))=true:=by simp;omega
  have hw:IntKind.i64.wrap ((i:Int)+1)=((i+1:Nat):Int):=by rw [Zai (by omega) (by omega)];omega
  obtain ⟨h4,hnm⟩:=hok l[i] (List.getElem_mem hl1)
  have hlen5:(AV.str l[i].1 :: l[i].2.map (AV.int .u64)).length=5:=by simp [h4]
  have hst:=ZlD H 5 _ [.str [],.int .u64 0,.int .u64 0,.int .u64 0,.int .u64 0] hlen5 rfl
  simp only [go_sem,hlt,ZkT,h.cls (List.getElem?_eq_getElem hl1),Zbr 5 _ hlen5,hst,Nat.zero_add,Zar,List.getElem?_cons_zero,ZyA _ hnm]
  rw [List.drop_eq_getElem_cons hl1,Zh2]
  have hmm:(H++[AObj.cells (AV.str l[i].1 :: l[i].2.map (AV.int .u64))])[m]?=some (.map es c):=Zdt hm _
  cases hb:Zco l[i].1 with
  | false =>
   simp only [go_sem,Bool.not_false,ZlG,hb,Bool.false_eq_true,if_false]
   exact ⟨_,rfl⟩
  | true =>
   simp only [go_sem,Bool.not_true,ZlG,hb,if_true,ZkV,Nat.zero_add,Zar,List.getElem?_cons_zero,ZyN hmm hs]
   cases hc:((l.take i).map Prod.fst).contains l[i].1 with
   | true =>
    simp only [go_sem,if_true]
    exact ⟨_,rfl⟩
   | false =>
    obtain ⟨q1,q2⟩:=ZAN hmm hs hc
    simp only [go_sem,Bool.false_eq_true,if_false,ZkW,Nat.zero_add,Zar,List.getElem?_cons_zero,q1,ZkU,hw]
    have ht:(l.take (i+1)).map Prod.fst=(l.take i).map Prod.fst++[l[i].1]:=by
     rw [List.take_add_one,List.getElem?_eq_getElem hl1,List.map_append];rfl
    rw [← ht]
    refine ih (i+1) _ _ _ (by omega) (by omega) (Zdg _ hmm) ?_
    rw [ht];exact q2
theorem ZGB {x:AV} {l:List (List UInt8 × List Int)} (h:Sl 5 x (l.map Zcu)) (hok:ZsD l) (hl0:l.length≤4611686018427387904) (H:Hp):∃ H',Zch [x] H=some (.int .i64 (clsS l),H'):=by
 rw [Zlb]
 unfold ZgY clsS
 have hlen:=h.len 264
 rw [List.length_map] at hlen
 simp only [go_sem,hlen]
 by_cases h24:24 < l.length
 ·have c1:decide ((24:Int) < (l.length:Int))=true:=by simp;omega
  simp only [c1,go_sem,h24,if_true]
  exact ⟨_,rfl⟩
 ·have c1:decide ((24:Int) < (l.length:Int))=false:=by simp;omega
  simp only [c1,go_sem,h24,if_false,ZkR,hlen]
  have:=ZGA h (by omega) hok H H.length l.length 0 (H++[.map [] 0]) [] 0 (by omega) (by omega) (Zbp H _) rfl
  rw [show ((0:Nat):Int)=0 from rfl,List.drop_zero,List.take_zero] at this
  exact this
theorem ZIO {x : AV} {l : List (List UInt8 × List Int)} (h : Sl 5 x (l.map Zcu)) (hl : l.length ≤ 24) (H0 H : Hp) {i : Nat} {n : List UInt8} {q : List Int} (hi : l[i]? = some (n, q)) : ∀ (k j : Nat), i - j = k → j ≤ i →
    ZcV x (.int .i64 (i:Int)) (.int .i64 (j:Int)) H0 H=if (((l.take i).map Prod.fst).drop j).contains n then some (.int .i64 6,H) else ZeA x (.int .i64 (i:Int)) H0 H:=by
 intro k
 have hil:i < l.length:=by
  rcases Nat.lt_or_ge i l.length with h' | h'
  ·exact h'
  ·rw [List.getElem?_eq_none h'] at hi;cases hi
 induction k with
 | zero =>
  intro j hk hj
  rw [Zg5]
  have hlt:decide ((j:Int) < (i:Int))=false:=by simp;omega
  have hd:((l.take i).map Prod.fst).drop j=[]:=List.drop_eq_nil_iff.2 (by simp;omega)
  simp only [go_sem,hlt,hd,List.contains_nil,Bool.false_eq_true,if_false]
 | succ k ih =>
  intro j hk hj
  rw [Zg5]
  have hjl:j < l.length:=by omega
  have hlt:decide ((j:Int) < (i:Int))=true:=by simp;omega
  have hw:IntKind.i64.wrap ((j:Int)+1)=((j+1:Nat):Int):=by rw [Zai (by omega) (by omega)];omega
  have hdj:((l.take i).map Prod.fst).drop j=l[j].1 :: ((l.take i).map Prod.fst).drop (j+1):=by
   rw [List.drop_eq_getElem_cons (by simp;omega)]
   simp
  rw [hdj,List.contains_cons]
  simp only [go_sem,hlt,Znq,h.cls (List.getElem?_eq_getElem hjl),h.cls hi,Zan]
  have hs:sbin .eql (.str l[j].1) (.str n)=some (.bool (l[j].1 == n)):=rfl
  have hsy:(n == l[j].1)=(l[j].1 == n):=by rw [Bool.eq_iff_iff,beq_iff_eq,beq_iff_eq];exact eq_comm
  simp only [ZhM,Zan,hs,go_sem,hsy]
  cases hb:(l[j].1 == n) with
  | true=>simp only [go_sem,Bool.true_or,if_true]
  | false =>
   simp only [go_sem,Bool.false_or,Znr,hw]
   exact ih (j+1) (by omega) (by omega)
theorem ZFB {x : AV} {l : List (List UInt8 × List Int)} (h : Sl 5 x (l.map Zcu)) (hl : l.length ≤ 24) (hok : ZsD l) (H0 H : Hp) : ∀ (k i : Nat), l.length - i = k → i ≤ l.length →
    ZcU x (.int .i64 (i:Int)) H0 H=some (.int .i64 (chkL ZlG Prod.fst (l.drop i) ((l.take i).map Prod.fst)),H):=by
 have hlen:=h.len 264
 rw [List.length_map] at hlen
 intro k
 induction k with
 | zero =>
  intro i hk hi
  rw [Zg4]
  have hlt:decide ((i:Int) < (l.length:Int))=false:=by simp;omega
  have hd:l.drop i=[]:=List.drop_eq_nil_iff.2 (by omega)
  simp only [go_sem,hlen,hlt,Znm,hd]
  rfl
 | succ k ih =>
  intro i hk hi
  rw [Zg4]
  have hl1:i < l.length:=by omega
  have hlt:decide ((i:Int) < (l.length:Int))=true:=by simp;omega
  have hw:IntKind.i64.wrap ((i:Int)+1)=((i+1:Nat):Int):=by rw [Zai (by omega) (by omega)];omega
  obtain ⟨h4,hnm⟩:=hok l[i] (List.getElem_mem hl1)
  simp only [go_sem,hlen,hlt,Znn,h.cls (List.getElem?_eq_getElem hl1),ZhM,Zan,Zxb _ hnm]
  rw [List.drop_eq_getElem_cons hl1,Zh2]
  cases hb:Zco l[i].1 with
  | false=>simp only [go_sem,Bool.not_false,ZlG,hb,Bool.false_eq_true,if_false]
  | true =>
   have hin:=ZIO h hl H0 H (List.getElem?_eq_getElem hl1) i 0 (by omega) (by omega)
   rw [List.drop_zero,show ((0:Nat):Int)=0 from rfl] at hin
   simp only [go_sem,Bool.not_true,ZlG,hb,if_true,Znp,hin]
   have ht:(l.take (i+1)).map Prod.fst=(l.take i).map Prod.fst++[l[i].1]:=by
    rw [List.take_add_one,List.getElem?_eq_getElem hl1,List.map_append];rfl
   cases hc:((l.take i).map Prod.fst).contains l[i].1 with
   | true=>simp only [if_true]
   | false =>
    simp only [Bool.false_eq_true,if_false,Zno,go_sem,hw]
    rw [ih (i+1) (by omega) (by omega),ht]
theorem ZFC {x:AV} {l:List (List UInt8 × List Int)} (h:Sl 5 x (l.map Zcu)) (hok:ZsD l) (H:Hp):Zd6 [x] H=some (.int .i64 (clsS l),H):=by
 rw [ZnJ]
 unfold Zjj clsS
 have hlen:=h.len 264
 rw [List.length_map] at hlen
 simp only [go_sem,hlen]
 by_cases h24:24 < l.length
 ·have c1:decide ((24:Int) < (l.length:Int))=true:=by simp;omega
  simp only [c1,go_sem,h24,if_true]
 ·have c1:decide ((24:Int) < (l.length:Int))=false:=by simp;omega
  simp only [c1,go_sem,h24,if_false,Znl]
  have:=ZFB h (by omega) hok H H l.length 0 (by omega) (by omega)
  rw [show ((0:Nat):Int)=0 from rfl,List.drop_zero,List.take_zero] at this
  exact this
end Go.Am
namespace Go.Am
set_option linter.unusedSimpArgs false
set_option linter.unusedVariables false
set_option maxRecDepth 100000

def elAV (c:List UInt8 × Int):AV:=.agg [.str c.1,.int .i64 c.2]
def Zpa (c:List UInt8 × Int):Option Int:=if (c.1.length != 2 || (decide (c.2 < 0) || decide (65535 < c.2)))=true then some 2 else none
def elsS (l:List (List UInt8 × Int)):Int:=if 64 < l.length then 3 else chkL Zpa Prod.fst l []
def ZsF (l:List (List UInt8 × Int)):Prop:=∀ c ∈ l,c.1.length≤4611686018427387904
theorem Sl.els {x:AV} {l:List (List UInt8 × Int)} (h:Sl 2 x (l.map elAV)) {i:Nat} {c:List UInt8 × Int} (hi:l[i]?=some c):Zad 2 x (.int .i64 (i:Int))=some (.vp [.str c.1,.int .i64 c.2]):=h.idx (c:=elAV c) (by simp [hi])
theorem Zwe (a:AV) (l:List AV):Zaa 1 (.vp (a :: l))=some (.vp l):=by simp [Zaa]
theorem ZDt (n:Int) (H:Hp):Zg0 [.int .i64 n] H=some (.bool (!(decide (n < 0) || decide (65535 < n))),H):=by
 rw [Zxw]
 unfold ZtE
 have e1:decide ((0:Int)≤n)=!decide (n < 0):=by rw [Bool.eq_iff_iff];simp
 have e2:decide (n≤(65535:Int))=!decide (65535 < n):=by rw [Bool.eq_iff_iff];simp
 simp only [go_sem,e1]
 cases h1:decide (n < 0) with
 | true=>simp only [go_sem,Bool.not_true,Bool.true_or]
 | false=>simp only [go_sem,Bool.not_false,Bool.false_or,e2]
theorem ZwV (n:Int) (H:Hp):Za5 Zg0 [.int .i64 n] H=some (.bool (!(decide (n < 0) || decide (65535 < n))),H):=Zcn rfl (ZDt n []) rfl
theorem ZGK {x : AV} {l : List (List UInt8 × Int)} (h : Sl 2 x (l.map elAV)) (hl : l.length ≤ 64) (hok : ZsF l) (H0 : Hp) (m : Nat) : ∀ (k i : Nat) (H : Hp) (es : List (AV × AV × Nat)) (c : Nat), l.length - i = k → i ≤ l.length →
    H[m]?=some (.map es c)→MapS es ((l.take i).map Prod.fst) →
    ∃ H',Zc3 (.map m) x (.int .i64 (l.length:Int)) (.int .i64 (i:Int)) H0 H=some (.int .i64 (chkL Zpa Prod.fst (l.drop i) ((l.take i).map Prod.fst)),H'):=by
 intro k
 induction k with
 | zero =>
  intro i H es c hk hi hm hs
  rw [Zer]
  have hlt:decide ((i:Int) < (l.length:Int))=false:=by simp;omega
  have hd:l.drop i=[]:=List.drop_eq_nil_iff.2 (by omega)
  simp only [go_sem,hlt,Zk0,hd]
  exact ⟨_,rfl⟩
 | succ k ih =>
  intro i H es c hk hi hm hs
  rw [Zer]
  have hl1:i < l.length:=by omega
  have hlt:decide ((i:Int) < (l.length:Int))=true:=by simp;omega
  have hw:IntKind.i64.wrap ((i:Int)+1)=((i+1:Nat):Int):=by rw [Zai (by omega) (by omega)];omega
  have hnm:=hok l[i] (List.getElem_mem hl1)
  have hst:=ZlD H 2 [.str l[i].1,.int .i64 l[i].2] [.str [],.int .i64 0] rfl rfl
  simp only [go_sem,hlt,Zk1,h.els (List.getElem?_eq_getElem hl1),Zbr 2 [.str l[i].1,.int .i64 l[i].2] rfl,hst,Nat.zero_add,Zar,List.getElem?_cons_zero,List.getElem?_cons_succ,Zat]
  rw [List.drop_eq_getElem_cons hl1,Zh2]
  have hmm:(H++[AObj.cells [AV.str l[i].1,AV.int .i64 l[i].2]])[m]?=some (.map es c):=Zdt hm _
  have e2:((l[i].1.length:Int) != 2)=(l[i].1.length != 2):=by rw [Bool.eq_iff_iff];simp;omega
  rw [e2]
  unfold Zpa
  cases hb:(l[i].1.length != 2) with
  | true=>simp only [go_sem,Bool.true_or,if_true];exact ⟨_,rfl⟩
  | false =>
  simp only [go_sem,Bool.false_or,Nat.zero_add,Zar,List.getElem?_cons_zero,List.getElem?_cons_succ]
  cases hb2:decide (l[i].2 < 0) with
  | true=>simp only [go_sem,Bool.true_or,if_true];exact ⟨_,rfl⟩
  | false =>
  simp only [go_sem,Bool.false_or,Nat.zero_add,Zar,List.getElem?_cons_zero,List.getElem?_cons_succ]
  cases hb3:decide (65535 < l[i].2) with
  | true=>simp only [go_sem,if_true];exact ⟨_,rfl⟩
  | false =>
   simp only [go_sem,Bool.false_eq_true,if_false,Zk3,Nat.zero_add,Zar,List.getElem?_cons_zero,ZyN hmm hs]
   cases hc:((l.take i).map Prod.fst).contains l[i].1 with
   | true =>
    simp only [go_sem,if_true]
    exact ⟨_,rfl⟩
   | false =>
    obtain ⟨q1,q2⟩:=ZAN hmm hs hc
    simp only [go_sem,Bool.false_eq_true,if_false,Zk4,Nat.zero_add,Zar,List.getElem?_cons_zero,q1,Zk2,hw]
    have ht:(l.take (i+1)).map Prod.fst=(l.take i).map Prod.fst++[l[i].1]:=by
     rw [List.take_add_one,List.getElem?_eq_getElem hl1,List.map_append];rfl
    rw [← ht]
    refine ih (i+1) _ _ _ (by omega) (by omega) (Zdg _ hmm) ?_
    rw [ht];exact q2
theorem ZGL {x:AV} {l:List (List UInt8 × Int)} (h:Sl 2 x (l.map elAV)) (hok:ZsF l) (hl0:l.length≤4611686018427387904) (H:Hp):∃ H',Zcb [x] H=some (.int .i64 (elsS l),H'):=by
 rw [ZkE]
 unfold Zg3 elsS
 have hlen:=h.len 210
 rw [List.length_map] at hlen
 simp only [go_sem,hlen]
 by_cases h64:64 < l.length
 ·have c1:decide ((64:Int) < (l.length:Int))=true:=by simp;omega
  simp only [c1,go_sem,h64,if_true]
  exact ⟨_,rfl⟩
 ·have c1:decide ((64:Int) < (l.length:Int))=false:=by simp;omega
  simp only [c1,go_sem,h64,if_false,ZjZ,hlen]
  have:=ZGK h (by omega) hok H H.length l.length 0 (H++[.map [] 0]) [] 0 (by omega) (by omega) (Zbp H _) rfl
  rw [show ((0:Nat):Int)=0 from rfl,List.drop_zero,List.take_zero] at this
  exact this
theorem ZIQ {x : AV} {l : List (List UInt8 × Int)} (h : Sl 2 x (l.map elAV)) (hl : l.length ≤ 64) (H0 H : Hp) {i : Nat} {n : List UInt8} {q : Int} (hi : l[i]? = some (n, q)) : ∀ (k j : Nat), i - j = k → j ≤ i →
    Zct x (.int .i64 (i:Int)) (.int .i64 (j:Int)) H0 H=if (((l.take i).map Prod.fst).drop j).contains n then some (.int .i64 6,H) else ZdV x (.int .i64 (i:Int)) H0 H:=by
 intro k
 have hil:i < l.length:=by
  rcases Nat.lt_or_ge i l.length with h' | h'
  ·exact h'
  ·rw [List.getElem?_eq_none h'] at hi;cases hi
 induction k with
 | zero =>
  intro j hk hj
  rw [ZfF]
  have hlt:decide ((j:Int) < (i:Int))=false:=by simp;omega
  have hd:((l.take i).map Prod.fst).drop j=[]:=List.drop_eq_nil_iff.2 (by simp;omega)
  simp only [go_sem,hlt,hd,List.contains_nil,Bool.false_eq_true,if_false]
 | succ k ih =>
  intro j hk hj
  rw [ZfF]
  have hjl:j < l.length:=by omega
  have hlt:decide ((j:Int) < (i:Int))=true:=by simp;omega
  have hw:IntKind.i64.wrap ((j:Int)+1)=((j+1:Nat):Int):=by rw [Zai (by omega) (by omega)];omega
  have hdj:((l.take i).map Prod.fst).drop j=l[j].1 :: ((l.take i).map Prod.fst).drop (j+1):=by
   rw [List.drop_eq_getElem_cons (by simp;omega)]
   simp
  rw [hdj,List.contains_cons]
  simp only [go_sem,hlt,Zmn,h.els (List.getElem?_eq_getElem hjl),h.els hi,Zan]
  have hs:sbin .eql (.str l[j].1) (.str n)=some (.bool (l[j].1 == n)):=rfl
  have hsy:(n == l[j].1)=(l[j].1 == n):=by rw [Bool.eq_iff_iff,beq_iff_eq,beq_iff_eq];exact eq_comm
  simp only [ZhM,Zan,hs,go_sem,hsy]
  cases hb:(l[j].1 == n) with
  | true=>simp only [go_sem,Bool.true_or,if_true]
  | false =>
   simp only [go_sem,Bool.false_or,Zmo,hw]
   exact ih (j+1) (by omega) (by omega)
theorem ZFE {x : AV} {l : List (List UInt8 × Int)} (h : Sl 2 x (l.map elAV)) (hl : l.length ≤ 64) (hok : ZsF l) (H0 H : Hp) : ∀ (k i : Nat), l.length - i = k → i ≤ l.length →
    Zcs x (.int .i64 (i:Int)) H0 H=some (.int .i64 (chkL Zpa Prod.fst (l.drop i) ((l.take i).map Prod.fst)),H):=by
 have hlen:=h.len 210
 rw [List.length_map] at hlen
 intro k
 induction k with
 | zero =>
  intro i hk hi
  rw [ZfE]
  have hlt:decide ((i:Int) < (l.length:Int))=false:=by simp;omega
  have hd:l.drop i=[]:=List.drop_eq_nil_iff.2 (by omega)
  simp only [go_sem,hlen,hlt,Zmj,hd]
  rfl
 | succ k ih =>
  intro i hk hi
  rw [ZfE]
  have hl1:i < l.length:=by omega
  have hlt:decide ((i:Int) < (l.length:Int))=true:=by simp;omega
  have hw:IntKind.i64.wrap ((i:Int)+1)=((i+1:Nat):Int):=by rw [Zai (by omega) (by omega)];omega
  have hnm:=hok l[i] (List.getElem_mem hl1)
  simp only [go_sem,hlen,hlt,Zmk,h.els (List.getElem?_eq_getElem hl1),ZhM,Zan,Zat]
  rw [List.drop_eq_getElem_cons hl1,Zh2]
  have e2:((l[i].1.length:Int) != 2)=(l[i].1.length != 2):=by rw [Bool.eq_iff_iff];simp;omega
  rw [e2]
  unfold Zpa
  cases hb:(l[i].1.length != 2) with
  | true=>simp only [go_sem,Bool.true_or,if_true]
  | false =>
  simp only [go_sem,Bool.false_or,h.els (List.getElem?_eq_getElem hl1),Zwe,Zan,ZwV,Bool.not_not]
  cases hb2:(decide (l[i].2 < 0) || decide (65535 < l[i].2)) with
  | true=>simp only [go_sem,if_true]
  | false =>
   have hin:=ZIQ h hl H0 H (List.getElem?_eq_getElem hl1) i 0 (by omega) (by omega)
   rw [List.drop_zero,show ((0:Nat):Int)=0 from rfl] at hin
   simp only [go_sem,Bool.false_eq_true,if_false,Zmm,hin]
   have ht:(l.take (i+1)).map Prod.fst=(l.take i).map Prod.fst++[l[i].1]:=by
    rw [List.take_add_one,List.getElem?_eq_getElem hl1,List.map_append];rfl
   cases hc:((l.take i).map Prod.fst).contains l[i].1 with
   | true=>simp only [if_true]
   | false =>
    simp only [Bool.false_eq_true,if_false,Zml,go_sem,hw]
    rw [ih (i+1) (by omega) (by omega),ht]
    rfl
theorem ZFF {x:AV} {l:List (List UInt8 × Int)} (h:Sl 2 x (l.map elAV)) (hok:ZsF l) (H:Hp):ZcT [x] H=some (.int .i64 (elsS l),H):=by
 rw [Znh]
 unfold Zib elsS
 have hlen:=h.len 210
 rw [List.length_map] at hlen
 simp only [go_sem,hlen]
 by_cases h64:64 < l.length
 ·have c1:decide ((64:Int) < (l.length:Int))=true:=by simp;omega
  simp only [c1,go_sem,h64,if_true]
 ·have c1:decide ((64:Int) < (l.length:Int))=false:=by simp;omega
  simp only [c1,go_sem,h64,if_false,Zmi]
  have:=ZFE h (by omega) hok H H l.length 0 (by omega) (by omega)
  rw [show ((0:Nat):Int)=0 from rfl,List.drop_zero,List.take_zero] at this
  exact this
end Go.Am
namespace Go.Am
set_option linter.unusedSimpArgs false
set_option linter.unusedVariables false
set_option maxRecDepth 100000

structure Loc where
 name:List UInt8
 w:List Int
 lo:List UInt8
 up:List UInt8
 cls:List (List UInt8 × List Int)
 els:List (List UInt8 × Int)
def Loc.cells (x c e:AV) (L:Loc):List AV:=[.str L.name,x,.str L.lo,.str L.up,c,e]
def LocAV (a:AV) (L:Loc):Prop:=∃ x c e,a=.agg (L.cells x c e)∧Sl 1 x (L.w.map (AV.int .i64))∧Sl 5 c (L.cls.map Zcu)∧Sl 2 e (L.els.map elAV)
structure LocOk (L:Loc):Prop where
 name:L.name.length≤4611686018427387904
 w:L.w.length≤4611686018427387904
 lo:L.lo.length≤4611686018427387904
 up:L.up.length≤4611686018427387904
 cls:ZsD L.cls
 els:ZsF L.els
 ncls:L.cls.length≤4611686018427387904
 nels:L.els.length≤4611686018427387904
theorem ZmL (c:List UInt8 × List Int) (H:Hp) (n f:Nat):Za6 H n (f+2) (Zcu c)=some (Zcu c):=by
 have:(AV.str c.1 :: c.2.map (AV.int .u64)).mapM (Za6 H n (f+1))=some (AV.str c.1 :: c.2.map (AV.int .u64)):=ZsS fun x hx=>by
  rcases List.mem_cons.1 hx with rfl | hx
  ·rfl
  ·obtain ⟨m,_,rfl⟩:=List.mem_map.1 hx
   rfl
 rw [Zcu,Zg8,this]
theorem Zpb (c:List UInt8 × Int) (H:Hp) (n f:Nat):Za6 H n (f+2) (elAV c)=some (elAV c):=(Eq.refl _).trans (Eq.refl _)
theorem LocAV.close {a:AV} {L:Loc} (h:LocAV a L) (H:Hp) (n f:Nat):∃ a',Za6 H n (f+4) a=some a'∧LocAV a' L:=by
 obtain ⟨x,c,e,rfl,hx,hc,he⟩:=h
 obtain ⟨x',hx1,hx2⟩:=hx.close (H:=H) (n:=n) (f:=f+2) (fun y hy=>by obtain ⟨m,_,rfl⟩:=List.mem_map.1 hy;rfl)
 obtain ⟨c',hc1,hc2⟩:=hc.close (H:=H) (n:=n) (f:=f+2) (fun y hy=>by obtain ⟨m,_,rfl⟩:=List.mem_map.1 hy;exact ZmL m H n f)
 obtain ⟨e',he1,he2⟩:=he.close (H:=H) (n:=n) (f:=f+2) (fun y hy=>by obtain ⟨m,_,rfl⟩:=List.mem_map.1 hy;exact Zpb m H n f)
 refine ⟨.agg (L.cells x' c' e'),?_,x',c',e',rfl,hx2,hc2,he2⟩
 have:(L.cells x c e).mapM (Za6 H n (f+3))=some (L.cells x' c' e'):=by
  simp only [Loc.cells,List.mapM_cons,hx1,hc1,he1,List.mapM_nil]
  rfl
 rw [Zg8,this]

theorem ZA0 {x:AV} {l:List (List UInt8 × List Int)} (h:Sl 5 x (l.map Zcu)) (hok:ZsD l) (hl:l.length≤4611686018427387904) (H:Hp):Za5 Zch [x] H=some (.int .i64 (clsS l),H)∧Za5 Zd6 [x] H=some (.int .i64 (clsS l),H):=by
 obtain ⟨x',h1,h2⟩:=h.close (H:=[]) (n:=0) (f:=5) (fun y hy=>by obtain ⟨m,_,rfl⟩:=List.mem_map.1 hy;exact ZmL m [] 0 3)
 obtain ⟨H',h3⟩:=ZGB h2 hok hl []
 exact ⟨Zcn h1 h3 rfl,Zcn h1 (ZFC h2 hok []) rfl⟩
theorem ZAb {x:AV} {l:List (List UInt8 × Int)} (h:Sl 2 x (l.map elAV)) (hok:ZsF l) (hl:l.length≤4611686018427387904) (H:Hp):Za5 Zcb [x] H=some (.int .i64 (elsS l),H)∧Za5 ZcT [x] H=some (.int .i64 (elsS l),H):=by
 obtain ⟨x',h1,h2⟩:=h.close (H:=[]) (n:=0) (f:=5) (fun y hy=>by obtain ⟨m,_,rfl⟩:=List.mem_map.1 hy;exact Zpb m [] 0 3)
 obtain ⟨H',h3⟩:=ZGL h2 hok hl []
 exact ⟨Zcn h1 h3 rfl,Zcn h1 (ZFF h2 hok []) rfl⟩

def wBad (n:Int):Bool:=decide (n < 0) || decide (65535 < n)
def ZpD (L:Loc):Int:=if (clsS L.cls != 0)=true then clsS L.cls else elsS L.els
def ZbH (L:Loc):Int :=
 if Zco L.name then (if (L.w.length != 256 || (L.lo.length != 256 || L.up.length != 256))=true then 2 else if L.w.any wBad then 2 else ZpD L) else 4
theorem Sl.ints {x:AV} {l:List Int} (h:Sl 1 x (l.map (AV.int .i64))) {i:Nat} (hi:i < l.length):Zad 1 x (.int .i64 (i:Int))=some (.vp [.int .i64 l[i]]):=h.idx (c:=.int .i64 l[i]) (by simp [hi])
theorem Zod (n:Nat):((n:Int) != 256)=(n != 256):=by rw [Bool.eq_iff_iff];simp;omega
theorem ZFh {x c e : AV} {L : Loc} (hx : Sl 1 x (L.w.map (AV.int .i64))) (hc : Sl 5 c (L.cls.map Zcu)) (he : Sl 2 e (L.els.map elAV)) (hok : LocOk L) (hlw : L.w.length = 256) (H0 H : Hp) {o : Nat} (ho : H[o]? = some (.cells (L.cells x c e))) : ∀ (k i : Nat), L.w.length - i = k → i ≤ L.w.length →
    ZeK (.ptr o 0) x (.int .i64 (L.w.length:Int)) (.int .i64 (i:Int)) H0 H=some (.int .i64 (if (L.w.drop i).any wBad then 2 else ZpD L),H):=by
 intro k
 induction k with
 | zero =>
  intro i hk hi
  rw [Zjv]
  have hlt:decide ((i:Int) < (L.w.length:Int))=false:=by simp;omega
  have hd:L.w.drop i=[]:=List.drop_eq_nil_iff.2 (by omega)
  simp only [go_sem,hlt,hd,List.any_nil,Bool.false_eq_true,if_false,Zsm,Nat.zero_add,Zaq ho,Loc.cells,List.getElem?_cons_zero,List.getElem?_cons_succ,(ZA0 hc hok.cls hok.ncls H).1]
  unfold ZpD
  cases h1:(clsS L.cls != 0) with
  | true=>simp only [go_sem,if_true]
  | false=>simp only [go_sem,Bool.false_eq_true,if_false,Zsn,Nat.zero_add,Zaq ho,Loc.cells,List.getElem?_cons_zero,List.getElem?_cons_succ,(ZAb he hok.els hok.nels H).1]
 | succ k ih =>
  intro i hk hi
  rw [Zjv]
  have hl1:i < L.w.length:=by omega
  have hlt:decide ((i:Int) < (L.w.length:Int))=true:=by simp;omega
  have hw:IntKind.i64.wrap ((i:Int)+1)=((i+1:Nat):Int):=by rw [Zai (by omega) (by omega)];omega
  simp only [go_sem,hlt,Zso,hx.ints hl1,Zan]
  rw [List.drop_eq_getElem_cons hl1,List.any_cons]
  unfold wBad
  cases h1:decide (L.w[i] < 0) with
  | true=>simp only [go_sem,Bool.true_or,if_true]
  | false =>
   simp only [go_sem,Bool.false_or]
   cases h2:decide (65535 < L.w[i]) with
   | true=>simp only [go_sem,Bool.true_or,if_true]
   | false =>
    simp only [go_sem,Bool.false_or,Zsp,hw]
    exact ih (i+1) (by omega) (by omega)
theorem ZFi {a:AV} {L:Loc} (h:LocAV a L) (hok:LocOk L) (H:Hp):∃ H',Zfd [a] H=some (.int .i64 (ZbH L),H'):=by
 obtain ⟨x,c,e,rfl,hx,hc,he⟩:=h
 rw [ZsY]
 unfold ZnN ZbH
 have hlen:=hx.len 3
 rw [List.length_map] at hlen
 have hg:=Zbp H (.cells (L.cells x c e))
 simp only [go_sem,Nat.zero_add,Zar,Loc.cells,List.getElem?_cons_zero,List.getElem?_cons_succ,ZyA L.name hok.name]
 cases hn:Zco L.name with
 | false=>simp only [go_sem,Bool.not_false,Bool.false_eq_true,if_false];exact ⟨_,rfl⟩
 | true =>
 simp only [go_sem,Bool.not_true,if_true,Zsk,Nat.zero_add,Zar,List.getElem?_cons_zero,List.getElem?_cons_succ,hlen,Zod]
 cases h1:(L.w.length != 256) with
 | true=>simp only [go_sem,Bool.true_or,if_true];exact ⟨_,rfl⟩
 | false =>
 simp only [go_sem,Bool.false_or,Nat.zero_add,Zar,List.getElem?_cons_zero,List.getElem?_cons_succ,Zat,Zod]
 cases h2:(L.lo.length != 256) with
 | true=>simp only [go_sem,Bool.true_or,if_true];exact ⟨_,rfl⟩
 | false =>
 simp only [go_sem,Bool.false_or,Nat.zero_add,Zar,List.getElem?_cons_zero,List.getElem?_cons_succ,Zat,Zod]
 cases h3:(L.up.length != 256) with
 | true=>simp only [go_sem,if_true];exact ⟨_,rfl⟩
 | false =>
 have hlw:L.w.length=256:=by simpa using h1
 have:=ZFh hx hc he hok hlw H (H++[.cells (L.cells x c e)]) hg L.w.length 0 (by omega) (by omega)
 rw [show ((0:Nat):Int)=0 from rfl,List.drop_zero] at this
 simp only [Loc.cells] at this
 simp only [go_sem,Bool.false_eq_true,if_false,Zsl,Nat.zero_add,Zar,List.getElem?_cons_zero,List.getElem?_cons_succ,hlen,this]
 exact ⟨_,rfl⟩
theorem ZDT {x c e : AV} {L : Loc} (hx : Sl 1 x (L.w.map (AV.int .i64))) (hc : Sl 5 c (L.cls.map Zcu)) (he : Sl 2 e (L.els.map elAV)) (hok : LocOk L) (hlw : L.w.length = 256) (H0 H : Hp) {o : Nat} (ho : H[o]? = some (.cells (L.cells x c e))) : ∀ (k i : Nat), 256 - i = k → i ≤ 256 →
    Zho (.ptr o 0) (.int .i64 (i:Int)) H0 H=some (.int .i64 (if (L.w.drop i).any wBad then 2 else if (L.lo.length != 256 || L.up.length != 256)=true then 2 else ZpD L),H):=by
 intro k
 induction k with
 | zero =>
  intro i hk hi
  rw [ZmC]
  have hlt:decide ((i:Int) < 256)=false:=by simp;omega
  have hd:L.w.drop i=[]:=List.drop_eq_nil_iff.2 (by omega)
  simp only [go_sem,hlt,hd,List.any_nil,Bool.false_eq_true,if_false,ZvD,Nat.zero_add,Zaq ho,Loc.cells,List.getElem?_cons_zero,List.getElem?_cons_succ,Zat,Zod]
  cases h2:(L.lo.length != 256) with
  | true=>simp only [go_sem,Bool.true_or,if_true]
  | false =>
  simp only [go_sem,Bool.false_or,Nat.zero_add,Zaq ho,Loc.cells,List.getElem?_cons_zero,List.getElem?_cons_succ,Zat,Zod]
  cases h3:(L.up.length != 256) with
  | true=>simp only [go_sem,if_true]
  | false =>
  simp only [go_sem,Bool.false_eq_true,if_false,ZvE,Nat.zero_add,Zaq ho,Loc.cells,List.getElem?_cons_zero,List.getElem?_cons_succ,(ZA0 hc hok.cls hok.ncls H).2]
  unfold ZpD
  cases h1:(clsS L.cls != 0) with
  | true=>simp only [go_sem,if_true]
  | false=>simp only [go_sem,Bool.false_eq_true,if_false,ZvF,Nat.zero_add,Zaq ho,Loc.cells,List.getElem?_cons_zero,List.getElem?_cons_succ,(ZAb he hok.els hok.nels H).2]
 | succ k ih =>
  intro i hk hi
  rw [ZmC]
  have hl1:i < L.w.length:=by omega
  have hlt:decide ((i:Int) < 256)=true:=by simp;omega
  have hw:IntKind.i64.wrap ((i:Int)+1)=((i+1:Nat):Int):=by rw [Zai (by omega) (by omega)];omega
  simp only [go_sem,hlt,ZvG,Nat.zero_add,Zaq ho,Loc.cells,List.getElem?_cons_zero,List.getElem?_cons_succ,hx.ints hl1,Zan,ZwV,Bool.not_not]
  rw [List.drop_eq_getElem_cons hl1,List.any_cons]
  have e:(decide (L.w[i] < 0) || decide (65535 < L.w[i]))=wBad L.w[i]:=rfl
  rw [e]
  cases h1:wBad L.w[i] with
  | true=>simp only [go_sem,Bool.true_or,if_true]
  | false =>
   simp only [go_sem,Bool.false_or,ZvH,hw]
   exact ih (i+1) (by omega) (by omega)
theorem ZDU {a:AV} {L:Loc} (h:LocAV a L) (hok:LocOk L) (H:Hp):∃ H',ZiT [a] H=some (.int .i64 (ZbH L),H'):=by
 obtain ⟨x,c,e,rfl,hx,hc,he⟩:=h
 rw [Zxu]
 unfold ZtC ZbH
 have hlen:=hx.len 3
 rw [List.length_map] at hlen
 have hg:=Zbp H (.cells (L.cells x c e))
 simp only [go_sem,Nat.zero_add,Zar,Loc.cells,List.getElem?_cons_zero,List.getElem?_cons_succ,Zxb L.name hok.name]
 cases hn:Zco L.name with
 | false=>simp only [go_sem,Bool.not_false,Bool.false_eq_true,if_false];exact ⟨_,rfl⟩
 | true =>
 simp only [go_sem,Bool.not_true,if_true,ZvB,Nat.zero_add,Zar,List.getElem?_cons_zero,List.getElem?_cons_succ,hlen,Zod]
 cases h1:(L.w.length != 256) with
 | true=>simp only [go_sem,Bool.true_or,if_true];exact ⟨_,rfl⟩
 | false =>
 have hlw:L.w.length=256:=by simpa using h1
 have:=ZDT hx hc he hok hlw H (H++[.cells (L.cells x c e)]) hg 256 0 (by omega) (by omega)
 rw [show ((0:Nat):Int)=0 from rfl,List.drop_zero] at this
 simp only [Loc.cells] at this
 simp only [go_sem,Bool.false_or,ZvC,this]
 refine ⟨_,congrArg some (Prod.ext (congrArg (AV.int .i64) ?_) rfl)⟩
 cases h2:(L.lo.length != 256 || L.up.length != 256) <;> cases h3:L.w.any wBad <;> simp
theorem Zyu {a:AV} {L:Loc} (h:LocAV a L) (hok:LocOk L) (H:Hp):Za5 Zfd [a] H=some (.int .i64 (ZbH L),H)∧Za5 ZiT [a] H=some (.int .i64 (ZbH L),H):=by
 obtain ⟨a',h1,h2⟩:=h.close [] 0 2
 obtain ⟨H',h3⟩:=ZFi h2 hok []
 obtain ⟨H'',h4⟩:=ZDU h2 hok []
 exact ⟨Zcn h1 h3 rfl,Zcn h1 h4 rfl⟩
end Go.Am
