/-
  The order of strings in a locale.
-/
import Derived.Test.YtehanadfidoodaaGreatDoorNkMx
import Derived.Test.YtehanadfidoodaaGreatDoorNkEx
import Derived.Lib.ItoaLen
namespace Go.Am
set_option linter.unusedSimpArgs false
set_option linter.unusedVariables false
set_option maxRecDepth 100000

def LocCells (l:List AV) (L:Loc):Prop:=∃ x c e,l = L.cells x c e ∧ Sl 1 x (L.w.map (AV.int .i64)) ∧ Sl 5 c (L.cls.map clsAV) ∧ Sl 2 e (L.els.map elAV)
theorem LocCells.close {l:List AV} {L:Loc} (h:LocCells l L) (H:Hp) (n f:Nat):∃ l',l.mapM (closeV H n (f + 3)) = some l' ∧ LocCells l' L:=by
  obtain ⟨x,c,e,rfl,hx,hc,he⟩:=h
  obtain ⟨x',hx1,hx2⟩:=hx.close (H:=H) (n:=n) (f:=f + 2) (fun y hy=>by obtain ⟨m,_,rfl⟩:=List.mem_map.1 hy; rfl)
  obtain ⟨c',hc1,hc2⟩:=hc.close (H:=H) (n:=n) (f:=f + 2) (fun y hy=>by obtain ⟨m,_,rfl⟩:=List.mem_map.1 hy; exact cls_close m H n f)
  obtain ⟨e',he1,he2⟩:=he.close (H:=H) (n:=n) (f:=f + 2) (fun y hy=>by obtain ⟨m,_,rfl⟩:=List.mem_map.1 hy; exact el_close m H n f)
  refine ⟨L.cells x' c' e',?_,x',c',e',rfl,hx2,hc2,he2⟩
  simp only [Loc.cells,List.mapM_cons,hx1,hc1,he1,List.mapM_nil]
  rfl
theorem closeV_vpl (H : Hp) (n f : Nat) (l : List AV) : closeV H n (f + 1) (.vp l) = match l.mapM (closeV H n f) with
      | some l=>some (.vp l)
      | none=>none:=(Eq.refl _).trans (Eq.refl _)
theorem flatC_eq2 {f:List AV → Hp → Res} {a a' b b' v v':AV} {H H1:Hp} (ha:closeV [] 0 6 a = some a') (hb:closeV [] 0 6 b = some b') (hc:f [a',b'] [] = some (v,H1)) (hv:closeV H1 0 6 v = some v'):flatC f [a,b] H = some (v',H):=by
  unfold flatC
  simp [ha,hb,hc,hv]
theorem RowN.close {n:Nat} {H:Hp} {x:AV} {l:List Int} (h:RowN n H 1 x (l.map (AV.int .i64))) (H1:Hp):∃ x',closeV H1 0 6 x = some x' ∧ Sl 1 x' (l.map (AV.int .i64)) :=
  h.sl.close (f:=5) (fun y hy=>by obtain ⟨m,_,rfl⟩:=List.mem_map.1 hy; rfl)

theorem weights_flat {l : List AV} {L : Loc} (h : LocCells l L) (hw : L.w.length = 256) (hnew : ElsNew L.els) (hn : L.els.length ≤ 1048576) (s : List UInt8) (hs : s.length ≤ 1048576) (H : Hp) :
    ∃ v,flatC C_locale_Compare_1 [.str s,.vp l] H = some (v,H) ∧ Sl 1 v ((wS L s).map (AV.int .i64)):=by
  obtain ⟨l',h1,x,c,e,rfl,hx,hc,he⟩:=h.close [] 0 2
  have hcl:closeV [] 0 6 (.vp l) = some (.vp (L.cells x c e)):=by rw [closeV_vpl,h1]
  have hlen:=he.len 210
  rw [List.length_map] at hlen
  obtain ⟨H1,es,k,q1,q2,q3,q4,q5,q6⟩:=each_els he hnew hn (.str s) (.fn (.func 150) [] [.ptr 0 0]) [AObj.cells [.nils]] L.els.length 0 [AObj.cells [.nils],.cells (L.cells x c e),.map [] 0] [] 0 (by omega) (by omega) rfl rfl (by simp)
  rw [show ((0:Nat):Int) = 0 from rfl] at q1
  have hst:WSt L x c e es [] H1:=⟨⟨.nils,by rw [q2]; rfl,RowN.nil _ _ _⟩,by rw [q3]; rfl,⟨k,q4⟩,q6⟩
  obtain ⟨H2,q7,⟨⟨y,q8,q9⟩,_,_,_⟩⟩:=each_loop hx hw q5 s hs [AObj.cells [.nils]] s.length [] s [] H1 (Nat.le_refl _) rfl (by simp) hst
  rw [List.length_nil,show ((0:Nat):Int) = 0 from rfl] at q7
  rw [List.nil_append] at q9
  obtain ⟨v,q10,q11⟩:=q9.close H2
  refine ⟨v,flatC_eq2 (a':=.str s) rfl hcl ?_ q10,q11⟩
  rw [F_locale_Compare_1_eq]
  unfold F_locale_Compare_1
  have e1:C_locale_each [.agg (L.cells x c e),.str s,.fn (.func 150) [] [.ptr 0 0]] [AObj.cells [.nils]] = some (.tuple [],H2):=by
    rw [F_locale_each_eq]
    unfold F_locale_each
    have hl5:aload false 1 (.ptr 1 5) [AObj.cells [.nils],.cells (L.cells x c e),.map [] 0] = some e:=by simp [aload,Go.Am.apart,Loc.cells]
    simp only [go_sem,List.length_cons,List.length_nil,List.cons_append,List.nil_append,Nat.zero_add,hl5,hlen,q1,locale_each_J1_eq,q7]
  simp only [go_sem,List.length_nil,List.nil_append,aload_vpn 6 (L.cells x c e) rfl,e1,aload_f1 q8,List.getElem?_cons_zero]

def matchE (r:List UInt8) (e:List UInt8 × Int):Bool :=
  match r with
  | b :: c :: _=>e.1 == [b,c]
  | _=>false
theorem wS_two (L : Loc) (b c : UInt8) (r : List UInt8) : wS L (b :: c :: r) = match L.els.find? (matchE (b :: c :: r)) with
    | some e=>e.2 :: wS L r
    | none=>wOf L b :: wS L (c :: r):=(Eq.refl _).trans (Eq.refl _)
end Go.Am
namespace Go.Am
set_option linter.unusedSimpArgs false
set_option linter.unusedVariables false
set_option linter.unusedSectionVars false
set_option maxRecDepth 100000

def ordS:List Int → List Int → Int
  | [],[]=>0
  | [],_ :: _=>-1
  | _ :: _,[]=>1
  | a :: l,b :: m=>if a < b then -1 else if b < a then 1 else ordS l m
theorem ordS_cons (a b:Int) (l m:List Int):ordS (a :: l) (b :: m) = if a < b then -1 else if b < a then 1 else ordS l m:=(Eq.refl _).trans (Eq.refl _)
theorem ordS_ends {l m:List Int} (h:l = [] ∨ m = []):ordS l m = if l.length < m.length then -1 else if m.length < l.length then 1 else 0:=by
  rcases h with rfl | rfl
  · cases m <;> simp [ordS]
  · cases l <;> simp [ordS]
theorem cmpB_ord:∀ a b:List UInt8,ordS (a.map fun c=>(c.toNat:Int)) (b.map fun c=>(c.toNat:Int)) = cmpB a b:=by
  intro a
  induction a with
  | nil=>intro b; cases b <;> simp [ordS,cmpB]
  | cons x a ih =>
    intro b
    cases b with
    | nil=>simp [ordS,cmpB]
    | cons y b =>
      simp only [List.map_cons,ordS_cons,cmpB]
      by_cases h:x = y
      · subst h
        simp [ih b]
      · have hne:x.toNat ≠ y.toNat:=fun e=>h (UInt8.toNat_inj.1 e)
        by_cases hl:x < y
        · have:(x.toNat:Int) < y.toNat:=by have:=UInt8.lt_iff_toNat_lt.1 hl; omega
          simp [h,hl,this]
        · have h1 : ¬ (x.toNat : Int) < y.toNat := by
            intro h'
            exact hl (UInt8.lt_iff_toNat_lt.2 (by omega))
          have h2:(y.toNat:Int) < x.toNat:=by omega
          simp [h,hl,h1,h2]
theorem scmp_flat (a b:List UInt8) (H:Hp):flatC C_strings_Compare [.str a,.str b] H = some (.int .i64 (cmpB a b),H):=by
  have h1:∀ H,flatC C_internal_bytealg_CompareString [.str a,.str b] H = some (.int .i64 (cmpB a b),H):=fun H=>by
    refine flat2 (a':=.str a) (b':=.str b) (H1:=[]) rfl rfl ?_ rfl
    rw [F_internal_bytealg_CompareString_eq]
    rfl
  refine flat2 (a':=.str a) (b':=.str b) (H1:=[]) rfl rfl ?_ rfl
  rw [F_strings_Compare_eq]
  unfold F_strings_Compare
  simp only [h1,go_sem]

section
variable {x y:AV} {a b:List Int} (hx:Sl 1 x (a.map (AV.int .i64))) (hy:Sl 1 y (b.map (AV.int .i64))) (ha:a.length ≤ 4611686018427387904) (hb:b.length ≤ 4611686018427387904)
include hx hy ha hb
theorem pcmp_loop (s t : List UInt8) (H0 H : Hp) : ∀ (k i : Nat), min a.length b.length - i = k → i ≤ min a.length b.length →
    locale_Compare_L1 (.str s) (.str t) x y (.int .i64 ((min a.length b.length:Nat):Int)) (.int .i64 (i:Int)) H0 H = some (.int .i64 (if (ordS (a.drop i) (b.drop i) != 0) = true then ordS (a.drop i) (b.drop i) else cmpB s t),H):=by
  have hla:=hx.len 3
  have hlb:=hy.len 3
  rw [List.length_map] at hla hlb
  intro k
  induction k with
  | zero =>
    intro i hk hi
    rw [locale_Compare_L1_eq]
    have hlt:decide ((i:Int) < ((min a.length b.length:Nat):Int)) = false:=by simp; omega
    have he:a.drop i = [] ∨ b.drop i = []:=by
      rcases Nat.le_total a.length b.length with h | h
      · exact .inl (List.drop_eq_nil_iff.2 (by omega))
      · exact .inr (List.drop_eq_nil_iff.2 (by omega))
    rw [ordS_ends he]
    simp only [List.length_drop,go_sem,hlt,locale_Compare_J1_eq,hla,hlb]
    by_cases h1:a.length < b.length
    · have c:decide ((a.length:Int) < (b.length:Int)) = true:=by simp; omega
      have h1':a.length - i < b.length - i:=by omega
      simp only [c,go_sem,h1',if_true]
      rfl
    · have c:decide ((a.length:Int) < (b.length:Int)) = false:=by simp; omega
      have h1':¬ a.length - i < b.length - i:=by omega
      simp only [c,go_sem,h1',if_false,locale_Compare_J2_eq,hla,hlb]
      by_cases h2:b.length < a.length
      · have c:decide ((b.length:Int) < (a.length:Int)) = true:=by simp; omega
        have h2':b.length - i < a.length - i:=by omega
        simp only [c,go_sem,h2',if_true]
        rfl
      · have c:decide ((b.length:Int) < (a.length:Int)) = false:=by simp; omega
        have h2':¬ b.length - i < a.length - i:=by omega
        simp only [c,go_sem,h2',if_false,locale_Compare_J3_eq,scmp_flat]
        rfl
  | succ k ih =>
    intro i hk hi
    rw [locale_Compare_L1_eq]
    have hia:i < a.length:=by omega
    have hib:i < b.length:=by omega
    have hlt:decide ((i:Int) < ((min a.length b.length:Nat):Int)) = true:=by simp; omega
    have hw:IntKind.i64.wrap ((i:Int) + 1) = ((i + 1:Nat):Int):=by rw [wrap64 (by omega) (by omega)]; omega
    simp only [go_sem,hlt,locale_Compare_J4_eq,hx.ints hia,hy.ints hib,aload_vpc]
    rw [List.drop_eq_getElem_cons hia,List.drop_eq_getElem_cons hib,ordS_cons]
    by_cases c1:a[i] < b[i]
    · simp only [decide_eq_true c1,go_sem,if_pos c1]
      rfl
    · simp only [decide_eq_false c1,go_sem,if_neg c1,locale_Compare_J6_eq,hx.ints hia,hy.ints hib,aload_vpc]
      by_cases c2:b[i] < a[i]
      · simp only [decide_eq_true c2,go_sem,if_pos c2]
        rfl
      · simp only [decide_eq_false c2,go_sem,if_neg c2,locale_Compare_J5_eq,hw]
        exact ih (i + 1) (by omega) (by omega)
end
theorem wS_len (L:Loc):∀ (n:Nat) (s:List UInt8),s.length ≤ n → (wS L s).length ≤ s.length:=by
  intro n
  induction n with
  | zero=>intro s h; have:s = []:=List.length_eq_zero_iff.1 (by omega); subst this; simp [wS]
  | succ n ih =>
    intro s h
    match s,h with
    | [],_=>simp [wS]
    | [b],_=>simp [wS]
    | b :: c :: r,h =>
      rw [wS_two]
      simp only [List.length_cons] at h
      cases L.els.find? (matchE (b :: c :: r)) with
      | none=>have:=ih (c :: r) (by simp; omega); simp only [List.length_cons] at this ⊢; omega
      | some e=>have:=ih r (by omega); simp only [List.length_cons]; omega
theorem validL_els (L:Loc):(validL L).els.length ≤ 64:=by
  unfold validL
  cases h:(lcheckS L != 0) with
  | true=>simp [defL]
  | false =>
    simp only [lcheckS,bne_eq_false_iff_eq] at h
    have:elsS L.els = 0:=by
      split at h
      · split at h
        · cases h
        · split at h
          · cases h
          · unfold tailS at h
            split at h
            · rename_i h1; simp [h] at h1
            · exact h
      · cases h
    unfold elsS at this
    split at this
    · cases this
    · simp; omega
def cmpS (L:Loc) (s t:List UInt8):Int:=if (ordS (wS (validL L) s) (wS (validL L) t) != 0) = true then ordS (wS (validL L) s) (wS (validL L) t) else cmpB s t
theorem lcmp_flat {v:AV} {L:Loc} (h:LocAV v L) (hok:LocOk L) (s t:List UInt8) (hs:s.length ≤ 1048576) (ht:t.length ≤ 1048576) (H:Hp):flatC C_locale_Compare [v,.str s,.str t] H = some (.int .i64 (cmpS L s t),H):=by
  obtain ⟨a1,h1,h2⟩:=h.close [] 0 2
  have hv:=fun H=>valid_flat h2 hok H
  obtain ⟨x,c,e,rfl,hx,hc,he⟩:=h2
  obtain ⟨v',hv1,xv,cv,ev,rfl,hxv,hcv,hev⟩:=hv [AObj.cells (L.cells x c e)]
  have hlc:LocCells ((validL L).cells xv cv ev) (validL L):=⟨xv,cv,ev,rfl,hxv,hcv,hev⟩
  obtain ⟨w1,q1,q2⟩:=weights_flat hlc (validL_w L) (validL_new L) (by have:=validL_els L; omega) s hs [AObj.dead]
  obtain ⟨w2,q3,q4⟩:=weights_flat hlc (validL_w L) (validL_new L) (by have:=validL_els L; omega) t ht [AObj.dead]
  have hl1:=wS_len (validL L) s.length s (Nat.le_refl _)
  have hl2:=wS_len (validL L) t.length t (Nat.le_refl _)
  have hrun:C_locale_Compare [.agg (L.cells x c e),.str s,.str t] [] = some (.int .i64 (cmpS L s t),[AObj.dead]):=by
    rw [F_locale_Compare_eq]
    unfold F_locale_Compare
    have hl:aload true 6 (.ptr 0 0) [AObj.cells (L.cells x c e)] = some (.agg (L.cells x c e)):=by simp [aload,Go.Am.apart,Loc.cells]
    have hst:astoreU 6 (.ptr 0 0) (.agg ((validL L).cells xv cv ev)) [AObj.cells (L.cells x c e)] = some (.tuple [],[AObj.cells ((validL L).cells xv cv ev)]):=by simp [astoreU,astore,AV.known,AV.cells,Loc.cells,splice]
    have hfz:∀ k:AV → Hp → Res,frzK (.ptr 0 0) [AObj.cells ((validL L).cells xv cv ev)] k = k (.vp ((validL L).cells xv cv ev)) [AObj.dead]:=fun k=>rfl
    have a1:alenD (.slice 3) w1 = some (.int .i64 (wS (validL L) s).length):=by have:=q2.len 3; rwa [List.length_map] at this
    have a2:alenD (.slice 3) w2 = some (.int .i64 (wS (validL L) t).length):=by have:=q4.len 3; rwa [List.length_map] at this
    have hmin:amin2 (.int .i64 ((wS (validL L) s).length:Int)) (.int .i64 ((wS (validL L) t).length:Int)) = some (.int .i64 ((min (wS (validL L) s).length (wS (validL L) t).length:Nat):Int)):=by
      unfold amin2
      simp only [if_true]
      congr 2
      split <;> omega
    have hlp:=pcmp_loop q2 q4 (by omega) (by omega) s t [] [AObj.dead] _ 0 rfl (Nat.zero_le _)
    rw [show ((0:Nat):Int) = 0 from rfl,List.drop_zero,List.drop_zero] at hlp
    simp only [go_sem,List.length_nil,List.nil_append,hl,hv1,hst,hfz,Q_locale_Compare_1,V_locale_Compare_1,List.cons_append,q1,q3,a1,a2,hmin,hlp]
    rfl
  exact flatC_of (args':=[.agg (L.cells x c e),.str s,.str t]) (by simp [h1]; rfl) hrun rfl
end Go.Am
namespace Go.Am
set_option linter.unusedSimpArgs false
set_option linter.unusedVariables false
set_option maxRecDepth 100000

def natS (s:List UInt8):List Int:=s.map fun c=>(c.toNat:Int)
theorem idx_done {s done r:List UInt8} {b:UInt8} (h:s = done ++ b :: r):aindexStr (.str s) (.int .i64 (done.length:Int)) = some (.int .u8 b.toNat) :=
  aindexStr_of (by rw [h,List.getElem?_append_right (Nat.le_refl _)]; simp)
end Go.Am
namespace Go.Am
set_option linter.unusedSimpArgs false
set_option linter.unusedVariables false
set_option maxRecDepth 100000

def isD (b:UInt8):Bool:=decide (48 ≤ (b.toNat:Int)) && decide ((b.toNat:Int) ≤ 57)
def skipD (l:List UInt8):Nat:=(l.takeWhile isD).length
theorem skipD_nil:skipD [] = 0:=rfl
theorem skipD_cons (b:UInt8) (l:List UInt8):skipD (b :: l) = if isD b then skipD l + 1 else 0:=by
  unfold skipD; rw [List.takeWhile_cons]; split <;> simp_all
theorem skipD_le (l:List UInt8):skipD l ≤ l.length:=by
  induction l with
  | nil=>simp [skipD]
  | cons b l ih=>rw [skipD_cons]; split <;> simp <;> omega
theorem digits_loop {s : List UInt8} (hs : s.length ≤ 1048576) (H0 H : Hp) : ∀ (k p : Nat), s.length - p = k → p ≤ s.length →
    decimal_digits_L1 (.str s) (.int .i64 (p:Int)) H0 H = some (.int .i64 ((p + skipD (s.drop p):Nat):Int),H):=by
  intro k
  induction k with
  | zero =>
    intro p hk hp
    rw [decimal_digits_L1_eq]
    have hlt:decide ((p:Int) < (s.length:Int)) = false:=by simp; omega
    have hd:s.drop p = []:=List.drop_eq_nil_iff.2 (by omega)
    simp only [go_sem,hlt,hd,skipD_nil,Nat.add_zero,decimal_digits_J1_eq]
  | succ k ih =>
    intro p hk hp
    rw [decimal_digits_L1_eq]
    have hlt:decide ((p:Int) < (s.length:Int)) = true:=by simp; omega
    have hl:p < s.length:=by omega
    have hw:IntKind.i64.wrap ((p:Int) + 1) = ((p + 1:Nat):Int):=by rw [wrap64 (by omega) (by omega)]; omega
    simp only [go_sem,hlt,aindexStr_of (List.getElem?_eq_getElem hl)]
    rw [drop_cons hl,skipD_cons]
    cases h1:decide (48 ≤ ((s[p].toNat:Int))) with
    | false=>simp only [isD,h1,go_sem,Bool.false_and,Bool.false_eq_true,if_false,Nat.add_zero,decimal_digits_J1_eq]
    | true =>
      cases h2:decide (((s[p].toNat:Int)) ≤ 57) with
      | false=>simp only [isD,h1,h2,go_sem,aindexStr_of (List.getElem?_eq_getElem hl),Bool.and_false,Bool.false_eq_true,if_false,Nat.add_zero,decimal_digits_J1_eq]
      | true =>
        simp only [isD,h1,h2,go_sem,aindexStr_of (List.getElem?_eq_getElem hl),Bool.and_true,if_true,decimal_digits_J2_eq,hw]
        rw [ih (p + 1) (by omega) (by omega),show p + 1 + skipD (s.drop (p + 1)) = p + (skipD (s.drop (p + 1)) + 1) by omega]
theorem digits_flat (s:List UInt8) (hs:s.length ≤ 1048576) (H:Hp):flatC C_decimal_digits [.str s] H = some (.int .i64 (skipD s:Int),H):=by
  refine flat1 (a':=.str s) (H1:=[]) rfl ?_ rfl
  rw [F_decimal_digits_eq]
  have:=digits_loop hs [] [] s.length 0 rfl (by omega)
  rw [show ((0:Nat):Int) = 0 from rfl,List.drop_zero,Nat.zero_add] at this
  exact this
def dg (b:UInt8):Int:=IntKind.u8.wrap ((b.toNat:Int) - 48)
theorem dg_range (b:UInt8):0 ≤ dg b ∧ dg b ≤ 255:=by
  unfold dg
  have h:=b.toNat_lt
  show 0 ≤ ((b.toNat:Int) - 48) % 256 ∧ ((b.toNat:Int) - 48) % 256 ≤ 255
  omega
theorem cv_dg (b:UInt8):cvInt .i64 (.int .u8 (IntKind.u8.wrap ((b.toNat:Int) - 48))) = some (.int .i64 (dg b)):=by
  have:=dg_range b
  show some (AV.int .i64 (IntKind.i64.wrap (dg b))) = _
  rw [wrap64 (by omega) (by omega)]
def fr:Nat → List UInt8 → Int → Int
  | 0,_,d=>d
  | k + 1,[],d=>fr k [] (d * 10)
  | k + 1,b :: l,d=>fr k l (d * 10 + dg b)
theorem fr_nil (k:Nat) (d:Int):fr (k + 1) [] d = fr k [] (d * 10):=(Eq.refl _).trans (Eq.refl _)
theorem fr_cons (k:Nat) (b:UInt8) (l:List UInt8) (d:Int):fr (k + 1) (b :: l) d = fr k l (d * 10 + dg b):=(Eq.refl _).trans (Eq.refl _)
theorem frac_loop (s : List UInt8) (hs : s.length ≤ 1048576) (H0 H : Hp) : ∀ (k i : Nat) (d p : Int), i + k = 4 → 0 ≤ d → d + 1000 ≤ 2000000000 * p → p * 10 ^ k ≤ 10000 →
    decimal_fraction_L1 (.str s) (.int .i64 d) (.int .i64 (i:Int)) H0 H = some (.int .i64 (fr k (s.drop i) d),H):=by
  intro k
  induction k with
  | zero =>
    intro i d p hik h0 h1 h2
    rw [decimal_fraction_L1_eq]
    have hlt:decide ((i:Int) < 4) = false:=by simp; omega
    simp only [go_sem,hlt,decimal_fraction_J1_eq,fr]
  | succ k ih =>
    intro i d p hik h0 h1 h2
    rw [decimal_fraction_L1_eq]
    have hlt:decide ((i:Int) < 4) = true:=by simp; omega
    have hwi:IntKind.i64.wrap ((i:Int) + 1) = ((i + 1:Nat):Int):=by rw [wrap64 (by omega) (by omega)]; omega
    have h2':p * 10 * 10 ^ k ≤ 10000:=by rw [Int.mul_assoc,show (10:Int) * 10 ^ k = 10 ^ (k + 1) by rw [Int.pow_succ,Int.mul_comm]]; exact h2
    have hpk:(1:Int) ≤ 10 ^ k:=Int.add_one_le_iff.2 (Int.pow_pos (by decide))
    have hp:p * 10 ≤ 10000:=by
      by_cases hp0:0 ≤ p
      · have:=Int.mul_le_mul_of_nonneg_left hpk (show 0 ≤ p * 10 by omega)
        omega
      · omega
    have hwd:IntKind.i64.wrap (d * 10) = d * 10:=wrap64 (by omega) (by omega)
    simp only [go_sem,hlt,decimal_fraction_J2_eq,hwd,alen_str]
    by_cases hi:i < s.length
    · have hb:=dg_range s[i]
      have hlti:decide ((i:Int) < (s.length:Int)) = true:=by simp; omega
      have hwd2:IntKind.i64.wrap (d * 10 + dg s[i]) = d * 10 + dg s[i]:=wrap64 (by omega) (by omega)
      simp only [hlti,go_sem,aindexStr_of (List.getElem?_eq_getElem hi),cv_dg,hwd2,decimal_fraction_J3_eq,hwi]
      rw [ih (i + 1) _ (p * 10) (by omega) (by omega) (by omega) h2',drop_cons hi,fr_cons]
    · have hlti:decide ((i:Int) < (s.length:Int)) = false:=by simp; omega
      have hd:s.drop i = []:=List.drop_eq_nil_iff.2 (by omega)
      have hd1:s.drop (i + 1) = []:=List.drop_eq_nil_iff.2 (by omega)
      simp only [hlti,go_sem,decimal_fraction_J3_eq,hwi]
      rw [ih (i + 1) _ (p * 10) (by omega) (by omega) (by omega) h2',hd,hd1,fr_nil]
theorem frac_flat (s:List UInt8) (hs:s.length ≤ 1048576) (H:Hp):flatC C_decimal_fraction [.str s] H = some (.int .i64 (fr 4 s 0),H):=by
  refine flat1 (a':=.str s) (H1:=[]) rfl ?_ rfl
  rw [F_decimal_fraction_eq]
  have:=frac_loop s hs [] [] 4 0 0 1 rfl (by omega) (by omega) (by decide)
  rw [show ((0:Nat):Int) = 0 from rfl,List.drop_zero] at this
  exact this
def valW:List UInt8 → Int → Option Int
  | [],d=>some d
  | b :: l,d=>if 1000000000 < d * 10 + dg b then none else valW l (d * 10 + dg b)
theorem valW_cons (b:UInt8) (l:List UInt8) (d:Int):valW (b :: l) d = if 1000000000 < d * 10 + dg b then none else valW l (d * 10 + dg b):=(Eq.refl _).trans (Eq.refl _)
theorem fr4_range (l:List UInt8):0 ≤ fr 4 l 0 ∧ fr 4 l 0 ≤ 1000000:=by
  match l with
  | []=>simp [fr]
  | [a]=>have:=dg_range a; simp [fr]; omega
  | [a,b]=>have:=dg_range a; have:=dg_range b; simp [fr]; omega
  | [a,b,c]=>have:=dg_range a; have:=dg_range b; have:=dg_range c; simp [fr]; omega
  | a :: b :: c :: d :: l=>have:=dg_range a; have:=dg_range b; have:=dg_range c; have:=dg_range d; simp [fr]; omega
def numS (w f:List UInt8):Option Int:=match valW w 0 with
  | none=>none
  | some d=>some (d * 10000 + fr 4 f 0)
def valS (w f:List UInt8):Int:=match numS w f with
  | none=>10000000000001
  | some n=>min 10000000000001 n
theorem value_loop (s f : List UInt8) (hs : s.length ≤ 1048576) (hf : f.length ≤ 1048576) (H0 H : Hp) : ∀ (r done : List UInt8) (d : Int), s = done ++ r → 0 ≤ d → d ≤ 1000000000 →
    decimal_value_L1 (.str s) (.str f) (.int .i64 d) (.int .i64 (s.length:Int)) (.int .i64 (done.length:Int)) H0 H = some (.int .i64 (match valW r d with
      | none=>10000000000001
      | some n=>min 10000000000001 (n * 10000 + fr 4 f 0)),H):=by
  intro r
  induction r with
  | nil =>
    intro done d hd h0 h1
    rw [List.append_nil] at hd
    subst hd
    rw [decimal_value_L1_eq]
    have hlt:decide ((s.length:Int) < (s.length:Int)) = false:=by simp
    have hfr:=fr4_range f
    have hw1:IntKind.i64.wrap (d * 10000) = d * 10000:=wrap64 (by omega) (by omega)
    have hw2:IntKind.i64.wrap (d * 10000 + fr 4 f 0) = d * 10000 + fr 4 f 0:=wrap64 (by omega) (by omega)
    simp only [go_sem,hlt,decimal_value_J1_eq,hw1,frac_flat f hf,hw2,valW]
  | cons b r ih =>
    intro done d hd h0 h1
    have hlen:s.length = done.length + (r.length + 1):=by rw [hd]; simp
    have hlt:decide ((done.length:Int) < (s.length:Int)) = true:=by simp; omega
    have hwi:IntKind.i64.wrap ((done.length:Int) + 1) = ((done.length + 1:Nat):Int):=by rw [wrap64 (by omega) (by omega)]; omega
    have hb:=dg_range b
    have hw1:IntKind.i64.wrap (10 * d) = d * 10:=by rw [wrap64 (by omega) (by omega)]; omega
    have hw2:IntKind.i64.wrap (d * 10 + dg b) = d * 10 + dg b:=wrap64 (by omega) (by omega)
    rw [decimal_value_L1_eq,valW_cons]
    simp only [go_sem,hlt,decimal_value_J2_eq,hw1,idx_done hd,cv_dg,hw2]
    by_cases hg:1000000000 < d * 10 + dg b
    · simp only [decide_eq_true hg,go_sem,if_pos hg]
    · have:=ih (done ++ [b]) (d * 10 + dg b) (by rw [hd]; simp) (by omega) (by omega)
      rw [List.length_append,List.length_singleton] at this
      simp only [decide_eq_false hg,go_sem,if_neg hg,decimal_value_J3_eq,hwi,this]
theorem value_flat (s f:List UInt8) (hs:s.length ≤ 1048576) (hf:f.length ≤ 1048576) (H:Hp):flatC C_decimal_value [.str s,.str f] H = some (.int .i64 (valS s f),H):=by
  refine flat2 (a':=.str s) (b':=.str f) (H1:=[]) rfl rfl ?_ rfl
  rw [F_decimal_value_eq]
  unfold F_decimal_value
  have:=value_loop s f hs hf [] [] s [] 0 rfl (by omega) (by omega)
  rw [List.length_nil,show ((0:Nat):Int) = 0 from rfl] at this
  simp only [go_sem,this]
  unfold valS numS
  cases valW s 0 <;> rfl
end Go.Am
namespace Go.Am
set_option linter.unusedSimpArgs false
set_option linter.unusedVariables false
set_option maxRecDepth 100000

def finV (neg:Bool) (n:Nat) (w f:List UInt8):Int :=
  if n = 0 ∧ f = [] then 0 else if neg then -(min 10000000000000 (valS w f)) else min 10000000000000 (valS w f)
def preV (neg:Bool) (r:List UInt8):Int :=
  match r.drop (skipD r) with
  | []=>finV neg (skipD r) (r.take (skipD r)) []
  | b :: q=>if (((b.toNat:Int) == 46) && (decide (0 < skipD r) || decide (0 < skipD q))) = true then finV neg (skipD r) (r.take (skipD r)) (q.take (skipD q)) else finV neg (skipD r) (r.take (skipD r)) []
theorem preV_nil {neg:Bool} {r:List UInt8} (h:r.drop (skipD r) = []):preV neg r = finV neg (skipD r) (r.take (skipD r)) []:=by unfold preV; rw [h]
theorem preV_cons {neg:Bool} {r:List UInt8} {b:UInt8} {q:List UInt8} (h:r.drop (skipD r) = b :: q):preV neg r = if (((b.toNat:Int) == 46) && (decide (0 < skipD r) || decide (0 < skipD q))) = true then finV neg (skipD r) (r.take (skipD r)) (q.take (skipD q)) else finV neg (skipD r) (r.take (skipD r)) []:=by unfold preV; rw [h]
theorem valW_range:∀ (l:List UInt8) (d n:Int),0 ≤ d → d ≤ 1000000000 → valW l d = some n → 0 ≤ n ∧ n ≤ 1000000000:=by
  intro l
  induction l with
  | nil=>intro d n h0 h1 h; injection h with h; subst h; exact ⟨h0,h1⟩
  | cons b l ih =>
    intro d n h0 h1 h
    rw [valW_cons] at h
    have:=dg_range b
    split at h
    · cases h
    · exact ih _ n (by omega) (by omega) h
theorem numS_range {w f:List UInt8} {n:Int} (h:numS w f = some n):0 ≤ n ∧ n ≤ 10000001000000:=by
  unfold numS at h
  split at h
  · cases h
  · rename_i d hd
    injection h with h
    have:=valW_range w 0 d (by omega) (by omega) hd
    have:=fr4_range f
    omega
theorem valS_range (w f:List UInt8):0 ≤ valS w f ∧ valS w f ≤ 10000000000001:=by
  unfold valS
  split
  · omega
  · rename_i n h
    have:=numS_range h
    omega
theorem aext0 (x y:AV):aext (.tuple [x,y]) 0 = some x:=rfl
theorem aext1 (x y:AV):aext (.tuple [x,y]) 1 = some y:=rfl
theorem aun_neg (n:Int):aun .neg (.int .i64 n) = some (.int .i64 (IntKind.i64.wrap (0 - n))):=(Eq.refl _).trans (Eq.refl _)
theorem pre_J3 (neg : Bool) (n : Nat) (w f : List UInt8) (hw : w.length ≤ 1048576) (hf : f.length ≤ 1048576) (e : Int) (H0 H : Hp) :
    ∃ e',decimal_Prefix_J3 (.bool neg) (.int .i64 (n:Int)) (.str w) (.str f) (.int .i64 e) H0 H = some (.tuple [.int .i64 (finV neg n w f),.int .i64 e'],H):=by
  have hv:=valS_range w f
  have hmin:amin2 (.int .i64 10000000000000) (.int .i64 (valS w f)) = some (.int .i64 (min 10000000000000 (valS w f))):=by
    unfold amin2
    simp only [if_true]
    congr 2
    split <;> omega
  have hneg:IntKind.i64.wrap (0 - min 10000000000000 (valS w f)) = -(min 10000000000000 (valS w f)):=by rw [wrap64 (by omega) (by omega)]; omega
  have hJ4:decimal_Prefix_J4 (.bool neg) (.str w) (.str f) (.int .i64 e) H0 H = some (.tuple [.int .i64 (if neg then -(min 10000000000000 (valS w f)) else min 10000000000000 (valS w f)),.int .i64 e],H):=by
    rw [decimal_Prefix_J4_eq]
    simp only [go_sem,value_flat w f hw hf,hmin]
    cases neg with
    | true=>simp only [go_sem,aun_neg,hneg,decimal_Prefix_J5_eq,if_true]
    | false=>simp only [go_sem,decimal_Prefix_J5_eq,Bool.false_eq_true,if_false]
  have hs:sbin .eql (.str f) (.str []) = some (.bool (f == [])):=rfl
  rw [decimal_Prefix_J3_eq]
  unfold finV
  cases n with
  | zero =>
    cases f with
    | nil=>exact ⟨0,by simp [go_sem,sbin]; rfl⟩
    | cons b f =>
      have hs:sbin .eql (.str (b :: f)) (.str []) = some (.bool false):=rfl
      refine ⟨e,?_⟩
      simp [go_sem,hs,hJ4]
  | succ n =>
    refine ⟨e,?_⟩
    have h0:(((n + 1:Nat):Int) == 0) = false:=by
      rw [beq_eq_false_iff_ne]; omega
    simp only [go_sem,h0,hJ4]
    simp
theorem slice_lo {s:List UInt8} {i:Nat} (h:i ≤ s.length):asliceS (.str s) (some (.int .i64 (i:Int))) none none = some (.str (s.drop i)):=by
  rw [asliceS_lo .i64 (by omega) (by omega)]; simp
theorem pre_J2 (s : List UInt8) (hs : s.length ≤ 1048576) (neg : Bool) {i : Nat} (hi : i ≤ s.length) (H0 H : Hp) :
    ∃ e,decimal_Prefix_J2 (.str s) (.int .i64 (i:Int)) (.bool neg) H0 H = some (.tuple [.int .i64 (preV neg (s.drop i)),.int .i64 e],H):=by
  have hr:(s.drop i).length = s.length - i:=List.length_drop
  have hn:=skipD_le (s.drop i)
  have hwn:IntKind.i64.wrap ((i:Int) + (skipD (s.drop i):Int)) = ((i + skipD (s.drop i):Nat):Int):=by rw [wrap64 (by omega) (by omega)]; omega
  have htk:(s.take (i + skipD (s.drop i))).drop i = (s.drop i).take (skipD (s.drop i)):=by rw [List.drop_take]; congr 1; omega
  rw [decimal_Prefix_J2_eq]
  simp only [go_sem,slice_lo hi,digits_flat _ (show (s.drop i).length ≤ 1048576 by omega),hwn,slice_ij (show i ≤ i + skipD (s.drop i) by omega) (show i + skipD (s.drop i) ≤ s.length by omega),htk,alen_str]
  have htl:((s.drop i).take (skipD (s.drop i))).length ≤ 1048576:=by rw [List.length_take]; omega
  by_cases hlt:i + skipD (s.drop i) < s.length
  · have c1:decide (((i + skipD (s.drop i):Nat):Int) < (s.length:Int)) = true:=by simp; omega
    have hd:(s.drop i).drop (skipD (s.drop i)) = s[i + skipD (s.drop i)] :: s.drop (i + skipD (s.drop i) + 1):=by
      rw [List.drop_drop,drop_cons hlt]
    have hw1:IntKind.i64.wrap (((i + skipD (s.drop i):Nat):Int) + 1) = ((i + skipD (s.drop i) + 1:Nat):Int):=by rw [wrap64 (by omega) (by omega)]; omega
    have hq:(s.drop (i + skipD (s.drop i) + 1)).length = s.length - (i + skipD (s.drop i) + 1):=List.length_drop
    have hk:=skipD_le (s.drop (i + skipD (s.drop i) + 1))
    rw [preV_cons hd]
    simp only [c1,go_sem,aindexStr_of (List.getElem?_eq_getElem hlt)]
    cases h46:((s[i + skipD (s.drop i)].toNat:Int) == 46) with
    | false =>
      simp only [go_sem,Bool.false_and,Bool.false_eq_true,if_false]
      exact pre_J3 neg _ _ _ htl (by simp) _ H0 H
    | true =>
      have hw2:IntKind.i64.wrap (((i + skipD (s.drop i) + 1:Nat):Int) + (skipD (s.drop (i + skipD (s.drop i) + 1)):Int)) = ((i + skipD (s.drop i) + 1 + skipD (s.drop (i + skipD (s.drop i) + 1)):Nat):Int):=by rw [wrap64 (by omega) (by omega)]; omega
      have hw3:IntKind.i64.wrap ((1:Int) + (skipD (s.drop (i + skipD (s.drop i) + 1)):Int)) = ((1 + skipD (s.drop (i + skipD (s.drop i) + 1)):Nat):Int):=by rw [wrap64 (by omega) (by omega)]; omega
      have htq:(s.take (i + skipD (s.drop i) + 1 + skipD (s.drop (i + skipD (s.drop i) + 1)))).drop (i + skipD (s.drop i) + 1) = (s.drop (i + skipD (s.drop i) + 1)).take (skipD (s.drop (i + skipD (s.drop i) + 1))):=by rw [List.drop_take]; congr 1; omega
      have hfl:((s.drop (i + skipD (s.drop i) + 1)).take (skipD (s.drop (i + skipD (s.drop i) + 1)))).length ≤ 1048576:=by rw [List.length_take]; omega
      have hpos:∀ n:Nat,decide ((0:Int) < (n:Int)) = decide (0 < n):=fun n=>by simp
      simp only [go_sem,hw1,slice_lo (show i + skipD (s.drop i) + 1 ≤ s.length by omega),digits_flat _ (show (s.drop (i + skipD (s.drop i) + 1)).length ≤ 1048576 by omega),hpos,Bool.true_and]
      have hfin:∃ e,(bnd (ibin .add (.int .i64 ((i + skipD (s.drop i):Nat):Int)) (.int .i64 1)) fun t91_34 =>
        bnd (ibin .add (.int .i64 ((i + skipD (s.drop i):Nat):Int)) (.int .i64 1)) fun t93_35 =>
        bnd (ibin .add t93_35 (.int .i64 (skipD (s.drop (i + skipD (s.drop i) + 1)):Int))) fun t95_36 =>
        bnd (asliceS (.str s) (some t91_34) (some t95_36) none) fun t96_37 =>
        bnd (ibin .add (.int .i64 1) (.int .i64 (skipD (s.drop (i + skipD (s.drop i) + 1)):Int))) fun t99_38 =>
        bnd (ibin .add (.int .i64 ((i + skipD (s.drop i):Nat):Int)) t99_38) fun t100_39 =>
        decimal_Prefix_J3 (.bool neg) (.int .i64 (skipD (s.drop i):Int)) (.str ((s.drop i).take (skipD (s.drop i)))) t96_37 t100_39 H0 H) = some (.tuple [.int .i64 (finV neg (skipD (s.drop i)) ((s.drop i).take (skipD (s.drop i))) ((s.drop (i + skipD (s.drop i) + 1)).take (skipD (s.drop (i + skipD (s.drop i) + 1))))),.int .i64 e],H):=by
        simp only [go_sem,hw1,hw2,hw3,slice_ij (show i + skipD (s.drop i) + 1 ≤ i + skipD (s.drop i) + 1 + skipD (s.drop (i + skipD (s.drop i) + 1)) by omega) (show i + skipD (s.drop i) + 1 + skipD (s.drop (i + skipD (s.drop i) + 1)) ≤ s.length by omega),htq]
        exact pre_J3 neg _ _ _ htl hfl _ H0 H
      simp only [go_sem,hw1,hw2,hw3,slice_ij (show i + skipD (s.drop i) + 1 ≤ i + skipD (s.drop i) + 1 + skipD (s.drop (i + skipD (s.drop i) + 1)) by omega) (show i + skipD (s.drop i) + 1 + skipD (s.drop (i + skipD (s.drop i) + 1)) ≤ s.length by omega),htq] at hfin
      cases hn0:decide (0 < skipD (s.drop i)) with
      | true =>
        simp only [go_sem,Bool.true_or,if_true,hw1,hw2,hw3,slice_ij (show i + skipD (s.drop i) + 1 ≤ i + skipD (s.drop i) + 1 + skipD (s.drop (i + skipD (s.drop i) + 1)) by omega) (show i + skipD (s.drop i) + 1 + skipD (s.drop (i + skipD (s.drop i) + 1)) ≤ s.length by omega),htq]
        exact hfin
      | false =>
        cases hk0:decide (0 < skipD (s.drop (i + skipD (s.drop i) + 1))) with
        | true =>
          simp only [go_sem,hpos,hk0,Bool.or_true,if_true,hw1,hw2,hw3,slice_ij (show i + skipD (s.drop i) + 1 ≤ i + skipD (s.drop i) + 1 + skipD (s.drop (i + skipD (s.drop i) + 1)) by omega) (show i + skipD (s.drop i) + 1 + skipD (s.drop (i + skipD (s.drop i) + 1)) ≤ s.length by omega),htq]
          exact hfin
        | false =>
          simp only [go_sem,hpos,hk0,Bool.or_false,Bool.false_eq_true,if_false]
          exact pre_J3 neg _ _ _ htl (by simp) _ H0 H
  · have c1:decide (((i + skipD (s.drop i):Nat):Int) < (s.length:Int)) = false:=by simp; omega
    have hd:(s.drop i).drop (skipD (s.drop i)) = []:=List.drop_eq_nil_iff.2 (by omega)
    rw [preV_nil hd]
    simp only [c1,go_sem]
    exact pre_J3 neg _ _ _ htl (by simp) _ H0 H

def preG:List UInt8 → Int
  | []=>preV false []
  | b :: r=>if (((b.toNat:Int) == 45) || ((b.toNat:Int) == 43)) = true then preV ((b.toNat:Int) == 45) r else preV ((b.toNat:Int) == 45) (b :: r)
theorem preG_cons (b:UInt8) (r:List UInt8):preG (b :: r) = if (((b.toNat:Int) == 45) || ((b.toNat:Int) == 43)) = true then preV ((b.toNat:Int) == 45) r else preV ((b.toNat:Int) == 45) (b :: r):=(Eq.refl _).trans (Eq.refl _)
def preS (s:List UInt8):Int:=preG (s.drop (skipB s))

theorem pre_J1 (s : List UInt8) (hs : s.length ≤ 1048576) {i : Nat} (hi : i ≤ s.length) (H0 H : Hp) :
    ∃ e,decimal_Prefix_J1 (.str s) (.int .i64 (i:Int)) H0 H = some (.tuple [.int .i64 (preG (s.drop i)),.int .i64 e],H):=by
  rw [decimal_Prefix_J1_eq]
  by_cases hlt:i < s.length
  · have c1:decide ((i:Int) < (s.length:Int)) = true:=by simp; omega
    have hw1:IntKind.i64.wrap ((i:Int) + 1) = ((i + 1:Nat):Int):=by rw [wrap64 (by omega) (by omega)]; omega
    have hix:=aindexStr_of (List.getElem?_eq_getElem hlt)
    rw [drop_cons hlt]
    simp only [alen_str,go_sem,c1,hix,preG_cons]
    cases h45:((s[i].toNat:Int) == 45) with
    | true =>
      simp only [go_sem,c1,hix,hw1,Bool.true_or,if_true]
      exact pre_J2 s hs true (by omega) H0 H
    | false =>
      simp only [go_sem,alen_str,c1,hix]
      cases h43:((s[i].toNat:Int) == 43) with
      | true =>
        simp only [go_sem,c1,hix,hw1,Bool.or_true,if_true]
        exact pre_J2 s hs false (by omega) H0 H
      | false =>
        simp only [go_sem,Bool.or_false,Bool.or_self,Bool.false_eq_true,if_false]
        rw [← drop_cons hlt]
        exact pre_J2 s hs false (by omega) H0 H
  · have c1:decide ((i:Int) < (s.length:Int)) = false:=by simp; omega
    have hd:s.drop i = []:=List.drop_eq_nil_iff.2 (by omega)
    simp only [alen_str,go_sem,c1,hd]
    have:=pre_J2 s hs false hi H0 H
    rw [hd] at this
    exact this
theorem pre_L1 (s : List UInt8) (hs : s.length ≤ 1048576) (H0 H : Hp) : ∀ (k i : Nat), s.length - i = k → i ≤ s.length →
    ∃ e,decimal_Prefix_L1 (.str s) (.int .i64 (i:Int)) H0 H = some (.tuple [.int .i64 (preG ((s.drop i).drop (skipB (s.drop i)))),.int .i64 e],H):=by
  intro k
  induction k with
  | zero =>
    intro i hk hi
    have hlt:decide ((i:Int) < (s.length:Int)) = false:=by simp; omega
    have hd:s.drop i = []:=List.drop_eq_nil_iff.2 (by omega)
    rw [decimal_Prefix_L1_eq]
    simp only [alen_str,go_sem,hlt]
    have:=pre_J1 s hs hi H0 H
    rw [hd] at this ⊢
    exact this
  | succ k ih =>
    intro i hk hi
    have hl:i < s.length:=by omega
    have hlt:decide ((i:Int) < (s.length:Int)) = true:=by simp; omega
    have hw1:IntKind.i64.wrap ((i:Int) + 1) = ((i + 1:Nat):Int):=by rw [wrap64 (by omega) (by omega)]; omega
    have hix:=aindexStr_of (List.getElem?_eq_getElem hl)
    have ih':=ih (i + 1) (by omega) (by omega)
    have hnext:isBl s[i] = true → (s.drop i).drop (skipB (s.drop i)) = (s.drop (i + 1)).drop (skipB (s.drop (i + 1))):=fun h=>by
      rw [drop_cons hl,skipB_cons,h,if_pos rfl,List.drop_succ_cons]
    have hstop:isBl s[i] = false → (s.drop i).drop (skipB (s.drop i)) = s.drop i:=fun h=>by
      rw [drop_cons hl,skipB_cons,h]; simp
    have hb:isBl s[i] = (((s[i].toNat:Int) == 32) || ((s[i].toNat:Int) == 9)):=by
      rw [isBl,(blank_aux s[i]).1,(blank_aux s[i]).2]
    rw [decimal_Prefix_L1_eq]
    simp only [alen_str,go_sem,hlt,hix]
    cases h32:((s[i].toNat:Int) == 32) with
    | true =>
      simp only [go_sem,decimal_Prefix_J6_eq,hw1]
      rw [hnext (by rw [hb,h32]; rfl)]
      exact ih'
    | false =>
      simp only [go_sem,hix]
      cases h9:((s[i].toNat:Int) == 9) with
      | true =>
        simp only [go_sem,decimal_Prefix_J6_eq,hw1]
        rw [hnext (by rw [hb,h32,h9]; rfl)]
        exact ih'
      | false =>
        simp only [go_sem]
        rw [hstop (by rw [hb,h32,h9]; rfl)]
        exact pre_J1 s hs hi H0 H

theorem pre_flat (s:List UInt8) (hs:s.length ≤ 1048576) (H:Hp):∃ e,flatC C_decimal_Prefix [.str s] H = some (.tuple [.int .i64 (preS s),.int .i64 e],H):=by
  obtain ⟨e,h⟩:=pre_L1 s hs [] [] _ 0 rfl (Nat.zero_le _)
  rw [show ((0:Nat):Int) = 0 from rfl,List.drop_zero] at h
  refine ⟨e,flat1 (a':=.str s) (H1:=[]) rfl ?_ rfl⟩
  rw [F_decimal_Prefix_eq]
  exact h

def sgnS (a b:Int):Int:=if a < b then -1 else if b < a then 1 else 0
theorem sign_flat (a b:Int) (H:Hp):flatC C_sortkey_sign [.int .i64 a,.int .i64 b] H = some (.int .i64 (sgnS a b),H):=by
  refine flat2 (a':=.int .i64 a) (b':=.int .i64 b) (H1:=[]) rfl rfl ?_ rfl
  rw [F_sortkey_sign_eq]
  unfold F_sortkey_sign sgnS
  by_cases h:a < b
  · simp only [go_sem,decide_eq_true h,if_pos h]
  · by_cases h2:b < a
    · simp only [go_sem,decide_eq_false h,if_neg h,decide_eq_true h2,if_pos h2]
    · simp only [go_sem,decide_eq_false h,if_neg h,decide_eq_false h2,if_neg h2,sortkey_sign_J1_eq]
end Go.Am
namespace Go.Am
set_option linter.unusedSimpArgs false
set_option linter.unusedVariables false
set_option maxRecDepth 100000

def dictC (b:UInt8):Bool:=isBl b || letter b.toNat || digit b.toNat
def dictS (s:List UInt8):List UInt8:=s.filter dictC
theorem dictD_all:((List.range 256).all fun n=>(boolOf (dictD (.bool (isBl (UInt8.ofNat n))) (.int .u8 (n:Int))) == some (dictC (UInt8.ofNat n))) && (boolOf (rdictD (.bool (isBl (UInt8.ofNat n))) (.int .u8 (n:Int))) == some (dictC (UInt8.ofNat n)))) = true:=by kernel_rfl
theorem dictD_ok (b:UInt8):dictD (.bool (isBl b)) (.int .u8 b.toNat) = some (.bool (dictC b)) ∧ rdictD (.bool (isBl b)) (.int .u8 b.toNat) = some (.bool (dictC b)):=by
  have:=all_range dictD_all (u8_lt b)
  rw [UInt8.ofNat_toNat,Bool.and_eq_true,beq_iff_eq,beq_iff_eq] at this
  exact ⟨boolOf_some this.1,boolOf_some this.2⟩
theorem byte_run (acc:List UInt8) (b:UInt8) (h:acc.length ≤ 1048576):byteE.run [.ptr 0 0,.int .u8 b.toNat] [AObj.bld 192 5 acc] = some (.nili,[AObj.bld 192 5 (acc ++ [b])]):=by
  have hb:=b.toNat_lt
  have h2:acc.length + 1 ≤ maxB:=by unfold maxB; omega
  have hby:byteM [.int .u8 b.toNat] = some fun l=>if l.length + 1 ≤ maxB then some (.nili,l ++ [UInt8.ofNat (b.toNat:Int).toNat]) else none:=by
    simp only [byteM,if_pos (show (0:Int) ≤ (b.toNat:Int) ∧ (b.toNat:Int) < 256 by omega)]
  simp only [byteE,bByte,bldE,bldRun,hby,List.getElem?_cons_zero,bldF,bldT,bldU,and_self,if_true,if_pos h2,List.set_cons_zero,Int.toNat_natCast,UInt8.ofNat_toNat]
theorem string_run (acc:List UInt8):stringE.run [.ptr 0 0] [AObj.bld 192 5 acc] = some (.str acc,[AObj.bld 192 5 acc]):=rfl
theorem dict_loop (s : List UInt8) (hs : s.length ≤ 1048576) (H0 : Hp) : ∀ (r done : List UInt8) (acc : List UInt8), s = done ++ r → acc.length ≤ done.length →
    ∃ H',sortkey_dict_L1 (.str s) (.ptr 0 0) (.int .i64 (s.length:Int)) (.int .i64 (done.length:Int)) H0 [AObj.bld 192 5 acc] = some (.str (acc ++ dictS r),H'):=by
  intro r
  induction r with
  | nil =>
    intro done acc hd ha
    rw [List.append_nil] at hd
    subst hd
    have hlt:decide ((s.length:Int) < (s.length:Int)) = false:=by simp
    refine ⟨[AObj.bld 192 5 acc],?_⟩
    rw [sortkey_dict_L1_eq]
    simp only [go_sem,hlt,sortkey_dict_J1_eq,string_run]
    simp [dictS]
  | cons b r ih =>
    intro done acc hd ha
    have hlen:s.length = done.length + (r.length + 1):=by rw [hd]; simp
    have hlt:decide ((done.length:Int) < (s.length:Int)) = true:=by simp; omega
    have hw1:IntKind.i64.wrap ((done.length:Int) + 1) = ((done.length + 1:Nat):Int):=by rw [wrap64 (by omega) (by omega)]; omega
    rw [sortkey_dict_L1_eq]
    simp only [go_sem,hlt,sortkey_dict_J2_D_eq,idx_done hd,blank_spec,(dictD_ok b).1]
    cases hb:dictC b with
    | true =>
      obtain ⟨H',h⟩:=ih (done ++ [b]) (acc ++ [b]) (by rw [hd]; simp) (by simp; omega)
      rw [List.length_append,List.length_singleton] at h
      refine ⟨H',?_⟩
      simp only [go_sem,byte_run acc b (by omega),sortkey_dict_J3_eq,hw1,h,dictS,List.filter_cons,hb,if_true,List.append_assoc,List.singleton_append]
    | false =>
      obtain ⟨H',h⟩:=ih (done ++ [b]) acc (by rw [hd]; simp) (by simp; omega)
      rw [List.length_append,List.length_singleton] at h
      refine ⟨H',?_⟩
      simp only [go_sem,sortkey_dict_J3_eq,hw1,h,dictS,List.filter_cons,hb,Bool.false_eq_true,if_false]
theorem dict_flat (s:List UInt8) (hs:s.length ≤ 1048576) (H:Hp):flatC C_sortkey_dict [.str s] H = some (.str (dictS s),H):=by
  obtain ⟨H',h⟩:=dict_loop s hs [] s [] [] rfl (Nat.le_refl _)
  rw [List.length_nil,show ((0:Nat):Int) = 0 from rfl,List.nil_append] at h
  refine flat1 (a':=.str s) (H1:=H') rfl ?_ rfl
  rw [F_sortkey_dict_eq]
  unfold F_sortkey_dict
  simp only [go_sem,List.length_nil,List.nil_append,h]
theorem dict_len (s:List UInt8):(dictS s).length ≤ s.length:=List.length_filter_le _ _

def dropBl (s:List UInt8):List UInt8:=s.drop (skipB s)
theorem dropBl_len (s:List UInt8):(dropBl s).length ≤ s.length:=by unfold dropBl; rw [List.length_drop]; omega
theorem dropBl_cons (b:UInt8) (s:List UInt8):dropBl (b :: s) = if isBl b then dropBl s else b :: s:=by
  unfold dropBl
  rw [skipB_cons]
  split <;> simp
theorem trim_blank (s:List UInt8):Go.Lib.trimLeftS s [32,9] = dropBl s:=by
  unfold Go.Lib.trimLeftS
  induction s with
  | nil=>rfl
  | cons b s ih =>
    rw [dropBl_cons,List.dropWhile_cons]
    have:([32,9]:List UInt8).contains b = isBl b:=by
      rw [List.contains_cons,List.contains_cons,isBl]
      simp
    rw [this,ih]
theorem trim_flat (s:List UInt8) (H:Hp):flatC C_sortkey_parts_2 [.str s] H = some (.str (dropBl s),H):=by
  refine flat1 (a':=.str s) (H1:=[]) rfl ?_ rfl
  rw [F_sortkey_parts_2_eq]
  unfold F_sortkey_parts_2
  have:trimA [.str s,.str [32,9]] = some (.str (dropBl s)):=by
    unfold trimA
    dsimp only
    rw [if_pos ⟨by decide,by decide⟩,trim_blank]
  simp only [go_sem,sumC,this]
theorem up_len (L:Loc) (s:List UInt8):(upS L s).length = s.length:=by simp [upS,mapS]
theorem fold_flat {l:List AV} {L:Loc} (h:LocCells l L) (hok:LocOk L) (s:List UInt8) (hs:s.length ≤ 1048576) (H:Hp):flatC C_sortkey_parts_3 [.str s,.vp l] H = some (.str (upS L s),H):=by
  obtain ⟨l',h1,x,c,e,rfl,hx,hc,he⟩:=h.close [] 0 2
  have hcl:closeV [] 0 6 (.vp l) = some (.vp (L.cells x c e)):=by rw [closeV_vpl,h1]
  refine flat2 (a':=.str s) rfl hcl (H1:=[]) ?_ rfl
  rw [F_sortkey_parts_3_eq]
  unfold F_sortkey_parts_3
  have hu:=upper_flat (L:=L) ⟨x,c,e,rfl,hx,hc,he⟩ hok s hs []
  simp only [go_sem,aload_vpn 6 (L.cells x c e) rfl,hu.1]

def shapeS (L:Loc) (n:Nat) (s:List UInt8):List UInt8 :=
  let s1:=if n.testBit 3 then dropBl s else s
  let s2:=if n.testBit 4 then dictS s1 else s1
  if n.testBit 2 then upS L s2 else s2
theorem shape_len (L:Loc) (n:Nat) (s:List UInt8):(shapeS L n s).length ≤ s.length:=by
  have h1:=dropBl_len s
  have h2:=dict_len s
  have h3:=dict_len (dropBl s)
  simp only [shapeS]
  split <;> split <;> split <;> (try rw [up_len]) <;> omega
theorem ordS_one:∀ a b:List Int,ordS a b = -1 ∨ ordS a b = 0 ∨ ordS a b = 1:=by
  intro a
  induction a with
  | nil=>intro b; cases b <;> simp [ordS]
  | cons x a ih =>
    intro b
    cases b with
    | nil=>simp [ordS]
    | cons y b =>
      rw [ordS_cons]
      split
      · simp
      · split
        · simp
        · exact ih b
theorem cmpB_one (a b:List UInt8):cmpB a b = -1 ∨ cmpB a b = 0 ∨ cmpB a b = 1:=by rw [← cmpB_ord]; exact ordS_one _ _
theorem cmpS_one (L:Loc) (a b:List UInt8):cmpS L a b = -1 ∨ cmpS L a b = 0 ∨ cmpS L a b = 1:=by
  unfold cmpS
  split
  · exact ordS_one _ _
  · exact cmpB_one _ _
theorem sgnS_one (a b:Int):sgnS a b = -1 ∨ sgnS a b = 0 ∨ sgnS a b = 1:=by
  unfold sgnS
  split
  · simp
  · split <;> simp
def partsC (L:Loc) (n:Nat) (x y:List UInt8):Int:=if n.testBit 0 then sgnS (preS x) (preS y) else cmpS L (shapeS L n x) (shapeS L n y)
def partsS (L:Loc) (n:Nat) (x y:List UInt8):Int:=if n.testBit 1 then -partsC L n x y else partsC L n x y
theorem turn_mul {c t:Int} (hc:c = -1 ∨ c = 0 ∨ c = 1) (ht:t = 1 ∨ t = -1):IntKind.i64.wrap (t * c) = if t = -1 then -c else c:=by
  rcases ht with rfl | rfl <;> rcases hc with rfl | rfl | rfl <;> decide
end Go.Am
namespace Go.Am
set_option linter.unusedSimpArgs false
set_option linter.unusedVariables false
set_option linter.unusedSectionVars false
set_option maxRecDepth 100000

def xor32 (a b:Int):Int:=IntKind.u32.wrap ((BitVec.ofInt IntKind.u32.bits a ^^^ BitVec.ofInt IntKind.u32.bits b).toNat:Int)
def and32 (a b:Int):Int:=IntKind.u32.wrap ((BitVec.ofInt IntKind.u32.bits a &&& BitVec.ofInt IntKind.u32.bits b).toNat:Int)
theorem ibin_xor32 (a b:Int):ibin .xor (.int .u32 a) (.int .u32 b) = some (.int .u32 (xor32 a b)):=by simp [ibin,ashift,intbin,xor32]
theorem ibin_and32 (a b:Int):ibin .and (.int .u32 a) (.int .u32 b) = some (.int .u32 (and32 a b)):=by simp [ibin,ashift,intbin,and32]
def shrK (k:IntKind) (n:Nat) (a:Int):Int:=a.fdiv (2 ^ (min n k.bits))
def shl8 (a:Int):Int:=IntKind.i64.wrap (a * 2 ^ (min 8 IntKind.i64.bits))
theorem ibin_shr (k k':IntKind) (a:Int) (n:Nat):ibin .shr (.int k a) (.int k' (n:Int)) = some (.int k (shrK k n a)):=by
  simp only [ibin,ashift,shrK]
  rw [if_neg (by omega),Int.toNat_natCast]
theorem and32_range (a:Int):0 ≤ and32 a 15 ∧ and32 a 15 < 16:=by
  have h:(BitVec.ofInt IntKind.u32.bits a &&& BitVec.ofInt IntKind.u32.bits 15).toNat ≤ 15:=by
    rw [BitVec.toNat_and]
    exact Nat.le_trans Nat.and_le_right (by decide)
  unfold and32
  generalize (BitVec.ofInt IntKind.u32.bits a &&& BitVec.ofInt IntKind.u32.bits 15).toNat = n at h
  have:IntKind.u32.wrap (n:Int) = (n:Int):=by
    have e1:(2 ^ IntKind.u32.bits:Int) = 4294967296:=by decide
    have e2:IntKind.u32.signed = false:=rfl
    unfold IntKind.wrap
    simp only [e1,e2,Bool.false_and,Bool.false_eq_true,if_false]
    omega
  rw [this]
  omega
def tabC (i:Int):Int:=crcTab.getD i.toNat 0
theorem tab_run {i:Int} (h:0 ≤ i ∧ i < 16) (H:Hp):∃ p,aindexA 16 1 crcV (.int .u32 i) = some p ∧ aload false 1 p H = some (.int .u32 (tabC i)):=by
  have hl:crcTab.length = 16:=rfl
  refine ⟨.vp ((crcTab.map (AV.int .u32)).drop (i.toNat * 1)),?_,?_⟩
  · unfold aindexA
    dsimp only
    rw [if_pos (by omega)]
    unfold afield crcV
    dsimp only
    rw [if_pos (by simp [hl]; omega)]
  · unfold aload Go.Am.apart tabC
    dsimp only
    rw [if_neg (by simp),List.getElem?_drop,Nat.add_zero,Nat.mul_one,List.getElem?_map,List.getElem?_eq_getElem (show i.toNat < crcTab.length by omega),List.getD_eq_getElem?_getD,List.getElem?_eq_getElem (show i.toNat < crcTab.length by omega)]
    rfl
def halfC (c:Int):Int:=xor32 (tabC (and32 c 15)) (shrK .u32 4 c)
def stepC (c:Int) (b:UInt8):Int:=halfC (halfC (xor32 c (IntKind.u32.wrap (b.toNat:Int))))
def crcL (s:Txt):Int:=s.foldl stepC 4294967295
def crcS (s:Txt):Int:=xor32 IntKind.u32.max (crcL s)
theorem crc_loop (s:Txt) (hs:s.length ≤ 1048576) (H0 H:Hp):∀ (r d:Txt),s = d ++ r → frame_Crc_L1 (.str s) (.int .u32 (crcL d)) (.int .i64 (s.length:Int)) (.int .i64 (d.length:Int)) H0 H = some (.int .u32 (crcS s),H):=by
  intro r
  induction r with
  | nil =>
    intro d hd
    rw [List.append_nil] at hd
    subst hd
    have hlt:decide ((s.length:Int) < (s.length:Int)) = false:=by simp
    have hx:aun .xor (.int .u32 (crcL s)) = some (.int .u32 (crcS s)):=rfl
    rw [frame_Crc_L1_eq]
    simp only [go_sem,hlt,frame_Crc_J1_eq,hx]
  | cons b r ih =>
    intro d hd
    have hlen:s.length = d.length + (r.length + 1):=by rw [hd]; simp
    have hlt:decide ((d.length:Int) < (s.length:Int)) = true:=by simp; omega
    have hw1:IntKind.i64.wrap ((d.length:Int) + 1) = ((d.length + 1:Nat):Int):=by rw [wrap64 (by omega) (by omega)]; omega
    have hidx:aindexStr (.str s) (.int .i64 (d.length:Int)) = some (.int .u8 (b.toNat:Int)):=aindexStr_of (by rw [hd,List.getElem?_append_right (Nat.le_refl _)]; simp)
    have hcv:cvInt .u32 (.int .u8 (b.toNat:Int)) = some (.int .u32 (IntKind.u32.wrap (b.toNat:Int))):=rfl
    obtain ⟨p1,a1,a2⟩:=tab_run (and32_range (xor32 (crcL d) (IntKind.u32.wrap (b.toNat:Int)))) H
    obtain ⟨p2,b1,b2⟩:=tab_run (and32_range (halfC (xor32 (crcL d) (IntKind.u32.wrap (b.toNat:Int))))) H
    have s1:=ibin_shr .u32 .u64 (xor32 (crcL d) (IntKind.u32.wrap (b.toNat:Int))) 4
    have s2:=ibin_shr .u32 .u64 (halfC (xor32 (crcL d) (IntKind.u32.wrap (b.toNat:Int)))) 4
    rw [show ((4:Nat):Int) = 4 from rfl] at s1 s2
    have ih':=ih (d ++ [b]) (by rw [hd]; simp)
    rw [List.length_append,List.length_singleton,show crcL (d ++ [b]) = stepC (crcL d) b by simp [crcL]] at ih'
    have e1:xor32 (tabC (and32 (xor32 (crcL d) (IntKind.u32.wrap (b.toNat:Int))) 15)) (shrK .u32 4 (xor32 (crcL d) (IntKind.u32.wrap (b.toNat:Int)))) = halfC (xor32 (crcL d) (IntKind.u32.wrap (b.toNat:Int))):=rfl
    rw [frame_Crc_L1_eq]
    simp only [go_sem,hlt,frame_Crc_J2_eq,hidx,hcv,ibin_xor32,ibin_and32,a1,a2,s1,e1,b1,b2,s2,frame_Crc_J3_eq,hw1]
    exact ih'
theorem crc_flat (s:Txt) (hs:s.length ≤ 1048576) (H:Hp):flatC C_frame_Crc [.str s] H = some (.int .u32 (crcS s),H):=by
  refine flat1 (a':=.str s) rfl (H1:=[]) ?_ rfl
  rw [F_frame_Crc_eq]
  unfold F_frame_Crc
  simp only [go_sem]
  exact crc_loop s hs [] [] s [] rfl
def byteOf (n:Int):UInt8:=UInt8.ofNat (IntKind.u8.wrap n).toNat
def sumS (s:Txt):Txt:=[byteOf (crcS s),byteOf (shrK .u32 8 (crcS s)),byteOf (shrK .u32 16 (crcS s)),byteOf (shrK .u32 24 (crcS s))]
theorem sum_flat (s:Txt) (hs:s.length ≤ 1048576) (H:Hp):flatC C_frame_sum [.str s] H = some (.str (sumS s),H):=by
  have s8:=ibin_shr .u32 .u64 (crcS s) 8
  have s16:=ibin_shr .u32 .u64 (crcS s) 16
  have s24:=ibin_shr .u32 .u64 (crcS s) 24
  rw [show ((8:Nat):Int) = 8 from rfl] at s8
  rw [show ((16:Nat):Int) = 16 from rfl] at s16
  rw [show ((24:Nat):Int) = 24 from rfl] at s24
  have cv:∀ n,cvInt .u8 (.int .u32 n) = some (.int .u8 (IntKind.u8.wrap n)):=fun n=>rfl
  have hse:∀ a b c d:Int,(setElems 1 [(0,.int .u8 a),(1,.int .u8 b),(2,.int .u8 c),(3,.int .u8 d)] [(.int .u8 0),(.int .u8 0),(.int .u8 0),(.int .u8 0)]).map (AV.vs 1 .clip) = some (.vs 1 .clip [.int .u8 a,.int .u8 b,.int .u8 c,.int .u8 d]):=fun a b c d=>rfl
  have hrd:∀ (a b c d:Int) (H:Hp),cvRd (.vs 1 .clip [.int .u8 a,.int .u8 b,.int .u8 c,.int .u8 d]) H = some (.str [UInt8.ofNat a.toNat,UInt8.ofNat b.toNat,UInt8.ofNat c.toNat,UInt8.ofNat d.toNat]):=fun a b c d H=>rfl
  refine flat1 (a':=.str s) rfl (H1:=[]) ?_ rfl
  rw [F_frame_sum_eq]
  unfold F_frame_sum
  simp only [crc_flat s hs,go_sem,cv,s8,s16,s24,hse,hrd]
  rfl
theorem sumS_len (s:Txt):(sumS s).length = 4:=rfl

def headS (s:Txt):Txt:=[byteOf (shrK .i64 8 (s.length:Int)),byteOf (s.length:Int)] ++ s
def recS (s:Txt):Txt:=headS s ++ sumS (headS s)
theorem headS_len (s:Txt):(headS s).length = s.length + 2:=by simp [headS]
theorem recS_len (s:Txt):(recS s).length = s.length + 6:=by simp [recS,headS_len,sumS_len]
theorem rec_flat (s:Txt) (hs:s.length ≤ 1048576) (H:Hp):flatC C_frame_Record [.str s] H = some (if 4096 < s.length then .tuple [.str [],.int .i64 3] else .tuple [.str (recS s),.int .i64 0],H):=by
  refine flat1 (a':=.str s) rfl (H1:=[]) ?_ (by split <;> rfl)
  rw [F_frame_Record_eq]
  unfold F_frame_Record
  by_cases h:4096 < s.length
  · have hd:decide ((4096:Int) < (s.length:Int)) = true:=by rw [decide_eq_true_eq]; omega
    simp only [go_sem,hd,if_pos h]
  · have hd:decide ((4096:Int) < (s.length:Int)) = false:=by simp; omega
    have s8:=ibin_shr .i64 .u64 (s.length:Int) 8
    rw [show ((8:Nat):Int) = 8 from rfl] at s8
    have cv:∀ n,cvInt .u8 (.int .i64 n) = some (.int .u8 (IntKind.u8.wrap n)):=fun n=>rfl
    have hse:∀ a b:Int,(setElems 1 [(0,.int .u8 a),(1,.int .u8 b)] [(.int .u8 0),(.int .u8 0)]).map (AV.vs 1 .clip) = some (.vs 1 .clip [.int .u8 a,.int .u8 b]):=fun a b=>rfl
    have hrd:∀ (a b:Int) (H:Hp),cvRd (.vs 1 .clip [.int .u8 a,.int .u8 b]) H = some (.str [UInt8.ofNat a.toNat,UInt8.ofNat b.toNat]):=fun a b H=>rfl
    have hhd:[UInt8.ofNat (IntKind.u8.wrap (shrK .i64 8 (s.length:Int))).toNat,UInt8.ofNat (IntKind.u8.wrap (s.length:Int)).toNat] ++ s = headS s:=rfl
    have a1:sbin .add (.str [UInt8.ofNat (IntKind.u8.wrap (shrK .i64 8 (s.length:Int))).toNat,UInt8.ofNat (IntKind.u8.wrap (s.length:Int)).toNat]) (.str s) = some (.str (headS s)):=by rw [sbin_add (by simp; omega),hhd]
    have a2:sbin .add (.str (headS s)) (.str (sumS (headS s))) = some (.str (recS s)):=by rw [sbin_add (by rw [headS_len,sumS_len]; omega)]; rfl
    simp only [go_sem,hd,frame_Record_J1_eq,s8,cv,hse,hrd,a1,sum_flat (headS s) (by rw [headS_len]; omega),a2,if_neg h]
def encS:List Txt → Txt
  | []=>[]
  | s :: r=>recS s ++ encS r
theorem encS_app (a b:List Txt):encS (a ++ b) = encS a ++ encS b:=by
  induction a with
  | nil=>rfl
  | cons s a ih=>simp only [List.cons_append,encS,ih,List.append_assoc]
def costR:List Txt → Nat
  | []=>0
  | s :: r=>s.length + 6 + costR r
theorem encS_len (l:List Txt):(encS l).length = costR l:=by
  induction l with
  | nil=>rfl
  | cons s r ih=>simp only [encS,costR,List.length_append,recS_len,ih]
theorem costR_app (a b:List Txt):costR (a ++ b) = costR a + costR b:=by
  induction a with
  | nil=>simp [costR]
  | cons s a ih=>simp only [List.cons_append,costR,ih]; omega
def fitsR (l:List Txt):Bool:=l.all fun s=>decide (s.length ≤ 4096)
theorem text_run (acc s:Txt) (h:acc.length + s.length ≤ 4194304):∃ v,textE.run [.ptr 0 0,.str s] [AObj.bld bldT bldU acc] = some (v,[AObj.bld bldT bldU (acc ++ s)]):=by
  have h2:acc.length + s.length ≤ maxB:=by unfold maxB; omega
  refine ⟨.tuple [.int .i64 s.length,.nili],?_⟩
  simp only [textE,bText,bldE,bldRun,textM,List.getElem?_cons_zero,bldF,and_self,if_true,if_pos h2,List.set_cons_zero]
theorem enc_loop {x : AV} {l : List Txt} (hx : SS x l) (hL : ∀ s ∈ l, s.length ≤ 1048576) (hl : costR l ≤ 4194304) (H0 : Hp) : ∀ (r d : List Txt), l = d ++ r → fitsR d = true →
    ∃ H',frame_Encode_L1 (.ptr 0 0) x (.int .i64 (l.length:Int)) (.int .i64 (d.length:Int)) H0 [AObj.bld bldT bldU (encS d)] = some (if fitsR l = true then .tuple [.str (encS l),.int .i64 0] else .tuple [.str [],.int .i64 3],H'):=by
  intro r
  induction r with
  | nil =>
    intro d hd hf
    rw [List.append_nil] at hd
    subst hd
    have hlt:decide ((l.length:Int) < (l.length:Int)) = false:=by simp
    have hst:stringE.run [.ptr 0 0] [AObj.bld bldT bldU (encS l)] = some (.str (encS l),[AObj.bld bldT bldU (encS l)]):=string_run _
    rw [frame_Encode_L1_eq]
    simp only [go_sem,hlt,frame_Encode_J1_eq,hst,if_pos hf]
    exact ⟨_,rfl⟩
  | cons s r ih =>
    intro d hd hf
    have hcl:∀ l:List Txt,6 * l.length ≤ costR l:=by
      intro l
      induction l with
      | nil=>simp [costR]
      | cons s l ih=>simp only [costR,List.length_cons]; omega
    have:=hcl l
    have hlen:l.length = d.length + (r.length + 1):=by rw [hd]; simp
    have hlt:decide ((d.length:Int) < (l.length:Int)) = true:=by simp; omega
    have hw1:IntKind.i64.wrap ((d.length:Int) + 1) = ((d.length + 1:Nat):Int):=by rw [wrap64 (by omega) (by omega)]; omega
    have his:l[d.length]? = some s:=by rw [hd,List.getElem?_append_right (Nat.le_refl _)]; simp
    have hidx:=SS.idx hx his
    have hs:=hL s (by rw [hd]; simp)
    have hrec:=rec_flat s hs [AObj.bld bldT bldU (encS d)]
    rw [frame_Encode_L1_eq]
    by_cases h:4096 < s.length
    · have hno : fitsR l = false := by
        rw [hd]
        simp only [fitsR,List.all_append,List.all_cons]
        rw [show decide (s.length ≤ 4096) = false by simp; omega]
        simp
      have e3:((3:Int) != 0) = true:=rfl
      rw [if_pos h] at hrec
      simp only [go_sem,hlt,frame_Encode_J2_eq,hidx,aload_vpc,hrec,List.getElem?_cons_zero,List.getElem?_cons_succ,e3,hno,Bool.false_eq_true,if_false]
      exact ⟨_,rfl⟩
    · have e0:((0:Int) != 0) = false:=rfl
      rw [if_neg h] at hrec
      have hcost:costR l = costR d + (s.length + 6 + costR r):=by rw [hd,costR_app]; rfl
      obtain ⟨v,hv⟩:=text_run (encS d) (recS s) (by rw [encS_len,recS_len]; omega)
      have hen:encS (d ++ [s]) = encS d ++ recS s:=by rw [encS_app]; simp [encS]
      obtain ⟨H',m1⟩:=ih (d ++ [s]) (by rw [hd]; simp) (by
        have:fitsR (d ++ [s]) = (fitsR d && (decide (s.length ≤ 4096) && true)):=by simp [fitsR]
        rw [this,hf]; simp; omega)
      rw [List.length_append,List.length_singleton,hen] at m1
      refine ⟨H',?_⟩
      simp only [go_sem,hlt,frame_Encode_J2_eq,hidx,aload_vpc,hrec,List.getElem?_cons_zero,List.getElem?_cons_succ,e0,frame_Encode_J4_eq,hv,frame_Encode_J3_eq,hw1]
      exact m1
theorem enc_flat {x : AV} {l : List Txt} (hx : SS x l) (hL : ∀ s ∈ l, s.length ≤ 1048576) (hl : costR l ≤ 4194304) (H : Hp) :
    flatC C_frame_Encode [x] H = some (if fitsR l = true then .tuple [.str (encS l),.int .i64 0] else .tuple [.str [],.int .i64 3],H):=by
  obtain ⟨x1,k1,k2⟩:=SS.closed hx [] 0 4
  obtain ⟨H',m1⟩:=enc_loop k2 hL hl [] l [] rfl rfl
  refine flat1 k1 (H1:=H') ?_ (by split <;> rfl)
  rw [F_frame_Encode_eq]
  unfold F_frame_Encode
  simp only [go_sem,SS.len k2 9,List.length_nil,List.nil_append]
  exact m1

def or64 (a b:Int):Int:=IntKind.i64.wrap ((BitVec.ofInt IntKind.i64.bits a ||| BitVec.ofInt IntKind.i64.bits b).toNat:Int)
def rdLen (a b:UInt8):Int:=or64 (shl8 (IntKind.i64.wrap (a.toNat:Int))) (IntKind.i64.wrap (b.toNat:Int))
theorem rdLen_all:((List.range 4097).all fun n=>decide (rdLen (byteOf (shrK .i64 8 (n:Int))) (byteOf (n:Int)) = (n:Int))) = true:=by kernel_rfl
theorem rdLen_ok {n:Nat} (h:n ≤ 4096):rdLen (byteOf (shrK .i64 8 (n:Int))) (byteOf (n:Int)) = (n:Int):=by
  have:=List.all_eq_true.1 rdLen_all n (List.mem_range.2 (by omega))
  simpa using this
theorem next_flat (s rest:Txt) (hs:s.length ≤ 4096) (hr:rest.length ≤ 1048576) (H:Hp):flatC C_frame_Next [.str (recS s ++ rest),.int .i64 0] H = some (.tuple [.str s,.int .i64 ((s.length + 6:Nat):Int),.int .i64 0],H):=by
  refine flat2 (a':=.str (recS s ++ rest)) (b':=.int .i64 0) rfl rfl (H1:=[]) ?_ rfl
  have hlen:(recS s ++ rest).length = s.length + 6 + rest.length:=by rw [List.length_append,recS_len]
  have hcons:recS s ++ rest = byteOf (shrK .i64 8 (s.length:Int)) :: byteOf (s.length:Int) :: (s ++ (sumS (headS s) ++ rest)):=by simp [recS,headS]
  generalize hg:recS s ++ rest = g at hlen hcons
  have h0:decide ((0:Int) < 0) = false:=rfl
  have h1:decide ((g.length:Int) < 0) = false:=by rw [decide_eq_false_iff_not]; omega
  have sl0:asliceS (.str g) (some (.int .i64 0)) none none = some (.str g):=by
    rw [asliceS_lo .i64 (by omega) (by omega)]
    simp
  have h2:decide ((g.length:Int) < 2) = false:=by rw [decide_eq_false_iff_not]; omega
  have i0:aindexStr (.str g) (.int .i64 0) = some (.int .u8 ((byteOf (shrK .i64 8 (s.length:Int))).toNat:Int)):=aindexStr_of (i:=0) (by rw [hcons]; rfl)
  have i1:aindexStr (.str g) (.int .i64 1) = some (.int .u8 ((byteOf (s.length:Int)).toNat:Int)):=aindexStr_of (i:=1) (by rw [hcons]; rfl)
  have cv:∀ n,cvInt .i64 (.int .u8 n) = some (.int .i64 (IntKind.i64.wrap n)):=fun n=>rfl
  have hsh:∀ a:Int,ibin .shl (.int .i64 a) (.int .u64 8) = some (.int .i64 (shl8 a)):=fun a=>rfl
  have hor:∀ a b:Int,ibin .or (.int .i64 a) (.int .i64 b) = some (.int .i64 (or64 a b)):=fun a b=>by simp [ibin,ashift,intbin,or64]
  have hrl:or64 (shl8 (IntKind.i64.wrap ((byteOf (shrK .i64 8 (s.length:Int))).toNat:Int))) (IntKind.i64.wrap ((byteOf (s.length:Int)).toNat:Int)) = (s.length:Int):=rdLen_ok hs
  have h3:decide ((4096:Int) < (s.length:Int)) = false:=by simp; omega
  have w6:IntKind.i64.wrap ((s.length:Int) + 6) = ((s.length + 6:Nat):Int):=by rw [wrap64 (by omega) (by omega)]; omega
  have w2:IntKind.i64.wrap ((s.length:Int) + 2) = ((s.length + 2:Nat):Int):=by rw [wrap64 (by omega) (by omega)]; omega
  have w0:IntKind.i64.wrap (0 + (s.length:Int)) = (s.length:Int):=by rw [wrap64 (by omega) (by omega)]; omega
  have h4:decide ((g.length:Int) < ((s.length + 6:Nat):Int)) = false:=by simp; omega
  have sl1:asliceS (.str g) (some (.int .i64 ((s.length + 2:Nat):Int))) (some (.int .i64 ((s.length + 6:Nat):Int))) none = some (.str (sumS (headS s))):=by
    rw [asliceS_lh .i64 .i64 (by omega) (by omega) (by omega)]
    congr 2
    rw [← hg,Int.toNat_natCast,Int.toNat_natCast,List.take_append_of_le_length (by rw [recS_len]; exact Nat.le_refl _),List.take_of_length_le (by rw [recS_len]; exact Nat.le_refl _)]
    unfold recS
    rw [List.drop_append_of_le_length (by rw [headS_len]; exact Nat.le_refl _),List.drop_of_length_le (by rw [headS_len]; exact Nat.le_refl _)]
    rfl
  have sl2:asliceS (.str g) none (some (.int .i64 ((s.length + 2:Nat):Int))) none = some (.str (headS s)):=by
    rw [asliceS_hi .i64 (by omega) (by omega)]
    congr 2
    rw [← hg,Int.toNat_natCast]
    unfold recS
    rw [List.append_assoc,List.take_append_of_le_length (by rw [headS_len]; exact Nat.le_refl _),List.take_of_length_le (by rw [headS_len]; exact Nat.le_refl _)]
  have sl3:asliceS (.str g) (some (.int .i64 2)) (some (.int .i64 ((s.length + 2:Nat):Int))) none = some (.str s):=by
    rw [asliceS_lh .i64 .i64 (by omega) (by omega) (by omega)]
    congr 2
    rw [hcons,Int.toNat_natCast]
    simp
  have hne:(!(sumS (headS s) == sumS (headS s))) = false:=by simp
  rw [F_frame_Next_eq]
  unfold F_frame_Next
  simp only [go_sem,h0,h1,frame_Next_J1_eq,sl0,h2,frame_Next_J2_eq,i0,i1,cv,hsh,hor,hrl,h3,frame_Next_J3_eq,w6,h4,frame_Next_J4_eq,w2,sl1,sl2,sum_flat (headS s) (by rw [headS_len]; omega),hne,frame_Next_J5_eq,sl3,w0]
end Go.Am
namespace Go.Am
set_option linter.unusedSimpArgs false
set_option linter.unusedVariables false
set_option linter.unusedSectionVars false
set_option maxRecDepth 100000

structure Tmp where
  owner:Txt
  names:List Txt
  sld:List Txt
  limit:Nat
  last:Nat
  closed:Bool
def NmAt (H:Hp) (x:AV) (l:List Txt):Prop:=x = .nils ∧ l = [] ∨ ∃ t e,x = .vs 1 (.own t e) (l.map AV.str) ∧ H[t]? = some (.tok e)
theorem NmAt.ss {H:Hp} {x:AV} {l:List Txt} (h:NmAt H x l):SS x l:=by
  rcases h with ⟨rfl,rfl⟩ | ⟨t,e,rfl,_⟩
  · exact .inl ⟨rfl,rfl⟩
  · exact .inr ⟨_,rfl⟩
theorem NmAt.frame {H H':Hp} {x:AV} {l:List Txt} (h:NmAt H x l) (hf:∀ a ∈ tokA x,H'[a]? = H[a]?):NmAt H' x l :=
  h.imp id fun ⟨t,e,h1,h2⟩=>⟨t,e,h1,(hf t (by rw [h1]; simp [tokA])).trans h2⟩
def entS (p:Txt × Nat):AV × AV × Nat:=(.str p.1,.bool true,p.2)
structure TmAt (H:Hp) (o t ms clk:Nat) (nx:AV) (sl:List (Txt × Nat)) (tm:Tmp):Prop where
  cells:H[o]? = some (.cells [.ptr t 0,.str tm.owner,nx,.map ms,.int .i64 (tm.limit:Int),.int .i64 (tm.last:Int),.bool tm.closed])
  names:NmAt H nx tm.names
  map:H[ms]? = some (.map (sl.map entS) clk)
  sld:sl.map (·.1) = tm.sld
  nd:(o :: ms :: tokA nx).Nodup
def TmpAt (H:Hp) (o t:Nat) (tm:Tmp) (B:List Nat):Prop:=∃ ms clk nx sl,TmAt H o t ms clk nx sl tm ∧ B = o :: ms :: tokA nx
structure TmpOk (tm:Tmp):Prop where
  owner:tm.owner.length ≤ 16
  limit:tm.limit ≤ 9223372036854775807
  len:tm.names.length ≤ tm.last
  last:tm.last ≤ 1000000
theorem TmAt.lt {H:Hp} {o t ms clk:Nat} {nx:AV} {sl:List (Txt × Nat)} {tm:Tmp} (h:TmAt H o t ms clk nx sl tm):∀ a ∈ o :: ms :: tokA nx,a < H.length:=by
  intro a ha
  rcases List.mem_cons.1 ha with e | ha
  · subst e; exact lt_of_get h.cells
  rcases List.mem_cons.1 ha with e | ha
  · subst e; exact lt_of_get h.map
  rcases h.names with ⟨e,_⟩ | ⟨t,e,e1,ht⟩
  · rw [e] at ha; cases ha
  · rw [e1] at ha
    rw [List.mem_singleton.1 ha]; exact lt_of_get ht
theorem TmAt.frame {H H':Hp} {o t ms clk:Nat} {nx:AV} {sl:List (Txt × Nat)} {tm:Tmp} (h:TmAt H o t ms clk nx sl tm) (hf:∀ a ∈ o :: ms :: tokA nx,H'[a]? = H[a]?):TmAt H' o t ms clk nx sl tm :=
  ⟨(hf _ (by simp)).trans h.cells,h.names.frame fun a ha=>hf a (by simp [ha]),(hf _ (by simp)).trans h.map,h.sld,h.nd⟩
theorem TmpAt.lt {H:Hp} {o t:Nat} {tm:Tmp} {B:List Nat} (h:TmpAt H o t tm B):∀ a ∈ B,a < H.length:=by
  obtain ⟨ms,clk,nx,sl,h,rfl⟩:=h
  exact h.lt
theorem TmpAt.stp {H H':Hp} {o t:Nat} {tm:Tmp} {B S:List Nat} (h:TmpAt H o t tm B) (hs:Stp S H H') (hd:∀ a ∈ B,a ∉ S):TmpAt H' o t tm B:=by
  obtain ⟨ms,clk,nx,sl,h,rfl⟩:=h
  exact ⟨ms,clk,nx,sl,h.frame fun a ha=>hs.at' a (h.lt a ha) (hd a ha),rfl⟩
def SysAt (H:Hp) (o t:Nat) (tm:Tmp) (s:Sto) (A:List Nat):Prop:=∃ B S,TmpAt H o t tm B ∧ StoreAt H t s S ∧ (∀ a ∈ B,a ∉ S) ∧ A = B ++ S
structure SysRes (H H':Hp) (o t:Nat) (tm':Tmp) (s':Sto) (A A':List Nat):Prop where
  at':SysAt H' o t tm' s' A'
  stp:Stp A H H'
  own:∀ a ∈ A',a ∈ A ∨ H.length ≤ a
theorem SysAt.lt {H:Hp} {o t:Nat} {tm:Tmp} {s:Sto} {A:List Nat} (h:SysAt H o t tm s A):∀ a ∈ A,a < H.length:=by
  obtain ⟨B,S,h1,h2,h3,rfl⟩:=h
  intro a ha
  rcases List.mem_append.1 ha with k | k
  · exact h1.lt a k
  · exact h2.lt a k
theorem SysAt.stp {H H':Hp} {o t:Nat} {tm:Tmp} {s:Sto} {A C:List Nat} (h:SysAt H o t tm s A) (hs:Stp C H H') (hd:∀ a ∈ A,a ∉ C):SysAt H' o t tm s A:=by
  obtain ⟨B,S,h1,h2,h3,rfl⟩:=h
  exact ⟨B,S,h1.stp hs fun a ha=>hd a (by simp [ha]),h2.stp hs fun a ha=>hd a (by simp [ha]),h3,rfl⟩
theorem SysAt.self {H:Hp} {o t:Nat} {tm:Tmp} {s:Sto} {A:List Nat} (h:SysAt H o t tm s A):SysRes H H o t tm s A A:=⟨h,Stp.refl _ _,fun a ha=>.inl ha⟩
theorem SysAt.store {H H':Hp} {o t:Nat} {tm:Tmp} {s':Sto} {B S S':List Nat} (h1:TmpAt H o t tm B) (h3:∀ a ∈ B,a ∉ S) (hr:StoRes H H' t s' S S'):SysRes H H' o t tm s' (B ++ S) (B ++ S'):=by
  refine ⟨⟨B,S',h1.stp hr.stp h3,hr.at',fun a ha hs=>?_,rfl⟩,hr.stp.mono fun a ha=>by simp [ha],fun a ha=>?_⟩
  · rcases hr.own a hs with k | k
    · exact h3 a ha k
    · have:=h1.lt a ha; omega
  · rcases List.mem_append.1 ha with k | k
    · exact .inl (by simp [k])
    · rcases hr.own a k with k | k
      · exact .inl (by simp [k])
      · exact .inr k
theorem ldn {H:Hp} {o:Nat} {l:List AV} (h:H[o]? = some (.cells l)) (i:Nat) {v:AV} (hv:l[i]? = some v):aload false 1 (.ptr o i) H = some v:=by
  rw [aload_of h]; exact hv
theorem stn {H:Hp} {o:Nat} {l:List AV} (h:H[o]? = some (.cells l)) (i:Nat) {v:AV} (hv:v.cells = [v]) (hk:v.known = true) (hi:i < l.length):astoreU 1 (.ptr o i) v H = some (.tuple [],H.set o (.cells (l.set i v))):=by
  have:=st h i hv hk hi
  rwa [Nat.zero_add] at this
theorem index_loop {x : AV} {l : List Txt} (hx : SS x l) (hl : l.length ≤ 1048576) (n : Txt) (H0 H : Hp) : ∀ (r d : List Txt), l = d ++ r →
    ∃ i:Int,slices_Index_of_string_string_L1 x (.str n) (.int .i64 (l.length:Int)) (.int .i64 (d.length:Int)) H0 H = some (.int .i64 i,H) ∧ (0 ≤ i ↔ n ∈ r):=by
  intro r
  induction r with
  | nil =>
    intro d hd
    rw [List.append_nil] at hd
    subst hd
    have hlt:decide ((l.length:Int) < (l.length:Int)) = false:=by simp
    refine ⟨-1,?_,by simp⟩
    rw [slices_Index_of_string_string_L1_eq]
    simp only [go_sem,hlt,slices_Index_of_string_string_J1_eq]
  | cons s r ih =>
    intro d hd
    have hlen:l.length = d.length + (r.length + 1):=by rw [hd]; simp
    have hlt:decide ((d.length:Int) < (l.length:Int)) = true:=by simp; omega
    have hw1:IntKind.i64.wrap ((d.length:Int) + 1) = ((d.length + 1:Nat):Int):=by rw [wrap64 (by omega) (by omega)]; omega
    have his:l[d.length]? = some s:=by rw [hd,List.getElem?_append_right (Nat.le_refl _)]; simp
    have hidx:=SS.idx hx his
    rw [slices_Index_of_string_string_L1_eq]
    simp only [go_sem,hlt,slices_Index_of_string_string_J2_eq,hidx,aload_vpc]
    by_cases he:n = s
    · have hb:(n == s) = true:=by simpa using he
      simp only [hb,go_sem]
      exact ⟨_,rfl,by simp [he]⟩
    · have hb:(n == s) = false:=by simpa using he
      obtain ⟨i,m1,m2⟩:=ih (d ++ [s]) (by rw [hd]; simp)
      rw [List.length_append,List.length_singleton] at m1
      simp only [hb,go_sem,slices_Index_of_string_string_J3_eq,hw1]
      exact ⟨i,m1,by rw [m2]; simp [he]⟩
theorem contains_flat {x:AV} {l:List Txt} (hx:SS x l) (hl:l.length ≤ 1048576) (n:Txt) (H:Hp):flatC C_slices_Contains_of_string_string [x,.str n] H = some (.bool (decide (n ∈ l)),H):=by
  obtain ⟨x1,k1,k2⟩:=SS.closed hx [] 0 4
  obtain ⟨x2,g1,g2⟩:=SS.closed k2 [] 0 4
  refine flat2 k1 (b':=.str n) rfl (H1:=[]) ?_ rfl
  obtain ⟨i,m1,m2⟩:=index_loop g2 hl n [] [] l [] rfl
  have hi:flatC C_slices_Index_of_string_string [x1,.str n] [] = some (.int .i64 i,[]):=by
    refine flat2 g1 (b':=.str n) rfl (H1:=[]) ?_ rfl
    rw [F_slices_Index_of_string_string_eq]
    unfold F_slices_Index_of_string_string
    simp only [go_sem,SS.len g2 9]
    exact m1
  rw [F_slices_Contains_of_string_string_eq]
  unfold F_slices_Contains_of_string_string
  simp only [hi,go_sem]
  congr 3
  rw [decide_eq_decide]
  exact m2
def tmFind (tm:Tmp) (n:Txt):Int:=if tm.closed then 8 else if n ∈ tm.names then 0 else 5
theorem find_run {H:Hp} {o t ms clk:Nat} {nx:AV} {sl:List (Txt × Nat)} {tm:Tmp} (h:TmAt H o t ms clk nx sl tm) (hk:TmpOk tm) (n:Txt):C_tempfile_Temps_find [.ptr o 0,.str n] H = some (.int .i64 (tmFind tm n),H):=by
  have l6:=ldn h.cells 6 (v:=.bool tm.closed) rfl
  have l2:=ldn h.cells 2 (v:=nx) rfl
  have hkl:=hk.len
  have hkt:=hk.last
  have hcon:=contains_flat h.names.ss (by omega) n H
  rw [F_tempfile_Temps_find_eq]
  unfold F_tempfile_Temps_find tmFind
  cases hc:tm.closed with
  | true =>
    rw [hc] at l6
    simp only [go_sem,Nat.zero_add,l6,if_true]
  | false =>
    rw [hc] at l6
    by_cases hn:n ∈ tm.names
    · rw [decide_eq_true hn] at hcon
      simp only [go_sem,Nat.zero_add,l6,l2,hcon,Bool.not_true,tempfile_Temps_find_J1_eq,if_pos hn,Bool.false_eq_true,if_false]
    · rw [decide_eq_false hn] at hcon
      simp only [go_sem,Nat.zero_add,l6,l2,hcon,Bool.not_false,if_neg hn,Bool.false_eq_true,if_false]
def ownS (o:Txt):Txt:=[46,116,109,112,46] ++ o ++ [46]
def tmpName (o:Txt) (n:Nat):Txt:=ownS o ++ Go.Lib.itoa (n:Int)
def tmNew (tm:Tmp) (s:Sto):(Txt × Int) × (Tmp × Sto) :=
  if tm.closed then (([],8),(tm,s)) else match s.create (tmpName tm.owner (tm.last + 1)) with
  | (e,s')=>if e = 0 then ((tmpName tm.owner (tm.last + 1),0),({ tm with last:=tm.last + 1,names:=tm.names ++ [tmpName tm.owner (tm.last + 1)] },s')) else (([],e),(tm,s'))
theorem NmAt.app {H : Hp} {x : AV} {l : List Txt} (h : NmAt H x l) (n : Txt) (hl : l.length ≤ 1048576) :
    ∃ x' H',aappE 1 16 x (.vs 1 .clip [.str n]) H = some (x',H') ∧ NmAt H' x' (l ++ [n]) ∧ Stp (tokA x) H H' ∧ (∀ a ∈ tokA x',a ∈ tokA x ∨ a = H.length) ∧ x'.cells = [x'] ∧ x'.known = true ∧ (tokA x').Nodup:=by
  unfold aappE
  have he:Go.Am.elems 1 (.vs 1 .clip [.str n]) H = some [.str n]:=rfl
  rw [he]
  have hfit:fits ((l.map AV.str).length + [AV.str n].length) 16 = true:=by simp [fits]; omega
  have hone:fits [AV.str n].length 16 = true:=rfl
  rcases h with ⟨rfl,rfl⟩ | ⟨t,e,rfl,ht⟩
  · refine ⟨.vs 1 (.own H.length 1) [.str n],H ++ [.tok 1],?_,.inr ⟨H.length,1,rfl,by simp⟩,Stp.push _ _,fun a ha=>.inr (List.mem_singleton.1 ha),rfl,rfl,by simp [tokA]⟩
    simp only [aappend,hone,if_true]
    rw [if_neg (by simp)]
    rfl
  · refine ⟨.vs 1 (.own t (e + 1)) (l.map AV.str ++ [.str n]),H.set t (.tok (e + 1)),?_,.inr ⟨t,e + 1,by simp,get_set_eq _ ht⟩,Stp.set _ _ (by simp [tokA]),fun a ha=>.inl (by simpa [tokA] using ha),rfl,rfl,by simp [tokA]⟩
    simp only [aappend,hfit,and_self,if_true,ht]
    rw [if_neg (by simp)]
    rfl
theorem itoa_run (n:Nat) (hn:n ≤ 9223372036854775807) (H:Hp):flatC C_num_Format [.int .i64 (n:Int)] H = some (.str (Go.Lib.itoa (n:Int)),H):=by
  refine flat1 (a':=.int .i64 (n:Int)) rfl (H1:=[]) ?_ rfl
  have:sumC itoaA [.int .i64 (n:Int)] [] = some (.str (Go.Lib.itoa (n:Int)),[]):=by
    unfold sumC itoaA
    dsimp only
    rw [if_pos (by omega)]
  rw [F_num_Format_eq]
  unfold F_num_Format
  simp only [this,go_sem]
theorem prefix_run (o:Txt) (ho:o.length ≤ 1048576) (H:Hp):flatC C_tempfile_prefix [.str o] H = some (.str (ownS o),H):=by
  refine flat1 (a':=.str o) rfl (H1:=[]) ?_ rfl
  rw [F_tempfile_prefix_eq]
  unfold F_tempfile_prefix
  rw [sbin_add (by simp; omega)]
  simp only [go_sem]
  rw [sbin_add (by simp; omega)]
  rfl
end Go.Am
namespace Go.Am
set_option linter.unusedSimpArgs false
set_option linter.unusedVariables false
set_option linter.unusedSectionVars false
set_option maxRecDepth 100000

abbrev tmC (t ms:Nat) (nx:AV) (tm:Tmp):List AV:=[.ptr t 0,.str tm.owner,nx,.map ms,.int .i64 (tm.limit:Int),.int .i64 (tm.last:Int),.bool tm.closed]
theorem name_le (o:Txt) (n:Nat) (ho:o.length ≤ 16) (hn:n ≤ 1000001):(tmpName o n).length ≤ 1048576 ∧ (ownS o).length + (Go.Lib.itoa (n:Int)).length ≤ 1048576:=by
  have:=Go.Lib.itoa_length_le (n:Int) (by omega) (by omega)
  have h2:(ownS o).length = o.length + 6:=by simp [ownS]
  refine ⟨?_,by omega⟩
  unfold tmpName
  rw [List.length_append]
  omega
theorem TNew_run {H : Hp} {o t : Nat} {tm : Tmp} {s : Sto} {A : List Nat} (h : SysAt H o t tm s A) (hm : TmpOk tm) (hk : StoOk s) (hl : tm.last < 1000000) :
    ∃ H' A',C_tempfile_Temps_New [.ptr o 0] H = some (.tuple [.str (tmNew tm s).1.1,.int .i64 (tmNew tm s).1.2],H') ∧ SysRes H H' o t (tmNew tm s).2.1 (tmNew tm s).2.2 A A':=by
  have hsys:=h
  obtain ⟨B,S,h1,h2,h3,rfl⟩:=h
  have hB:=h1
  obtain ⟨ms,clk,nx,sl,h1,rfl⟩:=h1
  have l6:=ldn h1.cells 6 (v:=.bool tm.closed) rfl
  have l0:=ldn h1.cells 0 (v:=.ptr t 0) rfl
  have l1:=ldn h1.cells 1 (v:=.str tm.owner) rfl
  have l5:=ldn h1.cells 5 (v:=.int .i64 (tm.last:Int)) rfl
  have ho:=hm.owner
  have hw:IntKind.i64.wrap ((tm.last:Int) + 1) = ((tm.last + 1:Nat):Int):=by rw [wrap64 (by omega) (by omega)]; omega
  obtain ⟨n1,n2⟩:=name_le tm.owner (tm.last + 1) ho (by omega)
  have hpre:=prefix_run tm.owner (by omega) H
  have hit:=itoa_run (tm.last + 1) (by omega) H
  have hadd:sbin .add (.str (ownS tm.owner)) (.str (Go.Lib.itoa ((tm.last + 1:Nat):Int))) = some (.str (tmpName tm.owner (tm.last + 1))):=by rw [sbin_add (by omega)]; rfl
  have hnil:ebin (.pointer 120) .eql (.ptr t 0) .nilp = some (.bool false):=rfl
  obtain ⟨H1,S1,p1,p2⟩:=Create_run h2 hk (tmpName tm.owner (tm.last + 1)) n1
  rw [F_tempfile_Temps_New_eq]
  unfold F_tempfile_Temps_New tmNew
  cases hc:tm.closed with
  | true =>
    rw [hc] at l6
    rw [if_pos rfl]
    exact ⟨H,_,by simp only [go_sem,Nat.zero_add,tempfile_Temps_New_J1_eq,l6],hsys.self⟩
  | false =>
    rw [hc] at l6
    rw [if_neg (by simp)]
    cases hcr:s.create (tmpName tm.owner (tm.last + 1)) with
    | mk e s' =>
    rw [hcr] at p1 p2
    simp only at p1 p2 ⊢
    by_cases he:e = 0
    · subst he
      rw [if_pos rfl]
      have hne:((0:Int) != 0) = false:=rfl
      have hT:=h1.frame (H':=H1) fun a ha=>p2.stp.at' a (h1.lt a ha) (h3 a ha)
      have k5:=ldn hT.cells 5 (v:=.int .i64 (tm.last:Int)) rfl
      have s5:=stn hT.cells 5 (v:=.int .i64 ((tm.last + 1:Nat):Int)) rfl rfl (by simp)
      have g1:=get_set_eq (AObj.cells (List.set (tmC t ms nx tm) 5 (.int .i64 ((tm.last + 1:Nat):Int)))) hT.cells
      have k2:=ldn g1 2 (v:=nx) rfl
      have hnd:=h1.nd
      rw [List.nodup_cons,List.nodup_cons] at hnd
      obtain ⟨d1,d2,d3⟩:=hnd
      have hot:∀ a ∈ tokA nx,a ≠ o:=fun a ha e=>d1 (by rw [← e]; simp [ha])
      have hmt:∀ a ∈ tokA nx,a ≠ ms:=fun a ha e=>d2 (by rw [← e]; exact ha)
      have hom:o ≠ ms:=fun e=>d1 (by rw [e]; simp)
      generalize hH2:H1.set o (.cells (List.set (tmC t ms nx tm) 5 (.int .i64 ((tm.last + 1:Nat):Int)))) = H2 at s5 g1 k2
      have hlen2:H2.length = H1.length:=by rw [← hH2]; simp
      have hN2:NmAt H2 nx tm.names:=hT.names.frame fun a ha=>by rw [← hH2]; exact List.getElem?_set_ne (fun e=>hot a ha e.symm)
      have hkl:=hm.len
      obtain ⟨x',H3,q1,q2,q3,q4,q5,q6,q7⟩:=hN2.app (tmpName tm.owner (tm.last + 1)) (by omega)
      have g2:H3[o]? = some (.cells (List.set (tmC t ms nx tm) 5 (.int .i64 ((tm.last + 1:Nat):Int)))):=q3.get g1 fun ha=>hot o ha rfl
      have s2:=stn g2 2 (v:=x') q5 q6 (by simp)
      generalize hH4:H3.set o (.cells (List.set (List.set (tmC t ms nx tm) 5 (.int .i64 ((tm.last + 1:Nat):Int))) 2 x')) = H4 at s2
      have holt:o < H1.length:=lt_of_get hT.cells
      have hmlt:ms < H1.length:=lt_of_get hT.map
      have hx':∀ a ∈ tokA x',a ≠ o ∧ a ≠ ms:=fun a ha=>by
        rcases q4 a ha with k | k
        · exact ⟨hot a k,hmt a k⟩
        · omega
      have hS2:Stp (o :: ms :: tokA nx) H1 H4:=by
        have e1:Stp (o :: ms :: tokA nx) H1 H2:=by rw [← hH2]; exact Stp.set _ _ (by simp)
        have e3:Stp (o :: ms :: tokA nx) H3 H4:=by rw [← hH4]; exact Stp.set _ _ (by simp)
        exact (e1.trans (q3.mono (B:=o :: ms :: tokA nx) fun a ha=>by simp [ha]) (fun _ h=>h) fun _ h=>.inl h).trans e3 (fun _ h=>h) fun _ h=>.inl h
      refine ⟨H4,(o :: ms :: tokA x') ++ S1,?_,⟨⟨o :: ms :: tokA x',S1,⟨ms,clk,x',sl,⟨?_,?_,?_,h1.sld,?_⟩,rfl⟩,?_,?_,rfl⟩,?_,?_⟩⟩
      · simp only [go_sem,Nat.zero_add,tempfile_Temps_New_J1_eq,l6,l0,hnil,tempfile_Temps_New_J2_eq,l1,hpre,l5,hw,hit,hadd,p1,hne,tempfile_Temps_New_J3_eq,k5,s5,k2,one_str,q1,s2]
      · rw [← hH4]
        refine (get_set_eq _ g2).trans ?_
        simp only [tmC,hc]
        rfl
      · exact q2.frame fun a ha=>by rw [← hH4]; exact List.getElem?_set_ne (fun e=>(hx' a ha).1 e.symm)
      · rw [← hH4,List.getElem?_set_ne hom,q3.at' ms (by rw [hlen2]; exact hmlt) (fun ha=>hmt ms ha rfl),← hH2,List.getElem?_set_ne hom]
        exact hT.map
      · rw [List.nodup_cons,List.nodup_cons]
        refine ⟨fun ha=>?_,fun ha=>(hx' ms ha).2 rfl,q7⟩
        rcases List.mem_cons.1 ha with e | ha
        · exact hom e
        · exact (hx' o ha).1 rfl
      · refine p2.at'.stp hS2 fun a ha hb=>?_
        rcases p2.own a ha with k | k
        · exact h3 a hb k
        · have:=h1.lt a hb; omega
      · intro a ha hs
        have hold:a ∈ o :: ms :: tokA nx → False:=fun k=>by
          rcases p2.own a hs with j | j
          · exact h3 a k j
          · have:=h1.lt a k; omega
        rcases List.mem_cons.1 ha with e | ha
        · exact hold (by rw [e]; simp)
        rcases List.mem_cons.1 ha with e | ha
        · exact hold (by rw [e]; simp)
        rcases q4 a ha with k | k
        · exact hold (by simp [k])
        · have:=p2.at'.lt a hs; omega
      · refine (p2.stp.mono (B:=(o :: ms :: tokA nx) ++ S) fun a ha=>by simp [ha]).trans hS2 (fun _ h=>h) fun a ha=>.inl (List.mem_append_left _ ha)
      · intro a ha
        rcases List.mem_append.1 ha with ha | ha
        · rcases List.mem_cons.1 ha with e | ha
          · exact .inl (by rw [e]; simp)
          rcases List.mem_cons.1 ha with e | ha
          · exact .inl (by rw [e]; simp)
          rcases q4 a ha with k | k
          · exact .inl (by simp [k])
          · exact .inr (by have:=p2.stp.len; omega)
        · rcases p2.own a ha with k | k
          · exact .inl (by simp [k])
          · exact .inr k
    · rw [if_neg he]
      have hne:(e != 0) = true:=by simpa using he
      exact ⟨H1,_,by simp only [go_sem,Nat.zero_add,tempfile_Temps_New_J1_eq,l6,l0,hnil,tempfile_Temps_New_J2_eq,l1,hpre,l5,hw,hit,hadd,p1,hne],SysAt.store hB h3 p2⟩
def addS (l:List Txt) (n:Txt):List Txt:=if n ∈ l then l else l ++ [n]
def tmSeal (tm:Tmp) (s:Sto) (n:Txt):Int × (Tmp × Sto) :=
  if tmFind tm n ≠ 0 then (tmFind tm n,(tm,s)) else if (s.sync n).1 ≠ 0 then ((s.sync n).1,(tm,(s.sync n).2)) else (0,({ tm with sld:=addS tm.sld n },(s.sync n).2))
theorem findK_sl:∀ (sl:List (Txt × Nat)) (n:Txt) (i:Nat),(n ∉ sl.map (·.1) ∧ findK (.str n) (sl.map entS) i = some none) ∨ ∃ a p b,sl = a ++ p :: b ∧ p.1 = n ∧ n ∈ sl.map (·.1) ∧ findK (.str n) (sl.map entS) i = some (some (i + a.length,.bool true)):=by
  intro sl n
  induction sl with
  | nil=>intro i; exact .inl ⟨by simp,rfl⟩
  | cons p sl ih =>
    intro i
    have hks:keySame (.str n) (entS p).1 = some (n == p.1):=rfl
    by_cases he:n = p.1
    · refine .inr ⟨[],p,sl,rfl,he.symm,by simp [he],?_⟩
      rw [List.map_cons,findK,hks,show (n == p.1) = true by simpa using he]
      rfl
    · have hstep : findK (.str n) ((p :: sl).map entS) i = findK (.str n) (sl.map entS) (i + 1) := by
        rw [List.map_cons,findK,hks,show (n == p.1) = false by simpa using he]
      rw [hstep]
      rcases ih (i + 1) with ⟨h1,h2⟩ | ⟨a,q,b,h1,h2,h3,h4⟩
      · exact .inl ⟨by simp [he] at h1 ⊢; exact h1,h2⟩
      · refine .inr ⟨p :: a,q,b,by rw [h1]; rfl,h2,by rw [List.map_cons]; exact List.mem_cons_of_mem _ h3,?_⟩
        rw [h4]
        simp only [List.length_cons]
        congr 3
        omega
theorem set_self {α:Type} (a:List α) (d:α) (b:List α):(a ++ d :: b).set a.length d = a ++ d :: b:=by
  induction a with
  | nil=>rfl
  | cons x a ih=>simp only [List.cons_append,List.length_cons,List.set_cons_succ,ih]
theorem seal_set {H : Hp} {ms clk : Nat} {sl : List (Txt × Nat)} (h : H[ms]? = some (.map (sl.map entS) clk)) (n : Txt) :
    ∃ (sl':List (Txt × Nat)) (clk':Nat),amapSet .string (.map ms) (.str n) (.bool true) H = some (.tuple [],H.set ms (.map (sl'.map entS) clk')) ∧ sl'.map (·.1) = addS (sl.map (·.1)) n:=by
  have hkk:keyOk .string (.str n) = true:=rfl
  unfold amapSet
  dsimp only
  rw [h]
  dsimp only
  rw [if_pos hkk]
  rcases findK_sl sl n 0 with ⟨h1,h2⟩ | ⟨a,p,b,h1,h2,h3,h4⟩
  · refine ⟨sl ++ [(n,clk)],clk + 1,?_,?_⟩
    · rw [h2]; simp [entS]
    · unfold addS; rw [if_neg h1]; simp
  · refine ⟨sl,clk,?_,?_⟩
    · rw [h4]
      dsimp only
      have e1:(sl.map entS).getD (0 + a.length) (.undef,.undef,0) = entS p:=by rw [h1,List.getD_eq_getElem?_getD,List.map_append,List.map_cons,List.getElem?_append_right (by simp)]; simp
      have e2:(sl.map entS).set (0 + a.length) (.str n,.bool true,(entS p).2.2) = sl.map entS:=by
        have:((.str n,.bool true,(entS p).2.2):AV × AV × Nat) = entS p:=by rw [← h2]; rfl
        rw [this,h1,Nat.zero_add,List.map_append,List.map_cons,show a.length = (a.map entS).length by simp,set_self]
      rw [e1,e2]
    · unfold addS; rw [if_pos h3]
theorem Seal_run {H : Hp} {o t : Nat} {tm : Tmp} {s : Sto} {A : List Nat} (h : SysAt H o t tm s A) (hm : TmpOk tm) (hk : StoOk s) (n : Txt) :
    ∃ H' A',C_tempfile_Temps_Seal [.ptr o 0,.str n] H = some (.int .i64 (tmSeal tm s n).1,H') ∧ SysRes H H' o t (tmSeal tm s n).2.1 (tmSeal tm s n).2.2 A A':=by
  have hsys:=h
  obtain ⟨B,S,h1,h2,h3,rfl⟩:=h
  have hB:=h1
  obtain ⟨ms,clk,nx,sl,h1,rfl⟩:=h1
  have hf:=find_run h1 hm n
  have l0:=ldn h1.cells 0 (v:=.ptr t 0) rfl
  obtain ⟨H1,S1,p1,p2⟩:=Sync_run h2 hk.count n
  rw [F_tempfile_Temps_Seal_eq]
  unfold F_tempfile_Temps_Seal tmSeal
  by_cases hf0:tmFind tm n = 0
  · have e0:(tmFind tm n != 0) = false:=by rw [hf0]; rfl
    rw [if_neg (by simp [hf0])]
    by_cases hs0:(s.sync n).1 = 0
    · have e1:((s.sync n).1 != 0) = false:=by rw [hs0]; rfl
      rw [if_neg (by simp [hs0])]
      have hT:=h1.frame (H':=H1) fun a ha=>p2.stp.at' a (h1.lt a ha) (h3 a ha)
      have k3:=ldn hT.cells 3 (v:=.map ms) rfl
      obtain ⟨sl',clk',q1,q2⟩:=seal_set hT.map n
      have hnd:=h1.nd
      rw [List.nodup_cons,List.nodup_cons] at hnd
      obtain ⟨d1,d2,d3⟩:=hnd
      have hom:o ≠ ms:=fun e=>d1 (by rw [e]; simp)
      have hmt:∀ a ∈ tokA nx,a ≠ ms:=fun a ha e=>d2 (by rw [← e]; exact ha)
      have hS2:Stp (o :: ms :: tokA nx) H1 (H1.set ms (.map (sl'.map entS) clk')):=Stp.set _ _ (by simp)
      refine ⟨H1.set ms (.map (sl'.map entS) clk'),(o :: ms :: tokA nx) ++ S1,?_,⟨⟨o :: ms :: tokA nx,S1,⟨ms,clk',nx,sl',⟨?_,?_,?_,?_,h1.nd⟩,rfl⟩,?_,?_,rfl⟩,?_,?_⟩⟩
      · simp only [hf,go_sem,e0,Nat.zero_add,tempfile_Temps_Seal_J1_eq,l0,p1,e1,tempfile_Temps_Seal_J2_eq,k3,q1]
      · rw [List.getElem?_set_ne hom.symm]; exact hT.cells
      · exact hT.names.frame fun a ha=>List.getElem?_set_ne (fun e=>hmt a ha e.symm)
      · exact get_set_eq _ hT.map
      · rw [q2,h1.sld]
      · refine p2.at'.stp hS2 fun a ha hb=>?_
        rcases p2.own a ha with k | k
        · exact h3 a hb k
        · have:=h1.lt a hb; omega
      · intro a ha hs
        rcases p2.own a hs with j | j
        · exact h3 a ha j
        · have:=h1.lt a ha; omega
      · refine (p2.stp.mono (B:=(o :: ms :: tokA nx) ++ S) fun a ha=>by simp [ha]).trans hS2 (fun _ h=>h) fun a ha=>.inl (List.mem_append_left _ ha)
      · intro a ha
        rcases List.mem_append.1 ha with ha | ha
        · exact .inl (List.mem_append_left _ ha)
        · rcases p2.own a ha with k | k
          · exact .inl (by simp [k])
          · exact .inr k
    · have e1:((s.sync n).1 != 0) = true:=by simpa using hs0
      rw [if_pos hs0]
      exact ⟨H1,_,by simp only [hf,go_sem,e0,Nat.zero_add,tempfile_Temps_Seal_J1_eq,l0,p1,e1],SysAt.store hB h3 p2⟩
  · have e0:(tmFind tm n != 0) = true:=by simpa using hf0
    rw [if_pos hf0]
    exact ⟨H,_,by simp only [hf,go_sem,e0],hsys.self⟩
end Go.Am
namespace Go.Am
set_option linter.unusedSimpArgs false
set_option linter.unusedVariables false
set_option linter.unusedSectionVars false
set_option maxRecDepth 100000

def usedN (nm:List Txt):List Fil → Nat
  | []=>0
  | f :: r=>(if f.name ∈ nm then f.text.length else 0) + usedN nm r
theorem usedN_le (nm:List Txt) (l:List Fil):usedN nm l ≤ usedL l:=by
  induction l with
  | nil=>exact Nat.le_refl _
  | cons f l ih=>simp only [usedN,usedL]; split <;> omega
theorem usedN_app (nm:List Txt) (a b:List Fil):usedN nm (a ++ b) = usedN nm a + usedN nm b:=by
  induction a with
  | nil=>simp [usedN]
  | cons f a ih=>simp only [List.cons_append,usedN,ih]; omega
theorem usedN_perm (nm:List Txt) {a b:List Fil} (h:a.Perm b):usedN nm a = usedN nm b:=by
  induction h with
  | nil=>rfl
  | cons x _ ih=>simp only [usedN,ih]
  | swap x y l=>simp only [usedN]; omega
  | trans _ _ ih1 ih2=>rw [ih1,ih2]
theorem getF_self {l:List Fil} (h:(l.map Fil.name).Nodup):(l.map Fil.name).filterMap (getF l) = l:=by
  have key:∀ (r l:List Fil),(l.map Fil.name).Nodup → (∀ f ∈ r,f ∈ l) → (r.map Fil.name).filterMap (getF l) = r:=by
    intro r l hl
    have hg:∀ f ∈ l,getF l f.name = some f:=by
      clear r
      induction l with
      | nil=>intro f hf; cases hf
      | cons g l ih =>
        intro f hf
        rw [List.map_cons,List.nodup_cons] at hl
        unfold getF
        rcases List.mem_cons.1 hf with e | hf
        · rw [e,if_pos rfl]
        · have hne:¬ f.name = g.name:=fun e=>hl.1 (by rw [← e]; exact List.mem_map.2 ⟨f,hf,rfl⟩)
          rw [if_neg hne]
          exact ih hl.2 f hf
    induction r with
    | nil=>intro _; rfl
    | cons f r ih =>
      intro h
      rw [List.map_cons,List.filterMap_cons,hg f (h f (by simp)),ih fun g hg=>h g (by simp [hg])]
  exact key l l h fun _ h=>h
theorem listF_perm {l:List Fil} (h:(l.map Fil.name).Nodup):(listF l).Perm l:=by
  unfold listF
  have:=(sortK_perm (l.map Fil.name)).filterMap (getF l)
  rwa [getF_self h] at this
def tmUsed (tm:Tmp) (s:Sto):Nat:=usedN tm.names s.files
theorem load_fil (x:Fil) (H:Hp):aload true 3 (.vp (filAV x).cells) H = some (filAV x):=rfl
theorem bytes_loop {H0 : Hp} {o t ms clk : Nat} {nx : AV} {sl : List (Txt × Nat)} {tm : Tmp} (h : TmAt H0 o t ms clk nx sl tm) (hm : TmpOk tm) {x : AV} {fs : List Fil} (hx : Sl 3 x (fs.map filAV)) (hl : fs.length ≤ 64) (hu : usedL fs ≤ 262144) (HB : Hp) : ∀ (r d : List Fil) (H : Hp), fs = d ++ r → Keep H0.length H0 H → H0.length ≤ H.length →
    ∃ H',tempfile_owned_bytes_L1 (.ptr o 0) (.int .i64 (usedN tm.names d:Int)) x (.int .i64 (fs.length:Int)) (.int .i64 (d.length:Int)) HB H = some (.int .i64 (usedN tm.names fs:Int),H') ∧ Keep H0.length H0 H' ∧ H0.length ≤ H'.length:=by
  have hkl:=hm.len
  have hkt:=hm.last
  intro r
  induction r with
  | nil =>
    intro d H hd hK hlen
    rw [List.append_nil] at hd
    subst hd
    have hlt:decide ((fs.length:Int) < (fs.length:Int)) = false:=by simp
    rw [tempfile_owned_bytes_L1_eq]
    simp only [go_sem,hlt,tempfile_owned_bytes_J1_eq]
    exact ⟨_,rfl,hK,hlen⟩
  | cons f r ih =>
    intro d H hd hK hlen
    have hlen2:fs.length = d.length + (r.length + 1):=by rw [hd]; simp
    have hlt:decide ((d.length:Int) < (fs.length:Int)) = true:=by simp; omega
    have hw1:IntKind.i64.wrap ((d.length:Int) + 1) = ((d.length + 1:Nat):Int):=by rw [wrap64 (by omega) (by omega)]; omega
    have hif:fs[d.length]? = some f:=by rw [hd,List.getElem?_append_right (Nat.le_refl _)]; simp
    have hidx:aindexS 3 x (.int .i64 (d.length:Int)) = some (.vp (filAV f).cells):=Sl.idx hx (c:=filAV f) (by simp [hif])
    have hat:TmAt H o t ms clk nx sl tm:=h.frame fun a ha=>hK a (h.lt a ha)
    have holt:=lt_of_get hat.cells
    have hb1:(H ++ [AObj.cells [.str [],.int .i64 0,.int .i64 0]])[H.length]? = some (.cells [.str [],.int .i64 0,.int .i64 0]):=by simp
    have hst:astoreU 3 (.ptr H.length 0) (filAV f) (H ++ [AObj.cells [.str [],.int .i64 0,.int .i64 0]]) = some (.tuple [],H ++ [AObj.cells (filAV f).cells]):=by
      rw [astore_of (v:=filAV f) (sz:=3) hb1 rfl rfl (by simp)]
      simp [splice,filAV,AV.cells]
    have g1:(H ++ [AObj.cells (filAV f).cells])[H.length]? = some (.cells (filAV f).cells):=by simp
    have hat2:TmAt (H ++ [AObj.cells (filAV f).cells]) o t ms clk nx sl tm:=hat.frame fun a ha=>List.getElem?_append_left (hat.lt a ha)
    have l2:=ldn hat2.cells 2 (v:=nx) rfl
    have m0:=ldn g1 0 (v:=.str f.name) rfl
    have m1:=ldn g1 1 (v:=.int .i64 (f.text.length:Int)) rfl
    have hcon:=contains_flat hat2.names.ss (by omega) f.name (H ++ [AObj.cells (filAV f).cells])
    have hK2:Keep H0.length H0 (H ++ [AObj.cells (filAV f).cells]):=hK.trans (Keep.push H hlen _)
    have hsum:usedN tm.names (d ++ [f]) = usedN tm.names d + (if f.name ∈ tm.names then f.text.length else 0):=by rw [usedN_app]; simp [usedN]
    have hle:=usedN_le tm.names (d ++ [f])
    have hul:usedL (d ++ [f]) ≤ usedL fs:=by
      rw [hd,usedL_app,usedL_app]
      simp only [usedL]; omega
    obtain ⟨H',p1,p2,p3⟩:=ih (d ++ [f]) (H ++ [AObj.cells (filAV f).cells]) (by rw [hd]; simp) hK2 (by simp; omega)
    rw [List.length_append,List.length_singleton] at p1
    refine ⟨H',?_,p2,p3⟩
    rw [tempfile_owned_bytes_L1_eq]
    simp only [go_sem,hlt,tempfile_owned_bytes_J2_eq,hidx,load_fil,hst,Nat.zero_add,l2,m0,hcon]
    by_cases hn:f.name ∈ tm.names
    · rw [if_pos hn] at hsum
      have hwa:IntKind.i64.wrap ((usedN tm.names d:Int) + (f.text.length:Int)) = (usedN tm.names (d ++ [f]):Int):=by rw [wrap64 (by omega) (by omega)]; omega
      have c1:(filAV f).cells[1]? = some (.int .i64 (f.text.length:Int)):=rfl
      simp only [decide_eq_true hn,go_sem,Nat.zero_add,m1,c1,hwa,tempfile_owned_bytes_J3_eq,hw1]
      exact p1
    · rw [if_neg hn,Nat.add_zero] at hsum
      rw [hsum] at p1
      simp only [decide_eq_false hn,go_sem,tempfile_owned_bytes_J3_eq,hw1]
      exact p1
theorem bytes_ro {H : Hp} {o t ms clk : Nat} {nx : AV} {sl : List (Txt × Nat)} {tm : Tmp} {s : Sto} {S : List Nat} (h : TmAt H o t ms clk nx sl tm) (hS : StoreAt H t s S) (hm : TmpOk tm) (hk : StoOk s) :
    roC C_tempfile_owned_bytes [.ptr o 0] H = some (.int .i64 (tmUsed tm s:Int),H):=by
  obtain ⟨x,q1,q2⟩:=List_ro hS hk
  have l0:=ldn h.cells 0 (v:=.ptr t 0) rfl
  have hp:=listF_perm hk.nd
  have hlen:(listF s.files).length ≤ 64:=by rw [hp.length_eq]; exact hk.len
  have hul:usedL (listF s.files) ≤ 262144:=by
    have h1:∀ {a b:List Fil},a.Perm b → usedL a = usedL b:=fun {a b} h=>by
      induction h with
      | nil=>rfl
      | cons x _ ih=>simp only [usedL,ih]
      | swap x y l=>simp only [usedL]; omega
      | trans _ _ ih1 ih2=>rw [ih1,ih2]
    rw [h1 hp]
    have:=hk.used
    have:=hk.limit
    omega
  have hal:alenD (.slice 142) x = some (.int .i64 ((listF s.files).length:Int)):=by
    have:=Sl.len q2 142
    rwa [List.length_map] at this
  obtain ⟨H',p1,p2,p3⟩:=bytes_loop h hm q2 hlen hul H _ [] H rfl (Keep.refl _ _) (Nat.le_refl _)
  have hrun:C_tempfile_owned_bytes [.ptr o 0] H = some (.int .i64 (usedN tm.names (listF s.files):Int),H'):=by
    rw [F_tempfile_owned_bytes_eq]
    unfold F_tempfile_owned_bytes
    simp only [go_sem,Nat.zero_add,l0,q1,hal]
    exact p1
  have:=roC_of hrun p2 p3 (v':=.int .i64 (usedN tm.names (listF s.files):Int)) rfl
  rwa [usedN_perm tm.names hp] at this
def tmWrite (tm:Tmp) (s:Sto) (n:Txt) (l:List Txt):Int × Sto :=
  if tmFind tm n ≠ 0 then (tmFind tm n,s) else if n ∈ tm.sld then (8,s) else if fitsR l = false then (3,s) else
    if (tm.limit:Int) - (tmUsed tm s:Int) < (costR l:Int) then (11,s) else s.append n (encS l)
theorem sealed_look {H:Hp} {ms clk:Nat} {sl:List (Txt × Nat)} (h:H[ms]? = some (.map (sl.map entS) clk)) (n:Txt):alookup .string (.bool false) false (.map ms) (.str n) H = some (.bool (decide (n ∈ sl.map (·.1)))):=by
  have he:entries (.map ms) H = some (sl.map entS):=by unfold entries; dsimp only; rw [h]
  have hkk:keyOk .string (.str n) = true:=rfl
  unfold alookup
  rw [if_pos hkk,he]
  dsimp only
  rcases findK_sl sl n 0 with ⟨h1,h2⟩ | ⟨a,p,b,h1,h2,h3,h4⟩
  · rw [h2,decide_eq_false h1]; rfl
  · rw [h4,decide_eq_true h3]; rfl
theorem Write_run {H : Hp} {o t : Nat} {tm : Tmp} {s : Sto} {A : List Nat} (h : SysAt H o t tm s A) (hm : TmpOk tm) (hk : StoOk s) (n : Txt) {x : AV} {l : List Txt} (hx : SS x l) (hL : ∀ s ∈ l, s.length ≤ 1048576) (hl : costR l ≤ 1048576) :
    ∃ H' A',C_tempfile_Temps_Write [.ptr o 0,.str n,x] H = some (.int .i64 (tmWrite tm s n l).1,H') ∧ SysRes H H' o t tm (tmWrite tm s n l).2 A A':=by
  have hsys:=h
  obtain ⟨B,S,h1,h2,h3,rfl⟩:=h
  have hB:=h1
  obtain ⟨ms,clk,nx,sl,h1,rfl⟩:=h1
  have hf:=find_run h1 hm n
  have l0:=ldn h1.cells 0 (v:=.ptr t 0) rfl
  have l3:=ldn h1.cells 3 (v:=.map ms) rfl
  have l4:=ldn h1.cells 4 (v:=.int .i64 (tm.limit:Int)) rfl
  have hsl:=sealed_look h1.map n
  rw [h1.sld] at hsl
  have henc:=enc_flat hx hL (by omega) H
  have hby:=bytes_ro h1 h2 hm hk
  have hul:tmUsed tm s ≤ 262144:=by
    have:=usedN_le tm.names s.files
    have:=hk.used
    have:=hk.limit
    unfold tmUsed; omega
  have hlim:=hm.limit
  have hw:IntKind.i64.wrap ((tm.limit:Int) - (tmUsed tm s:Int)) = (tm.limit:Int) - (tmUsed tm s:Int):=wrap64 (by omega) (by omega)
  rw [F_tempfile_Temps_Write_eq]
  unfold F_tempfile_Temps_Write tmWrite
  by_cases hf0:tmFind tm n = 0
  · have e0:(tmFind tm n != 0) = false:=by rw [hf0]; rfl
    rw [if_neg (by simp [hf0])]
    by_cases hsd:n ∈ tm.sld
    · rw [if_pos hsd]
      rw [decide_eq_true hsd] at hsl
      exact ⟨H,_,by simp only [hf,go_sem,e0,Nat.zero_add,tempfile_Temps_Write_J1_eq,l3,hsl],hsys.self⟩
    · rw [if_neg hsd]
      rw [decide_eq_false hsd] at hsl
      cases hft:fitsR l with
      | false =>
        have e3:((3:Int) != 0) = true:=rfl
        rw [hft,if_neg (by simp)] at henc
        rw [if_pos rfl]
        exact ⟨H,_,by simp only [hf,go_sem,e0,Nat.zero_add,tempfile_Temps_Write_J1_eq,l3,hsl,tempfile_Temps_Write_J2_eq,henc,List.getElem?_cons_zero,List.getElem?_cons_succ,e3],hsys.self⟩
      | true =>
        have ez:((0:Int) != 0) = false:=rfl
        rw [hft,if_pos rfl] at henc
        rw [if_neg (by simp)]
        by_cases hb:(tm.limit:Int) - (tmUsed tm s:Int) < (costR l:Int)
        · rw [if_pos hb]
          have e4:decide ((tm.limit:Int) - (tmUsed tm s:Int) < ((encS l).length:Int)) = true:=by rw [encS_len]; exact decide_eq_true hb
          exact ⟨H,_,by simp only [hf,go_sem,e0,Nat.zero_add,tempfile_Temps_Write_J1_eq,l3,hsl,tempfile_Temps_Write_J2_eq,henc,List.getElem?_cons_zero,List.getElem?_cons_succ,ez,tempfile_Temps_Write_J3_eq,l4,hby,hw,e4],hsys.self⟩
        · rw [if_neg hb]
          have e4:decide ((tm.limit:Int) - (tmUsed tm s:Int) < ((encS l).length:Int)) = false:=by rw [encS_len]; exact decide_eq_false hb
          obtain ⟨H1,S1,p1,p2⟩:=Append_run h2 hk n (encS l) (by rw [encS_len]; omega)
          exact ⟨H1,_,by simp only [hf,go_sem,e0,Nat.zero_add,tempfile_Temps_Write_J1_eq,l3,hsl,tempfile_Temps_Write_J2_eq,henc,List.getElem?_cons_zero,List.getElem?_cons_succ,ez,tempfile_Temps_Write_J3_eq,l4,hby,hw,e4,tempfile_Temps_Write_J4_eq,l0,p1],SysAt.store hB h3 p2⟩
  · have e0:(tmFind tm n != 0) = true:=by simpa using hf0
    rw [if_pos hf0]
    exact ⟨H,_,by simp only [hf,go_sem,e0],hsys.self⟩
end Go.Am
