/-
  The functions of the law: Small, groups, nested.
-/
import Derived.Test.YtpahcdhligjdiaaRcAmx
import Derived.Test.YtpahcdhligjdiaaRcGLx
namespace Go.Am
set_option linter.unusedSimpArgs false
set_option linter.unusedVariables false
set_option maxRecDepth 100000

mutual
def cntS:Rt→Nat→Nat→Nat
 | .mk h args,n,lev=>if lev=0 ∨ 6 < args.length ∨ 4 < h.lo ∨ 4 < h.hi then n+1 else cntSL args n lev 1
def cntSL:List Rt→Nat→Nat→Nat→Nat
 | [],_,_,t=>t
 | e :: l,n,lev,t=>if t≤n then cntSL l n lev (t+cntS e (n - t) (lev - 1)) else t
end
theorem cntS_eq (h:Hd) (args:List Rt) (n lev:Nat):cntS (.mk h args) n lev=if lev=0 ∨ 6 < args.length ∨ 4 < h.lo ∨ 4 < h.hi then n+1 else cntSL args n lev 1:=by rw [cntS]
theorem cntSL_nil (n lev t:Nat):cntSL [] n lev t=t:=by rw [cntSL]
theorem cntSL_cons (e:Rt) (l:List Rt) (n lev t:Nat):cntSL (e :: l) n lev t=if t≤n then cntSL l n lev (t+cntS e (n - t) (lev - 1)) else t:=by rw [cntSL]
theorem cntS_le (e:Rt):∀ n lev,cntS e n lev≤n+1:=by
 induction e using Rt.ind with
 | h hd args ih =>
  have key:∀ l:List Rt,(∀ e ∈ l,∀ n lev,cntS e n lev≤n+1)→∀ n lev t,t≤n+1→cntSL l n lev t≤n+1:=by
   intro l
   induction l with
   | nil=>intro _ n lev t ht;rw [cntSL_nil];exact ht
   | cons e l ihl =>
    intro h n lev t ht
    rw [cntSL_cons]
    split
    ·refine ihl (fun x hx=>h x (by simp [hx])) n lev _ ?_
     have:=h e (by simp) (n - t) (lev - 1)
     omega
    ·exact ht
  intro n lev
  rw [cntS_eq]
  split
  ·exact Nat.le_refl _
  ·exact key args ih n lev 1 (by omega)
theorem cntS_small (e:Rt):∀ n lev,cntS e n lev≤n→siz e≤n∧cntS e n lev=siz e∧dep e≤lev:=by
 induction e using Rt.ind with
 | h hd args ih =>
  have key:∀ l:List Rt,(∀ e ∈ l,∀ n lev,cntS e n lev≤n→siz e≤n∧cntS e n lev=siz e∧dep e≤lev)→∀ n lev t,cntSL l n lev t≤n→t+sizL l≤n∧cntSL l n lev t=t+sizL l∧depL l≤lev - 1:=by
   intro l
   induction l with
   | nil=>intro _ n lev t ht;rw [cntSL_nil] at ht ⊢;simp [sizL,depL];exact ht
   | cons e l ihl =>
    intro h n lev t ht
    rw [cntSL_cons] at ht ⊢
    by_cases hc:t≤n
    ·rw [if_pos hc] at ht ⊢
     obtain ⟨a1,a2,a3⟩:=ihl (fun x hx=>h x (by simp [hx])) n lev _ ht
     obtain ⟨b1,b2,b3⟩:=h e (by simp) (n - t) (lev - 1) (by omega)
     rw [b2] at a1 a2
     rw [sizL_cons]
     refine ⟨by omega,by rw [b2,a2];omega,?_⟩
     simp only [depL]
     omega
    ·rw [if_neg hc] at ht
     omega
  intro n lev h
  rw [cntS_eq] at h ⊢
  by_cases hc:lev=0 ∨ 6 < args.length ∨ 4 < hd.lo ∨ 4 < hd.hi
  ·rw [if_pos hc] at h;omega
  ·rw [if_neg hc] at h ⊢
   obtain ⟨a1,a2,a3⟩:=key args ih n lev 1 h
   simp only [siz,dep]
   omega
theorem smallC_loop {A : List Rt} {hd : Hd} {x : AV} {l : List AV} (hx : SlC 9 x l) (hl : RtL A l) (ih : ∀ e ∈ A, ∀ (a : AV), RtC e a → ∀ n lev : Nat, n ≤ 1000 → lev ≤ 100 → ∀ H : Hp, roC C_L09_count [a, .int .i64 (n : Int), .int .i64 (lev : Int)] H = some (.int .i64 (cntS e n lev : Int), H))
    (hb:A.length≤6) (H0 Hc:Hp) {o n lev:Nat} (ho:Hc[o]?=some (.cells (reC hd x))) (hn:n≤1000) (hlev:lev≤100) (hl1:1≤lev) :
    ∀ (k i t:Nat),A.length - i=k→i≤A.length→t≤n+1 →
    L09_count_L1 (.int .i64 (n:Int)) (.int .i64 (lev:Int)) (.ptr o 0) (.int .i64 (t:Int)) (.int .i64 (i:Int)) H0 Hc=some (.int .i64 (cntSL (A.drop i) n lev t:Int),Hc):=by
 intro k
 induction k with
 | zero =>
  intro i t hk hi ht
  have hlt:decide ((i:Int) < (A.length:Int))=false:=decide_eq_false (by omega)
  have hdr:A.drop i=[]:=List.drop_eq_nil_iff.2 (by omega)
  rw [L09_count_L1_eq,hdr,cntSL_nil]
  simp only [go_sem,ld_args ho,hx.len,hl.1,hlt,L09_count_J2_eq]
 | succ k ihk =>
  intro i t hk hi ht
  have hL:i < A.length:=by omega
  have hlt:decide ((i:Int) < (A.length:Int))=true:=decide_eq_true (by omega)
  have hdr:=List.drop_eq_getElem_cons hL
  rw [L09_count_L1_eq,hdr,cntSL_cons]
  by_cases hc:t≤n
  ·have b1:decide ((t:Int)≤(n:Int))=true:=decide_eq_true (by omega)
   obtain ⟨a,hla,hra⟩:=hl.get (List.getElem?_eq_getElem hL)
   have hr:=ih _ (List.getElem_mem hL) _ hra (n - t) (lev - 1) (by omega) (by omega) Hc
   have hle:=cntS_le A[i] (n - t) (lev - 1)
   obtain ⟨xa,la,rfl,_,_⟩:=hra.out
   have w1:IntKind.i64.wrap ((n:Int) - (t:Int))=((n - t:Nat):Int):=by rw [wrap64 (by omega) (by omega)];omega
   have w2:IntKind.i64.wrap ((lev:Int) - 1)=((lev - 1:Nat):Int):=by rw [wrap64 (by omega) (by omega)];omega
   have w3:IntKind.i64.wrap ((t:Int)+(cntS A[i] (n - t) (lev - 1):Int))=((t+cntS A[i] (n - t) (lev - 1):Nat):Int):=by rw [wrap64 (by omega) (by omega)];omega
   rw [if_pos hc]
   simp only [go_sem,ld_args ho,hx.len,hl.1,hlt,b1,L09_count_J3_eq,hx.idx hla,re_cells,aload_vp_re,w1,w2,hr,w3,L09_count_J4_eq,wsucc (n:=i) (by omega)]
   exact ihk (i+1) _ (by omega) (by omega) (by omega)
  ·have b1:decide ((t:Int)≤(n:Int))=false:=decide_eq_false (by omega)
   rw [if_neg hc]
   simp only [go_sem,ld_args ho,hx.len,hl.1,hlt,b1,L09_count_J2_eq]
theorem smallC_run (e:Rt):∀ (a:AV),RtC e a→∀ n lev:Nat,n≤1000→lev≤100→∀ H:Hp,roC C_L09_count [a,.int .i64 (n:Int),.int .i64 (lev:Int)] H=some (.int .i64 (cntS e n lev:Int),H):=by
 induction e using Rt.ind with
 | h hd args ih =>
  intro a ha n lev hn hlev H
  obtain ⟨x,l,rfl,hx,hl⟩:=ha.out
  have hl:RtL args l:=hl
  have g:=get_push_len H (AObj.cells (reC hd x)) []
  refine ro_of (H':=H++[AObj.cells (reC hd x)]) (v:=.int .i64 (cntS (.mk hd args) n lev:Int)) ?_ (by simp) (close_int _ _ _ _ _)
  rw [F_L09_count_eq,cntS_eq]
  unfold F_L09_count
  have w1:IntKind.i64.wrap ((n:Int)+1)=((n+1:Nat):Int):=wsucc (by omega)
  by_cases c1:lev=0
  ·have b1:((lev:Int) == 0)=true:=by simp [c1]
   rw [if_pos (.inl c1)]
   simp only [box_re,go_sem,b1,w1,Rt.hd]
  have b1:((lev:Int) == 0)=false:=by simp [c1]
  by_cases c2:6 < args.length
  ·have b2:decide ((6:Int) < (args.length:Int))=true:=decide_eq_true (by omega)
   rw [if_pos (.inr (.inl c2))]
   simp only [box_re,go_sem,b1,w1,Rt.hd,ld_args g,hx.len,hl.1,b2]
  have b2:decide ((6:Int) < (args.length:Int))=false:=decide_eq_false (by omega)
  by_cases c3:4 < hd.lo
  ·have b3:decide ((4:Int) < hd.lo)=true:=decide_eq_true c3
   rw [if_pos (.inr (.inr (.inl c3)))]
   simp only [box_re,go_sem,b1,w1,Rt.hd,ld_args g,hx.len,hl.1,b2,ld_lo g,b3]
  have b3:decide ((4:Int) < hd.lo)=false:=decide_eq_false c3
  by_cases c4:4 < hd.hi
  ·have b4:decide ((4:Int) < hd.hi)=true:=decide_eq_true c4
   rw [if_pos (.inr (.inr (.inr c4)))]
   simp only [box_re,go_sem,b1,w1,Rt.hd,ld_args g,hx.len,hl.1,b2,ld_lo g,b3,ld_hi g,b4]
  have b4:decide ((4:Int) < hd.hi)=false:=decide_eq_false c4
  rw [if_neg (by rintro (h | h | h | h) <;> contradiction)]
  have key:=smallC_loop hx hl ih (by omega) H (H++[AObj.cells (reC hd x)]) (n:=n) (lev:=lev) g hn hlev (by omega) args.length 0 1 rfl (by omega) (by omega)
  have i0:(((0:Nat):Int))=0:=rfl
  have i1:(((1:Nat):Int))=1:=rfl
  rw [i0,i1,List.drop_zero] at key
  simp only [box_re,go_sem,b1,w1,Rt.hd,ld_args g,hx.len,hl.1,b2,ld_lo g,b3,ld_hi g,b4,L09_count_J1_eq,key]
theorem small_run {e:Rt} {a:AV} (ha:RtC e a) {n:Nat} (hn:n≤1000) (H:Hp):roC C_L09_Small [a,.int .i64 (n:Int)] H=some (.bool (decide (cntS e n 8≤n)),H):=by
 have ha0:=ha
 obtain ⟨x,l,rfl,hx,hl⟩:=ha.out
 have g:=get_push_len H (AObj.cells (reC e.hd x)) []
 have hr:=smallC_run e _ ha0 n 8 hn (by omega) (H++[AObj.cells (reC e.hd x)])
 refine ro_of (H':=H++[AObj.cells (reC e.hd x)]) (v:=.bool (decide (cntS e n 8≤n))) ?_ (by simp) (close_bool _ _ _ _)
 rw [F_L09_Small_eq]
 unfold F_L09_Small
 have i8:(((8:Nat):Int))=8:=rfl
 rw [i8] at hr
 have hd:decide ((cntS e n 8:Int)≤(n:Int))=decide (cntS e n 8≤n):=decide_eq_decide.2 (by omega)
 simp only [box_re,go_sem,ld_re g,hr,hd]
theorem SpAt.ld {H:Hp} {so:Nat} {sp:Sp} (h:SpAt H so sp) {g:Nat} (hg:g < sp.length):aload true 2 (.ptr so (0+g * 2)) H=some (.agg [.int .i64 (sp.getD g (0,0)).1,.int .i64 (sp.getD g (0,0)).2]):=by
 obtain ⟨p,hp⟩:∃ p,sp[g]?=some p:=⟨_,List.getElem?_eq_getElem hg⟩
 have hgd:sp.getD g (0,0)=p:=by rw [List.getD_eq_getElem?_getD,hp];rfl
 rw [hgd]
 obtain ⟨A,B,rfl,rfl⟩:=mid_of hp
 have hA:=flat_len_of (spE_ok A)
 rw [List.length_map] at hA
 have hl:=flat_len_of (spE_ok (A++p :: B))
 rw [List.length_map,List.length_append,List.length_cons] at hl
 rw [aload_of h]
 unfold apart
 rw [List.map_append,List.map_cons,flat_app,flat_cons,List.drop_left' (by rw [hA];omega)]
 rw [if_pos rfl,if_pos (by rw [List.length_append,List.length_append,hA];have:(spE p).cells.length=2:=rfl;omega)]
 rfl
mutual
def nestM:Rt→Sp→Int × Int→Bool
 | .mk h args,sp,ar =>
  if h.op=6 then
   if (sp.getD h.g.toNat (0,0)).1 < 0 then nestL args sp (1,0)
   else if (sp.getD h.g.toNat (0,0)).1 < ar.1 ∨ ar.2 < (sp.getD h.g.toNat (0,0)).2 ∨ (sp.getD h.g.toNat (0,0)).2 < (sp.getD h.g.toNat (0,0)).1 then false
   else nestL args sp (sp.getD h.g.toNat (0,0))
  else nestL args sp ar
def nestL:List Rt→Sp→Int × Int→Bool
 | [],_,_=>true
 | e :: l,sp,ar=>nestM e sp ar && nestL l sp ar
end
theorem nestM_eq (h : Hd) (args : List Rt) (sp : Sp) (ar : Int × Int) : nestM (.mk h args) sp ar = if h.op = 6 then
      if (sp.getD h.g.toNat (0,0)).1 < 0 then nestL args sp (1,0)
      else if (sp.getD h.g.toNat (0,0)).1 < ar.1 ∨ ar.2 < (sp.getD h.g.toNat (0,0)).2 ∨ (sp.getD h.g.toNat (0,0)).2 < (sp.getD h.g.toNat (0,0)).1 then false
      else nestL args sp (sp.getD h.g.toNat (0,0))
  else nestL args sp ar:=by rw [nestM]
theorem nestL_nil (sp:Sp) (ar:Int × Int):nestL [] sp ar=true:=by rw [nestL]
theorem nestL_cons (e:Rt) (l:List Rt) (sp:Sp) (ar:Int × Int):nestL (e :: l) sp ar=(nestM e sp ar && nestL l sp ar):=by rw [nestL]
theorem st2 {H:Hp} {o:Nat} {a b:AV} (h:H[o]?=some (.cells [a,b])) (c d:Int):astoreU 2 (.ptr o 0) (.agg [.int .i64 c,.int .i64 d]) H=some (.tuple [],H.set o (.cells [.int .i64 c,.int .i64 d])):=by
 rw [astore_of (sz:=2) (v:=.agg [.int .i64 c,.int .i64 d]) h rfl rfl (by simp)]
 simp [splice,AV.cells]
end Go.Am
namespace Go.Am
set_option linter.unusedSimpArgs false
set_option linter.unusedVariables false

def gs (sp:Sp) (q:Nat):Int × Int:=sp.getD q (0,0)
theorem gs_set (sp:Sp) (a q:Nat) (v:Int × Int) (ha:a < sp.length):gs (sp.set a v) q=if q=a then v else gs sp q:=by
 unfold gs
 rw [List.getD_eq_getElem?_getD,List.getD_eq_getElem?_getD,List.getElem?_set]
 by_cases h:a=q
 ·rw [if_pos h,if_pos (by omega),if_pos h.symm];rfl
 ·rw [if_neg h,if_neg (fun e=>h e.symm)]
def Off (sp:Sp) (k n:Nat):Prop:=∀ q,k < q→q≤k+n→gs sp q=(-1,-1)
def SameG (sp sp':Sp) (k n:Nat):Prop:=∀ q,k < q→q≤k+n→gs sp' q=gs sp q
def Out (sp sp':Sp) (k n:Nat):Prop:=sp'.length=sp.length∧∀ q,q≤k ∨ k+n < q→gs sp' q=gs sp q
theorem Out.refl (sp:Sp) (k n:Nat):Out sp sp k n:=⟨rfl,fun _ _=>rfl⟩
theorem Out.trans {sp sp' sp'':Sp} {k n:Nat} (h:Out sp sp' k n) (h':Out sp' sp'' k n):Out sp sp'' k n:=⟨h'.1.trans h.1,fun q hq=>(h'.2 q hq).trans (h.2 q hq)⟩
theorem Out.wide {sp sp':Sp} {k n k' n':Nat} (h:Out sp sp' k n) (h1:k'≤k) (h2:k+n≤k'+n'):Out sp sp' k' n':=⟨h.1,fun q hq=>h.2 q (by omega)⟩
theorem numB_6 {h:Hd} {args:List Rt} {k:Nat} (hn:numB (.mk h args) k=true) (h6:h.op=6):h.g.toNat=k+1∧numL args (k+1)=true:=by
 rw [numB_eq,if_pos h6,Bool.and_eq_true] at hn
 have:h.g=((k+1:Nat):Int):=by simpa using hn.1
 exact ⟨by omega,hn.2⟩
theorem numB_n6 {h:Hd} {args:List Rt} {k:Nat} (hn:numB (.mk h args) k=true) (h6:¬ h.op=6):numL args k=true:=by
 rw [numB_eq,if_neg h6] at hn
 exact hn
theorem numL_c {e:Rt} {l:List Rt} {k:Nat} (hn:numL (e :: l) k=true):numB e k=true∧numL l (k+cntM 6 e)=true:=by
 rw [numL_cons,Bool.and_eq_true] at hn
 exact hn
theorem nest_same (e:Rt):∀ (k:Nat) (sp sp':Sp) (ar:Int × Int),numB e k=true→SameG sp sp' k (cntM 6 e)→nestM e sp' ar=nestM e sp ar:=by
 induction e using Rt.ind with
 | h hd args ih =>
  have key : ∀ (l : List Rt), (∀ e ∈ l, ∀ (k : Nat) (sp sp' : Sp) (ar : Int × Int), numB e k = true → SameG sp sp' k (cntM 6 e) → nestM e sp' ar = nestM e sp ar) →
      ∀ (k:Nat) (sp sp':Sp) (ar:Int × Int),numL l k=true→SameG sp sp' k (cntL 6 l)→nestL l sp' ar=nestL l sp ar:=by
   intro l
   induction l with
   | nil=>intros;rw [nestL_nil,nestL_nil]
   | cons e l ihl =>
    intro h k sp sp' ar hn hs
    obtain ⟨n1,n2⟩:=numL_c hn
    rw [cntL_cons] at hs
    rw [nestL_cons,nestL_cons,h e (by simp) k sp sp' ar n1 (fun q a b=>hs q a (by omega)),ihl (fun x hx=>h x (by simp [hx])) _ sp sp' ar n2 (fun q a b=>hs q (by omega) (by omega))]
  intro k sp sp' ar hn hs
  rw [cnt6] at hs
  rw [nestM_eq,nestM_eq]
  by_cases h6:hd.op=6
  ·obtain ⟨hg,hl⟩:=numB_6 hn h6
   rw [if_pos h6] at hs
   have e1:sp'.getD hd.g.toNat (0,0)=sp.getD hd.g.toNat (0,0):=by rw [hg];exact hs (k+1) (by omega) (by omega)
   have e2:∀ ar,nestL args sp' ar=nestL args sp ar:=fun ar=>key args ih (k+1) sp sp' ar hl (fun q a b=>hs q (by omega) (by omega))
   rw [if_pos h6,if_pos h6,e1,e2,e2]
  ·rw [if_neg h6] at hs
   rw [if_neg h6,if_neg h6]
   exact key args ih k sp sp' ar (numB_n6 hn h6) (fun q a b=>hs q a (by omega))
theorem nest_off (e:Rt):∀ (k:Nat) (sp:Sp) (ar:Int × Int),numB e k=true→Off sp k (cntM 6 e)→nestM e sp ar=true:=by
 induction e using Rt.ind with
 | h hd args ih =>
  have key : ∀ (l : List Rt), (∀ e ∈ l, ∀ (k : Nat) (sp : Sp) (ar : Int × Int), numB e k = true → Off sp k (cntM 6 e) → nestM e sp ar = true) →
      ∀ (k:Nat) (sp:Sp) (ar:Int × Int),numL l k=true→Off sp k (cntL 6 l)→nestL l sp ar=true:=by
   intro l
   induction l with
   | nil=>intros;rw [nestL_nil]
   | cons e l ihl =>
    intro h k sp ar hn hs
    obtain ⟨n1,n2⟩:=numL_c hn
    rw [cntL_cons] at hs
    rw [nestL_cons,h e (by simp) k sp ar n1 (fun q a b=>hs q a (by omega)),ihl (fun x hx=>h x (by simp [hx])) _ sp ar n2 (fun q a b=>hs q (by omega) (by omega))]
    rfl
  intro k sp ar hn hs
  rw [cnt6] at hs
  rw [nestM_eq]
  by_cases h6:hd.op=6
  ·obtain ⟨hg,hl⟩:=numB_6 hn h6
   rw [if_pos h6] at hs
   have e1:sp.getD hd.g.toNat (0,0)=(-1,-1):=by rw [hg];exact hs (k+1) (by omega) (by omega)
   rw [if_pos h6,e1,if_pos (by decide)]
   exact key args ih (k+1) sp _ hl (fun q a b=>hs q (by omega) (by omega))
  ·rw [if_neg h6] at hs
   rw [if_neg h6]
   exact key args ih k sp ar (numB_n6 hn h6) (fun q a b=>hs q a (by omega))
theorem nestL_off {l:List Rt}:∀ {k:Nat} {sp:Sp} {ar:Int × Int},numL l k=true→Off sp k (cntL 6 l)→nestL l sp ar=true:=by
 induction l with
 | nil=>intros;rw [nestL_nil]
 | cons e l ihl =>
  intro k sp ar hn hs
  obtain ⟨n1,n2⟩:=numL_c hn
  rw [cntL_cons] at hs
  rw [nestL_cons,nest_off e k sp ar n1 (fun q a b=>hs q a (by omega)),ihl n2 (fun q a b=>hs q (by omega) (by omega))]
  rfl
theorem nest_mono (e:Rt):∀ (sp:Sp) (ar ar':Int × Int),ar'.1≤ar.1→ar.2≤ar'.2→nestM e sp ar=true→nestM e sp ar'=true:=by
 induction e using Rt.ind with
 | h hd args ih =>
  have key : ∀ (l : List Rt), (∀ e ∈ l, ∀ (sp : Sp) (ar ar' : Int × Int), ar'.1 ≤ ar.1 → ar.2 ≤ ar'.2 → nestM e sp ar = true → nestM e sp ar' = true) →
      ∀ (sp:Sp) (ar ar':Int × Int),ar'.1≤ar.1→ar.2≤ar'.2→nestL l sp ar=true→nestL l sp ar'=true:=by
   intro l
   induction l with
   | nil=>intros;rw [nestL_nil]
   | cons e l ihl =>
    intro h sp ar ar' h1 h2 hn
    rw [nestL_cons,Bool.and_eq_true] at hn
    rw [nestL_cons,h e (by simp) sp ar ar' h1 h2 hn.1,ihl (fun x hx=>h x (by simp [hx])) sp ar ar' h1 h2 hn.2]
    rfl
  intro sp ar ar' h1 h2 hn
  rw [nestM_eq] at hn ⊢
  by_cases h6:hd.op=6
  ·rw [if_pos h6] at hn ⊢
   generalize sp.getD hd.g.toNat (0,0)=s at hn ⊢
   by_cases c1:s.1 < 0
   ·rw [if_pos c1] at hn ⊢
    exact hn
   ·rw [if_neg c1] at hn ⊢
    by_cases c2:s.1 < ar.1 ∨ ar.2 < s.2 ∨ s.2 < s.1
    ·rw [if_pos c2] at hn;cases hn
    ·rw [if_neg c2] at hn
     rw [if_neg (by omega)]
     exact hn
  ·rw [if_neg h6] at hn ⊢
   exact key args ih sp ar ar' h1 h2 hn
theorem clear_facts (e:Rt):∀ (k:Nat) (sp:Sp),numB e k=true→k+cntM 6 e < sp.length→Out sp (clearM e sp) k (cntM 6 e)∧Off (clearM e sp) k (cntM 6 e):=by
 induction e using Rt.ind with
 | h hd args ih =>
  have key : ∀ (l : List Rt), (∀ e ∈ l, ∀ (k : Nat) (sp : Sp), numB e k = true → k + cntM 6 e < sp.length → Out sp (clearM e sp) k (cntM 6 e) ∧ Off (clearM e sp) k (cntM 6 e)) →
      ∀ (k:Nat) (sp:Sp),numL l k=true→k+cntL 6 l < sp.length→Out sp (clearL l sp) k (cntL 6 l)∧Off (clearL l sp) k (cntL 6 l):=by
   intro l
   induction l with
   | nil=>intro _ k sp _ _;rw [clearL_nil,cntL_nil];exact ⟨Out.refl _ _ _,fun q a b=>by omega⟩
   | cons e l ihl =>
    intro h k sp hn hlt
    obtain ⟨n1,n2⟩:=numL_c hn
    rw [cntL_cons] at hlt
    obtain ⟨a1,a2⟩:=h e (by simp) k sp n1 (by omega)
    obtain ⟨b1,b2⟩:=ihl (fun x hx=>h x (by simp [hx])) (k+cntM 6 e) (clearM e sp) n2 (by rw [a1.1];omega)
    rw [clearL_cons,cntL_cons]
    refine ⟨(a1.wide (by omega) (by omega)).trans (b1.wide (by omega) (by omega)),fun q c d=>?_⟩
    by_cases hq:q≤k+cntM 6 e
    ·rw [b1.2 q (.inl hq)];exact a2 q c hq
    ·exact b2 q (by omega) (by omega)
  intro k sp hn hlt
  rw [cnt6] at hlt
  rw [clearM_eq,cnt6]
  by_cases h6:hd.op=6
  ·obtain ⟨hg,hl⟩:=numB_6 hn h6
   rw [if_pos h6] at hlt ⊢
   rw [if_pos h6,hg]
   obtain ⟨b1,b2⟩:=key args ih (k+1) (sp.set (k+1) (-1,-1)) hl (by rw [List.length_set];omega)
   refine ⟨⟨b1.1.trans (List.length_set ..),fun q hq=>?_⟩,fun q c d=>?_⟩
   ·rw [b1.2 q (by omega),gs_set _ _ _ _ (by omega),if_neg (by omega)]
   ·by_cases hq:q=k+1
    ·rw [b1.2 q (by omega),gs_set _ _ _ _ (by omega),if_pos hq]
    ·exact b2 q (by omega) (by omega)
  ·rw [if_neg h6] at hlt ⊢
   rw [if_neg h6,Nat.zero_add]
   exact key args ih k sp (numB_n6 hn h6) (by omega)
section
variable {E:Rt→Nat→Nat→List Bool} {S:Rt→Nat→Nat→Nat→List Bool}
def FN (E:Rt→Nat→Nat→List Bool) (S:Rt→Nat→Nat→Nat→List Bool) (e:Rt):Prop:=∀ (k i j:Nat) (sp:Sp),numB e k=true→k+cntM 6 e < sp.length→Off sp k (cntM 6 e)→i≤j→Out sp (findM E S e i j sp) k (cntM 6 e)∧nestM e (findM E S e i j sp) ((i:Int),(j:Int))=true
theorem fn_head {e : Rt} {l : List Rt} (he : FN E S e) {k i j : Nat} {sp : Sp} (hn : numL (e :: l) k = true) (hlt : k + cntL 6 (e :: l) < sp.length) (ho : Off sp k (cntL 6 (e :: l))) (hij : i ≤ j) :
    Out sp (findM E S e i j sp) k (cntL 6 (e :: l))∧nestL (e :: l) (findM E S e i j sp) ((i:Int),(j:Int))=true:=by
 obtain ⟨n1,n2⟩:=numL_c hn
 rw [cntL_cons] at hlt ho
 obtain ⟨a1,a2⟩:=he k i j sp n1 (by omega) (fun q a b=>ho q a (by omega)) hij
 rw [cntL_cons,nestL_cons,a2]
 refine ⟨a1.wide (by omega) (by omega),?_⟩
 rw [nestL_off n2 (fun q a b=>by rw [a1.2 q (by omega)];exact ho q (by omega) (by omega))]
 rfl
theorem fn_alt:∀ (l:List Rt),(∀ e ∈ l,FN E S e)→∀ (k i j:Nat) (sp:Sp),numL l k=true→k+cntL 6 l < sp.length→Off sp k (cntL 6 l)→i≤j→Out sp (altF E S l i j sp) k (cntL 6 l)∧nestL l (altF E S l i j sp) ((i:Int),(j:Int))=true:=by
 intro l
 induction l with
 | nil=>intro _ k i j sp _ _ _ _;rw [altF,nestL_nil];exact ⟨Out.refl _ _ _,rfl⟩
 | cons e l ihl =>
  intro h k i j sp hn hlt ho hij
  rw [altF]
  split
  ·exact fn_head (h e (by simp)) hn hlt ho hij
  ·obtain ⟨n1,n2⟩:=numL_c hn
   rw [cntL_cons] at hlt ho
   obtain ⟨b1,b2⟩:=ihl (fun x hx=>h x (by simp [hx])) (k+cntM 6 e) i j sp n2 (by omega) (fun q a b=>ho q (by omega) (by omega)) hij
   rw [cntL_cons,nestL_cons,b2,nest_off e k _ _ n1 (fun q a b=>by rw [b1.2 q (by omega)];exact ho q a (by omega))]
   exact ⟨b1.wide (by omega) (by omega),rfl⟩
theorem fn_cat (e0:Rt):∀ (l:List Rt),(∀ e ∈ l,FN E S e)→∀ (t k i0 i j:Nat) (sp:Sp),numL l k=true→k+cntL 6 l < sp.length→Off sp k (cntL 6 l)→i0≤i→i≤j→Out sp (catF E S e0 l t i j sp) k (cntL 6 l)∧nestL l (catF E S e0 l t i j sp) ((i0:Int),(j:Int))=true:=by
 intro l
 induction l with
 | nil=>intro _ t k i0 i j sp _ _ _ _ _;rw [catF,nestL_nil];exact ⟨Out.refl _ _ _,rfl⟩
 | cons e l ihl =>
  intro h t k i0 i j sp hn hlt ho h0 hij
  rw [catF]
  rcases longM_bd (E e i j) i (S e0 t i j) i (j - i+1) with hm | ⟨m,m1,m2,_⟩
  ·rw [hm,if_pos (by decide)]
   exact ⟨Out.refl _ _ _,nestL_off hn ho⟩
  ·rw [m2,if_neg (by omega),Int.toNat_natCast]
   obtain ⟨n1,n2⟩:=numL_c hn
   rw [cntL_cons] at hlt ho
   obtain ⟨a1,a2⟩:=h e (by simp) k i (i+m) sp n1 (by omega) (fun q a b=>ho q a (by omega)) (by omega)
   obtain ⟨b1,b2⟩:=ihl (fun x hx=>h x (by simp [hx])) (t+1) (k+cntM 6 e) i0 (i+m) j (findM E S e i (i+m) sp) n2 (by rw [a1.1];omega) (fun q a b=>by rw [a1.2 q (by omega)];exact ho q (by omega) (by omega)) (by omega) (by omega)
   rw [cntL_cons,nestL_cons,b2]
   refine ⟨(a1.wide (by omega) (by omega)).trans (b1.wide (by omega) (by omega)),?_⟩
   rw [nest_same e k (findM E S e i (i+m) sp) _ _ n1 (fun q a b=>b1.2 q (by omega)),nest_mono e _ ((i:Int),((i+m:Nat):Int)) ((i0:Int),(j:Int)) (by simp only;omega) (by simp only;omega) a2]
   rfl
theorem fn_rep {e x : Rt} {l : List Rt} (hx : FN E S x) {E0 : Nat → Nat → List Bool} {S0 : Nat → List Bool} {lo hi : Int} {fr j k : Nat} (hn : numL (x :: l) k = true) (hcl : ∀ sp : Sp, k + cntL 6 (x :: l) < sp.length → Out sp (clearM e sp) k (cntL 6 (x :: l)) ∧ Off (clearM e sp) k (cntL 6 (x :: l))) :
    ∀ (f c i:Nat) (sp:Sp),k+cntL 6 (x :: l) < sp.length→nestL (x :: l) sp ((fr:Int),(j:Int))=true→fr≤i→i≤j →
    Out sp (repLoop E0 S0 (fun a b sp=>findM E S x a b sp) (clearM e) lo hi fr j f c i sp) k (cntL 6 (x :: l))∧nestL (x :: l) (repLoop E0 S0 (fun a b sp=>findM E S x a b sp) (clearM e) lo hi fr j f c i sp) ((fr:Int),(j:Int))=true:=by
 intro f
 induction f with
 | zero=>intro c i sp _ h _ _;rw [repLoop];exact ⟨Out.refl _ _ _,h⟩
 | succ f ih =>
  intro c i sp hlt h hfi hij
  rw [repLoop]
  split
  ·rcases longM_bd (if lo≤(c:Int) then (E0 i j).set 0 false else E0 i j) i (S0 (if hi < 0 then min c lo.toNat else c)) fr (j - i+1) with hm | ⟨m,m1,m2,_⟩
   ·rw [hm,if_pos (by decide)]
    exact ⟨Out.refl _ _ _,h⟩
   ·rw [m2,if_neg (by omega),Int.toNat_natCast]
    obtain ⟨c1,c2⟩:=hcl sp hlt
    obtain ⟨a1,a2⟩:=fn_head (i:=i) (j:=i+m) hx hn (by rw [c1.1];exact hlt) c2 (by omega)
    obtain ⟨n1,n2⟩:=numL_c hn
    have hb:nestL (x :: l) (findM E S x i (i+m) (clearM e sp)) ((fr:Int),(j:Int))=true:=by
     rw [nestL_cons,Bool.and_eq_true] at a2
     rw [nestL_cons,nest_mono x _ ((i:Int),((i+m:Nat):Int)) ((fr:Int),(j:Int)) (by simp only;omega) (by simp only;omega) a2.1]
     have hx1:=hx k i (i+m) (clearM e sp) n1 (by rw [c1.1];rw [cntL_cons] at hlt;omega) (fun q a b=>c2 q a (by rw [cntL_cons];omega)) (by omega)
     rw [nestL_off n2 (fun q a b=>by rw [hx1.1.2 q (by omega)];exact c2 q (by omega) (by rw [cntL_cons];omega))]
     rfl
    obtain ⟨b1,b2⟩:=ih (c+1) (i+m) (findM E S x i (i+m) (clearM e sp)) (by rw [a1.1,c1.1];exact hlt) hb (by omega) (by omega)
    exact ⟨(c1.trans a1).trans b1,b2⟩
  ·exact ⟨Out.refl _ _ _,h⟩
theorem find_nest (e:Rt):FN E S e:=by
 induction e using Rt.ind with
 | h hd args ih =>
  intro k i j sp hn hlt ho hij
  rw [find_eq,nestM_eq]
  rw [cnt6] at hlt ho ⊢
  by_cases h6:hd.op=6
  ·obtain ⟨hg,hl⟩:=numB_6 hn h6
   rw [if_pos h6] at hlt ho
   rw [if_pos h6,if_pos h6,if_pos h6,hg]
   have key:Out sp (headF E S args i j sp) (k+1) (cntL 6 args)∧nestL args (headF E S args i j sp) ((i:Int),(j:Int))=true:=by
    cases args with
    | nil=>rw [headF,nestL_nil];exact ⟨Out.refl _ _ _,rfl⟩
    | cons x l=>rw [headF];exact fn_head (ih x (by simp)) hl (by omega) (fun q a b=>ho q (by omega) (by omega)) hij
   obtain ⟨a1,a2⟩:=key
   have hlen:k+1 < (headF E S args i j sp).length:=by rw [a1.1];omega
   have hs:=gs_set (headF E S args i j sp) (k+1) (k+1) ((i:Int),(j:Int)) hlen
   rw [if_pos rfl] at hs
   unfold gs at hs
   rw [hs,if_neg (by simp only;omega),if_neg (by simp only;omega)]
   refine ⟨⟨(List.length_set ..).trans a1.1,fun q hq=>?_⟩,?_⟩
   ·rw [gs_set _ _ _ _ hlen,if_neg (by omega),a1.2 q (by omega)]
   ·have hsame : ∀ (l : List Rt) (k' : Nat) (sp sp' : Sp) (ar : Int × Int), numL l k' = true → SameG sp sp' k' (cntL 6 l) → nestL l sp' ar = nestL l sp ar := by
       intro l
       induction l with
       | nil=>intros;rw [nestL_nil,nestL_nil]
       | cons e l ihl =>
        intro k' sp sp' ar hn hs
        obtain ⟨n1,n2⟩:=numL_c hn
        rw [cntL_cons] at hs
        rw [nestL_cons,nestL_cons,nest_same e k' sp sp' ar n1 (fun q a b=>hs q a (by omega)),ihl _ sp sp' ar n2 (fun q a b=>hs q (by omega) (by omega))]
    rw [hsame args (k+1) (headF E S args i j sp) _ _ hl (fun q a b=>by rw [gs_set _ _ _ _ hlen,if_neg (by omega)])]
    exact a2
  ·rw [if_neg h6] at hlt ho
   rw [if_neg h6,if_neg h6,if_neg h6,Nat.zero_add]
   rw [Nat.zero_add] at hlt ho
   have hl:=numB_n6 hn h6
   split
   ·exact fn_alt args ih k i j sp hl hlt ho hij
   split
   ·exact fn_cat _ args ih 0 k i i j sp hl hlt ho (Nat.le_refl _) hij
   split
   ·cases args with
    | nil=>rw [repF,nestL_nil];exact ⟨Out.refl _ _ _,rfl⟩
    | cons x l =>
     rw [repF]
     refine fn_rep (ih x (by simp)) hl (fun sp' hlt'=>?_) _ _ _ _ hlt (nestL_off hl ho) (Nat.le_refl _) hij
     have hc:=clear_facts (.mk hd (x :: l)) k sp' hn (by rw [cnt6,if_neg h6,Nat.zero_add];exact hlt')
     rw [cnt6,if_neg h6,Nat.zero_add] at hc
     exact hc
   ·exact ⟨Out.refl _ _ _,nestL_off hl ho⟩
end
theorem caps_nest {s:List UInt8} {lines:Bool} {e:Rt} {i j:Nat} (hn:numB e 0=true) (hij:i≤j):(capS s lines e i j).length=cntM 6 e+1∧gs (capS s lines e i j) 0=((i:Int),(j:Int))∧nestM e (capS s lines e i j) ((i:Int),(j:Int))=true:=by
 obtain ⟨a1,a2⟩:=find_nest (E:=endsM s lines) (S:=startsM s lines) e 0 i j (List.replicate (cntM 6 e+1) (-1,-1)) hn (by simp) (fun q a b=>by
  unfold gs
  rw [List.getD_eq_getElem?_getD,List.getElem?_replicate,if_pos (by omega)]
  rfl) hij
 have hlen:(findM (endsM s lines) (startsM s lines) e i j (List.replicate (cntM 6 e+1) (-1,-1))).length=cntM 6 e+1:=by rw [a1.1];simp
 unfold capS
 refine ⟨by rw [List.length_set];exact hlen,by rw [gs_set _ _ _ _ (by omega),if_pos rfl],?_⟩
 rw [nest_same e 0 (findM (endsM s lines) (startsM s lines) e i j (List.replicate (cntM 6 e+1) (-1,-1))) _ _ hn (fun q a b=>by rw [gs_set _ _ _ _ (by omega),if_neg (by omega)])]
 exact a2
end Go.Am
namespace Go.Am
set_option linter.unusedSimpArgs false
set_option linter.unusedVariables false
set_option maxRecDepth 100000

theorem sp_cmp (a b c d : Int) : aeqBin Go.Proofs.Try.prog cfg.eqok .eql 30 (.agg [.int .i64 a, .int .i64 b]) (.agg [.int .i64 c, .int .i64 d]) =
    (match (match some (a == c) with
     | some true=>(match some (b == d) with
      | some true=>some true
      | r=>r)
     | r=>r:Option Bool) with
    | some b=>some (.bool b)
    | none=>none):=by kernel_rfl
theorem sp_cmp' (a b c d:Int):aeqBin Go.Proofs.Try.prog cfg.eqok .eql 30 (.agg [.int .i64 a,.int .i64 b]) (.agg [.int .i64 c,.int .i64 d])=some (.bool (a == c && b == d)):=by
 rw [sp_cmp]
 cases a == c <;> cases b == d <;> rfl
def cse (s:List UInt8) (fr to:Int) (lines:Bool):List AV:=[.str s,.int .i64 fr,.int .i64 to,.bool lines]
end Go.Am
