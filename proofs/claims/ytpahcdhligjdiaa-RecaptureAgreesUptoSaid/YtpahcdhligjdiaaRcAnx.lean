/-
  The functions of the law: Small, groups, nested.
-/
import Derived.Test.YtpahcdhligjdiaaRcAmx
import Derived.Test.YtpahcdhligjdiaaRcGLx
namespace Go.Am
set_option linter.unusedSimpArgs false
set_option linter.unusedVariables false
set_option maxRecDepth 100000

mutual
def cntS:Rt→Nat→Nat→Nat
 | .mk h args,n,lev=>if lev=0 ∨ 6 < args.length ∨ 4 < h.lo ∨ 4 < h.hi then n+1 else cntSL args n lev 1
def cntSL:List Rt→Nat→Nat→Nat→Nat
 | [],_,_,t=>t
 | e :: l,n,lev,t=>if t≤n then cntSL l n lev (t+cntS e (n - t) (lev - 1)) else t
end
theorem cntS_eq (h:Hd) (args:List Rt) (n lev:Nat):cntS (.mk h args) n lev=if lev=0 ∨ 6 < args.length ∨ 4 < h.lo ∨ 4 < h.hi then n+1 else cntSL args n lev 1:=by rw [cntS]
theorem cntSL_nil (n lev t:Nat):cntSL [] n lev t=t:=by rw [cntSL]
theorem cntSL_cons (e:Rt) (l:List Rt) (n lev t:Nat):cntSL (e :: l) n lev t=if t≤n then cntSL l n lev (t+cntS e (n - t) (lev - 1)) else t:=by rw [cntSL]
theorem cntS_le (e:Rt):∀ n lev,cntS e n lev≤n+1:=by
 induction e using Rt.ind with
 | h hd args ih =>
  have key:∀ l:List Rt,(∀ e ∈ l,∀ n lev,cntS e n lev≤n+1)→∀ n lev t,t≤n+1→cntSL l n lev t≤n+1:=by
   intro l
   induction l with
   | nil=>intro _ n lev t ht;rw [cntSL_nil];exact ht
   | cons e l ihl =>
    intro h n lev t ht
    rw [cntSL_cons]
    split
    ·refine ihl (fun x hx=>h x (by simp [hx])) n lev _ ?_
     have:=h e (by simp) (n - t) (lev - 1)
     omega
    ·exact ht
  intro n lev
  rw [cntS_eq]
  split
  ·exact Nat.le_refl _
  ·exact key args ih n lev 1 (by omega)
theorem cntS_small (e:Rt):∀ n lev,cntS e n lev≤n→siz e≤n∧cntS e n lev=siz e∧dep e≤lev:=by
 induction e using Rt.ind with
 | h hd args ih =>
  have key:∀ l:List Rt,(∀ e ∈ l,∀ n lev,cntS e n lev≤n→siz e≤n∧cntS e n lev=siz e∧dep e≤lev)→∀ n lev t,cntSL l n lev t≤n→t+sizL l≤n∧cntSL l n lev t=t+sizL l∧depL l≤lev - 1:=by
   intro l
   induction l with
   | nil=>intro _ n lev t ht;rw [cntSL_nil] at ht ⊢;simp [sizL,depL];exact ht
   | cons e l ihl =>
    intro h n lev t ht
    rw [cntSL_cons] at ht ⊢
    by_cases hc:t≤n
    ·rw [if_pos hc] at ht ⊢
     obtain ⟨a1,a2,a3⟩:=ihl (fun x hx=>h x (by simp [hx])) n lev _ ht
     obtain ⟨b1,b2,b3⟩:=h e (by simp) (n - t) (lev - 1) (by omega)
     rw [b2] at a1 a2
     rw [sizL_cons]
     refine ⟨by omega,by rw [b2,a2];omega,?_⟩
     simp only [depL]
     omega
    ·rw [if_neg hc] at ht
     omega
  intro n lev h
  rw [cntS_eq] at h ⊢
  by_cases hc:lev=0 ∨ 6 < args.length ∨ 4 < hd.lo ∨ 4 < hd.hi
  ·rw [if_pos hc] at h;omega
  ·rw [if_neg hc] at h ⊢
   obtain ⟨a1,a2,a3⟩:=key args ih n lev 1 h
   simp only [siz,dep]
   omega
theorem smallC_loop {A : List Rt} {hd : Hd} {x : AV} {l : List AV} (hx : SlC 9 x l) (hl : RtL A l) (ih : ∀ e ∈ A, ∀ (a : AV), RtC e a → ∀ n lev : Nat, n ≤ 1000 → lev ≤ 100 → ∀ H : Hp, roC C_L09_count [a, .int .i64 (n : Int), .int .i64 (lev : Int)] H = some (.int .i64 (cntS e n lev : Int), H))
    (hb:A.length≤6) (H0 Hc:Hp) {o n lev:Nat} (ho:Hc[o]?=some (.cells (reC hd x))) (hn:n≤1000) (hlev:lev≤100) (hl1:1≤lev) :
    ∀ (k i t:Nat),A.length - i=k→i≤A.length→t≤n+1 →
    L09_count_L1 (.int .i64 (n:Int)) (.int .i64 (lev:Int)) (.ptr o 0) (.int .i64 (t:Int)) (.int .i64 (i:Int)) H0 Hc=some (.int .i64 (cntSL (A.drop i) n lev t:Int),Hc):=by
 intro k
 induction k with
 | zero =>
  intro i t hk hi ht
  have hlt:decide ((i:Int) < (A.length:Int))=false:=decide_eq_false (by omega)
  have hdr:A.drop i=[]:=List.drop_eq_nil_iff.2 (by omega)
  rw [L09_count_L1_eq,hdr,cntSL_nil]
  simp only [go_sem,ld_args ho,hx.len,hl.1,hlt,L09_count_J2_eq]
 | succ k ihk =>
  intro i t hk hi ht
  have hL:i < A.length:=by omega
  have hlt:decide ((i:Int) < (A.length:Int))=true:=decide_eq_true (by omega)
  have hdr:=List.drop_eq_getElem_cons hL
  rw [L09_count_L1_eq,hdr,cntSL_cons]
  by_cases hc:t≤n
  ·have b1:decide ((t:Int)≤(n:Int))=true:=decide_eq_true (by omega)
   obtain ⟨a,hla,hra⟩:=hl.get (List.getElem?_eq_getElem hL)
   have hr:=ih _ (List.getElem_mem hL) _ hra (n - t) (lev - 1) (by omega) (by omega) Hc
   have hle:=cntS_le A[i] (n - t) (lev - 1)
   obtain ⟨xa,la,rfl,_,_⟩:=hra.out
   have w1:IntKind.i64.wrap ((n:Int) - (t:Int))=((n - t:Nat):Int):=by rw [wrap64 (by omega) (by omega)];omega
   have w2:IntKind.i64.wrap ((lev:Int) - 1)=((lev - 1:Nat):Int):=by rw [wrap64 (by omega) (by omega)];omega
   have w3:IntKind.i64.wrap ((t:Int)+(cntS A[i] (n - t) (lev - 1):Int))=((t+cntS A[i] (n - t) (lev - 1):Nat):Int):=by rw [wrap64 (by omega) (by omega)];omega
   rw [if_pos hc]
   simp only [go_sem,ld_args ho,hx.len,hl.1,hlt,b1,L09_count_J3_eq,hx.idx hla,re_cells,aload_vp_re,w1,w2,hr,w3,L09_count_J4_eq,wsucc (n:=i) (by omega)]
   exact ihk (i+1) _ (by omega) (by omega) (by omega)
  ·have b1:decide ((t:Int)≤(n:Int))=false:=decide_eq_false (by omega)
   rw [if_neg hc]
   simp only [go_sem,ld_args ho,hx.len,hl.1,hlt,b1,L09_count_J2_eq]
theorem smallC_run (e:Rt):∀ (a:AV),RtC e a→∀ n lev:Nat,n≤1000→lev≤100→∀ H:Hp,roC C_L09_count [a,.int .i64 (n:Int),.int .i64 (lev:Int)] H=some (.int .i64 (cntS e n lev:Int),H):=by
 induction e using Rt.ind with
 | h hd args ih =>
  intro a ha n lev hn hlev H
  obtain ⟨x,l,rfl,hx,hl⟩:=ha.out
  have hl:RtL args l:=hl
  have g:=get_push_len H (AObj.cells (reC hd x)) []
  refine ro_of (H':=H++[AObj.cells (reC hd x)]) (v:=.int .i64 (cntS (.mk hd args) n lev:Int)) ?_ (by simp) (close_int _ _ _ _ _)
  rw [F_L09_count_eq,cntS_eq]
  unfold F_L09_count
  have w1:IntKind.i64.wrap ((n:Int)+1)=((n+1:Nat):Int):=wsucc (by omega)
  by_cases c1:lev=0
  ·have b1:((lev:Int) == 0)=true:=by simp [c1]
   rw [if_pos (.inl c1)]
   simp only [box_re,go_sem,b1,w1,Rt.hd]
  have b1:((lev:Int) == 0)=false:=by simp [c1]
  by_cases c2:6 < args.length
  ·have b2:decide ((6:Int) < (args.length:Int))=true:=decide_eq_true (by omega)
   rw [if_pos (.inr (.inl c2))]
   simp only [box_re,go_sem,b1,w1,Rt.hd,ld_args g,hx.len,hl.1,b2]
  have b2:decide ((6:Int) < (args.length:Int))=false:=decide_eq_false (by omega)
  by_cases c3:4 < hd.lo
  ·have b3:decide ((4:Int) < hd.lo)=true:=decide_eq_true c3
   rw [if_pos (.inr (.inr (.inl c3)))]
   simp only [box_re,go_sem,b1,w1,Rt.hd,ld_args g,hx.len,hl.1,b2,ld_lo g,b3]
  have b3:decide ((4:Int) < hd.lo)=false:=decide_eq_false c3
  by_cases c4:4 < hd.hi
  ·have b4:decide ((4:Int) < hd.hi)=true:=decide_eq_true c4
   rw [if_pos (.inr (.inr (.inr c4)))]
   simp only [box_re,go_sem,b1,w1,Rt.hd,ld_args g,hx.len,hl.1,b2,ld_lo g,b3,ld_hi g,b4]
  have b4:decide ((4:Int) < hd.hi)=false:=decide_eq_false c4
  rw [if_neg (by rintro (h | h | h | h) <;> contradiction)]
  have key:=smallC_loop hx hl ih (by omega) H (H++[AObj.cells (reC hd x)]) (n:=n) (lev:=lev) g hn hlev (by omega) args.length 0 1 rfl (by omega) (by omega)
  have i0:(((0:Nat):Int))=0:=rfl
  have i1:(((1:Nat):Int))=1:=rfl
  rw [i0,i1,List.drop_zero] at key
  simp only [box_re,go_sem,b1,w1,Rt.hd,ld_args g,hx.len,hl.1,b2,ld_lo g,b3,ld_hi g,b4,L09_count_J1_eq,key]
theorem small_run {e:Rt} {a:AV} (ha:RtC e a) {n:Nat} (hn:n≤1000) (H:Hp):roC C_L09_Small [a,.int .i64 (n:Int)] H=some (.bool (decide (cntS e n 8≤n)),H):=by
 have ha0:=ha
 obtain ⟨x,l,rfl,hx,hl⟩:=ha.out
 have g:=get_push_len H (AObj.cells (reC e.hd x)) []
 have hr:=smallC_run e _ ha0 n 8 hn (by omega) (H++[AObj.cells (reC e.hd x)])
 refine ro_of (H':=H++[AObj.cells (reC e.hd x)]) (v:=.bool (decide (cntS e n 8≤n))) ?_ (by simp) (close_bool _ _ _ _)
 rw [F_L09_Small_eq]
 unfold F_L09_Small
 have i8:(((8:Nat):Int))=8:=rfl
 rw [i8] at hr
 have hd:decide ((cntS e n 8:Int)≤(n:Int))=decide (cntS e n 8≤n):=decide_eq_decide.2 (by omega)
 simp only [box_re,go_sem,ld_re g,hr,hd]
theorem SpAt.ld {H:Hp} {so:Nat} {sp:Sp} (h:SpAt H so sp) {g:Nat} (hg:g < sp.length):aload true 2 (.ptr so (0+g * 2)) H=some (.agg [.int .i64 (sp.getD g (0,0)).1,.int .i64 (sp.getD g (0,0)).2]):=by
 obtain ⟨p,hp⟩:∃ p,sp[g]?=some p:=⟨_,List.getElem?_eq_getElem hg⟩
 have hgd:sp.getD g (0,0)=p:=by rw [List.getD_eq_getElem?_getD,hp];rfl
 rw [hgd]
 obtain ⟨A,B,rfl,rfl⟩:=mid_of hp
 have hA:=flat_len_of (spE_ok A)
 rw [List.length_map] at hA
 have hl:=flat_len_of (spE_ok (A++p :: B))
 rw [List.length_map,List.length_append,List.length_cons] at hl
 rw [aload_of h]
 unfold apart
 rw [List.map_append,List.map_cons,flat_app,flat_cons,List.drop_left' (by rw [hA];omega)]
 rw [if_pos rfl,if_pos (by rw [List.length_append,List.length_append,hA];have:(spE p).cells.length=2:=rfl;omega)]
 rfl
theorem st2 {H:Hp} {o:Nat} {a b:AV} (h:H[o]?=some (.cells [a,b])) (c d:Int):astoreU 2 (.ptr o 0) (.agg [.int .i64 c,.int .i64 d]) H=some (.tuple [],H.set o (.cells [.int .i64 c,.int .i64 d])):=by
 rw [astore_of (sz:=2) (v:=.agg [.int .i64 c,.int .i64 d]) h rfl rfl (by simp)]
 simp [splice,AV.cells]
end Go.Am
namespace Go.Am
set_option linter.unusedSimpArgs false
set_option linter.unusedVariables false

def gs (sp:Sp) (q:Nat):Int × Int:=sp.getD q (0,0)
section
variable {E:Rt→Nat→Nat→List Bool} {S:Rt→Nat→Nat→Nat→List Bool}
end
end Go.Am
namespace Go.Am
set_option linter.unusedSimpArgs false
set_option linter.unusedVariables false
set_option maxRecDepth 100000

theorem sp_cmp (a b c d : Int) : aeqBin Go.Proofs.Try.prog cfg.eqok .eql 30 (.agg [.int .i64 a, .int .i64 b]) (.agg [.int .i64 c, .int .i64 d]) =
    (match (match some (a == c) with
     | some true=>(match some (b == d) with
      | some true=>some true
      | r=>r)
     | r=>r:Option Bool) with
    | some b=>some (.bool b)
    | none=>none):=by kernel_rfl
theorem sp_cmp' (a b c d:Int):aeqBin Go.Proofs.Try.prog cfg.eqok .eql 30 (.agg [.int .i64 a,.int .i64 b]) (.agg [.int .i64 c,.int .i64 d])=some (.bool (a == c && b == d)):=by
 rw [sp_cmp]
 cases a == c <;> cases b == d <;> rfl
def cse (s:List UInt8) (fr to:Int) (lines:Bool):List AV:=[.str s,.int .i64 fr,.int .i64 to,.bool lines]
end Go.Am
