/-
  The number of runs and passes of a sort: in the machine, both ways.
-/
import Derived.Test.YtnaneekpogohaaaGreatDoorXeQex
import Derived.Test.YtnaneekpogohaaaGreatDoorXeGXx
import Derived.Test.YtnaneekpogohaaaGreatDoorXeGRx
namespace Go.Am
set_option linter.unusedSimpArgs false
set_option linter.unusedVariables false
set_option linter.unusedSectionVars false
set_option maxRecDepth 100000

def csStep (mem:Int) (i:Nat) (p:Int × Int) (v:Int):Int × Int:=if i=0 ∨ mem < p.2+(v+16) then (p.1+1,v+16) else (p.1,p.2+(v+16))
def csRun (mem:Int):Nat→Int × Int→List Int→Int × Int
 | _,p,[]=>p
 | i,p,v :: r=>csRun mem (i+1) (csStep mem i p v) r
def csPass (w:Int):Nat→Int→Int→Int
 | 0,_,a=>a
 | f+1,k,a=>if w < k then csPass w f ((k+w - 1) / w) (a+1) else a
def okLen (v:Int):Prop:=0≤v∧v≤4096
theorem csRun_bound (mem:Int):∀ (r:List Int) (i:Nat) (p:Int × Int),0≤p.1→(csRun mem i p r).1≤p.1+r.length∧p.1≤(csRun mem i p r).1:=by
 intro r
 induction r with
 | nil=>intro i p _;simp [csRun]
 | cons v r ih =>
  intro i p hp
  have h1:(csStep mem i p v).1≤p.1+1∧p.1≤(csStep mem i p v).1:=by
   unfold csStep
   split <;> constructor <;> dsimp only <;> omega
  have:=ih (i+1) (csStep mem i p v) (by omega)
  simp only [csRun,List.length_cons]
  omega
theorem pass_less {w k:Int} (hw:2≤w) (hk:w < k):(k+w - 1) / w < k∧0≤(k+w - 1) / w:=by
 refine ⟨?_,Int.ediv_nonneg (by omega) (by omega)⟩
 refine Int.ediv_lt_of_lt_mul (by omega) ?_
 have:k * w ≥ k * 2:=Int.mul_le_mul_of_nonneg_left hw (by omega)
 omega

theorem quo64 {a b:Int} (ha:0≤a) (hb:0 < b) (hm:a≤9223372036854775807):ibin .quo (.int .i64 a) (.int .i64 b)=some (.int .i64 (a / b)):=by
 unfold ibin ashift
 simp only [if_true,intbin]
 rw [if_neg (by omega),Int.tdiv_eq_ediv_of_nonneg ha]
 have h1:=Int.ediv_nonneg ha (Int.le_of_lt hb)
 have h2:=Int.ediv_le_self b ha
 rw [wrap64 (by omega) (by omega)]
abbrev Hz (mem w:Int):Hp:=[.cells [.int .i64 mem,.int .i64 w]]
section
variable {mem w:Int}
theorem hz0:aload false 1 (.ptr 0 0) (Hz mem w)=some (.int .i64 mem):=rfl
theorem hz1:aload false 1 (.ptr 0 1) (Hz mem w)=some (.int .i64 w):=rfl
theorem hza:aload true 2 (.ptr 0 0) (Hz mem w)=some (.agg [.int .i64 mem,.int .i64 w]):=rfl
theorem abox_z:abox (.agg [.int .i64 mem,.int .i64 w]) []=some (.ptr 0 0,Hz mem w):=rfl
end
theorem field0 (o:Nat):afield 0 (.ptr o 0)=some (.ptr o 0):=rfl
theorem field1 (o:Nat):afield 1 (.ptr o 0)=some (.ptr o 1):=rfl
def validZ (mem w:Int):Bool:=decide (64≤mem) && (decide (mem≤65536) && (decide (2≤w) && decide (w≤32)))
theorem zvalid_flat (mem w:Int) (H:Hp):flatC C_extsort_valid [.agg [.int .i64 mem,.int .i64 w]] H=some (.bool (validZ mem w),H):=by
 refine flatC_of (args':=[.agg [.int .i64 mem,.int .i64 w]]) (H1:=Hz mem w) rfl ?_ rfl
 rw [F_extsort_valid_eq]
 unfold F_extsort_valid
 have e1:=@hz0 mem w
 have e2:=@hz1 mem w
 unfold validZ
 cases h1:decide (64≤mem) <;> cases h2:decide (mem≤65536) <;> cases h3:decide (2≤w) <;> cases h4:decide (w≤32) <;>
  simp only [abox_z,go_sem,field0,field1,e1,e2,h1,h2,h3,h4,Bool.and_true,Bool.and_false,Bool.true_and,Bool.false_and]
theorem zrvalid_flat (mem w:Int) (H:Hp):flatC C_R24_Valid [.agg [.int .i64 mem,.int .i64 w]] H=some (.bool (validZ mem w),H):=by
 refine flatC_of (args':=[.agg [.int .i64 mem,.int .i64 w]]) (H1:=Hz mem w) rfl ?_ rfl
 rw [F_R24_Valid_eq]
 unfold F_R24_Valid
 have e1:=@hz0 mem w
 have e2:=@hz1 mem w
 unfold validZ
 cases h1:decide (64≤mem) <;> cases h2:decide (mem≤65536) <;> cases h3:decide (2≤w) <;> cases h4:decide (w≤32) <;>
  simp only [abox_z,go_sem,field0,field1,e1,e2,h1,h2,h3,h4,Bool.and_true,Bool.and_false,Bool.true_and,Bool.false_and]

section
variable {mem w:Int} (hm:64≤mem) (hm2:mem≤65536) (hw:2≤w) (hw2:w≤32)
include hw hw2
theorem cost_pass (n:AV) (H0:Hp):∀ (f:Nat) (k p:Int),0≤k→k≤f→k≤400→0≤p→p+f≤1000→extsort_Cost_L1 (.ptr 0 0) n (.int .i64 p) (.int .i64 k) H0 (Hz mem w)=some (.tuple [n,.int .i64 (csPass w f k p)],Hz mem w):=by
 intro f
 induction f with
 | zero =>
  intro k p h0 h1 _ _ _
  have hlt:decide (w < k)=false:=by simp;omega
  rw [extsort_Cost_L1_eq]
  simp only [go_sem,field1,hz1,hlt,extsort_Cost_J3_eq,csPass]
 | succ f ih =>
  intro k p h0 h1 h2 hp hpf
  rw [extsort_Cost_L1_eq]
  by_cases hlt:w < k
  ·obtain ⟨l1,l2⟩:=pass_less hw hlt
   have w1:IntKind.i64.wrap (p+1)=p+1:=wrap64 (by omega) (by omega)
   have w2:IntKind.i64.wrap (k+w)=k+w:=wrap64 (by omega) (by omega)
   have w3:IntKind.i64.wrap (k+w - 1)=k+w - 1:=wrap64 (by omega) (by omega)
   have q:=quo64 (a:=k+w - 1) (b:=w) (by omega) (by omega) (by omega)
   simp only [go_sem,field1,hz1,decide_eq_true hlt,extsort_Cost_J4_eq,extsort_Cost_J5_eq,w1,w2,w3,q,csPass,if_pos hlt]
   exact ih _ _ l2 (by omega) (by omega) (by omega) (by omega)
  ·simp only [go_sem,field1,hz1,decide_eq_false hlt,extsort_Cost_J3_eq,csPass,if_neg hlt]
theorem rcost_pass (n:AV) (H0:Hp):∀ (f:Nat) (k p:Int),0≤k→k≤f→k≤400→0≤p→p+f≤1000→R24_Cost_L1 (.ptr 0 0) n (.int .i64 p) (.int .i64 k) H0 (Hz mem w)=some (.tuple [n,.int .i64 (csPass w f k p)],Hz mem w):=by
 intro f
 induction f with
 | zero =>
  intro k p h0 h1 _ _ _
  have hlt:decide (w < k)=false:=by simp;omega
  rw [R24_Cost_L1_eq]
  simp only [go_sem,field1,hz1,hlt,R24_Cost_J4_eq,csPass]
 | succ f ih =>
  intro k p h0 h1 h2 hp hpf
  rw [R24_Cost_L1_eq]
  by_cases hlt:w < k
  ·obtain ⟨l1,l2⟩:=pass_less hw hlt
   have w1:IntKind.i64.wrap (p+1)=p+1:=wrap64 (by omega) (by omega)
   obtain ⟨y,g1,g2⟩:=rplan_flat k w (by omega) (Hz mem w)
   have hl:=g2.len 38
   have hc:((plan (waysN w) k.toNat).length:Int)=(k+w - 1) / w:=by
    obtain ⟨q1,q2,q3⟩:=waysN_ok w
    rw [plan_len]
    unfold cnt
    have e1:((waysN w:Nat):Int)=w:=by omega
    rw [Int.natCast_ediv,e1]
    congr 1
    omega
   rw [hc] at hl
   simp only [go_sem,field1,hz1,decide_eq_true hlt,R24_Cost_J5_eq,R24_Cost_J6_eq,w1,g1,hl,csPass,if_pos hlt]
   exact ih _ _ l2 (by omega) (by omega) (by omega) (by omega)
  ·simp only [go_sem,field1,hz1,decide_eq_false hlt,R24_Cost_J4_eq,csPass,if_neg hlt]
include hm hm2
theorem cost_loop {l : List Int} {x : AV} (hx : Sl 1 x (l.map (AV.int .i64))) (hl : l.length ≤ 400) (H0 : Hp) : ∀ (r d : List Int) (n s : Int), l = d ++ r → 0 ≤ n → n ≤ d.length → 0 ≤ s → s ≤ (d.length : Int) * 4112 →
    ((∀ v ∈ r,okLen v)→extsort_Cost_L2 (.ptr 0 0) (.int .i64 n) (.int .i64 0) (.int .i64 s) x (.int .i64 (l.length:Int)) (.int .i64 (d.length:Int)) H0 (Hz mem w) =
     extsort_Cost_J2 (.ptr 0 0) (.int .i64 (csRun mem d.length (n,s) r).1) (.int .i64 0) H0 (Hz mem w)) ∧
    (¬ (∀ v ∈ r,okLen v)→extsort_Cost_L2 (.ptr 0 0) (.int .i64 n) (.int .i64 0) (.int .i64 s) x (.int .i64 (l.length:Int)) (.int .i64 (d.length:Int)) H0 (Hz mem w)=some (.tuple [.int .i64 0,.int .i64 0],Hz mem w)):=by
 intro r
 induction r with
 | nil =>
  intro d n s hd _ _ _ _
  have hlt:decide ((d.length:Int) < (l.length:Int))=false:=by rw [hd];simp
  refine ⟨fun _=>?_,fun h=>absurd (fun v hv=>by cases hv) h⟩
  rw [extsort_Cost_L2_eq]
  simp only [go_sem,hlt,csRun]
 | cons v r ih =>
  intro d n s hd h1 h2 h3 h4
  have hlen:l.length=d.length+(r.length+1):=by rw [hd];simp
  have hlt:decide ((d.length:Int) < (l.length:Int))=true:=by rw [decide_eq_true_eq];omega
  have hg:(l.map (AV.int .i64))[d.length]?=some (.int .i64 v):=by rw [hd];simp
  have hi:aindexS 1 x (.int .i64 (d.length:Int))=some (.vp [.int .i64 v]):=Sl.idx hx (c:=.int .i64 v) hg
  have hw1:IntKind.i64.wrap ((d.length:Int)+1)=((d++[v]).length:Int):=by rw [wrap64 (by omega) (by omega)];simp
  rw [extsort_Cost_L2_eq]
  by_cases hb1:v < 0
  ·refine ⟨fun h=>absurd (h v (by simp)).1 (by omega),fun _=>?_⟩
   simp only [go_sem,hlt,extsort_Cost_J6_eq,hi,aload_vpc,decide_eq_true hb1]
  by_cases hb2:4096 < v
  ·refine ⟨fun h=>absurd (h v (by simp)).2 (by omega),fun _=>?_⟩
   simp only [go_sem,hlt,extsort_Cost_J6_eq,hi,aload_vpc,decide_eq_false hb1,decide_eq_true hb2]
  have hall:(∀ u ∈ v :: r,okLen u) ↔ ∀ u ∈ r,okLen u:=by
   constructor
   ·exact fun h u hu=>h u (by simp [hu])
   ·intro h u hu
    rcases List.mem_cons.1 hu with rfl | hu
    ·exact ⟨by omega,by omega⟩
    ·exact h u hu
  rw [hall]
  have w2:IntKind.i64.wrap (v+16)=v+16:=wrap64 (by omega) (by omega)
  have w3:IntKind.i64.wrap (s+(v+16))=s+(v+16):=wrap64 (by omega) (by omega)
  have w4:IntKind.i64.wrap (n+1)=n+1:=wrap64 (by omega) (by omega)
  have w5:IntKind.i64.wrap (0+(v+16))=v+16:=by rw [wrap64 (by omega) (by omega)];omega
  have hdl:((d++[v]).length:Int)=d.length+1:=by simp
  by_cases hd0:d.length=0
  ·have c1:((d.length:Int) == 0)=true:=by rw [beq_iff_eq];omega
   simp only [go_sem,hlt,extsort_Cost_J6_eq,hi,aload_vpc,decide_eq_false hb1,decide_eq_false hb2,extsort_Cost_J8_eq,w2,c1,w4,extsort_Cost_J9_eq,w5,extsort_Cost_J7_eq,hw1]
   have:=ih (d++[v]) (n+1) (v+16) (by rw [hd];simp) (by omega) (by omega) (by omega) (by omega)
   rw [show csRun mem d.length (n,s) (v :: r)=csRun mem (d++[v]).length (n+1,v+16) r from by simp [csRun,csStep,hd0]]
   exact this
  ·have c1:((d.length:Int) == 0)=false:=by rw [beq_eq_false_iff_ne];omega
   by_cases hc:mem < s+(v+16)
   ·simp only [go_sem,hlt,extsort_Cost_J6_eq,hi,aload_vpc,decide_eq_false hb1,decide_eq_false hb2,extsort_Cost_J8_eq,w2,w3,c1,field0,hz0,decide_eq_true hc,w4,extsort_Cost_J9_eq,w5,extsort_Cost_J7_eq,hw1]
    have:=ih (d++[v]) (n+1) (v+16) (by rw [hd];simp) (by omega) (by omega) (by omega) (by omega)
    rw [show csRun mem d.length (n,s) (v :: r)=csRun mem (d++[v]).length (n+1,v+16) r from by simp [csRun,csStep,hc]]
    exact this
   ·simp only [go_sem,hlt,extsort_Cost_J6_eq,hi,aload_vpc,decide_eq_false hb1,decide_eq_false hb2,extsort_Cost_J8_eq,w2,w3,c1,field0,hz0,decide_eq_false hc,w4,extsort_Cost_J9_eq,w5,extsort_Cost_J7_eq,hw1]
    have:=ih (d++[v]) n (s+(v+16)) (by rw [hd];simp) (by omega) (by omega) (by omega) (by omega)
    rw [show csRun mem d.length (n,s) (v :: r)=csRun mem (d++[v]).length (n,s+(v+16)) r from by
     have hd0':d ≠ []:=fun e=>hd0 (by rw [e];rfl)
     simp [csRun,csStep,hc,hd0']]
    exact this
theorem rcost_check {l : List Int} {x : AV} (hx : Sl 1 x (l.map (AV.int .i64))) (hl : l.length ≤ 400) (x4 x5 : AV) (H0 : Hp) : ∀ (r d : List Int), l = d ++ r →
    ((∀ v ∈ r,okLen v)→R24_Cost_L3 x (.ptr 0 0) x4 x5 (.int .i64 (d.length:Int)) H0 (Hz mem w)=R24_Cost_J2 x (.ptr 0 0) x4 x5 H0 (Hz mem w)) ∧
    (¬ (∀ v ∈ r,okLen v)→R24_Cost_L3 x (.ptr 0 0) x4 x5 (.int .i64 (d.length:Int)) H0 (Hz mem w)=some (.tuple [.int .i64 0,.int .i64 0],Hz mem w)):=by
 have hxl:=Sl.len hx 3
 rw [List.length_map] at hxl
 intro r
 induction r with
 | nil =>
  intro d hd
  have hlt:decide ((d.length:Int) < (l.length:Int))=false:=by rw [hd];simp
  refine ⟨fun _=>?_,fun h=>absurd (fun v hv=>by cases hv) h⟩
  rw [R24_Cost_L3_eq]
  simp only [go_sem,hxl,hlt]
 | cons v r ih =>
  intro d hd
  have hlen:l.length=d.length+(r.length+1):=by rw [hd];simp
  have hlt:decide ((d.length:Int) < (l.length:Int))=true:=by rw [decide_eq_true_eq];omega
  have hg:(l.map (AV.int .i64))[d.length]?=some (.int .i64 v):=by rw [hd];simp
  have hi:aindexS 1 x (.int .i64 (d.length:Int))=some (.vp [.int .i64 v]):=Sl.idx hx (c:=.int .i64 v) hg
  have hw1:IntKind.i64.wrap ((d.length:Int)+1)=((d++[v]).length:Int):=by rw [wrap64 (by omega) (by omega)];simp
  rw [R24_Cost_L3_eq]
  by_cases hb1:v < 0
  ·refine ⟨fun h=>absurd (h v (by simp)).1 (by omega),fun _=>?_⟩
   simp only [go_sem,hxl,hlt,R24_Cost_J10_eq,hi,aload_vpc,decide_eq_true hb1]
  by_cases hb2:4096 < v
  ·refine ⟨fun h=>absurd (h v (by simp)).2 (by omega),fun _=>?_⟩
   simp only [go_sem,hxl,hlt,R24_Cost_J10_eq,hi,aload_vpc,decide_eq_false hb1,decide_eq_true hb2]
  have hall:(∀ u ∈ v :: r,okLen u) ↔ ∀ u ∈ r,okLen u:=by
   constructor
   ·exact fun h u hu=>h u (by simp [hu])
   ·intro h u hu
    rcases List.mem_cons.1 hu with rfl | hu
    ·exact ⟨by omega,by omega⟩
    ·exact h u hu
  rw [hall]
  simp only [go_sem,hxl,hlt,R24_Cost_J10_eq,hi,aload_vpc,decide_eq_false hb1,decide_eq_false hb2,R24_Cost_J11_eq,hw1]
  exact ih (d++[v]) (by rw [hd];simp)
theorem rcost_loop {l : List Int} {x : AV} (hx : Sl 1 x (l.map (AV.int .i64))) (hl : l.length ≤ 400) (hok : ∀ v ∈ l, okLen v) (H0 : Hp) : ∀ (r d : List Int) (n s : Int), l = d ++ r → 0 ≤ n → n ≤ d.length → 0 ≤ s → s ≤ (d.length : Int) * 4112 →
    R24_Cost_L2 x (.ptr 0 0) (.int .i64 n) (.int .i64 0) (.int .i64 s) (.int .i64 (d.length:Int)) H0 (Hz mem w) =
     R24_Cost_J3 (.ptr 0 0) (.int .i64 (csRun mem d.length (n,s) r).1) (.int .i64 0) H0 (Hz mem w):=by
 have hxl:=Sl.len hx 3
 rw [List.length_map] at hxl
 intro r
 induction r with
 | nil =>
  intro d n s hd _ _ _ _
  have hlt:decide ((d.length:Int) < (l.length:Int))=false:=by rw [hd];simp
  rw [R24_Cost_L2_eq]
  simp only [go_sem,hxl,hlt,csRun]
 | cons v r ih =>
  intro d n s hd h1 h2 h3 h4
  have hlen:l.length=d.length+(r.length+1):=by rw [hd];simp
  have hlt:decide ((d.length:Int) < (l.length:Int))=true:=by rw [decide_eq_true_eq];omega
  have hg:(l.map (AV.int .i64))[d.length]?=some (.int .i64 v):=by rw [hd];simp
  have hi:aindexS 1 x (.int .i64 (d.length:Int))=some (.vp [.int .i64 v]):=Sl.idx hx (c:=.int .i64 v) hg
  have hw1:IntKind.i64.wrap ((d.length:Int)+1)=((d++[v]).length:Int):=by rw [wrap64 (by omega) (by omega)];simp
  obtain ⟨hb1,hb2⟩:=hok v (by rw [hd];simp)
  have w2:IntKind.i64.wrap (v+16)=v+16:=wrap64 (by omega) (by omega)
  have w3:IntKind.i64.wrap (s+(v+16))=s+(v+16):=wrap64 (by omega) (by omega)
  have w4:IntKind.i64.wrap (n+1)=n+1:=wrap64 (by omega) (by omega)
  have w5:IntKind.i64.wrap (0+(v+16))=v+16:=by rw [wrap64 (by omega) (by omega)];omega
  have hdl:((d++[v]).length:Int)=d.length+1:=by simp
  rw [R24_Cost_L2_eq]
  by_cases hd0:d.length=0
  ·have c1:((d.length:Int) == 0)=true:=by rw [beq_iff_eq];omega
   simp only [go_sem,hxl,hlt,R24_Cost_J7_eq,hi,aload_vpc,w2,c1,w4,R24_Cost_J9_eq,w5,R24_Cost_J8_eq,hw1]
   have:=ih (d++[v]) (n+1) (v+16) (by rw [hd];simp) (by omega) (by omega) (by omega) (by omega)
   rw [show csRun mem d.length (n,s) (v :: r)=csRun mem (d++[v]).length (n+1,v+16) r from by simp [csRun,csStep,hd0]]
   exact this
  ·have c1:((d.length:Int) == 0)=false:=by rw [beq_eq_false_iff_ne];omega
   by_cases hc:mem < s+(v+16)
   ·simp only [go_sem,hxl,hlt,R24_Cost_J7_eq,hi,aload_vpc,w2,w3,c1,field0,hz0,decide_eq_true hc,w4,R24_Cost_J9_eq,w5,R24_Cost_J8_eq,hw1]
    have:=ih (d++[v]) (n+1) (v+16) (by rw [hd];simp) (by omega) (by omega) (by omega) (by omega)
    rw [show csRun mem d.length (n,s) (v :: r)=csRun mem (d++[v]).length (n+1,v+16) r from by simp [csRun,csStep,hc]]
    exact this
   ·simp only [go_sem,hxl,hlt,R24_Cost_J7_eq,hi,aload_vpc,w2,w3,c1,field0,hz0,decide_eq_false hc,w4,R24_Cost_J9_eq,w5,R24_Cost_J8_eq,hw1]
    have:=ih (d++[v]) n (s+(v+16)) (by rw [hd];simp) (by omega) (by omega) (by omega) (by omega)
    rw [show csRun mem d.length (n,s) (v :: r)=csRun mem (d++[v]).length (n,s+(v+16)) r from by
     have hd0':d ≠ []:=fun e=>hd0 (by rw [e];rfl)
     simp [csRun,csStep,hc,hd0']]
    exact this
end
open Classical in
noncomputable def costZ (mem w:Int) (l:List Int):Int × Int :=
 if validZ mem w=true∧∀ v ∈ l,okLen v then ((csRun mem 0 (0,0) l).1,csPass w 400 (csRun mem 0 (0,0) l).1 0) else (0,0)
theorem closeV_ints (H:Hp) (n f:Nat) {x:AV} {l:List Int} (h:Sl 1 x (l.map (AV.int .i64))):∃ x',closeV H n (f+2) x=some x'∧Sl 1 x' (l.map (AV.int .i64)) :=
 Sl.close h (f:=f+1) (fun y hy=>by obtain ⟨m,_,rfl⟩:=List.mem_map.1 hy;rfl)
theorem validZ_spec {mem w:Int} (h:validZ mem w=true):64≤mem∧mem≤65536∧2≤w∧w≤32:=by
 unfold validZ at h
 simp only [Bool.and_eq_true,decide_eq_true_eq] at h
 exact h
theorem cost_flat {x : AV} {l : List Int} (hx : Sl 1 x (l.map (AV.int .i64))) (hl : l.length ≤ 400) (mem w : Int) (H : Hp) :
    flatC C_extsort_Cost [x,.agg [.int .i64 mem,.int .i64 w]] H=some (.tuple [.int .i64 (costZ mem w l).1,.int .i64 (costZ mem w l).2],H):=by
 obtain ⟨x',c1,c2⟩:=closeV_ints [] 0 7 hx
 refine flatC_of (args':=[x',.agg [.int .i64 mem,.int .i64 w]]) (H1:=Hz mem w) (by rw [List.mapM_cons,c1];rfl) ?_ rfl
 rw [F_extsort_Cost_eq]
 unfold F_extsort_Cost
 have hxl:=Sl.len c2 3
 rw [List.length_map] at hxl
 cases hv:validZ mem w with
 | false =>
  have:costZ mem w l=(0,0):=by unfold costZ;rw [if_neg (by rw [hv];simp)]
  simp only [abox_z,go_sem,hza,zvalid_flat,hv,this,Bool.not_false]
 | true =>
  obtain ⟨v1,v2,v3,v4⟩:=validZ_spec hv
  have hb:=csRun_bound mem l 0 (0,0) (Int.le_refl 0)
  simp only [Int.zero_add] at hb
  obtain ⟨k1,k2⟩:=cost_loop v1 v2 v3 v4 c2 hl [] l [] 0 0 rfl (by omega) (by simp) (by omega) (by simp)
  simp only [abox_z,go_sem,hza,zvalid_flat,hv,Bool.not_true,extsort_Cost_J1_eq,hxl]
  by_cases hok:∀ v ∈ l,okLen v
  ·have:costZ mem w l=((csRun mem 0 (0,0) l).1,csPass w 400 (csRun mem 0 (0,0) l).1 0):=by unfold costZ;rw [if_pos ⟨hv,hok⟩]
   rw [this]
   refine (k1 hok).trans ?_
   rw [extsort_Cost_J2_eq]
   exact cost_pass v3 v4 _ _ 400 _ _ hb.2 (by simp only [List.length_nil];omega) (by simp only [List.length_nil];omega) (by omega) (by omega)
  ·have:costZ mem w l=(0,0):=by unfold costZ;rw [if_neg (fun h=>hok h.2)]
   rw [this]
   exact k2 hok
theorem rcost_flat {x : AV} {l : List Int} (hx : Sl 1 x (l.map (AV.int .i64))) (hl : l.length ≤ 400) (mem w : Int) (H : Hp) :
    flatC C_R24_Cost [x,.agg [.int .i64 mem,.int .i64 w]] H=some (.tuple [.int .i64 (costZ mem w l).1,.int .i64 (costZ mem w l).2],H):=by
 obtain ⟨x',c1,c2⟩:=closeV_ints [] 0 7 hx
 refine flatC_of (args':=[x',.agg [.int .i64 mem,.int .i64 w]]) (H1:=Hz mem w) (by rw [List.mapM_cons,c1];rfl) ?_ rfl
 rw [F_R24_Cost_eq]
 unfold F_R24_Cost
 cases hv:validZ mem w with
 | false =>
  have:costZ mem w l=(0,0):=by unfold costZ;rw [if_neg (by rw [hv];simp)]
  simp only [abox_z,go_sem,hza,zrvalid_flat,hv,this,Bool.not_false]
 | true =>
  obtain ⟨v1,v2,v3,v4⟩:=validZ_spec hv
  have hb:=csRun_bound mem l 0 (0,0) (Int.le_refl 0)
  simp only [Int.zero_add] at hb
  obtain ⟨k1,k2⟩:=rcost_check (x4:=.int .i64 0) (x5:=.int .i64 0) v1 v2 v3 v4 c2 hl [] l [] rfl
  simp only [abox_z,go_sem,hza,zrvalid_flat,hv,Bool.not_true,R24_Cost_J1_eq]
  by_cases hok:∀ v ∈ l,okLen v
  ·have:costZ mem w l=((csRun mem 0 (0,0) l).1,csPass w 400 (csRun mem 0 (0,0) l).1 0):=by unfold costZ;rw [if_pos ⟨hv,hok⟩]
   rw [this]
   refine (k1 hok).trans ?_
   rw [R24_Cost_J2_eq]
   have:=rcost_loop v1 v2 v3 v4 c2 hl hok [] l [] 0 0 rfl (by omega) (by simp) (by omega) (by simp)
   refine this.trans ?_
   rw [R24_Cost_J3_eq]
   exact rcost_pass v3 v4 _ _ 400 _ _ hb.2 (by simp only [List.length_nil];omega) (by simp only [List.length_nil];omega) (by omega) (by omega)
  ·have:costZ mem w l=(0,0):=by unfold costZ;rw [if_neg (fun h=>hok h.2)]
   rw [this]
   exact k2 hok
end Go.Am
