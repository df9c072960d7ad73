/-
  The example of chapter 19 is answered as it should be: by what is known of the store and of temporary files.
-/
import Derived.Test.YtebjpfbenjgglaaGreatDoorTzAx
import Derived.Test.YtebjpfbenjgglaaGreatDoorTzLbx
import Derived.Test.YtebjpfbenjgglaaGreatDoorTzGLx
namespace Go.Am
set_option linter.unusedSimpArgs false
set_option linter.unusedVariables false
set_option linter.unusedSectionVars false
set_option maxRecDepth 100000

def xN:Txt:=[46,116,109,112,46,115,111,114,116,46,49]
def xL:List Txt:=[[97],[98]]
def xT:Tmp:=⟨[115,111,114,116],[],[],100,0,false⟩
def xO:Sto:=⟨1000,0,[],false,0⟩
def xT1:Tmp:={ xT with last:=1,names:=[xN] }
def xO1:Sto:={ xO with files:=[⟨xN,[],0⟩] }
def xO2:Sto:={ xO1 with files:=[⟨xN,encS xL,0⟩],peak:=max 0 (0+costR xL) }
theorem xN_eq:xN=tmpName xT.owner (xT.last+1):=by kernel_rfl
theorem xN_ok:nameB xN=true:=by kernel_rfl
theorem xCost:costR xL=14:=by kernel_rfl
theorem xRec:(recS [97]).length=7:=by kernel_rfl
theorem xLeft:leftS [115,111,114,116] xO2=[xN]:=by kernel_rfl
theorem xO_ok:StoOk xO:=⟨by decide,by decide,by decide,by simp [xO],by simp [xO],by simp [xO],by simp [xO],by decide⟩
theorem xT_ok:TmpOk xT:=⟨by decide,by decide,by decide,by decide⟩
theorem xT1_ok:TmpOk xT1:=⟨by decide,by decide,by decide,by decide⟩
theorem awake19_run (H:Hp):∃ H',C_L19_awake [] H=some (.bool true,H'):=by
 have hcl:(encS xL).length=14:=by rw [encS_len,xCost]
 have hcc:costR xL=14:=xCost
 have hfit:fitsR xL=true:=by decide
 have o1:StoOk xO1:=⟨show (1000:Nat)≤262144 by decide,by simp [xO1,usedL],show (0:Nat)≤1000 by decide,by simp [xO1,xN_ok],by simp [xO1],by simp [xO1],by simp [xO1],show (0:Nat)≤9223372036854775807 by decide⟩
 have o2:StoOk xO2:=⟨show (1000:Nat)≤262144 by decide,by simp [xO2,xO1,xO,usedL];omega,by simp [xO2,xO1,xO];omega,by simp [xO2,xN_ok],by simp [xO2],by simp [xO2],by simp [xO2],show (0:Nat)≤9223372036854775807 by decide⟩
 have hN:tmNew xT xO=((xN,0),(xT1,xO1)):=run_new rfl rfl rfl xN_eq xN_ok rfl (by decide)
 have hW:tmWrite xT1 xO1 xN xL=(0,xO2):=run_write (fs:=[]) rfl rfl rfl (by simp [xT1]) (by simp [xT1,xT]) rfl rfl hfit (by simp [usedL,xO1,xO];omega) (by simp [usedL,xT1,xT];omega)
 obtain ⟨H1,q1,q2,q3⟩:=New_run 1000 (by omega) H
 have hs0:(⟨(min (max 1000 0) 262144:Int).toNat,0,[],false,0⟩:Sto)=xO:=rfl
 rw [hs0] at q2
 obtain ⟨H2,A2,r1,r2,r3,r4⟩:=TOpen_empty q2 xO_ok rfl [115,111,114,116] (by decide) (by decide) 100
 have htm:(⟨[115,111,114,116],[],[],(max 0 100:Int).toNat,0,false⟩:Tmp)=xT:=rfl
 rw [htm] at r2
 obtain ⟨H3,A3,n1,n2⟩:=TNew_run r2 xT_ok xO_ok (by decide)
 rw [hN] at n1 n2
 have s1:(setElems 1 [(0,(.str [97])),(1,(.str [98]))] [(.str []),(.str [])]).map (AV.vs 1 .clip)=some (AV.vs 1 .clip (xL.map AV.str)):=rfl
 obtain ⟨H4,A4,w1,w2⟩:=Write_run n2.at' xT1_ok o1 xN (x:=.vs 1 .clip (xL.map AV.str)) (l:=xL) (.inr ⟨.clip,rfl⟩) (by decide) (by omega)
 rw [hW] at w1 w2
 have hfind:tmFind xT1 xN=0:=by simp [tmFind,xT1,xT]
 have hget:getF xO2.files xN=some ⟨xN,encS xL,0⟩:=by simp [getF,xO2]
 have htk:xO2.tick=xO2:=tick_still rfl rfl
 obtain ⟨H5,p1,p2,p3⟩:=TRead_run w2.at' xT1_ok o2 xN hfind (by rw [htk];rfl) hget (p:=recS [97]) (rest:=[[98]]) rfl (by decide) (by show (encS xL).length≤262144;omega)
 rw [htk] at p2
 obtain ⟨H6,g1,g2,g3⟩:=TRead_run p2 xT1_ok o2 xN hfind (by rw [htk];rfl) hget (p:=encS xL) (rest:=[]) (by simp [encS]) rfl (by show (encS xL).length≤262144;omega)
 rw [htk] at g2
 have hus:=Used_ro g2 xT1_ok o2
 have hun:(if xT1.closed then (0:Int) else (tmUsed xT1 xO2:Int))=14:=by
  show ((usedN [xN] [⟨xN,encS xL,0⟩]:Nat):Int)=14
  simp [usedN,hcl]
 rw [hun] at hus
 have g2k:=g2
 obtain ⟨B6,S6,_,hst6,_,_⟩:=g2k
 obtain ⟨xl,l1,l2⟩:=Left_ro hst6 o2 [115,111,114,116] (by decide)
 rw [xLeft] at l2
 have hll:=l2.len 9
 obtain ⟨H7,A7,tm7,s7,c1,c2,c3,c4,c5,c6,c7,c8⟩:=Close_run g2 xT1_ok o2 rfl rfl (by simp [xT1]) (fun n hn=>by
  have:n=xN:=by simpa [xT1] using hn
  rw [this,hget];exact fun h=>by cases h) rfl
 have hf7:s7.files=[]:=by rw [c8];simp [xT1,xO2,rmF]
 have c2k:=c2.at'
 obtain ⟨B7,S7,_,hst7,_,_⟩:=c2k
 obtain ⟨yl,k1,k2⟩:=List_ro hst7 c4
 rw [hf7] at k2
 have hkl:alenD (.slice 57) yl=some (.int .i64 0):=Sl.len k2 57
 have e7:((recS [97]).length:Int)=7:=by rw [xRec];rfl
 have e14:((encS xL).length:Int)=14:=by rw [hcl];rfl
 have e14':((recS [97]++recS [98]).length:Int)=14:=by rw [List.length_append,recS_len,recS_len];rfl
 rw [e7] at p1
 rw [e14] at g1
 dsimp only at p1 g1
 rw [e14'] at p1
 have hnil:ebin (.pointer 77) .eql (.ptr (H1.length+1) 0) .nilp=some (.bool false):=rfl
 have x0:((0:Int) != 0)=false:=rfl
 have x1:(!(xN == [46,116,109,112,46,115,111,114,116,46,49]))=false:=by decide
 have x2:(!(([98]:Txt) == [98]))=false:=by decide
 have x3:((14:Int) != 14)=false:=rfl
 have x4:((5:Int) != 5)=false:=rfl
 have x5:((14:Int) == 14)=true:=rfl
 have x6:((([xN]:List Txt).length:Int) == 1)=true:=rfl
 have x7:((0:Int) == 0)=true:=rfl
 refine ⟨H7,?_⟩
 rw [F_L19_awake_eq]
 unfold F_L19_awake
 simp only [q1,go_sem,r1,List.getElem?_cons_zero,List.getElem?_cons_succ,hnil,x0,L19_awake_J1_eq,n1,s1,w1,p1,g1,x1,x2,x3,x4,L19_awake_J2_eq,hus,x5,l1,hll,x6,c1,x7,k1,hkl]
end Go.Am
namespace Go.Am
set_option linter.unusedSimpArgs false
set_option linter.unusedVariables false
set_option linter.unusedSectionVars false
set_option maxRecDepth 100000

structure Cl where
 op:Int
 name:Txt
 lines:List Txt
 at':Int
 kept:Nat
def Cl.cells (c:Cl) (y:AV):List AV:=[.int .i64 c.op,.str c.name,y,.int .i64 c.at',.int .u64 (c.kept:Int)]
def ClV (a:AV) (c:Cl):Prop:=∃ y,a=.agg (c.cells y)∧SS y c.lines
def CsV (x:AV) (cs:List Cl):Prop:=∃ l,Sl 5 x l∧l.length=cs.length∧∀ (i:Nat) (a:AV) (c:Cl),l[i]?=some a→cs[i]?=some c→ClV a c
structure ClOk (c:Cl):Prop where
 op:-9223372036854775808≤c.op∧c.op≤9223372036854775807
 name:c.name.length≤1048576
 cnt:c.lines.length≤1048576
 lines:∀ s ∈ c.lines,s.length≤1048576
 at':-9223372036854775808≤c.at'∧c.at'≤9223372036854775807
 kept:c.kept < 18446744073709551616
theorem CsV.len {x:AV} {cs:List Cl} (h:CsV x cs) (e:Nat):alenD (.slice e) x=some (.int .i64 (cs.length:Int)):=by
 obtain ⟨l,h1,h2,_⟩:=h
 rw [h1.len e,h2]
theorem CsV.idx {x:AV} {cs:List Cl} (h:CsV x cs) {i:Nat} {c:Cl} (hi:cs[i]?=some c):∃ y,aindexS 5 x (.int .i64 (i:Int))=some (.vp (c.cells y))∧SS y c.lines:=by
 obtain ⟨l,h1,h2,h3⟩:=h
 have hil:=(List.getElem?_eq_some_iff.1 hi).1
 obtain ⟨y,e,hy⟩:=h3 i l[i] c (List.getElem?_eq_getElem (by omega)) hi
 refine ⟨y,?_,hy⟩
 have:=h1.idx (i:=i) (c:=l[i]) (List.getElem?_eq_getElem (by omega))
 rw [this,e]
 rfl
theorem aload_cl (c:Cl) (y:AV) (H:Hp):aload true 5 (.vp (c.cells y)) H=some (.agg (c.cells y)):=by simp [aload,Go.Am.apart,Cl.cells]
def linesN (l:List Txt):Nat:=match l with
 | []=>0
 | s :: r=>s.length+linesN r
theorem linesN_app (a b:List Txt):linesN (a++b)=linesN a+linesN b:=by
 induction a with
 | nil=>simp [linesN]
 | cons s a ih=>simp only [List.cons_append,linesN,ih];omega
structure ClSm (c:Cl):Prop where
 cnt:c.lines.length≤8
 name:c.name.length≤100
 sum:linesN c.lines≤5000
theorem small_loop {c : Cl} {y : AV} (hy : SS y c.lines) (h8 : c.lines.length ≤ 8) (hn : c.name.length ≤ 100) {o : Nat} {H : Hp} (ho : H[o]? = some (.cells (c.cells y))) (H0 : Hp) : ∀ (r d : List Txt), c.lines = d ++ r → linesN d ≤ 5000 * d.length →
    ∃ b,L19_small_L1 (.ptr o 0) (.int .i64 (linesN d:Int)) (.int .i64 (d.length:Int)) H0 H=some (.bool b,H)∧(b=true→ClSm c):=by
 intro r
 induction r with
 | nil =>
  intro d hd hs
  rw [List.append_nil] at hd
  have l2:=ldn ho 2 (v:=y) rfl
  have hln:=SS.len hy 9
  have hlt:decide ((d.length:Int) < (c.lines.length:Int))=false:=by rw [hd];simp
  refine ⟨decide ((linesN d:Int)≤5000),?_,fun hb=>⟨h8,hn,?_⟩⟩
  ·rw [L19_small_L1_eq]
   simp only [go_sem,Nat.zero_add,l2,hln,hlt,L19_small_J2_eq]
  ·rw [decide_eq_true_eq] at hb
   rw [hd];omega
 | cons s r ih =>
  intro d hd hs
  have l2:=ldn ho 2 (v:=y) rfl
  have hln:=SS.len hy 9
  have hlen:c.lines.length=d.length+(r.length+1):=by rw [hd];simp
  have hlt:decide ((d.length:Int) < (c.lines.length:Int))=true:=by simp;omega
  have hi:=SS.idx hy (i:=d.length) (s:=s) (by rw [hd,List.getElem?_append_right (Nat.le_refl _)];simp)
  have hw1:IntKind.i64.wrap ((d.length:Int)+1)=((d.length+1:Nat):Int):=by rw [wrap64 (by omega) (by omega)];omega
  rw [L19_small_L1_eq]
  have hal:alenD .string (.str s)=some (.int .i64 (s.length:Int)):=rfl
  by_cases h5:s.length≤5000
  ·have hg:decide ((5000:Int) < (s.length:Int))=false:=by simp;omega
   have hw2:IntKind.i64.wrap ((linesN d:Int)+(s.length:Int))=((linesN (d++[s]):Nat):Int):=by
    rw [linesN_app,wrap64 (by omega) (by omega)];simp [linesN]
   obtain ⟨b,k1,k2⟩:=ih (d++[s]) (by rw [hd];simp) (by rw [linesN_app];simp [linesN];omega)
   rw [List.length_append,List.length_singleton] at k1
   refine ⟨b,?_,k2⟩
   simp only [go_sem,Nat.zero_add,l2,hln,hlt,L19_small_J3_eq,hi,aload_vpc,hal,hg,L19_small_J5_eq,hw2,L19_small_J4_eq,hw1]
   exact k1
  ·have hg:decide ((5000:Int) < (s.length:Int))=true:=by simp;omega
   refine ⟨false,?_,fun h=>by cases h⟩
   simp only [go_sem,Nat.zero_add,l2,hln,hlt,L19_small_J3_eq,hi,aload_vpc,hal,hg]
theorem closeV_aggl (H : Hp) (n f : Nat) (l : List AV) : closeV H n (f + 1) (.agg l) = match l.mapM (closeV H n f) with
      | some l=>some (.agg l)
      | none=>none:=(Eq.refl _).trans (Eq.refl _)
theorem ClV.close {a:AV} {c:Cl} (h:ClV a c):∃ a',closeV [] 0 6 a=some a'∧ClV a' c:=by
 obtain ⟨y,rfl,hy⟩:=h
 obtain ⟨y',h1,h2⟩:=hy.closed [] 0 3
 exact ⟨.agg (c.cells y'),by
  rw [closeV_aggl]
  show (match ([.int .i64 c.op,.str c.name,y,.int .i64 c.at',.int .u64 (c.kept:Int)]:List AV).mapM (closeV [] 0 5) with | some l=>some (AV.agg l) | none=>none)=_
  simp only [List.mapM_cons,List.mapM_nil,h1]
  rfl,y',rfl,h2⟩
theorem small_flat {a:AV} {c:Cl} (ha:ClV a c) (H:Hp):∃ b,flatC C_L19_small [a] H=some (.bool b,H)∧(b=true→ClSm c):=by
 obtain ⟨a',h1,y,rfl,hy⟩:=ha.close
 obtain ⟨b,H1,k1,k2⟩:∃ b H1,C_L19_small [.agg (c.cells y)] []=some (.bool b,H1)∧(b=true→ClSm c):=by
  have hbx:abox (.agg (c.cells y)) []=some (.ptr 0 0,[AObj.cells (c.cells y)]):=abox_of rfl
  have ho:([AObj.cells (c.cells y)]:Hp)[0]?=some (.cells (c.cells y)):=rfl
  have l2:=ldn ho 2 (v:=y) rfl
  have l1:=ldn ho 1 (v:=.str c.name) rfl
  have hln:=SS.len hy 9
  have hal:alenD .string (.str c.name)=some (.int .i64 (c.name.length:Int)):=rfl
  rw [F_L19_small_eq]
  unfold F_L19_small
  by_cases h8:c.lines.length≤8
  ·have e8:decide ((8:Int) < (c.lines.length:Int))=false:=by simp;omega
   by_cases hn:c.name.length≤100
   ·have e9:decide ((100:Int) < (c.name.length:Int))=false:=by simp;omega
    obtain ⟨b,k1,k2⟩:=small_loop hy h8 hn ho [] c.lines [] rfl (by simp [linesN])
    refine ⟨b,[AObj.cells (c.cells y)],?_,k2⟩
    simp only [hbx,go_sem,Nat.zero_add,l2,l1,hln,e8,hal,e9,L19_small_J1_eq]
    exact k1
   ·have e9:decide ((100:Int) < (c.name.length:Int))=true:=by simp;omega
    exact ⟨false,[AObj.cells (c.cells y)],by simp only [hbx,go_sem,Nat.zero_add,l2,l1,hln,e8,hal,e9],fun h=>by cases h⟩
  ·have e8:decide ((8:Int) < (c.lines.length:Int))=true:=by simp;omega
   exact ⟨false,[AObj.cells (c.cells y)],by simp only [hbx,go_sem,Nat.zero_add,l2,l1,hln,e8,hal],fun h=>by cases h⟩
 exact ⟨b,flat1 h1 k1 rfl,k2⟩
structure CsOk (cs:List Cl):Prop where
 cnt:cs.length≤40
 all:∀ c ∈ cs,ClSm c
theorem few_loop {x : AV} {cs : List Cl} (hx : CsV x cs) (hl : cs.length ≤ 1048576) (H0 H : Hp) : ∀ (r d : List Cl), cs = d ++ r → d.length ≤ 40 → (∀ c ∈ d, ClSm c) →
    ∃ b,L19_few_L1 x (.int .i64 (d.length:Int)) H0 H=some (.bool b,H)∧(b=true→CsOk cs):=by
 intro r
 induction r with
 | nil =>
  intro d hd h40 hs
  rw [List.append_nil] at hd
  subst hd
  have hlt:decide ((cs.length:Int) < (cs.length:Int))=false:=by simp
  refine ⟨true,?_,fun _=>⟨h40,hs⟩⟩
  rw [L19_few_L1_eq]
  simp only [go_sem,hx.len 43,hlt,L19_few_J1_eq]
 | cons c r ih =>
  intro d hd h40 hs
  have hlen:cs.length=d.length+(r.length+1):=by rw [hd];simp
  have hlt:decide ((d.length:Int) < (cs.length:Int))=true:=by simp;omega
  have hw1:IntKind.i64.wrap ((d.length:Int)+1)=((d.length+1:Nat):Int):=by rw [wrap64 (by omega) (by omega)];omega
  obtain ⟨y,hi,hy⟩:=hx.idx (i:=d.length) (c:=c) (by rw [hd,List.getElem?_append_right (Nat.le_refl _)];simp)
  obtain ⟨b,s1,s2⟩:=small_flat (a:=.agg (c.cells y)) ⟨y,rfl,hy⟩ H
  rw [L19_few_L1_eq]
  by_cases hg:40≤d.length
  ·have e1:decide ((40:Int)≤(d.length:Int))=true:=by simp;omega
   exact ⟨false,by simp only [go_sem,hx.len 43,hlt,L19_few_J2_eq,e1],fun h=>by cases h⟩
  ·have e1:decide ((40:Int)≤(d.length:Int))=false:=by simp;omega
   cases b with
   | false=>exact ⟨false,by simp only [go_sem,hx.len 43,hlt,L19_few_J2_eq,e1,hi,aload_cl,s1,Bool.not_false],fun h=>by cases h⟩
   | true =>
    obtain ⟨b2,k1,k2⟩:=ih (d++[c]) (by rw [hd];simp) (by simp;omega) (fun z hz=>by
     rcases List.mem_append.1 hz with h | h
     ·exact hs z h
     ·rw [List.mem_singleton.1 h];exact s2 rfl)
    rw [List.length_append,List.length_singleton] at k1
    refine ⟨b2,?_,k2⟩
    simp only [go_sem,hx.len 43,hlt,L19_few_J2_eq,e1,hi,aload_cl,s1,Bool.not_true,L19_few_J3_eq,hw1]
    exact k1
theorem CsV.close {x:AV} {cs:List Cl} (h:CsV x cs):∃ x',closeV [] 0 6 x=some x'∧CsV x' cs:=by
 obtain ⟨l,h1,h2,h3⟩:=h
 rcases h1 with ⟨rfl,rfl⟩ | ⟨tk,rfl⟩
 ·exact ⟨.nils,rfl,[],.inl ⟨rfl,rfl⟩,h2,h3⟩
 ·have : ∀ (l : List AV) (cs : List Cl), l.length = cs.length → (∀ (i : Nat) (a : AV) (c : Cl), l[i]? = some a → cs[i]? = some c → ClV a c) → ∃ l', l.mapM (closeV [] 0 5) = some l' ∧ l'.length = cs.length ∧ ∀ (i : Nat) (a : AV) (c : Cl), l'[i]? = some a → cs[i]? = some c → ClV a c := by
     intro l
     induction l with
     | nil=>intro cs hl hq;exact ⟨[],rfl,hl,fun i a c hi=>by cases hi⟩
     | cons a l ih =>
      intro cs hl hq
      cases cs with
      | nil=>cases hl
      | cons c cs =>
       obtain ⟨l',p1,p2,p3⟩:=ih cs (by simpa using hl) fun i a c h1 h2=>hq (i+1) a c h1 h2
       obtain ⟨y,rfl,hy⟩:=hq 0 a c rfl rfl
       obtain ⟨y',q1,q2⟩:=hy.closed [] 0 2
       refine ⟨.agg (c.cells y') :: l',?_,by simpa using p2,fun i a' c' h1 h2=>?_⟩
       ·have hc : closeV [] 0 5 (.agg (c.cells y)) = some (.agg (c.cells y')) := by
           rw [closeV_aggl]
           show (match ([.int .i64 c.op,.str c.name,y,.int .i64 c.at',.int .u64 (c.kept:Int)]:List AV).mapM (closeV [] 0 4) with | some l=>some (AV.agg l) | none=>none)=_
           simp only [List.mapM_cons,List.mapM_nil,q1]
           rfl
        rw [List.mapM_cons,hc,p1]
        rfl
       ·cases i with
        | zero =>
         simp only [List.getElem?_cons_zero,Option.some.injEq] at h1 h2
         subst h1 h2
         exact ⟨y',rfl,q2⟩
        | succ i=>exact p3 i a' c' h1 h2
  obtain ⟨l',p1,p2,p3⟩:=this l cs h2 h3
  refine ⟨_,by rw [closeV_vs',p1],l',.inr ⟨_,rfl⟩,p2,p3⟩
theorem few_flat {x:AV} {cs:List Cl} (hx:CsV x cs) (hl:cs.length≤1048576) (H:Hp):∃ b,flatC C_L19_few [x] H=some (.bool b,H)∧(b=true→CsOk cs):=by
 obtain ⟨x',h1,h2⟩:=hx.close
 obtain ⟨b,k1,k2⟩:=few_loop h2 hl [] [] cs [] rfl (by simp) (by simp)
 refine ⟨b,flat1 h1 (H1:=[]) ?_ rfl,k2⟩
 rw [F_L19_few_eq]
 unfold F_L19_few
 exact k1
end Go.Am
