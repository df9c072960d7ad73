/-
  The example of chapter 22 is answered as it should be: by what is known of splitting, the store, the temporary files and the runs.
-/
import Derived.Test.YtehanadfidoodaaGreatDoorNkQcx
import Derived.Test.YtehanadfidoodaaGreatDoorNkGAx
import Derived.Test.YtehanadfidoodaaGreatDoorNkYzx
namespace Go.Am
set_option linter.unusedSimpArgs false
set_option linter.unusedVariables false
set_option maxRecDepth 100000

def exN:Txt:=[46,116,109,112,46,97,46,49]
def exL:List Str:=[[98],[97]]
def exS:List Str:=[[97],[98]]
def exT:Tmp:=⟨[97],[],[],1000,0,false⟩
def exO:Sto:=⟨1000,0,[],false,0⟩
theorem exS_eq:sortS defL plainP exL = exS:=by kernel_rfl
theorem exN_eq:exN = tmpName exT.owner (exT.last + 1):=by kernel_rfl
theorem exN_ok:nameB exN = true:=by kernel_rfl
theorem exSplit:ckAll (ckRun cS 35 ([[97],[98,98],[99]]:List Str)) = [[[97],[98,98]],[[99]]]:=by kernel_rfl
theorem exO_ok:StoOk exO:=⟨by decide,by decide,by decide,by simp [exO],by simp [exO],by simp [exO],by simp [exO],by decide⟩
theorem exT_ok:TmpOk exT:=⟨by decide,by decide,by decide,by decide⟩
def exT1:Tmp:={ exT with last:=1,names:=[exN] }
def exO1:Sto:={ exO with files:=[⟨exN,[],0⟩] }
def exO2:Sto:={ exO1 with files:=[⟨exN,encS exS,0⟩],peak:=max 0 (0 + costR exS) }
def exO3:Sto:={ exO2 with files:=[⟨exN,encS exS,(encS exS).length⟩] }
def exT3:Tmp:={ exT1 with sld:=[exN] }
theorem exT1_ok:TmpOk exT1:=⟨by decide,by decide,by decide,by decide⟩
theorem exT3_ok:TmpOk exT3:=⟨by decide,by decide,by decide,by decide⟩
theorem awake22_spec:∃ H',C_L22_awake [] [] = some (.bool true,H'):=by
  have hcl:(encS exS).length ≤ 100:=by decide
  have hcc:costR exS ≤ 100:=by decide
  have hfit:fitsR exS = true:=by decide
  have o1:StoOk exO1:=⟨show (1000:Nat) ≤ 262144 by decide,by simp [exO1,usedL],show (0:Nat) ≤ 1000 by decide,by simp [exO1,exN_ok],by simp [exO1],by simp [exO1],by simp [exO1],show (0:Nat) ≤ 9223372036854775807 by decide⟩
  have o2:StoOk exO2:=⟨show (1000:Nat) ≤ 262144 by decide,by simp [exO2,exO1,exO,usedL]; omega,by simp [exO2,exO1,exO]; omega,by simp [exO2,exN_ok],by simp [exO2],by simp [exO2],by simp [exO2],show (0:Nat) ≤ 9223372036854775807 by decide⟩
  have o3:StoOk exO3:=⟨show (1000:Nat) ≤ 262144 by decide,by simp [exO3,exO2,exO1,exO,usedL]; omega,by simp [exO3,exO2,exO1,exO]; omega,by simp [exO3,exN_ok],by simp [exO3],by simp [exO3],by simp [exO3],show (0:Nat) ≤ 9223372036854775807 by decide⟩
  have hN:tmNew exT exO = ((exN,0),(exT1,exO1)):=run_new rfl rfl rfl exN_eq exN_ok rfl (by decide)
  have hW:tmWrite exT1 exO1 exN exS = (0,exO2):=run_write (fs:=[]) rfl rfl rfl (by simp [exT1]) (by simp [exT1,exT]) rfl rfl hfit (by simp [usedL,exO1,exO]; omega) (by simp [usedL,exT1,exT]; omega)
  have hSe:tmSeal exT1 exO2 exN = (0,(exT3,exO3)):=run_seal (fs:=[]) rfl rfl rfl (by simp [exT1]) rfl rfl
  obtain ⟨y,y1,y2⟩:=split_flat (mem:=35) (listSS [[97],[98,98],[99]] .clip) (by decide) (by decide) []
  rw [exSplit] at y2
  obtain ⟨H1,q1,q2,q3⟩:=New_run 1000 (by omega) []
  have hs0:(⟨(min (max 1000 0) 262144:Int).toNat,0,[],false,0⟩:Sto) = exO:=rfl
  rw [hs0] at q2
  obtain ⟨H2,A2,r1,r2,r3,r4⟩:=TOpen_empty q2 exO_ok rfl [97] (by decide) (by decide) 1000
  have htm:(⟨[97],[],[],(max 0 1000:Int).toNat,0,false⟩:Tmp) = exT:=rfl
  rw [htm] at r2
  obtain ⟨a,d1,d2⟩:=rdefault_flat H2
  obtain ⟨H3,A3,t1,t2⟩:=RWrite_ok (l:=exL) r2 exT_ok exO_ok (by decide) d2 defOk (specP plainP rfl) (noKeys rfl) (listSS exL .clip) (by decide) (by decide) (by rw [exS_eq]; omega) (by rw [exS_eq]; decide) hN exT1_ok o1 (by rw [exS_eq]; exact hW) o2 hSe
  have hop:=ROpen_run (H1.length + 1) exN H3
  have hrA3:H3.length ∉ A3:=fun h=>by have:=t2.at'.lt _ h; omega
  have g:(H3 ++ [AObj.cells (rdC (H1.length + 1) exN 0 false false [])])[H3.length]? = some (.cells (rdC (H1.length + 1) exN 0 false false [])):=by simp
  have hrd:Rdr (H3 ++ [AObj.cells (rdC (H1.length + 1) exN 0 false false [])]) H3.length (H1.length + 1) exN (encS exS) exS:=.inr (.inr ⟨[],g,rfl⟩)
  have hsys:SysAt (H3 ++ [AObj.cells (rdC (H1.length + 1) exN 0 false false [])]) (H1.length + 1) ((0:Nat) + 1) exT3 exO3 A3:=t2.at'.frame fun a ha=>List.getElem?_append_left (t2.at'.lt a ha)
  have hfind:tmFind exT3 exN = 0:=by simp [tmFind,exT3,exT1,exT]
  have hget:getF exO3.files exN = some ⟨exN,encS exS,(encS exS).length⟩:=by simp [getF,exO3]
  obtain ⟨H4,n1,n2,n3,n4⟩:=Next_run hsys exT3_ok o3 (f:=⟨exN,encS exS,(encS exS).length⟩) hrd hrA3 hfind rfl rfl hget hfit (by show (encS exS).length ≤ 262144; omega)
  obtain ⟨H5,p1,_⟩:=Peek_run n2 exT3_ok o3 (f:=⟨exN,encS exS,(encS exS).length⟩) n4 hrA3 hfind rfl rfl hget (by decide) (by show (encS exS).length ≤ 262144; omega)
  obtain ⟨b0,g1,g2⟩:∃ a,aindexS 1 y (.int .i64 0) = some (.vp [a]) ∧ SS a [[97],[98,98]]:=y2.get' (i:=0) rfl
  obtain ⟨b1,g3,g4⟩:∃ a,aindexS 1 y (.int .i64 1) = some (.vp [a]) ∧ SS a [[99]]:=y2.get' (i:=1) rfl
  have h2:alenD (.slice 32) y = some (.int .i64 2):=y2.len 32
  have l0:alenD (.slice 9) b0 = some (.int .i64 2):=g2.len 9
  have i1:aindexS 1 b1 (.int .i64 0) = some (.vp [.str [99]]):=SS.idx g4 (i:=0) (s:=[99]) rfl
  have s1:(setElems 1 [(0,(.str [97])),(1,(.str [98,98])),(2,(.str [99]))] [(.str []),(.str []),(.str [])]).map (AV.vs 1 .clip) = some (AV.vs 1 .clip ([[97],[98,98],[99]].map AV.str)):=rfl
  have s2:(setElems 1 [(0,(.str [98])),(1,(.str [97]))] [(.str []),(.str [])]).map (AV.vs 1 .clip) = some (AV.vs 1 .clip (exL.map AV.str)):=rfl
  have s3:(afill [(1,1,(.int .i64 (-1)))] [.nils,(.int .i64 0),(.int .i64 0),(.bool false),(.bool false)]).map AV.agg = some (.agg (plainP.cells .nils)):=rfl
  have e0:((0:Int) != 0) = false:=rfl
  have e1:((0:Int) == 0) = true:=rfl
  have e2:((2:Int) != 2) = false:=rfl
  have e3:(([99]:Txt) == [99]) = true:=by decide
  have e4:(exN == [46,116,109,112,46,97,46,49]) = true:=by decide
  have e5:(([97]:Txt) == [97]) = true:=by decide
  have e6:(([98]:Txt) == [98]) = true:=by decide
  have c0:exS.headD [] = [97]:=rfl
  have c1:exS.isEmpty = false:=rfl
  have c2:exS.tail.headD [] = [98]:=rfl
  have c3:exS.tail.isEmpty = false:=rfl
  refine ⟨H5,?_⟩
  rw [F_L22_awake_eq]
  unfold F_L22_awake
  simp only [s1,y1,q1,go_sem,r1,List.getElem?_cons_zero,List.getElem?_cons_succ,d1,s2,s3,t1,hop,n1,p1,h2,g1,g3,l0,i1,aload_vpc,e0,e1,e2,e3,e4,e5,e6,c0,c1,c2,c3,Bool.not_false,Bool.not_true,L22_awake_J1_eq]
theorem awake22_go (H:Hp):flatC C_L22_awake [] H = some (.bool true,H):=by
  obtain ⟨H',h⟩:=awake22_spec
  exact flatC_of (args':=[]) (by simp) h (by simp [flatV])
end Go.Am
namespace Go.Am
set_option linter.unusedSimpArgs false
set_option linter.unusedVariables false
set_option linter.unusedSectionVars false
set_option maxRecDepth 100000

section
variable {H:Hp} {o t:Nat} {tm:Tmp} {s:Sto} {A:List Nat} (h:SysAt H o t tm { s with count:=1 } A) (hm:TmpOk tm) (hk:StoOk s) {n:Txt} {r:Nat} {text:Txt} {rest:List Txt}
  (hr:Rdr H r o n text rest) (hrA:r ∉ A) (hf:tmFind tm n = 0) (hc:s.crashed = false) (h0:s.count = 0) (hlen:text.length ≤ 262144)
include h hm hk hr hrA hf hc h0 hlen
theorem PeekF_run:∃ H' a b e s2,C_runs_Reader_Peek [.ptr r 0] H = some (.tuple [a,b,.int .i64 e],H') ∧ (e = 0 ∨ e = 19) ∧ SysAt H' o t tm s2 A ∧ Stp A H H' ∧ Rdr H' r o n text rest ∧ s2.files = s.files ∧ StoOk s2 ∧ ({ s2 with crashed:=false,count:=0 }:Sto) = s:=by
  have hk1:StoOk { s with count:=1 }:=⟨hk.limit,hk.used,hk.peak,hk.name,hk.nd,hk.syn,hk.len,by simp⟩
  have hs1:({ ({ s with count:=1 }:Sto) with crashed:=false,count:=0 }:Sto) = s:=by
    cases s; simp only at hc h0; subst hc; subst h0; rfl
  have ht:({ s with count:=1 }:Sto).tick = { s with crashed:=true,count:=0 }:=by
    unfold Sto.tick
    rw [if_neg (by simp [hc]),if_pos rfl]
  have hs2:({ ({ s with crashed:=true,count:=0 }:Sto) with crashed:=false,count:=0 }:Sto) = s:=by
    cases s; simp only at hc h0; subst hc; subst h0; rfl
  have hk2:StoOk { s with crashed:=true,count:=0 }:=⟨hk.limit,hk.used,hk.peak,hk.name,hk.nd,hk.syn,hk.len,by simp⟩
  have hnil:ebin (.pointer 125) .eql (.ptr r 0) .nilp = some (.bool false):=rfl
  rw [F_runs_Reader_Peek_eq]
  unfold F_runs_Reader_Peek
  have hrd:=hr
  rcases hr with ⟨l,q,p,hr,rfl,htx⟩ | ⟨rfl,p,hr⟩ | ⟨p,hr,htx⟩
  · have l3:=ldn hr 3 (v:=.bool true) rfl
    have l5:=ldn hr 5 (v:=.str l) rfl
    refine ⟨H,.str l,.bool true,0,_,?_,.inl rfl,h,Stp.refl _ _,hrd,rfl,hk1,hs1⟩
    simp only [go_sem,Nat.zero_add,hnil,runs_Reader_Peek_J1_eq,l3,Bool.not_true,runs_Reader_Peek_J2_eq,runs_Reader_Peek_J3_eq,l5]
  · have l3:=ldn hr 3 (v:=.bool false) rfl
    have l4:=ldn hr 4 (v:=.bool true) rfl
    refine ⟨H,.str [],.bool false,0,_,?_,.inl rfl,h,Stp.refl _ _,hrd,rfl,hk1,hs1⟩
    simp only [go_sem,Nat.zero_add,hnil,runs_Reader_Peek_J1_eq,l3,l4,Bool.not_true,Bool.not_false,runs_Reader_Peek_J2_eq]
  · have l3:=ldn hr 3 (v:=.bool false) rfl
    have l4:=ldn hr 4 (v:=.bool false) rfl
    have l0:=ldn hr 0 (v:=.ptr o 0) rfl
    have l1:=ldn hr 1 (v:=.str n) rfl
    have l2:=ldn hr 2 (v:=.int .i64 (p.length:Int)) rfl
    have hpl:p.length ≤ text.length:=by rw [htx]; simp
    obtain ⟨H1,q1,q2,q3⟩:=TRead_crash h hm hk1 n hf (by rw [ht]) (p.length:Int) (by omega)
    rw [ht] at q2
    have e1:((19:Int) == 0) = false:=rfl
    have e2:((19:Int) == 5) = false:=rfl
    refine ⟨H1,.str [],.bool false,19,_,?_,.inr rfl,q2,q3,hrd.frame (q3.at' r (lt_of_get hr) hrA),rfl,hk2,hs2⟩
    simp only [go_sem,Nat.zero_add,hnil,runs_Reader_Peek_J1_eq,l3,l4,l0,l1,l2,q1,List.getElem?_cons_zero,List.getElem?_cons_succ,e1,e2,Bool.not_false]
end
theorem Crash_run {H : Hp} {o t : Nat} {tm : Tmp} {s : Sto} {A : List Nat} (h : SysAt H o t tm s A) (hm : TmpOk tm) (hk : StoOk s) {n : Txt} {r : Nat} {text : Txt} {rest : List Txt}
    (hr:Rdr H r o n text rest) (hrA:r ∉ A) (hf:tmFind tm n = 0) (hc:s.crashed = false) (h0:s.count = 0) (hlen:text.length ≤ 262144) (hsy:∀ f ∈ s.files,f.syn = f.text.length) :
    ∃ H1 H2 H3 a b e A',C_store_Store_FailAfter [.ptr t 0,.int .i64 1] H = some (.tuple [],H1) ∧ C_runs_Reader_Peek [.ptr r 0] H1 = some (.tuple [a,b,.int .i64 e],H2) ∧ (e = 0 ∨ e = 19) ∧
      C_store_Store_Restart [.ptr t 0,.int .u64 0] H2 = some (.tuple [],H3) ∧ SysRes H H3 o t tm s A A':=by
  obtain ⟨B,S,hB,hS,hd,rfl⟩:=h
  obtain ⟨H1,p1,p2⟩:=FailAfter_run hS hc 1 (by omega)
  have r1:=SysAt.store (tm:=tm) hB hd p2
  have g1:H1[r]? = H[r]?:=by
    obtain ⟨c,hcl⟩:=hr.cells
    exact r1.stp.at' r (lt_of_get hcl) hrA
  obtain ⟨H2,a,b,e,s2,q1,q2,q3,q4,q5,q6,q7,q8⟩:=PeekF_run r1.at' hm hk (hr.frame g1) hrA hf hc h0 hlen
  obtain ⟨B2,S2,kB,kS,kd,ke⟩:=q3
  obtain ⟨H3,S3,w1,w2⟩:=Restart0_run kS q7 (by rw [q6]; exact hsy)
  rw [q8] at w2
  have r3:=SysAt.store (tm:=tm) kB kd w2
  rw [← ke] at r3
  exact ⟨H1,H2,H3,a,b,e,_,p1,q1,q2,w1,r3.at',(r1.stp.trans q4 (fun _ h=>h) (fun _ h=>.inl h)).trans r3.stp (fun _ h=>h) (fun _ h=>.inl h),fun x hx=>(r3.own x hx).elim .inl fun hh=>.inr (Nat.le_trans (Nat.le_trans r1.stp.len q4.len) hh)⟩
end Go.Am
namespace Go.Am
set_option linter.unusedSimpArgs false
set_option linter.unusedVariables false
set_option linter.unusedSectionVars false
set_option maxRecDepth 100000

def BS (x:AV) (l:List Bool):Prop:=Sl 1 x (l.map AV.bool)
theorem BS.idx {x:AV} {l:List Bool} (h:BS x l) {i:Nat} {b:Bool} (hi:l[i]? = some b):aindexS 1 x (.int .i64 (i:Int)) = some (.vp [.bool b]):=by
  have:=Sl.idx h (i:=i) (c:=.bool b) (by rw [List.getElem?_map,hi]; rfl)
  exact this
section
variable {x0 x1:AV} {l:List Str} {bs:List Bool} (hx:SS x0 l) (hl:l.length ≤ 12) (hb:BS x1 bs) (hbl:bs.length ≤ 1048576) (mc:Int)
  {o t r k:Nat} {tm:Tmp} {s:Sto} {n:Txt} {f:Fil} (hm:TmpOk tm) (hk:StoOk s) (hrk:r ≠ k)
  (hf:tmFind tm n = 0) (hc:s.crashed = false) (h0:s.count = 0) (hg:getF s.files n = some f) (hlen:f.text.length ≤ 262144) (hsy:∀ g ∈ s.files,g.syn = g.text.length)
include hx hl hb hbl hm hk hrk hf hc h0 hg hlen hsy
theorem peeks_loop (H0 : Hp) : ∀ (q i : Nat) (rest : List Txt) (A : List Nat) (H : Hp), q + i = 2 * l.length + 2 → fitsR rest = true → SysAt H o t tm s A → Rdr H r o n f.text rest → Rdr H k o n f.text rest → r ∉ A → k ∉ A →
    ∃ H',L22_RunsPeeks_L1 x0 x1 (.int .i64 mc) (.ptr t 0) (.ptr r 0) (.ptr k 0) (.int .i64 (i:Int)) H0 H = some (.bool true,H'):=by
  have hn0:=SS.len hx 9
  have hn1:alenD (.slice 4) x1 = some (.int .i64 (bs.length:Int)):=by have:=Sl.len hb 4; rwa [List.length_map] at this
  have hw0:IntKind.i64.wrap (2 * (l.length:Int)) = ((2 * l.length:Nat):Int):=by rw [wrap64 (by omega) (by omega)]; omega
  have hw2:IntKind.i64.wrap (((2 * l.length:Nat):Int) + 2) = ((2 * l.length + 2:Nat):Int):=by rw [wrap64 (by omega) (by omega)]; omega
  have e0:((0:Int) != 0) = false:=rfl
  intro q
  induction q with
  | zero =>
    intro i rest A H hi _ _ _ _ _ _
    have hlt:decide ((i:Int) < ((2 * l.length + 2:Nat):Int)) = false:=by rw [decide_eq_false_iff_not]; omega
    refine ⟨H,?_⟩
    rw [L22_RunsPeeks_L1_eq]
    simp only [hn0,go_sem,hw0,hw2,hlt,L22_RunsPeeks_J5_eq,awake22_go]
  | succ q ih =>
    intro i rest A H hi hfit hsys hr1 hr2 hrA hkA
    have hlt:decide ((i:Int) < ((2 * l.length + 2:Nat):Int)) = true:=by rw [decide_eq_true_eq]; omega
    by_cases hib:i < bs.length
    · have hlt2:decide ((i:Int) < (bs.length:Int)) = true:=by rw [decide_eq_true_eq]; omega
      have hw1:IntKind.i64.wrap ((i:Int) + 1) = ((i + 1:Nat):Int):=by rw [wrap64 (by omega) (by omega)]; omega
      have hbi:bs[i]? = some bs[i]:=List.getElem?_eq_getElem hib
      have hidx:=hb.idx hbi
      -- what comes after the crash,if there is one
      have hJ8 : ∀ (A : List Nat) (H : Hp), SysAt H o t tm s A → Rdr H r o n f.text rest → Rdr H k o n f.text rest → r ∉ A → k ∉ A →
          ∃ H',L22_RunsPeeks_J8 x0 x1 (.int .i64 mc) (.ptr t 0) (.ptr r 0) (.ptr k 0) (.int .i64 (i:Int)) H0 H = some (.bool true,H'):=by
        intro A H hsys hr1 hr2 hrA hkA
        obtain ⟨H1,p1,p2,p3,p4⟩:=Peek_run hsys hm hk hr1 hrA hf hc h0 hg hfit hlen
        have hr1':Rdr H1 r o n f.text rest:=by
          rcases p4 with ⟨rfl,p,g⟩ | ⟨l',q',p,g,rfl,htx⟩
          · exact .inr (.inl ⟨rfl,p,g⟩)
          · exact .inl ⟨l',q',p,g,rfl,htx⟩
        have hkr:k ∉ r :: A:=fun h=>by
          rcases List.mem_cons.1 h with e | h
          · exact hrk e.symm
          · exact hkA h
        have hk1:H1[k]? = H[k]?:=by
          obtain ⟨c,hcl⟩:=hr2.cells
          exact p3.at' k (lt_of_get hcl) hkr
        rw [L22_RunsPeeks_J8_eq]
        cases hbv:bs[i] with
        | true =>
          rw [hbv] at hidx
          obtain ⟨H',m1⟩:=ih (i + 1) rest A H1 (by omega) hfit p2 hr1' (hr2.frame hk1) hrA hkA
          refine ⟨H',?_⟩
          simp only [p1,go_sem,List.getElem?_cons_zero,List.getElem?_cons_succ,hidx,aload_vpc,L22_RunsPeeks_J7_eq,hw1]
          exact m1
        | false =>
          rw [hbv] at hidx
          obtain ⟨H2,a1,a2,a3,a4⟩:=Next_run p2 hm hk hr1' hrA hf hc h0 hg hfit hlen
          have hk2:H2[k]? = H[k]?:=by
            obtain ⟨c,hcl⟩:=hr2.cells
            rw [a3.at' k (Nat.lt_of_lt_of_le (lt_of_get hcl) p3.len) hkr,hk1]
          obtain ⟨H3,b1,b2,b3,b4⟩:=Next_run a2 hm hk (hr2.frame hk2) hkA hf hc h0 hg hfit hlen
          have hr3:H3[r]? = H2[r]?:=by
            obtain ⟨c,hcl⟩:=a4.cells
            refine b3.at' r (lt_of_get hcl) fun h=>?_
            rcases List.mem_cons.1 h with e | h
            · exact hrk e
            · exact hrA h
          have hfit':fitsR rest.tail = true:=by
            cases rest with
            | nil=>rfl
            | cons a b =>
              simp only [fitsR,List.all_cons,Bool.and_eq_true] at hfit
              exact hfit.2
          obtain ⟨H',m1⟩:=ih (i + 1) rest.tail A H3 (by omega) hfit' b2 (a4.frame hr3) b4 hrA hkA
          have es:(rest.headD [] == rest.headD []) = true:=by simp
          have eb:∀ b:Bool,ebin .bool .neq (.bool b) (.bool b) = some (.bool false):=fun b=>by cases b <;> rfl
          refine ⟨H',?_⟩
          simp only [p1,go_sem,List.getElem?_cons_zero,List.getElem?_cons_succ,hidx,aload_vpc,L22_RunsPeeks_J9_eq,a1,b1,es,Bool.not_true,eb,e0,L22_RunsPeeks_J7_eq,hw1]
          exact m1
      by_cases hcr:(i:Int) = mc
      · have ec:((i:Int) == mc) = true:=by simpa using hcr
        obtain ⟨H1,H2,H3,a,b,e,A',c1,c2,c3,c4,c5⟩:=Crash_run hsys hm hk hr1 hrA hf hc h0 hlen hsy
        have fr:∀ j,j ∉ A → Rdr H j o n f.text rest → Rdr H3 j o n f.text rest ∧ j ∉ A':=fun j hj hr=>by
          obtain ⟨c,hcl⟩:=hr.cells
          exact ⟨hr.frame (c5.stp.at' j (lt_of_get hcl) hj),fun h=>(c5.own j h).elim hj fun hh=>by have:=lt_of_get hcl; omega⟩
        obtain ⟨f1,f2⟩:=fr r hrA hr1
        obtain ⟨f3,f4⟩:=fr k hkA hr2
        obtain ⟨H',m1⟩:=hJ8 A' H3 c5.at' f1 f3 f2 f4
        refine ⟨H',?_⟩
        rw [L22_RunsPeeks_L1_eq]
        rcases c3 with rfl | rfl
        · simp only [hn0,hn1,go_sem,hw0,hw2,hlt,hlt2,L22_RunsPeeks_J6_eq,ec,c1,c2,List.getElem?_cons_zero,List.getElem?_cons_succ,e0,L22_RunsPeeks_J10_eq,c4]
          exact m1
        · have e19:((19:Int) != 0) = true:=rfl
          have e191:((19:Int) != 19) = false:=rfl
          simp only [hn0,hn1,go_sem,hw0,hw2,hlt,hlt2,L22_RunsPeeks_J6_eq,ec,c1,c2,List.getElem?_cons_zero,List.getElem?_cons_succ,e19,e191,L22_RunsPeeks_J10_eq,c4]
          exact m1
      · have ec:((i:Int) == mc) = false:=by simpa using hcr
        obtain ⟨H',m1⟩:=hJ8 A H hsys hr1 hr2 hrA hkA
        refine ⟨H',?_⟩
        rw [L22_RunsPeeks_L1_eq]
        simp only [hn0,hn1,go_sem,hw0,hw2,hlt,hlt2,L22_RunsPeeks_J6_eq,ec]
        exact m1
    · have hlt2:decide ((i:Int) < (bs.length:Int)) = false:=by rw [decide_eq_false_iff_not]; omega
      refine ⟨H,?_⟩
      rw [L22_RunsPeeks_L1_eq]
      simp only [hn0,hn1,go_sem,hw0,hw2,hlt,hlt2,L22_RunsPeeks_J5_eq,awake22_go]
end
def ownP:Txt:=[98]
def nameP:Txt:=tmpName ownP 1
theorem nameP_ok:nameB nameP = true:=by kernel_rfl
def stoP:Sto:=⟨262144,0,[],false,0⟩
theorem stoP_ok:StoOk stoP:=⟨by decide,by decide,by decide,by simp [stoP],by simp [stoP],by simp [stoP],by simp [stoP],by decide⟩
def tmP:Tmp:=⟨ownP,[],[],262144,0,false⟩
theorem fitsP_of {l:List Txt} (h:∀ s ∈ l,s.length ≤ 4096):fitsR l = true:=List.all_eq_true.2 fun s hs=>by simpa using h s hs
theorem peeks_tail {x0 x1 : AV} {l : List Str} {bs : List Bool} (hx : SS x0 l) (hL4 : ∀ s ∈ l, s.length ≤ 4096) (hl : l.length ≤ 12) (hb : BS x1 bs) (hbl : bs.length ≤ 1048576) (mc : Int) (H0 H : Hp) :
    ∃ H',L22_RunsPeeks_J2 x0 x1 (.int .i64 mc) H0 H = some (.bool true,H'):=by
  have hL:Lens l:=fun s hs=>by have:=hL4 s hs; omega
  have hks:∀ k ∈ plainP.keys,KeOk k:=noKeys rfl
  have hsp:SpecAV (.agg (plainP.cells .nils)) plainP:=specP plainP rfl
  obtain ⟨H1,q1,q2,q3⟩:=New_run 262144 (by omega) H
  have hs0:(⟨(min (max 262144 0) 262144:Int).toNat,0,[],false,0⟩:Sto) = stoP:=rfl
  rw [hs0] at q2
  have hlen1:H1.length = H.length + 2:=by rw [q3]; simp
  obtain ⟨H2,A2,r1,r2,r3,r4⟩:=TOpen_empty q2 stoP_ok rfl ownP (by decide) (by decide) 262144
  have htm:(⟨ownP,[],[],(max 0 262144:Int).toNat,0,false⟩:Tmp) = tmP:=rfl
  rw [htm] at r2
  obtain ⟨a,d1,d2⟩:=rdefault_flat H2
  have hR4:∀ s ∈ sortS defL plainP l,s.length ≤ 4096:=fun s hs=>hL4 s (sortS_mem defL plainP l s hs)
  have hRl:=sortS_len defL plainP l
  have hcost:=costR_le _ hR4
  have hmul:(sortS defL plainP l).length * 4102 ≤ 12 * 4102:=Nat.mul_le_mul_right _ (by omega)
  have hfit:=fitsP_of hR4
  have tmP_ok:TmpOk tmP:=⟨by decide,by decide,by decide,by decide⟩
  let tm1:Tmp:={ tmP with last:=1,names:=[nameP] }
  let s1:Sto:={ stoP with files:=[⟨nameP,[],0⟩] }
  let s2:Sto:={ s1 with files:=[⟨nameP,encS (sortS defL plainP l),0⟩],peak:=max 0 (0 + costR (sortS defL plainP l)) }
  let s3:Sto:={ s2 with files:=[⟨nameP,encS (sortS defL plainP l),(encS (sortS defL plainP l)).length⟩] }
  let tm3:Tmp:={ tm1 with sld:=[nameP] }
  have hN:tmNew tmP stoP = ((nameP,0),(tm1,s1)):=run_new rfl rfl rfl rfl nameP_ok rfl (by decide)
  have hW:tmWrite tm1 s1 nameP (sortS defL plainP l) = (0,s2):=run_write (fs:=[]) rfl rfl rfl (by simp [tm1]) (by simp [tm1,tmP]) rfl rfl hfit (by simp [usedL,s1,stoP]; omega) (by simp [usedL,tm1,tmP]; omega)
  have hSe:tmSeal tm1 s2 nameP = (0,(tm3,s3)):=run_seal (fs:=[]) rfl rfl rfl (by simp [tm1]) rfl rfl
  have tm1_ok:TmpOk tm1:=⟨by decide,by decide,by simp [tm1],by decide⟩
  have tm3_ok:TmpOk tm3:=⟨by decide,by decide,by simp [tm3,tm1],by decide⟩
  have s1_ok:StoOk s1:=⟨by decide,by simp [s1,usedL],by decide,by simp [s1,nameP_ok],by simp [s1],by simp [s1],by simp [s1],by decide⟩
  have hel:=encS_len (sortS defL plainP l)
  have s2_ok:StoOk s2:=⟨show (262144:Nat) ≤ 262144 from Nat.le_refl _,by simp [s2,s1,stoP,usedL]; omega,by simp [s2,s1,stoP]; omega,by simp [s2,nameP_ok],by simp [s2],by simp [s2],by simp [s2],show (0:Nat) ≤ 9223372036854775807 by decide⟩
  have s3_ok:StoOk s3:=⟨show (262144:Nat) ≤ 262144 from Nat.le_refl _,by simp [s3,s2,s1,stoP,usedL]; omega,by simp [s3,s2,s1,stoP]; omega,by simp [s3,nameP_ok],by simp [s3],by simp [s3],by simp [s3],show (0:Nat) ≤ 9223372036854775807 by decide⟩
  obtain ⟨H3,A3,t1,t2⟩:=RWrite_ok r2 tmP_ok stoP_ok (by decide) d2 defOk hsp hks hx hL (by omega) (by omega) (fun s hs=>by have:=hR4 s hs; omega) hN tm1_ok s1_ok hW s2_ok hSe
  have hA3:=t2.at'.lt
  have hop:=ROpen_run (H1.length + 1) nameP H3
  have hop2:=ROpen_run (H1.length + 1) nameP (H3 ++ [.cells (rdC (H1.length + 1) nameP 0 false false [])])
  have g1:((H3 ++ [AObj.cells (rdC (H1.length + 1) nameP 0 false false [])]) ++ [AObj.cells (rdC (H1.length + 1) nameP 0 false false [])])[H3.length]? = some (.cells (rdC (H1.length + 1) nameP 0 false false [])):=by simp
  have g2:((H3 ++ [AObj.cells (rdC (H1.length + 1) nameP 0 false false [])]) ++ [AObj.cells (rdC (H1.length + 1) nameP 0 false false [])])[(H3 ++ [AObj.cells (rdC (H1.length + 1) nameP 0 false false [])]).length]? = some (.cells (rdC (H1.length + 1) nameP 0 false false [])):=by
    rw [List.getElem?_append_right (Nat.le_refl _)]; simp
  have hsys:SysAt ((H3 ++ [AObj.cells (rdC (H1.length + 1) nameP 0 false false [])]) ++ [AObj.cells (rdC (H1.length + 1) nameP 0 false false [])]) (H1.length + 1) (H.length + 1) tm3 s3 A3:=t2.at'.frame fun a ha=>by
    have:=hA3 a ha
    rw [List.append_assoc,List.getElem?_append_left this]
  obtain ⟨H',hm⟩:=peeks_loop hx hl hb hbl mc (k:=(H3 ++ [AObj.cells (rdC (H1.length + 1) nameP 0 false false [])]).length) (r:=H3.length) (f:=⟨nameP,encS (sortS defL plainP l),(encS (sortS defL plainP l)).length⟩) (n:=nameP)
    tm3_ok s3_ok (by simp) (by simp [tmFind,tm3,tm1,tmP]) rfl rfl (by simp [getF,s3]) (by show (encS (sortS defL plainP l)).length ≤ 262144; omega) (by simp [s3]) H0 (2 * l.length + 2) 0 (sortS defL plainP l) A3 _ rfl hfit hsys
    (.inr (.inr ⟨[],g1,rfl⟩)) (.inr (.inr ⟨[],g2,rfl⟩)) (fun h=>by have:=hA3 _ h; omega) (fun h=>by have:=hA3 _ h; simp at this; omega)
  refine ⟨H',?_⟩
  have e0:((0:Int) != 0) = false:=rfl
  have hnil:ebin (.pointer 117) .eql (.ptr (H1.length + 1) 0) .nilp = some (.bool false):=rfl
  have r1':C_tempfile_Open [.ptr (H.length + 1) 0,.str [98],.int .i64 262144] H1 = some (.tuple [.ptr (H1.length + 1) 0,.int .i64 0],H2):=r1
  have hfill:(afill [(1,1,(.int .i64 (-1)))] [.nils,(.int .i64 0),(.int .i64 0),(.bool false),(.bool false)]).map AV.agg = some (.agg (plainP.cells .nils)):=rfl
  rw [L22_RunsPeeks_J2_eq]
  simp only [q1,go_sem,r1',List.getElem?_cons_zero,List.getElem?_cons_succ,e0,hnil,L22_RunsPeeks_J3_eq,d1,hfill,t1,L22_RunsPeeks_J4_eq,hop,hop2]
  exact hm
theorem peeks_max {x0 x1 : AV} {l : List Str} {bs : List Bool} (hx : SS x0 l) (hl : l.length ≤ 12) (hb : BS x1 bs) (hbl : bs.length ≤ 1048576) (mc : Int) (H0 H : Hp) : ∀ (r d : List Str), l = d ++ r → (∀ s ∈ d, s.length ≤ 4096) →
    ∃ H',L22_RunsPeeks_L2 x0 x1 (.int .i64 mc) (.int .i64 (d.length:Int)) H0 H = some (.bool true,H'):=by
  have hn:=SS.len hx 9
  intro r
  induction r with
  | nil =>
    intro d hd h4
    rw [List.append_nil] at hd
    subst hd
    have hlt:decide ((l.length:Int) < (l.length:Int)) = false:=by simp
    obtain ⟨H',hm⟩:=peeks_tail hx h4 hl hb hbl mc H0 H
    refine ⟨H',?_⟩
    rw [L22_RunsPeeks_L2_eq]
    simp only [go_sem,hn,hlt]
    exact hm
  | cons s r ih =>
    intro d hd h4
    have hlen:l.length = d.length + (r.length + 1):=by rw [hd]; simp
    have hlt:decide ((d.length:Int) < (l.length:Int)) = true:=by rw [decide_eq_true_eq]; omega
    have hw1:IntKind.i64.wrap ((d.length:Int) + 1) = ((d.length + 1:Nat):Int):=by rw [wrap64 (by omega) (by omega)]; omega
    have his:l[d.length]? = some s:=by rw [hd,List.getElem?_append_right (Nat.le_refl _)]; simp
    have hidx:=SS.idx hx his
    rw [L22_RunsPeeks_L2_eq]
    by_cases h:4096 < s.length
    · have e1:decide ((4096:Int) < (s.length:Int)) = true:=by rw [decide_eq_true_eq]; omega
      exact ⟨H,by simp only [go_sem,hn,hlt,L22_RunsPeeks_J11_eq,hidx,aload_vpc,e1,awake22_go]⟩
    · have e1:decide ((4096:Int) < (s.length:Int)) = false:=by rw [decide_eq_false_iff_not]; omega
      obtain ⟨H',hm⟩:=ih (d ++ [s]) (by rw [hd]; simp) (fun t ht=>by
        rcases List.mem_append.1 ht with k | k
        · exact h4 t k
        · rw [List.mem_singleton.1 k]; omega)
      rw [List.length_append,List.length_singleton] at hm
      refine ⟨H',?_⟩
      simp only [go_sem,hn,hlt,L22_RunsPeeks_J11_eq,hidx,aload_vpc,e1,L22_RunsPeeks_J12_eq,hw1]
      exact hm
theorem Peeks_law {x0 x1:AV} {l:List Str} {bs:List Bool} (hx:SS x0 l) (hL:Lens l) (hl:l.length ≤ 1048576) (hb:BS x1 bs) (hbl:bs.length ≤ 1048576) (mc:Int) (H:Hp):∃ H',C_L22_RunsPeeks [x0,x1,.int .i64 mc] H = some (.bool true,H'):=by
  obtain ⟨b1,q1,q2⟩:=small_flat hx hl hL H
  have haw:=awake22_go H
  rw [F_L22_RunsPeeks_eq]
  unfold F_L22_RunsPeeks
  cases b1 with
  | false=>exact ⟨_,by simp only [go_sem,q1,Bool.not_false,haw]; rfl⟩
  | true =>
    obtain ⟨H',hm⟩:=peeks_max hx (q2 rfl) hb hbl mc H H l [] rfl (by simp)
    refine ⟨H',?_⟩
    simp only [go_sem,q1,Bool.not_true,L22_RunsPeeks_J1_eq]
    exact hm
end Go.Am
namespace Go.Am
open Go.Proofs Go.Proofs.YtehanadfidoodaaGreatDoor
set_option maxRecDepth 100000
def argTypesP:List Nat:=[3,4,9,32,58]
theorem argTypesP_ok:argTypesP.all (plainIn Tryz.prog argTypesP) = true:=by kernel_rfl
theorem under_58:Tryz.prog.underlying 58 = some (.slice 4):=by kernel_rfl
theorem agg_58:aggOf Tryz.prog 58 = false:=by kernel_rfl
theorem agg_4:aggOf Tryz.prog 4 = false:=by kernel_rfl
theorem cells_4:Tryz.prog.cellsOf 4 = 1:=by kernel_rfl
section
variable {H:Type}
theorem bools_of {d:DataW H} {a:AV} (h:AT Tryz.prog 58 d a) (hb:Small d):∃ l:List Bool,BS a l ∧ l.length ≤ 1048576:=by
  obtain ⟨n,vals,ht,rfl⟩:=h
  obtain ⟨x,ks,rfl,h1,_,h3⟩:=list_tv (f:=AV.bool) (q:=fun _:Bool=>True) under_58 cells_4 (fun m d' cs ht hb=>by
    obtain ⟨b,es,rfl⟩:=ht.bool under_4
    exact ⟨b,trivial,by rw [agg_4,ofCells_one]⟩) ht hb
  rw [agg_58,ofCells_one]
  exact ⟨ks,h1,h3⟩
end
end Go.Am
