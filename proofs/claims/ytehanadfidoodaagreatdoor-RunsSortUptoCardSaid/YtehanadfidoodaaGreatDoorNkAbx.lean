/-
  The example of chapter 22 is answered as it should be: by what is known of splitting, the store, the temporary files and the runs.
-/
import Derived.Test.YtehanadfidoodaaGreatDoorNkQcx
import Derived.Test.YtehanadfidoodaaGreatDoorNkGAx
namespace Go.Am
set_option linter.unusedSimpArgs false
set_option linter.unusedVariables false
set_option maxRecDepth 100000

def exN:Txt:=[46,116,109,112,46,97,46,49]
def exL:List Str:=[[98],[97]]
def exS:List Str:=[[97],[98]]
def exT:Tmp:=⟨[97],[],[],1000,0,false⟩
def exO:Sto:=⟨1000,0,[],false,0⟩
theorem exS_eq:sortS defL plainP exL = exS:=by kernel_rfl
theorem exN_eq:exN = tmpName exT.owner (exT.last + 1):=by kernel_rfl
theorem exN_ok:nameB exN = true:=by kernel_rfl
theorem exSplit:ckAll (ckRun cS 35 ([[97],[98,98],[99]]:List Str)) = [[[97],[98,98]],[[99]]]:=by kernel_rfl
theorem exO_ok:StoOk exO:=⟨by decide,by decide,by decide,by simp [exO],by simp [exO],by simp [exO],by simp [exO],by decide⟩
theorem exT_ok:TmpOk exT:=⟨by decide,by decide,by decide,by decide⟩
def exT1:Tmp:={ exT with last:=1,names:=[exN] }
def exO1:Sto:={ exO with files:=[⟨exN,[],0⟩] }
def exO2:Sto:={ exO1 with files:=[⟨exN,encS exS,0⟩],peak:=max 0 (0 + costR exS) }
def exO3:Sto:={ exO2 with files:=[⟨exN,encS exS,(encS exS).length⟩] }
def exT3:Tmp:={ exT1 with sld:=[exN] }
theorem exT1_ok:TmpOk exT1:=⟨by decide,by decide,by decide,by decide⟩
theorem exT3_ok:TmpOk exT3:=⟨by decide,by decide,by decide,by decide⟩
theorem awake22_spec:∃ H',C_L22_awake [] [] = some (.bool true,H'):=by
  have hcl:(encS exS).length ≤ 100:=by decide
  have hcc:costR exS ≤ 100:=by decide
  have hfit:fitsR exS = true:=by decide
  have o1:StoOk exO1:=⟨show (1000:Nat) ≤ 262144 by decide,by simp [exO1,usedL],show (0:Nat) ≤ 1000 by decide,by simp [exO1,exN_ok],by simp [exO1],by simp [exO1],by simp [exO1],show (0:Nat) ≤ 9223372036854775807 by decide⟩
  have o2:StoOk exO2:=⟨show (1000:Nat) ≤ 262144 by decide,by simp [exO2,exO1,exO,usedL]; omega,by simp [exO2,exO1,exO]; omega,by simp [exO2,exN_ok],by simp [exO2],by simp [exO2],by simp [exO2],show (0:Nat) ≤ 9223372036854775807 by decide⟩
  have o3:StoOk exO3:=⟨show (1000:Nat) ≤ 262144 by decide,by simp [exO3,exO2,exO1,exO,usedL]; omega,by simp [exO3,exO2,exO1,exO]; omega,by simp [exO3,exN_ok],by simp [exO3],by simp [exO3],by simp [exO3],show (0:Nat) ≤ 9223372036854775807 by decide⟩
  have hN:tmNew exT exO = ((exN,0),(exT1,exO1)):=run_new rfl rfl rfl exN_eq exN_ok rfl (by decide)
  have hW:tmWrite exT1 exO1 exN exS = (0,exO2):=run_write (fs:=[]) rfl rfl rfl (by simp [exT1]) (by simp [exT1,exT]) rfl rfl hfit (by simp [usedL,exO1,exO]; omega) (by simp [usedL,exT1,exT]; omega)
  have hSe:tmSeal exT1 exO2 exN = (0,(exT3,exO3)):=run_seal (fs:=[]) rfl rfl rfl (by simp [exT1]) rfl rfl
  obtain ⟨y,y1,y2⟩:=split_flat (mem:=35) (listSS [[97],[98,98],[99]] .clip) (by decide) (by decide) []
  rw [exSplit] at y2
  obtain ⟨H1,q1,q2,q3⟩:=New_run 1000 (by omega) []
  have hs0:(⟨(min (max 1000 0) 262144:Int).toNat,0,[],false,0⟩:Sto) = exO:=rfl
  rw [hs0] at q2
  obtain ⟨H2,A2,r1,r2,r3,r4⟩:=TOpen_empty q2 exO_ok rfl [97] (by decide) (by decide) 1000
  have htm:(⟨[97],[],[],(max 0 1000:Int).toNat,0,false⟩:Tmp) = exT:=rfl
  rw [htm] at r2
  obtain ⟨a,d1,d2⟩:=rdefault_flat H2
  obtain ⟨H3,A3,t1,t2⟩:=RWrite_ok (l:=exL) r2 exT_ok exO_ok (by decide) d2 defOk (specP plainP rfl) (noKeys rfl) (listSS exL .clip) (by decide) (by decide) (by rw [exS_eq]; omega) (by rw [exS_eq]; decide) hN exT1_ok o1 (by rw [exS_eq]; exact hW) o2 hSe
  have hop:=ROpen_run (H1.length + 1) exN H3
  have hrA3:H3.length ∉ A3:=fun h=>by have:=t2.at'.lt _ h; omega
  have g:(H3 ++ [AObj.cells (rdC (H1.length + 1) exN 0 false false [])])[H3.length]? = some (.cells (rdC (H1.length + 1) exN 0 false false [])):=by simp
  have hrd:Rdr (H3 ++ [AObj.cells (rdC (H1.length + 1) exN 0 false false [])]) H3.length (H1.length + 1) exN (encS exS) exS:=.inr (.inr ⟨[],g,rfl⟩)
  have hsys:SysAt (H3 ++ [AObj.cells (rdC (H1.length + 1) exN 0 false false [])]) (H1.length + 1) ((0:Nat) + 1) exT3 exO3 A3:=t2.at'.frame fun a ha=>List.getElem?_append_left (t2.at'.lt a ha)
  have hfind:tmFind exT3 exN = 0:=by simp [tmFind,exT3,exT1,exT]
  have hget:getF exO3.files exN = some ⟨exN,encS exS,(encS exS).length⟩:=by simp [getF,exO3]
  obtain ⟨H4,n1,n2,n3,n4⟩:=Next_run hsys exT3_ok o3 (f:=⟨exN,encS exS,(encS exS).length⟩) hrd hrA3 hfind rfl rfl hget hfit (by show (encS exS).length ≤ 262144; omega)
  obtain ⟨H5,p1,_⟩:=Peek_run n2 exT3_ok o3 (f:=⟨exN,encS exS,(encS exS).length⟩) n4 hrA3 hfind rfl rfl hget (by decide) (by show (encS exS).length ≤ 262144; omega)
  obtain ⟨b0,g1,g2⟩:∃ a,aindexS 1 y (.int .i64 0) = some (.vp [a]) ∧ SS a [[97],[98,98]]:=y2.get' (i:=0) rfl
  obtain ⟨b1,g3,g4⟩:∃ a,aindexS 1 y (.int .i64 1) = some (.vp [a]) ∧ SS a [[99]]:=y2.get' (i:=1) rfl
  have h2:alenD (.slice 32) y = some (.int .i64 2):=y2.len 32
  have l0:alenD (.slice 9) b0 = some (.int .i64 2):=g2.len 9
  have i1:aindexS 1 b1 (.int .i64 0) = some (.vp [.str [99]]):=SS.idx g4 (i:=0) (s:=[99]) rfl
  have s1:(setElems 1 [(0,(.str [97])),(1,(.str [98,98])),(2,(.str [99]))] [(.str []),(.str []),(.str [])]).map (AV.vs 1 .clip) = some (AV.vs 1 .clip ([[97],[98,98],[99]].map AV.str)):=rfl
  have s2:(setElems 1 [(0,(.str [98])),(1,(.str [97]))] [(.str []),(.str [])]).map (AV.vs 1 .clip) = some (AV.vs 1 .clip (exL.map AV.str)):=rfl
  have s3:(afill [(1,1,(.int .i64 (-1)))] [.nils,(.int .i64 0),(.int .i64 0),(.bool false),(.bool false)]).map AV.agg = some (.agg (plainP.cells .nils)):=rfl
  have e0:((0:Int) != 0) = false:=rfl
  have e1:((0:Int) == 0) = true:=rfl
  have e2:((2:Int) != 2) = false:=rfl
  have e3:(([99]:Txt) == [99]) = true:=by decide
  have e4:(exN == [46,116,109,112,46,97,46,49]) = true:=by decide
  have e5:(([97]:Txt) == [97]) = true:=by decide
  have e6:(([98]:Txt) == [98]) = true:=by decide
  have c0:exS.headD [] = [97]:=rfl
  have c1:exS.isEmpty = false:=rfl
  have c2:exS.tail.headD [] = [98]:=rfl
  have c3:exS.tail.isEmpty = false:=rfl
  refine ⟨H5,?_⟩
  rw [F_L22_awake_eq]
  unfold F_L22_awake
  simp only [s1,y1,q1,go_sem,r1,List.getElem?_cons_zero,List.getElem?_cons_succ,d1,s2,s3,t1,hop,n1,p1,h2,g1,g3,l0,i1,aload_vpc,e0,e1,e2,e3,e4,e5,e6,c0,c1,c2,c3,Bool.not_false,Bool.not_true,L22_awake_J1_eq]
theorem awake22_go (H:Hp):flatC C_L22_awake [] H = some (.bool true,H):=by
  obtain ⟨H',h⟩:=awake22_spec
  exact flatC_of (args':=[]) (by simp) h (by simp [flatV])
end Go.Am
namespace Go.Am
set_option linter.unusedSimpArgs false
set_option linter.unusedVariables false
set_option linter.unusedSectionVars false
set_option maxRecDepth 100000

section
variable {p:Spec} {xp:AV} (hsp:SpecAV (.agg (p.cells xp)) p) (hks:∀ k ∈ p.keys,KeOk k) {x1:AV} {l:List Str} (hx:SS x1 l) (hL:Lens l) (hl:l.length ≤ 1048576)
  {o t r i2 N:Nat} {tm:Tmp} {s:Sto} {A:List Nat} {n:Txt} {f:Fil} (hm:TmpOk tm) (hk:StoOk s) (hrA:r ∉ A) (hiA:i2 ∉ A) (hir:i2 ≠ r) (hA:∀ a ∈ A,a < N) (hr:r < N) (hi:i2 < N)
  (hf:tmFind tm n = 0) (hc:s.crashed = false) (h0:s.count = 0) (hg:getF s.files n = some f) (hlen:f.text.length ≤ 262144) (hfit:fitsR (sortS defL p l) = true)
include hsp hks hx hL hl hm hk hrA hiA hir hA hr hi hf hc h0 hg hlen hfit
theorem rsort_loop2 (H0 : Hp) : ∀ (q d : List Str) (x10 : AV) (H : Hp), sortS defL p l = d ++ q → SysAt H o t tm s A → Rdr H r o n f.text q → H[i2]? = some (.cells (p.cells xp)) → RowN N H 1 x10 (d.map AV.str) → N ≤ H.length →
    ∃ H',L22_RunsSort_L1 x1 (.ptr i2 0) (.ptr r 0) x10 H0 H = some (.bool true,H'):=by
  have hRl:=sortS_len defL p l
  have hn1:=SS.len hx 9
  have e0:((0:Int) != 0) = false:=rfl
  have ez:((0:Int) == 0) = true:=rfl
  have hfq:∀ d q:List Str,sortS defL p l = d ++ q → fitsR q = true:=fun d q h=>by
    rw [h] at hfit
    simp only [fitsR,List.all_append,Bool.and_eq_true] at hfit
    exact hfit.2
  intro q
  induction q with
  | nil =>
    intro d x10 H hd hsys hrd hbox hrow hN
    have hdl:d.length = (sortS defL p l).length:=by rw [hd]; simp
    have h10:=SS.len (show SS x10 d from hrow.sl) 9
    have hle:decide ((d.length:Int) ≤ (l.length:Int)) = true:=by rw [decide_eq_true_eq]; omega
    obtain ⟨H1,q1,q2,q3,q4⟩:=Next_run hsys hm hk hrd hrA hf hc h0 hg rfl hlen
    obtain ⟨H2,r1,r2,r3,r4⟩:=Next_run q2 hm hk (show Rdr H1 r o n f.text [] from q4) hrA hf hc h0 hg rfl hlen
    have hiC:i2 ∉ r :: A:=fun h=>by
      rcases List.mem_cons.1 h with e | h
      · exact hir e
      · exact hiA h
    have hb2:=r3.get (q3.get hbox hiC) hiC
    obtain ⟨a,d1,d2⟩:=rdefault_flat H2
    obtain ⟨y,s1,s2⟩:=sort_flat d2 defOk hsp hks hx hL hl H2
    rw [hd,List.append_nil] at s2
    have hsame:=samel_flat (show SS x10 d from hrow.sl) s2 (by omega) (by omega) H2
    rw [decide_eq_true rfl] at hsame
    have haw:=awake22_go H2
    have hse:(([]:Txt) == []) = true:=rfl
    refine ⟨H2,?_⟩
    rw [L22_RunsSort_L1_eq]
    simp only [h10,hn1,go_sem,hle,L22_RunsSort_J6_eq,q1,List.getElem?_cons_zero,List.getElem?_cons_succ,e0,L22_RunsSort_J7_eq,List.isEmpty_nil,Bool.not_true,Bool.not_false,L22_RunsSort_J5_eq,r1,List.headD_nil,hse,ez,d1,load_specn hb2,s1,hsame,haw]
  | cons s' q ih =>
    intro d x10 H hd hsys hrd hbox hrow hN
    have hdl:d.length + (q.length + 1) = (sortS defL p l).length:=by rw [hd]; simp
    have h10:=SS.len (show SS x10 d from hrow.sl) 9
    have hle:decide ((d.length:Int) ≤ (l.length:Int)) = true:=by rw [decide_eq_true_eq]; omega
    obtain ⟨H1,q1,q2,q3,q4⟩:=Next_run hsys hm hk hrd hrA hf hc h0 hg (hfq d _ hd) hlen
    have hiC:i2 ∉ r :: A:=fun h=>by
      rcases List.mem_cons.1 h with e | h
      · exact hir e
      · exact hiA h
    have hb1:=q3.get hbox hiC
    have hrow1:RowN N H1 1 x10 (d.map AV.str):=hrow.imp id fun ⟨t,e,k1,k2,k3⟩=>⟨t,e,k1,q3.get k2 (fun h=>by
      rcases List.mem_cons.1 h with e | h
      · omega
      · have:=hA t h; omega),k3⟩
    obtain ⟨x',H2,w1,w2,w3,w4,_⟩:=hrow1.app (Nat.le_trans hN q3.len) 16 (.vs 1 .clip [.str s']) [.str s'] rfl (by simp; omega)
    have hsys2:SysAt H2 o t tm s A:=q2.frame fun a ha=>w4 a (hA a ha)
    have hrd2:Rdr H2 r o n f.text q:=Rdr.frame (show Rdr H1 r o n f.text q from q4) (w4 r hr)
    obtain ⟨H',m1⟩:=ih (d ++ [s']) x' H2 (by rw [hd]; simp) hsys2 hrd2 ((w4 i2 hi).trans hb1) (by rw [List.map_append]; exact w2) w3
    refine ⟨H',?_⟩
    rw [L22_RunsSort_L1_eq]
    simp only [h10,hn1,go_sem,hle,L22_RunsSort_J6_eq,q1,List.getElem?_cons_zero,List.getElem?_cons_succ,e0,L22_RunsSort_J7_eq,List.isEmpty_cons,Bool.not_true,Bool.not_false,L22_RunsSort_J8_eq,List.headD_cons,one_str,w1]
    exact m1
end
def ownB:Txt:=[98]
def nameB1:Txt:=tmpName ownB 1
theorem nameB1_ok:nameB nameB1 = true:=by kernel_rfl
def sto0:Sto:=⟨262144,0,[],false,0⟩
theorem sto0_ok:StoOk sto0:=⟨by decide,by decide,by decide,by simp [sto0],by simp [sto0],by simp [sto0],by simp [sto0],by decide⟩
def tmB:Tmp:=⟨ownB,[],[],262144,0,false⟩
theorem fitsR_of {l:List Txt} (h:∀ s ∈ l,s.length ≤ 4096):fitsR l = true:=List.all_eq_true.2 fun s hs=>by simpa using h s hs
theorem rsort_tail {p : Spec} {xp : AV} (hsp : SpecAV (.agg (p.cells xp)) p) (hks : ∀ k ∈ p.keys, KeOk k) {x1 : AV} {l : List Str} (hx : SS x1 l) (hL4 : ∀ s ∈ l, s.length ≤ 4096) (hl : l.length ≤ 12) {i2 : Nat} {H : Hp} (hb : H[i2]? = some (.cells (p.cells xp))) (H0 : Hp) :
    ∃ H',L22_RunsSort_J2 x1 (.ptr i2 0) H0 H = some (.bool true,H'):=by
  have hL:Lens l:=fun s hs=>by have:=hL4 s hs; omega
  have hi2:=lt_of_get hb
  obtain ⟨H1,q1,q2,q3⟩:=New_run 262144 (by omega) H
  have hs0:(⟨(min (max 262144 0) 262144:Int).toNat,0,[],false,0⟩:Sto) = sto0:=rfl
  rw [hs0] at q2
  have hS1:Stp [] H H1:=by rw [q3]; exact Stp.push _ _
  have hlen1:H1.length = H.length + 2:=by rw [q3]; simp
  obtain ⟨H2,A2,r1,r2,r3,r4⟩:=TOpen_empty q2 sto0_ok rfl ownB (by decide) (by decide) 262144
  have htm:(⟨ownB,[],[],(max 0 262144:Int).toNat,0,false⟩:Tmp) = tmB:=rfl
  rw [htm] at r2
  have hb1:=hS1.get hb (by simp)
  have hb2:=r3.get hb1 (by simp; omega)
  have hiA2:i2 ∉ A2:=fun h=>by
    rcases r4 i2 h with k | k
    · simp at k; omega
    · omega
  obtain ⟨a,d1,d2⟩:=rdefault_flat H2
  have hR4:∀ s ∈ sortS defL p l,s.length ≤ 4096:=fun s hs=>hL4 s (sortS_mem defL p l s hs)
  have hRl:=sortS_len defL p l
  have hcost:=costR_le _ hR4
  have hmul:(sortS defL p l).length * 4102 ≤ 12 * 4102:=Nat.mul_le_mul_right _ (by omega)
  have hfit:=fitsR_of hR4
  have tmB_ok:TmpOk tmB:=⟨by decide,by decide,by decide,by decide⟩
  let tm1:Tmp:={ tmB with last:=1,names:=[nameB1] }
  let s1:Sto:={ sto0 with files:=[⟨nameB1,[],0⟩] }
  let s2:Sto:={ s1 with files:=[⟨nameB1,encS (sortS defL p l),0⟩],peak:=max 0 (0 + costR (sortS defL p l)) }
  let s3:Sto:={ s2 with files:=[⟨nameB1,encS (sortS defL p l),(encS (sortS defL p l)).length⟩] }
  let tm3:Tmp:={ tm1 with sld:=[nameB1] }
  have hN:tmNew tmB sto0 = ((nameB1,0),(tm1,s1)):=run_new rfl rfl rfl rfl nameB1_ok rfl (by decide)
  have hW:tmWrite tm1 s1 nameB1 (sortS defL p l) = (0,s2):=run_write (fs:=[]) rfl rfl rfl (by simp [tm1]) (by simp [tm1,tmB]) rfl rfl hfit (by simp [usedL,s1,sto0]; omega) (by simp [usedL,tm1,tmB]; omega)
  have hSe:tmSeal tm1 s2 nameB1 = (0,(tm3,s3)):=run_seal (fs:=[]) rfl rfl rfl (by simp [tm1]) rfl rfl
  have tm1_ok:TmpOk tm1:=⟨by decide,by decide,by simp [tm1],by decide⟩
  have tm3_ok:TmpOk tm3:=⟨by decide,by decide,by simp [tm3,tm1],by decide⟩
  have s1_ok:StoOk s1:=⟨by decide,by simp [s1,usedL],by decide,by simp [s1,nameB1_ok],by simp [s1],by simp [s1],by simp [s1],by decide⟩
  have hel:=encS_len (sortS defL p l)
  have s2_ok:StoOk s2:=⟨show (262144:Nat) ≤ 262144 from Nat.le_refl _,by simp [s2,s1,sto0,usedL]; omega,by simp [s2,s1,sto0]; omega,by simp [s2,nameB1_ok],by simp [s2],by simp [s2],by simp [s2],show (0:Nat) ≤ 9223372036854775807 by decide⟩
  have s3_ok:StoOk s3:=⟨show (262144:Nat) ≤ 262144 from Nat.le_refl _,by simp [s3,s2,s1,sto0,usedL]; omega,by simp [s3,s2,s1,sto0]; omega,by simp [s3,nameB1_ok],by simp [s3],by simp [s3],by simp [s3],show (0:Nat) ≤ 9223372036854775807 by decide⟩
  obtain ⟨H3,A3,t1,t2⟩:=RWrite_ok r2 tmB_ok sto0_ok (by decide) d2 defOk hsp hks hx hL (by omega) (by omega) (fun s hs=>by have:=hR4 s hs; omega) hN tm1_ok s1_ok hW s2_ok hSe
  have hb3:=t2.stp.get hb2 hiA2
  have hi3:=lt_of_get hb3
  have hiA3:i2 ∉ A3:=fun h=>by
    rcases t2.own i2 h with k | k
    · exact hiA2 k
    · have:=lt_of_get hb2; omega
  have hA3:=t2.at'.lt
  have hop:=ROpen_run (H1.length + 1) nameB1 H3
  have hH4:Stp A3 H3 (H3 ++ [.cells (rdC (H1.length + 1) nameB1 0 false false [])]):=Stp.push _ _
  have hloop:=rsort_loop2 (N:=H3.length + 1) (o:=H1.length + 1) (t:=H.length + 1) (r:=H3.length) (i2:=i2) (tm:=tm3) (s:=s3) (A:=A3) (n:=nameB1) (f:=⟨nameB1,encS (sortS defL p l),(encS (sortS defL p l)).length⟩)
    hsp hks hx hL (by omega) tm3_ok s3_ok (fun h=>by have:=hA3 _ h; omega) hiA3 (by omega) (fun a ha=>by have:=hA3 a ha; omega) (by omega) (by omega) (by simp [tmFind,tm3,tm1,tmB]) rfl rfl (by simp [getF,s3]) (by show (encS (sortS defL p l)).length ≤ 262144; omega) hfit H0
    (sortS defL p l) [] .nils (H3 ++ [.cells (rdC (H1.length + 1) nameB1 0 false false [])]) rfl (t2.at'.frame fun a ha=>List.getElem?_append_left (hA3 a ha)) (.inr (.inr ⟨[],by simp,rfl⟩)) (get_push hb3 _) (.inl ⟨rfl,rfl⟩) (by simp)
  obtain ⟨H',hm⟩:=hloop
  refine ⟨H',?_⟩
  have e0:((0:Int) != 0) = false:=rfl
  have hnil:ebin (.pointer 117) .eql (.ptr (H1.length + 1) 0) .nilp = some (.bool false):=rfl
  have r1':C_tempfile_Open [.ptr (H.length + 1) 0,.str [98],.int .i64 262144] H1 = some (.tuple [.ptr (H1.length + 1) 0,.int .i64 0],H2):=r1
  rw [L22_RunsSort_J2_eq]
  simp only [q1,go_sem,r1',List.getElem?_cons_zero,List.getElem?_cons_succ,e0,hnil,L22_RunsSort_J3_eq,d1,load_specn hb2,t1,L22_RunsSort_J4_eq,hop]
  exact hm
theorem rsort_max {p : Spec} {xp : AV} (hsp : SpecAV (.agg (p.cells xp)) p) (hks : ∀ k ∈ p.keys, KeOk k) {x1 : AV} {l : List Str} (hx : SS x1 l) (hL : Lens l) (hl : l.length ≤ 12) {i2 : Nat} {H : Hp} (hb : H[i2]? = some (.cells (p.cells xp))) (H0 : Hp) : ∀ (r d : List Str), l = d ++ r → (∀ s ∈ d, s.length ≤ 4096) →
    ∃ H',L22_RunsSort_L2 x1 (.ptr i2 0) (.int .i64 (d.length:Int)) H0 H = some (.bool true,H'):=by
  have hn:=SS.len hx 9
  intro r
  induction r with
  | nil =>
    intro d hd h4
    rw [List.append_nil] at hd
    subst hd
    have hlt:decide ((l.length:Int) < (l.length:Int)) = false:=by simp
    obtain ⟨H',hm⟩:=rsort_tail hsp hks hx h4 hl hb H0
    refine ⟨H',?_⟩
    rw [L22_RunsSort_L2_eq]
    simp only [go_sem,hn,hlt]
    exact hm
  | cons s r ih =>
    intro d hd h4
    have hlen:l.length = d.length + (r.length + 1):=by rw [hd]; simp
    have hlt:decide ((d.length:Int) < (l.length:Int)) = true:=by rw [decide_eq_true_eq]; omega
    have hw1:IntKind.i64.wrap ((d.length:Int) + 1) = ((d.length + 1:Nat):Int):=by rw [wrap64 (by omega) (by omega)]; omega
    have his:l[d.length]? = some s:=by rw [hd,List.getElem?_append_right (Nat.le_refl _)]; simp
    have hidx:=SS.idx hx his
    rw [L22_RunsSort_L2_eq]
    by_cases h:4096 < s.length
    · have e1:decide ((4096:Int) < (s.length:Int)) = true:=by rw [decide_eq_true_eq]; omega
      exact ⟨H,by simp only [go_sem,hn,hlt,L22_RunsSort_J9_eq,hidx,aload_vpc,e1,awake22_go]⟩
    · have e1:decide ((4096:Int) < (s.length:Int)) = false:=by rw [decide_eq_false_iff_not]; omega
      obtain ⟨H',hm⟩:=ih (d ++ [s]) (by rw [hd]; simp) (fun t ht=>by
        rcases List.mem_append.1 ht with k | k
        · exact h4 t k
        · rw [List.mem_singleton.1 k]; omega)
      rw [List.length_append,List.length_singleton] at hm
      refine ⟨H',?_⟩
      simp only [go_sem,hn,hlt,L22_RunsSort_J9_eq,hidx,aload_vpc,e1,L22_RunsSort_J10_eq,hw1]
      exact hm
theorem RSort_law {q:AV} {p:Spec} (hq:SpecAV q p) (hks:∀ k ∈ p.keys,KeOk k) {x1:AV} {l:List Str} (hx:SS x1 l) (hL:Lens l) (hl:l.length ≤ 1048576) (H:Hp):∃ H',C_L22_RunsSort [q,x1] H = some (.bool true,H'):=by
  have hqv:=hq
  obtain ⟨xp,rfl,hxp⟩:=hq
  have g:(H ++ [AObj.cells (p.cells xp)])[H.length]? = some (.cells (p.cells xp)):=by simp
  obtain ⟨b1,q1,q2⟩:=small_flat hx hl hL (H ++ [AObj.cells (p.cells xp)])
  obtain ⟨b2,r1⟩:=keyed_flat hqv (H ++ [AObj.cells (p.cells xp)])
  have haw:=awake22_go (H ++ [AObj.cells (p.cells xp)])
  rw [F_L22_RunsSort_eq]
  unfold F_L22_RunsSort
  cases b1 with
  | false=>exact ⟨_,by simp only [abox_agg,go_sem,q1,Bool.not_false,haw]; rfl⟩
  | true =>
    cases b2 with
    | false=>exact ⟨_,by simp only [abox_agg,go_sem,q1,Bool.not_true,Bool.not_false,load_specn g,r1,haw]; rfl⟩
    | true =>
      obtain ⟨H',hm⟩:=rsort_max hqv hks hx hL (q2 rfl) g H l [] rfl (by simp)
      refine ⟨H',?_⟩
      simp only [abox_agg,go_sem,q1,Bool.not_true,load_specn g,r1,L22_RunsSort_J1_eq]
      exact hm
end Go.Am
