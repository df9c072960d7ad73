/-
  The example of chapter 23 is answered as it should be.
-/
import Derived.Test.YtehanadfidoodaaGreatDoorNkSox
import Derived.Test.YtehanadfidoodaaGreatDoorNkGAx
import Derived.Test.YtehanadfidoodaaGreatDoorNkGMx
namespace Go.Am
set_option linter.unusedSimpArgs false
set_option linter.unusedVariables false
set_option linter.unusedSectionVars false
set_option maxRecDepth 100000
theorem ZbR {L:Loc}{p:Spec}{ls:List (List Zj)}(hf:∀ l∈ls,Few l)(h8:ls.length≤8)(pk:Nat):∀ (i:Nat) (n:Zm) (l:List Zj),(nms.take ls.length)[i]?=some n→ls[i]?=some l →
 Xw l=true∧(ZX l).length≤262144∧((Y3 (UO ls.length) n=0∧∃ f,ZQ (Jq ls pk).files n=some f∧f.text=ZX l)∨(Y3 (UO ls.length) n=5∧l=[])):=by
 intro i n l hn hl
 have hfl:=hf l (List.mem_of_getElem? hl)
 have hc:=hfl.cost
 refine⟨hfl.fits,by rw[Jl];omega,.inl ⟨?_,_,Zf3 _ _ (Ue (by omega)) (nms_nd.sublist (List.take_sublist _ _)) i n l hn hl,rfl⟩⟩
 unfold Y3
 rw[if_neg (by simp[UO]),if_pos (show n∈(UO ls.length).names from List.mem_of_getElem? hn)]
def uP:Spec:=⟨[],-1,0,false,true⟩
def exM:List (List Zj):=[[[97],[99]],[[97],[98]]]
theorem Zr0:YN defL uP exM.flatten=[[97],[98],[99]]:=by kernel_rfl
theorem Zr1:V9 (Su 3) (7:Int).toNat=[[0,1,2],[3,4,5],[6]]:=by kernel_rfl
theorem ZrK:LocSm defL:=⟨by simp[defL],by simp[defL],by simp[defL]⟩
theorem Zdr (L:Loc)(p:Spec):WO true L p=YN L p:=(Eq.refl _).trans (Eq.refl _)
theorem ZeE:∃ H',KK [] []=some (.bool true,H'):=by
 obtain⟨a,d1,d2⟩:=C1 []
 have d3:=d2
 obtain⟨lx,lc,le,rfl,hlx,hlc,hle⟩:=d3
 have hkn:(AV.agg (defL.cells lx lc le)).known=true:=by simp[AV.known,Loc.cells,hlx.known,hlc.known,hle.known]
 have s1:Zh 6 (.ptr 0 0) (.agg (defL.cells lx lc le)) [AObj.cells [(.str []),.nils,(.str []),(.str []),.nils,.nils],.cells [.nils,(.int .i64 0),(.int .i64 0),(.bool false),(.bool false)]]=some (.tuple [],[AObj.cells (defL.cells lx lc le),.cells [.nils,(.int .i64 0),(.int .i64 0),(.bool false),(.bool false)]]) :=
  (VK (v:=.agg (defL.cells lx lc le)) (o:=0) (l:=[(.str []),.nils,(.str []),(.str []),.nils,.nils]) rfl hkn rfl (by show 0+6≤6;omega)).trans rfl
 have s2:Zh 5 (.ptr 1 0) (.agg (uP.cells .nils)) [AObj.cells (defL.cells lx lc le),.cells [.nils,(.int .i64 0),(.int .i64 0),(.bool false),(.bool false)]]=some (.tuple [],[AObj.cells (defL.cells lx lc le),.cells (uP.cells .nils)]) :=
  (VK (v:=.agg (uP.cells .nils)) (o:=1) (l:=[.nils,(.int .i64 0),(.int .i64 0),(.bool false),(.bool false)]) rfl rfl rfl (by show 0+5≤5;omega)).trans rfl
 have l1:Z4 true 6 (.ptr 0 0) [AObj.cells (defL.cells lx lc le),.cells (uP.cells .nils)]=some (.agg (defL.cells lx lc le)):=NZ (i:=0) rfl
 have l2:Z4 true 5 (.ptr 1 0) [AObj.cells (defL.cells lx lc le),.cells (uP.cells .nils)]=some (.agg (uP.cells .nils)):=Tl (i:=1) rfl
 have f0:(YS [(1,1,(.int .i64 (-1))),(3,1,(.bool true))] [.nils,(.int .i64 0),(.int .i64 0),(.bool false),(.bool false)]).map AV.agg=some (.agg (uP.cells .nils)):=rfl
 have e14:(ZF 1 [(0,(.str [97])),(1,(.str [99]))] [(.str []),(.str [])]).map (AV.vs 1 .clip)=some (AV.vs 1 .clip ([[97],[99]].map AV.str)):=rfl
 have e15:(ZF 1 [(0,(.str [97])),(1,(.str [98]))] [(.str []),(.str [])]).map (AV.vs 1 .clip)=some (AV.vs 1 .clip ([[97],[98]].map AV.str)):=rfl
 have e16:(ZF 1 [(0,AV.vs 1 .clip ([[97],[99]].map AV.str)),(1,AV.vs 1 .clip ([[97],[98]].map AV.str))] [.nils,.nils]).map (AV.vs 1 .clip)=some (AV.vs 1 .clip [AV.vs 1 .clip ([[97],[99]].map AV.str),AV.vs 1 .clip ([[97],[98]].map AV.str)]):=rfl
 have hx:LsV (AV.vs 1 .clip [AV.vs 1 .clip ([[97],[99]].map AV.str),AV.vs 1 .clip ([[97],[98]].map AV.str)]) exM:=.inr ⟨.clip,_,rfl,EE.cons (Zlm _ _) (EE.cons (Zlm _ _) EE.nil)⟩
 have hf:∀ l∈exM,Few l:=fun l hl=>by
  simp[exM]at hl
  rcases hl with rfl|rfl <;> exact⟨by decide,by decide⟩
 obtain⟨H1,o,t,A1,pk,xn,m1,m2,m3,m4,m5,m6⟩:=Zd9 d2 Zp2 (Zp9 uP rfl) (ZlD rfl) hx hf (by decide) true rfl rfl [AObj.cells (defL.cells lx lc le),.cells (uP.cells .nils)]
 have g0:H1[0]?=some (.cells (defL.cells lx lc le)):=m5.get rfl (by simp)
 have g1:H1[1]?=some (.cells (uP.cells .nils)):=m5.get rfl (by simp)
 have hz0:=fun k=>LA g0 k
 have g1':(H1.set 0 .dead)[1]?=some (.cells (uP.cells .nils)):=Y5 _ (by decide) g1
 have hz1:=fun k=>LA g1' k
 have hA1:∀ a∈A1,2≤a:=m6
 have hsys:SysAt ((H1.set 0 .dead).set 1 .dead) o t (UO exM.length) (Jq (exM.map (WO true defL uP)) pk) A1:=m2.frame fun b hb=>by
  have:=hA1 b hb
  rw[List.getElem?_set_ne (by omega),List.getElem?_set_ne (by omega)]
 have hlen:(exM.map (WO true defL uP)).length=exM.length:=List.length_map _
 have hfo:∀ l∈exM.map (WO true defL uP),Few l:=fun l hl=>by
  obtain⟨k,hk,rfl⟩:=List.mem_map.1 hl
  exact (hf k hk).out true defL uP
 have hrf:=ZbR (L:=defL) (p:=uP) hfo (by rw[hlen];decide) pk
 rw[hlen]at hrf
 have htot:Y0 (exM.map (WO true defL uP))≤9:=by
  rw[Zdr]
  have h1:=AP defL uP [[97],[99]]
  have h2:=AP defL uP [[97],[98]]
  simp only[List.length_cons,List.length_nil]at h1 h2
  simp only[exM,List.map_cons,List.map_nil,Y0]
  omega
 have hcl:Y9 (exM.map (WO true defL uP)).flatten≤262144:=by
  have:=OK _ hfo
  rw[hlen]at this
  have:exM.length=2:=rfl
  omega
 obtain⟨H2,xr,H3,g,r1,r2,H4,xo,r3,r4,r5,r6⟩:=S3 (m:=9) (a:=.agg (defL.cells lx lc le)) (q:=.agg (uP.cells .nils)) (Zg1 (k:=exM.length) (by decide)) (ZbZ (by rw[hlen];decide) hcl m3) rfl rfl d2 Zp2 ZrK (Zp9 uP rfl) (ZlD rfl) (by decide) m4.1.ss (by rw[hlen];exact Ue (by decide)) (by rw[Ue (by decide)];decide) hrf htot (by decide) hsys
 rw[Zdr,Zfn,Zr0]at r4
 obtain⟨y,p1,p2⟩:=ZlN 7 3 (by decide) H4
 rw[Zr1]at p2
 have hx3:=r4.len 9
 have x0:=SS.idx r4 (i:=0) (s:=[97]) rfl
 have x1:=SS.idx r4 (i:=1) (s:=[98]) rfl
 have x2:=SS.idx r4 (i:=2) (s:=[99]) rfl
 have y3:Zk (.slice 22) y=some (.int .i64 3):=p2.len 22
 obtain⟨b,y2,b0⟩:∃ a,Zn 1 y (.int .i64 2)=some (.vp [a])∧IS a [6]:=p2.get (i:=2) rfl
 have b1:Zk (.slice 3) b=some (.int .i64 1):=b0.len 3
 have b2:Zn 1 b (.int .i64 0)=some (.vp [iv 6]):=b0.idx (i:=0) (n:=6) rfl
 have hx3':Zk (.slice 9) xo=some (.int .i64 3):=hx3
 have x0':Zn 1 xo (.int .i64 0)=some (.vp [.str [97]]):=x0
 have x1':Zn 1 xo (.int .i64 1)=some (.vp [.str [98]]):=x1
 have x2':Zn 1 xo (.int .i64 2)=some (.vp [.str [99]]):=x2
 have hv1:Yr true 6 (.vp (defL.cells lx lc le))=some (.agg (defL.cells lx lc le)):=by simp[Yr,Z4,Go.Am.apart,Loc.cells]
 have hv2:Yr true 5 (.vp (uP.cells .nils))=some (.agg (uP.cells .nils)):=by simp[Yr,Z4,Go.Am.apart,Spec.cells]
 have t1:(([97]:Zm)==[97])=true:=by decide
 have t2:(([98]:Zm)==[98])=true:=by decide
 have t3:(([99]:Zm)==[99])=true:=by decide
 have t4:((3:Int)==3)=true:=rfl
 have t5:((1:Int)==1)=true:=rfl
 have t6:((6:Int)==6)=true:=rfl
 have r3':GT [.ptr g 0,.int .i64 9] H3=some (.tuple [xo,.bool true],H4):=r3
 refine⟨H4,?_⟩
 rw[Zcc]
 unfold IK
 simp only[d1,f0,go_sem,List.length_nil,List.nil_append,List.length_singleton,List.singleton_append,List.cons_append,s1,s2,l1,l2,e14,e15,e16,m1,List.getElem?_cons_zero,List.getElem?_cons_succ,hz0,hz1,hv1,hv2,r1,r2,r3',p1,hx3',t4,x0',x1',x2',ZG,t1,t2,t3,y3,y2,b1,t5,b2,t6]
 rfl
theorem ZaY (H:Hp):Ze KK [] H=some (.bool true,H):=by
 obtain⟨H',h⟩:=ZeE
 exact Pt (args':=[]) (by simp) h (by simp[JG])
theorem Zky (t:Tok)(l:List AV)(H:Hp):Pj [.vs 1 t l] H=(match Db l with
 |some _=>if l=[] then some (.vs 1 .no [],H) else if l.length≤1099511627776 then some (.ws false 1 H.length 0 l.length,H++[.row 0 l]) else none
 |none=>none):=rfl
theorem Znn (o e n q:Nat)(H:Hp):EC [.ws false 1 o e n,.fn (.func 143) [] [.ptr q 0]] H=(match H[o]? with
 |some (.row e' l)=>match Db l with
  |some ls=>match H[q]? with
   |some (.cells [.str nm])=>if e'=e∧n=l.length∧o≠q∧l.length≤1099511627776 then some (.vs 1 (.own o (e+2)) ((Vp nm ls).map AV.str),H.set o (.tok (e+2))) else none
   |_=>none
  |none=>none
 |_=>none):=rfl
theorem ZiT {H:Hp}{o t ms clk:Nat}{nx:AV}{sl:List (Zm×Nat)}{tm:Tmp}(h:TmAt H o t ms clk nx sl tm)(hm:TmpOk tm)(n:Zm)(hne:tm.names≠[]) :
 ∃ (H':Hp) (nx':AV) (sl':List (Zm×Nat)),forgetE.run [.ptr o 0,.str n] H=some (.tuple [],H')∧TmAt H' o t ms clk nx' sl' { tm with names:=Vp n tm.names,sld:=sl'.map (·.1) }∧Stp (o::ms::ZJ nx) H H'∧(∀ a∈ZJ nx',H.length≤a):=by
 have hlt:=h.lt
 have hol:o<H.length:=hlt o (by simp)
 have hml:ms<H.length:=hlt ms (by simp)
 have hom:o≠ms:=fun e=>by have:=h.nd;simp[e]at this
 have hkl:=hm.len
 have hkt:=hm.last
 obtain⟨u,e,rfl,hu⟩:∃ u e,nx=.vs 1 (.own u e) (tm.names.map AV.str)∧H[u]?=some (.tok e):=by
  rcases h.names with ⟨_,e⟩|h
  ·exact absurd e hne
  ·exact h
 have hne2:tm.names.map AV.str≠[]:=fun e=>hne (List.map_eq_nil_iff.1 e)
 have hc1:(H++[AObj.cells [.str n]])[o]?=some (.cells [.ptr t 0,.str tm.owner,.vs 1 (.own u e) (tm.names.map AV.str),.map ms,.int .i64 (tm.limit:Int),.int .i64 (tm.last:Int),.bool tm.closed]):=YB h.cells _
 have l2:=Y2 hc1 2 (v:=.vs 1 (.own u e) (tm.names.map AV.str)) rfl
 have hl1:(H++[AObj.cells [.str n]]).length=H.length+1:=by simp
 have hcl:cloneE.run [.vs 1 (.own u e) (tm.names.map AV.str)] (H++[AObj.cells [.str n]])=some (.ws false 1 (H.length+1) 0 tm.names.length,H++[AObj.cells [.str n]]++[AObj.row 0 (tm.names.map AV.str)]):=by
  rw[show cloneE.run=Pj from rfl]
  rw[Zky,Zc1]
  dsimp only
  rw[if_neg hne2,List.length_map,if_pos (by omega),hl1]
 have hr:(H++[AObj.cells [.str n]]++[AObj.row 0 (tm.names.map AV.str)])[H.length+1]?=some (.row 0 (tm.names.map AV.str)):=by
  rw[List.getElem?_append_right (by simp)];simp
 have hq:(H++[AObj.cells [.str n]]++[AObj.row 0 (tm.names.map AV.str)])[H.length]?=some (.cells [.str n]):=by
  rw[List.getElem?_append_left (by simp)];simp
 have hdl:delE.run [.ws false 1 (H.length+1) 0 tm.names.length,.fn (.func 143) [] [.ptr H.length 0]] (H++[AObj.cells [.str n]]++[AObj.row 0 (tm.names.map AV.str)]) =
  some (.vs 1 (.own (H.length+1) 2) ((Vp n tm.names).map AV.str),(H++[AObj.cells [.str n]]++[AObj.row 0 (tm.names.map AV.str)]).set (H.length+1) (AObj.tok 2)):=by
  rw[show delE.run=EC from rfl]
  rw[Znn,hr]
  dsimp only
  rw[Zc1,hq]
  dsimp only
  rw[if_pos ⟨rfl,by rw[List.length_map],by omega,by rw[List.length_map];omega⟩]
 have hS1:Stp [] H ((H++[AObj.cells [.str n]]++[AObj.row 0 (tm.names.map AV.str)]).set (H.length+1) (AObj.tok 2)):=⟨by simp,fun i hi _=>by
  rw[List.getElem?_set_ne (by omega),List.getElem?_append_left (by simp;omega),List.getElem?_append_left hi]⟩
 have hq3:((H++[AObj.cells [.str n]]++[AObj.row 0 (tm.names.map AV.str)]).set (H.length+1) (AObj.tok 2))[H.length]?=some (.cells [.str n]):=Y5 _ (by omega) hq
 have ht3:((H++[AObj.cells [.str n]]++[AObj.row 0 (tm.names.map AV.str)]).set (H.length+1) (AObj.tok 2))[H.length+1]?=some (.tok 2):=Zv _ hr
 generalize hH3:(H++[AObj.cells [.str n]]++[AObj.row 0 (tm.names.map AV.str)]).set (H.length+1) (.tok 2)=H3 at hdl hS1 hq3 ht3
 have hc3:=hS1.get h.cells (by simp)
 have hm3:H3[ms]?=some (.map (sl.map WJ) clk):=(hS1.at' ms hml (by simp)).trans h.map
 have s2:=R0 hc3 2 (v:=.vs 1 (.own (H.length+1) 2) ((Vp n tm.names).map AV.str)) rfl rfl (by simp)
 have hc4:=Zv (AObj.cells (List.set [.ptr t 0,.str tm.owner,.vs 1 (.own u e) (tm.names.map AV.str),.map ms,.int .i64 (tm.limit:Int),.int .i64 (tm.last:Int),.bool tm.closed] 2 (.vs 1 (.own (H.length+1) 2) ((Vp n tm.names).map AV.str)))) hc3
 have hm4:=Y5 (AObj.cells (List.set [.ptr t 0,.str tm.owner,.vs 1 (.own u e) (tm.names.map AV.str),.map ms,.int .i64 (tm.limit:Int),.int .i64 (tm.last:Int),.bool tm.closed] 2 (.vs 1 (.own (H.length+1) 2) ((Vp n tm.names).map AV.str)))) hom hm3
 have hq4:=Y5 (AObj.cells (List.set [.ptr t 0,.str tm.owner,.vs 1 (.own u e) (tm.names.map AV.str),.map ms,.int .i64 (tm.limit:Int),.int .i64 (tm.last:Int),.bool tm.closed] 2 (.vs 1 (.own (H.length+1) 2) ((Vp n tm.names).map AV.str)))) (show o≠H.length by omega) hq3
 have ht4:=Y5 (AObj.cells (List.set [.ptr t 0,.str tm.owner,.vs 1 (.own u e) (tm.names.map AV.str),.map ms,.int .i64 (tm.limit:Int),.int .i64 (tm.last:Int),.bool tm.closed] 2 (.vs 1 (.own (H.length+1) 2) ((Vp n tm.names).map AV.str)))) (show o≠H.length+1 by omega) ht3
 have hS4:Stp [o] H3 (H3.set o (.cells (List.set [.ptr t 0,.str tm.owner,.vs 1 (.own u e) (tm.names.map AV.str),.map ms,.int .i64 (tm.limit:Int),.int .i64 (tm.last:Int),.bool tm.closed] 2 (.vs 1 (.own (H.length+1) 2) ((Vp n tm.names).map AV.str))))):=Stp.set _ _ (by simp)
 generalize hH4:H3.set o (.cells (List.set [.ptr t 0,.str tm.owner,.vs 1 (.own u e) (tm.names.map AV.str),.map ms,.int .i64 (tm.limit:Int),.int .i64 (tm.last:Int),.bool tm.closed] 2 (.vs 1 (.own (H.length+1) 2) ((Vp n tm.names).map AV.str))))=H4 at s2 hc4 hm4 hq4 ht4 hS4
 have l3:=Y2 hc4 3 (v:=.map ms) rfl
 have lq:=Y2 hq4 0 (v:=.str n) rfl
 obtain⟨H5,sl',d1,d2,d3⟩:∃ (H5:Hp) (sl':List (Zm×Nat)),Uz .string (.map ms) (.str n) H4=some (.tuple [],H5)∧H5[ms]?=some (.map (sl'.map WJ) clk)∧Stp [ms] H4 H5:=by
  have hkk:Xy .string (.str n)=true:=rfl
  unfold Uz
  dsimp only
  rw[hm4]
  dsimp only
  rw[if_pos hkk]
  rcases OM sl n 0 with ⟨_,hf⟩|⟨a,p,b,rfl,_,_,hf⟩
  ·rw[hf]
   exact⟨_,sl,rfl,Zv _ hm4,Stp.set _ _ (by simp)⟩
  ·rw[hf]
   dsimp only
   refine⟨_,a++b,rfl,?_,Stp.set _ _ (by simp)⟩
   rw[Zv _ hm4,Nat.zero_add,List.map_append,List.map_cons,show a.length=(a.map WJ).length by simp,Aa,List.map_append]
 have hS5:Stp (o::ms::ZJ (.vs 1 (.own u e) (tm.names.map AV.str))) H H5:=by
  have x1:Stp (o::ms::ZJ (.vs 1 (.own u e) (tm.names.map AV.str))) H H3:=hS1.mono fun a ha=>by cases ha
  have x2:=x1.trans hS4 (fun _ h=>h) fun a ha=>.inl (by rw[List.mem_singleton.1 ha];simp)
  exact x2.trans d3 (fun _ h=>h) fun a ha=>.inl (by rw[List.mem_singleton.1 ha];simp)
 refine⟨H5,.vs 1 (.own (H.length+1) 2) ((Vp n tm.names).map AV.str),sl',?_,⟨d3.get hc4 (by simpa using hom),.inr ⟨_,_,rfl,(d3.at' _ (Zf ht4) (by simp;omega)).trans ht4⟩,d2,rfl,?_⟩,hS5,fun a ha=>?_⟩
 ·rw[ZiR]
  unfold Fg.F_tempfile_owned_forget
  have hbx:ZW (.str n) H=some (.ptr H.length 0,H++[.cells [.str n]]):=JC rfl
  have l2':Z4 false 1 (.ptr o 2) (H++[AObj.cells [AV.str n]])=some (.vs 1 (.own u e) (tm.names.map AV.str)):=l2
  simp only[hbx,go_sem,Nat.zero_add,l2',hcl,hdl,s2,l3,lq,d1]
 ·have:H.length+1≠o∧H.length+1≠ms:=by omega
  simp[ZJ,hom,Ne.symm this.1,Ne.symm this.2]
 ·simp[ZJ]at ha;omega
theorem Zrq {l:List Fil}{n m:Zm}(h:m≠n):ZQ (Kc l n) m=ZQ l m:=by
 induction l with
 |nil=>rfl
 |cons f l ih =>
  rw[Kc]
  split
  ·rename_i he
   rw[ZQ,if_neg (by rw[←he];exact h)]
  ·rw[ZQ,ZQ,ih]
theorem Zqk (l:List Fil)(n:Zm):List.Sublist (Kc l n) l:=by
 induction l with
 |nil=>exact List.Sublist.refl _
 |cons f l ih =>
  rw[Kc]
  split
  ·exact List.sublist_cons_self _ _
  ·exact ih.cons_cons _
theorem Zou (l:List Fil)(n:Zm):Zt (Kc l n)≤Zt l:=by
 induction l with
 |nil=>exact Nat.le_refl _
 |cons f l ih =>
  rw[Kc]
  split
  ·simp only[Zt];omega
  ·simp only[Zt];omega
theorem Zs3 {s:Sto}(hk:StoOk s)(n:Zm):StoOk { s with files:=Kc s.files n }:=by
 have hs:=Zqk s.files n
 have hu:=Zou s.files n
 have h1:=hk.used
 have h2:=hk.len
 exact⟨hk.limit,by show Zt (Kc s.files n)≤s.limit;omega,hk.peak,fun f hf=>hk.name f (hs.subset hf),hk.nd.sublist (hs.map _),fun f hf=>hk.syn f (hs.subset hf),by have:=hs.length_le;show (Kc s.files n).length≤64;omega,hk.count⟩
theorem Zj2 {n:Zm}{ns:List Zm}(h:(n::ns).Nodup):Vp n (n::ns)=ns:=by
 unfold Vp
 rw[List.filter_cons_of_neg (by simp)]
 rw[List.filter_eq_self]
 intro m hm
 have:m≠n:=fun e=>(List.nodup_cons.1 h).1 (e ▸ hm)
 simp[this]
theorem Zis {o t:Nat}(H0:Hp):∀ (k:Nat) (tm:Tmp) (s:Sto) (A:List Nat) (H:Hp),tm.names.length=k→SysAt H o t tm s A→TmpOk tm→StoOk s→s.crashed=false→s.count=0→tm.names.Nodup→(∀ n∈tm.names,ZQ s.files n≠none)→tm.closed=false →
 ∃ H' A' tm' s',W2 (.ptr o 0) H0 H=some (.int .i64 0,H')∧SysRes H H' o t tm' s' A A'∧TmpOk tm'∧StoOk s'∧tm'.closed=true∧s'.crashed=false∧s'.count=0:=by
 intro k
 induction k with
 |zero =>
  intro tm s A H hn h hm hk hc h0 hnd hf hcl
  have hn0:tm.names=[]:=List.length_eq_zero_iff.1 hn
  have h':=h
  obtain⟨B,S,⟨ms,clk,nx,sl,h1,rfl⟩,h2,h3,rfl⟩:=h
  have l2:=Y2 h1.cells 2 (v:=nx) rfl
  have hln:=SS.len h1.names.ss 9
  have hlt:decide ((0:Int)<(tm.names.length:Int))=false:=by rw[hn0];rfl
  have s6:=R0 h1.cells 6 (v:=.bool true) rfl rfl (by simp)
  have g6:=Zv (AObj.cells (List.set [.ptr t 0,.str tm.owner,nx,.map ms,.int .i64 (tm.limit:Int),.int .i64 (tm.last:Int),.bool tm.closed] 6 (.bool true))) h1.cells
  have hS:Stp [o] H (H.set o (.cells (List.set [.ptr t 0,.str tm.owner,nx,.map ms,.int .i64 (tm.limit:Int),.int .i64 (tm.last:Int),.bool tm.closed] 6 (.bool true)))):=Stp.set _ _ (by simp)
  generalize hH1:H.set o (.cells (List.set [.ptr t 0,.str tm.owner,nx,.map ms,.int .i64 (tm.limit:Int),.int .i64 (tm.last:Int),.bool tm.closed] 6 (.bool true)))=H1 at s6 g6 hS
  have hnd':=h1.nd
  have hon:∀ a∈ms::ZJ nx,a∉[o]:=fun a ha hx=>by
   rw[List.mem_singleton.1 hx]at ha
   exact (List.nodup_cons.1 hnd').1 ha
  have hlt1:=h1.lt
  have hoS:o∉S:=h3 o (by simp)
  refine⟨H1,(o::ms::ZJ nx)++S,{ tm with closed:=true },s,?_,⟨⟨o::ms::ZJ nx,S,⟨ms,clk,nx,sl,⟨g6,h1.names.frame fun a ha=>hS.at' a (hlt1 a (by simp[ha])) (hon a (by simp[ha])),(hS.at' ms (hlt1 ms (by simp)) (hon ms (by simp))).trans h1.map,h1.sld,h1.nd⟩,rfl⟩,h2.stp hS (fun a ha hx=>hoS (by rw[List.mem_singleton.1 hx]at ha;exact ha)),h3,rfl⟩,hS.mono fun a ha=>by rw[List.mem_singleton.1 ha];simp,fun a ha=>.inl ha⟩,⟨hm.owner,hm.limit,hm.len,hm.last⟩,hk,rfl,hc,h0⟩
  rw[Qy]
  simp only[go_sem,Nat.zero_add,l2,hln,hlt,Rp,s6]
 |succ k ih =>
  intro tm s A H hn h hm hk hc h0 hnd hf hcl
  obtain⟨n,ns,hnn⟩:∃ n ns,tm.names=n::ns:=by
   cases hx:tm.names with
   |nil=>rw[hx]at hn;cases hn
   |cons n ns=>exact⟨n,ns,rfl⟩
  have hsys:=h
  obtain⟨B,S,⟨ms,clk,nx,sl,h1,rfl⟩,h2,h3,rfl⟩:=h
  have l2:=Y2 h1.cells 2 (v:=nx) rfl
  have l0:=Y2 h1.cells 0 (v:=.ptr t 0) rfl
  have hln:=SS.len h1.names.ss 9
  have hi0:=SS.idx h1.names.ss (i:=0) (s:=n) (by rw[hnn];rfl)
  have hlt:decide ((0:Int)<(tm.names.length:Int))=true:=by rw[hn];simp
  have hgn:ZQ s.files n≠none:=hf n (by rw[hnn];simp)
  obtain⟨f,hgf⟩:=Option.ne_none_iff_exists'.1 hgn
  have hrem:s.remove n=(0,{ s with files:=Kc s.files n }):=by
   unfold Sto.remove
   rw[Dd hc h0,if_neg (by simp[hc]),hgf]
  obtain⟨H1,S1,r1,r2⟩:=ZhP h2 hk n
  rw[hrem]at r1 r2
  have hr1:=SysAt.store (o:=o) (tm:=tm) ⟨ms,clk,nx,sl,h1,rfl⟩ h3 r2
  have h1':TmAt H1 o t ms clk nx sl tm:=h1.frame fun a ha=>r2.stp.at' a (h1.lt a ha) (h3 a ha)
  obtain⟨H2,nx2,sl2,q1,q2,q3,q4⟩:=ZiT h1' hm n (by rw[hnn];simp)
  have hkn:Vp n tm.names=ns:=by rw[hnn]at hnd ⊢;exact Zj2 hnd
  rw[hkn]at q2
  have hS1lt:=r2.at'.lt
  have hd1:∀ a∈o::ms::ZJ nx,a∉S1:=fun a ha hs=>by
   rcases r2.own a hs with k1|k1
   ·exact h3 a ha k1
   ·have:=h1.lt a ha;omega
  have hsto2:StoreAt H2 t { s with files:=Kc s.files n } S1:=r2.at'.stp q3 fun a ha hx=>hd1 a hx ha
  have hlo:=q3.len
  have hd2:∀ a∈o::ms::ZJ nx2,a∉S1:=fun a ha hs=>by
   rcases List.mem_cons.1 ha with e|ha
   ·exact hd1 a (by simp[e]) hs
   rcases List.mem_cons.1 ha with e|ha
   ·exact hd1 a (by simp[e]) hs
   ·have:=q4 a ha
    have:=hS1lt a hs
    omega
  have hsys2:SysAt H2 o t { tm with names:=ns,sld:=sl2.map (·.1) } { s with files:=Kc s.files n } ((o::ms::ZJ nx2)++S1):=⟨_,S1,⟨ms,clk,nx2,sl2,q2,rfl⟩,hsto2,hd2,rfl⟩
  have hlen:=hm.len
  have hnl:ns.length=k:=by rw[hnn]at hn;simpa using hn
  have hm2:TmpOk { tm with names:=ns,sld:=sl2.map (·.1) }:=⟨hm.owner,hm.limit,by show ns.length≤tm.last;omega,hm.last⟩
  have hnd2:ns.Nodup:=by rw[hnn]at hnd;exact (List.nodup_cons.1 hnd).2
  obtain⟨H3,A3,tm3,s3,m1,m2,m3,m4,m5,m6,m7⟩:=ih { tm with names:=ns,sld:=sl2.map (·.1) } { s with files:=Kc s.files n } _ H2 hnl hsys2 hm2 (Zs3 hk n) hc h0 hnd2 (fun m hmm=>by
   have hne:m≠n:=fun e=>by rw[hnn]at hnd;exact (List.nodup_cons.1 hnd).1 (e ▸ hmm)
   show ZQ (Kc s.files n) m≠none
   rw[Zrq hne]
   exact hf m (by rw[hnn];simp[hmm])) hcl
  have hl1:=r2.stp.len
  have hown2:∀ a∈(o::ms::ZJ nx2)++S1,a∈(o::ms::ZJ nx)++S∨H.length≤a:=fun a ha=>by
   rcases List.mem_append.1 ha with k1|k1
   ·rcases List.mem_cons.1 k1 with e|k1
    ·exact .inl (by simp[e])
    rcases List.mem_cons.1 k1 with e|k1
    ·exact .inl (by simp[e])
    ·have:=q4 a k1;exact .inr (by omega)
   ·rcases r2.own a k1 with k2|k2
    ·exact .inl (by simp[k2])
    ·exact .inr k2
  have hS2:Stp ((o::ms::ZJ nx)++S) H H2:=hr1.stp.trans q3 (fun _ h=>h) fun a ha=>.inl (List.mem_append_left _ ha)
  have e0:((0:Int) != 0)=false:=rfl
  refine⟨H3,A3,tm3,s3,?_,⟨m2.at',hS2.trans m2.stp (fun _ h=>h) hown2,fun a ha=>?_⟩,m3,m4,m5,m6,m7⟩
  ·have hi0':Zn 1 nx (.int .i64 0)=some (.vp [.str n]):=hi0
   rw[Qy]
   simp only[go_sem,Nat.zero_add,l2,hln,hlt,Rq,hi0',ZG,l0,r1,e0,Rr,q1]
   exact m1
  ·rcases m2.own a ha with k1|k1
   ·exact hown2 a k1
   ·have:=hS2.len;exact .inr (by omega)
theorem ZjU {o t:Nat}{tm:Tmp}{s:Sto}{A:List Nat}{H:Hp}(h:SysAt H o t tm s A)(hm:TmpOk tm)(hk:StoOk s)(hc:s.crashed=false)(h0:s.count=0)(hnd:tm.names.Nodup)(hf:∀ n∈tm.names,ZQ s.files n≠none)(hcl:tm.closed=false) :
 ∃ H' A' tm' s',U5 [.ptr o 0] H=some (.int .i64 0,H')∧SysRes H H' o t tm' s' A A'∧TmpOk tm'∧StoOk s'∧tm'.closed=true∧s'.crashed=false∧s'.count=0:=by
 obtain⟨H',A',tm',s',m⟩:=Zis (o:=o) (t:=t) H tm.names.length tm s A H rfl h hm hk hc h0 hnd hf hcl
 refine⟨H',A',tm',s',?_,m.2⟩
 obtain⟨B,S,⟨ms,clk,nx,sl,h1,rfl⟩,h2,h3,rfl⟩:=h
 have hnil:Yj (.pointer 117) .eql (.ptr o 0) .nilp=some (.bool false):=rfl
 have l6:=Y2 h1.cells 6 (v:=.bool false) (by rw[hcl];rfl)
 rw[T0]
 unfold KQ
 simp only[hnil,go_sem,Rn,Nat.zero_add,l6,Ro]
 exact m.1
def sF (fs:List Fil)(n x:Zm)(pk:Nat):Sto:=⟨262144,pk,fs++[⟨n,x,0⟩],false,0⟩
section
variable {o t g:Nat}{tm:Tmp}{fs:List Fil}{n:Zm}{L:Loc}{lx c e:AV}{p:Spec}{xp:AV}{rx:AV}{rs:List Nat}
 (hm:TmpOk tm) (hcl:tm.closed=false) (hn:n∈tm.names) (hns:n∉tm.sld) (hlim:tm.limit=262144) (hgn:ZQ fs n=none)
 (hsto:∀ x pk,Zt fs+x.length≤262144→pk≤262144→StoOk (sF fs n x pk))
 (hl:LocAV (.agg (L.cells lx c e)) L) (hok:LocOk L) (hs:SpecAV (.agg (p.cells xp)) p) (hks:∀ k∈p.keys,KeOk k)
 (hrx:Sl 1 rx (rs.map fun r=>AV.ptr r 0)) (hnd:rs.Nodup) (hlen:rs.length≤1048576) (hgd:g∉rs)
include hm hcl hn hns hlim hgn hsto hl hok hs hks hrx hnd hlen hgd
end
section
variable {o t:Nat}{A:List Nat}{a q:AV}{L:Loc}{p:Spec}(ha:LocAV a L)(hok:LocOk L)(hsm:LocSm L)(hq:SpecAV q p)(hks:∀ k∈p.keys,KeOk k)(hkl:p.keys.length≤1048576)
 {xn:AV} {ls:List (List Zj)} (hf:∀ l∈ls,Few l) (h8:ls.length≤8) {pk:Nat} (hpk:pk≤262144) (hx:SS xn (nms.take ls.length))
include ha hok hsm hq hks hkl hf h8 hpk hx
end
theorem Zjp (L:Loc)(p:Spec):WO false L p=id:=(Eq.refl _).trans (Eq.refl _)
theorem Zj9 (f:Zj→Zj→Int):∀ (n:Nat) (rest:List (List Zj)),(XM f n rest).length≤n:=by
 intro n
 induction n with
 |zero=>intro rest;exact Nat.le_refl _
 |succ n ih =>
  intro rest
  cases hg:YM f rest 0 none with
  |none=>rw[G8 hg];simp
  |some p =>
   obtain⟨k,a⟩:=p
   rw[QE hg]
   have:=ih (rest.set k ((rest.getD k []).drop 1))
   rw[List.length_cons];omega
theorem Zja (L:Loc)(p:Spec)(ls:List (List Zj)):(G9 L p ls).length≤Y0 ls:=by
 have h:=Zj9 (ZN L p) (Y0 ls) ls
 have k:=Zdp (g:=Xz L p) (XM (ZN L p) (Y0 ls) ls) []
 unfold G9 LJ
 split
 ·rw[TB];exact Nat.le_refl _
 ·split
  ·simp at k;omega
  ·exact h
section
variable {a q:AV}{L:Loc}{p:Spec}(ha:LocAV a L)(hok:LocOk L)(hsm:LocSm L)(hq:SpecAV q p)(hks:∀ k∈p.keys,KeOk k)(hkl:p.keys.length≤1048576)
 {x:AV} {ls:List (List Zj)} (hx:LsV x ls) (hL:Ef ls) (ht:Y0 ls≤1048576) (hl:ls.length≤1048576)
include ha hok hsm hq hks hkl hx hL ht hl
end
section
variable {H:Hp}{o t:Nat}{tm:Tmp}{s:Sto}{A:List Nat}(h:SysAt H o t tm s A)(hm:TmpOk tm)(hk:StoOk s)(hcl:tm.closed=true)
include h hm hk hcl
theorem ZgG (n:Zm):Y3 tm n=8:=by unfold Y3;rw[if_pos hcl]
theorem ZjX {r:Nat}{n:Zm}(hr:H[r]?=some (.cells (Va o n 0 false false []))):Xo [.ptr r 0] H=some (.tuple [.str [],.bool false,.int .i64 8],H):=by
 have f8:=ZgG h hm hk hcl n
 have hnil:Yj (.pointer 125) .eql (.ptr r 0) .nilp=some (.bool false):=rfl
 have l3:=Y2 hr 3 (v:=.bool false) rfl
 have l4:=Y2 hr 4 (v:=.bool false) rfl
 have l0:=Y2 hr 0 (v:=.ptr o 0) rfl
 have l1:=Y2 hr 1 (v:=.str n) rfl
 have l2:=Y2 hr 2 (v:=.int .i64 0) rfl
 have q1:=ZcW h hm hk n (by rw[f8];decide) 0
 rw[f8]at q1
 have e8:((8:Int)==0)=false:=rfl
 have e85:((8:Int)==5)=false:=rfl
 rw[Ux]
 unfold VI
 simp only[go_sem,Nat.zero_add,hnil,Yn,l3,l4,l0,l1,l2,Bool.not_false,q1,List.getElem?_cons_zero,List.getElem?_cons_succ,e8,e85]
theorem ZaF {g:Nat}{L:Loc}{lx c e:AV}{p:Spec}{xp rx:AV}{last:Zm}{has ok:Bool}{r0:Nat}{rs:List Nat}{n:Zm}(hg:H[g]?=some (.cells (Qx L lx c e p xp ok rx last has)))(hrx:Sl 1 rx ((r0::rs).map fun r=>AV.ptr r 0))(hr:H[r0]?=some (.cells (Va o n 0 false false []))) :
 ∃ H',Ye [.ptr g 0] H=some (.tuple [.str [],.bool false,.int .i64 8],H')∧Stp [] H H':=by
 have hbox:ZW (.ptr g 0) H=some (.ptr H.length 0,H++[.cells [.ptr g 0]]):=JC rfl
 have hl2:(H++[AObj.cells [AV.ptr g 0]]).length=H.length+1:=by simp
 have gb:((H++[AObj.cells [AV.ptr g 0]])++[AObj.cells [(.str []),(.int .i64 0),(.bool false)]])[H.length]?=some (.cells [.ptr g 0]):=by simp
 have hS0:Stp [] H ((H++[AObj.cells [AV.ptr g 0]])++[AObj.cells [(.str []),(.int .i64 0),(.bool false)]]):=by rw[List.append_assoc];exact Stp.push _ _
 have hg0:=hS0.get hg (by simp)
 have hr0:=hS0.get hr (by simp)
 have hsys0:=h.stp hS0 (by simp)
 generalize hH2:(H++[AObj.cells [AV.ptr g 0]])++[AObj.cells [(.str []),(.int .i64 0),(.bool false)]]=H2 at gb hS0 hg0 hr0 hsys0
 have hpk:=ZjX hsys0 hm hk hcl hr0
 have lb:=Y2 gb 0 (v:=.ptr g 0) rfl
 have l12:=Y2 hg0 12 (v:=rx) rfl
 have hlen:=Sl.len hrx 52
 have hidx:=Sl.idx hrx (i:=0) (c:=.ptr r0 0) rfl
 have hidx':Zn 1 rx (.int .i64 0)=some (.vp [.ptr r0 0]):=hidx
 have hlt:decide ((0:Int)<(((r0::rs).map fun r=>AV.ptr r 0).length:Int))=true:=by rw[decide_eq_true_eq];simp
 have e8:((8:Int) != 0)=true:=rfl
 have hnil:Yj (.pointer 134) .eql (.ptr g 0) .nilp=some (.bool false):=rfl
 have htk:W6 [.ptr g 0] H=some (.tuple [.str [],.bool false,.int .i64 8],H2):=by
  rw[KP]
  unfold QI
  simp only[hbox,go_sem,hl2,hH2,lb,Nat.zero_add,l12,hlen,XX,hlt,Vy,hidx',ZG,hpk,List.getElem?_cons_zero,List.getElem?_cons_succ,e8,Vx]
 refine⟨H2,?_,hS0⟩
 rw[U6]
 unfold Vj
 simp only[hnil,go_sem,K9,X7,htk,List.getElem?_cons_zero,List.getElem?_cons_succ,Bool.not_false]
theorem Zh1 {a q xn:AV}{L:Loc}{p:Spec}(ha:LocAV a L)(hq:SpecAV q p):∃ H',Qs [.ptr o 0,a,q,xn] H=some (.tuple [.str [],.int .i64 8],H')∧Stp A H H':=by
 obtain⟨lx,c,e,rfl,hlx,hlc,hle⟩:=ha
 obtain⟨xp,rfl,hxp⟩:=hq
 have hnil:Yj (.pointer 117) .eql (.ptr o 0) .nilp=some (.bool false):=rfl
 have hS0:Stp [] H (H++[AObj.cells (L.cells lx c e),.cells (p.cells xp)]):=Stp.push _ _
 have hsys0:=h.stp hS0 (by simp)
 have hbx:ZW (.agg (p.cells xp)) (H++[AObj.cells (L.cells lx c e)])=some (.ptr (H.length+1) 0,H++[AObj.cells (L.cells lx c e),.cells (p.cells xp)]):=by rw[X8];simp
 generalize hH0:H++[AObj.cells (L.cells lx c e),.cells (p.cells xp)]=H0 at hS0 hsys0 hbx
 have hN:De tm s=(([],8),(tm,s)):=by unfold De;rw[if_pos hcl]
 have e8:((8:Int) != 0)=true:=rfl
 obtain⟨B,S,⟨ms,clk,nx,sl,h1,rfl⟩,h2,h3,rfl⟩:=hsys0
 have l6:=Y2 h1.cells 6 (v:=.bool true) (by rw[hcl];rfl)
 have hnw:X2 [.ptr o 0] H0=some (.tuple [.str [],.int .i64 8],H0):=by
  rw[JZ]
  unfold UV
  simp only[hnil,go_sem,XT,Nat.zero_add,l6]
 refine⟨H0,?_,hS0.mono fun a ha=>by cases ha⟩
 rw[TW]
 unfold R5
 simp only[X8,go_sem,hbx,hnil,II,hnw,List.getElem?_cons_zero,List.getElem?_cons_succ,e8]
end
theorem Zh2 {a q xn:AV}{L:Loc}{p:Spec}(ha:LocAV a L)(hq:SpecAV q p)(H:Hp):∃ H',Qs [.nilp,a,q,xn] H=some (.tuple [.str [],.int .i64 5],H')∧Stp [] H H':=by
 obtain⟨lx,c,e,rfl,hlx,hlc,hle⟩:=ha
 obtain⟨xp,rfl,hxp⟩:=hq
 have hnil:Yj (.pointer 117) .eql .nilp .nilp=some (.bool true):=rfl
 refine⟨H++[AObj.cells (L.cells lx c e)]++[.cells (p.cells xp)],?_,by rw[List.append_assoc];exact Stp.push _ _⟩
 rw[TW]
 unfold R5
 simp only[X8,go_sem,hnil]
theorem ZhO (H:Hp):Ye [.nilp] H=some (.tuple [.str [],.bool false,.int .i64 5],H):=by
 have hnil:Yj (.pointer 134) .eql .nilp .nilp=some (.bool true):=rfl
 rw[U6]
 unfold Vj
 simp only[hnil,go_sem]
theorem ZgU (f:Zj→Zj→Int):∀ (r:List (List Zj)) (i:Nat) (b:Option (Nat×Zj)),YM f (r++[[]]) i b=YM f r i b:=by
 intro r
 induction r with
 |nil=>intro i b;rfl
 |cons x r ih =>
  intro i b
  rw[List.cons_append]
  unfold YM
  rw[ih]
theorem ZgY (f:Zj→Zj→Int):∀ (n:Nat) (r:List (List Zj)),XM f n (r++[[]])=XM f n r:=by
 intro n
 induction n with
 |zero=>intro r;rfl
 |succ n ih =>
  intro r
  have hg:=ZgU f r 0 none
  cases hL:YM f r 0 none with
  |none=>rw[G8 hL,G8 (hg.trans hL)]
  |some q =>
   obtain⟨k,a⟩:=q
   obtain⟨t,hkt⟩:=(Zo4 f r [] none (fun k a e=>(by cases e)) (fun _ l hl=>(by cases hl))).1 k a hL
   rw[List.nil_append]at hkt
   have hk:=(List.getElem?_eq_some_iff.1 hkt).1
   rw[QE hL,QE (hg.trans hL),List.set_append_left _ _ hk,List.getD_eq_getElem?_getD,List.getElem?_append_left hk,←List.getD_eq_getElem?_getD,ih]
theorem ZgZ (L:Loc)(p:Spec)(ls:List (List Zj)):G9 L p (ls++[[]])=G9 L p ls:=by
 have ht:Y0 (ls++[[]])=Y0 ls:=by rw[R2];rfl
 unfold G9 LJ
 rw[ht,ZgY]
 simp
section
variable {a q:AV}{L:Loc}{p:Spec}(ha:LocAV a L)(hok:LocOk L)(hsm:LocSm L)(hq:SpecAV q p)(hks:∀ k∈p.keys,KeOk k)(hkl:p.keys.length≤1048576)
 {x:AV} {ls:List (List Zj)} (hx:LsV x ls) (hL:Ef ls) (ht:Y0 ls≤1048576) (hl:ls.length≤1048576)
include ha hok hsm hq hks hkl hx hL ht hl
theorem ZjV:∃ H',TG [a,q,x] []=some (.bool true,H'):=by
 have hfew:=ZkT hx hL hl ht
 have ha2:=ha
 have hq2:=hq
 obtain⟨lx,c,e,rfl,hlx,hlc,hle⟩:=ha2
 obtain⟨xp,rfl,hxp⟩:=hq2
 rw[C6]
 unfold TQ
 simp only[X8,go_sem,List.nil_append,List.length_nil,List.length_singleton,List.singleton_append,List.cons_append]
 obtain⟨b,f1',f2⟩:=hfew [AObj.cells (L.cells lx c e),.cells (p.cells xp)]
 cases b with
 |false =>
  have haw:=ZaY [AObj.cells (L.cells lx c e),.cells (p.cells xp)]
  exact⟨[AObj.cells (L.cells lx c e),.cells (p.cells xp)],by simp only[f1',go_sem,Bool.not_false,haw]⟩
 |true =>
  obtain⟨h8,hf⟩:=f2 rfl
  have l1:Z4 true 6 (.ptr 0 0) [AObj.cells (L.cells lx c e),.cells (p.cells xp)]=some (.agg (L.cells lx c e)):=NZ (i:=0) rfl
  have l2:Z4 true 5 (.ptr 1 0) [AObj.cells (L.cells lx c e),.cells (p.cells xp)]=some (.agg (p.cells xp)):=Tl (i:=1) rfl
  obtain⟨H1,o,t,A1,pk,xn,m1,m2,m3,m4,m5,m6⟩:=Zd9 ha hok hq hks hx hf h8 false rfl rfl [AObj.cells (L.cells lx c e),.cells (p.cells xp)]
  rw[Zjp,List.map_id]at m2
  have g0:H1[0]?=some (.cells (L.cells lx c e)):=m5.get rfl (by simp)
  have g1:H1[1]?=some (.cells (p.cells xp)):=m5.get rfl (by simp)
  have hz0:=fun k=>LA g0 k
  have g1':(H1.set 0 .dead)[1]?=some (.cells (p.cells xp)):=Y5 _ (by decide) g1
  have hz1:=fun k=>LA g1' k
  have hA1:∀ a∈A1,2≤a:=m6
  have hsys:SysAt ((H1.set 0 .dead).set 1 .dead) o t (UO ls.length) (Jq ls pk) A1:=m2.frame fun b hb=>by
   have:=hA1 b hb
   rw[List.getElem?_set_ne (by omega),List.getElem?_set_ne (by omega)]
  have hnm:NmAt ((H1.set 0 .dead).set 1 .dead) xn (nms.take ls.length):=m4.1.frame fun a ha=>by
   have:=(m4.2 a ha).2
   have h2:2≤a:=this
   rw[List.getElem?_set_ne (by omega),List.getElem?_set_ne (by omega)]
  generalize hH2:(H1.set 0 .dead).set 1 .dead=H2 at hsys hnm hz1
  have htl:=ZkV ls hf
  have hfc:=OK ls hf
  have hmul:ls.length*30≤8*30:=Nat.mul_le_mul_right _ h8
  have hmul2:ls.length*6180≤8*6180:=Nat.mul_le_mul_right _ h8
  have hrf:=ZbR (L:=L) (p:=p) hf h8 pk
  have htm:=Zg1 (k:=ls.length) (by omega)
  have hst:StoOk (Jq ls pk):=ZbZ (by omega) (by omega) m3
  have htk:=Ue (k:=ls.length) (by omega)
  -- all lines
  obtain⟨H3,xr,H4,g,r1,r2,H5,xo,r3,r4,r5,r6⟩:=S3 (m:=Y0 ls) htm hst rfl rfl ha hok hsm hq hks hkl hnm.ss htk (by rw[htk];omega) hrf (Nat.le_refl _) (by omega) hsys
  -- with a name that is no file's
  have hnm5:NmAt H5 xn (nms.take ls.length):=hnm.frame fun a ha=>r6.at' a (by
   rcases hnm with ⟨e',_⟩|⟨u,v,e',hu⟩
   ·rw[e']at ha;cases ha
   ·rw[e']at ha;rw[List.mem_singleton.1 ha];exact Zf hu) (m4.2 a ha).1
  obtain⟨xn2,H6,w1,w2,w3,w4,w5,w6,w7⟩:=hnm5.app [120] (by rw[htk];omega)
  have hsys6:SysAt H6 o t (UO ls.length) (Jq ls pk) A1:=r5.stp w3 fun a ha hx=>(m4.2 a hx).1 ha
  have hns2:(nms.take ls.length++[([120]:Zm)]).length=(ls++[[]]).length:=by rw[List.length_append,List.length_append,htk];rfl
  have hx120:([120]:Zm)∉nms:=by rw[Zhr];decide
  have hrf2:∀ (i:Nat) (n:Zm) (l:List Zj),(nms.take ls.length++[([120]:Zm)])[i]?=some n→(ls++[[]])[i]?=some l →
   Xw l=true∧(ZX l).length≤262144∧((Y3 (UO ls.length) n=0∧∃ f,ZQ (Jq ls pk).files n=some f∧f.text=ZX l)∨(Y3 (UO ls.length) n=5∧l=[])):=fun i n l h1 h2=>by
   by_cases hi:i<ls.length
   ·rw[List.getElem?_append_left (by rw[htk];exact hi)]at h1
    rw[List.getElem?_append_left hi]at h2
    exact hrf i n l h1 h2
   ·rw[List.getElem?_append_right (by omega)]at h2
    rw[List.getElem?_append_right (by rw[htk];omega),htk]at h1
    have hi0:i-ls.length=0:=by
     have:=Zf h2
     simp at this
     omega
    rw[hi0]at h1 h2
    simp at h1 h2
    subst h1 h2
    refine⟨rfl,Nat.zero_le _,.inr ⟨?_,rfl⟩⟩
    unfold Y3
    rw[if_neg (by simp[UO]),if_neg (show ([120]:Zm)∉(UO ls.length).names from fun h=>hx120 (List.mem_of_mem_take h))]
  have ht2:Y0 (ls++[[]])=Y0 ls:=by rw[R2];rfl
  have hz2:∀ k:AV→Hp→Z3,∀ H,X3 (.vp (L.cells lx c e)) H k=k (.vp (L.cells lx c e)) H:=fun k H=>by simp[X3,GC]
  have hz3:∀ k:AV→Hp→Z3,∀ H,X3 (.vp (p.cells xp)) H k=k (.vp (p.cells xp)) H:=fun k H=>by simp[X3,GC]
  obtain⟨H7,xr2,H8,g2,u1,u2,H9,xo2,u3,u4,u5,u6⟩:=S3 (m:=Y0 ls) htm hst rfl rfl ha hok hsm hq hks hkl w2.ss hns2 (by rw[List.length_append,htk];simp;omega) hrf2 (by rw[ht2];exact Nat.le_refl _) (by omega) hsys6
  rw[ZgZ]at u4
  -- the merger that is closed
  obtain⟨H10,xr3,rs,v1,v2,v3,v4,v5,v6,v7,v8⟩:=Oc w2.ss (by rw[List.length_append,htk];simp;omega) o H9
  obtain⟨H11,g3,lx',c',e',xp',rx',n1,n2,n3,n4,n5,n6,n7⟩:=Zes ha hsm hq hkl v2 (by rw[v3,List.length_append,htk];simp;omega) H10
  have hA9:=u5.lt
  have hsys11:SysAt H11 o t (UO ls.length) (Jq ls pk) A1:=u5.frame fun b hb=>(n6.at' b (by have:=hA9 b hb;omega) (by simp)).trans (v4 b (hA9 b hb))
  obtain⟨H12,A12,tmc,sc,k1,k2,k3,k4,k5,k6,k7⟩:=ZjU hsys11 htm hst rfl rfl (nms_nd.sublist (List.take_sublist _ _)) (fun n hn=>by
   obtain⟨i,hi⟩:=List.getElem?_of_mem hn
   have hil:i<(nms.take ls.length).length:=Zf hi
   rw[htk]at hil
   have:=Zf3 _ _ htk (nms_nd.sublist (List.take_sublist _ _)) i n ls[i] hi (List.getElem?_eq_getElem hil)
   show ZQ (Xf (nms.take ls.length) ls) n≠none
   rw[this]
   exact fun h=>by cases h) rfl
  -- the first reader
  obtain⟨r0,rs',hrs⟩:∃ r0 rs',rs=r0::rs':=by
   cases hr:rs with
   |nil=>rw[hr,List.length_append,htk]at v3;simp at v3
   |cons r0 rs'=>exact⟨r0,rs',rfl⟩
  obtain⟨n0,hn0⟩:∃ n0,(nms.take ls.length++[([120]:Zm)])[0]?=some n0:=⟨_,List.getElem?_eq_getElem (by rw[List.length_append,htk];simp)⟩
  obtain⟨rr,q1,q2⟩:=v5 0 n0 hn0
  have hrr:rr=r0:=by rw[hrs]at q1;simpa using q1.symm
  subst hrr
  have hr9:H9.length≤rr:=v7 rr (by rw[hrs];simp)
  have hr11:=n6.get q2 (by simp)
  have hA11:=hsys11.lt
  have hnA:∀ {i:Nat},H9.length≤i→i∉A1:=fun hi h=>by have:=hA9 _ h;omega
  have hr12:=k2.stp.get hr11 (hnA hr9)
  have hg12:=k2.stp.get n2 (hnA (by omega))
  rw[hrs]at n5
  obtain⟨H13,x1,x2⟩:=ZaF k2.at' k3 k4 k5 hg12 n5 hr12
  have hsys13:=k2.at'.stp x2 (by simp)
  obtain⟨H14,y1,y2⟩:=ZaF hsys13 k3 k4 k5 (x2.get hg12 (by simp)) n5 (x2.get hr12 (by simp))
  have hsys14:=hsys13.stp y2 (by simp)
  obtain⟨H15,z1,z2⟩:=Zh1 hsys14 k3 k4 k5 (xn:=xn2) ha hq
  obtain⟨H16,z3,z4⟩:=Zh2 (xn:=xn2) ha hq H15
  have z5:=ZhO H16
  obtain⟨y,j1,j2⟩:=ZgP hx ht hl H1
  have hyl:Zk (.slice 9) y=some (.int .i64 (Y0 ls:Int)):=by rw[j2.len 9,TB]
  have hml:=Zja L p ls
  have hsame:=ZjD r4 u4 (by omega) (by omega) H11
  rw[decide_eq_true rfl]at hsame
  have hv1:Yr true 6 (.vp (L.cells lx c e))=some (.agg (L.cells lx c e)):=by simp[Yr,Z4,Go.Am.apart,Loc.cells]
  have hv2:Yr true 5 (.vp (p.cells xp))=some (.agg (p.cells xp)):=by simp[Yr,Z4,Go.Am.apart,Spec.cells]
  have hv3:∀ H,Z4 true 6 (.vp (L.cells lx c e)) H=some (.agg (L.cells lx c e)):=fun H=>Xr 6 _ rfl H
  have hv4:∀ H,Z4 true 5 (.vp (p.cells xp)) H=some (.agg (p.cells xp)):=fun H=>Xr 5 _ rfl H
  have haw:=ZaY H16
  have hone:(ZF 1 [(0,(.str [120]))] [(.str [])]).map (AV.vs 1 .clip)=some (.vs 1 .clip [.str [120]]):=B2 _
  have e0:((0:Int) != 0)=false:=rfl
  have e8:((8:Int) != 8)=false:=rfl
  have e88:((8:Int)==8)=true:=rfl
  have e55:((5:Int)==5)=true:=rfl
  have ee:(([]:Zm)==[])=true:=rfl
  have en:(([]:Zm) != [])=false:=rfl
  refine⟨H16,?_⟩
  simp only[f1',go_sem,Bool.not_true,Bool.not_false,E9,l1,l2,m1,List.getElem?_cons_zero,List.getElem?_cons_succ,j1,hyl,hz0,hz1,hv1,hv2,r1,r2,r3,hone,w1,hz2,hz3,u1,u2,u3,v1,n1,hsame,k1,e0]
  rw[Ea]
  simp only[go_sem,x1,y1,List.getElem?_cons_zero,List.getElem?_cons_succ,hv3,hv4,z1,z3,z5,en,e8,Eb,ee,e88,e55,Bool.not_false,Bool.not_true,haw]
end
end Go.Am
