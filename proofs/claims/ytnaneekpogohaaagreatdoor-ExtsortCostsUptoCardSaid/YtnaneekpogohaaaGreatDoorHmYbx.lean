/-
  THE ABSTRACT MACHINE, part Yb: what the kernel's evaluator works out is what the machine does: operations and code.
-/
import Derived.Test.YtnaneekpogohaaaGreatDoorHmYax
namespace Go.Am
set_option linter.unusedVariables false
set_option linter.unusedSimpArgs false
theorem gr_none {α:Type} (x:Option α):Gr none x:=le_none x
section
variable {C:Cfg} {n:Nat}
def FP.f (p:FP):AL→Option AV:=match p with | .mk f=>f
def FR.f (p:FR):AL→Hp→Option AV:=match p with | .mk f=>f
def FH.f (p:FH):CallF→AL→Hp→Option (AV × Hp):=match p with | .mk f=>f
theorem cParts_eq (places : List (Nat × Nat)) : ∀ (l : List (Nat × Operand)) (r : List (Nat × Nat × FA)), cParts C n places l = some r →
    ∃ m:List (Nat × Nat × Operand),r=m.map (fun p=>(p.1,p.2.1,cA C n p.2.2))∧∀ ev:Operand→AV,(l.map fun p=>(p.1,ev p.2)).mapM (fun p=>(places[p.1]?).map fun (q:Nat × Nat)=>(q.1,q.2,p.2))=some (m.map fun p=>(p.1,p.2.1,ev p.2.2)):=by
 intro l
 induction l with
 | nil=>intro r h;injection h with h;subst h;exact ⟨[],rfl,fun ev=>rfl⟩
 | cons p l ih =>
  intro r h
  have h:(match nthR places p.1,cParts C n places l with
   | some q,some r=>some ((q.1,q.2,cA C n p.2) :: r)
   | _,_=>none)=some r:=h
  rw [nthR_eq] at h
  split at h
  ·rename_i q r' hq hr'
   injection h with h
   subst h
   obtain ⟨m,h1,h2⟩:=ih _ hr'
   refine ⟨(q.1,q.2,p.2) :: m,by rw [h1];rfl,fun ev=>?_⟩
   rw [List.map_cons,List.mapM_cons,h2 ev,hq]
   rfl
  ·cases h
theorem cBuild_gr (t:TypeId) (parts:List (Nat × Operand)) (al:AL):Gr ((cBuild C n t parts).f al) (abuild C.P t (parts.map fun p=>(p.1,evalL C n al p.2))):=by
 unfold cBuild
 split
 ·rename_i zero fs hz hu
  split
  ·rename_i places hp
   split
   ·rename_i ps hps
    obtain ⟨m,h1,h2⟩:=cParts_eq places parts ps hps
    intro r hr
    have hr:(match ffill al ps zero with | some l=>some (AV.agg l) | none=>none)=some r:=hr
    unfold abuild
    rw [hz,hu]
    dsimp only
    rw [hp]
    dsimp only
    rw [h2]
    dsimp only
    split at hr
    ·rename_i l hl
     rw [h1] at hl
     rw [ffill_gr m zero _ hl]
     exact hr
    ·cases hr
   ·exact gr_none _
  ·exact gr_none _
 ·intro r hr
  have hr:abuild C.P t (parts.map fun p=>(p.1,(cA C n p.2).get al))=some r:=hr
  simp only [cA_get] at hr
  exact hr
theorem cBuildS_gr (t:TypeId) (len:Nat) (parts:List (Nat × Operand)) (al:AL):Gr ((cBuildS C n t len parts).f al) (abuildS C.P t len (parts.map fun p=>(p.1,evalL C n al p.2))):=by
 unfold cBuildS
 split
 ·rename_i e he
  split
  ·rename_i size z hs hz
   split
   ·rename_i hc
    rw [Bool.and_eq_true,Bool.and_eq_true,Bool.and_eq_true,decide_eq_true_eq,isR_eq] at hc
    intro r hr
    have hr:(match fsetE al size (parts.map fun p=>(p.1,cA C n p.2)) (List.replicate len z) with | some l=>some (AV.vs size .clip l) | none=>none)=some r:=hr
    unfold abuildS
    rw [he]
    dsimp only
    rw [hs,hz]
    dsimp only
    rw [if_pos ⟨hc.1,hc.2.1,hc.2.2.1,blt_lt hc.2.2.2⟩]
    split at hr
    ·rename_i l hl
     rw [fsetE_gr parts _ _ hl]
     exact hr
    ·cases hr
   ·exact gr_none _
  ·exact gr_none _
 ·exact gr_none _
theorem cPure_gr (op:Op) (al:AL):Gr ((cPure C n op).f al) (apure C (evalL C n al) op):=by
 unfold cPure
 split
 ·rename_i op t x y _
  simp only [apure]
  split
  ·rename_i hi
   rw [if_pos hi]
   split
   ·rename_i hc
    rw [if_pos hc]
    intro r hr
    have hr:ebinI op ((cA C n x).get al) ((cA C n y).get al)=some r:=hr
    rw [cA_get,cA_get] at hr
    exact hr
   ·exact gr_none _
  ·rename_i hi
   rw [if_neg (by rw [hi];simp)]
   unfold abin
   split
   ·rename_i k hk
    rw [hk]
    intro r hr
    have hr:fib op ((cA C n x).get al) ((cA C n y).get al)=some r:=hr
    rw [cA_get,cA_get] at hr
    exact fib_gr _ _ _ _ hr
   ·rename_i hk
    rw [hk]
    intro r hr
    have hr:fsb op ((cA C n x).get al) ((cA C n y).get al)=some r:=hr
    rw [cA_get,cA_get] at hr
    exact fsb_gr _ _ _ _ hr
   ·rename_i hk
    rw [hk]
    intro r hr
    have hr:aeqBin C.P C.eqok op t ((cA C n x).get al) ((cA C n y).get al)=some r:=hr
    rw [cA_get,cA_get] at hr
    exact hr
   ·rename_i hk
    rw [hk]
    intro r hr
    have hr:aeqBin C.P C.eqok op t ((cA C n x).get al) ((cA C n y).get al)=some r:=hr
    rw [cA_get,cA_get] at hr
    exact hr
   ·rename_i d h1 h2 h3 h4 hk
    rw [hk]
    intro r hr
    have hr:ebin d op ((cA C n x).get al) ((cA C n y).get al)=some r:=hr
    rw [cA_get,cA_get] at hr
    cases d <;> first | exact hr | (exact absurd rfl (h1 _)) | (exact absurd rfl h2) | (exact absurd rfl (h3 _)) | (exact absurd rfl (h4 _ _))
   ·exact gr_none _
 ·exact cBuild_gr _ _ _
 ·exact cBuildS_gr _ _ _ _
 ·rename_i t x f
  simp only [apure]
  split
  ·rename_i fd hf
   rw [hf]
   dsimp only
   split
   ·rename_i sz hs
    rw [hs]
    dsimp only
    split
    ·rename_i hb
     rw [if_pos (blt_lt hb)]
     intro r hr
     have hr:ffield fd.offset ((cA C n x).get al)=some r:=hr
     rw [cA_get] at hr
     exact ffield_gr _ _ _ hr
    ·exact gr_none _
   ·exact gr_none _
  ·exact gr_none _
 ·rename_i t x f
  simp only [apure]
  split
  ·rename_i fd hf
   rw [hf]
   dsimp only
   split
   ·rename_i g sz hg hs
    rw [hg,hs]
    dsimp only
    intro r hr
    have hr:(match (cA C n x).get al with | .agg cs=>fpart g sz cs fd.offset | _=>none)=some r:=hr
    rw [cA_get] at hr
    unfold afieldV
    split at hr
    ·rename_i cs hc
     rw [hc]
     rw [fpart_eq] at hr
     exact hr
    ·cases hr
   ·exact gr_none _
  ·exact gr_none _
 ·rename_i t x i
  simp only [apure]
  split
  ·rename_i e hu
   rw [hu]
   dsimp only
   split
   ·rename_i size hs
    rw [hs]
    intro r hr
    have hr:findex size ((cA C n x).get al) ((cA C n i).get al)=some r:=hr
    rw [cA_get,cA_get] at hr
    exact findex_gr _ _ _ _ hr
   ·exact gr_none _
  ·rename_i len e hu
   rw [hu]
   dsimp only
   split
   ·rename_i size hs
    rw [hs]
    intro r hr
    have hr:findexA len size ((cA C n x).get al) ((cA C n i).get al)=some r:=hr
    rw [cA_get,cA_get] at hr
    exact findexA_gr _ _ _ _ _ hr
   ·exact gr_none _
  ·exact gr_none _
 ·rename_i t x i
  simp only [apure]
  split
  ·rename_i hu
   rw [hu]
   intro r hr
   have hr:findexStr ((cA C n x).get al) ((cA C n i).get al)=some r:=hr
   rw [cA_get,cA_get] at hr
   exact findexStr_gr _ _ _ hr
  ·rename_i len e hu
   rw [hu]
   dsimp only
   split
   ·rename_i g size hg hs
    rw [hg,hs]
    intro r hr
    have hr:findexG g len size ((cA C n x).get al) ((cA C n i).get al)=some r:=hr
    rw [cA_get,cA_get] at hr
    exact findexG_gr _ _ _ _ _ _ hr
   ·exact gr_none _
  ·exact gr_none _
 ·rename_i t x lo hi mx
  simp only [apure]
  split
  ·rename_i hu
   rw [hu]
   intro r hr
   have hr:fsliceS ((cA C n x).get al) (getO (lo.map (cA C n)) al) (getO (hi.map (cA C n)) al) (getO (mx.map (cA C n)) al)=some r:=hr
   rw [cA_get,getO_get,getO_get,getO_get,fsliceS_eq] at hr
   exact hr
  ·rename_i e hu
   rw [hu]
   dsimp only
   split
   ·rename_i size hs
    rw [hs]
    intro r hr
    have hr:fsliceV size ((cA C n x).get al) (getO (lo.map (cA C n)) al) (getO (hi.map (cA C n)) al) (getO (mx.map (cA C n)) al)=some r:=hr
    rw [cA_get,getO_get,getO_get,getO_get] at hr
    exact fsliceV_gr _ _ _ _ _ _ hr
   ·exact gr_none _
  ·exact gr_none _
 ·rename_i s d x
  simp only [apure]
  split
  ·rename_i k hs hd
   intro r hr
   have hr:fconv ((cA C n x).get al) k=some r:=hr
   rw [cA_get,fconv_eq] at hr
   unfold aconv
   rename_i k0
   rw [hs,hd]
   exact hr
  ·intro r hr
   have hr:aconv C.P C.wrb s d ((cA C n x).get al)=some r:=hr
   rw [cA_get] at hr
   exact hr
 ·rename_i args argTypes
  simp only [apure]
  split
  ·rename_i x t ha ht
   rw [ha,ht]
   dsimp only
   split
   ·rename_i d hd
    intro r hr
    have hr:flen d ((cA C n x).get al)=some r:=hr
    rw [cA_get,flen_eq] at hr
    unfold alen
    rw [hd]
    exact hr
   ·exact gr_none _
  ·exact gr_none _
 ·rename_i t i
  intro r hr
  have hr:(match (cA C n t).get al with | .tuple l=>nthR l i | _=>none)=some r:=hr
  rw [cA_get] at hr
  simp only [apure]
  unfold aext
  split at hr
  ·rename_i l hl
   rw [hl]
   rw [nthR_eq] at hr
   exact hr
  ·cases hr
 ·rename_i c a b
  intro r hr
  have hr:apick ((cA C n c).get al) ((cA C n a).get al) ((cA C n b).get al)=some r:=hr
  rw [cA_get,cA_get,cA_get] at hr
  exact hr
 ·rename_i op _ x
  intro r hr
  have hr:aun op ((cA C n x).get al)=some r:=hr
  rw [cA_get] at hr
  exact hr
 ·rename_i t a
  simp only [apure]
  split
  ·rename_i g sz hg hs
   rw [hg,hs]
   intro r hr
   have hr:aloadv g sz ((cA C n a).get al)=some r:=hr
   rw [cA_get] at hr
   exact hr
  ·exact gr_none _
 ·rename_i x
  intro r hr
  have hr:anil ((cA C n x).get al)=some r:=hr
  rw [cA_get] at hr
  exact hr
 ·exact le_refl _
theorem cRead_gr (op:Op) (al:AL) (H:Hp):Gr ((cRead C n op).f al H) (aread C (evalL C n al) H op):=by
 unfold cRead
 split
 ·rename_i t a
  simp only [aread]
  split
  ·rename_i g sz hg hs
   rw [hg,hs]
   intro r hr
   have hr:fload g sz ((cA C n a).get al) H=some r:=hr
   rw [cA_get] at hr
   exact fload_gr _ _ _ _ _ hr
  ·exact gr_none _
 ·exact le_refl _
def KOk (C:Cfg) (K:Kn):Prop:=(∀ f args v,K.fl f args=some v→∀ H,flatC (callw C f) args H=some (v,H))∧∀ f g h,C.eff f=some g→K.ef f=some h→∀ args H r,h args H=some r→g.run args H=some r
theorem cCall_gr {K:Kn} (hK:KOk C K) {CL:CallF} (h:Le CL (callw C)) (f:FuncId) (args:List AV) (H:Hp):Gr ((cCall K C f).run K CL args H) (acallF C (callw C) f args H):=by
 unfold cCall acallF
 cases C.ext f with
 | some e=>exact le_refl _
 | none =>
  dsimp only
  cases C.sum f with
  | some g=>exact le_refl _
  | none =>
   dsimp only
   cases hef:C.eff f with
   | some g =>
    dsimp only
    cases hkf:K.ef f with
    | none=>exact le_refl _
    | some h=>exact fun r hr=>hK.2 f g h hef hkf args H r hr
   | none =>
    dsimp only
    cases C.user f with
    | false=>exact gr_none _
    | true =>
     simp only [if_true]
     cases C.flat f with
     | true =>
      intro r hr
      have hr:(match K.fl f args with | some v=>some (v,H) | none=>flatC (CL f) args H)=some r:=hr
      simp only [if_true]
      split at hr
      ·rename_i v hv
       injection hr with hr
       subst hr
       exact hK.1 f args v hv H
      ·exact flat_le (fun l H r hr=>h _ _ _ _ hr) args H r hr
     | false =>
      simp only [Bool.false_eq_true,if_false]
      cases C.ro f with
      | true=>exact ro_le (fun l H r hr=>h _ _ _ _ hr) args H
      | false=>exact fun r hr=>h _ _ _ _ hr
theorem cHeap_gr {K:Kn} (hK:KOk C K) {CL:CallF} (h:Le CL (callw C)) (op:Op) (al:AL) (H:Hp):Gr ((cHeap K C n op).f CL al H) (aheap C (callw C) (evalL C n al) H op):=by
 unfold cHeap
 split
 ·rename_i t a x
  simp only [aheap]
  split
  ·rename_i sz hs
   rw [hs]
   split
   ·rename_i hz
    rw [hz]
    intro r hr
    have hr:fstore sz ((cA C n a).get al) ((cA C n x).get al) H=some r:=hr
    rw [cA_get,cA_get] at hr
    exact fstore_gr _ _ _ _ _ hr
   ·rename_i k hz
    rw [hz]
    intro r hr
    have hr:bR' (stV (k+1) ((cA C n a).get al)) (fstore sz ((cA C n a).get al) ((cA C n x).get al) H) none=some r:=hr
    rw [cA_get,cA_get] at hr
    obtain ⟨h1,h2⟩:=bR_some hr
    dsimp only
    rw [if_pos h1]
    exact fstore_gr _ _ _ _ _ h2
  ·exact gr_none _
 ·rename_i x
  intro r hr
  have hr:fbox ((cA C n x).get al) H=some r:=hr
  rw [cA_get] at hr
  exact fbox_gr _ _ _ hr
 ·rename_i e
  simp only [aheap]
  split
  ·rename_i z hz
   rw [hz]
   dsimp only
   split
   ·rename_i u hu
    rw [hu]
    exact fun r hr=>hr
   ·rename_i hu
    rw [hu]
    intro r hr
    have hr:fbox z H=some r:=hr
    have:=fbox_gr _ _ _ hr
    unfold abox at this
    exact this
  ·exact gr_none _
 ·rename_i args argTypes
  simp only [aheap]
  split
  ·rename_i s x st xt ha ht
   rw [ha,ht]
   dsimp only
   split
   ·rename_i e xd he hx
    rw [he,hx]
    dsimp only
    split
    ·exact gr_none _
    ·rename_i hap
     rw [hap]
     simp only [Bool.not_true,Bool.false_eq_true,if_false]
     split
     ·rename_i k bytes hk hb
      rw [hk,hb]
      dsimp only
      split
      ·rename_i hc
       rw [Bool.and_eq_true] at hc
       rw [if_pos (by rw [Bool.and_eq_true,decide_eq_true_eq];exact ⟨blt_lt hc.1,hc.2⟩)]
       split
       ·rename_i ag hag
        rw [hag]
        intro r hr
        have hr:fappEL ag k bytes ((cA C n s).get al) ((cA C n x).get al) H=some r:=hr
        rw [cA_get,cA_get] at hr
        exact fappEL_gr _ _ _ _ _ _ _ hr
       ·rename_i hag
        rw [hag]
        intro r hr
        have hr:fappE k bytes ((cA C n s).get al) ((cA C n x).get al) H=some r:=hr
        rw [cA_get,cA_get] at hr
        exact fappE_gr _ _ _ _ _ _ hr
      ·exact gr_none _
     ·exact gr_none _
   ·exact gr_none _
  ·exact gr_none _
 ·rename_i f args _
  intro r hr
  have hr:(cCall K C f).run K CL (getA (cAs C n args.toList) al) H=some r:=hr
  rw [cAs_get] at hr
  simp only [aheap]
  rw [if_neg (by rw [show qcall C (.func f) args=false from rfl];simp)]
  have:=cCall_gr hK h f _ _ _ hr
  show acallF C (callw C) f ([]++args.toList.map (evalL C n al)++[]) H=some r
  rw [List.nil_append,List.append_nil]
  exact this
 ·intro r hr
  exact aheap_mono h hr

abbrev KGr (k k':AL→Hp→Res):Prop:=∀ al H,Gr (k al H) (k' al H)
theorem putK_eq (k:AL→Hp→Res) (dst:Option Tmp) (v:AV) (al:AL) (H:Hp):putK k dst v al H=k (putL al dst v) H:=by cases dst <;> rfl
theorem run_p {k:AL→Hp→Res} {dst:Option Tmp} {g:FG} {f:FP} {CL:CallF} {b:Nat} {al:AL} {H:Hp}:FO.run (.p dst g f) CL b k al H=bnd (g.run al (.tuple []) (f.f al)) fun v=>k (putL al dst v) H:=by
 show @Option.rec AV (fun _=>Res) none (fun v=>putK k dst v al H) (g.run al (.tuple []) (@FP.rec (fun _=>Option AV) (fun f=>f al) f))=_
 have:@FP.rec (fun _=>Option AV) (fun f=>f al) f=f.f al:=by cases f;rfl
 rw [this]
 cases g.run al (.tuple []) (f.f al) with
 | none=>rfl
 | some v=>exact putK_eq _ _ _ _ _
theorem run_r {k:AL→Hp→Res} {dst:Option Tmp} {g:FG} {f:FR} {CL:CallF} {b:Nat} {al:AL} {H:Hp}:FO.run (.r dst g f) CL b k al H=bnd (g.run al (.tuple []) (f.f al H)) fun v=>k (putL al dst v) H:=by
 show @Option.rec AV (fun _=>Res) none (fun v=>putK k dst v al H) (g.run al (.tuple []) (@FR.rec (fun _=>Option AV) (fun f=>f al H) f))=_
 have:@FR.rec (fun _=>Option AV) (fun f=>f al H) f=f.f al H:=by cases f;rfl
 rw [this]
 cases g.run al (.tuple []) (f.f al H) with
 | none=>rfl
 | some v=>exact putK_eq _ _ _ _ _
theorem run_h {k:AL→Hp→Res} {dst:Option Tmp} {g:FG} {f:FH} {CL:CallF} {b:Nat} {al:AL} {H:Hp}:FO.run (.h dst g f) CL b k al H=bnd (g.run al (.tuple [],H) (f.f CL al H)) fun r=>k (putL al dst r.1) r.2:=by
 show @Option.rec (AV × Hp) (fun _=>Res) none (fun r=>@Prod.rec AV Hp (fun _=>Res) (fun v H=>putK k dst v al H) r) (g.run al (.tuple [],H) (@FH.rec (fun _=>Option (AV × Hp)) (fun f=>f CL al H) f))=_
 have:@FH.rec (fun _=>Option (AV × Hp)) (fun f=>f CL al H) f=f.f CL al H:=by cases f;rfl
 rw [this]
 cases g.run al (.tuple [],H) (f.f CL al H) with
 | none=>rfl
 | some r=>obtain ⟨v,H'⟩:=r;exact putK_eq _ _ _ _ _
theorem cOp_gr {K:Kn} (hK:KOk C K) {CL:CallF} (h:Le CL (callw C)) {k k':AL→Hp→Res} (hk:KGr k k') (ops:Array Oper) (fl:Bool) (o:Oper) (b:Nat) (al:AL) (H:Hp):Gr ((cOp K C n ops fl o).run CL b k al H) (cxOpL C (callw C) n ops fl o k' al H):=by
 unfold cOp
 split
 ·rename_i x hg hm
  unfold cxOpL
  rw [hg,hm]
  dsimp only
  show Gr (putK k o.dst ((cA C n x).get al) al H) _
  rw [putK_eq,cA_get]
  exact hk _ _
 ·rename_i hno
  have e:cxOpL C (callw C) n ops fl o k' al H=cxOpL' C (callw C) n ops fl o k' al H:=by
   unfold cxOpL
   split
   ·rename_i x hg hm
    exact absurd hm (hno _ hg)
   ·rfl
  rw [e]
  unfold cxOpL'
  split
  ·rename_i hz
   rw [hz]
   rw [run_p,cG_run]
   exact bC (gvalL_gr (cPure_gr _ _)) fun v=>hk _ _
  ·rename_i hz
   rw [hz]
   rw [run_r,cG_run]
   exact bC (gvalL_gr (cRead_gr _ _ _)) fun v=>hk _ _
  ·rename_i h0 h1
   split
   ·rename_i hz;exact absurd hz h0
   ·rename_i hz;exact absurd hz h1
   ·rw [run_h,cG_run]
    exact bC (gvalL_gr (cHeap_gr hK h _ _ _)) fun r=>hk _ _
theorem cOps_gr {K:Kn} (hK:KOk C K) {CL:CallF} (h:Le CL (callw C)) {k k':AL→Hp→Res} (hk:KGr k k') (ops:Array Oper) (draw:Bool) (b:Nat):∀ (l:List Oper) (i:Nat),KGr (runOs CL b k (cOps K C n ops draw l i)) (cxOpsL C (callw C) n ops draw i l k'):=by
 intro l
 induction l with
 | nil=>intro i;exact hk
 | cons o l ih =>
  intro i al H
  show Gr ((cOp K C n ops (draw && floats C ops i) o).run CL b (runOs CL b k (cOps K C n ops draw l (i+1))) al H) _
  exact cOp_gr hK h (ih (i+1)) _ _ _ _ _ _
theorem cOpsG_gr {K:Kn} (hK:KOk C K) {CL:CallF} (h:Le CL (callw C)) {k k':AL→Hp→Res} (hk:KGr k k') (ops:Array Oper) (b:Nat):∀ (l:List Oper) (i:Nat),KGr (runOs CL b k (cOpsG K C n ops l i)) (cxOpsG C (callw C) n ops b i l k'):=by
 intro l
 induction l with
 | nil=>intro i;exact hk
 | cons o l ih =>
  intro i al H
  show Gr (FO.run (match lag C ops i with | true=>cLag C n ops i o | false=>cOp K C n ops (floats C ops i) o) CL b (runOs CL b k (cOpsG K C n ops l (i+1))) al H) _
  unfold cxOpsG
  cases lag C ops i with
  | true =>
   dsimp only
   unfold cLag lagOpL
   cases floats C ops i with
   | true=>exact gr_none _
   | false =>
    dsimp only
    show Gr (bnd (alag (b+lags C ops i) (lagV C (evalL C n al) o.op) H) fun r=>putK (runOs CL b k (cOpsG K C n ops l (i+1))) o.dst r.1 al r.2) _
    refine bR fun r=>?_
    rw [putK_eq]
    exact ih (i+1) _ _
  | false=>exact cOp_gr hK h (ih (i+1)) _ _ _ _ _ _
theorem frzR_gr {k k':AL→Hp→Res} (hk:KGr k k'):∀ (ts:List Nat),KGr (frzR n k ts) (frzT n k' ts):=by
 intro ts
 induction ts with
 | nil=>exact hk
 | cons t ts ih =>
  intro al H
  show Gr (frzK (bR' (Nat.blt t n) (lookR al t) (.tuple [])) H fun v H'=>frzR n k ts ((t,v) :: al) H') _
  unfold frzT
  have:bR' (Nat.blt t n) (lookR al t) (.tuple [])=getL n al t:=by
   unfold getL
   rw [lookR_eq]
   cases Nat.blt t n <;> rfl
  rw [this]
  exact bF fun v H'=>ih _ _
theorem frzO_gr {k k':AL→Hp→Res} (hk:KGr k k') (ts:Option (List Nat)):KGr (frzR n k (match ts with | none=>[] | some ts=>ts)) (frzO n ts k'):=by
 cases ts with
 | none=>exact hk
 | some ts=>exact frzR_gr hk ts

variable {kp:Nat→Option (List Nat)}
abbrev KK (k k':KL):Prop:=∀ e al H,Gr (k e al H) (k' e al H)
theorem ckR_gr {CL:CallF} {ops:Array Oper} {draw:Bool} {k:AL→Hp→Res} {r:Res} {al:AL} {H:Hp} (h:Gr r (regL C CL n ops draw k al H)):Gr (ckR (cChk C n ops draw) al r) (regF C CL n ops draw k al H):=by
 unfold regF
 cases draw with
 | false=>exact h
 | true =>
  show Gr (ckR ((farL C ops).map fun p=>(cA C n (.tmp p.1),cA C n (.tmp p.2))) al r) (chkFar (evalL C n al) (regL C CL n ops true k al H) (farL C ops))
  generalize farL C ops=l
  induction l with
  | nil=>exact h
  | cons p l ih =>
   show Gr (bnd (twoQ ((cA C n (.tmp p.1)).get al) ((cA C n (.tmp p.2)).get al)) fun _=>ckR (l.map fun p=>(cA C n (.tmp p.1),cA C n (.tmp p.2))) al r) (bnd (twoQ (evalL C n al (.tmp p.1)) (evalL C n al (.tmp p.2))) fun _=>chkFar (evalL C n al) (regL C CL n ops true k al H) l)
   rw [cA_get,cA_get]
   cases twoQ (evalL C n al (.tmp p.1)) (evalL C n al (.tmp p.2)) with
   | none=>exact gr_none _
   | some u=>exact ih
theorem cReg_gr {K : Kn} (hK : KOk C K) {CL : CallF} (h : Le CL (callw C)) (fuel : Nat) {k k' : KL} (hk : KK k k') (id : Nat) (ops : Array Oper) (draw : Bool) (al : AL) (H : Hp) :
    Gr (runC n CL fuel (cReg K C kp n id ops draw) k al H) (CXL C (callw C) (LPL C kp n) kp n seqL blockL (.region id ops draw) k' al H):=by
 unfold cReg
 simp only [CXL]
 cases hd:(draw && !(orderOk ops && farKept C ops)) with
 | true=>exact gr_none _
 | false =>
  dsimp only
  simp only [Bool.false_eq_true,if_false]
  cases hl:lagB C ops draw with
  | true =>
   dsimp only
   show Gr (frzR n (fun al H=>ckR (cChk C n ops draw) al (runReg CL (lags C ops ops.size) (cOpsG K C n ops ops.toList 0) k al H)) (match kp (id+1000000) with | none=>[] | some ts=>ts) al H) _
   refine frzO_gr (fun al H=>ckR_gr ?_) _ _ _
   unfold regL
   rw [hl]
   have hz:∃ m,lags C ops ops.size=m+1:=by
    cases hm:lags C ops ops.size with
    | zero =>
     unfold lagB at hl
     rw [hm] at hl
     cases draw <;> cases hl
    | succ m=>exact ⟨m,rfl⟩
   obtain ⟨m,hm⟩:=hz
   rw [hm]
   exact cOpsG_gr hK h (fun al H=>hk .normal al H) _ _ _ _ _ _
  | false =>
   dsimp only
   show Gr (frzR n (fun al H=>ckR (cChk C n ops draw) al (runReg CL 0 (cOps K C n ops draw ops.toList 0) k al H)) (match kp (id+1000000) with | none=>[] | some ts=>ts) al H) _
   refine frzO_gr (fun al H=>ckR_gr ?_) _ _ _
   unfold regL
   rw [hl]
   exact cOps_gr hK h (fun al H=>hk .normal al H) _ _ _ _ _ _ _
theorem trimS_eq (al:AL):∀ (l:List Nat) (k:AL→Res),trimS al l k=k (l.map fun t=>(t,look al t)):=by
 intro l
 induction l with
 | nil=>intro k;rfl
 | cons t l ih =>
  intro k
  show @Bx.rec (fun _=>Res) (fun v=>trimS al l fun r=>k ((t,v) :: r)) (lookB al t)=_
  rw [lookB_eq]
  exact ih _
theorem trimK_eq (c:Code) (al:AL) (k:AL→Res):trimK (cTrim kp c) al k=k (trimL kp c al):=by
 unfold cTrim trimL
 cases firstRegion c with
 | none=>rfl
 | some r =>
  dsimp only
  cases kp r with
  | none=>rfl
  | some keep=>exact trimS_eq _ _ _
theorem trimL_twice (c:Code) (al:AL):trimL kp c (trimL kp c al)=trimL kp c al:=by
 unfold trimL
 cases firstRegion c with
 | none=>rfl
 | some r =>
  dsimp only
  cases kp r with
  | none=>rfl
  | some keep =>
   dsimp only
   apply List.map_congr_left
   intro t ht
   rw [look_map,if_pos ht]
theorem eK_gr {k k' : KL} (hk : KK k k') {B : AL → Hp → Res} {B' : KL → AL → Hp → Res} (hB : ∀ al H, Gr (B al H) (B' k' al H)) (e : AExit) (al : AL) (H : Hp) :
    Gr (eK e (B al H) (fun i=>k (.exit i) al H) (fun l=>k (.goto l) al H) (k .ret al H)) (seqL B' k' e al H):=by
 cases e with
 | normal=>exact hB _ _
 | _=>exact hk _ _ _
theorem runC_gr {K : Kn} (hK : KOk C K) {CL : CallF} (h : Le CL (callw C)) (fuel : Nat) : ∀ (c : Code) (k k' : KL), KK k k' → Tame n k' → ∀ (al : AL) (H : Hp),
    Gr (runC n CL fuel (cCode K C kp n c) k al H) (CXL C (callw C) (LPL C kp n) kp n seqL blockL c k' al H):=by
 intro c
 induction c with
 | region id ops draw=>intro k k' hk ht al H;exact cReg_gr hK h fuel hk id ops draw al H
 | seq a b iha ihb =>
  intro k k' hk ht al H
  simp only [CXL]
  refine iha _ _ (fun e al H=>?_) (tame_seq b ht) al H
  refine eK_gr hk (B:=fun al H=>trimK (cTrim kp b) al fun al=>runC n CL fuel (cCode K C kp n b) k al H) (fun al H=>?_) e al H
  rw [trimK_eq]
  exact ihb k k' hk ht _ _
 | cond c x y ihx ihy =>
  intro k k' hk ht al H
  simp only [CXL]
  show Gr (match (cA C n c).get al with | .bool t=>bR' t (runC n CL fuel (cCode K C kp n x) k al H) (runC n CL fuel (cCode K C kp n y) k al H) | _=>none) _
  rw [cA_get]
  unfold cnd
  split
  ·rename_i t hc
   rw [hc]
   cases t with
   | true=>exact ihx k k' hk ht al H
   | false=>exact ihy k k' hk ht al H
  ·exact gr_none _
 | block id c ih =>
  intro k k' hk ht al H
  simp only [CXL]
  refine ih _ _ (fun e al H=>?_) (tame_block id ht) al H
  cases e with
  | exit i =>
   show Gr (bR' (Nat.beq i id) (k .normal al H) (k (.exit i) al H)) (if i=id then k' .normal al H else k' (.exit i) al H)
   cases hb:Nat.beq i id with
   | true=>rw [if_pos (Nat.eq_of_beq_eq_true hb)];exact hk _ _ _
   | false=>rw [if_neg (Nat.ne_of_beq_eq_false hb)];exact hk _ _ _
  | _=>exact hk _ _ _
 | loop c ih =>
  intro k k' hk ht al H
  simp only [CXL]
  show Gr (loopR (cTrim kp c) (runC n CL fuel (cCode K C kp n c)) fuel k al H) _
  have key:∀ (m:Nat) (k k':KL),KK k k'→Tame n k'→∀ (al:AL) (H:Hp),Gr (loopR (cTrim kp c) (runC n CL fuel (cCode K C kp n c)) m k al H) (LPL C kp n c k' (trimL kp c al) H):=by
   intro m
   induction m with
   | zero=>intro k k' hk ht al H;exact gr_none _
   | succ m ihm =>
    intro k k' hk ht al H
    show Gr (trimK (cTrim kp c) al fun al=>runC n CL fuel (cCode K C kp n c) (fun e al H=>eK e (loopR (cTrim kp c) (runC n CL fuel (cCode K C kp n c)) m k al H) (fun i=>k (.exit i) al H) (fun l=>k (.goto l) al H) (k .ret al H)) al H) _
    rw [trimK_eq,LPL_eq ht,trimL_twice]
    refine ih _ _ (fun e al H=>?_) (tame_loop c ht) _ _
    exact eK_gr hk (B:=fun al H=>loopR (cTrim kp c) (runC n CL fuel (cCode K C kp n c)) m k al H) (fun al H=>ihm k k' hk ht al H) e al H
  exact key fuel k k' hk ht al H
 | scope c ih =>
  intro k k' hk ht al H
  simp only [CXL]
  show Gr (runC n CL fuel (match noGoto c with | true=>cCode K C kp n c | false=>.bad) k al H) _
  split
  ·rename_i hn
   rw [if_pos hn]
   exact ih k k' hk ht al H
  ·exact gr_none _
 | skip=>intro k k' hk ht al H;exact hk _ _ _
 | exit id=>intro k k' hk ht al H;exact hk _ _ _
 | label l=>intro k k' hk ht al H;exact hk _ _ _
 | goto l=>intro k k' hk ht al H;exact hk _ _ _
 | ret=>intro k k' hk ht al H;exact hk _ _ _
 | _=>intro k k' hk ht al H;exact gr_none _

theorem leaveR_gr (f:FuncId) (H0:Hp) (l:List AV) (H:Hp):Gr (leaveR (C.pure f) H0 (oneR l) H) (leaveL C f H0 H l):=by
 have e:leaveL C f H0 H l=leave C f H0 (oneR l,H):=by
  match l with
  | []=>rfl
  | [v]=>rfl
  | v :: w :: l=>rfl
 rw [e]
 unfold leave leaveR
 cases C.pure f with
 | false=>exact le_refl _
 | true =>
  simp only [if_true]
  unfold leaveP
  intro r hr
  have hr:(match eqbH (H.take H0.length) H0 with
   | true=>match closeV H H0.length 9 (oneR l) with
    | some v'=>some (v',H0)
    | none=>none
   | false=>none)=some r:=hr
  split at hr
  ·rename_i he
   rw [if_pos (eqbH_eq _ _ he)]
   exact hr
  ·cases hr
theorem resR_gr (H:Hp) (al:AL) {k k':List AV→Res} (hk:∀ l,Gr (k l) (k' l)):∀ (rs:List ResultVar) (q:List (FA × Option (Bool × Nat))),rs.mapM (cRes C n)=some q→∀ acc,Gr (resR H al k q acc) (resL C n al H rs acc k'):=by
 intro rs
 induction rs with
 | nil =>
  intro q hq acc
  injection hq with hq
  subst hq
  exact hk _
 | cons r rs ih =>
  intro q hq acc
  rw [List.mapM_cons] at hq
  cases hr:cRes C n r with
  | none=>rw [hr] at hq;cases hq
  | some p =>
   rw [hr] at hq
   cases hs:rs.mapM (cRes C n) with
   | none=>rw [hs] at hq;cases hq
   | some q' =>
    rw [hs] at hq
    injection hq with hq
    subst hq
    unfold resL
    cases r with
    | tmp t =>
     injection hr with hr
     subst hr
     show Gr (resR H al k q' (appR acc [(cA C n (.tmp t)).get al])) _
     rw [appR_eq,cA_get]
     exact ih _ hs _
    | cell a t =>
     unfold cRes at hr
     simp only [resOneL]
     dsimp only at hr
     split at hr
     ·rename_i g sz hg hz
      injection hr with hr
      subst hr
      rw [hg,hz]
      show Gr (bnd (fload g sz ((cA C n (.tmp a)).get al) H) fun v=>resR H al k q' (appR acc [v])) _
      rw [cA_get]
      refine bC (fload_gr _ _ _ _) fun v=>?_
      rw [appR_eq]
      exact ih _ hs _
     ·cases hr
theorem runF_gr {K:Kn} (hK:KOk C K) {CL:CallF} (h:Le CL (callw C)) (fuel:Nat) (f:FuncId) (args:List AV) (H:Hp):Gr (runF CL fuel (cFun K C f) args H) (callw C f args H):=by
 unfold cFun
 split
 ·exact gr_none _
 ·rename_i fn hf
  split
  ·exact gr_none _
  ·rename_i c hb
   split
   ·rename_i rs hrs
    intro r hr
    have hr:bR' (Nat.ble args.length fn.ntmps) (runC fn.ntmps CL fuel (cCode K C (C.keep f) fn.ntmps c) (fun e al H1=>eK e (resR H1 al (fun l=>leaveR (C.pure f) H (oneR l) H1) rs []) (fun _=>none) (fun _=>none) (resR H1 al (fun l=>leaveR (C.pure f) H (oneR l) H1) rs [])) (argsL 0 args) H) none=some r:=hr
    obtain ⟨h1,h2⟩:=bR_some hr
    rw [callw_cxl hf hb rfl args h1]
    refine runC_gr hK h fuel c _ _ (fun e al H1=>?_) (tame_ret f fn H) _ _ r h2
    cases e with
    | normal=>exact resR_gr H1 al (fun l=>leaveR_gr f H l H1) _ _ hrs _
    | ret=>exact resR_gr H1 al (fun l=>leaveR_gr f H l H1) _ _ hrs _
    | _=>exact gr_none _
   ·exact gr_none _
theorem callR_le {K:Kn} (hK:KOk C K) (fuel:Nat):∀ d,Le (callR K C fuel d) (callw C):=by
 intro d
 induction d with
 | zero=>intro f a H r h;cases h
 | succ d ih=>intro f a H r h;exact runF_gr hK ih fuel f a H r h
end
def okY (r:Res):Bool:=match r with
 | some (.bool b,_)=>b
 | _=>false
theorem flatC_move {f:List AV→Hp→Res} {l:List AV} {H H':Hp} {r:AV × Hp} (h:flatC f l H'=some r):flatC f l H=some (r.1,H):=by
 unfold flatC at h ⊢
 split at h
 ·split at h
  ·split at h
   ·simp only [Option.some.injEq] at h
    rw [← h]
   ·cases h
  ·cases h
 ·cases h
def okV (r:Res) (v:AV):Bool:=match r with
 | some (w,_)=>AV.eqb w v
 | none=>false
theorem k0_ok {C:Cfg}:KOk C k0:=⟨fun f args v h=>(nomatch h),fun f g h _ h2=>(nomatch h2)⟩
theorem okV_flat {C:Cfg} {K:Kn} (hK:KOk C K) {fuel d:Nat} {f:FuncId} {args:List AV} {v:AV} (h:okV (flatC (callR K C fuel d f) args []) v=true) (H:Hp):flatC (callw C f) args H=some (v,H):=by
 unfold okV at h
 split at h
 ·rename_i w H' hr
  rw [AV.eqb_eq _ _ h] at hr
  have:=flat_le (fun l H r hr=>callR_le hK fuel d f l H r hr) args [] _ hr
  exact flatC_move this
 ·cases h
theorem okY_flat {C:Cfg} {K:Kn} (hK:KOk C K) {fuel d:Nat} {f:FuncId} (h:okY (callR K C fuel d f [] [])=true) (H:Hp):flatC (callw C f) [] H=some (.bool true,H):=by
 unfold okY at h
 split at h
 ·rename_i b H' hr
  subst h
  exact flatC_of (args':=[]) rfl (callR_le hK fuel d _ _ _ _ hr) rfl
 ·cases h
theorem effK_ok {C:Cfg} {K:Kn} (hK:KOk C K) {f:FuncId} {g:EffFn} {h:List AV→Hp→Option (AV × Hp)} (he:C.eff f=some g) (hh:∀ args H r,h args H=some r→g.run args H=some r):KOk C (effK K f h):=by
 refine ⟨hK.1,fun f' g' h' e1 e2=>?_⟩
 have e2:bR' (Nat.beq f' f) (some h) (K.ef f')=some h':=e2
 cases hb:Nat.beq f' f with
 | true =>
  rw [hb] at e2
  have e2:some h=some h':=e2
  injection e2 with e2
  subst e2
  have:=Nat.eq_of_beq_eq_true hb
  subst this
  rw [he] at e1
  injection e1 with e1
  subst e1
  exact hh
 | false =>
  rw [hb] at e2
  exact hK.2 f' g' h' e1 e2
theorem tabK_nil {C:Cfg}:KOk C (tabK []):=⟨fun f args v h=>(nomatch h),fun f g h _ h2=>(nomatch h2)⟩
theorem tabK_cons {C:Cfg} {K:Kn} (hK:KOk C K) {fuel d:Nat} {f:FuncId} {args:List AV} {v:AV} {l:List (Nat × List AV × AV)} (h:okV (flatC (callR K C fuel d f) args []) v=true) (hl:KOk C (tabK l)):KOk C (tabK ((f,args,v) :: l)):=by
 refine ⟨fun g as u h2 H=>?_,fun f g h _ h2=>(nomatch h2)⟩
 have h2:bR' (Nat.beq g f && AV.eqbL as args) (some v) ((tabK l).fl g as)=some u:=h2
 cases hc:(Nat.beq g f && AV.eqbL as args) with
 | true =>
  rw [hc] at h2
  have h2:some v=some u:=h2
  injection h2 with h2
  subst h2
  rw [Bool.and_eq_true] at hc
  rw [Nat.eq_of_beq_eq_true hc.1,AV.eqbL_eq _ _ hc.2]
  exact okV_flat hK h H
 | false =>
  rw [hc] at h2
  exact hl.1 g as u h2 H
end Go.Am
