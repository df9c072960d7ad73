/-
  THE ABSTRACT MACHINE, part H: conversions; every operation that looks at no object.
-/
import Derived.Test.YtpahcdhligjdiaaKmAx
import Derived.Laws.IdiomStrings
namespace Go.Am
open RowKit

section
variable {P:Program} {S:Snap} {W0:World} {H:Hp}

theorem bytesOf_spec:∀ {l:List AV} {s:List UInt8},bytesOf l=some s→∃ ns:List Int,l=ns.map (AV.int .u8)∧s=ns.map fun n=>UInt8.ofNat n.toNat:=by
 intro l
 induction l with
 | nil=>intro s h;simp [bytesOf] at h;exact ⟨[],rfl,by simp [h]⟩
 | cons a l ih =>
  intro s h
  unfold bytesOf at h
  split at h
  ·rename_i hh;cases hh
  ·rename_i n r hh
   injection hh with h1 h2
   subst h1 h2
   split at h
   ·rename_i s' hs'
    injection h with h;subst h
    obtain ⟨ns,rfl,rfl⟩:=ih hs'
    exact ⟨n :: ns,rfl,rfl⟩
   ·cases h
  ·cases h

theorem foldl_push (ns:List Int):∀ (r:ByteArray),(ns.foldl (fun r n=>r.push (UInt8.ofNat n.toNat)) r).data.toList=r.data.toList++ns.map fun n=>UInt8.ofNat n.toNat:=by
 induction ns with
 | nil=>intro r;simp
 | cons n ns ih=>intro r;rw [List.foldl_cons,ih];simp [ByteArray.push]

theorem isU8_some {d:Option TypeDesc} (h:isU8 d=true):d=some (.int .u8):=by
 unfold isU8 at h
 split at h
 ·rfl
 ·cases h

theorem aconv_sound {src dst:TypeId} {x r:AV} {u:Value} (hx:VRel S x u) {wr:TypeId→Bool} (h:aconv P wr src dst x=some r):Yields P W0 S H (convert src dst u) r H:=by
 intro hI
 unfold aconv at h
 split at h
 ·rename_i q k hs hd
  unfold cvInt at h
  split at h
  ·rename_i q' n
   injection h with h;subst h
   cases hx with | int _ _ =>
   exact ⟨.int k (k.wrap n),S,by simp [convert,run_underlying hs,run_underlying hd,Conv.intToInt],Ext.refl S,hI,.int _ _⟩
  ·cases h
 ·rename_i hs hd
  unfold cvStr at h
  split at h
  ·injection h with h;subst h
   cases hx with | str _ b hb =>
   exact ⟨.string b,S,by simp [convert,run_underlying hs,run_underlying hd],Ext.refl S,hI,.str _ _ hb⟩
  ·cases h
 ·rename_i e hs hd
  split at h
  ·rename_i he
   have he:=isU8_some he
   unfold cvOfBytes at h
   split at h
   ·injection h with h;subst h
    cases hx with | nils =>
    exact ⟨.string .empty,S,by simp [convert,run_underlying hs,run_underlying hd,run_underlying he,Conv.bytesToString],Ext.refl S,hI,.str _ _ rfl⟩
   ·rename_i k tok l
    split at h
    ·rename_i hk1
     subst hk1
     split at h
     ·rename_i s hsb
      injection h with h;subst h
      obtain ⟨ns,rfl,rfl⟩:=bytesOf_spec hsb
      cases hx with | vs _ _ _ b off cap f hcap hk h1 h2 ht sp hsp =>
      have hl:(loadCells ⟨b,off,sp⟩ (ns.map (AV.int .u8)).length).run P S.w=.ok (ns.map (Value.int .u8)).toArray S.w:=by
       by_cases hl0:ns=[]
       ·subst hl0;rfl
       obtain rfl:sp=none:=hsp.resolve_right (by have:=List.length_pos_iff.2 hl0;simp at hcap;omega)
       have:=run_loadCells_list (P:=P) S.w ⟨b,off,none⟩ (ns.map (Value.int .u8)) (fun j v hv=>by
        rw [List.getElem?_map,Option.map_eq_some_iff] at hv
        obtain ⟨n,hn,rfl⟩:=hv
        have hj:j < ns.length:=by
         rcases Nat.lt_or_ge j ns.length with h' | h'
         ·exact h'
         ·rw [List.getElem?_eq_none h'] at hn;cases hn
        have hc:=(h1 j 0 (by simpa using hj) (by omega)).1
        have hr:=h2 j (.int .u8 n) 0 (.int .u8 n) (by rw [List.getElem?_map,hn];rfl) rfl
        rw [add_spot]
        simp only [Nat.mul_one,Nat.add_zero] at hc
        rw [hc]
        generalize f j 0=fv at hr
        cases hr
        rfl)
       simpa using this
      refine ⟨.string (ns.foldl (fun r n=>r.push (UInt8.ofNat n.toNat)) ByteArray.empty),S,?_,Ext.refl S,hI,.str _ _ ?_⟩
      ·rw [run_convert_bytes_string S.w src dst e _ _ _ hs he hd]
       exact run_bytesToString S.w _ _ _ ns hl
      ·rw [foldl_push];simp
     ·cases h
    ·cases h
   ·cases h
  ·cases h
 ·rename_i e hs hd
  split at h
  ·rename_i he
   have he:=isU8_some he
   split at h
   ·cases h
   unfold cvToBytes at h
   split at h
   ·injection h with h;subst h
    cases hx with | str _ b hb =>
    subst hb
    have hrun:=run_bytes_of_string S.w src dst e b hs hd he
    have hcap:=grownCap_ge S.w b.size 0 e
    generalize grownCap S.w b.size 0 e=cap at hrun hcap
    have hcell:∀ j,j < b.size→(bytesRow b cap)[j]?=some (.int .u8 ((b.data.toList.getD j 0).toNat:Int)):=by
     intro j hj
     unfold bytesRow
     rw [Array.getElem?_append_left (by simp;exact hj)]
     have hg:b.data[j]?=some b.data[j]:=Array.getElem?_eq_getElem hj
     simp [hg]
    let S1:Snap:=S.drew
    have hI1:Inv W0 S1 H:=hI.drew
    refine ⟨_,S1.grow (.cells (bytesRow b cap) e ((bytesRow b cap).size,(bytesRow b cap).size+1)),hrun,(Ext.drew S).trans (Ext.grow hI1 _),hI1.grow _,?_⟩
    have hlen:(b.data.toList.map fun b=>AV.int .u8 (b.toNat:Int)).length=b.size:=by rw [List.length_map];exact size_toList b
    have hvs:=vs_of_block (S:=S1.grow (.cells (bytesRow b cap) e ((bytesRow b cap).size,(bytesRow b cap).size+1))) (k:=1) (tok:=.no) (l:=b.data.toList.map fun b=>AV.int .u8 (b.toNat:Int))
     (b:=S.w.heap.size) (off:=0) (cap:=cap) (grow_heap S1 _) (by rw [hlen];exact hcap) (fun e he=>by simp at he;obtain ⟨a,_,rfl⟩:=he;rfl) (cell_flat fun e he=>by simp at he;obtain ⟨a,_,rfl⟩:=he;rfl) (fun i _=>.inr rfl)
     (by rw [hlen];simp [bytesRow]) (fun i x v hx hv=>?_) trivial
    ·rw [hlen] at hvs;exact hvs
    ·have hfl : flat (b.data.toList.map fun b => AV.int .u8 (b.toNat : Int)) = b.data.toList.map fun b => AV.int .u8 (b.toNat : Int) := by
        unfold flat
        rw [List.map_map]
        show (b.data.toList.map fun b=>[AV.int .u8 (b.toNat:Int)]).flatten=_
        induction b.data.toList with
        | nil=>rfl
        | cons a l ih=>simp [ih]
     rw [hfl] at hx
     have hi:i < b.size:=by
      rw [← hlen]
      rcases Nat.lt_or_ge i (b.data.toList.map fun b=>AV.int .u8 (b.toNat:Int)).length with h' | h'
      ·exact h'
      ·rw [List.getElem?_eq_none h'] at hx;cases hx
     rw [Nat.zero_add,hcell i hi] at hv
     have hlt:i < b.data.toList.length:=by rw [size_toList];exact hi
     rw [List.getElem?_map,List.getElem?_eq_getElem hlt] at hx
     simp only [Option.map_some,Option.some.injEq] at hx hv
     subst hx hv
     rw [List.getD_eq_getElem?_getD,List.getElem?_eq_getElem hlt]
     exact .int _ _
   ·cases h
  ·cases h
 ·cases h

def Held (S:Snap) (g:Nat) (cs:List AV):Prop:=∃ vs:Array Value,vs.size=cs.length∧∀ i,S.pub g i∧S.w.cell? ⟨g,i,none⟩=vs[i]?
theorem Held.mono {S S':Snap} (hx:Ext S S') {g:Nat} {cs:List AV} (h:Held S g cs):Held S' g cs:=by
 obtain ⟨vs,h1,h2⟩:=h
 exact ⟨vs,h1,fun i=>⟨(hx.pub g i (h2 i).1).1,(hx.pub g i (h2 i).1).2.trans (h2 i).2⟩⟩
def GlobW (C:Cfg) (S:Snap):Prop:=∀ g cs,C.glob g=some cs→VRel S (.vp cs) (.pointer (some ⟨g,0,none⟩))∧Held S g cs
def SumOk (C:Cfg) (id:FuncId) (g:List AV→Option AV):Prop :=
 ∀ {W0:World} (S:Snap) (H:Hp) (args:List AV) (args':Array Value) (v:AV),Inv W0 S H→GlobW C S→args'.size=args.length →
  (∀ (i:Nat) (a:AV) (u:Value),args[i]?=some a→args'[i]?=some u→VRel S a u)→g args=some v →
  Calls C.P id args' S.w fun e w'=>∃ v' S',e=.returned v'∧S'.w=w'∧Ext S S'∧Inv W0 S' H∧VRel S' v v'
def EffOk (C:Cfg) (id:FuncId) (g:EffFn):Prop :=
 ∀ {W0:World} (S:Snap) (H H':Hp) (args:List AV) (args':Array Value) (v:AV),Inv W0 S H→GlobW C S→args'.size=args.length →
  (∀ (i:Nat) (a:AV) (u:Value),args[i]?=some a→args'[i]?=some u→VRel S a u)→g.run args H=some (v,H') →
  Calls C.P id args' S.w fun e w'=>∃ v' S',e=.returned v'∧S'.w=w'∧Ext S S'∧Inv W0 S' H'∧VRel S' v v'
def okCfg (C:Cfg):Prop :=
 (∀ t,C.eqok t=true→C.P.stoodInHeld t=false∧C.P.eqGuardType C.P.depth t=false) ∧
 (∀ f,C.user f=true→∀ (args:Array Value) (w:World),(callFunc f args).run C.P w=.ok (.enter f args) w) ∧
 C.P.follows .mixedOrders=true ∧
 (∀ f e,C.ext f=some e→∀ (args:Array Value) (w:World),(callFunc f args).run C.P w=(do pure (.value (← extF e args)):Sem Next).run C.P w) ∧
 (∀ f g,C.sum f=some g→C.user f=true∧SumOk C f g) ∧
 (∀ f g,C.eff f=some g→C.user f=true∧EffOk C f g)

def Gives (P:Program) (W0:World) (S:Snap) (H:Hp) (s:Sem Next) (v:AV) (H':Hp):Prop :=
 Inv W0 S H→∃ v' S',s.run P S.w=.ok (.value v') S'.w∧Ext S S'∧Inv W0 S' H'∧VRel S' v v'

theorem Yields.gives {s:Sem Value} {v:AV} {H':Hp} (h:Yields P W0 S H s v H'):Gives P W0 S H (do pure (.value (← s))) v H':=by
 intro hI
 obtain ⟨v',S',h1,h2⟩:=h hI
 exact ⟨v',S',by simp [h1],h2⟩
theorem Gives.same {s:Sem Value} {v:AV} (h:∃ v',s.run P S.w=.ok v' S.w∧VRel S v v'):Gives P W0 S H (do pure (.value (← s))) v H:=by
 obtain ⟨v',h1,h2⟩:=h
 exact (Yields.same v' h1 h2).gives

theorem orel_map {S:Snap} {ev:Operand→AV} {ρ:Operand→Value} (hev:∀ x,VRel S (ev x) (ρ x)) (x:Option Operand):ORelV S (x.map ev) (x.map ρ):=by
 cases x with
 | none=>trivial
 | some x=>exact hev x
theorem list_rel {S:Snap} {ev:Operand→AV} {ρ:Operand→Value} (hev:∀ x,VRel S (ev x) (ρ x)) (xs:Array Operand) (i:Nat) (c:AV) (v:Value) (hc:(xs.toList.map ev)[i]?=some c) (hv:(xs.map ρ)[i]?=some v):VRel S c v:=by
 rw [List.getElem?_map,Array.getElem?_toList] at hc
 rw [Array.getElem?_map] at hv
 cases hx:xs[i]? with
 | none=>simp [hx] at hc
 | some x=>simp [hx] at hc hv;subst hc hv;exact hev x
theorem one_of_toList {α:Type} {xs:Array α} {x:α} (h:xs.toList=[x]):xs=#[x]:=by cases xs;simp_all
theorem two_of_toList {α:Type} {xs:Array α} {x y:α} (h:xs.toList=[x,y]):xs=#[x,y]:=by cases xs;simp_all

theorem apure_sound {C : Cfg} (hC : okCfg C) {ev : Operand → AV} {ρ : Operand → Value} (hev : ∀ x, VRel S (ev x) (ρ x)) {o : Oper} {v : AV} (h : apure C ev o.op = some v) :
    Gives C.P W0 S H (execOp ρ o) v H:=by
 obtain ⟨dst,op,type,pos,after,guard⟩:=o
 simp only at h
 unfold execOp
 simp only
 cases op with
 | move x =>
  simp [apure] at h;subst h
  exact fun hI=>⟨ρ x,S,rfl,Ext.refl S,hI,hev x⟩
 | assign x =>
  simp [apure] at h;subst h
  exact fun hI=>⟨ρ x,S,rfl,Ext.refl S,hI,hev x⟩
 | pick c a b =>
  simp only [apure] at h
  unfold apick at h
  split at h
  ·rename_i t ht
   injection h with h;subst h
   have hc:=hev c
   rw [ht] at hc
   generalize hcv:ρ c=cv at hc
   cases hc with | bool _ =>
   intro hI
   refine ⟨if t then ρ a else ρ b,S,by simp [hcv,asBool],Ext.refl S,hI,?_⟩
   cases t
   ·exact hev b
   ·exact hev a
  ·cases h
 | build t parts=>simp only [apure] at h;exact Gives.same (abuild_sound hev h)
 | buildSlice t len parts=>simp only [apure] at h;exact (abuildS_sound hev h).gives
 | load t a =>
  simp only [apure] at h
  split at h
  ·rename_i g sz hg hs
   unfold aloadv at h
   split at h
   ·rename_i cells hc
    have ha:=hev a
    rw [hc] at ha
    generalize hav:ρ a=av at ha
    cases ha with | vp _ b off f h0 h1 h2 =>
    refine Gives.same ?_
    obtain ⟨v',hr,hv⟩:=loadVar_sound (P:=C.P) (S:=S) (t:=t) (off:=off) (b:=b) (f:=f) hg hs (fun i hi=>by rw [Nat.add_comm];exact (h1 i hi).1) h2 h0 h
    exact ⟨v',by simpa [hav,Instr.loadAt,Instr.sureAddr] using hr,hv⟩
   ·cases h
  ·cases h
 | nilCheck x =>
  simp only [apure] at h
  unfold anil at h
  have hx:=hev x
  split at h
  ·rename_i o off he
   injection h with h;subst h
   rw [he] at hx
   generalize hxv:ρ x=xv at hx
   cases hx with | ptr _ _ b hb =>
   exact fun hI=>⟨_,S,by simp only [hxv];rfl,Ext.refl S,hI,.ptr _ _ b hb⟩
  ·rename_i cs he
   injection h with h;subst h
   rw [he] at hx
   generalize hxv:ρ x=xv at hx
   cases hx with | vp _ b off f h0 h1 h2 =>
   exact fun hI=>⟨_,S,by simp only [hxv];rfl,Ext.refl S,hI,.vp _ b off f h0 h1 h2⟩
  ·rename_i o e off he
   injection h with h;subst h
   rw [he] at hx
   generalize hxv:ρ x=xv at hx
   cases hx with | wp _ _ _ b hb =>
   exact fun hI=>⟨_,S,by simp only [hxv];rfl,Ext.refl S,hI,.wp _ _ _ b hb⟩
  ·cases h
 | binOp op t x y ty =>
  simp only [apure] at h
  split at h
  ·rename_i hif
   split at h
   ·rename_i hc
    exact Gives.same (ebinI_sound hif hc (hev x) (hev y) h)
   ·cases h
  ·exact Gives.same (abin_sound hC.1 (hev x) (hev y) h)
 | unOp op t x=>simp only [apure] at h;exact Gives.same (aun_sound (hev x) h)
 | convert s d x=>simp only [apure] at h;exact (aconv_sound (hev x) h).gives
 | makeFunc fn first captured =>
  cases fn <;> simp only [apure] at h
  case func f =>
   injection h with h;subst h
   exact fun hI=>⟨.func (.func f) (first.map ρ) (captured.map ρ),S,by simp [Instr.makeFunc],Ext.refl S,hI,.fn _ _ _ _ _ (by simp) (by simp) (list_rel hev first) (list_rel hev captured)⟩
  all_goals cases h
 | slice t x lo hi mx =>
  simp only [apure] at h
  have hx:=hev x
  split at h
  ·rename_i hu
   unfold asliceS at h
   split at h
   ·rename_i s he hmx
    have hmn:mx=none:=by
     cases mx with
     | none=>rfl
     | some _=>simp at hmx
    subst hmn
    rw [he] at hx
    generalize hxv:ρ x=xv at hx
    cases hx with | str _ b hb =>
    refine Gives.same ?_
    obtain ⟨v',hr,hv⟩:=asliceStr_sound (P:=C.P) hu hb (orel_map hev lo) (orel_map hev hi) h
    exact ⟨v',by simpa [hxv,Instr.sliceAt,run_underlying hu] using hr,hv⟩
   ·cases h
  ·rename_i e hu
   split at h
   ·rename_i size hs
    refine Gives.same ?_
    obtain ⟨v',hr,hv⟩:=asliceV_sound (P:=C.P) hu hs hx (orel_map hev lo) (orel_map hev hi) (orel_map hev mx) h
    exact ⟨v',by simpa [Instr.sliceAt,run_underlying hu] using hr,hv⟩
   ·cases h
  ·cases h
 | fieldAddr t x f =>
  simp only [apure] at h
  split at h
  ·rename_i fd hf
   split at h
   ·rename_i sz hs
    split at h
    ·rename_i h0
     obtain ⟨b,o,hxv,hr⟩:=afield_sound (hev x) h
     exact Gives.same ⟨_,by rw [hxv];exact run_fieldAt hf hs h0 S.w,hr⟩
    ·cases h
   ·cases h
  ·cases h
 | field t x f =>
  simp only [apure] at h
  split at h
  ·rename_i fd hf
   split at h
   ·rename_i g sz hg hs
    unfold afieldV at h
    split at h
    ·rename_i cs he
     have hx:=hev x
     rw [he] at hx
     generalize hxv:ρ x=xv at hx
     cases hx with | agg _ vs h0 h1 h2 =>
     obtain ⟨v',hr,hv⟩:=part_sound hg hs ⟨h1,h2,h0⟩ h
     exact Gives.same ⟨v',by rw [hxv,run_field hf];exact hr,hv⟩
    ·cases h
   ·cases h
  ·cases h
 | indexAddr t x i =>
  simp only [apure] at h
  split at h
  ·rename_i e hu
   split at h
   ·rename_i size hs
    exact Gives.same (aindexS_sound hu hs (hev x) (hev i) h)
   ·cases h
  ·rename_i len e hu
   split at h
   ·rename_i size hs
    exact Gives.same (aindexA_sound hu hs (hev x) (hev i) h)
   ·cases h
  ·cases h
 | index t x i =>
  simp only [apure] at h
  split at h
  ·rename_i hu
   exact Gives.same (aindexStr_sound hu (hev x) (hev i) h)
  ·rename_i len e hu
   split at h
   ·rename_i g size hg hs
    exact Gives.same (aindexAgg_sound hu hg hs (hev x) (hev i) h)
   ·cases h
  ·cases h
 | extract t i =>
  simp only [apure] at h
  unfold aext at h
  split at h
  ·rename_i l he
   have hx:=hev t
   rw [he] at hx
   generalize hxv:ρ t=xv at hx
   cases hx with | tuple _ vs h1 h2 =>
   obtain ⟨u,hu,hr⟩:∃ u,vs[i]?=some u∧VRel S v u:=by
    have hlt:i < vs.size:=by
     rw [h1]
     rcases Nat.lt_or_ge i l.length with h' | h'
     ·exact h'
     ·rw [List.getElem?_eq_none h'] at h;cases h
    exact ⟨vs[i],Array.getElem?_eq_getElem hlt,h2 i v _ h (Array.getElem?_eq_getElem hlt)⟩
   exact Gives.same ⟨u,by simp [hxv,Instr.extract,hu],hr⟩
  ·cases h
 | call c =>
  obtain ⟨callee,args,argTypes⟩:=c
  cases callee with
  | value f=>simp [apure] at h
  | invoke r m=>simp [apure] at h
  | builtin b =>
   cases b <;> first
    | (simp [apure] at h;done)
    | skip
   case len =>
    simp only [apure] at h
    split at h
    ·rename_i x t ha ht
     obtain rfl:=one_of_toList ha
     obtain rfl:=one_of_toList ht
     intro hI
     obtain ⟨v',h1,h2⟩:=alen_sound (P:=C.P) (hev x) h type
     exact ⟨v',S,by simp [resolve,invoke,builtin,h1],Ext.refl S,hI,h2⟩
    ·cases h
   case min =>
    simp only [apure] at h
    split at h
    ·rename_i x y ha
     obtain rfl:=two_of_toList ha
     intro hI
     obtain ⟨v',h1,h2⟩:=amin2_sound (P:=C.P) (hev x) (hev y) h argTypes type
     exact ⟨v',S,by simp [resolve,invoke,builtin,h1],Ext.refl S,hI,h2⟩
    ·cases h
   case max =>
    simp only [apure] at h
    split at h
    ·rename_i x y ha
     obtain rfl:=two_of_toList ha
     intro hI
     obtain ⟨v',h1,h2⟩:=amax2_sound (P:=C.P) (hev x) (hev y) h argTypes type
     exact ⟨v',S,by simp [resolve,invoke,builtin,h1],Ext.refl S,hI,h2⟩
    ·cases h
 | makeInterface t x =>
  simp only [apure,amkI] at h
  split at h
  ·cases h
  ·rename_i d hd hu
   injection h with h
   subst h
   refine Gives.same ⟨.iface t (ρ x),?_,.iface t _ _ (hev x)⟩
   have hr:=fun w=>run_underlying (w:=w) hu
   simp only [Instr.makeInterface,Sem.run_bind,hr,Result.andThen_ok]
   cases d <;> first | rfl | exact absurd hu (hd _)
  ·cases h
 | typeAssert x xt t ok =>
  simp only [apure] at h
  split at h
  ·rename_i z hz
   obtain ⟨zc,z1,z2⟩:=zeroT_sound hz
   unfold atyI at h
   split at h
   ·cases h
   ·rename_i d hd hu
    have hr:=fun w=>run_underlying (w:=w) hu
    have hx:=hev x
    have hdd:∀ ms,d ≠ .interface ms:=fun ms e=>hd ms e
    split at h
    ·rename_i t' v' he
     rw [he] at hx
     generalize hxv:ρ x=xv at hx
     cases hx with | iface _ _ u hvu =>
     split at h
     ·rename_i htt
      injection h with h
      subst h
      refine Gives.same ⟨if ok then .tuple #[u,.bool true] else u,?_,?_⟩
      ·simp only [hxv,Instr.typeAssert,Sem.run_bind,hr,Result.andThen_ok]
       cases d <;> first | (simp [htt];done) | exact absurd rfl (hdd _)
      ·cases ok with
       | true => exact .tuple _ _ rfl (fun i a b ha hb => by
           match i with
           | 0=>simp at ha hb;subst ha;subst hb;exact hvu
           | 1=>simp at ha hb;subst ha;subst hb;exact .bool _
           | i+2=>simp at ha)
       | false=>exact hvu
     ·rename_i htt
      split at h
      ·rename_i hok
       injection h with h
       subst h
       refine Gives.same ⟨.tuple #[zc,.bool false],?_,?_⟩
       ·simp only [hxv,Instr.typeAssert,Sem.run_bind,hr,Result.andThen_ok]
        cases d <;> first | (simp [htt,hok,z1];done) | exact absurd rfl (hdd _)
       ·exact .tuple _ _ rfl (fun i a b ha hb => by
           match i with
           | 0=>simp at ha hb;subst ha;subst hb;exact z2 S
           | 1=>simp at ha hb;subst ha;subst hb;exact .bool _
           | i+2=>simp at ha)
      ·cases h
    ·rename_i he
     rw [he] at hx
     generalize hxv:ρ x=xv at hx
     cases hx
     split at h
     ·rename_i hok
      injection h with h
      subst h
      refine Gives.same ⟨.tuple #[zc,.bool false],?_,?_⟩
      ·simp only [hxv,Instr.typeAssert,Sem.run_bind,hr,Result.andThen_ok]
       cases d <;> first | (simp [hok,z1];done) | exact absurd rfl (hdd _)
      ·exact .tuple _ _ rfl (fun i a b ha hb => by
          match i with
          | 0=>simp at ha hb;subst ha;subst hb;exact z2 S
          | 1=>simp at ha hb;subst ha;subst hb;exact .bool _
          | i+2=>simp at ha)
     ·cases h
    ·cases h
   ·cases h
  ·cases h
 | _=>simp [apure] at h
end
end Go.Am
namespace Go.Am
open RowKit

section
variable {P:Program} {S:Snap} {W0:World} {H:Hp}

theorem Below.setRow {B g:Nat} {a w:World} (h:Below B a w) (hg:B≤g) (cs:Array Value):Below B a (w.setRow g cs) :=
 h.trans ⟨rfl,rfl,rfl,by simp,fun k hk=>setRow_other _ _ _ _ (by omega)⟩

theorem CellsRel.oneCells {l:List AV} {c:Array Value} (h:CellsRel S l c):∀ v ∈ c.toList,v.oneCell'=true:=by
 intro v hv
 obtain ⟨i,hi⟩:=List.getElem?_of_mem hv
 rw [Array.getElem?_toList] at hi
 have hlt:i < l.length:=by
  rw [← h.size]
  rcases Nat.lt_or_ge i c.size with h' | h'
  ·exact h'
  ·rw [Array.getElem?_eq_none h'] at hi;cases hi
 have hr:=h.rel i l[i] v (List.getElem?_eq_getElem hlt) hi
 have hcell:(l[i]).isCell=true:=List.all_eq_true.1 h.cell _ (List.getElem_mem hlt)
 generalize l[i]=a at hr hcell
 cases hr <;> first | rfl | (simp [AV.isCell] at hcell;done)

theorem lt_of_getL {α:Type} {l:List α} {i:Nat} {x:α} (h:l[i]?=some x):i < l.length:=by
 rcases Nat.lt_or_ge i l.length with h' | h'
 ·exact h'
 ·rw [List.getElem?_eq_none h'] at h;cases h
def Snap.obj (S:Snap) (n:Nat) (o:Obj):Snap:={ S with w:=S.w.alloc o,phi:=fun x=>if x=n then some S.w.heap.size else S.phi x }
theorem Ext.objAt (hI:Inv W0 S H) {n:Nat} (hp:S.phi n=none) (o:Obj):Ext S (S.obj n o):=by
 refine ⟨⟨fun x b h=>?_,fun b i h=>⟨h,World.cell?_alloc_lt _ _ _ (hI.puball b i h)⟩,fun _ e b hw sz h=>⟨e,b,hw,sz,h,Nat.le_refl _,fun _=>⟨rfl,rfl,rfl⟩⟩⟩,rfl,fun _ _ h _=>h⟩
 show (if x=n then _ else _)=_
 rw [if_neg]
 ·exact h
 ·rintro rfl
  rw [hp] at h
  cases h
theorem Ext.obj (hI:Inv W0 S H) (o:Obj):Ext S (S.obj H.length o):=Ext.objAt hI (hI.past _ (Nat.le_refl _)).1 o
theorem obj_phi_new (S:Snap) (n:Nat) (o:Obj):(S.obj n o).phi n=some S.w.heap.size:=by simp [Snap.obj]
theorem obj_phi_old {n x:Nat} {o:Obj} (h:x ≠ n):(S.obj n o).phi x=S.phi x:=by simp [Snap.obj,h]
theorem obj_heap (S:Snap) (n:Nat) (o:Obj):(S.obj n o).w.heap[S.w.heap.size]?=some o:=heap_alloc_new S.w o

theorem Inv.objAt (hI:Inv W0 S H) {n0:Nat} {H':Hp} {o:Obj} {x:AObj} (hp:S.phi n0=none) (hn:H'[n0]?=some x) (ho:∀ m,m ≠ n0→H'[m]?=H[m]?) (hl:H.length≤H'.length) (hx:ORel (S.obj n0 o) W0.heap.size n0 x):Inv W0 (S.obj n0 o) H':=by
 have hext:=Ext.objAt hI hp o
 have hn0:n0 < H'.length:=by
  rcases Nat.lt_or_ge n0 H'.length with h' | h'
  ·exact h'
  ·rw [List.getElem?_eq_none h'] at hn;cases hn
 refine ⟨hI.below.alloc hI.size o,fun n y h=>?_,fun n hn=>?_,fun o1 o2 b h1 h2 hd1 hd2=>?_,hI.tinj,fun t e b hw sz n ht=>?_,fun b i h=>?_,fun n b h=>?_,fun t e b hw sz h=>?_,hI.lim⟩
 ·by_cases e1:n=n0
  ·subst e1
   rw [hn] at h
   injection h with h
   subst h
   exact hx
  ·rw [ho n e1] at h
   exact (hI.objs n y h).frame hext (fun b _ hlt=>⟨Below.heap_alloc S.w o b hlt,fun i hp=>hp⟩) rfl (obj_phi_old e1)
 ·obtain ⟨p,q⟩:=hI.past n (by omega)
  exact ⟨by rw [obj_phi_old (by omega)];exact p,q⟩
 ·have old:∀ x,x ≠ n0→(S.obj n0 o).phi x=some b→b < S.w.heap.size:=fun x hx h=>by rw [obj_phi_old hx] at h;exact hI.dom x b h
  by_cases e1:o1=n0
  ·by_cases e2:o2=n0
   ·rw [e1,e2]
   ·rw [e1,obj_phi_new] at h1
    injection h1 with h1
    have:=old o2 e2 h2
    omega
  ·by_cases e2:o2=n0
   ·rw [e2,obj_phi_new] at h2
    injection h2 with h2
    have:=old o1 e1 h1
    omega
   ·rw [ho o1 e1] at hd1
    rw [ho o2 e2] at hd2
    rw [obj_phi_old e1] at h1
    rw [obj_phi_old e2] at h2
    exact hI.inj o1 o2 b h1 h2 hd1 hd2
 ·by_cases e1:n=n0
  ·rw [e1,obj_phi_new]
   have:=hI.tdom t e b hw sz ht
   intro hc
   injection hc with hc
   omega
  ·rw [obj_phi_old e1]
   exact hI.apart t e b hw sz n ht
 ·show b < (S.w.alloc o).heap.size
  rw [World.size_alloc];exact Nat.lt_succ_of_lt (hI.puball b i h)
 ·show b < (S.w.alloc o).heap.size
  rw [World.size_alloc]
  by_cases e1:n=n0
  ·rw [e1,obj_phi_new] at h
   injection h with h
   omega
  ·rw [obj_phi_old e1] at h
   exact Nat.lt_succ_of_lt (hI.dom n b h)
 ·show b < (S.w.alloc o).heap.size
  rw [World.size_alloc];exact Nat.lt_succ_of_lt (hI.tdom t e b hw sz h)
theorem Inv.obj (hI:Inv W0 S H) {o:Obj} {x:AObj} (hx:ORel (S.obj H.length o) W0.heap.size H.length x):Inv W0 (S.obj H.length o) (H++[x]):=by
 refine Inv.objAt hI (hI.past _ (Nat.le_refl _)).1 (by simp) (fun m hm=>?_) (by simp) hx
 rcases Nat.lt_or_ge m H.length with hlt | hge
 ·rw [List.getElem?_append_left hlt]
 ·rw [List.getElem?_eq_none hge,List.getElem?_eq_none (by simp;omega)]
theorem Inv.resv (hI:Inv W0 S H) (n:Nat):Inv W0 S (H++List.replicate n .free):=by
 have get:∀ m,H.length≤m→(H++List.replicate n AObj.free)[m]?=none ∨ (H++List.replicate n AObj.free)[m]?=some .free:=fun m hm=>by
  rw [List.getElem?_append_right hm,List.getElem?_replicate]
  split
  ·exact .inr rfl
  ·exact .inl rfl
 refine ⟨hI.below,fun o x h=>?_,fun o h=>hI.past o (by simp at h;omega),fun o o' b h h' hd hd'=>?_,hI.tinj,hI.apart,hI.puball,hI.dom,hI.tdom,hI.lim⟩
 ·rcases Nat.lt_or_ge o H.length with hlt | hge
  ·rw [List.getElem?_append_left hlt] at h
   exact hI.objs o x h
  ·rcases get o hge with g | g
   ·rw [g] at h;cases h
   ·rw [g] at h
    injection h with h
    subst h
    exact hI.past o hge
 ·have lt : ∀ o b, S.phi o = some b → o < H.length := fun o b h => by
     rcases Nat.lt_or_ge o H.length with h' | h'
     ·exact h'
     ·rw [(hI.past o h').1] at h;cases h
  rw [List.getElem?_append_left (lt o b h)] at hd
  rw [List.getElem?_append_left (lt o' b h')] at hd'
  exact hI.inj o o' b h h' hd hd'

theorem newRow_sound {l : List AV} {c : Array Value} (hI : Inv W0 S H) (hc : CellsRel S l c) (el : TypeId) :
    (newRow el c).run P S.w=.ok ⟨S.w.heap.size,0,none⟩ (S.obj H.length (.cells c el)).w∧Inv W0 (S.obj H.length (.cells c el)) (H++[.cells l])∧(S.obj H.length (.cells c el)).phi H.length=some S.w.heap.size:=by
 have hext:=Ext.obj hI (.cells c el)
 refine ⟨by simp [newRow];rfl,hI.obj ⟨S.w.heap.size,c,el,obj_phi_new S _ _,hI.size,obj_heap S _ _,hc.size,fun i x v hi hv=>(hc.rel i x v hi hv).mono hext,fun i hp=>?_,hc.cell⟩,obj_phi_new S _ _⟩
 exact absurd (hI.puball _ i hp) (Nat.lt_irrefl _)

theorem newBld_sound {T u : TypeId} {c : Array Value} (hI : Inv W0 S H) (hc : c = #[.pointer none, .slice none 0 0]) (hTu : T ≠ u) :
    (newRow T c).run P S.w=.ok ⟨S.w.heap.size,0,none⟩ (S.obj H.length (.cells c T)).w∧Inv W0 (S.obj H.length (.cells c T)) (H++[.bld T u []])∧(S.obj H.length (.cells c T)).phi H.length=some S.w.heap.size:=by
 subst hc
 refine ⟨by simp [newRow];rfl,hI.obj ⟨S.w.heap.size,obj_phi_new S _ _,.inl ⟨hI.size,.slice none 0 0,obj_heap S _ _,World.ownsRowF_nil _ _ _ _,by simp [Value.ownBlock]⟩,hTu,fun i hp=>?_,fun v g hv hg=>?_⟩,obj_phi_new S _ _⟩
 ·exact absurd (hI.puball _ i hp) (Nat.lt_irrefl _)
 ·have:=obj_heap S H.length (.cells #[.pointer none,.slice none 0 0] T)
  rw [Lib.cell_of_heap this] at hv
  injection hv with hv
  subst hv
  simp [Value.ownBlock] at hg

theorem newRow_at {n : Nat} {l : List AV} {c : Array Value} (hI : Inv W0 S H) (hn : H[n]? = some .free) (hc : CellsRel S l c) (el : TypeId) :
    (newRow el c).run P S.w=.ok ⟨S.w.heap.size,0,none⟩ (S.obj n (.cells c el)).w∧Ext S (S.obj n (.cells c el))∧Inv W0 (S.obj n (.cells c el)) (H.set n (.cells l))∧(S.obj n (.cells c el)).phi n=some S.w.heap.size:=by
 have hfree:=hI.objs n _ hn
 have hext:=Ext.objAt hI hfree.1 (.cells c el)
 have hlt:n < H.length:=by
  rcases Nat.lt_or_ge n H.length with h' | h'
  ·exact h'
  ·rw [List.getElem?_eq_none h'] at hn;cases hn
 refine ⟨by simp [newRow];rfl,hext,hI.objAt hfree.1 (x:=.cells l) (by simp [hlt]) (fun m hm=>by rw [List.getElem?_set_ne (Ne.symm hm)]) (by simp) ⟨S.w.heap.size,c,el,obj_phi_new S _ _,hI.size,obj_heap S _ _,hc.size,fun i x v hi hv=>(hc.rel i x v hi hv).mono hext,fun i hp=>?_,hc.cell⟩,obj_phi_new S _ _⟩
 exact absurd (hI.puball _ i hp) (Nat.lt_irrefl _)

theorem run_storeCells_z (P : Program) (g o : Nat) (t : TypeId) (fz : Nat × Nat) : ∀ (vs : List Value) (i : Nat) (cur : Array Value) (w : World), w.heap[g]? = some (.cells cur t fz) → FzOk cur.size fz → o + i + vs.length ≤ cur.size → (∀ v ∈ vs, v.oneCell' = true) →
    (storeCells ⟨g,o,none⟩ vs i).run P w=.ok () (w.setRow g (cur.toList.take (o+i)++vs++cur.toList.drop (o+i+vs.length)).toArray):=by
 intro vs
 induction vs with
 | nil =>
  intro i cur w hg hf hl h1
  simp only [storeCells,List.append_nil,List.length_nil,Nat.add_zero,List.take_append_drop,Array.toArray_toList]
  rw [setRow_self w g cur t fz hg]
  rfl
 | cons v rest ih =>
  intro i cur w hg hf hl h1
  have hi:o+i < cur.size:=by simp at hl;omega
  have hcell:w.cell? ⟨g,o+i,none⟩=some cur[o+i]:=by simp [World.cell?,hg,hi]
  have hfro:w.frozen? ⟨g,o+i,none⟩=false:=by
   have:=hf (o+i) hi
   obtain ⟨lo,hi'⟩:=fz
   simp only [World.frozen?,hg,Bool.and_eq_false_iff,decide_eq_false_iff_not]
   simp only at this
   omega
  have hst:(store ((⟨g,o,none⟩:Addr).add i) v).run P w=.ok () (w.setRow g (cur.setIfInBounds (o+i) v)):=by
   rw [add_spot,run_store P w _ v _ (h1 v (by simp)),hcell]
   simp [hfro,setCell_eq_setRow w g (o+i) cur t fz v hg]
  have:=ih (i+1) (cur.setIfInBounds (o+i) v) (w.setRow g (cur.setIfInBounds (o+i) v)) (setRow_heap w g cur _ t _ hg) (by simpa using hf) (by simp at hl ⊢;omega) (fun x hx=>h1 x (by simp [hx]))
  simp only [storeCells,Sem.run_bind,hst,Result.andThen_ok,this,setRow_setRow]
  congr 3
  have e:=list_seg_step cur.toList (o+i) v rest (by simp at hl ⊢;omega)
  simpa [Array.toList_setIfInBounds,Nat.add_assoc] using e

theorem Ext.write {b:Nat} (hp:∀ i,¬ S.pub b i) (c':Array Value):Ext S { S with w:=S.w.setRow b c' } :=
 ⟨⟨fun _ _ h=>h,fun b' i h=>⟨h,cell_setRow_other _ _ _ _ (by rintro rfl;exact hp i h)⟩,fun _ e b hw sz h=>⟨e,b,hw,sz,h,Nat.le_refl _,fun _=>⟨rfl,rfl,rfl⟩⟩⟩,rfl,fun _ _ h _=>h⟩

theorem Inv.writeG (hI : Inv W0 S H) {o b : Nat} {x y : AObj} {c' : Array Value} (ho : H[o]? = some x) (hb : S.phi o = some b ∨ ∃ e hw sz, S.tk o = some (e, b, hw, sz)) (hB : W0.heap.size ≤ b) (hxd : x ≠ .dead)
    (hp:∀ i,¬ S.pub b i) (hr:ORel { S with w:=S.w.setRow b c' } W0.heap.size o y):Inv W0 { S with w:=S.w.setRow b c' } (H.set o y):=by
 have hext:=Ext.write hp c'
 have holt:o < H.length:=by
  rcases Nat.lt_or_ge o H.length with h' | h'
  ·exact h'
  ·rw [List.getElem?_eq_none h'] at ho;cases ho
 have hdead:∀ n:Nat,(H.set o y)[n]? ≠ some AObj.dead→H[n]? ≠ some AObj.dead:=fun n h=>by
  by_cases e:o=n
  ·subst e;rw [ho];simpa using hxd
  ·rwa [List.getElem?_set_ne e] at h
 refine ⟨Below.setRow hI.below hB c',fun n z h=>?_,fun n hn=>hI.past n (by simpa using hn),fun o1 o2 b h1 h2 hd1 hd2=>hI.inj o1 o2 b h1 h2 (hdead _ hd1) (hdead _ hd2),hI.tinj,hI.apart,fun b' i h=>?_,fun n b' h=>?_,fun t e b' hw sz h=>?_,hI.lim⟩
 ·by_cases e:o=n
  ·subst e
   simp [holt] at h
   subst h
   exact hr
  ·rw [List.getElem?_set_ne e] at h
   cases z with
   | dead=>trivial
   | _ =>
    refine (hI.objs n _ h).frame hext (fun b' hb' hlt=>⟨setRow_other _ _ _ _ ?_,fun i hp=>hp⟩) rfl rfl
    rintro rfl
    rcases hb with hb | ⟨e1,hw1,sz1,hb⟩
    ·rcases hb' with hb' | ⟨e',hw,sz,ht⟩
     ·exact e (hI.inj o n b' hb hb' (by rw [ho];simpa using hxd) (by rw [h];simp))
     ·exact hI.apart n e' b' hw sz o ht hb
    ·rcases hb' with hb' | ⟨e',hw,sz,ht⟩
     ·exact hI.apart o e1 b' hw1 sz1 n hb hb'
     ·exact e (hI.tinj _ _ _ _ _ _ _ _ _ hb ht)
 ·simpa using hI.puball b' i h
 ·simpa using hI.dom n b' h
 ·simpa using hI.tdom t e b' hw sz h

theorem Inv.write (hI : Inv W0 S H) {o b : Nat} {l l' : List AV} {c c' : Array Value} {el : TypeId} (ho : H[o]? = some (.cells l)) (hb : S.phi o = some b) (hB : W0.heap.size ≤ b)
    (hc:S.w.heap[b]?=some (.cells c el (0,0))) (hp:∀ i,¬ S.pub b i) (hr:CellsRel { S with w:=S.w.setRow b c' } l' c'):Inv W0 { S with w:=S.w.setRow b c' } (H.set o (.cells l')) :=
 hI.writeG ho (.inl hb) hB (by simp) hp ⟨b,c',el,hb,hB,setRow_heap S.w b c c' el (0,0) hc,hr.size,hr.rel,hp,hr.cell⟩

theorem row_load {t : TypeId} {g : Bool} {sz off b : Nat} {l : List AV} {c : Array Value} {el : TypeId} {fz : Nat × Nat} {v : AV} (hg : isAggT P t = some g) (hs : szT P t = some sz) (h3 : S.w.heap[b]? = some (.cells c el fz)) (h4 : l.length ≤ c.size)
    (h5:∀ (i:Nat) (x:AV) (v:Value),l[i]?=some x→c[i]?=some v→VRel S x v) (h7:l.all AV.isCell=true) (h:apart g sz l off=some v) :
    ∃ v',(loadVar t ⟨b,off,none⟩).run P S.w=.ok v' S.w∧VRel S v v':=by
 have hdrop:apart g sz (l.drop off) 0=some v:=by
  unfold apart at h ⊢
  cases g with
  | true =>
   simp only [if_true] at h ⊢
   split at h
   ·rename_i hc
    rw [if_pos (by simp;omega)]
    simpa using h
   ·cases h
  | false=>simpa using h
 exact loadVar_sound (P:=P) (S:=S) (t:=t) (off:=off) (b:=b) (l:=l.drop off) (f:=fun i=>c.getD (i+off) undef) hg hs
  (fun i hi=>by
   have hlt:i+off < c.size:=by simp at hi;omega
   rw [cell_of_row S.w b _ c el fz h3]
   simp [hlt])
  (fun i x hx=>by
   rw [List.getElem?_drop] at hx
   have hlt:off+i < l.length:=by
    rcases Nat.lt_or_ge (off+i) l.length with h' | h'
    ·exact h'
    ·rw [List.getElem?_eq_none h'] at hx;cases hx
   have hlt':i+off < c.size:=by omega
   refine h5 (off+i) x _ hx ?_
   rw [Nat.add_comm off i]
   simp [hlt']) (by rw [List.all_eq_true] at h7 ⊢;exact fun x hx=>h7 x (List.mem_of_mem_drop hx)) hdrop

theorem aload_sound {t : TypeId} {g : Bool} {sz : Nat} {a v : AV} {u : Value} (hI : Inv W0 S H) (hg : isAggT P t = some g) (hs : szT P t = some sz) (ha : VRel S a u) (h : aload g sz a H = some v) :
    ∃ v' ad,u=.pointer (some ad)∧(loadVar t ad).run P S.w=.ok v' S.w∧VRel S v v':=by
 unfold aload at h
 split at h
 ·rename_i o off
  split at h
  ·rename_i l ho
   cases ha with | ptr _ _ b hb =>
   obtain ⟨b',c,el,h1,h2,h3,h4,h5,h6,h7⟩:=hI.objs o _ ho
   rw [hb] at h1
   injection h1 with h1
   subst h1
   obtain ⟨v',hr,hv⟩:=row_load (P:=P) hg hs h3 (by omega) h5 h7 h
   exact ⟨v',_,rfl,hr,hv⟩
  ·cases h
 ·rename_i cells
  cases ha with | vp _ b off f h0 h1 h2 =>
  obtain ⟨v',hr,hv⟩:=loadVar_sound (P:=P) (S:=S) (t:=t) (off:=off) (b:=b) (f:=f) hg hs (fun i hi=>by rw [Nat.add_comm];exact (h1 i hi).1) h2 h0 h
  exact ⟨v',_,rfl,hr,hv⟩
 ·rename_i o e off
  split at h
  ·rename_i e' l ho
   split at h
   ·rename_i he
    subst he
    cases ha with | wp _ _ _ b hb =>
    obtain ⟨e0,b0,hw0,sz0,q1,q2,q3⟩:=hb
    obtain ⟨b',sz',c,el,fz,h1,h2,h3,h4,h5,h6,h7,h8,h9⟩:=hI.objs o _ ho
    rw [h1] at q1
    simp only [Option.some.injEq,Prod.mk.injEq] at q1
    obtain ⟨r1,r2,r3,r4⟩:=q1
    obtain rfl:b=b0:=q3 r1
    subst r2
    obtain ⟨v',hr,hv⟩:=row_load (P:=P) hg hs h3 (by omega) h6 h8 h
    exact ⟨v',_,rfl,hr,hv⟩
   ·cases h
  ·cases h
 ·cases h

theorem fold_eq_splice (off : Nat) (cs cur : Array Value) (h : off + cs.size ≤ cur.size) :
    cs.zipIdx.foldl (fun (a:Array Value) (p:Value × Nat)=>a.setIfInBounds (off+p.2) p.1) cur=(cur.toList.take off++cs.toList++cur.toList.drop (off+cs.toList.length)).toArray:=by
 apply Array.ext_getElem?
 intro i
 rw [← Array.foldl_toList,Array.toList_zipIdx,fold_get]
 simp only [Nat.add_zero,List.getElem?_toArray,Array.length_toList,Nat.sub_zero,Array.getElem?_toList]
 by_cases h1:i < off
 ·rw [if_neg (by omega),List.getElem?_append_left (by simp;omega),List.getElem?_append_left (by simp;omega),List.getElem?_take_of_lt h1,Array.getElem?_toList]
 ·by_cases h2:i < off+cs.size
  ·rw [if_pos (by omega),List.getElem?_append_left (by simp;omega),List.getElem?_append_right (by simp;omega)]
   simp only [List.length_take,Array.length_toList,Array.getElem?_toList]
   congr 1;omega
  ·rw [if_neg (by omega),List.getElem?_append_right (by simp;omega),List.getElem?_drop,Array.getElem?_toList]
   simp only [List.length_append,List.length_take,Array.length_toList]
   congr 1;omega

theorem astore_sound {t : TypeId} {sz : Nat} {a v : AV} {u x : Value} {H' : Hp} (hI : Inv W0 S H) (hs : szT P t = some sz) (ha : VRel S a u) (hv : VRel S v x) (h : astore sz a v H = some H') :
    ∃ ad S',u=.pointer (some ad)∧(storeVar t ad x).run P S.w=.ok () S'.w∧Ext S S'∧Inv W0 S' H':=by
 unfold astore at h
 split at h
 ·rename_i o off
  split at h
  ·rename_i l ho
   split at h
   ·rename_i hc
    obtain ⟨hkn,hsz,hle⟩:=hc
    injection h with h
    subst h
    cases ha with | ptr _ _ b hb =>
    obtain ⟨b',c,el,h1,h2,h3,h4,h5,h6,h7⟩:=hI.objs o _ ho
    rw [hb] at h1
    injection h1 with h1
    subst h1
    have hxc:=hv.cells hkn
    have hxs:x.cells.size=sz:=by rw [hxc.size,hsz]
    have hst:=run_storeCells_at P b off el x.cells.toList 0 c S.w h3 (by simp;omega) hxc.oneCells
    rw [Nat.add_zero,← fold_eq_splice off x.cells c (by omega)] at hst
    refine ⟨_,{ S with w:=S.w.setRow b _ },rfl,by simp only [storeVar,Sem.run_bind,run_szT hs,Result.andThen_ok];rw [if_neg (by simp [hxs])];exact hst,Ext.write h6 _,?_⟩
    refine hI.write ho hb h2 h3 h6 ?_
    exact (CellsRel.splice (S:=S) ⟨h4,h5,h7⟩ hxc (by omega)).mono (Ext.write h6 _)
   ·cases h
  ·cases h
 ·rename_i o e off
  split at h
  ·rename_i e' l ho
   split at h
   ·rename_i hc
    obtain ⟨rfl,hkn,hsz,hle⟩:=hc
    injection h with h
    subst h
    cases ha with | wp _ _ _ b hb =>
    obtain ⟨e0,b0,hw0,sz0,q1,q2,q3⟩:=hb
    obtain ⟨b',sz',c,el,fz,h1,h2,h3,h4,h5,h6,h7,h8,h9⟩:=hI.objs o _ ho
    have q1':=q1
    rw [h1] at q1
    simp only [Option.some.injEq,Prod.mk.injEq] at q1
    obtain ⟨r1,r2,r3,r4⟩:=q1
    obtain rfl:b=b0:=q3 r1
    subst r2
    have hxc:=hv.cells hkn
    have hxs:x.cells.size=sz:=by rw [hxc.size,hsz]
    have hst:=run_storeCells_z P b' off el fz x.cells.toList 0 c S.w h3 h9 (by simp;omega) hxc.oneCells
    rw [Nat.add_zero,← fold_eq_splice off x.cells c (by omega)] at hst
    refine ⟨_,{ S with w:=S.w.setRow b' _ },rfl,by simp only [storeVar,Sem.run_bind,run_szT hs,Result.andThen_ok];rw [if_neg (by simp [hxs])];exact hst,Ext.write h7 _,?_⟩
    have hcr:CellsRel S l (c.extract 0 l.length):=by
     refine ⟨by simp;omega,fun i x v hi hv=>?_,h8⟩
     rw [Array.getElem?_extract] at hv
     split at hv
     ·rw [Nat.zero_add] at hv;exact h6 i x v hi hv
     ·cases hv
    have hx7:=Ext.write h7 (x.cells.zipIdx.foldl (fun (a:Array Value) (p:Value × Nat)=>a.setIfInBounds (off+p.2) p.1) c)
    have hcs:(x.cells.zipIdx.foldl (fun (a:Array Value) (p:Value × Nat)=>a.setIfInBounds (off+p.2) p.1) c).size=c.size:=by
     rw [fold_eq_splice off x.cells c (by omega)]
     simp
     omega
    have hsl:(splice l off v.cells).length=l.length:=by unfold splice;simp;omega
    refine hI.writeG ho (.inr ⟨_,_,_,h1⟩) h2 (by simp) h7 ⟨b',sz',_,el,fz,by rw [hsl];exact h1,h2,setRow_heap S.w b' c _ el fz h3,by rw [hcs];exact h4,by rw [hsl];exact h5,fun i y u hy hu=>?_,h7,?_,by rw [hcs];exact h9⟩
    ·have hsp:=CellsRel.splice (S:=S) (off:=off) hcr hxc (by omega)
     refine (hsp.rel i y u hy ?_).mono hx7
     have hil:i < l.length:=by rw [← hsl];exact lt_of_getL hy
     rw [← hu]
     rw [fold_eq_splice off x.cells c (by omega),fold_eq_splice off x.cells (c.extract 0 l.length) (by simp;omega)]
     simp only [List.getElem?_toArray]
     by_cases g1:i < off
     ·rw [List.getElem?_append_left (by simp;omega),List.getElem?_append_left (by simp;omega),List.getElem?_append_left (by simp;omega),List.getElem?_append_left (by simp;omega),List.getElem?_take_of_lt g1,List.getElem?_take_of_lt g1,Array.getElem?_toList,Array.getElem?_toList,Array.getElem?_extract]
      simp
      omega
     ·by_cases g2:i < off+x.cells.size
      ·rw [List.getElem?_append_left (by simp;omega),List.getElem?_append_right (by simp;omega),List.getElem?_append_left (by simp;omega),List.getElem?_append_right (by simp;omega)]
       congr 1
       simp
       omega
      ·rw [List.getElem?_append_right (by simp;omega),List.getElem?_append_right (by simp;omega),List.getElem?_drop,List.getElem?_drop,Array.getElem?_toList,Array.getElem?_toList,Array.getElem?_extract]
       simp only [List.length_append,List.length_take,Array.length_toList,Array.size_extract]
       rw [if_pos (by omega)]
       congr 1
       omega
    ·exact (CellsRel.splice (S:=S) (off:=off) hcr hxc (by omega)).cell
   ·cases h
  ·cases h
 ·cases h
end
end Go.Am
namespace Go.Am
open RowKit

section
variable {P:Program} {S:Snap} {W0:World} {H:Hp}

theorem cell_of_heap {w w':World} (h:w'.heap=w.heap) (a:Addr):w'.cell? a=w.cell? a:=by unfold World.cell?;rw [h]

theorem flat_append (a b:List AV):flat (a++b)=flat a++flat b:=by simp [flat]

theorem isCell_cells {x:AV} (h:x.isCell=true):x.cells=[x]:=by
 cases x <;> first | rfl | (simp [AV.isCell] at h;done)
theorem all_drop {l:List AV} (h:l.all AV.isCell=true) (k:Nat):(l.drop k).all AV.isCell=true:=by
 rw [List.all_eq_true] at h ⊢
 exact fun x hx=>h x (List.mem_of_mem_drop hx)
theorem flat_chunks {ag:Bool} {k:Nat} (hag:ag=true ∨ k=1):∀ (n:Nat) (l:List AV),l.all AV.isCell=true→n * k≤l.length→flat (chunks ag k n l)=l.take (n * k)∧(∀ e ∈ chunks ag k n l,e.cells.length=k)∧(chunks ag k n l).length=n:=by
 intro n
 induction n with
 | zero=>intro l _ _;simp [chunks,flat]
 | succ n ih =>
  intro l hc hl
  have hk:n * k+k≤l.length:=by rw [Nat.succ_mul] at hl;exact hl
  obtain ⟨h1,h2,h3⟩:=ih (l.drop k) (all_drop hc k) (by simp;omega)
  have hf:∀ (a:AV) (r:List AV),flat (a :: r)=a.cells++flat r:=fun a r=>by simp [flat]
  have hfirst:(if ag then AV.agg (l.take k) else l.headD .undef).cells=l.take k:=by
   cases ag with
   | true=>rfl
   | false =>
    rcases hag with h | rfl
    ·cases h
    ·cases l with
     | nil=>simp at hk
     | cons a l =>
      have ha:a.isCell=true:=get_of_all hc (i:=0) rfl
      simp [isCell_cells ha]
  unfold chunks
  refine ⟨?_,fun e he=>?_,by simp [h3]⟩
  ·rw [hf,h1,hfirst,Nat.succ_mul,Nat.add_comm,List.take_add]
  ·rcases List.mem_cons.1 he with rfl | he
   ·rw [hfirst];simp;omega
   ·exact h2 e he

theorem elems_sound {k : Nat} {x : AV} {u : Value} {xs : List AV} (hI : Inv W0 S H) (hk : 0 < k) (hx : VRel S x u) (h : elems k x H = some xs) :
    (∀ e ∈ xs,e.cells.length=k)∧(∀ w:World,(Builtin.lenOf u).run P w=.ok xs.length w) ∧
    ∃ news:Array Value,CellsRel S (flat xs) news∧∀ w:World,w.heap=S.w.heap→(Builtin.firstCells k xs.length u).run P w=.ok news w:=by
 unfold elems at h
 split at h
 ·injection h with h;subst h
  cases hx with | nils =>
  exact ⟨by simp,fun w=>rfl,#[],⟨rfl,by simp [flat],rfl⟩,fun w _=>rfl⟩
 ·split at h
  ·rename_i k' tok l hkk
   obtain rfl:k=k':=hkk.symm
   injection h with h;subst h
   cases hx with | vs _ _ _ b off cap f hcap hke h1 h2 ht sp hsp =>
   by_cases hl0:l=[]
   ·subst hl0
    refine ⟨by simp,fun w=>rfl,#[],⟨rfl,by simp [flat],rfl⟩,fun w _=>?_⟩
    simp only [Builtin.firstCells,List.length_nil,Nat.zero_mul]
    rfl
   obtain rfl:sp=none:=hsp.resolve_right (by have:=List.length_pos_iff.2 hl0;omega)
   have hlen:∀ e ∈ l,e.cells.length=k:=fun e he=>(hke e he).1
   have hdm:∀ n,n < l.length * k→n / k < l.length∧n % k < k∧n / k * k+n % k=n:=fun n hn =>
    ⟨Nat.div_lt_of_lt_mul (by rwa [Nat.mul_comm]),Nat.mod_lt _ hk,by rw [Nat.mul_comm];exact Nat.div_add_mod n k⟩
   refine ⟨hlen,fun w=>rfl,((List.range (l.length * k)).map fun n=>f (n / k) (n % k)).toArray,⟨by simp [flat_length hlen],fun i x v hi hv=>?_,cell_flat fun e he=>(hke e he).2⟩,fun w hw=>?_⟩
   ·have hin : i < l.length * k := by
       rcases Nat.lt_or_ge i (l.length * k) with h' | h'
       ·exact h'
       ·rw [List.getElem?_eq_none (by rw [flat_length hlen];exact h')] at hi;cases hi
    obtain ⟨p1,p2,p3⟩:=hdm i hin
    simp [hin] at hv
    subst hv
    rw [← p3,flat_get hlen _ _ l[i / k] (List.getElem?_eq_getElem p1) p2] at hi
    exact h2 _ _ _ _ (List.getElem?_eq_getElem p1) hi
   ·simp only [Builtin.firstCells]
    exact run_loadCells w _ _ _ (fun n hn=>by
     obtain ⟨p1,p2,p3⟩:=hdm n hn
     rw [cell_of_heap hw,add_spot]
     have:=(h1 _ _ p1 p2).1
     rwa [Nat.add_assoc,p3] at this)
  ·cases h
 ·split at h
  ·rename_i s hkk
   subst hkk
   injection h with h;subst h
   cases hx with | str _ b hb =>
   subst hb
   have hfl:flat (b.data.toList.map fun b=>AV.int .u8 (b.toNat:Int))=b.data.toList.map fun b=>AV.int .u8 (b.toNat:Int):=by
    unfold flat
    rw [List.map_map]
    show (b.data.toList.map fun b=>[AV.int .u8 (b.toNat:Int)]).flatten=_
    induction b.data.toList with
    | nil=>rfl
    | cons a l ih=>simp [ih]
   have hlen:(b.data.toList.map fun b=>AV.int .u8 (b.toNat:Int)).length=b.size:=by rw [List.length_map];exact size_toList b
   refine ⟨fun e he=>by simp at he;obtain ⟨a,_,rfl⟩:=he;rfl,fun w=>by rw [hlen];rfl,b.data.map fun b=>.int .u8 b.toNat,⟨by rw [hfl];simp,fun i x v hi hv=>?_,cell_flat fun e he=>by simp at he;obtain ⟨a,_,rfl⟩:=he;rfl⟩,fun w _=>?_⟩
   ·rw [hfl,List.getElem?_map,Array.getElem?_toList] at hi
    rw [Array.getElem?_map] at hv
    cases hb:b.data[i]? with
    | none=>simp [hb] at hi
    | some c=>simp [hb] at hi hv;subst hi hv;exact .int _ _
   ·rw [hlen]
    simp only [Builtin.firstCells,Sem.run_pure]
    congr 1
    congr 1
    rw [ByteArray.data_extract]
    show b.data.extract 0 b.data.size=b.data
    simp
  ·cases h
 ·split at h
  ·rename_i ag k' o off len cap hc
   obtain ⟨hkk,hag⟩:=hc
   obtain rfl:k=k':=hkk.symm
   split at h
   ·rename_i cs ho
    split at h
    ·rename_i hle
     injection h with h;subst h
     cases hx with | rs _ _ _ _ _ _ b hb hlc =>
     obtain ⟨b',c,el,h1,h2,h3,h4,h5,h6,h7⟩:=hI.objs o _ ho
     rw [hb] at h1
     injection h1 with h1
     subst h1
     obtain ⟨f1,f2,f3⟩:=flat_chunks hag len (cs.drop off) (all_drop h7 off) (by simp;omega)
     have hr:CellsRel S ((cs.drop off).take (len * k)) (c.extract off (off+len * k)):=CellsRel.extract ⟨h4,h5,h7⟩ off (len * k) hle
     refine ⟨f2,fun w=>by rw [f3];rfl,c.extract off (off+len * k),by rw [f1];exact hr,fun w hw=>?_⟩
     rw [f3]
     simp only [Builtin.firstCells]
     have hl:=run_loadCells_list (P:=P) w ⟨b,off,none⟩ (c.extract off (off+len * k)).toList (fun j v hv=>by
      rw [cell_of_heap hw,add_spot,cell_of_row S.w b _ c el (0,0) h3]
      rw [Array.getElem?_toList,Array.getElem?_extract] at hv
      split at hv
      ·exact hv
      ·cases hv)
     have hsz:(c.extract off (off+len * k)).toList.length=len * k:=by rw [Array.length_toList,hr.size];simp;omega
     rw [hsz,Array.toArray_toList] at hl
     exact hl
    ·cases h
   ·cases h
  ·cases h
 ·split at h
  ·rename_i ag k' o e len hc
   obtain ⟨hkk,hag⟩:=hc
   obtain rfl:k=k':=hkk.symm
   split at h
   ·rename_i e' cs ho
    split at h
    ·rename_i hle
     obtain ⟨rfl,hle⟩:=hle
     injection h with h;subst h
     cases hx with | ws _ _ _ _ _ cap b hb hlc =>
     obtain ⟨e0,b0,hw0,sz0,q1,q2,q3⟩:=hb
     obtain ⟨b',sz',c,el,fz,h1,h2,h3,h4,h5,h6,h7,h8,h9⟩:=hI.objs o _ ho
     rw [h1] at q1
     simp only [Option.some.injEq,Prod.mk.injEq] at q1
     obtain ⟨r1,r2,r3,r4⟩:=q1
     obtain ⟨p1,p2,p3⟩:=q3 r1
     obtain rfl:b=b':=p1.trans r2.symm
     obtain ⟨f1,f2,f3⟩:=flat_chunks hag len cs h8 hle
     have hcr:CellsRel S cs (c.extract 0 cs.length):=by
      refine ⟨by simp;omega,fun i x v hi hv=>?_,h8⟩
      rw [Array.getElem?_extract] at hv
      split at hv
      ·rw [Nat.zero_add] at hv;exact h6 i x v hi hv
      ·cases hv
     have hr:CellsRel S ((cs.drop 0).take (len * k)) ((c.extract 0 cs.length).extract 0 (0+len * k)):=CellsRel.extract hcr 0 (len * k) (by omega)
     refine ⟨f2,fun w=>by rw [f3];rfl,(c.extract 0 cs.length).extract 0 (0+len * k),by rw [f1];exact hr,fun w hw=>?_⟩
     rw [f3]
     simp only [Builtin.firstCells]
     have hl:=run_loadCells_list (P:=P) w ⟨b,0,none⟩ ((c.extract 0 cs.length).extract 0 (0+len * k)).toList (fun j v hv=>by
      rw [cell_of_heap hw,add_spot,cell_of_row S.w b _ c el fz h3]
      rw [Array.getElem?_toList,Array.getElem?_extract] at hv
      split at hv
      ·rw [Array.getElem?_extract] at hv
       split at hv
       ·rw [Nat.zero_add,Nat.zero_add] at hv;rw [Nat.zero_add];exact hv
       ·cases hv
      ·cases hv)
     have hsz:((c.extract 0 cs.length).extract 0 (0+len * k)).toList.length=len * k:=by rw [Array.length_toList,hr.size];simp;omega
     rw [hsz,Array.toArray_toList] at hl
     exact hl
    ·cases h
   ·cases h
  ·cases h
 ·cases h

theorem run_bytesT {t:TypeId} {n:Nat} (h:bytesT P t=some n) (w:World):∃ i,P.info? t=some i∧i.bytes=n∧(typeInfo t).run P w=.ok i w:=by
 unfold bytesT at h
 cases hi:P.info? t with
 | none=>simp [hi] at h
 | some i=>simp [hi] at h;exact ⟨i,rfl,h,by simp [typeInfo,hi]⟩

theorem run_append_fit {st xt ty e : TypeId} {xd : TypeDesc} {k n m cap : Nat} {u : Value} {a : Addr} {news : Array Value} {w w' : World} (ht : P.underlying st = some (.slice e)) (hxd : P.underlying xt = some xd) (hxi : appendable xd = true)
    (hs:szT P e=some k) (hlen:(Builtin.lenOf u).run P w=.ok m w) (hnew:(Builtin.firstCells k m u).run P w=.ok news w) (hfit:n+m≤cap) (hst:(storeCells (a.add (n * k)) news.toList).run P w=.ok () w') :
    (Builtin.append_ #[st,xt] ty #[.slice (some a) n cap,u]).run P w=.ok (.slice (some a) (n+m) cap) w':=by
 cases xd <;> first
  | (simp [appendable] at hxi;done)
  | simp [Builtin.append_,run_underlying ht,run_underlying hxd,run_szT hs,hlen,hfit,hnew,hst]

theorem run_append_nilfit {st xt ty e : TypeId} {xd : TypeDesc} {k : Nat} {u : Value} {news : Array Value} {w : World} (ht : P.underlying st = some (.slice e)) (hxd : P.underlying xt = some xd) (hxi : appendable xd = true)
    (hs:szT P e=some k) (hlen:(Builtin.lenOf u).run P w=.ok 0 w) (hnew:(Builtin.firstCells k 0 u).run P w=.ok news w) :
    (Builtin.append_ #[st,xt] ty #[.slice none 0 0,u]).run P w=.ok (.slice none 0 0) w:=by
 cases xd <;> first
  | (simp [appendable] at hxi;done)
  | simp [Builtin.append_,run_underlying ht,run_underlying hxd,run_szT hs,hlen,hnew]

theorem run_append_more {st xt ty e : TypeId} {xd : TypeDesc} {k n m cap bytes : Nat} {u z : Value} {base : Option Addr} {old news : Array Value} {w : World} (ht : P.underlying st = some (.slice e)) (hxd : P.underlying xt = some xd) (hxi : appendable xd = true)
    (hs:szT P e=some k) (hb:bytesT P e=some bytes) (hz:∀ w:World,(zeroValue e).run P w=.ok z w) (hlen:(Builtin.lenOf u).run P w=.ok m w) (hmore:cap < n+m) (hsmall:(n+m) * (bytes+1)≤140737488355328)
    (hold:(Builtin.firstCells k n (.slice base n cap)).run P w.drew=.ok old w.drew) (hnew:(Builtin.firstCells k m u).run P w.drew=.ok news w.drew) :
    (Builtin.append_ #[st,xt] ty #[.slice base n cap,u]).run P w =
     .ok (.slice (some ⟨w.heap.size,0,none⟩) (n+m) (grownCap w (n+m) cap e)) (w.drew.alloc (.cells (old++news++Builtin.zeroCells z.cells (grownCap w (n+m) cap e - (n+m))) e)):=by
 obtain ⟨i,hi,hib,hit⟩:=run_bytesT hb w
 subst hib
 have h1:¬ (n+m≤cap):=by omega
 have hbb:(n+m) * i.bytes≤140737488355328:=Nat.le_trans (Nat.mul_le_mul_left _ (Nat.le_succ _)) hsmall
 have hnn:n+m≤140737488355328:=Nat.le_trans (Nat.le_mul_of_pos_right _ (Nat.succ_pos _)) hsmall
 have h2:=growslice_fits hmore hbb
 have h3:¬ (281474976710656 < Builtin.nextslicecap (n+m) cap * i.bytes):=by omega
 have h5:¬ (9223372036854775807 < ((n:Int)+(m:Int))):=by omega
 cases xd <;> first
  | (simp [appendable] at hxi;done)
  | simp [Builtin.append_,run_underlying ht,run_underlying hxd,run_szT hs,hlen,h1,typeInfo,hi,h3,h5,hz,hold,hnew,Question.forced,newRow,grownCap]
end
end Go.Am
namespace Go.Am
open RowKit

section
variable {S S':Snap} {W0:World} {H H':Hp} {n:Nat}

theorem lt_of_get {α:Type} {l:List α} {i:Nat} {x:α} (h:l[i]?=some x):i < l.length:=by
 rcases Nat.lt_or_ge i l.length with h' | h'
 ·exact h'
 ·rw [List.getElem?_eq_none h'] at h;cases h

inductive Sc (n:Nat):AV→Prop
 | undef:Sc n .undef
 | bool (b:Bool):Sc n (.bool b)
 | int (k:IntKind) (m:Int):Sc n (.int k m)
 | str (s:List UInt8):Sc n (.str s)
 | nilp:Sc n .nilp
 | ptr (o off:Nat) (h:o < n):Sc n (.ptr o off)
 | vp (cells:List AV) (h:∀ c ∈ cells,Sc n c):Sc n (.vp cells)
 | nils:Sc n .nils
 | vs (k:Nat) (tok:Tok) (l:List AV) (ht:∀ t e,tok=.own t e→t < n) (h:∀ e ∈ l,∀ c ∈ e.cells,Sc n c):Sc n (.vs k tok l)
 | rs (ag:Bool) (k o off len cap:Nat) (h:o < n):Sc n (.rs ag k o off len cap)
 | ws (ag:Bool) (k o e len:Nat) (h:o < n):Sc n (.ws ag k o e len)
 | wp (o e off:Nat) (h:o < n):Sc n (.wp o e off)
 | nilm:Sc n .nilm
 | map (o:Nat) (h:o < n):Sc n (.map o)
 | nilf:Sc n .nilf
 | fn (fn:Fn) (a b:List AV) (h1:∀ c ∈ a,Sc n c) (h2:∀ c ∈ b,Sc n c):Sc n (.fn fn a b)
 | nili:Sc n .nili
 | iface (t:TypeId) (v:AV) (h:Sc n v):Sc n (.iface t v)
 | agg (l:List AV) (h:∀ c ∈ l,Sc n c):Sc n (.agg l)
 | tuple (l:List AV) (h:∀ c ∈ l,Sc n c):Sc n (.tuple l)

theorem mem_rel {l:List AV} {vs:Array Value} (hs:vs.size=l.length) {p:AV→Prop} (h:∀ (i:Nat) (c:AV) (v:Value),l[i]?=some c→vs[i]?=some v→p c):∀ c ∈ l,p c:=by
 intro c hc
 obtain ⟨i,hi⟩:=List.getElem?_of_mem hc
 have hlt:i < vs.size:=by rw [hs];exact lt_of_get hi
 exact h i c vs[i] hi (Array.getElem?_eq_getElem hlt)

theorem VRel.sc (hp:∀ o,n≤o→S.phi o=none∧S.tk o=none) {a:AV} {v:Value} (h:VRel S a v):Sc n a:=by
 have lt:∀ o b,S.phi o=some b→o < n:=fun o b h=>by
  rcases Nat.lt_or_ge o n with h' | h'
  ·exact h'
  ·rw [(hp o h').1] at h;cases h
 have ltk:∀ o,S.tk o ≠ none→o < n:=fun o h=>by
  rcases Nat.lt_or_ge o n with h' | h'
  ·exact h'
  ·exact absurd (hp o h').2 h
 induction h with
 | undef v=>exact .undef
 | bool b=>exact .bool b
 | int k m=>exact .int k m
 | str s b h=>exact .str s
 | nilp=>exact .nilp
 | ptr o off b h=>exact .ptr o off (lt o b h)
 | vp cells b off f hc h1 h2 ih =>
  refine .vp cells fun c hc=>?_
  obtain ⟨i,hi⟩:=List.getElem?_of_mem hc
  exact ih i c hi
 | nils=>exact .nils
 | vs k tok l b off cap f hcap hk h1 h2 ht sp hsp ih =>
  refine .vs k tok l (fun t e he=>?_) fun e he c hc=>?_
  ·subst he
   obtain ⟨e0,b0,hw0,sz0,q,_⟩:=ht
   rcases Nat.lt_or_ge t n with h' | h'
   ·exact h'
   ·rw [(hp t h').2] at q;cases q
  ·obtain ⟨j,hj⟩:=List.getElem?_of_mem he
   obtain ⟨i,hi⟩:=List.getElem?_of_mem hc
   exact ih j e i c hj hi
 | rs ag k o off len cap b h hlen=>exact .rs ag k o off len cap (lt o b h)
 | ws ag k o e len cap b h hlen=>exact .ws ag k o e len (ltk o (by obtain ⟨_,_,_,_,q,_⟩:=h;rw [q];simp))
 | wp o e off b h=>exact .wp o e off (ltk o (by obtain ⟨_,_,_,_,q,_⟩:=h;rw [q];simp))
 | nilm=>exact .nilm
 | map o b h=>exact .map o (lt o b h)
 | nilf=>exact .nilf
 | fn fn first captured F K hF hK h1 h2 ih1 ih2=>exact .fn fn _ _ (mem_rel hF ih1) (mem_rel hK ih2)
 | nili=>exact .nili
 | iface t v u h ih=>exact .iface t v ih
 | agg cells vs hc hs h ih=>exact .agg _ (mem_rel hs ih)
 | tuple l vs hs h ih=>exact .tuple _ (mem_rel hs ih)

def Snap.back (S:Snap) (H:Hp):Snap :=
 {w:=S.w,phi:=fun o=>if o < H.length then S.phi o else none,tk:=fun t=>if t < H.length then S.tk t else none,lim:=S.lim,
  pub:=fun b i=>S.pub b i ∨ (S.lim≤b∧b < S.w.heap.size∧(∀ o x,H[o]?=some x→x ≠ .dead→S.phi o ≠ some b)∧∀ t,t < H.length→∀ e hw sz,S.tk t ≠ some (e,b,hw,sz)) }

theorem VRel.back {a:AV} {v:Value} (h:VRel S a v) (hs:Sc H.length a):VRel (S.back H) a v:=by
 have phi:∀ o b,o < H.length→S.phi o=some b→(S.back H).phi o=some b:=fun o b h1 h2=>by simp [Snap.back,h1,h2]
 induction h with
 | undef v=>exact .undef v
 | bool b=>exact .bool b
 | int k m=>exact .int k m
 | str s b h=>exact .str s b h
 | nilp=>exact .nilp
 | ptr o off b h=>cases hs with | ptr _ _ ho=>exact .ptr o off b (phi o b ho h)
 | vp cells b off f hc h1 h2 ih =>
  cases hs with | vp _ hcs =>
  exact .vp cells b off f hc (fun i hi=>⟨(h1 i hi).1,.inl (h1 i hi).2⟩) fun i c hi=>ih i c hi (hcs c (List.mem_of_getElem? hi))
 | nils=>exact .nils
 | vs k tok l b off cap f hcap hk h1 h2 ht sp hsp ih =>
  cases hs with | vs _ _ _ htk hcs =>
  refine VRel.vs (S:=S.back H) k tok l b off cap f hcap hk (fun j i hj hi=>⟨(h1 j i hj hi).1,.inl (h1 j i hj hi).2⟩) (fun j e i c he hc=>ih j e i c he hc (hcs e (List.mem_of_getElem? he) c (List.mem_of_getElem? hc))) ?_ sp hsp
  cases tok with
  | no=>trivial
  | clip=>exact ht
  | own t e =>
   obtain ⟨e0,b0,hw0,sz0,q1,q2⟩:=ht
   exact ⟨e0,b0,hw0,sz0,by simp [Snap.back,htk t e rfl,q1],q2⟩
 | rs ag k o off len cap b h hlen=>cases hs with | rs _ _ _ _ _ _ ho=>exact .rs ag k o off len cap b (phi o b ho h) hlen
 | ws ag k o e len cap b h hlen =>
  cases hs with | ws _ _ _ _ _ ho =>
  obtain ⟨e0,b0,hw0,sz0,q1,q2⟩:=h
  exact .ws ag k o e len cap b ⟨e0,b0,hw0,sz0,by simp [Snap.back,ho,q1],q2⟩ hlen
 | wp o e off b h =>
  cases hs with | wp _ _ _ ho =>
  obtain ⟨e0,b0,hw0,sz0,q1,q2⟩:=h
  exact .wp o e off b ⟨e0,b0,hw0,sz0,by simp [Snap.back,ho,q1],q2⟩
 | nilm=>exact .nilm
 | map o b h=>cases hs with | map _ ho=>exact .map o b (phi o b ho h)
 | nilf=>exact .nilf
 | fn fn first captured F K hF hK h1 h2 ih1 ih2 =>
  cases hs with | fn _ _ _ g1 g2 =>
  exact .fn fn _ _ F K hF hK (fun i c v hi hv=>ih1 i c v hi hv (g1 c (List.mem_of_getElem? hi))) (fun i c v hi hv=>ih2 i c v hi hv (g2 c (List.mem_of_getElem? hi)))
 | nili=>exact .nili
 | iface t v u h ih=>cases hs with | iface _ _ g=>exact .iface t v u (ih g)
 | agg cells vs hc hs' h ih=>cases hs with | agg _ g=>exact .agg _ _ hc hs' fun i c v hi hv=>ih i c v hi hv (g c (List.mem_of_getElem? hi))
 | tuple l vs hs' h ih=>cases hs with | tuple _ g=>exact .tuple _ _ hs' fun i c v hi hv=>ih i c v hi hv (g c (List.mem_of_getElem? hi))

theorem Ext.back (hI:Inv W0 S H) (hx:Ext S S'):Ext S (S'.back H):=by
 have lt:∀ o,(S.phi o ≠ none ∨ S.tk o ≠ none)→o < H.length:=fun o h=>by
  rcases Nat.lt_or_ge o H.length with h' | h'
  ·exact h'
  ·obtain ⟨p,q⟩:=hI.past o h'
   rcases h with h | h
   ·exact absurd p h
   ·exact absurd q h
 refine ⟨⟨fun o b h=>?_,fun b i h=>⟨.inl (hx.pub b i h).1,(hx.pub b i h).2⟩,fun t e b hw sz h=>?_⟩,hx.lim,fun b i hp hl=>hp.elim (fun h=>hx.old b i h hl) fun h=>by have:=h.1;have:=hx.lim;omega⟩
 ·have:=lt o (.inl (by rw [h];simp))
  simp [Snap.back,this,hx.phi o b h]
 ·have:=lt t (.inr (by rw [h];simp))
  obtain ⟨e',b',hw',sz',h1,h2⟩:=hx.tk t e b hw sz h
  exact ⟨e',b',hw',sz',by simp [Snap.back,this,h1],h2⟩

theorem Inv.back (hI:Inv W0 S H) (hI':Inv W0 S' H') (ht:H'.take H.length=H):Inv W0 (S'.back H) H:=by
 have hle:H.length≤H'.length:=by
  have:=congrArg List.length ht
  simp at this
  omega
 have hget:∀ o,o < H.length→H'[o]?=H[o]?:=fun o ho=>by
  rw [← ht,List.getElem?_take_of_lt ho]
 have phi:∀ o,o < H.length→(S'.back H).phi o=S'.phi o:=fun o ho=>by simp [Snap.back,ho]
 have tk:∀ o,o < H.length→(S'.back H).tk o=S'.tk o:=fun o ho=>by simp [Snap.back,ho]
 have phi':∀ o b,(S'.back H).phi o=some b→o < H.length∧S'.phi o=some b:=fun o b h=>by
  by_cases ho:o < H.length
  ·rw [phi o ho] at h;exact ⟨ho,h⟩
  ·simp [Snap.back,ho] at h
 have tk':∀ o r,(S'.back H).tk o=some r→o < H.length∧S'.tk o=some r:=fun o r h=>by
  by_cases ho:o < H.length
  ·rw [tk o ho] at h;exact ⟨ho,h⟩
  ·simp [Snap.back,ho] at h
 have nop:∀ o b i x,H[o]?=some x→x ≠ .dead→S'.phi o=some b→(S'.back H).pub b i→S'.pub b i:=fun o b i x ho hx hb hp=>by
  rcases hp with hp | ⟨_,_,hp,_⟩
  ·exact hp
  ·exact absurd hb (hp o x ho hx)
 have nod:∀ o:Nat,H[o]? ≠ some AObj.dead→o < H.length→H'[o]? ≠ some AObj.dead:=fun o h ho=>by rwa [hget o ho]
 refine ⟨hI'.below,fun o x h=>?_,fun o ho=>⟨by simp [Snap.back];omega,by simp [Snap.back];omega⟩,fun o o' b h h' hd hd'=>?_,fun t t' e b hw sz e' hw' sz' h h'=>?_,fun t e b hw sz o h h'=>?_,fun b i h=>?_,fun o b h=>hI'.dom o b (phi' o b h).2,fun t e b hw sz h=>hI'.tdom t e b hw sz (tk' _ _ h).2,hI'.lim⟩
 ·have ho:=lt_of_get h
  have h':H'[o]?=some x:=by rw [hget o ho];exact h
  have h0:=hI.objs o x h
  have h1:=hI'.objs o x h'
  have past:=hI.past
  cases x with
  | dead=>trivial
  | free=>exact ⟨by rw [phi o ho];exact h1.1,by rw [tk o ho];exact h1.2⟩
  | cells l =>
   obtain ⟨b0,c0,el0,p1,p2,p3,p4,p5,p6,p7⟩:=h0
   obtain ⟨b,c,el,q1,q2,q3,q4,q5,q6,q7⟩:=h1
   refine ⟨b,c,el,by rw [phi o ho];exact q1,q2,q3,q4,fun i x v hi hv=>(q5 i x v hi hv).back ?_,fun i hp=>q6 i (nop o b i _ h (by simp) q1 hp),q7⟩
   exact mem_rel p4 (fun i x v hi hv=>(p5 i x v hi hv).sc past) x (List.mem_of_getElem? hi)
  | bld T u l =>
   obtain ⟨b,q1,q2,q3,q4,q5⟩:=h1
   refine ⟨b,by rw [phi o ho];exact q1,q2,q3,fun i hp=>q4 i (nop o b i _ h (by simp) q1 hp),fun v g hv hg=>?_⟩
   obtain ⟨⟨n,hw,sz,r1⟩,r2⟩:=q5 v g hv hg
   refine ⟨⟨n,hw,sz,by rw [tk o ho];exact r1⟩,fun i hp=>r2 i ?_⟩
   rcases hp with hp | ⟨_,_,_,hp⟩
   ·exact hp
   ·exact absurd r1 (hp o ho _ _ _)
  | row e l =>
   obtain ⟨b0,sz0,c0,el0,fz0,p1,p2,p3,p4,p5,p6,p7,p8,p9⟩:=h0
   obtain ⟨b,sz,c,el,fz,q1,q2,q3,q4,q5,q6,q7,q8,q9⟩:=h1
   refine ⟨b,sz,c,el,fz,by rw [tk o ho];exact q1,q2,q3,q4,q5,fun i x v hi hv=>(q6 i x v hi hv).back ?_,fun i hp=>q7 i ?_,q8,q9⟩
   ·have hil:=lt_of_get hi
    have hlt:i < c0.size:=by omega
    exact (p6 i x c0[i] hi (Array.getElem?_eq_getElem hlt)).sc past
   ·rcases hp with hp | ⟨_,_,_,hp⟩
    ·exact hp
    ·exact absurd q1 (hp o ho _ _ _)
  | tok e =>
   obtain ⟨b,hw,sz,c,el,fz,q1,q2,q3,q4,q5,q6,q7⟩:=h1
   refine ⟨b,hw,sz,c,el,fz,by rw [tk o ho];exact q1,q2,q3,q4,q5,fun i hi hp=>q6 i hi ?_,q7⟩
   rcases hp with hp | ⟨_,_,_,hp⟩
   ·exact hp
   ·exact absurd q1 (hp o ho e hw sz)
  | map es clock =>
   obtain ⟨b0,es0,p1,p2,p3,p4,p5,p6⟩:=h0
   obtain ⟨b,es',q1,q2,q3,q4,q5,q6⟩:=h1
   refine ⟨b,es',by rw [phi o ho];exact q1,q2,q3,q4,fun i hp=>q5 i (nop o b i _ h (by simp) q1 hp),fun i k v m e hi he=>?_⟩
   obtain ⟨r1,r2,r3⟩:=q6 i k v m e hi he
   have hlt:i < es0.size:=by rw [p4];exact lt_of_get hi
   obtain ⟨s1,s2,_⟩:=p6 i k v m es0[i] hi (Array.getElem?_eq_getElem hlt)
   exact ⟨r1.back (s1.sc past),r2.back (s2.sc past),r3⟩
  | siter s pos =>
   obtain ⟨b,s',q1,q2,q3,q4,q5⟩:=h1
   exact ⟨b,s',by rw [phi o ho];exact q1,q2,q3,q4,fun i hp=>q5 i (nop o b i _ h (by simp) q1 hp)⟩
 ·obtain ⟨g1,g2⟩:=phi' o b h
  obtain ⟨g3,g4⟩:=phi' o' b h'
  exact hI'.inj o o' b g2 g4 (nod o hd g1) (nod o' hd' g3)
 ·exact hI'.tinj _ _ _ _ _ _ _ _ _ (tk' _ _ h).2 (tk' _ _ h').2
 ·exact hI'.apart _ _ _ _ _ o (tk' _ _ h).2 (phi' o b h').2
 ·rcases h with h | ⟨_,h,_⟩
  ·exact hI'.puball b i h
  ·exact h

theorem closeV_isCell {f:Nat} {a b:AV} (h:closeV H' n f a=some b) (hc:a.isCell=true):b.isCell=true:=by
 cases f with
 | zero=>cases h
 | succ f =>
  cases a <;> simp only [closeV] at h <;> first
   | (simp [AV.isCell] at hc;done)
   | (injection h with h;subst h;rfl)
   | (split at h <;> first | (injection h with h;subst h;rfl) | (cases h;done) | (split at h <;> first | (cases h;done) | (split at h <;> first | (cases h;done) | (injection h with h;subst h;rfl))))

theorem closeV_agg {f:Nat} {l:List AV} {b:AV} (h:closeV H' n (f+1) (.agg l)=some b):∃ l',b=.agg l'∧l.mapM (closeV H' n f)=some l':=by
 simp only [closeV] at h
 split at h
 ·injection h with h;exact ⟨_,h.symm,‹_›⟩
 ·cases h

def valOf (e:AV) (g:Nat→Value):Value :=
 match e with
 | .agg cs=>.agg ((List.range cs.length).map g).toArray
 | _=>g 0

theorem valOf_rel {e:AV} {g:Nat→Value} (hc:e.cells.all AV.isCell=true) (h:∀ (i:Nat) (c:AV),e.cells[i]?=some c→VRel S e (valOf e g) ∨ VRel S c (g i)) (h':∀ (i:Nat) (c:AV),e.cells[i]?=some c→VRel S c (g i)):VRel S e (valOf e g):=by
 cases e with
 | agg cs =>
  refine .agg cs _ hc (by simp) fun i c v hi hv=>?_
  have:=lt_of_get hi
  simp [this] at hv
  subst hv
  exact h' i c hi
 | _=>first | exact h' 0 _ rfl

theorem elem_close {f : Nat} {e b : AV} {g : Nat → Value} {T : Snap} (h : closeV H' n f e = some b) (hc : e.cells.all AV.isCell = true) (hb : VRel T b (valOf e g)) :
    b.cells.length=e.cells.length∧b.cells.all AV.isCell=true∧∀ (i:Nat) (c:AV),b.cells[i]?=some c→VRel T c (g i):=by
 have scal:e.isCell=true→e.cells=[e]→valOf e g=g 0→b.cells.length=e.cells.length∧b.cells.all AV.isCell=true∧∀ (i:Nat) (c:AV),b.cells[i]?=some c→VRel T c (g i):=by
  intro h1 h2 h3
  have hbc:=closeV_isCell h h1
  rw [isCell_cells hbc,h2]
  refine ⟨rfl,by simp [hbc],fun i c hi=>?_⟩
  cases i with
  | zero=>simp at hi;subst hi;rwa [h3] at hb
  | succ i=>simp at hi
 cases e with
 | agg cs =>
  cases f with
  | zero=>cases h
  | succ f =>
   obtain ⟨l',rfl,hm⟩:=closeV_agg h
   obtain ⟨m1,m2⟩:=mapM_some hm
   simp only [valOf] at hb
   cases hb with | agg _ _ hb1 hb2 hb3 =>
   refine ⟨by simpa [AV.cells] using m1,hb1,fun i c hi=>hb3 i c (g i) hi ?_⟩
   have:i < cs.length:=by rw [← m1];exact lt_of_get hi
   simp [this]
 | undef=>simp [AV.cells,AV.isCell] at hc
 | tuple l=>simp [AV.cells,AV.isCell] at hc
 | _=>exact scal rfl rfl rfl

theorem list_close {f k : Nat} {l l' : List AV} {T : Snap} {g : Nat → Nat → Value} (ih : ∀ (a b : AV) (v : Value), closeV H' n f a = some b → VRel S a v → VRel T b v) (hm : l.mapM (closeV H' n f) = some l')
    (hk:∀ e,e ∈ l→e.cells.length=k∧e.cells.all AV.isCell=true) (h2:∀ (j:Nat) (e:AV) (i:Nat) (c:AV),l[j]?=some e→e.cells[i]?=some c→VRel S c (g j i)) :
    l'.length=l.length∧(∀ e,e ∈ l'→e.cells.length=k∧e.cells.all AV.isCell=true)∧∀ (j:Nat) (e:AV) (i:Nat) (c:AV),l'[j]?=some e→e.cells[i]?=some c→VRel T c (g j i):=by
 obtain ⟨m1,m2⟩:=mapM_some hm
 have key:∀ (j:Nat) (b:AV),l'[j]?=some b→∃ e,l[j]?=some e∧closeV H' n f e=some b:=fun j b hb=>by
  have hj:j < l.length:=by rw [← m1];exact lt_of_get hb
  obtain ⟨b',h1,h3⟩:=m2 j l[j] (List.getElem?_eq_getElem hj)
  rw [hb] at h3
  injection h3 with h3
  subst h3
  exact ⟨l[j],List.getElem?_eq_getElem hj,h1⟩
 have one:∀ (j:Nat) (b:AV),l'[j]?=some b→b.cells.length=k∧b.cells.all AV.isCell=true∧∀ (i:Nat) (c:AV),b.cells[i]?=some c→VRel T c (g j i):=fun j b hb=>by
  obtain ⟨e,he,hcl⟩:=key j b hb
  obtain ⟨hk1,hk2⟩:=hk e (List.mem_of_getElem? he)
  have hv:=valOf_rel (S:=S) (g:=g j) hk2 (fun i c hi=>.inr (h2 j e i c he hi)) (fun i c hi=>h2 j e i c he hi)
  obtain ⟨q1,q2,q3⟩:=elem_close hcl hk2 (ih e b _ hcl hv)
  exact ⟨by rw [q1,hk1],q2,q3⟩
 refine ⟨m1,fun b hb=>?_,fun j e i c he hc=>(one j e he).2.2 i c hc⟩
 obtain ⟨j,hj⟩:=List.getElem?_of_mem hb
 exact ⟨(one j b hj).1,(one j b hj).2.1⟩

theorem vals_close {f : Nat} {l l' : List AV} {T : Snap} {vs : Array Value} (ih : ∀ (a b : AV) (v : Value), closeV H' n f a = some b → VRel S a v → VRel T b v) (hm : l.mapM (closeV H' n f) = some l')
    (hs:vs.size=l.length) (h:∀ (i:Nat) (c:AV) (v:Value),l[i]?=some c→vs[i]?=some v→VRel S c v) :
    vs.size=l'.length∧∀ (i:Nat) (c:AV) (v:Value),l'[i]?=some c→vs[i]?=some v→VRel T c v:=by
 obtain ⟨m1,m2⟩:=mapM_some hm
 refine ⟨by rw [hs,m1],fun i b v hb hv=>?_⟩
 have hi:i < l.length:=by rw [← m1];exact lt_of_get hb
 obtain ⟨b',h1,h3⟩:=m2 i l[i] (List.getElem?_eq_getElem hi)
 rw [hb] at h3
 injection h3 with h3
 subst h3
 exact ih _ _ v h1 (h i _ v (List.getElem?_eq_getElem hi) hv)
theorem cells_close {f:Nat} {l l':List AV} (hm:l.mapM (closeV H' n f)=some l') (hc:l.all AV.isCell=true):l'.all AV.isCell=true:=by
 obtain ⟨m1,m2⟩:=mapM_some hm
 refine all_of_get fun i b hb=>?_
 have hi:i < l.length:=by rw [← m1];exact lt_of_get hb
 obtain ⟨b',h1,h3⟩:=m2 i l[i] (List.getElem?_eq_getElem hi)
 rw [hb] at h3
 injection h3 with h3
 subst h3
 exact closeV_isCell h1 (get_of_all hc (List.getElem?_eq_getElem hi))

theorem closeV_sound (hI':Inv W0 S H') (ht:H'.take H.length=H):∀ (f:Nat) (a b:AV) (v:Value),closeV H' H.length f a=some b→VRel S a v→VRel (S.back H) b v:=by
 have hget:∀ o,o < H.length→H'[o]?=H[o]?:=fun o ho=>by
  rw [← ht,List.getElem?_take_of_lt ho]
 intro f
 induction f with
 | zero=>intro a b v h;cases h
 | succ f ih =>
  intro a b v h hv
  cases hv with
  | undef v=>simp only [closeV] at h;injection h with h;subst h;exact .undef v
  | bool c=>simp only [closeV] at h;injection h with h;subst h;exact .bool c
  | int k m=>simp only [closeV] at h;injection h with h;subst h;exact .int k m
  | str s c hc=>simp only [closeV] at h;injection h with h;subst h;exact .str s c hc
  | nilp=>simp only [closeV] at h;injection h with h;subst h;exact .nilp
  | nils=>simp only [closeV] at h;injection h with h;subst h;exact .nils
  | nilm=>simp only [closeV] at h;injection h with h;subst h;exact .nilm
  | nilf=>simp only [closeV] at h;injection h with h;subst h;exact .nilf
  | nili=>simp only [closeV] at h;injection h with h;subst h;exact .nili
  | ptr o off c hc =>
   simp only [closeV] at h
   split at h
   ·injection h with h;subst h;exact .ptr o off c (by simp [Snap.back, *])
   ·cases h
  | map o c hc =>
   simp only [closeV] at h
   split at h
   ·injection h with h;subst h;exact .map o c (by simp [Snap.back, *])
   ·cases h
  | vp cells c off g hc h1 h2 =>
   simp only [closeV] at h
   split at h
   ·rename_i l' hm
    injection h with h;subst h
    obtain ⟨m1,m2⟩:=mapM_some hm
    refine .vp l' c off g (cells_close hm hc) (fun i hi=>⟨(h1 i (by omega)).1,.inl (h1 i (by omega)).2⟩) fun i b hb=>?_
    have hi:i < cells.length:=by rw [← m1];exact lt_of_get hb
    obtain ⟨b',q1,q3⟩:=m2 i cells[i] (List.getElem?_eq_getElem hi)
    rw [hb] at q3
    injection q3 with q3
    subst q3
    exact ih _ _ _ q1 (h2 i _ (List.getElem?_eq_getElem hi))
   ·cases h
  | vs k tok l c off cap g hcap hk h1 h2 htk sp hsp =>
   simp only [closeV] at h
   split at h
   ·rename_i l' hm
    injection h with h;subst h
    obtain ⟨q1,q2,q3⟩:=list_close (S:=S) (g:=g) ih hm hk h2
    rw [← q1]
    refine VRel.vs (S:=S.back H) k _ l' c off cap g (by omega) q2 (fun j i hj hi=>⟨(h1 j i (by omega) hi).1,.inl (h1 j i (by omega) hi).2⟩) q3 ?_ sp hsp
    cases tok with
    | no=>trivial
    | clip=>simp only [TokOk] at htk ⊢;omega
    | own t e =>
     simp only
     split
     ·rename_i htn
      obtain ⟨e0,b0,hw0,sz0,p1,p2⟩:=htk
      rw [q1]
      exact ⟨e0,b0,hw0,sz0,by simp [Snap.back,htn,p1],p2⟩
     ·trivial
   ·cases h
  | rs ag k o off len cap c hc hlen =>
   simp only [closeV] at h
   split at h
   ·injection h with h;subst h;exact .rs ag k o off len cap c (by simp [Snap.back, *]) hlen
   ·rename_i hon
    split at h
    ·rename_i l hel
     split at h
     ·rename_i l' hm
      injection h with h;subst h
      unfold elems at hel
      simp only [true_and] at hel
      split at hel
      ·rename_i hag
       split at hel
       ·rename_i cs ho
        split at hel
        ·rename_i hle
         injection hel with hel
         obtain ⟨b',arr,el,p1,p2,p3,p4,p5,p6,p7⟩:=hI'.objs o _ ho
         rw [hc] at p1
         injection p1 with p1
         subst p1
         obtain ⟨f1,f2,f3⟩:=flat_chunks hag len (cs.drop off) (all_drop p7 off) (by simp;omega)
         rw [hel] at f1 f2 f3
         have fc:(flat l).all AV.isCell=true:=by rw [f1];exact all_sub p7 off (len * k)
         obtain ⟨q1,q2,q3⟩:=list_close (S:=S) (T:=S.back H) (g:=fun j i=>arr.getD (off+(j * k+i)) undef) ih hm (fun e he=>⟨f2 e he,flat_cell fc he⟩) (fun j e i x he hx=>by
          have hjl:=lt_of_get he
          have hik:i < k:=by rw [← f2 e (List.mem_of_getElem? he)];exact lt_of_get hx
          have hin:j * k+i < len * k:=by
           have:=Nat.mul_le_mul_right k (Nat.succ_le_of_lt hjl);rw [Nat.succ_mul,f3] at this;omega
          have hxx:=flat_get f2 j i e he hik
          rw [hx,f1,List.getElem?_take_of_lt hin,List.getElem?_drop] at hxx
          have:off+(j * k+i) < arr.size:=by omega
          refine p5 _ x _ hxx ?_
          simp [this])
         have hll:len=l'.length:=by omega
         rw [hll]
         have hfree:∀ i,(S.back H).pub c i:=fun i=>.inr ⟨Nat.le_trans hI'.lim p2,heap_lt p3,fun o' x hx hxd hp=>?_,fun t htn e hw sz htt=>?_⟩
         ·refine .vs k _ l' c off cap _ (by omega) q2 (fun j i hj hi=>⟨?_,hfree _⟩) q3 (by split <;> first | exact trivial | (show cap=_;omega)) none (.inl rfl)
          have hin:j * k+i < len * k:=by
           have:=Nat.mul_le_mul_right k (Nat.succ_le_of_lt hj);rw [Nat.succ_mul,← hll] at this;omega
          have:off+(j * k+i) < arr.size:=by omega
          show S.w.cell? _=_
          rw [cell_of_row S.w c _ arr el (0,0) p3,show off+j * k+i=off+(j * k+i) by omega]
          simp [this]
         ·have hol:=lt_of_get hx
          have:=hI'.inj o' o c hp hc (by rw [hget o' hol,hx];simp [hxd]) (by rw [ho];simp)
          omega
         ·exact hI'.apart t e c hw sz o htt hc
        ·cases hel
       ·cases hel
      ·cases hel
     ·cases h
    ·cases h
  | wp o e off c hc =>
   simp only [closeV] at h
   split at h
   ·rename_i ho
    injection h with h;subst h
    obtain ⟨e0,b0,hw0,sz0,q1,q2⟩:=hc
    exact .wp o e off c ⟨e0,b0,hw0,sz0,by simp [Snap.back,ho,q1],q2⟩
   ·cases h
  | ws ag k o e len cap c hc hlen =>
   simp only [closeV] at h
   split at h
   ·rename_i ho
    injection h with h;subst h
    obtain ⟨e0,b0,hw0,sz0,q1,q2⟩:=hc
    exact .ws ag k o e len cap c ⟨e0,b0,hw0,sz0,by simp [Snap.back,ho,q1],q2⟩ hlen
   ·rename_i hon
    split at h
    ·rename_i l hel
     split at h
     ·rename_i l' hm
      injection h with h;subst h
      unfold elems at hel
      simp only [true_and] at hel
      split at hel
      ·rename_i hag
       split at hel
       ·rename_i e' cs ho
        split at hel
        ·rename_i hle
         obtain ⟨rfl,hle⟩:=hle
         injection hel with hel
         obtain ⟨e0,b0,hw0,sz0,q1,q2,q3⟩:=hc
         obtain ⟨b',sz',arr,el,fz,p1,p2,p3,p4,p5,p6,p7,p8,p9⟩:=hI'.objs o _ ho
         have q1':=q1
         rw [p1] at q1'
         simp only [Option.some.injEq,Prod.mk.injEq] at q1'
         obtain ⟨u1,u2,u3,u4⟩:=q1'
         obtain ⟨w1,w2,w3⟩:=q3 (by omega)
         obtain rfl:c=b':=by omega
         obtain ⟨f1,f2,f3⟩:=flat_chunks hag len cs p8 hle
         rw [hel] at f1 f2 f3
         have fc:(flat l).all AV.isCell=true:=by rw [f1];exact all_sub p8 0 (len * k)
         obtain ⟨q1,q2,q3⟩:=list_close (S:=S) (T:=S.back H) (g:=fun j i=>arr.getD (j * k+i) undef) ih hm (fun e he=>⟨f2 e he,flat_cell fc he⟩) (fun j e i x he hx=>by
          have hjl:=lt_of_get he
          have hik:i < k:=by rw [← f2 e (List.mem_of_getElem? he)];exact lt_of_get hx
          have hin:j * k+i < len * k:=by
           have:=Nat.mul_le_mul_right k (Nat.succ_le_of_lt hjl);rw [Nat.succ_mul,f3] at this;omega
          have hxx:=flat_get f2 j i e he hik
          rw [hx,f1,List.getElem?_take_of_lt hin] at hxx
          have:j * k+i < arr.size:=by omega
          refine p6 _ x _ hxx ?_
          simp [this])
         have hll:len=l'.length:=by omega
         rw [hll]
         have hfree:∀ i,(S.back H).pub c i:=fun i=>.inr ⟨Nat.le_trans hI'.lim p2,heap_lt p3,fun o' x hx hxd hp=>?_,fun t htn e hw sz htt=>?_⟩
         ·refine .vs k .no l' c 0 cap _ (by omega) q2 (fun j i hj hi=>⟨?_,hfree _⟩) q3 trivial none (.inl rfl)
          have hin:j * k+i < len * k:=by
           have:=Nat.mul_le_mul_right k (Nat.succ_le_of_lt hj);rw [Nat.succ_mul,← hll] at this;omega
          have:j * k+i < arr.size:=by omega
          show S.w.cell? _=_
          rw [cell_of_row S.w c _ arr el fz p3,show 0+j * k+i=j * k+i by omega]
          simp [this]
         ·exact hI'.apart o _ c _ _ o' p1 hp
         ·have:=hI'.tinj _ _ _ _ _ _ _ _ _ htt p1
          omega
        ·cases hel
       ·cases hel
      ·cases hel
     ·cases h
    ·cases h
  | fn fn a1 a2 F K hF hK h1 h2 =>
   simp only [closeV] at h
   split at h
   ·rename_i l1 l2 hm1 hm2
    injection h with h;subst h
    obtain ⟨q1,q2⟩:=vals_close (S:=S) ih hm1 hF h1
    obtain ⟨q3,q4⟩:=vals_close (S:=S) ih hm2 hK h2
    exact .fn fn l1 l2 F K q1 q3 q2 q4
   ·cases h
  | iface t x u hx =>
   simp only [closeV] at h
   split at h
   ·injection h with h;subst h;exact .iface t _ u (ih _ _ _ ‹_› hx)
   ·cases h
  | agg l vs hc hs h1 =>
   simp only [closeV] at h
   split at h
   ·rename_i l' hm
    injection h with h;subst h
    obtain ⟨q1,q2⟩:=vals_close (S:=S) ih hm hs h1
    exact .agg l' vs (cells_close hm hc) q1 q2
   ·cases h
  | tuple l vs hs h1 =>
   simp only [closeV] at h
   split at h
   ·rename_i l' hm
    injection h with h;subst h
    obtain ⟨q1,q2⟩:=vals_close (S:=S) ih hm hs h1
    exact .tuple l' vs q1 q2
   ·cases h
theorem VRel.bare {T:Snap} (hw:T.w=S.w) (hp:∀ b i,S.pub b i→T.pub b i) {a:AV} {v:Value} (h:VRel S a v) (hs:Sc 0 a):VRel T a v:=by
 induction h with
 | undef v=>exact .undef v
 | bool b=>exact .bool b
 | int k m=>exact .int k m
 | str s b h=>exact .str s b h
 | nilp=>exact .nilp
 | ptr o off b h=>cases hs with | ptr _ _ ho=>exact absurd ho (Nat.not_lt_zero _)
 | vp cells b off f hc h1 h2 ih =>
  cases hs with | vp _ hcs =>
  exact .vp cells b off f hc (fun i hi=>⟨by rw [hw];exact (h1 i hi).1,hp _ _ (h1 i hi).2⟩) fun i c hi=>ih i c hi (hcs c (List.mem_of_getElem? hi))
 | nils=>exact .nils
 | vs k tok l b off cap f hcap hk h1 h2 ht sp hsp ih =>
  cases hs with | vs _ _ _ htk hcs =>
  refine VRel.vs (S:=T) k tok l b off cap f hcap hk (fun j i hj hi=>⟨by rw [hw];exact (h1 j i hj hi).1,hp _ _ (h1 j i hj hi).2⟩) (fun j e i c he hc=>ih j e i c he hc (hcs e (List.mem_of_getElem? he) c (List.mem_of_getElem? hc))) ?_ sp hsp
  cases tok with
  | no=>trivial
  | clip=>exact ht
  | own t e=>exact absurd (htk t e rfl) (Nat.not_lt_zero _)
 | rs ag k o off len cap b h hlen=>cases hs with | rs _ _ _ _ _ _ ho=>exact absurd ho (Nat.not_lt_zero _)
 | ws ag k o e len cap b h hlen=>cases hs with | ws _ _ _ _ _ ho=>exact absurd ho (Nat.not_lt_zero _)
 | wp o e off b h=>cases hs with | wp _ _ _ ho=>exact absurd ho (Nat.not_lt_zero _)
 | nilm=>exact .nilm
 | map o b h=>cases hs with | map _ ho=>exact absurd ho (Nat.not_lt_zero _)
 | nilf=>exact .nilf
 | fn fn first captured F K hF hK h1 h2 ih1 ih2 =>
  cases hs with | fn _ _ _ g1 g2 =>
  exact .fn fn _ _ F K hF hK (fun i c v hi hv=>ih1 i c v hi hv (g1 c (List.mem_of_getElem? hi))) (fun i c v hi hv=>ih2 i c v hi hv (g2 c (List.mem_of_getElem? hi)))
 | nili=>exact .nili
 | iface t v u h ih=>cases hs with | iface _ _ g=>exact .iface t v u (ih g)
 | agg cells vs hc hs' h ih=>cases hs with | agg _ g=>exact .agg _ _ hc hs' fun i c v hi hv=>ih i c v hi hv (g c (List.mem_of_getElem? hi))
 | tuple l vs hs' h ih=>cases hs with | tuple _ g=>exact .tuple _ _ hs' fun i c v hi hv=>ih i c v hi hv (g c (List.mem_of_getElem? hi))

theorem closeV_bare {T:Snap} (hw:T.w=S.w) (hp:∀ b i,S.pub b i→T.pub b i):∀ (f:Nat) (a b:AV) (v:Value),closeV [] 0 f a=some b→VRel S a v→VRel T b v:=by
 intro f
 induction f with
 | zero=>intro a b v h;cases h
 | succ f ih =>
  intro a b v h hv
  cases hv with
  | undef v=>simp only [closeV] at h;injection h with h;subst h;exact .undef v
  | bool c=>simp only [closeV] at h;injection h with h;subst h;exact .bool c
  | int k m=>simp only [closeV] at h;injection h with h;subst h;exact .int k m
  | str s c hc=>simp only [closeV] at h;injection h with h;subst h;exact .str s c hc
  | nilp=>simp only [closeV] at h;injection h with h;subst h;exact .nilp
  | nils=>simp only [closeV] at h;injection h with h;subst h;exact .nils
  | nilm=>simp only [closeV] at h;injection h with h;subst h;exact .nilm
  | nilf=>simp only [closeV] at h;injection h with h;subst h;exact .nilf
  | nili=>simp only [closeV] at h;injection h with h;subst h;exact .nili
  | ptr o off c hc =>
   simp only [closeV] at h
   split at h
   ·rename_i ho;exact absurd ho (Nat.not_lt_zero _)
   ·cases h
  | map o c hc =>
   simp only [closeV] at h
   split at h
   ·rename_i ho;exact absurd ho (Nat.not_lt_zero _)
   ·cases h
  | vp cells c off g hc h1 h2 =>
   simp only [closeV] at h
   split at h
   ·rename_i l' hm
    injection h with h;subst h
    obtain ⟨m1,m2⟩:=mapM_some hm
    refine .vp l' c off g (cells_close hm hc) (fun i hi=>⟨by rw [hw];exact (h1 i (by omega)).1,hp _ _ (h1 i (by omega)).2⟩) fun i b hb=>?_
    have hi:i < cells.length:=by rw [← m1];exact lt_of_get hb
    obtain ⟨b',q1,q3⟩:=m2 i cells[i] (List.getElem?_eq_getElem hi)
    rw [hb] at q3
    injection q3 with q3
    subst q3
    exact ih _ _ _ q1 (h2 i _ (List.getElem?_eq_getElem hi))
   ·cases h
  | vs k tok l c off cap g hcap hk h1 h2 htk sp hsp =>
   simp only [closeV] at h
   split at h
   ·rename_i l' hm
    injection h with h;subst h
    obtain ⟨q1,q2,q3⟩:=list_close (S:=S) (g:=g) ih hm hk h2
    rw [← q1]
    refine VRel.vs (S:=T) k _ l' c off cap g (by omega) q2 (fun j i hj hi=>⟨by rw [hw];exact (h1 j i (by omega) hi).1,hp _ _ (h1 j i (by omega) hi).2⟩) q3 ?_ sp hsp
    cases tok with
    | no=>trivial
    | clip=>simp only [TokOk] at htk ⊢;omega
    | own t e =>
     simp only
     split
     ·rename_i htn;exact absurd htn (Nat.not_lt_zero _)
     ·trivial
   ·cases h
  | wp o e off c hc =>
   simp only [closeV] at h
   split at h
   ·rename_i ho;exact absurd ho (Nat.not_lt_zero _)
   ·cases h
  | ws ag k o e len cap c hc hlen =>
   simp only [closeV] at h
   split at h
   ·rename_i ho;exact absurd ho (Nat.not_lt_zero _)
   ·have:elems k (.ws ag k o e len) ([]:Hp)=none:=by simp [elems]
    rw [this] at h
    cases h
  | rs ag k o off len cap c hc hlen =>
   simp only [closeV] at h
   split at h
   ·rename_i ho;exact absurd ho (Nat.not_lt_zero _)
   ·have:elems k (.rs ag k o off len cap) ([]:Hp)=none:=by simp [elems]
    rw [this] at h
    cases h
  | fn fn a1 a2 F K hF hK h1 h2 =>
   simp only [closeV] at h
   split at h
   ·rename_i l1 l2 hm1 hm2
    injection h with h;subst h
    obtain ⟨q1,q2⟩:=vals_close (S:=S) ih hm1 hF h1
    obtain ⟨q3,q4⟩:=vals_close (S:=S) ih hm2 hK h2
    exact .fn fn l1 l2 F K q1 q3 q2 q4
   ·cases h
  | iface t x u hx =>
   simp only [closeV] at h
   split at h
   ·injection h with h;subst h;exact .iface t _ u (ih _ _ _ ‹_› hx)
   ·cases h
  | agg l vs hc hs h1 =>
   simp only [closeV] at h
   split at h
   ·rename_i l' hm
    injection h with h;subst h
    obtain ⟨q1,q2⟩:=vals_close (S:=S) ih hm hs h1
    exact .agg l' vs (cells_close hm hc) q1 q2
   ·cases h
  | tuple l vs hs h1 =>
   simp only [closeV] at h
   split at h
   ·rename_i l' hm
    injection h with h;subst h
    obtain ⟨q1,q2⟩:=vals_close (S:=S) ih hm hs h1
    exact .tuple l' vs q1 q2
   ·cases h
end
end Go.Am
