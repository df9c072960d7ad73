/-
  THE ABSTRACT MACHINE, part H: conversions; every operation that looks at no object.
-/
import Derived.Test.YtgglgbfolgcaiaaGreatDoorHmGx
import Derived.Laws.IdiomStrings
namespace Go.Am
open RowKit

section
variable {P:Program} {S:Snap} {W0:World} {H:Hp}

theorem bytesOf_spec:∀ {l:List AV} {s:List UInt8},bytesOf l=some s→∃ ns:List Int,l=ns.map (AV.int .u8)∧s=ns.map fun n=>UInt8.ofNat n.toNat:=by
 intro l
 induction l with
 | nil=>intro s h;simp [bytesOf] at h;exact ⟨[],rfl,by simp [h]⟩
 | cons a l ih =>
  intro s h
  unfold bytesOf at h
  split at h
  ·rename_i hh;cases hh
  ·rename_i n r hh
   injection hh with h1 h2
   subst h1 h2
   split at h
   ·rename_i s' hs'
    injection h with h;subst h
    obtain ⟨ns,rfl,rfl⟩:=ih hs'
    exact ⟨n :: ns,rfl,rfl⟩
   ·cases h
  ·cases h

theorem foldl_push (ns:List Int):∀ (r:ByteArray),(ns.foldl (fun r n=>r.push (UInt8.ofNat n.toNat)) r).data.toList=r.data.toList++ns.map fun n=>UInt8.ofNat n.toNat:=by
 induction ns with
 | nil=>intro r;simp
 | cons n ns ih=>intro r;rw [List.foldl_cons,ih];simp [ByteArray.push]

theorem isU8_some {d:Option TypeDesc} (h:isU8 d=true):d=some (.int .u8):=by
 unfold isU8 at h
 split at h
 ·rfl
 ·cases h

theorem aconv_sound {src dst:TypeId} {x r:AV} {u:Value} (hx:VRel S x u) {wr:TypeId→Bool} (h:aconv P wr src dst x=some r):Yields P W0 S H (convert src dst u) r H:=by
 intro hI
 unfold aconv at h
 split at h
 ·rename_i q k hs hd
  unfold cvInt at h
  split at h
  ·rename_i q' n
   injection h with h;subst h
   cases hx with | int _ _ =>
   exact ⟨.int k (k.wrap n),S,by simp [convert,run_underlying hs,run_underlying hd,Conv.intToInt],Ext.refl S,hI,.int _ _⟩
  ·cases h
 ·rename_i hs hd
  unfold cvStr at h
  split at h
  ·injection h with h;subst h
   cases hx with | str _ b hb =>
   exact ⟨.string b,S,by simp [convert,run_underlying hs,run_underlying hd],Ext.refl S,hI,.str _ _ hb⟩
  ·cases h
 ·rename_i e hs hd
  split at h
  ·rename_i he
   have he:=isU8_some he
   unfold cvOfBytes at h
   split at h
   ·injection h with h;subst h
    cases hx with | nils =>
    exact ⟨.string .empty,S,by simp [convert,run_underlying hs,run_underlying hd,run_underlying he,Conv.bytesToString],Ext.refl S,hI,.str _ _ rfl⟩
   ·rename_i k tok l
    split at h
    ·rename_i hk1
     subst hk1
     split at h
     ·rename_i s hsb
      injection h with h;subst h
      obtain ⟨ns,rfl,rfl⟩:=bytesOf_spec hsb
      cases hx with | vs _ _ _ b off cap f hcap hk h1 h2 ht sp hsp =>
      have hl:(loadCells ⟨b,off,sp⟩ (ns.map (AV.int .u8)).length).run P S.w=.ok (ns.map (Value.int .u8)).toArray S.w:=by
       by_cases hl0:ns=[]
       ·subst hl0;rfl
       obtain rfl:sp=none:=hsp.resolve_right (by have:=List.length_pos_iff.2 hl0;simp at hcap;omega)
       have:=run_loadCells_list (P:=P) S.w ⟨b,off,none⟩ (ns.map (Value.int .u8)) (fun j v hv=>by
        rw [List.getElem?_map,Option.map_eq_some_iff] at hv
        obtain ⟨n,hn,rfl⟩:=hv
        have hj:j < ns.length:=by
         rcases Nat.lt_or_ge j ns.length with h' | h'
         ·exact h'
         ·rw [List.getElem?_eq_none h'] at hn;cases hn
        have hc:=(h1 j 0 (by simpa using hj) (by omega)).1
        have hr:=h2 j (.int .u8 n) 0 (.int .u8 n) (by rw [List.getElem?_map,hn];rfl) rfl
        rw [add_spot]
        simp only [Nat.mul_one,Nat.add_zero] at hc
        rw [hc]
        generalize f j 0=fv at hr
        cases hr
        rfl)
       simpa using this
      refine ⟨.string (ns.foldl (fun r n=>r.push (UInt8.ofNat n.toNat)) ByteArray.empty),S,?_,Ext.refl S,hI,.str _ _ ?_⟩
      ·rw [run_convert_bytes_string S.w src dst e _ _ _ hs he hd]
       exact run_bytesToString S.w _ _ _ ns hl
      ·rw [foldl_push];simp
     ·cases h
    ·cases h
   ·cases h
  ·cases h
 ·rename_i e hs hd
  split at h
  ·rename_i he
   have he:=isU8_some he
   split at h
   ·cases h
   unfold cvToBytes at h
   split at h
   ·injection h with h;subst h
    cases hx with | str _ b hb =>
    subst hb
    have hrun:=run_bytes_of_string S.w src dst e b hs hd he
    have hcap:=grownCap_ge S.w b.size 0 e
    generalize grownCap S.w b.size 0 e=cap at hrun hcap
    have hcell:∀ j,j < b.size→(bytesRow b cap)[j]?=some (.int .u8 ((b.data.toList.getD j 0).toNat:Int)):=by
     intro j hj
     unfold bytesRow
     rw [Array.getElem?_append_left (by simp;exact hj)]
     have hg:b.data[j]?=some b.data[j]:=Array.getElem?_eq_getElem hj
     simp [hg]
    let S1:Snap:=S.drew
    have hI1:Inv W0 S1 H:=hI.drew
    refine ⟨_,S1.grow (.cells (bytesRow b cap) e ((bytesRow b cap).size,(bytesRow b cap).size+1)),hrun,(Ext.drew S).trans (Ext.grow hI1 _),hI1.grow _,?_⟩
    have hlen:(b.data.toList.map fun b=>AV.int .u8 (b.toNat:Int)).length=b.size:=by rw [List.length_map];exact size_toList b
    have hvs:=vs_of_block (S:=S1.grow (.cells (bytesRow b cap) e ((bytesRow b cap).size,(bytesRow b cap).size+1))) (k:=1) (tok:=.no) (l:=b.data.toList.map fun b=>AV.int .u8 (b.toNat:Int))
     (b:=S.w.heap.size) (off:=0) (cap:=cap) (grow_heap S1 _) (by rw [hlen];exact hcap) (fun e he=>by simp at he;obtain ⟨a,_,rfl⟩:=he;rfl) (cell_flat fun e he=>by simp at he;obtain ⟨a,_,rfl⟩:=he;rfl) (fun i _=>.inr rfl)
     (by rw [hlen];simp [bytesRow]) (fun i x v hx hv=>?_) trivial
    ·rw [hlen] at hvs;exact hvs
    ·have hfl : flat (b.data.toList.map fun b => AV.int .u8 (b.toNat : Int)) = b.data.toList.map fun b => AV.int .u8 (b.toNat : Int) := by
        unfold flat
        rw [List.map_map]
        show (b.data.toList.map fun b=>[AV.int .u8 (b.toNat:Int)]).flatten=_
        induction b.data.toList with
        | nil=>rfl
        | cons a l ih=>simp [ih]
     rw [hfl] at hx
     have hi:i < b.size:=by
      rw [← hlen]
      rcases Nat.lt_or_ge i (b.data.toList.map fun b=>AV.int .u8 (b.toNat:Int)).length with h' | h'
      ·exact h'
      ·rw [List.getElem?_eq_none h'] at hx;cases hx
     rw [Nat.zero_add,hcell i hi] at hv
     have hlt:i < b.data.toList.length:=by rw [size_toList];exact hi
     rw [List.getElem?_map,List.getElem?_eq_getElem hlt] at hx
     simp only [Option.map_some,Option.some.injEq] at hx hv
     subst hx hv
     rw [List.getD_eq_getElem?_getD,List.getElem?_eq_getElem hlt]
     exact .int _ _
   ·cases h
  ·cases h
 ·cases h

def Held (S:Snap) (g:Nat) (cs:List AV):Prop:=∃ vs:Array Value,vs.size=cs.length∧∀ i,S.pub g i∧S.w.cell? ⟨g,i,none⟩=vs[i]?
theorem Held.mono {S S':Snap} (hx:Ext S S') {g:Nat} {cs:List AV} (h:Held S g cs):Held S' g cs:=by
 obtain ⟨vs,h1,h2⟩:=h
 exact ⟨vs,h1,fun i=>⟨(hx.pub g i (h2 i).1).1,(hx.pub g i (h2 i).1).2.trans (h2 i).2⟩⟩
def GlobW (C:Cfg) (S:Snap):Prop:=∀ g cs,C.glob g=some cs→VRel S (.vp cs) (.pointer (some ⟨g,0,none⟩))∧Held S g cs
def SumOk (C:Cfg) (id:FuncId) (g:List AV→Option AV):Prop :=
 ∀ {W0:World} (S:Snap) (H:Hp) (args:List AV) (args':Array Value) (v:AV),Inv W0 S H→GlobW C S→args'.size=args.length →
  (∀ (i:Nat) (a:AV) (u:Value),args[i]?=some a→args'[i]?=some u→VRel S a u)→g args=some v →
  Calls C.P id args' S.w fun e w'=>∃ v' S',e=.returned v'∧S'.w=w'∧Ext S S'∧Inv W0 S' H∧VRel S' v v'
def EffOk (C:Cfg) (id:FuncId) (g:EffFn):Prop :=
 ∀ {W0:World} (S:Snap) (H H':Hp) (args:List AV) (args':Array Value) (v:AV),Inv W0 S H→GlobW C S→args'.size=args.length →
  (∀ (i:Nat) (a:AV) (u:Value),args[i]?=some a→args'[i]?=some u→VRel S a u)→g.run args H=some (v,H') →
  Calls C.P id args' S.w fun e w'=>∃ v' S',e=.returned v'∧S'.w=w'∧Ext S S'∧Inv W0 S' H'∧VRel S' v v'
def okCfg (C:Cfg):Prop :=
 (∀ t,C.eqok t=true→C.P.stoodInHeld t=false∧C.P.eqGuardType C.P.depth t=false) ∧
 (∀ f,C.user f=true→∀ (args:Array Value) (w:World),(callFunc f args).run C.P w=.ok (.enter f args) w) ∧
 C.P.follows .mixedOrders=true ∧
 (∀ f e,C.ext f=some e→∀ (args:Array Value) (w:World),(callFunc f args).run C.P w=(do pure (.value (← extF e args)):Sem Next).run C.P w) ∧
 (∀ f g,C.sum f=some g→C.user f=true∧SumOk C f g) ∧
 (∀ f g,C.eff f=some g→C.user f=true∧EffOk C f g)

def Gives (P:Program) (W0:World) (S:Snap) (H:Hp) (s:Sem Next) (v:AV) (H':Hp):Prop :=
 Inv W0 S H→∃ v' S',s.run P S.w=.ok (.value v') S'.w∧Ext S S'∧Inv W0 S' H'∧VRel S' v v'

theorem Yields.gives {s:Sem Value} {v:AV} {H':Hp} (h:Yields P W0 S H s v H'):Gives P W0 S H (do pure (.value (← s))) v H':=by
 intro hI
 obtain ⟨v',S',h1,h2⟩:=h hI
 exact ⟨v',S',by simp [h1],h2⟩
theorem Gives.same {s:Sem Value} {v:AV} (h:∃ v',s.run P S.w=.ok v' S.w∧VRel S v v'):Gives P W0 S H (do pure (.value (← s))) v H:=by
 obtain ⟨v',h1,h2⟩:=h
 exact (Yields.same v' h1 h2).gives

theorem orel_map {S:Snap} {ev:Operand→AV} {ρ:Operand→Value} (hev:∀ x,VRel S (ev x) (ρ x)) (x:Option Operand):ORelV S (x.map ev) (x.map ρ):=by
 cases x with
 | none=>trivial
 | some x=>exact hev x
theorem list_rel {S:Snap} {ev:Operand→AV} {ρ:Operand→Value} (hev:∀ x,VRel S (ev x) (ρ x)) (xs:Array Operand) (i:Nat) (c:AV) (v:Value) (hc:(xs.toList.map ev)[i]?=some c) (hv:(xs.map ρ)[i]?=some v):VRel S c v:=by
 rw [List.getElem?_map,Array.getElem?_toList] at hc
 rw [Array.getElem?_map] at hv
 cases hx:xs[i]? with
 | none=>simp [hx] at hc
 | some x=>simp [hx] at hc hv;subst hc hv;exact hev x
theorem one_of_toList {α:Type} {xs:Array α} {x:α} (h:xs.toList=[x]):xs=#[x]:=by cases xs;simp_all
theorem two_of_toList {α:Type} {xs:Array α} {x y:α} (h:xs.toList=[x,y]):xs=#[x,y]:=by cases xs;simp_all

theorem apure_sound {C : Cfg} (hC : okCfg C) {ev : Operand → AV} {ρ : Operand → Value} (hev : ∀ x, VRel S (ev x) (ρ x)) {o : Oper} {v : AV} (h : apure C ev o.op = some v) :
    Gives C.P W0 S H (execOp ρ o) v H:=by
 obtain ⟨dst,op,type,pos,after,guard⟩:=o
 simp only at h
 unfold execOp
 simp only
 cases op with
 | move x =>
  simp [apure] at h;subst h
  exact fun hI=>⟨ρ x,S,rfl,Ext.refl S,hI,hev x⟩
 | assign x =>
  simp [apure] at h;subst h
  exact fun hI=>⟨ρ x,S,rfl,Ext.refl S,hI,hev x⟩
 | pick c a b =>
  simp only [apure] at h
  unfold apick at h
  split at h
  ·rename_i t ht
   injection h with h;subst h
   have hc:=hev c
   rw [ht] at hc
   generalize hcv:ρ c=cv at hc
   cases hc with | bool _ =>
   intro hI
   refine ⟨if t then ρ a else ρ b,S,by simp [hcv,asBool],Ext.refl S,hI,?_⟩
   cases t
   ·exact hev b
   ·exact hev a
  ·cases h
 | build t parts=>simp only [apure] at h;exact Gives.same (abuild_sound hev h)
 | buildSlice t len parts=>simp only [apure] at h;exact (abuildS_sound hev h).gives
 | load t a =>
  simp only [apure] at h
  split at h
  ·rename_i g sz hg hs
   unfold aloadv at h
   split at h
   ·rename_i cells hc
    have ha:=hev a
    rw [hc] at ha
    generalize hav:ρ a=av at ha
    cases ha with | vp _ b off f h0 h1 h2 =>
    refine Gives.same ?_
    obtain ⟨v',hr,hv⟩:=loadVar_sound (P:=C.P) (S:=S) (t:=t) (off:=off) (b:=b) (f:=f) hg hs (fun i hi=>by rw [Nat.add_comm];exact (h1 i hi).1) h2 h0 h
    exact ⟨v',by simpa [hav,Instr.loadAt,Instr.sureAddr] using hr,hv⟩
   ·cases h
  ·cases h
 | nilCheck x =>
  simp only [apure] at h
  unfold anil at h
  have hx:=hev x
  split at h
  ·rename_i o off he
   injection h with h;subst h
   rw [he] at hx
   generalize hxv:ρ x=xv at hx
   cases hx with | ptr _ _ b hb =>
   exact fun hI=>⟨_,S,by simp only [hxv];rfl,Ext.refl S,hI,.ptr _ _ b hb⟩
  ·rename_i cs he
   injection h with h;subst h
   rw [he] at hx
   generalize hxv:ρ x=xv at hx
   cases hx with | vp _ b off f h0 h1 h2 =>
   exact fun hI=>⟨_,S,by simp only [hxv];rfl,Ext.refl S,hI,.vp _ b off f h0 h1 h2⟩
  ·rename_i o e off he
   injection h with h;subst h
   rw [he] at hx
   generalize hxv:ρ x=xv at hx
   cases hx with | wp _ _ _ b hb =>
   exact fun hI=>⟨_,S,by simp only [hxv];rfl,Ext.refl S,hI,.wp _ _ _ b hb⟩
  ·cases h
 | binOp op t x y ty =>
  simp only [apure] at h
  split at h
  ·rename_i hif
   split at h
   ·rename_i hc
    exact Gives.same (ebinI_sound hif hc (hev x) (hev y) h)
   ·cases h
  ·exact Gives.same (abin_sound hC.1 (hev x) (hev y) h)
 | unOp op t x=>simp only [apure] at h;exact Gives.same (aun_sound (hev x) h)
 | convert s d x=>simp only [apure] at h;exact (aconv_sound (hev x) h).gives
 | makeFunc fn first captured =>
  cases fn <;> simp only [apure] at h
  case func f =>
   injection h with h;subst h
   exact fun hI=>⟨.func (.func f) (first.map ρ) (captured.map ρ),S,by simp [Instr.makeFunc],Ext.refl S,hI,.fn _ _ _ _ _ (by simp) (by simp) (list_rel hev first) (list_rel hev captured)⟩
  all_goals cases h
 | slice t x lo hi mx =>
  simp only [apure] at h
  have hx:=hev x
  split at h
  ·rename_i hu
   unfold asliceS at h
   split at h
   ·rename_i s he hmx
    have hmn:mx=none:=by
     cases mx with
     | none=>rfl
     | some _=>simp at hmx
    subst hmn
    rw [he] at hx
    generalize hxv:ρ x=xv at hx
    cases hx with | str _ b hb =>
    refine Gives.same ?_
    obtain ⟨v',hr,hv⟩:=asliceStr_sound (P:=C.P) hu hb (orel_map hev lo) (orel_map hev hi) h
    exact ⟨v',by simpa [hxv,Instr.sliceAt,run_underlying hu] using hr,hv⟩
   ·cases h
  ·rename_i e hu
   split at h
   ·rename_i size hs
    refine Gives.same ?_
    obtain ⟨v',hr,hv⟩:=asliceV_sound (P:=C.P) hu hs hx (orel_map hev lo) (orel_map hev hi) (orel_map hev mx) h
    exact ⟨v',by simpa [Instr.sliceAt,run_underlying hu] using hr,hv⟩
   ·cases h
  ·cases h
 | fieldAddr t x f =>
  simp only [apure] at h
  split at h
  ·rename_i fd hf
   split at h
   ·rename_i sz hs
    split at h
    ·rename_i h0
     obtain ⟨b,o,hxv,hr⟩:=afield_sound (hev x) h
     exact Gives.same ⟨_,by rw [hxv];exact run_fieldAt hf hs h0 S.w,hr⟩
    ·cases h
   ·cases h
  ·cases h
 | field t x f =>
  simp only [apure] at h
  split at h
  ·rename_i fd hf
   split at h
   ·rename_i g sz hg hs
    unfold afieldV at h
    split at h
    ·rename_i cs he
     have hx:=hev x
     rw [he] at hx
     generalize hxv:ρ x=xv at hx
     cases hx with | agg _ vs h0 h1 h2 =>
     obtain ⟨v',hr,hv⟩:=part_sound hg hs ⟨h1,h2,h0⟩ h
     exact Gives.same ⟨v',by rw [hxv,run_field hf];exact hr,hv⟩
    ·cases h
   ·cases h
  ·cases h
 | indexAddr t x i =>
  simp only [apure] at h
  split at h
  ·rename_i e hu
   split at h
   ·rename_i size hs
    exact Gives.same (aindexS_sound hu hs (hev x) (hev i) h)
   ·cases h
  ·rename_i len e hu
   split at h
   ·rename_i size hs
    exact Gives.same (aindexA_sound hu hs (hev x) (hev i) h)
   ·cases h
  ·cases h
 | index t x i =>
  simp only [apure] at h
  split at h
  ·rename_i hu
   exact Gives.same (aindexStr_sound hu (hev x) (hev i) h)
  ·rename_i len e hu
   split at h
   ·rename_i g size hg hs
    exact Gives.same (aindexAgg_sound hu hg hs (hev x) (hev i) h)
   ·cases h
  ·cases h
 | extract t i =>
  simp only [apure] at h
  unfold aext at h
  split at h
  ·rename_i l he
   have hx:=hev t
   rw [he] at hx
   generalize hxv:ρ t=xv at hx
   cases hx with | tuple _ vs h1 h2 =>
   obtain ⟨u,hu,hr⟩:∃ u,vs[i]?=some u∧VRel S v u:=by
    have hlt:i < vs.size:=by
     rw [h1]
     rcases Nat.lt_or_ge i l.length with h' | h'
     ·exact h'
     ·rw [List.getElem?_eq_none h'] at h;cases h
    exact ⟨vs[i],Array.getElem?_eq_getElem hlt,h2 i v _ h (Array.getElem?_eq_getElem hlt)⟩
   exact Gives.same ⟨u,by simp [hxv,Instr.extract,hu],hr⟩
  ·cases h
 | call c =>
  obtain ⟨callee,args,argTypes⟩:=c
  cases callee with
  | value f=>simp [apure] at h
  | invoke r m=>simp [apure] at h
  | builtin b =>
   cases b <;> first
    | (simp [apure] at h;done)
    | skip
   case len =>
    simp only [apure] at h
    split at h
    ·rename_i x t ha ht
     obtain rfl:=one_of_toList ha
     obtain rfl:=one_of_toList ht
     intro hI
     obtain ⟨v',h1,h2⟩:=alen_sound (P:=C.P) (hev x) h type
     exact ⟨v',S,by simp [resolve,invoke,builtin,h1],Ext.refl S,hI,h2⟩
    ·cases h
   case min =>
    simp only [apure] at h
    split at h
    ·rename_i x y ha
     obtain rfl:=two_of_toList ha
     intro hI
     obtain ⟨v',h1,h2⟩:=amin2_sound (P:=C.P) (hev x) (hev y) h argTypes type
     exact ⟨v',S,by simp [resolve,invoke,builtin,h1],Ext.refl S,hI,h2⟩
    ·cases h
   case max =>
    simp only [apure] at h
    split at h
    ·rename_i x y ha
     obtain rfl:=two_of_toList ha
     intro hI
     obtain ⟨v',h1,h2⟩:=amax2_sound (P:=C.P) (hev x) (hev y) h argTypes type
     exact ⟨v',S,by simp [resolve,invoke,builtin,h1],Ext.refl S,hI,h2⟩
    ·cases h
 | makeInterface t x =>
  simp only [apure,amkI] at h
  split at h
  ·cases h
  ·rename_i d hd hu
   injection h with h
   subst h
   refine Gives.same ⟨.iface t (ρ x),?_,.iface t _ _ (hev x)⟩
   have hr:=fun w=>run_underlying (w:=w) hu
   simp only [Instr.makeInterface,Sem.run_bind,hr,Result.andThen_ok]
   cases d <;> first | rfl | exact absurd hu (hd _)
  ·cases h
 | typeAssert x xt t ok =>
  simp only [apure] at h
  split at h
  ·rename_i z hz
   obtain ⟨zc,z1,z2⟩:=zeroT_sound hz
   unfold atyI at h
   split at h
   ·cases h
   ·rename_i d hd hu
    have hr:=fun w=>run_underlying (w:=w) hu
    have hx:=hev x
    have hdd:∀ ms,d ≠ .interface ms:=fun ms e=>hd ms e
    split at h
    ·rename_i t' v' he
     rw [he] at hx
     generalize hxv:ρ x=xv at hx
     cases hx with | iface _ _ u hvu =>
     split at h
     ·rename_i htt
      injection h with h
      subst h
      refine Gives.same ⟨if ok then .tuple #[u,.bool true] else u,?_,?_⟩
      ·simp only [hxv,Instr.typeAssert,Sem.run_bind,hr,Result.andThen_ok]
       cases d <;> first | (simp [htt];done) | exact absurd rfl (hdd _)
      ·cases ok with
       | true => exact .tuple _ _ rfl (fun i a b ha hb => by
           match i with
           | 0=>simp at ha hb;subst ha;subst hb;exact hvu
           | 1=>simp at ha hb;subst ha;subst hb;exact .bool _
           | i+2=>simp at ha)
       | false=>exact hvu
     ·rename_i htt
      split at h
      ·rename_i hok
       injection h with h
       subst h
       refine Gives.same ⟨.tuple #[zc,.bool false],?_,?_⟩
       ·simp only [hxv,Instr.typeAssert,Sem.run_bind,hr,Result.andThen_ok]
        cases d <;> first | (simp [htt,hok,z1];done) | exact absurd rfl (hdd _)
       ·exact .tuple _ _ rfl (fun i a b ha hb => by
           match i with
           | 0=>simp at ha hb;subst ha;subst hb;exact z2 S
           | 1=>simp at ha hb;subst ha;subst hb;exact .bool _
           | i+2=>simp at ha)
      ·cases h
    ·rename_i he
     rw [he] at hx
     generalize hxv:ρ x=xv at hx
     cases hx
     split at h
     ·rename_i hok
      injection h with h
      subst h
      refine Gives.same ⟨.tuple #[zc,.bool false],?_,?_⟩
      ·simp only [hxv,Instr.typeAssert,Sem.run_bind,hr,Result.andThen_ok]
       cases d <;> first | (simp [hok,z1];done) | exact absurd rfl (hdd _)
      ·exact .tuple _ _ rfl (fun i a b ha hb => by
          match i with
          | 0=>simp at ha hb;subst ha;subst hb;exact z2 S
          | 1=>simp at ha hb;subst ha;subst hb;exact .bool _
          | i+2=>simp at ha)
     ·cases h
    ·cases h
   ·cases h
  ·cases h
 | _=>simp [apure] at h
end
end Go.Am
