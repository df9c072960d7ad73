/-
  THE ABSTRACT MACHINE, part N2: maps.
-/
import Derived.Test.YtpahcdhligjdiaaKmHx
import Derived.MapKept
namespace Go.Am
open RowKit

section
variable {P:Program} {S:Snap} {W0:World} {H:Hp}

theorem keyOk_is {d:TypeDesc} {k:AV} {u:Value} (h:keyOk d k=true) (hk:VRel S k u):MapKept.IsKey d u:=by
 unfold keyOk at h
 split at h
 ·cases hk;trivial
 ·cases hk;simpa [MapKept.IsKey] using h
 ·cases hk;trivial
 ·cases h

def ERel (S:Snap) (x:AV × AV × Nat) (e:MapEntry):Prop:=VRel S x.1 e.key∧VRel S x.2.1 e.val∧e.born=x.2.2

theorem beq_bytes (a b:ByteArray):(a == b)=(a.data.toList == b.data.toList):=by
 cases a with | mk a =>
 cases b with | mk b =>
 show (a == b)=(a.toList == b.toList)
 by_cases h:a=b
 ·subst h;simp
 ·have h2:a.toList ≠ b.toList:=fun e=>h (Array.toList_inj.1 e)
  rw [beq_eq_false_iff_ne.2 h,beq_eq_false_iff_ne.2 h2]
theorem sameNow_of {d:TypeDesc} {k q:AV} {u v:Value} {b:Bool} (hd:keyOk d k=true) (hk:VRel S k u) (hq:VRel S q v) (h:keySame k q=some b):Instr.sameNow d u v=some b:=by
 unfold keySame at h
 split at h
 ·cases hk;cases hq
  cases d <;> simp [keyOk] at hd
  simpa [Instr.sameNow] using h
 ·cases hk with | str _ _ h1 =>
  cases hq with | str _ _ h2 =>
  subst h1 h2
  cases d <;> simp [keyOk] at hd
  injection h with h
  subst h
  simp only [Instr.sameNow,Option.some.injEq]
  exact beq_bytes _ _
 ·cases hk;cases hq
  cases d <;> simp [keyOk] at hd
  simpa [Instr.sameNow] using h
 ·cases h
theorem keySame_eq {k q:AV} {u w:Value} (hk:VRel S k u) (hq:VRel S q w) (h:keySame k q=some true):w=u:=by
 unfold keySame at h
 split at h
 ·cases hk;cases hq
  split at h
  ·rename_i hkk
   subst hkk
   injection h with h
   rw [eq_of_beq h]
  ·cases h
 ·cases hk with | str _ _ h1 =>
  cases hq with | str _ _ h2 =>
  injection h with h
  have h:=eq_of_beq h
  subst h1
  rw [← h2] at h
  exact congrArg Value.string (ByteArray.ext (Array.toList_inj.1 h)).symm
 ·cases hk;cases hq
  injection h with h
  rw [eq_of_beq h]
 ·cases h
theorem findK_sound {d : TypeDesc} {k : AV} {u : Value} (hd : keyOk d k = true) (hk : VRel S k u) : ∀ (l : List (AV × AV × Nat)) (es : List MapEntry) (i : Nat) (r : Option (Nat × AV)), es.length = l.length →
    (∀ (j:Nat) (x:AV × AV × Nat) (e:MapEntry),l[j]?=some x→es[j]?=some e→ERel S x e)→findK k l i=some r →
    match r with
    | none=>Instr.findNow d u es i=some none
    | some (j,v)=>∃ v',Instr.findNow d u es i=some (some (j,v'))∧VRel S v v'∧i≤j∧j < i+l.length∧∃ x e,l[j - i]?=some x∧es[j - i]?=some e∧e.key=u:=by
 intro l
 induction l with
 | nil =>
  intro es i r hl _ h
  simp only [findK,Option.some.injEq] at h
  subst h
  have:es=[]:=List.length_eq_zero_iff.1 (by simpa using hl)
  subst this
  rfl
 | cons x l ih =>
  intro es i r hl hr h
  cases es with
  | nil=>simp at hl
  | cons e es =>
   obtain ⟨h1,h2,h3⟩:=hr 0 x e rfl rfl
   unfold findK at h
   split at h
   ·rename_i hs
    injection h with h
    subst h
    have hsn:=sameNow_of hd hk h1 hs
    exact ⟨e.val,by unfold Instr.findNow;rw [hsn],h2,Nat.le_refl _,by simp,x,e,by simp,by simp,keySame_eq hk h1 hs⟩
   ·rename_i hs
    have hsn:=sameNow_of hd hk h1 hs
    have:=ih es (i+1) r (by simpa using hl) (fun j x e hx he=>hr (j+1) x e (by simpa using hx) (by simpa using he)) h
    cases r with
    | none=>simp only at this ⊢;unfold Instr.findNow;rw [hsn];exact this
    | some p =>
     obtain ⟨j,v⟩:=p
     simp only at this ⊢
     obtain ⟨v',g1,g2,g3,g4,x',e',g5,g6,g7⟩:=this
     refine ⟨v',by unfold Instr.findNow;rw [hsn];exact g1,g2,by omega,by simp;omega,x',e',?_,?_,g7⟩
     ·rw [show j - i=(j - (i+1))+1 by omega];simpa using g5
     ·rw [show j - i=(j - (i+1))+1 by omega];simpa using g6
   ·cases h
theorem mapT_of {t e:TypeId} {d:TypeDesc} (h:mapT P t=some (d,e)):∃ kt,P.underlying t=some (.map kt e)∧P.underlying kt=some d:=by
 unfold mapT at h
 split at h
 ·rename_i k e' hu
  split at h
  ·rename_i d' hd
   simp only [Option.some.injEq,Prod.mk.injEq] at h
   obtain ⟨rfl,rfl⟩:=h
   exact ⟨k,hu,hd⟩
  ·cases h
 ·cases h
theorem entries_sound {x : AV} {u : Value} {es : List (AV × AV × Nat)} (hI : Inv W0 S H) (hx : VRel S x u) (h : entries x H = some es) :
    ∃ es':Array MapEntry,es'.size=es.length∧(∀ (j:Nat) (y:AV × AV × Nat) (e:MapEntry),es[j]?=some y→es'.toList[j]?=some e→ERel S y e) ∧
     (u=.map none∧es'=#[] ∨ ∃ b c,u=.map (some b)∧S.w.heap[b]?=some (.map es' c)):=by
 unfold entries at h
 split at h
 ·cases hx
  injection h with h
  subst h
  exact ⟨#[],rfl,by simp,.inl ⟨rfl,rfl⟩⟩
 ·rename_i o
  split at h
  ·rename_i es1 c ho
   injection h with h
   subst h
   cases hx with | map _ b hb =>
   obtain ⟨b',es',h1,h2,h3,h4,h5,h6⟩:=hI.objs o _ ho
   rw [hb] at h1
   injection h1 with h1
   subst h1
   refine ⟨es',h4,fun j y e hy he=>?_,.inr ⟨b,c,rfl,h3⟩⟩
   obtain ⟨k,v,n⟩:=y
   exact h6 j k v n e hy (by simpa using he)
  ·cases h
 ·cases h
theorem alookup_sound {t e : TypeId} {d : TypeDesc} {z x k r : AV} {u v : Value} {ck : Bool} (hI : Inv W0 S H) (ht : mapT P t = some (d, e)) (hz : ∃ zc, (zeroValue e).run P S.w = .ok zc S.w ∧ VRel S z zc) (hx : VRel S x u) (hk : VRel S k v)
    (h:alookup d z ck x k H=some r):∃ v',(Instr.lookup t u v ck).run P S.w=.ok v' S.w∧VRel S r v':=by
 obtain ⟨kt,hu,hd⟩:=mapT_of ht
 obtain ⟨zc,hz1,hz2⟩:=hz
 unfold alookup at h
 split at h
 ·rename_i hok
  split at h
  ·rename_i es hes
   obtain ⟨es',hs,hr,hcase⟩:=entries_sound hI hx hes
   have hkey:=keyOk_is hok hk
   have pair:∀ {a:AV} {w:Value} {b:Bool},VRel S a w→VRel S (if ck=true then AV.tuple [a,.bool b] else a) (if ck=true then Value.tuple #[w,.bool b] else w):=by
    intro a w b ha
    cases ck with
    | false=>exact ha
    | true =>
     refine .tuple _ _ rfl fun i c y hc hy=>?_
     match i,hc,hy with
     | 0,hc,hy=>simp at hc hy;subst hc hy;exact ha
     | 1,hc,hy=>simp at hc hy;subst hc hy;exact .bool b
     | i+2,hc,hy=>simp at hc
   have run:∀ a,Instr.findNow d v es'.toList 0=some a→(Instr.lookup t u v ck).run P S.w=(match a with | some (_,w)=>.ok (if ck=true then Value.tuple #[w,.bool true] else w) S.w | none=>.ok (if ck=true then Value.tuple #[zc,.bool false] else zc) S.w):=by
    intro a ha
    rcases hcase with ⟨rfl,rfl⟩ | ⟨b,c,rfl,hb⟩
    ·cases a <;> simp [Instr.lookup,run_underlying hu,MapKept.run_checkKey hd hkey,MapKept.run_findKey hd ha,hz1,Result.andThen]
    ·cases a <;> simp [Instr.lookup,run_underlying hu,MapKept.run_getObj_map hb,MapKept.run_checkKey hd hkey,MapKept.run_findKey hd ha,hz1,Result.andThen]
   split at h
   ·rename_i j w hf
    injection h with h
    subst h
    obtain ⟨w',g1,g2,_⟩:=findK_sound hok hk es es'.toList 0 _ (by simpa using hs) hr hf
    exact ⟨_,run _ g1,pair g2⟩
   ·rename_i hf
    injection h with h
    subst h
    have g1:=findK_sound hok hk es es'.toList 0 _ (by simpa using hs) hr hf
    exact ⟨_,run _ g1,pair hz2⟩
   ·cases h
  ·cases h
 ·cases h

def setB (w:World) (b:Nat) (o:Obj):World:={ w with heap:=w.heap.setIfInBounds b o }
theorem Ext.reobj {b:Nat} (hp:∀ i,¬ S.pub b i) (o:Obj):Ext S { S with w:=setB S.w b o }:=by
 refine ⟨⟨fun _ _ h=>h,fun b' i h=>⟨h,?_⟩,fun _ e b hw sz h=>⟨e,b,hw,sz,h,Nat.le_refl _,fun _=>⟨rfl,rfl,rfl⟩⟩⟩,rfl,fun _ _ h _=>h⟩
 have hne:b ≠ b':=by rintro rfl;exact hp i h
 show World.cell? (setB S.w b o) _=_
 unfold World.cell? setB
 simp only
 rw [Array.getElem?_setIfInBounds_ne hne]
theorem Inv.reobj (hI : Inv W0 S H) {o b : Nat} {x y : AObj} {ob ob' : Obj} (ho : H[o]? = some x) (hx : x ≠ .dead) (hb : S.phi o = some b) (hB : W0.heap.size ≤ b) (hc : S.w.heap[b]? = some ob) (hp : ∀ i, ¬ S.pub b i)
    (hy:ORel { S with w:=setB S.w b ob' } W0.heap.size o y):Inv W0 { S with w:=setB S.w b ob' } (H.set o y):=by
 have hext:=Ext.reobj hp ob'
 have holt:=lt_of_get ho
 have hdead:∀ n:Nat,(H.set o y)[n]? ≠ some AObj.dead→H[n]? ≠ some AObj.dead:=fun n h=>by
  by_cases e:o=n
  ·subst e;rw [ho];simpa using hx
  ·rwa [List.getElem?_set_ne e] at h
 have hsz:(setB S.w b ob').heap.size=S.w.heap.size:=by simp [setB]
 have hother:∀ b',b' ≠ b→(setB S.w b ob').heap[b']?=S.w.heap[b']?:=fun b' h=>by simp [setB,Array.getElem?_setIfInBounds_ne (Ne.symm h)]
 refine ⟨hI.below.trans ⟨rfl,rfl,rfl,by rw [hsz];exact Nat.le_refl _,fun k hk=>hother k (by omega)⟩,fun n z h=>?_,fun n hn=>hI.past n (by simpa using hn),fun o1 o2 b h1 h2 hd1 hd2=>hI.inj o1 o2 b h1 h2 (hdead _ hd1) (hdead _ hd2),hI.tinj,hI.apart,
  fun b' i h=>by rw [hsz];exact hI.puball b' i h,fun n b' h=>by rw [hsz];exact hI.dom n b' h,fun t e b' hw sz h=>by rw [hsz];exact hI.tdom t e b' hw sz h,hI.lim⟩
 by_cases e:o=n
 ·subst e
  simp [holt] at h
  subst h
  exact hy
 ·rw [List.getElem?_set_ne e] at h
  cases z with
  | dead=>trivial
  | _ =>
   refine (hI.objs n _ h).frame hext (fun b' hb' hlt=>⟨hother _ ?_,fun i hp=>hp⟩) rfl rfl
   rintro rfl
   rcases hb' with hb' | ⟨e',hw,sz,ht⟩
   ·exact e (hI.inj o n b' hb hb' (by rw [ho];simpa using hx) (by rw [h];simp))
   ·exact hI.apart n e' b' hw sz o ht hb
theorem amapSet_sound {t e : TypeId} {d : TypeDesc} {m k v r : AV} {um uk uv : Value} {H' : Hp} (hI : Inv W0 S H) (ht : mapT P t = some (d, e)) (hm : VRel S m um) (hk : VRel S k uk) (hv : VRel S v uv)
    (h:amapSet d m k v H=some (r,H')):r=.tuple []∧∃ S',(Instr.mapUpdate t um uk uv).run P S.w=.ok () S'.w∧Ext S S'∧Inv W0 S' H':=by
 obtain ⟨kt,hu,hd⟩:=mapT_of ht
 unfold amapSet at h
 split at h
 ·rename_i o
  split at h
  ·rename_i es c ho
   split at h
   ·rename_i hok
    have hkey:=keyOk_is hok hk
    cases hm with | map _ b hb =>
    obtain ⟨b',es',h1,h2,h3,h4,h5,h6⟩:=hI.objs o _ ho
    rw [hb] at h1
    injection h1 with h1
    subst h1
    have hr:∀ (j:Nat) (y:AV × AV × Nat) (e:MapEntry),es[j]?=some y→es'.toList[j]?=some e→ERel S y e:=fun j y e hy he=>by
     obtain ⟨k,v,n⟩:=y
     exact h6 j k v n e hy (by simpa using he)
    split at h
    ·rename_i i w hf
     simp only [Option.some.injEq,Prod.mk.injEq] at h
     obtain ⟨rfl,rfl⟩:=h
     obtain ⟨w',g1,g2,_,g4,x,en,g5,g6,g7⟩:=findK_sound hok hk es es'.toList 0 _ (by simpa using h4) hr hf
     simp only [Nat.zero_add,Nat.sub_zero] at g4 g5 g6
     have hen:es'[i]?=some en:=by simpa using g6
     refine ⟨rfl,{ S with w:=setB S.w b (.map (es'.modify i fun e=>{ e with key:=uk,val:=uv }) c) },?_,Ext.reobj h5 _,?_⟩
     ·simp [Instr.mapUpdate,run_underlying hu,MapKept.run_getObj_map h3,MapKept.run_checkKey hd hkey,MapKept.run_findKey hd g1,hen,g7,MapKept.run_keyThatStays hkey,MapKept.run_setObj_map _ h3,Result.andThen,setB]
     ·have hext:=Ext.reobj h5 (Obj.map (es'.modify i fun e=>{ e with key:=uk,val:=uv }) c)
      have hlt:b < S.w.heap.size:=hI.dom o b hb
      refine hI.reobj ho (by simp) hb h2 h3 h5 ⟨b,_,hb,h2,by simp only [setB];rw [Array.getElem?_setIfInBounds_self_of_lt hlt],by simp [h4],h5,fun j k1 v1 n1 e1 hj he1=>?_⟩
      by_cases hij:i=j
      ·subst hij
       simp [g4] at hj
       obtain ⟨rfl,rfl,rfl⟩:=hj
       rw [Array.getElem?_modify,if_pos rfl,hen] at he1
       simp at he1
       subst he1
       have hx:es[i]=x:=by
        have:=g5
        rw [List.getElem?_eq_getElem g4] at this
        injection this
       refine ⟨hk.mono hext,hv.mono hext,?_⟩
       have:=(hr i x en g5 g6).2.2
       simp [hx,this]
      ·rw [List.getElem?_set_ne hij] at hj
       rw [Array.getElem?_modify,if_neg hij] at he1
       obtain ⟨q1,q2,q3⟩:=h6 j k1 v1 n1 e1 hj he1
       exact ⟨q1.mono hext,q2.mono hext,q3⟩
    ·rename_i hf
     simp only [Option.some.injEq,Prod.mk.injEq] at h
     obtain ⟨rfl,rfl⟩:=h
     have g1:=findK_sound hok hk es es'.toList 0 _ (by simpa using h4) hr hf
     simp only at g1
     refine ⟨rfl,{ S with w:=setB S.w b (.map (es'.push { key:=uk,val:=uv,born:=c }) (c+1)) },?_,Ext.reobj h5 _,?_⟩
     ·simp [Instr.mapUpdate,run_underlying hu,MapKept.run_getObj_map h3,MapKept.run_checkKey hd hkey,MapKept.run_findKey hd g1,MapKept.run_setObj_map _ h3,Result.andThen,setB]
     ·have hext:=Ext.reobj h5 (Obj.map (es'.push { key:=uk,val:=uv,born:=c }) (c+1))
      have hlt:b < S.w.heap.size:=hI.dom o b hb
      refine hI.reobj ho (by simp) hb h2 h3 h5 ⟨b,_,hb,h2,by simp only [setB];rw [Array.getElem?_setIfInBounds_self_of_lt hlt],by simp [h4],h5,fun j k1 v1 n1 e1 hj he1=>?_⟩
      by_cases hj2:j < es.length
      ·rw [List.getElem?_append_left hj2] at hj
       rw [Array.getElem?_push_lt (by omega)] at he1
       have he2:es'[j]?=some e1:=by rw [Array.getElem?_eq_getElem (by omega)];exact he1
       obtain ⟨q1,q2,q3⟩:=h6 j k1 v1 n1 e1 hj he2
       exact ⟨q1.mono hext,q2.mono hext,q3⟩
      ·have:=lt_of_get hj
       simp at this
       have hje:j=es.length:=by omega
       subst hje
       simp at hj
       obtain ⟨rfl,rfl,rfl⟩:=hj
       rw [← h4] at he1
       simp at he1
       subst he1
       exact ⟨hk.mono hext,hv.mono hext,rfl⟩
    ·cases h
   ·cases h
  ·cases h
 ·cases h
theorem amapDel_sound {t e xt ty : TypeId} {d : TypeDesc} {m k r : AV} {um uk : Value} {H' : Hp} (hI : Inv W0 S H) (ht : mapT P t = some (d, e)) (hm : VRel S m um) (hk : VRel S k uk)
    (h:amapDel d m k H=some (r,H')):r=.tuple []∧∃ S',(Builtin.delete_ #[t,xt] ty #[um,uk]).run P S.w=.ok (.tuple #[]) S'.w∧Ext S S'∧Inv W0 S' H':=by
 obtain ⟨kt,hu,hd⟩:=mapT_of ht
 unfold amapDel at h
 split at h
 ·rename_i o
  split at h
  ·rename_i es c ho
   split at h
   ·rename_i hok
    have hkey:=keyOk_is hok hk
    cases hm with | map _ b hb =>
    obtain ⟨b',es',h1,h2,h3,h4,h5,h6⟩:=hI.objs o _ ho
    rw [hb] at h1
    injection h1 with h1
    subst h1
    have hr:∀ (j:Nat) (y:AV × AV × Nat) (e:MapEntry),es[j]?=some y→es'.toList[j]?=some e→ERel S y e:=fun j y e hy he=>by
     obtain ⟨k,v,n⟩:=y
     exact h6 j k v n e hy (by simpa using he)
    have hlt:b < S.w.heap.size:=hI.dom o b hb
    split at h
    ·rename_i i w hf
     simp only [Option.some.injEq,Prod.mk.injEq] at h
     obtain ⟨rfl,rfl⟩:=h
     obtain ⟨w',g1,g2,_,g4,_⟩:=findK_sound hok hk es es'.toList 0 _ (by simpa using h4) hr hf
     simp only [Nat.zero_add] at g4
     have his:i < es'.size:=by omega
     have hsub:(es'.eraseIdxIfInBounds i).toList=es'.toList.eraseIdx i:=by
      unfold Array.eraseIdxIfInBounds
      rw [dif_pos his]
      simp
     refine ⟨rfl,{ S with w:=setB S.w b (.map (es'.eraseIdxIfInBounds i) c) },?_,Ext.reobj h5 _,?_⟩
     ·simp [Builtin.delete_,run_underlying hu,MapKept.run_getObj_map h3,MapKept.run_checkKey hd hkey,MapKept.run_findKey hd g1,MapKept.run_setObj_map _ h3,Result.andThen,setB]
     ·have hext:=Ext.reobj h5 (Obj.map (es'.eraseIdxIfInBounds i) c)
      refine hI.reobj ho (by simp) hb h2 h3 h5 ⟨b,_,hb,h2,by simp only [setB];rw [Array.getElem?_setIfInBounds_self_of_lt hlt],?_,h5,fun j k1 v1 n1 e1 hj he1=>?_⟩
      ·have:=congrArg List.length hsub
       rw [Array.length_toList,List.length_eraseIdx,Array.length_toList] at this
       rw [List.length_eraseIdx,this,h4]
      ·rw [← Array.getElem?_toList,hsub,List.getElem?_eraseIdx] at he1
       rw [List.getElem?_eraseIdx] at hj
       split at hj
       ·rename_i hji
        rw [if_pos hji] at he1
        obtain ⟨q1,q2,q3⟩:=h6 j k1 v1 n1 e1 hj (by simpa using he1)
        exact ⟨q1.mono hext,q2.mono hext,q3⟩
       ·rename_i hji
        rw [if_neg hji] at he1
        obtain ⟨q1,q2,q3⟩:=h6 (j+1) k1 v1 n1 e1 hj (by simpa using he1)
        exact ⟨q1.mono hext,q2.mono hext,q3⟩
    ·rename_i hf
     simp only [Option.some.injEq,Prod.mk.injEq] at h
     obtain ⟨rfl,rfl⟩:=h
     have g1:=findK_sound hok hk es es'.toList 0 _ (by simpa using h4) hr hf
     simp only at g1
     refine ⟨rfl,{ S with w:=setB S.w b (.map es' c) },?_,Ext.reobj h5 _,?_⟩
     ·simp [Builtin.delete_,run_underlying hu,MapKept.run_getObj_map h3,MapKept.run_checkKey hd hkey,MapKept.run_findKey hd g1,MapKept.run_setObj_map _ h3,Result.andThen,setB]
     ·have hext:=Ext.reobj h5 (Obj.map es' c)
      refine hI.reobj ho (by simp) hb h2 h3 h5 ⟨b,_,hb,h2,by simp only [setB];rw [Array.getElem?_setIfInBounds_self_of_lt hlt],h4,h5,fun j k1 v1 n1 e1 hj he1=>?_⟩
      obtain ⟨q1,q2,q3⟩:=h6 j k1 v1 n1 e1 hj he1
      exact ⟨q1.mono hext,q2.mono hext,q3⟩
    ·cases h
   ·cases h
  ·cases h
 ·cases h
theorem alenM_sound {t e : TypeId} {d : TypeDesc} {x r : AV} {u : Value} (hI : Inv W0 S H) (ht : mapT P t = some (d, e)) (hx : VRel S x u) (h : alenM x H = some r) (ty : TypeId) :
    ∃ v',(Builtin.len_ #[t] ty #[u]).run P S.w=.ok v' S.w∧VRel S r v':=by
 obtain ⟨kt,hu,hd⟩:=mapT_of ht
 unfold alenM at h
 split at h
 ·rename_i es hes
  injection h with h
  subst h
  obtain ⟨es',h1,_,h3⟩:=entries_sound hI hx hes
  rcases h3 with ⟨rfl,rfl⟩ | ⟨b,c,rfl,hb⟩
  ·have:es.length=0:=by rw [← h1];rfl
   rw [this]
   exact ⟨goInt 0,by simp [Builtin.len_,run_underlying hu],.int _ _⟩
  ·rw [← h1]
   exact ⟨goInt es'.size,by simp [Builtin.len_,run_underlying hu,MapKept.run_getObj_map hb,Result.andThen],.int _ _⟩
 ·cases h
theorem newMap_at {n:Nat} (t:TypeId) (hI:Inv W0 S H) (hn:H[n]?=some .free):(Instr.makeMap t none).run P S.w=.ok (.map (some S.w.heap.size)) (S.obj n (.map #[] 0)).w∧Ext S (S.obj n (.map #[] 0))∧Inv W0 (S.obj n (.map #[] 0)) (H.set n (.map [] 0))∧VRel (S.obj n (.map #[] 0)) (.map n) (.map (some S.w.heap.size)):=by
 have hfree:=hI.objs n _ hn
 have hext:=Ext.objAt hI hfree.1 (.map #[] 0)
 have hlt:n < H.length:=lt_of_get hn
 refine ⟨by simp [Instr.makeMap];rfl,hext,hI.objAt hfree.1 (x:=.map [] 0) (by simp [hlt]) (fun m hm=>by rw [List.getElem?_set_ne (Ne.symm hm)]) (by simp) ⟨S.w.heap.size,#[],obj_phi_new S _ _,hI.size,obj_heap S _ _,rfl,fun i hp=>?_,by simp⟩,.map _ _ (obj_phi_new S _ _)⟩
 exact absurd (hI.puball _ i hp) (Nat.lt_irrefl _)
theorem makeMap_sound (t:TypeId) (hI:Inv W0 S H):(Instr.makeMap t none).run P S.w=.ok (.map (some S.w.heap.size)) (S.obj H.length (.map #[] 0)).w∧Inv W0 (S.obj H.length (.map #[] 0)) (H++[.map [] 0])∧VRel (S.obj H.length (.map #[] 0)) (.map H.length) (.map (some S.w.heap.size)):=by
 refine ⟨by simp [Instr.makeMap];rfl,hI.obj ⟨S.w.heap.size,#[],obj_phi_new S _ _,hI.size,obj_heap S _ _,rfl,fun i hp=>?_,by simp⟩,.map _ _ (obj_phi_new S _ _)⟩
 exact absurd (hI.puball _ i hp) (Nat.lt_irrefl _)
end
end Go.Am
