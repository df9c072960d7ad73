/-
  THE ABSTRACT MACHINE, part Be: strings.Builder as an object of bytes: what its methods do to it.
-/
import Derived.Test.YtnaneekpogohaaaGreatDoorHmBdx
namespace Go.Am
open RowKit

section
variable {S:Snap} {W0:World} {H:Hp}

theorem Inv.bldStep (hI : Inv W0 S H) {o b : Nat} {T u : TypeId} {l l' : List UInt8} (ho : H[o]? = some (.bld T u l)) (hb : S.phi o = some b) {w' : World} (hnew : Lib.IsBuilderF T u W0.heap.size b (Lib.byteCells l') w')
    (hbel:Below W0.heap.size S.w w') (hk:Kept b S.w w'):∃ S',S'.w=w'∧Ext S S'∧Inv W0 S' (H.set o (.bld T u l')):=by
 obtain ⟨b',h1,h2,h3,h4,h5⟩:=hI.objs o _ ho
 rw [hb] at h1
 injection h1 with h1
 subst h1
 have holt:o < H.length:=lt_of_get ho
 obtain ⟨v,hv⟩:∃ v,S.w.cell? ⟨b,1,none⟩=some v:=by
  rcases h2 with ⟨_,v,h,_⟩ | ⟨_,v,h,_⟩ <;> exact ⟨v,by rw [Lib.cell_of_heap h];rfl⟩
 obtain ⟨v',hv'⟩:∃ v,w'.cell? ⟨b,1,none⟩=some v:=by
  rcases hnew with ⟨_,v,h,_⟩ | ⟨_,v,h,_⟩ <;> exact ⟨v,by rw [Lib.cell_of_heap h];rfl⟩
 have hbB:W0.heap.size≤b:=hnew.elim (fun h=>h.1) fun h=>h.1
 have hstay:∀ k,k < S.w.heap.size→k ≠ b→(∀ e hw sz,S.tk o ≠ some (e,k,hw,sz))→w'.heap[k]?=S.w.heap[k]?:=fun k hk1 hk2 hk3=>hk.old k hk1 hk2 fun x hx hg=>by
  obtain ⟨⟨n,hw,sz,q⟩,_⟩:=h5 x k hx hg
  exact hk3 _ _ _ q
 have hpubk:∀ k i,S.pub k i→w'.heap[k]?=S.w.heap[k]?:=fun k i hp=>hk.old k (hI.puball k i hp) (fun e=>h4 i (e ▸ hp)) fun x hx hg=>(h5 x k hx hg).2 i hp
 have hdead:∀ n:Nat,(H.set o (.bld T u l'))[n]? ≠ some AObj.dead→H[n]? ≠ some AObj.dead:=fun n h=>by
  by_cases e:o=n
  ·subst e;rw [ho];simp
  ·rwa [List.getElem?_set_ne e] at h
 -- the token of the row
 obtain ⟨tk', ht1, ht2, ht3, ht4⟩ : ∃ tk' : Nat → Option (Nat × Nat × Nat × Nat), (∀ t, t ≠ o → tk' t = S.tk t) ∧
     (tk' o=S.tk o ∨ ∃ n g,tk' o=some (n,g,0,0)∧S.w.heap.size≤g∧g < w'.heap.size∧∀ e b hw sz,S.tk o=some (e,b,hw,sz)→e < n) ∧
     (∀ g,v'.ownBlock=some g→∃ n hw sz,tk' o=some (n,g,hw,sz))∧∀ g,v'.ownBlock=some g→∀ i,¬ S.pub g i:=by
  cases hg:v'.ownBlock with
  | none=>exact ⟨S.tk,fun _ _=>rfl,.inl rfl,fun g h=>(by cases h),fun g h=>(by cases h)⟩
  | some g =>
   rcases hk.row v v' g hv hv' hg with h | h
   ·obtain ⟨⟨n,hw,sz,q⟩,q2⟩:=h5 v g hv h
    exact ⟨S.tk,fun _ _=>rfl,.inl rfl,fun g' e=>by injection e with e;subst e;exact ⟨n,hw,sz,q⟩,fun g' e=>by injection e with e;subst e;exact q2⟩
   ·refine ⟨fun t => if t = o then some ((match S.tk o with | some (n, _) => n + 1 | none => 0), g, 0, 0) else S.tk t, fun t ht => if_neg ht, .inr ⟨_, g, if_pos rfl, h, hnew.own_lt hv' hg, fun e b hw sz q => by rw [q]; exact Nat.lt_succ_self _⟩,
       fun g' e=>by injection e with e;subst e;exact ⟨_,0,0,if_pos rfl⟩,fun g' e i hp=>by injection e with e;subst e;have:=hI.puball _ _ hp;omega⟩
 have htk:∀ t e b hw sz,S.tk t=some (e,b,hw,sz)→∃ e' b' hw' sz',tk' t=some (e',b',hw',sz')∧e≤e'∧(e'=e→b'=b∧hw'=hw∧sz'=sz):=fun t e b1 hw sz h=>by
  by_cases hto:t=o
  ·subst hto
   rcases ht2 with h' | ⟨n,g,h1,h2,h3,h4⟩
   ·exact ⟨e,b1,hw,sz,h'.trans h,Nat.le_refl _,fun _=>⟨rfl,rfl,rfl⟩⟩
   ·have:=h4 _ _ _ _ h
    exact ⟨n,g,0,0,h1,by omega,fun h=>by omega⟩
  ·exact ⟨e,b1,hw,sz,(ht1 t hto).trans h,Nat.le_refl _,fun _=>⟨rfl,rfl,rfl⟩⟩
 let S':Snap:={ w:=w',phi:=S.phi,pub:=S.pub,tk:=tk',lim:=S.lim }
 have hx:Ext S S':=⟨⟨fun _ _ h=>h,fun k i h=>⟨h,by show w'.cell? _=_;unfold World.cell?;rw [hpubk k i h]⟩,htk⟩,rfl,fun _ _ h _=>h⟩
 have htd:∀ t e b1 hw sz,tk' t=some (e,b1,hw,sz)→(∃ e0 hw0 sz0,S.tk t=some (e0,b1,hw0,sz0)) ∨ (t=o∧S.w.heap.size≤b1∧b1 < w'.heap.size):=fun t e b1 hw sz h=>by
  by_cases hto:t=o
  ·subst hto
   rcases ht2 with h' | ⟨n,g,q1,q2,q3,q4⟩
   ·exact .inl ⟨e,hw,sz,h'.symm.trans h⟩
   ·rw [q1] at h
    simp only [Option.some.injEq,Prod.mk.injEq] at h
    exact .inr ⟨rfl,by omega,by omega⟩
  ·exact .inl ⟨e,hw,sz,(ht1 t hto).symm.trans h⟩
 refine ⟨S',rfl,hx,⟨hI.below.trans hbel,fun n z h=>?_,fun n hn=>?_,fun o1 o2 b1 g1 g2 hd1 hd2=>hI.inj o1 o2 b1 g1 g2 (hdead _ hd1) (hdead _ hd2),fun t t' e b1 hw sz e2 hw2 sz2 g1 g2=>?_,fun t e b1 hw sz x h=>?_,fun k i h=>?_,fun x b1 h=>?_,fun t e b1 hw sz h=>?_,hI.lim⟩⟩
 ·by_cases e:o=n
  ·subst e
   simp [holt] at h
   subst h
   refine ⟨b,hb,hnew,h3,h4,fun x g hx hg=>?_⟩
   have:x=v':=by
    have hx':w'.cell? ⟨b,1,none⟩=some x:=hx
    rw [hv'] at hx'
    injection hx' with hx'
    exact hx'.symm
   subst this
   exact ⟨ht3 g hg,ht4 g hg⟩
  ·rw [List.getElem?_set_ne e] at h
   cases z with
   | dead=>trivial
   | _ =>
    refine (hI.objs n _ h).frame hx (fun k hk' hlt=>⟨hstay k hlt ?_ ?_,fun i hp=>hp⟩) (ht1 n (Ne.symm e)) rfl
    ·rintro rfl
     rcases hk' with hk' | ⟨e',hw,sz,ht⟩
     ·exact e (hI.inj o n k hb hk' (by rw [ho];simp) (by rw [h];simp))
     ·exact hI.apart n e' k hw sz o ht hb
    ·intro e1 hw1 sz1 hto
     rcases hk' with hk' | ⟨e',hw,sz,ht⟩
     ·exact hI.apart o e1 k hw1 sz1 n hto hk'
     ·exact e (hI.tinj _ _ _ _ _ _ _ _ _ hto ht)
 ·have hn':H.length≤n:=by simpa using hn
  obtain ⟨p,q⟩:=hI.past n hn'
  exact ⟨p,(ht1 n (by omega)).trans q⟩
 ·rcases htd _ _ _ _ _ g1 with ⟨_,_,_,q1⟩ | ⟨r1,r2,_⟩
  ·rcases htd _ _ _ _ _ g2 with ⟨_,_,_,q2⟩ | ⟨r1,r2,_⟩
   ·exact hI.tinj _ _ _ _ _ _ _ _ _ q1 q2
   ·have:=hI.tdom _ _ _ _ _ q1;omega
  ·rcases htd _ _ _ _ _ g2 with ⟨_,_,_,q2⟩ | ⟨r3,r4,_⟩
   ·have:=hI.tdom _ _ _ _ _ q2;omega
   ·rw [r1,r3]
 ·rcases htd _ _ _ _ _ h with ⟨_,_,_,q1⟩ | ⟨r1,r2,_⟩
  ·exact hI.apart _ _ _ _ _ x q1
  ·intro hp
   have:=hI.dom x b1 hp
   omega
 ·exact Nat.lt_of_lt_of_le (hI.puball k i h) hbel.size
 ·exact Nat.lt_of_lt_of_le (hI.dom x b1 h) hbel.size
 ·rcases htd _ _ _ _ _ h with ⟨_,_,_,q1⟩ | ⟨r1,r2,r3⟩
  ·exact Nat.lt_of_lt_of_le (hI.tdom _ _ _ _ _ q1) hbel.size
  ·exact r3

def maxB:Nat:=140737488355328
def bldF (T u:TypeId) (f:List UInt8→Option (AV × List UInt8)):AObj→Option (AV × AObj)
 | .bld T' u' l=>if T'=T∧u'=u then (match f l with | some (v,l')=>some (v,.bld T u l') | none=>none) else none
 | _=>none
def bldRun (T u:TypeId) (f:List AV→Option (List UInt8→Option (AV × List UInt8))) (args:List AV) (H:Hp):Option (AV × Hp) :=
 match args with
 | .ptr o 0 :: rest=>match f rest with
  | some g=>match H[o]? with
   | some z=>match bldF T u g z with
    | some (v,y)=>some (v,H.set o y)
    | none=>none
   | none=>none
  | none=>none
 | _=>none
theorem bldRun_fr (T u:TypeId) (f:List AV→Option (List UInt8→Option (AV × List UInt8))) (args:List AV):Frm (bldRun T u f args):=by
 unfold bldRun
 split
 ·rename_i o rest
  cases f rest with
  | none=>exact fr_none
  | some g =>
   refine fr_congr (fr_write o (bldF T u g) rfl (fun z v y h=>?_)) fun H=>?_
   ·unfold bldF at h
    split at h
    ·split at h
     ·split at h
      ·injection h with h
       injection h with h1 h2
       subst h2
       simp
      ·cases h
     ·cases h
    ·cases h
   ·dsimp only
    rcases H[o]? with _ | z
    ·rfl
    ·dsimp only
     cases bldF T u g z <;> rfl
 ·exact fr_none
def bldE (T u:TypeId) (f:List AV→Option (List UInt8→Option (AV × List UInt8))):EffFn:=⟨bldRun T u f,bldRun_fr T u f⟩

def byteM:List AV→Option (List UInt8→Option (AV × List UInt8))
 | [.int .u8 c]=>if 0≤c∧c < 256 then some fun l=>if l.length+1≤maxB then some (.nili,l++[UInt8.ofNat c.toNat]) else none else none
 | _=>none
def textM:List AV→Option (List UInt8→Option (AV × List UInt8))
 | [.str s]=>some fun l=>if l.length+s.length≤maxB then some (.tuple [.int .i64 s.length,.nili],l++s) else none
 | _=>none
def stringM:List AV→Option (List UInt8→Option (AV × List UInt8))
 | []=>some fun l=>some (.str l,l)
 | _=>none
def bByte (T u:TypeId):EffFn:=bldE T u byteM
def bText (T u:TypeId):EffFn:=bldE T u textM
def bString (T u:TypeId):EffFn:=bldE T u stringM
theorem bldRun_some {T u : TypeId} {f : List AV → Option (List UInt8 → Option (AV × List UInt8))} {args : List AV} {H' : Hp} {v : AV} (h : bldRun T u f args H = some (v, H')) :
    ∃ o rest g l l',args=.ptr o 0 :: rest∧f rest=some g∧H[o]?=some (.bld T u l)∧g l=some (v,l')∧H'=H.set o (.bld T u l'):=by
 unfold bldRun at h
 split at h
 ·rename_i o rest
  split at h
  ·rename_i g hg
   split at h
   ·rename_i z hz
    split at h
    ·rename_i v1 y hf
     simp only [Option.some.injEq,Prod.mk.injEq] at h
     obtain ⟨rfl,rfl⟩:=h
     unfold bldF at hf
     split at hf
     ·rename_i T' u' l
      split at hf
      ·rename_i hc
       obtain ⟨rfl,rfl⟩:=hc
       split at hf
       ·rename_i v2 l' hl
        simp only [Option.some.injEq,Prod.mk.injEq] at hf
        obtain ⟨rfl,rfl⟩:=hf
        exact ⟨o,rest,g,l,l',rfl,hg,hz,hl,rfl⟩
       ·cases hf
      ·cases hf
     ·cases hf
    ·cases h
   ·cases h
  ·cases h
 ·cases h
end

def MethodOk (P:Program) (T u:TypeId) (id:FuncId) (f:List AV→Option (List UInt8→Option (AV × List UInt8))):Prop :=
 ∀ (B b:Nat) (rest:List AV) (rest':Array Value) (g:List UInt8→Option (AV × List UInt8)) (l l':List UInt8) (v:AV) (w:World),f rest=some g→g l=some (v,l')→rest'.size=rest.length →
  (∀ (S:Snap),S.w=w→(∀ (i:Nat) (a:AV) (x:Value),rest[i]?=some a→rest'[i]?=some x→VRel S a x)→Lib.IsBuilderF T u B b (Lib.byteCells l) w→B≤w.heap.size →
   Calls P id (#[.pointer (some ⟨b,0,none⟩)]++rest') w fun e w'=>∃ v',e=.returned v'∧(∀ S':Snap,VRel S' v v')∧Lib.IsBuilderF T u B b (Lib.byteCells l') w'∧Below B w w'∧Kept b w w')
theorem bldE_ok {C:Cfg} {T u:TypeId} {id:FuncId} {f:List AV→Option (List UInt8→Option (AV × List UInt8))} (h:MethodOk C.P T u id f):EffOk C id (bldE T u f):=by
 intro W0 S H H' args args' v hI hW hs ha hr
 obtain ⟨o,rest,g,l,l',rfl,hf,ho,hl,rfl⟩:=bldRun_some hr
 obtain ⟨b',h1,h2,h3,h4,h5⟩:=hI.objs o _ ho
 obtain ⟨al⟩:=args'
 match al,hs with
 | p :: al,hs =>
  have hp:=ha 0 _ p rfl rfl
  cases hp with | ptr _ _ b hb =>
  rw [hb] at h1
  injection h1 with h1
  subst h1
  have hc:=h W0.heap.size b rest ⟨al⟩ g l l' v S.w hf hl (by simpa using hs) S rfl (fun i a x h1 h2=>ha (i+1) a x (by simpa using h1) (by simpa using h2)) h2 hI.size
  have hargs:(#[.pointer (some ⟨b,0,none⟩)]++⟨al⟩:Array Value)=⟨.pointer (some ⟨b,0,none⟩) :: al⟩:=by simp
  rw [hargs] at hc
  refine hc.mono ?_
  rintro e w' ⟨v',rfl,q1,q2,q3,q4⟩
  obtain ⟨S',r1,r2,r3⟩:=hI.bldStep ho hb q2 q3 q4
  exact ⟨v',S',rfl,r1,r2,r3,q1 S'⟩
end Go.Am

namespace Go.Am
open Go.Shelf Go.RowKit Go.Proofs
variable {P:Program} {ρ:Ren}
theorem byte_method (L:Lays.n167 P ρ) (X:Builder.Extra P ρ):MethodOk P (ρ.t 72) (ρ.t 5) (ρ.f 167) byteM:=by
 intro B b rest rest' g l l' v w hf hl hs S hw ha hB hBw
 unfold byteM at hf
 split at hf
 ·rename_i c
  split at hf
  ·rename_i hc
   injection hf with hf
   subst hf
   simp only at hl
   split at hl
   ·rename_i hlen
    simp only [Option.some.injEq,Prod.mk.injEq] at hl
    obtain ⟨rfl,rfl⟩:=hl
    obtain ⟨al⟩:=rest'
    match al,hs with
    | [x],_ =>
     have hx:=ha 0 _ x rfl rfl
     cases hx
     have:=bd_byte L X B b (Lib.byteCells l) c w hB (by rw [Lib.byteCells_length];exact hlen) hBw
     refine this.mono ?_
     rintro e w' ⟨rfl,q1,q2,q3⟩
     refine ⟨_,rfl,fun S'=>.nili,.inr ?_,q2,q3⟩
     rw [Lib.byteCells_append]
     have:Lib.byteCells [UInt8.ofNat c.toNat]=[Value.int .u8 c]:=by
      simp only [Lib.byteCells,List.map_cons,List.map_nil]
      congr 2
      simp
      omega
     rw [this]
     exact q1
   ·cases hl
  ·cases hf
 ·cases hf
theorem text_method (L:Lays.n166 P ρ) (X:Builder.Extra P ρ):MethodOk P (ρ.t 72) (ρ.t 5) (ρ.f 166) textM:=by
 intro B b rest rest' g l l' v w hf hl hs S hw ha hB hBw
 unfold textM at hf
 split at hf
 ·rename_i s
  injection hf with hf
  subst hf
  simp only at hl
  split at hl
  ·rename_i hlen
   simp only [Option.some.injEq,Prod.mk.injEq] at hl
   obtain ⟨rfl,rfl⟩:=hl
   obtain ⟨al⟩:=rest'
   match al,hs with
   | [x],_ =>
    have hx:=ha 0 _ x rfl rfl
    cases hx with | str _ sb hsb =>
    have hsz:sb.size=s.length:=by rw [← hsb,Array.length_toList];rfl
    have:=bd_text L X B b (Lib.byteCells l) sb w hB (by rw [Lib.byteCells_length,hsz];exact hlen) hBw
    refine this.mono ?_
    rintro e w' ⟨rfl,q1,q2,q3⟩
    refine ⟨_,rfl,fun S'=>.tuple _ _ rfl fun i c v hi hv=>?_,.inr ?_,q2,q3⟩
    ·match i with
     | 0=>simp at hi hv;subst hi hv;rw [hsz];exact .int _ _
     | 1=>simp at hi hv;subst hi hv;exact .nili
     | i+2=>simp at hi
    ·rw [Lib.byteCells_append,← hsb,← Lib.strCells_eq]
     exact q1
  ·cases hl
 ·cases hf
theorem string_method (L:Lays.n169 P ρ) (X:Builder.Extra P ρ):MethodOk P (ρ.t 72) (ρ.t 5) (ρ.f 169) stringM:=by
 intro B b rest rest' g l l' v w hf hl hs S hw ha hB hBw
 unfold stringM at hf
 split at hf
 ·injection hf with hf
  subst hf
  simp only [Option.some.injEq,Prod.mk.injEq] at hl
  obtain ⟨rfl,rfl⟩:=hl
  obtain ⟨al⟩:=rest'
  match al,hs with
  | [],_ =>
   refine (bd_string L X B b l w hB hBw).mono ?_
   rintro e w' ⟨rfl,q1,q2,q3⟩
   exact ⟨_,rfl,fun S'=>.str _ _ (by simp),q1,q2,q3⟩
 ·cases hf
end Go.Am
