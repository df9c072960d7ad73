/-
  THE ABSTRACT MACHINE, part F: addresses, indexes, slice expressions, lengths, conversions.
-/
import Derived.Test.YtgglgbfolgcaiaaGreatDoorHmEx
namespace Go.Am
open RowKit

section
variable {P:Program} {S:Snap} {W0:World} {H:Hp}

theorem add_spot (b off n:Nat):(⟨b,off,none⟩:Addr).add n=⟨b,off+n,none⟩:=by
 unfold Addr.add;split <;> simp_all

theorem VRel.drop {cells:List AV} {b o:Nat} (h:VRel S (.vp cells) (.pointer (some ⟨b,o,none⟩))) (n:Nat):VRel S (.vp (cells.drop n)) (.pointer (some ⟨b,o+n,none⟩)):=by
 cases h with | vp _ _ _ f h0 h1 h2 =>
 refine .vp _ b (o+n) (fun i=>f (n+i)) (by rw [List.all_eq_true] at h0 ⊢;exact fun x hx=>h0 x (List.mem_of_mem_drop hx)) (fun i hi=>?_) (fun i c hc=>?_)
 ·have:=h1 (n+i) (by simp at hi;omega)
  rwa [← Nat.add_assoc] at this
 ·rw [List.getElem?_drop] at hc
  exact h2 (n+i) c hc

theorem afield_sound {x r:AV} {u:Value} {n:Nat} (hx:VRel S x u) (h:afield n x=some r):∃ b o,u=.pointer (some ⟨b,o,none⟩)∧VRel S r (.pointer (some ⟨b,o+n,none⟩)):=by
 unfold afield at h
 split at h
 ·cases hx with | ptr _ _ b hb =>
  injection h with h;subst h
  exact ⟨b,_,rfl,.ptr _ _ b hb⟩
 ·cases hx with | wp _ _ _ b hb =>
  injection h with h;subst h
  exact ⟨b,_,rfl,.wp _ _ _ b hb⟩
 ·split at h
  ·injection h with h;subst h
   cases hx with | vp _ b off f h0 h1 h2 =>
   exact ⟨b,off,rfl,(VRel.vp _ b off f h0 h1 h2).drop n⟩
  ·cases h
 ·cases h

theorem run_fieldAt {t : TypeId} {f : Nat} {fd : Field} {sz b o : Nat} (hf : fieldT P t f = some fd) (hs : szT P fd.type = some sz) (h0 : 0 < sz) (w : World) :
    (Instr.fieldAt t (.pointer (some ⟨b,o,none⟩)) f).run P w=.ok (.pointer (some ⟨b,o+fd.offset,none⟩)) w:=by
 unfold fieldT at hf
 cases hu:P.underlying t with
 | none=>simp [hu] at hf
 | some d =>
  cases d with
  | struct fs =>
   simp only [hu] at hf
   have h1:sz ≠ 0:=by omega
   simp [Instr.fieldAt,run_underlying hu,hf,Instr.sureAddr,fieldPlace,run_szT hs,h1,add_spot]
  | _=>simp [hu] at hf

theorem run_field {t : TypeId} {f : Nat} {fd : Field} {cs : Array Value} (hf : fieldT P t f = some fd) (w : World) :
    (Instr.field t (.agg cs) f).run P w=(part fd.type cs fd.offset).run P w:=by
 unfold fieldT at hf
 cases hu:P.underlying t with
 | none=>simp [hu] at hf
 | some d =>
  cases d with
  | struct fs =>
   simp only [hu] at hf
   simp [Instr.field,run_underlying hu,hf,asAgg]
  | _=>simp [hu] at hf

theorem aindexS_sound {t e : TypeId} {size : Nat} {x i r : AV} {u v : Value} (hu : P.underlying t = some (.slice e)) (hs : szT P e = some size) (hx : VRel S x u) (hi : VRel S i v)
    (h:aindexS size x i=some r):∃ v',(Instr.indexAt t u v).run P S.w=.ok v' S.w∧VRel S r v':=by
 unfold aindexS at h
 split at h
 ·rename_i k tok l kd n
  split at h
  ·rename_i hc
   obtain ⟨rfl,h0⟩:=hc
   split at h
   ·rename_i el hel
    injection h with h;subst h
    cases hi with | int _ _ =>
    cases hx with | vs _ _ _ b off cap f hcap hk h1 h2 ht sp hsp =>
    have hlt:n.toNat < l.length:=by
     rcases Nat.lt_or_ge n.toNat l.length with h' | h'
     ·exact h'
     ·rw [List.getElem?_eq_none h'] at hel;cases hel
    obtain rfl:sp=none:=hsp.resolve_right (by omega)
    obtain ⟨hkel,hcel⟩:=hk el (List.mem_of_getElem? hel)
    refine ⟨.pointer (some ⟨b,off+n.toNat * k,none⟩),?_,?_⟩
    ·have hh:0≤n∧n < (l.length:Int):=⟨h0,by omega⟩
     simp [Instr.indexAt,asIntOf,run_underlying hu,hh,run_szT hs,add_spot]
    ·refine .vp _ b _ (fun i=>f n.toNat i) hcel (fun i hi=>?_) (fun i c hc=>h2 n.toNat el i c hel hc)
     exact h1 n.toNat i hlt (by omega)
   ·cases h
  ·cases h
 ·rename_i ag k o off len cap kd n
  split at h
  ·rename_i hc
   injection h with h;subst h
   cases hi with | int _ _ =>
   cases hx with | rs _ _ _ _ _ _ b hb hlen =>
   refine ⟨.pointer (some ⟨b,off+n.toNat * size,none⟩),?_,.ptr _ _ _ hb⟩
   simp [Instr.indexAt,asIntOf,run_underlying hu,hc,run_szT hs,add_spot]
  ·cases h
 ·rename_i ag k o e' len kd n
  split at h
  ·rename_i hc
   injection h with h;subst h
   cases hi with | int _ _ =>
   cases hx with | ws _ _ _ _ _ cap b hb hlen =>
   obtain ⟨e0,b0,hw0,sz0,q1,q2,q3⟩:=hb
   refine ⟨.pointer (some ⟨b,n.toNat * size,none⟩),?_,.wp _ _ _ _ ⟨e0,b0,hw0,sz0,q1,q2,fun he=>(q3 he).1⟩⟩
   simp [Instr.indexAt,asIntOf,run_underlying hu,hc,run_szT hs,add_spot]
  ·cases h
 ·cases h

theorem aindexA_sound {t e : TypeId} {len size : Nat} {x i r : AV} {u v : Value} (hu : P.underlying t = some (.array len e)) (hs : szT P e = some size) (hx : VRel S x u) (hi : VRel S i v)
    (h:aindexA len size x i=some r):∃ v',(Instr.indexAt t u v).run P S.w=.ok v' S.w∧VRel S r v':=by
 unfold aindexA at h
 split at h
 ·rename_i kd n
  split at h
  ·rename_i hc
   cases hi with | int _ _ =>
   obtain ⟨b,o,rfl,hr⟩:=afield_sound hx h
   refine ⟨_,?_,hr⟩
   simp [Instr.indexAt,asIntOf,run_underlying hu,Instr.sureAddr,hc,run_szT hs,add_spot]
  ·cases h
 ·cases h

theorem aindexStr_sound {t : TypeId} {x i r : AV} {u v : Value} (hu : P.underlying t = some .string) (hx : VRel S x u) (hi : VRel S i v) (h : aindexStr x i = some r) :
    ∃ v',(Instr.index t u v).run P S.w=.ok v' S.w∧VRel S r v':=by
 unfold aindexStr at h
 split at h
 ·rename_i s kd n
  split at h
  ·rename_i h0
   split at h
   ·rename_i c hc
    injection h with h;subst h
    cases hi with | int _ _ =>
    cases hx with | str _ b hb =>
    subst hb
    have hlt:n.toNat < b.size:=by
     rw [← size_toList]
     rcases Nat.lt_or_ge n.toNat b.data.toList.length with h' | h'
     ·exact h'
     ·rw [List.getElem?_eq_none h'] at hc;cases hc
    have hg:b[n.toNat]=c:=by
     have h2:b.data.toList[n.toNat]?=some b[n.toNat]:=by
      rw [List.getElem?_eq_getElem (by rw [size_toList];exact hlt)];rfl
     rw [h2] at hc;injection hc
    refine ⟨.int .u8 c.toNat,?_,.int _ _⟩
    rw [run_index_string S.w t b kd n hu,dif_pos ⟨h0,by omega⟩,hg]
   ·cases h
  ·cases h
 ·cases h

theorem aindexAgg_sound {t e : TypeId} {g : Bool} {len size : Nat} {x i r : AV} {u v : Value} (hu : P.underlying t = some (.array len e)) (hg : isAggT P e = some g) (hs : szT P e = some size)
    (hx:VRel S x u) (hi:VRel S i v) (h:aindexAgg g len size x i=some r):∃ v',(Instr.index t u v).run P S.w=.ok v' S.w∧VRel S r v':=by
 unfold aindexAgg at h
 split at h
 ·rename_i cs kd n
  split at h
  ·rename_i hc
   cases hi with | int _ _ =>
   cases hx with | agg _ vs h0 h1 h2 =>
   obtain ⟨v',hr,hv⟩:=part_sound hg hs ⟨h1,h2,h0⟩ h
   refine ⟨v',?_,hv⟩
   simp [Instr.index,asIntOf,run_underlying hu,hc,run_szT hs,hr]
  ·cases h
 ·cases h

def ORelV (S:Snap):Option AV→Option Value→Prop
 | none,none=>True
 | some a,some v=>VRel S a v
 | _,_=>False

theorem abound_sound {x:AV} {v:Value} {y n:Nat} (hx:VRel S x v) (h:abound x y=some n) (code:BoundsCode) (w:World):(Instr.sliceBound v y code).run P w=.ok n w∧n≤y:=by
 unfold abound at h
 split at h
 ·rename_i kd m
  split at h
  ·rename_i hc
   injection h with h;subst h
   cases hx with | int _ _ =>
   refine ⟨?_,by omega⟩
   simp [Instr.sliceBound,asIntOf,hc]
  ·cases h
 ·cases h

theorem abounds_sound {isS : Bool} {len cap : Nat} {lo hi mx : Option AV} {lo' hi' mx' : Option Value} {l h m : Nat} (hlo : ORelV S lo lo') (hhi : ORelV S hi hi') (hmx : ORelV S mx mx')
    (hb:abounds len cap lo hi mx=some (l,h,m)) (w:World) :
    (Instr.sliceBounds isS len cap lo' hi' mx').run P w=.ok (l,h,m) w∧l≤h∧(hi ≠ none→h≤m)∧(hi=none→h=len∧mx=none)∧m≤cap∧(mx=none→m=cap):=by
 unfold abounds at hb
 split at hb
 ·cases hb
 rename_i m1 hm1
 split at hb
 ·cases hb
 rename_i h1 hh1
 split at hb
 ·cases hb
 rename_i l1 hl1
 injection hb with hb
 obtain ⟨rfl,rfl,rfl⟩:l1=l∧h1=h∧m1=m:=by simpa using hb
 have lows:(lo=none∧lo'=none∧l1=0) ∨ ∃ v,lo'=some v∧∀ code,(Instr.sliceBound v h1 code).run P w=.ok l1 w∧l1≤h1:=by
  cases lo with
  | none=>cases lo' with
   | none=>injection hl1 with hl1;exact .inl ⟨rfl,rfl,hl1.symm⟩
   | some _=>exact hlo.elim
  | some a=>cases lo' with
   | none=>exact hlo.elim
   | some v=>exact .inr ⟨v,rfl,fun code=>abound_sound hlo hl1 code w⟩
 have hle:l1≤h1:=by
  rcases lows with ⟨_,_,rfl⟩ | ⟨v,_,hv⟩
  ·exact Nat.zero_le _
  ·exact (hv .sliceB).2
 cases mx with
 | none =>
  cases mx' with
  | some _=>exact hmx.elim
  | none =>
   injection hm1 with hm1
   subst hm1
   cases hi with
   | none =>
    cases hi' with
    | some _=>exact hhi.elim
    | none =>
     injection hh1 with hh1
     subst hh1
     refine ⟨?_,hle,(fun h=>absurd rfl h),(fun _=>⟨rfl,rfl⟩),Nat.le_refl _,(fun _=>rfl)⟩
     unfold Instr.sliceBounds
     rcases lows with ⟨_,rfl,rfl⟩ | ⟨v,rfl,hv⟩
     ·simp
     ·simp [(hv _).1]
   | some a =>
    cases hi' with
    | none=>exact hhi.elim
    | some v =>
     obtain ⟨h4,h5⟩:=abound_sound (P:=P) hhi hh1 (if isS then .sliceAcap else .sliceAlen) w
     refine ⟨?_,hle,(fun _=>h5),(fun h=>by cases h),Nat.le_refl _,(fun _=>rfl)⟩
     unfold Instr.sliceBounds
     rcases lows with ⟨_,rfl,rfl⟩ | ⟨v,rfl,hv⟩
     ·simp [h4]
     ·simp [h4,(hv _).1]
 | some a =>
  cases mx' with
  | none=>exact hmx.elim
  | some v =>
   obtain ⟨h6,h7⟩:=abound_sound (P:=P) hmx hm1 (if isS then .slice3Acap else .slice3Alen) w
   cases hi with
   | none=>cases hh1
   | some a =>
    cases hi' with
    | none=>exact hhi.elim
    | some v' =>
     obtain ⟨h4,h5⟩:=abound_sound (P:=P) hhi hh1 .slice3B w
     refine ⟨?_,hle,(fun _=>h5),(fun h=>by cases h),h7,(fun h=>by cases h)⟩
     unfold Instr.sliceBounds
     rcases lows with ⟨_,rfl,rfl⟩ | ⟨v,rfl,hv⟩
     ·simp [h4,h6]
     ·simp [h4,h6,(hv _).1]

theorem extract_toList (b:ByteArray) (l h:Nat):(b.extract l h).data.toList=(b.data.toList.take h).drop l:=by
 rw [ByteArray.data_extract,Array.toList_extract,List.extract_eq_take_drop,List.drop_take]

theorem asliceStr_sound {t : TypeId} {s : List UInt8} {b : ByteArray} {lo hi : Option AV} {lo' hi' : Option Value} {r : AV} (hu : P.underlying t = some .string) (hb : b.data.toList = s)
    (hlo:ORelV S lo lo') (hhi:ORelV S hi hi') (h:asliceStr s lo hi=some r):∃ v',(Instr.slice t (.string b) lo' hi' none).run P S.w=.ok v' S.w∧VRel S r v':=by
 subst hb
 unfold asliceStr at h
 split at h
 ·rename_i l hh m hbd
  injection h with h;subst h
  rw [size_toList] at hbd
  obtain ⟨h1,_⟩:=abounds_sound (P:=P) (isS:=false) (mx:=none) (mx':=none) hlo hhi trivial hbd S.w
  refine ⟨.string (b.extract l hh),?_,.str _ _ (extract_toList b l hh)⟩
  simp [Instr.slice,run_underlying hu,h1]
 ·cases h

theorem getElem?_sub {α:Type} (l:List α) (a h j:Nat) (x:α) (hx:((l.take h).drop a)[j]?=some x):l[a+j]?=some x∧a+j < h:=by
 rw [List.getElem?_drop] at hx
 rcases Nat.lt_or_ge (a+j) h with h' | h'
 ·rw [List.getElem?_take_of_lt h'] at hx
  exact ⟨hx,h'⟩
 ·rw [List.getElem?_eq_none (by simp;omega)] at hx;cases hx

theorem asliceV_sound {t e : TypeId} {size : Nat} {x r : AV} {u : Value} {lo hi mx : Option AV} {lo' hi' mx' : Option Value} (hu : P.underlying t = some (.slice e)) (hs : szT P e = some size)
    (hx:VRel S x u) (hlo:ORelV S lo lo') (hhi:ORelV S hi hi') (hmx:ORelV S mx mx') (h:asliceV size x lo hi mx=some r) :
    ∃ v',(Instr.slice t u lo' hi' mx').run P S.w=.ok v' S.w∧VRel S r v':=by
 unfold asliceV at h
 split at h
 ·split at h
  ·rename_i q hq
   injection h with h;subst h
   obtain ⟨a,hh,m⟩:=q
   cases hx with | nils =>
   obtain ⟨h1,h2,h3,h4,h5,h6⟩:=abounds_sound (P:=P) (isS:=true) hlo hhi hmx hq S.w
   have hm:m=0:=by omega
   have hh0:hh=0:=by
    cases hi with
    | none=>exact (h4 rfl).1
    | some _=>have:=h3 (by simp);omega
   have ha:a=0:=by omega
   subst hm hh0 ha
   exact ⟨.slice none 0 0,by simp [Instr.slice,run_underlying hu,h1,run_szT hs],.nils⟩
  ·cases h
 ·rename_i k tok l
  split at h
  ·rename_i hk
   subst hk
   split at h
   ·rename_i a hh m hq
    injection h with h;subst h
    cases hx with | vs _ _ _ b off cap f hcap hke h1 h2 ht sp hsp =>
    -- the same bounds against the true capacity
    have hq':∃ m',abounds l.length cap lo hi mx=some (a,hh,m')∧(mx ≠ none→m'=m)∧(mx=none→m'=cap∧m=l.length):=by
     unfold abounds at hq ⊢
     cases mx with
     | none =>
      simp only at hq ⊢
      cases hi with
      | none =>
       simp only at hq ⊢
       split at hq
       ·cases hq
       ·rename_i l1 hl1
        injection hq with hq
        simp only [Prod.mk.injEq] at hq
        obtain ⟨rfl,rfl,rfl⟩:=hq
        try rw [hl1]
        exact ⟨cap,rfl,fun h=>absurd rfl h,fun _=>⟨rfl,rfl⟩⟩
      | some v =>
       simp only at hq ⊢
       split at hq
       ·cases hq
       ·rename_i h1' hh1
        have hh1':abound v cap=some h1':=by
         unfold abound at hh1 ⊢
         split at hh1
         ·split at hh1
          ·rename_i hc;injection hh1 with hh1;subst hh1
           rw [if_pos ⟨hc.1,by omega⟩]
          ·cases hh1
         ·cases hh1
        rw [hh1']
        try simp only
        split at hq
        ·cases hq
        ·rename_i l1 hl1
         injection hq with hq
         simp only [Prod.mk.injEq] at hq
         obtain ⟨rfl,rfl,rfl⟩:=hq
         try rw [hl1]
         exact ⟨cap,rfl,fun h=>absurd rfl h,fun _=>⟨rfl,rfl⟩⟩
     | some v =>
      simp only at hq ⊢
      split at hq
      ·cases hq
      ·rename_i m1 hm1
       have hm1':abound v cap=some m1:=by
        unfold abound at hm1 ⊢
        split at hm1
        ·split at hm1
         ·rename_i hc;injection hm1 with hm1;subst hm1
          rw [if_pos ⟨hc.1,by omega⟩]
         ·cases hm1
        ·cases hm1
       rw [hm1']
       try simp only
       split at hq
       ·cases hq
       ·rename_i h1' hh1
        try rw [hh1]
        try simp only
        split at hq
        ·cases hq
        ·rename_i l1 hl1
         injection hq with hq
         simp only [Prod.mk.injEq] at hq
         obtain ⟨rfl,rfl,rfl⟩:=hq
         try rw [hl1]
         exact ⟨m1,rfl,fun _=>rfl,fun h=>by cases h⟩
    obtain ⟨m',hq2,hm1,hm2⟩:=hq'
    obtain ⟨_,g2,g3,g4,g5,g6⟩:=abounds_sound (P:=P) (isS:=true) hlo hhi hmx hq S.w
    obtain ⟨e1,e2,e3,e4,e5,e6⟩:=abounds_sound (P:=P) (isS:=true) hlo hhi hmx hq2 S.w
    have hhl:hh≤l.length:=by
     cases hi with
     | none=>exact Nat.le_of_eq (g4 rfl).1
     | some _=>have:=g3 (by simp);omega
    have hlen:((l.take hh).drop a).length=hh - a:=by simp;omega
    have hhm:hh≤m':=by
     cases hi with
     | none=>obtain ⟨p,q⟩:=e4 rfl;have:=(hm2 q).1;omega
     | some _=>exact e3 (by simp)
    have hsp2:¬ m'=a→sp=none:=fun hne=>hsp.resolve_right (by omega)
    refine ⟨.slice (some ⟨b,if m'=a then off else off+a * k,sp⟩) (hh - a) (m' - a),?_,?_⟩
    ·simp [Instr.slice,run_underlying hu,e1,run_szT hs]
     by_cases hc:m'=a
     ·simp [hc]
     ·obtain rfl:=hsp2 hc
      simp [hc,add_spot]
    ·rw [← hlen]
     refine .vs k _ _ b _ (m' - a) (fun j i=>f (a+j) i) (by rw [hlen];omega) (fun e he=>hke e (List.mem_of_mem_take (List.mem_of_mem_drop he))) (fun j i hj hi=>?_) (fun j e i c he hc=>?_) ?_ sp (if hc:m'=a then .inr (by omega) else .inl (hsp2 hc))
     ·rw [hlen] at hj
      have hc:¬ m'=a:=by omega
      rw [if_neg hc]
      have:=h1 (a+j) i (by omega) hi
      rwa [show off+(a+j) * k+i=off+a * k+j * k+i by rw [Nat.add_mul];omega] at this
     ·exact h2 (a+j) e i c (getElem?_sub l a hh j e he).1 hc
     ·cases mx with
      | some v =>
       have hmm:m'=m:=hm1 (by simp)
       try simp only
       split
       ·simp only [TokOk,hlen];omega
       ·trivial
      | none =>
       obtain ⟨rfl,hml⟩:=hm2 rfl
       try simp only
       split
       ·rename_i hhe
        cases tok with
        | no=>trivial
        | clip=>simp only [TokOk] at ht ⊢;rw [hlen];omega
        | own tt ee =>
         obtain ⟨e0,b0,hw0,sz0,q1,q2,q3⟩:=ht
         refine ⟨e0,b0,hw0,sz0,q1,q2,fun he hlt=>?_⟩
         rw [hlen] at hlt
         obtain ⟨p1,p2,p3⟩:=q3 he (by omega)
         rw [if_neg (by omega),hlen]
         have:hh * k=a * k+(hh - a) * k:=by rw [← Nat.add_mul];congr 1;omega
         have:m' * k=a * k+(m' - a) * k:=by rw [← Nat.add_mul];congr 1;omega
         subst hhe
         refine ⟨p1,by omega,by omega⟩
       ·trivial
   ·cases h
  ·cases h
 ·rename_i ag k o off len cap
  split at h
  ·rename_i a hh m hq
   injection h with h;subst h
   cases hx with | rs _ _ _ _ _ _ b hb hlen =>
   obtain ⟨e1,e2,e3,e4,e5,e6⟩:=abounds_sound (P:=P) (isS:=true) hlo hhi hmx hq S.w
   refine ⟨.slice (some ⟨b,if m=a then off else off+a * size,none⟩) (hh - a) (m - a),?_,.rs _ _ _ _ _ _ b hb ?_⟩
   ·simp [Instr.slice,run_underlying hu,e1,run_szT hs]
    by_cases hc:m=a
    ·simp [hc]
    ·simp [hc,add_spot]
   ·cases hi with
    | none=>obtain ⟨p,q⟩:=e4 rfl;have:=e6 q;omega
    | some _=>have:=e3 (by simp);omega
  ·cases h
 ·rename_i ag k o e' len
  split at h
  ·rename_i v
   split at h
   ·rename_i hh hq0
    split at h
    ·rename_i hk
     subst hk
     injection h with h;subst h
     cases hx with | ws _ _ _ _ _ cap b hb hlen =>
     have hhl:hh≤len:=by
      unfold abound at hq0
      split at hq0
      ·split at hq0
       ·injection hq0 with hq0;omega
       ·cases hq0
      ·cases hq0
     have hq1:abound v cap=some hh:=by
      unfold abound at hq0 ⊢
      split at hq0
      ·split at hq0
       ·rename_i hc;injection hq0 with hq0;subst hq0
        rw [if_pos ⟨hc.1,by omega⟩]
       ·cases hq0
      ·cases hq0
     have hq:abounds len cap none (some v) none=some (0,hh,cap):=by
      unfold abounds
      simp [hq1]
     obtain ⟨e1,e2,e3,e4,e5,e6⟩:=abounds_sound (P:=P) (isS:=true) hlo hhi hmx hq S.w
     obtain ⟨e0,b0,hw0,sz0,q1,q2,q3⟩:=hb
     refine ⟨.slice (some ⟨b,0,none⟩) hh cap,?_,.ws _ _ _ _ _ _ _ ⟨e0,b0,hw0,sz0,q1,q2,fun he=>?_⟩ (by omega)⟩
     ·simp [Instr.slice,run_underlying hu,e1,run_szT hs]
      by_cases hc:cap=0
      ·simp [hc]
      ·simp [hc,add_spot]
     ·obtain ⟨p1,p2,p3⟩:=q3 he
      exact ⟨p1,Nat.le_trans (Nat.mul_le_mul_right k hhl) p2,p3⟩
    ·cases h
   ·cases h
  ·cases h
 ·cases h
end
end Go.Am
