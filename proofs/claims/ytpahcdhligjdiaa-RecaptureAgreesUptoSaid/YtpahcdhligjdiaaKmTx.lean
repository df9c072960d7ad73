/-
  THE ABSTRACT MACHINE, part T: rules by which a function's form is worked out.
-/
import Derived.Test.YtpahcdhligjdiaaKmSx
namespace Go.Am

section
variable {α β:Type}
theorem bnd_some (x:α) (f:α→Option β):bnd (some x) f=f x:=(Eq.refl _).trans (Eq.refl _)
theorem bnd_none (f:α→Option β):bnd (none:Option α) f=none:=(Eq.refl _).trans (Eq.refl _)
theorem bnd_congr {x x':Option α} (h:x=x') (f:α→Option β):bnd x f=bnd x' f:=by rw [h]
theorem cnd_congr {c c':AV} (h:c=c') (x y:Res):cnd c x y=cnd c' x y:=by rw [h]
theorem gdv_congr {g g':AV} (h:g=g') (w:Bool) (e:α) (x:Option α):gdv g w e x=gdv g' w e x:=by rw [h]
theorem frzK_congr {a a':AV} (h:a=a') (H:Hp) (k:AV→Hp→Res):frzK a H k=frzK a' H k:=by rw [h]
theorem cnd_t (x y:Res):cnd (.bool true) x y=x:=(Eq.refl _).trans (Eq.refl _)
theorem cnd_f (x y:Res):cnd (.bool false) x y=y:=(Eq.refl _).trans (Eq.refl _)
theorem gdv_tt (e:α) (x:Option α):gdv (.bool true) true e x=x:=(Eq.refl _).trans (Eq.refl _)
theorem gdv_ff (e:α) (x:Option α):gdv (.bool false) false e x=x:=(Eq.refl _).trans (Eq.refl _)
theorem gdv_tf (e:α) (x:Option α):gdv (.bool true) false e x=some e:=(Eq.refl _).trans (Eq.refl _)
theorem gdv_ft (e:α) (x:Option α):gdv (.bool false) true e x=some e:=(Eq.refl _).trans (Eq.refl _)
theorem gdv_tup (l:List AV) (w:Bool) (e:α) (x:Option α):gdv (.tuple l) w e x=some e:=(Eq.refl _).trans (Eq.refl _)
theorem apick_t (a b:AV):apick (.bool true) a b=some a:=(Eq.refl _).trans (Eq.refl _)
theorem apick_f (a b:AV):apick (.bool false) a b=some b:=(Eq.refl _).trans (Eq.refl _)
theorem aun_not (b:Bool):aun .not (.bool b)=some (.bool (!b)):=(Eq.refl _).trans (Eq.refl _)
theorem anil_ptr (o off:Nat):anil (.ptr o off)=some (.ptr o off):=(Eq.refl _).trans (Eq.refl _)
theorem anil_vp (l:List AV):anil (.vp l)=some (.vp l):=(Eq.refl _).trans (Eq.refl _)
theorem afield_ptr (k o off:Nat):afield k (.ptr o off)=some (.ptr o (off+k)):=(Eq.refl _).trans (Eq.refl _)
theorem aext_tuple (l:List AV) (i:Nat):aext (.tuple l) i=l[i]?:=(Eq.refl _).trans (Eq.refl _)
theorem ibin_eql (k:IntKind) (a b:Int):ibin .eql (.int k a) (.int k b)=some (.bool (a == b)):=by simp [ibin,ashift,intbin]
theorem ibin_neq (k:IntKind) (a b:Int):ibin .neq (.int k a) (.int k b)=some (.bool (a != b)):=by simp [ibin,ashift,intbin]
theorem ibin_lss (k:IntKind) (a b:Int):ibin .lss (.int k a) (.int k b)=some (.bool (decide (a < b))):=by simp [ibin,ashift,intbin]
theorem ibin_leq (k:IntKind) (a b:Int):ibin .leq (.int k a) (.int k b)=some (.bool (decide (a≤b))):=by simp [ibin,ashift,intbin]
theorem ibin_gtr (k:IntKind) (a b:Int):ibin .gtr (.int k a) (.int k b)=some (.bool (decide (b < a))):=by simp [ibin,ashift,intbin]
theorem ibin_geq (k:IntKind) (a b:Int):ibin .geq (.int k a) (.int k b)=some (.bool (decide (b≤a))):=by simp [ibin,ashift,intbin]
theorem ibin_add (k:IntKind) (a b:Int):ibin .add (.int k a) (.int k b)=some (.int k (k.wrap (a+b))):=by simp [ibin,ashift,intbin]
theorem ibin_sub (k:IntKind) (a b:Int):ibin .sub (.int k a) (.int k b)=some (.int k (k.wrap (a - b))):=by simp [ibin,ashift,intbin]
theorem ibin_mul (k:IntKind) (a b:Int):ibin .mul (.int k a) (.int k b)=some (.int k (k.wrap (a * b))):=by simp [ibin,ashift,intbin]
theorem sbin_eql (a b:List UInt8):sbin .eql (.str a) (.str b)=some (.bool (a == b)):=(Eq.refl _).trans (Eq.refl _)
theorem sbin_neq (a b:List UInt8):sbin .neq (.str a) (.str b)=some (.bool (!(a == b))):=(Eq.refl _).trans (Eq.refl _)
theorem amin2_eq (k:IntKind) (a b:Int):amin2 (.int k a) (.int k b)=some (.int k (min a b)):=by
 simp only [amin2,if_true,Option.some.injEq,AV.int.injEq,true_and]
 split <;> omega
theorem amax2_eq (k:IntKind) (a b:Int):amax2 (.int k a) (.int k b)=some (.int k (max a b)):=by
 simp only [amax2,if_true,Option.some.injEq,AV.int.injEq,true_and]
 split <;> omega
theorem alen_str (s:List UInt8):alenD .string (.str s)=some (.int .i64 s.length):=(Eq.refl _).trans (Eq.refl _)
theorem alen_vs (e k:Nat) (t:Tok) (l:List AV):alenD (.slice e) (.vs k t l)=some (.int .i64 l.length):=(Eq.refl _).trans (Eq.refl _)
theorem alen_nils (e:Nat):alenD (.slice e) .nils=some (.int .i64 0):=(Eq.refl _).trans (Eq.refl _)
theorem ebin_ptr_eql (t o off:Nat):ebin (.pointer t) .eql (.ptr o off) .nilp=some (.bool false):=(Eq.refl _).trans (Eq.refl _)
theorem ebin_ptr_neq (t o off:Nat):ebin (.pointer t) .neq (.ptr o off) .nilp=some (.bool true):=(Eq.refl _).trans (Eq.refl _)
theorem ebin_nil_eql (t:Nat):ebin (.pointer t) .eql .nilp .nilp=some (.bool true):=(Eq.refl _).trans (Eq.refl _)
theorem ebin_nil_neq (t:Nat):ebin (.pointer t) .neq .nilp .nilp=some (.bool false):=(Eq.refl _).trans (Eq.refl _)
theorem ebin_bool_neq (a b:Bool):ebin .bool .neq (.bool a) (.bool b)=some (.bool (!(a == b))):=(Eq.refl _).trans (Eq.refl _)
theorem ebin_bool_eql (a b:Bool):ebin .bool .eql (.bool a) (.bool b)=some (.bool (a == b)):=(Eq.refl _).trans (Eq.refl _)

theorem ebinI_eql_nil:ebinI .eql .nili .nili=some (.bool true):=(Eq.refl _).trans (Eq.refl _)
theorem ebinI_neq_nil:ebinI .neq .nili .nili=some (.bool false):=(Eq.refl _).trans (Eq.refl _)
theorem extC_indexByte (s:List UInt8) (n:Int) (H:Hp):extC .indexByte [.str s,.int .u8 n] H=some (.int .i64 (indexB (UInt8.ofNat n.toNat) s 0),H):=(Eq.refl _).trans (Eq.refl _)
theorem extC_cmp (s t:List UInt8) (H:Hp):extC .cmp [.str s,.str t] H=some (.int .i64 (cmpB s t),H):=(Eq.refl _).trans (Eq.refl _)
theorem extC_count (s:List UInt8) (n:Int) (H:Hp):extC .count [.str s,.int .u8 n] H=some (.int .i64 (countB (UInt8.ofNat n.toNat) s),H):=(Eq.refl _).trans (Eq.refl _)
theorem closeV_flat (H1:Hp):∀ (n f:Nat) (v:AV),n < f→flatV n v=true→closeV H1 0 f v=some v:=by
 intro n
 induction n with
 | zero =>
  intro f v hf h
  cases f with
  | zero=>omega
  | succ f=>cases v <;> first | rfl | (simp [flatV] at h;done)
 | succ n ih =>
  intro f v hf h
  cases f with
  | zero=>omega
  | succ f =>
   have hl:∀ l:List AV,l.all (flatV n)=true→l.mapM (closeV H1 0 f)=some l:=by
    intro l
    induction l with
    | nil=>intro _;rfl
    | cons x l ihl =>
     intro h
     rw [List.all_cons,Bool.and_eq_true] at h
     rw [List.mapM_cons,ih f x (by omega) h.1,ihl h.2]
     rfl
   cases v with
   | agg l=>simp only [flatV] at h;simp only [closeV,hl l h]
   | tuple l=>simp only [flatV] at h;simp only [closeV,hl l h]
   | _=>first | rfl | (simp [flatV] at h;done)
theorem flatC_cl {call:List AV→Hp→Option (AV × Hp)} {args args':List AV} {H H1:Hp} {v v':AV} (ha:args.mapM (closeV [] 0 400)=some args') (hc:call args' []=some (v,H1)) (hf:closeV H1 0 400 v=some v'):flatC call args H=some (v',H):=by
 unfold flatC
 simp only [ha,hc,hf]
theorem flatC_of {call:List AV→Hp→Option (AV × Hp)} {args args':List AV} {H H1:Hp} {v:AV} (ha:args.mapM (closeV [] 0 400)=some args') (hc:call args' []=some (v,H1)) (hf:flatV 3 v=true):flatC call args H=some (v,H) :=
 flatC_cl ha hc (closeV_flat H1 3 400 v (by omega) hf)
theorem wrap64 {n:Int} (h1:-9223372036854775808≤n) (h2:n≤9223372036854775807):IntKind.i64.wrap n=n:=by
 unfold IntKind.wrap
 have e1:(2 ^ IntKind.i64.bits:Int)=18446744073709551616:=by decide
 have e2:(2 ^ (IntKind.i64.bits - 1):Int)=9223372036854775808:=by decide
 have e3:IntKind.i64.signed=true:=(Eq.refl _).trans (Eq.refl _)
 simp only [e1,e2,e3,Bool.true_and,decide_eq_true_eq,ge_iff_le]
 split <;> omega

theorem get_push {H:Hp} {o:Nat} {x:AObj} (h:H[o]?=some x) (l:List AObj):(H++l)[o]?=some x:=by
 rw [List.getElem?_append_left (lt_of_get h)];exact h
theorem get_push_len (H:Hp) (x:AObj) (l:List AObj):(H++(x :: l))[H.length]?=some x:=by simp
theorem get_set_ne {H:Hp} {o i:Nat} {x:Option AObj} (y:AObj) (hn:i ≠ o) (h:H[o]?=x):(H.set i y)[o]?=x:=by
 rw [List.getElem?_set_ne hn];exact h
theorem get_set_eq {H:Hp} {o:Nat} {x:AObj} (y:AObj) (h:H[o]?=some x):(H.set o y)[o]?=some y:=by
 have:=lt_of_get h;simp [this]
theorem aload_of {H:Hp} {o off:Nat} {l:List AV} (h:H[o]?=some (.cells l)) (g:Bool) (sz:Nat):aload g sz (.ptr o off) H=apart g sz l off:=by simp [aload,h]
theorem astore_of {H : Hp} {o off sz : Nat} {l : List AV} {v : AV} (h : H[o]? = some (.cells l)) (hk : v.known = true) (hs : v.cells.length = sz) (hl : off + sz ≤ l.length) :
    astoreU sz (.ptr o off) v H=some (.tuple [],H.set o (.cells (splice l off v.cells))):=by simp [astoreU,astore,h,hk,hs,hl]
theorem abox_of {v:AV} {H:Hp} (h:v.known=true):abox v H=some (.ptr H.length 0,H++[.cells v.cells]):=by simp [abox,h]
theorem frz_of {H:Hp} {o:Nat} {l:List AV} (h:H[o]?=some (.cells l)) (k:AV→Hp→Res):frzK (.ptr o 0) H k=k (.vp l) (H.set o .dead):=by simp [frzK,frzV,h]
end
theorem abounds_lo {len cap:Nat} {n:Int} (k:IntKind) (h0:0≤n) (h1:n≤len):abounds len cap (some (.int k n)) none none=some (n.toNat,len,cap):=by delta abounds;simp [abound,h0,h1]
theorem asliceV_lo {l:List AV} {n:Int} (z:Nat) (t:Tok) (k:IntKind) (h0:0≤n) (h1:n≤l.length):asliceV z (.vs z t l) (some (.int k n)) none none=some (.vs z t (l.drop n.toNat)):=by
 simp [asliceV,abounds_lo k h0 h1]
def Row (H:Hp) (k:Nat) (x:AV) (l:List AV):Prop:=x=.nils∧l=[] ∨ ∃ t e,x=.vs k (.own t e) l∧H[t]?=some (.tok e)
theorem Row.mono {H H':Hp} {k:Nat} {x:AV} {l:List AV} (h:Row H k x l) (hf:∀ (i e:Nat),H[i]?=some (.tok e)→H'[i]?=some (.tok e)):Row H' k x l :=
 h.imp id fun ⟨t,e,a,b⟩=>⟨t,e,a,hf _ _ b⟩
theorem Row.app {H : Hp} {k : Nat} {x : AV} {l : List AV} (h : Row H k x l) (bytes : Nat) (y : AV) (ys : List AV) (hy : elems k y H = some ys) (hf : (l.length + ys.length) * (bytes + 1) ≤ 140737488355328) :
    ∃ x' H',aappE k bytes x y H=some (x',H')∧Row H' k x' (l++ys)∧H.length≤H'.length∧(∀ (i:Nat) (c:List AV),H[i]?=some (.cells c)→H'[i]?=some (.cells c)) ∧
     (∀ (i:Nat) (o:AObj),(∀ t e,x=.vs k (.own t e) l→i ≠ t)→H[i]?=some o→H'[i]?=some o):=by
 unfold aappE
 simp only [hy]
 rcases h with ⟨rfl,rfl⟩ | ⟨t,e,rfl,ht⟩
 ·by_cases hn:ys=[]
  ·subst hn
   exact ⟨.nils,H,by simp [aappend],.inl ⟨rfl,rfl⟩,Nat.le_refl _,fun _ _ h=>h,fun _ _ _ h=>h⟩
  ·have hfit:fits ys.length bytes=true:=by simpa [fits] using hf
   refine ⟨.vs k (.own H.length ys.length) ys,H++[.tok ys.length],by simp only [aappend,hn,if_false,hfit,if_true],.inr ⟨H.length,ys.length,rfl,by simp⟩,by simp,fun i c h=>get_push h _,fun i o _ h=>get_push h _⟩
 ·have hfit:fits (l.length+ys.length) bytes=true:=by simpa [fits] using hf
  by_cases hn:ys=[]
  ·subst hn
   refine ⟨.vs k (.own t e) l,H,by simp only [aappend,List.length_nil,Nat.add_zero] at hfit ⊢;simp only [hfit,and_self,if_true],.inr ⟨t,e,by simp,ht⟩,Nat.le_refl _,fun _ _ h=>h,fun _ _ _ h=>h⟩
  ·refine ⟨_,_,by simp only [aappend,hfit,and_self,if_true,hn,if_false,ht],.inr ⟨t,e+ys.length,rfl,get_set_eq _ ht⟩,by simp,fun i c h=>?_,fun i o hi h=>?_⟩
   ·refine get_set_ne _ (fun he=>?_) h
    subst he
    rw [ht] at h
    cases h
   ·exact get_set_ne _ (fun he=>hi t e rfl he.symm) h

attribute [congr] bnd_congr cnd_congr gdv_congr frzK_congr
attribute [go_sem] bnd_some bnd_none cnd_t cnd_f gdv_tt gdv_ff gdv_tf gdv_ft gdv_tup apick_t apick_f aun_not anil_ptr anil_vp afield_ptr aext_tuple
 ibin_eql ibin_neq ibin_lss ibin_leq ibin_gtr ibin_geq ibin_add ibin_sub ibin_mul sbin_eql sbin_neq amin2_eq amax2_eq alen_str alen_vs alen_nils
 ebin_ptr_eql ebin_ptr_neq ebin_nil_eql ebin_nil_neq ebin_bool_neq ebin_bool_eql ebinI_eql_nil ebinI_neq_nil extC_indexByte extC_cmp extC_count
end Go.Am
namespace Go.Am
end Go.Am
