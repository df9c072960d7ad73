/-
  The limit of what replacing may make.
-/
import Derived.Test.YtcllemkfpjaooaaGreatPtMtx
import Derived.Test.YtcllemkfpjaooaaGreatPtLx
namespace Go.Am
set_option linter.unusedSimpArgs false
set_option linter.unusedVariables false
set_option maxRecDepth 100000

theorem len_run {H:Hp} {o:Nat} {b:List UInt8} (h:H[o]?=some (.bld 66 5 b)):lenE.run [.ptr o 0] H=some (.int .i64 b.length,H.set o (.bld 66 5 b)):=by
 show bldRun bldT bldU lenM [.ptr o 0] H=_
 simp [bldRun,lenM,h,bldF,bldT,bldU]
def bS (k:Nat):List UInt8:=List.replicate k 98
theorem bS_len (k:Nat):(bS k).length=k:=by simp [bS]
theorem bS_add (a b:Nat):bS a++bS b=bS (a+b):=by simp [bS,List.replicate_append_replicate]
theorem aS_len (n:Nat):(aS n).length=n:=by simp [aS]
theorem mL_len (n:Nat):(mL n).length=n:=by simp [mL]
def spn (i:Nat):AV:=.vs 2 .clip [.agg [.int .i64 (i:Int),.int .i64 ((i+1:Nat):Int)]]
theorem mL_get {n i:Nat} (h:i < n):aindexS 1 (.vs 1 .no (mL n)) (.int .i64 (i:Int))=some (.vp [spn i]):=by
 have h1:(mL n)[i]?=some (.agg [spn i]):=by
  unfold mL
  rw [List.getElem?_map,List.getElem?_range h]
  rfl
 unfold aindexS
 dsimp only
 rw [if_pos ⟨rfl,by omega⟩,Int.toNat_natCast,h1]
 rfl
theorem new_match (Hc:Hp) (i:Nat):astoreU 1 (.ptr Hc.length 0) (.agg [spn i]) (Hc++[AObj.cells [.nils]])=some (.tuple [],Hc++[AObj.cells [spn i]]):=by
 rw [astore_of (sz:=1) (v:=.agg [spn i]) (l:=[.nils]) (by simp) rfl rfl (by simp)]
 simp [splice,AV.cells,spn]
theorem ld_spn (i:Nat) (H:Hp):aload true 1 (.vp [spn i]) H=some (.agg [spn i]):=(Eq.refl _).trans (Eq.refl _)
theorem ld_box {H:Hp} {q:Nat} {x:AV} (h:H[q]?=some (.cells [x])):aload true 1 (.ptr q 0) H=some (.agg [x]):=by rw [aload_of h];rfl
theorem spn_idx (i:Nat):aindexS 2 (spn i) (.int .i64 0)=some (.vp [.int .i64 (i:Int),.int .i64 ((i+1:Nat):Int)]):=(Eq.refl _).trans (Eq.refl _)
theorem f0 (a b:AV):afield 0 (.vp [a,b])=some (.vp [a,b]):=(Eq.refl _).trans (Eq.refl _)
theorem f1 (a b:AV):afield 1 (.vp [a,b])=some (.vp [b]):=(Eq.refl _).trans (Eq.refl _)
theorem lv (a:AV) (l:List AV) (H:Hp):aload false 1 (.vp (a :: l)) H=some a:=(Eq.refl _).trans (Eq.refl _)
def wL (size:Nat):AV:=.vs 3 .clip [.agg (ptC ⟨1,0,bS size⟩)]
theorem wL_rd (size:Nat) (H:Hp):RdAt H (wL size) [⟨1,0,bS size⟩]:=.inr (.inl ⟨.clip,rfl⟩)
theorem exp_w (s:List UInt8) (M:List (Int × Int)) (size:Nat):expP s M [⟨1,0,bS size⟩]=bS size:=by
 simp [expP,expT,expG]
theorem rep_loop {n size : Nat} (hn : n ≤ 8) (hs1 : size ≤ 70000) {o : Nat} (H0 : Hp) : ∀ (k i : Nat) (Hc : Hp), n - i = k → i ≤ n → Hc[o]? = some (.bld 66 5 (bS (i * size))) → i * size ≤ 65536 →
    ∃ H',template_Replace_L1 (wL size) (.str (aS n)) (.int .i64 1) (.bool true) (.ptr o 0) (.int .i64 (i:Int)) (.int .i64 (i:Int)) (.vs 1 .no (mL n)) (.int .i64 (n:Int)) (.int .i64 (i:Int)) H0 Hc =
     some (if n * size≤65536 then .tuple [.str (bS (n * size)),.int .i64 (n:Int),.int .i64 0] else .tuple [.str [],.int .i64 0,.int .i64 3],H'):=by
 intro k
 induction k with
 | zero =>
  intro i Hc hk hi ho hb
  obtain rfl:i=n:=by omega
  have hlt:decide ((i:Int) < (i:Int))=false:=decide_eq_false (by omega)
  have hsl:=asliceS_lo (s:=aS i) (n:=(i:Int)) .i64 (by omega) (by rw [aS_len];omega)
  have hd:(aS i).drop ((i:Int)).toNat=[]:=List.drop_eq_nil_iff.2 (by rw [aS_len,Int.toNat_natCast];omega)
  rw [hd] at hsl
  have htx:=text_run (s:=[]) ho (by rw [bS_len];simp [maxB];omega)
  rw [List.append_nil,set_same ho] at htx
  have hle:decide ((65536:Int) < ((bS (i * size)).length:Int))=false:=decide_eq_false (by rw [bS_len];omega)
  rw [template_Replace_L1_eq]
  simp only [go_sem,hlt,template_Replace_J3_eq,hsl,htx,len_run ho,set_same ho,hle,template_Replace_J4_eq,string_run ho,if_pos hb]
  exact ⟨_,rfl⟩
 | succ k ih =>
  intro i Hc hk hi ho hb
  have hL:i < n:=by omega
  have hlt:decide ((i:Int) < (n:Int))=true:=decide_eq_true (by omega)
  have hol:=lt_of_get ho
  have hqo:Hc.length ≠ o:=by omega
  have ho1:(Hc++[AObj.cells [spn i]])[o]?=some (.bld 66 5 (bS (i * size))):=get_push ho _
  have hq1:(Hc++[AObj.cells [spn i]])[Hc.length]?=some (.cells [spn i]):=by simp
  have h11:decide (((i+1:Nat):Int) < 1)=false:=decide_eq_false (by omega)
  -- the match is replaced
  have go7 : ∃ H', template_Replace_J7 (wL size) (.str (aS n)) (.int .i64 1) (.bool true) (.ptr o 0) (.int .i64 (i : Int)) (.int .i64 (i : Int)) (.ptr Hc.length 0) (.vs 1 .no (mL n)) (.int .i64 (n : Int)) (.int .i64 (i : Int)) H0 (Hc ++ [AObj.cells [spn i]]) =
      some (if n * size≤65536 then .tuple [.str (bS (n * size)),.int .i64 (n:Int),.int .i64 0] else .tuple [.str [],.int .i64 0,.int .i64 3],H'):=by
   have hsl:=asliceS_lh (s:=aS n) (n:=(i:Int)) (m:=(i:Int)) .i64 .i64 (by omega) (by omega) (by rw [aS_len];omega)
   have hd:((aS n).take ((i:Int)).toNat).drop ((i:Int)).toNat=[]:=List.drop_eq_nil_iff.2 (by rw [List.length_take];exact Nat.min_le_left _ _)
   rw [hd] at hsl
   have htx:=text_run (s:=[]) ho1 (by rw [bS_len];simp [maxB];omega)
   rw [List.append_nil,set_same ho1] at htx
   have hy:SpAt (spn i) [((i:Int),((i+1:Nat):Int))]:=.inr ⟨.clip,rfl⟩
   obtain ⟨H1,e1,e2⟩:=expand_spec (wL_rd size (Hc++[AObj.cells [spn i]])) hy (s:=aS n) (by rw [aS_len];omega) (by simp) (by rw [exp_w,bS_len];simp [maxB];omega)
   rw [exp_w] at e1
   have ho2:H1[o]?=some (.bld 66 5 (bS (i * size))):=e2.get ho1 (by simp)
   have hq2:H1[Hc.length]?=some (.cells [spn i]):=e2.get hq1 (by simp)
   have htx2:=text_run (s:=bS size) ho2 (by rw [bS_len,bS_len];simp [maxB];omega)
   rw [bS_add,show i * size+size=(i+1) * size by rw [Nat.add_mul];omega] at htx2
   have ho3:=get_set_eq (.bld 66 5 (bS ((i+1) * size))) ho2
   have hq3:(H1.set o (.bld 66 5 (bS ((i+1) * size))))[Hc.length]?=some (.cells [spn i]):=get_set_ne _ hqo.symm hq2
   rw [template_Replace_J7_eq]
   simp only [go_sem,ldb hq1,spn_idx,f0,lv,hsl,htx,ld_box hq1,e1,htx2,ldb hq3,f1,wsucc (n:=i) (by omega),len_run ho3,set_same ho3]
   by_cases hbig:(i+1) * size≤65536
   ·have hle:decide ((65536:Int) < ((bS ((i+1) * size)).length:Int))=false:=decide_eq_false (by rw [bS_len];omega)
    simp only [hle,go_sem,template_Replace_J6_eq,wsucc (n:=i) (by omega)]
    exact ih (i+1) _ (by omega) (by omega) ho3 hbig
   ·have hle:decide ((65536:Int) < ((bS ((i+1) * size)).length:Int))=true:=decide_eq_true (by rw [bS_len];omega)
    have hno:¬ n * size≤65536:=by
     have:(i+1) * size≤n * size:=Nat.mul_le_mul_right size (by omega)
     omega
    simp only [hle,go_sem,if_neg hno]
    exact ⟨_,rfl⟩
  rw [template_Replace_L1_eq]
  simp only [go_sem,hlt,template_Replace_J5_eq,mL_get hL,ld_spn,new_match,wsucc (n:=i) (by omega),h11]
  by_cases hi0:0 < i
  ·have hd0:decide ((0:Int) < (i:Int))=true:=decide_eq_true (by omega)
   simp only [hd0,go_sem,Bool.not_true]
   exact go7
  ·have hd0:decide ((0:Int) < (i:Int))=false:=decide_eq_false (by omega)
   simp only [hd0,go_sem]
   exact go7
theorem rep_spec {n size : Nat} (h1 : 1 ≤ n) (hn : n ≤ 8) (hs1 : size ≤ 70000) (H : Hp) :
    ∃ H',C_template_Replace [x0,wL size,.str (aS n),.int .i64 1,.bool true] H =
     some (if n * size≤65536 then .tuple [.str (bS (n * size)),.int .i64 (n:Int),.int .i64 0] else .tuple [.str [],.int .i64 0,.int .i64 3],H'):=by
 have hbx:abox x0 H=some (.ptr H.length 0,H++[.cells x0.cells]):=abox_of rfl
 have hld:aload true 12 (.ptr H.length 0) (H++[.cells x0.cells])=some x0:=by
  rw [aload_of (l:=x0.cells) (by simp)]
  rfl
 have hall:=all_a h1 hn (H++[.cells x0.cells])
 have h10:decide ((1:Int) < 1)=false:=rfl
 have h00:((0:Int) != 0)=false:=rfl
 have hlen:alenD (.slice 31) (.vs 1 .no (mL n))=some (.int .i64 (n:Int)):=by rw [alen_vs,mL_len]
 obtain ⟨H',r⟩:=rep_loop (n:=n) (size:=size) hn hs1 (o:=(H++[AObj.cells x0.cells]).length) H n 0 (H++[AObj.cells x0.cells]++[.bld 66 5 []]) (by omega) (by omega) (by rw [Nat.zero_mul];simp [bS]) (by omega)
 refine ⟨H',?_⟩
 rw [F_template_Replace_eq]
 unfold F_template_Replace
 simp only [hbx,go_sem,h10,template_Replace_J1_eq,hld,hall,List.getElem?_cons_zero,List.getElem?_cons_succ,h00,template_Replace_J2_eq,hlen]
 exact r
def zB (size i:Nat):List AV:=List.replicate i (.int .u8 98)++List.replicate (size - i) (.int .u8 0)
theorem zB_set {size i:Nat} (h:i < size):splice (zB size i) (0+i * 1) [.int .u8 98]=zB size (i+1):=by
 unfold splice zB
 have e1:(List.replicate i (AV.int .u8 98)++List.replicate (size - i) (AV.int .u8 0)).take (0+i * 1)=List.replicate i (AV.int .u8 98):=by
  rw [List.take_append_of_le_length (by simp),List.take_of_length_le (by simp)]
 have e2:(List.replicate i (AV.int .u8 98)++List.replicate (size - i) (AV.int .u8 0)).drop (0+i * 1+[AV.int .u8 98].length)=List.replicate (size - (i+1)) (AV.int .u8 0):=by
  rw [List.drop_append,List.drop_eq_nil_iff.2 (by simp),List.nil_append,List.drop_replicate]
  simp only [List.length_replicate,List.length_singleton]
  congr 1
  omega
 rw [e1,e2,List.replicate_succ']
theorem bytes_rep (k:Nat):bytesOf (List.replicate k (AV.int .u8 98))=some (bS k):=by
 have:List.replicate k (AV.int .u8 98)=(bS k).map bv:=by simp [bS,bv]
 rw [this,bytesOf_map]
theorem chunks_one:∀ (n:Nat) (l:List AV),l.length=n→chunks false 1 n l=l:=by
 intro n
 induction n with
 | zero=>intro l h;rw [List.length_eq_zero_iff.1 h];rfl
 | succ n ih =>
  intro l h
  match l,h with
  | a :: l,h =>
   show a :: chunks false 1 n l=a :: l
   rw [ih l (by simpa using h)]
theorem rd_bytes {H:Hp} {o size:Nat} (h:H[o]?=some (.cells (zB size size))):cvRd (.rs false 1 o 0 size size) H=some (.str (bS size)):=by
 have hz:zB size size=List.replicate size (AV.int .u8 98):=by simp [zB]
 have he:elemsS (.rs false 1 o 0 size size) H=some (List.replicate size (AV.int .u8 98)):=by
  unfold elemsS Go.Am.elems
  dsimp only
  rw [if_pos ⟨rfl,.inr rfl⟩,h]
  dsimp only
  rw [if_pos (by simp [zB]),List.drop_zero,hz,chunks_one size _ (by simp)]
 unfold cvRd
 rw [show cvOfBytes (.rs false 1 o 0 size size)=none from rfl,he]
 dsimp only
 rw [bytes_rep]
theorem fill_loop {n size o x5 : Nat} {s : List UInt8} (hs : size ≤ 70000) (x6 : AV) (H0 : Hp) : ∀ (k i : Nat) (Hc : Hp), size - i = k → i ≤ size → Hc[o]? = some (.cells (zB size i)) → Hc[x5]? = some (.cells x0.cells) → x5 ≠ o →
    ∃ H',L16_TemplateLimits_L1 (.int .i64 (n:Int)) (.int .i64 (size:Int)) (.ptr x5 0) x6 (.str s) (.rs false 1 o 0 size size) (.int .i64 (i:Int)) H0 Hc =
     L16_TemplateLimits_J3 (.int .i64 (n:Int)) (.int .i64 (size:Int)) (.ptr x5 0) x6 (.str s) (.rs false 1 o 0 size size) H0 H'∧H'[o]?=some (.cells (zB size size))∧H'[x5]?=some (.cells x0.cells):=by
 intro k
 induction k with
 | zero =>
  intro i Hc hk hi ho h5 hne
  obtain rfl:i=size:=by omega
  have hlt:decide ((i:Int) < (i:Int))=false:=decide_eq_false (by omega)
  rw [L16_TemplateLimits_L1_eq]
  simp only [go_sem,hlt]
  exact ⟨Hc,rfl,ho,h5⟩
 | succ k ih =>
  intro i Hc hk hi ho h5 hne
  have hL:i < size:=by omega
  have hlt:decide ((i:Int) < (size:Int))=true:=decide_eq_true (by omega)
  have hix:aindexS 1 (.rs false 1 o 0 size size) (.int .i64 (i:Int))=some (.ptr o (0+i * 1)):=by
   unfold aindexS
   dsimp only
   rw [if_pos (by omega),Int.toNat_natCast]
  have hst:astoreU 1 (.ptr o (0+i * 1)) (.int .u8 98) Hc=some (.tuple [],Hc.set o (.cells (zB size (i+1)))):=by
   rw [astore_of (sz:=1) (v:=.int .u8 98) ho rfl rfl (by simp [zB];omega)]
   show some (AV.tuple [],Hc.set o (.cells (splice (zB size i) (0+i * 1) [AV.int .u8 98])))=_
   rw [zB_set hL]
  obtain ⟨H',r1,r2,r3⟩:=ih (i+1) (Hc.set o (.cells (zB size (i+1)))) (by omega) (by omega) (get_set_eq _ ho) (get_set_ne _ hne.symm h5) hne
  refine ⟨H',?_,r2,r3⟩
  rw [L16_TemplateLimits_L1_eq]
  simp only [go_sem,hlt,L16_TemplateLimits_J6_eq,hix,hst,L16_TemplateLimits_J7_eq,wsucc (n:=i) (by omega)]
  exact r1
theorem aS_succ (i:Nat):aS i++[97]=aS (i+1):=by unfold aS;rw [List.replicate_succ']
theorem let_loop {n : Nat} (hn : n ≤ 8) (x1 x5 x6 x9 : AV) (H0 H : Hp) : ∀ (k i : Nat), n - i = k → i ≤ n →
    L16_TemplateLimits_L2 (.int .i64 (n:Int)) x1 x5 x6 (.str (aS i)) x9 (.int .i64 (i:Int)) H0 H=L16_TemplateLimits_J2 (.int .i64 (n:Int)) x1 x5 x6 (.str (aS n)) x9 H0 H:=by
 intro k
 induction k with
 | zero =>
  intro i hk hi
  obtain rfl:i=n:=by omega
  have hlt:decide ((i:Int) < (i:Int))=false:=decide_eq_false (by omega)
  rw [L16_TemplateLimits_L2_eq]
  simp only [go_sem,hlt]
 | succ k ih =>
  intro i hk hi
  have hlt:decide ((i:Int) < (n:Int))=true:=decide_eq_true (by omega)
  have hadd:sbin .add (.str (aS i)) (.str [97])=some (.str (aS (i+1))):=by rw [sbin_add (by rw [aS_len];simp;omega),aS_succ]
  rw [L16_TemplateLimits_L2_eq]
  simp only [go_sem,hlt,L16_TemplateLimits_J8_eq,hadd,L16_TemplateLimits_J9_eq,wsucc (n:=i) (by omega)]
  exact ih (i+1) (by omega) (by omega)
theorem Limits_law (a b:Int) (H:Hp) (awake:∀ H,flatC C_L16_awake [] H=some (.bool true,H)):∃ H',C_L16_TemplateLimits [.int .i64 a,.int .i64 b] H=some (.bool true,H'):=by
 rw [F_L16_TemplateLimits_eq]
 unfold F_L16_TemplateLimits
 by_cases h1:a < 1
 ·have e1:decide (a < 1)=true:=decide_eq_true h1
  simp only [go_sem,e1,awake]
  exact ⟨_,rfl⟩
 have e1:decide (a < 1)=false:=decide_eq_false h1
 by_cases h2:8 < a
 ·have e2:decide (8 < a)=true:=decide_eq_true h2
  simp only [go_sem,e1,e2,awake]
  exact ⟨_,rfl⟩
 have e2:decide (8 < a)=false:=decide_eq_false h2
 by_cases h3:b < 1
 ·have e3:decide (b < 1)=true:=decide_eq_true h3
  simp only [go_sem,e1,e2,e3,awake]
  exact ⟨_,rfl⟩
 have e3:decide (b < 1)=false:=decide_eq_false h3
 by_cases h4:70000 < b
 ·have e4:decide (70000 < b)=true:=decide_eq_true h4
  simp only [go_sem,e1,e2,e3,e4,awake]
  exact ⟨_,rfl⟩
 have e4:decide (70000 < b)=false:=decide_eq_false h4
 obtain ⟨n,rfl⟩:∃ n:Nat,a=(n:Int):=⟨a.toNat,by omega⟩
 obtain ⟨size,rfl⟩:∃ n:Nat,b=(n:Int):=⟨b.toNat,by omega⟩
 have hn1:1≤n:=by omega
 have hn8:n≤8:=by omega
 have hs1:1≤size:=by omega
 have hs7:size≤70000:=by omega
 obtain ⟨dl,d1,d2⟩:=compile_a H
 have hst:astoreU 12 (.ptr H.length 0) x0 (H++[AObj.cells [(.str []),(.int .i64 0),(.int .i64 0),(.int .i64 0),(.int .u64 0),(.int .u64 0),(.int .u64 0),(.int .u64 0),(.int .i64 0),(.int .i64 0),(.int .i64 0),.nils]])=some (.tuple [],H++[AObj.cells x0.cells]):=by
  rw [astore_of (sz:=12) (v:=x0) (l:=[(.str []),(.int .i64 0),(.int .i64 0),(.int .i64 0),(.int .u64 0),(.int .u64 0),(.int .u64 0),(.int .u64 0),(.int .i64 0),(.int .i64 0),(.int .i64 0),.nils]) (by simp) rfl rfl (by simp)]
  have:splice [(.str []),(.int .i64 0),(.int .i64 0),(.int .i64 0),(.int .u64 0),(.int .u64 0),(.int .u64 0),(.int .u64 0),(.int .i64 0),(.int .i64 0),(.int .i64 0),.nils] 0 x0.cells=x0.cells:=rfl
  rw [this]
  simp
 have hmk:amake 1 1 false (.int .u8 0) (.int .i64 (size:Int)) (.int .i64 (size:Int)) (H++[AObj.cells x0.cells])=some (.rs false 1 (H.length+1) 0 size size,H++[AObj.cells x0.cells]++[.cells (zB size 0)]):=by
  have hfit:fits (size:Int).toNat 1=true:=by simp [fits];omega
  unfold amake
  dsimp only
  rw [if_pos ⟨by omega,by omega,rfl,rfl,by omega,hfit⟩,if_neg (by omega)]
  have hz:(List.replicate (size:Int).toNat (AV.int .u8 0).cells).flatten=zB size 0:=by simp [zB,AV.cells,List.flatten_replicate_singleton]
  rw [hz,Int.toNat_natCast]
  simp
 obtain ⟨H1,r1,r2,r3⟩:=fill_loop (n:=n) (size:=size) (o:=H.length+1) (x5:=H.length) (s:=aS n) hs7 (.int .i64 0) H size 0 (H++[AObj.cells x0.cells]++[.cells (zB size 0)]) (by omega) (by omega) (by simp) (by simp) (by omega)
 have hld:aload true 12 (.ptr H.length 0) H1=some x0:=by rw [aload_of r3];rfl
 have g1:((afill [(0,1,(.int .i64 1)),(2,1,.str (bS size))] [(.int .i64 0),(.int .i64 0),(.str [])]).map AV.agg)=some (.agg (ptC ⟨1,0,bS size⟩)):=rfl
 have g2:((setElems 3 [(0,.agg (ptC ⟨1,0,bS size⟩))] [(.agg [(.int .i64 0),(.int .i64 0),(.str [])])]).map (AV.vs 3 .clip))=some (wL size):=rfl
 obtain ⟨H2,q⟩:=rep_spec hn1 hn8 hs7 H1
 have e00:((0:Int) != 0)=false:=rfl
 have e0:((0:Int) == 0)=true:=rfl
 have e33:((3:Int) == 3)=true:=rfl
 have hms:n * size≤560000:=by
  have:=Nat.mul_le_mul hn8 hs7
  omega
 have hmul:IntKind.i64.wrap ((n:Int) * (size:Int))=((n * size:Nat):Int):=by
  rw [show (n:Int) * (size:Int)=((n * size:Nat):Int) by simp]
  exact wnat (by omega)
 have hl2:=let_loop hn8 (.int .i64 (size:Int)) (.ptr H.length 0) (.int .i64 0) (.rs false 1 (H.length+1) 0 size size) H (H++[AObj.cells x0.cells]++[.cells (zB size 0)]) n 0 (by omega) (by omega)
 have haS:aS 0=[]:=rfl
 rw [haS] at hl2
 simp only [go_sem,e1,e2,e3,e4,L16_TemplateLimits_J1_eq,d1,d2,List.getElem?_cons_zero,List.getElem?_cons_succ,hst,hmk]
 rw [show ((0:Nat):Int)=0 from rfl] at hl2 r1
 rw [hl2,L16_TemplateLimits_J2_eq,r1,L16_TemplateLimits_J3_eq]
 by_cases hbig:n * size≤65536
 ·rw [if_pos hbig] at q
  have hgt:decide ((65536:Int) < ((n * size:Nat):Int))=false:=decide_eq_false (by omega)
  have ebl:(((bS (n * size)).length:Int) == ((n * size:Nat):Int))=true:=by rw [bS_len];simp
  have enn:((n:Int) == (n:Int))=true:=by simp
  simp only [hld,go_sem,rd_bytes r2,g1,g2,q,List.getElem?_cons_zero,List.getElem?_cons_succ,e00,L16_TemplateLimits_J4_eq,hmul,hgt,L16_TemplateLimits_J5_eq,ebl,enn,e0,awake]
  exact ⟨_,rfl⟩
 ·rw [if_neg hbig] at q
  have hgt:decide ((65536:Int) < ((n * size:Nat):Int))=true:=decide_eq_true (by omega)
  have ess:(([]:List UInt8) == [])=true:=rfl
  simp only [hld,go_sem,rd_bytes r2,g1,g2,q,List.getElem?_cons_zero,List.getElem?_cons_succ,e00,L16_TemplateLimits_J4_eq,hmul,hgt,ess,e0,e33,awake]
  exact ⟨_,rfl⟩
end Go.Am
