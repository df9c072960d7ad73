/-
  The simulation's object in the machine: its parts, begins, ends, the stack.
-/
import Derived.Test.YtpahcdhligjdiaaRcAqx
import Derived.Test.YtpahcdhligjdiaaRcGSx
import Derived.Test.YtpahcdhligjdiaaRcAnx
namespace Go.Am
set_option linter.unusedSimpArgs false
set_option linter.unusedVariables false
set_option maxRecDepth 100000

def simC (xv:AV) (lines:Bool) (s:List UInt8) (mk:List Int) (g:Int) (x:AV):List AV:=[xv,.bool lines,.str s]++(mk.map (fun n=>AV.int .i64 n)++[.int .i64 g,x])
structure SimAt (H:Hp) (so:Nat) (xv:AV) (lines:Bool) (s:List UInt8) (mk:List Int) (g:Int) (x:AV):Prop where
 at_:H[so]?=some (.cells (simC xv lines s mk g x))
 len:mk.length=4096
section
variable {H:Hp} {so:Nat} {xv x:AV} {lines:Bool} {s:List UInt8} {mk:List Int} {g:Int}
theorem simC_len (h:mk.length=4096):(simC xv lines s mk g x).length=4101:=by
 unfold simC
 simp only [List.length_append,List.length_map,List.length_cons,List.length_nil,h]
theorem simC_mk (h:mk.length=4096) {k:Nat} (hk:k < 4096):(simC xv lines s mk g x)[3+k]?=some (.int .i64 (mk.getD k 0)):=by
 unfold simC
 rw [List.getElem?_append_right (by simp only [List.length_cons,List.length_nil];omega)]
 have e:3+k - [xv,AV.bool lines,AV.str s].length=k:=by simp only [List.length_cons,List.length_nil];omega
 rw [e,List.getElem?_append_left (by rw [List.length_map];omega),List.getElem?_map,List.getD_eq_getElem?_getD,List.getElem?_eq_getElem (by omega)]
 rfl
theorem simC_g (h:mk.length=4096):(simC xv lines s mk g x)[4099]?=some (.int .i64 g)∧(simC xv lines s mk g x)[4100]?=some x:=by
 unfold simC
 refine ⟨?_,?_⟩
 all_goals
  rw [List.getElem?_append_right (by simp only [List.length_cons,List.length_nil];omega),List.getElem?_append_right (by simp only [List.length_cons,List.length_nil,List.length_map];omega)]
  simp only [List.length_cons,List.length_nil,List.length_map,h]
  rfl
theorem SimAt.ldP (h:SimAt H so xv lines s mk g x):aload false 1 (.ptr so (0+0+0)) H=some xv:=by rw [aload_of h.at_];rfl
theorem SimAt.ldL (h:SimAt H so xv lines s mk g x):aload false 1 (.ptr so (0+0+1)) H=some (.bool lines):=by rw [aload_of h.at_];rfl
theorem SimAt.ldS (h:SimAt H so xv lines s mk g x):aload false 1 (.ptr so (0+2)) H=some (.str s):=by rw [aload_of h.at_];rfl
theorem SimAt.ldM (h:SimAt H so xv lines s mk g x) {k:Nat} (hk:k < 4096):aload false 1 (.ptr so (3+k)) H=some (.int .i64 (mk.getD k 0)):=by
 rw [aload_of h.at_]
 exact simC_mk h.len hk
theorem SimAt.ldG (h:SimAt H so xv lines s mk g x):aload false 1 (.ptr so (0+4099)) H=some (.int .i64 g):=by
 rw [aload_of h.at_]
 exact (simC_g h.len).1
theorem SimAt.ldX (h:SimAt H so xv lines s mk g x):aload false 1 (.ptr so (0+4100)) H=some x:=by
 rw [aload_of h.at_]
 exact (simC_g h.len).2
theorem splice_one (l:List AV) (k:Nat) (v:AV) (hk:k < l.length):splice l k [v]=l.set k v:=by
 unfold splice
 rw [List.set_eq_take_append_cons_drop,if_pos hk]
 simp
theorem simC_setM (h:mk.length=4096) {k:Nat} (hk:k < 4096) (v:Int):(simC xv lines s mk g x).set (3+k) (.int .i64 v)=simC xv lines s (mk.set k v) g x:=by
 unfold simC
 rw [List.set_append,if_neg (by simp only [List.length_cons,List.length_nil];omega)]
 have e:3+k - [xv,AV.bool lines,AV.str s].length=k:=by simp only [List.length_cons,List.length_nil];omega
 rw [e,List.set_append,if_pos (by rw [List.length_map];omega),List.map_set]
theorem simC_setG (h:mk.length=4096) (v:Int) (y:AV):(simC xv lines s mk g x).set 4099 (.int .i64 v)=simC xv lines s mk v x∧(simC xv lines s mk g x).set 4100 y=simC xv lines s mk g y:=by
 unfold simC
 refine ⟨?_,?_⟩
 all_goals
  rw [List.set_append,if_neg (by simp only [List.length_cons,List.length_nil];omega),List.set_append,if_neg (by simp only [List.length_cons,List.length_nil,List.length_map];omega)]
  simp only [List.length_cons,List.length_nil,List.length_map,h]
  rfl
theorem SimAt.stM (h:SimAt H so xv lines s mk g x) {k:Nat} (hk:k < 4096) (v:Int):∃ H',astoreU 1 (.ptr so (3+k)) (.int .i64 v) H=some (.tuple [],H')∧SimAt H' so xv lines s (mk.set k v) g x∧Kpt [so] H H':=by
 have hl:=simC_len (xv:=xv) (x:=x) (lines:=lines) (s:=s) (g:=g) h.len
 refine ⟨_,astore_of (sz:=1) (v:=.int .i64 v) h.at_ rfl rfl (by rw [hl];omega),⟨?_,by rw [List.length_set];exact h.len⟩,Kpt.set _ _ (by simp)⟩
 rw [get_set_eq _ h.at_]
 show some (AObj.cells (splice _ _ [AV.int .i64 v]))=_
 rw [splice_one _ _ _ (by rw [hl];omega),simC_setM h.len hk]
theorem SimAt.stG (h:SimAt H so xv lines s mk g x) (v:Int):∃ H',astoreU 1 (.ptr so (0+4099)) (.int .i64 v) H=some (.tuple [],H')∧SimAt H' so xv lines s mk v x∧Kpt [so] H H':=by
 have hl:=simC_len (xv:=xv) (x:=x) (lines:=lines) (s:=s) (g:=g) h.len
 refine ⟨_,astore_of (sz:=1) (v:=.int .i64 v) h.at_ rfl rfl (by rw [hl];exact (by decide:0+4099+1≤4101)),⟨?_,h.len⟩,Kpt.set _ _ (by simp)⟩
 rw [get_set_eq _ h.at_]
 show some (AObj.cells (splice _ (0+4099) [AV.int .i64 v]))=_
 rw [Nat.zero_add,splice_one _ _ _ (by rw [hl];decide),(simC_setG h.len v .nils).1]
theorem SimAt.stX (h:SimAt H so xv lines s mk g x) {y:AV} (hy:y.cells=[y]∧y.known=true):∃ H',astoreU 1 (.ptr so (0+4100)) y H=some (.tuple [],H')∧SimAt H' so xv lines s mk g y∧Kpt [so] H H':=by
 have hl:=simC_len (xv:=xv) (x:=x) (lines:=lines) (s:=s) (g:=g) h.len
 refine ⟨_,astore_of (sz:=1) (v:=y) h.at_ hy.2 (by rw [hy.1];rfl) (by rw [hl];exact (by decide:0+4100+1≤4101)),⟨?_,h.len⟩,Kpt.set _ _ (by simp)⟩
 rw [get_set_eq _ h.at_,hy.1,Nat.zero_add,splice_one _ _ _ (by rw [hl];decide),(simC_setG h.len 0 y).2]
theorem SimAt.kept {H':Hp} {W:List Nat} (h:SimAt H so xv lines s mk g x) (hk:Kpt W H H') (hn:so ∉ W):SimAt H' so xv lines s mk g x:=⟨hk.get h.at_ hn,h.len⟩
theorem begins_run (h:SimAt H so xv lines s mk g x) {i:Nat} (hi:i≤s.length) (hs:s.length≤9000000000):roC C_resim_simulation_begins [.ptr so 0,.int .i64 (i:Int)] H=some (.bool (holdsM s lines 4 i),H):=by
 have key:C_resim_simulation_begins [.ptr so 0,.int .i64 (i:Int)] H=some (.bool (holdsM s lines 4 i),H):=by
  rw [F_resim_simulation_begins_eq]
  unfold F_resim_simulation_begins holdsM
  rw [if_pos rfl]
  by_cases h0:i=0
  ·subst h0
   have e0:((((0:Nat):Int)) == 0)=true:=rfl
   simp only [go_sem,e0]
   rfl
  ·have e0:(((i:Int)) == 0)=false:=by simp;omega
   have e0':(i == 0)=false:=by simp [h0]
   have hw:IntKind.i64.wrap ((i:Int) - 1)=((i - 1:Nat):Int):=by rw [wrap64 (by omega) (by omega)];omega
   cases lines with
   | true=>simp only [go_sem,e0,h.ldL,h.ldS,hw,aix (show i - 1 < s.length by omega),u8ten,e0',Bool.false_or,Bool.true_and]
   | false=>simp only [go_sem,e0,h.ldL,e0',Bool.false_or,Bool.false_and]
 exact ro_of key (by simp) rfl
theorem sends_run (h:SimAt H so xv lines s mk g x) {i:Nat} (hi:i≤s.length) (hs:s.length≤9000000000):roC C_resim_simulation_ends [.ptr so 0,.int .i64 (i:Int)] H=some (.bool (holdsM s lines 5 i),H):=by
 have len0:alenD .string (.str s)=some (.int .i64 (s.length:Int)):=rfl
 have key:C_resim_simulation_ends [.ptr so 0,.int .i64 (i:Int)] H=some (.bool (holdsM s lines 5 i),H):=by
  rw [F_resim_simulation_ends_eq]
  unfold F_resim_simulation_ends holdsM
  rw [if_neg (by decide)]
  by_cases h0:i=s.length
  ·have e0:(((i:Int)) == (s.length:Int))=true:=by simp [h0]
   have e0':(i == s.length)=true:=by simp [h0]
   simp only [go_sem,h.ldS,len0,e0,e0',Bool.true_or]
  ·have e0:(((i:Int)) == (s.length:Int))=false:=by simp;omega
   have e0':(i == s.length)=false:=by simp [h0]
   cases lines with
   | true=>simp only [go_sem,h.ldS,len0,e0,h.ldL,aix (show i < s.length by omega),u8ten,e0',Bool.false_or,Bool.true_and]
   | false=>simp only [go_sem,h.ldS,len0,e0,h.ldL,e0',Bool.false_or,Bool.false_and]
 exact ro_of key (by simp) rfl
end
end Go.Am
namespace Go.Am
set_option linter.unusedSimpArgs false
set_option linter.unusedVariables false
set_option maxRecDepth 100000

def Sk (H:Hp) (x:AV) (t:List Nat):Prop:=x=.nils∧t=[] ∨ ∃ o e l,x=.ws false 1 o e t.length∧H[o]?=some (.row e l)∧t.length≤l.length∧l.take t.length=jV t.reverse
theorem jV_len (t:List Nat):(jV t).length=t.length:=by simp [jV]
theorem jV_cells (t:List Nat):((jV t).map AV.cells).flatten=jV t:=by
 induction t with
 | nil=>rfl
 | cons k l ih =>
  have:jV (k :: l)=.int .i64 (k:Int) :: jV l:=rfl
  rw [this,List.map_cons,List.flatten_cons,ih]
  rfl
theorem jV_two (a b:List Nat):jV (a++b)=jV a++jV b:=by simp [jV]
section
variable {H:Hp} {x:AV} {t:List Nat}
theorem Sk.len (h:Sk H x t):alenD (.slice 3) x=some (.int .i64 (t.length:Int)):=by
 rcases h with ⟨rfl,rfl⟩ | ⟨o,e,l,rfl,_⟩ <;> rfl
theorem Sk.known (h:Sk H x t):x.cells=[x]∧x.known=true:=by
 rcases h with ⟨rfl,rfl⟩ | ⟨o,e,l,rfl,_⟩ <;> exact ⟨rfl,rfl⟩
theorem Sk.kept {H':Hp} {W:List Nat} (h:Sk H x t) (hk:Kpt W H H') (hn:∀ a ∈ rowA x,a ∉ W):Sk H' x t:=by
 rcases h with h | ⟨o,e,l,h1,h2,h3⟩
 ·exact .inl h
 ·exact .inr ⟨o,e,l,h1,hk.get h2 (hn o (by rw [h1];simp [rowA])),h3⟩
theorem Sk.notrow (h:Sk H x t) {q:Nat} {c:List AV} (hq:H[q]?=some (.cells c)):q ∉ rowA x:=by
 rcases h with ⟨rfl,rfl⟩ | ⟨o,e,l,rfl,h2,_⟩
 ·simp [rowA]
 ·intro hm
  rw [List.mem_singleton.1 hm,h2] at hq
  cases hq
theorem Sk.top {k:Nat} (h:Sk H x (k :: t)):∃ q,aindexS 1 x (.int .i64 (t.length:Int))=some q∧aload false 1 q H=some (.int .i64 (k:Int)):=by
 rcases h with ⟨_,h⟩ | ⟨o,e,l,rfl,h2,h3,h4⟩
 ·cases h
 ·refine ⟨.wp o e (t.length * 1),?_,?_⟩
  ·unfold aindexS
   dsimp only
   rw [if_pos (by rw [List.length_cons];omega),Int.toNat_natCast]
  ·have hg : l[t.length]? = some (.int .i64 (k : Int)) := by
      rw [← List.getElem?_take_of_lt (show t.length < (k :: t).length by simp),h4]
      have hr:jV (k :: t).reverse=jV t.reverse++[.int .i64 (k:Int)]:=by rw [List.reverse_cons,jV_two];rfl
      rw [hr,List.getElem?_append_right (by rw [jV_len,List.length_reverse];exact Nat.le_refl _),jV_len,List.length_reverse,Nat.sub_self]
      rfl
   unfold aload
   simp only [h2,if_true]
   unfold Go.Am.apart
   rw [if_neg (by decide),Nat.mul_one,hg]
theorem Sk.cut (h:Sk H x t) (n:Nat) (hn:n≤t.length):∃ x',asliceV 1 x none (some (.int .i64 (n:Int))) none=some x'∧Sk H x' (t.drop (t.length - n))∧rowA x'=rowA x:=by
 rcases h with ⟨rfl,rfl⟩ | ⟨o,e,l,rfl,h2,h3,h4⟩
 ·have:n=0:=by simpa using hn
  subst this
  exact ⟨.nils,rfl,.inl ⟨rfl,rfl⟩,rfl⟩
 ·have hl:(t.drop (t.length - n)).length=n:=by rw [List.length_drop];omega
  refine ⟨.ws false 1 o e n,?_,.inr ⟨o,e,l,by rw [hl],h2,by omega,?_⟩,rfl⟩
  ·unfold asliceV
   dsimp only
   have hb:abound (.int .i64 (n:Int)) t.length=some n:=by
    unfold abound
    dsimp only
    rw [if_pos (by omega),Int.toNat_natCast]
   rw [hb]
   rfl
  ·rw [hl]
   have e1:l.take n=(l.take t.length).take n:=by rw [List.take_take,Nat.min_eq_left hn]
   rw [e1,h4]
   have e2:t.reverse=(t.drop (t.length - n)).reverse++(t.take (t.length - n)).reverse:=by
    rw [← List.reverse_append,List.take_append_drop]
   rw [e2,jV_two,List.take_left' (by rw [jV_len,List.length_reverse,hl])]
theorem Sk.push (h : Sk H x t) {ks : List Nat} (hk : ks ≠ []) (hb : (t.length + ks.length) * 9 ≤ 140737488355328) :
    ∃ x' H',aappEL false 1 8 x (.vs 1 .clip (jV ks)) H=some (x',H')∧Sk H' x' (ks.reverse++t)∧Kpt (rowA x) H H'∧∀ q ∈ rowA x',q ∈ rowA x ∨ q=H.length:=by
 have hne:jV ks ≠ []:=by
  intro h
  have:=jV_len ks
  rw [h] at this
  exact hk (List.length_eq_zero_iff.1 this.symm)
 unfold aappEL
 have he:Go.Am.elems 1 (.vs 1 .clip (jV ks)) H=some (jV ks):=by simp [elems]
 rw [he]
 dsimp only
 have hrev:(ks.reverse++t).reverse=t.reverse++ks:=by simp
 have hlen:(ks.reverse++t).length=t.length+ks.length:=by simp;omega
 rcases h with ⟨rfl,rfl⟩ | ⟨o,e,l,rfl,h2,h3,h4⟩
 ·have hf1 : fits (jV ks).length 8 = true := by
     rw [jV_len]
     simp only [List.length_nil,Nat.zero_add] at hb
     simpa [fits] using hb
  refine ⟨.ws false 1 H.length 0 (jV ks).length,H++[.row 0 (jV ks)],?_,.inr ⟨H.length,0,jV ks,by rw [hlen,jV_len];simp,by simp,by rw [hlen,jV_len];simp,?_⟩,Kpt.push _ _ _,fun q hq=>.inr (List.mem_singleton.1 hq)⟩
  ·unfold aappL
   dsimp only
   rw [if_neg hne,if_pos hf1,jV_cells]
  ·rw [hrev,hlen,List.take_of_length_le (by rw [jV_len];simp)]
   rfl
 ·have hf1 : fits (t.length + (jV ks).length) 8 = true := by
     rw [jV_len]
     simpa [fits] using hb
  refine ⟨.ws false 1 o (e+1) (t.length+(jV ks).length),H.set o (.row (e+1) (jV t.reverse++jV ks)),?_,.inr ⟨o,e+1,jV t.reverse++jV ks,by rw [hlen,jV_len],get_set_eq _ h2,by rw [hlen,List.length_append,jV_len,jV_len,List.length_reverse];exact Nat.le_refl _,?_⟩,Kpt.set _ _ (by simp [rowA]),fun q hq=>.inl (by simpa [rowA] using hq)⟩
  ·unfold aappL
   dsimp only
   rw [if_pos ⟨rfl,rfl,hf1⟩,if_neg hne]
   simp only [h2]
   rw [if_pos ⟨trivial,by omega⟩,jV_cells,cutL_eq,Nat.mul_one,h4]
  ·rw [hrev,jV_two,hlen,List.take_of_length_le (by rw [List.length_append,jV_len,jV_len,List.length_reverse];exact Nat.le_refl _)]
end
end Go.Am
namespace Go.Am
set_option linter.unusedSimpArgs false
set_option linter.unusedVariables false
set_option maxRecDepth 100000

theorem RowB.app2 {n k : Nat} {H : Hp} {x : AV} {l : List AV} (h : RowB n H k x l) (hn : n ≤ H.length) (bytes : Nat) (y : AV) (a : AV) (hy : elems k y H = some [a]) (hf : (l.length + 1) * (bytes + 1) ≤ 140737488355328) :
    ∃ x' H',aappE k bytes x y H=some (x',H')∧RowB n H' k x' (l++[a])∧H.length≤H'.length∧(∀ i,i < n→H'[i]?=H[i]?)∧(∀ (i:Nat) (c:List AV),H[i]?=some (.cells c)→H'[i]?=some (.cells c)) ∧
     (∀ (i e:Nat) (c:List AV),H[i]?=some (.row e c)→H'[i]?=some (.row e c)):=by
 unfold aappE
 simp only [hy]
 rcases h with ⟨rfl,rfl⟩ | ⟨t,e,rfl,ht,hnt⟩
 ·have hfit:fits [a].length bytes=true:=by simpa [fits] using hf
  refine ⟨.vs k (.own H.length 1) [a],H++[.tok 1],?_,.inr ⟨H.length,1,rfl,by simp,hn⟩,by simp,fun i hi=>by rw [List.getElem?_append_left (by omega)],fun i c h=>get_push h _,fun i e c h=>get_push h _⟩
  simp only [aappend,hfit,if_true]
  rw [if_neg (by simp)]
  rfl
 ·have hfit:fits (l.length+[a].length) bytes=true:=by simpa [fits] using hf
  refine ⟨_,_,by simp only [aappend,hfit,and_self,if_true,ht];rw [if_neg (by simp)];rfl,.inr ⟨t,e+1,rfl,get_set_eq _ ht,hnt⟩,by simp,fun i hi=>by rw [List.getElem?_set_ne (by omega)],fun i c h=>?_,fun i e c h=>?_⟩
  ·refine get_set_ne _ (fun he=>?_) h
   rw [he,h] at ht
   cases ht
  ·refine get_set_ne _ (fun he=>?_) h
   rw [he,h] at ht
   cases ht
def thV (st:Int) (acc:List Nat):List AV:=acc.map fun (k:Nat)=>AV.agg [.int .i64 (k:Int),.int .i64 st]
structure RI (Hb H:Hp) (so:Nat) (xv:AV) (lines:Bool) (s:List UInt8) (g:Int) (x:AV) (t:List Nat) (mkB:List Bool) (st:Int) (y:AV) (acc:List Nat):Prop where
 sim:∃ mk,SimAt H so xv lines s mk g x∧(∀ k,k < 4096→(mk.getD k 0 == g)=mkB.getD k false)∧∀ k,k < 4096→mk.getD k 0≤g
 sk:Sk H x t
 row:RowB Hb.length H 2 y (thV st acc)
 kpt:Kpt [] Hb H
 hso:Hb.length≤so
 hst:∀ a ∈ rowA x,Hb.length≤a
section
variable {Hb H:Hp} {so:Nat} {xv:AV} {lines:Bool} {s:List UInt8} {g:Int} {x:AV} {t:List Nat} {mkB:List Bool} {st:Int} {y:AV} {acc:List Nat}
theorem RowB.keptC {n k:Nat} {H H':Hp} {x:AV} {l:List AV} {W:List Nat} (h:RowB n H k x l) (hk:Kpt W H H') (hn:∀ q e,q ∈ W→H[q]? ≠ some (.tok e)):RowB n H' k x l:=h.mono fun i e hi=>hk.get hi (fun hm=>hn i e hm hi)
theorem Sk.notok (h:Sk H x t) {q e:Nat} (hm:q ∈ rowA x):H[q]? ≠ some (.tok e):=fun hq=>by
 rcases h with ⟨rfl,_⟩ | ⟨o,e,l,rfl,h2,_⟩
 ·cases hm
 ·rw [List.mem_singleton.1 hm,h2] at hq
  cases hq
theorem RI.setX (h : RI Hb H so xv lines s g x t mkB st y acc) {x' : AV} {t' : List Nat} (hk : Sk H x' t') (hr : rowA x' = rowA x) :
    ∃ H',astoreU 1 (.ptr so (0+4100)) x' H=some (.tuple [],H')∧RI Hb H' so xv lines s g x' t' mkB st y acc:=by
 obtain ⟨mk,h1,h2⟩:=h.sim
 obtain ⟨H',r1,r2,r3⟩:=h1.stX hk.known
 have hns:so ∉ rowA x':=hk.notrow h1.at_
 have hso:=h.hso
 refine ⟨H',r1,⟨mk,r2,h2⟩,hk.kept r3 (fun a ha hm=>hns (by rw [← List.mem_singleton.1 hm];exact ha)),h.row.keptC r3 (fun q e hq hh=>by rw [List.mem_singleton.1 hq,h1.at_] at hh;cases hh),h.kpt.base r3 (by simpa using hso),h.hso,by rw [hr];exact h.hst⟩
theorem RI.push (h : RI Hb H so xv lines s g x t mkB st y acc) {ks : List Nat} (hks : ks ≠ []) (hb : (t.length + ks.length) * 9 ≤ 140737488355328) :
    ∃ x' H1 H2,aappEL false 1 8 x (.vs 1 .clip (jV ks)) H=some (x',H1)∧astoreU 1 (.ptr so (0+4100)) x' H1=some (.tuple [],H2)∧RI Hb H2 so xv lines s g x' (ks.reverse++t) mkB st y acc:=by
 obtain ⟨mk,h1,h2⟩:=h.sim
 obtain ⟨x',H1,p1,p2,p3,p4⟩:=h.sk.push hks hb
 have hns:so ∉ rowA x:=h.sk.notrow h1.at_
 have h1':SimAt H1 so xv lines s mk g x:=h1.kept p3 hns
 obtain ⟨H2,r1,r2,r3⟩:=h1'.stX p2.known
 have hns2:so ∉ rowA x':=p2.notrow h1'.at_
 have hso:=h.hso
 have hle:=h.kpt.1
 have hst':∀ a ∈ rowA x',Hb.length≤a:=fun a ha=>by
  rcases p4 a ha with hh | hh
  ·exact h.hst a hh
  ·omega
 refine ⟨x',H1,H2,p1,r1,⟨mk,r2,h2⟩,p2.kept r3 (fun a ha hm=>hns2 (by rw [← List.mem_singleton.1 hm];exact ha)),(h.row.keptC p3 (fun q e hq=>h.sk.notok hq)).keptC r3 (fun q e hq hh=>by rw [List.mem_singleton.1 hq,h1'.at_] at hh;cases hh),(h.kpt.base p3 h.hst).base r3 (by simpa using hso),h.hso,hst'⟩
theorem RI.mark (h : RI Hb H so xv lines s g x t mkB st y acc) {k : Nat} (hk : k < 4096) (hl : mkB.length = 4096) :
    ∃ H',astoreU 1 (.ptr so (3+k)) (.int .i64 g) H=some (.tuple [],H')∧RI Hb H' so xv lines s g x t (mkB.set k true) st y acc:=by
 obtain ⟨mk,h1,h2⟩:=h.sim
 obtain ⟨H',r1,r2,r3⟩:=h1.stM hk g
 have hns:so ∉ rowA x:=h.sk.notrow h1.at_
 have hso:=h.hso
 have hml:=h1.len
 refine ⟨H',r1,⟨_,r2,fun q hq=>?_,fun q hq=>?_⟩,h.sk.kept r3 (fun a ha hm=>hns (by rw [← List.mem_singleton.1 hm];exact ha)),h.row.keptC r3 (fun q e hq hh=>by rw [List.mem_singleton.1 hq,h1.at_] at hh;cases hh),h.kpt.base r3 (by simpa using hso),h.hso,h.hst⟩
 case refine_2 =>
  rw [List.getD_eq_getElem?_getD,List.getElem?_set]
  by_cases hkq:k=q
  ·subst hkq
   rw [if_pos rfl,if_pos (by omega)]
   exact Int.le_refl _
  ·rw [if_neg hkq,← List.getD_eq_getElem?_getD]
   exact h2.2 q hq
 rw [List.getD_eq_getElem?_getD,List.getElem?_set,List.getD_eq_getElem?_getD,List.getElem?_set]
 by_cases hkq:k=q
 ·subst hkq
  rw [if_pos rfl,if_pos rfl,if_pos (by omega),if_pos (by omega)]
  simp
 ·rw [if_neg hkq,if_neg hkq,← List.getD_eq_getElem?_getD,← List.getD_eq_getElem?_getD]
  exact h2.1 q hq
theorem RI.push1 (h:RI Hb H so xv lines s g x t mkB st y acc) (o:AObj):RI Hb (H++[o]) so xv lines s g x t mkB st y acc:=by
 obtain ⟨mk,h1,h2⟩:=h.sim
 have hk:=Kpt.push [] H [o]
 exact ⟨⟨mk,h1.kept hk (by simp),h2⟩,h.sk.kept hk (by simp),h.row.keptC hk (by simp),h.kpt.trans hk,h.hso,h.hst⟩
theorem RI.list (h : RI Hb H so xv lines s g x t mkB st y acc) (k : Nat) (hb : acc.length ≤ 100000) :
    ∃ y' H',aappE 2 16 y (.vs 2 .clip [.agg [.int .i64 (k:Int),.int .i64 st]]) H=some (y',H')∧RI Hb H' so xv lines s g x t mkB st y' (acc++[k]):=by
 obtain ⟨mk,h1,h2⟩:=h.sim
 obtain ⟨y',H',r1,r2,r3,r4,r5,r6⟩:=h.row.app2 h.kpt.1 16 (.vs 2 .clip [.agg [.int .i64 (k:Int),.int .i64 st]]) (.agg [.int .i64 (k:Int),.int .i64 st]) rfl (by simp [thV];omega)
 have e:thV st (acc++[k])=thV st acc++[.agg [.int .i64 (k:Int),.int .i64 st]]:=by simp [thV]
 have hle:=h.kpt.1
 refine ⟨y',H',r1,⟨mk,⟨r5 _ _ h1.at_,h1.len⟩,h2⟩,?_,by rw [e];exact r2,⟨by omega,fun q hq _=>by rw [r4 q hq];exact h.kpt.2 q hq (by simp)⟩,h.hso,h.hst⟩
 rcases h.sk with hh | ⟨o,e,l,a1,a2,a3⟩
 ·exact .inl hh
 ·exact .inr ⟨o,e,l,a1,r6 _ _ _ a2,a3⟩
end
end Go.Am
namespace Go.Am
set_option linter.unusedSimpArgs false
set_option linter.unusedVariables false
set_option maxRecDepth 100000

section
variable {p:List In} {Hb H:Hp} {so:Nat} {xv:AV} {lines:Bool} {s:List UInt8} {g:Int} {x:AV} {t:List Nat} {mkB:List Bool} {st:Int} {y:AV} {acc:List Nat}
theorem RI.ldX (h:RI Hb H so xv lines s g x t mkB st y acc):aload false 1 (.ptr so (0+4100)) H=some x:=by obtain ⟨mk,h1,_⟩:=h.sim;exact h1.ldX
theorem RI.ldP (h:RI Hb H so xv lines s g x t mkB st y acc):aload false 1 (.ptr so (0+0+0)) H=some xv:=by obtain ⟨mk,h1,_⟩:=h.sim;exact h1.ldP
theorem RI.ldG (h:RI Hb H so xv lines s g x t mkB st y acc):aload false 1 (.ptr so (0+4099)) H=some (.int .i64 g):=by obtain ⟨mk,h1,_⟩:=h.sim;exact h1.ldG
theorem RI.ldM (h:RI Hb H so xv lines s g x t mkB st y acc) {k:Nat} (hk:k < 4096):∃ m,aload false 1 (.ptr so (3+k)) H=some (.int .i64 m)∧(m == g)=mkB.getD k false:=by obtain ⟨mk,h1,h2⟩:=h.sim;exact ⟨_,h1.ldM hk,h2.1 k hk⟩
theorem mk_ix (so k:Nat) (hk:k < 4096):aindexA 4096 1 (.ptr so (0+3)) (.int .i64 (k:Int))=some (.ptr so (3+k)):=by
 unfold aindexA
 dsimp only
 rw [if_pos (by omega),Int.toNat_natCast,Nat.mul_one,afield_ptr,Nat.zero_add]
theorem one_jV {v:Int} (h:0≤v):((setElems 1 [(0,AV.int .i64 v)] [(.int .i64 0)]).map (AV.vs 1 .clip))=some (.vs 1 .clip (jV [v.toNat])):=by
 have:v=((v.toNat:Nat):Int):=by omega
 rw [this]
 rfl
theorem two_jV {v w:Int} (h:0≤v) (h':0≤w):((setElems 1 [(0,AV.int .i64 v),(1,AV.int .i64 w)] [(.int .i64 0),(.int .i64 0)]).map (AV.vs 1 .clip))=some (.vs 1 .clip (jV [v.toNat,w.toNat])):=by
 have e:v=((v.toNat:Nat):Int):=by omega
 have e':w=((w.toNat:Nat):Int):=by omega
 rw [e,e']
 rfl
theorem one_n (n:Nat):((setElems 1 [(0,AV.int .i64 (n:Int))] [(.int .i64 0)]).map (AV.vs 1 .clip))=some (.vs 1 .clip (jV [n])):=rfl
theorem sreach_loop (hp : OkP p) (hc : SlC 7 xv (p.map inV)) {i : Nat} (hi : i ≤ s.length) (hs : s.length ≤ 9000000000) (H0 : Hp) :
    ∀ (f:Nat) (t:List Nat) (mkB:List Bool) (acc:List Nat) (H:Hp) (y x:AV),RI Hb H so xv lines s g x t mkB st y acc→(∀ k ∈ t,k < p.length)→mkB.length=4096→2 * mkB.count false+t.length≤f→f≤100000→acc.length+mkB.count false≤50000 →
    ∃ y' H' x',resim_simulation_reach_L1 (.ptr so 0) y (.int .i64 st) (.int .i64 (i:Int)) H0 H=some (y',H')∧RI Hb H' so xv lines s g x' [] (dfs p s lines i f t mkB acc).1 st y' (dfs p s lines i f t mkB acc).2:=by
 have nil:∀ (mkB:List Bool) (acc:List Nat) (H:Hp) (y x:AV),RI Hb H so xv lines s g x [] mkB st y acc→resim_simulation_reach_L1 (.ptr so 0) y (.int .i64 st) (.int .i64 (i:Int)) H0 H=some (y,H):=fun mkB acc H y x h=>by
  have hlt:decide ((0:Int) < ((([]:List Nat).length:Nat):Int))=false:=rfl
  rw [resim_simulation_reach_L1_eq]
  simp only [go_sem,h.ldX,h.sk.len,hlt,resim_simulation_reach_J1_eq]
 intro f
 induction f with
 | zero =>
  intro t mkB acc H y x h _ _ hf _ _
  have ht:t=[]:=List.length_eq_zero_iff.1 (by omega)
  subst ht
  rw [dfs]
  exact ⟨y,H,x,nil mkB acc H y x h,h⟩
 | succ f ih =>
  intro t mkB acc H y x h ht hml hf hfb hab
  cases t with
  | nil=>rw [dfs];exact ⟨y,H,x,nil mkB acc H y x h,h⟩
  | cons k t =>
   rw [List.length_cons] at hf
   have hkp:=ht k (by simp)
   have hk4:k < 4096:=Nat.lt_of_lt_of_le hkp hp.le
   have hlt:decide ((0:Int) < (((k :: t).length:Nat):Int))=true:=decide_eq_true (by rw [List.length_cons];omega)
   have hsub:IntKind.i64.wrap ((((k :: t).length:Nat):Int) - 1)=(t.length:Int):=by rw [List.length_cons,wrap64 (by omega) (by omega)];omega
   obtain ⟨q,q1,q2⟩:=h.sk.top
   obtain ⟨x',c1,c2,c3⟩:=h.sk.cut t.length (by simp)
   have hdr:(k :: t).drop ((k :: t).length - t.length)=t:=by
    rw [List.length_cons,Nat.add_sub_cancel_left]
    rfl
   rw [hdr] at c2
   obtain ⟨H1,s1,s2⟩:=h.setX c2 c3
   obtain ⟨m,m1,m2⟩:=s2.ldM hk4
   have ix:=mk_ix so k hk4
   rw [resim_simulation_reach_L1_eq,dfs]
   cases hm:mkB.getD k false with
   | true =>
    rw [hm] at m2
    rw [if_pos rfl]
    simp only [go_sem,h.ldX,h.sk.len,hlt,resim_simulation_reach_J2_eq,hsub,q1,q2,c1,s1,ix,m1,s2.ldG,m2]
    exact ih t mkB acc H1 y x' s2 (fun a ha=>ht a (by simp [ha])) hml (by omega) (by omega) hab
   | false =>
    rw [hm] at m2
    rw [if_neg (by decide)]
    have hcnt:=count_set (sn:=mkB) (by omega) hm
    obtain ⟨H2,t1,t2⟩:=s2.mark hk4 hml
    have t3:=t2.push1 (.cells (inC (inAt p k)))
    obtain ⟨o1,o2,o3,_⟩:=ld_in (get_push_len H2 (AObj.cells (inC (inAt p k))) [])
    have hx:=hp.x k hkp
    have hy:=hp.y k hkp
    have hsl:(mkB.set k true).length=4096:=by rw [List.length_set];exact hml
    have hst:∀ a ∈ t,a < p.length:=fun a ha=>ht a (by simp [ha])
    by_cases h3:(inAt p k).op=3
    ·have e3:((inAt p k).op == 3)=true:=by simp [h3]
     have hl:leafB p k=false:=by unfold leafB;rw [h3];rfl
     have hpu:pushL p s lines i k=[(inAt p k).x.toNat]:=by unfold pushL;rw [if_pos h3]
     obtain ⟨x2,H3,H4,p1,p2,p3⟩:=t3.push (ks:=[(inAt p k).x.toNat]) (by simp) (by simp;omega)
     rw [hl,if_neg (by decide),hpu]
     simp only [go_sem,h.ldX,h.sk.len,hlt,resim_simulation_reach_J2_eq,hsub,q1,q2,c1,s1,ix,m1,m2,resim_simulation_reach_J3_eq,s2.ldG,t1,t2.ldP,code_idx hc hkp,aload_vp_in,alloc_in,o1,e3,t3.ldX,o2,one_jV hx.1,p1,p2]
     exact ih _ _ _ H4 y x2 p3 (fun a ha=>by
      rcases List.mem_append.1 ha with ha | ha
      ·have:=List.mem_singleton.1 (by simpa using ha:a ∈ [(inAt p k).x.toNat]);omega
      ·exact hst a ha) hsl (by simp;omega) (by omega) (by omega)
    have e3:((inAt p k).op == 3)=false:=by simp [h3]
    by_cases h2:(inAt p k).op=2
    ·have e2:((inAt p k).op == 2)=true:=by simp [h2]
     have hl:leafB p k=false:=by unfold leafB;rw [h2];rfl
     have hpu:pushL p s lines i k=[(inAt p k).x.toNat,(inAt p k).y.toNat]:=by unfold pushL;rw [if_neg h3,if_pos h2]
     obtain ⟨x2,H3,H4,p1,p2,p3⟩:=t3.push (ks:=[(inAt p k).y.toNat,(inAt p k).x.toNat]) (by simp) (by simp;omega)
     rw [hl,if_neg (by decide),hpu]
     simp only [go_sem,h.ldX,h.sk.len,hlt,resim_simulation_reach_J2_eq,hsub,q1,q2,c1,s1,ix,m1,m2,resim_simulation_reach_J3_eq,s2.ldG,t1,t2.ldP,code_idx hc hkp,aload_vp_in,alloc_in,o1,e3,e2,t3.ldX,o2,o3,two_jV hy.1 hx.1,p1,p2]
     exact ih _ _ _ H4 y x2 p3 (fun a ha=>by
      have ha:a=(inAt p k).x.toNat ∨ a=(inAt p k).y.toNat ∨ a ∈ t:=by simpa using ha
      rcases ha with ha | ha | ha
      ·omega
      ·omega
      ·exact hst a ha) hsl (by simp;omega) (by omega) (by omega)
    have e2:((inAt p k).op == 2)=false:=by simp [h2]
    by_cases h4:(inAt p k).op=4
    ·have e4:((inAt p k).op == 4)=true:=by simp [h4]
     have hl:leafB p k=false:=by unfold leafB;rw [h4];rfl
     obtain ⟨mk3,sim3,_⟩:=t3.sim
     have hbr:=begins_run sim3 hi hs
     rw [hl,if_neg (by decide)]
     cases hh:holdsM s lines 4 i with
     | true =>
      have hpu:pushL p s lines i k=[k+1]:=by unfold pushL;rw [if_neg h3,if_neg h2,if_pos (.inl h4),h4,if_pos hh]
      rw [hh] at hbr
      obtain ⟨x2,H3,H4,p1,p2,p3⟩:=t3.push (ks:=[k+1]) (by simp) (by simp;omega)
      have hk1:=ep_lt (s:=s) (lines:=lines) (i:=i) hp hkp ((push_ep hp hkp (k+1)).1 (by rw [hpu];simp))
      rw [hpu]
      simp only [go_sem,h.ldX,h.sk.len,hlt,resim_simulation_reach_J2_eq,hsub,q1,q2,c1,s1,ix,m1,m2,resim_simulation_reach_J3_eq,s2.ldG,t1,t2.ldP,code_idx hc hkp,aload_vp_in,alloc_in,o1,e3,e2,e4,hbr,t3.ldX,wsucc (n:=k) (by omega),one_n,p1,p2]
      exact ih _ _ _ H4 y x2 p3 (fun a ha=>by
       have ha:a=k+1 ∨ a ∈ t:=by simpa using ha
       rcases ha with ha | ha
       ·omega
       ·exact hst a ha) hsl (by simp;omega) (by omega) (by omega)
     | false =>
      have hpu:pushL p s lines i k=[]:=by unfold pushL;rw [if_neg h3,if_neg h2,if_pos (.inl h4),h4,if_neg (by rw [hh];decide)]
      rw [hh] at hbr
      rw [hpu]
      simp only [go_sem,h.ldX,h.sk.len,hlt,resim_simulation_reach_J2_eq,hsub,q1,q2,c1,s1,ix,m1,m2,resim_simulation_reach_J3_eq,s2.ldG,t1,t2.ldP,code_idx hc hkp,aload_vp_in,alloc_in,o1,e3,e2,e4,hbr]
      exact ih _ _ _ _ y x' t3 hst hsl (by simp;omega) (by omega) (by omega)
    have e4:((inAt p k).op == 4)=false:=by simp [h4]
    by_cases h5:(inAt p k).op=5
    ·have e5:((inAt p k).op == 5)=true:=by simp [h5]
     have hl:leafB p k=false:=by unfold leafB;rw [h5];rfl
     obtain ⟨mk3,sim3,_⟩:=t3.sim
     have hbr:=sends_run sim3 hi hs
     rw [hl,if_neg (by decide)]
     cases hh:holdsM s lines 5 i with
     | true =>
      have hpu:pushL p s lines i k=[k+1]:=by unfold pushL;rw [if_neg h3,if_neg h2,if_pos (.inr h5),h5,if_pos hh]
      rw [hh] at hbr
      obtain ⟨x2,H3,H4,p1,p2,p3⟩:=t3.push (ks:=[k+1]) (by simp) (by simp;omega)
      have hk1:=ep_lt (s:=s) (lines:=lines) (i:=i) hp hkp ((push_ep hp hkp (k+1)).1 (by rw [hpu];simp))
      rw [hpu]
      simp only [go_sem,h.ldX,h.sk.len,hlt,resim_simulation_reach_J2_eq,hsub,q1,q2,c1,s1,ix,m1,m2,resim_simulation_reach_J3_eq,s2.ldG,t1,t2.ldP,code_idx hc hkp,aload_vp_in,alloc_in,o1,e3,e2,e4,e5,hbr,t3.ldX,wsucc (n:=k) (by omega),one_n,p1,p2]
      exact ih _ _ _ H4 y x2 p3 (fun a ha=>by
       have ha:a=k+1 ∨ a ∈ t:=by simpa using ha
       rcases ha with ha | ha
       ·omega
       ·exact hst a ha) hsl (by simp;omega) (by omega) (by omega)
     | false =>
      have hpu:pushL p s lines i k=[]:=by unfold pushL;rw [if_neg h3,if_neg h2,if_pos (.inr h5),h5,if_neg (by rw [hh];decide)]
      rw [hh] at hbr
      rw [hpu]
      simp only [go_sem,h.ldX,h.sk.len,hlt,resim_simulation_reach_J2_eq,hsub,q1,q2,c1,s1,ix,m1,m2,resim_simulation_reach_J3_eq,s2.ldG,t1,t2.ldP,code_idx hc hkp,aload_vp_in,alloc_in,o1,e3,e2,e4,e5,hbr]
      exact ih _ _ _ _ y x' t3 hst hsl (by simp;omega) (by omega) (by omega)
    ·have e5:((inAt p k).op == 5)=false:=by simp [h5]
     have hl:leafB p k=true:=by unfold leafB;simp [h2,h3,h4,h5]
     have hpu:pushL p s lines i k=[]:=by unfold pushL;rw [if_neg h3,if_neg h2,if_neg (by omega)]
     obtain ⟨y2,H4,p1,p2⟩:=t3.list k (by omega)
     have ea:((afill [(0,1,.int .i64 (k:Int)),(1,1,.int .i64 st)] [(.int .i64 0),(.int .i64 0)]).map AV.agg)=some (.agg [.int .i64 (k:Int),.int .i64 st]):=rfl
     have eb:((setElems 2 [(0,AV.agg [.int .i64 (k:Int),.int .i64 st])] [(.agg [(.int .i64 0),(.int .i64 0)])]).map (AV.vs 2 .clip))=some (.vs 2 .clip [.agg [.int .i64 (k:Int),.int .i64 st]]):=rfl
     rw [hl,if_pos rfl,hpu]
     simp only [go_sem,h.ldX,h.sk.len,hlt,resim_simulation_reach_J2_eq,hsub,q1,q2,c1,s1,ix,m1,m2,resim_simulation_reach_J3_eq,s2.ldG,t1,t2.ldP,code_idx hc hkp,aload_vp_in,alloc_in,o1,e3,e2,e4,e5,ea,eb,p1]
     exact ih _ _ _ H4 y2 x' p2 hst hsl (by simp;omega) (by omega) (by rw [List.length_append,List.length_singleton];omega)
end
end Go.Am
namespace Go.Am
set_option linter.unusedSimpArgs false
set_option linter.unusedVariables false
set_option maxRecDepth 100000

section
variable {p:List In} {Hb H:Hp} {so:Nat} {xv:AV} {lines:Bool} {s:List UInt8} {g:Int} {x:AV} {t:List Nat} {mkB:List Bool} {st:Int} {y:AV} {acc:List Nat}
theorem RI.pushOn (h : RI Hb H so xv lines s g x t mkB st y acc) {x1 : AV} {t1 : List Nat} (hk : Sk H x1 t1) (hr : rowA x1 = rowA x) {ks : List Nat} (hks : ks ≠ []) (hb : (t1.length + ks.length) * 9 ≤ 140737488355328) :
    ∃ x' H1 H2,aappEL false 1 8 x1 (.vs 1 .clip (jV ks)) H=some (x',H1)∧astoreU 1 (.ptr so (0+4100)) x' H1=some (.tuple [],H2)∧RI Hb H2 so xv lines s g x' (ks.reverse++t1) mkB st y acc:=by
 obtain ⟨mk,h1,h2⟩:=h.sim
 obtain ⟨x',H1,p1,p2,p3,p4⟩:=hk.push hks hb
 have hns:so ∉ rowA x1:=hk.notrow h1.at_
 have h1':SimAt H1 so xv lines s mk g x:=h1.kept p3 hns
 obtain ⟨H2,r1,r2,r3⟩:=h1'.stX p2.known
 have hns2:so ∉ rowA x':=p2.notrow h1'.at_
 have hso:=h.hso
 have hle:=h.kpt.1
 have hst1:∀ a ∈ rowA x1,Hb.length≤a:=by rw [hr];exact h.hst
 have hst':∀ a ∈ rowA x',Hb.length≤a:=fun a ha=>by
  rcases p4 a ha with hh | hh
  ·exact hst1 a hh
  ·omega
 exact ⟨x',H1,H2,p1,r1,⟨mk,r2,h2⟩,p2.kept r3 (fun a ha hm=>hns2 (by rw [← List.mem_singleton.1 hm];exact ha)),(h.row.keptC p3 (fun q e hq=>hk.notok hq)).keptC r3 (fun q e hq hh=>by rw [List.mem_singleton.1 hq,h1'.at_] at hh;cases hh),(h.kpt.base p3 hst1).base r3 (by simpa using hso),h.hso,hst'⟩
theorem sreach_run (hp : OkP p) (hc : SlC 7 xv (p.map inV)) {i : Nat} (hi : i ≤ s.length) (hs : s.length ≤ 9000000000) {k : Nat} (hk : k < p.length) (hml : mkB.length = 4096) (hab : acc.length ≤ 4096) (h : RI Hb H so xv lines s g x t mkB st y acc) :
    ∃ y' H' x',C_resim_simulation_reach [.ptr so 0,y,.int .i64 (k:Int),.int .i64 st,.int .i64 (i:Int)] H=some (y',H')∧RI Hb H' so xv lines s g x' [] (dfs p s lines i 8193 [k] mkB acc).1 st y' (dfs p s lines i 8193 [k] mkB acc).2:=by
 obtain ⟨x1,c1,c2,c3⟩:=h.sk.cut 0 (Nat.zero_le _)
 have hdr:t.drop (t.length - 0)=[]:=List.drop_eq_nil_iff.2 (by omega)
 rw [hdr] at c2
 have i0:(((0:Nat):Int))=0:=rfl
 rw [i0] at c1
 obtain ⟨x2,H1,H2,p1,p2,p3⟩:=h.pushOn c2 c3 (ks:=[k]) (by simp) (by simp)
 have hcount:mkB.count false≤4096:=by rw [← hml];exact List.count_le_length
 obtain ⟨y',H',x',r1,r2⟩:=sreach_loop hp hc hi hs H 8193 [k] mkB acc H2 y x2 p3 (by simpa using hk) hml (by rw [List.length_singleton];omega) (by omega) (by omega)
 rw [F_resim_simulation_reach_eq]
 unfold F_resim_simulation_reach
 simp only [go_sem,h.ldX,c1,one_n,p1,p2]
 exact ⟨y',H',x',r1,r2⟩
end
end Go.Am
namespace Go.Am
set_option linter.unusedSimpArgs false
set_option linter.unusedVariables false
set_option maxRecDepth 100000

theorem all_run (v:Int) (w:Int) (H:Hp):acall cfg (callw cfg) (.fn (.func 32) [] []) [.agg [.int .i64 v,.int .i64 w]] H=some (.bool true,H++[.cells [.int .i64 v,.int .i64 w]]):=by
 have h:=F_resim_all_eq (.agg [.int .i64 v,.int .i64 w]) H
 have h2:acall cfg (callw cfg) (.fn (.func 32) [] []) [.agg [.int .i64 v,.int .i64 w]] H=C_resim_all [.agg [.int .i64 v,.int .i64 w]] H:=by kernel_rfl
 rw [h2,h]
 rfl
theorem dfs_bound (p:List In) (s:List UInt8) (lines:Bool) (i:Nat):∀ (f:Nat) (t:List Nat) (mk:List Bool) (acc:List Nat),(∀ k ∈ t,k < p.length)→(∀ k ∈ t,k < mk.length)→OkP p→p.length≤mk.length→(dfs p s lines i f t mk acc).2.length+(dfs p s lines i f t mk acc).1.count false≤acc.length+mk.count false∧(dfs p s lines i f t mk acc).1.length=mk.length
 | 0,t,mk,acc,_,_,_,_=>by rw [dfs];exact ⟨Nat.le_refl _,rfl⟩
 | f+1,[],mk,acc,_,_,_,_=>by rw [dfs];exact ⟨Nat.le_refl _,rfl⟩
 | f+1,k :: t,mk,acc,h,hm,hp,hl=>by
  rw [dfs]
  cases hk:mk.getD k false with
  | true =>
   rw [if_pos rfl]
   exact dfs_bound p s lines i f t mk acc (fun a ha=>h a (by simp [ha])) (fun a ha=>hm a (by simp [ha])) hp hl
  | false =>
   rw [if_neg (by decide)]
   have hc:=count_set (sn:=mk) (hm k (by simp)) hk
   have hkp:=h k (by simp)
   have hin:∀ a ∈ pushL p s lines i k++t,a < p.length:=fun a ha=>by
    rcases List.mem_append.1 ha with ha | ha
    ·exact ep_lt hp hkp ((push_ep hp hkp a).1 ha)
    ·exact h a (by simp [ha])
   obtain ⟨b1,b2⟩:=dfs_bound p s lines i f (pushL p s lines i k++t) (mk.set k true) (if leafB p k=true then acc++[k] else acc) hin (fun a ha=>by rw [List.length_set];exact Nat.lt_of_lt_of_le (hin a ha) hl) hp (by rw [List.length_set];exact hl)
   refine ⟨Nat.le_trans b1 ?_,b2.trans (List.length_set ..)⟩
   split
   ·rw [List.length_append,List.length_singleton];omega
   ·omega
theorem alloc_sp (H:Hp) (a b:Int):astoreU 2 (.ptr H.length 0) (.agg [.int .i64 a,.int .i64 b]) (H++[AObj.cells [(.int .i64 0),(.int .i64 0)]])=some (.tuple [],H++[.cells [.int .i64 a,.int .i64 b]]):=by
 rw [st2 (get_push_len H _ []) a b]
 simp
end Go.Am
namespace Go.Am
set_option linter.unusedSimpArgs false
set_option linter.unusedVariables false
set_option maxRecDepth 100000

section
variable {p:List In} {Hb:Hp} {so:Nat} {xv:AV} {lines:Bool} {s:List UInt8} {g:Int} {st:Int}
theorem thV_idx {ts:List Nat} {tg:Tok} {n:Nat} (hn:n < ts.length):aindexS 2 (.vs 2 tg (thV st ts)) (.int .i64 (n:Int))=some (.vp [.int .i64 (ts[n]:Int),.int .i64 st]):=by
 unfold aindexS
 dsimp only
 rw [if_pos ⟨rfl,by omega⟩,Int.toNat_natCast]
 unfold thV
 rw [List.getElem?_map,List.getElem?_eq_getElem hn]
 rfl
theorem snext_loop (hp : OkP p) (hc : SlC 7 xv (p.map inV)) {i : Nat} (hi : i < s.length) (hs : s.length ≤ 9000000000) (H0 : Hp) {ts : List Nat} {tg : Tok} (hts : ∀ q ∈ ts, q < p.length) (hb : ts.length ≤ 100000) :
    ∀ (k n:Nat) (mkB:List Bool) (acc:List Nat) (H:Hp) (y x:AV) (t0:List Nat),ts.length - n=k→n≤ts.length→RI Hb H so xv lines s g x t0 mkB st y acc→mkB.length=4096→acc.length+mkB.count false≤4096 →
    ∃ y' H' x' t',resim_simulation_next_L1 (.ptr so 0) (.int .i64 (i:Int)) (.fn (.func 32) [] []) y (.vs 2 tg (thV st ts)) (.int .i64 (ts.length:Int)) (.int .i64 (n:Int)) H0 H=some (y',H') ∧
     RI Hb H' so xv lines s g x' t' ((ts.drop n).foldl (stepD p s lines i) (mkB,acc)).1 st y' ((ts.drop n).foldl (stepD p s lines i) (mkB,acc)).2:=by
 intro k
 induction k with
 | zero =>
  intro n mkB acc H y x t0 hk hn h hml hab
  have hlt:decide ((n:Int) < (ts.length:Int))=false:=decide_eq_false (by omega)
  have hdr:ts.drop n=[]:=List.drop_eq_nil_iff.2 (by omega)
  rw [resim_simulation_next_L1_eq,hdr]
  simp only [go_sem,hlt,resim_simulation_next_J1_eq]
  exact ⟨y,H,x,t0,rfl,h⟩
 | succ k ihk =>
  intro n mkB acc H y x t0 hk hn h hml hab
  have hL:n < ts.length:=by omega
  have hlt:decide ((n:Int) < (ts.length:Int))=true:=decide_eq_true (by omega)
  have hdr:=List.drop_eq_getElem_cons hL
  have hkp:=hts _ (List.getElem_mem hL)
  obtain ⟨j,hj⟩:∃ j,j=ts[n]:=⟨_,rfl⟩
  rw [← hj] at hkp hdr
  have hix:=thV_idx (st:=st) (tg:=tg) hL
  rw [← hj] at hix
  have lv:∀ W:Hp,aload true 2 (.vp [.int .i64 (j:Int),.int .i64 st]) W=some (.agg [.int .i64 (j:Int),.int .i64 st]):=fun _=>rfl
  have h1:=h.push1 (.cells [.int .i64 (j:Int),.int .i64 st])
  have gj:=get_push_len H (AObj.cells [.int .i64 (j:Int),.int .i64 st]) []
  have h2:=h1.push1 (.cells (inC (inAt p j)))
  have gi:=get_push_len (H++[AObj.cells [.int .i64 (j:Int),.int .i64 st]]) (AObj.cells (inC (inAt p j))) []
  have gj2:=get_push gj [AObj.cells (inC (inAt p j))]
  obtain ⟨o1,o2,o3,o4⟩:=ld_in gi
  have d0:∀ {W:Hp},W[H.length]?=some (.cells [.int .i64 (j:Int),.int .i64 st])→aload false 1 (.ptr H.length (0+0)) W=some (.int .i64 (j:Int)):=fun h=>by rw [aload_of h];rfl
  have d1:∀ {W:Hp},W[H.length]?=some (.cells [.int .i64 (j:Int),.int .i64 st])→aload false 1 (.ptr H.length (0+1)) W=some (.int .i64 st):=fun h=>by rw [aload_of h];rfl
  have d2:∀ {W:Hp},W[H.length]?=some (.cells [.int .i64 (j:Int),.int .i64 st])→aload true 2 (.ptr H.length 0) W=some (.agg [.int .i64 (j:Int),.int .i64 st]):=fun h=>by rw [aload_of h];rfl
  have h3:=h2.push1 (.cells [.int .i64 (j:Int),.int .i64 st])
  have gj3:=get_push gj2 [AObj.cells [.int .i64 (j:Int),.int .i64 st]]
  have gi3:=get_push gi [AObj.cells [.int .i64 (j:Int),.int .i64 st]]
  obtain ⟨_,_,_,o43⟩:=ld_in gi3
  obtain ⟨mk3,sim3,_⟩:=h3.sim
  rw [hdr,List.foldl_cons,resim_simulation_next_L1_eq]
  by_cases c1:(inAt p j).op=1
  ·have b1:((inAt p j).op == 1)=true:=by simp [c1]
   cases hh:hasM (inAt p j) (s.getD i 0) with
   | true =>
    have he:stepD p s lines i (mkB,acc) j=dfs p s lines (i+1) 8193 [j+1] mkB acc:=by unfold stepD;rw [if_pos ⟨c1,hh⟩]
    have hk1:=one_lt hp hkp c1
    have hpl:=hp.le
    obtain ⟨y',H',x',r1,r2⟩:=sreach_run hp hc (i:=i+1) (by omega) hs hk1 hml (by omega) h3
    obtain ⟨e1,e2⟩:=dfs_bound p s lines (i+1) 8193 [j+1] mkB acc (by simpa using hk1) (by intro a ha;rw [List.mem_singleton.1 ha,hml];omega) hp (by omega)
    obtain ⟨y2,H2,x2,t2,u1,u2⟩:=ihk (n+1) _ _ H' y' x' [] (by omega) (by omega) r2 (e2.trans hml) (by omega)
    rw [he]
    have hr:=has_run (inAt p j) (s.getD i 0)
    simp only [hh] at hr
    simp only [go_sem,hlt,resim_simulation_next_J2_eq,hix,lv,alloc_sp,h1.ldP,d0 gj,code_idx hc hkp,aload_vp_in,alloc_in,o1,b1,d2 gj2,all_run,o43,sim3.ldS,aix hi,hr,d0 gj3,d1 gj3,wsucc (n:=j) (by omega),wsucc (n:=i) (by omega),r1,resim_simulation_next_J3_eq,wsucc (n:=n) (by omega),u1]
    exact ⟨y2,H2,x2,t2,rfl,u2⟩
   | false =>
    have he:stepD p s lines i (mkB,acc) j=(mkB,acc):=by unfold stepD;rw [if_neg (by rw [hh];simp)]
    obtain ⟨y2,H2,x2,t2,u1,u2⟩:=ihk (n+1) _ _ _ y x t0 (by omega) (by omega) h3 hml hab
    rw [he]
    have hr:=has_run (inAt p j) (s.getD i 0)
    simp only [hh] at hr
    simp only [go_sem,hlt,resim_simulation_next_J2_eq,hix,lv,alloc_sp,h1.ldP,d0 gj,code_idx hc hkp,aload_vp_in,alloc_in,o1,b1,d2 gj2,all_run,o43,sim3.ldS,aix hi,hr,resim_simulation_next_J3_eq,wsucc (n:=n) (by omega),u1]
    exact ⟨y2,H2,x2,t2,rfl,u2⟩
  ·have b1:((inAt p j).op == 1)=false:=by simp [c1]
   have he:stepD p s lines i (mkB,acc) j=(mkB,acc):=by unfold stepD;rw [if_neg (fun h=>c1 h.1)]
   obtain ⟨y2,H2,x2,t2,u1,u2⟩:=ihk (n+1) _ _ _ y x t0 (by omega) (by omega) h2 hml hab
   rw [he]
   simp only [go_sem,hlt,resim_simulation_next_J2_eq,hix,lv,alloc_sp,h1.ldP,d0 gj,code_idx hc hkp,aload_vp_in,alloc_in,o1,b1,resim_simulation_next_J3_eq,wsucc (n:=n) (by omega),u1]
   exact ⟨y2,H2,x2,t2,rfl,u2⟩
end
end Go.Am
namespace Go.Am
set_option linter.unusedSimpArgs false
set_option linter.unusedVariables false
set_option maxRecDepth 100000

section
variable {p:List In} {Hb H:Hp} {so:Nat} {xv:AV} {lines:Bool} {s:List UInt8} {g:Int} {x:AV} {t:List Nat} {mkB:List Bool} {st:Int} {y:AV} {acc:List Nat}
theorem RI.gen (h : RI Hb H so xv lines s g x t mkB st y acc) (hg : 0 ≤ g ∧ g ≤ 1000000000) :
    ∃ H',astoreU 1 (.ptr so (0+4099)) (.int .i64 (g+1)) H=some (.tuple [],H')∧RI Hb H' so xv lines s (g+1) x t (List.replicate 4096 false) st .nils []∧∃ W,Kpt [so] H H'∧W=H':=by
 obtain ⟨mk,h1,h2,h3⟩:=h.sim
 obtain ⟨H',r1,r2,r3⟩:=h1.stG (g+1)
 have hns:so ∉ rowA x:=h.sk.notrow h1.at_
 have hso:=h.hso
 refine ⟨H',r1,⟨⟨mk,r2,fun k hk=>?_,fun k hk=>by have:=h3 k hk;omega⟩,h.sk.kept r3 (fun a ha hm=>hns (by rw [← List.mem_singleton.1 hm];exact ha)),.inl ⟨rfl,rfl⟩,h.kpt.base r3 (by simpa using hso),h.hso,h.hst⟩,H',r3,rfl⟩
 have:=h3 k hk
 rw [List.getD_eq_getElem?_getD (l:=List.replicate 4096 false),List.getElem?_replicate,if_pos hk]
 show _=false
 rw [beq_eq_false_iff_ne]
 omega
theorem snext_run (hp : OkP p) (hc : SlC 7 xv (p.map inV)) {i : Nat} (hi : i < s.length) (hs : s.length ≤ 9000000000) {ts : List Nat} {z : AV} (hz : z = .nils ∧ ts = [] ∨ ∃ tg, z = .vs 2 tg (thV st ts)) (hts : ∀ q ∈ ts, q < p.length) (hb : ts.length ≤ 100000) (hg : 0 ≤ g ∧ g ≤ 1000000000)
    (h:RI Hb H so xv lines s g x t mkB st y acc) :
    ∃ y' H' x' t' mk',C_resim_simulation_next [.ptr so 0,z,.int .i64 (i:Int),.fn (.func 32) [] []] H=some (y',H')∧RI Hb H' so xv lines s (g+1) x' t' mk' st y' (nextD p s lines i ts):=by
 obtain ⟨H1,r1,r2,_⟩:=h.gen hg
 have hw:IntKind.i64.wrap (g+1)=g+1:=wrap64 (by omega) (by omega)
 have i0:(((0:Nat):Int))=0:=rfl
 rw [F_resim_simulation_next_eq]
 unfold F_resim_simulation_next
 rcases hz with ⟨rfl,rfl⟩ | ⟨tg,rfl⟩
 ·have l0:alenD (.slice 87) .nils=some (.int .i64 0):=rfl
  have e0:decide ((0:Int) < 0)=false:=rfl
  simp only [go_sem,h.ldG,hw,r1,l0,resim_simulation_next_L1_eq,e0,resim_simulation_next_J1_eq]
  exact ⟨_,H1,x,t,_,rfl,r2⟩
 ·have l0 : alenD (.slice 87) (.vs 2 tg (thV st ts)) = some (.int .i64 (ts.length : Int)) := by
     show some (AV.int .i64 ((thV st ts).length:Int))=_
     simp [thV]
  obtain ⟨y',H',x',t',u1,u2⟩:=snext_loop hp hc hi hs H (tg:=tg) hts hb ts.length 0 _ [] H1 .nils x t rfl (by omega) r2 (List.length_replicate ..) (by rw [List.count_replicate_self];exact Nat.le_refl _)
  rw [i0] at u1
  simp only [go_sem,h.ldG,hw,r1,l0,u1]
  exact ⟨y',H',x',t',_,rfl,u2⟩
end
end Go.Am
namespace Go.Am
set_option linter.unusedSimpArgs false
set_option linter.unusedVariables false
set_option maxRecDepth 100000

section
variable {p:List In} {Hb:Hp} {so:Nat} {xv:AV} {lines:Bool} {s:List UInt8} {st:Int}
theorem thr_loop (hp : OkP p) (hc : SlC 7 xv (p.map inV)) {j : Nat} (hj : j ≤ s.length) (hs : s.length ≤ 900000000) (H0 : Hp) :
    ∀ (n i:Nat) (g:Int) (ts:List Nat) (mkB:List Bool) (H:Hp) (z x:AV) (t:List Nat) (R:Nat→Prop),j - i=n→i≤j→0≤g→g+n≤1000000000→(∀ k,R k→k < p.length)→Lv p R ts→RI Hb H so xv lines s g x t mkB st z ts →
    ∃ z' H' g' x' t' mk',resim_Threads_L2 (.int .i64 (j:Int)) (.ptr so 0) z (.int .i64 (i:Int)) H0 H=resim_Threads_J2 z' H0 H'∧RI Hb H' so xv lines s g' x' t' mk' st z' (thrD p s lines n i ts):=by
 intro n
 induction n with
 | zero =>
  intro i g ts mkB H z x t R hn hij hg hgn hR hL h
  have hlt:decide ((i:Int) < (j:Int))=false:=decide_eq_false (by omega)
  rw [resim_Threads_L2_eq,thrD]
  simp only [go_sem,hlt]
  exact ⟨z,H,g,x,t,mkB,rfl,h⟩
 | succ n ih =>
  intro i g ts mkB H z x t R hn hij hg hgn hR hL h
  have hlt:decide ((i:Int) < (j:Int))=true:=decide_eq_true (by omega)
  have hz:z=.nils∧ts=[] ∨ ∃ tg,z=.vs 2 tg (thV st ts):=by
   rcases h.row with ⟨h1,h2⟩ | ⟨tg,e,h1,_⟩
   ·refine .inl ⟨h1,?_⟩
    have:=congrArg List.length h2
    simp only [thV,List.length_map,List.length_nil] at this
    exact List.length_eq_zero_iff.1 this
   ·exact .inr ⟨_,h1⟩
  have hle:=nd_len hL.1 hL.2.1
  have hpl:=hp.le
  obtain ⟨y',H1,x1,t1,mk1,r1,r2⟩:=snext_run hp hc (i:=i) (by omega) (by omega) hz hL.2.1 (by omega) (by omega) h
  obtain ⟨z',H',g',x',t',mk',u1,u2⟩:=ih (i+1) (g+1) _ _ H1 y' x1 t1 _ (by omega) (by omega) (by omega) (by omega) (fun k hk=>rc_lt (fun q ⟨_,_,_,_,_,hq⟩=>hq) hk) (next_lv (s:=s) (lines:=lines) (i:=i) hp hR hL) r2
  rw [resim_Threads_L2_eq,thrD]
  simp only [go_sem,hlt,resim_Threads_J6_eq,r1,resim_Threads_J7_eq,wsucc (n:=i) (by omega)]
  exact ⟨z',H',g',x',t',mk',u1,u2⟩
end
end Go.Am
namespace Go.Am
set_option linter.unusedSimpArgs false
set_option linter.unusedVariables false
set_option maxRecDepth 100000

theorem sim_build (tg:Tok) (l:List AV) (b:Bool) (s:List UInt8):abuild Go.Proofs.Try.prog 81 [(0,.agg [.vs 7 tg l,.bool b]),(1,.str s)]=some (.agg (simC (.vs 7 tg l) b s (List.replicate 4096 0) 0 .nils)):=by kernel_rfl
theorem simulate_run (tg : Tok) (l : List AV) (b : Bool) (s : List UInt8) (hv : ∀ H : Hp, flatC C_reprog_Valid [.agg [.vs 7 tg l, .bool b]] H = some (.bool true, H)) (H : Hp) :
    ∃ H',C_resim_simulate [.agg [.vs 7 tg l,.bool b],.str s] H=some (.ptr (H.length+1) 0,H')∧SimAt H' (H.length+1) (.vs 7 tg l) b s (List.replicate 4096 0) 0 .nils∧Kpt [] H H':=by
 have b1:abox (.agg [.vs 7 tg l,.bool b]) H=some (.ptr H.length 0,H++[.cells [.vs 7 tg l,.bool b]]):=rfl
 have g1:=get_push_len H (AObj.cells [.vs 7 tg l,.bool b]) []
 have ld:aload true 2 (.ptr H.length 0) (H++[AObj.cells [.vs 7 tg l,.bool b]])=some (.agg [.vs 7 tg l,.bool b]):=by rw [aload_of g1];rfl
 have hkn:(AV.agg (simC (.vs 7 tg l) b s (List.replicate 4096 0) 0 .nils)).known=true:=by kernel_rfl
 have l1:(H++[AObj.cells [.vs 7 tg l,.bool b]]).length=H.length+1:=by simp
 have b2:=abox_of (H:=H++[AObj.cells [.vs 7 tg l,.bool b]]) hkn
 rw [l1] at b2
 rw [F_resim_simulate_eq]
 unfold F_resim_simulate
 simp only [go_sem,b1,ld,hv,Bool.not_true,resim_simulate_J1_eq,sim_build,b2]
 refine ⟨_,rfl,⟨?_,List.length_replicate ..⟩,(Kpt.push _ _ _).trans (Kpt.push _ _ _)⟩
 rw [← l1]
 exact get_push_len _ _ []
end Go.Am
namespace Go.Am
set_option linter.unusedSimpArgs false
set_option linter.unusedVariables false
set_option maxRecDepth 100000

theorem there_run {H:Hp} {no:Nat} {n v:Int} (h:H[no]?=some (.cells [.int .i64 n])) (hv:0≤v∧v < n):acall cfg (callw cfg) (.fn (.func 68) [] [.ptr no 0]) [.int .i64 v] H=some (.bool true,H):=by
 have h1:=F_reprog_Valid_1_eq (.int .i64 v) (.ptr no 0) H
 have h2:acall cfg (callw cfg) (.fn (.func 68) [] [.ptr no 0]) [.int .i64 v] H=C_reprog_Valid_1 [.int .i64 v,.ptr no 0] H:=by kernel_rfl
 have ld:aload false 1 (.ptr no 0) H=some (.int .i64 n):=by rw [aload_of h];rfl
 have d1:decide (v ≥ 0)=true:=decide_eq_true hv.1
 have d1':decide (0≤v)=true:=decide_eq_true hv.1
 have d2:decide (v < n)=true:=decide_eq_true hv.2
 rw [h2,h1]
 unfold F_reprog_Valid_1
 simp only [go_sem,ld,d1,d1',d2]
section
variable {p:List In} {xv:AV}
theorem valid_loop (hp : OkP p) (hc : SlC 7 xv (p.map inV)) (H0 : Hp) (no : Nat) : ∀ (m i : Nat) (H : Hp), p.length - i = m → i ≤ p.length → H[no]? = some (.cells [.int .i64 (p.length : Int)]) →
    ∃ H',reprog_Valid_L1 (.ptr no 0) (.fn (.func 68) [] [.ptr no 0]) xv (.int .i64 (p.length:Int)) (.int .i64 (i:Int)) H0 H=some (.bool true,H'):=by
 have hpl:=hp.le
 intro m
 induction m with
 | zero =>
  intro i H hm hi h
  have hlt:decide ((i:Int) < (p.length:Int))=false:=decide_eq_false (by omega)
  rw [reprog_Valid_L1_eq]
  simp only [go_sem,hlt,reprog_Valid_J2_eq]
  exact ⟨H,rfl⟩
 | succ m ih =>
  intro i H hm hi h
  have hik:i < p.length:=by omega
  have hlt:decide ((i:Int) < (p.length:Int))=true:=decide_eq_true (by omega)
  have t3:=get_push h [AObj.cells (inC (inAt p i))]
  obtain ⟨o1,o2,o3,_⟩:=ld_in (get_push_len H (AObj.cells (inC (inAt p i))) [])
  have ldn:aload false 1 (.ptr no 0) (H++[.cells (inC (inAt p i))])=some (.int .i64 (p.length:Int)):=by rw [aload_of t3];rfl
  have hsub:IntKind.i64.wrap ((p.length:Int) - 1)=(p.length:Int) - 1:=wrap64 (by omega) (by omega)
  have hx:=there_run t3 (hp.x i hik)
  have hy:=there_run t3 (hp.y i hik)
  obtain ⟨H',ih⟩:=ih (i+1) (H++[.cells (inC (inAt p i))]) (by omega) (by omega) t3
  refine ⟨H',?_⟩
  rw [← ih]
  rw [reprog_Valid_L1_eq]
  by_cases hl:i+1 < p.length
  ·have d1:decide ((i:Int) < (p.length:Int) - 1)=true:=decide_eq_true (by omega)
   rcases hp.ops i hl with e | e | e | e | e
   all_goals
    rw [e] at o1
    simp only [go_sem,hlt,reprog_Valid_J3_eq,code_idx hc hik,aload_vp_in,alloc_in,o1,o2,o3,ldn,hsub,d1,hx,hy,reprog_Valid_J5_eq,reprog_Valid_J4_eq,wsucc (n:=i) (by omega),show ((1:Int) == 1)=true from rfl,show ((2:Int) == 1)=false from rfl,show ((2:Int) == 4)=false from rfl,show ((2:Int) == 5)=false from rfl,show ((2:Int) == 2)=true from rfl,show ((3:Int) == 1)=false from rfl,show ((3:Int) == 4)=false from rfl,show ((3:Int) == 5)=false from rfl,show ((3:Int) == 2)=false from rfl,show ((3:Int) == 3)=true from rfl,show ((4:Int) == 1)=false from rfl,show ((4:Int) == 4)=true from rfl,show ((5:Int) == 1)=false from rfl,show ((5:Int) == 4)=false from rfl,show ((5:Int) == 5)=true from rfl,Bool.not_true]
  ·have hli:i=p.length - 1:=by omega
   have e:(inAt p i).op=6:=by rw [hli];exact hp.last
   rw [e] at o1
   simp only [go_sem,hlt,reprog_Valid_J3_eq,code_idx hc hik,aload_vp_in,alloc_in,o1,o2,o3,ldn,hsub,hx,hy,reprog_Valid_J5_eq,reprog_Valid_J4_eq,wsucc (n:=i) (by omega),show ((6:Int) == 1)=false from rfl,show ((6:Int) == 4)=false from rfl,show ((6:Int) == 5)=false from rfl,show ((6:Int) == 2)=false from rfl,show ((6:Int) == 3)=false from rfl,show ((6:Int) == 6)=true from rfl,Bool.not_true]
theorem close_inV (H:Hp) (n f:Nat) (i:In):closeV H n (f+2) (inV i)=some (inV i):=by
 rw [inV,closeV]
 rfl
theorem close_pr {H:Hp} {n f:Nat} (hc:SlC 7 xv (p.map inV)) (b:Bool):closeV H n (f+4) (.agg [xv,.bool b])=some (.agg [xv,.bool b]):=by
 have h:closeV H n (f+3) xv=some xv:=close_sl hc fun a ha=>by
  obtain ⟨i,_,rfl⟩:=List.mem_map.1 ha
  exact close_inV H n f i
 rw [closeV]
 simp only [List.mapM_cons,List.mapM_nil,h,close_bool]
 rfl
theorem valid_run (hp:OkP p) (hc:SlC 7 xv (p.map inV)) (b:Bool) (H:Hp):flatC C_reprog_Valid [.agg [xv,.bool b]] H=some (.bool true,H):=by
 have hcl:[AV.agg [xv,.bool b]].mapM (closeV [] 0 400)=some [AV.agg [xv,.bool b]]:=by
  simp only [List.mapM_cons,List.mapM_nil,close_pr (f:=396) hc b]
  rfl
 have hk:=hc.known
 have b1:abox (.agg [xv,.bool b]) []=some (.ptr 0 0,[.cells [xv,.bool b]]):=by
  unfold abox
  have:(AV.agg [xv,.bool b]).known=true:=by
   rcases hc with ⟨h,_⟩ | h | h <;> subst h <;> rfl
  simp [this,AV.cells]
 have ld:aload false 1 (.ptr 0 (0+0)) [.cells [xv,.bool b]]=some xv:=rfl
 have st:astoreU 1 (.ptr [AObj.cells [xv,.bool b]].length 0) (.int .i64 (p.length:Int)) ([AObj.cells [xv,.bool b]]++[.cells [.int .i64 0]])=some (.tuple [],[.cells [xv,.bool b],.cells [.int .i64 (p.length:Int)]]):=rfl
 have ldn:aload false 1 (.ptr [AObj.cells [xv,.bool b]].length 0) [.cells [xv,.bool b],.cells [.int .i64 (p.length:Int)]]=some (.int .i64 (p.length:Int)):=rfl
 have ld2:aload false 1 (.ptr 0 (0+0)) [.cells [xv,.bool b],.cells [.int .i64 (p.length:Int)]]=some xv:=rfl
 have hpos:=hp.pos
 have hle:=hp.le
 have d1:decide ((p.length:Int) < 1)=false:=decide_eq_false (by omega)
 have d2:decide ((p.length:Int) > 4096)=false:=decide_eq_false (by omega)
 have d2':decide ((4096:Int) < (p.length:Int))=false:=decide_eq_false (by omega)
 have hlen:alenD (.slice 76) xv=some (.int .i64 (p.length:Int)):=by
  rw [hc.len,List.length_map]
 obtain ⟨H',hl⟩:=valid_loop hp hc ([]:Hp) 1 p.length 0 [.cells [xv,.bool b],.cells [.int .i64 (p.length:Int)]] rfl (Nat.zero_le _) rfl
 refine flatC_of hcl (H1:=H') ?_ rfl
 rw [F_reprog_Valid_eq]
 unfold F_reprog_Valid
 simp only [go_sem,b1,ld,hlen,st,ldn,d1,d2,d2',reprog_Valid_J1_eq,ld2]
 exact hl
end
end Go.Am
namespace Go.Am
set_option linter.unusedSimpArgs false
set_option linter.unusedVariables false
set_option maxRecDepth 100000

theorem elok_j (l:List Nat):∀ a ∈ jV l,ElOk false 1 a:=fun a ha=>by
 obtain ⟨k,_,rfl⟩:=List.mem_map.1 ha
 exact ⟨rfl,rfl,rfl,rfl⟩
theorem ld_th (st:Int) (ts:List Nat) (tg:Tok) {i:Nat} (hi:i < ts.length) (H:Hp):∃ q,aindexS 2 (.vs 2 tg (thV st ts)) (.int .i64 (i:Int))=some q∧aload true 2 q H=some (.agg [.int .i64 ((ts.getD i 0:Nat):Int),.int .i64 st]):=by
 have hg:(thV st ts)[i]?=some (.agg [.int .i64 ((ts.getD i 0:Nat):Int),.int .i64 st]):=by
  unfold thV
  rw [List.getElem?_map,List.getD_eq_getElem?_getD,List.getElem?_eq_getElem hi]
  rfl
 refine ⟨.vp [.int .i64 ((ts.getD i 0:Nat):Int),.int .i64 st],?_,rfl⟩
 have hl:i < (thV st ts).length:=by simpa [thV] using hi
 unfold aindexS
 dsimp only
 rw [if_pos ⟨rfl,by omega⟩,Int.toNat_natCast,hg]
 rfl
section
variable {Hb:Hp} {st:Int} {ts:List Nat} {tg:Tok}
theorem copy_loop (hb : ts.length ≤ 100000) (H0 : Hp) : ∀ (m i : Nat) (H : Hp) (x : AV), ts.length - i = m → i ≤ ts.length → RwW H false 1 x (jV (ts.take i)) → Kpt [] Hb H → (∀ a ∈ rowA x, Hb.length ≤ a) →
    ∃ x' H',resim_Threads_L1 x (.vs 2 tg (thV st ts)) (.int .i64 (ts.length:Int)) (.int .i64 (i:Int)) H0 H=resim_Threads_J3 x' H0 H'∧RwW H' false 1 x' (jV ts)∧Kpt [] Hb H'∧∀ a ∈ rowA x',Hb.length≤a:=by
 intro m
 induction m with
 | zero =>
  intro i H x hm hi h hk hx
  have hlt:decide ((i:Int) < (ts.length:Int))=false:=decide_eq_false (by omega)
  have hii:i=ts.length:=by omega
  rw [hii,List.take_length] at h
  rw [resim_Threads_L1_eq]
  simp only [go_sem,hlt]
  exact ⟨x,H,rfl,h,hk,hx⟩
 | succ m ih =>
  intro i H x hm hi h hk hx
  have hit:i < ts.length:=by omega
  have hlt:decide ((i:Int) < (ts.length:Int))=true:=decide_eq_true (by omega)
  obtain ⟨q,q1,q2⟩:=ld_th st ts tg hit H
  have hal:=alloc_sp H ((ts.getD i 0:Nat):Int) st
  obtain ⟨W,hW⟩:∃ W:Hp,W=H++[AObj.cells [.int .i64 ((ts.getD i 0:Nat):Int),.int .i64 st]]:=⟨_,rfl⟩
  have hg:W[H.length]?=some (.cells [.int .i64 ((ts.getD i 0:Nat):Int),.int .i64 st]):=by rw [hW];exact get_push_len H _ []
  have hld:aload false 1 (.ptr H.length (0+0)) W=some (.int .i64 ((ts.getD i 0:Nat):Int)):=by rw [aload_of hg];rfl
  have hRw:Rw H false 1 x (jV (ts.take i)):=h.elim .inl fun h=>.inr (.inr h)
  have hRW:Rw W false 1 x (jV (ts.take i)):=hRw.kept (by rw [hW];exact Kpt.push [] H _) (by simp)
  obtain ⟨x',H',a1,a2,a3,a4,o,e,a5⟩:=hRW.app (elok_j _) (a:=.int .i64 ((ts.getD i 0:Nat):Int)) 8 (by rw [jV_len,List.length_take];omega)
  have hWl:H.length≤W.length:=by rw [hW];simp
  have hle:=hk.1
  have hxl:∀ a ∈ rowA x',Hb.length≤a:=fun a ha=>(a4 a ha).elim (hx a) fun h=>by omega
  have htk:ts.take (i+1)=ts.take i++[ts.getD i 0]:=by
   rw [List.take_add_one,List.getD_eq_getElem?_getD,List.getElem?_eq_getElem hit]
   rfl
  have hj:jV (ts.take (i+1))=jV (ts.take i)++[.int .i64 ((ts.getD i 0:Nat):Int)]:=by rw [htk,jV_two];rfl
  rw [← hj] at a2
  have hw2:RwW H' false 1 x' (jV (ts.take (i+1))):=by
   rcases a2 with h | h | h
   ·exact .inl h
   ·rw [h] at a5;cases a5
   ·exact .inr h
  obtain ⟨x2,H2,b1,b2⟩:=ih (i+1) H' x' (by omega) (by omega) hw2 ((hk.base (by rw [hW];exact Kpt.push [] H _) (by simp)).base a3 hx) hxl
  refine ⟨x2,H2,?_,b2⟩
  rw [← b1,resim_Threads_L1_eq]
  rw [← hW] at hal
  have i0:(((0:Nat):Int))=0:=rfl
  simp only [go_sem,hlt,resim_Threads_J4_eq,q1,q2,hal,hld,one_n,a1,resim_Threads_J5_eq,wsucc (n:=i) (by omega),jV,List.map_cons,List.map_nil]
end
def thrS (p:List In) (s:List UInt8) (lines:Bool) (i j:Nat):List Int:=sortZ ((threadsD p s lines i j).map fun (k:Nat)=>(k:Int))
theorem sort_row {H : Hp} {x : AV} {ts : List Nat} (h : RwW H false 1 x (jV ts)) (hb : ts.length ≤ 100000) :
    ∃ H',sortE.run [x] H=some (.tuple [],H')∧Kpt (rowA x) H H'∧RwW H' false 1 x ((sortZ (ts.map fun (k:Nat)=>(k:Int))).map (AV.int .i64)):=by
 have he:sortE.run [x] H=sortF [x] H:=rfl
 have hj:jV ts=(ts.map fun (k:Nat)=>(k:Int)).map (AV.int .i64):=by
  unfold jV
  rw [List.map_map]
  rfl
 rw [he]
 rcases h with ⟨rfl,h⟩ | ⟨o,e,rfl,h⟩
 ·have ht : ts = [] := by
     have:=congrArg List.length h
     rw [jV_len] at this
     exact List.length_eq_zero_iff.1 this
  subst ht
  exact ⟨H,rfl,Kpt.refl _ _,.inl ⟨rfl,by simp [sortZ]⟩⟩
 ·have hfl:flat (jV ts)=jV ts:=jV_cells ts
  rw [hfl] at h
  have hz:=sortZ_len (ts.map fun (k:Nat)=>(k:Int))
  rw [List.length_map] at hz
  have hfl2:∀ zs:List Int,flat (zs.map (AV.int .i64))=zs.map (AV.int .i64):=fun zs=>by
   unfold flat
   rw [List.map_map]
   induction zs with
   | nil=>rfl
   | cons a l ih=>rw [List.map_cons,List.flatten_cons,ih];rfl
  refine ⟨H.set o (.row e ((sortZ (ts.map fun (k:Nat)=>(k:Int))).map (AV.int .i64))),?_,Kpt.set _ _ (by simp [rowA]),.inr ⟨o,e,by rw [jV_len,List.length_map,hz],by rw [hfl2];exact get_set_eq _ h⟩⟩
  unfold sortF
  rw [hj] at h
  simp only [h,intsL_self]
  rw [if_pos (by refine ⟨?_,?_,?_⟩ <;> simp [jV] <;> omega)]
section
variable {p:List In} {s:List UInt8} {lines:Bool}
theorem threads_run (hp : OkP p) {xv : AV} (hc : SlC 7 xv (p.map inV)) (hs : s.length ≤ 900000000) {i j : Nat} (hij : i ≤ j) (hj : j ≤ s.length) (H : Hp) :
    ∃ y H',C_resim_Threads [.agg [xv,.bool lines],.str s,.int .i64 (i:Int),.int .i64 (j:Int)] H=some (y,H')∧Kpt [] H H'∧RwW H' false 1 y ((thrS p s lines i j).map (AV.int .i64)):=by
 obtain ⟨tg,hxv⟩:∃ tg,xv=.vs 7 tg (p.map inV):=by
  rcases hc with ⟨_,h⟩ | h | h
  ·have:=hp.pos
   rw [List.map_eq_nil_iff.1 h] at this
   cases this
  ·exact ⟨_,h⟩
  ·exact ⟨_,h⟩
 have hpl:=hp.le
 have b1:abox (.agg [xv,.bool lines]) H=some (.ptr H.length 0,H++[.cells [xv,.bool lines]]):=by subst hxv;rfl
 obtain ⟨W,hW⟩:∃ W:Hp,W=H++[AObj.cells [xv,.bool lines]]:=⟨_,rfl⟩
 have g1:W[H.length]?=some (.cells [xv,.bool lines]):=by rw [hW];exact get_push_len H _ []
 have hkW:Kpt [] H W:=by rw [hW];exact Kpt.push _ _ _
 have ld:aload true 2 (.ptr H.length 0) W=some (.agg [xv,.bool lines]):=by rw [aload_of g1];rfl
 have hvr:=valid_run hp hc lines
 obtain ⟨H1,s1,s2,s3⟩:=simulate_run tg (p.map inV) lines s (by rw [← hxv];exact hvr) W
 rw [← hxv] at s1 s2
 have hWl:H.length≤W.length:=hkW.1
 have hk1:Kpt [] H H1:=hkW.trans s3
 have d1:decide ((i:Int) < 0)=false:=decide_eq_false (by omega)
 have d2:decide ((j:Int) > (s.length:Int))=false:=decide_eq_false (by omega)
 have d2':decide ((s.length:Int) < (j:Int))=false:=decide_eq_false (by omega)
 have d3:decide ((j:Int) < (i:Int))=false:=decide_eq_false (by omega)
 have len0:alenD .string (.str s)=some (.int .i64 (s.length:Int)):=rfl
 have enil:ebin (.pointer 81) .eql (.ptr (W.length+1) 0) .nilp=some (.bool false):=rfl
 -- the simulation begins
 have hRI:RI H H1 (W.length+1) xv lines s 0 .nils [] (List.replicate 4096 true) (i:Int) .nils [] :=
  ⟨⟨_,s2,fun k hk=>by
   rw [List.getD_eq_getElem?_getD,List.getD_eq_getElem?_getD,List.getElem?_replicate,List.getElem?_replicate,if_pos hk,if_pos hk]
   rfl,fun k hk=>by
   rw [List.getD_eq_getElem?_getD,List.getElem?_replicate,if_pos hk]
   exact Int.le_refl _⟩,.inl ⟨rfl,rfl⟩,.inl ⟨rfl,rfl⟩,hk1,by omega,fun a ha=>by cases ha⟩
 have ldG:=hRI.ldG
 obtain ⟨H2,r1,r2,_⟩:=hRI.gen ⟨Int.le_refl _,by omega⟩
 have e01:(0:Int)+1=1:=rfl
 rw [e01] at r1 r2
 obtain ⟨y3,H3,x3,t1,t2⟩:=sreach_run hp hc (i:=i) (by omega) (by omega) (k:=0) hp.pos (List.length_replicate ..) (Nat.zero_le _) r2
 have i0:(((0:Nat):Int))=0:=rfl
 rw [i0] at t1
 have h0:=DI.start (s:=s) (lines:=lines) (i:=i) hp
 obtain ⟨d4,d5,d6⟩:=dfs_set hp 8193 [0] (List.replicate 4096 false) [] (h0.push hp.pos) (by rw [List.count_replicate_self,List.length_singleton];omega)
 have hLv:Lv p (Rc p s lines i (fun k=>k=0)) (dfs p s lines i 8193 [0] (List.replicate 4096 false) []).2:=by
  refine ⟨d5.nd,fun k hk=>d5.mlt k ((d5.acc k).1 hk).1,fun k=>?_⟩
  rw [d5.acc k,d4 k]
  have:Rc p s lines i (fun k=>(List.replicate 4096 false).getD k false=true ∨ k ∈ [0]) k ↔ Rc p s lines i (fun k=>k=0) k :=
   ⟨Rc.mono fun x hx=>hx.elim (fun h=>absurd h (no_marks x)) fun h=>List.mem_singleton.1 h,Rc.mono fun x hx=>.inr (List.mem_singleton.2 hx)⟩
  rw [this]
 obtain ⟨z4,H4,g4,x4,t4,mk4,u1,u2⟩:=thr_loop hp hc hj (by omega) H (j - i) i 1 _ _ H3 y3 x3 [] _ rfl hij (by omega) (by omega) (fun k hk=>rc_lt (fun q hq=>by rw [hq];exact hp.pos) hk) hLv t2
 have hts:thrD p s lines (j - i) i (dfs p s lines i 8193 [0] (List.replicate 4096 false) []).2=threadsD p s lines i j:=rfl
 rw [hts] at u2
 have hlv:=threads_lv (s:=s) (lines:=lines) hp i j
 have hlen:=nd_len hlv.1 hlv.2.1
 -- their numbers,copied and sorted
 have hend:∃ y H',resim_Threads_J2 z4 H H4=some (y,H')∧Kpt [] H H'∧RwW H' false 1 y ((thrS p s lines i j).map (AV.int .i64)):=by
  have hfin:∀ x H5,RwW H5 false 1 x (jV (threadsD p s lines i j))→Kpt [] H H5→(∀ a ∈ rowA x,H.length≤a)→∃ H',resim_Threads_J3 x H H5=some (x,H')∧Kpt [] H H'∧RwW H' false 1 x ((thrS p s lines i j).map (AV.int .i64)):=fun x H5 hx hk hl=>by
   obtain ⟨H6,v1,v2,v3⟩:=sort_row hx (by omega)
   rw [resim_Threads_J3_eq,v1]
   exact ⟨H6,rfl,hk.base v2 hl,v3⟩
  rcases u2.row with ⟨h1,h2⟩ | ⟨tk,e,h1,_⟩
  ·have ht : threadsD p s lines i j = [] := by
      have:=congrArg List.length h2
      simp only [thV,List.length_map,List.length_nil] at this
      exact List.length_eq_zero_iff.1 this
   obtain ⟨H',v1,v2,v3⟩:=hfin .nils H4 (.inl ⟨rfl,by rw [ht];rfl⟩) u2.kpt (fun a ha=>by cases ha)
   refine ⟨.nils,H',?_,v2,v3⟩
   have l0:alenD (.slice 87) .nils=some (.int .i64 0):=rfl
   have e0:decide ((0:Int) < 0)=false:=rfl
   rw [resim_Threads_J2_eq,h1]
   simp only [go_sem,l0,resim_Threads_L1_eq,e0]
   exact v1
  ·have l0 : alenD (.slice 87) (.vs 2 (.own tk e) (thV (i : Int) (threadsD p s lines i j))) = some (.int .i64 ((threadsD p s lines i j).length : Int)) := by
      show some (AV.int .i64 ((thV (i:Int) (threadsD p s lines i j)).length:Int))=_
      simp [thV]
   obtain ⟨x5,H5,w1,w2,w3,w4⟩:=copy_loop (Hb:=H) (st:=(i:Int)) (ts:=threadsD p s lines i j) (tg:=.own tk e) (by omega) H _ 0 H4 .nils rfl (Nat.zero_le _) (.inl ⟨rfl,by simp [jV]⟩) u2.kpt (fun a ha=>by cases ha)
   obtain ⟨H',v1,v2,v3⟩:=hfin x5 H5 w2 w3 w4
   refine ⟨x5,H',?_,v2,v3⟩
   rw [i0] at w1
   rw [resim_Threads_J2_eq,h1]
   simp only [go_sem,l0]
   exact w1.trans v1
 obtain ⟨y,H',v1,v2,v3⟩:=hend
 refine ⟨y,H',?_,v2,v3⟩
 rw [F_resim_Threads_eq]
 unfold F_resim_Threads
 have hw1:IntKind.i64.wrap 1=1:=rfl
 simp only [go_sem,b1,← hW,ld,s1,enil,d1,d2,d2',d3,len0,resim_Threads_J1_eq,ldG,e01,hw1,r1,t1,u1,v1]
end
end Go.Am
namespace Go.Am
set_option linter.unusedSimpArgs false
set_option linter.unusedVariables false
set_option maxRecDepth 100000

theorem sortZ_mem (zs:List Int) (x:Int):x ∈ sortZ zs ↔ x ∈ zs:=(List.mergeSort_perm _ _).mem_iff
theorem sortZ_le (zs:List Int) {a b:Nat} {x y:Int} (hab:a < b) (hx:(sortZ zs)[a]?=some x) (hy:(sortZ zs)[b]?=some y):x≤y:=by
 have hp:(sortZ zs).Pairwise fun x y=>decide (x≤y)=true:=List.pairwise_mergeSort (le:=fun x y=>decide (x≤y)) (fun a b c h1 h2=>decide_eq_true (Int.le_trans (of_decide_eq_true h1) (of_decide_eq_true h2))) (fun a b=>by
  rcases Int.le_total a b with h | h
  ·simp [h]
  ·simp [h]) zs
 obtain ⟨ha,ea⟩:=List.getElem?_eq_some_iff.1 hx
 obtain ⟨hb,eb⟩:=List.getElem?_eq_some_iff.1 hy
 have:=List.pairwise_iff_getElem.1 hp a b ha hb hab
 rw [ea,eb] at this
 exact of_decide_eq_true this
theorem last_sort {zs:List Int} {M:Int} (h:∀ z ∈ zs,z≤M) {n:Nat} (hn:(sortZ zs).length=n+1) {z:Int} (hz:(sortZ zs)[n]?=some z):z=M ↔ M ∈ zs:=by
 constructor
 ·rintro rfl
  exact (sortZ_mem zs z).1 (List.mem_of_getElem? hz)
 ·intro hM
  have hM2:=(sortZ_mem zs M).2 hM
  obtain ⟨k,hk,he⟩:=List.getElem_of_mem hM2
  have hk2:(sortZ zs)[k]?=some M:=by rw [List.getElem?_eq_getElem hk,he]
  have hzM:=h z ((sortZ_mem zs z).1 (List.mem_of_getElem? hz))
  by_cases hkn:k=n
  ·rw [hkn,hz] at hk2
   injection hk2
  ·have:=sortZ_le zs (a:=k) (b:=n) (by omega) hk2 hz
   omega
theorem Agrees_law {e : Rt} {a : AV} (ha : RtC e a) (s : List UInt8) (fr to : Int) (lines : Bool) (H : Hp) (haw : ∀ H : Hp, flatC C_L13_awake [] H = some (.bool true, H)) :
    ∃ H',C_L13_RecaptureAgrees [a,.agg (cse s fr to lines)] H=some (.bool true,H'):=by
 have ha0:=ha
 obtain ⟨x,l,rfl,hx,hl⟩:=ha.out
 have hb3:∀ H,abox (.agg (cse s fr to lines)) H=some (.ptr H.length 0,H++[.cells (cse s fr to lines)]):=fun _=>rfl
 obtain ⟨W,hW⟩:∃ W:Hp,W=(H++[AObj.cells (reC e.hd x)])++[.cells (cse s fr to lines)]:=⟨_,rfl⟩
 have l1:(H++[AObj.cells (reC e.hd x)]).length=H.length+1:=by simp
 have g2:W[H.length]?=some (.cells (reC e.hd x)):=by rw [hW];exact get_push (get_push_len H _ []) _
 have g3:W[H.length+1]?=some (.cells (cse s fr to lines)):=by rw [hW,← l1];exact get_push_len _ _ []
 have hsm:=small_run ha0 (n:=60) (by omega) W
 have i60:(((60:Nat):Int))=60:=rfl
 rw [i60] at hsm
 have d0:∀ {V:Hp},V[H.length+1]?=some (.cells (cse s fr to lines))→aload false 1 (.ptr (H.length+1) (0+0)) V=some (.str s):=fun h=>by rw [aload_of h];rfl
 have d1:∀ {V:Hp},V[H.length+1]?=some (.cells (cse s fr to lines))→aload true 2 (.ptr (H.length+1) (0+1)) V=some (.agg [.int .i64 fr,.int .i64 to]):=fun h=>by rw [aload_of h];rfl
 have d1a:∀ {V:Hp},V[H.length+1]?=some (.cells (cse s fr to lines))→aload false 1 (.ptr (H.length+1) (0+1+0)) V=some (.int .i64 fr):=fun h=>by rw [aload_of h];rfl
 have d1b:∀ {V:Hp},V[H.length+1]?=some (.cells (cse s fr to lines))→aload false 1 (.ptr (H.length+1) (0+1+1)) V=some (.int .i64 to):=fun h=>by rw [aload_of h];rfl
 have d3:∀ {V:Hp},V[H.length+1]?=some (.cells (cse s fr to lines))→aload false 1 (.ptr (H.length+1) (0+3)) V=some (.bool lines):=fun h=>by rw [aload_of h];rfl
 have len0:alenD .string (.str s)=some (.int .i64 (s.length:Int)):=rfl
 rw [F_L13_RecaptureAgrees_eq]
 unfold F_L13_RecaptureAgrees
 simp only [box_re,bnd_some,hb3,l1,← hW,ld_re g2,hsm]
 by_cases hs:cntS e 60 8≤60
 case neg =>
  have hs:=decide_eq_false hs
  simp only [go_sem,hs,haw,Bool.not_false]
  exact ⟨_,rfl⟩
 obtain ⟨z1,z2,z3⟩:=cntS_small e 60 8 hs
 have hs:=decide_eq_true hs
 by_cases hlen:(40:Int) < (s.length:Int)
 ·have b1:=decide_eq_true hlen
  simp only [go_sem,hs,haw,Bool.not_true,d0 g3,len0,b1]
  exact ⟨_,rfl⟩
 have b1:=decide_eq_false hlen
 simp only [go_sem,hs,Bool.not_true,d0 g3,len0,b1]
 have x0:∀ u w z:AV,aext (.tuple [u,w,z]) 0=some u:=fun _ _ _=>rfl
 have x1:∀ u w z:AV,aext (.tuple [u,w,z]) 1=some w:=fun _ _ _=>rfl
 have x2:∀ u w z:AV,aext (.tuple [u,w,z]) 2=some z:=fun _ _ _=>rfl
 have y0:∀ u w:AV,aext (.tuple [u,w]) 0=some u:=fun _ _=>rfl
 have y1:∀ u w:AV,aext (.tuple [u,w]) 1=some w:=fun _ _=>rfl
 -- the program
 obtain ⟨px,hpx,hcr⟩:=compile_run ha0 (by omega) (by omega) lines
 generalize hlb:(if (compM e).2=0 then lines else false)=lb at hcr
 have hpk:=hpx.known
 obtain ⟨V,hV⟩:∃ V:Hp,V=W++[AObj.cells [px,.bool lb]]:=⟨_,rfl⟩
 have hst:astoreU 2 (.ptr W.length 0) (.agg [px,.bool lb]) (W++[AObj.cells [.nils,.bool false]])=some (.tuple [],V):=by
  rw [astore_of (sz:=2) (v:=.agg [px,.bool lb]) (get_push_len W (AObj.cells [.nils,.bool false]) []) (by simp [AV.known,hpk.2]) rfl (by simp),hV]
  simp [splice,AV.cells]
 have gV:V[W.length]?=some (.cells [px,.bool lb]):=by rw [hV];exact get_push_len W _ []
 have hkV:Kpt [] W V:=by rw [hV];exact Kpt.push _ _ _
 have g2V:=hkV.get g2 (by simp)
 have g3V:=hkV.get g3 (by simp)
 obtain ⟨v,H1,c1,c2,c3⟩:=Captures_run ha0 (by omega) (by omega) (s:=s) (by omega) fr to lines V
 have g5:=get_push_len H1 (AObj.cells [.nils]) []
 have e00:((0:Int) == 0)=true:=rfl
 have e0:((0:Int) != 0)=false:=rfl
 -- without an error
 have good : ∀ (i j : Nat) (f : Bool) (z : AV), (compM e).2 = 0 → fr = (i : Int) → to = (j : Int) → i ≤ j → j ≤ s.length → (endsM s lines e i j).getD (j - i) false = f → z.cells = [z] ∧ z.known = true → v = .tuple [.agg [z], .bool f, .int .i64 0] →
     ∃ H',L13_RecaptureAgrees_J1 (.ptr H.length 0) (.ptr (H.length+1) 0) H W=some (.bool true,H'):=by
  intro i j f z hcm hfr hto hij hj hE hz hv
  subst hfr hto hv
  rw [if_pos hcm] at hlb
  subst hlb
  rw [hcm] at hcr
  have hp:=comp_okP hcm
  have hpos:=hp.pos
  have hple:=hp.le
  obtain ⟨w1,w2⟩:=st8 g5 (x:=z) hz.1 hz.2
  obtain ⟨X,hX⟩:∃ X:Hp,X=(H1++[AObj.cells [.nils]]).set H1.length (.cells [z]):=⟨_,rfl⟩
  rw [← hX] at w1 w2
  have hkX:Kpt [] H1 X:=by rw [hX];exact (Kpt.push [] H1 _).base (Kpt.set (W:=[H1.length]) _ _ (by simp)) (by simp)
  have hkc:=c2.trans hkX
  have g3X:=hkc.get g3V (by simp)
  have gX:=hkc.get gV (by simp)
  have lp:aload true 2 (.ptr W.length 0) X=some (.agg [px,.bool lines]):=by rw [aload_of gX];rfl
  obtain ⟨y,H2,t1,t2,t3⟩:=threads_run (s:=s) (lines:=lines) hp hpx (by omega) hij hj X
  have lq:aload false 1 (.ptr W.length (0+0)) H2=some px:=by rw [aload_of (t2.get gX (by simp))];rfl
  have lpn:alenD (.slice 76) px=some (.int .i64 (((compM e).1.length:Nat):Int)):=by rw [hpx.len,List.length_map]
  have hwp:IntKind.i64.wrap ((((compM e).1.length:Nat):Int) - 1)=((((compM e).1.length - 1):Nat):Int):=by rw [wrap64 (by omega) (by omega)];omega
  have hag:=agree hcm s lines hij
  rw [hE] at hag
  have hlv:=threads_lv (s:=s) (lines:=lines) hp i j
  have hlen2:=nd_len hlv.1 hlv.2.1
  have hrw:=t3.rw
  have hll:=hrw.len 3
  rw [List.length_map] at hll
  have hsl:=sortZ_len ((threadsD (compM e).1 s lines i j).map fun (k:Nat)=>(k:Int))
  rw [List.length_map] at hsl
  have hS:thrS (compM e).1 s lines i j=sortZ ((threadsD (compM e).1 s lines i j).map fun (k:Nat)=>(k:Int)):=rfl
  have eff:∀ g:Bool,ebin .bool .eql (.bool f) (.bool g)=some (.bool (f == g)):=fun _=>rfl
  rw [L13_RecaptureAgrees_J1_eq]
  by_cases hn:(thrS (compM e).1 s lines i j).length=0
  ·have hnil:threadsD (compM e).1 s lines i j=[]:=List.length_eq_zero_iff.1 (by rw [hS,hsl] at hn;exact hn)
   have hf:f=false:=by
    cases f with
    | false=>rfl
    | true =>
     have:=hag.1 rfl
     rw [hnil] at this
     cases this
   subst hf
   rw [hn] at hll
   have i0:(((0:Nat):Int))=0:=rfl
   rw [i0] at hll
   have dg:decide ((0:Int) > 0)=false:=rfl
   have dg':decide ((0:Int) < 0)=false:=rfl
   have ef:=eff false
   have eb:(false == false)=true:=rfl
   simp only [go_sem,ld_re g2,d3 g3,hcr,y0,y1,hst,ld_re g2V,d0 g3V,d1 g3V,d3 g3V,c1,x0,x1,x2,w1,e0,e00,L13_RecaptureAgrees_J2_eq,lp,d0 g3X,d1a g3X,d1b g3X,t1,hll,dg,dg',ef,eb,haw]
   exact ⟨_,rfl⟩
  ·obtain ⟨n,hn1⟩:∃ n,(thrS (compM e).1 s lines i j).length=n+1:=⟨(thrS (compM e).1 s lines i j).length - 1,by omega⟩
   rw [hn1] at hll
   have hnb:n < 5000:=by rw [hS,hsl] at hn1;omega
   have dg:decide ((((n+1:Nat)):Int) > 0)=true:=decide_eq_true (by omega)
   have dg':decide ((0:Int) < ((n+1:Nat):Int))=true:=decide_eq_true (by omega)
   have hwn:IntKind.i64.wrap ((((n+1:Nat)):Int) - 1)=(n:Int):=by rw [wrap64 (by omega) (by omega)];omega
   obtain ⟨z0,hz0⟩:∃ z0,(thrS (compM e).1 s lines i j)[n]?=some z0:=⟨_,List.getElem?_eq_getElem (by omega)⟩
   have hel:∀ a ∈ (thrS (compM e).1 s lines i j).map (AV.int .i64),ElOk false 1 a:=fun a ha=>by
    obtain ⟨k,_,rfl⟩:=List.mem_map.1 ha
    exact ⟨rfl,rfl,rfl,rfl⟩
   obtain ⟨q,q1,q2⟩:=hrw.idx (by decide) hel (i:=n) (a:=.int .i64 z0) (by rw [List.getElem?_map,hz0];rfl)
   have hlast:=last_sort (zs:=(threadsD (compM e).1 s lines i j).map fun (k:Nat)=>(k:Int)) (M:=((((compM e).1.length - 1):Nat):Int)) (fun z hz=>by
    obtain ⟨k,hk,rfl⟩:=List.mem_map.1 hz
    have:=hlv.2.1 k hk
    omega) (n:=n) hn1 hz0
   have hfz:f=(z0 == ((((compM e).1.length - 1):Nat):Int)):=by
    have h1:(f=true) ↔ (z0 == ((((compM e).1.length - 1):Nat):Int))=true:=by
     rw [hag,beq_iff_eq,hlast,List.mem_map]
     constructor
     ·intro h
      exact ⟨_,h,rfl⟩
     ·rintro ⟨k,hk,he⟩
      have:k=(compM e).1.length - 1:=by omega
      rw [← this]
      exact hk
    exact Bool.eq_iff_iff.2 h1
   have ef:=eff (z0 == ((((compM e).1.length - 1):Nat):Int))
   have eb:(f == (z0 == ((((compM e).1.length - 1):Nat):Int)))=true:=by rw [← hfz];simp
   rw [eb] at ef
   simp only [go_sem,ld_re g2,d3 g3,hcr,y0,y1,hst,ld_re g2V,d0 g3V,d1 g3V,d3 g3V,c1,x0,x1,x2,w1,e0,e00,L13_RecaptureAgrees_J2_eq,lp,d0 g3X,d1a g3X,d1b g3X,t1,hll,dg,dg',hwn,q1,q2,lq,lpn,hwp,ef,haw]
   exact ⟨_,rfl⟩
 cases c3 with
 | err h =>
  rw [L13_RecaptureAgrees_J1_eq]
  obtain ⟨w1,w2⟩:=st8 g5 (x:=.nils) rfl rfl
  have q0:((compM e).2 != 0)=true:=by simpa using h
  have q1:((compM e).2 == 0)=false:=by simpa using h
  have q2:((compM e).2 == (compM e).2)=true:=by simp
  simp only [go_sem,ld_re g2,d3 g3,hcr,y0,y1,hst,ld_re g2V,d0 g3V,d1 g3V,d3 g3V,c1,x0,x1,x2,w1,q0,q1,q2,haw]
  exact ⟨_,rfl⟩
 | range h h' =>
  rw [L13_RecaptureAgrees_J1_eq]
  obtain ⟨w1,w2⟩:=st8 g5 (x:=.nils) rfl rfl
  have e2:((2:Int) != 0)=true:=rfl
  rw [h] at hcr
  simp only [go_sem,ld_re g2,d3 g3,hcr,y0,y1,hst,ld_re g2V,d0 g3V,d1 g3V,d3 g3V,c1,x0,x1,x2,w1,e0,e00,e2,haw]
  exact ⟨_,rfl⟩
 | no i j h h1 h2 h3 h4 h5=>exact good i j false .nils h h1 h2 h3 h4 h5 ⟨rfl,rfl⟩ rfl
 | yes i j so h h1 h2 h3 h4 h5 h6 hS=>exact good i j true (spV so (cntM 6 e+1)) h h1 h2 h3 h4 h5 ⟨rfl,rfl⟩ rfl
end Go.Am
