/-
  Dividing a list into chunks, and numbers into groups: plain law.
-/
import Derived.Test.YtnaneekpogohaaaGreatDoorHmXx
import Derived.Test.YtnaneekpogohaaaGreatDoorXeKx
namespace Go.Am
set_option linter.unusedSimpArgs false
set_option linter.unusedVariables false
set_option linter.unusedSectionVars false

section
variable {α:Type} (c:α→Int) (mem:Int)
end

def grp (w i q:Nat):List Nat:=List.range' (q * w) (min w (i - q * w))
def cnt (w i:Nat):Nat:=(i+w - 1) / w
def plan (w i:Nat):List (List Nat):=(List.range (cnt w i)).map (grp w i)
theorem plan_len (w i:Nat):(plan w i).length=cnt w i:=by simp [plan]
theorem cnt_bound {w i q:Nat} (hw:0 < w) (h:q < cnt w i):q * w < i:=by
 unfold cnt at h
 have h3:(q+1) * w≤i+w - 1:=(Nat.le_div_iff_mul_le hw).1 h
 rw [Nat.add_mul,Nat.one_mul] at h3
 omega
theorem cnt_last {w i:Nat} (hw:0 < w):i≤cnt w i * w:=by
 unfold cnt
 have h:=Nat.div_add_mod (i+w - 1) w
 have:=Nat.mod_lt (i+w - 1) hw
 rw [Nat.mul_comm]
 omega
theorem grp_len {w i q:Nat}:(grp w i q).length=min w (i - q * w):=by simp [grp]
end Go.Am
namespace Go.Am
set_option linter.unusedSimpArgs false
set_option linter.unusedVariables false
set_option linter.unusedSectionVars false
set_option maxRecDepth 100000

theorem SS.cell {e:AV} {l:List Str} (h:SS e l):e.cells=[e]∧e.known=true:=by
 rcases h with ⟨rfl,_⟩ | ⟨t,rfl⟩ <;> exact ⟨rfl,rfl⟩
structure EE (es:List AV) (ls:List (List Str)):Prop where
 len:es.length=ls.length
 at':∀ (i:Nat) (l:List Str),ls[i]?=some l→∃ e,es[i]?=some e∧SS e l
theorem EE.nil:EE [] []:=⟨rfl,fun i l h=>by simp at h⟩
theorem EE.cell {es:List AV} {ls:List (List Str)} (h:EE es ls):∀ e ∈ es,∃ l,SS e l∧l ∈ ls:=fun e he=>by
 obtain ⟨i,hi⟩:=List.getElem?_of_mem he
 have hl:=(List.getElem?_eq_some_iff.1 hi).1
 rw [h.len] at hl
 obtain ⟨e',h1,h2⟩:=h.at' i ls[i] (List.getElem?_eq_getElem hl)
 rw [hi] at h1
 injection h1 with h1
 subst h1
 exact ⟨_,h2,List.getElem_mem _⟩
theorem flat_cells:∀ {es:List AV},(∀ e ∈ es,e.cells=[e])→(es.map AV.cells).flatten=es:=by
 intro es
 induction es with
 | nil=>intro _;rfl
 | cons e es ih =>
  intro h
  rw [List.map_cons,List.flatten_cons,h e (by simp),ih (fun x hx=>h x (by simp [hx]))]
  rfl
theorem EE.flat {es:List AV} {ls:List (List Str)} (h:EE es ls):(es.map AV.cells).flatten=es:=flat_cells fun e he=>by
 obtain ⟨l,h1,_⟩:=h.cell e he
 exact h1.cell.1
theorem EE.set {es:List AV} {ls:List (List Str)} (h:EE es ls) {e:AV} {l:List Str} (he:SS e l) {i:Nat} (hi:i < ls.length):EE (es.set i e) (ls.set i l):=by
 refine ⟨by simp [h.len],fun j m hm=>?_⟩
 by_cases hij:i=j
 ·subst hij
  rw [List.getElem?_set_self hi] at hm
  injection hm with hm
  subst hm
  exact ⟨e,List.getElem?_set_self (by rw [h.len];exact hi),he⟩
 ·rw [List.getElem?_set_ne hij] at hm ⊢
  exact h.at' j m hm
theorem EE.app {es:List AV} {ls:List (List Str)} (h:EE es ls) {e:AV} {l:List Str} (he:SS e l):EE (es++[e]) (ls++[l]):=by
 refine ⟨by simp [h.len],fun j m hm=>?_⟩
 by_cases hj:j < ls.length
 ·rw [List.getElem?_append_left hj] at hm
  rw [List.getElem?_append_left (by rw [h.len];exact hj)]
  exact h.at' j m hm
 ·have hlt:=(List.getElem?_eq_some_iff.1 hm).1
  have:j=ls.length:=by simp at hlt;omega
  subst this
  rw [List.getElem?_append_right (Nat.le_refl _)] at hm
  simp at hm
  subst hm
  exact ⟨e,by rw [List.getElem?_append_right (by rw [h.len];exact Nat.le_refl _),h.len];simp,he⟩
def Rst (o:Nat) (H:Hp) (x:AV) (ls:List (List Str)):Prop :=
 ls=[]∧(x=.nils ∨ x=.vs 1 .clip []) ∨ ∃ e es,x=.ws false 1 o e ls.length∧H[o]?=some (.row e es)∧EE es ls
theorem wp_load {o e i:Nat} {H:Hp} {es:List AV} {a:AV} (h:H[o]?=some (.row e es)) (hv:es[i]?=some a):aload false 1 (.wp o e (i * 1)) H=some a:=by
 simp [aload,h,Go.Am.apart,hv]
theorem splice1 {l:List AV} {i:Nat} {a:AV} (h:i < l.length):splice l (i * 1) [a]=l.set i a:=by
 unfold splice
 rw [Nat.mul_one,List.set_eq_take_append_cons_drop,if_pos h]
 simp
theorem wp_store {o e i:Nat} {H:Hp} {es:List AV} {a:AV} (h:H[o]?=some (.row e es)) (ha:a.cells=[a]∧a.known=true) (hi:i < es.length):astoreU 1 (.wp o e (i * 1)) a H=some (.tuple [],H.set o (.row e (es.set i a))):=by
 unfold astoreU astore
 simp only [h]
 rw [if_pos ⟨trivial,ha.2,by rw [ha.1];rfl,by omega⟩,ha.1,splice1 hi]
theorem ws_index {o e n i:Nat} (h:i < n):aindexS 1 (.ws false 1 o e n) (.int .i64 (i:Int))=some (.wp o e (i * 1)):=by
 unfold aindexS
 dsimp only
 rw [if_pos (by omega)]
 rfl
theorem Rst.get {o:Nat} {H:Hp} {x:AV} {ls:List (List Str)} (h:Rst o H x ls) {i:Nat} {l:List Str} (hi:ls[i]?=some l):∃ p a,aindexS 1 x (.int .i64 (i:Int))=some p∧aload false 1 p H=some a∧SS a l:=by
 rcases h with ⟨rfl,_⟩ | ⟨e,es,rfl,ho,he⟩
 ·simp at hi
 ·obtain ⟨a,h1,h2⟩:=he.at' i l hi
  exact ⟨_,a,ws_index (List.getElem?_eq_some_iff.1 hi).1,wp_load ho h1,h2⟩
theorem Rst.len {o:Nat} {H:Hp} {x:AV} {ls:List (List Str)} (h:Rst o H x ls) (e:Nat):alenD (.slice e) x=some (.int .i64 (ls.length:Int)):=by
 rcases h with ⟨rfl,rfl | rfl⟩ | ⟨e,es,rfl,ho,he⟩ <;> rfl
theorem Rst.keep {o:Nat} {H H':Hp} {x:AV} {ls:List (List Str)} (h:Rst o H x ls) (hk:Keep (o+1) H H'):Rst o H' x ls:=by
 rcases h with h | ⟨e,es,h1,ho,he⟩
 ·exact .inl h
 ·exact .inr ⟨e,es,h1,(hk o (by omega)).trans ho,he⟩
theorem Rst.put {o:Nat} {H:Hp} {x:AV} {ls:List (List Str)} (h:Rst o H x ls) {i:Nat} (hi:i < ls.length) {a:AV} {m:List Str} (ha:SS a m):∃ p H',aindexS 1 x (.int .i64 (i:Int))=some p∧astoreU 1 p a H=some (.tuple [],H')∧Rst o H' x (ls.set i m)∧H'.length=H.length∧∀ j,j ≠ o→H'[j]?=H[j]?:=by
 rcases h with ⟨rfl,_⟩ | ⟨e,es,rfl,ho,he⟩
 ·simp at hi
 ·refine ⟨_,_,ws_index hi,wp_store ho ha.cell (by rw [he.len];exact hi),.inr ⟨e,es.set i a,by rw [List.length_set],List.getElem?_set_self (List.getElem?_eq_some_iff.1 ho).1,he.set ha hi⟩,by simp,fun j hj=>List.getElem?_set_ne (fun e=>hj e.symm)⟩
theorem chunks_one2:∀ l:List AV,chunks false 1 l.length l=l:=by
 intro l
 induction l with
 | nil=>rfl
 | cons a l ih=>simp only [List.length_cons,chunks];rw [List.drop_one,List.tail_cons,ih];rfl
def LL (H:Hp) (x:AV) (ls:List (List Str)):Prop :=
 ls=[]∧(x=.nils ∨ x=.vs 1 .clip []) ∨ (∃ t es,x=.vs 1 t es∧EE es ls) ∨ ∃ o e es,x=.ws false 1 o e ls.length∧H[o]?=some (.row e es)∧EE es ls
theorem Rst.ll {o:Nat} {H:Hp} {x:AV} {ls:List (List Str)} (h:Rst o H x ls):LL H x ls:=by
 rcases h with h | ⟨e,es,h1,ho,he⟩
 ·exact .inl h
 ·exact .inr (.inr ⟨o,e,es,h1,ho,he⟩)
theorem LL.elems {H:Hp} {x:AV} {ls:List (List Str)} (h:LL H x ls):∃ es,elems 1 x H=some es∧EE es ls:=by
 rcases h with ⟨rfl,rfl | rfl⟩ | ⟨t,es,rfl,he⟩ | ⟨o,e,es,rfl,ho,he⟩
 ·exact ⟨[],rfl,EE.nil⟩
 ·exact ⟨[],rfl,EE.nil⟩
 ·exact ⟨es,rfl,he⟩
 ·refine ⟨es,?_,he⟩
  unfold Go.Am.elems
  dsimp only
  rw [if_pos ⟨rfl,.inr rfl⟩,ho]
  dsimp only
  rw [if_pos ⟨rfl,by rw [he.len];omega⟩,← he.len,chunks_one2]
theorem LL.len {H:Hp} {x:AV} {ls:List (List Str)} (h:LL H x ls) (e:Nat):alenD (.slice e) x=some (.int .i64 (ls.length:Int)):=by
 rcases h with ⟨rfl,rfl | rfl⟩ | ⟨t,es,rfl,he⟩ | ⟨o,e,es,rfl,ho,he⟩
 ·rfl
 ·rfl
 ·show some (AV.int .i64 (es.length:Int))=_;rw [he.len]
 ·rfl
theorem LL.get {H:Hp} {x:AV} {ls:List (List Str)} (h:LL H x ls) {i:Nat} {l:List Str} (hi:ls[i]?=some l):∃ p a,aindexS 1 x (.int .i64 (i:Int))=some p∧aload false 1 p H=some a∧SS a l:=by
 rcases h with ⟨rfl,_⟩ | ⟨t,es,rfl,he⟩ | ⟨o,e,es,rfl,ho,he⟩
 ·simp at hi
 ·obtain ⟨a,h1,h2⟩:=he.at' i l hi
  refine ⟨.vp a.cells,a,?_,?_,h2⟩
  ·unfold aindexS
   dsimp only
   rw [if_pos ⟨rfl,by omega⟩,Int.toNat_natCast,h1]
  ·rw [h2.cell.1];rfl
 ·obtain ⟨a,h1,h2⟩:=he.at' i l hi
  exact ⟨_,a,ws_index (List.getElem?_eq_some_iff.1 hi).1,wp_load ho h1,h2⟩

theorem LL.keep {H H':Hp} {x:AV} {ls:List (List Str)} (h:LL H x ls) (hk:Keep H.length H H'):LL H' x ls:=by
 rcases h with h | h | ⟨o,e,es,h1,ho,he⟩
 ·exact .inl h
 ·exact .inr (.inl h)
 ·exact .inr (.inr ⟨o,e,es,h1,(hk o (List.getElem?_eq_some_iff.1 ho).1).trans ho,he⟩)

theorem Rst.app {o : Nat} {H : Hp} {x : AV} {ls : List (List Str)} (h : Rst o H x ls) {a : AV} {m : List Str} (ha : SS a m) (hl : ls.length ≤ 1048576) :
    ∃ o' x' H',aappEL false 1 24 x (.vs 1 .clip [a]) H=some (x',H')∧Rst o' H' x' (ls++[m])∧H.length≤H'.length∧(∀ i y,H[i]?=some y→i ≠ o→H'[i]?=some y):=by
 unfold aappEL
 have he:Go.Am.elems 1 (.vs 1 .clip [a]) H=some [a]:=rfl
 rw [he]
 dsimp only
 have hf1:fits 1 24=true:=rfl
 have hfit:fits (ls.length+1) 24=true:=by simp [fits];omega
 rcases h with ⟨rfl,rfl | rfl⟩ | ⟨e,es,rfl,ho,hes⟩
 ·refine ⟨H.length,.ws false 1 H.length 0 1,H++[.row 0 [a]],?_,.inr ⟨0,[a],rfl,by simp,EE.nil.app ha⟩,by simp,fun i y hy _=>get_push hy _⟩
  unfold aappL
  simp only [List.length_singleton,hf1,if_true,List.map_cons,List.map_nil,List.flatten_cons,List.flatten_nil,ha.cell.1,List.append_nil]
  rw [if_neg (by simp)]
 ·refine ⟨H.length,.ws false 1 H.length 0 1,H++[.row 0 [a]],?_,.inr ⟨0,[a],rfl,by simp,EE.nil.app ha⟩,by simp,fun i y hy _=>get_push hy _⟩
  unfold aappL
  simp only [List.length_nil,List.nil_append,Nat.zero_add,List.length_singleton,hf1,and_self,if_true,List.map_cons,List.map_nil,List.flatten_cons,List.flatten_nil,ha.cell.1,List.append_nil]
  rw [if_neg (by simp)]
 ·refine ⟨o,.ws false 1 o (e+1) (ls.length+1),H.set o (.row (e+1) (es++[a])),?_,.inr ⟨e+1,es++[a],by simp,get_set_eq _ ho,hes.app ha⟩,by simp,fun i y hy hn=>get_set_ne _ (fun e=>hn e.symm) hy⟩
  unfold aappL
  simp only [List.length_singleton,hfit,and_self,if_true,ho,hes.len,Nat.mul_one,Nat.le_refl,cutL_eq,List.take_of_length_le (Nat.le_of_eq hes.len),List.map_cons,List.map_nil,List.flatten_cons,List.flatten_nil,ha.cell.1,List.append_nil]
  rw [if_neg (by simp)]
theorem EE.tail {e:AV} {es:List AV} {l:List Str} {ls:List (List Str)} (h:EE (e :: es) (l :: ls)):SS e l∧EE es ls:=by
 obtain ⟨e',h1,h2⟩:=h.at' 0 l rfl
 obtain rfl:e=e':=Option.some.inj h1
 exact ⟨h2,by have:=h.len;simpa using this,fun i m hm=>by
  obtain ⟨e',q1,q2⟩:=h.at' (i+1) m (by simpa using hm)
  exact ⟨e',by simpa using q1,q2⟩⟩
theorem EE.cons {e:AV} {es:List AV} {l:List Str} {ls:List (List Str)} (h:SS e l) (k:EE es ls):EE (e :: es) (l :: ls) :=
 ⟨by simp [k.len],fun i m hm=>by
  cases i with
  | zero=>simp at hm;subst hm;exact ⟨e,rfl,h⟩
  | succ i=>simpa using k.at' i m (by simpa using hm)⟩
theorem EE.close {es:List AV} {ls:List (List Str)} (h:EE es ls) (H:Hp) (n f:Nat):∃ es',es.mapM (closeV H n (f+2))=some es'∧EE es' ls:=by
 induction es generalizing ls with
 | nil =>
  have:ls=[]:=List.length_eq_zero_iff.1 (by rw [← h.len];rfl)
  subst this
  exact ⟨[],rfl,EE.nil⟩
 | cons e es ih =>
  cases ls with
  | nil=>have:=h.len;simp at this
  | cons l ls =>
   obtain ⟨h1,h2⟩:=h.tail
   obtain ⟨e',q1,q2⟩:=SS.closed h1 H n f
   obtain ⟨es',q3,q4⟩:=ih h2
   exact ⟨e' :: es',by rw [List.mapM_cons,q1];simp [q3],EE.cons q2 q4⟩
theorem closeV_vs' (H : Hp) (n f k : Nat) (t : Tok) (l : List AV) : closeV H n (f + 1) (.vs k t l) = match l.mapM (closeV H n f) with
    | some l=>some (.vs k (match t with | .own t e=>if t < n then .own t e else .no | tok=>tok) l)
    | none=>none:=rfl
theorem closeV_ws' (H : Hp) (n f : Nat) (ag : Bool) (k o e len : Nat) : closeV H n (f + 1) (.ws ag k o e len) = if o < n then some (.ws ag k o e len) else
    match elems k (.ws ag k o e len) H with
    | some l=>match l.mapM (closeV H n f) with
     | some l=>some (.vs k .no l)
     | none=>none
    | none=>none:=rfl
def LsV (x:AV) (ls:List (List Str)):Prop:=x=.nils∧ls=[] ∨ ∃ t es,x=.vs 1 t es∧EE es ls
theorem LsV.ll {x:AV} {ls:List (List Str)} (h:LsV x ls) (H:Hp):LL H x ls:=by
 rcases h with ⟨h1,h2⟩ | h
 ·exact .inl ⟨h2,.inl h1⟩
 ·exact .inr (.inl h)
theorem LsV.len {x:AV} {ls:List (List Str)} (h:LsV x ls) (e:Nat):alenD (.slice e) x=some (.int .i64 (ls.length:Int)):=(h.ll []).len e
theorem LsV.get {x:AV} {ls:List (List Str)} (h:LsV x ls) {i:Nat} {l:List Str} (hi:ls[i]?=some l) (H:Hp):∃ p a,aindexS 1 x (.int .i64 (i:Int))=some p∧aload false 1 p H=some a∧SS a l:=(h.ll H).get hi
theorem LsV.close {x:AV} {ls:List (List Str)} (h:LsV x ls) (H:Hp) (n f:Nat):∃ x',closeV H n (f+3) x=some x'∧LsV x' ls:=by
 rcases h with ⟨rfl,rfl⟩ | ⟨t,es,rfl,he⟩
 ·exact ⟨.nils,rfl,.inl ⟨rfl,rfl⟩⟩
 ·obtain ⟨es',q1,q2⟩:=he.close H n f
  exact ⟨_,by rw [closeV_vs',q1],.inr ⟨_,es',rfl,q2⟩⟩
theorem SS.cut {x:AV} {l:List Str} (h:SS x l) {i j:Nat} (hij:i≤j) (hj:j≤l.length):∃ y,asliceV 1 x (some (.int .i64 (i:Int))) (some (.int .i64 (j:Int))) (some (.int .i64 (j:Int)))=some y∧SS y ((l.take j).drop i):=by
 have hb:∀ n,j≤n→abounds n n (some (.int .i64 (i:Int))) (some (.int .i64 (j:Int))) (some (.int .i64 (j:Int)))=some (i,j,j):=fun n hn=>by
  delta abounds
  simp [abound,hn,hij]
 rcases h with ⟨rfl,hl⟩ | ⟨t,rfl⟩
 ·have hl0:l=[]:=by simpa using hl
  subst hl0
  have hj0:j=0:=by simpa using hj
  have hi0:i=0:=by omega
  subst hj0 hi0
  refine ⟨.nils,?_,.inl ⟨rfl,rfl⟩⟩
  simp only [asliceV]
  rw [hb 0 (Nat.le_refl _)]
 ·refine ⟨.vs 1 .clip (((l.map AV.str).take j).drop i),?_,.inr ⟨.clip,by rw [← List.map_take,← List.map_drop]⟩⟩
  simp only [asliceV,if_true,List.length_map]
  rw [hb _ hj]
  simp
end Go.Am
