/-
  Lists of lists of strings, in the machine.
-/
import Derived.Test.YtehanadfidoodaaGreatDoorNkMzx
import Derived.Test.YtehanadfidoodaaGreatDoorNkSax
import Derived.Test.YtehanadfidoodaaGreatDoorNkGSx
namespace Go.Am
set_option linter.unusedSimpArgs false
set_option linter.unusedVariables false
set_option linter.unusedSectionVars false
set_option maxRecDepth 100000

theorem SS.cell {e:AV} {l:List Str} (h:SS e l):e.cells = [e] ∧ e.known = true:=by
  rcases h with ⟨rfl,_⟩ | ⟨t,rfl⟩ <;> exact ⟨rfl,rfl⟩
structure EE (es:List AV) (ls:List (List Str)):Prop where
  len:es.length = ls.length
  at':∀ (i:Nat) (l:List Str),ls[i]? = some l → ∃ e,es[i]? = some e ∧ SS e l
theorem EE.nil:EE [] []:=⟨rfl,fun i l h=>by simp at h⟩
theorem EE.cell {es:List AV} {ls:List (List Str)} (h:EE es ls):∀ e ∈ es,∃ l,SS e l ∧ l ∈ ls:=fun e he=>by
  obtain ⟨i,hi⟩:=List.getElem?_of_mem he
  have hl:=(List.getElem?_eq_some_iff.1 hi).1
  rw [h.len] at hl
  obtain ⟨e',h1,h2⟩:=h.at' i ls[i] (List.getElem?_eq_getElem hl)
  rw [hi] at h1
  injection h1 with h1
  subst h1
  exact ⟨_,h2,List.getElem_mem _⟩
theorem flat_cells:∀ {es:List AV},(∀ e ∈ es,e.cells = [e]) → (es.map AV.cells).flatten = es:=by
  intro es
  induction es with
  | nil=>intro _; rfl
  | cons e es ih =>
    intro h
    rw [List.map_cons,List.flatten_cons,h e (by simp),ih (fun x hx=>h x (by simp [hx]))]
    rfl
theorem EE.flat {es:List AV} {ls:List (List Str)} (h:EE es ls):(es.map AV.cells).flatten = es:=flat_cells fun e he=>by
  obtain ⟨l,h1,_⟩:=h.cell e he
  exact h1.cell.1
theorem EE.set {es:List AV} {ls:List (List Str)} (h:EE es ls) {e:AV} {l:List Str} (he:SS e l) {i:Nat} (hi:i < ls.length):EE (es.set i e) (ls.set i l):=by
  refine ⟨by simp [h.len],fun j m hm=>?_⟩
  by_cases hij:i = j
  · subst hij
    rw [List.getElem?_set_self hi] at hm
    injection hm with hm
    subst hm
    exact ⟨e,List.getElem?_set_self (by rw [h.len]; exact hi),he⟩
  · rw [List.getElem?_set_ne hij] at hm ⊢
    exact h.at' j m hm
theorem EE.app {es:List AV} {ls:List (List Str)} (h:EE es ls) {e:AV} {l:List Str} (he:SS e l):EE (es ++ [e]) (ls ++ [l]):=by
  refine ⟨by simp [h.len],fun j m hm=>?_⟩
  by_cases hj:j < ls.length
  · rw [List.getElem?_append_left hj] at hm
    rw [List.getElem?_append_left (by rw [h.len]; exact hj)]
    exact h.at' j m hm
  · have hlt:=(List.getElem?_eq_some_iff.1 hm).1
    have:j = ls.length:=by simp at hlt; omega
    subst this
    rw [List.getElem?_append_right (Nat.le_refl _)] at hm
    simp at hm
    subst hm
    exact ⟨e,by rw [List.getElem?_append_right (by rw [h.len]; exact Nat.le_refl _),h.len]; simp,he⟩
def Rst (o:Nat) (H:Hp) (x:AV) (ls:List (List Str)):Prop :=
  ls = [] ∧ (x = .nils ∨ x = .vs 1 .clip []) ∨ ∃ e es,x = .ws false 1 o e ls.length ∧ H[o]? = some (.row e es) ∧ EE es ls
theorem wp_load {o e i:Nat} {H:Hp} {es:List AV} {a:AV} (h:H[o]? = some (.row e es)) (hv:es[i]? = some a):aload false 1 (.wp o e (i * 1)) H = some a:=by
  simp [aload,h,Go.Am.apart,hv]
theorem splice1 {l:List AV} {i:Nat} {a:AV} (h:i < l.length):splice l (i * 1) [a] = l.set i a:=by
  unfold splice
  rw [Nat.mul_one,List.set_eq_take_append_cons_drop,if_pos h]
  simp
theorem wp_store {o e i:Nat} {H:Hp} {es:List AV} {a:AV} (h:H[o]? = some (.row e es)) (ha:a.cells = [a] ∧ a.known = true) (hi:i < es.length):astoreU 1 (.wp o e (i * 1)) a H = some (.tuple [],H.set o (.row e (es.set i a))):=by
  unfold astoreU astore
  simp only [h]
  rw [if_pos ⟨trivial,ha.2,by rw [ha.1]; rfl,by omega⟩,ha.1,splice1 hi]
theorem ws_index {o e n i:Nat} (h:i < n):aindexS 1 (.ws false 1 o e n) (.int .i64 (i:Int)) = some (.wp o e (i * 1)):=by
  unfold aindexS
  dsimp only
  rw [if_pos (by omega)]
  rfl
theorem Rst.get {o:Nat} {H:Hp} {x:AV} {ls:List (List Str)} (h:Rst o H x ls) {i:Nat} {l:List Str} (hi:ls[i]? = some l):∃ p a,aindexS 1 x (.int .i64 (i:Int)) = some p ∧ aload false 1 p H = some a ∧ SS a l:=by
  rcases h with ⟨rfl,_⟩ | ⟨e,es,rfl,ho,he⟩
  · simp at hi
  · obtain ⟨a,h1,h2⟩:=he.at' i l hi
    exact ⟨_,a,ws_index (List.getElem?_eq_some_iff.1 hi).1,wp_load ho h1,h2⟩
theorem Rst.len {o:Nat} {H:Hp} {x:AV} {ls:List (List Str)} (h:Rst o H x ls) (e:Nat):alenD (.slice e) x = some (.int .i64 (ls.length:Int)):=by
  rcases h with ⟨rfl,rfl | rfl⟩ | ⟨e,es,rfl,ho,he⟩ <;> rfl
theorem Rst.keep {o:Nat} {H H':Hp} {x:AV} {ls:List (List Str)} (h:Rst o H x ls) (hk:Keep (o + 1) H H'):Rst o H' x ls:=by
  rcases h with h | ⟨e,es,h1,ho,he⟩
  · exact .inl h
  · exact .inr ⟨e,es,h1,(hk o (by omega)).trans ho,he⟩
theorem Rst.put {o:Nat} {H:Hp} {x:AV} {ls:List (List Str)} (h:Rst o H x ls) {i:Nat} (hi:i < ls.length) {a:AV} {m:List Str} (ha:SS a m):∃ p H',aindexS 1 x (.int .i64 (i:Int)) = some p ∧ astoreU 1 p a H = some (.tuple [],H') ∧ Rst o H' x (ls.set i m) ∧ H'.length = H.length ∧ ∀ j,j ≠ o → H'[j]? = H[j]?:=by
  rcases h with ⟨rfl,_⟩ | ⟨e,es,rfl,ho,he⟩
  · simp at hi
  · refine ⟨_,_,ws_index hi,wp_store ho ha.cell (by rw [he.len]; exact hi),.inr ⟨e,es.set i a,by rw [List.length_set],List.getElem?_set_self (List.getElem?_eq_some_iff.1 ho).1,he.set ha hi⟩,by simp,fun j hj=>List.getElem?_set_ne (fun e=>hj e.symm)⟩
theorem chunks_one2:∀ l:List AV,chunks false 1 l.length l = l:=by
  intro l
  induction l with
  | nil=>rfl
  | cons a l ih=>simp only [List.length_cons,chunks]; rw [List.drop_one,List.tail_cons,ih]; rfl
def LL (H:Hp) (x:AV) (ls:List (List Str)):Prop :=
  ls = [] ∧ (x = .nils ∨ x = .vs 1 .clip []) ∨ (∃ t es,x = .vs 1 t es ∧ EE es ls) ∨ ∃ o e es,x = .ws false 1 o e ls.length ∧ H[o]? = some (.row e es) ∧ EE es ls
theorem Rst.ll {o:Nat} {H:Hp} {x:AV} {ls:List (List Str)} (h:Rst o H x ls):LL H x ls:=by
  rcases h with h | ⟨e,es,h1,ho,he⟩
  · exact .inl h
  · exact .inr (.inr ⟨o,e,es,h1,ho,he⟩)
theorem LL.elems {H:Hp} {x:AV} {ls:List (List Str)} (h:LL H x ls):∃ es,elems 1 x H = some es ∧ EE es ls:=by
  rcases h with ⟨rfl,rfl | rfl⟩ | ⟨t,es,rfl,he⟩ | ⟨o,e,es,rfl,ho,he⟩
  · exact ⟨[],rfl,EE.nil⟩
  · exact ⟨[],rfl,EE.nil⟩
  · exact ⟨es,rfl,he⟩
  · refine ⟨es,?_,he⟩
    unfold Go.Am.elems
    dsimp only
    rw [if_pos ⟨rfl,.inr rfl⟩,ho]
    dsimp only
    rw [if_pos ⟨rfl,by rw [he.len]; omega⟩,← he.len,chunks_one2]
theorem LL.len {H:Hp} {x:AV} {ls:List (List Str)} (h:LL H x ls) (e:Nat):alenD (.slice e) x = some (.int .i64 (ls.length:Int)):=by
  rcases h with ⟨rfl,rfl | rfl⟩ | ⟨t,es,rfl,he⟩ | ⟨o,e,es,rfl,ho,he⟩
  · rfl
  · rfl
  · show some (AV.int .i64 (es.length:Int)) = _; rw [he.len]
  · rfl
theorem LL.get {H:Hp} {x:AV} {ls:List (List Str)} (h:LL H x ls) {i:Nat} {l:List Str} (hi:ls[i]? = some l):∃ p a,aindexS 1 x (.int .i64 (i:Int)) = some p ∧ aload false 1 p H = some a ∧ SS a l:=by
  rcases h with ⟨rfl,_⟩ | ⟨t,es,rfl,he⟩ | ⟨o,e,es,rfl,ho,he⟩
  · simp at hi
  · obtain ⟨a,h1,h2⟩:=he.at' i l hi
    refine ⟨.vp a.cells,a,?_,?_,h2⟩
    · unfold aindexS
      dsimp only
      rw [if_pos ⟨rfl,by omega⟩,Int.toNat_natCast,h1]
    · rw [h2.cell.1]; rfl
  · obtain ⟨a,h1,h2⟩:=he.at' i l hi
    exact ⟨_,a,ws_index (List.getElem?_eq_some_iff.1 hi).1,wp_load ho h1,h2⟩

theorem LL.keep {H H':Hp} {x:AV} {ls:List (List Str)} (h:LL H x ls) (hk:Keep H.length H H'):LL H' x ls:=by
  rcases h with h | h | ⟨o,e,es,h1,ho,he⟩
  · exact .inl h
  · exact .inr (.inl h)
  · exact .inr (.inr ⟨o,e,es,h1,(hk o (List.getElem?_eq_some_iff.1 ho).1).trans ho,he⟩)

theorem Rst.app {o : Nat} {H : Hp} {x : AV} {ls : List (List Str)} (h : Rst o H x ls) {a : AV} {m : List Str} (ha : SS a m) (hl : ls.length ≤ 1048576) :
    ∃ o' x' H',aappEL false 1 24 x (.vs 1 .clip [a]) H = some (x',H') ∧ Rst o' H' x' (ls ++ [m]) ∧ H.length ≤ H'.length ∧ (∀ i y,H[i]? = some y → i ≠ o → H'[i]? = some y):=by
  unfold aappEL
  have he:Go.Am.elems 1 (.vs 1 .clip [a]) H = some [a]:=rfl
  rw [he]
  dsimp only
  have hf1:fits 1 24 = true:=rfl
  have hfit:fits (ls.length + 1) 24 = true:=by simp [fits]; omega
  rcases h with ⟨rfl,rfl | rfl⟩ | ⟨e,es,rfl,ho,hes⟩
  · refine ⟨H.length,.ws false 1 H.length 0 1,H ++ [.row 0 [a]],?_,.inr ⟨0,[a],rfl,by simp,EE.nil.app ha⟩,by simp,fun i y hy _=>get_push hy _⟩
    unfold aappL
    simp only [List.length_singleton,hf1,if_true,List.map_cons,List.map_nil,List.flatten_cons,List.flatten_nil,ha.cell.1,List.append_nil]
    rw [if_neg (by simp)]
  · refine ⟨H.length,.ws false 1 H.length 0 1,H ++ [.row 0 [a]],?_,.inr ⟨0,[a],rfl,by simp,EE.nil.app ha⟩,by simp,fun i y hy _=>get_push hy _⟩
    unfold aappL
    simp only [List.length_nil,List.nil_append,Nat.zero_add,List.length_singleton,hf1,and_self,if_true,List.map_cons,List.map_nil,List.flatten_cons,List.flatten_nil,ha.cell.1,List.append_nil]
    rw [if_neg (by simp)]
  · refine ⟨o,.ws false 1 o (e + 1) (ls.length + 1),H.set o (.row (e + 1) (es ++ [a])),?_,.inr ⟨e + 1,es ++ [a],by simp,get_set_eq _ ho,hes.app ha⟩,by simp,fun i y hy hn=>get_set_ne _ (fun e=>hn e.symm) hy⟩
    unfold aappL
    simp only [List.length_singleton,hfit,and_self,if_true,ho,hes.len,Nat.mul_one,List.map_cons,List.map_nil,List.flatten_cons,List.flatten_nil,ha.cell.1,List.append_nil]
    rw [if_neg (by simp)]
theorem EE.tail {e:AV} {es:List AV} {l:List Str} {ls:List (List Str)} (h:EE (e :: es) (l :: ls)):SS e l ∧ EE es ls:=by
  obtain ⟨e',h1,h2⟩:=h.at' 0 l rfl
  obtain rfl:e = e':=Option.some.inj h1
  exact ⟨h2,by have:=h.len; simpa using this,fun i m hm=>by
    obtain ⟨e',q1,q2⟩:=h.at' (i + 1) m (by simpa using hm)
    exact ⟨e',by simpa using q1,q2⟩⟩
theorem EE.cons {e:AV} {es:List AV} {l:List Str} {ls:List (List Str)} (h:SS e l) (k:EE es ls):EE (e :: es) (l :: ls) :=
  ⟨by simp [k.len],fun i m hm=>by
    cases i with
    | zero=>simp at hm; subst hm; exact ⟨e,rfl,h⟩
    | succ i=>simpa using k.at' i m (by simpa using hm)⟩
theorem EE.close {es:List AV} {ls:List (List Str)} (h:EE es ls) (H:Hp) (n f:Nat):∃ es',es.mapM (closeV H n (f + 2)) = some es' ∧ EE es' ls:=by
  induction es generalizing ls with
  | nil =>
    have:ls = []:=List.length_eq_zero_iff.1 (by rw [← h.len]; rfl)
    subst this
    exact ⟨[],rfl,EE.nil⟩
  | cons e es ih =>
    cases ls with
    | nil=>have:=h.len; simp at this
    | cons l ls =>
      obtain ⟨h1,h2⟩:=h.tail
      obtain ⟨e',q1,q2⟩:=SS.closed h1 H n f
      obtain ⟨es',q3,q4⟩:=ih h2
      exact ⟨e' :: es',by rw [List.mapM_cons,q1]; simp [q3],EE.cons q2 q4⟩
theorem closeV_vs' (H : Hp) (n f k : Nat) (t : Tok) (l : List AV) : closeV H n (f + 1) (.vs k t l) = match l.mapM (closeV H n f) with
    | some l=>some (.vs k (match t with | .own t e=>if t < n then .own t e else .no | tok=>tok) l)
    | none=>none:=rfl
theorem closeV_ws' (H : Hp) (n f : Nat) (ag : Bool) (k o e len : Nat) : closeV H n (f + 1) (.ws ag k o e len) = if o < n then some (.ws ag k o e len) else
    match elems k (.ws ag k o e len) H with
    | some l=>match l.mapM (closeV H n f) with
      | some l=>some (.vs k .no l)
      | none=>none
    | none=>none:=rfl
def LsV (x:AV) (ls:List (List Str)):Prop:=x = .nils ∧ ls = [] ∨ ∃ t es,x = .vs 1 t es ∧ EE es ls
theorem LsV.ll {x:AV} {ls:List (List Str)} (h:LsV x ls) (H:Hp):LL H x ls:=by
  rcases h with ⟨h1,h2⟩ | h
  · exact .inl ⟨h2,.inl h1⟩
  · exact .inr (.inl h)
theorem LsV.len {x:AV} {ls:List (List Str)} (h:LsV x ls) (e:Nat):alenD (.slice e) x = some (.int .i64 (ls.length:Int)):=(h.ll []).len e
theorem LsV.get {x:AV} {ls:List (List Str)} (h:LsV x ls) {i:Nat} {l:List Str} (hi:ls[i]? = some l) (H:Hp):∃ p a,aindexS 1 x (.int .i64 (i:Int)) = some p ∧ aload false 1 p H = some a ∧ SS a l:=(h.ll H).get hi
theorem LsV.get' {x:AV} {ls:List (List Str)} (h:LsV x ls) {i:Nat} {l:List Str} (hi:ls[i]? = some l):∃ a,aindexS 1 x (.int .i64 (i:Int)) = some (.vp [a]) ∧ SS a l:=by
  rcases h with ⟨rfl,rfl⟩ | ⟨t,es,rfl,he⟩
  · simp at hi
  · obtain ⟨a,h1,h2⟩:=he.at' i l hi
    refine ⟨a,?_,h2⟩
    unfold aindexS
    dsimp only
    rw [if_pos ⟨rfl,by omega⟩,Int.toNat_natCast,h1]
    dsimp only
    rw [h2.cell.1]
theorem LsV.close {x:AV} {ls:List (List Str)} (h:LsV x ls) (H:Hp) (n f:Nat):∃ x',closeV H n (f + 3) x = some x' ∧ LsV x' ls:=by
  rcases h with ⟨rfl,rfl⟩ | ⟨t,es,rfl,he⟩
  · exact ⟨.nils,rfl,.inl ⟨rfl,rfl⟩⟩
  · obtain ⟨es',q1,q2⟩:=he.close H n f
    exact ⟨_,by rw [closeV_vs',q1],.inr ⟨_,es',rfl,q2⟩⟩
theorem LL.close0 {H:Hp} {x:AV} {ls:List (List Str)} (h:LL H x ls):∃ x',closeV H 0 6 x = some x' ∧ LsV x' ls:=by
  rcases h with ⟨rfl,rfl | rfl⟩ | ⟨t,es,rfl,he⟩ | ⟨o,e,es,rfl,ho,he⟩
  · exact ⟨.nils,rfl,.inl ⟨rfl,rfl⟩⟩
  · exact ⟨.vs 1 .clip [],rfl,.inr ⟨_,[],rfl,EE.nil⟩⟩
  · obtain ⟨es',q1,q2⟩:=he.close H 0 3
    exact ⟨_,by rw [closeV_vs',q1],.inr ⟨_,es',rfl,q2⟩⟩
  · obtain ⟨es',q1,q2⟩:=he.close H 0 3
    have hel:Go.Am.elems 1 (.ws false 1 o e ls.length) H = some es:=by
      unfold Go.Am.elems
      dsimp only
      rw [if_pos ⟨rfl,.inr rfl⟩,ho]
      dsimp only
      rw [if_pos ⟨rfl,by rw [he.len]; omega⟩,← he.len,chunks_one2]
    exact ⟨.vs 1 .no es',by rw [closeV_ws',if_neg (Nat.not_lt_zero _),hel]; dsimp only; rw [q1],.inr ⟨_,es',rfl,q2⟩⟩
theorem SS.cut {x:AV} {l:List Str} (h:SS x l) {i j:Nat} (hij:i ≤ j) (hj:j ≤ l.length):∃ y,asliceV 1 x (some (.int .i64 (i:Int))) (some (.int .i64 (j:Int))) (some (.int .i64 (j:Int))) = some y ∧ SS y ((l.take j).drop i):=by
  have hb:∀ n,j ≤ n → abounds n n (some (.int .i64 (i:Int))) (some (.int .i64 (j:Int))) (some (.int .i64 (j:Int))) = some (i,j,j):=fun n hn=>by
    delta abounds
    simp [abound,hn,hij]
  rcases h with ⟨rfl,hl⟩ | ⟨t,rfl⟩
  · have hl0:l = []:=by simpa using hl
    subst hl0
    have hj0:j = 0:=by simpa using hj
    have hi0:i = 0:=by omega
    subst hj0 hi0
    refine ⟨.nils,?_,.inl ⟨rfl,rfl⟩⟩
    simp only [asliceV]
    rw [hb 0 (Nat.le_refl _)]
  · refine ⟨.vs 1 .clip (((l.map AV.str).take j).drop i),?_,.inr ⟨.clip,by rw [← List.map_take,← List.map_drop]⟩⟩
    simp only [asliceV,if_true,List.length_map]
    rw [hb _ hj]
    simp
end Go.Am
namespace Go.Am
set_option linter.unusedSimpArgs false
set_option linter.unusedVariables false
set_option linter.unusedSectionVars false
set_option maxRecDepth 100000

def stC (m:Nat) (s:Sto):List AV:=[.int .i64 (s.limit:Int),.int .i64 (usedL s.files:Int),.int .i64 (s.peak:Int),.map m,.bool s.crashed,.int .i64 (s.count:Int)]
theorem StAt.cell {H H':Hp} {o m clk:Nat} {ds:List FD} {s s':Sto} (h:StAt H o m clk ds s) (hS:Stp [o] H H') (hc:H'[o]? = some (.cells (stC m s'))) (hf:s'.files = s.files):StAt H' o m clk ds s' where
  files:=by rw [hf]; exact h.files
  cells:=hc
  map:=hS.get h.map (by simpa using h.om.symm)
  file:=fun d hd=>(h.file d hd).frame fun a ha=>hS.at' a ((h.file d hd).lt a ha) (by simpa using (h.own_lt hd ha).1)
  nd:=h.nd
  born:=h.born
theorem ld {H:Hp} {o:Nat} {l:List AV} (h:H[o]? = some (.cells l)) (i:Nat) {v:AV} (hv:l[i]? = some v):aload false 1 (.ptr o (0 + i)) H = some v:=by
  rw [aload_of h,Nat.zero_add]; exact hv
theorem st {H:Hp} {o:Nat} {l:List AV} (h:H[o]? = some (.cells l)) (i:Nat) {v:AV} (hv:v.cells = [v]) (hk:v.known = true) (hi:i < l.length):astoreU 1 (.ptr o (0 + i)) v H = some (.tuple [],H.set o (.cells (l.set i v))):=by
  rw [Nat.zero_add,astore_of h hk (by rw [hv]; rfl) (by omega),hv]
  congr 4
  have:=splice1 (l:=l) (i:=i) (a:=v) hi
  rwa [Nat.mul_one] at this
theorem begin_run {H : Hp} {o m clk : Nat} {ds : List FD} {s : Sto} (h : StAt H o m clk ds s) (hk : s.count ≤ 9223372036854775807) :
    ∃ H',C_store_Store_begin [.ptr o 0] H = some (.bool s.tick.crashed,H') ∧ StAt H' o m clk ds s.tick ∧ Stp [o] H H':=by
  have hc:H[o]? = some (.cells (stC m s)):=h.cells
  have l4:=ld hc 4 (v:=.bool s.crashed) rfl
  have l5:=ld hc 5 (v:=.int .i64 (s.count:Int)) rfl
  rw [F_store_Store_begin_eq]
  unfold F_store_Store_begin
  cases hcr:s.crashed with
  | true =>
    have ht:s.tick = s:=by unfold Sto.tick; rw [if_pos hcr]
    rw [ht,hcr]
    rw [hcr] at l4
    exact ⟨H,by simp only [go_sem,l4,store_Store_begin_J1_eq],h,Stp.refl _ _⟩
  | false =>
    rw [hcr] at l4
    by_cases h1:s.count = 1
    · have ht:s.tick = { s with crashed:=true,count:=0 }:=by unfold Sto.tick; rw [if_neg (by simp [hcr]),if_pos h1]
      have e1:((s.count:Int) == 1) = true:=by rw [h1]; rfl
      have s4:=st hc 4 (v:=.bool true) rfl rfl (by simp [stC])
      have hc2:=get_set_eq (AObj.cells (List.set (stC m s) 4 (.bool true))) hc
      have s5:=st hc2 5 (v:=.int .i64 0) rfl rfl (by simp [stC])
      have hc3:=get_set_eq (AObj.cells (List.set (List.set (stC m s) 4 (.bool true)) 5 (AV.int .i64 0))) hc2
      have l4':=ld hc3 4 (v:=.bool true) rfl
      refine ⟨(H.set o (.cells ((stC m s).set 4 (.bool true)))).set o (.cells (((stC m s).set 4 (.bool true)).set 5 (.int .i64 0))),by simp only [go_sem,l4,l5,e1,s4,s5,store_Store_begin_J1_eq,l4',ht],?_,?_⟩
      · rw [ht]
        refine h.cell ?_ ?_ rfl
        · exact (Stp.set H _ (by simp)).trans (Stp.set _ _ (List.mem_singleton.2 rfl)) (fun a ha=>ha) (fun a ha=>.inl ha)
        · exact hc3
      · exact (Stp.set H _ (by simp)).trans (Stp.set _ _ (List.mem_singleton.2 rfl)) (fun a ha=>ha) (fun a ha=>.inl ha)
    · have e1:((s.count:Int) == 1) = false:=by rw [beq_eq_false_iff_ne]; omega
      have ht:s.tick = { s with count:=s.count - 1 }:=by unfold Sto.tick; rw [if_neg (by simp [hcr]),if_neg h1]
      by_cases h2:1 < s.count
      · have e2:decide ((1:Int) < (s.count:Int)) = true:=by rw [decide_eq_true_eq]; omega
        have hw:IntKind.i64.wrap ((s.count:Int) - 1) = ((s.count - 1:Nat):Int):=by rw [wrap64 (by omega) (by omega)]; omega
        have s5:=st hc 5 (v:=.int .i64 ((s.count - 1:Nat):Int)) rfl rfl (by simp [stC])
        have hc3:=get_set_eq (AObj.cells (List.set (stC m s) 5 (AV.int .i64 ((s.count - 1:Nat):Int)))) hc
        have l4':=ld hc3 4 (v:=.bool s.crashed) rfl
        rw [hcr] at l4'
        refine ⟨H.set o (.cells ((stC m s).set 5 (.int .i64 ((s.count - 1:Nat):Int)))),by simp only [go_sem,l4,l5,e1,e2,hw,s5,store_Store_begin_J1_eq,l4',ht,hcr],?_,Stp.set _ _ (by simp)⟩
        rw [ht]
        exact h.cell (Stp.set _ _ (by simp)) hc3 rfl
      · have e2:decide ((1:Int) < (s.count:Int)) = false:=by simp; omega
        have h0:s.count = 0:=by omega
        have ht2:s.tick = s:=by rw [ht]; cases s; simp only at h0; subst h0; rfl
        rw [ht2,hcr]
        exact ⟨H,by simp only [go_sem,l4,l5,e1,e2,store_Store_begin_J1_eq],h,Stp.refl _ _⟩
theorem tick_files (s:Sto):s.tick.files = s.files:=by unfold Sto.tick; split; rfl; split <;> rfl
theorem tick_limit (s:Sto):s.tick.limit = s.limit:=by unfold Sto.tick; split; rfl; split <;> rfl
theorem tick_peak (s:Sto):s.tick.peak = s.peak:=by unfold Sto.tick; split; rfl; split <;> rfl
theorem open_run {H : Hp} {o m clk : Nat} {ds : List FD} {s : Sto} (h : StAt H o m clk ds s) (hk : s.count ≤ 9223372036854775807) (n : Txt) :
    ∃ (p:AV) (e:Int) (H':Hp),C_store_Store_open [.ptr o 0,.str n] H = some (.tuple [p,.int .i64 e],H') ∧ StAt H' o m clk ds s.tick ∧ Stp [o] H H' ∧
      (s.tick.crashed = true ∧ e = 19 ∨ s.tick.crashed = false ∧ getF s.files n = none ∧ e = 5 ∨
        s.tick.crashed = false ∧ e = 0 ∧ ∃ a d b,ds = a ++ d :: b ∧ d.fil.name = n ∧ (∀ g ∈ a,g.fil.name ≠ n) ∧ getF s.files n = some d.fil ∧ p = .ptr d.f 0):=by
  obtain ⟨H1,q1,q2,q3⟩:=begin_run h hk
  rw [F_store_Store_open_eq]
  unfold F_store_Store_open
  cases hcr:s.tick.crashed with
  | true =>
    rw [hcr] at q1
    exact ⟨.nilp,19,H1,by simp only [go_sem,store_Store_open_J1_eq,q1],q2,q3,.inl ⟨rfl,rfl⟩⟩
  | false =>
    rw [hcr] at q1
    have l3:=ld q2.cells 3 (v:=.map m) rfl
    have hlk:=q2.look n
    rw [tick_files] at hlk
    rcases hlk with ⟨k1,k2⟩ | ⟨a,d,b,k1,k2,k3,k4,k5⟩
    · exact ⟨.nilp,5,H1,by simp only [go_sem,store_Store_open_J1_eq,q1,store_Store_open_J2_eq,l3,k2],q2,q3,.inr (.inl ⟨rfl,k1,rfl⟩)⟩
    · exact ⟨.ptr d.f 0,0,H1,by simp only [go_sem,store_Store_open_J1_eq,q1,store_Store_open_J2_eq,l3,k5,store_Store_open_J3_eq],q2,q3,.inr (.inr ⟨rfl,rfl,a,d,b,k1,k2,k3,k4,rfl⟩)⟩
structure StoRes (H H':Hp) (o:Nat) (s':Sto) (A A':List Nat):Prop where
  at':StoreAt H' o s' A'
  stp:Stp A H H'
  own:∀ a ∈ A',a ∈ A ∨ H.length ≤ a
theorem StAt.res {H H':Hp} {o m clk:Nat} {ds:List FD} {s':Sto} (h:StAt H' o m clk ds s') (hS:Stp [o] H H'):StoRes H H' o s' (o :: m :: ds.flatMap FD.own) (o :: m :: ds.flatMap FD.own) :=
  ⟨⟨m,clk,ds,h,rfl⟩,hS.mono (fun a ha=>by rw [List.mem_singleton.1 ha]; simp),fun a ha=>.inl ha⟩
theorem ptr_self (d:FD):d.f ∈ d.own:=by simp [FD.own]
theorem Sync_run {H : Hp} {o : Nat} {s : Sto} {A : List Nat} (h : StoreAt H o s A) (hk : s.count ≤ 9223372036854775807) (n : Txt) :
    ∃ H' A',C_store_Store_Sync [.ptr o 0,.str n] H = some (.int .i64 (s.sync n).1,H') ∧ StoRes H H' o (s.sync n).2 A A':=by
  obtain ⟨m,clk,ds,h,rfl⟩:=h
  obtain ⟨p,e,H1,q1,q2,q3,q4⟩:=open_run h hk n
  rw [F_store_Store_Sync_eq]
  unfold F_store_Store_Sync Sto.sync
  rcases q4 with ⟨c1,rfl⟩ | ⟨c1,c2,rfl⟩ | ⟨c1,rfl,a,d,b,rfl,c3,c4,c5,rfl⟩
  · have e1:((19:Int) == 0) = false:=rfl
    rw [if_pos c1]
    exact ⟨H1,_,by simp only [q1,go_sem,List.getElem?_cons_zero,List.getElem?_cons_succ,e1,store_Store_Sync_J1_eq],q2.res q3⟩
  · have e1:((5:Int) == 0) = false:=rfl
    rw [if_neg (by simp [c1]),c2]
    exact ⟨H1,_,by simp only [q1,go_sem,List.getElem?_cons_zero,List.getElem?_cons_succ,e1,store_Store_Sync_J1_eq],q2.res q3⟩
  · have e1:((0:Int) == 0) = true:=rfl
    rw [if_neg (by simp [c1]),c5]
    have hd:=q2.file d (by simp)
    have l0:=ld hd.cells 0 (v:=d.tx) rfl
    have hlen:=hd.text.len 5
    have s1:=st hd.cells 1 (v:=.int .i64 (d.fil.text.length:Int)) rfl rfl (by simp)
    refine ⟨H1.set d.f (.cells (List.set [d.tx,.int .i64 (d.fil.syn:Int)] 1 (.int .i64 (d.fil.text.length:Int)))),o :: m :: (a ++ { d with fil:={ d.fil with syn:=d.fil.text.length } } :: b).flatMap FD.own,by simp only [q1,go_sem,List.getElem?_cons_zero,List.getElem?_cons_succ,e1,l0,hlen,s1,store_Store_Sync_J1_eq],?_⟩
    have hne:d.f ≠ o:=(q2.own_lt (d:=d) (by simp) (ptr_self d)).1
    have hnm:d.f ≠ m:=(q2.own_lt (d:=d) (by simp) (ptr_self d)).2
    have hS:Stp (o :: d.own) H1 (H1.set d.f (.cells (List.set [d.tx,.int .i64 (d.fil.syn:Int)] 1 (.int .i64 (d.fil.text.length:Int))))):=Stp.set _ _ (by simp [FD.own])
    have htx:∀ t ∈ tokA d.tx,t ≠ d.f:=fun t ht=>by
      have:=q2.nd
      rw [List.nodup_cons,List.nodup_cons,List.flatMap_append,List.flatMap_cons,List.nodup_append,List.nodup_append] at this
      obtain ⟨_,_,_,⟨k1,_⟩,_⟩:=this
      rw [FD.own,List.nodup_cons] at k1
      exact fun e=>k1.1 (e ▸ ht)
    have hup:usedL (updF s.files n fun f=>{ f with syn:=f.text.length }) = usedL s.files:=by
      rw [← h.files,updF_map a d b n _ c3 c4]
      simp [usedL_app,usedL]
    have hat:=q2.upd (d':={ d with fil:={ d.fil with syn:=d.fil.text.length } }) (s':={ s.tick with files:=updF s.files n fun f=>{ f with syn:=f.text.length } }) (H':=H1.set d.f (.cells (List.set [d.tx,.int .i64 (d.fil.syn:Int)] 1 (.int .i64 (d.fil.text.length:Int)))))
      (by
        rw [List.getElem?_set_ne hne,q2.cells]
        simp only [hup,tick_files])
      (List.getElem?_set_ne hnm) rfl (by show updF s.files n _ = _; rw [← h.files,updF_map a d b n _ c3 c4])
      ⟨get_set_eq _ hd.cells,hd.text.frame fun t ht=>List.getElem?_set_ne (fun e=>htx t ht e.symm)⟩ hS
      (by
        have:=q2.nd
        rw [List.nodup_cons,List.nodup_cons,List.flatMap_append,List.flatMap_cons,List.nodup_append,List.nodup_append] at this
        exact this.2.2.2.1.1)
      (fun x hx=>.inl hx)
    refine ⟨⟨m,clk,_,hat,rfl⟩,?_,fun x hx=>.inl ?_⟩
    · refine q3.trans hS (fun x hx=>by rw [List.mem_singleton.1 hx]; simp) fun x hx=>.inl ?_
      rcases List.mem_cons.1 hx with e | hx
      · subst e; simp
      · simp [hx]
    · simpa [FD.own] using hx
end Go.Am
namespace Go.Am
set_option linter.unusedSimpArgs false
set_option linter.unusedVariables false
set_option linter.unusedSectionVars false
set_option maxRecDepth 100000

theorem StAt.fileRes {H H1 H' : Hp} {o m clk : Nat} {a b : List FD} {d d' : FD} {s s' : Sto} (h : StAt H o m clk (a ++ d :: b) s) (h1 : Stp [o] H H1) (hat : StAt H' o m clk (a ++ d' :: b) s') (hS : Stp (o :: d.own) H1 H')
    (hown:∀ x ∈ d'.own,x ∈ d.own ∨ H1.length ≤ x):StoRes H H' o s' (o :: m :: (a ++ d :: b).flatMap FD.own) (o :: m :: (a ++ d' :: b).flatMap FD.own):=by
  refine ⟨⟨m,clk,_,hat,rfl⟩,h1.trans hS (fun x hx=>by rw [List.mem_singleton.1 hx]; simp) fun x hx=>.inl ?_,fun x hx=>?_⟩
  · rcases List.mem_cons.1 hx with e | hx
    · subst e; simp
    · simp [hx]
  · rcases List.mem_cons.1 hx with e | hx
    · subst e; exact .inl (by simp)
    rcases List.mem_cons.1 hx with e | hx
    · subst e; exact .inl (by simp)
    rw [List.flatMap_append,List.flatMap_cons] at hx
    rcases List.mem_append.1 hx with hx | hx
    · exact .inl (by simp only [List.flatMap_append,List.mem_cons,List.mem_append]; exact .inr (.inr (.inl hx)))
    rcases List.mem_append.1 hx with hx | hx
    · rcases hown x hx with k | k
      · exact .inl (by simp only [List.flatMap_append,List.flatMap_cons,List.mem_cons,List.mem_append]; exact .inr (.inr (.inr (.inl k))))
      · exact .inr (Nat.le_trans h1.len k)
    · exact .inl (by simp only [List.flatMap_append,List.flatMap_cons,List.mem_cons,List.mem_append]; exact .inr (.inr (.inr (.inr hx))))
theorem StAt.mid {H:Hp} {o m clk:Nat} {a b:List FD} {d:FD} {s:Sto} (h:StAt H o m clk (a ++ d :: b) s):d.own.Nodup ∧ FileAt H d ∧ (∀ x ∈ d.own,x ≠ o ∧ x ≠ m) ∧ ∀ t ∈ tokA d.tx,t ≠ d.f:=by
  have:=h.nd
  rw [List.nodup_cons,List.nodup_cons,List.flatMap_append,List.flatMap_cons,List.nodup_append,List.nodup_append] at this
  obtain ⟨_,_,_,⟨k1,_⟩,_⟩:=this
  refine ⟨k1,h.file d (by simp),fun x hx=>h.own_lt (d:=d) (by simp) hx,fun t ht=>?_⟩
  rw [FD.own,List.nodup_cons] at k1
  exact fun e=>k1.1 (e ▸ ht)
theorem usedL_mid (a:List Fil) (f:Fil) (b:List Fil):usedL (a ++ f :: b) = usedL a + (f.text.length + usedL b):=by rw [usedL_app]; rfl
theorem Append_run {H : Hp} {o : Nat} {s : Sto} {A : List Nat} (h : StoreAt H o s A) (hk : StoOk s) (n t : Txt) (ht : t.length ≤ 1048576) :
    ∃ H' A',C_store_Store_Append [.ptr o 0,.str n,.str t] H = some (.int .i64 (s.append n t).1,H') ∧ StoRes H H' o (s.append n t).2 A A':=by
  obtain ⟨m,clk,ds,h,rfl⟩:=h
  obtain ⟨p,e,H1,q1,q2,q3,q4⟩:=open_run h hk.count n
  rw [F_store_Store_Append_eq]
  unfold F_store_Store_Append Sto.append
  rcases q4 with ⟨c1,rfl⟩ | ⟨c1,c2,rfl⟩ | ⟨c1,rfl,a,d,b,rfl,c3,c4,c5,rfl⟩
  · have e1:((19:Int) != 0) = true:=rfl
    rw [if_pos c1]
    exact ⟨H1,_,by simp only [q1,go_sem,List.getElem?_cons_zero,List.getElem?_cons_succ,e1],q2.res q3⟩
  · have e1:((5:Int) != 0) = true:=rfl
    rw [if_neg (by simp [c1]),c2]
    exact ⟨H1,_,by simp only [q1,go_sem,List.getElem?_cons_zero,List.getElem?_cons_succ,e1],q2.res q3⟩
  · have e1:((0:Int) != 0) = false:=rfl
    rw [if_neg (by simp [c1]),c5]
    have hused:=hk.used
    have hlim:=hk.limit
    have hpk:=hk.peak
    have hc:H1[o]? = some (.cells (stC m s.tick)):=q2.cells
    have l0:=ld hc 0 (v:=.int .i64 (s.limit:Int)) (by rw [← tick_limit s]; rfl)
    have l1:=ld hc 1 (v:=.int .i64 (usedL s.files:Int)) (by rw [← tick_files s]; rfl)
    have hw:IntKind.i64.wrap ((usedL s.files:Int) + (t.length:Int)) = ((usedL s.files + t.length:Nat):Int):=by rw [wrap64 (by omega) (by omega)]; omega
    by_cases hf:s.limit < usedL s.files + t.length
    · have e2:decide ((s.limit:Int) < ((usedL s.files + t.length:Nat):Int)) = true:=by rw [decide_eq_true_eq]; omega
      simp only [if_pos hf]
      exact ⟨H1,_,by simp only [q1,go_sem,List.getElem?_cons_zero,List.getElem?_cons_succ,e1,store_Store_Append_J1_eq,l0,l1,hw,e2],q2.res q3⟩
    · have e2:decide ((s.limit:Int) < ((usedL s.files + t.length:Nat):Int)) = false:=by simp; omega
      simp only [if_neg hf]
      obtain ⟨k1,hd,k3,k4⟩:=q2.mid
      have hfl:=h.files
      have hfile:usedL s.files = usedL (a.map FD.fil) + (d.fil.text.length + usedL (b.map FD.fil)):=by
        rw [← hfl,List.map_append,List.map_cons,usedL_mid]
      have m0:=ld hd.cells 0 (v:=d.tx) rfl
      obtain ⟨x',H2,p1,p2,p3,p4,p5⟩:=hd.text.app t (by omega)
      have g1:H2[d.f]? = some (.cells [d.tx,.int .i64 (d.fil.syn:Int)]):=p3.get hd.cells fun hx=>k4 _ hx rfl
      have hx':x'.cells = [x'] ∧ x'.known = true:=by
        rcases p2 with ⟨rfl,_⟩ | ⟨t',e',rfl,_⟩ | rfl <;> exact ⟨rfl,rfl⟩
      have s1:=st g1 0 (v:=x') hx'.1 hx'.2 (by simp)
      have hko:=k3 d.f (by simp [FD.own])
      have hoT:o ∉ tokA d.tx:=fun hx=>(k3 o (by simp [FD.own,hx])).1 rfl
      have hmT:m ∉ tokA d.tx:=fun hx=>(k3 m (by simp [FD.own,hx])).2 rfl
      have g2:H2[o]? = some (.cells (stC m s.tick)):=p3.get hc hoT
      have g3:=get_set_ne (.cells (List.set [d.tx,.int .i64 (d.fil.syn:Int)] 0 x')) hko.1 g2
      have n1:=ld g3 1 (v:=.int .i64 (usedL s.files:Int)) (by rw [← tick_files s]; rfl)
      have s2:=st g3 1 (v:=.int .i64 ((usedL s.files + t.length:Nat):Int)) rfl rfl (by simp [stC])
      have g4:=get_set_eq (AObj.cells (List.set (stC m s.tick) 1 (.int .i64 ((usedL s.files + t.length:Nat):Int)))) g3
      have n2:=ld g4 2 (v:=.int .i64 (s.peak:Int)) (by rw [← tick_peak s]; rfl)
      have n3:=ld g4 1 (v:=.int .i64 ((usedL s.files + t.length:Nat):Int)) rfl
      have hmx:max (s.peak:Int) ((usedL s.files + t.length:Nat):Int) = ((max s.peak (usedL s.files + t.length):Nat):Int):=by omega
      have s3:=st g4 2 (v:=.int .i64 ((max s.peak (usedL s.files + t.length):Nat):Int)) rfl rfl (by simp [stC])
      have g5:=get_set_eq (AObj.cells (List.set (List.set (stC m s.tick) 1 (.int .i64 ((usedL s.files + t.length:Nat):Int))) 2 (.int .i64 ((max s.peak (usedL s.files + t.length):Nat):Int)))) g4
      generalize hH3:H2.set d.f (.cells (List.set [d.tx,.int .i64 (d.fil.syn:Int)] 0 x')) = H3 at s1 g3 n1 s2 g4 n2 n3 s3 g5
      generalize hH4:H3.set o (.cells (List.set (stC m s.tick) 1 (.int .i64 ((usedL s.files + t.length:Nat):Int)))) = H4 at s2 g4 n2 n3 s3 g5
      generalize hH5:H4.set o (.cells (List.set (List.set (stC m s.tick) 1 (.int .i64 ((usedL s.files + t.length:Nat):Int))) 2 (.int .i64 ((max s.peak (usedL s.files + t.length):Nat):Int)))) = H5 at s3 g5
      have hS:Stp (o :: d.own) H1 H5:=by
        refine (p3.mono (B:=o :: d.own) fun x hx=>by simp [FD.own,hx]).trans (B:=o :: d.own) (C:=o :: d.own) ?_ (fun _ h=>h) fun _ h=>.inl h
        rw [← hH5,← hH4,← hH3]
        exact ((Stp.set _ _ (by simp [FD.own])).trans (Stp.set _ _ (by simp)) (fun _ h=>h) fun _ h=>.inl h).trans (Stp.set _ _ (by simp)) (fun _ h=>h) fun _ h=>.inl h
      have hfin:∀ y,y ≠ o → y ≠ d.f → H5[y]? = H2[y]?:=fun y h1 h2=>by
        rw [← hH5,List.getElem?_set_ne (fun e=>h1 e.symm),← hH4,List.getElem?_set_ne (fun e=>h1 e.symm),← hH3,List.getElem?_set_ne (fun e=>h2 e.symm)]
      have hown:∀ y ∈ FD.own { d with fil:={ d.fil with text:=d.fil.text ++ t },tx:=x' },y ∈ d.own ∨ H1.length ≤ y:=fun y hy=>by
        rcases List.mem_cons.1 hy with e | hy
        · subst e; exact .inl (by simp [FD.own])
        · rcases p4 y hy with k | k
          · exact .inl (by simp [FD.own,k])
          · exact .inr (by omega)
      have hlt1:∀ y ∈ d.own,y < H1.length:=hd.lt
      have hT:∀ y ∈ tokA x',y ≠ o ∧ y ≠ d.f:=fun y hy=>by
        rcases p4 y hy with k | k
        · exact ⟨(k3 y (by simp [FD.own,k])).1,k4 y k⟩
        · have:=lt_of_get hc
          have:=hlt1 d.f (by simp [FD.own])
          omega
      have hup:usedL (updF s.files n fun f=>{ f with text:=f.text ++ t }) = usedL s.files + t.length:=by
        rw [hfile,← h.files,updF_map a d b n _ c3 c4,usedL_mid,List.length_append]
        omega
      have hat:=q2.upd (H':=H5) (d':={ d with fil:={ d.fil with text:=d.fil.text ++ t },tx:=x' }) (s':={ s.tick with files:=updF s.files n fun f=>{ f with text:=f.text ++ t },peak:=max s.peak (usedL s.files + t.length) })
        (by rw [g5]; simp only [hup]; rfl)
        (by rw [hfin m (fun e=>h.om e.symm) (fun e=>hko.2 e.symm)]; exact p3.at' m (lt_of_get q2.map) hmT)
        rfl (by show updF s.files n _ = _; rw [← h.files,updF_map a d b n _ c3 c4])
        ⟨by
          rw [← hH5,List.getElem?_set_ne (fun e=>hko.1 e.symm),← hH4,List.getElem?_set_ne (fun e=>hko.1 e.symm),← hH3]
          exact get_set_eq _ g1,p2.frame fun y hy=>hfin y (hT y hy).1 (hT y hy).2⟩ hS
        (by
          rw [FD.own,List.nodup_cons]
          refine ⟨fun hy=>(hT _ hy).2 rfl,?_⟩
          show (tokA x').Nodup
          rcases p2 with ⟨rfl,_⟩ | ⟨t',e',rfl,_⟩ | rfl <;> simp [tokA])
        hown
      refine ⟨H5,_,?_,h.fileRes q3 hat hS hown⟩
      simp only [q1,go_sem,List.getElem?_cons_zero,List.getElem?_cons_succ,e1,store_Store_Append_J1_eq,l0,l1,hw,e2,store_Store_Append_J2_eq,m0,p1,s1,n1,s2,n2,n3,hmx,s3]
end Go.Am
