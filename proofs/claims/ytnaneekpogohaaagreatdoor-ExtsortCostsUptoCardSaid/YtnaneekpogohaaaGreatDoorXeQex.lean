/-
  Groups of numbers, in the machine, both ways; the laws of MergePlans and MergeGroups.
-/
import Derived.Test.YtnaneekpogohaaaGreatDoorXeQax
import Derived.Test.YtnaneekpogohaaaGreatDoorXeGPx
namespace Go.Am
set_option linter.unusedSimpArgs false
set_option linter.unusedVariables false
set_option linter.unusedSectionVars false
set_option maxRecDepth 100000

abbrev iv (n:Nat):AV:=.int .i64 (n:Int)
abbrev IS (x:AV) (l:List Nat):Prop:=Sl 1 x (l.map iv)
def ApI (H:Hp) (a:AV) (l:List Nat):Prop:=a=.nils∧l=[] ∨ ∃ t e,a=.vs 1 (.own t e) (l.map iv)∧H[t]?=some (.tok e)
theorem ApI.is {H:Hp} {a:AV} {l:List Nat} (h:ApI H a l):IS a l:=by
 rcases h with ⟨rfl,rfl⟩ | ⟨t,e,rfl,_⟩
 ·exact .inl ⟨rfl,rfl⟩
 ·exact .inr ⟨_,rfl⟩
theorem IS.cell {x:AV} {l:List Nat} (h:IS x l):x.cells=[x]∧x.known=true:=by
 rcases h with ⟨rfl,_⟩ | ⟨t,rfl⟩ <;> exact ⟨rfl,rfl⟩
theorem IS.len {x:AV} {l:List Nat} (h:IS x l) (e:Nat):alenD (.slice e) x=some (.int .i64 (l.length:Int)):=by
 rcases h with ⟨rfl,h⟩ | ⟨t,rfl⟩
 ·have:l=[]:=by simpa using h
  subst this
  rfl
 ·simp [alenD]
theorem ApI.app {H : Hp} {a : AV} {l : List Nat} (h : ApI H a l) (n : Nat) (hl : l.length ≤ 1048576) :
    ∃ (a':AV) (H':Hp),aappE 1 8 a (.vs 1 .clip [iv n]) H=some (a',H')∧ApI H' a' (l++[n])∧∀ (o e:Nat) (es:List AV),H[o]?=some (AObj.row e es)→H'[o]?=some (AObj.row e es):=by
 unfold aappE
 have he:Go.Am.elems 1 (.vs 1 .clip [iv n]) H=some [iv n]:=rfl
 rw [he]
 have hfit:fits ((l.map iv).length+[iv n].length) 8=true:=by simp [fits];omega
 have hone:fits [iv n].length 8=true:=rfl
 rcases h with ⟨rfl,rfl⟩ | ⟨t,e,rfl,ht⟩
 ·refine ⟨.vs 1 (.own H.length 1) [iv n],H++[.tok 1],?_,.inr ⟨H.length,1,rfl,by simp⟩,fun o e' es ho=>get_push ho _⟩
  simp only [aappend,hone,if_true]
  rw [if_neg (by simp)]
  rfl
 ·refine ⟨.vs 1 (.own t (e+1)) (l.map iv++[iv n]),H.set t (.tok (e+1)),?_,.inr ⟨t,e+1,by simp,get_set_eq _ ht⟩,fun o e' es ho=>?_⟩
  ·simp only [aappend,hfit,and_self,if_true,ht]
   rw [if_neg (by simp)]
   rfl
  ·refine get_set_ne _ (fun he=>?_) ho
   subst he
   rw [ht] at ho
   cases ho
structure EI (es:List AV) (ls:List (List Nat)):Prop where
 len:es.length=ls.length
 at':∀ (i:Nat) (l:List Nat),ls[i]?=some l→∃ e,es[i]?=some e∧IS e l
theorem EI.nil:EI [] []:=⟨rfl,fun i l h=>by simp at h⟩
theorem EI.app {es:List AV} {ls:List (List Nat)} (h:EI es ls) {e:AV} {l:List Nat} (he:IS e l):EI (es++[e]) (ls++[l]):=by
 refine ⟨by simp [h.len],fun j m hm=>?_⟩
 by_cases hj:j < ls.length
 ·rw [List.getElem?_append_left hj] at hm
  rw [List.getElem?_append_left (by rw [h.len];exact hj)]
  exact h.at' j m hm
 ·have hlt:=(List.getElem?_eq_some_iff.1 hm).1
  have:j=ls.length:=by simp at hlt;omega
  subst this
  rw [List.getElem?_append_right (Nat.le_refl _)] at hm
  simp at hm
  subst hm
  exact ⟨e,by rw [List.getElem?_append_right (by rw [h.len];exact Nat.le_refl _),h.len];simp,he⟩
theorem EI.tail {e:AV} {es:List AV} {l:List Nat} {ls:List (List Nat)} (h:EI (e :: es) (l :: ls)):IS e l∧EI es ls:=by
 obtain ⟨e',h1,h2⟩:=h.at' 0 l rfl
 obtain rfl:e=e':=Option.some.inj h1
 exact ⟨h2,by have:=h.len;simpa using this,fun i m hm=>by
  obtain ⟨e',q1,q2⟩:=h.at' (i+1) m (by simpa using hm)
  exact ⟨e',by simpa using q1,q2⟩⟩
theorem EI.cons {e:AV} {es:List AV} {l:List Nat} {ls:List (List Nat)} (h:IS e l) (k:EI es ls):EI (e :: es) (l :: ls) :=
 ⟨by simp [k.len],fun i m hm=>by
  cases i with
  | zero=>simp at hm;subst hm;exact ⟨e,rfl,h⟩
  | succ i=>simpa using k.at' i m (by simpa using hm)⟩
theorem mapM_ints (H:Hp) (n f:Nat):∀ l:List Nat,(l.map iv).mapM (closeV H n (f+1))=some (l.map iv):=by
 intro l
 induction l with
 | nil=>rfl
 | cons a l ih=>rw [List.map_cons,List.mapM_cons,ih];rfl
theorem IS.close {x:AV} {l:List Nat} (h:IS x l) (H:Hp) (n f:Nat):∃ x',closeV H n (f+2) x=some x'∧IS x' l:=by
 rcases h with ⟨rfl,h⟩ | ⟨t,rfl⟩
 ·exact ⟨.nils,rfl,.inl ⟨rfl,h⟩⟩
 ·exact ⟨_,by rw [closeV_vs',mapM_ints],.inr ⟨_,rfl⟩⟩
theorem EI.close {es:List AV} {ls:List (List Nat)} (h:EI es ls) (H:Hp) (n f:Nat):∃ es',es.mapM (closeV H n (f+2))=some es'∧EI es' ls:=by
 induction es generalizing ls with
 | nil =>
  have:ls=[]:=List.length_eq_zero_iff.1 (by rw [← h.len];rfl)
  subst this
  exact ⟨[],rfl,EI.nil⟩
 | cons e es ih =>
  cases ls with
  | nil=>have:=h.len;simp at this
  | cons l ls =>
   obtain ⟨h1,h2⟩:=h.tail
   obtain ⟨e',q1,q2⟩:=IS.close h1 H n f
   obtain ⟨es',q3,q4⟩:=ih h2
   exact ⟨e' :: es',by rw [List.mapM_cons,q1];simp [q3],EI.cons q2 q4⟩
def IV (x:AV) (ls:List (List Nat)):Prop:=x=.nils∧ls=[] ∨ ∃ t es,x=.vs 1 t es∧EI es ls
theorem IV.len {x:AV} {ls:List (List Nat)} (h:IV x ls) (e:Nat):alenD (.slice e) x=some (.int .i64 (ls.length:Int)):=by
 rcases h with ⟨rfl,rfl⟩ | ⟨t,es,rfl,he⟩
 ·rfl
 ·show some (AV.int .i64 (es.length:Int))=_;rw [he.len]
theorem IV.get {x:AV} {ls:List (List Nat)} (h:IV x ls) {i:Nat} {l:List Nat} (hi:ls[i]?=some l):∃ a,aindexS 1 x (.int .i64 (i:Int))=some (.vp [a])∧IS a l:=by
 rcases h with ⟨rfl,rfl⟩ | ⟨t,es,rfl,he⟩
 ·simp at hi
 ·obtain ⟨a,h1,h2⟩:=he.at' i l hi
  refine ⟨a,?_,h2⟩
  unfold aindexS
  dsimp only
  rw [if_pos ⟨rfl,by omega⟩,Int.toNat_natCast,h1]
  dsimp only
  rw [h2.cell.1]
theorem IS.idx {x:AV} {l:List Nat} (h:IS x l) {i n:Nat} (hi:l[i]?=some n):aindexS 1 x (.int .i64 (i:Int))=some (.vp [iv n]):=Sl.idx h (c:=iv n) (by simp [hi])
def RowI (H:Hp) (x:AV) (A:List (List Nat)) (k:List Nat):Prop:=∃ o e es a,x=.ws false 1 o e (A.length+1)∧H[o]?=some (.row e (es++[a]))∧EI es A∧ApI H a k
def RowA (H:Hp) (x:AV) (ls:List (List Nat)):Prop:=x=.nils∧ls=[] ∨ ∃ o e es,x=.ws false 1 o e ls.length∧H[o]?=some (.row e es)∧EI es ls
theorem RowI.all {H:Hp} {x:AV} {A:List (List Nat)} {k:List Nat} (h:RowI H x A k):RowA H x (A++[k]):=by
 obtain ⟨o,e,es,a,rfl,h2,h3,h4⟩:=h
 exact .inr ⟨o,e,es++[a],by simp,h2,h3.app h4.is⟩
theorem RowA.close {H:Hp} {x:AV} {ls:List (List Nat)} (h:RowA H x ls):∃ x',closeV H 0 9 x=some x'∧IV x' ls:=by
 rcases h with ⟨rfl,rfl⟩ | ⟨o,e,es,rfl,ho,he⟩
 ·exact ⟨.nils,rfl,.inl ⟨rfl,rfl⟩⟩
 ·obtain ⟨es',q1,q2⟩:=he.close H 0 6
  have hel:Go.Am.elems 1 (.ws false 1 o e ls.length) H=some es:=by
   unfold Go.Am.elems
   dsimp only
   rw [if_pos ⟨rfl,.inr rfl⟩,ho]
   dsimp only
   rw [if_pos ⟨rfl,by rw [he.len];omega⟩,← he.len,chunks_one2]
  exact ⟨.vs 1 .no es',by rw [closeV_ws',if_neg (Nat.not_lt_zero _),hel];dsimp only;rw [q1],.inr ⟨_,es',rfl,q2⟩⟩
theorem RowA.app {H : Hp} {x : AV} {ls : List (List Nat)} (h : RowA H x ls) {a : AV} {k : List Nat} (ha : ApI H a k) (hl : ls.length ≤ 1048576) :
    ∃ x' H',aappEL false 1 24 x (.vs 1 .clip [a]) H=some (x',H')∧RowI H' x' ls k:=by
 unfold aappEL
 have he:Go.Am.elems 1 (.vs 1 .clip [a]) H=some [a]:=rfl
 rw [he]
 dsimp only
 have hf1:fits 1 24=true:=rfl
 have hfit:fits (ls.length+1) 24=true:=by simp [fits];omega
 rcases h with ⟨rfl,rfl⟩ | ⟨o,e,es,rfl,ho,hes⟩
 ·refine ⟨.ws false 1 H.length 0 1,H++[.row 0 [a]],?_,H.length,0,[],a,rfl,by simp,EI.nil,?_⟩
  ·unfold aappL
   simp only [List.length_singleton,hf1,if_true,List.map_cons,List.map_nil,List.flatten_cons,List.flatten_nil,ha.is.cell.1,List.append_nil]
   rw [if_neg (by simp)]
  ·exact ha.imp id fun ⟨t,e,a1,a2⟩=>⟨t,e,a1,get_push a2 _⟩
 ·refine ⟨.ws false 1 o (e+1) (ls.length+1),H.set o (.row (e+1) (es++[a])),?_,o,e+1,es,a,rfl,get_set_eq _ ho,hes,?_⟩
  ·unfold aappL
   simp only [List.length_singleton,hfit,and_self,if_true,ho,hes.len,Nat.mul_one,Nat.le_refl,cutL_eq,List.take_of_length_le (Nat.le_of_eq hes.len),List.map_cons,List.map_nil,List.flatten_cons,List.flatten_nil,ha.is.cell.1,List.append_nil]
   rw [if_neg (by simp)]
  ·refine ha.imp id fun ⟨t,e',a1,a2⟩=>⟨t,e',a1,get_set_ne _ (fun he=>?_) a2⟩
   subst he
   rw [ho] at a2
   cases a2
theorem one_iv (n:Nat):(setElems 1 [(0,iv n)] [AV.int .i64 0]).map (AV.vs 1 .clip)=some (.vs 1 .clip [iv n]):=rfl
section
variable {w:Nat} (hw:0 < w) (hw2:w≤32)
include hw hw2
end
def waysN (ways:Int):Nat:=(min (max ways 2) 32).toNat
theorem waysN_ok (ways:Int):0 < waysN ways∧waysN ways≤32∧((waysN ways:Nat):Int)=min (max ways 2) 32:=by unfold waysN;omega
section
variable {w:Nat} (hw:0 < w) (hw2:w≤32)
include hw hw2
theorem range_snoc (s k:Nat):List.range' s k++[s+k]=List.range' s (k+1):=by rw [List.range'_concat];simp
theorem rplan_in {n : Int} (hn : n ≤ 5000) {q : Nat} (hq : ((q * w : Nat) : Int) < n) (H0 : Hp) (x5 : AV) (ho : Nat) (e : Nat) (es : List AV) : ∀ (m k : Nat) (x7 : AV) (H : Hp), w - k = m → k ≤ w → ((q * w + k : Nat) : Int) ≤ n → ApI H x7 (List.range' (q * w) k) → (x5 = .nils ∨ H[ho]? = some (.row e es)) →
    ∃ y H',R23_Plan_L2 (.int .i64 n) (iv w) x5 (iv (q * w+k)) x7 (iv k) H0 H=R23_Plan_J5 (.int .i64 n) (iv w) x5 (iv (q * w+(grp w n.toNat q).length)) y H0 H'∧ApI H' y (grp w n.toNat q)∧(x5=.nils ∨ H'[ho]?=some (.row e es)):=by
 intro m
 induction m with
 | zero =>
  intro k x7 H hm hk hb h7 h5
  have:k=w:=by omega
  subst this
  have hlt:decide ((k:Int) < (k:Int))=false:=by simp
  have hg:grp k n.toNat q=List.range' (q * k) k:=by unfold grp;rw [Nat.min_eq_left (by omega)]
  refine ⟨x7,H,?_,by rw [hg];exact h7,h5⟩
  rw [R23_Plan_L2_eq,hg,List.length_range']
  simp only [go_sem,hlt]
 | succ m ih =>
  intro k x7 H hm hk hb h7 h5
  have hlt:decide ((k:Int) < (w:Int))=true:=by rw [decide_eq_true_eq];omega
  rw [R23_Plan_L2_eq]
  by_cases hi:((q * w+k:Nat):Int) < n
  ·have hwk:IntKind.i64.wrap ((k:Int)+1)=((k+1:Nat):Int):=by rw [wrap64 (by omega) (by omega)];omega
   have hwi:IntKind.i64.wrap (((q * w+k:Nat):Int)+1)=((q * w+(k+1):Nat):Int):=by rw [wrap64 (by omega) (by omega)];omega
   obtain ⟨a',H1,p1,p2,p3⟩:=h7.app (q * w+k) (by simp;omega)
   rw [range_snoc hw hw2] at p2
   obtain ⟨y,H',m1,m2,m3⟩:=ih (k+1) a' H1 (by omega) (by omega) (by omega) p2 (h5.imp id fun h=>p3 ho e es h)
   refine ⟨y,H',?_,m2,m3⟩
   simp only [go_sem,hlt,decide_eq_true hi,R23_Plan_J6_eq,one_iv,p1,hwi,R23_Plan_J7_eq,hwk]
   exact m1
  ·have hk2:k=n.toNat - q * w:=by omega
   have hg:grp w n.toNat q=List.range' (q * w) k:=by unfold grp;rw [Nat.min_eq_right (by omega),hk2]
   refine ⟨x7,H,?_,by rw [hg];exact h7,h5⟩
   rw [hg,List.length_range']
   simp only [go_sem,hlt,decide_eq_false hi]
theorem rplan_loop {n : Int} (hn : n ≤ 5000) (H0 : Hp) : ∀ (m q : Nat) (x5 : AV) (H : Hp), cnt w n.toNat - q = m → q ≤ cnt w n.toNat → RowA H x5 ((List.range q).map (grp w n.toNat)) →
    ∃ y H',R23_Plan_L1 (.int .i64 n) (iv w) x5 (.int .i64 (min ((q * w:Nat):Int) (max n 0))) H0 H=some (y,H')∧RowA H' y (plan w n.toNat):=by
 intro m
 induction m with
 | zero =>
  intro q x5 H hm hq hr
  have:q=cnt w n.toNat:=by omega
  subst this
  have hc:=cnt_last (w:=w) (i:=n.toNat) hw
  have hlt:decide (min ((cnt w n.toNat * w:Nat):Int) (max n 0) < n)=false:=by simp;omega
  rw [R23_Plan_L1_eq]
  simp only [go_sem,hlt,R23_Plan_J3_eq]
  exact ⟨_,_,rfl,hr⟩
 | succ m ih =>
  intro q x5 H hm hq hr
  have hb:=cnt_bound (w:=w) (i:=n.toNat) (q:=q) hw (by omega)
  have hmin:min ((q * w:Nat):Int) (max n 0)=((q * w:Nat):Int):=by omega
  have hlt:decide (((q * w:Nat):Int) < n)=true:=by rw [decide_eq_true_eq];omega
  have hlen:((List.range q).map (grp w n.toNat)).length=q:=by simp
  have hqs:q≤5000:=by
   have:q≤q * w:=Nat.le_mul_of_pos_right _ hw
   omega
  rw [hmin,R23_Plan_L1_eq]
  simp only [go_sem,hlt,R23_Plan_J4_eq]
  have hgl:((q * w+(grp w n.toNat q).length:Nat):Int)=min (((q+1) * w:Nat):Int) (max n 0):=by
   rw [grp_len,Nat.add_mul,Nat.one_mul];omega
  have hone:∀ y:AV,IS y (grp w n.toNat q)→(setElems 1 [(0,y)] [AV.nils]).map (AV.vs 1 .clip)=some (.vs 1 .clip [y]):=fun y hy=>by
   simp only [setElems,hy.cell.1,hy.cell.2];rfl
  rcases hr with ⟨rfl,hnil⟩ | ⟨o,e,es,rfl,ho,hes⟩
  ·obtain ⟨y,H1,m1,m2,_⟩:=rplan_in hw hw2 hn (q:=q) (by omega) H0 .nils 0 0 [] w 0 .nils H (by omega) (by omega) (by omega) (.inl ⟨rfl,rfl⟩) (.inl rfl)
   obtain ⟨x',H2,q1,q2⟩:=(show RowA H1 .nils ((List.range q).map (grp w n.toNat)) from .inl ⟨rfl,hnil⟩).app m2 (by omega)
   have hall:=q2.all
   rw [show (List.range q).map (grp w n.toNat)++[grp w n.toNat q]=(List.range (q+1)).map (grp w n.toNat) by rw [List.range_succ,List.map_append];rfl] at hall
   obtain ⟨z,H3,r1,r2⟩:=ih (q+1) x' H2 (by omega) (by omega) hall
   refine ⟨z,H3,?_,r2⟩
   rw [show q * w+0=q * w from rfl] at m1
   rw [show iv 0=AV.int .i64 0 from rfl] at m1
   rw [m1,R23_Plan_J5_eq]
   simp only [hone y m2.is,go_sem,q1]
   rw [← hgl] at r1
   exact r1
  ·obtain ⟨y,H1,m1,m2,m3⟩:=rplan_in hw hw2 hn (q:=q) (by omega) H0 (.ws false 1 o e ((List.range q).map (grp w n.toNat)).length) o e es w 0 .nils H (by omega) (by omega) (by omega) (.inl ⟨rfl,rfl⟩) (.inr ho)
   have ho1:H1[o]?=some (.row e es):=by
    rcases m3 with h | h
    ·cases h
    ·exact h
   obtain ⟨x',H2,q1,q2⟩:=(show RowA H1 (.ws false 1 o e ((List.range q).map (grp w n.toNat)).length) ((List.range q).map (grp w n.toNat)) from .inr ⟨o,e,es,rfl,ho1,hes⟩).app m2 (by omega)
   have hall:=q2.all
   rw [show (List.range q).map (grp w n.toNat)++[grp w n.toNat q]=(List.range (q+1)).map (grp w n.toNat) by rw [List.range_succ,List.map_append];rfl] at hall
   obtain ⟨z,H3,r1,r2⟩:=ih (q+1) x' H2 (by omega) (by omega) hall
   refine ⟨z,H3,?_,r2⟩
   rw [show q * w+0=q * w from rfl] at m1
   rw [show iv 0=AV.int .i64 0 from rfl] at m1
   rw [m1,R23_Plan_J5_eq]
   simp only [hone y m2.is,go_sem,q1]
   rw [← hgl] at r1
   exact r1
end
theorem rplan_flat (n ways:Int) (hn:n≤5000) (H:Hp):∃ y,flatC C_R23_Plan [.int .i64 n,.int .i64 ways] H=some (y,H)∧IV y (plan (waysN ways) n.toNat):=by
 obtain ⟨w1,w2,w3⟩:=waysN_ok ways
 obtain ⟨y,H',m1,m2⟩:=rplan_loop w1 w2 hn [] _ 0 .nils [] rfl (Nat.zero_le _) (.inl ⟨rfl,rfl⟩)
 obtain ⟨y',c1,c2⟩:=m2.close
 refine ⟨y',?_,c2⟩
 refine flatC_cl (args':=[.int .i64 n,.int .i64 ways]) (H1:=H') (v:=y) rfl ?_ c1
 have hz:min ((0 * waysN ways:Nat):Int) (max n 0)=0:=by omega
 rw [hz] at m1
 rw [F_R23_Plan_eq]
 unfold F_R23_Plan
 by_cases h2:ways < 2
 ·have hw2:((waysN ways:Nat):Int)=2:=by omega
  have h32:decide ((32:Int) < 2)=false:=rfl
  simp only [go_sem,decide_eq_true h2,R23_Plan_J1_eq,h32,R23_Plan_J2_eq]
  rw [show iv (waysN ways)=.int .i64 2 from by unfold iv;rw [hw2]] at m1
  exact m1
 ·by_cases h3:32 < ways
  ·have hw2:((waysN ways:Nat):Int)=32:=by omega
   simp only [go_sem,decide_eq_false h2,R23_Plan_J1_eq,decide_eq_true h3,R23_Plan_J2_eq]
   rw [show iv (waysN ways)=.int .i64 32 from by unfold iv;rw [hw2]] at m1
   exact m1
  ·have hw2:((waysN ways:Nat):Int)=ways:=by omega
   simp only [go_sem,decide_eq_false h2,R23_Plan_J1_eq,decide_eq_false h3,R23_Plan_J2_eq]
   rw [show iv (waysN ways)=.int .i64 ways from by unfold iv;rw [hw2]] at m1
   exact m1

section
variable {x y:AV} {ls:List (List Nat)} (hx:IV x ls) (hy:IV y ls) (hl:ls.length≤1048576) (hin:∀ k ∈ ls,k.length≤1048576)
include hx hy hl hin
end
section
variable {w n:Nat} (hw:0 < w) (hw2:w≤32) (hn:n≤5000) {x:AV} (hx:IV x (plan w n)) {a0:AV}
include hw hw2 hn hx
end
end Go.Am
