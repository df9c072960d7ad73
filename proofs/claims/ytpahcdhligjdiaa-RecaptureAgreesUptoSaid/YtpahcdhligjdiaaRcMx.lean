/-
  Trees of regular expressions in the machine: a tree as a value, and how it is closed.
-/
import Derived.Test.YtpahcdhligjdiaaRcGx
import Derived.Test.YtpahcdhligjdiaaKmTx
namespace Go.Am
set_option linter.unusedSimpArgs false
set_option linter.unusedVariables false
set_option maxRecDepth 100000

structure Hd where
 op:Int
 b0:Int
 b1:Int
 b2:Int
 b3:Int
 lo:Int
 hi:Int
 g:Int
deriving DecidableEq
inductive Rt where
 | mk (h:Hd) (args:List Rt)
def Rt.hd:Rt→Hd
 | .mk h _=>h
def Rt.args:Rt→List Rt
 | .mk _ a=>a
theorem Rt.eta (e:Rt):e=.mk e.hd e.args:=by cases e;rfl
def reC (h:Hd) (x:AV):List AV:=[.int .i64 h.op,.int .u64 h.b0,.int .u64 h.b1,.int .u64 h.b2,.int .u64 h.b3,.int .i64 h.lo,.int .i64 h.hi,.int .i64 h.g,x]
def reV (h:Hd) (x:AV):AV:=.agg (reC h x)
def zH:Hd:=⟨0,0,0,0,0,0,0,0⟩
def SlC (k:Nat) (x:AV) (l:List AV):Prop:=x=.nils∧l=[] ∨ x=.vs k .no l ∨ x=.vs k .clip l
inductive RtC:Rt→AV→Prop
 | mk (h : Hd) (args : List Rt) (x : AV) (l : List AV) (hx : SlC 9 x l) (hl : l.length = args.length)
     (hi:∀ (i:Nat) (e:Rt) (a:AV),args[i]?=some e→l[i]?=some a→RtC e a):RtC (.mk h args) (reV h x)
def RtL (args:List Rt) (l:List AV):Prop:=l.length=args.length∧∀ (i:Nat) (e:Rt) (a:AV),args[i]?=some e→l[i]?=some a→RtC e a
theorem RtL.nil:RtL [] []:=⟨rfl,fun i e a h=>by simp at h⟩
theorem RtL.snoc {A:List Rt} {l:List AV} (h:RtL A l) {e:Rt} {a:AV} (ha:RtC e a):RtL (A++[e]) (l++[a]):=by
 refine ⟨by simp [h.1],fun i e' a' h1 h2=>?_⟩
 rcases Nat.lt_or_ge i A.length with hi | hi
 ·rw [List.getElem?_append_left hi] at h1
  rw [List.getElem?_append_left (by rw [h.1];exact hi)] at h2
  exact h.2 i e' a' h1 h2
 ·rw [List.getElem?_append_right hi] at h1
  rw [List.getElem?_append_right (by rw [h.1];exact hi),h.1] at h2
  have hz:i - A.length=0:=by
   have:=lt_of_get h1
   simp at this;omega
  rw [hz] at h1 h2
  simp at h1 h2
  subst h1;subst h2
  exact ha
theorem RtL.app {A B:List Rt} {l m:List AV} (h:RtL A l) (h':RtL B m):RtL (A++B) (l++m):=by
 refine ⟨by simp [h.1,h'.1],fun i e' a' h1 h2=>?_⟩
 rcases Nat.lt_or_ge i A.length with hi | hi
 ·rw [List.getElem?_append_left hi] at h1
  rw [List.getElem?_append_left (by rw [h.1];exact hi)] at h2
  exact h.2 i e' a' h1 h2
 ·rw [List.getElem?_append_right hi] at h1
  rw [List.getElem?_append_right (by rw [h.1];exact hi),h.1] at h2
  exact h'.2 _ e' a' h1 h2
theorem RtL.get {A:List Rt} {l:List AV} (h:RtL A l) {i:Nat} {e:Rt} (he:A[i]?=some e):∃ a,l[i]?=some a∧RtC e a:=by
 have hl:i < l.length:=by rw [h.1];exact (List.getElem?_eq_some_iff.1 he).1
 exact ⟨l[i],List.getElem?_eq_getElem hl,h.2 i e _ he (List.getElem?_eq_getElem hl)⟩
theorem RtL.drop {A:List Rt} {l:List AV} (h:RtL A l) (n:Nat):RtL (A.drop n) (l.drop n):=by
 refine ⟨by simp [h.1],fun i e a h1 h2=>?_⟩
 rw [List.getElem?_drop] at h1 h2
 exact h.2 _ e a h1 h2
theorem RtL.rep {e:Rt} {a:AV} (h:RtC e a) (n:Nat):RtL (List.replicate n e) (List.replicate n a):=by
 refine ⟨by simp,fun i e' a' h1 h2=>?_⟩
 rw [List.getElem?_replicate] at h1 h2
 split at h1 <;> simp at h1 h2
 obtain ⟨_,h2⟩:=h2
 subst h1;subst h2
 exact h
theorem RtC.out {e:Rt} {a:AV} (h:RtC e a):∃ x l,a=reV e.hd x∧SlC 9 x l∧RtL e.args l:=by
 cases h with | mk h args x l hx hl hi=>exact ⟨x,l,rfl,hx,hl,hi⟩
theorem RtC.of {h:Hd} {args:List Rt} {x:AV} {l:List AV} (hx:SlC 9 x l) (hl:RtL args l):RtC (.mk h args) (reV h x):=.mk h args x l hx hl.1 hl.2
mutual
def dep:Rt→Nat
 | .mk _ args=>depL args+1
def depL:List Rt→Nat
 | []=>0
 | e :: l=>max (dep e) (depL l)
end
mutual
def siz:Rt→Nat
 | .mk _ args=>sizL args+1
def sizL:List Rt→Nat
 | []=>0
 | e :: l=>siz e+sizL l
end
theorem dep_arg {e:Rt}:∀ {l:List Rt} {i:Nat},l[i]?=some e→dep e≤depL l
 | [],i,h=>by simp at h
 | a :: l,0,h=>by simp at h;subst h;simp only [depL];omega
 | a :: l,i+1,h=>by
  simp at h
  have:=dep_arg (l:=l) h
  simp only [depL];omega
theorem siz_arg {e:Rt}:∀ {l:List Rt} {i:Nat},l[i]?=some e→siz e≤sizL l
 | [],i,h=>by simp at h
 | a :: l,0,h=>by simp at h;subst h;simp only [sizL];omega
 | a :: l,i+1,h=>by
  simp at h
  have:=siz_arg (l:=l) h
  simp only [sizL];omega
theorem siz_pos (e:Rt):1≤siz e:=by cases e;simp [siz]
theorem len_siz:∀ l:List Rt,l.length≤sizL l
 | []=>Nat.le_refl _
 | e :: l=>by
  have h1:=siz_pos e
  have h2:=len_siz l
  rw [List.length_cons]
  simp only [sizL];omega
theorem dep_siz:∀ e:Rt,dep e≤siz e
 | .mk _ args=>by simp only [dep,siz];exact Nat.succ_le_succ (go args)
where go:∀ l:List Rt,depL l≤sizL l
 | []=>Nat.le_refl _
 | e :: l=>by
  have h1:=dep_siz e
  have h2:=go l
  simp only [depL,sizL];omega
theorem depL_app:∀ A B:List Rt,depL (A++B)=max (depL A) (depL B)
 | [],B=>by simp [depL]
 | e :: l,B=>by simp only [List.cons_append,depL,depL_app l B];omega
theorem sizL_app:∀ A B:List Rt,sizL (A++B)=sizL A+sizL B
 | [],B=>by simp [sizL]
 | e :: l,B=>by simp only [List.cons_append,sizL,sizL_app l B];omega
theorem depL_drop:∀ (l:List Rt) (n:Nat),depL (l.drop n)≤depL l
 | [],n=>by simp
 | e :: l,0=>by simp
 | e :: l,n+1=>by
  have:=depL_drop l n
  simp only [List.drop_succ_cons,depL];omega
theorem sizL_drop:∀ (l:List Rt) (n:Nat),sizL (l.drop n)≤sizL l
 | [],n=>by simp
 | e :: l,0=>by simp
 | e :: l,n+1=>by
  have:=sizL_drop l n
  simp only [List.drop_succ_cons,sizL];omega
theorem depL_le {d:Nat}:∀ {l:List Rt},(∀ e ∈ l,dep e≤d)→depL l≤d
 | [],_=>Nat.zero_le _
 | e :: l,h=>by
  have h1:=h e (by simp)
  have h2:=depL_le (l:=l) fun x hx=>h x (by simp [hx])
  simp only [depL];omega
theorem dep_mem {e:Rt} {l:List Rt} (h:e ∈ l):dep e≤depL l:=by
 obtain ⟨i,hi⟩:=List.getElem?_of_mem h
 exact dep_arg hi
theorem Rt.ind {P:Rt→Prop} (h:∀ (hd:Hd) (args:List Rt),(∀ e ∈ args,P e)→P (.mk hd args)):∀ e,P e
 | .mk hd args=>h hd args (go args)
where go:∀ (l:List Rt),∀ e ∈ l,P e
 | [],e,he=>by cases he
 | a :: l,e,he=>by
  rcases List.mem_cons.1 he with r | r
  ·rw [r];exact Rt.ind h a
  ·exact go l e r
theorem mapM_self {g:AV→Option AV}:∀ {l:List AV},(∀ a ∈ l,g a=some a)→l.mapM g=some l
 | [],_=>rfl
 | a :: l,h=>by
  rw [List.mapM_cons,h a (by simp),mapM_self (l:=l) fun x hx=>h x (by simp [hx])]
  rfl
theorem close_int (H:Hp) (n f:Nat) (k:IntKind) (v:Int):closeV H n (f+1) (.int k v)=some (.int k v):=rfl
theorem close_bool (H:Hp) (n f:Nat) (b:Bool):closeV H n (f+1) (.bool b)=some (.bool b):=rfl
theorem close_reV {H:Hp} {n f:Nat} {h:Hd} {x x':AV} (hx:closeV H n (f+1) x=some x'):closeV H n (f+2) (reV h x)=some (reV h x'):=by
 unfold reV reC
 rw [closeV]
 simp only [List.mapM_cons,List.mapM_nil,close_int,hx]
 rfl
theorem close_sl {H:Hp} {n f k:Nat} {x:AV} {l:List AV} (hx:SlC k x l) (hl:∀ a ∈ l,closeV H n f a=some a):closeV H n (f+1) x=some x:=by
 rcases hx with ⟨rfl,rfl⟩ | rfl | rfl
 ·rfl
 ·simp only [closeV,mapM_self hl]
 ·simp only [closeV,mapM_self hl]
theorem RtC.close {e:Rt} {a:AV} (h:RtC e a) (H:Hp) (n:Nat):∀ f,2 * dep e+2≤f→closeV H n f a=some a:=by
 induction h with
 | mk h args x l hx hl hi ih =>
  intro f hf
  simp only [dep] at hf
  obtain ⟨f,rfl⟩:∃ g,f=g+2:=⟨f - 2,by omega⟩
  refine close_reV (close_sl hx fun a ha=>?_)
  obtain ⟨i,hi'⟩:=List.getElem?_of_mem ha
  have hil:i < args.length:=by rw [← hl];exact lt_of_get hi'
  have:=dep_arg (List.getElem?_eq_getElem hil)
  exact ih i _ a (List.getElem?_eq_getElem hil) hi' f (by omega)
theorem close_top {H : Hp} {h : Hd} {y : AV} {A : List Rt} {l : List AV} (hy : Row H 9 y l ∨ SlC 9 y l) (hl : RtL A l) {f : Nat} (hf : 2 * depL A + 4 ≤ f) :
    ∃ y',closeV H 0 f (reV h y)=some (reV h y')∧SlC 9 y' l:=by
 obtain ⟨f,rfl⟩:∃ g,f=g+2:=⟨f - 2,by omega⟩
 have hel:∀ a ∈ l,closeV H 0 f a=some a:=fun a ha=>by
  obtain ⟨i,hi⟩:=List.getElem?_of_mem ha
  have hil:i < A.length:=by rw [← hl.1];exact lt_of_get hi
  have:=dep_arg (List.getElem?_eq_getElem hil)
  exact (hl.2 i _ a (List.getElem?_eq_getElem hil) hi).close H 0 f (by omega)
 rcases hy with (⟨rfl,rfl⟩ | ⟨t,e,rfl,_⟩) | hy
 ·exact ⟨.nils,close_reV rfl,.inl ⟨rfl,rfl⟩⟩
 ·refine ⟨.vs 9 .no l,close_reV ?_,.inr (.inl rfl)⟩
  simp only [closeV,mapM_self hel,Nat.not_lt_zero,if_false]
 ·exact ⟨y,close_reV (close_sl hy hel),hy⟩
theorem SlC.len {k:Nat} {x:AV} {l:List AV} (h:SlC k x l) (t:Nat):alenD (.slice t) x=some (.int .i64 (l.length:Int)):=by
 rcases h with ⟨rfl,rfl⟩ | rfl | rfl <;> rfl
theorem SlC.idx {k:Nat} {x:AV} {l:List AV} (h:SlC k x l) {i:Nat} {a:AV} (hi:l[i]?=some a):aindexS k x (.int .i64 (i:Int))=some (.vp a.cells):=by
 rcases h with ⟨rfl,rfl⟩ | rfl | rfl
 ·simp at hi
 all_goals
  unfold aindexS
  dsimp only
  rw [if_pos ⟨rfl,by omega⟩,Int.toNat_natCast,hi]
theorem SlC.els {k:Nat} {x:AV} {l:List AV} (h:SlC k x l) (H:Hp):elems k x H=some l:=by
 rcases h with ⟨rfl,rfl⟩ | rfl | rfl <;> simp [elems]
theorem SlC.known {k:Nat} {x:AV} {l:List AV} (h:SlC k x l):x.cells=[x]∧x.known=true:=by
 rcases h with ⟨rfl,rfl⟩ | rfl | rfl <;> exact ⟨rfl,rfl⟩
theorem re_cells (h:Hd) (x:AV):(reV h x).cells=reC h x:=rfl
theorem aload_vp_re (h:Hd) (x:AV) (H:Hp):aload true 9 (.vp (reC h x)) H=some (reV h x):=rfl
theorem Row.known {H:Hp} {k:Nat} {x:AV} {l:List AV} (h:Row H k x l):x.cells=[x]∧x.known=true:=by
 rcases h with ⟨rfl,rfl⟩ | ⟨t,e,rfl,_⟩ <;> exact ⟨rfl,rfl⟩
theorem ld_re {H:Hp} {o:Nat} {h:Hd} {x:AV} (ho:H[o]?=some (.cells (reC h x))):aload true 9 (.ptr o 0) H=some (reV h x):=by rw [aload_of ho];rfl
theorem ld_op {H:Hp} {o:Nat} {h:Hd} {x:AV} (ho:H[o]?=some (.cells (reC h x))):aload false 1 (.ptr o (0+0)) H=some (.int .i64 h.op):=by rw [aload_of ho];rfl
theorem ld_lo {H:Hp} {o:Nat} {h:Hd} {x:AV} (ho:H[o]?=some (.cells (reC h x))):aload false 1 (.ptr o (0+5)) H=some (.int .i64 h.lo):=by rw [aload_of ho];rfl
theorem ld_hi {H:Hp} {o:Nat} {h:Hd} {x:AV} (ho:H[o]?=some (.cells (reC h x))):aload false 1 (.ptr o (0+6)) H=some (.int .i64 h.hi):=by rw [aload_of ho];rfl
theorem ld_g {H:Hp} {o:Nat} {h:Hd} {x:AV} (ho:H[o]?=some (.cells (reC h x))):aload false 1 (.ptr o (0+7)) H=some (.int .i64 h.g):=by rw [aload_of ho];rfl
theorem ld_args {H:Hp} {o:Nat} {h:Hd} {x:AV} (ho:H[o]?=some (.cells (reC h x))):aload false 1 (.ptr o (0+8)) H=some x:=by rw [aload_of ho];rfl
theorem st_re {H:Hp} {o:Nat} {c:List AV} (h:Hd) (x:AV) (ho:H[o]?=some (.cells c)) (hc:c.length=9):astoreU 9 (.ptr o 0) (reV h x) H=some (.tuple [],H.set o (.cells (reC h x))):=by
 rw [astore_of (sz:=9) (v:=reV h x) ho rfl rfl (by omega)]
 have hd:c.drop 9=[]:=List.drop_eq_nil_iff.2 (by omega)
 simp [splice,reV,AV.cells,reC,hd]
theorem st_args {H:Hp} {o:Nat} {h:Hd} {x y:AV} (ho:H[o]?=some (.cells (reC h x))) (hy:y.cells=[y]∧y.known=true):astoreU 1 (.ptr o (0+8)) y H=some (.tuple [],H.set o (.cells (reC h y))):=by
 rw [astore_of ho hy.2 (by rw [hy.1];rfl) (by simp [reC]),hy.1]
 rfl
theorem box_re (h:Hd) (x:AV) (H:Hp):abox (reV h x) H=some (.ptr H.length 0,H++[.cells (reC h x)]):=rfl
def z9:List AV:=[(.int .i64 0),(.int .u64 0),(.int .u64 0),(.int .u64 0),(.int .u64 0),(.int .i64 0),(.int .i64 0),(.int .i64 0),.nils]
theorem one_re (h:Hd) (x:AV):((setElems 9 [(0,reV h x)] [(.agg [(.int .i64 0),(.int .u64 0),(.int .u64 0),(.int .u64 0),(.int .u64 0),(.int .i64 0),(.int .i64 0),(.int .i64 0),.nils])]).map (AV.vs 9 .clip))=some (.vs 9 .clip [reV h x]):=rfl
theorem wsucc {n:Nat} (h:n < 9223372036854775807):IntKind.i64.wrap ((n:Int)+1)=((n+1:Nat):Int):=by rw [wrap64 (by omega) (by omega)];omega
end Go.Am
namespace Go.Am
set_option linter.unusedSimpArgs false
set_option linter.unusedVariables false
set_option maxRecDepth 100000

def zS (h:Hd):Bool:=h.b0 == 0 && h.b1 == 0 && h.b2 == 0 && h.b3 == 0
def zB (h:Hd):Bool:=h.lo == 0 && h.hi == 0
def shH (h:Hd) (n:Nat):Bool :=
 if h.op=1 ∨ h.op=7 ∨ h.op=8 then n == 0 && zB h && h.g == 0 && zS h
 else if h.op=2 then n == 0 && zB h && h.g == 0 && !zS h
 else if h.op=3 ∨ h.op=4 then decide (2≤n) && zB h && h.g == 0 && zS h
 else if h.op=5 then n == 1 && h.g == 0 && zS h
 else if h.op=6 then n == 1 && zB h && zS h
 else if h.op=9 then n == 0 && zB h && zS h
 else false
mutual
def shM:Rt→Bool
 | .mk h args=>shH h args.length && shL args
def shL:List Rt→Bool
 | []=>true
 | e :: l=>shM e && shL l
end
theorem shL_mem:∀ {l:List Rt},shL l=true→∀ e ∈ l,shM e=true
 | [],_,e,he=>by cases he
 | a :: l,h,e,he=>by
  simp only [shL,Bool.and_eq_true] at h
  rcases List.mem_cons.1 he with r | r
  ·rw [r];exact h.1
  ·exact shL_mem h.2 e r
theorem shM_args {h:Hd} {args:List Rt} (hs:shM (.mk h args)=true):shH h args.length=true∧∀ e ∈ args,shM e=true:=by
 simp only [shM,Bool.and_eq_true] at hs
 exact ⟨hs.1,shL_mem hs.2⟩
theorem sh_one {h:Hd} {n:Nat} (hs:shH h n=true) (ho:h.op=5 ∨ h.op=6):n=1:=by
 unfold shH at hs
 rcases ho with ho | ho <;> simp [ho] at hs <;> exact hs.1.1
mutual
def bareM:Rt→Rt
 | .mk h args=>if h.op=6 then (bareL args).headD (.mk h []) else .mk h (bareL args)
def bareL:List Rt→List Rt
 | []=>[]
 | e :: l=>bareM e :: bareL l
end
theorem bareL_eq:∀ l:List Rt,bareL l=l.map bareM
 | []=>rfl
 | e :: l=>by simp only [bareL,List.map_cons,bareL_eq l]
theorem dep_bare (e:Rt):dep (bareM e)≤dep e:=by
 induction e using Rt.ind with
 | h hd args ih =>
  have hl:∀ l:List Rt,(∀ e ∈ l,dep (bareM e)≤dep e)→depL (l.map bareM)≤depL l:=fun l h=>depL_le fun x hx=>by
   obtain ⟨e,he,rfl⟩:=List.mem_map.1 hx
   exact Nat.le_trans (h e he) (dep_mem he)
  simp only [bareM,bareL_eq]
  split
  ·cases args with
   | nil=>simp [dep]
   | cons e l =>
    simp only [List.map_cons,List.headD_cons,dep]
    have h1:=ih e (by simp)
    have h2:=dep_mem (e:=e) (l:=e :: l) (by simp)
    omega
  ·simp only [dep]
   exact Nat.succ_le_succ (hl args ih)
theorem alloc_re (Hc:Hp) (h:Hd) (x:AV):astoreU 9 (.ptr Hc.length 0) (reV h x) (Hc++[AObj.cells [(.int .i64 0),(.int .u64 0),(.int .u64 0),(.int .u64 0),(.int .u64 0),(.int .i64 0),(.int .i64 0),(.int .i64 0),.nils]])=some (.tuple [],Hc++[.cells (reC h x)]):=by
 rw [st_re (c:=[(.int .i64 0),(.int .u64 0),(.int .u64 0),(.int .u64 0),(.int .u64 0),(.int .i64 0),(.int .i64 0),(.int .i64 0),.nils]) h x (by simp) rfl]
 simp
theorem close1 {e:Rt} {a:AV} (h:RtC e a) (hd:dep e≤190):[a].mapM (closeV [] 0 400)=some [a]:=mapM_self fun x hx=>by
 rw [List.mem_singleton.1 hx]
 exact h.close [] 0 400 (by omega)
theorem flat_re {C : List AV → Hp → Option (AV × Hp)} {args : List AV} (ha : args.mapM (closeV [] 0 400) = some args) {h : Hd} {y : AV} {H1 : Hp} (hc : C args [] = some (reV h y, H1)) {A : List Rt} {l : List AV}
    (hy:Row H1 9 y l ∨ SlC 9 y l) (hl:RtL A l) (hd:depL A≤190):∃ z,RtC (.mk h A) z∧∀ H,flatC C args H=some (z,H):=by
 obtain ⟨y',k1,k2⟩:=close_top (h:=h) hy hl (f:=400) (by omega)
 exact ⟨_,RtC.of k2 hl,fun H=>flatC_cl ha hc k1⟩
theorem flat_rt {C:List AV→Hp→Option (AV × Hp)} {args:List AV} (ha:args.mapM (closeV [] 0 400)=some args) {z:AV} {H1:Hp} (hc:C args []=some (z,H1)) {e:Rt} (hz:RtC e z) (hd:dep e≤190):∀ H,flatC C args H=some (z,H) :=
 fun H=>flatC_cl ha hc (hz.close H1 0 400 (by omega))
def Tells (C:List AV→Hp→Option (AV × Hp)) (f:Rt→Rt) (e:Rt):Prop:=∀ a,RtC e a→∃ y,RtC (f e) y∧∀ H,flatC C [a] H=some (y,H)
theorem Row.set {H:Hp} {k:Nat} {y:AV} {l c c':List AV} (h:Row H k y l) {o:Nat} (ho:H[o]?=some (.cells c)):Row (H.set o (.cells c')) k y l :=
 h.mono fun i e hi=>get_set_ne _ (fun he=>by rw [← he,ho] at hi;cases hi) hi
theorem bare_loop {A : List Rt} {x : AV} {l : List AV} (hx : SlC 9 x l) (hl : RtL A l) (ih : ∀ e ∈ A, Tells C_recapture_bare bareM e) (h : Hd) {o2 o3 : Nat} (hne : o2 ≠ o3) (hb : A.length ≤ 1000000) (H0 : Hp) :
    ∀ (k i:Nat) (acc c2:List AV) (y:AV) (Hc:Hp),A.length - i=k→i≤A.length→Hc[o2]?=some (.cells c2)→c2.length=9→Hc[o3]?=some (.cells (reC h y))→Row Hc 9 y acc→RtL ((A.take i).map bareM) acc →
    ∃ z H' acc',recapture_bare_L1 (.ptr o2 0) (.ptr o3 0) x (.int .i64 (A.length:Int)) (.int .i64 (i:Int)) H0 Hc=some (reV h z,H')∧Row H' 9 z acc'∧RtL (A.map bareM) acc':=by
 intro k
 induction k with
 | zero =>
  intro i acc c2 y Hc hk hi h2 hc2 h3 hr ha
  have hlt:decide ((i:Int) < (A.length:Int))=false:=decide_eq_false (by omega)
  rw [List.take_of_length_le (by omega)] at ha
  rw [recapture_bare_L1_eq]
  simp only [go_sem,hlt,recapture_bare_J2_eq,ld_re h3,st_re h y h2 hc2,ld_re (get_set_eq _ h2)]
  exact ⟨y,_,acc,rfl,hr.set h2,ha⟩
 | succ k ihk =>
  intro i acc c2 y Hc hk hi h2 hc2 h3 hr ha
  have hL:i < A.length:=by omega
  have hlt:decide ((i:Int) < (A.length:Int))=true:=decide_eq_true (by omega)
  have hAi:=List.getElem?_eq_getElem hL
  obtain ⟨a,hla,hra⟩:=hl.get hAi
  obtain ⟨y',hy',hcall⟩:=ih _ (List.getElem_mem hL) a hra
  obtain ⟨xa,la,rfl,_,_⟩:=hra.out
  obtain ⟨xy,ly,rfl,_,_⟩:=hy'.out
  have hal:acc.length=i:=by rw [ha.1];simp;omega
  have hr2:Row (Hc++[AObj.cells (reC A[i].hd xa)]) 9 y acc:=hr.mono fun i e h=>get_push h _
  obtain ⟨y2,H2,r1,r2,r3,r4,r5⟩:=hr2.app 88 (.vs 9 .clip [reV (bareM A[i]).hd xy]) [reV (bareM A[i]).hd xy] rfl (by simp;omega)
  have h3':=r4 o3 _ (get_push h3 [AObj.cells (reC A[i].hd xa)])
  have h2':=r4 o2 _ (get_push h2 [AObj.cells (reC A[i].hd xa)])
  rw [recapture_bare_L1_eq]
  simp only [go_sem,hlt,recapture_bare_J3_eq,hx.idx hla,re_cells,aload_vp_re,alloc_re,ld_args (get_push h3 [AObj.cells (reC A[i].hd xa)]),ld_re (get_push_len Hc (AObj.cells (reC A[i].hd xa)) []),hcall,one_re,r1,st_args h3' r2.known,
   recapture_bare_J4_eq,wsucc (n:=i) (by omega)]
  refine ihk (i+1) (acc++[reV (bareM A[i]).hd xy]) c2 y2 _ (by omega) (by omega) (get_set_ne _ (Ne.symm hne) h2') hc2 (get_set_eq _ h3') (r2.set h3') ?_
  rw [List.take_succ_eq_append_getElem hL,List.map_append]
  exact ha.snoc hy'
theorem bare_run (e:Rt) (hs:shM e=true) (hd:dep e≤190) (hz:siz e≤1000000):Tells C_recapture_bare bareM e:=by
 induction e using Rt.ind with
 | h hd' args ih =>
  intro a ha
  have hcl:=close1 ha hd
  obtain ⟨x,l,rfl,hx,hl⟩:=ha.out
  obtain ⟨s1,s2⟩:=shM_args hs
  have hsz:=len_siz args
  simp only [siz] at hz
  simp only [dep] at hd
  have hk:∀ e ∈ args,Tells C_recapture_bare bareM e:=fun e he=>by
   obtain ⟨i,hi⟩:=List.getElem?_of_mem he
   have h1:=dep_arg hi
   have h2:=siz_arg hi
   exact ih e he (s2 e he) (by omega) (by omega)
  by_cases h6:hd'.op=6
  ·have h1:args.length=1:=sh_one s1 (.inr h6)
   obtain ⟨e0,rfl⟩:=List.length_eq_one_iff.1 h1
   obtain ⟨a0,hl0,hr0⟩:=hl.get (i:=0) (e:=e0) rfl
   obtain ⟨y,hy,hcall⟩:=hk e0 (by simp) a0 hr0
   obtain ⟨x0,l0,rfl,_,_⟩:=hr0.out
   obtain ⟨xy,ly,rfl,hxy,hly⟩:=hy.out
   have hm:bareM (.mk hd' [e0])=bareM e0:=by simp [bareM,bareL,h6]
   have hd0:dep (bareM e0)≤190:=by
    have:=dep_bare e0
    simp only [depL] at hd
    omega
   refine ⟨_,by rw [hm];exact hy,flat_rt hcl (H1:=?_) ?_ hy hd0⟩
   rotate_left
   ·rw [F_recapture_bare_eq]
    unfold F_recapture_bare
    have e6:(hd'.op == 6)=true:=by simp [h6]
    have g0:((([]:Hp)++[AObj.cells (reC hd' x)])++[AObj.cells [(.int .i64 0),(.int .u64 0),(.int .u64 0),(.int .u64 0),(.int .u64 0),(.int .i64 0),(.int .i64 0),(.int .i64 0),.nils]])[([]:Hp).length]?=some (.cells (reC hd' x)):=by simp
    simp only [Rt.hd,box_re,bnd_some,afield_ptr,ld_op g0,ld_args g0,ibin_eql,e6,cnd_t]
    have hix:=hx.idx hl0
    simp only [Int.natCast_zero] at hix
    simp only [hix,bnd_some,re_cells,aload_vp_re,hcall,alloc_re,ld_re (get_push_len (([]:Hp)++[AObj.cells (reC hd' x)]) (AObj.cells (reC (bareM e0).hd xy)) [])]
    rfl
  ·have hm:bareM (.mk hd' args)=.mk hd' (args.map bareM):=by simp [bareM,bareL_eq,h6]
   have e6:(hd'.op == 6)=false:=by simp [h6]
   have g0:((([]:Hp)++[AObj.cells (reC hd' x)])++[AObj.cells [(.int .i64 0),(.int .u64 0),(.int .u64 0),(.int .u64 0),(.int .u64 0),(.int .i64 0),(.int .i64 0),(.int .i64 0),.nils]])[([]:Hp).length]?=some (.cells (reC hd' x)):=by simp
   obtain ⟨z,H',acc',q1,q2,q3⟩:=bare_loop (A:=args) hx hl hk hd' (o2:=1) (o3:=2) (by omega) (by omega) [] (args.length) 0 [] z9 .nils [.cells (reC hd' x),.cells z9,.cells (reC hd' .nils)] rfl (by omega) rfl rfl rfl (.inl ⟨rfl,rfl⟩) (by simpa using RtL.nil)
   rw [hm]
   refine flat_re hcl (H1:=H') (y:=z) ?_ (.inl q2) q3 (depL_le fun x hx=>?_)
   ·rw [F_recapture_bare_eq]
    unfold F_recapture_bare
    simp only [Rt.hd,box_re,bnd_some,afield_ptr,ld_op g0,ibin_eql,e6,cnd_f,recapture_bare_J1_eq,ld_re g0,alloc_re]
    have g1:(((([]:Hp)++[AObj.cells (reC hd' x)])++[AObj.cells [(.int .i64 0),(.int .u64 0),(.int .u64 0),(.int .u64 0),(.int .u64 0),(.int .i64 0),(.int .i64 0),(.int .i64 0),.nils]])++[AObj.cells (reC hd' x)])[((([]:Hp)++[AObj.cells (reC hd' x)])++[AObj.cells [(.int .i64 0),(.int .u64 0),(.int .u64 0),(.int .u64 0),(.int .u64 0),(.int .i64 0),(.int .i64 0),(.int .i64 0),.nils]]).length]?=some (.cells (reC hd' x)):=by simp
    rw [st_args g1 ⟨rfl,rfl⟩]
    simp only [bnd_some]
    rw [ld_args (x:=x) (h:=hd') (by simp),bnd_some,hx.len,bnd_some]
    rw [hl.1]
    exact q1
   ·obtain ⟨e,he,rfl⟩:=List.mem_map.1 hx
    have h1:=dep_bare e
    have h2:=dep_mem he
    omega
end Go.Am
