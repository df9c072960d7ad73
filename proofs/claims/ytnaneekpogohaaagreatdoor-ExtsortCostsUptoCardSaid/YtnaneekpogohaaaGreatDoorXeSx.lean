/-
  The fields of a line, and the part of it that a key tells.
-/
import Derived.Test.YtnaneekpogohaaaGreatDoorXeGx
import Derived.Test.YtnaneekpogohaaaGreatDoorHmSx
namespace Go.Am
set_option linter.unusedSimpArgs false
set_option linter.unusedVariables false

def isBl (b:UInt8):Bool:=b == 32 || b == 9
def fieldsB (c:UInt8):List UInt8→Nat→Nat→List (Nat × Nat)
 | [],f,p=>[(f,p)]
 | b :: l,f,p=>if b=c then (f,p) :: fieldsB c l (p+1) (p+1) else fieldsB c l f (p+1)
end Go.Am
namespace Go.Am
set_option linter.unusedSimpArgs false
set_option linter.unusedVariables false

def fieldsW:Bool→List UInt8→Nat→Nat→List (Nat × Nat)
 | _,[],f,p=>[(f,p)]
 | q,b :: l,f,p=>if isBl b && !q then (f,p) :: fieldsW (isBl b) l p (p+1) else fieldsW (isBl b) l f (p+1)
def fsAt:List UInt8→Nat→List (Nat × Nat)
 | [],_=>[]
 | x :: l,f=>fieldsW (isBl x) l f (f+1)
def fields (line:List UInt8) (sep:Int):List (Nat × Nat):=if 0≤sep∧sep≤255 then fieldsB (UInt8.ofNat sep.toNat) line 0 0 else fsAt line 0
end Go.Am
namespace Go.Am
set_option linter.unusedSimpArgs false
set_option linter.unusedVariables false

structure Ke where
 ff:Int
 fc:Int
 tf:Int
 tc:Int
 fl:Int
def Ke.cells (k:Ke):List AV:=[.int .i64 k.ff,.int .i64 k.fc,.int .i64 k.tf,.int .i64 k.tc,.int .i64 k.fl]
structure KeOk (k:Ke):Prop where
 ff:-9223372036854775808≤k.ff∧k.ff≤9223372036854775807
 fc:-9223372036854775808≤k.fc∧k.fc≤9223372036854775807
 tf:-9223372036854775808≤k.tf∧k.tf≤9223372036854775807
 tc:-9223372036854775808≤k.tc∧k.tc≤9223372036854775807
def exFrom (lo hi:Nat) (k:Ke):Nat:=lo+(min (max k.fc 1 - 1) ((hi:Int) - lo)).toNat
def exEnd (line:List UInt8) (fs:List (Nat × Nat)) (k:Ke):Nat :=
 if 0 < k.tf∧k.tf≤fs.length then (let p:=fs.getD (k.tf - 1).toNat (0,0);if 0 < k.tc then p.1+(min k.tc ((p.2:Int) - p.1)).toNat else p.2) else line.length
def ex (line:List UInt8) (fs:List (Nat × Nat)) (k:Ke):List UInt8 :=
 if max k.ff 1≤fs.length then
  (let p:=fs.getD (max k.ff 1 - 1).toNat (0,0);if exEnd line fs k < exFrom p.1 p.2 k then [] else (line.take (exEnd line fs k)).drop (exFrom p.1 p.2 k)) else []

theorem get_last (H:Hp) (x:AObj):(H++[x])[H.length]?=some x:=get_push_len _ _ _
theorem aload_f1 {H:Hp} {o off:Nat} {l:List AV} (h:H[o]?=some (.cells l)):aload false 1 (.ptr o off) H=l[off]?:=by rw [aload_of h];simp [Go.Am.apart]

end Go.Am
namespace Go.Am
set_option linter.unusedSimpArgs false
set_option linter.unusedVariables false

def Sl (k:Nat) (x:AV) (l:List AV):Prop:=x=.nils∧l=[] ∨ ∃ tok,x=.vs k tok l
theorem Sl.len {k:Nat} {x:AV} {l:List AV} (h:Sl k x l) (e:Nat):alenD (.slice e) x=some (.int .i64 l.length):=by
 rcases h with ⟨rfl,rfl⟩ | ⟨tok,rfl⟩ <;> rfl
theorem Sl.idx {k:Nat} {x:AV} {l:List AV} (h:Sl k x l) {i:Nat} {c:AV} (hi:l[i]?=some c):aindexS k x (.int .i64 (i:Int))=some (.vp c.cells):=by
 rcases h with ⟨rfl,rfl⟩ | ⟨tok,rfl⟩
 ·simp at hi
 ·simp [aindexS,hi]
theorem mapM_id {f:AV→Option AV}:∀ {l:List AV},(∀ x ∈ l,f x=some x)→l.mapM f=some l:=by
 intro l
 induction l with
 | nil=>intro _;rfl
 | cons a l ih =>
  intro h
  rw [List.mapM_cons,h a (by simp),ih (fun x hx=>h x (by simp [hx]))]
  rfl
theorem closeV_vs (H : Hp) (n f k : Nat) (tok : Tok) (l : List AV) : closeV H n (f + 1) (.vs k tok l) = match l.mapM (closeV H n f) with
      | some l=>some (.vs k (match tok with | .own t e=>if t < n then .own t e else .no | tok=>tok) l)
      | none=>none:=(Eq.refl _).trans (Eq.refl _)
theorem closeV_aggl (H : Hp) (n f : Nat) (l : List AV) : closeV H n (f + 1) (.agg l) = match l.mapM (closeV H n f) with
      | some l=>some (.agg l)
      | none=>none:=(Eq.refl _).trans (Eq.refl _)
theorem Sl.close {k:Nat} {x:AV} {l:List AV} (h:Sl k x l) {H:Hp} {n f:Nat} (hl:∀ c ∈ l,closeV H n f c=some c):∃ x',closeV H n (f+1) x=some x'∧Sl k x' l:=by
 rcases h with ⟨rfl,rfl⟩ | ⟨tok,rfl⟩
 ·exact ⟨.nils,rfl,.inl ⟨rfl,rfl⟩⟩
 ·have e:=closeV_vs H n f k tok l
  rw [mapM_id hl] at e
  exact ⟨_,e,.inr ⟨_,rfl⟩⟩
def Ke.av (k:Ke):AV:=.agg k.cells
theorem Ke.close (k:Ke) (H:Hp) (n f:Nat):closeV H n (f+2) k.av=some k.av:=by
 have:k.cells.mapM (closeV H n (f+1))=some k.cells:=mapM_id fun x hx=>by
  simp only [Ke.cells,List.mem_cons,List.not_mem_nil,or_false] at hx
  rcases hx with rfl | rfl | rfl | rfl | rfl <;> rfl
 rw [Ke.av,closeV_aggl,this]
structure Spec where
 keys:List Ke
 sep:Int
 flags:Int
 stab:Bool
 uniq:Bool
def Spec.cells (x:AV) (p:Spec):List AV:=[x,.int .i64 p.sep,.int .i64 p.flags,.bool p.uniq,.bool p.stab]
def SpecAV (a:AV) (p:Spec):Prop:=∃ x,a=.agg (p.cells x)∧Sl 5 x (p.keys.map Ke.av)
theorem SpecAV.close {a:AV} {p:Spec} (h:SpecAV a p) (H:Hp) (n f:Nat):∃ a',closeV H n (f+4) a=some a'∧SpecAV a' p:=by
 obtain ⟨x,rfl,hx⟩:=h
 obtain ⟨x',h1,h2⟩:=hx.close (H:=H) (n:=n) (f:=f+2) (fun c hc=>by
  obtain ⟨k,_,rfl⟩:=List.mem_map.1 hc
  exact k.close H n f)
 refine ⟨.agg (p.cells x'),?_,x',rfl,h2⟩
 have:(p.cells x).mapM (closeV H n (f+3))=some (p.cells x'):=by
  simp only [Spec.cells,List.mapM_cons,h1,List.mapM_nil]
  rfl
 rw [closeV_aggl,this]
theorem aload_lastf (H:Hp) (l:List AV) (off:Nat):aload false 1 (.ptr H.length off) (H++[.cells l])=l[off]?:=aload_f1 (get_last H _)
theorem abox_agg (l:List AV) (H:Hp):abox (.agg l) H=some (.ptr H.length 0,H++[.cells l]):=abox_of rfl
attribute [go_sem] abox_agg aload_lastf
theorem Sl.key {x:AV} {l:List Ke} (h:Sl 5 x (l.map Ke.av)) {i:Nat} {k:Ke} (hi:l[i]?=some k):aindexS 5 x (.int .i64 (i:Int))=some (.vp k.cells):=h.idx (c:=k.av) (by simp [hi])
end Go.Am
namespace Go.Am
open Go.Proofs
set_option linter.unusedSimpArgs false
set_option linter.unusedVariables false

def RowN (n:Nat) (H:Hp) (k:Nat) (x:AV) (l:List AV):Prop:=x=.nils∧l=[] ∨ ∃ t e,x=.vs k (.own t e) l∧H[t]?=some (.tok e)∧n≤t
def Keep (n:Nat) (H H':Hp):Prop:=∀ i,i < n→H'[i]?=H[i]?
theorem Keep.refl (n:Nat) (H:Hp):Keep n H H:=fun _ _=>rfl
theorem Keep.trans {n:Nat} {A B C:Hp} (h:Keep n A B) (k:Keep n B C):Keep n A C:=fun i hi=>(k i hi).trans (h i hi)
theorem Keep.push {n:Nat} (H:Hp) (hn:n≤H.length) (l:List AObj):Keep n H (H++l):=fun i hi=>List.getElem?_append_left (by omega)
theorem RowN.row {n:Nat} {H:Hp} {k:Nat} {x:AV} {l:List AV} (h:RowN n H k x l):Row H k x l:=h.imp id fun ⟨t,e,a,b,_⟩=>⟨t,e,a,b⟩
theorem RowN.nil (n:Nat) (H:Hp) (k:Nat):RowN n H k .nils []:=.inl ⟨rfl,rfl⟩
theorem RowN.sl {n:Nat} {H:Hp} {k:Nat} {x:AV} {l:List AV} (h:RowN n H k x l):Sl k x l:=h.imp id fun ⟨t,e,a,_⟩=>⟨_,a⟩
theorem RowN.push {n:Nat} {H:Hp} {k:Nat} {x:AV} {l:List AV} (h:RowN n H k x l) (r:List AObj):RowN n (H++r) k x l:=h.imp id fun ⟨t,e,a,b,c⟩=>⟨t,e,a,get_push b _,c⟩
theorem RowN.app {n : Nat} {H : Hp} {k : Nat} {x : AV} {l : List AV} (h : RowN n H k x l) (hn : n ≤ H.length) (bytes : Nat) (y : AV) (ys : List AV) (hy : elems k y H = some ys) (hf : (l.length + ys.length) * (bytes + 1) ≤ 140737488355328) :
    ∃ x' H',aappE k bytes x y H=some (x',H')∧RowN n H' k x' (l++ys)∧n≤H'.length∧Keep n H H'∧(∀ (i:Nat) (c:List AV),H[i]?=some (.cells c)→H'[i]?=some (.cells c)):=by
 unfold aappE
 simp only [hy]
 rcases h with ⟨rfl,rfl⟩ | ⟨t,e,rfl,ht,hnt⟩
 ·by_cases hys:ys=[]
  ·subst hys
   exact ⟨.nils,H,by simp [aappend],.inl ⟨rfl,rfl⟩,hn,Keep.refl _ _,fun _ _ h=>h⟩
  ·have hfit:fits ys.length bytes=true:=by simpa [fits] using hf
   exact ⟨.vs k (.own H.length ys.length) ys,H++[.tok ys.length],by simp only [aappend,hys,if_false,hfit,if_true],.inr ⟨H.length,ys.length,rfl,by simp,hn⟩,by simp;omega,Keep.push H hn _,fun i c h=>get_push h _⟩
 ·have hfit:fits (l.length+ys.length) bytes=true:=by simpa [fits] using hf
  by_cases hys:ys=[]
  ·subst hys
   exact ⟨.vs k (.own t e) l,H,by simp only [aappend,List.length_nil,Nat.add_zero] at hfit ⊢;simp only [hfit,and_self,if_true],.inr ⟨t,e,by simp,ht,hnt⟩,hn,Keep.refl _ _,fun _ _ h=>h⟩
  ·refine ⟨_,_,by simp only [aappend,hfit,and_self,if_true,hys,if_false,ht],.inr ⟨t,e+ys.length,rfl,get_set_eq _ ht,hnt⟩,by simp;omega,fun i hi=>List.getElem?_set_ne (by omega),fun i c h=>?_⟩
   refine get_set_ne _ (fun he=>?_) h
   subst he
   rw [ht] at h
   cases h
end Go.Am
namespace Go.Am
set_option linter.unusedSimpArgs false
set_option linter.unusedVariables false
set_option maxRecDepth 100000

def letter (n:Nat):Bool:=(decide (97≤n) && decide (n≤122)) || (decide (65≤n) && decide (n≤90))
def digit (n:Nat):Bool:=decide (48≤n) && decide (n≤57)
def inName (n:Nat):Bool:=n == 95 || letter n || digit n
def nameS (s:List UInt8):Bool :=
 match s with
 | []=>false
 | b :: _=>decide (s.length≤32) && !digit b.toNat && s.all fun c=>inName c.toNat
end Go.Am
namespace Go.Am
set_option linter.unusedSimpArgs false
set_option linter.unusedVariables false

theorem aload_vpc (a:AV) (l:List AV) (H:Hp):aload false 1 (.vp (a :: l)) H=some a:=(Eq.refl _).trans (Eq.refl _)
end Go.Am
namespace Go.Am
set_option linter.unusedSimpArgs false
set_option linter.unusedVariables false
set_option maxRecDepth 100000

def chkL {α:Type} (bad:α→Option Int) (key:α→List UInt8):List α→List (List UInt8)→Int
 | [],_=>0
 | c :: r,seen=>match bad c with
  | some e=>e
  | none=>if seen.contains (key c) then 6 else chkL bad key r (seen++[key c])
def clsAV (c:List UInt8 × List Int):AV:=.agg (.str c.1 :: c.2.map (.int .u64))
def clsBad (c:List UInt8 × List Int):Option Int:=if nameS c.1 then none else some 4
def clsS (l:List (List UInt8 × List Int)):Int:=if 24 < l.length then 3 else chkL clsBad Prod.fst l []
def ClsOk (l:List (List UInt8 × List Int)):Prop:=∀ c ∈ l,c.2.length=4∧c.1.length≤4611686018427387904
theorem Sl.cls {x:AV} {l:List (List UInt8 × List Int)} (h:Sl 5 x (l.map clsAV)) {i:Nat} {c:List UInt8 × List Int} (hi:l[i]?=some c):aindexS 5 x (.int .i64 (i:Int))=some (.vp (.str c.1 :: c.2.map (.int .u64))):=h.idx (c:=clsAV c) (by simp [hi])
end Go.Am
namespace Go.Am
set_option linter.unusedSimpArgs false
set_option linter.unusedVariables false
set_option maxRecDepth 100000

def elAV (c:List UInt8 × Int):AV:=.agg [.str c.1,.int .i64 c.2]
def elBad (c:List UInt8 × Int):Option Int:=if (c.1.length != 2 || (decide (c.2 < 0) || decide (65535 < c.2)))=true then some 2 else none
def elsS (l:List (List UInt8 × Int)):Int:=if 64 < l.length then 3 else chkL elBad Prod.fst l []
def ElsOk (l:List (List UInt8 × Int)):Prop:=∀ c ∈ l,c.1.length≤4611686018427387904
theorem Sl.els {x:AV} {l:List (List UInt8 × Int)} (h:Sl 2 x (l.map elAV)) {i:Nat} {c:List UInt8 × Int} (hi:l[i]?=some c):aindexS 2 x (.int .i64 (i:Int))=some (.vp [.str c.1,.int .i64 c.2]):=h.idx (c:=elAV c) (by simp [hi])
end Go.Am
namespace Go.Am
set_option linter.unusedSimpArgs false
set_option linter.unusedVariables false
set_option maxRecDepth 100000

structure Loc where
 name:List UInt8
 w:List Int
 lo:List UInt8
 up:List UInt8
 cls:List (List UInt8 × List Int)
 els:List (List UInt8 × Int)
def Loc.cells (x c e:AV) (L:Loc):List AV:=[.str L.name,x,.str L.lo,.str L.up,c,e]
def LocAV (a:AV) (L:Loc):Prop:=∃ x c e,a=.agg (L.cells x c e)∧Sl 1 x (L.w.map (AV.int .i64))∧Sl 5 c (L.cls.map clsAV)∧Sl 2 e (L.els.map elAV)
structure LocOk (L:Loc):Prop where
 name:L.name.length≤4611686018427387904
 w:L.w.length≤4611686018427387904
 lo:L.lo.length≤4611686018427387904
 up:L.up.length≤4611686018427387904
 cls:ClsOk L.cls
 els:ElsOk L.els
 ncls:L.cls.length≤4611686018427387904
 nels:L.els.length≤4611686018427387904
theorem cls_close (c:List UInt8 × List Int) (H:Hp) (n f:Nat):closeV H n (f+2) (clsAV c)=some (clsAV c):=by
 have:(AV.str c.1 :: c.2.map (AV.int .u64)).mapM (closeV H n (f+1))=some (AV.str c.1 :: c.2.map (AV.int .u64)):=mapM_id fun x hx=>by
  rcases List.mem_cons.1 hx with rfl | hx
  ·rfl
  ·obtain ⟨m,_,rfl⟩:=List.mem_map.1 hx
   rfl
 rw [clsAV,closeV_aggl,this]
theorem el_close (c:List UInt8 × Int) (H:Hp) (n f:Nat):closeV H n (f+2) (elAV c)=some (elAV c):=(Eq.refl _).trans (Eq.refl _)
theorem LocAV.close {a:AV} {L:Loc} (h:LocAV a L) (H:Hp) (n f:Nat):∃ a',closeV H n (f+4) a=some a'∧LocAV a' L:=by
 obtain ⟨x,c,e,rfl,hx,hc,he⟩:=h
 obtain ⟨x',hx1,hx2⟩:=hx.close (H:=H) (n:=n) (f:=f+2) (fun y hy=>by obtain ⟨m,_,rfl⟩:=List.mem_map.1 hy;rfl)
 obtain ⟨c',hc1,hc2⟩:=hc.close (H:=H) (n:=n) (f:=f+2) (fun y hy=>by obtain ⟨m,_,rfl⟩:=List.mem_map.1 hy;exact cls_close m H n f)
 obtain ⟨e',he1,he2⟩:=he.close (H:=H) (n:=n) (f:=f+2) (fun y hy=>by obtain ⟨m,_,rfl⟩:=List.mem_map.1 hy;exact el_close m H n f)
 refine ⟨.agg (L.cells x' c' e'),?_,x',c',e',rfl,hx2,hc2,he2⟩
 have:(L.cells x c e).mapM (closeV H n (f+3))=some (L.cells x' c' e'):=by
  simp only [Loc.cells,List.mapM_cons,hx1,hc1,he1,List.mapM_nil]
  rfl
 rw [closeV_aggl,this]

def wBad (n:Int):Bool:=decide (n < 0) || decide (65535 < n)
def tailS (L:Loc):Int:=if (clsS L.cls != 0)=true then clsS L.cls else elsS L.els
def lcheckS (L:Loc):Int :=
 if nameS L.name then (if (L.w.length != 256 || (L.lo.length != 256 || L.up.length != 256))=true then 2 else if L.w.any wBad then 2 else tailS L) else 4
theorem Sl.ints {x:AV} {l:List Int} (h:Sl 1 x (l.map (AV.int .i64))) {i:Nat} (hi:i < l.length):aindexS 1 x (.int .i64 (i:Int))=some (.vp [.int .i64 l[i]]):=h.idx (c:=.int .i64 l[i]) (by simp [hi])
end Go.Am
