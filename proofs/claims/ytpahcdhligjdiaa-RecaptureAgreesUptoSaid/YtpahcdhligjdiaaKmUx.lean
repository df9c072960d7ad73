/-
  THE ABSTRACT MACHINE, part U: arguments that are read as data, as abstract values.
-/
import Derived.Test.YtpahcdhligjdiaaKmTx
import Derived.ChangeShapes
import Derived.OpenShut
import Derived.ChangeBears
import Derived.ChangeOld
namespace Go.Am
open Go.WideShapes Go.ChangeShapes

def ofCells (g:Bool) (cs:List AV):AV:=if g then .agg cs else cs.headD .undef
def aggOf (P:Program) (t:TypeId):Bool:=(isAggT P t).getD false
def plainIn (P:Program) (L:List Nat) (t:TypeId):Bool :=
 match P.underlying t with
 | some .bool | some (.int _) | some .string=>true
 | some (.pointer e) | some (.slice e)=>L.contains e && decide (0 < P.cellsOf e)
 | some (.struct fs)=>fs.toList.all fun f=>L.contains f.type
 | some (.array _ e)=>L.contains e
 | _=>false
def TV {H:Type} (P:Program):Nat→TypeId→DataW H→List AV→Prop
 | 0,_,_,_=>False
 | n+1,t,d,as =>
  match P.underlying t with
  | some .bool=>∃ b,d=.lit (.bool b)∧as=[.bool b]
  | some (.int k)=>∃ m,d=.lit (.int k m)∧as=[.int k m]∧(Lit.int k m).wf=true
  | some .string=>∃ s:List UInt8,d=.lit (.string s)∧as=[.str s]∧s.length≤maxLen
  | some (.pointer e)=>d=.nil∧as=[.nilp] ∨ ∃ d' cells,d=.ptr d'∧as=[.vp cells]∧TV P n e d' cells
  | some (.slice e) => d = .nil ∧ as = [.nils] ∨ ∃ es sp l, d = .slice es sp ∧ as = [.vs (P.cellsOf e) .no l] ∧ l.length = es.length ∧ l.length ≤ maxLen ∧
      ∀ (i:Nat) (x:AV) (d':DataW H),l[i]?=some x→es[i]?=some d'→∃ cs,x=ofCells (aggOf P e) cs∧TV P n e d' cs
  | some (.struct fs) => ∃ (ds : List (DataW H)) (parts : List (List AV)), d = .agg ds ∧ as = parts.flatten ∧ parts.length = fs.size ∧ ds.length = fs.size ∧
      ∀ (i:Nat) (f:Field) (p:List AV) (d':DataW H),fs[i]?=some f→parts[i]?=some p→ds[i]?=some d'→TV P n f.type d' p
  | some (.array m e) => ∃ (ds : List (DataW H)) (parts : List (List AV)), d = .agg ds ∧ as = parts.flatten ∧ parts.length = m ∧ ds.length = m ∧
      ∀ (i:Nat) (p:List AV) (d':DataW H),parts[i]?=some p→ds[i]?=some d'→TV P n e d' p
  | _=>False

section
variable {H:Type} {enc:TypeId × Value→H} {P:Program} {W:World} {S:Snap}

def CRel (S:Snap) (as:List AV) (cs:List Value):Prop:=as.length=cs.length∧as.all AV.isCell=true∧∀ (i:Nat) (a:AV) (v:Value),as[i]?=some a→cs[i]?=some v→VRel S a v
theorem CRel.one {a:AV} {v:Value} (h:VRel S a v) (hc:a.isCell=true):CRel S [a] [v]:=by
 refine ⟨rfl,by simp [hc],fun i x y hx hy=>?_⟩
 cases i with
 | zero =>
  simp only [List.getElem?_cons_zero,Option.some.injEq] at hx hy
  subst hx hy
  exact h
 | succ i=>simp at hx
theorem cells?_get {base:Nat} {a:Addr} {n:Nat} {cs:List Value} (h:W.cells? base a n=some cs):cs.length=n∧∀ i,i < n→W.cell? (a.add i)=cs[i]?:=by
 unfold World.cells? at h
 split at h
 ·obtain ⟨h1,h2⟩:=mapM_some h
  simp only [List.length_range] at h1
  refine ⟨h1,fun i hi=>?_⟩
  obtain ⟨b,q1,q2⟩:=h2 i i (by simp [hi])
  rw [q1,q2]
 ·cases h
theorem cell?_lt {a:Addr} {v:Value} (h:W.cell? a=some v):a.spot=none∧a.block < W.heap.size:=by
 unfold World.cell? at h
 split at h
 ·rename_i c _ _ hb
  split at h
  ·cases h
  ·rename_i hs
   refine ⟨by simpa using hs,?_⟩
   rcases Nat.lt_or_ge a.block W.heap.size with h' | h'
   ·exact h'
   ·rw [Array.getElem?_eq_none h'] at hb;cases hb
 ·cases h
theorem CRel.parts {parts : List (List AV)} {cs : List Value} (hlen : cs.length = (parts.map List.length).sum)
    (h:∀ (j:Nat) (p:List AV),parts[j]?=some p→CRel S p ((cs.drop ((parts.take j).map List.length).sum).take p.length)):CRel S parts.flatten cs:=by
 induction parts generalizing cs with
 | nil =>
  simp only [List.map_nil,List.sum_nil] at hlen
  exact ⟨by simp [hlen],by simp,by simp⟩
 | cons p ps ih =>
  have h0:=h 0 p rfl
  simp only [List.take_zero,List.map_nil,List.sum_nil,List.drop_zero] at h0
  simp only [List.map_cons,List.sum_cons] at hlen
  have hr:CRel S ps.flatten (cs.drop p.length):=by
   refine ih (by simp;omega) fun j q hq=>?_
   have:=h (j+1) q (by simpa using hq)
   simpa [List.drop_drop] using this
  refine ⟨by have:=hr.1;simp only [List.flatten_cons,List.length_append,this,List.length_drop];omega,by simp only [List.flatten_cons,List.all_append,h0.2.1,hr.2.1,Bool.and_self],fun i a v ha hv=>?_⟩
  simp only [List.flatten_cons] at ha
  by_cases hi:i < p.length
  ·rw [List.getElem?_append_left hi] at ha
   refine h0.2.2 i a v ha ?_
   rw [List.getElem?_take_of_lt hi]
   exact hv
  ·rw [List.getElem?_append_right (by omega)] at ha
   refine hr.2.2 _ a v ha ?_
   rw [List.getElem?_drop,show p.length+(i - p.length)=i by omega]
   exact hv
theorem choose_list {α:Type} {n:Nat} {Q:Nat→α→Prop} (h:∀ i,i < n→∃ a,Q i a):∃ l:List α,l.length=n∧∀ (i:Nat) (a:α),l[i]?=some a→Q i a:=by
 induction n with
 | zero=>exact ⟨[],rfl,by simp⟩
 | succ n ih =>
  obtain ⟨l,h1,h2⟩:=ih fun i hi=>h i (by omega)
  obtain ⟨a,ha⟩:=h n (by omega)
  refine ⟨l++[a],by simp [h1],fun i x hx=>?_⟩
  by_cases hi:i < n
  ·rw [List.getElem?_append_left (by omega)] at hx
   exact h2 i x hx
  ·rw [List.getElem?_append_right (by omega)] at hx
   have:=lt_of_get hx
   simp at this
   have hi2:i=n:=by omega
   subst hi2
   simp [h1] at hx
   subst hx
   exact ha
theorem sum_take_le (l:List Nat) (j x:Nat) (h:l[j]?=some x):(l.take j).sum+x≤l.sum:=by
 induction l generalizing j with
 | nil=>simp at h
 | cons a l ih =>
  cases j with
  | zero =>
   simp only [List.getElem?_cons_zero,Option.some.injEq] at h
   subst h
   simp
  | succ j =>
   have:=ih j (by simpa using h)
   simp only [List.take_succ_cons,List.sum_cons]
   omega
theorem TV.cells {n:Nat} {t:TypeId} {d:DataW H} {as:List AV} (h:TV P n t d as):(ofCells (aggOf P t) as).cells=as:=by
 cases n with
 | zero=>exact h.elim
 | succ n =>
  unfold TV at h
  unfold aggOf isAggT
  cases hu:P.underlying t with
  | none=>simp [hu] at h
  | some d =>
   rw [hu] at h
   cases d with
   | bool=>obtain ⟨b,_,rfl⟩:=h;rfl
   | int k=>obtain ⟨m,_,rfl,_⟩:=h;rfl
   | string=>obtain ⟨m,_,rfl,_⟩:=h;rfl
   | pointer e=>rcases h with ⟨_,rfl⟩ | ⟨_,c,_,rfl,_⟩ <;> rfl
   | slice e=>rcases h with ⟨_,rfl⟩ | ⟨_,_,c,_,rfl,_⟩ <;> rfl
   | struct fs=>rfl
   | array m e=>rfl
   | _=>exact h.elim
theorem read_rel (hl : laidOutB P = true) (hw : S.w = W) (hp : ∀ b i, b < W.heap.size → S.pub b i) {L : List Nat} (hL : L.all (plainIn P L) = true) : ∀ (fuel : Nat) (t : TypeId) (cs : List Value) (x : DataW H × List MemPlace),
    L.contains t=true→t < P.types.size→DataW.trod enc P W 0 (fun _=>true) true fuel t cs=some x→∃ as,TV P fuel t x.1 as∧CRel S as cs:=by
 intro fuel
 induction fuel with
 | zero=>intro t cs x _ _ h;simp [DataW.trod] at h
 | succ n ih =>
  intro t cs x ht hlt h
  have hpl:plainIn P L t=true:=List.all_eq_true.1 hL t (List.contains_iff_mem.1 ht)
  unfold plainIn at hpl
  unfold TV
  cases hu:P.underlying t with
  | none=>simp [hu] at hpl
  | some d =>
   rw [hu] at hpl
   cases d with
   | bool =>
    obtain ⟨b,rfl,rfl⟩:=DataW.trod_bool hu h
    exact ⟨_,⟨b,rfl,rfl⟩,.one (.bool b) rfl⟩
   | int k =>
    obtain ⟨m,rfl,rfl,hwf⟩:=DataW.trod_int hu h
    exact ⟨_,⟨m,rfl,rfl,hwf⟩,.one (.int k m) rfl⟩
   | string =>
    obtain ⟨s,rfl,rfl,hm⟩:=DataW.trod_string hu h
    refine ⟨_,⟨s.data.toList,rfl,rfl,?_⟩,.one (.str _ s rfl) rfl⟩
    rw [Array.length_toList];exact hm
   | pointer e =>
    simp only at hpl
    have hle:=kid_pointer hl hlt hu
    rcases DataW.trod_pointer hu h with ⟨rfl,rfl⟩ | ⟨a,cs',y,m,hm,rfl,rfl,hc,hy⟩
    ·exact ⟨_,.inl ⟨rfl,rfl⟩,.one .nilp rfl⟩
    ·obtain rfl:n=m:=by omega
     simp only [Bool.and_eq_true,decide_eq_true_eq] at hpl
     obtain ⟨as,h1,h2⟩:=ih e cs' y hpl.1 hle hy
     obtain ⟨g1,g2⟩:=cells?_get hc
     have hcell:∀ i,i < cs'.length→W.cell? (a.add i)=some (cs'.getD i undef):=fun i hi=>by
      rw [g2 i (by omega),List.getD_eq_getElem?_getD,List.getElem?_eq_getElem hi];rfl
     have h0:=cell?_lt (hcell 0 (by omega))
     obtain ⟨b,off,sp⟩:=a
     obtain rfl:sp=none:=h0.1
     refine ⟨_,.inr ⟨_,as,rfl,rfl,h1⟩,.one (.vp as b off (fun i=>cs'.getD i undef) h2.2.1 (fun i hi=>?_) (fun i c hic=>?_)) rfl⟩
     ·have hi':i < cs'.length:=by have:=h2.1;omega
      have:=hcell i hi'
      rw [add_spot] at this
      rw [hw]
      exact ⟨this,hp _ _ h0.2⟩
     ·have hi':i < cs'.length:=by have:=h2.1;have:=lt_of_get hic;omega
      refine h2.2.2 i c _ hic ?_
      rw [List.getD_eq_getElem?_getD,List.getElem?_eq_getElem hi'];rfl
   | slice e =>
    simp only at hpl
    have hle:=kid_slice hl hlt hu
    rcases DataW.trod_slice hu h with ⟨rfl,rfl⟩ | ⟨a,len,cap,elems,rest,m,hm,rfl,rfl,hb,hlc,hcm,hel,hget,hsp,_⟩
    ·exact ⟨_,.inl ⟨rfl,rfl⟩,.one .nils rfl⟩
    ·obtain rfl:n=m:=by omega
     simp only [Bool.and_eq_true,decide_eq_true_eq] at hpl
     -- the elements
     obtain ⟨ass,q1,q2⟩:=choose_list (n:=len) (Q:=fun j as=>∃ cs',W.cells? 0 (a.add (j * P.cellsOf e)) (P.cellsOf e)=some cs'∧(∀ y,elems[j]?=some y→TV P n e y.1 as)∧(ofCells (aggOf P e) as).cells=as∧CRel S as cs') (fun j hj=>by
      have hg:=hget j hj
      have hx:j < elems.length:=by omega
      rw [List.getElem?_eq_getElem hx,Option.bind_eq_some_iff] at hg
      obtain ⟨cs',hc,hy⟩:=hg
      obtain ⟨as,h1,h2⟩:=ih e cs' _ hpl.1 hle hy
      exact ⟨as,cs',hc,fun y hy'=>by rw [List.getElem?_eq_getElem hx] at hy';injection hy' with hy';rw [← hy'];exact h1,h1.cells,h2⟩)
     have hplace:∀ j cs',W.cells? 0 (a.add (j * P.cellsOf e)) (P.cellsOf e)=some cs'→a.spot=none ∨ j ≠ 0:=fun j cs' hc=>by
      by_cases hj:j=0
      ·subst hj
       obtain ⟨g1,g2⟩:=cells?_get hc
       have:=g2 0 hpl.2
       rw [List.getElem?_eq_getElem (by omega)] at this
       have:=(cell?_lt this).1
       simp [Addr.add] at this
       exact .inl this
      ·exact .inr hj
     have hsp0:a.spot=none ∨ cap=0:=by
      by_cases hl0:0 < len
      ·have hx:0 < ass.length:=by omega
       obtain ⟨cs',hc,_⟩:=q2 0 _ (List.getElem?_eq_getElem hx)
       exact .inl ((hplace 0 cs' hc).resolve_right (by simp))
      ·by_cases hc0:cap=0
       ·exact .inr hc0
       ·obtain ⟨hrl,hr⟩:=hsp rfl
        have h0:=hr 0 (by omega)
        rw [List.getElem?_eq_getElem (by omega),Option.bind_eq_some_iff] at h0
        obtain ⟨cs',hc,_⟩:=h0
        have hl00:len=0:=by omega
        rw [hl00] at hc
        exact .inl ((hplace 0 cs' hc).resolve_right (by simp))
     have hll:(ass.map (ofCells (aggOf P e))).length=len:=by simp [q1]
     have hgets:∀ (j:Nat) (x:AV),(ass.map (ofCells (aggOf P e)))[j]?=some x→∃ as cs',ass[j]?=some as∧x=ofCells (aggOf P e) as∧x.cells=as∧W.cells? 0 (a.add (j * P.cellsOf e)) (P.cellsOf e)=some cs'∧(∀ y,elems[j]?=some y→TV P n e y.1 as)∧CRel S as cs':=fun j x hx=>by
      rw [List.getElem?_map,Option.map_eq_some_iff] at hx
      obtain ⟨as,h1,rfl⟩:=hx
      obtain ⟨cs',h2,h3,h5,h4⟩:=q2 j as h1
      exact ⟨as,cs',h1,rfl,h5,h2,h3,h4⟩
     refine ⟨_,.inr ⟨_,_,ass.map (ofCells (aggOf P e)),rfl,rfl,by rw [hll];simp [hel],by omega,fun j x d' hj hd'=>?_⟩,?_⟩
     ·obtain ⟨as,cs',_,h2,_,_,h3,_⟩:=hgets j x hj
      rw [List.getElem?_map,Option.map_eq_some_iff] at hd'
      obtain ⟨y,hy,rfl⟩:=hd'
      exact ⟨as,h2,h3 y hy⟩
     ·obtain ⟨b,off,sp⟩:=a
      rw [← hll]
      refine .one (.vs _ .no _ b off cap (fun j i=>(W.cell? ⟨b,off+j * P.cellsOf e+i,none⟩).getD undef) (by omega) (fun x hx=>?_) (fun j i hj hi=>?_) (fun j x i c hx hc=>?_) trivial sp hsp0) rfl
      ·obtain ⟨j,hj⟩:=List.getElem?_of_mem hx
       obtain ⟨as,cs',_,_,h2,hcs,_,h4⟩:=hgets j x hj
       rw [h2]
       exact ⟨by rw [h4.1];exact (cells?_get hcs).1,h4.2.1⟩
      ·obtain ⟨as,cs',_,_,h2,hcs,_,h4⟩:=hgets j _ (List.getElem?_eq_getElem hj)
       obtain rfl:sp=none:=hsp0.resolve_right (by omega)
       obtain ⟨g1,g2⟩:=cells?_get hcs
       have:=g2 i hi
       rw [add_spot,add_spot,List.getElem?_eq_getElem (by omega)] at this
       rw [hw,this]
       exact ⟨rfl,hp _ _ (cell?_lt this).2⟩
      ·obtain ⟨as,cs',_,_,h2,hcs,_,h4⟩:=hgets j x hx
       have hj:=lt_of_get hx
       obtain rfl:sp=none:=hsp0.resolve_right (by omega)
       obtain ⟨g1,g2⟩:=cells?_get hcs
       rw [h2] at hc
       have hi:i < P.cellsOf e:=by have:=lt_of_get hc;have:=h4.1;omega
       have:=g2 i hi
       rw [add_spot,add_spot,List.getElem?_eq_getElem (by omega)] at this
       simp only [this,Option.getD_some]
       exact h4.2.2 i c _ hc (List.getElem?_eq_getElem (by omega))
   | struct fs =>
    simp only [List.all_eq_true] at hpl
    obtain ⟨k1,k2,k3⟩:=kid_struct hl hlt hu
    obtain ⟨xs,m,hm,rfl,hcl,hxl,hget⟩:=DataW.trod_struct hu h
    obtain rfl:n=m:=by omega
    obtain ⟨parts,q1,q2⟩:=choose_list (n:=fs.size) (Q:=fun i p=>∀ f,fs[i]?=some f→(∀ y,xs[i]?=some y→TV P n f.type y.1 p)∧CRel S p ((cs.drop f.offset).take (P.cellsOf f.type))) (fun i hi=>by
     have hf:=Array.getElem?_eq_getElem hi
     have hx:i < xs.length:=by omega
     have hg:=hget i _ hf
     rw [List.getElem?_eq_getElem hx] at hg
     have hmem:fs[i] ∈ fs.toList:=by simp
     obtain ⟨as,h1,h2⟩:=ih _ _ _ (hpl _ hmem) (k1 _ hmem) hg
     refine ⟨as,fun f hf'=>?_⟩
     rw [hf] at hf'
     injection hf' with hf'
     subst hf'
     exact ⟨fun y hy=>by rw [List.getElem?_eq_getElem hx] at hy;injection hy with hy;rw [← hy];exact h1,h2⟩)
    have hfget:∀ (j:Nat) (p:List AV),parts[j]?=some p→∃ f,fs[j]?=some f∧fs.toList[j]?=some f:=fun j p hj=>by
     have:=lt_of_get hj
     have hj':j < fs.size:=by omega
     exact ⟨fs[j],Array.getElem?_eq_getElem hj',by rw [Array.getElem?_toList];exact Array.getElem?_eq_getElem hj'⟩
    -- the lengths of the parts
    have hsz:parts.map List.length=fs.toList.map fun f=>P.cellsOf f.type:=by
     apply List.ext_getElem?
     intro j
     by_cases hj:j < fs.size
     ·have hjp:j < parts.length:=by omega
      have hf:=Array.getElem?_eq_getElem hj
      have hft:fs.toList[j]?=some fs[j]:=by rw [Array.getElem?_toList];exact hf
      have hc:=(q2 j _ (List.getElem?_eq_getElem hjp) _ hf).2.1
      have ho:=k3 j _ hft
      have hle:=sum_take_le (fs.toList.map fun f=>P.cellsOf f.type) j (P.cellsOf fs[j].type) (by rw [List.getElem?_map,hft];rfl)
      rw [← List.map_take,← ho,← k2,← hcl] at hle
      rw [List.getElem?_map,List.getElem?_map,hft,List.getElem?_eq_getElem hjp]
      simp only [Option.map_some,Option.some.injEq]
      rw [hc,List.length_take,List.length_drop]
      omega
     ·rw [List.getElem?_eq_none (by simp;omega),List.getElem?_eq_none (by simp;omega)]
    have hoff:∀ (j:Nat) (f:Field),fs.toList[j]?=some f→f.offset=((parts.take j).map List.length).sum:=fun j f hf=>by
     rw [k3 j f hf,List.map_take,List.map_take,hsz]
    refine ⟨_,⟨_,parts,rfl,rfl,q1,by simp [hxl],fun i f p d' hf hp' hd'=>by rw [List.getElem?_map,Option.map_eq_some_iff] at hd';obtain ⟨y,hy,rfl⟩:=hd';exact (q2 i p hp' f hf).1 y hy⟩,.parts (by rw [hsz,← k2];exact hcl) fun j p hj=>?_⟩
    obtain ⟨f,hf,hft⟩:=hfget j p hj
    have hr:=(q2 j p hj f hf).2
    have hpl':p.length=P.cellsOf f.type:=by
     have h1:(parts.map List.length)[j]?=some p.length:=by rw [List.getElem?_map,hj];rfl
     rw [hsz,List.getElem?_map,hft] at h1
     simp only [Option.map_some,Option.some.injEq] at h1
     exact h1.symm
    rw [hpl',← hoff j f hft]
    exact hr
   | array m e =>
    simp only at hpl
    obtain ⟨hle,hsize⟩:=kid_array hl hlt hu
    obtain ⟨xs,m',hm,rfl,hcl,hxl,hget⟩:=DataW.trod_array hu h
    obtain rfl:n=m':=by omega
    obtain ⟨parts,q1,q2⟩:=choose_list (n:=m) (Q:=fun i p=>(∀ y,xs[i]?=some y→TV P n e y.1 p)∧CRel S p ((cs.drop (i * P.cellsOf e)).take (P.cellsOf e))) (fun i hi=>by
     have hg:=hget i hi
     have hx:i < xs.length:=by omega
     rw [List.getElem?_eq_getElem hx] at hg
     obtain ⟨as,h1,h2⟩:=ih _ _ _ hpl hle hg
     exact ⟨as,fun y hy=>by rw [List.getElem?_eq_getElem hx] at hy;injection hy with hy;rw [← hy];exact h1,h2⟩)
    have hpl':∀ (j:Nat) (p:List AV),parts[j]?=some p→p.length=P.cellsOf e:=fun j p hj=>by
     have hjl:=lt_of_get hj
     have:=(q2 j p hj).2.1
     have hle:(j+1) * P.cellsOf e≤m * P.cellsOf e:=Nat.mul_le_mul_right _ (by omega)
     rw [Nat.succ_mul] at hle
     rw [this,List.length_take,List.length_drop]
     omega
    have hsum:∀ j,j≤m→((parts.take j).map List.length).sum=j * P.cellsOf e:=fun j=>by
     induction j with
     | zero=>intro _;simp
     | succ j ihj =>
      intro hj
      have hjp:j < parts.length:=by omega
      rw [List.take_add_one,List.getElem?_eq_getElem hjp]
      simp only [Option.toList_some,List.map_append,List.map_cons,List.map_nil,List.sum_append,List.sum_cons,List.sum_nil]
      rw [ihj (by omega),hpl' j _ (List.getElem?_eq_getElem hjp),Nat.succ_mul]
      omega
    have hall:=hsum m (Nat.le_refl _)
    rw [← q1,List.take_length,q1] at hall
    refine ⟨_,⟨_,parts,rfl,rfl,q1,by simp [hxl],fun j p d' hj hd'=>?_⟩,.parts (by rw [hall];omega) fun j p hj=>?_⟩
    ·rw [List.getElem?_map,Option.map_eq_some_iff] at hd'
     obtain ⟨y,hy,rfl⟩:=hd'
     exact (q2 j p hj).1 y hy
    ·have hjl:=lt_of_get hj
     rw [hsum j (by omega),hpl' j p hj]
     exact (q2 j p hj).2
   | _=>simp at hpl
end
end Go.Am
