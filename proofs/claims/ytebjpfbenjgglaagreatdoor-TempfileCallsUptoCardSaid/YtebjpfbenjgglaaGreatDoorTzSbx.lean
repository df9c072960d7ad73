/-
  The store in the machine: where its objects lie.
-/
import Derived.Test.YtebjpfbenjgglaaGreatDoorTzSax
import Derived.Test.YtebjpfbenjgglaaGreatDoorEmBex
namespace Go.Am
set_option linter.unusedSimpArgs false
set_option linter.unusedVariables false
set_option linter.unusedSectionVars false

structure Stp (A:List Nat) (H H':Hp):Prop where
 len:H.length≤H'.length
 at':∀ a,a < H.length→a ∉ A→H'[a]?=H[a]?
theorem Stp.refl (A:List Nat) (H:Hp):Stp A H H:=⟨Nat.le_refl _,fun _ _ _=>rfl⟩
theorem Stp.trans {A B C:List Nat} {H1 H2 H3:Hp} (h:Stp A H1 H2) (k:Stp B H2 H3) (hA:∀ a ∈ A,a ∈ C) (hB:∀ a ∈ B,a ∈ C ∨ H1.length≤a):Stp C H1 H3 :=
 ⟨Nat.le_trans h.len k.len,fun a ha hn=>(k.at' a (Nat.lt_of_lt_of_le ha h.len) fun hb=>(hB a hb).elim hn (fun h=>by omega)).trans (h.at' a ha fun hb=>hn (hA a hb))⟩
theorem Stp.mono {A B:List Nat} {H H':Hp} (h:Stp A H H') (hs:∀ a ∈ A,a ∈ B):Stp B H H':=⟨h.len,fun a ha hn=>h.at' a ha fun hb=>hn (hs a hb)⟩
theorem Stp.set {A:List Nat} (H:Hp) {o:Nat} (x:AObj) (ho:o ∈ A):Stp A H (H.set o x):=⟨by simp,fun a ha hn=>List.getElem?_set_ne (fun e=>by subst e;exact hn ho)⟩
theorem Stp.push {A:List Nat} (H:Hp) (l:Hp):Stp A H (H++l):=⟨by simp,fun a ha hn=>List.getElem?_append_left ha⟩
theorem Stp.get {A:List Nat} {H H':Hp} (h:Stp A H H') {a:Nat} {x:AObj} (hx:H[a]?=some x) (hn:a ∉ A):H'[a]?=some x:=(h.at' a (lt_of_get hx) hn).trans hx

structure FD where
 fil:Fil
 f:Nat
 tx:AV
 born:Nat
def FD.ent (d:FD):AV × AV × Nat:=(.str d.fil.name,.ptr d.f 0,d.born)
def tokA:AV→List Nat
 | .vs _ (.own t _) _=>[t]
 | _=>[]
def FD.own (d:FD):List Nat:=d.f :: tokA d.tx
def TxAt (H:Hp) (x:AV) (l:Txt):Prop:=x=.nils∧l=[] ∨ (∃ t e,x=.vs 1 (.own t e) (l.map bv)∧H[t]?=some (.tok e)) ∨ x=.vs 1 .clip (l.map bv)
structure FileAt (H:Hp) (d:FD):Prop where
 cells:H[d.f]?=some (.cells [d.tx,.int .i64 (d.fil.syn:Int)])
 text:TxAt H d.tx d.fil.text
theorem TxAt.frame {H H':Hp} {x:AV} {l:Txt} (h:TxAt H x l) (hf:∀ a ∈ tokA x,H'[a]?=H[a]?):TxAt H' x l:=by
 rcases h with h | ⟨t,e,rfl,ht⟩ | h
 ·exact .inl h
 ·exact .inr (.inl ⟨t,e,rfl,(hf t (by simp [tokA])).trans ht⟩)
 ·exact .inr (.inr h)
theorem FileAt.frame {H H':Hp} {d:FD} (h:FileAt H d) (hf:∀ a ∈ d.own,H'[a]?=H[a]?):FileAt H' d :=
 ⟨(hf _ (by simp [FD.own])).trans h.cells,h.text.frame fun a ha=>hf a (by simp [FD.own,ha])⟩
theorem FileAt.lt {H:Hp} {d:FD} (h:FileAt H d):∀ a ∈ d.own,a < H.length:=by
 intro a ha
 rcases List.mem_cons.1 ha with e | ha
 ·subst e;exact lt_of_get h.cells
 ·rcases h.text with ⟨e,_⟩ | ⟨t,e,e1,ht⟩ | e
  ·rw [e] at ha;cases ha
  ·rw [e1] at ha
   rw [List.mem_singleton.1 ha];exact lt_of_get ht
  ·rw [e] at ha;cases ha
theorem TxAt.len {H:Hp} {x:AV} {l:Txt} (h:TxAt H x l) (e:Nat):alenD (.slice e) x=some (.int .i64 (l.length:Int)):=by
 rcases h with ⟨rfl,rfl⟩ | ⟨t,e',rfl,ht⟩ | rfl
 ·rfl
 ·simp [alenD]
 ·simp [alenD]
theorem TxAt.elems {H:Hp} {x:AV} {l:Txt} (h:TxAt H x l) (H1:Hp):elems 1 x H1=some (l.map bv):=by
 rcases h with ⟨rfl,rfl⟩ | ⟨t,e',rfl,ht⟩ | rfl <;> simp [Go.Am.elems]
theorem TxAt.app {H : Hp} {x : AV} {l : Txt} (h : TxAt H x l) (s : Txt) (hf : l.length + s.length ≤ 1048576) :
    ∃ x' H',aappE 1 1 x (.str s) H=some (x',H')∧TxAt H' x' (l++s)∧Stp (tokA x) H H'∧(∀ a ∈ tokA x',a ∈ tokA x ∨ a=H.length)∧(∀ a ∈ tokA x',a < H'.length):=by
 have hfit:fits ((l.map bv).length+(s.map bv).length) 1=true:=by simp [fits];omega
 have he:Go.Am.elems 1 (.str s) H=some (s.map bv):=rfl
 unfold aappE
 rw [he]
 by_cases hs:s=[]
 ·subst hs
  have hfit0:fits ((l.map bv).length+([]:List AV).length) 1=true:=hfit
  refine ⟨x,H,?_,by simpa using h,Stp.refl _ _,fun a ha=>.inl ha,fun a ha=>?_⟩
  ·rcases h with ⟨rfl,rfl⟩ | ⟨t,e,rfl,ht⟩ | rfl
   ·simp [aappend]
   ·simp only [aappend,List.map_nil,hfit0,and_self,if_true]
   ·simp only [aappend,List.map_nil,hfit0,and_self,if_true]
  ·rcases h with ⟨rfl,rfl⟩ | ⟨t,e,rfl,ht⟩ | rfl
   ·cases ha
   ·rw [List.mem_singleton.1 ha];exact lt_of_get ht
   ·cases ha
 ·have hn:s.map bv ≠ []:=by simpa using hs
  rcases h with ⟨rfl,rfl⟩ | ⟨t,e,rfl,ht⟩ | rfl
  ·have hfit2:fits (s.map bv).length 1=true:=by simp [fits];simp at hf;omega
   refine ⟨.vs 1 (.own H.length (s.map bv).length) (s.map bv),H++[.tok (s.map bv).length],by simp only [aappend,hn,if_false,hfit2,if_true],.inr (.inl ⟨H.length,(s.map bv).length,by simp,by simp⟩),Stp.push _ _,fun a ha=>.inr (List.mem_singleton.1 ha),fun a ha=>by rw [List.mem_singleton.1 ha];simp⟩
  ·refine ⟨.vs 1 (.own t (e+(s.map bv).length)) (l.map bv++s.map bv),H.set t (.tok (e+(s.map bv).length)),by simp only [aappend,hfit,and_self,if_true,hn,if_false,ht],.inr (.inl ⟨t,e+(s.map bv).length,by simp,get_set_eq _ ht⟩),Stp.set _ _ (by simp [tokA]),fun a ha=>.inl (by simpa [tokA] using ha),fun a ha=>?_⟩
   rw [List.mem_singleton.1 ha];simp;exact lt_of_get ht
  ·refine ⟨.vs 1 (.own H.length ((l.map bv).length+(s.map bv).length)) (l.map bv++s.map bv),H++[.tok ((l.map bv).length+(s.map bv).length)],by simp only [aappend,hfit,and_self,if_true,hn,if_false],.inr (.inl ⟨H.length,(l.map bv).length+(s.map bv).length,by simp,by simp⟩),Stp.push _ _,fun a ha=>.inr (List.mem_singleton.1 ha),fun a ha=>by rw [List.mem_singleton.1 ha];simp⟩
theorem TxAt.part {H : Hp} {x : AV} {l : Txt} (h : TxAt H x l) {i j : Nat} (hij : i ≤ j) (hj : j ≤ l.length) (H1 : Hp) :
    ∃ y,asliceV 1 x (some (.int .i64 (i:Int))) (some (.int .i64 (j:Int))) none=some y∧cvRd y H1=some (.str ((l.take j).drop i)):=by
 have hb:abounds l.length l.length (some (.int .i64 (i:Int))) (some (.int .i64 (j:Int))) none=some (i,j,l.length):=by
  rw [abounds_lh (len:=l.length) (cap:=l.length) .i64 .i64 (by omega) (by omega) (by omega)]
  simp
 have key:∀ t,∃ y,asliceV 1 (.vs 1 t (l.map bv)) (some (.int .i64 (i:Int))) (some (.int .i64 (j:Int))) none=some y∧cvRd y H1=some (.str ((l.take j).drop i)):=fun t=>by
  unfold asliceV
  dsimp only
  rw [if_pos rfl,List.length_map,hb]
  refine ⟨_,rfl,?_⟩
  rw [← List.map_take,← List.map_drop]
  unfold cvRd
  rw [cvOf_map]
 rcases h with ⟨rfl,rfl⟩ | ⟨t,e,rfl,ht⟩ | rfl
 ·have:i=0:=by simp at hj;omega
  have:j=0:=by simpa using hj
  subst_vars
  refine ⟨.nils,?_,rfl⟩
  unfold asliceV
  dsimp only
  rw [show abounds 0 0 (some (.int .i64 ((0:Nat):Int))) (some (.int .i64 ((0:Nat):Int))) none=some (0,0,0) from by rw [abounds_lh (len:=0) (cap:=0) .i64 .i64 (by omega) (by omega) (by omega)];simp]
 ·exact key _
 ·exact key _
end Go.Am
namespace Go.Am
set_option linter.unusedSimpArgs false
set_option linter.unusedVariables false
set_option linter.unusedSectionVars false

theorem nodup_repl {A B C C':List Nat} {N:Nat} (h:(A++(C++B)).Nodup) (hC:C'.Nodup) (hs:∀ x ∈ C',x ∈ C ∨ N≤x) (hN:∀ x ∈ A++(C++B),x < N):(A++(C'++B)).Nodup:=by
 rw [List.nodup_append] at h ⊢
 obtain ⟨h1,h2,h3⟩:=h
 rw [List.nodup_append] at h2 ⊢
 obtain ⟨h4,h5,h6⟩:=h2
 refine ⟨h1,⟨hC,h5,fun a ha b hb=>?_⟩,fun a ha b hb=>?_⟩
 ·rcases hs a ha with k | k
  ·exact h6 a k b hb
  ·have:=hN b (by simp [hb]);omega
 ·rcases List.mem_append.1 hb with hb | hb
  ·rcases hs b hb with k | k
   ·exact h3 a ha b (by simp [k])
   ·have:=hN a (by simp [ha]);omega
  ·exact h3 a ha b (by simp [hb])
structure StAt (H:Hp) (o m clk:Nat) (ds:List FD) (s:Sto):Prop where
 files:ds.map FD.fil=s.files
 cells:H[o]?=some (.cells [.int .i64 (s.limit:Int),.int .i64 (usedL s.files:Int),.int .i64 (s.peak:Int),.map m,.bool s.crashed,.int .i64 (s.count:Int)])
 map:H[m]?=some (.map (ds.map FD.ent) clk)
 file:∀ d ∈ ds,FileAt H d
 nd:(o :: m :: ds.flatMap FD.own).Nodup
 born:(ds.map FD.born).Nodup∧∀ d ∈ ds,d.born < clk
def StoreAt (H:Hp) (o:Nat) (s:Sto) (A:List Nat):Prop:=∃ m clk ds,StAt H o m clk ds s∧A=o :: m :: ds.flatMap FD.own
structure StoOk (s:Sto):Prop where
 limit:s.limit≤262144
 used:usedL s.files≤s.limit
 peak:s.peak≤s.limit
 name:∀ f ∈ s.files,nameB f.name=true
 nd:(s.files.map Fil.name).Nodup
 syn:∀ f ∈ s.files,f.syn≤f.text.length
 len:s.files.length≤64
 count:s.count≤9223372036854775807
theorem StAt.lt {H:Hp} {o m clk:Nat} {ds:List FD} {s:Sto} (h:StAt H o m clk ds s):∀ a ∈ o :: m :: ds.flatMap FD.own,a < H.length:=by
 intro a ha
 rcases List.mem_cons.1 ha with e | ha
 ·subst e;exact lt_of_get h.cells
 rcases List.mem_cons.1 ha with e | ha
 ·subst e;exact lt_of_get h.map
 obtain ⟨d,hd,ha⟩:=List.mem_flatMap.1 ha
 exact (h.file d hd).lt a ha
theorem StAt.frame {H H':Hp} {o m clk:Nat} {ds:List FD} {s:Sto} (h:StAt H o m clk ds s) (hf:∀ a ∈ o :: m :: ds.flatMap FD.own,H'[a]?=H[a]?):StAt H' o m clk ds s :=
 ⟨h.files,(hf _ (by simp)).trans h.cells,(hf _ (by simp)).trans h.map,fun d hd=>(h.file d hd).frame fun a ha=>hf a (List.mem_cons_of_mem _ (List.mem_cons_of_mem _ (List.mem_flatMap.2 ⟨d,hd,ha⟩))),h.nd,h.born⟩
theorem StoreAt.lt {H:Hp} {o:Nat} {s:Sto} {A:List Nat} (h:StoreAt H o s A):∀ a ∈ A,a < H.length:=by
 obtain ⟨m,clk,ds,h1,rfl⟩:=h
 exact h1.lt
theorem StoreAt.frame {H H':Hp} {o:Nat} {s:Sto} {A:List Nat} (h:StoreAt H o s A) (hf:∀ a ∈ A,H'[a]?=H[a]?):StoreAt H' o s A:=by
 obtain ⟨m,clk,ds,h1,rfl⟩:=h
 exact ⟨m,clk,ds,h1.frame hf,rfl⟩
theorem StoreAt.stp {H H':Hp} {o:Nat} {s:Sto} {A B:List Nat} (h:StoreAt H o s A) (hs:Stp B H H') (hd:∀ a ∈ A,a ∉ B):StoreAt H' o s A :=
 h.frame fun a ha=>hs.at' a (h.lt a ha) (hd a ha)
theorem StAt.own_lt {H:Hp} {o m clk:Nat} {ds:List FD} {s:Sto} (h:StAt H o m clk ds s) {d:FD} (hd:d ∈ ds) {a:Nat} (ha:a ∈ d.own):a ≠ o∧a ≠ m:=by
 have:=h.nd
 rw [List.nodup_cons,List.nodup_cons] at this
 obtain ⟨h1,h2,_⟩:=this
 have hm:a ∈ ds.flatMap FD.own:=List.mem_flatMap.2 ⟨d,hd,ha⟩
 exact ⟨fun e=>h1 (by rw [← e];exact List.mem_cons_of_mem _ hm),fun e=>h2 (by rw [← e];exact hm)⟩
theorem StAt.om {H:Hp} {o m clk:Nat} {ds:List FD} {s:Sto} (h:StAt H o m clk ds s):o ≠ m:=by
 have:=h.nd
 rw [List.nodup_cons] at this
 exact fun e=>this.1 (by simp [e])
theorem StAt.top {H : Hp} {o m clk : Nat} {ds : List FD} {s s' : Sto} (h : StAt H o m clk ds s) (hf : s'.files = s.files) :
    StAt (H.set o (.cells [.int .i64 (s'.limit:Int),.int .i64 (usedL s'.files:Int),.int .i64 (s'.peak:Int),.map m,.bool s'.crashed,.int .i64 (s'.count:Int)])) o m clk ds s' where
 files:=by rw [hf];exact h.files
 cells:=get_set_eq _ h.cells
 map:=get_set_ne _ h.om h.map
 file:=fun d hd=>(h.file d hd).frame fun a ha=>List.getElem?_set_ne (fun e=>(h.own_lt hd ha).1 e.symm)
 nd:=h.nd
 born:=h.born
theorem findK_none:∀ (ds:List FD) (n:Txt) (i:Nat),getF (ds.map FD.fil) n=none→findK (.str n) (ds.map FD.ent) i=some none:=by
 intro ds n
 induction ds with
 | nil=>intro i _;rfl
 | cons d ds ih =>
  intro i h
  rw [List.map_cons,getF] at h
  split at h
  ·cases h
  ·rename_i hn
   rw [List.map_cons,findK]
   have:keySame (.str n) d.ent.1=some (n == d.fil.name):=rfl
   rw [this,show (n == d.fil.name)=false by simpa using hn]
   exact ih _ h
theorem findK_some:∀ (a:List FD) (d:FD) (b:List FD) (n:Txt) (i:Nat),d.fil.name=n→(∀ g ∈ a,g.fil.name ≠ n)→findK (.str n) ((a++d :: b).map FD.ent) i=some (some (i+a.length,.ptr d.f 0)):=by
 intro a
 induction a with
 | nil =>
  intro d b n i h1 _
  rw [List.nil_append,List.map_cons,findK]
  have:keySame (.str n) d.ent.1=some (n == d.fil.name):=rfl
  rw [this,h1,beq_self_eq_true]
  rfl
 | cons x a ih =>
  intro d b n i h1 h2
  rw [List.cons_append,List.map_cons,findK]
  have:keySame (.str n) x.ent.1=some (n == x.fil.name):=rfl
  rw [this,show (n == x.fil.name)=false by simpa using fun e=>h2 x (by simp) e.symm]
  dsimp only
  rw [ih d b n (i+1) h1 fun g hg=>h2 g (List.mem_cons_of_mem _ hg)]
  simp only [List.length_cons]
  congr 3
  omega
theorem ds_split {ds:List FD} {n:Txt} {f:Fil} (h:getF (ds.map FD.fil) n=some f):∃ a d b,ds=a++d :: b∧d.fil=f∧d.fil.name=n∧(∀ g ∈ a,g.fil.name ≠ n):=by
 induction ds with
 | nil=>cases h
 | cons d ds ih =>
  rw [List.map_cons,getF] at h
  split at h
  ·rename_i hn
   injection h with h
   exact ⟨[],d,ds,rfl,h,hn.symm,by simp⟩
  ·rename_i hn
   obtain ⟨a,d',b,rfl,h2,h3,h4⟩:=ih h
   refine ⟨d :: a,d',b,rfl,h2,h3,fun g hg=>?_⟩
   rcases List.mem_cons.1 hg with e | hg
   ·subst e;exact fun e=>hn e.symm
   ·exact h4 g hg
theorem updF_map (a:List FD) (d:FD) (b:List FD) (n:Txt) (u:Fil→Fil) (h1:d.fil.name=n) (h2:∀ g ∈ a,g.fil.name ≠ n):updF ((a++d :: b).map FD.fil) n u=a.map FD.fil++u d.fil :: b.map FD.fil:=by
 induction a with
 | nil=>simp [updF,h1]
 | cons x a ih =>
  rw [List.cons_append,List.map_cons,updF,if_neg (fun e=>h2 x (by simp) e.symm),ih fun g hg=>h2 g (List.mem_cons_of_mem _ hg)]
  rfl
theorem rmF_map (a:List FD) (d:FD) (b:List FD) (n:Txt) (h1:d.fil.name=n) (h2:∀ g ∈ a,g.fil.name ≠ n):rmF ((a++d :: b).map FD.fil) n=a.map FD.fil++b.map FD.fil:=by
 induction a with
 | nil=>simp [rmF,h1]
 | cons x a ih =>
  rw [List.cons_append,List.map_cons,rmF,if_neg (fun e=>h2 x (by simp) e.symm),ih fun g hg=>h2 g (List.mem_cons_of_mem _ hg)]
  rfl
theorem StAt.look {H : Hp} {o m clk : Nat} {ds : List FD} {s : Sto} (h : StAt H o m clk ds s) (n : Txt) :
    (getF s.files n=none∧alookup .string .nilp false (.map m) (.str n) H=some .nilp) ∨ ∃ a d b,ds=a++d :: b∧d.fil.name=n∧(∀ g ∈ a,g.fil.name ≠ n)∧getF s.files n=some d.fil∧alookup .string .nilp false (.map m) (.str n) H=some (.ptr d.f 0):=by
 have he:entries (.map m) H=some (ds.map FD.ent):=by unfold entries;dsimp only;rw [h.map]
 have hk:keyOk .string (.str n)=true:=rfl
 rw [← h.files]
 cases hg:getF (ds.map FD.fil) n with
 | none =>
  refine .inl ⟨rfl,?_⟩
  unfold alookup
  rw [if_pos hk,he]
  dsimp only
  rw [findK_none ds n 0 hg]
  rfl
 | some f =>
  obtain ⟨a,d,b,rfl,h2,h3,h4⟩:=ds_split hg
  refine .inr ⟨a,d,b,rfl,h3,h4,by rw [h2],?_⟩
  unfold alookup
  rw [if_pos hk,he]
  dsimp only
  rw [findK_some a d b n 0 h3 h4]
  rfl
theorem StAt.upd {H H' : Hp} {o m clk : Nat} {a b : List FD} {d d' : FD} {s s' : Sto} (h : StAt H o m clk (a ++ d :: b) s)
    (hcells:H'[o]?=some (.cells [.int .i64 (s'.limit:Int),.int .i64 (usedL s'.files:Int),.int .i64 (s'.peak:Int),.map m,.bool s'.crashed,.int .i64 (s'.count:Int)]))
    (hmap:H'[m]?=H[m]?) (hent:d'.ent=d.ent) (hfiles:s'.files=a.map FD.fil++d'.fil :: b.map FD.fil) (hat:FileAt H' d') (hS:Stp (o :: d.own) H H')
    (hnd:d'.own.Nodup) (hown:∀ x ∈ d'.own,x ∈ d.own ∨ H.length≤x):StAt H' o m clk (a++d' :: b) s' where
 files:=by rw [hfiles];simp
 cells:=hcells
 map:=by rw [hmap,h.map];simp [hent]
 file:=fun x hx=>by
  have hold:∀ y ∈ a++b,FileAt H' y:=fun y hy=>by
   have hy2:y ∈ a++d :: b:=by rcases List.mem_append.1 hy with k | k <;> simp [k]
   refine (h.file y hy2).frame fun z hz=>hS.at' z ((h.file y hy2).lt z hz) fun hz2=>?_
   rcases List.mem_cons.1 hz2 with e | hz2
   ·exact (h.own_lt hy2 hz).1 e
   ·have:=h.nd
    rw [List.nodup_cons,List.nodup_cons,List.flatMap_append,List.flatMap_cons,List.nodup_append,List.nodup_append] at this
    obtain ⟨_,_,_,⟨_,_,q1⟩,q2⟩:=this
    rcases List.mem_append.1 hy with k | k
    ·exact q2 z (List.mem_flatMap.2 ⟨y,k,hz⟩) z (by simp [hz2]) rfl
    ·exact q1 z hz2 z (List.mem_flatMap.2 ⟨y,k,hz⟩) rfl
  rcases List.mem_append.1 hx with k | k
  ·exact hold x (by simp [k])
  ·rcases List.mem_cons.1 k with e | k
   ·subst e;exact hat
   ·exact hold x (by simp [k])
 nd:=by
  have h0:=h.nd
  have hlt:=h.lt
  rw [List.flatMap_append,List.flatMap_cons] at h0 hlt ⊢
  exact nodup_repl (A:=o :: m :: a.flatMap FD.own) h0 hnd hown hlt
 born:=by
  have hb:d'.born=d.born:=by have:=congrArg (fun e=>e.2.2) hent;exact this
  obtain ⟨h1,h2⟩:=h.born
  refine ⟨by simpa [hb] using h1,fun x hx=>?_⟩
  rcases List.mem_append.1 hx with k | k
  ·exact h2 x (by simp [k])
  ·rcases List.mem_cons.1 k with e | k
   ·subst e;rw [hb];exact h2 d (by simp)
   ·exact h2 x (by simp [k])
end Go.Am
