/-
  The reference's store in the machine: its row of files.
-/
import Derived.Test.YtebjpfbenjgglaaDoorTdSqx
import Derived.Test.YtebjpfbenjgglaaDoorTdGRx
import Derived.Test.YtebjpfbenjgglaaDoorTdLcx
namespace Go.Am
set_option linter.unusedSimpArgs false
set_option linter.unusedVariables false
set_option linter.unusedSectionVars false
set_option maxRecDepth 100000

theorem afield_wp (k o e x:Nat):afield k (.wp o e x)=some (.wp o e (x+k)):=(Eq.refl _).trans (Eq.refl _)
attribute [go_sem] afield_wp
def filC (f:Fil):List AV:=[.str f.name,.str f.text,.int .i64 (f.syn:Int)]
def rowC (L:List Fil):List AV:=(L.map filC).flatten
theorem rowC_app (A B:List Fil):rowC (A++B)=rowC A++rowC B:=by simp [rowC]
theorem rowC_cons (f:Fil) (B:List Fil):rowC (f :: B)=filC f++rowC B:=by simp [rowC]
theorem rowC_len (L:List Fil):(rowC L).length=L.length * 3:=by
 induction L with
 | nil=>rfl
 | cons f L ih=>rw [rowC_cons,List.length_append,ih,List.length_cons];simp [filC];omega
theorem mid_of {L:List Fil} {i:Nat} {f:Fil} (h:L[i]?=some f):∃ A B,L=A++f :: B∧A.length=i:=by
 obtain ⟨hl,he⟩:=List.getElem?_eq_some_iff.1 h
 refine ⟨L.take i,L.drop (i+1),?_,by rw [List.length_take];omega⟩
 rw [← he,← List.drop_eq_getElem_cons hl,List.take_append_drop]
theorem set_mid (A:List Fil) (f g:Fil) (B:List Fil):(A++f :: B).set A.length g=A++g :: B:=by
 induction A with
 | nil=>rfl
 | cons x A ih=>simp only [List.cons_append,List.length_cons,List.set_cons_succ,ih]
def FsAt (H:Hp) (x:AV) (L:List Fil):Prop:=x=.nils∧L=[] ∨ ∃ o e,x=.ws true 3 o e L.length∧H[o]?=some (.row e (rowC L))
def rowA:AV→List Nat
 | .ws _ _ o _ _=>[o]
 | _=>[]
theorem FsAt.frame {H H':Hp} {x:AV} {L:List Fil} (h:FsAt H x L) (hf:∀ a ∈ rowA x,H'[a]?=H[a]?):FsAt H' x L :=
 h.imp id fun ⟨o,e,h1,h2⟩=>⟨o,e,h1,(hf o (by rw [h1];simp [rowA])).trans h2⟩
theorem FsAt.lt {H:Hp} {x:AV} {L:List Fil} (h:FsAt H x L):∀ a ∈ rowA x,a < H.length:=by
 intro a ha
 rcases h with ⟨rfl,_⟩ | ⟨o,e,rfl,h2⟩
 ·cases ha
 ·rw [List.mem_singleton.1 ha];exact lt_of_get h2
theorem FsAt.len {H:Hp} {x:AV} {L:List Fil} (h:FsAt H x L) (t:Nat):alenD (.slice t) x=some (.int .i64 (L.length:Int)):=by
 rcases h with ⟨rfl,rfl⟩ | ⟨o,e,rfl,_⟩ <;> rfl
theorem FsAt.idx {H : Hp} {x : AV} {L : List Fil} (h : FsAt H x L) {i : Nat} {f : Fil} (hi : L[i]? = some f) :
    ∃ o e,x=.ws true 3 o e L.length∧H[o]?=some (.row e (rowC L))∧aindexS 3 x (.int .i64 (i:Int))=some (.wp o e (i * 3)) ∧
     aload false 1 (.wp o e (i * 3)) H=some (.str f.name)∧aload false 1 (.wp o e (i * 3+1)) H=some (.str f.text)∧aload false 1 (.wp o e (i * 3+2)) H=some (.int .i64 (f.syn:Int)) ∧
     aload true 3 (.wp o e (i * 3)) H=some (.agg (filC f)):=by
 have hl:=(List.getElem?_eq_some_iff.1 hi).1
 rcases h with ⟨rfl,rfl⟩ | ⟨o,e,rfl,h2⟩
 ·simp at hi
 ·obtain ⟨A,B,rfl,rfl⟩:=mid_of hi
  have hrow:rowC (A++f :: B)=rowC A++(filC f++rowC B):=by rw [rowC_app,rowC_cons]
  have hA:=rowC_len A
  have hd:(rowC (A++f :: B)).drop (A.length * 3)=filC f++rowC B:=by rw [hrow,← hA,List.drop_left]
  have hg:∀ j,(rowC (A++f :: B))[A.length * 3+j]?=(filC f++rowC B)[j]?:=fun j=>by rw [← List.getElem?_drop,hd]
  have hg0:(rowC (A++f :: B))[A.length * 3]?=some (.str f.name):=hg 0
  refine ⟨o,e,rfl,h2,?_,?_,?_,?_,?_⟩
  ·unfold aindexS
   dsimp only
   rw [if_pos (by omega),Int.toNat_natCast]
  ·unfold aload
   simp only [h2,if_true]
   unfold Go.Am.apart
   simp only [hg0]
   rfl
  ·unfold aload
   simp only [h2,if_true]
   unfold Go.Am.apart
   simp only [hg]
   rfl
  ·unfold aload
   simp only [h2,if_true]
   unfold Go.Am.apart
   simp only [hg]
   rfl
  ·unfold aload
   simp only [h2,if_true]
   unfold Go.Am.apart
   have h3:((rowC (A++f :: B)).drop (A.length * 3)).take 3=filC f:=by rw [hd];rfl
   simp only [h3,if_true]
   rw [if_pos (by rw [rowC_len];simp;omega)]
theorem FsAt.app {H : Hp} {x : AV} {L : List Fil} (h : FsAt H x L) (f : Fil) (hl : L.length ≤ 1048576) :
    ∃ x' H',aappEL true 3 40 x (.vs 3 .clip [.agg (filC f)]) H=some (x',H')∧FsAt H' x' (L++[f])∧Stp (rowA x) H H'∧(∀ a ∈ rowA x',a ∈ rowA x ∨ a=H.length)∧x'.cells=[x']∧x'.known=true:=by
 unfold aappEL
 have he:Go.Am.elems 3 (.vs 3 .clip [.agg (filC f)]) H=some [.agg (filC f)]:=rfl
 rw [he]
 dsimp only
 have hf1:fits 1 40=true:=rfl
 have hfit:fits (L.length+1) 40=true:=by simp [fits];omega
 rcases h with ⟨rfl,rfl⟩ | ⟨o,e,rfl,ho⟩
 ·refine ⟨.ws true 3 H.length 0 1,H++[.row 0 (filC f)],?_,.inr ⟨H.length,0,rfl,by simp [rowC]⟩,Stp.push _ _,fun a ha=>.inr (List.mem_singleton.1 ha),rfl,rfl⟩
  unfold aappL
  simp only [List.length_singleton,hf1,if_true,List.map_cons,List.map_nil,List.flatten_cons,List.flatten_nil,AV.cells,List.append_nil]
  rw [if_neg (by simp)]
 ·refine ⟨.ws true 3 o (e+1) (L.length+1),H.set o (.row (e+1) (rowC (L++[f]))),?_,.inr ⟨o,e+1,by simp,get_set_eq _ ho⟩,Stp.set _ _ (by simp [rowA]),fun a ha=>.inl (by simpa [rowA] using ha),rfl,rfl⟩
  unfold aappL
  simp only [List.length_singleton,hfit,and_self,if_true,ho,rowC_len,List.map_cons,List.map_nil,List.flatten_cons,List.flatten_nil,AV.cells,List.append_nil]
  rw [if_neg (by simp),rowC_app,rowC_cons]
  simp [rowC]
theorem splice_row (A:List Fil) (f:Fil) (B:List Fil) (j:Nat) (c:List AV) (hj:j+c.length≤3):splice (rowC (A++f :: B)) (A.length * 3+j) c=rowC A++(splice (filC f) j c++rowC B):=by
 have hA:=rowC_len A
 have h3:(filC f).length=3:=rfl
 unfold splice
 rw [rowC_app,rowC_cons,← hA]
 rw [List.take_length_add_append,List.take_append_of_le_length (by omega),Nat.add_assoc,List.drop_length_add_append,List.drop_append_of_le_length (by omega)]
 simp [List.append_assoc]
theorem FsAt.put {H : Hp} {L : List Fil} {o e i : Nat} {f g : Fil} (ho : H[o]? = some (.row e (rowC L))) (hi : L[i]? = some f) (j : Nat) {v : AV} (hk : v.known = true) (sz : Nat) (hv : v.cells.length = sz) (hj : j + sz ≤ 3) (hg : splice (filC f) j v.cells = filC g) :
    astoreU sz (.wp o e (i * 3+j)) v H=some (.tuple [],H.set o (.row e (rowC (L.set i g)))):=by
 obtain ⟨A,B,rfl,rfl⟩:=mid_of hi
 have hl:(rowC (A++f :: B)).length=A.length * 3+(3+B.length * 3):=by rw [rowC_len];simp;omega
 unfold astoreU astore
 simp only [ho]
 rw [if_pos ⟨trivial,hk,hv,by omega⟩,splice_row A f B j v.cells (by omega),hg,set_mid,← rowC_cons,← rowC_app]
end Go.Am
namespace Go.Am
set_option linter.unusedSimpArgs false
set_option linter.unusedVariables false
set_option linter.unusedSectionVars false
set_option maxRecDepth 100000

def rfC (x:AV) (s:Sto):List AV:=[.int .i64 (s.limit:Int),x,.int .i64 (s.peak:Int),.bool s.crashed,.int .i64 (s.count:Int)]
structure RfAt (H:Hp) (r:Nat) (x:AV) (s:Sto):Prop where
 cells:H[r]?=some (.cells (rfC x s))
 files:FsAt H x (listF s.files)
 nr:r ∉ rowA x
def RefAt (H:Hp) (r:Nat) (s:Sto) (A:List Nat):Prop:=∃ x,RfAt H r x s∧A=r :: rowA x
structure RefRes (H H':Hp) (r:Nat) (s':Sto) (A A':List Nat):Prop where
 at':RefAt H' r s' A'
 stp:Stp A H H'
 own:∀ a ∈ A',a ∈ A ∨ H.length≤a
structure ROk (s:Sto):Prop where
 sto:StoOk s
 cnt:s.crashed=true→s.count=0
theorem tick_okS {s:Sto} (h:StoOk s):StoOk s.tick:=by
 have:=h.count
 unfold Sto.tick
 split
 ·exact h
 ·split
  ·exact ⟨h.limit,h.used,h.peak,h.name,h.nd,h.syn,h.len,by simp⟩
  ·exact ⟨h.limit,h.used,h.peak,h.name,h.nd,h.syn,h.len,by show s.count - 1≤9223372036854775807;omega⟩
theorem ROk.tick {s:Sto} (h:ROk s):ROk s.tick:=⟨tick_okS h.sto,by
 unfold Sto.tick
 split
 ·exact h.cnt
 ·split
  ·exact fun _=>rfl
  ·rename_i h1 _
   exact fun h2=>absurd h2 h1⟩
theorem ROk.nd {s:Sto} (h:ROk s):(s.files.map Fil.name).Nodup:=h.sto.nd
theorem ROk.len {s:Sto} (h:ROk s):(listF s.files).length≤64:=Nat.le_trans (listF_len _) h.sto.len
theorem RfAt.lt {H:Hp} {r:Nat} {x:AV} {s:Sto} (h:RfAt H r x s):∀ a ∈ r :: rowA x,a < H.length:=by
 intro a ha
 rcases List.mem_cons.1 ha with e | ha
 ·subst e;exact lt_of_get h.cells
 ·exact h.files.lt a ha
theorem RfAt.frame {H H':Hp} {r:Nat} {x:AV} {s:Sto} (h:RfAt H r x s) (hf:∀ a ∈ r :: rowA x,H'[a]?=H[a]?):RfAt H' r x s :=
 ⟨(hf _ (by simp)).trans h.cells,h.files.frame fun a ha=>hf a (by simp [ha]),h.nr⟩
theorem RefAt.lt {H:Hp} {r:Nat} {s:Sto} {A:List Nat} (h:RefAt H r s A):∀ a ∈ A,a < H.length:=by
 obtain ⟨x,h,rfl⟩:=h
 exact h.lt
theorem RefAt.frame {H H':Hp} {r:Nat} {s:Sto} {A:List Nat} (h:RefAt H r s A) (hf:∀ a ∈ A,H'[a]?=H[a]?):RefAt H' r s A:=by
 obtain ⟨x,h,rfl⟩:=h
 exact ⟨x,h.frame hf,rfl⟩
theorem RefAt.stp {H H':Hp} {r:Nat} {s:Sto} {A B:List Nat} (h:RefAt H r s A) (hs:Stp B H H') (hd:∀ a ∈ A,a ∉ B):RefAt H' r s A:=h.frame fun a ha=>hs.at' a (h.lt a ha) (hd a ha)
theorem RefAt.self {H:Hp} {r:Nat} {s:Sto} {A:List Nat} (h:RefAt H r s A):RefRes H H r s A A:=⟨h,Stp.refl _ _,fun a ha=>.inl ha⟩
theorem RfAt.cell {H H':Hp} {r:Nat} {x:AV} {s s':Sto} (h:RfAt H r x s) (hS:Stp [r] H H') (hc:H'[r]?=some (.cells (rfC x s'))) (hf:s'.files=s.files):RfAt H' r x s' :=
 ⟨hc,by rw [hf];exact h.files.frame fun a ha=>hS.at' a (h.files.lt a ha) (fun hx=>h.nr (by rw [List.mem_singleton.1 hx] at ha;exact ha)),h.nr⟩
theorem RfAt.res {H H':Hp} {r:Nat} {x:AV} {s':Sto} (h:RfAt H' r x s') (hS:Stp [r] H H'):RefRes H H' r s' (r :: rowA x) (r :: rowA x) :=
 ⟨⟨x,h,rfl⟩,hS.mono fun a ha=>by rw [List.mem_singleton.1 ha];simp,fun a ha=>.inl ha⟩
theorem rfails_run {H : Hp} {r : Nat} {x : AV} {s : Sto} (h : RfAt H r x s) (hk : ROk s) :
    ∃ H',C_R18_Store_fails [.ptr r 0] H=some (.bool s.tick.crashed,H')∧RfAt H' r x s.tick∧Stp [r] H H':=by
 have hc:=h.cells
 have hcount:=hk.sto.count
 have l4:=ldn hc 4 (v:=.int .i64 (s.count:Int)) rfl
 rw [F_R18_Store_fails_eq]
 unfold F_R18_Store_fails
 by_cases h1:s.count=1
 ·have hcr : s.crashed = false := by cases hb : s.crashed with
     | false=>rfl
     | true=>have:=hk.cnt hb;omega
  have ht:s.tick={ s with crashed:=true,count:=0 }:=by unfold Sto.tick;rw [if_neg (by simp [hcr]),if_pos h1]
  have e1:((s.count:Int) == 1)=true:=by rw [h1];rfl
  have s3:=stn hc 3 (v:=.bool true) rfl rfl (by simp [rfC])
  have g3:=get_set_eq (AObj.cells (List.set (rfC x s) 3 (.bool true))) hc
  generalize hH1:H.set r (.cells (List.set (rfC x s) 3 (.bool true)))=H1 at s3 g3
  have k4:=ldn g3 4 (v:=.int .i64 (s.count:Int)) rfl
  have hw:IntKind.i64.wrap ((s.count:Int) - 1)=0:=by rw [wrap64 (by omega) (by omega)];omega
  have hm:max (0:Int) 0=0:=rfl
  have s4:=stn g3 4 (v:=.int .i64 0) rfl rfl (by simp [rfC])
  have g4:=get_set_eq (AObj.cells (List.set (List.set (rfC x s) 3 (.bool true)) 4 (.int .i64 0))) g3
  have k3:=ldn g4 3 (v:=.bool true) rfl
  have hS:Stp [r] H (H1.set r (.cells (List.set (List.set (rfC x s) 3 (.bool true)) 4 (.int .i64 0)))):=by
   rw [← hH1]
   exact (Stp.set H _ (by simp)).trans (Stp.set _ _ (List.mem_singleton.2 rfl)) (fun a ha=>ha) (fun a ha=>.inl ha)
  refine ⟨_,by simp only [go_sem,Nat.zero_add,l4,e1,s3,R18_Store_fails_J1_eq,k4,hw,hm,s4,k3,ht],?_,hS⟩
  rw [ht]
  exact h.cell hS g4 rfl
 ·have e1:((s.count:Int) == 1)=false:=by rw [beq_eq_false_iff_ne];omega
  have ht:s.tick={ s with count:=s.count - 1 }:=by
   unfold Sto.tick
   cases hb:s.crashed with
   | true=>have:=hk.cnt hb;rw [if_pos rfl];cases s;simp at this hb;subst this;subst hb;rfl
   | false=>rw [if_neg (by simp),if_neg h1]
  have hw:IntKind.i64.wrap ((s.count:Int) - 1)=(s.count:Int) - 1:=wrap64 (by omega) (by omega)
  have hm:max (0:Int) ((s.count:Int) - 1)=((s.count - 1:Nat):Int):=by omega
  have s4:=stn hc 4 (v:=.int .i64 ((s.count - 1:Nat):Int)) rfl rfl (by simp [rfC])
  have g4:=get_set_eq (AObj.cells (List.set (rfC x s) 4 (.int .i64 ((s.count - 1:Nat):Int)))) hc
  have k3:=ldn g4 3 (v:=.bool s.crashed) rfl
  have hS:Stp [r] H (H.set r (.cells (List.set (rfC x s) 4 (.int .i64 ((s.count - 1:Nat):Int))))):=Stp.set _ _ (by simp)
  refine ⟨_,by simp only [go_sem,Nat.zero_add,l4,e1,R18_Store_fails_J1_eq,hw,hm,s4,k3,ht],?_,hS⟩
  rw [ht]
  exact h.cell hS g4 rfl
def placeI (L:List Fil) (n:Txt):Int:=match placeF L n with
 | some i=>(i:Int)
 | none=>-1
theorem rplace_run {H:Hp} {r:Nat} {x:AV} {s:Sto} (h:RfAt H r x s) (hk:ROk s) (n:Txt):C_R18_Store_place [.ptr r 0,.str n] H=some (.int .i64 (placeI (listF s.files) n),H):=by
 have l1:=ldn h.cells 1 (v:=x) rfl
 have h64:=hk.len
 generalize hL:listF s.files=L at *
 have hf:FsAt H x L:=by rw [← hL];exact h.files
 have loop : ∀ (q d : List Fil), L = d ++ q → R18_Store_place_L1 (.ptr r 0) (.str n) (.int .i64 (d.length : Int)) H H = some (.int .i64 (match placeF q n with
     | some i=>((d.length+i:Nat):Int)
     | none=>-1),H):=by
  intro q
  induction q with
  | nil =>
   intro d hd
   rw [List.append_nil] at hd
   subst hd
   have hlt:decide ((L.length:Int) < (L.length:Int))=false:=by simp
   rw [R18_Store_place_L1_eq]
   simp only [go_sem,Nat.zero_add,l1,hf.len,hlt,R18_Store_place_J1_eq,placeF]
  | cons f q ih =>
   intro d hd
   have hlen:L.length=d.length+(q.length+1):=by rw [hd];simp
   have hlt:decide ((d.length:Int) < (L.length:Int))=true:=by simp;omega
   have hw1:IntKind.i64.wrap ((d.length:Int)+1)=((d.length+1:Nat):Int):=by rw [wrap64 (by omega) (by omega)];omega
   have hi:L[d.length]?=some f:=by rw [hd,List.getElem?_append_right (Nat.le_refl _)];simp
   obtain ⟨o,e,rfl,_,ix,i0,_,_,_⟩:=hf.idx hi
   have hse:sbin .eql (.str f.name) (.str n)=some (.bool (f.name == n)):=rfl
   rw [R18_Store_place_L1_eq]
   by_cases hn:f.name=n
   ·have hb:(f.name == n)=true:=by simpa using hn
    simp only [go_sem,Nat.zero_add,l1,hf.len,hlt,R18_Store_place_J2_eq,ix,Nat.add_zero,i0,hse,hb,placeF,if_pos hn]
   ·have hb:(f.name == n)=false:=by simpa using hn
    have k:=ih (d++[f]) (by rw [hd];simp)
    rw [List.length_append,List.length_singleton] at k
    simp only [go_sem,Nat.zero_add,l1,hf.len,hlt,R18_Store_place_J2_eq,ix,Nat.add_zero,i0,hse,hb,R18_Store_place_J3_eq,hw1,k,placeF,if_neg hn]
    congr 3
    cases placeF q n with
    | none=>rfl
    | some i=>simp only [Option.map_some];omega
 rw [F_R18_Store_place_eq]
 unfold F_R18_Store_place
 have:=loop L [] rfl
 simp only [List.length_nil] at this
 refine this.trans ?_
 unfold placeI
 congr 3
 cases placeF L n with
 | none=>rfl
 | some i=>simp
theorem rbegin_run {H : Hp} {r : Nat} {x : AV} {s : Sto} (h : RfAt H r x s) (hk : ROk s) (n : Txt) :
    ∃ (v e:Int) (H':Hp),C_R18_Store_begin [.ptr r 0,.str n] H=some (.tuple [.int .i64 v,.int .i64 e],H')∧RfAt H' r x s.tick∧Stp [r] H H' ∧
     (s.tick.crashed=true∧e=19 ∨ s.tick.crashed=false∧getF s.files n=none∧e=5 ∨
      s.tick.crashed=false∧e=0∧∃ (i:Nat) (f:Fil),v=(i:Int)∧i < (listF s.files).length∧getF s.files n=some f∧(listF s.files)[i]?=some f∧rmF (listF s.files) n=(listF s.files).eraseIdx i∧∀ u,updF (listF s.files) n u=(listF s.files).set i (u f)):=by
 have hnil:∀ t,ebin (.pointer t) .eql (.ptr r 0) .nilp=some (.bool false):=fun _=>rfl
 obtain ⟨H1,q1,q2,q3⟩:=rfails_run h hk
 have hpl:C_R18_Store_place [.ptr r 0,.str n] H1=some (.int .i64 (placeI (listF s.files) n),H1):=by
  have hk2:=hk.tick
  have:=rplace_run q2 hk2 n
  rwa [tick_files] at this
 rw [F_R18_Store_begin_eq]
 unfold F_R18_Store_begin
 cases hcr:s.tick.crashed with
 | true =>
  rw [hcr] at q1
  exact ⟨0,19,H1,by simp only [hnil,go_sem,R18_Store_begin_J1_eq,q1],q2,q3,.inl ⟨rfl,rfl⟩⟩
 | false =>
  rw [hcr] at q1
  rcases placeF_spec (listF s.files) n with ⟨p1,p2⟩ | ⟨i,f,p1,p2,p3,p4,p5,p6⟩
  ·rw [listF_get hk.nd] at p2
   have hp:placeI (listF s.files) n=-1:=by unfold placeI;rw [p1]
   rw [hp] at hpl
   have hd:decide ((-1:Int) < 0)=true:=rfl
   exact ⟨0,5,H1,by simp only [hnil,go_sem,R18_Store_begin_J1_eq,q1,R18_Store_begin_J2_eq,hpl,hd],q2,q3,.inr (.inl ⟨rfl,p2,rfl⟩)⟩
  ·rw [listF_get hk.nd] at p2
   have hp:placeI (listF s.files) n=(i:Int):=by unfold placeI;rw [p1]
   rw [hp] at hpl
   have hd:decide ((i:Int) < 0)=false:=by simp
   exact ⟨(i:Int),0,H1,by simp only [hnil,go_sem,R18_Store_begin_J1_eq,q1,R18_Store_begin_J2_eq,hpl,hd,R18_Store_begin_J3_eq],q2,q3,.inr (.inr ⟨rfl,rfl,i,f,rfl,p4,p2,p3,p5,p6⟩)⟩
end Go.Am
namespace Go.Am
set_option linter.unusedSimpArgs false
set_option linter.unusedVariables false
set_option linter.unusedSectionVars false
set_option maxRecDepth 100000

theorem one_filC (f:Fil):(setElems 3 [(0,.agg (filC f))] [(.agg [(.str []),(.str []),(.int .i64 0)])]).map (AV.vs 3 .clip)=some (.vs 3 .clip [.agg (filC f)]):=rfl
structure NewR (N:Nat) (H0 H:Hp) (x:AV) (L:List Fil):Prop where
 at':FsAt H x L
 keep:Keep N H0 H
 len:N≤H.length
 new:∀ a ∈ rowA x,N≤a
 cell:x.cells=[x]∧x.known=true
theorem NewR.app {N:Nat} {H0 H:Hp} {x:AV} {L:List Fil} (h:NewR N H0 H x L) (f:Fil) (hl:L.length≤1048576):∃ x' H',aappEL true 3 40 x (.vs 3 .clip [.agg (filC f)]) H=some (x',H')∧NewR N H0 H' x' (L++[f]):=by
 obtain ⟨x',H',q1,q2,q3,q4,q5,q6⟩:=h.at'.app f hl
 have hn:=h.len
 refine ⟨x',H',q1,q2,fun a ha=>?_,Nat.le_trans h.len q3.len,fun a ha=>?_,q5,q6⟩
 ·rw [q3.at' a (by omega) (fun k=>by have:=h.new a k;omega)]
  exact h.keep a ha
 ·rcases q4 a ha with k | k
  ·exact h.new a k
  ·omega
theorem Keep.row {N:Nat} {H0 H:Hp} (h:Keep N H0 H) {a:Nat} (ha:a < N) {y:AObj} (hy:H0[a]?=some y):H[a]?=some y:=(h a ha).trans hy
section
variable {H0:Hp} {r b:Nat} {x:AV} {s:Sto} {L:List Fil} {f:Fil}
theorem rput_loop (h : H0[r]? = some (.cells (rfC x s))) (hf : FsAt H0 x L) (h64 : L.length ≤ 64) (hb : H0[b]? = some (.cells (filC f))) (HB : Hp) : ∀ (q d O : List Fil) (y : AV) (ad : Bool) (H : Hp), L = d ++ q → O.length ≤ d.length + ad.toNat → NewR H0.length H0 H y O →
    ∃ y' H',R18_Store_put_L1 (.ptr r 0) (.ptr b 0) y (.bool ad) (.int .i64 (d.length:Int)) HB H=R18_Store_put_J2 (.ptr r 0) y' HB H'∧NewR H0.length H0 H' y' (O++if ad then q else insF f q):=by
 have hr:=lt_of_get h
 have hbl:=lt_of_get hb
 intro q
 induction q with
 | nil =>
  intro d O y ad H hd hO hn
  have had:ad.toNat≤1:=by cases ad <;> simp
  rw [List.append_nil] at hd
  subst hd
  have l1:=ldn (hn.keep.row hr h) 1 (v:=x) rfl
  have hf1:FsAt H x L:=hf.frame fun a ha=>hn.keep a (hf.lt a ha)
  have hlt:decide ((L.length:Int) < (L.length:Int))=false:=by simp
  have lb:aload true 3 (.ptr b 0) H=some (.agg (filC f)):=by rw [aload_of (hn.keep.row hbl hb)];rfl
  rw [R18_Store_put_L1_eq]
  cases ad with
  | true =>
   refine ⟨y,H,?_,by simpa using hn⟩
   simp only [go_sem,Nat.zero_add,l1,hf1.len,hlt,R18_Store_put_J1_eq,Bool.not_true]
  | false =>
   obtain ⟨y',H',q1,q2⟩:=hn.app f (by omega)
   refine ⟨y',H',?_,q2⟩
   simp only [go_sem,Nat.zero_add,l1,hf1.len,hlt,R18_Store_put_J1_eq,Bool.not_false,lb,one_filC,q1]
 | cons g q ih =>
  intro d O y ad H hd hO hn
  have had:ad.toNat≤1:=by cases ad <;> simp
  have l1:=ldn (hn.keep.row hr h) 1 (v:=x) rfl
  have hf1:FsAt H x L:=hf.frame fun a ha=>hn.keep a (hf.lt a ha)
  have hlen:L.length=d.length+(q.length+1):=by rw [hd];simp
  have hlt:decide ((d.length:Int) < (L.length:Int))=true:=by simp;omega
  have hw1:IntKind.i64.wrap ((d.length:Int)+1)=((d.length+1:Nat):Int):=by rw [wrap64 (by omega) (by omega)];omega
  have hi:L[d.length]?=some g:=by rw [hd,List.getElem?_append_right (Nat.le_refl _)];simp
  have lb:aload true 3 (.ptr b 0) H=some (.agg (filC f)):=by rw [aload_of (hn.keep.row hbl hb)];rfl
  have lbn:=ldn (hn.keep.row hbl hb) 0 (v:=.str f.name) rfl
  have hgt:sbin .gtr (.str g.name) (.str f.name)=some (.bool (gtB g.name f.name)):=rfl
  have l1f:∀ {H':Hp} {y':AV} {O':List Fil},NewR H0.length H0 H' y' O'→aload false 1 (.ptr r 1) H'=some x:=fun k=>ldn (k.keep.row hr h) 1 (v:=x) rfl
  have go : ∀ {H' : Hp} {y' : AV} {O' : List Fil} (ad' : Bool), O'.length ≤ d.length + ad'.toNat → NewR H0.length H0 H' y' O' →
      ∃ y2 H2,R18_Store_put_J5 (.ptr r 0) (.ptr b 0) y' (.bool ad') (.int .i64 (d.length:Int)) HB H'=R18_Store_put_J2 (.ptr r 0) y2 HB H2∧NewR H0.length H0 H2 y2 (O'++g :: if ad' then q else insF f q):=by
   intro H' y' O' ad' hO1 hn'
   have had:ad'.toNat≤1:=by cases ad' <;> simp
   have hf2:FsAt H' x L:=hf.frame fun a ha=>hn'.keep a (hf.lt a ha)
   obtain ⟨o,e,hx,_,ix,_,_,_,ia⟩:=hf2.idx hi
   obtain ⟨y3,H3,p1,p2⟩:=hn'.app g (by omega)
   obtain ⟨y2,H2,k1,k2⟩:=ih (d++[g]) (O'++[g]) y3 ad' H3 (by rw [hd];simp) (by simp;omega) p2
   rw [List.length_append,List.length_singleton] at k1
   refine ⟨y2,H2,?_,by simpa [List.append_assoc] using k2⟩
   rw [R18_Store_put_J5_eq]
   simp only [go_sem,Nat.zero_add,l1f hn',ix,ia,one_filC,p1,R18_Store_put_J4_eq,hw1]
   exact k1
  obtain ⟨o,e,hx,_,ix,i0,_,_,_⟩:=hf1.idx hi
  rw [R18_Store_put_L1_eq]
  cases ad with
  | true =>
   obtain ⟨y2,H2,k1,k2⟩:=go true hO hn
   refine ⟨y2,H2,?_,k2⟩
   simp only [go_sem,Nat.zero_add,l1,hf1.len,hlt,R18_Store_put_J3_eq,Bool.not_true]
   exact k1
  | false =>
   cases hg:gtB g.name f.name with
   | true =>
    rw [hg] at hgt
    obtain ⟨y3,H3,p1,p2⟩:=hn.app f (by omega)
    obtain ⟨y2,H2,k1,k2⟩:=go true (by simp at hO ⊢;omega) p2
    refine ⟨y2,H2,?_,by simpa [insF,hg,List.append_assoc] using k2⟩
    simp only [go_sem,Nat.zero_add,Nat.add_zero,l1,hf1.len,hlt,R18_Store_put_J3_eq,Bool.not_false,ix,i0,lbn,hgt,lb,one_filC,p1]
    exact k1
   | false =>
    rw [hg] at hgt
    obtain ⟨y2,H2,k1,k2⟩:=go false hO hn
    refine ⟨y2,H2,?_,by simpa [insF,hg,List.append_assoc] using k2⟩
    simp only [go_sem,Nat.zero_add,Nat.add_zero,l1,hf1.len,hlt,R18_Store_put_J3_eq,Bool.not_false,ix,i0,lbn,hgt]
    exact k1
end
structure PutR (H H':Hp) (r:Nat) (y:AV) (s:Sto) (L:List Fil):Prop where
 cells:H'[r]?=some (.cells (rfC y s))
 files:FsAt H' y L
 nr:r ∉ rowA y
 stp:Stp [r] H H'
 new:∀ a ∈ rowA y,H.length≤a
theorem rstore_J2 {H0 H : Hp} {r : Nat} {x y : AV} {s : Sto} {L : List Fil} {N : Nat} (h : H0[r]? = some (.cells (rfC x s))) (hr : r < N) (hn : NewR N H0 H y L) :
    astoreU 1 (.ptr r 1) y H=some (.tuple [],H.set r (.cells (rfC y s)))∧(H.set r (.cells (rfC y s)))[r]?=some (.cells (rfC y s))∧FsAt (H.set r (.cells (rfC y s))) y L∧r ∉ rowA y:=by
 have hc:=hn.keep.row hr h
 have s1:=stn hc 1 (v:=y) hn.cell.1 hn.cell.2 (by simp [rfC])
 have hnr:r ∉ rowA y:=fun k=>by have:=hn.new r k;omega
 exact ⟨s1,get_set_eq _ hc,hn.at'.frame fun a ha=>List.getElem?_set_ne fun e=>hnr (by rw [e];exact ha),hnr⟩
theorem rput_run {H : Hp} {r : Nat} {x : AV} {s : Sto} (h : RfAt H r x s) (hk : ROk s) (f : Fil) :
    ∃ y H',C_R18_Store_put [.ptr r 0,.agg (filC f)] H=some (.tuple [],H')∧PutR H H' r y s (insF f (listF s.files)):=by
 have hbx:abox (.agg (filC f)) H=some (.ptr H.length 0,H++[.cells (filC f)]):=abox_of rfl
 have hr:=lt_of_get h.cells
 have hc0:=get_push h.cells [AObj.cells (filC f)]
 have hb0:(H++[AObj.cells (filC f)])[H.length]?=some (.cells (filC f)):=by simp
 have hf0:FsAt (H++[AObj.cells (filC f)]) x (listF s.files):=h.files.frame fun a ha=>List.getElem?_append_left (h.files.lt a ha)
 obtain ⟨y,H1,k1,k2⟩:=rput_loop hc0 hf0 hk.len hb0 H (listF s.files) [] [] .nils false (H++[AObj.cells (filC f)]) rfl (by simp) ⟨.inl ⟨rfl,rfl⟩,Keep.refl _ _,Nat.le_refl _,fun a ha=>(by cases ha),rfl,rfl⟩
 obtain ⟨s1,s2,s3,s4⟩:=rstore_J2 hc0 (by simp;omega) k2
 refine ⟨y,H1.set r (.cells (rfC y s)),?_,s2,by simpa using s3,s4,⟨?_,fun a ha hn=>?_⟩,fun a ha=>?_⟩
 ·rw [F_R18_Store_put_eq]
  unfold F_R18_Store_put
  simp only [hbx,go_sem]
  rw [show ((0:Int))=(([]:List Fil).length:Int) from rfl,k1,R18_Store_put_J2_eq]
  simp only [go_sem,Nat.zero_add,s1]
 ·have:=k2.len
  simp at this ⊢
  omega
 ·rw [List.getElem?_set_ne (fun e=>hn (by simp [e])),k2.keep a (by simp;omega),List.getElem?_append_left ha]
 ·have:=k2.new a ha
  simp at this
  omega
theorem rdrop_loop {H0 : Hp} {r : Nat} {x : AV} {s : Sto} {L : List Fil} (h : H0[r]? = some (.cells (rfC x s))) (hf : FsAt H0 x L) (h64 : L.length ≤ 64) (k : Nat) (HB : Hp) : ∀ (q d O : List Fil) (y : AV) (H : Hp), L = d ++ q → O.length ≤ d.length → NewR H0.length H0 H y O →
    ∃ y' H',R18_Store_drop_L1 (.ptr r 0) (.int .i64 (k:Int)) y (.int .i64 (d.length:Int)) HB H=R18_Store_drop_J1 (.ptr r 0) y' HB H'∧NewR H0.length H0 H' y' (O++if k < d.length then q else q.eraseIdx (k - d.length)):=by
 have hr:=lt_of_get h
 intro q
 induction q with
 | nil =>
  intro d O y H hd hO hn
  rw [List.append_nil] at hd
  subst hd
  have l1:=ldn (hn.keep.row hr h) 1 (v:=x) rfl
  have hf1:FsAt H x L:=hf.frame fun a ha=>hn.keep a (hf.lt a ha)
  have hlt:decide ((L.length:Int) < (L.length:Int))=false:=by simp
  rw [R18_Store_drop_L1_eq]
  refine ⟨y,H,by simp only [go_sem,Nat.zero_add,l1,hf1.len,hlt],by simpa using hn⟩
 | cons g q ih =>
  intro d O y H hd hO hn
  have l1:=ldn (hn.keep.row hr h) 1 (v:=x) rfl
  have hf1:FsAt H x L:=hf.frame fun a ha=>hn.keep a (hf.lt a ha)
  have hlen:L.length=d.length+(q.length+1):=by rw [hd];simp
  have hlt:decide ((d.length:Int) < (L.length:Int))=true:=by simp;omega
  have hw1:IntKind.i64.wrap ((d.length:Int)+1)=((d.length+1:Nat):Int):=by rw [wrap64 (by omega) (by omega)];omega
  have hi:L[d.length]?=some g:=by rw [hd,List.getElem?_append_right (Nat.le_refl _)];simp
  obtain ⟨o,e,hx,_,ix,_,_,_,ia⟩:=hf1.idx hi
  rw [R18_Store_drop_L1_eq]
  by_cases hkd:d.length=k
  ·have hb:((d.length:Int) != (k:Int))=false:=by simp [hkd]
   obtain ⟨y2,H2,k1,k2⟩:=ih (d++[g]) O y H (by rw [hd];simp) (by simp;omega) hn
   rw [List.length_append,List.length_singleton] at k1 k2
   refine ⟨y2,H2,?_,?_⟩
   ·simp only [go_sem,Nat.zero_add,l1,hf1.len,hlt,R18_Store_drop_J2_eq,hb,R18_Store_drop_J3_eq,hw1]
    exact k1
   ·rw [if_pos (by omega)] at k2
    rw [if_neg (by omega),← hkd,Nat.sub_self]
    exact k2
  ·have hb:((d.length:Int) != (k:Int))=true:=by simp;omega
   obtain ⟨y3,H3,p1,p2⟩:=hn.app g (by omega)
   obtain ⟨y2,H2,k1,k2⟩:=ih (d++[g]) (O++[g]) y3 H3 (by rw [hd];simp) (by simp;omega) p2
   rw [List.length_append,List.length_singleton] at k1 k2
   refine ⟨y2,H2,?_,?_⟩
   ·simp only [go_sem,Nat.zero_add,l1,hf1.len,hlt,R18_Store_drop_J2_eq,hb,ix,ia,one_filC,p1,R18_Store_drop_J3_eq,hw1]
    exact k1
   ·by_cases hlt2:k < d.length
    ·rw [if_pos (by omega)] at k2
     rw [if_pos hlt2]
     simpa [List.append_assoc] using k2
    ·rw [if_neg (by omega)] at k2
     rw [if_neg hlt2]
     have:k - d.length=(k - (d.length+1))+1:=by omega
     rw [this,List.eraseIdx_cons_succ]
     simpa [List.append_assoc] using k2
theorem rdrop_run {H : Hp} {r : Nat} {x : AV} {s : Sto} (h : RfAt H r x s) (hk : ROk s) (k : Nat) :
    ∃ y H',C_R18_Store_drop [.ptr r 0,.int .i64 (k:Int)] H=some (.tuple [],H')∧PutR H H' r y s ((listF s.files).eraseIdx k):=by
 have hr:=lt_of_get h.cells
 obtain ⟨y,H1,k1,k2⟩:=rdrop_loop h.cells h.files hk.len k H (listF s.files) [] [] .nils H rfl (by simp) ⟨.inl ⟨rfl,rfl⟩,Keep.refl _ _,Nat.le_refl _,fun a ha=>(by cases ha),rfl,rfl⟩
 obtain ⟨s1,s2,s3,s4⟩:=rstore_J2 h.cells hr k2
 refine ⟨y,H1.set r (.cells (rfC y s)),?_,s2,by simpa using s3,s4,⟨?_,fun a ha hn=>?_⟩,fun a ha=>k2.new a ha⟩
 ·rw [F_R18_Store_drop_eq]
  unfold F_R18_Store_drop
  rw [show ((0:Int))=(([]:List Fil).length:Int) from rfl,k1,R18_Store_drop_J1_eq]
  simp only [go_sem,Nat.zero_add,s1]
 ·have:=k2.len
  simpa using this
 ·rw [List.getElem?_set_ne (fun e=>hn (by simp [e])),k2.keep a ha]
theorem PutR.res {H H1 H':Hp} {r:Nat} {x y:AV} {s':Sto} (h:PutR H1 H' r y s' (listF s'.files)) (hS:Stp [r] H H1):RefRes H H' r s' (r :: rowA x) (r :: rowA y):=by
 refine ⟨⟨y,⟨h.cells,h.files,h.nr⟩,rfl⟩,(hS.trans h.stp (fun a ha=>ha) fun a ha=>.inl ha).mono fun a ha=>by rw [List.mem_singleton.1 ha];simp,fun a ha=>?_⟩
 rcases List.mem_cons.1 ha with e | ha
 ·exact .inl (by simp [e])
 ·have:=h.new a ha
  have:=hS.len
  exact .inr (by omega)
end Go.Am
namespace Go.Am
set_option linter.unusedSimpArgs false
set_option linter.unusedVariables false
set_option linter.unusedSectionVars false
set_option maxRecDepth 100000

def rnameD (t31_2:AV):Option AV :=
 bnd (ibin .geq t31_2 (.int .u8 97)) fun t33_3 =>
 bnd (gdv t33_3 true (.tuple []) (some t31_2)) fun t35_4 =>
 bnd (gdv t33_3 true (.tuple []) (ibin .leq t35_4 (.int .u8 122))) fun t36_5 =>
 bnd (apick t33_3 t36_5 (.bool false)) fun t37_6 =>
 bnd (gdv t37_6 false (.tuple []) (some t31_2)) fun t39_7 =>
 bnd (gdv t37_6 false (.tuple []) (ibin .geq t39_7 (.int .u8 65))) fun t40_8 =>
 bnd (gdv t37_6 false (.tuple []) (some t40_8)) fun t41_9 =>
 bnd (gdv t41_9 true (.tuple []) (some t31_2)) fun t42_10 =>
 bnd (gdv t41_9 true (.tuple []) (ibin .leq t42_10 (.int .u8 90))) fun t43_11 =>
 bnd (gdv t37_6 false (.tuple []) (apick t41_9 t43_11 (.bool false))) fun t44_12 =>
 bnd (apick t37_6 (.bool true) t44_12) fun t45_13 =>
 bnd (gdv t45_13 false (.tuple []) (some t31_2)) fun t47_14 =>
 bnd (gdv t45_13 false (.tuple []) (ibin .geq t47_14 (.int .u8 48))) fun t48_15 =>
 bnd (gdv t45_13 false (.tuple []) (some t48_15)) fun t49_16 =>
 bnd (gdv t49_16 true (.tuple []) (some t31_2)) fun t50_17 =>
 bnd (gdv t49_16 true (.tuple []) (ibin .leq t50_17 (.int .u8 57))) fun t51_18 =>
 bnd (gdv t45_13 false (.tuple []) (apick t49_16 t51_18 (.bool false))) fun t52_19 =>
 bnd (apick t45_13 (.bool true) t52_19) fun t53_20 =>
 bnd (gdv t53_20 false (.tuple []) (some t31_2)) fun t55_21 =>
 bnd (gdv t53_20 false (.tuple []) (ibin .eql t55_21 (.int .u8 95))) fun t56_22 =>
 bnd (apick t53_20 (.bool true) t56_22) fun t57_23 =>
 bnd (aun .not t57_23) fun t58_24 =>
 some t58_24
theorem R05_IsName_J3_D_eq (x0 x3 : AV) (H0 H : Hp) : R05_IsName_J3 x0 x3 H0 H =
    bnd (aindexStr x0 x3) fun t31_2 =>
    bnd (rnameD t31_2) fun t58_24 =>
    cnd t58_24 (some ((.bool false),H)) (R05_IsName_J4 x0 x3 H0 H):=by
 rw [R05_IsName_J3_eq];simp only [rnameD,bnd_assoc,bnd_some]
theorem rnameD_all:((List.range 256).all fun n=>(boolOf (rnameD (.int .u8 (n:Int))) == some (!inName n)))=true:=by kernel_rfl
theorem rnameD_ok (b:UInt8):rnameD (.int .u8 b.toNat)=some (.bool (!inName b.toNat)):=by
 have h:=all_range rnameD_all (u8_lt b)
 simp only [beq_iff_eq] at h
 exact boolOf_some h

def nameS (s:List UInt8):Bool :=
 match s with
 | []=>false
 | b :: _=>decide (s.length≤32) && !digit b.toNat && s.all fun c=>inName c.toNat
theorem rname_loop (s : List UInt8) (hs : s.length ≤ 4611686018427387904) (H0 H : Hp) : ∀ (k i : Nat), s.length - i = k → i ≤ s.length →
    R05_IsName_L1 (.str s) (.int .i64 i) H0 H=some (.bool ((s.drop i).all fun c=>inName c.toNat),H):=by
 intro k
 induction k with
 | zero =>
  intro i hk hi
  rw [R05_IsName_L1_eq]
  have hlt:decide ((i:Int) < (s.length:Int))=false:=by simp;omega
  have hd:s.drop i=[]:=List.drop_eq_nil_iff.2 (by omega)
  simp only [go_sem,alenD,hlt,R05_IsName_J2_eq,hd,List.all_nil]
 | succ k ih =>
  intro i hk hi
  rw [R05_IsName_L1_eq]
  have hl:i < s.length:=by omega
  have hlt:decide ((i:Int) < (s.length:Int))=true:=by simp;omega
  have hw:IntKind.i64.wrap ((i:Int)+1)=((i+1:Nat):Int):=by rw [wrap64 (by omega) (by omega)];omega
  simp only [go_sem,alenD,hlt,R05_IsName_J3_D_eq,aindexStr_of (List.getElem?_eq_getElem hl),rnameD_ok]
  rw [List.drop_eq_getElem_cons hl,List.all_cons]
  cases hb:inName s[i].toNat with
  | false=>simp only [go_sem,Bool.not_false,Bool.false_and]
  | true =>
   simp only [go_sem,Bool.not_true,Bool.true_and,R05_IsName_J4_eq,hw]
   exact ih (i+1) (by omega) (by omega)
theorem rname_spec (s:List UInt8) (hs:s.length≤4611686018427387904) (H:Hp):C_R05_IsName [.str s] H=some (.bool (nameS s),H):=by
 rw [F_R05_IsName_eq]
 unfold F_R05_IsName
 simp only [go_sem,alenD]
 cases s with
 | nil=>simp [go_sem,nameS]
 | cons b l =>
  have h0:((((b :: l).length:Nat):Int) == 0)=false:=by simp;omega
  have hidx:aindexStr (.str (b :: l)) (.int .i64 0)=some (.int .u8 b.toNat):=by simp [aindexStr]
  simp only [go_sem,h0]
  by_cases h32:32 < (b :: l).length
  ·have c1:decide ((32:Int) < ((b :: l).length:Int))=true:=by simp at h32 ⊢;omega
   have : nameS (b :: l) = false := by unfold nameS; have : decide ((b :: l).length ≤ 32) = false := by simp at h32 ⊢; omega
                                       rw [this];rfl
   simp only [go_sem,c1,this]
  ·have c1:decide ((32:Int) < ((b :: l).length:Int))=false:=by simp at h32 ⊢;omega
   have c2:decide ((b :: l).length≤32)=true:=by simp at h32 ⊢;omega
   have hl:=rname_loop (b :: l) hs H H (b :: l).length 0 (by simp) (by omega)
   rw [show ((0:Nat):Int)=0 from rfl,List.drop_zero] at hl
   have hn:nameS (b :: l)=(!digit b.toNat && (b :: l).all fun c=>inName c.toNat):=by unfold nameS;simp only [c2,Bool.true_and]
   simp only [go_sem,c1,hidx,R05_IsName_J1_eq,hl,hn]
   have e1:decide ((48:Int)≤(b.toNat:Int))=decide (48≤b.toNat):=by rw [Bool.eq_iff_iff];simp;omega
   have e2:decide ((b.toNat:Int)≤(57:Int))=decide (b.toNat≤57):=by rw [Bool.eq_iff_iff];simp;omega
   unfold digit
   simp only [e1,e2]
   cases h48:decide (48≤b.toNat) with
   | false=>simp only [go_sem,Bool.false_and,Bool.not_false,Bool.true_and]
   | true =>
    cases h57:decide (b.toNat≤57) with
    | false=>simp only [go_sem,hidx,e2,h57,Bool.true_and,Bool.not_false]
    | true=>simp only [go_sem,hidx,e2,h57,Bool.true_and,Bool.not_true,Bool.false_and]
theorem rname_flat (s:List UInt8) (hs:s.length≤4611686018427387904) (H:Hp):flatC C_R05_IsName [.str s] H=some (.bool (nameS s),H):=flat1 rfl (rname_spec s hs []) rfl
theorem rowner_flat (s:Txt) (hs:s.length≤1048576) (H:Hp):flatC C_R19_ownerOk [.str s] H=some (.bool (validS s),H):=by
 refine flat1 (a':=.str s) rfl (H1:=[]) ?_ rfl
 have hn:=rname_flat s (by omega) []
 rw [F_R19_ownerOk_eq]
 unfold F_R19_ownerOk
 have hv:validS s=(nameS s && decide ((s.length:Int)≤16)):=by
  cases s with
  | nil=>rfl
  | cons b l =>
   unfold validS nameS
   have e:decide ((((b :: l).length:Nat):Int)≤16)=decide ((b :: l).length≤16):=by rw [Bool.eq_iff_iff];simp;omega
   rw [e]
   by_cases h:(b :: l).length≤16
   ·have h2:decide ((b :: l).length≤32)=true:=by simp at h ⊢;omega
    simp only [h2,decide_eq_true h,Bool.true_and,Bool.and_true]
   ·simp only [decide_eq_false h,Bool.false_and,Bool.and_false]
 rw [hv]
 simp only [hn,go_sem]
 cases nameS s <;> simp only [go_sem,alenD,Bool.true_and,Bool.false_and]
theorem gix {α : Type} {x i v : AV} (h : aindexStr x i = some v) (t : AV) (w : Bool) (k : AV → Option α) :
    (bnd (gdv t w (.tuple []) (some x)) fun a=>bnd (gdv t w (.tuple []) (some i)) fun c=>bnd (gdv t w (.tuple []) (aindexStr a c)) k)=bnd (gdv t w (.tuple []) (some v)) k:=by
 cases t with
 | bool b=>cases b <;> cases w <;> simp [gdv,bnd,h]
 | _=>rfl
def rfileD (t30_2:AV):Option AV :=
 bnd (ibin .or t30_2 (.int .u8 32)) fun t31_3 =>
 bnd (ibin .lss t31_3 (.int .u8 97)) fun t33_4 =>
 bnd (gdv t33_4 false (.tuple []) (some t31_3)) fun t35_5 =>
 bnd (gdv t33_4 false (.tuple []) (ibin .gtr t35_5 (.int .u8 122))) fun t36_6 =>
 bnd (apick t33_4 (.bool true) t36_6) fun t37_7 =>
 bnd (gdv t37_7 true (.tuple []) (some t30_2)) fun t41_10 =>
 bnd (gdv t37_7 true (.tuple []) (ibin .lss t41_10 (.int .u8 48))) fun t42_11 =>
 bnd (gdv t37_7 true (.tuple []) (some t42_11)) fun t43_12 =>
 bnd (gdv t43_12 false (.tuple []) (some t30_2)) fun t46_15 =>
 bnd (gdv t43_12 false (.tuple []) (ibin .gtr t46_15 (.int .u8 57))) fun t47_16 =>
 bnd (gdv t37_7 true (.tuple []) (apick t43_12 (.bool true) t47_16)) fun t48_17 =>
 bnd (apick t37_7 t48_17 (.bool false)) fun t49_18 =>
 bnd (gdv t49_18 true (.tuple []) (some t30_2)) fun t53_21 =>
 bnd (gdv t49_18 true (.tuple []) (ibin .neq t53_21 (.int .u8 95))) fun t54_22 =>
 bnd (apick t49_18 t54_22 (.bool false)) fun t55_23 =>
 bnd (gdv t55_23 true (.tuple []) (some t30_2)) fun t59_26 =>
 bnd (gdv t55_23 true (.tuple []) (ibin .neq t59_26 (.int .u8 46))) fun t60_27 =>
 bnd (apick t55_23 t60_27 (.bool false)) fun t61_28 =>
 some t61_28
theorem rfile_J3 {x0 x3 v : AV} (h : aindexStr x0 x3 = some v) (H0 H : Hp) : R18_FileName_J3 x0 x3 H0 H =
    bnd (rfileD v) fun t61_28=>cnd t61_28 (some ((.bool false),H)) (R18_FileName_J4 x0 x3 H0 H):=by
 rw [R18_FileName_J3_eq]
 simp only [h,bnd_some,gix h]
 simp only [rfileD,bnd_assoc,bnd_some]
theorem rfileD_all:((List.range 256).all fun n=>(boolOf (rfileD (.int .u8 (n:Int))) == some (!(letB (UInt8.ofNat n) || digB (UInt8.ofNat n)))))=true:=by kernel_rfl
theorem rfileD_ok (b:UInt8):rfileD (.int .u8 b.toNat)=some (.bool (!(letB b || digB b))):=by
 have h:=all_range rfileD_all (u8_lt b)
 simp only [beq_iff_eq,UInt8.ofNat_toNat] at h
 exact boolOf_some h
theorem rfile_loop (s : Txt) (hs : s.length ≤ 1048576) (H0 H : Hp) : ∀ (k i : Nat), s.length - i = k → i ≤ s.length →
    R18_FileName_L1 (.str s) (.int .i64 i) H0 H=some (.bool ((s.drop i).all fun c=>letB c || digB c),H):=by
 intro k
 induction k with
 | zero =>
  intro i hk hi
  rw [R18_FileName_L1_eq]
  have hlt:decide ((i:Int) < (s.length:Int))=false:=by simp;omega
  have hd:s.drop i=[]:=List.drop_eq_nil_iff.2 (by omega)
  simp only [go_sem,alenD,hlt,R18_FileName_J2_eq,hd,List.all_nil]
 | succ k ih =>
  intro i hk hi
  rw [R18_FileName_L1_eq]
  have hl:i < s.length:=by omega
  have hlt:decide ((i:Int) < (s.length:Int))=true:=by simp;omega
  have hw:IntKind.i64.wrap ((i:Int)+1)=((i+1:Nat):Int):=by rw [wrap64 (by omega) (by omega)];omega
  simp only [go_sem,alenD,hlt,rfile_J3 (aindexStr_of (List.getElem?_eq_getElem hl)),rfileD_ok]
  rw [List.drop_eq_getElem_cons hl,List.all_cons]
  cases hb:(letB s[i] || digB s[i]) with
  | false=>simp only [go_sem,Bool.not_false,Bool.false_and]
  | true =>
   simp only [go_sem,Bool.not_true,Bool.true_and,R18_FileName_J4_eq,hw]
   exact ih (i+1) (by omega) (by omega)
theorem rfile_flat (s:Txt) (hs:s.length≤1048576) (H:Hp):flatC C_R18_FileName [.str s] H=some (.bool (nameB s),H):=by
 refine flat1 (a':=.str s) rfl (H1:=[]) ?_ rfl
 rw [F_R18_FileName_eq]
 unfold F_R18_FileName
 cases s with
 | nil =>
  have:(([]:Txt) == [])=true:=rfl
  simp only [go_sem,sbin,strbin,this,nameB]
  rfl
 | cons b l =>
  have h0:(((b :: l):Txt) == [])=false:=rfl
  have hidx:aindexStr (.str (b :: l)) (.int .i64 0)=some (.int .u8 b.toNat):=by simp [aindexStr]
  simp only [go_sem,sbin,strbin,h0,alenD]
  by_cases h32:32 < (b :: l).length
  ·have c1:decide ((32:Int) < ((b :: l).length:Int))=true:=by simp at h32 ⊢;omega
   have:nameB (b :: l)=false:=by
    unfold nameB
    rw [show decide ((b :: l).length≤32)=false by simp at h32 ⊢;omega,Bool.and_false]
   simp only [go_sem,c1,this]
  ·have c1:decide ((32:Int) < ((b :: l).length:Int))=false:=by simp at h32 ⊢;omega
   have c2:decide ((b :: l).length≤32)=true:=by simp at h32 ⊢;omega
   have hl:=rfile_loop (b :: l) hs [] [] (b :: l).length 0 (by simp) (by omega)
   rw [show ((0:Nat):Int)=0 from rfl,List.drop_zero,List.all_cons] at hl
   have hn:nameB (b :: l)=(!digB b && ((letB b || digB b) && l.all fun c=>letB c || digB c)):=by
    unfold nameB
    rw [c2,Bool.and_true]
    have hx:letB b=(!digB b && (letB b || digB b)):=by
     have hall:((List.range 256).all fun n=>letB (UInt8.ofNat n) == (!digB (UInt8.ofNat n) && (letB (UInt8.ofNat n) || digB (UInt8.ofNat n))))=true:=by kernel_rfl
     have h:=all_range hall (u8_lt b)
     simpa only [beq_iff_eq,UInt8.ofNat_toNat] using h
    rw [← Bool.and_assoc,← hx]
   have e1:decide ((48:Int)≤(b.toNat:Int))=decide (48≤b):=by rw [Bool.eq_iff_iff];simp [UInt8.le_iff_toNat_le];omega
   have e2:decide ((b.toNat:Int)≤(57:Int))=decide (b≤57):=by rw [Bool.eq_iff_iff];simp [UInt8.le_iff_toNat_le];omega
   have hd:digB b=(decide (48≤b) && decide (b≤57)):=rfl
   rw [hn,hd]
   simp only [go_sem,c1,hidx,R18_FileName_J1_eq,hl,e1]
   cases h48:decide (48≤b) with
   | false=>simp only [go_sem,Bool.false_and,Bool.not_false,Bool.true_and,hd,h48]
   | true =>
    cases h57:decide (b≤57) with
    | false=>simp only [go_sem,hidx,e2,h57,Bool.true_and,Bool.not_false,Bool.and_false,hd,h48]
    | true=>simp only [go_sem,hidx,e2,h57,Bool.true_and,Bool.not_true,Bool.false_and]
theorem rtmp_loop (n : Txt) (hd : Txt) (hs : n.length ≤ 1048576) (hl : hd.length < n.length) (H0 H : Hp) : ∀ (k i : Nat), n.length - i = k → i ≤ n.length →
    R19_temporary_L1 (.str n) (.str hd) (.int .i64 i) H0 H=some (.bool ((n.drop i).all digB && !(n[hd.length] == 48)),H):=by
 intro k
 induction k with
 | zero =>
  intro i hk hi
  rw [R19_temporary_L1_eq]
  have hlt:decide ((i:Int) < (n.length:Int))=false:=by simp;omega
  have he:n.drop i=[]:=List.drop_eq_nil_iff.2 (by omega)
  have hix:=aindexStr_of (List.getElem?_eq_getElem hl)
  have hb:((n[hd.length].toNat:Int) != 48)=!(n[hd.length] == 48):=by
   by_cases h:n[hd.length]=48
   ·rw [h];rfl
   ·have h2:n[hd.length].toNat ≠ 48:=fun e=>h (UInt8.toNat_inj.1 e)
    have h3:(n[hd.length] == 48)=false:=by simpa using h
    rw [h3]
    simp
    omega
  simp only [go_sem,alenD,hlt,R19_temporary_J2_eq,he,List.all_nil,Bool.true_and,hix,hb]
 | succ k ih =>
  intro i hk hi
  rw [R19_temporary_L1_eq]
  have hl2:i < n.length:=by omega
  have hlt:decide ((i:Int) < (n.length:Int))=true:=by simp;omega
  have hw:IntKind.i64.wrap ((i:Int)+1)=((i+1:Nat):Int):=by rw [wrap64 (by omega) (by omega)];omega
  have hix:=aindexStr_of (List.getElem?_eq_getElem hl2)
  rw [List.drop_eq_getElem_cons hl2,List.all_cons,digB_int n[i]]
  simp only [go_sem,alenD,hlt,R19_temporary_J3_eq,hix]
  cases h1:decide ((n[i].toNat:Int) < 48) with
  | true=>simp only [go_sem,Bool.not_true,Bool.false_and]
  | false =>
   cases h2:decide ((57:Int) < (n[i].toNat:Int)) with
   | true=>simp only [go_sem,hix,h2,Bool.not_true,Bool.not_false,Bool.false_and,Bool.and_false]
   | false =>
    simp only [go_sem,hix,h2,Bool.not_false,Bool.and_true,Bool.true_and,R19_temporary_J4_eq,hw]
    exact ih (i+1) (by omega) (by omega)
theorem rtmp_flat (n ow:Txt) (hn:n.length≤1048576) (ho:ow.length≤1048000) (H:Hp):flatC C_R19_temporary [.str n,.str ow] H=some (.bool (tmpB ow n),H):=by
 refine flat2 (a':=.str n) rfl (b':=.str ow) rfl (H1:=[]) ?_ rfl
 have a1:sbin .add (.str [46,116,109,112,46]) (.str ow)=some (.str ([46,116,109,112,46]++ow)):=sbin_add (by simp;omega)
 have a2:sbin .add (.str ([46,116,109,112,46]++ow)) (.str [46])=some (.str (ownS ow)):=by rw [sbin_add (by simp;omega)];rfl
 have hol:(ownS ow).length=ow.length+6:=by simp [ownS]
 rw [F_R19_temporary_eq]
 unfold F_R19_temporary
 have hle:decide ((n.length:Int)≤((ownS ow).length:Int))=!decide ((ownS ow).length < n.length):=by
  rw [Bool.eq_iff_iff];simp
 unfold tmpB
 simp only [a1,a2,go_sem,alenD,hle]
 by_cases h1:(ownS ow).length < n.length
 ·have sl1 : asliceS (.str n) none (some (.int .i64 ((ownS ow).length : Int))) none = some (.str (n.take (ownS ow).length)) := by
     rw [asliceS_hi .i64 (by omega) (by omega),Int.toNat_natCast]
  have hse:sbin .neq (.str (n.take (ownS ow).length)) (.str (ownS ow))=some (.bool (!(n.take (ownS ow).length == ownS ow))):=rfl
  simp only [decide_eq_true h1,Bool.not_true,go_sem,sl1,hse,Bool.true_and]
  cases h2:(n.take (ownS ow).length == ownS ow) with
  | false=>simp only [go_sem,Bool.not_false,Bool.false_and]
  | true =>
   have hL:=rtmp_loop n (ownS ow) hn h1 [] [] _ (ownS ow).length rfl (by omega)
   simp only [go_sem,Bool.not_true,Bool.true_and,R19_temporary_J1_eq,alenD,hL]
   have hd:numB (n.drop (ownS ow).length)=((n.drop (ownS ow).length).all digB && !(n[(ownS ow).length] == 48)):=by
    unfold numB
    rw [List.drop_eq_getElem_cons h1]
    rfl
   rw [hd]
 ·simp only [decide_eq_false h1,Bool.not_false,go_sem,Bool.false_and]
end Go.Am
namespace Go.Am
set_option linter.unusedSimpArgs false
set_option linter.unusedVariables false
set_option linter.unusedSectionVars false
set_option maxRecDepth 100000

theorem RefRes.trans {H H1 H2:Hp} {r:Nat} {s1 s2:Sto} {A B C:List Nat} (h:RefRes H H1 r s1 A B) (k:RefRes H1 H2 r s2 B C):RefRes H H2 r s2 A C:=by
 have:=h.stp.len
 refine ⟨k.at',h.stp.trans k.stp (fun _ h=>h) h.own,fun a ha=>?_⟩
 rcases k.own a ha with k | k
 ·exact h.own a k
 ·exact .inr (by omega)
theorem rCreate_run {H : Hp} {r : Nat} {s : Sto} {A : List Nat} (h : RefAt H r s A) (hk : ROk s) (n : Txt) (hn : n.length ≤ 1048576) :
    ∃ H' A',C_R18_Store_Create [.ptr r 0,.str n] H=some (.int .i64 (s.create n).1,H')∧RefRes H H' r (s.create n).2 A A':=by
 obtain ⟨x,h,rfl⟩:=h
 have hnil:∀ t,ebin (.pointer t) .eql (.ptr r 0) .nilp=some (.bool false):=fun _=>rfl
 obtain ⟨H1,q1,q2,q3⟩:=rfails_run h hk
 have hfl:=rfile_flat n hn H1
 have hpl:=rplace_run q2 hk.tick n
 have l1:=ldn q2.cells 1 (v:=x) rfl
 have hlen:=fun t=>q2.files.len t
 simp only [tick_files,listF_length hk.nd] at hpl hlen
 rw [F_R18_Store_Create_eq]
 unfold F_R18_Store_Create Sto.create
 cases hcr:s.tick.crashed with
 | true =>
  rw [hcr] at q1
  rw [if_pos rfl]
  exact ⟨H1,_,by simp only [hnil,go_sem,R18_Store_Create_J1_eq,q1],q2.res q3⟩
 | false =>
  rw [hcr] at q1
  rw [if_neg (by simp)]
  cases hb:nameB n with
  | false =>
   rw [hb] at hfl
   rw [if_pos rfl]
   exact ⟨H1,_,by simp only [hnil,go_sem,R18_Store_Create_J1_eq,q1,R18_Store_Create_J2_eq,hfl,Bool.not_false],q2.res q3⟩
  | true =>
   rw [hb] at hfl
   rw [if_neg (by simp)]
   rcases placeF_spec (listF s.files) n with ⟨p1,p2⟩ | ⟨i,f,p1,p2,_⟩
   ·rw [listF_get hk.nd] at p2
    have hp:placeI (listF s.files) n=-1:=by unfold placeI;rw [p1]
    rw [hp] at hpl
    rw [p2]
    dsimp only
    have c0:decide ((0:Int)≤-1)=false:=rfl
    by_cases h64:64≤s.files.length
    ·have c1:decide ((64:Int)≤(s.files.length:Int))=true:=by simp;omega
     rw [if_pos h64]
     exact ⟨H1,_,by simp only [hnil,go_sem,R18_Store_Create_J1_eq,q1,R18_Store_Create_J2_eq,hfl,Bool.not_true,R18_Store_Create_J3_eq,hpl,c0,R18_Store_Create_J4_eq,Nat.zero_add,l1,hlen,c1],q2.res q3⟩
    ·have c1:decide ((64:Int)≤(s.files.length:Int))=false:=by simp;omega
     rw [if_neg h64]
     obtain ⟨y,H2,k1,k2⟩:=rput_run q2 hk.tick ⟨n,[],0⟩
     rw [tick_files,← listF_app hk.nd ⟨n,[],0⟩ p2] at k2
     have hfill:(afill [(0,1,.str n)] [(.str []),(.str []),(.int .i64 0)]).map AV.agg=some (.agg (filC ⟨n,[],0⟩)):=rfl
     refine ⟨H2,_,by simp only [hnil,go_sem,R18_Store_Create_J1_eq,q1,R18_Store_Create_J2_eq,hfl,Bool.not_true,R18_Store_Create_J3_eq,hpl,c0,R18_Store_Create_J4_eq,Nat.zero_add,l1,hlen,c1,R18_Store_Create_J5_eq,hfill,k1],PutR.res (s':={ s.tick with files:=s.files++[⟨n,[],0⟩] }) ⟨k2.cells,k2.files,k2.nr,k2.stp,k2.new⟩ q3⟩
   ·rw [listF_get hk.nd] at p2
    have hp:placeI (listF s.files) n=(i:Int):=by unfold placeI;rw [p1]
    rw [hp] at hpl
    rw [p2]
    have c0:decide ((0:Int)≤(i:Int))=true:=by simp
    exact ⟨H1,_,by simp only [hnil,go_sem,R18_Store_Create_J1_eq,q1,R18_Store_Create_J2_eq,hfl,Bool.not_true,R18_Store_Create_J3_eq,hpl,c0],q2.res q3⟩
theorem rRemove_run {H : Hp} {r : Nat} {s : Sto} {A : List Nat} (h : RefAt H r s A) (hk : ROk s) (n : Txt) :
    ∃ H' A',C_R18_Store_Remove [.ptr r 0,.str n] H=some (.int .i64 (s.remove n).1,H')∧RefRes H H' r (s.remove n).2 A A':=by
 obtain ⟨x,h,rfl⟩:=h
 obtain ⟨v,e,H1,q1,q2,q3,q4⟩:=rbegin_run h hk n
 rw [F_R18_Store_Remove_eq]
 unfold F_R18_Store_Remove Sto.remove
 rcases q4 with ⟨c1,rfl⟩ | ⟨c1,c2,rfl⟩ | ⟨c1,rfl,i,f,rfl,c3,c4,c5,c6,c7⟩
 ·have e1:((19:Int) != 0)=true:=rfl
  rw [if_pos c1]
  exact ⟨H1,_,by simp only [q1,go_sem,List.getElem?_cons_zero,List.getElem?_cons_succ,e1],q2.res q3⟩
 ·have e1:((5:Int) != 0)=true:=rfl
  rw [if_neg (by simp [c1]),c2]
  exact ⟨H1,_,by simp only [q1,go_sem,List.getElem?_cons_zero,List.getElem?_cons_succ,e1],q2.res q3⟩
 ·have e1:((0:Int) != 0)=false:=rfl
  rw [if_neg (by simp [c1]),c4]
  obtain ⟨y,H2,k1,k2⟩:=rdrop_run q2 hk.tick i
  rw [tick_files,← c6,← listF_rm hk.nd] at k2
  exact ⟨H2,_,by simp only [q1,go_sem,List.getElem?_cons_zero,List.getElem?_cons_succ,e1,R18_Store_Remove_J1_eq,k1],PutR.res (s':={ s.tick with files:=rmF s.files n }) ⟨k2.cells,k2.files,k2.nr,k2.stp,k2.new⟩ q3⟩
theorem rlist_loop {H0 : Hp} {r : Nat} {x : AV} {s : Sto} {L : List Fil} (h : H0[r]? = some (.cells (rfC x s))) (hf : FsAt H0 x L) (h64 : L.length ≤ 64) (HB : Hp) : ∀ (q d : List Fil) (y : AV) (H : Hp), L = d ++ q →
    RowN H0.length H 3 y (d.map filAV)→Keep H0.length H0 H→H0.length≤H.length →
    ∃ y' H',R18_Store_List_L1 (.ptr r 0) y (.int .i64 (d.length:Int)) HB H=some (y',H')∧RowN H0.length H' 3 y' (L.map filAV)∧Keep H0.length H0 H'∧H0.length≤H'.length:=by
 have hr:=lt_of_get h
 intro q
 induction q with
 | nil =>
  intro d y H hd hy hK hl
  rw [List.append_nil] at hd
  subst hd
  have l1:=ldn (hK.row hr h) 1 (v:=x) rfl
  have hf1:FsAt H x L:=hf.frame fun a ha=>hK a (hf.lt a ha)
  have hlt:decide ((L.length:Int) < (L.length:Int))=false:=by simp
  rw [R18_Store_List_L1_eq]
  exact ⟨y,H,by simp only [go_sem,Nat.zero_add,l1,hf1.len,hlt,R18_Store_List_J2_eq],hy,hK,hl⟩
 | cons g q ih =>
  intro d y H hd hy hK hl
  have l1:=ldn (hK.row hr h) 1 (v:=x) rfl
  have hf1:FsAt H x L:=hf.frame fun a ha=>hK a (hf.lt a ha)
  have hlen:L.length=d.length+(q.length+1):=by rw [hd];simp
  have hlt:decide ((d.length:Int) < (L.length:Int))=true:=by simp;omega
  have hw1:IntKind.i64.wrap ((d.length:Int)+1)=((d.length+1:Nat):Int):=by rw [wrap64 (by omega) (by omega)];omega
  have hi:L[d.length]?=some g:=by rw [hd,List.getElem?_append_right (Nat.le_refl _)];simp
  obtain ⟨o,e,hx,_,ix,i0,i1,i2,_⟩:=hf1.idx hi
  have hfill:(afill [(0,1,.str g.name),(1,1,.int .i64 (g.text.length:Int)),(2,1,.int .i64 (g.syn:Int))] [(.str []),(.int .i64 0),(.int .i64 0)]).map AV.agg=some (filAV g):=rfl
  have hone:(setElems 3 [(0,filAV g)] [(.agg [(.str []),(.int .i64 0),(.int .i64 0)])]).map (AV.vs 3 .clip)=some (.vs 3 .clip [filAV g]):=rfl
  obtain ⟨x',H1,q1,q2,q3,q4,_⟩:=hy.app hl 32 (.vs 3 .clip [filAV g]) [filAV g] rfl (by simp;omega)
  obtain ⟨y',H',p1,p2,p3,p4⟩:=ih (d++[g]) x' H1 (by rw [hd];simp) (by rw [List.map_append];exact q2) (hK.trans q4) q3
  rw [List.length_append,List.length_singleton] at p1
  refine ⟨y',H',?_,p2,p3,p4⟩
  have al:alenD .string (.str g.text)=some (.int .i64 (g.text.length:Int)):=rfl
  rw [R18_Store_List_L1_eq]
  simp only [go_sem,Nat.zero_add,Nat.add_zero,l1,hf1.len,hlt,R18_Store_List_J3_eq,ix,i0,i1,i2,al,hfill,hone,q1,R18_Store_List_J4_eq,hw1]
  exact p1
theorem rList_ro {H:Hp} {r:Nat} {s:Sto} {A:List Nat} (h:RefAt H r s A) (hk:ROk s):∃ x,roC C_R18_Store_List [.ptr r 0] H=some (x,H)∧Sl 3 x ((listF s.files).map filAV):=by
 obtain ⟨x,h,rfl⟩:=h
 have hnil:∀ t,ebin (.pointer t) .eql (.ptr r 0) .nilp=some (.bool false):=fun _=>rfl
 obtain ⟨y,H1,p1,p2,p3,p4⟩:=rlist_loop h.cells h.files hk.len H (listF s.files) [] .nils H rfl (.inl ⟨rfl,rfl⟩) (Keep.refl _ _) (Nat.le_refl _)
 have hrun:C_R18_Store_List [.ptr r 0] H=some (y,H1):=by
  rw [F_R18_Store_List_eq]
  unfold F_R18_Store_List
  simp only [hnil,go_sem,R18_Store_List_J1_eq]
  exact p1
 rcases p2 with ⟨rfl,hn⟩ | ⟨t,e,rfl,ht,hnt⟩
 ·exact ⟨.nils,roC_of hrun p3 p4 rfl,.inl ⟨rfl,hn⟩⟩
 ·refine ⟨.vs 3 (if t < H.length then .own t e else .no) ((listF s.files).map filAV),roC_of hrun p3 p4 (by rw [closeV_vs',mapM_fil]),.inr ⟨_,rfl⟩⟩
theorem rNew_run (n:Int) (H:Hp):∃ H',C_R18_New [.int .i64 n] H=some (.ptr H.length 0,H')∧RefAt H' H.length ⟨(min (max n 0) 262144).toNat,0,[],false,0⟩ [H.length]∧H'=H++[.cells [.int .i64 (min (max n 0) 262144),.nils,.int .i64 0,.bool false,.int .i64 0]]:=by
 have hf:(afill [(0,1,.int .i64 (min (max n 0) 262144))] [(.int .i64 0),.nils,(.int .i64 0),(.bool false),(.int .i64 0)]).map AV.agg=some (.agg [.int .i64 (min (max n 0) 262144),.nils,.int .i64 0,.bool false,.int .i64 0]):=rfl
 have hbx:abox (.agg [.int .i64 (min (max n 0) 262144),.nils,.int .i64 0,.bool false,.int .i64 0]) H=some (.ptr H.length 0,H++[.cells [.int .i64 (min (max n 0) 262144),.nils,.int .i64 0,.bool false,.int .i64 0]]):=abox_of rfl
 have hn:((min (max n 0) 262144).toNat:Int)=min (max n 0) 262144:=by omega
 refine ⟨_,?_,⟨.nils,⟨by simp [rfC,hn],.inl ⟨rfl,rfl⟩,by simp [rowA]⟩,rfl⟩,rfl⟩
 rw [F_R18_New_eq]
 unfold F_R18_New
 simp only [go_sem,hf,hbx]
theorem rleft_loop {H0 : Hp} {ow : Txt} (ho : ow.length ≤ 1048000) {x : AV} {fs : List Fil} (hx : Sl 3 x (fs.map filAV)) (hl : fs.length ≤ 64) (hn : ∀ f ∈ fs, f.name.length ≤ 1048576) (HB : Hp) : ∀ (r d : List Fil) (x5 : AV) (H : Hp), fs = d ++ r →
    RowN H0.length H 1 x5 ((leftF ow d).map AV.str)→Keep H0.length H0 H→H0.length≤H.length →
    ∃ y H',R19_Left_L1 (.str ow) x5 x (.int .i64 (d.length:Int)) HB H=some (y,H')∧RowN H0.length H' 1 y ((leftF ow fs).map AV.str)∧Keep H0.length H0 H'∧H0.length≤H'.length:=by
 intro r
 induction r with
 | nil =>
  intro d x5 H hd h5 hK hlen
  rw [List.append_nil] at hd
  subst hd
  have hlt:decide ((fs.length:Int) < (fs.length:Int))=false:=by simp
  have hxl:∀ t,alenD (.slice t) x=some (.int .i64 (fs.length:Int)):=fun t=>by have:=Sl.len hx t;rwa [List.length_map] at this
  rw [R19_Left_L1_eq]
  simp only [go_sem,hxl,hlt,R19_Left_J2_eq]
  exact ⟨_,_,rfl,h5,hK,hlen⟩
 | cons f r ih =>
  intro d x5 H hd h5 hK hlen
  have hlen2:fs.length=d.length+(r.length+1):=by rw [hd];simp
  have hlt:decide ((d.length:Int) < (fs.length:Int))=true:=by simp;omega
  have hxl:∀ t,alenD (.slice t) x=some (.int .i64 (fs.length:Int)):=fun t=>by have:=Sl.len hx t;rwa [List.length_map] at this
  have hw1:IntKind.i64.wrap ((d.length:Int)+1)=((d.length+1:Nat):Int):=by rw [wrap64 (by omega) (by omega)];omega
  have hif:fs[d.length]?=some f:=by rw [hd,List.getElem?_append_right (Nat.le_refl _)];simp
  have hfn:=hn f (List.mem_of_getElem? hif)
  have hidx:aindexS 3 x (.int .i64 (d.length:Int))=some (.vp (filAV f).cells):=Sl.idx hx (c:=filAV f) (by simp [hif])
  have haf:afield 0 (.vp (filAV f).cells)=some (.vp (filAV f).cells):=rfl
  have hld:∀ H:Hp,aload false 1 (.vp (filAV f).cells) H=some (.str f.name):=fun _=>rfl
  have hone:(setElems 1 [(0,.str f.name)] [(.str [])]).map (AV.vs 1 .clip)=some (.vs 1 .clip [.str f.name]):=one_str _
  have hdl:(leftF ow d).length≤d.length:=leftF_len _ _
  have htm:=rtmp_flat f.name ow hfn ho H
  have hlf:leftF ow (d++[f])=leftF ow d++(if tmpB ow f.name then [f.name] else []):=by
   rw [leftF_app]
   congr 1
   unfold leftF
   cases hb:tmpB ow f.name <;> simp [hb]
  rw [R19_Left_L1_eq]
  cases hb:tmpB ow f.name with
  | false =>
   rw [hb] at htm
   rw [hb,if_neg (by simp),List.append_nil] at hlf
   obtain ⟨y1,H1',p1,p2,p3,p4⟩:=ih (d++[f]) x5 H (by rw [hd];simp) (by rw [hlf];exact h5) hK hlen
   rw [List.length_append,List.length_singleton] at p1
   refine ⟨y1,H1',?_,p2,p3,p4⟩
   simp only [go_sem,hxl,hlt,R19_Left_J3_eq,hidx,haf,hld,htm,R19_Left_J4_eq,hw1]
   exact p1
  | true =>
   rw [hb] at htm
   rw [hb,if_pos rfl] at hlf
   obtain ⟨x',H1,q1,q2,q3,q4,_⟩:=h5.app hlen 16 (.vs 1 .clip [.str f.name]) [.str f.name] rfl (by simp;omega)
   obtain ⟨y1,H1',p1,p2,p3,p4⟩:=ih (d++[f]) x' H1 (by rw [hd];simp) (by rw [hlf,List.map_append];exact q2) (hK.trans q4) q3
   rw [List.length_append,List.length_singleton] at p1
   refine ⟨y1,H1',?_,p2,p3,p4⟩
   simp only [go_sem,hxl,hlt,R19_Left_J3_eq,hidx,haf,hld,htm,hone,q1,R19_Left_J4_eq,hw1]
   exact p1
theorem rLeft_ro {H:Hp} {r:Nat} {s:Sto} {A:List Nat} (h:RefAt H r s A) (hk:ROk s) (ow:Txt) (ho:ow.length≤1048000):∃ x,roC C_R19_Left [.ptr r 0,.str ow] H=some (x,H)∧SS x (leftS ow s):=by
 have hv:=rowner_flat ow (by omega) H
 have hnil:∀ t,ebin (.pointer t) .eql (.ptr r 0) .nilp=some (.bool false):=fun _=>rfl
 cases hvs:validS ow with
 | false =>
  rw [hvs] at hv
  refine ⟨.nils,roC_of (H1:=H) (v:=.nils) ?_ (Keep.refl _ _) (Nat.le_refl _) rfl,.inl ⟨rfl,by unfold leftS;rw [hvs];rfl⟩⟩
  rw [F_R19_Left_eq]
  unfold F_R19_Left
  simp only [hnil,go_sem,hv,Bool.not_false]
 | true =>
  rw [hvs] at hv
  obtain ⟨x,q1,q2⟩:=rList_ro h hk
  obtain ⟨y,H1,p1,p2,p3,p4⟩:=rleft_loop ho q2 hk.len (fun f hf=>Nat.le_trans (name_len (hk.sto.name f (listF_mem hf))) (by omega)) H (listF s.files) [] .nils H rfl (.inl ⟨rfl,rfl⟩) (Keep.refl _ _) (Nat.le_refl _)
  have hrun:C_R19_Left [.ptr r 0,.str ow] H=some (y,H1):=by
   rw [F_R19_Left_eq]
   unfold F_R19_Left
   simp only [hnil,go_sem,hv,Bool.not_true,R19_Left_J1_eq,q1]
   exact p1
  have hls:leftS ow s=leftF ow (listF s.files):=by unfold leftS;rw [hvs];rfl
  rw [hls]
  rcases p2 with ⟨rfl,hn⟩ | ⟨t',e,rfl,ht,hnt⟩
  ·exact ⟨.nils,roC_of hrun p3 p4 rfl,.inl ⟨rfl,hn⟩⟩
  ·refine ⟨.vs 1 (if t' < H.length then .own t' e else .no) ((leftF ow (listF s.files)).map AV.str),roC_of hrun p3 p4 (by rw [closeV_vs',mapM_id (fun x hx=>by obtain ⟨n,_,rfl⟩:=List.mem_map.1 hx;rfl)]),.inr ⟨_,rfl⟩⟩
end Go.Am
namespace Go.Am
set_option linter.unusedSimpArgs false
set_option linter.unusedVariables false
set_option linter.unusedSectionVars false
set_option maxRecDepth 100000

theorem remove_rok {s:Sto} (h:ROk s) (n:Txt):ROk (s.remove n).2:=by
  have ht:=h.tick
  unfold Sto.remove
  split
  · exact ht
  · split
    · exact ht
    · have:=rm_ok ht.sto n
      rw [tick_files] at this
      exact ⟨this,ht.cnt⟩
theorem create_rok {s:Sto} (h:ROk s) (n:Txt):ROk (s.create n).2:=by
  have ht:=h.tick
  unfold Sto.create
  split
  · exact ht
  · split
    · exact ht
    · rename_i hb
      split
      · exact ht
      · rename_i hg
        split
        · exact ht
        · rename_i h64
          have hk:=h.sto
          have hkt:=ht.sto
          refine ⟨⟨hkt.limit,?_,hkt.peak,fun f hf=>?_,?_,fun f hf=>?_,?_,hkt.count⟩,ht.cnt⟩
          · have hu:=hkt.used
            rw [tick_files] at hu
            show usedL (s.files++[(⟨n,[],0⟩:Fil)])≤s.tick.limit
            rw [usedL_app]
            simpa [usedL] using hu
          · rcases List.mem_append.1 hf with hf | hf
            · exact hk.name f hf
            · rw [List.mem_singleton.1 hf];simpa using hb
          · show ((s.files++[(⟨n,[],0⟩:Fil)]).map Fil.name).Nodup
            rw [List.map_append,List.nodup_append]
            refine ⟨hk.nd,by simp,fun a ha b hb e=>?_⟩
            simp at hb
            obtain ⟨g,hg2,hn⟩:=List.mem_map.1 ha
            exact getF_none.1 hg g hg2 (by rw [hn,e,hb])
          · rcases List.mem_append.1 hf with hf | hf
            · exact hk.syn f hf
            · rw [List.mem_singleton.1 hf];exact Nat.le_refl _
          · show (s.files++[(⟨n,[],0⟩:Fil)]).length≤64
            simp
            omega
def openRm:List Txt→Sto→Int × Sto
  | [],s=>(0,s)
  | n :: r,s=>if (s.remove n).1 ≠ 0 then s.remove n else openRm r (s.remove n).2
theorem openRm_rok:∀ (l:List Txt) (s:Sto),ROk s→ROk (openRm l s).2:=by
  intro l
  induction l with
  | nil=>intro s h;exact h
  | cons n l ih =>
    intro s h
    rw [openRm]
    split
    · exact remove_rok h n
    · exact ih _ (remove_rok h n)
theorem leftS_len (ow:Txt) {s:Sto} (h:StoOk s):(leftS ow s).length≤64:=by
  unfold leftS
  split
  · exact Nat.le_trans (leftF_len _ _) (Nat.le_trans (listF_len _) h.len)
  · simp
theorem topen_loop {t : Nat} {x : AV} {ns : List Txt} (hx : SS x ns) (hl : ns.length ≤ 64) (ow lim : AV) (HB : Hp) : ∀ (r d : List Txt) (H : Hp) (S : List Nat) (s : Sto), ns = d ++ r → StoreAt H t s S → ROk s →
    ∃ H' S',tempfile_Open_L1 (.ptr t 0) ow lim x (.int .i64 (ns.length:Int)) (.int .i64 (d.length:Int)) HB H=(if (openRm r s).1 ≠ 0 then some (.tuple [.nilp,.int .i64 (openRm r s).1],H') else tempfile_Open_J3 (.ptr t 0) ow lim HB H')∧StoRes H H' t (openRm r s).2 S S':=by
  intro r
  induction r with
  | nil =>
    intro d H S s hd h hk
    rw [List.append_nil] at hd
    subst hd
    have hlt:decide ((ns.length:Int) < (ns.length:Int))=false:=by simp
    refine ⟨H,S,?_,⟨h,Stp.refl _ _,fun a ha=>.inl ha⟩⟩
    rw [tempfile_Open_L1_eq,openRm,if_neg (by simp)]
    simp only [go_sem,hlt]
  | cons n r ih =>
    intro d H S s hd h hk
    have hlen:ns.length=d.length+(r.length+1):=by rw [hd];simp
    have hlt:decide ((d.length:Int) < (ns.length:Int))=true:=by simp;omega
    have hw1:IntKind.i64.wrap ((d.length:Int)+1)=((d.length+1:Nat):Int):=by rw [wrap64 (by omega) (by omega)];omega
    have hin:ns[d.length]?=some n:=by rw [hd,List.getElem?_append_right (Nat.le_refl _)];simp
    have hidx:=SS.idx hx hin
    obtain ⟨H1,S1,q1,q2⟩:=Remove_run h hk.sto n
    rw [tempfile_Open_L1_eq]
    by_cases he:(s.remove n).1=0
    · have e0:((s.remove n).1 != 0)=false:=by rw [he];rfl
      have hor:openRm (n :: r) s=openRm r (s.remove n).2:=by rw [openRm,if_neg (by simp [he])]
      obtain ⟨H2,S2,r1,r2⟩:=ih (d++[n]) H1 S1 _ (by rw [hd];simp) q2.at' (remove_rok hk n)
      rw [List.length_append,List.length_singleton] at r1
      rw [hor]
      refine ⟨H2,S2,?_,q2.trans r2⟩
      simp only [go_sem,hlt,tempfile_Open_J4_eq,hidx,aload_vpc,q1,e0,tempfile_Open_J5_eq,hw1]
      exact r1
    · have e0:((s.remove n).1 != 0)=true:=by simpa using he
      have hor:openRm (n :: r) s=s.remove n:=by rw [openRm,if_pos he]
      rw [hor]
      refine ⟨H1,S1,?_,q2⟩
      rw [if_pos he]
      simp only [go_sem,hlt,tempfile_Open_J4_eq,hidx,aload_vpc,q1,e0]
theorem topen_J3 {H : Hp} {t : Nat} {s : Sto} {S : List Nat} (h : StoreAt H t s S) (ow : Txt) (lim : Int) (HB : Hp) :
    ∃ H',tempfile_Open_J3 (.ptr t 0) (.str ow) (.int .i64 lim) HB H=some (.tuple [.ptr (H.length+1) 0,.int .i64 0],H')∧SysAt H' (H.length+1) t ⟨ow,[],[],(max 0 lim).toNat,0,false⟩ s ([H.length+1,H.length]++S)∧Stp [] H H':=by
  have hf1:(afill [(0,1,.ptr t 0),(1,1,.str ow),(3,1,.map H.length)] [.nilp,(.str []),.nils,.nilm]).map AV.agg=some (.agg [.ptr t 0,.str ow,.nils,.map H.length]):=rfl
  have hf2:(afill [(0,4,.agg [.ptr t 0,.str ow,.nils,.map H.length]),(4,1,.int .i64 (max 0 lim))] [.nilp,(.str []),.nils,.nilm,(.int .i64 0),(.int .i64 0),(.bool false)]).map AV.agg=some (.agg [.ptr t 0,.str ow,.nils,.map H.length,.int .i64 (max 0 lim),.int .i64 0,.bool false]):=rfl
  have hb:∀ l:List AV,abox (.agg l) (H++[.map [] 0])=some (.ptr (H.length+1) 0,H++[.map [] 0]++[.cells l]):=fun l=>by rw [abox_of rfl];simp [AV.cells]
  have hl:((max 0 lim).toNat:Int)=max 0 lim:=by omega
  refine ⟨H++[.map [] 0]++[.cells [.ptr t 0,.str ow,.nils,.map H.length,.int .i64 (max 0 lim),.int .i64 0,.bool false]],?_,⟨[H.length+1,H.length],S,⟨H.length,0,.nils,[],⟨?_,.inl ⟨rfl,rfl⟩,?_,rfl,by simp [tokA]⟩,rfl⟩,h.frame fun a ha=>?_,fun a ha hs=>?_,rfl⟩,?_⟩
  · rw [tempfile_Open_J3_eq]
    simp only [go_sem,hf1,hf2,hb]
  · simp [hl]
  · simp
  · rw [List.append_assoc,List.getElem?_append_left (h.lt a ha)]
  · have:=h.lt a hs
    simp at ha
    omega
  · rw [List.append_assoc];exact Stp.push _ _
theorem TOpen_run {H : Hp} {t : Nat} {s : Sto} {S : List Nat} (h : StoreAt H t s S) (hk : ROk s) (ow : Txt) (ho : ow.length ≤ 1048576) (lim : Int) :
    ∃ p e H',C_tempfile_Open [.ptr t 0,.str ow,.int .i64 lim] H=some (.tuple [p,.int .i64 e],H') ∧
      (validS ow=false∧p=.nilp∧e=4∧H'=H ∨
       validS ow=true∧(openRm (leftS ow s) s).1 ≠ 0∧p=.nilp∧e=(openRm (leftS ow s) s).1∧(∃ S',StoRes H H' t (openRm (leftS ow s) s).2 S S') ∨
       validS ow=true∧(openRm (leftS ow s) s).1=0∧e=0∧∃ o A',p=.ptr o 0∧H.length≤o∧SysAt H' o t ⟨ow,[],[],(max 0 lim).toNat,0,false⟩ (openRm (leftS ow s) s).2 A'∧Stp S H H'∧∀ a ∈ A',a ∈ S ∨ H.length≤a):=by
  have hnil:∀ u,ebin (.pointer u) .eql (.ptr t 0) .nilp=some (.bool false):=fun _=>rfl
  have hv:=ownv_flat ow ho H
  rw [F_tempfile_Open_eq]
  unfold F_tempfile_Open
  cases hvs:validS ow with
  | false =>
    rw [hvs] at hv
    exact ⟨.nilp,4,H,by simp only [hnil,go_sem,tempfile_Open_J1_eq,hv,Bool.not_false],.inl ⟨rfl,rfl,rfl,rfl⟩⟩
  | true =>
    rw [hvs] at hv
    obtain ⟨x,l1,l2⟩:=Left_ro h hk.sto ow ho
    have hx:∀ u,alenD (.slice u) x=some (.int .i64 ((leftS ow s).length:Int)):=fun u=>l2.len u
    obtain ⟨H1,S1,q1,q2⟩:=topen_loop l2 (leftS_len ow hk.sto) (.str ow) (.int .i64 lim) H (leftS ow s) [] H S s rfl h hk
    simp only [List.length_nil] at q1
    by_cases he:(openRm (leftS ow s) s).1=0
    · rw [if_neg (by simp [he])] at q1
      obtain ⟨H2,k1,k2,k3⟩:=topen_J3 q2.at' ow lim H
      refine ⟨.ptr (H1.length+1) 0,0,H2,?_,.inr (.inr ⟨rfl,he,rfl,H1.length+1,_,rfl,?_,k2,q2.stp.trans k3 (fun _ h=>h) (fun a ha=>by cases ha),fun a ha=>?_⟩)⟩
      · simp only [hnil,go_sem,tempfile_Open_J1_eq,hv,Bool.not_true,tempfile_Open_J2_eq,l1,hx]
        exact q1.trans k1
      · have:=q2.stp.len;omega
      · have:=q2.stp.len
        rcases List.mem_append.1 ha with ha | ha
        · simp at ha
          exact .inr (by omega)
        · exact q2.own a ha
    · rw [if_pos he] at q1
      refine ⟨.nilp,_,H1,?_,.inr (.inl ⟨rfl,he,rfl,rfl,S1,q2⟩)⟩
      simp only [hnil,go_sem,tempfile_Open_J1_eq,hv,Bool.not_true,tempfile_Open_J2_eq,l1,hx]
      exact q1
theorem ropen_loop {t : Nat} {x : AV} {ns : List Txt} (hx : SS x ns) (hl : ns.length ≤ 64) (ow lim : AV) (HB : Hp) : ∀ (r d : List Txt) (H : Hp) (S : List Nat) (s : Sto), ns = d ++ r → RefAt H t s S → ROk s →
    ∃ H' S',R19_Open_L1 (.ptr t 0) ow lim x (.int .i64 (d.length:Int)) HB H=(if (openRm r s).1 ≠ 0 then some (.tuple [.nilp,.int .i64 (openRm r s).1],H') else R19_Open_J3 (.ptr t 0) ow lim HB H')∧RefRes H H' t (openRm r s).2 S S':=by
  intro r
  induction r with
  | nil =>
    intro d H S s hd h hk
    rw [List.append_nil] at hd
    subst hd
    have hlt:decide ((ns.length:Int) < (ns.length:Int))=false:=by simp
    refine ⟨H,S,?_,h.self⟩
    rw [R19_Open_L1_eq,openRm,if_neg (by simp)]
    have hx:∀ u,alenD (.slice u) x=some (.int .i64 (ns.length:Int)):=fun u=>hx.len u
    simp only [go_sem,hx,hlt]
  | cons n r ih =>
    intro d H S s hd h hk
    have hlen:ns.length=d.length+(r.length+1):=by rw [hd];simp
    have hlt:decide ((d.length:Int) < (ns.length:Int))=true:=by simp;omega
    have hw1:IntKind.i64.wrap ((d.length:Int)+1)=((d.length+1:Nat):Int):=by rw [wrap64 (by omega) (by omega)];omega
    have hin:ns[d.length]?=some n:=by rw [hd,List.getElem?_append_right (Nat.le_refl _)];simp
    have hidx:=SS.idx hx hin
    have hxl:∀ u,alenD (.slice u) x=some (.int .i64 (ns.length:Int)):=fun u=>hx.len u
    obtain ⟨H1,S1,q1,q2⟩:=rRemove_run h hk n
    rw [R19_Open_L1_eq]
    by_cases he:(s.remove n).1=0
    · have e0:((s.remove n).1 != 0)=false:=by rw [he];rfl
      have hor:openRm (n :: r) s=openRm r (s.remove n).2:=by rw [openRm,if_neg (by simp [he])]
      obtain ⟨H2,S2,r1,r2⟩:=ih (d++[n]) H1 S1 _ (by rw [hd];simp) q2.at' (remove_rok hk n)
      rw [List.length_append,List.length_singleton] at r1
      rw [hor]
      refine ⟨H2,S2,?_,q2.trans r2⟩
      simp only [go_sem,hxl,hlt,R19_Open_J5_eq,hidx,aload_vpc,q1,e0,R19_Open_J6_eq,hw1]
      exact r1
    · have e0:((s.remove n).1 != 0)=true:=by simpa using he
      have hor:openRm (n :: r) s=s.remove n:=by rw [openRm,if_pos he]
      rw [hor]
      refine ⟨H1,S1,?_,q2⟩
      rw [if_pos he]
      simp only [go_sem,hxl,hlt,R19_Open_J5_eq,hidx,aload_vpc,q1,e0]
theorem ropen_J3 {H : Hp} {t : Nat} (ow : Txt) (lim : Int) (HB : Hp) :
    R19_Open_J3 (.ptr t 0) (.str ow) (.int .i64 lim) HB H=some (.tuple [.ptr H.length 0,.int .i64 0],H++[.cells [.ptr t 0,.str ow,.int .i64 ((max 0 lim).toNat:Int),.int .i64 0,.nils,.nils,.bool false]]):=by
  have hf:∀ l:Int,(afill [(0,1,.ptr t 0),(1,1,.str ow),(2,1,.int .i64 l)] [.nilp,(.str []),(.int .i64 0),(.int .i64 0),.nils,.nils,(.bool false)]).map AV.agg=some (.agg [.ptr t 0,.str ow,.int .i64 l,.int .i64 0,.nils,.nils,.bool false]):=fun _=>rfl
  have hb:∀ l:List AV,abox (.agg l) H=some (.ptr H.length 0,H++[.cells l]):=fun l=>by rw [abox_of rfl];simp [AV.cells]
  rw [R19_Open_J3_eq]
  by_cases hn:lim < 0
  · have e:((max 0 lim).toNat:Int)=0:=by omega
    simp only [go_sem,decide_eq_true hn,R19_Open_J4_eq,hf,hb,e]
  · have e:((max 0 lim).toNat:Int)=lim:=by omega
    simp only [go_sem,decide_eq_false hn,R19_Open_J4_eq,hf,hb,e]
theorem ROpen19_run {H : Hp} {t : Nat} {s : Sto} {S : List Nat} (h : RefAt H t s S) (hk : ROk s) (ow : Txt) (ho : ow.length ≤ 1048000) (lim : Int) :
    ∃ p e H',C_R19_Open [.ptr t 0,.str ow,.int .i64 lim] H=some (.tuple [p,.int .i64 e],H') ∧
      (validS ow=false∧p=.nilp∧e=4∧H'=H ∨
       validS ow=true∧(openRm (leftS ow s) s).1 ≠ 0∧p=.nilp∧e=(openRm (leftS ow s) s).1∧(∃ S',RefRes H H' t (openRm (leftS ow s) s).2 S S') ∨
       validS ow=true∧(openRm (leftS ow s) s).1=0∧e=0∧∃ o S',p=.ptr o 0∧H.length≤o∧o ∉ S'∧H'[o]?=some (.cells [.ptr t 0,.str ow,.int .i64 ((max 0 lim).toNat:Int),.int .i64 0,.nils,.nils,.bool false])∧RefRes H H' t (openRm (leftS ow s) s).2 S S'):=by
  have hnil:∀ u,ebin (.pointer u) .eql (.ptr t 0) .nilp=some (.bool false):=fun _=>rfl
  have hv:=rowner_flat ow (by omega) H
  rw [F_R19_Open_eq]
  unfold F_R19_Open
  cases hvs:validS ow with
  | false =>
    rw [hvs] at hv
    exact ⟨.nilp,4,H,by simp only [hnil,go_sem,R19_Open_J1_eq,hv,Bool.not_false],.inl ⟨rfl,rfl,rfl,rfl⟩⟩
  | true =>
    rw [hvs] at hv
    obtain ⟨x,l1,l2⟩:=rLeft_ro h hk ow ho
    obtain ⟨H1,S1,q1,q2⟩:=ropen_loop l2 (leftS_len ow hk.sto) (.str ow) (.int .i64 lim) H (leftS ow s) [] H S s rfl h hk
    simp only [List.length_nil] at q1
    by_cases he:(openRm (leftS ow s) s).1=0
    · rw [if_neg (by simp [he]),ropen_J3] at q1
      refine ⟨.ptr H1.length 0,0,H1++[.cells [.ptr t 0,.str ow,.int .i64 ((max 0 lim).toNat:Int),.int .i64 0,.nils,.nils,.bool false]],?_,.inr (.inr ⟨rfl,he,rfl,H1.length,S1,rfl,q2.stp.len,fun ha=>?_,?_,?_⟩)⟩
      · simp only [hnil,go_sem,R19_Open_J1_eq,hv,Bool.not_true,R19_Open_J2_eq,l1]
        exact q1
      · have:=q2.at'.lt _ ha;omega
      · simp
      · exact ⟨q2.at'.frame fun a ha=>List.getElem?_append_left (q2.at'.lt a ha),q2.stp.trans (Stp.push (A:=[]) _ _) (fun _ h=>h) (fun a ha=>by cases ha),q2.own⟩
    · rw [if_pos he] at q1
      refine ⟨.nilp,_,H1,?_,.inr (.inl ⟨rfl,he,rfl,rfl,S1,q2⟩)⟩
      simp only [hnil,go_sem,R19_Open_J1_eq,hv,Bool.not_true,R19_Open_J2_eq,l1]
      exact q1
end Go.Am
namespace Go.Am
set_option linter.unusedSimpArgs false
set_option linter.unusedVariables false
set_option linter.unusedSectionVars false
set_option maxRecDepth 100000

structure Two (H:Hp) (t u:Nat) (s:Sto) (S R:List Nat):Prop where
 sto:StoreAt H t s S
 ref:RefAt H u s R
 dis:∀ a ∈ S,a ∉ R
theorem Two.step {H H1 H2:Hp} {t u:Nat} {s s':Sto} {S S' R R':List Nat} (h:Two H t u s S R) (h1:StoRes H H1 t s' S S') (h2:RefRes H1 H2 u s' R R'):Two H2 t u s' S' R':=by
 have hl:=h1.stp.len
 have hd:∀ a ∈ S',a ∉ R:=fun a ha hb=>by
  rcases h1.own a ha with k | k
  ·exact h.dis a k hb
  ·have:=h.ref.lt a hb;omega
 refine ⟨h1.at'.stp h2.stp hd,h2.at',fun a ha hb=>?_⟩
 rcases h2.own a hb with k | k
 ·exact hd a ha k
 ·have:=h1.at'.lt a ha;omega
theorem Two.mid {H H1:Hp} {t u:Nat} {s s':Sto} {S S' R:List Nat} (h:Two H t u s S R) (h1:StoRes H H1 t s' S S'):RefAt H1 u s R:=h.ref.stp h1.stp fun a ha hb=>h.dis a hb ha
theorem names_end {H : Hp} {t u : Nat} {s : Sto} {S R : List Nat} (h : Two H t u s S R) (hk : ROk s) (ow : Txt) (ho : ow.length ≤ 1048000) (H0 : Hp) :
    ∃ H',L19_TempfileNames_J2 (.str ow) (.ptr t 0) (.ptr u 0) H0 H=some (.bool true,H'):=by
 obtain ⟨x,l1,l2⟩:=Left_ro h.sto hk.sto ow (by omega)
 obtain ⟨y,m1,m2⟩:=rLeft_ro h.ref hk ow ho
 obtain ⟨p,e,H1,q1,q2⟩:=TOpen_run h.sto hk ow (by omega) 5
 have fin:∀ {H2:Hp} {s2:Sto} {S2 R2:List Nat},StoreAt H2 t s2 S2→RefAt H2 u s2 R2→ROk s2→∃ H',L19_TempfileNames_J3 (.ptr t 0) (.ptr u 0) H0 H2=some (.bool true,H'):=by
  intro H2 s2 S2 R2 a b c
  obtain ⟨z,a1,a2⟩:=List_ro a c.sto
  obtain ⟨w,b1,b2⟩:=rList_ro b c
  have hsf:=sameF_flat a2 b2 c.len H2
  obtain ⟨H',hw⟩:=awake19_run H2
  exact ⟨H',by rw [L19_TempfileNames_J3_eq];simp only [a1,b1,hsf,go_sem,hw]⟩
 have hsn:∀ H,flatC C_L19_sameNames [x,y] H=some (.bool true,H):=fun H=>sameN_flat l2 m2 (Nat.le_trans (leftS_len ow hk.sto) (by omega)) H
 have hbb:∀ b:Bool,ebin .bool .neq (.bool b) (.bool b)=some (.bool false):=fun b=>by cases b <;> rfl
 have hn1:∀ c,ebin (.pointer c) .eql .nilp .nilp=some (.bool true):=fun _=>rfl
 have hn2:∀ c o,ebin (.pointer c) .eql (.ptr o 0) .nilp=some (.bool false):=fun _ _=>rfl
 rw [L19_TempfileNames_J2_eq]
 rcases q2 with ⟨v1,rfl,rfl,rfl⟩ | ⟨v1,v2,rfl,rfl,S',v3⟩ | ⟨v1,v2,rfl,o,A',rfl,v3,v4,v5,v6⟩
 ·obtain ⟨p2,e2,H2,r1,r2⟩:=ROpen19_run h.ref hk ow ho 5
  rcases r2 with ⟨_,rfl,rfl,rfl⟩ | ⟨w1,_⟩ | ⟨w1,_⟩
  ·obtain ⟨H',k⟩:=fin h.sto h.ref hk
   have e44:((4:Int) != 4)=false:=rfl
   exact ⟨H',by simp only [l1,m1,q1,r1,go_sem,List.getElem?_cons_zero,List.getElem?_cons_succ,hsn,Bool.not_true,hn1,hbb,e44];exact k⟩
  ·rw [v1] at w1;cases w1
  ·rw [v1] at w1;cases w1
 ·obtain ⟨p2,e2,H2,r1,r2⟩:=ROpen19_run (h.mid v3) hk ow ho 5
  rcases r2 with ⟨w1,_⟩ | ⟨_,_,rfl,rfl,R',w3⟩ | ⟨_,w2,_⟩
  ·rw [v1] at w1;cases w1
  ·have ht:=h.step v3 w3
   obtain ⟨H',k⟩:=fin ht.sto ht.ref (openRm_rok _ _ hk)
   have e44:((openRm (leftS ow s) s).1 != (openRm (leftS ow s) s).1)=false:=by simp
   exact ⟨H',by simp only [l1,m1,q1,r1,go_sem,List.getElem?_cons_zero,List.getElem?_cons_succ,hsn,Bool.not_true,hn1,hbb,e44];exact k⟩
  ·exact absurd w2 v2
 ·have hr1:RefAt H1 u s R:=h.ref.stp v5 fun a ha hb=>h.dis a hb ha
  obtain ⟨p2,e2,H2,r1,r2⟩:=ROpen19_run hr1 hk ow ho 5
  rcases r2 with ⟨w1,_⟩ | ⟨_,w2,_⟩ | ⟨_,_,rfl,o2,R',rfl,w3,w4,w5,w6⟩
  ·rw [v1] at w1;cases w1
  ·exact absurd v2 w2
  ·obtain ⟨B,S2,_,k2,_,rfl⟩:=v4
   have hd:∀ a ∈ S2,a ∉ R:=fun a ha hb=>by
    rcases v6 a (by simp [ha]) with k | k
    ·exact h.dis a k hb
    ·have:=h.ref.lt a hb;omega
   obtain ⟨H',k⟩:=fin (k2.stp w6.stp hd) w6.at' (openRm_rok _ _ hk)
   have e44:((0:Int) != 0)=false:=rfl
   exact ⟨H',by simp only [l1,m1,q1,r1,go_sem,List.getElem?_cons_zero,List.getElem?_cons_succ,hsn,Bool.not_true,hn2,hbb,e44];exact k⟩
theorem names_loop {x : AV} {ns : List Txt} (hx : SS x ns) (hl : ns.length ≤ 40) (hL : ∀ n ∈ ns, n.length ≤ 1048576) (ow : Txt) (ho : ow.length ≤ 1048000) {t u : Nat} (H0 : Hp) : ∀ (r d : List Txt) (H : Hp) (s : Sto) (S R : List Nat), ns = d ++ r → Two H t u s S R → ROk s →
    ∃ H',L19_TempfileNames_L1 x (.str ow) (.ptr t 0) (.ptr u 0) (.int .i64 (d.length:Int)) H0 H=some (.bool true,H'):=by
 intro r
 induction r with
 | nil =>
  intro d H s S R hd h hk
  rw [List.append_nil] at hd
  subst hd
  have hlt:decide ((ns.length:Int) < (ns.length:Int))=false:=by simp
  have hxl:∀ c,alenD (.slice c) x=some (.int .i64 (ns.length:Int)):=fun c=>hx.len c
  obtain ⟨H',k⟩:=names_end h hk ow ho H0
  exact ⟨H',by rw [L19_TempfileNames_L1_eq];simp only [go_sem,hxl,hlt];exact k⟩
 | cons n r ih =>
  intro d H s S R hd h hk
  have hlen:ns.length=d.length+(r.length+1):=by rw [hd];simp
  have hlt:decide ((d.length:Int) < (ns.length:Int))=true:=by simp;omega
  have hw1:IntKind.i64.wrap ((d.length:Int)+1)=((d.length+1:Nat):Int):=by rw [wrap64 (by omega) (by omega)];omega
  have hin:ns[d.length]?=some n:=by rw [hd,List.getElem?_append_right (Nat.le_refl _)];simp
  have hidx:=SS.idx hx hin
  have hxl:∀ c,alenD (.slice c) x=some (.int .i64 (ns.length:Int)):=fun c=>hx.len c
  have hnl:alenD .string (.str n)=some (.int .i64 (n.length:Int)):=rfl
  have hn:=hL n (by rw [hd];simp)
  rw [L19_TempfileNames_L1_eq]
  by_cases h100:100 < n.length
  ·have c1:decide ((100:Int) < (n.length:Int))=true:=by simp;omega
   obtain ⟨H',hw⟩:=awake19_run H
   exact ⟨H',by simp only [go_sem,hxl,hlt,L19_TempfileNames_J4_eq,hidx,aload_vpc,hnl,c1,hw]⟩
  ·have c1:decide ((100:Int) < (n.length:Int))=false:=by simp;omega
   obtain ⟨H1,S1,q1,q2⟩:=Create_run h.sto hk.sto n hn
   obtain ⟨H2,R2,r1,r2⟩:=rCreate_run (h.mid q2) hk n hn
   have e0:((s.create n).1 != (s.create n).1)=false:=by simp
   obtain ⟨H',k⟩:=ih (d++[n]) H2 _ S1 R2 (by rw [hd];simp) (h.step q2 r2) (create_rok hk n)
   rw [List.length_append,List.length_singleton] at k
   have hav:aloadv false 1 (.vp [.str n])=some (.str n):=rfl
   exact ⟨H',by simp only [go_sem,hxl,hlt,L19_TempfileNames_J4_eq,hidx,aload_vpc,hav,hnl,c1,q1,r1,e0,L19_TempfileNames_J5_eq,hw1];exact k⟩
theorem Names_law {x:AV} {ns:List Txt} (hx:SS x ns) (hl:ns.length≤1048576) (hL:∀ n ∈ ns,n.length≤1048576) (ow:Txt) (ho:ow.length≤1048576):∃ H',C_L19_TempfileNames [x,.str ow] []=some (.bool true,H'):=by
 have hxl:∀ c,alenD (.slice c) x=some (.int .i64 (ns.length:Int)):=fun c=>hx.len c
 have hol:alenD .string (.str ow)=some (.int .i64 (ow.length:Int)):=rfl
 obtain ⟨Hw,hw⟩:=awake19_run []
 rw [F_L19_TempfileNames_eq]
 unfold F_L19_TempfileNames
 by_cases h40:40 < ns.length
 ·have c1:decide ((40:Int) < (ns.length:Int))=true:=by simp;omega
  exact ⟨Hw,by simp only [go_sem,hxl,c1,hw]⟩
 ·have c1:decide ((40:Int) < (ns.length:Int))=false:=by simp;omega
  by_cases h100:100 < ow.length
  ·have c2:decide ((100:Int) < (ow.length:Int))=true:=by simp;omega
   exact ⟨Hw,by simp only [go_sem,hxl,c1,hol,c2,hw]⟩
  ·have c2:decide ((100:Int) < (ow.length:Int))=false:=by simp;omega
   obtain ⟨H1,q1,q2,q3⟩:=New_run 100 (by omega) []
   obtain ⟨H2,r1,r2,r3⟩:=rNew_run 100 H1
   have hs:(⟨(min (max 100 0) 262144:Int).toNat,0,[],false,0⟩:Sto)=⟨100,0,[],false,0⟩:=rfl
   rw [hs] at q2 r2
   have ok:ROk ⟨100,0,[],false,0⟩:=⟨⟨by decide,by simp [usedL],by simp,by simp,by simp,by simp,by simp,by simp⟩,fun _=>rfl⟩
   have hS:StoreAt H2 1 ⟨100,0,[],false,0⟩ [1,0]:=q2.frame fun a ha=>by
    have:=q2.lt a ha
    rw [r3,List.getElem?_append_left this]
   have hdis:∀ a ∈ [1,0],a ∉ [H1.length]:=fun a ha hb=>by
    have:=q2.lt a ha
    simp at hb
    omega
   obtain ⟨H',k⟩:=names_loop hx (by omega) hL ow (by omega) [] ns [] H2 _ _ _ rfl ⟨hS,r2,hdis⟩ ok
   simp only [List.length_nil] at q1 k
   exact ⟨H',by simp only [go_sem,hxl,c1,hol,c2,L19_TempfileNames_J1_eq,q1,r1];exact k⟩
end Go.Am
