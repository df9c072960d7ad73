/-
  Temporary files in the machine: reading records; readers of runs.
-/
import Derived.Test.YtehanadfidoodaaGreatDoorNkQbx
import Derived.Test.YtehanadfidoodaaGreatDoorNkGLx
import Derived.Test.YtehanadfidoodaaGreatDoorNkNx
import Derived.Test.YtehanadfidoodaaGreatDoorNkMzx
import Derived.Test.YtehanadfidoodaaGreatDoorNkYax
import Derived.Test.YtehanadfidoodaaGreatDoorNkYzx
namespace Go.Am
set_option linter.unusedSimpArgs false
set_option linter.unusedVariables false
set_option linter.unusedSectionVars false
set_option maxRecDepth 100000
theorem Dd {s:Sto}(h1:s.crashed=false)(h2:s.count=0):s.tick=s:=by
 unfold Sto.tick
 rw[if_neg (by simp[h1]),if_neg (by omega)]
 cases s
 simp only at h2
 subst h2
 rfl
theorem SysAt.same {H H':Hp}{o t:Nat}{tm:Tmp}{s':Sto}{B S:List Nat}(h1:TmpAt H o t tm B)(h3:∀ a∈B,a∉S)(hr:StoRes H H' t s' S S):SysAt H' o t tm s' (B++S) :=
 ⟨B,S,h1.stp hr.stp h3,hr.at',h3,rfl⟩
section
variable {H:Hp}{o t:Nat}{tm:Tmp}{s:Sto}{A:List Nat}(h:SysAt H o t tm s A)(hm:TmpOk tm)(hk:StoOk s)(n:Zm)
include h hm hk
theorem ZcW (hf:Y3 tm n≠0)(i:Int):Wu [.ptr o 0,.str n,.int .i64 i] H=some (.tuple [.str [],.int .i64 0,.int .i64 (Y3 tm n)],H):=by
 obtain⟨B,S,⟨ms,clk,nx,sl,h1,rfl⟩,h2,h3,rfl⟩:=h
 have hfr:=EL h1 hm n
 have e0:(Y3 tm n != 0)=true:=by simpa using hf
 rw[Jc]
 unfold Uy
 simp only[hfr,go_sem,e0]
theorem Zk0 (hf:Y3 tm n=0)(hc:s.tick.crashed=false){f:Fil}(hg:ZQ s.files n=some f){p:Zm}{rest:List Zm}(ht:f.text=p++ZX rest)(hfit:Xw rest=true)(hlen:f.text.length≤262144) :
 ∃ H',Wu [.ptr o 0,.str n,.int .i64 (p.length:Int)] H=some (match rest with
  |[]=>.tuple [.str [],.int .i64 0,.int .i64 5]
  |l::_=>.tuple [.str l,.int .i64 ((p++Yy l).length:Int),.int .i64 0],H')∧SysAt H' o t tm s.tick A∧Stp A H H':=by
 obtain⟨B,S,h1,h2,h3,rfl⟩:=h
 have hB:=h1
 obtain⟨ms,clk,nx,sl,h1,rfl⟩:=h1
 have hfr:=EL h1 hm n
 have l0:=Y2 h1.cells 0 (v:=.ptr t 0) rfl
 have e0:(Y3 tm n != 0)=false:=by rw[hf];rfl
 have ez:((0:Int) != 0)=false:=rfl
 have hpl:p.length≤f.text.length:=by rw[ht];simp
 obtain⟨H1,p1,p2⟩:=ZmD h2 hk n (p.length:Int) 4102 (by omega)
 have hrd:s.read n (p.length:Int) 4102=((ZX rest).take 4102,0):=by
  unfold Sto.read
  rw[if_neg (by simp[hc]),hg]
  dsimp only
  rw[if_neg (by omega),Int.toNat_natCast,ht,List.drop_append_of_le_length (Nat.le_refl _),List.drop_length]
  rfl
 rw[hrd]at p1
 refine⟨H1,?_,SysAt.same hB h3 p2,p2.stp.mono fun a ha=>by simp[ha]⟩
 rw[Jc]
 unfold Uy
 cases rest with
 |nil =>
  have hem:((ZX ([]:List Zm)).take 4102==([]:Zm))=true:=rfl
  simp only[hfr,go_sem,e0,Nat.zero_add,J0,l0,p1,List.getElem?_cons_zero,List.getElem?_cons_succ,ez,J1,hem]
 |cons l r =>
  have hl:l.length≤4096:=by
   simp only[Xw,List.all_cons,Bool.and_eq_true,decide_eq_true_eq]at hfit
   exact hfit.1
  have htk:(ZX (l::r)).take 4102=Yy l++(ZX r).take (4102-(Yy l).length):=by
   show (Yy l++ZX r).take 4102=_
   rw[List.take_append,List.take_of_length_le (by rw[Jo];omega)]
  have hem:((ZX (l::r)).take 4102==([]:Zm))=false:=by
   rw[htk]
   have:(Yy l).length≠0:=by rw[Jo];omega
   cases hr:Yy l with
   |nil=>rw[hr]at this;simp at this
   |cons a b=>rfl
  have hnx:=Zlz l ((ZX r).take (4102-(Yy l).length)) hl (by
   rw[List.length_take]
   omega) H1
  rw[←htk]at hnx
  have hel:(ZX (l::r)).length≤262144:=by
   have:=congrArg List.length ht
   rw[List.length_append]at this
   omega
  have hrl:(Yy l).length=l.length+6:=Jo l
  have hw:IntKind.i64.wrap ((p.length:Int)+((l.length+6:Nat):Int))=((p++Yy l).length:Int):=by
   rw[List.length_append,hrl,Zr (by omega) (by omega)];omega
  simp only[hfr,go_sem,e0,Nat.zero_add,J0,l0,p1,List.getElem?_cons_zero,List.getElem?_cons_succ,ez,J1,hem,Tx,hnx,Ty,hw]
end
abbrev Va (o:Nat)(n:Zm)(i:Nat)(held fin:Bool)(line:Zm):List AV:=[.ptr o 0,.str n,.int .i64 (i:Int),.bool held,.bool fin,.str line]
def Rdr (H:Hp)(r o:Nat)(n text:Zm)(rest:List Zm):Prop :=
 (∃ l q p,H[r]?=some (.cells (Va o n (p++Yy l).length true false l))∧rest=l::q∧text=p++Yy l++ZX q) ∨
 (rest=[]∧∃ p,H[r]?=some (.cells (Va o n p false true []))) ∨
 ∃ p,H[r]?=some (.cells (Va o n p.length false false []))∧text=p++ZX rest
theorem Rdr.cells {H:Hp}{r o:Nat}{n text:Zm}{rest:List Zm}(h:Rdr H r o n text rest):∃ c,H[r]?=some (.cells c):=by
 rcases h with ⟨l,q,p,h,_⟩|⟨_,p,h⟩|⟨p,h,_⟩ <;> exact⟨_,h⟩
theorem Rdr.frame {H H':Hp}{r o:Nat}{n text:Zm}{rest:List Zm}(h:Rdr H r o n text rest)(hf:H'[r]?=H[r]?):Rdr H' r o n text rest:=by
 unfold Rdr at h ⊢
 rw[hf]
 exact h
section
variable {H:Hp}{o t:Nat}{tm:Tmp}{s:Sto}{A:List Nat}(h:SysAt H o t tm s A)(hm:TmpOk tm)(hk:StoOk s){n:Zm}{r:Nat}{f:Fil}{rest:List Zm}
 (hr:Rdr H r o n f.text rest) (hrA:r∉A) (hf:Y3 tm n=0) (hc:s.crashed=false) (h0:s.count=0) (hg:ZQ s.files n=some f) (hfit:Xw rest=true) (hlen:f.text.length≤262144)
include h hm hk hr hrA hf hc h0 hg hfit hlen
theorem ZmB:∃ H',Xo [.ptr r 0] H=some (.tuple [.str (rest.headD []),.bool (!rest.isEmpty),.int .i64 0],H')∧SysAt H' o t tm s A∧Stp (r::A) H H' ∧
 (rest=[]∧(∃ p,H'[r]?=some (.cells (Va o n p false true [])))∨∃ l q p,H'[r]?=some (.cells (Va o n (p++Yy l).length true false l))∧rest=l::q∧f.text=p++Yy l++ZX q):=by
 have hts:=Dd hc h0
 have hnil:Yj (.pointer 125) .eql (.ptr r 0) .nilp=some (.bool false):=rfl
 rw[Ux]
 unfold VI
 rcases hr with ⟨l,q,p,hr,rfl,htx⟩|⟨rfl,p,hr⟩|⟨p,hr,htx⟩
 ·have l3:=Y2 hr 3 (v:=.bool true) rfl
  have l5:=Y2 hr 5 (v:=.str l) rfl
  refine⟨H,?_,h,Stp.refl _ _,.inr ⟨l,q,p,hr,rfl,htx⟩⟩
  simp only[go_sem,Nat.zero_add,hnil,Yn,l3,Bool.not_true,YG,Gb,l5]
  rfl
 ·have l3:=Y2 hr 3 (v:=.bool false) rfl
  have l4:=Y2 hr 4 (v:=.bool true) rfl
  refine⟨H,?_,h,Stp.refl _ _,.inl ⟨rfl,p,hr⟩⟩
  simp only[go_sem,Nat.zero_add,hnil,Yn,l3,l4,Bool.not_true,Bool.not_false,YG]
  rfl
 ·have l3:=Y2 hr 3 (v:=.bool false) rfl
  have l4:=Y2 hr 4 (v:=.bool false) rfl
  have l0:=Y2 hr 0 (v:=.ptr o 0) rfl
  have l1:=Y2 hr 1 (v:=.str n) rfl
  have l2:=Y2 hr 2 (v:=.int .i64 (p.length:Int)) rfl
  obtain⟨H1,q1,q2,q3⟩:=Zk0 h hm hk n hf (by rw[hts];exact hc) hg htx hfit hlen
  rw[hts]at q2
  have g1:=q3.get hr hrA
  cases rest with
  |nil =>
   have e5:((5:Int)==0)=false:=rfl
   have e55:((5:Int)==5)=true:=rfl
   have s4:=R0 g1 4 (v:=.bool true) rfl rfl (by simp)
   have g2:=Zv (AObj.cells (List.set (Va o n p.length false false []) 4 (.bool true))) g1
   have k3:=Y2 g2 3 (v:=.bool false) rfl
   have hS2:Stp (r::A) H1 (H1.set r (.cells (List.set (Va o n p.length false false []) 4 (.bool true)))):=Stp.set _ _ (by simp)
   refine⟨H1.set r (.cells (List.set (Va o n p.length false false []) 4 (.bool true))),?_,q2.stp (C:=[r]) (Stp.set _ _ (by simp)) (fun a ha=>by simp;exact fun e=>hrA (e ▸ ha)),(q3.mono (B:=r::A) fun a ha=>by simp[ha]).trans hS2 (fun _ h=>h) (fun _ h=>.inl h),.inl ⟨rfl,p.length,g2⟩⟩
   simp only[go_sem,Nat.zero_add,hnil,Yn,l3,l4,l0,l1,l2,q1,List.getElem?_cons_zero,List.getElem?_cons_succ,e5,e55,s4,YG,k3,Bool.not_false]
   rfl
  |cons l q =>
   have ez:((0:Int)==0)=true:=rfl
   have s5:=R0 g1 5 (v:=.str l) rfl rfl (by simp)
   have g2:=Zv (AObj.cells (List.set (Va o n p.length false false []) 5 (.str l))) g1
   have s2:=R0 g2 2 (v:=.int .i64 ((p++Yy l).length:Int)) rfl rfl (by simp)
   have g3:=Zv (AObj.cells (List.set (List.set (Va o n p.length false false []) 5 (.str l)) 2 (.int .i64 ((p++Yy l).length:Int)))) g2
   have s3:=R0 g3 3 (v:=.bool true) rfl rfl (by simp)
   have g4:=Zv (AObj.cells (List.set (List.set (List.set (Va o n p.length false false []) 5 (.str l)) 2 (.int .i64 ((p++Yy l).length:Int))) 3 (.bool true))) g3
   generalize hH2:H1.set r (.cells (List.set (Va o n p.length false false []) 5 (.str l)))=H2 at s5 s2 g3 s3 g4
   generalize hH3:H2.set r (.cells (List.set (List.set (Va o n p.length false false []) 5 (.str l)) 2 (.int .i64 ((p++Yy l).length:Int))))=H3 at s2 s3 g4
   generalize hH4:H3.set r (.cells (List.set (List.set (List.set (Va o n p.length false false []) 5 (.str l)) 2 (.int .i64 ((p++Yy l).length:Int))) 3 (.bool true)))=H4 at s3 g4
   have k3:=Y2 g4 3 (v:=.bool true) rfl
   have k5:=Y2 g4 5 (v:=.str l) rfl
   have hS2:Stp [r] H1 H4:=by
    rw[←hH4,←hH3,←hH2]
    exact ((Stp.set _ _ (by simp)).trans (Stp.set _ _ (by simp)) (fun _ h=>h) fun _ h=>.inl h).trans (Stp.set _ _ (by simp)) (fun _ h=>h) fun _ h=>.inl h
   refine⟨H4,?_,q2.stp hS2 (fun a ha=>by simp;exact fun e=>hrA (e ▸ ha)),(q3.mono (B:=r::A) fun a ha=>by simp[ha]).trans (hS2.mono (B:=r::A) fun a ha=>by rw[List.mem_singleton.1 ha];simp) (fun _ h=>h) (fun _ h=>.inl h),.inr ⟨l,q,p,g4,rfl,by rw[htx];simp[ZX]⟩⟩
   simp only[go_sem,Nat.zero_add,hnil,Yn,l3,l4,l0,l1,l2,q1,List.getElem?_cons_zero,List.getElem?_cons_succ,ez,s5,s2,s3,YG,k3,Bool.not_true,Bool.not_false,Gb,k5]
   rfl
end
structure Cm {α:Type}(f:α→α→Int):Prop where
 one:∀ a b,f a b=-1∨f a b=0∨f a b=1
 sym:∀ a b,f b a=-f a b
 tr:∀ a b c,f a b≤0→f b c≤0→f a c≤0∧(f a c<0↔f a b<0∨f b c<0)
theorem Cm.of {α:Type}{f g:α→α→Int}(h:Cm f)(e:∀ a b,g a b=f a b):Cm g:=by
 have:g=f:=funext fun a=>funext fun b=>e a b
 rw[this];exact h
theorem Cm.comap {α β:Type}{f:β→β→Int}(h:Cm f)(g:α→β):Cm fun a b=>f (g a) (g b) :=
 ⟨fun a b=>h.one _ _,fun a b=>h.sym _ _,fun a b c=>h.tr _ _ _⟩
theorem Cm.tr2 {α:Type}{f:α→α→Int}(h:Cm f)(a b c:α)(h1:0≤f a b)(h2:0≤f b c):0≤f a c∧(0<f a c↔0<f a b∨0<f b c):=by
 have e1:=h.sym a b
 have e2:=h.sym b c
 have e3:=h.sym a c
 have:=h.tr c b a (by omega) (by omega)
 omega
theorem Cm.self {α:Type}{f:α→α→Int}(h:Cm f)(a:α):f a a=0:=by
 have:=h.sym a a
 omega
theorem Cm.neg {α:Type}{f:α→α→Int}(h:Cm f):Cm fun a b=>-f a b:=by
 refine⟨fun a b=>?_,fun a b=>?_,fun a b c h1 h2=>?_⟩
 ·have:=h.one a b
  show -f a b=_∨-f a b=_∨-f a b=_
  omega
 ·have:=h.sym a b
  show -f b a=- -f a b
  omega
 ·have:=h.tr2 a b c (by omega) (by omega)
  show -f a c≤0∧(-f a c<0↔-f a b<0∨-f b c<0)
  omega
theorem Cm.lex {α:Type}{f g:α→α→Int}(h:Cm f)(k:Cm g):Cm fun a b=>if (f a b != 0)=true then f a b else g a b:=by
 have e:∀ a b,(if (f a b != 0)=true then f a b else g a b)=if f a b=0 then g a b else f a b:=fun a b=>by
  by_cases h0:f a b=0 <;> simp[h0]
 refine Cm.of (f:=fun a b=>if f a b=0 then g a b else f a b) ⟨fun a b=>?_,fun a b=>?_,fun a b c=>?_⟩ e
 ·show (if f a b=0 then g a b else f a b)=-1∨_∨_
  have h1:=h.one a b
  have h2:=k.one a b
  split <;> assumption
 ·show (if f b a=0 then g b a else f b a)=-(if f a b=0 then g a b else f a b)
  have h1:=h.sym a b
  have h2:=k.sym a b
  split <;> split <;> omega
 ·show (if f a b=0 then g a b else f a b)≤0→(if f b c=0 then g b c else f b c)≤0→(if f a c=0 then g a c else f a c)≤0∧((if f a c=0 then g a c else f a c)<0↔(if f a b=0 then g a b else f a b)<0∨(if f b c=0 then g b c else f b c)<0)
  have h1:=h.tr a b c
  have h2:=k.tr a b c
  intro q1 q2
  by_cases z1:f a b=0 <;> by_cases z2:f b c=0 <;> by_cases z3:f a c=0 <;> simp only[z1,z2,z3,if_true,if_false]at q1 q2 ⊢ <;> omega
theorem sgnS_cm:Cm MQ:=by
 refine⟨ZfO,fun a b=>?_,fun a b c=>?_⟩
 ·unfold MQ
  split <;> split <;> (try split) <;> (try split) <;> omega
 ·unfold MQ
  intro h1 h2
  by_cases c1:a<b <;> by_cases c2:b<a <;> by_cases c3:b<c <;> by_cases c4:c<b <;> by_cases c5:a<c <;> by_cases c6:c<a <;> simp only[c1,c2,c3,c4,c5,c6,if_true,if_false]at h1 h2 ⊢ <;> omega
theorem ordS_cm:Cm WN:=by
 refine⟨Za3,?_,?_⟩
 ·intro a
  induction a with
  |nil=>intro b;cases b <;> simp[WN]
  |cons x a ih =>
   intro b
   cases b with
   |nil=>simp[WN]
   |cons y b =>
    rw[UN,UN]
    have:=ih b
    split <;> split <;> (try split) <;> (try split) <;> omega
 ·intro a
  induction a with
  |nil=>intro b c;cases b <;> cases c <;> simp[WN]
  |cons x a ih =>
   intro b c
   cases b with
   |nil=>cases c <;> simp[WN]
   |cons y b =>
    cases c with
    |nil=>simp[WN]
    |cons z c =>
     rw[UN,UN,UN]
     have:=ih b c
     intro h1 h2
     by_cases c1:x<y <;> by_cases c2:y<x <;> by_cases c3:y<z <;> by_cases c4:z<y <;> by_cases c5:x<z <;> by_cases c6:z<x <;> simp only[c1,c2,c3,c4,c5,c6,if_true,if_false]at h1 h2 ⊢ <;> omega
theorem ZpB:Cm Q1:=(ordS_cm.comap Zsj).of fun a b=>(ZeK a b).symm
theorem Zct (L:Loc):Cm (Kx L):=(ordS_cm.comap (wS (Y4 L))).lex ZpB
theorem Zdt (L:Loc)(n:Nat):Cm (FQ L n):=by
 cases hb:n.testBit 0 with
 |true=>exact (sgnS_cm.comap Zjr).of fun a b=>by simp[FQ,hb]
 |false=>exact ((Zct L).comap (VX L n)).of fun a b=>by simp[FQ,hb]
theorem Zdu (L:Loc)(n:Nat):Cm (VW L n):=by
 cases hb:n.testBit 1 with
 |true=>exact (Zdt L n).neg.of fun a b=>by simp[VW,hb]
 |false=>exact (Zdt L n).of fun a b=>by simp[VW,hb]
theorem ZpC (L:Loc)(p:Spec):∀ l:List Ke,Cm fun a b=>Et L p a b l:=by
 intro l
 induction l with
 |nil=>exact⟨fun _ _=>.inr (.inl rfl),fun _ _=>rfl,fun _ _ _ _ _=>⟨Int.le_refl _,by simp[Et]⟩⟩
 |cons k l ih=>exact (((Zdu L (Pu p k)).comap fun a=>ex a (fields a p.sep) k).lex ih).of fun a b=>Zd2 L p a b k l
theorem Zo6 (L:Loc)(p:Spec):Cm (ZbD L p):=by
 cases hb:(p.keys.length==0) with
 |true=>exact (Zdu L p.flags.toNat).of fun a b=>by simp only[ZbD,hb,if_true]
 |false=>exact (ZpC L p p.keys).of fun a b=>by simp only[ZbD,hb,Bool.false_eq_true,if_false]
theorem Zfk (L:Loc)(p:Spec):Cm (Xz L p):=Zo6 L (Zs p)
theorem ZeH (p:Spec):ZL (Zs p)=0:=by
 unfold Zs
 cases hb:(ZL p != 0) with
 |true=>rfl
 |false=>simpa using hb
theorem Zhd (p:Spec):Zs (Zs p)=Zs p:=by
 show (if (ZL (Zs p) != 0)=true then plainP else Zs p)=Zs p
 rw[ZeH]
 rfl
theorem O9 (L:Loc)(p:Spec)(a b:List UInt8):Xz L (Zs p) a b=Xz L p a b:=by unfold Xz;rw[Zhd]
def ZbA (L:Loc)(p:Spec)(a b:List UInt8):Int:=if (Zs p).flags.toNat.testBit 1 then -Kx L a b else Kx L a b
theorem Zo3 (L:Loc)(p:Spec):Cm (ZbA L p):=by
 cases hb:(Zs p).flags.toNat.testBit 1 with
 |true=>exact (Zct L).neg.of fun a b=>by simp[ZbA,hb]
 |false=>exact (Zct L).of fun a b=>by simp[ZbA,hb]
theorem MO {L:Loc}{p:Spec}(h:((Zs p).stab || (Zs p).uniq)=true)(a b:List UInt8):ZN L p a b=Xz L p a b:=by
 unfold ZN
 rw[O9,Bool.or_assoc,h,Bool.or_true,if_pos rfl]
theorem Zh5 {L:Loc}{p:Spec}(h:((Zs p).stab || (Zs p).uniq)=false)(a b:List UInt8):ZN L p a b=if (Xz L p a b != 0)=true then Xz L p a b else ZbA L p a b:=by
 unfold ZN ZbA
 rw[O9,Bool.or_assoc,h,Bool.or_false]
theorem M9 (L:Loc)(p:Spec):Cm (ZN L p):=by
 cases hb:((Zs p).stab || (Zs p).uniq) with
 |true=>exact (Zfk L p).of (MO hb)
 |false=>exact ((Zfk L p).lex (Zo3 L p)).of (Zh5 hb)
section
variable {α:Type}{f:α→α→Int}
def GY (f:α→α→Int)(l:List α):Prop:=l.Pairwise fun a b=>f a b≤0
def Yt (f:α→α→Int)(x y:α):Bool:=f x y==0
def mergeL (f:α→α→Int):List α→List α→List α
 |[],b=>b
 |a::l,[]=>a::l
 |a::l,b::m=>if 0<f a b then b::mergeL f (a::l) m else a::mergeL f l (b::m)
termination_by a b=>a.length+b.length
theorem JP (b:List α):mergeL f [] b=b:=by rw[mergeL]
theorem QF (a:List α):mergeL f a []=a:=by cases a <;> rw[mergeL]
theorem YZ (a b:α)(l m:List α):mergeL f (a::l) (b::m)=if 0<f a b then b::mergeL f (a::l) m else a::mergeL f l (b::m):=by rw[mergeL]
def VV (f:α→α→Int):Nat→List α→List α
 |0,l=>l
 |n+1,l=>if l.length<2 then l else mergeL f (VV f n (l.take (l.length / 2))) (VV f n (l.drop (l.length / 2)))
def Qe (f:α→α→Int)(S:List α)(y:α):Nat→Nat
 |0=>0
 |k+1=>match S[k]? with
  |some s=>if 0<f s y then Qe f S y k else k+1
  |none=>Qe f S y k
def MK (f:α→α→Int)(S:List α)(y:α):List α:=S.take (Qe f S y S.length)++y::S.drop (Qe f S y S.length)
def F0 (f:α→α→Int)(l:List α):List α:=l.foldl (MK f) []
def Qf (g:α→α→Int)(out:List α)(x:α):Bool:=match out.getLast? with
 |some y=>g y x==0
 |none=>false
def WM (g:α→α→Int):List α→List α→List α
 |out,[]=>out
 |out,x::l=>WM g (if Qf g out x=true then out else out++[x]) l
variable (h:Cm f)
include h
theorem Cm.eqv_iff (x y:α):Yt f x y=true↔f x y=0:=by unfold Yt;rw[beq_iff_eq]
theorem Cm.le_trans {a b c:α}(h1:f a b≤0)(h2:f b c≤0):f a c≤0:=(h.tr a b c h1 h2).1
theorem Cm.lt_le {a b c:α}(h1:f a b<0)(h2:f b c≤0):f a c<0:=(h.tr a b c (by omega) h2).2.2 (.inl h1)
theorem Cm.le_lt {a b c:α}(h1:f a b≤0)(h2:f b c<0):f a c<0:=(h.tr a b c h1 (by omega)).2.2 (.inr h2)
theorem Zab:∀ A B:List α,GY f A→GY f B→(∀ x,A.filter (Yt f x)=B.filter (Yt f x))→A=B:=by
 intro A
 have self:∀ x,Yt f x x=true:=fun x=>by rw[h.eqv_iff];exact h.self x
 induction A with
 |nil =>
  intro B _ _ hf
  cases B with
  |nil=>rfl
  |cons b B =>
   have:=hf b
   rw[List.filter_cons,self b]at this
   simp at this
 |cons a A ih =>
  intro B hA hB hf
  cases B with
  |nil =>
   have:=hf a
   rw[List.filter_cons,self a]at this
   simp at this
  |cons b B =>
   have hA':=List.pairwise_cons.1 hA
   have hB':=List.pairwise_cons.1 hB
   have hbA:b∈a::A:=by
    have h1:b∈(b::B).filter (Yt f b):=List.mem_filter.2 ⟨by simp,self b⟩
    rw[←hf b]at h1
    exact (List.mem_filter.1 h1).1
   have haB:a∈b::B:=by
    have h1:a∈(a::A).filter (Yt f a):=List.mem_filter.2 ⟨by simp,self a⟩
    rw[hf a]at h1
    exact (List.mem_filter.1 h1).1
   have h1:f a b≤0:=by
    rcases List.mem_cons.1 hbA with e|e
    ·rw[e,h.self];exact Int.le_refl _
    ·exact hA'.1 b e
   have h2:f b a≤0:=by
    rcases List.mem_cons.1 haB with e|e
    ·rw[e,h.self];exact Int.le_refl _
    ·exact hB'.1 a e
   have h3:f a b=0:=by have:=h.sym a b;omega
   have hab:a=b:=by
    have:=hf a
    rw[List.filter_cons,self a,List.filter_cons,(h.eqv_iff a b).2 h3]at this
    simp only[if_true,List.cons.injEq]at this
    exact this.1
   subst hab
   congr 1
   refine ih B hA'.2 hB'.2 fun x=>?_
   have:=hf x
   rw[List.filter_cons,List.filter_cons]at this
   split at this
   ·simpa using this
   ·exact this
theorem Zdl:∀ (A B:List α) (x:α),x∈mergeL f A B↔x∈A∨x∈B:=by
 intro A B x
 induction A,B using mergeL.induct f with
 |case1 b=>simp[JP]
 |case2 a l=>simp[QF]
 |case3 a l b m hc ih =>
  rw[YZ,if_pos hc,List.mem_cons,ih]
  simp only[List.mem_cons]
  constructor
  ·rintro (h|h|h) <;> simp[h]
  ·rintro (h|h|h) <;> simp[h]
 |case4 a l b m hc ih =>
  rw[YZ,if_neg hc,List.mem_cons,ih]
  simp only[List.mem_cons]
  constructor
  ·rintro (h|h|h) <;> simp[h]
  ·rintro ((h|h)|h) <;> simp[h]
theorem Zlr:∀ A B:List α,GY f A→GY f B→GY f (mergeL f A B):=by
 intro A B
 induction A,B using mergeL.induct f with
 |case1 b=>intro _ hB;rw[JP];exact hB
 |case2 a l=>intro hA _;rw[QF];exact hA
 |case3 a l b m hc ih =>
  intro hA hB
  rw[YZ,if_pos hc]
  have hA':=List.pairwise_cons.1 hA
  have hB':=List.pairwise_cons.1 hB
  refine List.pairwise_cons.2 ⟨fun y hy=>?_,ih hA hB'.2⟩
  rcases (Zdl h _ _ y).1 hy with hy|hy
  ·have hba:f b a<0:=by have:=h.sym a b;omega
   rcases List.mem_cons.1 hy with e|e
   ·rw[e];omega
   ·have:=h.lt_le hba (hA'.1 y e);omega
  ·exact hB'.1 y hy
 |case4 a l b m hc ih =>
  intro hA hB
  rw[YZ,if_neg hc]
  have hA':=List.pairwise_cons.1 hA
  have hB':=List.pairwise_cons.1 hB
  refine List.pairwise_cons.2 ⟨fun y hy=>?_,ih hA'.2 hB⟩
  rcases (Zdl h _ _ y).1 hy with hy|hy
  ·exact hA'.1 y hy
  ·rcases List.mem_cons.1 hy with e|e
   ·rw[e];omega
   ·exact h.le_trans (by omega) (hB'.1 y e)
theorem Zfo (x:α):∀ A B:List α,GY f A→(mergeL f A B).filter (Yt f x)=A.filter (Yt f x)++B.filter (Yt f x):=by
 intro A B
 induction A,B using mergeL.induct f with
 |case1 b=>intro _;rw[JP];simp
 |case2 a l=>intro _;rw[QF];simp
 |case3 a l b m hc ih =>
  intro hA
  have hA':=List.pairwise_cons.1 hA
  rw[YZ,if_pos hc,List.filter_cons,ih hA]
  cases hb:Yt f x b with
  |false=>simp only[List.filter_cons,hb,Bool.false_eq_true,if_false]
  |true =>
   rw[h.eqv_iff]at hb
   have hba:f b a<0:=by have:=h.sym a b;omega
   have hnil:(a::l).filter (Yt f x)=[]:=by
    rw[List.filter_eq_nil_iff]
    intro y hy hxy
    rw[h.eqv_iff]at hxy
    have h1:f b y<0:=by
     rcases List.mem_cons.1 hy with e|e
     ·rw[e];exact hba
     ·exact h.lt_le hba (hA'.1 y e)
    have h2:=h.le_lt (a:=x) (b:=b) (c:=y) (by omega) h1
    omega
   rw[hnil]
   simp[List.filter_cons,(h.eqv_iff x b).2 hb]
 |case4 a l b m hc ih =>
  intro hA
  have hA':=List.pairwise_cons.1 hA
  rw[YZ,if_neg hc,List.filter_cons,ih hA'.2,List.filter_cons (xs:=l)]
  split <;> simp
theorem Zjg:∀ (n:Nat) (l:List α),l.length≤n→GY f (VV f n l)∧∀ x,(VV f n l).filter (Yt f x)=l.filter (Yt f x):=by
 intro n
 induction n with
 |zero=>intro l hl;have:l=[]:=List.length_eq_zero_iff.1 (by omega);subst this;exact⟨List.Pairwise.nil,fun _=>rfl⟩
 |succ n ih =>
  intro l hl
  unfold VV
  split
  ·rename_i h2
   refine⟨?_,fun _=>rfl⟩
   match l,h2 with
   |[],_=>exact List.Pairwise.nil
   |[a],_=>exact List.pairwise_singleton _ _
  ·rename_i h2
   obtain⟨a1,a2⟩:=ih (l.take (l.length / 2)) (by rw[List.length_take];omega)
   obtain⟨b1,b2⟩:=ih (l.drop (l.length / 2)) (by rw[List.length_drop];omega)
   refine⟨Zlr h _ _ a1 b1,fun x=>?_⟩
   rw[Zfo h x _ _ a1,a2,b2,←List.filter_append,List.take_append_drop]
omit h in
theorem Zqd (S:List α)(y:α):∀ k,Qe f S y k≤k:=by
 intro k
 induction k with
 |zero=>exact Nat.le_refl _
 |succ k ih =>
  unfold Qe
  split
  ·split <;> omega
  ·omega
omit h in
theorem ZbL (S:List α)(y:α):∀ k,∀ j s,Qe f S y k≤j→j<k→S[j]?=some s→0<f s y:=by
 intro k
 induction k with
 |zero=>intro j s _ h2;omega
 |succ k ih =>
  intro j s h1 h2 hs
  unfold Qe at h1
  by_cases hj:j=k
  ·subst hj
   rw[hs]at h1
   simp only at h1
   split at h1
   ·assumption
   ·omega
  ·split at h1
   ·split at h1
    ·exact ih j s h1 (by omega) hs
    ·omega
   ·exact ih j s h1 (by omega) hs
omit h in
theorem Zqc (S:List α)(y:α):∀ k,Qe f S y k=0∨∃ s,S[Qe f S y k-1]?=some s∧f s y≤0:=by
 intro k
 induction k with
 |zero=>exact .inl rfl
 |succ k ih =>
  unfold Qe
  split
  ·rename_i s hs
   split
   ·exact ih
   ·exact .inr ⟨s,by simpa using hs,by omega⟩
  ·exact ih
theorem ZpV {S:List α}(hS:GY f S)(y:α):GY f (MK f S y):=by
 unfold MK
 have hle:=Zqd (f:=f) S y S.length
 have hS':GY f (S.take (Qe f S y S.length)++S.drop (Qe f S y S.length)):=by rw[List.take_append_drop];exact hS
 obtain⟨s1,s2,s3⟩:=List.pairwise_append.1 hS'
 have hdrop:∀ z∈S.drop (Qe f S y S.length),f y z<0:=fun z hz=>by
  obtain⟨j,hj⟩:=List.getElem?_of_mem hz
  rw[List.getElem?_drop]at hj
  have hlt:=(List.getElem?_eq_some_iff.1 hj).1
  have:=ZbL S y S.length _ z (Nat.le_add_right _ _) hlt hj
  have:=h.sym z y
  omega
 have htake:∀ z∈S.take (Qe f S y S.length),f z y≤0:=fun z hz=>by
  rcases Zqc (f:=f) S y S.length with h0|⟨s,h1,h2⟩
  ·rw[h0]at hz;simp at hz
  ·obtain⟨j,hj⟩:=List.getElem?_of_mem hz
   obtain⟨hjl,hje⟩:=List.getElem?_eq_some_iff.1 hj
   rw[List.length_take]at hjl
   rw[List.getElem?_take_of_lt (by omega)]at hj
   by_cases he:j=Qe f S y S.length-1
   ·rw[←he,hj]at h1
    injection h1 with h1
    rw[h1];exact h2
   ·have hzs:f z s≤0:=by
     obtain⟨hl1,e1⟩:=List.getElem?_eq_some_iff.1 hj
     obtain⟨hl2,e2⟩:=List.getElem?_eq_some_iff.1 h1
     rw[←e1,←e2]
     exact List.pairwise_iff_getElem.1 hS _ _ hl1 hl2 (by omega)
    exact h.le_trans hzs h2
 refine List.pairwise_append.2 ⟨s1,List.pairwise_cons.2 ⟨fun z hz=>by have:=hdrop z hz;omega,s2⟩,fun a ha b hb=>?_⟩
 rcases List.mem_cons.1 hb with e|e
 ·rw[e];exact htake a ha
 ·exact s3 a ha b e
theorem Zj0 (S:List α)(y x:α):(MK f S y).filter (Yt f x)=S.filter (Yt f x)++[y].filter (Yt f x):=by
 unfold MK
 have hS':S.filter (Yt f x)=(S.take (Qe f S y S.length)).filter (Yt f x)++(S.drop (Qe f S y S.length)).filter (Yt f x):=by rw[←List.filter_append,List.take_append_drop]
 rw[hS',List.filter_append,List.append_assoc]
 congr 1
 rw[List.filter_cons,List.filter_cons,List.filter_nil]
 cases hxy:Yt f x y with
 |false=>simp
 |true =>
  rw[h.eqv_iff]at hxy
  have:(S.drop (Qe f S y S.length)).filter (Yt f x)=[]:=by
   rw[List.filter_eq_nil_iff]
   intro z hz hxz
   rw[h.eqv_iff]at hxz
   obtain⟨j,hj⟩:=List.getElem?_of_mem hz
   rw[List.getElem?_drop]at hj
   have hlt:=(List.getElem?_eq_some_iff.1 hj).1
   have h1:=ZbL S y S.length _ z (Nat.le_add_right _ _) hlt hj
   have h2:=h.sym z y
   have h3:=h.le_lt (a:=x) (b:=y) (c:=z) (by omega) (by omega)
   omega
  rw[this]
  simp
theorem Zf8:∀ (l S:List α),GY f S→GY f (l.foldl (MK f) S)∧∀ x,(l.foldl (MK f) S).filter (Yt f x)=S.filter (Yt f x)++l.filter (Yt f x):=by
 intro l
 induction l with
 |nil=>intro S hS;exact⟨hS,fun x=>by simp⟩
 |cons y l ih =>
  intro S hS
  obtain⟨a,b⟩:=ih (MK f S y) (ZpV h hS y)
  refine⟨a,fun x=>?_⟩
  rw[List.foldl_cons,b,Zj0 h,List.append_assoc,←List.filter_append]
  rfl
theorem Zls (l:List α){n:Nat}(hn:l.length≤n):VV f n l=F0 f l:=by
 obtain⟨a1,a2⟩:=Zjg h n l hn
 obtain⟨b1,b2⟩:=Zf8 h l [] List.Pairwise.nil
 exact Zab h _ _ a1 b1 fun x=>by rw[a2,show F0 f l=l.foldl (MK f) [] from rfl,b2];rfl
end
structure Fv (K:AV→Prop)(t:Zj→Zj→Bool):Prop where
 close:∀ v,K v→∃ v',Z9 [] 0 6 v=some v'∧K v'
 run:∀ v,K v→∀ a b:Zj,a.length≤1048576→b.length≤1048576→∀ H,Yp cfg (Za cfg) v [.str a,.str b] H=some (.bool (t a b),H)
theorem Zlq {f:Zj→Zj→Int}:∀ A B:List Zj,(mergeL f A B).length=A.length+B.length:=by
 intro A B
 induction A,B using mergeL.induct f with
 |case1 b=>simp[JP]
 |case2 a l=>simp[QF]
 |case3 a l b m hc ih=>rw[YZ,if_pos hc,List.length_cons,ih];simp only[List.length_cons];omega
 |case4 a l b m hc ih=>rw[YZ,if_neg hc,List.length_cons,ih];simp only[List.length_cons];omega
theorem Zjc {f:Zj→Zj→Int}:∀ (A B:List Zj) (x:Zj),x∈mergeL f A B→x∈A∨x∈B:=by
 intro A B x
 induction A,B using mergeL.induct f with
 |case1 b=>simp[JP]
 |case2 a l=>simp[QF]
 |case3 a l b m hc ih =>
  rw[YZ,if_pos hc,List.mem_cons]
  rintro (h|h)
  ·exact .inr (by simp[h])
  ·rcases ih h with h|h
   ·exact .inl h
   ·exact .inr (by simp[h])
 |case4 a l b m hc ih =>
  rw[YZ,if_neg hc,List.mem_cons]
  rintro (h|h)
  ·exact .inl (by simp[h])
  ·rcases ih h with h|h
   ·exact .inl (by simp[h])
   ·exact .inr h
theorem MN {f:Zj→Zj→Int}:∀ (n:Nat) (l:List Zj),(VV f n l).length=l.length∧∀ s∈VV f n l,s∈l:=by
 intro n
 induction n with
 |zero=>intro l;exact⟨rfl,fun s h=>h⟩
 |succ n ih =>
  intro l
  unfold VV
  split
  ·exact⟨rfl,fun s h=>h⟩
  ·obtain⟨a1,a2⟩:=ih (l.take (l.length / 2))
   obtain⟨b1,b2⟩:=ih (l.drop (l.length / 2))
   refine⟨by rw[Zlq,a1,b1,List.length_take,List.length_drop];omega,fun s hs=>?_⟩
   rcases Zjc _ _ s hs with h|h
   ·exact List.mem_of_mem_take (a2 s h)
   ·exact List.mem_of_mem_drop (b2 s h)
section
variable {K:AV→Prop}{f:Zj→Zj→Int}(hK:Fv K fun a b=>decide (0<f a b))
include hK
theorem Zjb {v:AV}(hv:K v)(H0:Hp):∀ (A B acc:List Zj) (x6 x7 x8:AV) (H:Hp),SS x6 A→SS x7 B→RS H x8 acc→Bu A→Bu B→acc.length+A.length+B.length≤4194304 →
 ∃ y H',Yk v x6 x7 x8 H0 H=some (y,H')∧RS H' y (acc++mergeL f A B):=by
 intro A B
 induction A,B using mergeL.induct f with
 |case1 B =>
  intro acc x6 x7 x8 H h6 h7 h8 hA hB hl
  obtain⟨y1,H1,q1,q2⟩:=h8.app h6 (by omega)
  obtain⟨y2,H2,q3,q4⟩:=q2.app h7 (by simp at hl ⊢;omega)
  refine⟨y2,H2,?_,by rw[JP];simpa using q4⟩
  have hl6:=SS.len h6 9
  rw[Yx]
  simp only[go_sem,hl6,List.length_nil,show decide ((0:Int)<((0:Nat):Int))=false from rfl,WT,q1,q3]
 |case2 a l =>
  intro acc x6 x7 x8 H h6 h7 h8 hA hB hl
  obtain⟨y1,H1,q1,q2⟩:=h8.app h6 (by simp at hl ⊢;omega)
  obtain⟨y2,H2,q3,q4⟩:=q2.app h7 (by simp at hl ⊢;omega)
  refine⟨y2,H2,?_,by rw[QF];simpa using q4⟩
  have hl6:=SS.len h6 9
  have hl7:=SS.len h7 9
  have hp:decide ((0:Int)<(((a::l).length:Nat):Int))=true:=by simp
  rw[Yx]
  simp only[go_sem,hl6,hl7,hp,List.length_nil,show decide ((0:Int)<((0:Nat):Int))=false from rfl,WT,q1,q3]
 |case3 a l b m hc ih =>
  intro acc x6 x7 x8 H h6 h7 h8 hA hB hl
  have hl6:=SS.len h6 9
  have hl7:=SS.len h7 9
  have hp:decide ((0:Int)<(((a::l).length:Nat):Int))=true:=by simp
  have hp':decide ((0:Int)<(((b::m).length:Nat):Int))=true:=by simp
  have hi6:=SS.idx h6 (i:=0) (s:=a) rfl
  have hi7:=SS.idx h7 (i:=0) (s:=b) rfl
  obtain⟨x7',r1,r2⟩:=SS.lo h7 (n:=1) (by simp)
  have hrun:=hK.run v hv a b (hA a (by simp)) (hB b (by simp)) H
  obtain⟨y1,H1,q1,q2⟩:=h8.app (Zfr b) (by simp at hl ⊢;omega)
  obtain⟨y,H',q3,q4⟩:=ih (acc++[b]) x6 x7' y1 H1 h6 r2 q2 hA (fun s hs=>hB s (by simp[hs])) (by simp at hl ⊢;omega)
  refine⟨y,H',?_,by rw[YZ,if_pos hc];simpa using q4⟩
  rw[show ((0:Nat):Int)=0 from rfl]at hi6 hi7
  rw[show ((1:Nat):Int)=1 from rfl]at r1
  rw[Yx]
  simp only[go_sem,hl6,hl7,hp,hp',WU,hi6,hi7,ZG,hrun,decide_eq_true hc,B2,q1,r1,q3]
 |case4 a l b m hc ih =>
  intro acc x6 x7 x8 H h6 h7 h8 hA hB hl
  have hl6:=SS.len h6 9
  have hl7:=SS.len h7 9
  have hp:decide ((0:Int)<(((a::l).length:Nat):Int))=true:=by simp
  have hp':decide ((0:Int)<(((b::m).length:Nat):Int))=true:=by simp
  have hi6:=SS.idx h6 (i:=0) (s:=a) rfl
  have hi7:=SS.idx h7 (i:=0) (s:=b) rfl
  obtain⟨x6',r1,r2⟩:=SS.lo h6 (n:=1) (by simp)
  have hrun:=hK.run v hv a b (hA a (by simp)) (hB b (by simp)) H
  obtain⟨y1,H1,q1,q2⟩:=h8.app (Zfr a) (by simp at hl ⊢;omega)
  obtain⟨y,H',q3,q4⟩:=ih (acc++[a]) x6' x7 y1 H1 r2 h7 q2 (fun s hs=>hA s (by simp[hs])) hB (by simp at hl ⊢;omega)
  refine⟨y,H',?_,by rw[YZ,if_neg hc];simpa using q4⟩
  rw[show ((0:Nat):Int)=0 from rfl]at hi6 hi7
  rw[show ((1:Nat):Int)=1 from rfl]at r1
  rw[Yx]
  simp only[go_sem,hl6,hl7,hp,hp',WU,hi6,hi7,ZG,hrun,decide_eq_false hc,B2,q1,r1,q3]
theorem Zjf:∀ (n:Nat) (l:List Zj) (x v:AV),l.length≤n→l.length≤1048576→Bu l→SS x l→K v→∀ H,∃ y,Ze Yq [x,v] H=some (y,H)∧SS y (VV f n l):=by
 intro n
 induction n with
 |zero =>
  intro l x v hn hl hL hx hv H
  have:l=[]:=List.length_eq_zero_iff.1 (by omega)
  subst this
  obtain⟨x',c1,c2⟩:=SS.closed hx [] 0 4
  obtain⟨v',c3,c4⟩:=hK.close v hv
  obtain⟨y,p1,p2⟩:=Er c2 hl []
  have p3:=SS.len c2 9
  obtain⟨y',q1,q2⟩:=SS.closed p2 [] 0 4
  refine⟨y',FF c1 c3 ?_ q1,q2⟩
  rw[Xn]
  unfold YR
  simp only[go_sem,p3,List.length_nil,show decide (((0:Nat):Int)<2)=true from rfl,p1]
 |succ n ih =>
  intro l x v hn hl hL hx hv H
  obtain⟨x',c1,c2⟩:=SS.closed hx [] 0 4
  obtain⟨v',c3,c4⟩:=hK.close v hv
  have p3:=SS.len c2 9
  unfold VV
  by_cases h2:l.length<2
  ·have hd:decide ((l.length:Int)<2)=true:=by simp;omega
   obtain⟨y,p1,p2⟩:=Er c2 hl []
   obtain⟨y',q1,q2⟩:=SS.closed p2 [] 0 4
   rw[if_pos h2]
   refine⟨y',FF c1 c3 ?_ q1,q2⟩
   rw[Xn]
   unfold YR
   simp only[go_sem,p3,hd,p1]
  ·rw[if_neg h2]
   have hd:decide ((l.length:Int)<2)=false:=by simp;omega
   have hq:Z5 .quo (.int .i64 (l.length:Int)) (.int .i64 2)=some (.int .i64 ((l.length / 2:Nat):Int)):=by
    simp[Z5,Xs,Xt]
    exact Zr (by omega) (by omega)
   obtain⟨xa,a1,a2⟩:=SS.hi c2 (n:=l.length / 2) (by omega)
   obtain⟨xb,b1,b2⟩:=SS.lo c2 (n:=l.length / 2) (by omega)
   obtain⟨ya,a3,a4⟩:=ih (l.take (l.length / 2)) xa v' (by rw[List.length_take];omega) (by rw[List.length_take];omega) (fun s hs=>hL s (List.mem_of_mem_take hs)) a2 c4 []
   obtain⟨yb,b3,b4⟩:=ih (l.drop (l.length / 2)) xb v' (by rw[List.length_drop];omega) (by rw[List.length_drop];omega) (fun s hs=>hL s (List.mem_of_mem_drop hs)) b2 c4 []
   obtain⟨fa1,fa2⟩:=MN (f:=f) n (l.take (l.length / 2))
   obtain⟨fb1,fb2⟩:=MN (f:=f) n (l.drop (l.length / 2))
   have hmake:JD 1 16 false (.str []) (.int .i64 0) (.int .i64 (l.length:Int)) []=some (.vs 1 (.own 0 0) [],[.tok 0]):=by
    have hf:fits (l.length:Int).toNat 16=true:=by simp[fits];omega
    unfold JD
    dsimp only
    rw[if_pos ⟨Int.le_refl _,by omega,rfl,rfl,by decide,hf⟩]
    simp
   have hrow:RS [AObj.tok 0] (.vs 1 (.own 0 0) []) []:=.inr ⟨0,0,rfl,rfl,Nat.le_refl _⟩
   obtain⟨y,H',q1,q2⟩:=Zjb hK c4 [] (VV f n (l.take (l.length / 2))) (VV f n (l.drop (l.length / 2))) [] ya yb _ _ a4 b4 hrow
    (fun s hs=>hL s (List.mem_of_mem_take (fa2 s hs))) (fun s hs=>hL s (List.mem_of_mem_drop (fb2 s hs))) (by rw[fa1,fb1,List.length_take,List.length_drop,List.length_nil];omega)
   rw[List.nil_append]at q2
   obtain⟨y',q3,q4⟩:=q2.done H'
   refine⟨y',FF c1 c3 ?_ q3,q4⟩
   rw[Xn]
   unfold YR
   simp only[go_sem,p3,hd,G7,hq,a1,a3,b1,b3,hmake,q1]
end
theorem Zdp {g:Zj→Zj→Int}:∀ (l out:List Zj),(WM g out l).length≤out.length+l.length:=by
 intro l
 induction l with
 |nil=>intro out;simp[WM]
 |cons x l ih =>
  intro out
  unfold WM
  refine Nat.le_trans (ih _) ?_
  split <;> simp <;> omega
theorem ZlH {g:Zj→Zj→Int}:∀ (l out:List Zj),∀ s∈WM g out l,s∈out∨s∈l:=by
 intro l
 induction l with
 |nil=>intro out s hs;exact .inl hs
 |cons x l ih =>
  intro out s hs
  unfold WM at hs
  rcases ih _ s hs with h|h
  ·split at h
   ·exact .inl h
   ·rcases List.mem_append.1 h with h|h
    ·exact .inl h
    ·exact .inr (by rw[List.mem_singleton.1 h];simp)
  ·exact .inr (by simp[h])
theorem ZlJ {K:AV→Prop}{g:Zj→Zj→Int}(hK:Fv K fun a b=>g a b==0){v:AV}(hv:K v){x:AV}{l:List Zj}(hx:SS x l)(hL:Bu l)(hl:l.length≤1048576)(H0:Hp):∀ (r done out:List Zj) (x5:AV) (H:Hp),l=done++r→RS H x5 out→Bu out→out.length≤done.length →
 ∃ y H',XC v x5 x (.int .i64 (l.length:Int)) (.int .i64 (done.length:Int)) H0 H=some (y,H')∧RS H' y (WM g out r):=by
 intro r
 induction r with
 |nil =>
  intro done out x5 H hd h5 ho hod
  rw[List.append_nil]at hd
  subst hd
  have hlt:decide ((l.length:Int)<(l.length:Int))=false:=by simp
  refine⟨x5,H,?_,h5⟩
  rw[UE]
  simp only[go_sem,hlt,F6]
 |cons a r ih =>
  intro done out x5 H hd h5 ho hod
  have hlen:l.length=done.length+(r.length+1):=by rw[hd];simp
  have hlt:decide ((done.length:Int)<(l.length:Int))=true:=by simp;omega
  have hw1:IntKind.i64.wrap ((done.length:Int)+1)=((done.length+1:Nat):Int):=by rw[Zr (by omega) (by omega)];omega
  have hia:l[done.length]?=some a:=by rw[hd,List.getElem?_append_right (Nat.le_refl _)];simp
  have hi:=SS.idx hx hia
  have haL:a.length≤1048576:=hL a (List.mem_of_getElem? hia)
  have h5l:=SS.len h5.sl 9
  obtain⟨y1,H1,q1,q2⟩:=h5.app (Zfr a) (by simp;omega)
  have keepit:∀ out' x5' H',RS H' x5' out'→Bu out'→out'.length≤done.length+1→∃ y H'',XA v x5' x (.int .i64 (l.length:Int)) (.int .i64 (done.length:Int)) H0 H'=some (y,H'')∧RS H'' y (WM g out' r):=fun out' x5' H' h1 h2 h3=>by
   obtain⟨y,H'',p1,p2⟩:=ih (done++[a]) out' x5' H' (by rw[hd];simp) h1 h2 (by simpa using h3)
   rw[List.length_append,List.length_singleton]at p1
   exact⟨y,H'',by simp only[F8,go_sem,hw1,p1],p2⟩
  have hlens':Bu (out++[a]):=fun s hs=>by
   rcases List.mem_append.1 hs with h|h
   ·exact ho s h
   ·rw[List.mem_singleton.1 h];exact haL
  have hJ2:∃ y H',WK v x5 x (.int .i64 (l.length:Int)) (.int .i64 (done.length:Int)) (.bool true) H0 H=some (y,H')∧RS H' y (WM g out (a::r)):=by
   rw[F7]
   unfold WM
   cases hol:out.getLast? with
   |none =>
    have:out=[]:=List.getLast?_eq_none_iff.1 hol
    subst this
    rw[show Qf g [] a=false from rfl]
    obtain⟨y,H'',p1,p2⟩:=keepit _ _ _ q2 hlens' (by simp)
    refine⟨y,H'',?_,by simpa using p2⟩
    simp only[go_sem,hi,ZG,h5l,List.length_nil,show (((0:Nat):Int)==0)=true from rfl,B2,q1,p1]
   |some z =>
    have hne:out≠[]:=fun e=>by subst e;simp at hol
    have hpos:0<out.length:=List.length_pos_iff.2 hne
    have hzi:out[out.length-1]?=some z:=by rw[←List.getLast?_eq_getElem?];exact hol
    have h0:((out.length:Int)==0)=false:=by rw[beq_eq_false_iff_ne];omega
    have hwm:IntKind.i64.wrap ((out.length:Int)-1)=((out.length-1:Nat):Int):=by rw[Zr (by omega) (by omega)];omega
    have hiz:=SS.idx h5.sl hzi
    have hrun:=hK.run v hv z a (ho z (List.mem_of_getElem? hzi)) haL H
    have hsl:Qf g out a=(g z a==0):=by unfold Qf;rw[hol]
    simp only[go_sem,hi,ZG,h5l,h0,hwm,hiz,hrun,hsl]
    cases hg:(g z a==0) with
    |true =>
     obtain⟨y,H'',p1,p2⟩:=keepit _ _ _ h5 ho (by omega)
     exact⟨y,H'',by simp only[Bool.not_true,go_sem,p1],by simpa using p2⟩
    |false =>
     obtain⟨y,H'',p1,p2⟩:=keepit _ _ _ q2 hlens' (by simp;omega)
     exact⟨y,H'',by simp only[Bool.not_false,go_sem,B2,q1,p1],by simpa using p2⟩
  obtain⟨y,H',p1,p2⟩:=hJ2
  refine⟨y,H',?_,p2⟩
  rw[UE]
  simp only[go_sem,hlt,p1]
theorem ZlI {K:AV→Prop}{g:Zj→Zj→Int}(hK:Fv K fun a b=>g a b==0){v:AV}(hv:K v){x:AV}{l:List Zj}(hx:SS x l)(hL:Bu l)(hl:l.length≤1048576)(H:Hp):∃ y,Ze V2 [x,v] H=some (y,H)∧SS y (WM g [] l):=by
 obtain⟨x',c1,c2⟩:=SS.closed hx [] 0 4
 obtain⟨v',c3,c4⟩:=hK.close v hv
 obtain⟨y,H',p1,p2⟩:=ZlJ hK c4 c2 hL hl [] l [] [] .nils [] rfl (RowN.nil _ _ _) (fun s hs=>by cases hs) (Nat.le_refl _)
 rw[List.length_nil,show ((0:Nat):Int)=0 from rfl]at p1
 obtain⟨y',q1,q2⟩:=p2.done H'
 refine⟨y',FF c1 c3 ?_ q1,q2⟩
 have p3:=SS.len c2 9
 rw[Fr]
 unfold Jb
 simp only[go_sem,p3,p1]
def SpecCells (l:List AV)(p:Spec):Prop:=∃ x,l=p.cells x∧Sl 5 x (p.keys.map Ke.av)
theorem SpecCells.close {l:List AV}{p:Spec}(h:SpecCells l p)(H:Hp)(n f:Nat):∃ l',l.mapM (Z9 H n (f+3))=some l'∧SpecCells l' p:=by
 obtain⟨x,rfl,hx⟩:=h
 obtain⟨x',h1,h2⟩:=hx.close (H:=H) (n:=n) (f:=f+2) (fun c hc=>by
  obtain⟨k,_,rfl⟩:=List.mem_map.1 hc
  exact k.close H n f)
 refine⟨p.cells x',?_,x',rfl,h2⟩
 simp only[Spec.cells,List.mapM_cons,h1,List.mapM_nil]
 rfl
def ClK (g:Nat)(L:Loc)(p:Spec)(v:AV):Prop:=∃ lc sc,v=.fn (.func g) [] [.vp lc,.vp sc]∧LocCells lc L∧SpecCells sc p
theorem Ziq (H:Hp)(n f:Nat)(g:Fn)(a b:AV):Z9 H n (f+1) (.fn g [] [a,b])=match Z9 H n f a,Z9 H n f b with
 |some a',some b'=>some (.fn g [] [a',b'])
 |_,_=>none:=by
 show (match ([]:List AV).mapM (Z9 H n f),[a,b].mapM (Z9 H n f) with
  |some a,some b=>some (AV.fn g a b)
  |_,_=>none)=_
 simp only[List.mapM_nil,List.mapM_cons]
 cases Z9 H n f a <;> cases Z9 H n f b <;> rfl
theorem ClK.close {g:Nat}{L:Loc}{p:Spec}{v:AV}(h:ClK g L p v):∃ v',Z9 [] 0 6 v=some v'∧ClK g L p v':=by
 obtain⟨lc,sc,rfl,hl,hs⟩:=h
 obtain⟨lc',l1,l2⟩:=hl.close [] 0 1
 obtain⟨sc',s1,s2⟩:=hs.close [] 0 1
 refine⟨.fn (.func g) [] [.vp lc',.vp sc'],?_,lc',sc',rfl,l2,s2⟩
 rw[Ziq,VN,VN,l1,s1]
theorem Zme (L:Loc)(hok:LocOk L)(p:Spec)(hks:∀ k∈p.keys,KeOk k):Fv (ClK 84 L p) fun a b=>decide (0<ZN L p a b) where
 close:=fun v hv=>ClK.close hv
 run:=fun v hv a b ha hb H=>by
  obtain⟨lc,sc,rfl,hl,hs⟩:=hv
  rw[OA]
  obtain⟨lc',l1,l2⟩:=hl.close [] 0 2
  obtain⟨sc',s1,s2⟩:=hs.close [] 0 2
  obtain⟨x,c,e,rfl,hx,hc,he⟩:=l2
  obtain⟨xs,rfl,hxs⟩:=s2
  have hcl:Z9 [] 0 6 (.vp lc)=some (.vp (L.cells x c e)):=by rw[VN,l1]
  have hcs:Z9 [] 0 6 (.vp sc)=some (.vp (p.cells xs)):=by rw[VN,s1]
  have ho:=Zfs (a:=.agg (L.cells x c e)) (L:=L) ⟨x,c,e,rfl,hx,hc,he⟩ hok (q:=.agg (p.cells xs)) (p:=p) ⟨xs,rfl,hxs⟩ hks a b ha hb []
  refine Zbk (a':=.str a) (b':=.str b) rfl rfl hcl hcs (H1:=[]) ?_ rfl
  rw[Ca]
  unfold TT
  simp only[go_sem,Xr 6 (L.cells x c e) rfl,Xr 5 (p.cells xs) rfl,ho]
theorem Zmf (L:Loc)(hok:LocOk L)(p:Spec)(hks:∀ k∈p.keys,KeOk k):Fv (ClK 85 L p) fun a b=>Xz L p a b==0 where
 close:=fun v hv=>ClK.close hv
 run:=fun v hv a b ha hb H=>by
  obtain⟨lc,sc,rfl,hl,hs⟩:=hv
  rw[OB]
  obtain⟨lc',l1,l2⟩:=hl.close [] 0 2
  obtain⟨sc',s1,s2⟩:=hs.close [] 0 2
  obtain⟨x,c,e,rfl,hx,hc,he⟩:=l2
  obtain⟨xs,rfl,hxs⟩:=s2
  have hcl:Z9 [] 0 6 (.vp lc)=some (.vp (L.cells x c e)):=by rw[VN,l1]
  have hcs:Z9 [] 0 6 (.vp sc)=some (.vp (p.cells xs)):=by rw[VN,s1]
  have ho:=Az (a:=.agg (L.cells x c e)) (L:=L) ⟨x,c,e,rfl,hx,hc,he⟩ hok (q:=.agg (p.cells xs)) (p:=p) ⟨xs,rfl,hxs⟩ hks a b ha hb []
  refine Zbk (a':=.str a) (b':=.str b) rfl rfl hcl hcs (H1:=[]) ?_ rfl
  rw[Cb]
  unfold TU
  simp only[go_sem,Xr 6 (L.cells x c e) rfl,Xr 5 (p.cells xs) rfl,ho]
def YN (L:Loc)(p:Spec)(l:List Zj):List Zj :=
 if (ZL p != 0)=true then l else if p.uniq then WM (Xz L p) [] (F0 (ZN L p) l) else F0 (ZN L p) l
theorem Zdg (L:Loc)(p:Spec)(l:List Zj):VV (ZN L p) l.length l=F0 (ZN L p) l:=Zls (M9 L p) l (Nat.le_refl _)
theorem NU (L:Loc)(p:Spec)(l:List Zj):(F0 (ZN L p) l).length=l.length∧∀ s∈F0 (ZN L p) l,s∈l:=by
 rw[←Zdg]
 exact MN _ _
theorem Zr3 {f:List AV→Hp→Z3}{a a' b b' c c' v v':AV}{H H1:Hp}(ha:Z9 [] 0 6 a=some a')(hb:Z9 [] 0 6 b=some b')(hd:Z9 [] 0 6 c=some c')(hc:f [a',b',c'] []=some (v,H1))(hv:Z9 H1 0 6 v=some v'):Ze f [a,b,c] H=some (v',H) :=
 DW (args':=[a',b',c']) (by simp[ha,hb,hd]) hc hv
theorem Zmi {a:AV}{L:Loc}(h:LocAV a L)(hok:LocOk L){q:AV}{p:Spec}(hq:SpecAV q p)(hks:∀ k∈p.keys,KeOk k){x:AV}{l:List Zj}(hx:SS x l)(hL:Bu l)(hl:l.length≤1048576)(H:Hp) :
 ∃ y,Ze Jv [a,q,x] H=some (y,H)∧SS y (YN L p l):=by
 obtain⟨a1,h1,h2⟩:=h.close [] 0 2
 obtain⟨q1,g1,g2⟩:=hq.close [] 0 2
 obtain⟨x1,k1,k2⟩:=SS.closed hx [] 0 4
 have hck:=fun H=>Ep g2 H
 obtain⟨lx,c,e,rfl,hlx,hc,he⟩:=h2
 obtain⟨xp,rfl,hxp⟩:=g2
 suffices hs:∃ y H1,Jv [.agg (L.cells lx c e),.agg (p.cells xp),x1] []=some (y,H1)∧SS y (YN L p l) by
  obtain⟨y,H1,r1,r2⟩:=hs
  obtain⟨y',r3,r4⟩:=SS.closed r2 H1 0 4
  exact⟨y',Zr3 h1 g1 k1 r1 r3,r4⟩
 have hl5:Z4 true 5 (.ptr 1 0) [AObj.cells (L.cells lx c e),.cells (p.cells xp)]=some (.agg (p.cells xp)):=by simp[Z4,Go.Am.apart,Spec.cells]
 rw[Im]
 unfold Lh YN
 cases hb:(ZL p != 0) with
 |true =>
  obtain⟨y,p1,p2⟩:=Er k2 hl [AObj.cells (L.cells lx c e),.cells (p.cells xp)]
  refine⟨y,[AObj.cells (L.cells lx c e),.cells (p.cells xp)],?_,by rw[if_pos rfl];exact p2⟩
  simp only[go_sem,X8,List.nil_append,List.length_nil,List.length_cons,List.cons_append,Nat.zero_add,hl5,hck,hb,p1]
 |false =>
  have hfz:∀ (k:AV→Hp→Z3),X3 (.ptr 0 0) [AObj.cells (L.cells lx c e),.cells (p.cells xp)] k=k (.vp (L.cells lx c e)) [.dead,.cells (p.cells xp)]:=fun k=>rfl
  have hfz2:∀ (k:AV→Hp→Z3),X3 (.ptr 1 0) [AObj.dead,.cells (p.cells xp)] k=k (.vp (p.cells xp)) [.dead,.dead]:=fun k=>rfl
  have hK1:ClK 84 L p (.fn (.func 84) [] [.vp (L.cells lx c e),.vp (p.cells xp)]):=⟨_,_,rfl,⟨lx,c,e,rfl,hlx,hc,he⟩,⟨xp,rfl,hxp⟩⟩
  have hK2:ClK 85 L p (.fn (.func 85) [] [.vp (L.cells lx c e),.vp (p.cells xp)]):=⟨_,_,rfl,⟨lx,c,e,rfl,hlx,hc,he⟩,⟨xp,rfl,hxp⟩⟩
  obtain⟨y,p1,p2⟩:=Zjf (Zme L hok p hks) l.length l x1 _ (Nat.le_refl _) hl hL k2 hK1 [AObj.dead,.dead]
  rw[Zdg]at p2
  obtain⟨f1,f2⟩:=NU L p l
  have hu1:Z8 3 (.vp (p.cells xp))=some (.vp [.bool p.uniq,.bool p.stab]):=rfl
  simp only[go_sem,X8,List.nil_append,List.length_nil,List.length_cons,List.cons_append,Nat.zero_add,hl5,hck,hb,AH,hfz,hfz2,p1,hu1,ZG,Bool.false_eq_true,if_false]
  cases hu:p.uniq with
  |true =>
   obtain⟨z,o1,o2⟩:=ZlI (Zmf L hok p hks) hK2 p2 (fun s hs=>hL s (f2 s hs)) (by omega) [AObj.dead,.dead]
   exact⟨z,[.dead,.dead],by simp only[go_sem,o1,FP],by simpa using o2⟩
  |false=>exact⟨y,[.dead,.dead],by simp only[go_sem,FP],by simpa using p2⟩
theorem Zp2:LocOk defL:=⟨by decide,by simp[defL],by simp[defL],by simp[defL],fun c hc=>(by cases hc),fun c hc=>(by cases hc),by simp[defL],by simp[defL]⟩
theorem Zp9 (p:Spec)(h:p.keys=[]):SpecAV (.agg (p.cells .nils)) p:=⟨.nils,rfl,.inl ⟨rfl,by rw[h];rfl⟩⟩
theorem ZlD {p:Spec}(h:p.keys=[]):∀ k∈p.keys,KeOk k:=fun k hk=>by rw[h]at hk;cases hk
theorem Zlm (l:List Zj)(t:Tok):SS (.vs 1 t (l.map AV.str)) l:=.inr ⟨t,rfl⟩
theorem AP (L:Loc)(p:Spec)(l:List Zj):(YN L p l).length≤l.length:=by
 obtain⟨f1,f2⟩:=NU L p l
 have:=Zdp (g:=Xz L p) (F0 (ZN L p) l) []
 unfold YN
 split
 ·exact Nat.le_refl _
 ·split
  ·simp at this;omega
  ·omega
def Df (s:List UInt8):Bool :=
 match s with
 |[]=>false
 |b::_=>decide (s.length≤16)&&!Fj b.toNat&&s.all fun c=>XK c.toNat
theorem Of (x0 x7 x8 x9:AV)(H0 H:Hp):KI x0 x7 x8 x9 H0 H =
 Z0 (Zu x0 x8) fun t13_9 =>
 Z0 (Tt t13_9 x8) fun t45_36 =>
 Zl t45_36 (some ((.bool false),H)) (KJ x0 x7 x8 H0 H):=by
 rw[So];simp only[Tt,FB,U8]
theorem Zg6 (s:List UInt8)(hs:s.length≤4611686018427387904)(H0 H:Hp):KH (.str s) H0 H=some (.bool (!s.isEmpty&&decide (s.length≤16)),H):=by
 rw[Sn]
 cases s with
 |nil=>simp[go_sem,Yh,Ge]
 |cons b l =>
  simp only[Yh,Ge,go_sem,Zk]
  have:(!((b::l)==([]:List UInt8)))=true:=rfl
  have c:decide (((b::l).length:Int)≤16)=decide ((b::l).length≤16):=by rw[Bool.eq_iff_iff];simp;omega
  simp only[this,go_sem,c,List.isEmpty_cons,Bool.not_false,Bool.true_and]
theorem ZjP (s:List UInt8)(hs:s.length≤4611686018427387904)(H0 H:Hp):∀ (k i:Nat),s.length-i=k→0<i→i≤s.length →
 Uu (.str s) (.int .i64 s.length) (.int .i64 i) H0 H=some (.bool (((s.drop i).all fun c=>XK c.toNat)&&(!s.isEmpty&&decide (s.length≤16))),H):=by
 intro k
 induction k with
 |zero =>
  intro i hk h0 hi
  rw[WR]
  have hlt:decide ((i:Int)<(s.length:Int))=false:=by simp;omega
  have hd:s.drop i=[]:=List.drop_eq_nil_iff.2 (by omega)
  simp only[go_sem,hlt,Zg6 s hs,hd,List.all_nil,Bool.true_and]
 |succ k ih =>
  intro i hk h0 hi
  rw[WR]
  have hl:i<s.length:=by omega
  have hlt:decide ((i:Int)<(s.length:Int))=true:=by simp;omega
  have hw:IntKind.i64.wrap ((i:Int)+1)=((i+1:Nat):Int):=by rw[Zr (by omega) (by omega)];omega
  have h0':((i:Int)==0)=false:=by simp;omega
  simp only[go_sem,hlt,Of,ZU (List.getElem?_eq_getElem hl),ZbF _ h0']
  rw[List.drop_eq_getElem_cons hl,List.all_cons]
  cases hb:XK s[i].toNat with
  |false=>simp only[go_sem,Bool.not_false,Bool.false_and]
  |true =>
   simp only[go_sem,Bool.not_true,Bool.true_and,Dc,hw]
   exact ih (i+1) (by omega) (by omega) (by omega)
theorem ZjQ (s:List UInt8)(hs:s.length≤4611686018427387904)(H:Hp):V3 [.str s] H=some (.bool (Df s),H):=by
 rw[Cd]
 unfold P1
 simp only[go_sem,Zk]
 cases s with
 |nil=>rw[WR];simp[go_sem,Zg6 [] (by simp),Df]
 |cons b l =>
  rw[WR]
  have hlt:decide ((0:Int)<((b::l).length:Int))=true:=by simp
  have hw:IntKind.i64.wrap ((0:Int)+1)=((0+1:Nat):Int):=by decide
  have hidx:Zu (.str (b::l)) (.int .i64 0)=some (.int .u8 b.toNat):=by simp[Zu]
  simp only[go_sem,hlt,Of,hidx,Oa]
  cases hb:(!XK b.toNat || Fj b.toNat) with
  |true =>
   have:Df (b::l)=false:=by
    unfold Df
    simp only[Bool.or_eq_true,Bool.not_eq_true']at hb
    rcases hb with hb|hb <;> simp[hb]
   simp only[go_sem,this]
  |false =>
   simp only[Bool.or_eq_false_iff,Bool.not_eq_false']at hb
   simp only[go_sem,Dc,hw]
   rw[ZjP (b::l) hs H H l.length 1 (by simp) (by omega) (by simp)]
   have:Df (b::l)=(((b::l).drop 1).all (fun c=>XK c.toNat)&&(!(b::l).isEmpty&&decide ((b::l).length≤16))):=by
    unfold Df
    simp only[hb.1,hb.2,List.all_cons,List.drop_one,List.tail_cons,List.isEmpty_cons,Bool.not_false,Bool.true_and,Bool.and_true]
    rw[Bool.and_comm]
   rw[this]
theorem Zds (s:Zm)(hs:s.length≤1048576)(H:Hp):Ze V3 [.str s] H=some (.bool (Df s),H) :=
 Xx (a':=.str s) rfl (H1:=[]) (ZjQ s (by omega) []) rfl
theorem ZhN {H:Hp}{t:Nat}{s:Sto}{S:List Nat}(h:StoreAt H t s S)(hk:StoOk s)(he:s.files=[])(ow:Zm)(ho:ow.length≤1048576):D7 Bk [.ptr t 0,.str ow] H=some (.nils,H):=by
 have hv:=Zds ow ho H
 have hnil:Yj (.pointer 120) .eql (.ptr t 0) .nilp=some (.bool false):=rfl
 refine ZbU (H1:=H) (v:=.nils) ?_ (Keep.refl _ _) (Nat.le_refl _) rfl
 rw[Ho]
 unfold NB
 cases hvs:Df ow with
 |false =>
  rw[hvs]at hv
  simp only[go_sem,hnil,hv,Bool.not_false]
 |true =>
  rw[hvs]at hv
  obtain⟨x,q1,q2⟩:=Zhe h hk
  have hx:Zk (.slice 142) x=some (.int .i64 0):=by
   have:=Sl.len q2 142
   rw[he]at this
   exact this
  have hlt:decide ((0:Int)<0)=false:=rfl
  simp only[go_sem,hnil,hv,Bool.not_true,CO,ZbO ow ho,q1,hx,CQ,hlt,CP]
theorem Zg7 {H:Hp}{t:Nat}{s:Sto}{S:List Nat}(h:StoreAt H t s S)(hk:StoOk s)(he:s.files=[])(ow:Zm)(ho:ow.length≤1048576)(hv:Df ow=true)(lim:Int) :
 ∃ H' A',QO [.ptr t 0,.str ow,.int .i64 lim] H=some (.tuple [.ptr (H.length+1) 0,.int .i64 0],H')∧SysAt H' (H.length+1) t ⟨ow,[],[],(max 0 lim).toNat,0,false⟩ s A'∧Stp S H H'∧(∀ a∈A',a∈S∨H.length≤a):=by
 have hnil:Yj (.pointer 120) .eql (.ptr t 0) .nilp=some (.bool false):=rfl
 have hvf:=Zds ow ho H
 rw[hv]at hvf
 have hlt:decide ((0:Int)<0)=false:=rfl
 have hf1:(YS [(0,1,.ptr t 0),(1,1,.str ow),(3,1,.map H.length)] [.nilp,(.str []),.nils,.nilm]).map AV.agg=some (.agg [.ptr t 0,.str ow,.nils,.map H.length]):=rfl
 have hf2:(YS [(0,4,.agg [.ptr t 0,.str ow,.nils,.map H.length]),(4,1,.int .i64 (max 0 lim))] [.nilp,(.str []),.nils,.nilm,(.int .i64 0),(.int .i64 0),(.bool false)]).map AV.agg=some (.agg [.ptr t 0,.str ow,.nils,.map H.length,.int .i64 (max 0 lim),.int .i64 0,.bool false]):=rfl
 have hb:∀ l:List AV,ZW (.agg l) (H++[.map [] 0])=some (.ptr (H.length+1) 0,H++[.map [] 0]++[.cells l]):=fun l=>by rw[JC rfl];simp[AV.cells]
 have hS:Stp S H (H++[AObj.map [] 0]++[.cells [.ptr t 0,.str ow,.nils,.map H.length,.int .i64 (max 0 lim),.int .i64 0,.bool false]]):=by rw[List.append_assoc];exact Stp.push _ _
 have hl:((max 0 lim).toNat:Int)=max 0 lim:=by omega
 refine⟨H++[.map [] 0]++[.cells [.ptr t 0,.str ow,.nils,.map H.length,.int .i64 (max 0 lim),.int .i64 0,.bool false]],[H.length+1,H.length]++S,?_,⟨[H.length+1,H.length],S,⟨H.length,0,.nils,[],⟨?_,.inl ⟨rfl,rfl⟩,?_,rfl,by simp[ZJ]⟩,rfl⟩,h.frame fun a ha=>?_,fun a ha hs=>?_,rfl⟩,hS,fun a ha=>?_⟩
 ·rw[Hq]
  unfold NC
  simp only[go_sem,hnil,CR,hvf,Bool.not_true,CS,ZhN h hk he ow ho,CU,hlt,CT,hf1,hf2,hb]
 ·simp[hl]
 ·simp
 ·rw[List.append_assoc,List.getElem?_append_left (h.lt a ha)]
 ·have:=h.lt a hs
  simp at ha
  omega
 ·simp at ha
  rcases ha with e|e|ha
  ·exact .inr (by omega)
  ·exact .inr (by omega)
  ·exact .inl ha
theorem ZjY (o:Nat)(n:Zm)(H:Hp):Mk [.ptr o 0,.str n] H=some (.ptr H.length 0,H++[.cells (Va o n 0 false false [])]):=by
 have hnil:Yj (.pointer 117) .eql (.ptr o 0) .nilp=some (.bool false):=rfl
 have hf:(YS [(0,1,.ptr o 0),(1,1,.str n)] [.nilp,(.str []),(.int .i64 0),(.bool false),(.bool false),(.str [])]).map AV.agg=some (.agg (Va o n 0 false false [])):=rfl
 rw[Zck]
 unfold IU
 simp only[go_sem,hnil,ZbV,hf,X8]
theorem NZ {H:Hp}{i:Nat}{L:Loc}{x c e:AV}(h:H[i]?=some (.cells (L.cells x c e))):Z4 true 6 (.ptr i 0) H=some (.agg (L.cells x c e)):=by
 rw[U7 h];simp[Go.Am.apart,Loc.cells]
theorem Tl {H:Hp}{i:Nat}{p:Spec}{x:AV}(h:H[i]?=some (.cells (p.cells x))):Z4 true 5 (.ptr i 0) H=some (.agg (p.cells x)):=by
 rw[U7 h];simp[Go.Am.apart,Spec.cells]
theorem SysRes.trans {H H1 H2:Hp}{o t:Nat}{tm1 tm2:Tmp}{s1 s2:Sto}{A A1 A2:List Nat}(h:SysRes H H1 o t tm1 s1 A A1)(k:SysRes H1 H2 o t tm2 s2 A1 A2):SysRes H H2 o t tm2 s2 A A2 :=
 ⟨k.at',h.stp.trans k.stp (fun _ h=>h) fun a ha=>h.own a ha,fun a ha=>by
  rcases k.own a ha with k1|k1
  ·exact h.own a k1
  ·exact .inr (Nat.le_trans h.stp.len k1)⟩
theorem SysRes.pre {H H1 H2:Hp}{o t:Nat}{tm2:Tmp}{s2:Sto}{A A2:List Nat}(h:Stp A H H1)(k:SysRes H1 H2 o t tm2 s2 A A2):SysRes H H2 o t tm2 s2 A A2 :=
 ⟨k.at',h.trans k.stp (fun _ h=>h) fun a ha=>.inl ha,fun a ha=>by
  rcases k.own a ha with k1|k1
  ·exact .inl k1
  ·exact .inr (Nat.le_trans h.len k1)⟩
theorem ZjZ {H:Hp}{o t:Nat}{tm tm1 tm3:Tmp}{s s1 s2 s3:Sto}{A:List Nat}{n:Zm}(h:SysAt H o t tm s A)(hm:TmpOk tm)(hk:StoOk s)(hl1:tm.last<1000000){a q x:AV}{L:Loc}{p:Spec}{l:List Zj}(ha:LocAV a L)(hok:LocOk L)(hq:SpecAV q p)(hks:∀ k∈p.keys,KeOk k)(hx:SS x l)(hL:Bu l)(hl:l.length≤1048576)
 (hcost:Y9 (YN L p l)≤1048576) (hLs:Bu (YN L p l))
 (hN:De tm s=((n,0),(tm1,s1))) (hm1:TmpOk tm1) (hk1:StoOk s1) (hW:Bf tm1 s1 n (YN L p l)=(0,s2)) (hk2:StoOk s2) (hS:R1 tm1 s2 n=(0,(tm3,s3))) :
 ∃ H' A',TP [.ptr o 0,a,q,x] H=some (.tuple [.str n,.int .i64 0],H')∧SysRes H H' o t tm3 s3 A A':=by
 have hav:=ha
 have hqv:=hq
 obtain⟨lx,lc,le,rfl,hlx,hlc,hle⟩:=ha
 obtain⟨xp,rfl,hxp⟩:=hq
 have hnil:Yj (.pointer 117) .eql (.ptr o 0) .nilp=some (.bool false):=rfl
 have hAlt:=h.lt
 have g1:(H++[AObj.cells (L.cells lx lc le),.cells (p.cells xp)])[H.length]?=some (.cells (L.cells lx lc le)):=by simp
 have g2:(H++[AObj.cells (L.cells lx lc le),.cells (p.cells xp)])[H.length+1]?=some (.cells (p.cells xp)):=by simp
 have hS0:Stp A H (H++[AObj.cells (L.cells lx lc le),.cells (p.cells xp)]):=Stp.push _ _
 have hlen0:(H++[AObj.cells (L.cells lx lc le),.cells (p.cells xp)]).length=H.length+2:=by simp
 have hsys0:SysAt (H++[AObj.cells (L.cells lx lc le),.cells (p.cells xp)]) o t tm s A:=h.stp (C:=[]) (Stp.push _ _) (fun a ha=>by simp)
 have hbx:ZW (.agg (p.cells xp)) (H++[AObj.cells (L.cells lx lc le)])=some (.ptr (H.length+1) 0,H++[AObj.cells (L.cells lx lc le),.cells (p.cells xp)]):=by rw[X8];simp
 generalize hH0:H++[AObj.cells (L.cells lx lc le),.cells (p.cells xp)]=H0 at g1 g2 hS0 hsys0 hbx hlen0
 obtain⟨H1,A1,p1,p2⟩:=Zev hsys0 hm hk hl1
 rw[hN]at p1 p2
 have hnA:∀ i,H.length≤i→i∉A:=fun i hi ha=>by have:=hAlt i ha;omega
 have g1':=p2.stp.get g1 (hnA _ (Nat.le_refl _))
 have g2':=p2.stp.get g2 (hnA _ (by omega))
 obtain⟨y,q1,q2⟩:=Zmi hav hok hqv hks hx hL hl H1
 obtain⟨H2,A2,r1,r2⟩:=ZcX p2.at' hm1 hk1 n q2 hLs hcost
 rw[hW]at r1 r2
 obtain⟨H3,A3,t1,t2⟩:=Zeu r2.at' hm1 hk2 n
 rw[hS]at t1 t2
 refine⟨H3,A3,?_,SysRes.pre hS0 ((p2.trans r2).trans t2)⟩
 have e0:((0:Int) != 0)=false:=rfl
 rw[Zan]
 unfold Hh
 simp only[X8,go_sem,hbx,hnil,Za6,p1,List.getElem?_cons_zero,List.getElem?_cons_succ,e0,Za7,NZ g1',Tl g2',q1,r1,Za8,t1,Za9]
def Qx (L:Loc)(lx c e:AV)(p:Spec)(xp:AV)(ok:Bool)(rx:AV)(last:Zm)(has:Bool):List AV:=L.cells lx c e++p.cells xp++[.bool ok,rx,.str last,.bool has]
def Vq (L:Loc)(p:Spec)(a b:Zj):Bool:=(ZL p==0)&&decide (ZN L p a b<0)
section
variable {H:Hp}{g b:Nat}{L:Loc}{lx c e:AV}{p:Spec}{xp:AV}{rx:AV}{last:Zm}{has ok:Bool}
theorem Zfp (hg:H[g]?=some (.cells (Qx L lx c e p xp ok rx last has))):Z4 true 6 (.ptr g 0) H=some (.agg (L.cells lx c e)):=by
 rw[U7 hg];simp[Go.Am.apart,Qx,Loc.cells]
theorem ZcG (hg:H[g]?=some (.cells (Qx L lx c e p xp ok rx last has))):Z4 true 5 (.ptr g 6) H=some (.agg (p.cells xp)):=by
 rw[U7 hg];simp[Go.Am.apart,Qx,Loc.cells,Spec.cells]
variable (hg:H[g]?=some (.cells (Qx L lx c e p xp (ZL p==0) rx last has)))(hb:H[b]?=some (.cells [.ptr g 0]))
 (hl:LocAV (.agg (L.cells lx c e)) L) (hok:LocOk L) (hs:SpecAV (.agg (p.cells xp)) p) (hks:∀ k∈p.keys,KeOk k)
include hg hb hl hok hs hks
theorem Zo5 (x y:Zj)(hx:x.length≤1048576)(hy:y.length≤1048576):Uv [.str x,.str y,.ptr b 0] H=some (.bool (Vq L p x y),H):=by
 have l0:=Y2 hb 0 (v:=.ptr g 0) rfl
 have l11:=Y2 hg 11 (v:=.bool (ZL p==0)) rfl
 have ho:=Zfs hl hok hs hks x y hx hy H
 rw[TX]
 unfold GV Vq
 cases hck:ZL p==0 with
 |false=>rw[hck]at l11;simp only[l0,go_sem,Nat.zero_add,l11];rfl
 |true=>rw[hck]at l11;simp only[l0,go_sem,Nat.zero_add,l11,Zfp hg,ZcG hg,ho];rfl
end
theorem Zk5 (p:AV)(a c:AV)(H:Hp):Yp cfg (Za cfg) (.fn (.func 144) [] [p]) [a,c] H=Uv [a,c,p] H:=by kernel_rfl
def Jh (lt:Zj→Zj→Bool)(i:Nat)(x:List Zj)(b:Option (Nat×Zj)):Option (Nat×Zj):=match x with
 |[]=>b
 |a::_=>match b with
  |none=>some (i,a)
  |some (j,c)=>if lt a c then some (i,a) else some (j,c)
def JE (lt:Zj→Zj→Bool):List (List Zj)→Nat→Option (Nat×Zj)→Option (Nat×Zj)
 |[],_,b=>b
 |x::r,i,b=>JE lt r (i+1) (Jh lt i x b)
def QQ:Option (Nat×Zj)→List AV
 |none=>[.str [],.int .i64 0,.bool false]
 |some (k,a)=>[.str a,.int .i64 (k:Int),.bool true]
theorem ZlG {H:Hp}{w:Nat}{lt:Zj→Zj→Bool}{o:Option (Nat×Zj)}{fv:AV}(hw:H[w]?=some (.cells (QQ o)))(a:Zj)(i:Nat)(r:List Zj)
 (hlt:∀ k c,o=some (k,c)→Yp cfg (Za cfg) fv [.str a,.str c] H=some (.bool (lt a c),H)) :
 ∃ H',Wa [.ptr w 0,.int .i64 (i:Int),.str a,fv] H=some (.tuple [],H')∧Stp [w] H H'∧H'[w]?=some (.cells (QQ (Jh lt i (a::r) o))):=by
 have hfill:(YS [(0,1,.str a),(1,1,.int .i64 (i:Int)),(2,1,.bool true)] [(.str []),(.int .i64 0),(.bool false)]).map AV.agg=some (.agg [.str a,.int .i64 (i:Int),.bool true]):=rfl
 have hst:∀ o':Option (Nat×Zj),H[w]?=some (.cells (QQ o'))→Zh 3 (.ptr w 0) (.agg [.str a,.int .i64 (i:Int),.bool true]) H=some (.tuple [],H.set w (.cells [.str a,.int .i64 (i:Int),.bool true])):=fun o' h=>by
  have hlen:(QQ o').length=3:=by rcases o' with _|⟨k,c⟩ <;> rfl
  refine (VK (v:=.agg [.str a,.int .i64 (i:Int),.bool true]) h rfl rfl (by rw[hlen];show 0+3≤3;omega)).trans ?_
  have:splice (QQ o') 0 [AV.str a,.int .i64 (i:Int),.bool true]=[AV.str a,.int .i64 (i:Int),.bool true]:=by
   rcases o' with _|⟨k,c⟩ <;> rfl
  rw[show (AV.agg [.str a,.int .i64 (i:Int),.bool true]).cells=[AV.str a,.int .i64 (i:Int),.bool true] from rfl,this]
 have hs:=hst o hw
 have g:=Zv (AObj.cells [AV.str a,.int .i64 (i:Int),.bool true]) hw
 rw[Bg]
 unfold Uw
 cases o with
 |none =>
  have l2:=Y2 hw 2 (v:=.bool false) rfl
  exact⟨_,by simp only[go_sem,Nat.zero_add,l2,Bool.not_false,hfill,hs],Stp.set _ _ (by simp),g⟩
 |some q =>
  obtain⟨k,c⟩:=q
  have l2:=Y2 hw 2 (v:=.bool true) rfl
  have l0:=Y2 hw 0 (v:=.str c) rfl
  have hc:=hlt k c rfl
  cases hb:lt a c with
  |true =>
   rw[hb]at hc
   refine⟨_,by simp only[go_sem,Nat.zero_add,l2,l0,Bool.not_true,hc,hfill,hs];rfl,Stp.set _ _ (by simp),?_⟩
   rw[g]
   simp only[Jh,hb,if_true,QQ]
  |false =>
   rw[hb]at hc
   refine⟨H,by simp only[go_sem,Nat.zero_add,l2,l0,Bool.not_true,hc],Stp.refl _ _,?_⟩
   rw[hw]
   simp only[Jh,hb,Bool.false_eq_true,if_false]
structure Rd where
 r:Nat
 n:Zm
 text:Zm
 rest:List Zm
structure RdAt (H:Hp)(o:Nat)(tm:Tmp)(s:Sto)(A:List Nat)(d:Rd):Prop where
 rdr:Rdr H d.r o d.n d.text d.rest
 out:d.r∉A
 fit:Xw d.rest=true
 len:d.text.length≤262144
 file:(Y3 tm d.n=0∧∃ f,ZQ s.files d.n=some f∧f.text=d.text)∨(Y3 tm d.n=5∧d.rest=[])
theorem RdAt.frame {H H':Hp}{o:Nat}{tm:Tmp}{s:Sto}{A:List Nat}{d:Rd}(h:RdAt H o tm s A d)(hf:H'[d.r]?=H[d.r]?):RdAt H' o tm s A d:=⟨h.rdr.frame hf,h.out,h.fit,h.len,h.file⟩
theorem RdAt.lt {H:Hp}{o:Nat}{tm:Tmp}{s:Sto}{A:List Nat}{d:Rd}(h:RdAt H o tm s A d):d.r<H.length:=by
 obtain⟨c,hc⟩:=h.rdr.cells
 exact Zf hc
section
variable {H:Hp}{o t:Nat}{tm:Tmp}{s:Sto}{A:List Nat}(h:SysAt H o t tm s A)(hm:TmpOk tm)(hk:StoOk s)(hc:s.crashed=false)(h0:s.count=0){d:Rd}(hd:RdAt H o tm s A d)
include h hm hk hc h0 hd
theorem ZcV:∃ H',Xo [.ptr d.r 0] H=some (.tuple [.str (d.rest.headD []),.bool (!d.rest.isEmpty),.int .i64 0],H')∧SysAt H' o t tm s A∧Stp (d.r::A) H H'∧RdAt H' o tm s A d ∧
 (d.rest=[]∧(∃ p,H'[d.r]?=some (.cells (Va o d.n p false true [])))∨∃ l q p,H'[d.r]?=some (.cells (Va o d.n (p++Yy l).length true false l))∧d.rest=l::q∧d.text=p++Yy l++ZX q):=by
 have hfile:=hd.file
 rcases hd.file with ⟨f1,f,f2,f3⟩|⟨f1,f2⟩
 ·have hr:=hd.rdr
  rw[←f3]at hr
  obtain⟨H1,q1,q2,q3,q4⟩:=ZmB h hm hk hr hd.out f1 hc h0 f2 hd.fit (by rw[f3];exact hd.len)
  refine⟨H1,q1,q2,q3,⟨?_,hd.out,hd.fit,hd.len,hfile⟩,?_⟩
  ·rcases q4 with ⟨e,p,g⟩|⟨l,q,p,g,e,htx⟩
   ·exact .inr (.inl ⟨e,p,g⟩)
   ·exact .inl ⟨l,q,p,g,e,by rw[←f3];exact htx⟩
  ·rw[←f3];exact q4
 ·have hnil:Yj (.pointer 125) .eql (.ptr d.r 0) .nilp=some (.bool false):=rfl
  rw[Ux]
  unfold VI
  have hrd:=hd.rdr
  rcases hd.rdr with ⟨l,q,p,hr,e,htx⟩|⟨_,p,hr⟩|⟨p,hr,htx⟩
  ·rw[f2]at e;cases e
  ·have l3:=Y2 hr 3 (v:=.bool false) rfl
   have l4:=Y2 hr 4 (v:=.bool true) rfl
   refine⟨H,?_,h,Stp.refl _ _,hd,.inl ⟨f2,p,hr⟩⟩
   rw[f2]
   simp only[go_sem,Nat.zero_add,hnil,Yn,l3,l4,Bool.not_true,Bool.not_false,YG]
   rfl
  ·have l3:=Y2 hr 3 (v:=.bool false) rfl
   have l4:=Y2 hr 4 (v:=.bool false) rfl
   have l0:=Y2 hr 0 (v:=.ptr o 0) rfl
   have l1:=Y2 hr 1 (v:=.str d.n) rfl
   have l2:=Y2 hr 2 (v:=.int .i64 (p.length:Int)) rfl
   have q1:=ZcW h hm hk d.n (by rw[f1];decide) (p.length:Int)
   rw[f1]at q1
   have e5:((5:Int)==0)=false:=rfl
   have e55:((5:Int)==5)=true:=rfl
   have s4:=R0 hr 4 (v:=.bool true) rfl rfl (by simp)
   have g2:=Zv (AObj.cells (List.set (Va o d.n p.length false false []) 4 (.bool true))) hr
   have k3:=Y2 g2 3 (v:=.bool false) rfl
   refine⟨H.set d.r (.cells (List.set (Va o d.n p.length false false []) 4 (.bool true))),?_,h.stp (C:=[d.r]) (Stp.set _ _ (by simp)) (fun a ha=>by simp;exact fun e=>hd.out (e ▸ ha)),Stp.set _ _ (by simp),⟨.inr (.inl ⟨f2,p.length,g2⟩),hd.out,hd.fit,hd.len,hfile⟩,.inl ⟨f2,p.length,g2⟩⟩
   rw[f2]
   simp only[go_sem,Nat.zero_add,hnil,Yn,l3,l4,l0,l1,l2,q1,List.getElem?_cons_zero,List.getElem?_cons_succ,e5,e55,s4,YG,k3,Bool.not_false]
   rfl
theorem ZjW:∃ H',J7 [.ptr d.r 0] H=some (.tuple [.str (d.rest.headD []),.bool (!d.rest.isEmpty),.int .i64 0],H')∧SysAt H' o t tm s A∧Stp (d.r::A) H H'∧RdAt H' o tm s A { d with rest:=d.rest.tail }:=by
 obtain⟨H1,q1,q2,q3,q5,q4⟩:=ZcV h hm hk hc h0 hd
 have hfit:Xw d.rest.tail=true:=by
  have:=hd.fit
  cases hr:d.rest with
  |nil=>rfl
  |cons a b =>
   rw[hr]at this
   simp only[Xw,List.all_cons,Bool.and_eq_true]at this
   exact this.2
 have hfl:(Y3 tm d.n=0∧∃ f,ZQ s.files d.n=some f∧f.text=d.text)∨(Y3 tm d.n=5∧d.rest.tail=[]):=hd.file.imp id fun⟨a,b⟩=>⟨a,by rw[b];rfl⟩
 rw[Lj]
 unfold Ft
 rcases q4 with ⟨e,p,g1⟩|⟨l,q,p,g1,e,htx⟩
 ·refine⟨H1,?_,q2,q3,⟨.inr (.inl ⟨by show d.rest.tail=[];rw[e];rfl,p,g1⟩),hd.out,hfit,hd.len,hfl⟩⟩
  rw[e]at q1 ⊢
  simp only[q1,go_sem,List.getElem?_cons_zero,List.getElem?_cons_succ,List.isEmpty_nil,Bool.not_true,Ga]
 ·have s3:=R0 g1 3 (v:=.bool false) rfl rfl (by simp)
  have g2:=Zv (AObj.cells (List.set (Va o d.n (p++Yy l).length true false l) 3 (.bool false))) g1
  have s5:=R0 g2 5 (v:=.str []) rfl rfl (by simp)
  have g3:=Zv (AObj.cells (List.set (List.set (Va o d.n (p++Yy l).length true false l) 3 (.bool false)) 5 (.str []))) g2
  generalize hH2:H1.set d.r (.cells (List.set (Va o d.n (p++Yy l).length true false l) 3 (.bool false)))=H2 at s3 s5 g3
  generalize hH3:H2.set d.r (.cells (List.set (List.set (Va o d.n (p++Yy l).length true false l) 3 (.bool false)) 5 (.str [])))=H3 at s5 g3
  have hS2:Stp [d.r] H1 H3:=by
   rw[←hH3,←hH2]
   exact (Stp.set _ _ (by simp)).trans (Stp.set _ _ (by simp)) (fun _ h=>h) fun _ h=>.inl h
  refine⟨H3,?_,q2.stp hS2 (fun a ha=>by simp;exact fun e=>hd.out (e ▸ ha)),q3.trans (hS2.mono (B:=d.r::A) fun a ha=>by rw[List.mem_singleton.1 ha];simp) (fun _ h=>h) (fun _ h=>.inl h),⟨.inr (.inr ⟨p++Yy l,g3,by show d.text=_++ZX d.rest.tail;rw[e];exact htx⟩),hd.out,hfit,hd.len,hfl⟩⟩
  rw[e]at q1 ⊢
  simp only[q1,go_sem,List.getElem?_cons_zero,List.getElem?_cons_succ,List.isEmpty_cons,Bool.not_false,List.headD_cons,Nat.zero_add,s3,s5,Ga]
end
def rdV (d:Rd):AV:=.ptr d.r 0
section
variable {o t g b w:Nat}{tm:Tmp}{s:Sto}{A:List Nat}{L:Loc}{lx c e:AV}{p:Spec}{xp:AV}{rx:AV}{last:Zm}{has:Bool}{ds:List Rd}{N:Nat}
 (hm:TmpOk tm) (hk:StoOk s) (hc:s.crashed=false) (h0:s.count=0)
 (hl:LocAV (.agg (L.cells lx c e)) L) (hok:LocOk L) (hs:SpecAV (.agg (p.cells xp)) p) (hks:∀ k∈p.keys,KeOk k)
 (hrx:Sl 1 rx (ds.map rdV)) (hnd:(ds.map Rd.r).Nodup) (hlen:ds.length≤1048576)
 (hgA:g∉A) (hbA:b∉A) (hwA:w∉A) (hgd:g∉ds.map Rd.r) (hbd:b∉ds.map Rd.r) (hwd:w∉ds.map Rd.r) (hgw:g≠w) (hbw:b≠w)
include hm hk hc h0 hl hok hs hks hrx hnd hlen hgA hbA hwA hgd hbd hwd hgw hbw
theorem Zmn (H0:Hp):∀ (q d:List Rd) (o':Option (Nat×Zj)) (H:Hp),ds=d++q→SysAt H o t tm s A→(∀ x∈ds,RdAt H o tm s A x)→(∀ k a,o'=some (k,a)→a.length≤1048576) →
 H[g]?=some (.cells (Qx L lx c e p xp (ZL p==0) rx last has))→H[b]?=some (.cells [.ptr g 0])→H[w]?=some (.cells (QQ o')) →
 ∃ H',WL (.ptr b 0) (.ptr w 0) (.fn (.func 144) [] [.ptr b 0]) (.int .i64 0) rx (.int .i64 (ds.length:Int)) (.int .i64 (d.length:Int)) H0 H=XO (.ptr b 0) (.ptr w 0) (.int .i64 0) H0 H' ∧
  SysAt H' o t tm s A∧Stp (w::ds.map Rd.r++A) H H'∧(∀ x∈ds,RdAt H' o tm s A x)∧H'[w]?=some (.cells (QQ (JE (Vq L p) (q.map Rd.rest) d.length o'))):=by
 intro q
 induction q with
 |nil =>
  intro d o' H hd hsys hrd ho hg hb hw
  rw[List.append_nil]at hd
  subst hd
  have hlt:decide ((ds.length:Int)<(ds.length:Int))=false:=by simp
  refine⟨H,?_,hsys,Stp.refl _ _,hrd,hw⟩
  rw[XX]
  simp only[go_sem,hlt]
 |cons x q ih =>
  intro d o' H hd hsys hrd ho hg hb hw
  have hlen2:ds.length=d.length+(q.length+1):=by rw[hd];simp
  have hlt:decide ((d.length:Int)<(ds.length:Int))=true:=by rw[decide_eq_true_eq];omega
  have hw1:IntKind.i64.wrap ((d.length:Int)+1)=((d.length+1:Nat):Int):=by rw[Zr (by omega) (by omega)];omega
  have hxm:x∈ds:=by rw[hd];simp
  have hxr:x.r∈ds.map Rd.r:=List.mem_map_of_mem hxm
  have hin:(ds.map rdV)[d.length]?=some (rdV x):=by rw[List.getElem?_map,hd,List.getElem?_append_right (Nat.le_refl _)];simp
  have hidx:Zn 1 rx (.int .i64 (d.length:Int))=some (.vp [.ptr x.r 0]):=Sl.idx hrx hin
  obtain⟨H1,p1,p2,p3,p4,_⟩:=ZcV hsys hm hk hc h0 (hrd x hxm)
  have keep:∀ a,a∉ds.map Rd.r→a∉A→∀ v,H[a]?=some v→H1[a]?=some v:=fun a h1 h2 v hv=>p3.get hv fun h=>by
   rcases List.mem_cons.1 h with e|h
   ·exact h1 (e ▸ hxr)
   ·exact h2 h
  have hg1:=keep g hgd hgA _ hg
  have hb1:=keep b hbd hbA _ hb
  have hwH1:=keep w hwd hwA _ hw
  have hrd1:∀ y∈ds,RdAt H1 o tm s A y:=fun y hy=>by
   by_cases e:y.r=x.r
   ·have:y=x:=by
     obtain⟨i,hi⟩:=List.getElem?_of_mem hy
     obtain⟨j,hj⟩:=List.getElem?_of_mem hxm
     have h1:(ds.map Rd.r)[i]?=some x.r:=by rw[List.getElem?_map,hi,←e];rfl
     have h2:(ds.map Rd.r)[j]?=some x.r:=by rw[List.getElem?_map,hj];rfl
     have:=(List.getElem?_inj (Zf h1) hnd).1 (h1.trans h2.symm)
     subst this
     rw[hi]at hj
     injection hj
    rw[this];exact p4
   ·exact (hrd y hy).frame (p3.at' y.r (hrd y hy).lt fun h=>by
     rcases List.mem_cons.1 h with e'|h
     ·exact e e'
     ·exact (hrd y hy).out h)
  have hS1:Stp (w::ds.map Rd.r++A) H H1:=p3.mono fun a ha=>by
   rcases List.mem_cons.1 ha with e'|h
   ·subst e';simp[hxr]
   ·simp[h]
  have e0:((0:Int) != 0)=false:=rfl
  cases hr:x.rest with
  |nil =>
   rw[hr]at p1
   obtain⟨H2,m1,m2,m3,m4,m5⟩:=ih (d++[x]) o' H1 (by rw[hd];simp) p2 hrd1 ho hg1 hb1 hwH1
   rw[List.length_append,List.length_singleton]at m1 m5
   refine⟨H2,?_,m2,hS1.trans m3 (fun _ h=>h) (fun _ h=>.inl h),m4,?_⟩
   ·rw[XX]
    simp only[go_sem,hlt,Vy,hidx,ZG,p1,List.getElem?_cons_zero,List.getElem?_cons_succ,e0,List.isEmpty_nil,Bool.not_true,Kb,Ka,hw1]
    exact m1
   ·rw[List.map_cons,hr];exact m5
  |cons a rr =>
   rw[hr]at p1
   have hal:a.length≤1048576:=by
    have:=(hrd x hxm).fit
    rw[hr]at this
    simp only[Xw,List.all_cons,Bool.and_eq_true,decide_eq_true_eq]at this
    omega
   obtain⟨H2,r1,r2,r3⟩:=ZlG (lt:=Vq L p) (fv:=.fn (.func 144) [] [.ptr b 0]) hwH1 a d.length rr (fun k c' e'=>by
    rw[Zk5]
    exact Zo5 hg1 hb1 hl hok hs hks a c' hal (ho k c' e'))
   have k2:∀ i,i≠w→∀ v,H1[i]?=some v→H2[i]?=some v:=fun i hi v hv=>r2.get hv (by simpa using hi)
   have hsys2:SysAt H2 o t tm s A:=p2.stp r2 fun i hi=>by simp;exact fun e'=>hwA (e' ▸ hi)
   have hrd2:∀ y∈ds,RdAt H2 o tm s A y:=fun y hy=>(hrd1 y hy).frame (r2.at' y.r (hrd1 y hy).lt (by simp;exact fun e'=>hwd (e' ▸ List.mem_map_of_mem hy)))
   obtain⟨H3,m1,m2,m3,m4,m5⟩:=ih (d++[x]) (Jh (Vq L p) d.length (a::rr) o') H2 (by rw[hd];simp) hsys2 hrd2 (fun k c' e'=>by
    unfold Jh at e'
    rcases o' with _|⟨j,c2⟩
    ·injection e' with e';injection e' with e1 e2;subst e2;exact hal
    ·dsimp only at e'
     split at e'
     ·injection e' with e';injection e' with e1 e2;subst e2;exact hal
     ·injection e' with e';injection e' with e1 e2;subst e2;exact ho j _ rfl) (k2 g hgw _ hg1) (k2 b hbw _ hb1) r3
   rw[List.length_append,List.length_singleton]at m1 m5
   refine⟨H3,?_,m2,(hS1.trans (r2.mono fun i hi=>by rw[List.mem_singleton.1 hi];simp) (fun _ h=>h) (fun _ h=>.inl h)).trans m3 (fun _ h=>h) (fun _ h=>.inl h),m4,?_⟩
   ·rw[XX]
    simp only[go_sem,hlt,Vy,hidx,ZG,p1,List.getElem?_cons_zero,List.getElem?_cons_succ,e0,List.isEmpty_cons,Bool.not_false,Kb,List.headD_cons,r1,Ka,hw1]
    exact m1
   ·rw[List.map_cons,hr];exact m5
end
theorem Zpv (lt:Zj→Zj→Bool):∀ (r P:List (List Zj)) (b:Option (Nat×Zj)),(∀ k a,b=some (k,a)→∃ t,P[k]?=some (a::t))→∀ k a,JE lt r P.length b=some (k,a)→∃ t,(P++r)[k]?=some (a::t):=by
 intro r
 induction r with
 |nil=>intro P b h k a e;rw[List.append_nil];exact h k a e
 |cons x r ih =>
  intro P b h k a e
  have:=ih (P++[x]) (Jh lt P.length x b) (fun k a e=>by
   have old:∀ k a,b=some (k,a)→∃ t,(P++[x])[k]?=some (a::t):=fun k a e=>by
    obtain⟨t,ht⟩:=h k a e
    exact⟨t,by rw[List.getElem?_append_left (Zf ht)];exact ht⟩
   have new:∀ c t,x=c::t→∃ t,(P++[x])[P.length]?=some (c::t):=fun c t e=>⟨t,by rw[List.getElem?_append_right (Nat.le_refl _)];simp[e]⟩
   cases x with
   |nil=>exact old k a e
   |cons c t =>
    cases b with
    |none=>injection e with e;injection e with e1 e2;subst e1 e2;exact new c t rfl
    |some q =>
     obtain⟨j,c2⟩:=q
     unfold Jh at e
     dsimp only at e
     split at e
     ·injection e with e;injection e with e1 e2;subst e1 e2;exact new c t rfl
     ·exact old k a e) k a (by rw[List.length_append,List.length_singleton];exact e)
  rwa [List.append_assoc,List.singleton_append]at this
section
variable {o t g:Nat}{tm:Tmp}{s:Sto}{A:List Nat}{L:Loc}{lx c e:AV}{p:Spec}{xp:AV}{rx:AV}{last:Zm}{has:Bool}{ds:List Rd}
 (hm:TmpOk tm) (hk:StoOk s) (hc:s.crashed=false) (h0:s.count=0)
 (hl:LocAV (.agg (L.cells lx c e)) L) (hok:LocOk L) (hs:SpecAV (.agg (p.cells xp)) p) (hks:∀ k∈p.keys,KeOk k)
 (hrx:Sl 1 rx (ds.map rdV)) (hnd:(ds.map Rd.r).Nodup) (hlen:ds.length≤1048576)
 (hgA:g∉A) (hgd:g∉ds.map Rd.r)
include hm hk hc h0 hl hok hs hks hrx hnd hlen hgA hgd
theorem Zg0 {H:Hp}(hsys:SysAt H o t tm s A)(hrd:∀ x∈ds,RdAt H o tm s A x)(hg:H[g]?=some (.cells (Qx L lx c e p xp (ZL p==0) rx last has))) :
 ∃ H' res,W6 [.ptr g 0] H=some (res,H')∧SysAt H' o t tm s A∧Stp (ds.map Rd.r++A) H H' ∧
  (JE (Vq L p) (ds.map Rd.rest) 0 none=none∧res=.tuple [.str [],.bool false,.int .i64 0]∧(∀ x∈ds,RdAt H' o tm s A x) ∨
   ∃ P x Q a r,ds=P++x::Q∧x.rest=a::r∧JE (Vq L p) (ds.map Rd.rest) 0 none=some (P.length,a)∧res=.tuple [.str a,.bool true,.int .i64 0]∧∀ y∈P++{ x with rest:=r }::Q,RdAt H' o tm s A y):=by
 have hgl:=Zf hg
 have hdl:∀ x∈ds.map Rd.r,x<H.length:=fun x hx=>by
  obtain⟨y,hy,rfl⟩:=List.mem_map.1 hx
  exact (hrd y hy).lt
 have hbox:ZW (.ptr g 0) H=some (.ptr H.length 0,H++[.cells [.ptr g 0]]):=JC rfl
 have hl2:(H++[AObj.cells [AV.ptr g 0]]).length=H.length+1:=by simp
 have gb:((H++[AObj.cells [AV.ptr g 0]])++[AObj.cells (QQ none)])[H.length]?=some (.cells [.ptr g 0]):=by simp
 have gw:((H++[AObj.cells [AV.ptr g 0]])++[AObj.cells (QQ none)])[H.length+1]?=some (.cells (QQ none)):=by
  rw[List.getElem?_append_right (by simp)];simp
 have hS0:Stp [] H ((H++[AObj.cells [AV.ptr g 0]])++[AObj.cells (QQ none)]):=by rw[List.append_assoc];exact Stp.push _ _
 have hg0:=hS0.get hg (by simp)
 have hsys0:=hsys.stp hS0 (by simp)
 have hrd0:∀ x∈ds,RdAt ((H++[AObj.cells [AV.ptr g 0]])++[AObj.cells (QQ none)]) o tm s A x:=fun x hx=>(hrd x hx).frame (hS0.at' _ (hrd x hx).lt (by simp))
 have nA:∀ i,H.length≤i→i∉A:=fun i hi h=>by have:=hsys.lt i h;omega
 have nD:∀ i,H.length≤i→i∉ds.map Rd.r:=fun i hi h=>by have:=hdl i h;omega
 obtain⟨H1,p1,p2,p3,p4,p5⟩:=Zmn (b:=H.length) (w:=H.length+1) hm hk hc h0 hl hok hs hks hrx hnd hlen hgA (nA _ (Nat.le_refl _)) (nA _ (by omega)) hgd (nD _ (Nat.le_refl _)) (nD _ (by omega)) (by omega) (by omega) H ds [] none _ rfl hsys0 hrd0 (fun _ _ h=>by cases h) hg0 gb gw
 have hg1:=p3.get hg0 (fun h=>by
  rcases List.mem_cons.1 h with e'|h
  ·omega
  ·rcases List.mem_append.1 h with h|h
   ·exact hgd h
   ·exact hgA h)
 have hb1:=p3.get gb (fun h=>by
  rcases List.mem_cons.1 h with e'|h
  ·omega
  ·rcases List.mem_append.1 h with h|h
   ·exact nD _ (Nat.le_refl _) h
   ·exact nA _ (Nat.le_refl _) h)
 have hS1:Stp (ds.map Rd.r++A) H H1:=⟨Nat.le_trans hS0.len p3.len,fun a ha hn=>(p3.at' a (Nat.lt_of_lt_of_le ha hS0.len) (fun h=>by
  rcases List.mem_cons.1 h with e'|h
  ·omega
  ·exact hn h)).trans (hS0.at' a ha (by simp))⟩
 have l0:=Y2 gb 0 (v:=.ptr g 0) rfl
 have l12:=Y2 hg0 12 (v:=rx) rfl
 have hln:=Sl.len hrx 52
 rw[List.length_map]at hln
 have lb:=Y2 hb1 0 (v:=.ptr g 0) rfl
 have l12':=Y2 hg1 12 (v:=rx) rfl
 have e0:((0:Int) != 0)=false:=rfl
 have hstart:W6 [.ptr g 0] H=XO (.ptr H.length 0) (.ptr (H.length+1) 0) (.int .i64 0) H H1:=by
  have hbc:QQ none=[.str [],.int .i64 0,.bool false]:=rfl
  rw[hbc]at l0 l12 p1
  rw[KP]
  unfold QI
  simp only[hbox,go_sem,hl2,l0,Nat.zero_add,l12,hln]
  exact p1
 rw[List.length_nil]at p5
 cases hbest:JE (Vq L p) (ds.map Rd.rest) 0 none with
 |none =>
  rw[hbest]at p5
  have l2:=Y2 p5 2 (v:=.bool false) rfl
  refine⟨H1,_,?_,p2,hS1,.inl ⟨rfl,rfl,p4⟩⟩
  rw[hstart,Vx]
  simp only[go_sem,e0,Nat.zero_add,l2,Bool.not_false]
 |some q =>
  obtain⟨k,a⟩:=q
  obtain⟨r,hr⟩:=Zpv (Vq L p) (ds.map Rd.rest) [] none (fun _ _ h=>by cases h) k a hbest
  rw[List.nil_append,List.getElem?_map]at hr
  obtain⟨x,hx,hxr⟩:∃ x,ds[k]?=some x∧x.rest=a::r:=by
   cases hk':ds[k]? with
   |none=>rw[hk']at hr;cases hr
   |some x=>rw[hk']at hr;injection hr with hr;exact⟨x,rfl,hr⟩
  have hkl:=Zf hx
  have hsplit:ds=ds.take k++x::ds.drop (k+1):=by
   have h1:=List.getElem?_eq_getElem hkl
   rw[hx]at h1
   injection h1 with h1
   rw[h1,←List.drop_eq_getElem_cons hkl,List.take_append_drop]
  have hkt:(ds.take k).length=k:=by rw[List.length_take];omega
  rw[hbest]at p5
  have l2:=Y2 p5 2 (v:=.bool true) rfl
  have l1:=Y2 p5 1 (v:=.int .i64 (k:Int)) rfl
  have hxm:x∈ds:=List.mem_of_getElem? hx
  have hin:(ds.map rdV)[k]?=some (rdV x):=by rw[List.getElem?_map,hx];rfl
  have hidx:Zn 1 rx (.int .i64 (k:Int))=some (.vp [.ptr x.r 0]):=Sl.idx hrx hin
  obtain⟨H2,n1,n2,n3,n4⟩:=ZjW p2 hm hk hc h0 (p4 x hxm)
  rw[hxr]at n1 n4
  refine⟨H2,_,?_,n2,hS1.trans (n3.mono (B:=ds.map Rd.r++A) fun i hi=>by
   rcases List.mem_cons.1 hi with e'|hi
   ·subst e';exact List.mem_append.2 (.inl (List.mem_map_of_mem hxm))
   ·exact List.mem_append.2 (.inr hi)) (fun _ h=>h) (fun _ h=>.inl h),.inr ⟨ds.take k,x,ds.drop (k+1),a,r,hsplit,hxr,by rw[hkt],rfl,fun y hy=>?_⟩⟩
  ·rw[hstart,Vx]
   simp only[go_sem,e0,Nat.zero_add,l2,Bool.not_true,Nq,lb,l12',l1,hidx,ZG,n1,List.getElem?_cons_zero,List.getElem?_cons_succ,Nr,List.headD_cons]
  ·have hother:∀ z∈ds,z.r≠x.r→RdAt H2 o tm s A z:=fun z hz hne=>(p4 z hz).frame (n3.at' z.r (p4 z hz).lt fun h=>by
    rcases List.mem_cons.1 h with e'|h
    ·exact hne e'
    ·exact (p4 z hz).out h)
   rw[hsplit,List.map_append,List.map_cons,List.nodup_append,List.nodup_cons]at hnd
   obtain⟨_,⟨d1,_⟩,d2⟩:=hnd
   rcases List.mem_append.1 hy with hy|hy
   ·exact hother y (List.mem_of_mem_take hy) (d2 y.r (List.mem_map_of_mem hy) x.r (by simp))
   ·rcases List.mem_cons.1 hy with e'|hy
    ·subst e';exact n4
    ·exact hother y (List.mem_of_mem_drop hy) fun e'=>d1 (by rw[←e'];exact List.mem_map_of_mem hy)
end
def ZY:List Rd→Nat
 |[]=>0
 |d::r=>d.rest.length+ZY r
theorem Wj (A B:List Rd):ZY (A++B)=ZY A+ZY B:=by
 induction A with
 |nil=>simp[ZY]
 |cons x A ih=>simp only[List.cons_append,ZY,ih];omega
def Qg (L:Loc)(p:Spec)(last:Zm)(has:Bool)(a:Zj):Bool:=(has&&(ZL p==0)&&p.uniq)&&(Xz L p last a==0)
inductive NextD (lt:Zj→Zj→Bool)(same:Zj→Bool):List Rd→Option Zj→List Rd→Prop
 |done {ds:List Rd} (h:JE lt (ds.map Rd.rest) 0 none=none):NextD lt same ds none ds
 |skip {P Q:List Rd} {x:Rd} {a:Zj} {r:List Zj} {z:Option Zj} {ds':List Rd} (hx:x.rest=a::r) (h:JE lt ((P++x::Q).map Rd.rest) 0 none=some (P.length,a)) (hs:same a=true) (k:NextD lt same (P++{ x with rest:=r }::Q) z ds'):NextD lt same (P++x::Q) z ds'
 |give {P Q:List Rd} {x:Rd} {a:Zj} {r:List Zj} (hx:x.rest=a::r) (h:JE lt ((P++x::Q).map Rd.rest) 0 none=some (P.length,a)) (hs:same a=false):NextD lt same (P++x::Q) (some a) (P++{ x with rest:=r }::Q)
section
variable {o t g:Nat}{tm:Tmp}{s:Sto}{A:List Nat}{L:Loc}{lx c e:AV}{p:Spec}{xp:AV}{rx:AV}{last:Zm}{has:Bool}{rs:List Nat}
 (hm:TmpOk tm) (hk:StoOk s) (hc:s.crashed=false) (h0:s.count=0)
 (hl:LocAV (.agg (L.cells lx c e)) L) (hok:LocOk L) (hs:SpecAV (.agg (p.cells xp)) p) (hks:∀ k∈p.keys,KeOk k)
 (hrx:Sl 1 rx (rs.map fun r=>AV.ptr r 0)) (hnd:rs.Nodup) (hlen:rs.length≤1048576)
 (hgA:g∉A) (hgd:g∉rs) (hlast:last.length≤1048576)
include hm hk hc h0 hl hok hs hks hrx hnd hlen hgA hgd hlast
theorem Zje (H0:Hp):∀ (n:Nat) (ds:List Rd) (H:Hp),ZY ds≤n→ds.map Rd.r=rs→SysAt H o t tm s A→(∀ x∈ds,RdAt H o tm s A x)→H[g]?=some (.cells (Qx L lx c e p xp (ZL p==0) rx last has)) →
 ∃ H' z ds',XN (.ptr g 0) H0 H=some (.tuple [.str (z.getD []),.bool z.isSome,.int .i64 0],H')∧NextD (Vq L p) (Qg L p last has) ds z ds'∧SysAt H' o t tm s A∧Stp (g::rs++A) H H'∧ds'.map Rd.r=rs∧(∀ x∈ds',RdAt H' o tm s A x) ∧
  H'[g]?=some (.cells (match z with|none=>Qx L lx c e p xp (ZL p==0) rx last has|some a=>Qx L lx c e p xp (ZL p==0) rx a true)):=by
 intro n
 induction n with
 |zero =>
  intro ds H hn hr hsys hrd hg
  have hrx':Sl 1 rx (ds.map rdV):=by rw[←hr,List.map_map]at hrx;exact hrx
  obtain⟨H1,res,p1,p2,p3,p4⟩:=Zg0 hm hk hc h0 hl hok hs hks hrx' (by rw[hr];exact hnd) (by rw[←hr,List.length_map]at hlen;exact hlen) hgA (by rw[hr];exact hgd) hsys hrd hg
  rw[hr]at p3
  rcases p4 with ⟨q1,rfl,q3⟩|⟨P,x,Q,a,r,rfl,q2,_⟩
  ·refine⟨H1,none,ds,?_,.done q1,p2,p3.mono fun i hi=>by simp at hi ⊢;exact .inr hi,hr,q3,p3.get hg fun h=>(List.mem_append.1 h).elim hgd hgA⟩
   rw[X7]
   simp only[p1,go_sem,List.getElem?_cons_zero,List.getElem?_cons_succ,Bool.not_false]
   rfl
  ·rw[Wj,ZY,q2,List.length_cons]at hn;omega
 |succ n ih =>
  intro ds H hn hr hsys hrd hg
  have hrx':Sl 1 rx (ds.map rdV):=by rw[←hr,List.map_map]at hrx;exact hrx
  obtain⟨H1,res,p1,p2,p3,p4⟩:=Zg0 hm hk hc h0 hl hok hs hks hrx' (by rw[hr];exact hnd) (by rw[←hr,List.length_map]at hlen;exact hlen) hgA (by rw[hr];exact hgd) hsys hrd hg
  rw[hr]at p3
  have hg1:=p3.get hg fun h=>(List.mem_append.1 h).elim hgd hgA
  have hS1:Stp (g::rs++A) H H1:=p3.mono fun i hi=>by simp at hi ⊢;exact .inr hi
  rcases p4 with ⟨q1,rfl,q3⟩|⟨P,x,Q,a,r,rfl,q2,q3,rfl,q5⟩
  ·refine⟨H1,none,ds,?_,.done q1,p2,hS1,hr,q3,hg1⟩
   rw[X7]
   simp only[p1,go_sem,List.getElem?_cons_zero,List.getElem?_cons_succ,Bool.not_false]
   rfl
  ·have hal:a.length≤1048576:=by
    have:=(hrd x (by simp)).fit
    rw[q2]at this
    simp only[Xw,List.all_cons,Bool.and_eq_true,decide_eq_true_eq]at this
    omega
   have hr':(P++{ x with rest:=r }::Q).map Rd.r=rs:=by rw[←hr];simp
   have l14:=Y2 hg1 14 (v:=.bool has) rfl
   have l11:=Y2 hg1 11 (v:=.bool (ZL p==0)) rfl
   have l9:=Y2 hg1 9 (v:=.bool p.uniq) rfl
   have l13:=Y2 hg1 13 (v:=.str last) rfl
   have hcm:=Az hl hok hs hks last a hlast hal H1
   have hJ2:Qa (.ptr g 0) (.str a) H0 H1=if Qg L p last has a then XN (.ptr g 0) H0 H1 else Qb (.ptr g 0) (.str a) H0 H1:=by
    rw[No]
    unfold Qg
    cases has with
    |false=>simp only[go_sem,Nat.zero_add,Nat.add_zero,l14,Bool.false_and,Bool.false_eq_true,if_false]
    |true =>
     cases hck:ZL p==0 with
     |false =>
      rw[hck]at l11
      simp only[go_sem,Nat.zero_add,Nat.add_zero,l14,l11,Bool.true_and,Bool.false_and,Bool.false_eq_true,if_false]
     |true =>
      rw[hck]at l11
      cases hu:p.uniq with
      |false =>
       rw[hu]at l9
       simp only[go_sem,Nat.zero_add,Nat.add_zero,Nat.reduceAdd,l14,l11,l9,Bool.true_and,Bool.false_and,Bool.false_eq_true,if_false]
      |true =>
       rw[hu]at l9
       cases he:Xz L p last a==0 with
       |true=>simp only[go_sem,Nat.zero_add,Nat.add_zero,Nat.reduceAdd,l14,l11,l9,l13,Zfp hg1,ZcG hg1,hcm,he,Bool.true_and,if_true]
       |false=>simp only[go_sem,Nat.zero_add,Nat.add_zero,Nat.reduceAdd,l14,l11,l9,l13,Zfp hg1,ZcG hg1,hcm,he,Bool.true_and,Bool.false_eq_true,if_false]
   cases hsm:Qg L p last has a with
   |true =>
    rw[hsm,if_pos rfl]at hJ2
    obtain⟨H2,z,ds',m1,m2,m3,m4,m5,m6,m7⟩:=ih (P++{ x with rest:=r }::Q) H1 (by
     rw[Wj,ZY,q2,List.length_cons]at hn
     rw[Wj,ZY]
     show ZY P+(r.length+ZY Q)≤n
     omega) hr' p2 q5 hg1
    refine⟨H2,z,ds',?_,.skip q2 q3 hsm m2,m3,hS1.trans m4 (fun _ h=>h) (fun _ h=>.inl h),m5,m6,m7⟩
    rw[X7]
    simp only[p1,go_sem,List.getElem?_cons_zero,List.getElem?_cons_succ,Bool.not_true,hJ2]
    exact m1
   |false =>
    rw[hsm,if_neg (by simp)]at hJ2
    have s14:=R0 hg1 14 (v:=.bool true) rfl rfl (by simp[Qx,Loc.cells,Spec.cells])
    have g2:=Zv (AObj.cells (List.set (Qx L lx c e p xp (ZL p==0) rx last has) 14 (.bool true))) hg1
    have s13:=R0 g2 13 (v:=.str a) rfl rfl (by simp[Qx,Loc.cells,Spec.cells])
    have g3:=Zv (AObj.cells (List.set (List.set (Qx L lx c e p xp (ZL p==0) rx last has) 14 (.bool true)) 13 (.str a))) g2
    generalize hH2:H1.set g (.cells (List.set (Qx L lx c e p xp (ZL p==0) rx last has) 14 (.bool true)))=H2 at s14 g2 s13 g3
    generalize hH3:H2.set g (.cells (List.set (List.set (Qx L lx c e p xp (ZL p==0) rx last has) 14 (.bool true)) 13 (.str a)))=H3 at s13 g3
    have hS2:Stp [g] H1 H3:=by
     rw[←hH3,←hH2]
     exact (Stp.set _ _ (by simp)).trans (Stp.set _ _ (by simp)) (fun _ h=>h) fun _ h=>.inl h
    refine⟨H3,some a,_,?_,.give q2 q3 hsm,p2.stp hS2 (fun i hi=>by simp;exact fun e'=>hgA (e' ▸ hi)),hS1.trans (hS2.mono (B:=g::rs++A) fun i hi=>by rw[List.mem_singleton.1 hi];simp) (fun _ h=>h) (fun _ h=>.inl h),hr',fun y hy=>(q5 y hy).frame (hS2.at' y.r (q5 y hy).lt (by
     have:y.r∈rs:=by rw[←hr'];exact List.mem_map_of_mem hy
     simp;exact fun e'=>hgd (e' ▸ this))),g3⟩
    rw[X7]
    simp only[p1,go_sem,List.getElem?_cons_zero,List.getElem?_cons_succ,Bool.not_true,hJ2,Np,Nat.zero_add,s14,s13]
    rfl
end
theorem FC {k bytes:Nat}{x:AV}{l:List AV}(h:Sl k x l)(hl:l.length≤1048576)(hb:bytes≤64)(H:Hp) :
 ∃ x' T,Y6 k bytes .nils x H=some (x',H++T)∧Sl k x' l∧x'.cells=[x']∧x'.known=true:=by
 have he:elems k x H=some l:=by
  rcases h with ⟨rfl,rfl⟩|⟨tok,rfl⟩
  ·rfl
  ·simp[elems]
 unfold Y6
 rw[he]
 by_cases hn:l=[]
 ·subst hn
  exact⟨.nils,[],by simp[Yo],.inl ⟨rfl,rfl⟩,rfl,rfl⟩
 ·have hf:fits l.length bytes=true:=by
   have:l.length*(bytes+1)≤1048576*65:=Nat.mul_le_mul hl (by omega)
   simp only[fits,decide_eq_true_eq];omega
  exact⟨.vs k (.own H.length l.length) l,[.tok l.length],by simp only[Yo,hn,if_false,hf,if_true],.inr ⟨_,rfl⟩,rfl,rfl⟩
structure LocSm (L:Loc):Prop where
 w:L.w.length≤1048576
 cls:L.cls.length≤1048576
 els:L.els.length≤1048576
theorem Zgu {a:AV}{L:Loc}(h:LocAV a L)(hsm:LocSm L)(H:Hp):∃ a',Ze Jw [a] H=some (a',H)∧LocAV a' L:=by
 obtain⟨a1,h1,h2⟩:=h.close [] 0 2
 obtain⟨lx,c,e,rfl,hlx,hc,he⟩:=h2
 suffices hs:∃ a2 H1,Jw [.agg (L.cells lx c e)] []=some (a2,H1)∧LocAV a2 L by
  obtain⟨a2,H1,r1,r2⟩:=hs
  obtain⟨a3,r3,r4⟩:=r2.close H1 0 2
  exact⟨a3,DW (args':=[.agg (L.cells lx c e)]) (by simp[h1]) r1 r3,r4⟩
 obtain⟨x',T1,p1,p2,p3,p4⟩:=FC hlx (by rw[List.length_map];exact hsm.w) (bytes:=8) (by omega) [AObj.cells (L.cells lx c e),.cells [(.str []),.nils,(.str []),(.str []),.nils,.nils]]
 have g0:([AObj.cells (L.cells lx c e),.cells [(.str []),.nils,(.str []),(.str []),.nils,.nils]]++T1)[0]?=some (.cells (L.cells lx c e)):=by simp
 have g0':([AObj.cells (L.cells lx c e),.cells [(.str []),.nils,(.str []),(.str []),.nils,.nils]]++T1)[1]?=some (.cells [(.str []),.nils,(.str []),(.str []),.nils,.nils]):=by simp
 generalize hH1:[AObj.cells (L.cells lx c e),.cells [(.str []),.nils,(.str []),(.str []),.nils,.nils]]++T1=H1 at p1 g0 g0'
 have s1:=R0 g0 1 (v:=x') p3 p4 (by simp[Loc.cells])
 have g1:(H1.set 0 (.cells (L.cells x' c e)))[0]?=some (.cells (L.cells x' c e)):=Zv _ g0
 have g1':(H1.set 0 (.cells (L.cells x' c e)))[1]?=some (.cells [(.str []),.nils,(.str []),(.str []),.nils,.nils]):=Y5 _ (by decide) g0'
 have s1':Zh 1 (.ptr 0 1) x' H1=some (.tuple [],H1.set 0 (.cells (L.cells x' c e))):=s1
 generalize hH2:H1.set 0 (.cells (L.cells x' c e))=H2 at s1' g1 g1'
 obtain⟨c',T2,q1,q2,q3,q4⟩:=FC hc (by rw[List.length_map];exact hsm.cls) (bytes:=48) (by omega) H2
 have g2:(H2++T2)[0]?=some (.cells (L.cells x' c e)):=YB g1 _
 have g2':(H2++T2)[1]?=some (.cells [(.str []),.nils,(.str []),(.str []),.nils,.nils]):=YB g1' _
 generalize hH3:H2++T2=H3 at q1 g2 g2'
 have s2:Zh 1 (.ptr 0 4) c' H3=some (.tuple [],H3.set 0 (.cells (L.cells x' c' e))):=R0 g2 4 (v:=c') q3 q4 (by simp[Loc.cells])
 have g3:(H3.set 0 (.cells (L.cells x' c' e)))[0]?=some (.cells (L.cells x' c' e)):=Zv _ g2
 have g3':(H3.set 0 (.cells (L.cells x' c' e)))[1]?=some (.cells [(.str []),.nils,(.str []),(.str []),.nils,.nils]):=Y5 _ (by decide) g2'
 generalize hH4:H3.set 0 (.cells (L.cells x' c' e))=H4 at s2 g3 g3'
 obtain⟨e',T3,r1,r2,r3,r4⟩:=FC he (by rw[List.length_map];exact hsm.els) (bytes:=24) (by omega) H4
 have g4:(H4++T3)[0]?=some (.cells (L.cells x' c' e)):=YB g3 _
 have g4':(H4++T3)[1]?=some (.cells [(.str []),.nils,(.str []),(.str []),.nils,.nils]):=YB g3' _
 generalize hH5:H4++T3=H5 at r1 g4 g4'
 have s3:Zh 1 (.ptr 0 5) e' H5=some (.tuple [],H5.set 0 (.cells (L.cells x' c' e'))):=R0 g4 5 (v:=e') r3 r4 (by simp[Loc.cells])
 have g5:(H5.set 0 (.cells (L.cells x' c' e')))[0]?=some (.cells (L.cells x' c' e')):=Zv _ g4
 have g5':(H5.set 0 (.cells (L.cells x' c' e')))[1]?=some (.cells [(.str []),.nils,(.str []),(.str []),.nils,.nils]):=Y5 _ (by decide) g4'
 generalize hH6:H5.set 0 (.cells (L.cells x' c' e'))=H6 at s3 g5 g5'
 have hld:Z4 true 6 (.ptr 0 0) H6=some (.agg (L.cells x' c' e')):=by rw[U7 g5];simp[Go.Am.apart,Loc.cells]
 have hst:Zh 6 (.ptr 1 0) (.agg (L.cells x' c' e')) H6=some (.tuple [],H6.set 1 (.cells (L.cells x' c' e'))):=by
  have hkn:(AV.agg (L.cells x' c' e')).known=true:=by simp[AV.known,Loc.cells,p4,q4,r4]
  refine (VK (v:=.agg (L.cells x' c' e')) g5' hkn rfl (by show 0+6≤6;omega)).trans ?_
  rfl
 have g6:=Zv (AObj.cells (L.cells x' c' e')) g5'
 have hld2:Z4 true 6 (.ptr 1 0) (H6.set 1 (.cells (L.cells x' c' e')))=some (.agg (L.cells x' c' e')):=by rw[U7 g6];simp[Go.Am.apart,Loc.cells]
 have la:=Y2 (show ([AObj.cells (L.cells lx c e),.cells [(.str []),.nils,(.str []),(.str []),.nils,.nils]])[0]?=some (.cells (L.cells lx c e)) from rfl) 1 (v:=lx) rfl
 have lb:=Y2 g1 4 (v:=c) rfl
 have lc:=Y2 g3 5 (v:=e) rfl
 refine⟨_,H6.set 1 (.cells (L.cells x' c' e')),?_,⟨x',c',e',rfl,p2,q2,r2⟩⟩
 rw[Io]
 unfold Li
 simp only[X8,go_sem,List.nil_append,List.cons_append,List.length_nil,List.length_cons,Nat.zero_add,Nat.add_zero,la,p1,s1',lb,q1,s2,lc,r1,s3,hld,hst,hld2]
end Go.Am
namespace Go.Am
open Go.Proofs Go.Proofs.YtehanadfidoodaaGreatDoor
set_option maxRecDepth 100000
section
variable {H:Type}
theorem ZoI {d:DataW H}{a:AV}(h:AT Tryz.prog 29 d a)(hb:Ww d):∃ p:Spec,SpecAV a p∧(∀ k∈p.keys,KeOk k)∧p.keys.length≤1048576:=by
 obtain⟨n,cs,ht,e0⟩:=h.agg ZqF
 subst e0
 obtain⟨ds,parts,m,rfl,rfl,h1,h2,h3⟩:=ht.fields ZkY
 obtain⟨a,b,c,d,e,rfl⟩:=I7 h1
 obtain⟨a',b',c',d',e',rfl⟩:=I7 h2
 obtain⟨x,ks,rfl,hx,hk,hkn⟩:=ZpX (h3 0 27 a a' rfl rfl rfl) (VY hb (i:=0) rfl)
 obtain⟨y,_,rfl,_⟩:=(h3 1 3 b b' rfl rfl rfl).int JX
 obtain⟨z,_,rfl,_⟩:=(h3 2 3 c c' rfl rfl rfl).int JX
 obtain⟨u,_,rfl⟩:=(h3 3 4 d d' rfl rfl rfl).bool ZhF
 obtain⟨v,_,rfl⟩:=(h3 4 4 e e' rfl rfl rfl).bool ZhF
 exact⟨⟨ks,y,z,v,u⟩,⟨x,rfl,hx⟩,hk,hkn⟩
theorem Zq1 {d:DataW H}{a:AV}(h:AT Tryz.prog 26 d a)(hb:Ww d):∃ L:Loc,LocAV a L∧LocOk L∧LocSm L:=by
 obtain⟨n,cs,ht,e0⟩:=h.agg ZqE
 subst e0
 obtain⟨ds,parts,m,rfl,rfl,h1,h2,h3⟩:=ht.fields ZkX
 obtain⟨a,b,c,d,e,f,rfl⟩:=Zmc h1
 obtain⟨a',b',c',d',e',f',rfl⟩:=Zmc h2
 have s0:=VY hb (i:=0) rfl
 have s2:=VY hb (i:=2) rfl
 have s3:=VY hb (i:=3) rfl
 obtain⟨nm,e0,rfl,_⟩:=(h3 0 9 a a' rfl rfl rfl).str TD
 obtain⟨x,w,rfl,hx,_,hw⟩:=ZpW (h3 1 22 b b' rfl rfl rfl) (VY hb (i:=1) rfl)
 obtain⟨lo,e2,rfl,_⟩:=(h3 2 9 c c' rfl rfl rfl).str TD
 obtain⟨up,e3,rfl,_⟩:=(h3 3 9 d d' rfl rfl rfl).str TD
 obtain⟨y,cl,rfl,hy,hcl,hncl⟩:=ZpA (h3 4 23 e e' rfl rfl rfl) (VY hb (i:=4) rfl)
 obtain⟨z,el,rfl,hz,hel,hnel⟩:=ZqZ (h3 5 24 f f' rfl rfl rfl) (VY hb (i:=5) rfl)
 rw[e0]at s0
 rw[e2]at s2
 rw[e3]at s3
 have:=B3 s0
 have:=B3 s2
 have:=B3 s3
 exact⟨⟨nm,w,lo,up,cl,el⟩,⟨x,y,z,rfl,hx,hy,hz⟩,⟨by show nm.length≤_;omega,by show w.length≤_;omega,by show lo.length≤_;omega,by show up.length≤_;omega,hcl,hel,by show cl.length≤_;omega,by show el.length≤_;omega⟩,⟨hw,hncl,hnel⟩⟩
end
end Go.Am
namespace Go.Am
set_option linter.unusedSimpArgs false
set_option linter.unusedVariables false
set_option linter.unusedSectionVars false
section
variable {α:Type}{f:α→α→Int}
def Strict (f:α→α→Int)(l:List α):Prop:=l.Pairwise fun a b=>f a b<0
theorem Strict.srt {l:List α}(h:Strict f l):GY f l:=List.Pairwise.imp (fun h=>by omega) h
variable (h:Cm f)
include h
theorem A9 {x y z:α}(h1:Yt f x y=true)(h2:Yt f y z=true):Yt f x z=true:=by
 rw[h.eqv_iff]at *
 have a:=h.tr x y z (by omega) (by omega)
 have b:=h.tr2 x y z (by omega) (by omega)
 omega
theorem OI {x y:α}(h1:Yt f x y=true):Yt f y x=true:=by
 rw[h.eqv_iff]at *
 have:=h.sym x y
 omega
theorem AN (out:List α)(x:α):Qf f out x=true↔∃ y,out.getLast?=some y∧f y x=0:=by
 unfold Qf
 cases out.getLast? with
 |none=>simp
 |some y=>simp
theorem Zdq:∀ (l out:List α),Strict f out→(∀ a∈out,∀ b∈l,f a b≤0)→GY f l →
 Strict f (WM f out l)∧∀ x,(WM f out l).filter (Yt f x)=if out.filter (Yt f x)=[] then (l.filter (Yt f x)).take 1 else out.filter (Yt f x):=by
 intro l
 induction l with
 |nil =>
  intro out hs _ _
  refine⟨hs,fun x=>?_⟩
  show out.filter (Yt f x)=_
  split
  ·rename_i h0;rw[h0];rfl
  ·rfl
 |cons a l ih =>
  intro out hs hc hl
  have hl':=List.pairwise_cons.1 hl
  unfold WM
  cases hsl:Qf f out a with
  |true =>
   obtain⟨y,hy,hya⟩:=(AN h out a).1 hsl
   have hyo:y∈out:=List.mem_of_getLast? hy
   obtain⟨i1,i2⟩:=ih out hs (fun b hb c hc'=>hc b hb c (by simp[hc'])) hl'.2
   refine⟨i1,fun x=>?_⟩
   rw[if_pos rfl,i2]
   split
   ·rename_i h0
    have:Yt f x a=false:=by
     cases hxa:Yt f x a with
     |false=>rfl
     |true =>
      have hay:Yt f a y=true:=OI h ((h.eqv_iff y a).2 hya)
      have:=A9 h hxa hay
      have hm:y∈out.filter (Yt f x):=List.mem_filter.2 ⟨hyo,this⟩
      rw[h0]at hm
      cases hm
    rw[List.filter_cons,this]
    rfl
   ·rfl
  |false =>
   have hout:∀ b∈out,f b a<0:=fun b hb=>by
    cases hg:out.getLast? with
    |none=>rw[List.getLast?_eq_none_iff.1 hg]at hb;cases hb
    |some y =>
     have hyo:y∈out:=List.mem_of_getLast? hg
     have hya:f y a<0:=by
      have h1:=hc y hyo a (by simp)
      have h2:f y a≠0:=fun e=>by
       have:=(AN h out a).2 ⟨y,hg,e⟩
       rw[hsl]at this
       cases this
      omega
     have hby:f b y≤0:=by
      obtain⟨i,hi⟩:=List.getElem?_of_mem hb
      obtain⟨hil,hie⟩:=List.getElem?_eq_some_iff.1 hi
      rw[List.getLast?_eq_getElem?]at hg
      obtain⟨hjl,hje⟩:=List.getElem?_eq_some_iff.1 hg
      by_cases hij:i=out.length-1
      ·subst hij
       rw[hie]at hje
       rw[hje,h.self];exact Int.le_refl _
      ·have:=List.pairwise_iff_getElem.1 hs i (out.length-1) hil hjl (by omega)
       rw[hie,hje]at this
       omega
     exact h.le_lt hby hya
   have hs':Strict f (out++[a]):=List.pairwise_append.2 ⟨hs,List.pairwise_singleton _ _,fun b hb c hc'=>by rw[List.mem_singleton.1 hc'];exact hout b hb⟩
   obtain⟨i1,i2⟩:=ih (out++[a]) hs' (fun b hb c hc'=>by
    rcases List.mem_append.1 hb with hb|hb
    ·exact hc b hb c (by simp[hc'])
    ·rw[List.mem_singleton.1 hb];exact hl'.1 c hc') hl'.2
   refine⟨by simpa using i1,fun x=>?_⟩
   rw[if_neg (by decide),i2,List.filter_append]
   cases hxa:Yt f x a with
   |false=>simp[List.filter_cons,hxa]
   |true =>
    have h0:out.filter (Yt f x)=[]:=by
     rw[List.filter_eq_nil_iff]
     intro b hb hxb
     have h1:=hout b hb
     have h2:=A9 h (OI h hxb) hxa
     rw[h.eqv_iff]at h2
     omega
    rw[h0]
    simp[List.filter_cons,hxa]
end
section
variable {L:Loc}{p:Spec}(hv:ZL p=0)
include hv
theorem Zc8:Zs p=p:=by
 unfold Zs
 rw[if_neg (by simp[hv])]
theorem ZjF (l:List Zj):YN L p l=if p.uniq then WM (ZN L p) [] (F0 (ZN L p) l) else F0 (ZN L p) l:=by
 unfold YN
 rw[if_neg (by simp[hv])]
 cases hu:p.uniq with
 |false=>rfl
 |true =>
  have:Xz L p=ZN L p:=funext fun a=>funext fun b=>(MO (by rw[Zc8 hv,hu,Bool.or_true]) a b).symm
  rw[this]
theorem Sb (l:List Zj):GY (ZN L p) (YN L p l)∧(p.uniq=true→Strict (ZN L p) (YN L p l))∧∀ x,(YN L p l).filter (Yt (ZN L p) x)=if p.uniq then (l.filter (Yt (ZN L p) x)).take 1 else l.filter (Yt (ZN L p) x):=by
 have hc:=M9 L p
 obtain⟨b1,b2⟩:=Zf8 hc l [] List.Pairwise.nil
 have b2':∀ x,(F0 (ZN L p) l).filter (Yt (ZN L p) x)=l.filter (Yt (ZN L p) x):=fun x=>by
  rw[show F0 (ZN L p) l=l.foldl (MK (ZN L p)) [] from rfl,b2];rfl
 rw[ZjF hv]
 cases hu:p.uniq with
 |false=>exact⟨b1,fun h=>(by cases h),b2'⟩
 |true =>
  obtain⟨c1,c2⟩:=Zdq hc (F0 (ZN L p) l) [] List.Pairwise.nil (fun a ha=>by cases ha) b1
  refine⟨c1.srt,fun _=>c1,fun x=>?_⟩
  rw[if_pos rfl,if_pos rfl,c2]
  show (if ([]:List Zj)=[] then _ else _)=_
  rw[if_pos rfl,b2']
end
section
variable {α:Type}{f:α→α→Int}
def YM (f:α→α→Int):List (List α)→Nat→Option (Nat×α)→Option (Nat×α)
 |[],_,b=>b
 |x::r,i,b=>YM f r (i+1) (match x with
  |[]=>b
  |a::_=>match b with
   |none=>some (i,a)
   |some (j,c)=>if 0<f c a then some (i,a) else some (j,c))
theorem ZbB (f:α→α→Int)(r:List (List α))(i:Nat)(b:Option (Nat×α)):YM f ([]::r) i b=YM f r (i+1) b:=(Eq.refl _).trans (Eq.refl _)
theorem O8 (f:α→α→Int)(a:α)(t:List α)(r:List (List α))(i:Nat):YM f ((a::t)::r) i none=YM f r (i+1) (some (i,a)):=(Eq.refl _).trans (Eq.refl _)
theorem ML (f:α→α→Int)(a:α)(t:List α)(r:List (List α))(i j:Nat)(c:α):YM f ((a::t)::r) i (some (j,c))=YM f r (i+1) (if 0<f c a then some (i,a) else some (j,c)):=(Eq.refl _).trans (Eq.refl _)
def XM (f:α→α→Int):Nat→List (List α)→List α
 |0,_=>[]
 |n+1,rest=>match YM f rest 0 none with
  |none=>[]
  |some (k,a)=>a::XM f n (rest.set k ((rest.getD k []).drop 1))
theorem G8 {f:α→α→Int}{n:Nat}{rest:List (List α)}(h:YM f rest 0 none=none):XM f (n+1) rest=[]:=by rw[XM,h]
theorem QE {f:α→α→Int}{n:Nat}{rest:List (List α)}{k:Nat}{a:α}(h:YM f rest 0 none=some (k,a)):XM f (n+1) rest=a::XM f n (rest.set k ((rest.getD k []).drop 1)):=by rw[XM,h]
def Y0:List (List α)→Nat
 |[]=>0
 |x::r=>x.length+Y0 r
theorem R2 (A B:List (List α)):Y0 (A++B)=Y0 A+Y0 B:=by
 induction A with
 |nil=>simp[Y0]
 |cons x A ih=>simp only[List.cons_append,Y0,ih];omega
theorem TB (A:List (List α)):A.flatten.length=Y0 A:=by
 induction A with
 |nil=>rfl
 |cons x A ih=>simp[Y0,ih]
def ZhH (f:α→α→Int)(P:List (List α)):Option (Nat×α)→Prop
 |none=>∀ l∈P,l=[]
 |some (k,a)=>∃ A t B,P=A++(a::t)::B∧A.length=k∧(∀ l∈A,∀ c,l.head?=some c→0<f c a)∧(∀ l∈B,∀ c,l.head?=some c→f a c≤0)
theorem Zo4 (f:α→α→Int):∀ (r P:List (List α)) (b:Option (Nat×α)),(∀ k a,b=some (k,a)→∃ t,P[k]?=some (a::t))→(b=none→∀ l∈P,l=[]) →
 (∀ k a,YM f r P.length b=some (k,a)→∃ t,(P++r)[k]?=some (a::t))∧(YM f r P.length b=none→∀ l∈P++r,l=[]):=by
 intro r
 induction r with
 |nil=>intro P b h1 h2;rw[List.append_nil];exact⟨h1,h2⟩
 |cons x r ih =>
  intro P b h1 h2
  have grow:∀ b',(∀ k a,b'=some (k,a)→∃ t,(P++[x])[k]?=some (a::t))→(b'=none→∀ l∈P++[x],l=[])→(∀ k a,YM f r (P.length+1) b'=some (k,a)→∃ t,(P++x::r)[k]?=some (a::t))∧(YM f r (P.length+1) b'=none→∀ l∈P++x::r,l=[]):=fun b' g1 g2=>by
   have:=ih (P++[x]) b' g1 g2
   rwa [List.length_append,List.length_singleton,List.append_assoc,List.singleton_append]at this
  have old:∀ k a,b=some (k,a)→∃ t,(P++[x])[k]?=some (a::t):=fun k a e=>by
   obtain⟨t,ht⟩:=h1 k a e
   exact⟨t,by rw[List.getElem?_append_left (List.getElem?_eq_some_iff.1 ht).1];exact ht⟩
  cases x with
  |nil =>
   rw[ZbB]
   refine grow b old fun e l hl=>?_
   rcases List.mem_append.1 hl with hl|hl
   ·exact h2 e l hl
   ·exact List.mem_singleton.1 hl
  |cons a t =>
   have hnew:∀ k a',some (P.length,a)=some (k,a')→∃ t',(P++[a::t])[k]?=some (a'::t'):=fun k a' e=>by
    injection e with e
    injection e with e1 e2
    subst e1 e2
    exact⟨t,by rw[List.getElem?_append_right (Nat.le_refl _)];simp⟩
   cases b with
   |none =>
    rw[O8]
    exact grow _ hnew fun e=>(by cases e)
   |some q =>
    obtain⟨j,c⟩:=q
    rw[ML]
    split
    ·exact grow _ hnew fun e=>(by cases e)
    ·exact grow _ old fun e=>(by cases e)
variable (h:Cm f)
include h
theorem ZgV:∀ (r P:List (List α)) (b:Option (Nat×α)),ZhH f P b→ZhH f (P++r) (YM f r P.length b):=by
 intro r
 induction r with
 |nil=>intro P b hb;rw[List.append_nil];exact hb
 |cons x r ih =>
  intro P b hb
  have grow:∀ b',ZhH f (P++[x]) b'→ZhH f (P++x::r) (YM f r (P.length+1) b'):=fun b' hb'=>by
   have:=ih (P++[x]) b' hb'
   rwa [List.length_append,List.length_singleton,List.append_assoc,List.singleton_append]at this
  cases x with
  |nil =>
   rw[ZbB]
   refine grow b ?_
   cases b with
   |none =>
    intro l hl
    rcases List.mem_append.1 hl with hl|hl
    ·exact hb l hl
    ·exact List.mem_singleton.1 hl
   |some q =>
    obtain⟨k,a⟩:=q
    obtain⟨A,t,B,rfl,hk,h1,h2⟩:=hb
    refine⟨A,t,B++[[]],by simp,hk,h1,fun l hl c hc=>?_⟩
    rcases List.mem_append.1 hl with hl|hl
    ·exact h2 l hl c hc
    ·rw[List.mem_singleton.1 hl]at hc;cases hc
  |cons a t =>
   cases b with
   |none =>
    rw[O8]
    refine grow _ ⟨P,t,[],rfl,rfl,fun l hl c hc=>?_,fun l hl=>(by cases hl)⟩
    rw[hb l hl]at hc;cases hc
   |some q =>
    obtain⟨j,c⟩:=q
    rw[ML]
    obtain⟨A,t',B,rfl,hk,h1,h2⟩:=hb
    split
    ·rename_i hca
     have hac:f a c<0:=by have:=h.sym c a;omega
     refine grow _ ⟨A++(c::t')::B,t,[],rfl,rfl,fun l hl d hd=>?_,fun l hl=>(by cases hl)⟩
     have key:f a d<0→0<f d a:=fun hd=>by have:=h.sym d a;omega
     rcases List.mem_append.1 hl with hl|hl
     ·have h3:=h1 l hl d hd
      have h4:f c d<0:=by have:=h.sym d c;omega
      exact key (h.lt_le hac (by omega))
     ·rcases List.mem_cons.1 hl with rfl|hl
      ·injection hd with hd
       subst hd
       exact key hac
      ·exact key (h.lt_le hac (h2 l hl d hd))
    ·rename_i hca
     refine grow _ ⟨A,t',B++[a::t],by simp,hk,h1,fun l hl d hd=>?_⟩
     rcases List.mem_append.1 hl with hl|hl
     ·exact h2 l hl d hd
     ·rw[List.mem_singleton.1 hl]at hd
      injection hd with hd
      subst hd
      omega
theorem ZbE:∀ (n:Nat) (rest:List (List α)),Y0 rest≤n→(∀ l∈rest,GY f l) →
 GY f (XM f n rest)∧(∀ y∈XM f n rest,y∈rest.flatten)∧∀ x,(XM f n rest).filter (Yt f x)=rest.flatten.filter (Yt f x):=by
 intro n
 induction n with
 |zero =>
  intro rest ht _
  have h0:rest.flatten=[]:=List.length_eq_zero_iff.1 (by rw[TB];omega)
  exact⟨List.Pairwise.nil,fun y hy=>(by cases hy),fun x=>by rw[h0];rfl⟩
 |succ n ih =>
  intro rest ht hs
  have hb:=ZgV h rest [] none (fun l hl=>(by cases hl))
  rw[List.nil_append,List.length_nil]at hb
  cases hL:YM f rest 0 none with
  |none =>
   rw[hL]at hb
   have h0:rest.flatten=[]:=by
    rw[List.flatten_eq_nil_iff];exact hb
   rw[G8 hL]
   exact⟨List.Pairwise.nil,fun y hy=>(by cases hy),fun x=>by rw[h0]⟩
  |some q =>
   obtain⟨k,a⟩:=q
   rw[hL]at hb
   obtain⟨A,t,B,rfl,hk,h1,h2⟩:=hb
   rw[QE hL]
   have hset:(A++(a::t)::B).set k (((A++(a::t)::B).getD k []).drop 1)=A++t::B:=by
    subst hk
    rw[List.getD_eq_getElem?_getD,List.getElem?_append_right (Nat.le_refl _)]
    simp
   rw[hset]
   have hsa:GY f (a::t):=hs _ (by simp)
   have hs':∀ l∈A++t::B,GY f l:=fun l hl=>by
    rcases List.mem_append.1 hl with hl|hl
    ·exact hs l (by simp[hl])
    ·rcases List.mem_cons.1 hl with rfl|hl
     ·exact (List.pairwise_cons.1 hsa).2
     ·exact hs l (by simp[hl])
   obtain⟨i1,i2,i3⟩:=ih (A++t::B) (by rw[R2]at ht ⊢;simp only[Y0,List.length_cons]at ht ⊢;omega) hs'
   have hA:∀ y∈A.flatten,f a y<0:=fun y hy=>by
    obtain⟨l,hl,hyl⟩:=List.mem_flatten.1 hy
    cases l with
    |nil=>cases hyl
    |cons c l' =>
     have h3:=h1 _ hl c rfl
     have h4:f a c<0:=by have:=h.sym c a;omega
     rcases List.mem_cons.1 hyl with e|e
     ·rw[e];exact h4
     ·exact h.lt_le h4 ((List.pairwise_cons.1 (hs (c::l') (by simp[hl]))).1 y e)
   have hall:∀ y∈(A++t::B).flatten,f a y≤0:=fun y hy=>by
    rw[List.flatten_append,List.flatten_cons]at hy
    rcases List.mem_append.1 hy with hy|hy
    ·have:=hA y hy;omega
    ·rcases List.mem_append.1 hy with hy|hy
     ·exact (List.pairwise_cons.1 hsa).1 y hy
     ·obtain⟨l,hl,hyl⟩:=List.mem_flatten.1 hy
      cases l with
      |nil=>cases hyl
      |cons c l' =>
       have h3:=h2 _ hl c rfl
       rcases List.mem_cons.1 hyl with e|e
       ·rw[e];exact h3
       ·exact h.le_trans h3 ((List.pairwise_cons.1 (hs (c::l') (by simp[hl]))).1 y e)
   refine⟨List.pairwise_cons.2 ⟨fun y hy=>hall y (i2 y hy),i1⟩,fun y hy=>?_,fun x=>?_⟩
   ·rcases List.mem_cons.1 hy with e|e
    ·rw[e];simp
    ·have:=i2 y e
     rw[List.flatten_append,List.flatten_cons]at this ⊢
     rcases List.mem_append.1 this with h|h
     ·simp[h]
     ·rcases List.mem_append.1 h with h|h
      ·simp[h]
      ·exact List.mem_append_right _ (List.mem_append_right _ h)
   ·rw[List.filter_cons,i3,List.flatten_append,List.flatten_append,List.flatten_cons,List.flatten_cons,List.filter_append,List.filter_append,List.filter_append,List.filter_append,List.filter_cons]
    cases hx:Yt f x a with
    |false=>simp
    |true =>
     have hA0:A.flatten.filter (Yt f x)=[]:=by
      rw[List.filter_eq_nil_iff]
      intro y hy hxy
      have h3:=A9 h (OI h hx) hxy
      rw[h.eqv_iff]at h3
      have:=hA y hy
      omega
     rw[hA0]
     simp
end
section
variable {L:Loc}{p:Spec}(hv:ZL p=0)
include hv
def LJ (L:Loc)(p:Spec)(ls:List (List Zj)):List Zj :=
 if p.uniq then WM (Xz L p) [] (XM (ZN L p) (Y0 ls) ls) else XM (ZN L p) (Y0 ls) ls
theorem Zh0 (ls:List (List Zj)):LJ L p (ls.map (YN L p))=YN L p ls.flatten:=by
 have hc:=M9 L p
 obtain⟨m1,_,m3⟩:=ZbE hc (Y0 (ls.map (YN L p))) (ls.map (YN L p)) (Nat.le_refl _) (fun l hl=>by
  obtain⟨k,_,rfl⟩:=List.mem_map.1 hl
  exact (Sb hv k).1)
 obtain⟨s1,s2,s3⟩:=Sb (L:=L) hv ls.flatten
 unfold LJ
 cases hu:p.uniq with
 |false =>
  rw[if_neg (by decide)]
  refine Zab hc _ _ m1 s1 fun x=>?_
  rw[m3,s3,hu,if_neg (by decide)]
  have:∀ ls:List (List Zj),(ls.map (YN L p)).flatten.filter (Yt (ZN L p) x)=ls.flatten.filter (Yt (ZN L p) x):=by
   intro ls
   induction ls with
   |nil=>rfl
   |cons l ls ih =>
    rw[List.map_cons,List.flatten_cons,List.flatten_cons,List.filter_append,List.filter_append,ih,(Sb hv l).2.2,hu,if_neg (by decide)]
  exact this ls
 |true =>
  have hg:Xz L p=ZN L p:=funext fun a=>funext fun b=>(MO (by rw[Zc8 hv,hu,Bool.or_true]) a b).symm
  rw[if_pos rfl,hg]
  obtain⟨c1,c2⟩:=Zdq hc _ [] List.Pairwise.nil (fun a ha=>by cases ha) m1
  refine Zab hc _ _ c1.srt s1 fun x=>?_
  rw[c2,s3,hu,if_pos rfl]
  show (if ([]:List Zj)=[] then _ else _)=_
  rw[if_pos rfl,m3]
  have:∀ ls:List (List Zj),((ls.map (YN L p)).flatten.filter (Yt (ZN L p) x)).take 1=(ls.flatten.filter (Yt (ZN L p) x)).take 1:=by
   intro ls
   induction ls with
   |nil=>rfl
   |cons l ls ih =>
    rw[List.map_cons,List.flatten_cons,List.flatten_cons,List.filter_append,List.filter_append,(Sb hv l).2.2,hu,if_pos rfl]
    cases hl:l.filter (Yt (ZN L p) x) with
    |nil=>simpa using ih
    |cons a r=>simp
  exact this ls
end
end Go.Am
namespace Go.Am
open Go.Proofs Go.Proofs.YtehanadfidoodaaGreatDoor
set_option maxRecDepth 100000
abbrev Ef (ls:List (List Zj)):Prop:=∀ l∈ls,Bu l
section
variable {H:Type}
theorem ZoJ {n:Nat}{d:DataW H}{vals:List AV}(h:TV Tryz.prog n 32 d vals)(hb:Ww d):∃ (x:AV) (ks:List Zj),vals=[x]∧SS x ks∧Bu ks∧ks.length≤Rows.uptoBulk d:=by
 obtain⟨x,ks,rfl,h1,h2,h3⟩:=Zqv h hb
 refine⟨x,ks,rfl,h1,h2,?_⟩
 rcases h.slice Zg3 with ⟨_,e⟩|⟨es,sp,l,m,rfl,e,g1,_,_⟩
 ·injection e with e
  subst e
  rcases h1 with ⟨_,h0⟩|⟨t,h0⟩
  ·have:ks=[]:=List.map_eq_nil_iff.1 h0
   subst this
   exact Nat.zero_le _
  ·cases h0
 ·injection e with e
  subst e
  rcases h1 with ⟨h0,_⟩|⟨t,h0⟩
  ·cases h0
  ·injection h0 with _ _ h0
   have:=congrArg List.length h0
   rw[List.length_map]at this
   have b:=(OF es).1
   rw[Rows.uptoBulk]
   omega
theorem pick (m:Nat):∀ (l:List AV) (es:List (DataW H)),l.length=es.length→(∀ (i:Nat) (x:AV) (d':DataW H),l[i]?=some x→es[i]?=some d'→∃ cs,x=Wd (YT Tryz.prog 32) cs∧TV Tryz.prog m 32 d' cs)→Rows.uptoBulkAll es≤1048576 →
 ∃ ls:List (List Zj),EE l ls∧Ef ls∧Y0 ls≤Rows.uptoBulkAll es:=by
 intro l
 induction l with
 |nil=>intro es _ _ _;exact⟨[],EE.nil,fun l hl=>(by cases hl),Nat.zero_le _⟩
 |cons x l ih =>
  intro es hl h3 hb
  cases es with
  |nil=>simp at hl
  |cons d es =>
   rw[Rows.uptoBulkAll]at hb
   obtain⟨cs,e,ht⟩:=h3 0 x d rfl rfl
   obtain⟨a,ks,rfl,g1,g2,g3⟩:=ZoJ ht (show Rows.uptoBulk d≤1048576 by omega)
   rw[ZqG,Fm]at e
   subst e
   obtain⟨ls,i1,i2,i3⟩:=ih es (by simpa using hl) (fun i y d' hy hd=>h3 (i+1) y d' (by simpa using hy) (by simpa using hd)) (by omega)
   refine⟨ks::ls,EE.cons g1 i1,fun l hl=>?_,?_⟩
   ·rcases List.mem_cons.1 hl with e|hl
    ·subst e;exact g2
    ·exact i2 l hl
   ·rw[Rows.uptoBulkAll,Y0];omega
theorem Zo7 {d:DataW H}{a:AV}(h:AT Tryz.prog 30 d a)(hb:Ww d):∃ ls:List (List Zj),LsV a ls∧Ef ls∧Y0 ls≤1048576∧ls.length≤1048576:=by
 obtain⟨n,vals,ht,rfl⟩:=h
 rcases ht.slice ZoR with ⟨_,rfl⟩|⟨es,sp,l,m,rfl,rfl,h1,_,h3⟩
 ·rw[Zk8,Fm]
  exact⟨[],.inl ⟨rfl,rfl⟩,fun l hl=>(by cases hl),Nat.zero_le _,Nat.zero_le _⟩
 ·rw[Zk8,Fm,Zn9]
  have hb':Rows.uptoBulkAll es≤1048576:=by
   unfold Ww at hb
   rw[Rows.uptoBulk]at hb
   omega
  have b:=(Od hb).2
  obtain⟨ls,i1,i2,i3⟩:=pick m l es h1 h3 hb'
  exact⟨ls,.inr ⟨.no,l,rfl,i1⟩,i2,by omega,by rw[←i1.len];omega⟩
end
end Go.Am
