/- Temporary files in the machine -/
import Derived.Test.YtnaneekpogohaaaGreatDoorXeQbx
import Derived.Test.YtnaneekpogohaaaGreatDoorXeGXx
import Derived.Test.YtnaneekpogohaaaGreatDoorXeJx
import Derived.Test.YtnaneekpogohaaaGreatDoorXeMzx
import Derived.Test.YtnaneekpogohaaaGreatDoorHmXx
open Go.IntKind renaming i64->xS
open List renaming getElem?_append_left->zA,filter_cons->zC,pairwise_cons->zD,getElem?_append_right->zE,getElem?_eq_some_iff->zF,length_nil->zG,mem_cons->zH,length_cons->zJ,getElem?_cons_zero->zM,getElem?_cons_succ->zN,length_take->zO,set->zP,length_append->zR,mem_singleton->zS,nil_append->zU,append_assoc->zV,length_singleton->zW,mem_of_getElem?->zX,length_drop->zY,cons_append->zZ,mem_append->yB,filter_append->yD,take_append_drop->yF,getElem?_of_mem->yH,mem_of_mem_take->yI,mem_of_mem_drop->yJ,mem_filter->yK,length_eq_zero_iff->yN,filter_eq_nil_iff->yP,range_succ->yQ,map_append->yR,pairwise_append->yT,all_cons->yV,map_congr_left->yX,getElem?_drop->yY,length_range'->yZ,isEmpty_cons->xB,mapM_cons->xF,mem_range->xH,mapM_nil->xJ,map_cons->xL,map_nil->xN,range'->xO,range->xR
open Nat renaming le_refl->zI,zero_add->zK,div_add_mod->yC,mul_comm->yE,div_eq_of_lt->yG,mul_add_div->yL,min_eq_right->yM,mul_div_cancel_left->yO,mul_le_mul_right->yU,le_trans->xA,le_add_right->xC,add_div_left->xD,mod_lt->xE,add_mul->xP,one_mul->xQ
open Bool renaming false_eq_true->zL,not_false->zQ,not_true->zT,true_and->yA,or_false->yW,false_and->xG,or_assoc->xI,or_true->xM
open Int renaming le_refl->yS
open Go.Am.AObj renaming cells->zB,dead->xK
namespace Go.Am
set_option linter.unusedSectionVars false
set_option maxRecDepth 100000
theorem JJ {s:Sto}(j:s.crashed=false)(g:s.count=0):s.tick=s:=by
 unfold Sto.tick;rw[if_neg (by simp[j]),if_neg (by omega)];cases s;simp only at g;subst g;rfl
theorem SysAt.same {H H':Hp}{o t:Nat}{tm:Tmp}{s':Sto}{B S:List Nat}(j:TmpAt H o t tm B)(g:∀ a∈B,a∉S)(hr:StoRes H H' t s' S S):SysAt H' o t tm s' (B++S) :=
 ⟨B,S,j.stp hr.stp g,hr.at',g,rfl⟩
section
variable {H:Hp}{o t:Nat}{tm:Tmp}{s:Sto}{A:List Nat}(h:SysAt H o t tm s A)(hm:TmpOk tm)(hk:StoOk s)(n:Zo)
include h hm hk
theorem Zsa (hf:Yg tm n≠0)(i:Int):Vh [.ptr o 0,.str n,.int .i64 i] H=some (.tuple [.str [],.int .i64 0,.int .i64 (Yg tm n)],H):=by
 obtain⟨B,S,⟨z,j,C,sl,u,rfl⟩,w,y,rfl⟩:=h;have g:=EU u hm n;have e0:(Yg tm n != 0)=true:=by simpa using hf
 rw[KT];unfold QH;simp only[g,go_sem,e0]
theorem Zsb (hf:Yg tm n=0)(hc:s.tick.crashed=false){f:Fil}(hg:ZQ s.files n=some f){p:Zo}{rest:List Zo}(D:f.text=p++ZP rest)(hfit:YZ rest=true)(hlen:f.text.length<=262144) :
 ∃ H',Vh [.ptr o 0,.str n,.int .i64 (p.length:Int)] H=some (match rest with
  |[]=>.tuple [.str [],.int .i64 0,.int .i64 5]
  |l::_=>.tuple [.str l,.int .i64 ((p++YV l).length:Int),.int .i64 0],H')/\SysAt H' o t tm s.tick A/\Stp A H H':=by
 obtain⟨B,S,j,M,N,rfl⟩:=h;have O:=j;obtain⟨V,L,W,sl,j,rfl⟩:=j;have u:=EU j hm n;have I:=ZW j.cells 0 (v:=.ptr t 0) rfl;have e0:(Yg tm n != 0)=false:=by rw[hf];rfl
 have F:((0:Int) != 0)=false:=rfl;have U:p.length<=f.text.length:=by rw[D];simp
 obtain⟨H1,E,J⟩:=Zv2 M hk n (p.length:Int) 4102 (by omega)
 have z:s.read n (p.length:Int) 4102=((ZP rest).take 4102,0):=by
  unfold Sto.read;rw[if_neg (by simp[hc]),hg];dsimp only;rw[if_neg (by omega),Int.toNat_natCast,D,List.drop_append_of_le_length (zI _),List.drop_length];rfl
 rw[z]at E;refine⟨H1,?_,SysAt.same O N J,J.stp.mono fun a Q=>by simp[Q]⟩;rw[KT];unfold QH
 cases rest with
 |nil =>
  have g:((ZP ([]:List Zo)).take 4102==([]:Zo))=true:=rfl;simp only[u,go_sem,e0,zK,KC,I,E,zM,zN,F,KD,g]
 |cons l r =>
  have T:l.length<=4096:=by
   simp only[YZ,yV,Bool.and_eq_true,decide_eq_true_eq]at hfit;exact hfit.1
  have y:(ZP (l::r)).take 4102=YV l++(ZP r).take (4102-(YV l).length):=by
   show (YV l++ZP r).take 4102=_;rw[List.take_append,List.take_of_length_le (by rw[G3];omega)]
  have g:((ZP (l::r)).take 4102==([]:Zo))=false:=by
   rw[y];have:(YV l).length≠0:=by rw[G3];omega
   cases hr:YV l with
   |nil=>rw[hr]at this;simp at this
   |cons a b=>rfl
  have w:=Zu2 l ((ZP r).take (4102-(YV l).length)) T (by
   rw[zO];omega) H1
  rw[<-y]at w
  have R:(ZP (l::r)).length<=262144:=by
   have:=congrArg List.length D;rw[zR]at this;omega
  have C:(YV l).length=l.length+6:=G3 l
  have hw:xS.wrap ((p.length:Int)+((l.length+6:Nat):Int))=((p++YV l).length:Int):=by
   rw[zR,C,Zr (by omega) (by omega)];omega
  simp only[u,go_sem,e0,zK,KC,I,E,zM,zN,F,KD,g,LN,w,LO,hw]
end
abbrev VX (o:Nat)(n:Zo)(i:Nat)(g u:Bool)(j:Zo):List AV:=[.ptr o 0,.str n,.int .i64 (i:Int),.bool g,.bool u,.str j]
def Rdr (H:Hp)(r o:Nat)(n text:Zo)(rest:List Zo):Prop :=
 (∃ l q p,H[r]?=some (.cells (VX o n (p++YV l).length true false l))/\rest=l::q/\text=p++YV l++ZP q) \/
 (rest=[]/\∃ p,H[r]?=some (.cells (VX o n p false true []))) \/
 ∃ p,H[r]?=some (.cells (VX o n p.length false false []))/\text=p++ZP rest
theorem Rdr.cells {H:Hp}{r o:Nat}{n text:Zo}{rest:List Zo}(h:Rdr H r o n text rest):∃ c,H[r]?=some (.cells c):=by
 rcases h with ⟨l,q,p,h,_⟩|⟨_,p,h⟩|⟨p,h,_⟩ <;> exact⟨_,h⟩
theorem Rdr.frame {H H':Hp}{r o:Nat}{n text:Zo}{rest:List Zo}(h:Rdr H r o n text rest)(hf:H'[r]?=H[r]?):Rdr H' r o n text rest:=by
 unfold Rdr at h ⊢;rw[hf];exact h
section
variable {H:Hp}{o t:Nat}{tm:Tmp}{s:Sto}{A:List Nat}(h:SysAt H o t tm s A)(hm:TmpOk tm)(hk:StoOk s){n:Zo}{r:Nat}{f:Fil}{rest:List Zo}
 (hr:Rdr H r o n f.text rest) (hrA:r∉A) (hf:Yg tm n=0) (hc:s.crashed=false) (h0:s.count=0) (hg:ZQ s.files n=some f) (hfit:YZ rest=true) (hlen:f.text.length<=262144)
include h hm hk hr hrA hf hc h0 hg hfit hlen
theorem Zv0:∃ H',V8 [.ptr r 0] H=some (.tuple [.str (rest.headD []),.bool (!rest.isEmpty),.int .i64 0],H')/\SysAt H' o t tm s A/\Stp (r::A) H H' /\
 (rest=[]/\(∃ p,H'[r]?=some (.cells (VX o n p false true [])))\/∃ l q p,H'[r]?=some (.cells (VX o n (p++YV l).length true false l))/\rest=l::q/\f.text=p++YV l++ZP q):=by
 have E:=JJ hc h0;have g:Ys (.pointer 150) .eql (.ptr r 0) .nilp=some (.bool false):=rfl;rw[FK];unfold KS;rcases hr with ⟨l,q,p,hr,rfl,w⟩|⟨rfl,p,hr⟩|⟨p,hr,w⟩
 ·have z:=ZW hr 3 (v:=.bool true) rfl;have l5:=ZW hr 5 (v:=.str l) rfl;refine⟨H,?_,h,Stp.refl _ _,.inr ⟨l,q,p,hr,rfl,w⟩⟩;simp only[go_sem,zK,g,X7,z,zT,X8,DE,l5];rfl
 ·have z:=ZW hr 3 (v:=.bool false) rfl;have I:=ZW hr 4 (v:=.bool true) rfl;refine⟨H,?_,h,Stp.refl _ _,.inl ⟨rfl,p,hr⟩⟩;simp only[go_sem,zK,g,X7,z,I,zT,zQ,X8];rfl
 ·have z:=ZW hr 3 (v:=.bool false) rfl;have I:=ZW hr 4 (v:=.bool false) rfl;have W:=ZW hr 0 (v:=.ptr o 0) rfl;have X:=ZW hr 1 (v:=.str n) rfl;have Y:=ZW hr 2 (v:=.int .i64 (p.length:Int)) rfl;obtain⟨H1,Z,S,T⟩:=Zsb h hm hk n hf (by rw[E];exact hc) hg w hfit hlen;rw[E]at S;have F:=T.get hr hrA
  cases rest with
  |nil =>
   have e5:((5:Int)==0)=false:=rfl;have L:((5:Int)==5)=true:=rfl;have s4:=Qb F 4 (v:=.bool true) rfl rfl (by simp);have D:=Zt (zB (zP (VX o n p.length false false []) 4 (.bool true))) F;have R:=ZW D 3 (v:=.bool false) rfl;have j:Stp (r::A) H1 (H1.set r (.cells (zP (VX o n p.length false false []) 4 (.bool true)))):=Stp.set _ _ (by simp);refine⟨H1.set r (.cells (zP (VX o n p.length false false []) 4 (.bool true))),?_,S.stp (C:=[r]) (Stp.set _ _ (by simp)) (fun a u=>by simp;exact fun e=>hrA (e ▸ u)),(T.mono (B:=r::A) fun a u=>by simp[u]).trans j (fun _ h=>h) (fun _ h=>.inl h),.inl ⟨rfl,p.length,D⟩⟩;simp only[go_sem,zK,g,X7,z,I,W,X,Y,Z,zM,zN,e5,L,s4,X8,R,zQ];rfl
  |cons l q =>
   have ez:((0:Int)==0)=true:=rfl;have s5:=Qb F 5 (v:=.str l) rfl rfl (by simp);have D:=Zt (zB (zP (VX o n p.length false false []) 5 (.str l))) F;have U:=Qb D 2 (v:=.int .i64 ((p++YV l).length:Int)) rfl rfl (by simp);have M:=Zt (zB (zP (zP (VX o n p.length false false []) 5 (.str l)) 2 (.int .i64 ((p++YV l).length:Int)))) D;have J:=Qb M 3 (v:=.bool true) rfl rfl (by simp);have y:=Zt (zB (zP (zP (zP (VX o n p.length false false []) 5 (.str l)) 2 (.int .i64 ((p++YV l).length:Int))) 3 (.bool true))) M;generalize N:H1.set r (.cells (zP (VX o n p.length false false []) 5 (.str l)))=H2 at s5 U M J y;generalize O:H2.set r (.cells (zP (zP (VX o n p.length false false []) 5 (.str l)) 2 (.int .i64 ((p++YV l).length:Int))))=H3 at U J y;generalize Q:H3.set r (.cells (zP (zP (zP (VX o n p.length false false []) 5 (.str l)) 2 (.int .i64 ((p++YV l).length:Int))) 3 (.bool true)))=V at J y;have R:=ZW y 3 (v:=.bool true) rfl;have k5:=ZW y 5 (v:=.str l) rfl
   have j:Stp [r] H1 V:=by
    rw[<-Q,<-O,<-N];exact ((Stp.set _ _ (by simp)).trans (Stp.set _ _ (by simp)) (fun _ h=>h) fun _ h=>.inl h).trans (Stp.set _ _ (by simp)) (fun _ h=>h) fun _ h=>.inl h
   refine⟨V,?_,S.stp j (fun a u=>by simp;exact fun e=>hrA (e ▸ u)),(T.mono (B:=r::A) fun a u=>by simp[u]).trans (j.mono (B:=r::A) fun a u=>by rw[zS.1 u];simp) (fun _ h=>h) (fun _ h=>.inl h),.inr ⟨l,q,p,y,rfl,by rw[w];simp[ZP]⟩⟩;simp only[go_sem,zK,g,X7,z,I,W,X,Y,Z,zM,zN,ez,s5,U,J,X8,R,zT,zQ,DE,k5];rfl
end
structure Cm {α:Type}(f:α->α->Int):Prop where
 one:∀ a b,f a b=-1\/f a b=0\/f a b=1
 sym:∀ a b,f b a=-f a b
 tr:∀ a b c,f a b<=0->f b c<=0->f a c<=0/\(f a c<0↔f a b<0\/f b c<0)
theorem Cm.of {α:Type}{f g:α->α->Int}(h:Cm f)(e:∀ a b,g a b=f a b):Cm g:=by
 have:g=f:=funext fun a=>funext fun b=>e a b;rw[this];exact h
theorem Cm.comap {α β:Type}{f:β->β->Int}(h:Cm f)(g:α->β):Cm fun a b=>f (g a) (g b) :=
 ⟨fun a b=>h.one _ _,fun a b=>h.sym _ _,fun a b c=>h.tr _ _ _⟩
theorem Cm.tr2 {α:Type}{f:α->α->Int}(h:Cm f)(a b c:α)(w:0<=f a b)(y:0<=f b c):0<=f a c/\(0<f a c↔0<f a b\/0<f b c):=by
 have g:=h.sym a b;have j:=h.sym b c;have u:=h.sym a c;have:=h.tr c b a (by omega) (by omega);omega
theorem Cm.self {α:Type}{f:α->α->Int}(h:Cm f)(a:α):f a a=0:=by
 have:=h.sym a a;omega
theorem Cm.neg {α:Type}{f:α->α->Int}(h:Cm f):Cm fun a b=>-f a b:=by
 refine⟨fun a b=>?_,fun a b=>?_,fun a b c g j=>?_⟩
 ·have:=h.one a b;show -f a b=_\/-f a b=_\/-f a b=_;omega
 ·have:=h.sym a b;show -f b a=- -f a b;omega
 ·have:=h.tr2 a b c (by omega) (by omega);show -f a c<=0/\(-f a c<0↔-f a b<0\/-f b c<0);omega
theorem Cm.lex {α:Type}{f g:α->α->Int}(h:Cm f)(k:Cm g):Cm fun a b=>if (f a b != 0)=true then f a b else g a b:=by
 have e:∀ a b,(if (f a b != 0)=true then f a b else g a b)=if f a b=0 then g a b else f a b:=fun a b=>by
  by_cases h0:f a b=0 <;> simp[h0]
 refine Cm.of (f:=fun a b=>if f a b=0 then g a b else f a b) ⟨fun a b=>?_,fun a b=>?_,fun a b c=>?_⟩ e
 ·show (if f a b=0 then g a b else f a b)=-1\/_\/_;have j:=h.one a b;have u:=k.one a b;split <;> assumption
 ·show (if f b a=0 then g b a else f b a)=-(if f a b=0 then g a b else f a b);have j:=h.sym a b;have u:=k.sym a b;split <;> split <;> omega
 ·show (if f a b=0 then g a b else f a b)<=0->(if f b c=0 then g b c else f b c)<=0->(if f a c=0 then g a c else f a c)<=0/\((if f a c=0 then g a c else f a c)<0↔(if f a b=0 then g a b else f a b)<0\/(if f b c=0 then g b c else f b c)<0);have j:=h.tr a b c;have u:=k.tr a b c;intro w y;by_cases z:f a b=0 <;> by_cases B:f b c=0 <;> by_cases z3:f a c=0 <;> simp only[z,B,z3,if_true,if_false]at w y ⊢ <;> omega
theorem sgnS_cm:Cm AQ:=by
 refine⟨Zng,fun a b=>?_,fun a b c=>?_⟩
 ·unfold AQ;split <;> split <;> (try split) <;> (try split) <;> omega
 ·unfold AQ;intro B C;by_cases g:a<b <;> by_cases j:b<a <;> by_cases u:b<c <;> by_cases w:c<b <;> by_cases y:a<c <;> by_cases z:c<a <;> simp only[g,j,u,w,y,z,if_true,if_false]at B C ⊢ <;> omega
theorem ordS_cm:Cm VO:=by
 refine⟨Zgu,?_,?_⟩
 ·intro a
  induction a with
  |nil=>intro b;cases b <;> simp[VO]
  |cons x a g =>
   intro b
   cases b with
   |nil=>simp[VO]
   |cons y b =>
    rw[QV,QV];have:=g b;split <;> split <;> (try split) <;> (try split) <;> omega
 ·intro a
  induction a with
  |nil=>intro b c;cases b <;> cases c <;> simp[VO]
  |cons x a g =>
   intro b c
   cases b with
   |nil=>cases c <;> simp[VO]
   |cons y b =>
    cases c with
    |nil=>simp[VO]
    |cons z c =>
     rw[QV,QV,QV];have:=g b c;intro E F;by_cases j:x<y <;> by_cases u:y<x <;> by_cases w:y<z <;> by_cases B:z<y <;> by_cases C:x<z <;> by_cases D:z<x <;> simp only[j,u,w,B,C,D,if_true,if_false]at E F ⊢ <;> omega
theorem Zyj:Cm Ja:=(ordS_cm.comap ZAI).of fun a b=>(ZlT a b).symm
theorem Zjh (L:Loc):Cm (BH L):=(ordS_cm.comap (wS (Yh L))).lex Zyj
theorem Zkw (L:Loc)(n:Nat):Cm (NG L n):=by
 cases g:n.testBit 0 with
 |true=>exact (sgnS_cm.comap Zrv).of fun a b=>by simp[NG,g]
 |false=>exact ((Zjh L).comap (Q7 L n)).of fun a b=>by simp[NG,g]
theorem Zkx (L:Loc)(n:Nat):Cm (Q5 L n):=by
 cases g:n.testBit 1 with
 |true=>exact (Zkw L n).neg.of fun a b=>by simp[Q5,g]
 |false=>exact (Zkw L n).of fun a b=>by simp[Q5,g]
theorem Zyk (L:Loc)(p:Spec):∀ l:List Ke,Cm fun a b=>OI L p a b l:=by
 intro l
 induction l with
 |nil=>exact⟨fun _ _=>.inr (.inl rfl),fun _ _=>rfl,fun _ _ _ _ _=>⟨yS _,by simp[OI]⟩⟩
 |cons k l g=>exact (((Zkx L (EW p k)).comap fun a=>ex a (fields a p.sep) k).lex g).of fun a b=>ZjZ L p a b k l
theorem ZwJ (L:Loc)(p:Spec):Cm (Zid L p):=by
 cases g:(p.keys.length==0) with
 |true=>exact (Zkx L p.flags.toNat).of fun a b=>by simp only[Zid,g,if_true]
 |false=>exact (Zyk L p p.keys).of fun a b=>by simp only[Zid,g,zL,if_false]
theorem ZmM (L:Loc)(p:Spec):Cm (XR L p):=ZwJ L (Zy p)
theorem ZlN (p:Spec):ZI (Zy p)=0:=by
 unfold Zy
 cases g:(ZI p != 0) with
 |true=>rfl
 |false=>simpa using g
theorem ZoO (p:Spec):Zy (Zy p)=Zy p:=by
 show (if (ZI (Zy p) != 0)=true then plainP else Zy p)=Zy p;rw[ZlN];rfl
theorem ZfA (L:Loc)(p:Spec)(a b:List UInt8):XR L (Zy p) a b=XR L p a b:=by unfold XR;rw[ZoO]
def Zib (L:Loc)(p:Spec)(a b:List UInt8):Int:=if (Zy p).flags.toNat.testBit 1 then -BH L a b else BH L a b
theorem ZwG (L:Loc)(p:Spec):Cm (Zib L p):=by
 cases g:(Zy p).flags.toNat.testBit 1 with
 |true=>exact (Zjh L).neg.of fun a b=>by simp[Zib,g]
 |false=>exact (Zjh L).of fun a b=>by simp[Zib,g]
theorem AM {L:Loc}{p:Spec}(h:((Zy p).stab || (Zy p).uniq)=true)(a b:List UInt8):ZL L p a b=XR L p a b:=by
 unfold ZL;rw[ZfA,xI,h,xM,if_pos rfl]
theorem Zoz {L:Loc}{p:Spec}(h:((Zy p).stab || (Zy p).uniq)=false)(a b:List UInt8):ZL L p a b=if (XR L p a b != 0)=true then XR L p a b else Zib L p a b:=by
 unfold ZL Zib;rw[ZfA,xI,h,yW]
theorem HL (L:Loc)(p:Spec):Cm (ZL L p):=by
 cases g:((Zy p).stab || (Zy p).uniq) with
 |true=>exact (ZmM L p).of (AM g)
 |false=>exact ((ZmM L p).lex (ZwG L p)).of (Zoz g)
section
variable {α:Type}{f:α->α->Int}
def Df (f:α->α->Int)(l:List α):Prop:=l.Pairwise fun a b=>f a b<=0
def YP (f:α->α->Int)(x y:α):Bool:=f x y==0
def mergeL (f:α->α->Int):List α->List α->List α
 |[],b=>b
 |a::l,[]=>a::l
 |a::l,b::m=>if 0<f a b then b::mergeL f (a::l) m else a::mergeL f l (b::m)
termination_by a b=>a.length+b.length
theorem Gy (b:List α):mergeL f [] b=b:=by rw[mergeL]
theorem K6 (a:List α):mergeL f a []=a:=by cases a <;> rw[mergeL]
theorem Xq (a b:α)(l m:List α):mergeL f (a::l) (b::m)=if 0<f a b then b::mergeL f (a::l) m else a::mergeL f l (b::m):=by rw[mergeL]
def Q4 (f:α->α->Int):Nat->List α->List α
 |0,l=>l
 |n+1,l=>if l.length<2 then l else mergeL f (Q4 f n (l.take (l.length / 2))) (Q4 f n (l.drop (l.length / 2)))
def Jx (f:α->α->Int)(S:List α)(y:α):Nat->Nat
 |0=>0
 |k+1=>match S[k]? with
  |some s=>if 0<f s y then Jx f S y k else k+1
  |none=>Jx f S y k
def AF (f:α->α->Int)(S:List α)(y:α):List α:=S.take (Jx f S y S.length)++y::S.drop (Jx f S y S.length)
def Pz (f:α->α->Int)(l:List α):List α:=l.foldl (AF f) []
def Jy (g:α->α->Int)(out:List α)(x:α):Bool:=match out.getLast? with
 |some y=>g y x==0
 |none=>false
def VN (g:α->α->Int):List α->List α->List α
 |out,[]=>out
 |out,x::l=>VN g (if Jy g out x=true then out else out++[x]) l
variable (h:Cm f)
include h
theorem Cm.eqv_iff (x y:α):YP f x y=true↔f x y=0:=by unfold YP;rw[beq_iff_eq]
theorem Cm.le_trans {a b c:α}(g:f a b<=0)(j:f b c<=0):f a c<=0:=(h.tr a b c g j).1
theorem Cm.lt_le {a b c:α}(g:f a b<0)(j:f b c<=0):f a c<0:=(h.tr a b c (by omega) j).2.2 (.inl g)
theorem Cm.le_lt {a b c:α}(g:f a b<=0)(j:f b c<0):f a c<0:=(h.tr a b c g (by omega)).2.2 (.inr j)
theorem ZgO:∀ A B:List α,Df f A->Df f B->(∀ x,A.filter (YP f x)=B.filter (YP f x))->A=B:=by
 intro A;have self:∀ x,YP f x x=true:=fun x=>by rw[h.eqv_iff];exact h.self x
 induction A with
 |nil =>
  intro B _ _ hf
  cases B with
  |nil=>rfl
  |cons b B =>
   have:=hf b;rw[zC,self b]at this;simp at this
 |cons a A F =>
  intro B D E hf
  cases B with
  |nil =>
   have:=hf a;rw[zC,self a]at this;simp at this
  |cons b B =>
   have j:=zD.1 D;have u:=zD.1 E
   have z:b∈a::A:=by
    have g:b∈(b::B).filter (YP f b):=yK.2 ⟨by simp,self b⟩;rw[<-hf b]at g;exact (yK.1 g).1
   have w:a∈b::B:=by
    have g:a∈(a::A).filter (YP f a):=yK.2 ⟨by simp,self a⟩;rw[hf a]at g;exact (yK.1 g).1
   have g:f a b<=0:=by
    rcases zH.1 z with e|e
    ·rw[e,h.self];exact yS _
    ·exact j.1 b e
   have I:f b a<=0:=by
    rcases zH.1 w with e|e
    ·rw[e,h.self];exact yS _
    ·exact u.1 a e
   have C:f a b=0:=by have:=h.sym a b;omega
   have y:a=b:=by
    have:=hf a;rw[zC,self a,zC,(h.eqv_iff a b).2 C]at this;simp only[if_true,List.cons.injEq]at this;exact this.1
   subst y;congr 1;refine F B j.2 u.2 fun x=>?_;have:=hf x;rw[zC,zC]at this;split at this
   ·simpa using this
   ·exact this
theorem Zkm:∀ (A B:List α) (x:α),x∈mergeL f A B↔x∈A\/x∈B:=by
 intro A B x
 induction A,B using mergeL.induct f with
 |case1 b=>simp[Gy]
 |case2 a l=>simp[K6]
 |case3 a l b m hc g =>
  rw[Xq,if_pos hc,zH,g];simp only[zH];constructor
  ·rintro (h|h|h) <;> simp[h]
  ·rintro (h|h|h) <;> simp[h]
 |case4 a l b m hc g =>
  rw[Xq,if_neg hc,zH,g];simp only[zH];constructor
  ·rintro (h|h|h) <;> simp[h]
  ·rintro ((h|h)|h) <;> simp[h]
theorem ZtS:∀ A B:List α,Df f A->Df f B->Df f (mergeL f A B):=by
 intro A B
 induction A,B using mergeL.induct f with
 |case1 b=>intro _ z;rw[Gy];exact z
 |case2 a l=>intro w _;rw[K6];exact w
 |case3 a l b m hc D =>
  intro w z;rw[Xq,if_pos hc];have j:=zD.1 w;have u:=zD.1 z;refine zD.2 ⟨fun y g=>?_,D w u.2⟩;rcases (Zkm h _ _ y).1 g with g|g
  ·have C:f b a<0:=by have:=h.sym a b;omega
   rcases zH.1 g with e|e
   ·rw[e];omega
   ·have:=h.lt_le C (j.1 y e);omega
  ·exact u.1 y g
 |case4 a l b m hc D =>
  intro w z;rw[Xq,if_neg hc];have j:=zD.1 w;have u:=zD.1 z;refine zD.2 ⟨fun y g=>?_,D j.2 z⟩;rcases (Zkm h _ _ y).1 g with g|g
  ·exact j.1 y g
  ·rcases zH.1 g with e|e
   ·rw[e];omega
   ·exact h.le_trans (by omega) (u.1 y e)
theorem ZmQ (x:α):∀ A B:List α,Df f A->(mergeL f A B).filter (YP f x)=A.filter (YP f x)++B.filter (YP f x):=by
 intro A B
 induction A,B using mergeL.induct f with
 |case1 b=>intro _;rw[Gy];simp
 |case2 a l=>intro _;rw[K6];simp
 |case3 a l b m hc D =>
  intro w;have g:=zD.1 w;rw[Xq,if_pos hc,zC,D w]
  cases z:YP f x b with
  |false=>simp only[zC,z,zL,if_false]
  |true =>
   rw[h.eqv_iff]at z;have j:f b a<0:=by have:=h.sym a b;omega
   have u:(a::l).filter (YP f x)=[]:=by
    rw[yP];intro y F C;rw[h.eqv_iff]at C
    have E:f b y<0:=by
     rcases zH.1 F with e|e
     ·rw[e];exact j
     ·exact h.lt_le j (g.1 y e)
    have I:=h.le_lt (a:=x) (b:=b) (c:=y) (by omega) E;omega
   rw[u];simp[zC,(h.eqv_iff x b).2 z]
 |case4 a l b m hc D =>
  intro w;have g:=zD.1 w;rw[Xq,if_neg hc,zC,D g.2,zC (xs:=l)];split <;> simp
theorem Zrf:∀ (n:Nat) (l:List α),l.length<=n->Df f (Q4 f n l)/\∀ x,(Q4 f n l).filter (YP f x)=l.filter (YP f x):=by
 intro n
 induction n with
 |zero=>intro l B;have:l=[]:=yN.1 (by omega);subst this;exact⟨List.Pairwise.nil,fun _=>rfl⟩
 |succ n u =>
  intro l B;unfold Q4;split
  ·rename_i j;refine⟨?_,fun _=>rfl⟩
   match l,j with
   |[],_=>exact List.Pairwise.nil
   |[a],_=>exact List.pairwise_singleton _ _
  ·rename_i j;obtain⟨g,w⟩:=u (l.take (l.length / 2)) (by rw[zO];omega);obtain⟨y,z⟩:=u (l.drop (l.length / 2)) (by rw[zY];omega);refine⟨ZtS h _ _ g y,fun x=>?_⟩;rw[ZmQ h x _ _ g,w,z,<-yD,yF]
omit h in
theorem ZyW (S:List α)(y:α):∀ k,Jx f S y k<=k:=by
 intro k
 induction k with
 |zero=>exact zI _
 |succ k g =>
  unfold Jx;split
  ·split <;> omega
  ·omega
omit h in
theorem Zir (S:List α)(y:α):∀ k,∀ j s,Jx f S y k<=j->j<k->S[j]?=some s->0<f s y:=by
 intro k
 induction k with
 |zero=>intro j s _ z;omega
 |succ k w =>
  intro j s g z u;unfold Jx at g;by_cases B:j=k
  ·subst B;rw[u]at g;simp only at g;split at g
   ·assumption
   ·omega
  ·split at g
   ·split at g
    ·exact w j s g (by omega) u
    ·omega
   ·exact w j s g (by omega) u
omit h in
theorem ZyV (S:List α)(y:α):∀ k,Jx f S y k=0\/∃ s,S[Jx f S y k-1]?=some s/\f s y<=0:=by
 intro k
 induction k with
 |zero=>exact .inl rfl
 |succ k g =>
  unfold Jx;split
  ·rename_i s j;split
   ·exact g
   ·exact .inr ⟨s,by simpa using j,by omega⟩
  ·exact g
theorem ZyG {S:List α}(N:Df f S)(y:α):Df f (AF f S y):=by
 unfold AF;have W:=ZyW (f:=f) S y S.length;have D:Df f (S.take (Jx f S y S.length)++S.drop (Jx f S y S.length)):=by rw[yF];exact N
 obtain⟨X,Y,Z⟩:=yT.1 D
 have u:∀ z∈S.drop (Jx f S y S.length),f y z<0:=fun z B=>by
  obtain⟨j,g⟩:=yH B;rw[yY]at g;have J:=(zF.1 g).1;have:=Zir S y S.length _ z (xC _ _) J g;have:=h.sym z y;omega
 have w:∀ z∈S.take (Jx f S y S.length),f z y<=0:=fun z B=>by
  rcases ZyV (f:=f) S y S.length with h0|⟨s,C,M⟩
  ·rw[h0]at B;simp at B
  ·obtain⟨j,g⟩:=yH B;obtain⟨E,V⟩:=zF.1 g;rw[zO]at E;rw[List.getElem?_take_of_lt (by omega)]at g;by_cases U:j=Jx f S y S.length-1
   ·rw[<-U,g]at C;injection C with C;rw[C];exact M
   ·have L:f z s<=0:=by
     obtain⟨F,Q⟩:=zF.1 g;obtain⟨I,R⟩:=zF.1 C;rw[<-Q,<-R];exact List.pairwise_iff_getElem.1 N _ _ F I (by omega)
    exact h.le_trans L M
 refine yT.2 ⟨X,zD.2 ⟨fun z B=>by have:=u z B;omega,Y⟩,fun a O b T=>?_⟩;rcases zH.1 T with e|e
 ·rw[e];exact w a O
 ·exact Z a O b e
theorem ZqW (S:List α)(y x:α):(AF f S y).filter (YP f x)=S.filter (YP f x)++[y].filter (YP f x):=by
 unfold AF;have g:S.filter (YP f x)=(S.take (Jx f S y S.length)).filter (YP f x)++(S.drop (Jx f S y S.length)).filter (YP f x):=by rw[<-yD,yF]
 rw[g,yD,zV];congr 1;rw[zC,zC,List.filter_nil]
 cases B:YP f x y with
 |false=>simp
 |true =>
  rw[h.eqv_iff]at B
  have:(S.drop (Jx f S y S.length)).filter (YP f x)=[]:=by
   rw[yP];intro z D C;rw[h.eqv_iff]at C;obtain⟨j,u⟩:=yH D;rw[yY]at u;have w:=(zF.1 u).1;have E:=Zir S y S.length _ z (xC _ _) w u;have F:=h.sym z y;have I:=h.le_lt (a:=x) (b:=y) (c:=z) (by omega) (by omega);omega
  rw[this];simp
theorem Zmu:∀ (l S:List α),Df f S->Df f (l.foldl (AF f) S)/\∀ x,(l.foldl (AF f) S).filter (YP f x)=S.filter (YP f x)++l.filter (YP f x):=by
 intro l
 induction l with
 |nil=>intro S g;exact⟨g,fun x=>by simp⟩
 |cons y l j =>
  intro S g;obtain⟨a,b⟩:=j (AF f S y) (ZyG h g y);refine⟨a,fun x=>?_⟩;rw[List.foldl_cons,b,ZqW h,zV,<-yD];rfl
theorem ZtU (l:List α){n:Nat}(y:l.length<=n):Q4 f n l=Pz f l:=by
 obtain⟨g,j⟩:=Zrf h n l y;obtain⟨u,w⟩:=Zmu h l [] List.Pairwise.nil;exact ZgO h _ _ g u fun x=>by rw[j,show Pz f l=l.foldl (AF f) [] from rfl,w];rfl
end
structure Fv (K:AV->Prop)(t:Zg->Zg->Bool):Prop where
 close:∀ v,K v->∃ v',Zb [] 0 9 v=some v'/\K v'
 run:∀ v,K v->∀ a b:Zg,a.length<=1048576->b.length<=1048576->∀ H,Yd cfg (Z9 cfg) v [.str a,.str b] H=some (.bool (t a b),H)
theorem ZtQ {f:Zg->Zg->Int}:∀ A B:List Zg,(mergeL f A B).length=A.length+B.length:=by
 intro A B
 induction A,B using mergeL.induct f with
 |case1 b=>simp[Gy]
 |case2 a l=>simp[K6]
 |case3 a l b m hc g=>rw[Xq,if_pos hc,zJ,g];simp only[zJ];omega
 |case4 a l b m hc g=>rw[Xq,if_neg hc,zJ,g];simp only[zJ];omega
theorem Zra {f:Zg->Zg->Int}:∀ (A B:List Zg) (x:Zg),x∈mergeL f A B->x∈A\/x∈B:=by
 intro A B x
 induction A,B using mergeL.induct f with
 |case1 b=>simp[Gy]
 |case2 a l=>simp[K6]
 |case3 a l b m hc g =>
  rw[Xq,if_pos hc,zH]
  rintro (h|h)
  ·exact .inr (by simp[h])
  ·rcases g h with h|h
   ·exact .inl h
   ·exact .inr (by simp[h])
 |case4 a l b m hc g =>
  rw[Xq,if_neg hc,zH]
  rintro (h|h)
  ·exact .inl (by simp[h])
  ·rcases g h with h|h
   ·exact .inl (by simp[h])
   ·exact .inr h
theorem AK {f:Zg->Zg->Int}:∀ (n:Nat) (l:List Zg),(Q4 f n l).length=l.length/\∀ s∈Q4 f n l,s∈l:=by
 intro n
 induction n with
 |zero=>intro l;exact⟨rfl,fun s h=>h⟩
 |succ n g =>
  intro l;unfold Q4;split
  ·exact⟨rfl,fun s h=>h⟩
  ·obtain⟨j,u⟩:=g (l.take (l.length / 2));obtain⟨w,y⟩:=g (l.drop (l.length / 2));refine⟨by rw[ZtQ,j,w,zO,zY];omega,fun s z=>?_⟩;rcases Zra _ _ s z with h|h
   ·exact yI (u s h)
   ·exact yJ (y s h)
section
variable {K:AV->Prop}{f:Zg->Zg->Int}(hK:Fv K fun a b=>decide (0<f a b))
include hK
theorem Zr9 {v:AV}(hv:K v)(H0:Hp):∀ (A B g:List Zg) (x6 S T:AV) (H:Hp),SS x6 A->SS S B->RS H T g->Xg A->Xg B->g.length+A.length+B.length<=4194304 ->
 ∃ y H',YG v x6 S T H0 H=some (y,H')/\RS H' y (g++mergeL f A B):=by
 intro A B
 induction A,B using mergeL.induct f with
 |case1 B =>
  intro g x6 S T H u w I J L F;obtain⟨W,H1,N,O⟩:=I.app u (by omega);obtain⟨y2,X,Q,R⟩:=O.app w (by simp at F ⊢;omega);refine⟨y2,X,?_,by rw[Gy];simpa using R⟩;have j:=SS.len u 9;rw[YT];simp only[go_sem,j,zG,show decide ((0:Int)<((0:Nat):Int))=false from rfl,VV,N,Q]
 |case2 a l =>
  intro g x6 S T H u w I J L F;obtain⟨W,H1,N,O⟩:=I.app u (by simp at F ⊢;omega);obtain⟨y2,X,Q,R⟩:=O.app w (by simp at F ⊢;omega);refine⟨y2,X,?_,by rw[K6];simpa using R⟩;have j:=SS.len u 9;have D:=SS.len w 9;have U:decide ((0:Int)<(((a::l).length:Nat):Int))=true:=by simp
  rw[YT];simp only[go_sem,j,D,U,zG,show decide ((0:Int)<((0:Nat):Int))=false from rfl,VV,N,Q]
 |case3 a l b m hc Z =>
  intro g x6 S T H u w I J L F;have j:=SS.len u 9;have D:=SS.len w 9;have U:decide ((0:Int)<(((a::l).length:Nat):Int))=true:=by simp
  have M:decide ((0:Int)<(((b::m).length:Nat):Int))=true:=by simp
  have z:=SS.idx u (i:=0) (s:=a) rfl;have C:=SS.idx w (i:=0) (s:=b) rfl;obtain⟨ab,V,r2⟩:=SS.lo w (n:=1) (by simp);have E:=hK.run v hv a b (J a (by simp)) (L b (by simp)) H;obtain⟨W,H1,N,O⟩:=I.app (Zip b) (by simp at F ⊢;omega);obtain⟨y,H',Q,R⟩:=Z (g++[b]) x6 ab W H1 u r2 O J (fun s Y=>L s (by simp[Y])) (by simp at F ⊢;omega);refine⟨y,H',?_,by rw[Xq,if_pos hc];simpa using R⟩;rw[show ((0:Nat):Int)=0 from rfl]at z C;rw[show ((1:Nat):Int)=1 from rfl]at V;rw[YT];simp only[go_sem,j,D,U,M,VW,z,C,ZE,E,decide_eq_true hc,PL,N,V,Q]
 |case4 a l b m hc Z =>
  intro g x6 S T H u w I J L F;have j:=SS.len u 9;have D:=SS.len w 9;have U:decide ((0:Int)<(((a::l).length:Nat):Int))=true:=by simp
  have M:decide ((0:Int)<(((b::m).length:Nat):Int))=true:=by simp
  have z:=SS.idx u (i:=0) (s:=a) rfl;have C:=SS.idx w (i:=0) (s:=b) rfl;obtain⟨aa,V,r2⟩:=SS.lo u (n:=1) (by simp);have E:=hK.run v hv a b (J a (by simp)) (L b (by simp)) H;obtain⟨W,H1,N,O⟩:=I.app (Zip a) (by simp at F ⊢;omega);obtain⟨y,H',Q,R⟩:=Z (g++[a]) aa S W H1 r2 w O (fun s Y=>J s (by simp[Y])) L (by simp at F ⊢;omega);refine⟨y,H',?_,by rw[Xq,if_neg hc];simpa using R⟩;rw[show ((0:Nat):Int)=0 from rfl]at z C;rw[show ((1:Nat):Int)=1 from rfl]at V;rw[YT];simp only[go_sem,j,D,U,M,VW,z,C,ZE,E,decide_eq_false hc,PL,N,V,Q]
theorem Zre:∀ (n:Nat) (l:List Zg) (x v:AV),l.length<=n->l.length<=1048576->Xg l->SS x l->K v->∀ H,∃ y,Ze YL [x,v] H=some (y,H)/\SS y (Q4 f n l):=by
 intro n
 induction n with
 |zero =>
  intro l x v hn R z T S H;have:l=[]:=yN.1 (by omega);subst this;obtain⟨x',E,g⟩:=SS.closed T [] 0 7;obtain⟨v',F,I⟩:=hK.close v S;obtain⟨y,U,V⟩:=Ln g R [];have J:=SS.len g 9;obtain⟨D,C,w⟩:=SS.closed V [] 0 7;refine⟨D,Ny E F ?_ C,w⟩;rw[XZ];unfold Xk;simp only[go_sem,J,zG,show decide (((0:Nat):Int)<2)=true from rfl,U]
 |succ n X =>
  intro l x v hn R z T S H;obtain⟨x',E,g⟩:=SS.closed T [] 0 7;obtain⟨v',F,I⟩:=hK.close v S;have J:=SS.len g 9;unfold Q4;by_cases W:l.length<2
  ·have Q:decide ((l.length:Int)<2)=true:=by simp;omega
   obtain⟨y,U,V⟩:=Ln g R [];obtain⟨D,C,w⟩:=SS.closed V [] 0 7;rw[if_pos W];refine⟨D,Ny E F ?_ C,w⟩;rw[XZ];unfold Xk;simp only[go_sem,J,Q,U]
  ·rw[if_neg W];have Q:decide ((l.length:Int)<2)=false:=by simp;omega
   have hq:Z5 .quo (.int .i64 (l.length:Int)) (.int .i64 2)=some (.int .i64 ((l.length / 2:Nat):Int)):=by
    simp[Z5,W5,XH];exact Zr (by omega) (by omega)
   obtain⟨xa,Y,Z⟩:=SS.hi g (n:=l.length / 2) (by omega);obtain⟨xb,b1,b2⟩:=SS.lo g (n:=l.length / 2) (by omega);obtain⟨ya,a3,a4⟩:=X (l.take (l.length / 2)) xa v' (by rw[zO];omega) (by rw[zO];omega) (fun s u=>z s (yI u)) Z I [];obtain⟨yb,b3,b4⟩:=X (l.drop (l.length / 2)) xb v' (by rw[zY];omega) (by rw[zY];omega) (fun s u=>z s (yJ u)) b2 I [];obtain⟨L,M⟩:=AK (f:=f) n (l.take (l.length / 2));obtain⟨N,O⟩:=AK (f:=f) n (l.drop (l.length / 2))
   have j:RE 1 16 false (.str []) (.int .i64 0) (.int .i64 (l.length:Int)) []=some (.vs 1 (.own 0 0) [],[.tok 0]):=by
    have hf:YD (l.length:Int).toNat 16=true:=by simp[YD];omega
    unfold RE;dsimp only;rw[if_pos ⟨yS _,by omega,rfl,rfl,by decide,hf⟩];simp
   have B:RS [AObj.tok 0] (.vs 1 (.own 0 0) []) []:=.inr ⟨0,0,rfl,rfl,zI _⟩
   obtain⟨y,H',C,w⟩:=Zr9 hK I [] (Q4 f n (l.take (l.length / 2))) (Q4 f n (l.drop (l.length / 2))) [] ya yb _ _ a4 b4 B
    (fun s u=>z s (yI (M s u))) (fun s u=>z s (yJ (O s u))) (by rw[L,N,zO,zY,zG];omega)
   rw[zU]at w;obtain⟨D,q3,q4⟩:=w.done H';refine⟨D,Ny E F ?_ q3,q4⟩;rw[XZ];unfold Xk;simp only[go_sem,J,Q,DC,hq,Y,a3,b1,b3,j,C]
end
theorem Zkr {g:Zg->Zg->Int}:∀ (l out:List Zg),(VN g out l).length<=out.length+l.length:=by
 intro l
 induction l with
 |nil=>intro out;simp[VN]
 |cons x l j =>
  intro out;unfold VN;refine xA (j _) ?_;split <;> simp <;> omega
theorem Zks {g:Zg->Zg->Int}:∀ (l out:List Zg),∀ s∈VN g out l,s∈out\/s∈l:=by
 intro l
 induction l with
 |nil=>intro out s j;exact .inl j
 |cons x l u =>
  intro out s j;unfold VN at j;rcases u _ s j with h|h
  ·split at h
   ·exact .inl h
   ·rcases yB.1 h with h|h
    ·exact .inl h
    ·exact .inr (by rw[zS.1 h];simp)
  ·exact .inr (by simp[h])
theorem Zu7 {K:AV->Prop}{g:Zg->Zg->Int}(hK:Fv K fun a b=>g a b==0){v:AV}(hv:K v){x:AV}{l:List Zg}(hx:SS x l)(hL:Xg l)(hl:l.length<=1048576)(T:Hp):∀ (r done out:List Zg) (x5:AV) (H:Hp),l=done++r->RS H x5 out->Xg out->out.length<=done.length ->
 ∃ y H',Wd v x5 x (.int .i64 (l.length:Int)) (.int .i64 (done.length:Int)) T H=some (y,H')/\RS H' y (VN g out r):=by
 intro r
 induction r with
 |nil =>
  intro done out x5 H L J S X;rw[List.append_nil]at L;subst L;have I:decide ((l.length:Int)<(l.length:Int))=false:=by simp
  refine⟨x5,H,?_,J⟩;rw[QN];simp only[go_sem,I,PF]
 |cons a r ih =>
  intro done out x5 H L J S X;have hlen:l.length=done.length+(r.length+1):=by rw[L];simp
  have I:decide ((done.length:Int)<(l.length:Int))=true:=by simp;omega
  have Z:xS.wrap ((done.length:Int)+1)=((done.length+1:Nat):Int):=by rw[Zr (by omega) (by omega)];omega
  have O:l[done.length]?=some a:=by rw[L,zE (zI _)];simp
  have hi:=SS.idx hx O;have N:a.length<=1048576:=hL a (zX O);have M:=SS.len J.sl 9;obtain⟨y1,H1,q1,q2⟩:=J.app (Zip a) (by simp;omega)
  have w:∀ u F H',RS H' F u->Xg u->u.length<=done.length+1->∃ y j,Wb v F x (.int .i64 (l.length:Int)) (.int .i64 (done.length:Int)) T H'=some (y,j)/\RS j y (VN g u r):=fun u F H' h1 h2 h3=>by
   obtain⟨y,j,C,E⟩:=ih (done++[a]) u F H' (by rw[L];simp) h1 h2 (by simpa using h3);rw[zR,zW]at C;exact⟨y,j,by simp only[PH,go_sem,Z,C],E⟩
  have B:Xg (out++[a]):=fun s hs=>by
   rcases yB.1 hs with h|h
   ·exact S s h
   ·rw[zS.1 h];exact N
  have U:∃ y H',VJ v x5 x (.int .i64 (l.length:Int)) (.int .i64 (done.length:Int)) (.bool true) T H=some (y,H')/\RS H' y (VN g out (a::r)):=by
   rw[PG];unfold VN
   cases D:out.getLast? with
   |none =>
    have:out=[]:=List.getLast?_eq_none_iff.1 D;subst this;rw[show Jy g [] a=false from rfl];obtain⟨y,j,C,E⟩:=w _ _ _ q2 B (by simp);refine⟨y,j,?_,by simpa using E⟩;simp only[go_sem,hi,ZE,M,zG,show (((0:Nat):Int)==0)=true from rfl,PL,q1,C]
   |some z =>
    have W:out≠[]:=fun e=>by subst e;simp at D
    have ab:0<out.length:=List.length_pos_iff.2 W;have R:out[out.length-1]?=some z:=by rw[<-List.getLast?_eq_getElem?];exact D
    have h0:((out.length:Int)==0)=false:=by rw[beq_eq_false_iff_ne];omega
    have aa:xS.wrap ((out.length:Int)-1)=((out.length-1:Nat):Int):=by rw[Zr (by omega) (by omega)];omega
    have V:=SS.idx J.sl R;have Q:=hK.run v hv z a (S z (zX R)) N H;have Y:Jy g out a=(g z a==0):=by unfold Jy;rw[D]
    simp only[go_sem,hi,ZE,M,h0,aa,V,Q,Y]
    cases hg:(g z a==0) with
    |true =>
     obtain⟨y,j,C,E⟩:=w _ _ _ J S (by omega);exact⟨y,j,by simp only[zT,go_sem,C],by simpa using E⟩
    |false =>
     obtain⟨y,j,C,E⟩:=w _ _ _ q2 B (by simp;omega);exact⟨y,j,by simp only[zQ,go_sem,PL,q1,C],by simpa using E⟩
  obtain⟨y,H',C,E⟩:=U;refine⟨y,H',?_,E⟩;rw[QN];simp only[go_sem,I,C]
theorem Zkt {K:AV->Prop}{g:Zg->Zg->Int}(hK:Fv K fun a b=>g a b==0){v:AV}(F:K v){x:AV}{l:List Zg}(I:SS x l)(C:Xg l)(D:l.length<=1048576)(H:Hp):∃ y,Ze Wf [x,v] H=some (y,H)/\SS y (VN g [] l):=by
 obtain⟨Q,w,j⟩:=SS.closed I [] 0 7;obtain⟨v',z,B⟩:=hK.close v F;obtain⟨y,H',u,J⟩:=Zu7 hK B j C D [] l [] [] .nils [] rfl (RowN.nil _ _ _) (fun s E=>by cases E) (zI _);rw[zG,show ((0:Nat):Int)=0 from rfl]at u;obtain⟨O,M,N⟩:=J.done H';refine⟨O,Ny w z ?_ M,N⟩;have L:=SS.len j 9;rw[Nf];unfold KR;simp only[go_sem,L,u]
def SpecCells (l:List AV)(p:Spec):Prop:=∃ x,l=p.cells x/\Sl 5 x (p.keys.map Ke.av)
theorem SpecCells.close {l:List AV}{p:Spec}(h:SpecCells l p)(H:Hp)(n f:Nat):∃ g,l.mapM (Zb H n (f+3))=some g/\SpecCells g p:=by
 obtain⟨x,rfl,y⟩:=h
 obtain⟨j,u,w⟩:=y.close (H:=H) (n:=n) (f:=f+2) (fun c hc=>by
  obtain⟨k,_,rfl⟩:=List.mem_map.1 hc;exact k.close H n f)
 refine⟨p.cells j,?_,j,rfl,w⟩;simp only[Spec.cells,xF,u,xJ];rfl
def ClK (g:Nat)(L:Loc)(p:Spec)(v:AV):Prop:=∃ lc sc,v=.fn (.func g) [] [.vp lc,.vp sc]/\LocCells lc L/\SpecCells sc p
theorem Zqf (H:Hp)(n f:Nat)(g:Fn)(a b:AV):Zb H n (f+1) (.fn g [] [a,b])=match Zb H n f a,Zb H n f b with
 |some a',some b'=>some (.fn g [] [a',b'])
 |_,_=>none:=by
 show (match ([]:List AV).mapM (Zb H n f),[a,b].mapM (Zb H n f) with
  |some a,some b=>some (AV.fn g a b)
  |_,_=>none)=_
 simp only[xJ,xF];cases Zb H n f a <;> cases Zb H n f b <;> rfl
theorem ClK.close {g:Nat}{L:Loc}{p:Spec}{v:AV}(h:ClK g L p v):∃ v',Zb [] 0 9 v=some v'/\ClK g L p v':=by
 obtain⟨lc,sc,rfl,w,y⟩:=h;obtain⟨j,z,B⟩:=w.close [] 0 4;obtain⟨u,C,D⟩:=y.close [] 0 4;refine⟨.fn (.func g) [] [.vp j,.vp u],?_,j,u,rfl,B,D⟩;rw[Zqf,XO,XO,z,C]
theorem ZuD (L:Loc)(w:LocOk L)(p:Spec)(u:∀ k∈p.keys,KeOk k):Fv (ClK 55 L p) fun a b=>decide (0<ZL L p a b) where
 close:=fun v y=>ClK.close y
 run:=fun v y a b B C H=>by
  obtain⟨lc,sc,rfl,E,I⟩:=y;rw[ZfY];obtain⟨O,M,N⟩:=E.close [] 0 5;obtain⟨S,Q,R⟩:=I.close [] 0 5;obtain⟨x,c,e,rfl,J,hc,D⟩:=N;obtain⟨xs,rfl,z⟩:=R;have g:Zb [] 0 9 (.vp lc)=some (.vp (L.cells x c e)):=by rw[XO,M]
  have j:Zb [] 0 9 (.vp sc)=some (.vp (p.cells xs)):=by rw[XO,Q]
  have F:=Zap (a:=.agg (L.cells x c e)) (L:=L) ⟨x,c,e,rfl,J,hc,D⟩ w (q:=.agg (p.cells xs)) (p:=p) ⟨xs,rfl,z⟩ u a b B C [];refine Za4 (a':=.str a) (b':=.str b) rfl rfl g j (H1:=[]) ?_ rfl;rw[Zbl];unfold Ec;simp only[go_sem,Xl 6 (L.cells x c e) rfl,Xl 5 (p.cells xs) rfl,F]
theorem ZuE (L:Loc)(w:LocOk L)(p:Spec)(u:∀ k∈p.keys,KeOk k):Fv (ClK 58 L p) fun a b=>XR L p a b==0 where
 close:=fun v y=>ClK.close y
 run:=fun v y a b B C H=>by
  obtain⟨lc,sc,rfl,E,I⟩:=y;rw[ZfZ];obtain⟨O,M,N⟩:=E.close [] 0 5;obtain⟨S,Q,R⟩:=I.close [] 0 5;obtain⟨x,c,e,rfl,J,hc,D⟩:=N;obtain⟨xs,rfl,z⟩:=R;have g:Zb [] 0 9 (.vp lc)=some (.vp (L.cells x c e)):=by rw[XO,M]
  have j:Zb [] 0 9 (.vp sc)=some (.vp (p.cells xs)):=by rw[XO,Q]
  have F:=Hx (a:=.agg (L.cells x c e)) (L:=L) ⟨x,c,e,rfl,J,hc,D⟩ w (q:=.agg (p.cells xs)) (p:=p) ⟨xs,rfl,z⟩ u a b B C [];refine Za4 (a':=.str a) (b':=.str b) rfl rfl g j (H1:=[]) ?_ rfl;rw[Zbm];unfold Ed;simp only[go_sem,Xl 6 (L.cells x c e) rfl,Xl 5 (p.cells xs) rfl,F]
theorem Zig (L:Loc)(w:LocOk L)(p:Spec)(u:∀ k∈p.keys,KeOk k):Fv (ClK 61 L p) fun a b=>decide (0<ZL L p a b) where
 close:=fun v y=>ClK.close y
 run:=fun v y a b B C H=>by
  obtain⟨lc,sc,rfl,E,I⟩:=y;rw[ZeR];obtain⟨O,M,N⟩:=E.close [] 0 5;obtain⟨S,Q,R⟩:=I.close [] 0 5;obtain⟨x,c,e,rfl,J,hc,D⟩:=N;obtain⟨xs,rfl,z⟩:=R;have g:Zb [] 0 9 (.vp lc)=some (.vp (L.cells x c e)):=by rw[XO,M]
  have j:Zb [] 0 9 (.vp sc)=some (.vp (p.cells xs)):=by rw[XO,Q]
  have F:=Zap (a:=.agg (L.cells x c e)) (L:=L) ⟨x,c,e,rfl,J,hc,D⟩ w (q:=.agg (p.cells xs)) (p:=p) ⟨xs,rfl,z⟩ u a b B C [];refine Za4 (a':=.str a) (b':=.str b) rfl rfl g j (H1:=[]) ?_ rfl;rw[Oi];unfold MJ;simp only[go_sem,Xl 6 (L.cells x c e) rfl,Xl 5 (p.cells xs) rfl,F]
theorem Zr7 (L:Loc)(w:LocOk L)(p:Spec)(u:∀ k∈p.keys,KeOk k):Fv (ClK 64 L p) fun a b=>XR L p a b==0 where
 close:=fun v y=>ClK.close y
 run:=fun v y a b B C H=>by
  obtain⟨lc,sc,rfl,E,I⟩:=y;rw[ZeS];obtain⟨O,M,N⟩:=E.close [] 0 5;obtain⟨S,Q,R⟩:=I.close [] 0 5;obtain⟨x,c,e,rfl,J,hc,D⟩:=N;obtain⟨xs,rfl,z⟩:=R;have g:Zb [] 0 9 (.vp lc)=some (.vp (L.cells x c e)):=by rw[XO,M]
  have j:Zb [] 0 9 (.vp sc)=some (.vp (p.cells xs)):=by rw[XO,Q]
  have F:=Hx (a:=.agg (L.cells x c e)) (L:=L) ⟨x,c,e,rfl,J,hc,D⟩ w (q:=.agg (p.cells xs)) (p:=p) ⟨xs,rfl,z⟩ u a b B C [];refine Za4 (a':=.str a) (b':=.str b) rfl rfl g j (H1:=[]) ?_ rfl;rw[Oj];unfold MK;simp only[go_sem,Xl 6 (L.cells x c e) rfl,Xl 5 (p.cells xs) rfl,F]
def ZJ (L:Loc)(p:Spec)(l:List Zg):List Zg :=
 if (ZI p != 0)=true then l else if p.uniq then VN (XR L p) [] (Pz (ZL L p) l) else Pz (ZL L p) l
theorem Zkf (L:Loc)(p:Spec)(l:List Zg):Q4 (ZL L p) l.length l=Pz (ZL L p) l:=ZtU (HL L p) l (zI _)
theorem Hv (L:Loc)(p:Spec)(l:List Zg):(Pz (ZL L p) l).length=l.length/\∀ s∈Pz (ZL L p) l,s∈l:=by
 rw[<-Zkf];exact AK _ _
theorem Zzz {f:List AV->Hp->Z4}{a a' b b' c c' v v':AV}{H H1:Hp}(g:Zb [] 0 9 a=some a')(j:Zb [] 0 9 b=some b')(u:Zb [] 0 9 c=some c')(hc:f [a',b',c'] []=some (v,H1))(w:Zb H1 0 9 v=some v'):Ze f [a,b,c] H=some (v',H) :=
 Pq (args':=[a',b',c']) (by simp[g,j,u]) hc w
theorem HP {a:AV}{L:Loc}(h:LocAV a L)(C:LocOk L){q:AV}{p:Spec}(hq:SpecAV q p)(u:∀ k∈p.keys,KeOk k){x:AV}{l:List Zg}(hx:SS x l)(R:Xg l)(U:l.length<=1048576)(H:Hp) :
 ∃ y,Ze WS [a,q,x] H=some (y,H)/\SS y (ZJ L p l):=by
 obtain⟨a1,Y,Z⟩:=h.close [] 0 5;obtain⟨q1,X,Q⟩:=hq.close [] 0 5;obtain⟨x1,k1,V⟩:=SS.closed hx [] 0 7;have g:=fun H=>Gl Q H;obtain⟨lx,c,e,rfl,B,hc,T⟩:=Z;obtain⟨xp,rfl,D⟩:=Q
 suffices M:∃ y H1,WS [.agg (L.cells lx c e),.agg (p.cells xp),x1] []=some (y,H1)/\SS y (ZJ L p l) by
  obtain⟨y,H1,r1,r2⟩:=M;obtain⟨y',r3,r4⟩:=SS.closed r2 H1 0 7;exact⟨y',Zzz Y X k1 r1 r3,r4⟩
 have w:Z3 true 5 (.ptr 1 0) [zB (L.cells lx c e),.cells (p.cells xp)]=some (.agg (p.cells xp)):=by simp[Z3,Go.Am.apart,Spec.cells]
 rw[ZeI];unfold If ZJ
 cases S:(ZI p != 0) with
 |true =>
  obtain⟨y,O,E⟩:=Ln V U [zB (L.cells lx c e),.cells (p.cells xp)];refine⟨y,[zB (L.cells lx c e),.cells (p.cells xp)],?_,by rw[if_pos rfl];exact E⟩;simp only[go_sem,Yf,zU,zG,zJ,zZ,zK,w,g,S,O]
 |false =>
  have J:∀ (k:AV->Hp->Z4),XG (.ptr 0 0) [zB (L.cells lx c e),.cells (p.cells xp)] k=k (.vp (L.cells lx c e)) [.dead,.cells (p.cells xp)]:=fun k=>rfl;have j:∀ (k:AV->Hp->Z4),XG (.ptr 1 0) [xK,.cells (p.cells xp)] k=k (.vp (p.cells xp)) [.dead,.dead]:=fun k=>rfl;have F:ClK 55 L p (.fn (.func 55) [] [.vp (L.cells lx c e),.vp (p.cells xp)]):=⟨_,_,rfl,⟨lx,c,e,rfl,B,hc,T⟩,⟨xp,rfl,D⟩⟩;have I:ClK 58 L p (.fn (.func 58) [] [.vp (L.cells lx c e),.vp (p.cells xp)]):=⟨_,_,rfl,⟨lx,c,e,rfl,B,hc,T⟩,⟨xp,rfl,D⟩⟩;obtain⟨y,O,E⟩:=Zre (ZuD L C p u) l.length l x1 _ (zI _) U R V F [xK,.dead];rw[Zkf]at E;obtain⟨f1,W⟩:=Hv L p l;have N:Z7 3 (.vp (p.cells xp))=some (.vp [.bool p.uniq,.bool p.stab]):=rfl;simp only[go_sem,Yf,zU,zG,zJ,zZ,zK,w,g,S,ZdY,J,j,O,N,ZE,zL,if_false]
  cases hu:p.uniq with
  |true =>
   obtain⟨z,o1,o2⟩:=Zkt (ZuE L C p u) I E (fun s M=>R s (W s M)) (by omega) [xK,.dead];exact⟨z,[.dead,.dead],by simp only[go_sem,o1,NF],by simpa using o2⟩
  |false=>exact⟨y,[.dead,.dead],by simp only[go_sem,NF],by simpa using E⟩
def ZgS (L:Loc)(p:Spec):Nat->Zg->List Zg->Int
 |_,_,[]=>-1
 |i,z,a::r=>if (decide (0<ZL L p z a) || (p.uniq&&ZL L p z a==0))=true then i else ZgS L p (i+1) a r
def ZrR (L:Loc)(p:Spec)(l:List Zg):Int :=
 if (ZI p != 0)=true then -1 else match l with
  |[]=>-1
  |a::r=>ZgS L p 1 a r
theorem ZkI (L:Loc)(p:Spec)(i:Nat)(z a:Zg)(r:List Zg):ZgS L p i z (a::r)=if (decide (0<ZL L p z a) || (p.uniq&&ZL L p z a==0))=true then (i:Int) else ZgS L p (i+1) a r:=(Eq.refl _).trans (Eq.refl _)
theorem Zxw {L:Loc}{lx c e:AV}(D:LocAV (.agg (L.cells lx c e)) L)(J:LocOk L){p:Spec}{xp:AV}(M:SpecAV (.agg (p.cells xp)) p)(E:∀ k∈p.keys,KeOk k){x:AV}{l:List Zg}(O:SS x l)(Q:Xg l)(X:l.length<=1048576)(S:Hp) :
 ∀ (r done:List Zg) (z:Zg),l=done++z::r ->
 Uy x (.ptr 0 0) (.ptr 1 0) (.int .i64 ((done.length+1:Nat):Int)) S [zB (L.cells lx c e),.cells (p.cells xp)]=some (.int .i64 (ZgS L p (done.length+1) z r),[zB (L.cells lx c e),.cells (p.cells xp)]):=by
 have F:Z3 true 5 (.ptr 1 0) [zB (L.cells lx c e),.cells (p.cells xp)]=some (.agg (p.cells xp)):=by simp[Z3,Go.Am.apart,Spec.cells]
 have I:=Zgm L lx c e [.cells (p.cells xp)];have V:Z3 false 1 (.ptr 1 (0+3)) [zB (L.cells lx c e),.cells (p.cells xp)]=some (.bool p.uniq):=Y2 (l:=p.cells xp) rfl;have R:=SS.len O 9;intro r
 induction r with
 |nil =>
  intro done z u;have hlen:l.length=done.length+1:=by rw[u];simp
  have g:decide (((done.length+1:Nat):Int)<(l.length:Int))=false:=by simp;omega
  rw[Qj];simp only[go_sem,R,g,DA,ZgS]
 |cons a r W =>
  intro done z u;have hlen:l.length=done.length+(r.length+2):=by rw[u];simp
  have g:decide (((done.length+1:Nat):Int)<(l.length:Int))=true:=by simp;omega
  have C:xS.wrap (((done.length+1:Nat):Int)+1)=((done.length+1+1:Nat):Int):=by rw[Zr (by omega) (by omega)];omega
  have N:xS.wrap (((done.length+1:Nat):Int)-1)=(done.length:Int):=by rw[Zr (by omega) (by omega)];omega
  have B:l[done.length]?=some z:=by rw[u,zE (zI _)];simp
  have y:l[done.length+1]?=some a:=by rw[u,zE (by omega)];simp
  have w:=Zap D J M E z a (Q z (zX B)) (Q a (zX y)) [zB (L.cells lx c e),.cells (p.cells xp)];have T:=SS.idx O B;have U:=SS.idx O y;have j:=W (done++[z]) a (by rw[u];simp);rw[zR,zW]at j;rw[Qj,ZkI];simp only[go_sem,R,g,AJ,I,F,N,T,U,ZE,w]
  cases hc:decide (0<ZL L p z a) with
  |true=>simp only[go_sem,Bool.true_or,if_true]
  |false =>
   simp only[go_sem,V]
   cases Y:p.uniq with
   |false=>simp only[go_sem,xG,yW,zL,if_false,DB,C,j]
   |true =>
    simp only[go_sem]
    cases Z:(ZL L p z a==0) with
    |true=>simp only[go_sem,yA,xM,if_true]
    |false=>simp only[go_sem,yA,yW,zL,if_false,DB,C,j]
theorem Zxv {a:AV}{L:Loc}(h:LocAV a L)(C:LocOk L){q:AV}{p:Spec}(R:SpecAV q p)(B:∀ k∈p.keys,KeOk k){x:AV}{l:List Zg}(S:SS x l)(M:Xg l)(N:l.length<=1048576)(H:Hp) :
 Ze KJ [a,q,x] H=some (.int .i64 (ZrR L p l),H):=by
 obtain⟨W,J,E⟩:=h.close [] 0 5;obtain⟨Y,I,u⟩:=R.close [] 0 5;obtain⟨x1,U,F⟩:=SS.closed S [] 0 7;have g:=fun H=>Gl u H;have w:=E;have D:=u;obtain⟨lx,c,e,rfl,Q,hc,X⟩:=E;obtain⟨xp,rfl,T⟩:=u;have j:Z3 true 5 (.ptr 1 0) [zB (L.cells lx c e),.cells (p.cells xp)]=some (.agg (p.cells xp)):=by simp[Z3,Go.Am.apart,Spec.cells]
 have V:=SS.len F 9;refine ZAm J I U (H1:=[zB (L.cells lx c e),.cells (p.cells xp)]) ?_ rfl;rw[Ig];unfold Nd ZrR
 cases y:(ZI p != 0) with
 |true=>simp only[go_sem,Yf,zU,zG,zJ,zZ,zK,j,g,y,if_true]
 |false =>
  cases l with
  |nil =>
   have O:decide ((1:Int)<((([]:List Zg).length:Nat):Int))=false:=rfl;simp only[go_sem,Yf,zU,zG,zJ,zZ,zK,j,g,y,Dz,Qj,V,show decide ((1:Int)<((0:Nat):Int))=false from rfl,DA,zL,if_false]
  |cons z r =>
   have:=Zxw w C D B F M N [] r [] z rfl;rw[zG,show ((0+1:Nat):Int)=1 from rfl]at this;simp only[go_sem,Yf,zU,zG,zJ,zZ,zK,j,g,y,Dz,zL,if_false,Nat.reduceAdd];exact this
theorem Zel:LocOk defL:=⟨by decide,by simp[defL],by simp[defL],by simp[defL],fun c hc=>(by cases hc),fun c hc=>(by cases hc),by simp[defL],by simp[defL]⟩
theorem ZAw (p:Spec)(h:p.keys=[]):SpecAV (.agg (p.cells .nils)) p:=⟨.nils,rfl,.inl ⟨rfl,by rw[h];rfl⟩⟩
theorem ZzV {p:Spec}(h:p.keys=[]):∀ k∈p.keys,KeOk k:=fun k hk=>by rw[h]at hk;cases hk
theorem ZtM (l:List Zg)(t:Tok):SS (.vs 1 t (l.map AV.str)) l:=.inr ⟨t,rfl⟩
theorem HO (L:Loc)(p:Spec)(l:List Zg):(ZJ L p l).length<=l.length:=by
 obtain⟨j,u⟩:=Hv L p l;have:=Zkr (g:=XR L p) (Pz (ZL L p) l) [];unfold ZJ;split
 ·exact zI _
 ·split
  ·simp at this;omega
  ·omega
def DS (s:List UInt8):Bool :=
 match s with
 |[]=>false
 |b::_=>decide (s.length<=16)&&!N4 b.toNat&&s.all fun c=>Wo c.toNat
theorem ZfH (w z u B:AV)(y H:Hp):BZ w z u B y H =
 Z0 (Zz w u) fun j =>
 Z0 (LH j u) fun g =>
 Zk g (some ((.bool false),H)) (D2 w z u y H):=by
 rw[ZaE];simp only[LH,Nq,Qg]
theorem Znx (s:List UInt8)(j:s.length<=4611686018427387904)(g H:Hp):BY (.str s) g H=some (.bool (!s.isEmpty&&decide (s.length<=16)),H):=by
 rw[ZaD]
 cases s with
 |nil=>simp[go_sem,Xb,DH]
 |cons b l =>
  simp only[Xb,DH,go_sem,Zl];have:(!((b::l)==([]:List UInt8)))=true:=rfl;have c:decide (((b::l).length:Int)<=16)=decide ((b::l).length<=16):=by rw[Bool.eq_iff_iff];simp;omega
  simp only[this,go_sem,c,xB,zQ,yA]
theorem ZrX (s:List UInt8)(z:s.length<=4611686018427387904)(w H:Hp):∀ (k i:Nat),s.length-i=k->0<i->i<=s.length ->
 QB (.str s) (.int .i64 s.length) (.int .i64 i) w H=some (.bool (((s.drop i).all fun c=>Wo c.toNat)&&(!s.isEmpty&&decide (s.length<=16))),H):=by
 intro k
 induction k with
 |zero =>
  intro i hk h0 hi;rw[VR];have g:decide ((i:Int)<(s.length:Int))=false:=by simp;omega
  have y:s.drop i=[]:=List.drop_eq_nil_iff.2 (by omega);simp only[go_sem,g,Znx s z,y,List.all_nil,yA]
 |succ k B =>
  intro i hk h0 hi;rw[VR];have u:i<s.length:=by omega
  have g:decide ((i:Int)<(s.length:Int))=true:=by simp;omega
  have hw:xS.wrap ((i:Int)+1)=((i+1:Nat):Int):=by rw[Zr (by omega) (by omega)];omega
  have j:((i:Int)==0)=false:=by simp;omega
  simp only[go_sem,g,ZfH,Y8 (List.getElem?_eq_getElem u),Zik _ j];rw[List.drop_eq_getElem_cons u,yV]
  cases C:Wo s[i].toNat with
  |false=>simp only[go_sem,zQ,xG]
  |true =>
   simp only[go_sem,zT,yA,Tk,hw];exact B (i+1) (by omega) (by omega) (by omega)
theorem ZrY (s:List UInt8)(w:s.length<=4611686018427387904)(H:Hp):U8 [.str s] H=some (.bool (DS s),H):=by
 rw[Zbo];unfold Ej;simp only[go_sem,Zl]
 cases s with
 |nil=>rw[VR];simp[go_sem,Znx [] (by simp),DS]
 |cons b l =>
  rw[VR];have u:decide ((0:Int)<((b::l).length:Int))=true:=by simp
  have hw:xS.wrap ((0:Int)+1)=((0+1:Nat):Int):=by decide
  have j:Zz (.str (b::l)) (.int .i64 0)=some (.int .u8 b.toNat):=by simp[Zz]
  simp only[go_sem,u,ZfH,j,ZfC]
  cases g:(!Wo b.toNat || N4 b.toNat) with
  |true =>
   have:DS (b::l)=false:=by
    unfold DS;simp only[Bool.or_eq_true,Bool.not_eq_true']at g;rcases g with g|g <;> simp[g]
   simp only[go_sem,this]
  |false =>
   simp only[Bool.or_eq_false_iff,Bool.not_eq_false']at g;simp only[go_sem,Tk,hw];rw[ZrX (b::l) w H H l.length 1 (by simp) (by omega) (by simp)]
   have:DS (b::l)=(((b::l).drop 1).all (fun c=>Wo c.toNat)&&(!(b::l).isEmpty&&decide ((b::l).length<=16))):=by
    unfold DS;simp only[g.1,g.2,yV,List.drop_one,List.tail_cons,xB,zQ,yA,Bool.and_true];rw[Bool.and_comm]
   rw[this]
theorem Zkv (s:Zo)(g:s.length<=1048576)(H:Hp):Ze U8 [.str s] H=some (.bool (DS s),H) :=
 XQ (a':=.str s) rfl (H1:=[]) (ZrY s (by omega) []) rfl
theorem Zpw {H:Hp}{t:Nat}{s:Sto}{S:List Nat}(h:StoreAt H t s S)(hk:StoOk s)(B:s.files=[])(u:Zo)(z:u.length<=1048576):QW Ri [.ptr t 0,.str u] H=some (.nils,H):=by
 have w:=Zkv u z H;have g:Ys (.pointer 82) .eql (.ptr t 0) .nilp=some (.bool false):=rfl;refine Ze3 (H1:=H) (v:=.nils) ?_ (Keep.refl _ _) (zI _) rfl;rw[Zcv];unfold CD
 cases j:DS u with
 |false =>
  rw[j]at w;simp only[go_sem,g,w,zQ]
 |true =>
  rw[j]at w;obtain⟨x,D,E⟩:=ZoR h hk
  have C:Zl (.slice 108) x=some (.int .i64 0):=by
   have:=Sl.len E 108;rw[B]at this;exact this
  have y:decide ((0:Int)<0)=false:=rfl;simp only[go_sem,g,w,zT,Zc5,Ziu u z,D,C,Zc7,y,Zc6]
theorem ZnB {H:Hp}{t:Nat}{s:Sto}{S:List Nat}(h:StoreAt H t s S)(hk:StoOk s)(F:s.files=[])(g:Zo)(C:g.length<=1048576)(L:DS g=true)(lim:Int) :
 ∃ H' A',UT [.ptr t 0,.str g,.int .i64 lim] H=some (.tuple [.ptr (H.length+1) 0,.int .i64 0],H')/\SysAt H' (H.length+1) t ⟨g,[],[],(max 0 lim).toNat,0,false⟩ s A'/\Stp S H H'/\(∀ a∈A',a∈S\/H.length<=a):=by
 have u:Ys (.pointer 82) .eql (.ptr t 0) .nilp=some (.bool false):=rfl;have w:=Zkv g C H;rw[L]at w;have B:decide ((0:Int)<0)=false:=rfl;have y:(X5 [(0,1,.ptr t 0),(1,1,.str g),(3,1,.map H.length)] [.nilp,(.str []),.nils,.nilm]).map AV.agg=some (.agg [.ptr t 0,.str g,.nils,.map H.length]):=rfl;have z:(X5 [(0,4,.agg [.ptr t 0,.str g,.nils,.map H.length]),(4,1,.int .i64 (max 0 lim))] [.nilp,(.str []),.nils,.nilm,(.int .i64 0),(.int .i64 0),(.bool false)]).map AV.agg=some (.agg [.ptr t 0,.str g,.nils,.map H.length,.int .i64 (max 0 lim),.int .i64 0,.bool false]):=rfl;have E:∀ l:List AV,ZO (.agg l) (H++[.map [] 0])=some (.ptr (H.length+1) 0,H++[.map [] 0]++[.cells l]):=fun l=>by rw[FS rfl];simp[AV.cells]
 have D:Stp S H (H++[AObj.map [] 0]++[.cells [.ptr t 0,.str g,.nils,.map H.length,.int .i64 (max 0 lim),.int .i64 0,.bool false]]):=by rw[zV];exact Stp.push _ _
 have I:((max 0 lim).toNat:Int)=max 0 lim:=by omega
 refine⟨H++[.map [] 0]++[.cells [.ptr t 0,.str g,.nils,.map H.length,.int .i64 (max 0 lim),.int .i64 0,.bool false]],[H.length+1,H.length]++S,?_,⟨[H.length+1,H.length],S,⟨H.length,0,.nils,[],⟨?_,.inl ⟨rfl,rfl⟩,?_,rfl,by simp[ZG]⟩,rfl⟩,h.frame fun a j=>?_,fun a j J=>?_,rfl⟩,D,fun a j=>?_⟩
 ·rw[Zcw];unfold CE;simp only[go_sem,u,Zc8,w,zT,Zc9,Zpw h hk F g C,Zcb,B,Zca,y,z,E]
 ·simp[I]
 ·simp
 ·rw[zV,zA (h.lt a j)]
 ·have:=h.lt a J;simp at j;omega
 ·simp at j;rcases j with e|e|j
  ·exact .inr (by omega)
  ·exact .inr (by omega)
  ·exact .inl j
theorem ZjR (o:Nat)(n:Zo)(H:Hp):PZ [.ptr o 0,.str n] H=some (.ptr H.length 0,H++[.cells (VX o n 0 false false [])]):=by
 have g:Ys (.pointer 124) .eql (.ptr o 0) .nilp=some (.bool false):=rfl;have hf:(X5 [(0,1,.ptr o 0),(1,1,.str n)] [.nilp,(.str []),(.int .i64 0),(.bool false),(.bool false),(.str [])]).map AV.agg=some (.agg (VX o n 0 false false [])):=rfl;rw[Zj4];unfold Zfl;simp only[go_sem,g,ZiA,hf,Yf]
theorem ZdQ {H:Hp}{i:Nat}{L:Loc}{x c e:AV}(h:H[i]?=some (.cells (L.cells x c e))):Z3 true 6 (.ptr i 0) H=some (.agg (L.cells x c e)):=by
 rw[YE h];simp[Go.Am.apart,Loc.cells]
theorem Gq {H:Hp}{i:Nat}{p:Spec}{x:AV}(h:H[i]?=some (.cells (p.cells x))):Z3 true 5 (.ptr i 0) H=some (.agg (p.cells x)):=by
 rw[YE h];simp[Go.Am.apart,Spec.cells]
theorem SysRes.trans {H H1 w:Hp}{o t:Nat}{tm1 g:Tmp}{z y:Sto}{A A1 A2:List Nat}(h:SysRes H H1 o t tm1 z A A1)(k:SysRes H1 w o t g y A1 A2):SysRes H w o t g y A A2 :=
 ⟨k.at',h.stp.trans k.stp (fun _ h=>h) fun a j=>h.own a j,fun a j=>by
  rcases k.own a j with u|u
  ·exact h.own a u
  ·exact .inr (xA h.stp.len u)⟩
theorem SysRes.pre {H H1 w:Hp}{o t:Nat}{g:Tmp}{y:Sto}{A A2:List Nat}(h:Stp A H H1)(k:SysRes H1 w o t g y A A2):SysRes H w o t g y A A2 :=
 ⟨k.at',h.trans k.stp (fun _ h=>h) fun a j=>.inl j,fun a j=>by
  rcases k.own a j with u|u
  ·exact .inl u
  ·exact .inr (xA h.len u)⟩
theorem Zs9 {H:Hp}{o t:Nat}{tm tm1 M:Tmp}{s Z s2 s3:Sto}{A:List Nat}{n:Zo}(h:SysAt H o t tm s A)(hm:TmpOk tm)(hk:StoOk s)(V:tm.last<1000000){a q x:AV}{L:Loc}{p:Spec}{l:List Zg}(B:LocAV a L)(W:LocOk L)(hq:SpecAV q p)(U:∀ k∈p.keys,KeOk k)(hx:SS x l)(hL:Xg l)(hl:l.length<=1048576)
 (j:Y1 (ZJ L p l)<=1048576) (Q:Xg (ZJ L p l))
 (hN:Tl tm s=((n,0),(tm1,Z))) (E:TmpOk tm1) (S:StoOk Z) (hW:GM tm1 Z n (ZJ L p l)=(0,s2)) (T:StoOk s2) (hS:Tm tm1 s2 n=(0,(M,s3))) :
 ∃ H' A',E6 [.ptr o 0,a,q,x] H=some (.tuple [.str n,.int .i64 0],H')/\SysRes H H' o t M s3 A A':=by
 have R:=B;have X:=hq;obtain⟨lx,lc,le,rfl,ad,ab,ac⟩:=B;obtain⟨xp,rfl,ae⟩:=hq;have I:Ys (.pointer 124) .eql (.ptr o 0) .nilp=some (.bool false):=rfl;have w:=h.lt;have g1:(H++[zB (L.cells lx lc le),.cells (p.cells xp)])[H.length]?=some (.cells (L.cells lx lc le)):=by simp
 have g2:(H++[zB (L.cells lx lc le),.cells (p.cells xp)])[H.length+1]?=some (.cells (p.cells xp)):=by simp
 have z:Stp A H (H++[zB (L.cells lx lc le),.cells (p.cells xp)]):=Stp.push _ _;have u:(H++[zB (L.cells lx lc le),.cells (p.cells xp)]).length=H.length+2:=by simp
 have g:SysAt (H++[zB (L.cells lx lc le),.cells (p.cells xp)]) o t tm s A:=h.stp (C:=[]) (Stp.push _ _) (fun a B=>by simp);have D:ZO (.agg (p.cells xp)) (H++[zB (L.cells lx lc le)])=some (.ptr (H.length+1) 0,H++[zB (L.cells lx lc le),.cells (p.cells xp)]):=by rw[Yf];simp
 generalize aa:H++[zB (L.cells lx lc le),.cells (p.cells xp)]=H0 at g1 g2 z g D u;obtain⟨H1,A1,p1,J⟩:=Zlu g hm hk V;rw[hN]at p1 J;have F:∀ i,H.length<=i->i∉A:=fun i hi B=>by have:=w i B;omega
 have N:=J.stp.get g1 (F _ (zI _));have O:=J.stp.get g2 (F _ (by omega));obtain⟨y,q1,q2⟩:=HP R W X U hx hL hl H1;obtain⟨H2,A2,r1,Y⟩:=ZjS J.at' E S n q2 Q j;rw[hW]at r1 Y;obtain⟨H3,A3,t1,t2⟩:=Zlt Y.at' E T n;rw[hS]at t1 t2;refine⟨H3,A3,?_,SysRes.pre z ((J.trans Y).trans t2)⟩;have e0:((0:Int) != 0)=false:=rfl;rw[Zh2];unfold Zcp;simp only[Yf,go_sem,D,I,ZgF,p1,zM,zN,e0,ZgG,ZdQ N,Gq O,q1,r1,ZgH,t1,ZgI]
section
variable {α:Type}(c:α->Int)(mem:Int)
structure Ck (α:Type) where
 done:List (List α)
 cur:List α
 cost:Int
def KX (s:Ck α)(x:α):Ck α :=
 if s.cur≠[]/\mem<s.cost+c x then ⟨s.done++[s.cur],[x],c x⟩ else ⟨s.done,s.cur++[x],s.cost+c x⟩
def Y9 (l:List α):Ck α:=l.foldl (KX c mem) ⟨[],[],0⟩
def J9 (s:Ck α):List (List α):=if s.cur=[] then s.done else s.done++[s.cur]
def XP (l:List α):Int:=l.foldl (fun n x=>n+c x) 0
theorem Zd7 (l:List α)(x:α):XP c (l++[x])=XP c l+c x:=by simp[XP]
structure CkOk (l:List α)(s:Ck α):Prop where
 flat:s.done.flatten++s.cur=l
 cost:s.cost=XP c s.cur
 emp:s.cur=[]->s.done=[]
 ne:∀ k∈s.done,k≠[]
 fit:∀ k∈s.done++[s.cur],1<k.length->XP c k<=mem
 next:∀ (i:Nat) (a b:List α) (x:α),(s.done++[s.cur])[i]?=some a->(s.done++[s.cur])[i+1]?=some b->b.head?=some x->mem<XP c a+c x
theorem ZvH:CkOk c mem ([]:List α) ⟨[],[],0⟩:=by
 refine⟨rfl,rfl,fun _=>rfl,by simp,by simp,fun i a b x j g u=>?_⟩;simp at g
theorem Zyi {l:List α}{s:Ck α}(h:CkOk c mem l s)(x:α):CkOk c mem (l++[x]) (KX c mem s x):=by
 unfold KX;split
 ·rename_i hc;obtain⟨F,I⟩:=hc;refine⟨by simp[<-h.flat],by simp[XP],fun e=>(by simp at e),fun k hk=>?_,fun k hk B=>?_,fun i a b y j g w=>?_⟩
  ·rcases yB.1 hk with hk|hk
   ·exact h.ne k hk
   ·rw[zS.1 hk];exact F
  ·rcases yB.1 hk with hk|hk
   ·exact h.fit k hk B
   ·rw[zS.1 hk]at B;simp at B
  ·dsimp only at j g;have hlen:(s.done++[s.cur]).length=s.done.length+1:=by simp
   by_cases hi:i+1<(s.done++[s.cur]).length
   ·rw[zA (by omega)]at j;rw[zA hi]at g;exact h.next i a b y j g w
   ·have C:=(zF.1 g).1;simp only[zR,zW]at C hi;have D:i=s.done.length:=by omega
    subst D;rw[zA (by simp),zE (zI _)]at j;rw[zE (by simp)]at g;simp at j g;subst j g;simp at w;subst w;rw[<-h.cost];exact I
 ·rename_i hc;refine⟨by rw[<-zV,h.flat],by rw[Zd7,h.cost],fun e=>(by simp at e),h.ne,fun k hk B=>?_,fun i a b y j g w=>?_⟩
  ·rcases yB.1 hk with hk|hk
   ·exact h.fit k (List.mem_append_left _ hk) B
   ·rw[zS.1 hk]at B ⊢;have E:s.cur≠[]:=fun e=>by rw[e]at B;simp at B
    rw[Zd7,<-h.cost];simp only[ne_eq,E,not_false_eq_true,true_and]at hc;omega
  ·dsimp only at j g;by_cases hi:i+1<s.done.length
   ·rw[zA (by omega)]at j;rw[zA hi]at g;exact h.next i a b y (by rw[zA (by omega)];exact j) (by rw[zA hi];exact g) w
   ·have C:=(zF.1 g).1;simp only[zR,zW]at C hi;have D:i+1=s.done.length:=by omega
    rw[zA (by omega)]at j;rw[D,zE (zI _)]at g;simp at g;subst g
    cases u:s.cur with
    |nil =>
     have:=h.emp u;rw[this]at D;simp at D
    |cons z t =>
     rw[u]at w;simp at w;subst w;exact h.next i a s.cur z (by rw[zA (by omega)];exact j) (by rw[D,zE (zI _)];simp) (by rw[u];rfl)
theorem ZlQ (l:List α):CkOk c mem l (Y9 c mem l):=by
 have:∀ (r d:List α) (s:Ck α),CkOk c mem d s->CkOk c mem (d++r) (r.foldl (KX c mem) s):=by
  intro r
  induction r with
  |nil=>intro d s h;simpa using h
  |cons x r g =>
   intro d s h;have:=g (d++[x]) _ (Zyi c mem h x);simpa using this
 have h:=this l [] _ (ZvH c mem);simpa[Y9]using h
theorem ZhA (l:List α)(x:α):Y9 c mem (l++[x])=KX c mem (Y9 c mem l) x:=by simp[Y9]
theorem ZsJ (s:Ck α)(x:α):(KX c mem s x).cur≠[]:=by unfold KX;split <;> simp
theorem Zzx {l:List α}(h:l≠[]):(Y9 c mem l).cur≠[]:=by
 obtain⟨x,g,rfl⟩:∃ x g,l=g++[x]:=⟨l.getLast h,l.dropLast,(List.dropLast_concat_getLast h).symm⟩;rw[ZhA];exact ZsJ c mem _ x
end
def RW (w i q:Nat):List Nat:=xO (q*w) (min w (i-q*w))
def YR (w i:Nat):Nat:=(i+w-1) / w
def Vv (w i:Nat):List (List Nat):=(xR (YR w i)).map (RW w i)
theorem ZlY {w:Nat}(hw:0<w):YR w 0=0:=by unfold YR;exact yG (by omega)
theorem Zyl {w i:Nat}(hw:0<w)(h:i % w=0):YR w i=i / w/\YR w (i+1)=i / w+1:=by
 obtain⟨q,rfl⟩:∃ q,i=w*q:=⟨i / w,by have:=yC i w;omega⟩;unfold YR;constructor
 ·rw[yO q hw,show w*q+w-1=w*q+(w-1) by omega,yL hw];rw[yG (by omega)];omega
 ·rw[yO q hw,show w*q+1+w-1=w*q+w by omega,yL hw,Nat.div_self hw]
theorem Zym {w i:Nat}(hw:0<w)(h:i % w≠0):YR w i=i / w+1/\YR w (i+1)=i / w+1:=by
 have g:=yC i w;have j:=xE i hw;generalize i / w=q at g ⊢;generalize i % w=r at g j h;subst g;unfold YR;constructor
 ·rw[show w*q+r+w-1=w*q+(w+(r-1)) by omega,yL hw,xD _ hw,yG (by omega)]
 ·rw[show w*q+r+1+w-1=w*q+(w+r) by omega,yL hw,xD _ hw,yG (by omega)]
theorem Za6 {w i q:Nat}(h:(q+1)*w<=i):RW w i q=xO (q*w) w:=by
 unfold RW;rw[xP,xQ]at h;rw[Nat.min_eq_left (by omega)]
theorem Zx0 {w i:Nat}(hw:0<w)(h:i % w=0):Vv w (i+1)=Vv w i++[[i]]:=by
 obtain⟨u,y⟩:=Zyl hw h;have g:=yC i w;rw[h,Nat.add_zero]at g;unfold Vv;rw[u,y,yQ,yR];congr 1
 ·refine yX fun q j=>?_;have j:=xH.1 j;have:(q+1)*w<=i:=by rw[<-g,yE w];exact yU _ j
  rw[Za6 this,Za6 (by omega)]
 ·simp only[xL,xN,RW];rw[yE,g,Nat.add_sub_cancel_left,yM (by omega)];rfl
theorem Zx1 {w i:Nat}(hw:0<w)(h:i % w≠0):∃ A g,Vv w i=A++[g]/\Vv w (i+1)=A++[g++[i]]/\g.length<w:=by
 obtain⟨u,y⟩:=Zym hw h;have z:=yC i w;have B:=xE i hw;refine⟨(xR (i / w)).map (RW w i),RW w i (i / w),?_,?_,?_⟩
 ·unfold Vv;rw[u,yQ,yR];rfl
 ·unfold Vv;rw[y,yQ,yR];congr 1
  ·refine yX fun q j=>?_;have j:=xH.1 j
   have:(q+1)*w<=i:=by
    have:(q+1)*w<=w*(i / w):=by rw[yE w];exact yU _ j
    omega
   rw[Za6 this,Za6 (by omega)]
  ·simp only[xL,xN,RW];have e:i / w*w=w*(i / w):=yE _ _;rw[e,yM (by omega),yM (by omega),show i+1-w*(i / w)=(i-w*(i / w))+1 by omega,List.range'_concat];congr 3;omega
 ·unfold RW;rw[yZ];have e:i / w*w=w*(i / w):=yE _ _;omega
theorem Zgx (w i:Nat):(Vv w i).length=YR w i:=by simp[Vv]
theorem ZwZ {w i q:Nat}(h:q<YR w i):(Vv w i)[q]?=some (RW w i q):=by simp[Vv,h]
theorem ZyD {w i q k:Nat}(h:k<(RW w i q).length):(RW w i q)[k]?=some (q*w+k):=by
 unfold RW at h ⊢;rw[yZ]at h;rw[List.getElem?_range' h];simp
theorem Zd5 {w i q:Nat}(hw:0<w)(h:q<YR w i):q*w<i:=by
 unfold YR at h;have g:(q+1)*w<=i+w-1:=(Nat.le_div_iff_mul_le hw).1 h;rw[xP,xQ]at g;omega
theorem ZlW {w i:Nat}(hw:0<w):i<=YR w i*w:=by
 unfold YR;have h:=yC (i+w-1) w;have:=xE (i+w-1) hw;rw[yE];omega
theorem ZyE {w i q:Nat}:(RW w i q).length=min w (i-q*w):=by simp[RW]
end Go.Am
