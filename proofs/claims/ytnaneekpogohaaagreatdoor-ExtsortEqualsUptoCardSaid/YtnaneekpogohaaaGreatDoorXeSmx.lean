/- Temporary files in the machine -/
import Derived.Test.YtnaneekpogohaaaGreatDoorXeQbx
import Derived.Test.YtnaneekpogohaaaGreatDoorXeGXx
import Derived.Test.YtnaneekpogohaaaGreatDoorXeJx
import Derived.Test.YtnaneekpogohaaaGreatDoorXeMzx
import Derived.Test.YtnaneekpogohaaaGreatDoorHmXx
open Go.IntKind renaming i64->xP
open List renaming getElem?_append_left->zA,filter_cons->zB,pairwise_cons->zC,getElem?_eq_some_iff->zD,mem_cons->zF,getElem?_append_right->zG,length_nil->zI,getElem?_cons_zero->zJ,getElem?_cons_succ->zK,length_take->zL,set->zM,mem_singleton->zN,length_cons->zP,length_append->zR,length_drop->zS,mem_append->zT,filter_append->zV,take_append_drop->zY,length_singleton->zZ,getElem?_of_mem->yB,mem_of_mem_take->yC,mem_of_mem_drop->yD,mem_filter->yE,append_assoc->yH,length_eq_zero_iff->yK,filter_eq_nil_iff->yM,nil_append->yN,range_succ->yO,map_append->yP,pairwise_append->yR,mem_of_getElem?->yS,all_cons->yU,map_congr_left->yV,getElem?_drop->yW,length_range'->yX,isEmpty_cons->yZ,cons_append->xB,mapM_cons->xE,mem_range->xF,mapM_nil->xH,map_cons->xJ,map_nil->xK,range'->xL,range->xO
open Nat renaming le_refl->zH,zero_add->zQ,div_add_mod->zU,mul_comm->zW,div_eq_of_lt->yA,mul_add_div->yF,min_eq_right->yJ,mul_div_cancel_left->yL,mul_le_mul_right->yT,le_trans->yY,le_add_right->xA,add_div_left->xC,mod_lt->xD,add_mul->xM,one_mul->xN
open Bool renaming not_false->zO,not_true->zX,false_eq_true->yG,true_and->yI,or_assoc->xG
open Int renaming le_refl->yQ
open Go.Am.AObj renaming cells->zE,dead->xI
namespace Go.Am
set_option linter.unusedSectionVars false
set_option maxRecDepth 100000
theorem JB {s:Sto}(j:s.crashed=false)(g:s.count=0):s.tick=s:=by
 unfold Sto.tick;rw[if_neg (by simp[j]),if_neg (by omega)];cases s;simp only at g;subst g;rfl
theorem SysAt.same {H H':Hp}{o t:Nat}{tm:Tmp}{s':Sto}{B S:List Nat}(j:TmpAt H o t tm B)(g:∀ a∈B,a∉S)(hr:StoRes H H' t s' S S):SysAt H' o t tm s' (B++S) :=
 ⟨B,S,j.stp hr.stp g,hr.at',g,rfl⟩
section
variable {H:Hp}{o t:Nat}{tm:Tmp}{s:Sto}{A:List Nat}(h:SysAt H o t tm s A)(hm:TmpOk tm)(hk:StoOk s)(n:Zm)
include h hm hk
theorem ZrD (hf:Yh tm n≠0)(i:Int):Ve [.ptr o 0,.str n,.int .i64 i] H=some (.tuple [.str [],.int .i64 0,.int .i64 (Yh tm n)],H):=by
 obtain⟨B,S,⟨z,j,C,sl,u,rfl⟩,w,y,rfl⟩:=h;have g:=Eg u hm n;have e0:(Yh tm n != 0)=true:=by simpa using hf
 rw[KM];unfold QF;simp only[g,go_sem,e0]
theorem ZrE (hf:Yh tm n=0)(hc:s.tick.crashed=false){f:Fil}(hg:ZN s.files n=some f){p:Zm}{rest:List Zm}(D:f.text=p++ZO rest)(hfit:X0 rest=true)(hlen:f.text.length<=262144) :
 ∃ H',Ve [.ptr o 0,.str n,.int .i64 (p.length:Int)] H=some (match rest with
  |[]=>.tuple [.str [],.int .i64 0,.int .i64 5]
  |l::_=>.tuple [.str l,.int .i64 ((p++YV l).length:Int),.int .i64 0],H')/\SysAt H' o t tm s.tick A/\Stp A H H':=by
 obtain⟨B,S,j,M,N,rfl⟩:=h;have O:=j;obtain⟨V,L,W,sl,j,rfl⟩:=j;have u:=Eg j hm n;have I:=ZT j.cells 0 (v:=.ptr t 0) rfl;have e0:(Yh tm n != 0)=false:=by rw[hf];rfl
 have F:((0:Int) != 0)=false:=rfl;have U:p.length<=f.text.length:=by rw[D];simp
 obtain⟨H1,E,J⟩:=ZkE M hk n (p.length:Int) 4102 (by omega)
 have z:s.read n (p.length:Int) 4102=((ZO rest).take 4102,0):=by
  unfold Sto.read;rw[if_neg (by simp[hc]),hg];dsimp only;rw[if_neg (by omega),Int.toNat_natCast,D,List.drop_append_of_le_length (zH _),List.drop_length];rfl
 rw[z]at E;refine⟨H1,?_,SysAt.same O N J,J.stp.mono fun a Q=>by simp[Q]⟩;rw[KM];unfold QF
 cases rest with
 |nil =>
  have g:((ZO ([]:List Zm)).take 4102==([]:Zm))=true:=rfl;simp only[u,go_sem,e0,zQ,Ky,I,E,zJ,zK,F,Kz,g]
 |cons l r =>
  have T:l.length<=4096:=by
   simp only[X0,yU,Bool.and_eq_true,decide_eq_true_eq]at hfit;exact hfit.1
  have y:(ZO (l::r)).take 4102=YV l++(ZO r).take (4102-(YV l).length):=by
   show (YV l++ZO r).take 4102=_;rw[List.take_append,List.take_of_length_le (by rw[KW];omega)]
  have g:((ZO (l::r)).take 4102==([]:Zm))=false:=by
   rw[y];have:(YV l).length≠0:=by rw[KW];omega
   cases hr:YV l with
   |nil=>rw[hr]at this;simp at this
   |cons a b=>rfl
  have w:=Ztx l ((ZO r).take (4102-(YV l).length)) T (by
   rw[zL];omega) H1
  rw[<-y]at w
  have R:(ZO (l::r)).length<=262144:=by
   have:=congrArg List.length D;rw[zR]at this;omega
  have C:(YV l).length=l.length+6:=KW l
  have hw:xP.wrap ((p.length:Int)+((l.length+6:Nat):Int))=((p++YV l).length:Int):=by
   rw[zR,C,Zr (by omega) (by omega)];omega
  simp only[u,go_sem,e0,zQ,Ky,I,E,zJ,zK,F,Kz,g,Lb,w,Lc,hw]
end
abbrev VS (o:Nat)(n:Zm)(i:Nat)(g u:Bool)(j:Zm):List AV:=[.ptr o 0,.str n,.int .i64 (i:Int),.bool g,.bool u,.str j]
def Rdr (H:Hp)(r o:Nat)(n text:Zm)(rest:List Zm):Prop :=
 (∃ l q p,H[r]?=some (.cells (VS o n (p++YV l).length true false l))/\rest=l::q/\text=p++YV l++ZO q) \/
 (rest=[]/\∃ p,H[r]?=some (.cells (VS o n p false true []))) \/
 ∃ p,H[r]?=some (.cells (VS o n p.length false false []))/\text=p++ZO rest
theorem Rdr.cells {H:Hp}{r o:Nat}{n text:Zm}{rest:List Zm}(h:Rdr H r o n text rest):∃ c,H[r]?=some (.cells c):=by
 rcases h with ⟨l,q,p,h,_⟩|⟨_,p,h⟩|⟨p,h,_⟩ <;> exact⟨_,h⟩
theorem Rdr.frame {H H':Hp}{r o:Nat}{n text:Zm}{rest:List Zm}(h:Rdr H r o n text rest)(hf:H'[r]?=H[r]?):Rdr H' r o n text rest:=by
 unfold Rdr at h ⊢;rw[hf];exact h
section
variable {H:Hp}{o t:Nat}{tm:Tmp}{s:Sto}{A:List Nat}(h:SysAt H o t tm s A)(hm:TmpOk tm)(hk:StoOk s){n:Zm}{r:Nat}{f:Fil}{rest:List Zm}
 (hr:Rdr H r o n f.text rest) (hrA:r∉A) (hf:Yh tm n=0) (hc:s.crashed=false) (h0:s.count=0) (hg:ZN s.files n=some f) (hfit:X0 rest=true) (hlen:f.text.length<=262144)
include h hm hk hr hrA hf hc h0 hg hfit hlen
theorem ZuF:∃ H',V4 [.ptr r 0] H=some (.tuple [.str (rest.headD []),.bool (!rest.isEmpty),.int .i64 0],H')/\SysAt H' o t tm s A/\Stp (r::A) H H' /\
 (rest=[]/\(∃ p,H'[r]?=some (.cells (VS o n p false true [])))\/∃ l q p,H'[r]?=some (.cells (VS o n (p++YV l).length true false l))/\rest=l::q/\f.text=p++YV l++ZO q):=by
 have E:=JB hc h0;have g:YC (.pointer 150) .eql (.ptr r 0) .nilp=some (.bool false):=rfl;rw[Fc];unfold KJ;rcases hr with ⟨l,q,p,hr,rfl,w⟩|⟨rfl,p,hr⟩|⟨p,hr,w⟩
 ·have z:=ZT hr 3 (v:=.bool true) rfl;have l5:=ZT hr 5 (v:=.str l) rfl;refine⟨H,?_,h,Stp.refl _ _,.inr ⟨l,q,p,hr,rfl,w⟩⟩;simp only[go_sem,zQ,g,X7,z,zX,X8,Dl,l5];rfl
 ·have z:=ZT hr 3 (v:=.bool false) rfl;have I:=ZT hr 4 (v:=.bool true) rfl;refine⟨H,?_,h,Stp.refl _ _,.inl ⟨rfl,p,hr⟩⟩;simp only[go_sem,zQ,g,X7,z,I,zX,zO,X8];rfl
 ·have z:=ZT hr 3 (v:=.bool false) rfl;have I:=ZT hr 4 (v:=.bool false) rfl;have W:=ZT hr 0 (v:=.ptr o 0) rfl;have X:=ZT hr 1 (v:=.str n) rfl;have Y:=ZT hr 2 (v:=.int .i64 (p.length:Int)) rfl;obtain⟨H1,Z,S,T⟩:=ZrE h hm hk n hf (by rw[E];exact hc) hg w hfit hlen;rw[E]at S;have F:=T.get hr hrA
  cases rest with
  |nil =>
   have e5:((5:Int)==0)=false:=rfl;have L:((5:Int)==5)=true:=rfl;have s4:=Q7 F 4 (v:=.bool true) rfl rfl (by simp);have D:=Zt (zE (zM (VS o n p.length false false []) 4 (.bool true))) F;have R:=ZT D 3 (v:=.bool false) rfl;have j:Stp (r::A) H1 (H1.set r (.cells (zM (VS o n p.length false false []) 4 (.bool true)))):=Stp.set _ _ (by simp);refine⟨H1.set r (.cells (zM (VS o n p.length false false []) 4 (.bool true))),?_,S.stp (C:=[r]) (Stp.set _ _ (by simp)) (fun a u=>by simp;exact fun e=>hrA (e ▸ u)),(T.mono (B:=r::A) fun a u=>by simp[u]).trans j (fun _ h=>h) (fun _ h=>.inl h),.inl ⟨rfl,p.length,D⟩⟩;simp only[go_sem,zQ,g,X7,z,I,W,X,Y,Z,zJ,zK,e5,L,s4,X8,R,zO];rfl
  |cons l q =>
   have ez:((0:Int)==0)=true:=rfl;have s5:=Q7 F 5 (v:=.str l) rfl rfl (by simp);have D:=Zt (zE (zM (VS o n p.length false false []) 5 (.str l))) F;have U:=Q7 D 2 (v:=.int .i64 ((p++YV l).length:Int)) rfl rfl (by simp);have M:=Zt (zE (zM (zM (VS o n p.length false false []) 5 (.str l)) 2 (.int .i64 ((p++YV l).length:Int)))) D;have J:=Q7 M 3 (v:=.bool true) rfl rfl (by simp);have y:=Zt (zE (zM (zM (zM (VS o n p.length false false []) 5 (.str l)) 2 (.int .i64 ((p++YV l).length:Int))) 3 (.bool true))) M;generalize N:H1.set r (.cells (zM (VS o n p.length false false []) 5 (.str l)))=H2 at s5 U M J y;generalize O:H2.set r (.cells (zM (zM (VS o n p.length false false []) 5 (.str l)) 2 (.int .i64 ((p++YV l).length:Int))))=H3 at U J y;generalize Q:H3.set r (.cells (zM (zM (zM (VS o n p.length false false []) 5 (.str l)) 2 (.int .i64 ((p++YV l).length:Int))) 3 (.bool true)))=V at J y;have R:=ZT y 3 (v:=.bool true) rfl;have k5:=ZT y 5 (v:=.str l) rfl
   have j:Stp [r] H1 V:=by
    rw[<-Q,<-O,<-N];exact ((Stp.set _ _ (by simp)).trans (Stp.set _ _ (by simp)) (fun _ h=>h) fun _ h=>.inl h).trans (Stp.set _ _ (by simp)) (fun _ h=>h) fun _ h=>.inl h
   refine⟨V,?_,S.stp j (fun a u=>by simp;exact fun e=>hrA (e ▸ u)),(T.mono (B:=r::A) fun a u=>by simp[u]).trans (j.mono (B:=r::A) fun a u=>by rw[zN.1 u];simp) (fun _ h=>h) (fun _ h=>.inl h),.inr ⟨l,q,p,y,rfl,by rw[w];simp[ZO]⟩⟩;simp only[go_sem,zQ,g,X7,z,I,W,X,Y,Z,zJ,zK,ez,s5,U,J,X8,R,zX,zO,Dl,k5];rfl
end
structure Cm {α:Type}(f:α->α->Int):Prop where
 one:∀ a b,f a b=-1\/f a b=0\/f a b=1
 sym:∀ a b,f b a=-f a b
 tr:∀ a b c,f a b<=0->f b c<=0->f a c<=0/\(f a c<0↔f a b<0\/f b c<0)
theorem Cm.of {α:Type}{f g:α->α->Int}(h:Cm f)(e:∀ a b,g a b=f a b):Cm g:=by
 have:g=f:=funext fun a=>funext fun b=>e a b;rw[this];exact h
theorem Cm.comap {α β:Type}{f:β->β->Int}(h:Cm f)(g:α->β):Cm fun a b=>f (g a) (g b) :=
 ⟨fun a b=>h.one _ _,fun a b=>h.sym _ _,fun a b c=>h.tr _ _ _⟩
theorem Cm.tr2 {α:Type}{f:α->α->Int}(h:Cm f)(a b c:α)(w:0<=f a b)(y:0<=f b c):0<=f a c/\(0<f a c↔0<f a b\/0<f b c):=by
 have g:=h.sym a b;have j:=h.sym b c;have u:=h.sym a c;have:=h.tr c b a (by omega) (by omega);omega
theorem Cm.self {α:Type}{f:α->α->Int}(h:Cm f)(a:α):f a a=0:=by
 have:=h.sym a a;omega
theorem Cm.neg {α:Type}{f:α->α->Int}(h:Cm f):Cm fun a b=>-f a b:=by
 refine⟨fun a b=>?_,fun a b=>?_,fun a b c g j=>?_⟩
 ·have:=h.one a b;show -f a b=_\/-f a b=_\/-f a b=_;omega
 ·have:=h.sym a b;show -f b a=- -f a b;omega
 ·have:=h.tr2 a b c (by omega) (by omega);show -f a c<=0/\(-f a c<0↔-f a b<0\/-f b c<0);omega
theorem Cm.lex {α:Type}{f g:α->α->Int}(h:Cm f)(k:Cm g):Cm fun a b=>if (f a b != 0)=true then f a b else g a b:=by
 have e:∀ a b,(if (f a b != 0)=true then f a b else g a b)=if f a b=0 then g a b else f a b:=fun a b=>by
  by_cases h0:f a b=0 <;> simp[h0]
 refine Cm.of (f:=fun a b=>if f a b=0 then g a b else f a b) ⟨fun a b=>?_,fun a b=>?_,fun a b c=>?_⟩ e
 ·show (if f a b=0 then g a b else f a b)=-1\/_\/_;have j:=h.one a b;have u:=k.one a b;split <;> assumption
 ·show (if f b a=0 then g b a else f b a)=-(if f a b=0 then g a b else f a b);have j:=h.sym a b;have u:=k.sym a b;split <;> split <;> omega
 ·show (if f a b=0 then g a b else f a b)<=0->(if f b c=0 then g b c else f b c)<=0->(if f a c=0 then g a c else f a c)<=0/\((if f a c=0 then g a c else f a c)<0↔(if f a b=0 then g a b else f a b)<0\/(if f b c=0 then g b c else f b c)<0);have j:=h.tr a b c;have u:=k.tr a b c;intro w y;by_cases z:f a b=0 <;> by_cases B:f b c=0 <;> by_cases z3:f a c=0 <;> simp only[z,B,z3,if_true,if_false]at w y ⊢ <;> omega
theorem sgnS_cm:Cm HY:=by
 refine⟨Zmu,fun a b=>?_,fun a b c=>?_⟩
 ·unfold HY;split <;> split <;> (try split) <;> (try split) <;> omega
 ·unfold HY;intro B C;by_cases g:a<b <;> by_cases j:b<a <;> by_cases u:b<c <;> by_cases w:c<b <;> by_cases y:a<c <;> by_cases z:c<a <;> simp only[g,j,u,w,y,z,if_true,if_false]at B C ⊢ <;> omega
theorem ordS_cm:Cm VG:=by
 refine⟨Zft,?_,?_⟩
 ·intro a
  induction a with
  |nil=>intro b;cases b <;> simp[VG]
  |cons x a g =>
   intro b
   cases b with
   |nil=>simp[VG]
   |cons y b =>
    rw[QV,QV];have:=g b;split <;> split <;> (try split) <;> (try split) <;> omega
 ·intro a
  induction a with
  |nil=>intro b c;cases b <;> cases c <;> simp[VG]
  |cons x a g =>
   intro b c
   cases b with
   |nil=>cases c <;> simp[VG]
   |cons y b =>
    cases c with
    |nil=>simp[VG]
    |cons z c =>
     rw[QV,QV,QV];have:=g b c;intro E F;by_cases j:x<y <;> by_cases u:y<x <;> by_cases w:y<z <;> by_cases B:z<y <;> by_cases C:x<z <;> by_cases D:z<x <;> simp only[j,u,w,B,C,D,if_true,if_false]at E F ⊢ <;> omega
theorem Zyl:Cm J3:=(ordS_cm.comap ZAX).of fun a b=>(Zl3 a b).symm
theorem Zio (L:Loc):Cm (Bq L):=(ordS_cm.comap (wS (Yi L))).lex Zyl
theorem ZjE (L:Loc)(n:Nat):Cm (N9 L n):=by
 cases g:n.testBit 0 with
 |true=>exact (sgnS_cm.comap ZqV).of fun a b=>by simp[N9,g]
 |false=>exact ((Zio L).comap (Q3 L n)).of fun a b=>by simp[N9,g]
theorem ZjF (L:Loc)(n:Nat):Cm (Q1 L n):=by
 cases g:n.testBit 1 with
 |true=>exact (ZjE L n).neg.of fun a b=>by simp[Q1,g]
 |false=>exact (ZjE L n).of fun a b=>by simp[Q1,g]
theorem Zym (L:Loc)(p:Spec):∀ l:List Ke,Cm fun a b=>IR L p a b l:=by
 intro l
 induction l with
 |nil=>exact⟨fun _ _=>.inr (.inl rfl),fun _ _=>rfl,fun _ _ _ _ _=>⟨yQ _,by simp[IR]⟩⟩
 |cons k l g=>exact (((ZjF L (Ei p k)).comap fun a=>ex a (fields a p.sep) k).lex g).of fun a b=>Zj6 L p a b k l
theorem Zwr (L:Loc)(p:Spec):Cm (Zhg L p):=by
 cases g:(p.keys.length==0) with
 |true=>exact (ZjF L p.flags.toNat).of fun a b=>by simp only[Zhg,g,if_true]
 |false=>exact (Zym L p p.keys).of fun a b=>by simp only[Zhg,g,yG,if_false]
theorem ZlV (L:Loc)(p:Spec):Cm (W5 L p):=Zwr L (Zz p)
theorem ZkY (p:Spec):ZK (Zz p)=0:=by
 unfold Zz
 cases g:(ZK p != 0) with
 |true=>rfl
 |false=>simpa using g
theorem Zo3 (p:Spec):Zz (Zz p)=Zz p:=by
 show (if (ZK (Zz p) != 0)=true then plainP else Zz p)=Zz p;rw[ZkY];rfl
theorem ZeC (L:Loc)(p:Spec)(a b:List UInt8):W5 L (Zz p) a b=W5 L p a b:=by unfold W5;rw[Zo3]
def Zhc (L:Loc)(p:Spec)(a b:List UInt8):Int:=if (Zz p).flags.toNat.testBit 1 then -Bq L a b else Bq L a b
theorem Zwn (L:Loc)(p:Spec):Cm (Zhc L p):=by
 cases g:(Zz p).flags.toNat.testBit 1 with
 |true=>exact (Zio L).neg.of fun a b=>by simp[Zhc,g]
 |false=>exact (Zio L).of fun a b=>by simp[Zhc,g]
theorem HT {L:Loc}{p:Spec}(h:((Zz p).stab || (Zz p).uniq)=true)(a b:List UInt8):Y3 L p a b=W5 L p a b:=by
 unfold Y3;rw[ZeC,xG,h,Bool.or_true,if_pos rfl]
theorem ZnN {L:Loc}{p:Spec}(h:((Zz p).stab || (Zz p).uniq)=false)(a b:List UInt8):Y3 L p a b=if (W5 L p a b != 0)=true then W5 L p a b else Zhc L p a b:=by
 unfold Y3 Zhc;rw[ZeC,xG,h,Bool.or_false]
theorem CM (L:Loc)(p:Spec):Cm (Y3 L p):=by
 cases g:((Zz p).stab || (Zz p).uniq) with
 |true=>exact (ZlV L p).of (HT g)
 |false=>exact ((ZlV L p).lex (Zwn L p)).of (ZnN g)
section
variable {α:Type}{f:α->α->Int}
def Fh (f:α->α->Int)(l:List α):Prop:=l.Pairwise fun a b=>f a b<=0
def YP (f:α->α->Int)(x y:α):Bool:=f x y==0
def mergeL (f:α->α->Int):List α->List α->List α
 |[],b=>b
 |a::l,[]=>a::l
 |a::l,b::m=>if 0<f a b then b::mergeL f (a::l) m else a::mergeL f l (b::m)
termination_by a b=>a.length+b.length
theorem Gh (b:List α):mergeL f [] b=b:=by rw[mergeL]
theorem JZ (a:List α):mergeL f a []=a:=by cases a <;> rw[mergeL]
theorem Xm (a b:α)(l m:List α):mergeL f (a::l) (b::m)=if 0<f a b then b::mergeL f (a::l) m else a::mergeL f l (b::m):=by rw[mergeL]
def Q0 (f:α->α->Int):Nat->List α->List α
 |0,l=>l
 |n+1,l=>if l.length<2 then l else mergeL f (Q0 f n (l.take (l.length / 2))) (Q0 f n (l.drop (l.length / 2)))
def Jj (f:α->α->Int)(S:List α)(y:α):Nat->Nat
 |0=>0
 |k+1=>match S[k]? with
  |some s=>if 0<f s y then Jj f S y k else k+1
  |none=>Jj f S y k
def HP (f:α->α->Int)(S:List α)(y:α):List α:=S.take (Jj f S y S.length)++y::S.drop (Jj f S y S.length)
def TZ (f:α->α->Int)(l:List α):List α:=l.foldl (HP f) []
def Jk (g:α->α->Int)(out:List α)(x:α):Bool:=match out.getLast? with
 |some y=>g y x==0
 |none=>false
def VF (g:α->α->Int):List α->List α->List α
 |out,[]=>out
 |out,x::l=>VF g (if Jk g out x=true then out else out++[x]) l
variable (h:Cm f)
include h
theorem Cm.eqv_iff (x y:α):YP f x y=true↔f x y=0:=by unfold YP;rw[beq_iff_eq]
theorem Cm.le_trans {a b c:α}(g:f a b<=0)(j:f b c<=0):f a c<=0:=(h.tr a b c g j).1
theorem Cm.lt_le {a b c:α}(g:f a b<0)(j:f b c<=0):f a c<0:=(h.tr a b c (by omega) j).2.2 (.inl g)
theorem Cm.le_lt {a b c:α}(g:f a b<=0)(j:f b c<0):f a c<0:=(h.tr a b c g (by omega)).2.2 (.inr j)
theorem ZfM:∀ A B:List α,Fh f A->Fh f B->(∀ x,A.filter (YP f x)=B.filter (YP f x))->A=B:=by
 intro A;have self:∀ x,YP f x x=true:=fun x=>by rw[h.eqv_iff];exact h.self x
 induction A with
 |nil =>
  intro B _ _ hf
  cases B with
  |nil=>rfl
  |cons b B =>
   have:=hf b;rw[zB,self b]at this;simp at this
 |cons a A F =>
  intro B D E hf
  cases B with
  |nil =>
   have:=hf a;rw[zB,self a]at this;simp at this
  |cons b B =>
   have j:=zC.1 D;have u:=zC.1 E
   have z:b∈a::A:=by
    have g:b∈(b::B).filter (YP f b):=yE.2 ⟨by simp,self b⟩;rw[<-hf b]at g;exact (yE.1 g).1
   have w:a∈b::B:=by
    have g:a∈(a::A).filter (YP f a):=yE.2 ⟨by simp,self a⟩;rw[hf a]at g;exact (yE.1 g).1
   have g:f a b<=0:=by
    rcases zF.1 z with e|e
    ·rw[e,h.self];exact yQ _
    ·exact j.1 b e
   have I:f b a<=0:=by
    rcases zF.1 w with e|e
    ·rw[e,h.self];exact yQ _
    ·exact u.1 a e
   have C:f a b=0:=by have:=h.sym a b;omega
   have y:a=b:=by
    have:=hf a;rw[zB,self a,zB,(h.eqv_iff a b).2 C]at this;simp only[if_true,List.cons.injEq]at this;exact this.1
   subst y;congr 1;refine F B j.2 u.2 fun x=>?_;have:=hf x;rw[zB,zB]at this;split at this
   ·simpa using this
   ·exact this
theorem Zjv:∀ (A B:List α) (x:α),x∈mergeL f A B↔x∈A\/x∈B:=by
 intro A B x
 induction A,B using mergeL.induct f with
 |case1 b=>simp[Gh]
 |case2 a l=>simp[JZ]
 |case3 a l b m hc g =>
  rw[Xm,if_pos hc,zF,g];simp only[zF];constructor
  ·rintro (h|h|h) <;> simp[h]
  ·rintro (h|h|h) <;> simp[h]
 |case4 a l b m hc g =>
  rw[Xm,if_neg hc,zF,g];simp only[zF];constructor
  ·rintro (h|h|h) <;> simp[h]
  ·rintro ((h|h)|h) <;> simp[h]
theorem Ztn:∀ A B:List α,Fh f A->Fh f B->Fh f (mergeL f A B):=by
 intro A B
 induction A,B using mergeL.induct f with
 |case1 b=>intro _ z;rw[Gh];exact z
 |case2 a l=>intro w _;rw[JZ];exact w
 |case3 a l b m hc D =>
  intro w z;rw[Xm,if_pos hc];have j:=zC.1 w;have u:=zC.1 z;refine zC.2 ⟨fun y g=>?_,D w u.2⟩;rcases (Zjv h _ _ y).1 g with g|g
  ·have C:f b a<0:=by have:=h.sym a b;omega
   rcases zF.1 g with e|e
   ·rw[e];omega
   ·have:=h.lt_le C (j.1 y e);omega
  ·exact u.1 y g
 |case4 a l b m hc D =>
  intro w z;rw[Xm,if_neg hc];have j:=zC.1 w;have u:=zC.1 z;refine zC.2 ⟨fun y g=>?_,D j.2 z⟩;rcases (Zjv h _ _ y).1 g with g|g
  ·exact j.1 y g
  ·rcases zF.1 g with e|e
   ·rw[e];omega
   ·exact h.le_trans (by omega) (u.1 y e)
theorem Zm1 (x:α):∀ A B:List α,Fh f A->(mergeL f A B).filter (YP f x)=A.filter (YP f x)++B.filter (YP f x):=by
 intro A B
 induction A,B using mergeL.induct f with
 |case1 b=>intro _;rw[Gh];simp
 |case2 a l=>intro _;rw[JZ];simp
 |case3 a l b m hc D =>
  intro w;have g:=zC.1 w;rw[Xm,if_pos hc,zB,D w]
  cases z:YP f x b with
  |false=>simp only[zB,z,yG,if_false]
  |true =>
   rw[h.eqv_iff]at z;have j:f b a<0:=by have:=h.sym a b;omega
   have u:(a::l).filter (YP f x)=[]:=by
    rw[yM];intro y F C;rw[h.eqv_iff]at C
    have E:f b y<0:=by
     rcases zF.1 F with e|e
     ·rw[e];exact j
     ·exact h.lt_le j (g.1 y e)
    have I:=h.le_lt (a:=x) (b:=b) (c:=y) (by omega) E;omega
   rw[u];simp[zB,(h.eqv_iff x b).2 z]
 |case4 a l b m hc D =>
  intro w;have g:=zC.1 w;rw[Xm,if_neg hc,zB,D g.2,zB (xs:=l)];split <;> simp
theorem ZqG:∀ (n:Nat) (l:List α),l.length<=n->Fh f (Q0 f n l)/\∀ x,(Q0 f n l).filter (YP f x)=l.filter (YP f x):=by
 intro n
 induction n with
 |zero=>intro l B;have:l=[]:=yK.1 (by omega);subst this;exact⟨List.Pairwise.nil,fun _=>rfl⟩
 |succ n u =>
  intro l B;unfold Q0;split
  ·rename_i j;refine⟨?_,fun _=>rfl⟩
   match l,j with
   |[],_=>exact List.Pairwise.nil
   |[a],_=>exact List.pairwise_singleton _ _
  ·rename_i j;obtain⟨g,w⟩:=u (l.take (l.length / 2)) (by rw[zL];omega);obtain⟨y,z⟩:=u (l.drop (l.length / 2)) (by rw[zS];omega);refine⟨Ztn h _ _ g y,fun x=>?_⟩;rw[Zm1 h x _ _ g,w,z,<-zV,zY]
omit h in
theorem ZyY (S:List α)(y:α):∀ k,Jj f S y k<=k:=by
 intro k
 induction k with
 |zero=>exact zH _
 |succ k g =>
  unfold Jj;split
  ·split <;> omega
  ·omega
omit h in
theorem Zht (S:List α)(y:α):∀ k,∀ j s,Jj f S y k<=j->j<k->S[j]?=some s->0<f s y:=by
 intro k
 induction k with
 |zero=>intro j s _ z;omega
 |succ k w =>
  intro j s g z u;unfold Jj at g;by_cases B:j=k
  ·subst B;rw[u]at g;simp only at g;split at g
   ·assumption
   ·omega
  ·split at g
   ·split at g
    ·exact w j s g (by omega) u
    ·omega
   ·exact w j s g (by omega) u
omit h in
theorem ZyX (S:List α)(y:α):∀ k,Jj f S y k=0\/∃ s,S[Jj f S y k-1]?=some s/\f s y<=0:=by
 intro k
 induction k with
 |zero=>exact .inl rfl
 |succ k g =>
  unfold Jj;split
  ·rename_i s j;split
   ·exact g
   ·exact .inr ⟨s,by simpa using j,by omega⟩
  ·exact g
theorem ZyI {S:List α}(N:Fh f S)(y:α):Fh f (HP f S y):=by
 unfold HP;have W:=ZyY (f:=f) S y S.length;have D:Fh f (S.take (Jj f S y S.length)++S.drop (Jj f S y S.length)):=by rw[zY];exact N
 obtain⟨X,Y,Z⟩:=yR.1 D
 have u:∀ z∈S.drop (Jj f S y S.length),f y z<0:=fun z B=>by
  obtain⟨j,g⟩:=yB B;rw[yW]at g;have J:=(zD.1 g).1;have:=Zht S y S.length _ z (xA _ _) J g;have:=h.sym z y;omega
 have w:∀ z∈S.take (Jj f S y S.length),f z y<=0:=fun z B=>by
  rcases ZyX (f:=f) S y S.length with h0|⟨s,C,M⟩
  ·rw[h0]at B;simp at B
  ·obtain⟨j,g⟩:=yB B;obtain⟨E,V⟩:=zD.1 g;rw[zL]at E;rw[List.getElem?_take_of_lt (by omega)]at g;by_cases U:j=Jj f S y S.length-1
   ·rw[<-U,g]at C;injection C with C;rw[C];exact M
   ·have L:f z s<=0:=by
     obtain⟨F,Q⟩:=zD.1 g;obtain⟨I,R⟩:=zD.1 C;rw[<-Q,<-R];exact List.pairwise_iff_getElem.1 N _ _ F I (by omega)
    exact h.le_trans L M
 refine yR.2 ⟨X,zC.2 ⟨fun z B=>by have:=u z B;omega,Y⟩,fun a O b T=>?_⟩;rcases zF.1 T with e|e
 ·rw[e];exact w a O
 ·exact Z a O b e
theorem Zqn (S:List α)(y x:α):(HP f S y).filter (YP f x)=S.filter (YP f x)++[y].filter (YP f x):=by
 unfold HP;have g:S.filter (YP f x)=(S.take (Jj f S y S.length)).filter (YP f x)++(S.drop (Jj f S y S.length)).filter (YP f x):=by rw[<-zV,zY]
 rw[g,zV,yH];congr 1;rw[zB,zB,List.filter_nil]
 cases B:YP f x y with
 |false=>simp
 |true =>
  rw[h.eqv_iff]at B
  have:(S.drop (Jj f S y S.length)).filter (YP f x)=[]:=by
   rw[yM];intro z D C;rw[h.eqv_iff]at C;obtain⟨j,u⟩:=yB D;rw[yW]at u;have w:=(zD.1 u).1;have E:=Zht S y S.length _ z (xA _ _) w u;have F:=h.sym z y;have I:=h.le_lt (a:=x) (b:=y) (c:=z) (by omega) (by omega);omega
  rw[this];simp
theorem ZlD:∀ (l S:List α),Fh f S->Fh f (l.foldl (HP f) S)/\∀ x,(l.foldl (HP f) S).filter (YP f x)=S.filter (YP f x)++l.filter (YP f x):=by
 intro l
 induction l with
 |nil=>intro S g;exact⟨g,fun x=>by simp⟩
 |cons y l j =>
  intro S g;obtain⟨a,b⟩:=j (HP f S y) (ZyI h g y);refine⟨a,fun x=>?_⟩;rw[List.foldl_cons,b,Zqn h,yH,<-zV];rfl
theorem Ztp (l:List α){n:Nat}(y:l.length<=n):Q0 f n l=TZ f l:=by
 obtain⟨g,j⟩:=ZqG h n l y;obtain⟨u,w⟩:=ZlD h l [] List.Pairwise.nil;exact ZfM h _ _ g u fun x=>by rw[j,show TZ f l=l.foldl (HP f) [] from rfl,w];rfl
end
structure Fv (K:AV->Prop)(t:Zj->Zj->Bool):Prop where
 close:∀ v,K v->∃ v',Zb [] 0 9 v=some v'/\K v'
 run:∀ v,K v->∀ a b:Zj,a.length<=1048576->b.length<=1048576->∀ H,Ym cfg (Z9 cfg) v [.str a,.str b] H=some (.bool (t a b),H)
theorem Ztm {f:Zj->Zj->Int}:∀ A B:List Zj,(mergeL f A B).length=A.length+B.length:=by
 intro A B
 induction A,B using mergeL.induct f with
 |case1 b=>simp[Gh]
 |case2 a l=>simp[JZ]
 |case3 a l b m hc g=>rw[Xm,if_pos hc,zP,g];simp only[zP];omega
 |case4 a l b m hc g=>rw[Xm,if_neg hc,zP,g];simp only[zP];omega
theorem ZqB {f:Zj->Zj->Int}:∀ (A B:List Zj) (x:Zj),x∈mergeL f A B->x∈A\/x∈B:=by
 intro A B x
 induction A,B using mergeL.induct f with
 |case1 b=>simp[Gh]
 |case2 a l=>simp[JZ]
 |case3 a l b m hc g =>
  rw[Xm,if_pos hc,zF]
  rintro (h|h)
  ·exact .inr (by simp[h])
  ·rcases g h with h|h
   ·exact .inl h
   ·exact .inr (by simp[h])
 |case4 a l b m hc g =>
  rw[Xm,if_neg hc,zF]
  rintro (h|h)
  ·exact .inl (by simp[h])
  ·rcases g h with h|h
   ·exact .inl (by simp[h])
   ·exact .inr h
theorem HS {f:Zj->Zj->Int}:∀ (n:Nat) (l:List Zj),(Q0 f n l).length=l.length/\∀ s∈Q0 f n l,s∈l:=by
 intro n
 induction n with
 |zero=>intro l;exact⟨rfl,fun s h=>h⟩
 |succ n g =>
  intro l;unfold Q0;split
  ·exact⟨rfl,fun s h=>h⟩
  ·obtain⟨j,u⟩:=g (l.take (l.length / 2));obtain⟨w,y⟩:=g (l.drop (l.length / 2));refine⟨by rw[Ztm,j,w,zL,zS];omega,fun s z=>?_⟩;rcases ZqB _ _ s z with h|h
   ·exact yC (u s h)
   ·exact yD (y s h)
section
variable {K:AV->Prop}{f:Zj->Zj->Int}(hK:Fv K fun a b=>decide (0<f a b))
include hK
theorem ZqA {v:AV}(hv:K v)(H0:Hp):∀ (A B g:List Zj) (S T U:AV) (H:Hp),SS S A->SS T B->RS H U g->We A->We B->g.length+A.length+B.length<=4194304 ->
 ∃ y H',YG v S T U H0 H=some (y,H')/\RS H' y (g++mergeL f A B):=by
 intro A B
 induction A,B using mergeL.induct f with
 |case1 B =>
  intro g S T U H u w I J L F;obtain⟨X,H1,N,O⟩:=I.app u (by omega);obtain⟨y2,Y,Q,R⟩:=O.app w (by simp at F ⊢;omega);refine⟨y2,Y,?_,by rw[Gh];simpa using R⟩;have j:=SS.len u 9;rw[YT];simp only[go_sem,j,zI,show decide ((0:Int)<((0:Nat):Int))=false from rfl,VQ,N,Q]
 |case2 a l =>
  intro g S T U H u w I J L F;obtain⟨X,H1,N,O⟩:=I.app u (by simp at F ⊢;omega);obtain⟨y2,Y,Q,R⟩:=O.app w (by simp at F ⊢;omega);refine⟨y2,Y,?_,by rw[JZ];simpa using R⟩;have j:=SS.len u 9;have D:=SS.len w 9;have V:decide ((0:Int)<(((a::l).length:Nat):Int))=true:=by simp
  rw[YT];simp only[go_sem,j,D,V,zI,show decide ((0:Int)<((0:Nat):Int))=false from rfl,VQ,N,Q]
 |case3 a l b m hc ih =>
  intro g S T U H u w I J L F;have j:=SS.len u 9;have D:=SS.len w 9;have V:decide ((0:Int)<(((a::l).length:Nat):Int))=true:=by simp
  have M:decide ((0:Int)<(((b::m).length:Nat):Int))=true:=by simp
  have z:=SS.idx u (i:=0) (s:=a) rfl;have C:=SS.idx w (i:=0) (s:=b) rfl;obtain⟨ab,W,r2⟩:=SS.lo w (n:=1) (by simp);have E:=hK.run v hv a b (J a (by simp)) (L b (by simp)) H;obtain⟨X,H1,N,O⟩:=I.app (Zhr b) (by simp at F ⊢;omega);obtain⟨y,H',Q,R⟩:=ih (g++[b]) S ab X H1 u r2 O J (fun s Z=>L s (by simp[Z])) (by simp at F ⊢;omega);refine⟨y,H',?_,by rw[Xm,if_pos hc];simpa using R⟩;rw[show ((0:Nat):Int)=0 from rfl]at z C;rw[show ((1:Nat):Int)=1 from rfl]at W;rw[YT];simp only[go_sem,j,D,V,M,VR,z,C,ZC,E,decide_eq_true hc,Pc,N,W,Q]
 |case4 a l b m hc ih =>
  intro g S T U H u w I J L F;have j:=SS.len u 9;have D:=SS.len w 9;have V:decide ((0:Int)<(((a::l).length:Nat):Int))=true:=by simp
  have M:decide ((0:Int)<(((b::m).length:Nat):Int))=true:=by simp
  have z:=SS.idx u (i:=0) (s:=a) rfl;have C:=SS.idx w (i:=0) (s:=b) rfl;obtain⟨aa,W,r2⟩:=SS.lo u (n:=1) (by simp);have E:=hK.run v hv a b (J a (by simp)) (L b (by simp)) H;obtain⟨X,H1,N,O⟩:=I.app (Zhr a) (by simp at F ⊢;omega);obtain⟨y,H',Q,R⟩:=ih (g++[a]) aa T X H1 r2 w O (fun s Z=>J s (by simp[Z])) L (by simp at F ⊢;omega);refine⟨y,H',?_,by rw[Xm,if_neg hc];simpa using R⟩;rw[show ((0:Nat):Int)=0 from rfl]at z C;rw[show ((1:Nat):Int)=1 from rfl]at W;rw[YT];simp only[go_sem,j,D,V,M,VR,z,C,ZC,E,decide_eq_false hc,Pc,N,W,Q]
theorem ZqF:∀ (n:Nat) (l:List Zj) (x v:AV),l.length<=n->l.length<=1048576->We l->SS x l->K v->∀ H,∃ y,Zf YM [x,v] H=some (y,H)/\SS y (Q0 f n l):=by
 intro n
 induction n with
 |zero =>
  intro l x v hn R z T S H;have:l=[]:=yK.1 (by omega);subst this;obtain⟨x',E,g⟩:=SS.closed T [] 0 7;obtain⟨v',F,I⟩:=hK.close v S;obtain⟨y,U,V⟩:=MM g R [];have J:=SS.len g 9;obtain⟨D,C,w⟩:=SS.closed V [] 0 7;refine⟨D,N0 E F ?_ C,w⟩;rw[XP];unfold Xg;simp only[go_sem,J,zI,show decide (((0:Nat):Int)<2)=true from rfl,U]
 |succ n X =>
  intro l x v hn R z T S H;obtain⟨x',E,g⟩:=SS.closed T [] 0 7;obtain⟨v',F,I⟩:=hK.close v S;have J:=SS.len g 9;unfold Q0;by_cases W:l.length<2
  ·have Q:decide ((l.length:Int)<2)=true:=by simp;omega
   obtain⟨y,U,V⟩:=MM g R [];obtain⟨D,C,w⟩:=SS.closed V [] 0 7;rw[if_pos W];refine⟨D,N0 E F ?_ C,w⟩;rw[XP];unfold Xg;simp only[go_sem,J,Q,U]
  ·rw[if_neg W];have Q:decide ((l.length:Int)<2)=false:=by simp;omega
   have hq:Z5 .quo (.int .i64 (l.length:Int)) (.int .i64 2)=some (.int .i64 ((l.length / 2:Nat):Int)):=by
    simp[Z5,XX,XC];exact Zr (by omega) (by omega)
   obtain⟨xa,Y,Z⟩:=SS.hi g (n:=l.length / 2) (by omega);obtain⟨xb,b1,b2⟩:=SS.lo g (n:=l.length / 2) (by omega);obtain⟨ya,a3,a4⟩:=X (l.take (l.length / 2)) xa v' (by rw[zL];omega) (by rw[zL];omega) (fun s u=>z s (yC u)) Z I [];obtain⟨yb,b3,b4⟩:=X (l.drop (l.length / 2)) xb v' (by rw[zS];omega) (by rw[zS];omega) (fun s u=>z s (yD u)) b2 I [];obtain⟨L,M⟩:=HS (f:=f) n (l.take (l.length / 2));obtain⟨N,O⟩:=HS (f:=f) n (l.drop (l.length / 2))
   have j:Ra 1 16 false (.str []) (.int .i64 0) (.int .i64 (l.length:Int)) []=some (.vs 1 (.own 0 0) [],[.tok 0]):=by
    have hf:YR (l.length:Int).toNat 16=true:=by simp[YR];omega
    unfold Ra;dsimp only;rw[if_pos ⟨yQ _,by omega,rfl,rfl,by decide,hf⟩];simp
   have B:RS [AObj.tok 0] (.vs 1 (.own 0 0) []) []:=.inr ⟨0,0,rfl,rfl,zH _⟩
   obtain⟨y,H',C,w⟩:=ZqA hK I [] (Q0 f n (l.take (l.length / 2))) (Q0 f n (l.drop (l.length / 2))) [] ya yb _ _ a4 b4 B
    (fun s u=>z s (yC (M s u))) (fun s u=>z s (yD (O s u))) (by rw[L,N,zL,zS,zI];omega)
   rw[yN]at w;obtain⟨D,q3,q4⟩:=w.done H';refine⟨D,N0 E F ?_ q3,q4⟩;rw[XP];unfold Xg;simp only[go_sem,J,Q,Di,hq,Y,a3,b1,b3,j,C]
end
theorem ZjA {g:Zj->Zj->Int}:∀ (l out:List Zj),(VF g out l).length<=out.length+l.length:=by
 intro l
 induction l with
 |nil=>intro out;simp[VF]
 |cons x l j =>
  intro out;unfold VF;refine yY (j _) ?_;split <;> simp <;> omega
theorem ZjB {g:Zj->Zj->Int}:∀ (l out:List Zj),∀ s∈VF g out l,s∈out\/s∈l:=by
 intro l
 induction l with
 |nil=>intro out s j;exact .inl j
 |cons x l u =>
  intro out s j;unfold VF at j;rcases u _ s j with h|h
  ·split at h
   ·exact .inl h
   ·rcases zT.1 h with h|h
    ·exact .inl h
    ·exact .inr (by rw[zN.1 h];simp)
  ·exact .inr (by simp[h])
theorem ZtD {K:AV->Prop}{g:Zj->Zj->Int}(hK:Fv K fun a b=>g a b==0){v:AV}(hv:K v){x:AV}{l:List Zj}(hx:SS x l)(hL:We l)(hl:l.length<=1048576)(U:Hp):∀ (r done out:List Zj) (M:AV) (H:Hp),l=done++r->RS H M out->We out->out.length<=done.length ->
 ∃ y H',W8 v M x (.int .i64 (l.length:Int)) (.int .i64 (done.length:Int)) U H=some (y,H')/\RS H' y (VF g out r):=by
 intro r
 induction r with
 |nil =>
  intro done out M H L J T Y;rw[List.append_nil]at L;subst L;have I:decide ((l.length:Int)<(l.length:Int))=false:=by simp
  refine⟨M,H,?_,J⟩;rw[QM];simp only[go_sem,I,P6]
 |cons a r ih =>
  intro done out M H L J T Y;have hlen:l.length=done.length+(r.length+1):=by rw[L];simp
  have I:decide ((done.length:Int)<(l.length:Int))=true:=by simp;omega
  have aa:xP.wrap ((done.length:Int)+1)=((done.length+1:Nat):Int):=by rw[Zr (by omega) (by omega)];omega
  have Q:l[done.length]?=some a:=by rw[L,zG (zH _)];simp
  have hi:=SS.idx hx Q;have O:a.length<=1048576:=hL a (yS Q);have N:=SS.len J.sl 9;obtain⟨y1,H1,q1,q2⟩:=J.app (Zhr a) (by simp;omega)
  have w:∀ u F H',RS H' F u->We u->u.length<=done.length+1->∃ y j,W6 v F x (.int .i64 (l.length:Int)) (.int .i64 (done.length:Int)) U H'=some (y,j)/\RS j y (VF g u r):=fun u F H' h1 h2 h3=>by
   obtain⟨y,j,C,E⟩:=ih (done++[a]) u F H' (by rw[L];simp) h1 h2 (by simpa using h3);rw[zR,zZ]at C;exact⟨y,j,by simp only[P8,go_sem,aa,C],E⟩
  have B:We (out++[a]):=fun s hs=>by
   rcases zT.1 hs with h|h
   ·exact T s h
   ·rw[zN.1 h];exact O
  have V:∃ y H',VB v M x (.int .i64 (l.length:Int)) (.int .i64 (done.length:Int)) (.bool true) U H=some (y,H')/\RS H' y (VF g out (a::r)):=by
   rw[P7];unfold VF
   cases D:out.getLast? with
   |none =>
    have:out=[]:=List.getLast?_eq_none_iff.1 D;subst this;rw[show Jk g [] a=false from rfl];obtain⟨y,j,C,E⟩:=w _ _ _ q2 B (by simp);refine⟨y,j,?_,by simpa using E⟩;simp only[go_sem,hi,ZC,N,zI,show (((0:Nat):Int)==0)=true from rfl,Pc,q1,C]
   |some z =>
    have X:out≠[]:=fun e=>by subst e;simp at D
    have ac:0<out.length:=List.length_pos_iff.2 X;have S:out[out.length-1]?=some z:=by rw[<-List.getLast?_eq_getElem?];exact D
    have h0:((out.length:Int)==0)=false:=by rw[beq_eq_false_iff_ne];omega
    have ab:xP.wrap ((out.length:Int)-1)=((out.length-1:Nat):Int):=by rw[Zr (by omega) (by omega)];omega
    have W:=SS.idx J.sl S;have R:=hK.run v hv z a (T z (yS S)) O H;have Z:Jk g out a=(g z a==0):=by unfold Jk;rw[D]
    simp only[go_sem,hi,ZC,N,h0,ab,W,R,Z]
    cases hg:(g z a==0) with
    |true =>
     obtain⟨y,j,C,E⟩:=w _ _ _ J T (by omega);exact⟨y,j,by simp only[zX,go_sem,C],by simpa using E⟩
    |false =>
     obtain⟨y,j,C,E⟩:=w _ _ _ q2 B (by simp;omega);exact⟨y,j,by simp only[zO,go_sem,Pc,q1,C],by simpa using E⟩
  obtain⟨y,H',C,E⟩:=V;refine⟨y,H',?_,E⟩;rw[QM];simp only[go_sem,I,C]
theorem ZtC {K:AV->Prop}{g:Zj->Zj->Int}(hK:Fv K fun a b=>g a b==0){v:AV}(F:K v){x:AV}{l:List Zj}(I:SS x l)(C:We l)(D:l.length<=1048576)(H:Hp):∃ y,Zf U2 [x,v] H=some (y,H)/\SS y (VF g [] l):=by
 obtain⟨Q,w,j⟩:=SS.closed I [] 0 7;obtain⟨v',z,B⟩:=hK.close v F;obtain⟨y,H',u,J⟩:=ZtD hK B j C D [] l [] [] .nils [] rfl (RowN.nil _ _ _) (fun s E=>by cases E) (zH _);rw[zI,show ((0:Nat):Int)=0 from rfl]at u;obtain⟨O,M,N⟩:=J.done H';refine⟨O,N0 w z ?_ M,N⟩;have L:=SS.len j 9;rw[PI];unfold KI;simp only[go_sem,L,u]
def SpecCells (l:List AV)(p:Spec):Prop:=∃ x,l=p.cells x/\Sl 5 x (p.keys.map Ke.av)
theorem SpecCells.close {l:List AV}{p:Spec}(h:SpecCells l p)(H:Hp)(n f:Nat):∃ g,l.mapM (Zb H n (f+3))=some g/\SpecCells g p:=by
 obtain⟨x,rfl,y⟩:=h
 obtain⟨j,u,w⟩:=y.close (H:=H) (n:=n) (f:=f+2) (fun c hc=>by
  obtain⟨k,_,rfl⟩:=List.mem_map.1 hc;exact k.close H n f)
 refine⟨p.cells j,?_,j,rfl,w⟩;simp only[Spec.cells,xE,u,xH];rfl
def ClK (g:Nat)(L:Loc)(p:Spec)(v:AV):Prop:=∃ lc sc,v=.fn (.func g) [] [.vp lc,.vp sc]/\LocCells lc L/\SpecCells sc p
theorem ZpC (H:Hp)(n f:Nat)(g:Fn)(a b:AV):Zb H n (f+1) (.fn g [] [a,b])=match Zb H n f a,Zb H n f b with
 |some a',some b'=>some (.fn g [] [a',b'])
 |_,_=>none:=by
 show (match ([]:List AV).mapM (Zb H n f),[a,b].mapM (Zb H n f) with
  |some a,some b=>some (AV.fn g a b)
  |_,_=>none)=_
 simp only[xH,xE];cases Zb H n f a <;> cases Zb H n f b <;> rfl
theorem ClK.close {g:Nat}{L:Loc}{p:Spec}{v:AV}(h:ClK g L p v):∃ v',Zb [] 0 9 v=some v'/\ClK g L p v':=by
 obtain⟨lc,sc,rfl,w,y⟩:=h;obtain⟨j,z,B⟩:=w.close [] 0 4;obtain⟨u,C,D⟩:=y.close [] 0 4;refine⟨.fn (.func g) [] [.vp j,.vp u],?_,j,u,rfl,B,D⟩;rw[ZpC,US,US,z,C]
theorem Zu8 (L:Loc)(w:LocOk L)(p:Spec)(u:∀ k∈p.keys,KeOk k):Fv (ClK 55 L p) fun a b=>decide (0<Y3 L p a b) where
 close:=fun v y=>ClK.close y
 run:=fun v y a b B C H=>by
  obtain⟨lc,sc,rfl,E,I⟩:=y;rw[ZeZ];obtain⟨O,M,N⟩:=E.close [] 0 5;obtain⟨S,Q,R⟩:=I.close [] 0 5;obtain⟨x,c,e,rfl,J,hc,D⟩:=N;obtain⟨xs,rfl,z⟩:=R;have g:Zb [] 0 9 (.vp lc)=some (.vp (L.cells x c e)):=by rw[US,M]
  have j:Zb [] 0 9 (.vp sc)=some (.vp (p.cells xs)):=by rw[US,Q]
  have F:=Zm7 (a:=.agg (L.cells x c e)) (L:=L) ⟨x,c,e,rfl,J,hc,D⟩ w (q:=.agg (p.cells xs)) (p:=p) ⟨xs,rfl,z⟩ u a b B C [];refine ZgX (a':=.str a) (b':=.str b) rfl rfl g j (H1:=[]) ?_ rfl;rw[Zav];unfold LB;simp only[go_sem,V7 6 (L.cells x c e) rfl,V7 5 (p.cells xs) rfl,F]
theorem Zu9 (L:Loc)(w:LocOk L)(p:Spec)(u:∀ k∈p.keys,KeOk k):Fv (ClK 58 L p) fun a b=>W5 L p a b==0 where
 close:=fun v y=>ClK.close y
 run:=fun v y a b B C H=>by
  obtain⟨lc,sc,rfl,E,I⟩:=y;rw[Zf0];obtain⟨O,M,N⟩:=E.close [] 0 5;obtain⟨S,Q,R⟩:=I.close [] 0 5;obtain⟨x,c,e,rfl,J,hc,D⟩:=N;obtain⟨xs,rfl,z⟩:=R;have g:Zb [] 0 9 (.vp lc)=some (.vp (L.cells x c e)):=by rw[US,M]
  have j:Zb [] 0 9 (.vp sc)=some (.vp (p.cells xs)):=by rw[US,Q]
  have F:=ZcN (a:=.agg (L.cells x c e)) (L:=L) ⟨x,c,e,rfl,J,hc,D⟩ w (q:=.agg (p.cells xs)) (p:=p) ⟨xs,rfl,z⟩ u a b B C [];refine ZgX (a':=.str a) (b':=.str b) rfl rfl g j (H1:=[]) ?_ rfl;rw[Zaw];unfold LC;simp only[go_sem,V7 6 (L.cells x c e) rfl,V7 5 (p.cells xs) rfl,F]
def ZS (L:Loc)(p:Spec)(l:List Zj):List Zj :=
 if (ZK p != 0)=true then l else if p.uniq then VF (W5 L p) [] (TZ (Y3 L p) l) else TZ (Y3 L p) l
theorem Zjn (L:Loc)(p:Spec)(l:List Zj):Q0 (Y3 L p) l.length l=TZ (Y3 L p) l:=Ztp (CM L p) l (zH _)
theorem Cy (L:Loc)(p:Spec)(l:List Zj):(TZ (Y3 L p) l).length=l.length/\∀ s∈TZ (Y3 L p) l,s∈l:=by
 rw[<-Zjn];exact HS _ _
theorem ZzF {f:List AV->Hp->Z3}{a a' b b' c c' v v':AV}{H H1:Hp}(g:Zb [] 0 9 a=some a')(j:Zb [] 0 9 b=some b')(u:Zb [] 0 9 c=some c')(hc:f [a',b',c'] []=some (v,H1))(w:Zb H1 0 9 v=some v'):Zf f [a,b,c] H=some (v',H) :=
 TR (args':=[a',b',c']) (by simp[g,j,u]) hc w
theorem ZjM {a:AV}{L:Loc}(h:LocAV a L)(C:LocOk L){q:AV}{p:Spec}(hq:SpecAV q p)(u:∀ k∈p.keys,KeOk k){x:AV}{l:List Zj}(hx:SS x l)(R:We l)(U:l.length<=1048576)(H:Hp) :
 ∃ y,Zf QA [a,q,x] H=some (y,H)/\SS y (ZS L p l):=by
 obtain⟨a1,Z,h2⟩:=h.close [] 0 5;obtain⟨q1,Y,Q⟩:=hq.close [] 0 5;obtain⟨W,k1,V⟩:=SS.closed hx [] 0 7;have g:=fun H=>ML Q H;obtain⟨lx,c,e,rfl,B,hc,T⟩:=h2;obtain⟨xp,rfl,D⟩:=Q
 suffices M:∃ y H1,QA [.agg (L.cells lx c e),.agg (p.cells xp),W] []=some (y,H1)/\SS y (ZS L p l) by
  obtain⟨y,H1,r1,r2⟩:=M;obtain⟨y',r3,r4⟩:=SS.closed r2 H1 0 7;exact⟨y',ZzF Z Y k1 r1 r3,r4⟩
 have w:Z4 true 5 (.ptr 1 0) [zE (L.cells lx c e),.cells (p.cells xp)]=some (.agg (p.cells xp)):=by simp[Z4,Go.Am.apart,Spec.cells]
 rw[ZdG];unfold Ar ZS
 cases S:(ZK p != 0) with
 |true =>
  obtain⟨y,O,E⟩:=MM V U [zE (L.cells lx c e),.cells (p.cells xp)];refine⟨y,[zE (L.cells lx c e),.cells (p.cells xp)],?_,by rw[if_pos rfl];exact E⟩;simp only[go_sem,YB,yN,zI,zP,xB,zQ,w,g,S,O]
 |false =>
  have J:∀ (k:AV->Hp->Z3),V8 (.ptr 0 0) [zE (L.cells lx c e),.cells (p.cells xp)] k=k (.vp (L.cells lx c e)) [.dead,.cells (p.cells xp)]:=fun k=>rfl;have j:∀ (k:AV->Hp->Z3),V8 (.ptr 1 0) [xI,.cells (p.cells xp)] k=k (.vp (p.cells xp)) [.dead,.dead]:=fun k=>rfl;have F:ClK 55 L p (.fn (.func 55) [] [.vp (L.cells lx c e),.vp (p.cells xp)]):=⟨_,_,rfl,⟨lx,c,e,rfl,B,hc,T⟩,⟨xp,rfl,D⟩⟩;have I:ClK 58 L p (.fn (.func 58) [] [.vp (L.cells lx c e),.vp (p.cells xp)]):=⟨_,_,rfl,⟨lx,c,e,rfl,B,hc,T⟩,⟨xp,rfl,D⟩⟩;obtain⟨y,O,E⟩:=ZqF (Zu8 L C p u) l.length l W _ (zH _) U R V F [xI,.dead];rw[Zjn]at E;obtain⟨f1,X⟩:=Cy L p l;have N:Z6 3 (.vp (p.cells xp))=some (.vp [.bool p.uniq,.bool p.stab]):=rfl;simp only[go_sem,YB,yN,zI,zP,xB,zQ,w,g,S,ZcX,J,j,O,N,ZC,yG,if_false]
  cases hu:p.uniq with
  |true =>
   obtain⟨z,o1,o2⟩:=ZtC (Zu9 L C p u) I E (fun s M=>R s (X s M)) (by omega) [xI,.dead];exact⟨z,[.dead,.dead],by simp only[go_sem,o1,N8],by simpa using o2⟩
  |false=>exact⟨y,[.dead,.dead],by simp only[go_sem,N8],by simpa using E⟩
theorem ZxG:LocOk defL:=⟨by decide,by simp[defL],by simp[defL],by simp[defL],fun c hc=>(by cases hc),fun c hc=>(by cases hc),by simp[defL],by simp[defL]⟩
theorem Zd6 (L:Loc)(p:Spec)(l:List Zj):(ZS L p l).length<=l.length:=by
 obtain⟨j,u⟩:=Cy L p l;have:=ZjA (g:=W5 L p) (TZ (Y3 L p) l) [];unfold ZS;split
 ·exact zH _
 ·split
  ·simp at this;omega
  ·omega
def Q8 (s:List UInt8):Bool :=
 match s with
 |[]=>false
 |b::_=>decide (s.length<=16)&&!PA b.toNat&&s.all fun c=>Wk c.toNat
theorem ZeI (w z u B:AV)(y H:Hp):BJ w z u B y H =
 Z0 (Zw w u) fun j =>
 Z0 (L7 j u) fun g =>
 Zl g (some ((.bool false),H)) (BK w z u y H):=by
 rw[OO];simp only[L7,PS,Qc]
theorem ZmM (s:List UInt8)(j:s.length<=4611686018427387904)(g H:Hp):BI (.str s) g H=some (.bool (!s.isEmpty&&decide (s.length<=16)),H):=by
 rw[ON]
 cases s with
 |nil=>simp[go_sem,YK,JO]
 |cons b l =>
  simp only[YK,JO,go_sem,Zk];have:(!((b::l)==([]:List UInt8)))=true:=rfl;have c:decide (((b::l).length:Int)<=16)=decide ((b::l).length<=16):=by rw[Bool.eq_iff_iff];simp;omega
  simp only[this,go_sem,c,yZ,zO,yI]
theorem Zrp (s:List UInt8)(z:s.length<=4611686018427387904)(w H:Hp):∀ (k i:Nat),s.length-i=k->0<i->i<=s.length ->
 Qy (.str s) (.int .i64 s.length) (.int .i64 i) w H=some (.bool (((s.drop i).all fun c=>Wk c.toNat)&&(!s.isEmpty&&decide (s.length<=16))),H):=by
 intro k
 induction k with
 |zero =>
  intro i hk h0 hi;rw[VL];have g:decide ((i:Int)<(s.length:Int))=false:=by simp;omega
  have y:s.drop i=[]:=List.drop_eq_nil_iff.2 (by omega);simp only[go_sem,g,ZmM s z,y,List.all_nil,yI]
 |succ k B =>
  intro i hk h0 hi;rw[VL];have u:i<s.length:=by omega
  have g:decide ((i:Int)<(s.length:Int))=true:=by simp;omega
  have hw:xP.wrap ((i:Int)+1)=((i+1:Nat):Int):=by rw[Zr (by omega) (by omega)];omega
  have j:((i:Int)==0)=false:=by simp;omega
  simp only[go_sem,g,ZeI,Y1 (List.getElem?_eq_getElem u),Zhm _ j];rw[List.drop_eq_getElem_cons u,yU]
  cases C:Wk s[i].toNat with
  |false=>simp only[go_sem,zO,Bool.false_and]
  |true =>
   simp only[go_sem,zX,yI,RN,hw];exact B (i+1) (by omega) (by omega) (by omega)
theorem Zrq (s:List UInt8)(w:s.length<=4611686018427387904)(H:Hp):U3 [.str s] H=some (.bool (Q8 s),H):=by
 rw[Zay];unfold LI;simp only[go_sem,Zk]
 cases s with
 |nil=>rw[VL];simp[go_sem,ZmM [] (by simp),Q8]
 |cons b l =>
  rw[VL];have u:decide ((0:Int)<((b::l).length:Int))=true:=by simp
  have hw:xP.wrap ((0:Int)+1)=((0+1:Nat):Int):=by decide
  have j:Zw (.str (b::l)) (.int .i64 0)=some (.int .u8 b.toNat):=by simp[Zw]
  simp only[go_sem,u,ZeI,j,ZeD]
  cases g:(!Wk b.toNat || PA b.toNat) with
  |true =>
   have:Q8 (b::l)=false:=by
    unfold Q8;simp only[Bool.or_eq_true,Bool.not_eq_true']at g;rcases g with g|g <;> simp[g]
   simp only[go_sem,this]
  |false =>
   simp only[Bool.or_eq_false_iff,Bool.not_eq_false']at g;simp only[go_sem,RN,hw];rw[Zrp (b::l) w H H l.length 1 (by simp) (by omega) (by simp)]
   have:Q8 (b::l)=(((b::l).drop 1).all (fun c=>Wk c.toNat)&&(!(b::l).isEmpty&&decide ((b::l).length<=16))):=by
    unfold Q8;simp only[g.1,g.2,yU,List.drop_one,List.tail_cons,yZ,zO,yI,Bool.and_true];rw[Bool.and_comm]
   rw[this]
theorem ZjD (s:Zm)(g:s.length<=1048576)(H:Hp):Zf U3 [.str s] H=some (.bool (Q8 s),H) :=
 Xy (a':=.str s) rfl (H1:=[]) (Zrq s (by omega) []) rfl
theorem ZiY (o:Nat)(n:Zm)(H:Hp):Pq [.ptr o 0,.str n] H=some (.ptr H.length 0,H++[.cells (VS o n 0 false false [])]):=by
 have g:YC (.pointer 124) .eql (.ptr o 0) .nilp=some (.bool false):=rfl;have hf:(Xh [(0,1,.ptr o 0),(1,1,.str n)] [.nilp,(.str []),(.int .i64 0),(.bool false),(.bool false),(.str [])]).map AV.agg=some (.agg (VS o n 0 false false [])):=rfl;rw[Zi7];unfold Zei;simp only[go_sem,g,ZhC,hf,YB]
theorem ZcP {H:Hp}{i:Nat}{L:Loc}{x c e:AV}(h:H[i]?=some (.cells (L.cells x c e))):Z4 true 6 (.ptr i 0) H=some (.agg (L.cells x c e)):=by
 rw[YY h];simp[Go.Am.apart,Loc.cells]
theorem Ga {H:Hp}{i:Nat}{p:Spec}{x:AV}(h:H[i]?=some (.cells (p.cells x))):Z4 true 5 (.ptr i 0) H=some (.agg (p.cells x)):=by
 rw[YY h];simp[Go.Am.apart,Spec.cells]
theorem SysRes.trans {H H1 w:Hp}{o t:Nat}{tm1 g:Tmp}{z y:Sto}{A A1 A2:List Nat}(h:SysRes H H1 o t tm1 z A A1)(k:SysRes H1 w o t g y A1 A2):SysRes H w o t g y A A2 :=
 ⟨k.at',h.stp.trans k.stp (fun _ h=>h) fun a j=>h.own a j,fun a j=>by
  rcases k.own a j with u|u
  ·exact h.own a u
  ·exact .inr (yY h.stp.len u)⟩
theorem SysRes.pre {H H1 w:Hp}{o t:Nat}{g:Tmp}{y:Sto}{A A2:List Nat}(h:Stp A H H1)(k:SysRes H1 w o t g y A A2):SysRes H w o t g y A A2 :=
 ⟨k.at',h.trans k.stp (fun _ h=>h) fun a j=>.inl j,fun a j=>by
  rcases k.own a j with u|u
  ·exact .inl u
  ·exact .inr (yY h.len u)⟩
theorem ZrB {H:Hp}{o t:Nat}{tm tm1 M:Tmp}{s Z s2 s3:Sto}{A:List Nat}{n:Zm}(h:SysAt H o t tm s A)(hm:TmpOk tm)(hk:StoOk s)(V:tm.last<1000000){a q x:AV}{L:Loc}{p:Spec}{l:List Zj}(B:LocAV a L)(W:LocOk L)(hq:SpecAV q p)(U:∀ k∈p.keys,KeOk k)(hx:SS x l)(hL:We l)(hl:l.length<=1048576)
 (j:ZZ (ZS L p l)<=1048576) (Q:We (ZS L p l))
 (hN:RO tm s=((n,0),(tm1,Z))) (E:TmpOk tm1) (S:StoOk Z) (hW:Gy tm1 Z n (ZS L p l)=(0,s2)) (T:StoOk s2) (hS:RP tm1 s2 n=(0,(M,s3))) :
 ∃ H' A',Lu [.ptr o 0,a,q,x] H=some (.tuple [.str n,.int .i64 0],H')/\SysRes H H' o t M s3 A A':=by
 have R:=B;have X:=hq;obtain⟨lx,lc,le,rfl,ad,ab,ac⟩:=B;obtain⟨xp,rfl,ae⟩:=hq;have I:YC (.pointer 124) .eql (.ptr o 0) .nilp=some (.bool false):=rfl;have w:=h.lt;have g1:(H++[zE (L.cells lx lc le),.cells (p.cells xp)])[H.length]?=some (.cells (L.cells lx lc le)):=by simp
 have g2:(H++[zE (L.cells lx lc le),.cells (p.cells xp)])[H.length+1]?=some (.cells (p.cells xp)):=by simp
 have z:Stp A H (H++[zE (L.cells lx lc le),.cells (p.cells xp)]):=Stp.push _ _;have u:(H++[zE (L.cells lx lc le),.cells (p.cells xp)]).length=H.length+2:=by simp
 have g:SysAt (H++[zE (L.cells lx lc le),.cells (p.cells xp)]) o t tm s A:=h.stp (C:=[]) (Stp.push _ _) (fun a B=>by simp);have D:ZM (.agg (p.cells xp)) (H++[zE (L.cells lx lc le)])=some (.ptr (H.length+1) 0,H++[zE (L.cells lx lc le),.cells (p.cells xp)]):=by rw[YB];simp
 generalize aa:H++[zE (L.cells lx lc le),.cells (p.cells xp)]=H0 at g1 g2 z g D u;obtain⟨H1,A1,p1,J⟩:=ZkH g hm hk V;rw[hN]at p1 J;have F:∀ i,H.length<=i->i∉A:=fun i hi B=>by have:=w i B;omega
 have N:=J.stp.get g1 (F _ (zH _));have O:=J.stp.get g2 (F _ (by omega));obtain⟨y,q1,q2⟩:=ZjM R W X U hx hL hl H1;obtain⟨H2,A2,r1,Y⟩:=ZiZ J.at' E S n q2 Q j;rw[hW]at r1 Y;obtain⟨H3,A3,t1,t2⟩:=ZkG Y.at' E T n;rw[hS]at t1 t2;refine⟨H3,A3,?_,SysRes.pre z ((J.trans Y).trans t2)⟩;have e0:((0:Int) != 0)=false:=rfl;rw[Zg0];unfold Zbo;simp only[YB,go_sem,D,I,ZfD,p1,zJ,zK,e0,ZfE,ZcP N,Ga O,q1,r1,ZfF,t1,ZfG]
section
variable {α:Type}(c:α->Int)(mem:Int)
structure Ck (α:Type) where
 done:List (List α)
 cur:List α
 cost:Int
def KQ (s:Ck α)(x:α):Ck α :=
 if s.cur≠[]/\mem<s.cost+c x then ⟨s.done++[s.cur],[x],c x⟩ else ⟨s.done,s.cur++[x],s.cost+c x⟩
def Yx (l:List α):Ck α:=l.foldl (KQ c mem) ⟨[],[],0⟩
def IQ (s:Ck α):List (List α):=if s.cur=[] then s.done else s.done++[s.cur]
def XJ (l:List α):Int:=l.foldl (fun n x=>n+c x) 0
theorem Zc5 (l:List α)(x:α):XJ c (l++[x])=XJ c l+c x:=by simp[XJ]
structure CkOk (l:List α)(s:Ck α):Prop where
 flat:s.done.flatten++s.cur=l
 cost:s.cost=XJ c s.cur
 emp:s.cur=[]->s.done=[]
 ne:∀ k∈s.done,k≠[]
 fit:∀ k∈s.done++[s.cur],1<k.length->XJ c k<=mem
 next:∀ (i:Nat) (a b:List α) (x:α),(s.done++[s.cur])[i]?=some a->(s.done++[s.cur])[i+1]?=some b->b.head?=some x->mem<XJ c a+c x
theorem Zvn:CkOk c mem ([]:List α) ⟨[],[],0⟩:=by
 refine⟨rfl,rfl,fun _=>rfl,by simp,by simp,fun i a b x j g u=>?_⟩;simp at g
theorem Zyk {l:List α}{s:Ck α}(h:CkOk c mem l s)(x:α):CkOk c mem (l++[x]) (KQ c mem s x):=by
 unfold KQ;split
 ·rename_i hc;obtain⟨F,I⟩:=hc;refine⟨by simp[<-h.flat],by simp[XJ],fun e=>(by simp at e),fun k hk=>?_,fun k hk B=>?_,fun i a b y j g w=>?_⟩
  ·rcases zT.1 hk with hk|hk
   ·exact h.ne k hk
   ·rw[zN.1 hk];exact F
  ·rcases zT.1 hk with hk|hk
   ·exact h.fit k hk B
   ·rw[zN.1 hk]at B;simp at B
  ·dsimp only at j g;have hlen:(s.done++[s.cur]).length=s.done.length+1:=by simp
   by_cases hi:i+1<(s.done++[s.cur]).length
   ·rw[zA (by omega)]at j;rw[zA hi]at g;exact h.next i a b y j g w
   ·have C:=(zD.1 g).1;simp only[zR,zZ]at C hi;have D:i=s.done.length:=by omega
    subst D;rw[zA (by simp),zG (zH _)]at j;rw[zG (by simp)]at g;simp at j g;subst j g;simp at w;subst w;rw[<-h.cost];exact I
 ·rename_i hc;refine⟨by rw[<-yH,h.flat],by rw[Zc5,h.cost],fun e=>(by simp at e),h.ne,fun k hk B=>?_,fun i a b y j g w=>?_⟩
  ·rcases zT.1 hk with hk|hk
   ·exact h.fit k (List.mem_append_left _ hk) B
   ·rw[zN.1 hk]at B ⊢;have E:s.cur≠[]:=fun e=>by rw[e]at B;simp at B
    rw[Zc5,<-h.cost];simp only[ne_eq,E,not_false_eq_true,true_and]at hc;omega
  ·dsimp only at j g;by_cases hi:i+1<s.done.length
   ·rw[zA (by omega)]at j;rw[zA hi]at g;exact h.next i a b y (by rw[zA (by omega)];exact j) (by rw[zA hi];exact g) w
   ·have C:=(zD.1 g).1;simp only[zR,zZ]at C hi;have D:i+1=s.done.length:=by omega
    rw[zA (by omega)]at j;rw[D,zG (zH _)]at g;simp at g;subst g
    cases u:s.cur with
    |nil =>
     have:=h.emp u;rw[this]at D;simp at D
    |cons z t =>
     rw[u]at w;simp at w;subst w;exact h.next i a s.cur z (by rw[zA (by omega)];exact j) (by rw[D,zG (zH _)];simp) (by rw[u];rfl)
theorem Zl0 (l:List α):CkOk c mem l (Yx c mem l):=by
 have:∀ (r d:List α) (s:Ck α),CkOk c mem d s->CkOk c mem (d++r) (r.foldl (KQ c mem) s):=by
  intro r
  induction r with
  |nil=>intro d s h;simpa using h
  |cons x r g =>
   intro d s h;have:=g (d++[x]) _ (Zyk c mem h x);simpa using this
 have h:=this l [] _ (Zvn c mem);simpa[Yx]using h
theorem ZgB (l:List α)(x:α):Yx c mem (l++[x])=KQ c mem (Yx c mem l) x:=by simp[Yx]
theorem Zsd (s:Ck α)(x:α):(KQ c mem s x).cur≠[]:=by unfold KQ;split <;> simp
theorem ZzC {l:List α}(h:l≠[]):(Yx c mem l).cur≠[]:=by
 obtain⟨x,g,rfl⟩:∃ x g,l=g++[x]:=⟨l.getLast h,l.dropLast,(List.dropLast_concat_getLast h).symm⟩;rw[ZgB];exact Zsd c mem _ x
end
def Rs (w i q:Nat):List Nat:=xL (q*w) (min w (i-q*w))
def cnt (w i:Nat):Nat:=(i+w-1) / w
def Vp (w i:Nat):List (List Nat):=(xO (cnt w i)).map (Rs w i)
theorem Zl8 {w:Nat}(hw:0<w):cnt w 0=0:=by unfold cnt;exact yA (by omega)
theorem Zyn {w i:Nat}(hw:0<w)(h:i % w=0):cnt w i=i / w/\cnt w (i+1)=i / w+1:=by
 obtain⟨q,rfl⟩:∃ q,i=w*q:=⟨i / w,by have:=zU i w;omega⟩;unfold cnt;constructor
 ·rw[yL q hw,show w*q+w-1=w*q+(w-1) by omega,yF hw];rw[yA (by omega)];omega
 ·rw[yL q hw,show w*q+1+w-1=w*q+w by omega,yF hw,Nat.div_self hw]
theorem Zyo {w i:Nat}(hw:0<w)(h:i % w≠0):cnt w i=i / w+1/\cnt w (i+1)=i / w+1:=by
 have g:=zU i w;have j:=xD i hw;generalize i / w=q at g ⊢;generalize i % w=r at g j h;subst g;unfold cnt;constructor
 ·rw[show w*q+r+w-1=w*q+(w+(r-1)) by omega,yF hw,xC _ hw,yA (by omega)]
 ·rw[show w*q+r+1+w-1=w*q+(w+r) by omega,yF hw,xC _ hw,yA (by omega)]
theorem Of {w i q:Nat}(h:(q+1)*w<=i):Rs w i q=xL (q*w) w:=by
 unfold Rs;rw[xM,xN]at h;rw[Nat.min_eq_left (by omega)]
theorem ZwI {w i:Nat}(hw:0<w)(h:i % w=0):Vp w (i+1)=Vp w i++[[i]]:=by
 obtain⟨u,y⟩:=Zyn hw h;have g:=zU i w;rw[h,Nat.add_zero]at g;unfold Vp;rw[u,y,yO,yP];congr 1
 ·refine yV fun q j=>?_;have j:=xF.1 j;have:(q+1)*w<=i:=by rw[<-g,zW w];exact yT _ j
  rw[Of this,Of (by omega)]
 ·simp only[xJ,xK,Rs];rw[zW,g,Nat.add_sub_cancel_left,yJ (by omega)];rfl
theorem ZwJ {w i:Nat}(hw:0<w)(h:i % w≠0):∃ A g,Vp w i=A++[g]/\Vp w (i+1)=A++[g++[i]]/\g.length<w:=by
 obtain⟨u,y⟩:=Zyo hw h;have z:=zU i w;have B:=xD i hw;refine⟨(xO (i / w)).map (Rs w i),Rs w i (i / w),?_,?_,?_⟩
 ·unfold Vp;rw[u,yO,yP];rfl
 ·unfold Vp;rw[y,yO,yP];congr 1
  ·refine yV fun q j=>?_;have j:=xF.1 j
   have:(q+1)*w<=i:=by
    have:(q+1)*w<=w*(i / w):=by rw[zW w];exact yT _ j
    omega
   rw[Of this,Of (by omega)]
  ·simp only[xJ,xK,Rs];have e:i / w*w=w*(i / w):=zW _ _;rw[e,yJ (by omega),yJ (by omega),show i+1-w*(i / w)=(i-w*(i / w))+1 by omega,List.range'_concat];congr 3;omega
 ·unfold Rs;rw[yX];have e:i / w*w=w*(i / w):=zW _ _;omega
theorem Zfv (w i:Nat):(Vp w i).length=cnt w i:=by simp[Vp]
theorem ZwH {w i q:Nat}(h:q<cnt w i):(Vp w i)[q]?=some (Rs w i q):=by simp[Vp,h]
theorem ZyF {w i q k:Nat}(h:k<(Rs w i q).length):(Rs w i q)[k]?=some (q*w+k):=by
 unfold Rs at h ⊢;rw[yX]at h;rw[List.getElem?_range' h];simp
theorem Zc3 {w i q:Nat}(hw:0<w)(h:q<cnt w i):q*w<i:=by
 unfold cnt at h;have g:(q+1)*w<=i+w-1:=(Nat.le_div_iff_mul_le hw).1 h;rw[xM,xN]at g;omega
theorem Zl6 {w i:Nat}(hw:0<w):i<=cnt w i*w:=by
 unfold cnt;have h:=zU (i+w-1) w;have:=xD (i+w-1) hw;rw[zW];omega
theorem ZyG {w i q:Nat}:(Rs w i q).length=min w (i-q*w):=by simp[Rs]
end Go.Am
