/- Temporary files in the machine -/
import Derived.Test.YtnaneekpogohaaaGreatDoorXeQbx
import Derived.Test.YtnaneekpogohaaaGreatDoorXeGXx
import Derived.Test.YtnaneekpogohaaaGreatDoorXeJx
import Derived.Test.YtnaneekpogohaaaGreatDoorXeMzx
import Derived.Test.YtnaneekpogohaaaGreatDoorHmXx
open Go.IntKind renaming i64->xP
open List renaming getElem?_append_left->zA,filter_cons->zB,pairwise_cons->zC,getElem?_eq_some_iff->zD,mem_cons->zF,getElem?_append_right->zH,length_nil->zI,getElem?_cons_zero->zJ,getElem?_cons_succ->zK,length_take->zL,set->zM,mem_singleton->zO,length_cons->zP,length_append->zR,append_assoc->zT,length_drop->zU,mem_append->zV,filter_append->zX,take_append_drop->zZ,length_singleton->yA,getElem?_of_mem->yC,mem_of_mem_take->yD,mem_of_mem_drop->yE,mem_filter->yF,length_eq_zero_iff->yK,filter_eq_nil_iff->yM,nil_append->yN,range_succ->yO,map_append->yP,pairwise_append->yR,mem_of_getElem?->yS,all_cons->yU,map_congr_left->yV,getElem?_drop->yW,length_range'->yX,isEmpty_cons->yZ,cons_append->xB,mapM_cons->xE,mem_range->xF,mapM_nil->xH,map_cons->xJ,map_nil->xK,range'->xL,range->xO
open Nat renaming le_refl->zG,zero_add->zQ,div_add_mod->zW,mul_comm->zY,div_eq_of_lt->yB,mul_add_div->yG,min_eq_right->yJ,mul_div_cancel_left->yL,mul_le_mul_right->yT,le_trans->yY,le_add_right->xA,add_div_left->xC,mod_lt->xD,add_mul->xM,one_mul->xN
open Bool renaming not_false->zN,not_true->zS,false_eq_true->yH,true_and->yI,or_assoc->xG
open Int renaming le_refl->yQ
open Go.Am.AObj renaming cells->zE,dead->xI
namespace Go.Am
set_option linter.unusedSectionVars false
set_option maxRecDepth 100000
theorem Jy {s:Sto}(j:s.crashed=false)(g:s.count=0):s.tick=s:=by
 unfold Sto.tick;rw[if_neg (by simp[j]),if_neg (by omega)];cases s;simp only at g;subst g;rfl
theorem SysAt.same {H H':Hp}{o t:Nat}{tm:Tmp}{s':Sto}{B S:List Nat}(j:TmpAt H o t tm B)(g:∀ a∈B,a∉S)(hr:StoRes H H' t s' S S):SysAt H' o t tm s' (B++S) :=
 ⟨B,S,j.stp hr.stp g,hr.at',g,rfl⟩
section
variable {H:Hp}{o t:Nat}{tm:Tmp}{s:Sto}{A:List Nat}(h:SysAt H o t tm s A)(hm:TmpOk tm)(hk:StoOk s)(n:Zn)
include h hm hk
theorem ZrE (hf:Yh tm n≠0)(i:Int):Vf [.ptr o 0,.str n,.int .i64 i] H=some (.tuple [.str [],.int .i64 0,.int .i64 (Yh tm n)],H):=by
 obtain⟨B,S,⟨z,j,C,sl,u,rfl⟩,w,y,rfl⟩:=h;have g:=Eh u hm n;have e0:(Yh tm n != 0)=true:=by simpa using hf
 rw[KI];unfold QC;simp only[g,go_sem,e0]
theorem ZrF (hf:Yh tm n=0)(hc:s.tick.crashed=false){f:Fil}(hg:ZR s.files n=some f){p:Zn}{rest:List Zn}(D:f.text=p++ZP rest)(hfit:X1 rest=true)(hlen:f.text.length<=262144) :
 ∃ H',Vf [.ptr o 0,.str n,.int .i64 (p.length:Int)] H=some (match rest with
  |[]=>.tuple [.str [],.int .i64 0,.int .i64 5]
  |l::_=>.tuple [.str l,.int .i64 ((p++YW l).length:Int),.int .i64 0],H')/\SysAt H' o t tm s.tick A/\Stp A H H':=by
 obtain⟨B,S,j,M,N,rfl⟩:=h;have O:=j;obtain⟨V,L,W,sl,j,rfl⟩:=j;have u:=Eh j hm n;have I:=ZU j.cells 0 (v:=.ptr t 0) rfl;have e0:(Yh tm n != 0)=false:=by rw[hf];rfl
 have F:((0:Int) != 0)=false:=rfl;have U:p.length<=f.text.length:=by rw[D];simp
 obtain⟨H1,E,J⟩:=ZuO M hk n (p.length:Int) 4102 (by omega)
 have z:s.read n (p.length:Int) 4102=((ZP rest).take 4102,0):=by
  unfold Sto.read;rw[if_neg (by simp[hc]),hg];dsimp only;rw[if_neg (by omega),Int.toNat_natCast,D,List.drop_append_of_le_length (zG _),List.drop_length];rfl
 rw[z]at E;refine⟨H1,?_,SysAt.same O N J,J.stp.mono fun a Q=>by simp[Q]⟩;rw[KI];unfold QC
 cases rest with
 |nil =>
  have g:((ZP ([]:List Zn)).take 4102==([]:Zn))=true:=rfl;simp only[u,go_sem,e0,zQ,Ku,I,E,zJ,zK,F,Kv,g]
 |cons l r =>
  have T:l.length<=4096:=by
   simp only[X1,yU,Bool.and_eq_true,decide_eq_true_eq]at hfit;exact hfit.1
  have y:(ZP (l::r)).take 4102=YW l++(ZP r).take (4102-(YW l).length):=by
   show (YW l++ZP r).take 4102=_;rw[List.take_append,List.take_of_length_le (by rw[KY];omega)]
  have g:((ZP (l::r)).take 4102==([]:Zn))=false:=by
   rw[y];have:(YW l).length≠0:=by rw[KY];omega
   cases hr:YW l with
   |nil=>rw[hr]at this;simp at this
   |cons a b=>rfl
  have w:=Zty l ((ZP r).take (4102-(YW l).length)) T (by
   rw[zL];omega) H1
  rw[<-y]at w
  have R:(ZP (l::r)).length<=262144:=by
   have:=congrArg List.length D;rw[zR]at this;omega
  have C:(YW l).length=l.length+6:=KY l
  have hw:xP.wrap ((p.length:Int)+((l.length+6:Nat):Int))=((p++YW l).length:Int):=by
   rw[zR,C,Zo (by omega) (by omega)];omega
  simp only[u,go_sem,e0,zQ,Ku,I,E,zJ,zK,F,Kv,g,L9,w,La,hw]
end
abbrev VS (o:Nat)(n:Zn)(i:Nat)(g u:Bool)(j:Zn):List AV:=[.ptr o 0,.str n,.int .i64 (i:Int),.bool g,.bool u,.str j]
def Rdr (H:Hp)(r o:Nat)(n text:Zn)(rest:List Zn):Prop :=
 (∃ l q p,H[r]?=some (.cells (VS o n (p++YW l).length true false l))/\rest=l::q/\text=p++YW l++ZP q) \/
 (rest=[]/\∃ p,H[r]?=some (.cells (VS o n p false true []))) \/
 ∃ p,H[r]?=some (.cells (VS o n p.length false false []))/\text=p++ZP rest
theorem Rdr.cells {H:Hp}{r o:Nat}{n text:Zn}{rest:List Zn}(h:Rdr H r o n text rest):∃ c,H[r]?=some (.cells c):=by
 rcases h with ⟨l,q,p,h,_⟩|⟨_,p,h⟩|⟨p,h,_⟩ <;> exact⟨_,h⟩
theorem Rdr.frame {H H':Hp}{r o:Nat}{n text:Zn}{rest:List Zn}(h:Rdr H r o n text rest)(hf:H'[r]?=H[r]?):Rdr H' r o n text rest:=by
 unfold Rdr at h ⊢;rw[hf];exact h
section
variable {H:Hp}{o t:Nat}{tm:Tmp}{s:Sto}{A:List Nat}(h:SysAt H o t tm s A)(hm:TmpOk tm)(hk:StoOk s){n:Zn}{r:Nat}{f:Fil}{rest:List Zn}
 (hr:Rdr H r o n f.text rest) (hrA:r∉A) (hf:Yh tm n=0) (hc:s.crashed=false) (h0:s.count=0) (hg:ZR s.files n=some f) (hfit:X1 rest=true) (hlen:f.text.length<=262144)
include h hm hk hr hrA hf hc h0 hg hfit hlen
theorem ZuM:∃ H',V4 [.ptr r 0] H=some (.tuple [.str (rest.headD []),.bool (!rest.isEmpty),.int .i64 0],H')/\SysAt H' o t tm s A/\Stp (r::A) H H' /\
 (rest=[]/\(∃ p,H'[r]?=some (.cells (VS o n p false true [])))\/∃ l q p,H'[r]?=some (.cells (VS o n (p++YW l).length true false l))/\rest=l::q/\f.text=p++YW l++ZP q):=by
 have E:=Jy hc h0;have g:Yy (.pointer 150) .eql (.ptr r 0) .nilp=some (.bool false):=rfl;rw[Fi];unfold KH;rcases hr with ⟨l,q,p,hr,rfl,w⟩|⟨rfl,p,hr⟩|⟨p,hr,w⟩
 ·have z:=ZU hr 3 (v:=.bool true) rfl;have l5:=ZU hr 5 (v:=.str l) rfl;refine⟨H,?_,h,Stp.refl _ _,.inr ⟨l,q,p,hr,rfl,w⟩⟩;simp only[go_sem,zQ,g,X7,z,zS,X8,Do,l5];rfl
 ·have z:=ZU hr 3 (v:=.bool false) rfl;have I:=ZU hr 4 (v:=.bool true) rfl;refine⟨H,?_,h,Stp.refl _ _,.inl ⟨rfl,p,hr⟩⟩;simp only[go_sem,zQ,g,X7,z,I,zS,zN,X8];rfl
 ·have z:=ZU hr 3 (v:=.bool false) rfl;have I:=ZU hr 4 (v:=.bool false) rfl;have W:=ZU hr 0 (v:=.ptr o 0) rfl;have X:=ZU hr 1 (v:=.str n) rfl;have Y:=ZU hr 2 (v:=.int .i64 (p.length:Int)) rfl;obtain⟨H1,Z,S,T⟩:=ZrF h hm hk n hf (by rw[E];exact hc) hg w hfit hlen;rw[E]at S;have F:=T.get hr hrA
  cases rest with
  |nil =>
   have e5:((5:Int)==0)=false:=rfl;have L:((5:Int)==5)=true:=rfl;have s4:=Q5 F 4 (v:=.bool true) rfl rfl (by simp);have D:=Zt (zE (zM (VS o n p.length false false []) 4 (.bool true))) F;have R:=ZU D 3 (v:=.bool false) rfl;have j:Stp (r::A) H1 (H1.set r (.cells (zM (VS o n p.length false false []) 4 (.bool true)))):=Stp.set _ _ (by simp);refine⟨H1.set r (.cells (zM (VS o n p.length false false []) 4 (.bool true))),?_,S.stp (C:=[r]) (Stp.set _ _ (by simp)) (fun a u=>by simp;exact fun e=>hrA (e ▸ u)),(T.mono (B:=r::A) fun a u=>by simp[u]).trans j (fun _ h=>h) (fun _ h=>.inl h),.inl ⟨rfl,p.length,D⟩⟩;simp only[go_sem,zQ,g,X7,z,I,W,X,Y,Z,zJ,zK,e5,L,s4,X8,R,zN];rfl
  |cons l q =>
   have ez:((0:Int)==0)=true:=rfl;have s5:=Q5 F 5 (v:=.str l) rfl rfl (by simp);have D:=Zt (zE (zM (VS o n p.length false false []) 5 (.str l))) F;have U:=Q5 D 2 (v:=.int .i64 ((p++YW l).length:Int)) rfl rfl (by simp);have M:=Zt (zE (zM (zM (VS o n p.length false false []) 5 (.str l)) 2 (.int .i64 ((p++YW l).length:Int)))) D;have J:=Q5 M 3 (v:=.bool true) rfl rfl (by simp);have y:=Zt (zE (zM (zM (zM (VS o n p.length false false []) 5 (.str l)) 2 (.int .i64 ((p++YW l).length:Int))) 3 (.bool true))) M;generalize N:H1.set r (.cells (zM (VS o n p.length false false []) 5 (.str l)))=H2 at s5 U M J y;generalize O:H2.set r (.cells (zM (zM (VS o n p.length false false []) 5 (.str l)) 2 (.int .i64 ((p++YW l).length:Int))))=H3 at U J y;generalize Q:H3.set r (.cells (zM (zM (zM (VS o n p.length false false []) 5 (.str l)) 2 (.int .i64 ((p++YW l).length:Int))) 3 (.bool true)))=V at J y;have R:=ZU y 3 (v:=.bool true) rfl;have k5:=ZU y 5 (v:=.str l) rfl
   have j:Stp [r] H1 V:=by
    rw[<-Q,<-O,<-N];exact ((Stp.set _ _ (by simp)).trans (Stp.set _ _ (by simp)) (fun _ h=>h) fun _ h=>.inl h).trans (Stp.set _ _ (by simp)) (fun _ h=>h) fun _ h=>.inl h
   refine⟨V,?_,S.stp j (fun a u=>by simp;exact fun e=>hrA (e ▸ u)),(T.mono (B:=r::A) fun a u=>by simp[u]).trans (j.mono (B:=r::A) fun a u=>by rw[zO.1 u];simp) (fun _ h=>h) (fun _ h=>.inl h),.inr ⟨l,q,p,y,rfl,by rw[w];simp[ZP]⟩⟩;simp only[go_sem,zQ,g,X7,z,I,W,X,Y,Z,zJ,zK,ez,s5,U,J,X8,R,zS,zN,Do,k5];rfl
end
structure Cm {α:Type}(f:α->α->Int):Prop where
 one:∀ a b,f a b=-1\/f a b=0\/f a b=1
 sym:∀ a b,f b a=-f a b
 tr:∀ a b c,f a b<=0->f b c<=0->f a c<=0/\(f a c<0↔f a b<0\/f b c<0)
theorem Cm.of {α:Type}{f g:α->α->Int}(h:Cm f)(e:∀ a b,g a b=f a b):Cm g:=by
 have:g=f:=funext fun a=>funext fun b=>e a b;rw[this];exact h
theorem Cm.comap {α β:Type}{f:β->β->Int}(h:Cm f)(g:α->β):Cm fun a b=>f (g a) (g b) :=
 ⟨fun a b=>h.one _ _,fun a b=>h.sym _ _,fun a b c=>h.tr _ _ _⟩
theorem Cm.tr2 {α:Type}{f:α->α->Int}(h:Cm f)(a b c:α)(w:0<=f a b)(y:0<=f b c):0<=f a c/\(0<f a c↔0<f a b\/0<f b c):=by
 have g:=h.sym a b;have j:=h.sym b c;have u:=h.sym a c;have:=h.tr c b a (by omega) (by omega);omega
theorem Cm.self {α:Type}{f:α->α->Int}(h:Cm f)(a:α):f a a=0:=by
 have:=h.sym a a;omega
theorem Cm.neg {α:Type}{f:α->α->Int}(h:Cm f):Cm fun a b=>-f a b:=by
 refine⟨fun a b=>?_,fun a b=>?_,fun a b c g j=>?_⟩
 ·have:=h.one a b;show -f a b=_\/-f a b=_\/-f a b=_;omega
 ·have:=h.sym a b;show -f b a=- -f a b;omega
 ·have:=h.tr2 a b c (by omega) (by omega);show -f a c<=0/\(-f a c<0↔-f a b<0\/-f b c<0);omega
theorem Cm.lex {α:Type}{f g:α->α->Int}(h:Cm f)(k:Cm g):Cm fun a b=>if (f a b != 0)=true then f a b else g a b:=by
 have e:∀ a b,(if (f a b != 0)=true then f a b else g a b)=if f a b=0 then g a b else f a b:=fun a b=>by
  by_cases h0:f a b=0 <;> simp[h0]
 refine Cm.of (f:=fun a b=>if f a b=0 then g a b else f a b) ⟨fun a b=>?_,fun a b=>?_,fun a b c=>?_⟩ e
 ·show (if f a b=0 then g a b else f a b)=-1\/_\/_;have j:=h.one a b;have u:=k.one a b;split <;> assumption
 ·show (if f b a=0 then g b a else f b a)=-(if f a b=0 then g a b else f a b);have j:=h.sym a b;have u:=k.sym a b;split <;> split <;> omega
 ·show (if f a b=0 then g a b else f a b)<=0->(if f b c=0 then g b c else f b c)<=0->(if f a c=0 then g a c else f a c)<=0/\((if f a c=0 then g a c else f a c)<0↔(if f a b=0 then g a b else f a b)<0\/(if f b c=0 then g b c else f b c)<0);have j:=h.tr a b c;have u:=k.tr a b c;intro w y;by_cases z:f a b=0 <;> by_cases B:f b c=0 <;> by_cases z3:f a c=0 <;> simp only[z,B,z3,if_true,if_false]at w y ⊢ <;> omega
theorem sgnS_cm:Cm A8:=by
 refine⟨Zmr,fun a b=>?_,fun a b c=>?_⟩
 ·unfold A8;split <;> split <;> (try split) <;> (try split) <;> omega
 ·unfold A8;intro B C;by_cases g:a<b <;> by_cases j:b<a <;> by_cases u:b<c <;> by_cases w:c<b <;> by_cases y:a<c <;> by_cases z:c<a <;> simp only[g,j,u,w,y,z,if_true,if_false]at B C ⊢ <;> omega
theorem ordS_cm:Cm VK:=by
 refine⟨ZfE,?_,?_⟩
 ·intro a
  induction a with
  |nil=>intro b;cases b <;> simp[VK]
  |cons x a g =>
   intro b
   cases b with
   |nil=>simp[VK]
   |cons y b =>
    rw[QT,QT];have:=g b;split <;> split <;> (try split) <;> (try split) <;> omega
 ·intro a
  induction a with
  |nil=>intro b c;cases b <;> cases c <;> simp[VK]
  |cons x a g =>
   intro b c
   cases b with
   |nil=>cases c <;> simp[VK]
   |cons y b =>
    cases c with
    |nil=>simp[VK]
    |cons z c =>
     rw[QT,QT,QT];have:=g b c;intro E F;by_cases j:x<y <;> by_cases u:y<x <;> by_cases w:y<z <;> by_cases B:z<y <;> by_cases C:x<z <;> by_cases D:z<x <;> simp only[j,u,w,B,C,D,if_true,if_false]at E F ⊢ <;> omega
theorem Zyo:Cm J6:=(ordS_cm.comap ZB3).of fun a b=>(Zl4 a b).symm
theorem Ziu (L:Loc):Cm (Bu L):=(ordS_cm.comap (wS (Yi L))).lex Zyo
theorem ZjK (L:Loc)(n:Nat):Cm (N7 L n):=by
 cases g:n.testBit 0 with
 |true=>exact (sgnS_cm.comap ZqZ).of fun a b=>by simp[N7,g]
 |false=>exact ((Ziu L).comap (Q1 L n)).of fun a b=>by simp[N7,g]
theorem ZjL (L:Loc)(n:Nat):Cm (UZ L n):=by
 cases g:n.testBit 1 with
 |true=>exact (ZjK L n).neg.of fun a b=>by simp[UZ,g]
 |false=>exact (ZjK L n).of fun a b=>by simp[UZ,g]
theorem Zyp (L:Loc)(p:Spec):∀ l:List Ke,Cm fun a b=>IU L p a b l:=by
 intro l
 induction l with
 |nil=>exact⟨fun _ _=>.inr (.inl rfl),fun _ _=>rfl,fun _ _ _ _ _=>⟨yQ _,by simp[IU]⟩⟩
 |cons k l g=>exact (((ZjL L (Ej p k)).comap fun a=>ex a (fields a p.sep) k).lex g).of fun a b=>Zjd L p a b k l
theorem Zww (L:Loc)(p:Spec):Cm (Zhr L p):=by
 cases g:(p.keys.length==0) with
 |true=>exact (ZjL L p.flags.toNat).of fun a b=>by simp only[Zhr,g,if_true]
 |false=>exact (Zyp L p p.keys).of fun a b=>by simp only[Zhr,g,yH,if_false]
theorem ZlV (L:Loc)(p:Spec):Cm (W6 L p):=Zww L (Zy p)
theorem ZkZ (p:Spec):ZL (Zy p)=0:=by
 unfold Zy
 cases g:(ZL p != 0) with
 |true=>rfl
 |false=>simpa using g
theorem Zo3 (p:Spec):Zy (Zy p)=Zy p:=by
 show (if (ZL (Zy p) != 0)=true then plainP else Zy p)=Zy p;rw[ZkZ];rfl
theorem ZeM (L:Loc)(p:Spec)(a b:List UInt8):W6 L (Zy p) a b=W6 L p a b:=by unfold W6;rw[Zo3]
def Zhn (L:Loc)(p:Spec)(a b:List UInt8):Int:=if (Zy p).flags.toNat.testBit 1 then -Bu L a b else Bu L a b
theorem Zws (L:Loc)(p:Spec):Cm (Zhn L p):=by
 cases g:(Zy p).flags.toNat.testBit 1 with
 |true=>exact (Ziu L).neg.of fun a b=>by simp[Zhn,g]
 |false=>exact (Ziu L).of fun a b=>by simp[Zhn,g]
theorem HX {L:Loc}{p:Spec}(h:((Zy p).stab || (Zy p).uniq)=true)(a b:List UInt8):Y3 L p a b=W6 L p a b:=by
 unfold Y3;rw[ZeM,xG,h,Bool.or_true,if_pos rfl]
theorem ZnP {L:Loc}{p:Spec}(h:((Zy p).stab || (Zy p).uniq)=false)(a b:List UInt8):Y3 L p a b=if (W6 L p a b != 0)=true then W6 L p a b else Zhn L p a b:=by
 unfold Y3 Zhn;rw[ZeM,xG,h,Bool.or_false]
theorem CS (L:Loc)(p:Spec):Cm (Y3 L p):=by
 cases g:((Zy p).stab || (Zy p).uniq) with
 |true=>exact (ZlV L p).of (HX g)
 |false=>exact ((ZlV L p).lex (Zws L p)).of (ZnP g)
section
variable {α:Type}{f:α->α->Int}
def Fm (f:α->α->Int)(l:List α):Prop:=l.Pairwise fun a b=>f a b<=0
def YQ (f:α->α->Int)(x y:α):Bool:=f x y==0
def mergeL (f:α->α->Int):List α->List α->List α
 |[],b=>b
 |a::l,[]=>a::l
 |a::l,b::m=>if 0<f a b then b::mergeL f (a::l) m else a::mergeL f l (b::m)
termination_by a b=>a.length+b.length
theorem Gk (b:List α):mergeL f [] b=b:=by rw[mergeL]
theorem JW (a:List α):mergeL f a []=a:=by cases a <;> rw[mergeL]
theorem Xp (a b:α)(l m:List α):mergeL f (a::l) (b::m)=if 0<f a b then b::mergeL f (a::l) m else a::mergeL f l (b::m):=by rw[mergeL]
def UY (f:α->α->Int):Nat->List α->List α
 |0,l=>l
 |n+1,l=>if l.length<2 then l else mergeL f (UY f n (l.take (l.length / 2))) (UY f n (l.drop (l.length / 2)))
def Jm (f:α->α->Int)(S:List α)(y:α):Nat->Nat
 |0=>0
 |k+1=>match S[k]? with
  |some s=>if 0<f s y then Jm f S y k else k+1
  |none=>Jm f S y k
def HT (f:α->α->Int)(S:List α)(y:α):List α:=S.take (Jm f S y S.length)++y::S.drop (Jm f S y S.length)
def TZ (f:α->α->Int)(l:List α):List α:=l.foldl (HT f) []
def Jn (g:α->α->Int)(out:List α)(x:α):Bool:=match out.getLast? with
 |some y=>g y x==0
 |none=>false
def VJ (g:α->α->Int):List α->List α->List α
 |out,[]=>out
 |out,x::l=>VJ g (if Jn g out x=true then out else out++[x]) l
variable (h:Cm f)
include h
theorem Cm.eqv_iff (x y:α):YQ f x y=true↔f x y=0:=by unfold YQ;rw[beq_iff_eq]
theorem Cm.le_trans {a b c:α}(g:f a b<=0)(j:f b c<=0):f a c<=0:=(h.tr a b c g j).1
theorem Cm.lt_le {a b c:α}(g:f a b<0)(j:f b c<=0):f a c<0:=(h.tr a b c (by omega) j).2.2 (.inl g)
theorem Cm.le_lt {a b c:α}(g:f a b<=0)(j:f b c<0):f a c<0:=(h.tr a b c g (by omega)).2.2 (.inr j)
theorem ZfX:∀ A B:List α,Fm f A->Fm f B->(∀ x,A.filter (YQ f x)=B.filter (YQ f x))->A=B:=by
 intro A;have self:∀ x,YQ f x x=true:=fun x=>by rw[h.eqv_iff];exact h.self x
 induction A with
 |nil =>
  intro B _ _ hf
  cases B with
  |nil=>rfl
  |cons b B =>
   have:=hf b;rw[zB,self b]at this;simp at this
 |cons a A F =>
  intro B D E hf
  cases B with
  |nil =>
   have:=hf a;rw[zB,self a]at this;simp at this
  |cons b B =>
   have j:=zC.1 D;have u:=zC.1 E
   have z:b∈a::A:=by
    have g:b∈(b::B).filter (YQ f b):=yF.2 ⟨by simp,self b⟩;rw[<-hf b]at g;exact (yF.1 g).1
   have w:a∈b::B:=by
    have g:a∈(a::A).filter (YQ f a):=yF.2 ⟨by simp,self a⟩;rw[hf a]at g;exact (yF.1 g).1
   have g:f a b<=0:=by
    rcases zF.1 z with e|e
    ·rw[e,h.self];exact yQ _
    ·exact j.1 b e
   have I:f b a<=0:=by
    rcases zF.1 w with e|e
    ·rw[e,h.self];exact yQ _
    ·exact u.1 a e
   have C:f a b=0:=by have:=h.sym a b;omega
   have y:a=b:=by
    have:=hf a;rw[zB,self a,zB,(h.eqv_iff a b).2 C]at this;simp only[if_true,List.cons.injEq]at this;exact this.1
   subst y;congr 1;refine F B j.2 u.2 fun x=>?_;have:=hf x;rw[zB,zB]at this;split at this
   ·simpa using this
   ·exact this
theorem ZjB:∀ (A B:List α) (x:α),x∈mergeL f A B↔x∈A\/x∈B:=by
 intro A B x
 induction A,B using mergeL.induct f with
 |case1 b=>simp[Gk]
 |case2 a l=>simp[JW]
 |case3 a l b m hc g =>
  rw[Xp,if_pos hc,zF,g];simp only[zF];constructor
  ·rintro (h|h|h) <;> simp[h]
  ·rintro (h|h|h) <;> simp[h]
 |case4 a l b m hc g =>
  rw[Xp,if_neg hc,zF,g];simp only[zF];constructor
  ·rintro (h|h|h) <;> simp[h]
  ·rintro ((h|h)|h) <;> simp[h]
theorem Zto:∀ A B:List α,Fm f A->Fm f B->Fm f (mergeL f A B):=by
 intro A B
 induction A,B using mergeL.induct f with
 |case1 b=>intro _ z;rw[Gk];exact z
 |case2 a l=>intro w _;rw[JW];exact w
 |case3 a l b m hc D =>
  intro w z;rw[Xp,if_pos hc];have j:=zC.1 w;have u:=zC.1 z;refine zC.2 ⟨fun y g=>?_,D w u.2⟩;rcases (ZjB h _ _ y).1 g with g|g
  ·have C:f b a<0:=by have:=h.sym a b;omega
   rcases zF.1 g with e|e
   ·rw[e];omega
   ·have:=h.lt_le C (j.1 y e);omega
  ·exact u.1 y g
 |case4 a l b m hc D =>
  intro w z;rw[Xp,if_neg hc];have j:=zC.1 w;have u:=zC.1 z;refine zC.2 ⟨fun y g=>?_,D j.2 z⟩;rcases (ZjB h _ _ y).1 g with g|g
  ·exact j.1 y g
  ·rcases zF.1 g with e|e
   ·rw[e];omega
   ·exact h.le_trans (by omega) (u.1 y e)
theorem Zm0 (x:α):∀ A B:List α,Fm f A->(mergeL f A B).filter (YQ f x)=A.filter (YQ f x)++B.filter (YQ f x):=by
 intro A B
 induction A,B using mergeL.induct f with
 |case1 b=>intro _;rw[Gk];simp
 |case2 a l=>intro _;rw[JW];simp
 |case3 a l b m hc D =>
  intro w;have g:=zC.1 w;rw[Xp,if_pos hc,zB,D w]
  cases z:YQ f x b with
  |false=>simp only[zB,z,yH,if_false]
  |true =>
   rw[h.eqv_iff]at z;have j:f b a<0:=by have:=h.sym a b;omega
   have u:(a::l).filter (YQ f x)=[]:=by
    rw[yM];intro y F C;rw[h.eqv_iff]at C
    have E:f b y<0:=by
     rcases zF.1 F with e|e
     ·rw[e];exact j
     ·exact h.lt_le j (g.1 y e)
    have I:=h.le_lt (a:=x) (b:=b) (c:=y) (by omega) E;omega
   rw[u];simp[zB,(h.eqv_iff x b).2 z]
 |case4 a l b m hc D =>
  intro w;have g:=zC.1 w;rw[Xp,if_neg hc,zB,D g.2,zB (xs:=l)];split <;> simp
theorem ZqJ:∀ (n:Nat) (l:List α),l.length<=n->Fm f (UY f n l)/\∀ x,(UY f n l).filter (YQ f x)=l.filter (YQ f x):=by
 intro n
 induction n with
 |zero=>intro l B;have:l=[]:=yK.1 (by omega);subst this;exact⟨List.Pairwise.nil,fun _=>rfl⟩
 |succ n u =>
  intro l B;unfold UY;split
  ·rename_i j;refine⟨?_,fun _=>rfl⟩
   match l,j with
   |[],_=>exact List.Pairwise.nil
   |[a],_=>exact List.pairwise_singleton _ _
  ·rename_i j;obtain⟨g,w⟩:=u (l.take (l.length / 2)) (by rw[zL];omega);obtain⟨y,z⟩:=u (l.drop (l.length / 2)) (by rw[zU];omega);refine⟨Zto h _ _ g y,fun x=>?_⟩;rw[Zm0 h x _ _ g,w,z,<-zX,zZ]
omit h in
theorem Zz1 (S:List α)(y:α):∀ k,Jm f S y k<=k:=by
 intro k
 induction k with
 |zero=>exact zG _
 |succ k g =>
  unfold Jm;split
  ·split <;> omega
  ·omega
omit h in
theorem ZhE (S:List α)(y:α):∀ k,∀ j s,Jm f S y k<=j->j<k->S[j]?=some s->0<f s y:=by
 intro k
 induction k with
 |zero=>intro j s _ z;omega
 |succ k w =>
  intro j s g z u;unfold Jm at g;by_cases B:j=k
  ·subst B;rw[u]at g;simp only at g;split at g
   ·assumption
   ·omega
  ·split at g
   ·split at g
    ·exact w j s g (by omega) u
    ·omega
   ·exact w j s g (by omega) u
omit h in
theorem Zz0 (S:List α)(y:α):∀ k,Jm f S y k=0\/∃ s,S[Jm f S y k-1]?=some s/\f s y<=0:=by
 intro k
 induction k with
 |zero=>exact .inl rfl
 |succ k g =>
  unfold Jm;split
  ·rename_i s j;split
   ·exact g
   ·exact .inr ⟨s,by simpa using j,by omega⟩
  ·exact g
theorem ZyL {S:List α}(N:Fm f S)(y:α):Fm f (HT f S y):=by
 unfold HT;have W:=Zz1 (f:=f) S y S.length;have D:Fm f (S.take (Jm f S y S.length)++S.drop (Jm f S y S.length)):=by rw[zZ];exact N
 obtain⟨X,Y,Z⟩:=yR.1 D
 have u:∀ z∈S.drop (Jm f S y S.length),f y z<0:=fun z B=>by
  obtain⟨j,g⟩:=yC B;rw[yW]at g;have J:=(zD.1 g).1;have:=ZhE S y S.length _ z (xA _ _) J g;have:=h.sym z y;omega
 have w:∀ z∈S.take (Jm f S y S.length),f z y<=0:=fun z B=>by
  rcases Zz0 (f:=f) S y S.length with h0|⟨s,C,M⟩
  ·rw[h0]at B;simp at B
  ·obtain⟨j,g⟩:=yC B;obtain⟨E,V⟩:=zD.1 g;rw[zL]at E;rw[List.getElem?_take_of_lt (by omega)]at g;by_cases U:j=Jm f S y S.length-1
   ·rw[<-U,g]at C;injection C with C;rw[C];exact M
   ·have L:f z s<=0:=by
     obtain⟨F,Q⟩:=zD.1 g;obtain⟨I,R⟩:=zD.1 C;rw[<-Q,<-R];exact List.pairwise_iff_getElem.1 N _ _ F I (by omega)
    exact h.le_trans L M
 refine yR.2 ⟨X,zC.2 ⟨fun z B=>by have:=u z B;omega,Y⟩,fun a O b T=>?_⟩;rcases zF.1 T with e|e
 ·rw[e];exact w a O
 ·exact Z a O b e
theorem Zqq (S:List α)(y x:α):(HT f S y).filter (YQ f x)=S.filter (YQ f x)++[y].filter (YQ f x):=by
 unfold HT;have g:S.filter (YQ f x)=(S.take (Jm f S y S.length)).filter (YQ f x)++(S.drop (Jm f S y S.length)).filter (YQ f x):=by rw[<-zX,zZ]
 rw[g,zX,zT];congr 1;rw[zB,zB,List.filter_nil]
 cases B:YQ f x y with
 |false=>simp
 |true =>
  rw[h.eqv_iff]at B
  have:(S.drop (Jm f S y S.length)).filter (YQ f x)=[]:=by
   rw[yM];intro z D C;rw[h.eqv_iff]at C;obtain⟨j,u⟩:=yC D;rw[yW]at u;have w:=(zD.1 u).1;have E:=ZhE S y S.length _ z (xA _ _) w u;have F:=h.sym z y;have I:=h.le_lt (a:=x) (b:=y) (c:=z) (by omega) (by omega);omega
  rw[this];simp
theorem ZlD:∀ (l S:List α),Fm f S->Fm f (l.foldl (HT f) S)/\∀ x,(l.foldl (HT f) S).filter (YQ f x)=S.filter (YQ f x)++l.filter (YQ f x):=by
 intro l
 induction l with
 |nil=>intro S g;exact⟨g,fun x=>by simp⟩
 |cons y l j =>
  intro S g;obtain⟨a,b⟩:=j (HT f S y) (ZyL h g y);refine⟨a,fun x=>?_⟩;rw[List.foldl_cons,b,Zqq h,zT,<-zX];rfl
theorem Ztq (l:List α){n:Nat}(y:l.length<=n):UY f n l=TZ f l:=by
 obtain⟨g,j⟩:=ZqJ h n l y;obtain⟨u,w⟩:=ZlD h l [] List.Pairwise.nil;exact ZfX h _ _ g u fun x=>by rw[j,show TZ f l=l.foldl (HT f) [] from rfl,w];rfl
end
structure Fv (K:AV->Prop)(t:Zi->Zi->Bool):Prop where
 close:∀ v,K v->∃ v',Zb [] 0 9 v=some v'/\K v'
 run:∀ v,K v->∀ a b:Zi,a.length<=1048576->b.length<=1048576->∀ H,Yn cfg (Z9 cfg) v [.str a,.str b] H=some (.bool (t a b),H)
theorem Ztn {f:Zi->Zi->Int}:∀ A B:List Zi,(mergeL f A B).length=A.length+B.length:=by
 intro A B
 induction A,B using mergeL.induct f with
 |case1 b=>simp[Gk]
 |case2 a l=>simp[JW]
 |case3 a l b m hc g=>rw[Xp,if_pos hc,zP,g];simp only[zP];omega
 |case4 a l b m hc g=>rw[Xp,if_neg hc,zP,g];simp only[zP];omega
theorem ZqE {f:Zi->Zi->Int}:∀ (A B:List Zi) (x:Zi),x∈mergeL f A B->x∈A\/x∈B:=by
 intro A B x
 induction A,B using mergeL.induct f with
 |case1 b=>simp[Gk]
 |case2 a l=>simp[JW]
 |case3 a l b m hc g =>
  rw[Xp,if_pos hc,zF]
  rintro (h|h)
  ·exact .inr (by simp[h])
  ·rcases g h with h|h
   ·exact .inl h
   ·exact .inr (by simp[h])
 |case4 a l b m hc g =>
  rw[Xp,if_neg hc,zF]
  rintro (h|h)
  ·exact .inl (by simp[h])
  ·rcases g h with h|h
   ·exact .inl (by simp[h])
   ·exact .inr h
theorem HW {f:Zi->Zi->Int}:∀ (n:Nat) (l:List Zi),(UY f n l).length=l.length/\∀ s∈UY f n l,s∈l:=by
 intro n
 induction n with
 |zero=>intro l;exact⟨rfl,fun s h=>h⟩
 |succ n g =>
  intro l;unfold UY;split
  ·exact⟨rfl,fun s h=>h⟩
  ·obtain⟨j,u⟩:=g (l.take (l.length / 2));obtain⟨w,y⟩:=g (l.drop (l.length / 2));refine⟨by rw[Ztn,j,w,zL,zU];omega,fun s z=>?_⟩;rcases ZqE _ _ s z with h|h
   ·exact yD (u s h)
   ·exact yE (y s h)
section
variable {K:AV->Prop}{f:Zi->Zi->Int}(hK:Fv K fun a b=>decide (0<f a b))
include hK
theorem ZqD {v:AV}(hv:K v)(H0:Hp):∀ (A B g:List Zi) (x6 x7 S:AV) (H:Hp),SS x6 A->SS x7 B->RS H S g->Wc A->Wc B->g.length+A.length+B.length<=4194304 ->
 ∃ y H',YH v x6 x7 S H0 H=some (y,H')/\RS H' y (g++mergeL f A B):=by
 intro A B
 induction A,B using mergeL.induct f with
 |case1 B =>
  intro g x6 x7 S H u w I J L F;obtain⟨V,H1,N,O⟩:=I.app u (by omega);obtain⟨y2,W,Q,R⟩:=O.app w (by simp at F ⊢;omega);refine⟨y2,W,?_,by rw[Gk];simpa using R⟩;have j:=SS.len u 9;rw[YU];simp only[go_sem,j,zI,show decide ((0:Int)<((0:Nat):Int))=false from rfl,VQ,N,Q]
 |case2 a l =>
  intro g x6 x7 S H u w I J L F;obtain⟨V,H1,N,O⟩:=I.app u (by simp at F ⊢;omega);obtain⟨y2,W,Q,R⟩:=O.app w (by simp at F ⊢;omega);refine⟨y2,W,?_,by rw[JW];simpa using R⟩;have j:=SS.len u 9;have D:=SS.len w 9;have T:decide ((0:Int)<(((a::l).length:Nat):Int))=true:=by simp
  rw[YU];simp only[go_sem,j,D,T,zI,show decide ((0:Int)<((0:Nat):Int))=false from rfl,VQ,N,Q]
 |case3 a l b m hc Y =>
  intro g x6 x7 S H u w I J L F;have j:=SS.len u 9;have D:=SS.len w 9;have T:decide ((0:Int)<(((a::l).length:Nat):Int))=true:=by simp
  have M:decide ((0:Int)<(((b::m).length:Nat):Int))=true:=by simp
  have z:=SS.idx u (i:=0) (s:=a) rfl;have C:=SS.idx w (i:=0) (s:=b) rfl;obtain⟨ab,U,Z⟩:=SS.lo w (n:=1) (by simp);have E:=hK.run v hv a b (J a (by simp)) (L b (by simp)) H;obtain⟨V,H1,N,O⟩:=I.app (ZhC b) (by simp at F ⊢;omega);obtain⟨y,H',Q,R⟩:=Y (g++[b]) x6 ab V H1 u Z O J (fun s X=>L s (by simp[X])) (by simp at F ⊢;omega);refine⟨y,H',?_,by rw[Xp,if_pos hc];simpa using R⟩;rw[show ((0:Nat):Int)=0 from rfl]at z C;rw[show ((1:Nat):Int)=1 from rfl]at U;rw[YU];simp only[go_sem,j,D,T,M,VR,z,C,ZB,E,decide_eq_true hc,Lh,N,U,Q]
 |case4 a l b m hc Y =>
  intro g x6 x7 S H u w I J L F;have j:=SS.len u 9;have D:=SS.len w 9;have T:decide ((0:Int)<(((a::l).length:Nat):Int))=true:=by simp
  have M:decide ((0:Int)<(((b::m).length:Nat):Int))=true:=by simp
  have z:=SS.idx u (i:=0) (s:=a) rfl;have C:=SS.idx w (i:=0) (s:=b) rfl;obtain⟨aa,U,Z⟩:=SS.lo u (n:=1) (by simp);have E:=hK.run v hv a b (J a (by simp)) (L b (by simp)) H;obtain⟨V,H1,N,O⟩:=I.app (ZhC a) (by simp at F ⊢;omega);obtain⟨y,H',Q,R⟩:=Y (g++[a]) aa x7 V H1 Z w O (fun s X=>J s (by simp[X])) L (by simp at F ⊢;omega);refine⟨y,H',?_,by rw[Xp,if_neg hc];simpa using R⟩;rw[show ((0:Nat):Int)=0 from rfl]at z C;rw[show ((1:Nat):Int)=1 from rfl]at U;rw[YU];simp only[go_sem,j,D,T,M,VR,z,C,ZB,E,decide_eq_false hc,Lh,N,U,Q]
theorem ZqI:∀ (n:Nat) (l:List Zi) (x v:AV),l.length<=n->l.length<=1048576->Wc l->SS x l->K v->∀ H,∃ y,Zf YL [x,v] H=some (y,H)/\SS y (UY f n l):=by
 intro n
 induction n with
 |zero =>
  intro l x v hn R z T S H;have:l=[]:=yK.1 (by omega);subst this;obtain⟨x',E,g⟩:=SS.closed T [] 0 7;obtain⟨v',F,I⟩:=hK.close v S;obtain⟨y,U,V⟩:=ML g R [];have J:=SS.len g 9;obtain⟨D,C,w⟩:=SS.closed V [] 0 7;refine⟨D,PY E F ?_ C,w⟩;rw[XV];unfold Xi;simp only[go_sem,J,zI,show decide (((0:Nat):Int)<2)=true from rfl,U]
 |succ n X =>
  intro l x v hn R z T S H;obtain⟨x',E,g⟩:=SS.closed T [] 0 7;obtain⟨v',F,I⟩:=hK.close v S;have J:=SS.len g 9;unfold UY;by_cases W:l.length<2
  ·have Q:decide ((l.length:Int)<2)=true:=by simp;omega
   obtain⟨y,U,V⟩:=ML g R [];obtain⟨D,C,w⟩:=SS.closed V [] 0 7;rw[if_pos W];refine⟨D,PY E F ?_ C,w⟩;rw[XV];unfold Xi;simp only[go_sem,J,Q,U]
  ·rw[if_neg W];have Q:decide ((l.length:Int)<2)=false:=by simp;omega
   have hq:Z5 .quo (.int .i64 (l.length:Int)) (.int .i64 2)=some (.int .i64 ((l.length / 2:Nat):Int)):=by
    simp[Z5,XG,Xz];exact Zo (by omega) (by omega)
   obtain⟨xa,Y,Z⟩:=SS.hi g (n:=l.length / 2) (by omega);obtain⟨xb,b1,b2⟩:=SS.lo g (n:=l.length / 2) (by omega);obtain⟨ya,a3,a4⟩:=X (l.take (l.length / 2)) xa v' (by rw[zL];omega) (by rw[zL];omega) (fun s u=>z s (yD u)) Z I [];obtain⟨yb,b3,b4⟩:=X (l.drop (l.length / 2)) xb v' (by rw[zU];omega) (by rw[zU];omega) (fun s u=>z s (yE u)) b2 I [];obtain⟨L,M⟩:=HW (f:=f) n (l.take (l.length / 2));obtain⟨N,O⟩:=HW (f:=f) n (l.drop (l.length / 2))
   have j:Rf 1 16 false (.str []) (.int .i64 0) (.int .i64 (l.length:Int)) []=some (.vs 1 (.own 0 0) [],[.tok 0]):=by
    have hf:YS (l.length:Int).toNat 16=true:=by simp[YS];omega
    unfold Rf;dsimp only;rw[if_pos ⟨yQ _,by omega,rfl,rfl,by decide,hf⟩];simp
   have B:RS [AObj.tok 0] (.vs 1 (.own 0 0) []) []:=.inr ⟨0,0,rfl,rfl,zG _⟩
   obtain⟨y,H',C,w⟩:=ZqD hK I [] (UY f n (l.take (l.length / 2))) (UY f n (l.drop (l.length / 2))) [] ya yb _ _ a4 b4 B
    (fun s u=>z s (yD (M s u))) (fun s u=>z s (yE (O s u))) (by rw[L,N,zL,zU,zI];omega)
   rw[yN]at w;obtain⟨D,q3,q4⟩:=w.done H';refine⟨D,PY E F ?_ q3,q4⟩;rw[XV];unfold Xi;simp only[go_sem,J,Q,Dl,hq,Y,a3,b1,b3,j,C]
end
theorem ZjG {g:Zi->Zi->Int}:∀ (l out:List Zi),(VJ g out l).length<=out.length+l.length:=by
 intro l
 induction l with
 |nil=>intro out;simp[VJ]
 |cons x l j =>
  intro out;unfold VJ;refine yY (j _) ?_;split <;> simp <;> omega
theorem ZjH {g:Zi->Zi->Int}:∀ (l out:List Zi),∀ s∈VJ g out l,s∈out\/s∈l:=by
 intro l
 induction l with
 |nil=>intro out s j;exact .inl j
 |cons x l u =>
  intro out s j;unfold VJ at j;rcases u _ s j with h|h
  ·split at h
   ·exact .inl h
   ·rcases zV.1 h with h|h
    ·exact .inl h
    ·exact .inr (by rw[zO.1 h];simp)
  ·exact .inr (by simp[h])
theorem ZtE {K:AV->Prop}{g:Zi->Zi->Int}(hK:Fv K fun a b=>g a b==0){v:AV}(hv:K v){x:AV}{l:List Zi}(hx:SS x l)(hL:Wc l)(hl:l.length<=1048576)(U:Hp):∀ (r done out:List Zi) (M:AV) (H:Hp),l=done++r->RS H M out->Wc out->out.length<=done.length ->
 ∃ y H',W9 v M x (.int .i64 (l.length:Int)) (.int .i64 (done.length:Int)) U H=some (y,H')/\RS H' y (VJ g out r):=by
 intro r
 induction r with
 |nil =>
  intro done out M H L J T Y;rw[List.append_nil]at L;subst L;have I:decide ((l.length:Int)<(l.length:Int))=false:=by simp
  refine⟨M,H,?_,J⟩;rw[QL];simp only[go_sem,I,P6]
 |cons a r ih =>
  intro done out M H L J T Y;have hlen:l.length=done.length+(r.length+1):=by rw[L];simp
  have I:decide ((done.length:Int)<(l.length:Int))=true:=by simp;omega
  have aa:xP.wrap ((done.length:Int)+1)=((done.length+1:Nat):Int):=by rw[Zo (by omega) (by omega)];omega
  have Q:l[done.length]?=some a:=by rw[L,zH (zG _)];simp
  have hi:=SS.idx hx Q;have O:a.length<=1048576:=hL a (yS Q);have N:=SS.len J.sl 9;obtain⟨y1,H1,q1,q2⟩:=J.app (ZhC a) (by simp;omega)
  have w:∀ u F H',RS H' F u->Wc u->u.length<=done.length+1->∃ y j,W7 v F x (.int .i64 (l.length:Int)) (.int .i64 (done.length:Int)) U H'=some (y,j)/\RS j y (VJ g u r):=fun u F H' h1 h2 h3=>by
   obtain⟨y,j,C,E⟩:=ih (done++[a]) u F H' (by rw[L];simp) h1 h2 (by simpa using h3);rw[zR,yA]at C;exact⟨y,j,by simp only[P8,go_sem,aa,C],E⟩
  have B:Wc (out++[a]):=fun s hs=>by
   rcases zV.1 hs with h|h
   ·exact T s h
   ·rw[zO.1 h];exact O
  have V:∃ y H',VF v M x (.int .i64 (l.length:Int)) (.int .i64 (done.length:Int)) (.bool true) U H=some (y,H')/\RS H' y (VJ g out (a::r)):=by
   rw[P7];unfold VJ
   cases D:out.getLast? with
   |none =>
    have:out=[]:=List.getLast?_eq_none_iff.1 D;subst this;rw[show Jn g [] a=false from rfl];obtain⟨y,j,C,E⟩:=w _ _ _ q2 B (by simp);refine⟨y,j,?_,by simpa using E⟩;simp only[go_sem,hi,ZB,N,zI,show (((0:Nat):Int)==0)=true from rfl,Lh,q1,C]
   |some z =>
    have X:out≠[]:=fun e=>by subst e;simp at D
    have ac:0<out.length:=List.length_pos_iff.2 X;have S:out[out.length-1]?=some z:=by rw[<-List.getLast?_eq_getElem?];exact D
    have h0:((out.length:Int)==0)=false:=by rw[beq_eq_false_iff_ne];omega
    have ab:xP.wrap ((out.length:Int)-1)=((out.length-1:Nat):Int):=by rw[Zo (by omega) (by omega)];omega
    have W:=SS.idx J.sl S;have R:=hK.run v hv z a (T z (yS S)) O H;have Z:Jn g out a=(g z a==0):=by unfold Jn;rw[D]
    simp only[go_sem,hi,ZB,N,h0,ab,W,R,Z]
    cases hg:(g z a==0) with
    |true =>
     obtain⟨y,j,C,E⟩:=w _ _ _ J T (by omega);exact⟨y,j,by simp only[zS,go_sem,C],by simpa using E⟩
    |false =>
     obtain⟨y,j,C,E⟩:=w _ _ _ q2 B (by simp;omega);exact⟨y,j,by simp only[zN,go_sem,Lh,q1,C],by simpa using E⟩
  obtain⟨y,H',C,E⟩:=V;refine⟨y,H',?_,E⟩;rw[QL];simp only[go_sem,I,C]
theorem ZtD {K:AV->Prop}{g:Zi->Zi->Int}(hK:Fv K fun a b=>g a b==0){v:AV}(F:K v){x:AV}{l:List Zi}(I:SS x l)(C:Wc l)(D:l.length<=1048576)(H:Hp):∃ y,Zf U1 [x,v] H=some (y,H)/\SS y (VJ g [] l):=by
 obtain⟨Q,w,j⟩:=SS.closed I [] 0 7;obtain⟨v',z,B⟩:=hK.close v F;obtain⟨y,H',u,J⟩:=ZtE hK B j C D [] l [] [] .nils [] rfl (RowN.nil _ _ _) (fun s E=>by cases E) (zG _);rw[zI,show ((0:Nat):Int)=0 from rfl]at u;obtain⟨O,M,N⟩:=J.done H';refine⟨O,PY w z ?_ M,N⟩;have L:=SS.len j 9;rw[PE];unfold KG;simp only[go_sem,L,u]
def SpecCells (l:List AV)(p:Spec):Prop:=∃ x,l=p.cells x/\Sl 5 x (p.keys.map Ke.av)
theorem SpecCells.close {l:List AV}{p:Spec}(h:SpecCells l p)(H:Hp)(n f:Nat):∃ g,l.mapM (Zb H n (f+3))=some g/\SpecCells g p:=by
 obtain⟨x,rfl,y⟩:=h
 obtain⟨j,u,w⟩:=y.close (H:=H) (n:=n) (f:=f+2) (fun c hc=>by
  obtain⟨k,_,rfl⟩:=List.mem_map.1 hc;exact k.close H n f)
 refine⟨p.cells j,?_,j,rfl,w⟩;simp only[Spec.cells,xE,u,xH];rfl
def ClK (g:Nat)(L:Loc)(p:Spec)(v:AV):Prop:=∃ lc sc,v=.fn (.func g) [] [.vp lc,.vp sc]/\LocCells lc L/\SpecCells sc p
theorem ZpH (H:Hp)(n f:Nat)(g:Fn)(a b:AV):Zb H n (f+1) (.fn g [] [a,b])=match Zb H n f a,Zb H n f b with
 |some a',some b'=>some (.fn g [] [a',b'])
 |_,_=>none:=by
 show (match ([]:List AV).mapM (Zb H n f),[a,b].mapM (Zb H n f) with
  |some a,some b=>some (AV.fn g a b)
  |_,_=>none)=_
 simp only[xH,xE];cases Zb H n f a <;> cases Zb H n f b <;> rfl
theorem ClK.close {g:Nat}{L:Loc}{p:Spec}{v:AV}(h:ClK g L p v):∃ v',Zb [] 0 9 v=some v'/\ClK g L p v':=by
 obtain⟨lc,sc,rfl,w,y⟩:=h;obtain⟨j,z,B⟩:=w.close [] 0 4;obtain⟨u,C,D⟩:=y.close [] 0 4;refine⟨.fn (.func g) [] [.vp j,.vp u],?_,j,u,rfl,B,D⟩;rw[ZpH,UP,UP,z,C]
theorem Zud (L:Loc)(w:LocOk L)(p:Spec)(u:∀ k∈p.keys,KeOk k):Fv (ClK 55 L p) fun a b=>decide (0<Y3 L p a b) where
 close:=fun v y=>ClK.close y
 run:=fun v y a b B C H=>by
  obtain⟨lc,sc,rfl,E,I⟩:=y;rw[Zf9];obtain⟨O,M,N⟩:=E.close [] 0 5;obtain⟨S,Q,R⟩:=I.close [] 0 5;obtain⟨x,c,e,rfl,J,hc,D⟩:=N;obtain⟨xs,rfl,z⟩:=R;have g:Zb [] 0 9 (.vp lc)=some (.vp (L.cells x c e)):=by rw[UP,M]
  have j:Zb [] 0 9 (.vp sc)=some (.vp (p.cells xs)):=by rw[UP,Q]
  have F:=Zm5 (a:=.agg (L.cells x c e)) (L:=L) ⟨x,c,e,rfl,J,hc,D⟩ w (q:=.agg (p.cells xs)) (p:=p) ⟨xs,rfl,z⟩ u a b B C [];refine Zh8 (a':=.str a) (b':=.str b) rfl rfl g j (H1:=[]) ?_ rfl;rw[ZaA];unfold LA;simp only[go_sem,V7 6 (L.cells x c e) rfl,V7 5 (p.cells xs) rfl,F]
theorem Zue (L:Loc)(w:LocOk L)(p:Spec)(u:∀ k∈p.keys,KeOk k):Fv (ClK 58 L p) fun a b=>W6 L p a b==0 where
 close:=fun v y=>ClK.close y
 run:=fun v y a b B C H=>by
  obtain⟨lc,sc,rfl,E,I⟩:=y;rw[Zfa];obtain⟨O,M,N⟩:=E.close [] 0 5;obtain⟨S,Q,R⟩:=I.close [] 0 5;obtain⟨x,c,e,rfl,J,hc,D⟩:=N;obtain⟨xs,rfl,z⟩:=R;have g:Zb [] 0 9 (.vp lc)=some (.vp (L.cells x c e)):=by rw[UP,M]
  have j:Zb [] 0 9 (.vp sc)=some (.vp (p.cells xs)):=by rw[UP,Q]
  have F:=Zd1 (a:=.agg (L.cells x c e)) (L:=L) ⟨x,c,e,rfl,J,hc,D⟩ w (q:=.agg (p.cells xs)) (p:=p) ⟨xs,rfl,z⟩ u a b B C [];refine Zh8 (a':=.str a) (b':=.str b) rfl rfl g j (H1:=[]) ?_ rfl;rw[ZaB];unfold LB;simp only[go_sem,V7 6 (L.cells x c e) rfl,V7 5 (p.cells xs) rfl,F]
def ZT (L:Loc)(p:Spec)(l:List Zi):List Zi :=
 if (ZL p != 0)=true then l else if p.uniq then VJ (W6 L p) [] (TZ (Y3 L p) l) else TZ (Y3 L p) l
theorem Zju (L:Loc)(p:Spec)(l:List Zi):UY (Y3 L p) l.length l=TZ (Y3 L p) l:=Ztq (CS L p) l (zG _)
theorem CE (L:Loc)(p:Spec)(l:List Zi):(TZ (Y3 L p) l).length=l.length/\∀ s∈TZ (Y3 L p) l,s∈l:=by
 rw[<-Zju];exact HW _ _
theorem ZzH {f:List AV->Hp->Z4}{a a' b b' c c' v v':AV}{H H1:Hp}(g:Zb [] 0 9 a=some a')(j:Zb [] 0 9 b=some b')(u:Zb [] 0 9 c=some c')(hc:f [a',b',c'] []=some (v,H1))(w:Zb H1 0 9 v=some v'):Zf f [a,b,c] H=some (v',H) :=
 TR (args':=[a',b',c']) (by simp[g,j,u]) hc w
theorem Zug {a:AV}{L:Loc}(h:LocAV a L)(C:LocOk L){q:AV}{p:Spec}(hq:SpecAV q p)(u:∀ k∈p.keys,KeOk k){x:AV}{l:List Zi}(hx:SS x l)(R:Wc l)(U:l.length<=1048576)(H:Hp) :
 ∃ y,Zf G5 [a,q,x] H=some (y,H)/\SS y (ZT L p l):=by
 obtain⟨a1,Z,h2⟩:=h.close [] 0 5;obtain⟨q1,Y,Q⟩:=hq.close [] 0 5;obtain⟨W,k1,V⟩:=SS.closed hx [] 0 7;have g:=fun H=>MK Q H;obtain⟨lx,c,e,rfl,B,hc,T⟩:=h2;obtain⟨xp,rfl,D⟩:=Q
 suffices M:∃ y H1,G5 [.agg (L.cells lx c e),.agg (p.cells xp),W] []=some (y,H1)/\SS y (ZT L p l) by
  obtain⟨y,H1,r1,r2⟩:=M;obtain⟨y',r3,r4⟩:=SS.closed r2 H1 0 7;exact⟨y',ZzH Z Y k1 r1 r3,r4⟩
 have w:Z3 true 5 (.ptr 1 0) [zE (L.cells lx c e),.cells (p.cells xp)]=some (.agg (p.cells xp)):=by simp[Z3,Go.Am.apart,Spec.cells]
 rw[ZdU];unfold Aw ZT
 cases S:(ZL p != 0) with
 |true =>
  obtain⟨y,O,E⟩:=ML V U [zE (L.cells lx c e),.cells (p.cells xp)];refine⟨y,[zE (L.cells lx c e),.cells (p.cells xp)],?_,by rw[if_pos rfl];exact E⟩;simp only[go_sem,YD,yN,zI,zP,xB,zQ,w,g,S,O]
 |false =>
  have J:∀ (k:AV->Hp->Z4),WS (.ptr 0 0) [zE (L.cells lx c e),.cells (p.cells xp)] k=k (.vp (L.cells lx c e)) [.dead,.cells (p.cells xp)]:=fun k=>rfl;have j:∀ (k:AV->Hp->Z4),WS (.ptr 1 0) [xI,.cells (p.cells xp)] k=k (.vp (p.cells xp)) [.dead,.dead]:=fun k=>rfl;have F:ClK 55 L p (.fn (.func 55) [] [.vp (L.cells lx c e),.vp (p.cells xp)]):=⟨_,_,rfl,⟨lx,c,e,rfl,B,hc,T⟩,⟨xp,rfl,D⟩⟩;have I:ClK 58 L p (.fn (.func 58) [] [.vp (L.cells lx c e),.vp (p.cells xp)]):=⟨_,_,rfl,⟨lx,c,e,rfl,B,hc,T⟩,⟨xp,rfl,D⟩⟩;obtain⟨y,O,E⟩:=ZqI (Zud L C p u) l.length l W _ (zG _) U R V F [xI,.dead];rw[Zju]at E;obtain⟨f1,X⟩:=CE L p l;have N:Z6 3 (.vp (p.cells xp))=some (.vp [.bool p.uniq,.bool p.stab]):=rfl;simp only[go_sem,YD,yN,zI,zP,xB,zQ,w,g,S,Zdb,J,j,O,N,ZB,yH,if_false]
  cases hu:p.uniq with
  |true =>
   obtain⟨z,o1,o2⟩:=ZtD (Zue L C p u) I E (fun s M=>R s (X s M)) (by omega) [xI,.dead];exact⟨z,[.dead,.dead],by simp only[go_sem,o1,N6],by simpa using o2⟩
  |false=>exact⟨y,[.dead,.dead],by simp only[go_sem,N6],by simpa using E⟩
theorem ZAE:LocOk defL:=⟨by decide,by simp[defL],by simp[defL],by simp[defL],fun c hc=>(by cases hc),fun c hc=>(by cases hc),by simp[defL],by simp[defL]⟩
theorem ZjS (L:Loc)(p:Spec)(l:List Zi):(ZT L p l).length<=l.length:=by
 obtain⟨j,u⟩:=CE L p l;have:=ZjG (g:=W6 L p) (TZ (Y3 L p) l) [];unfold ZT;split
 ·exact zG _
 ·split
  ·simp at this;omega
  ·omega
def DA (s:List UInt8):Bool :=
 match s with
 |[]=>false
 |b::_=>decide (s.length<=16)&&!Pw b.toNat&&s.all fun c=>Wl c.toNat
theorem ZeT (w x7 u z:AV)(y H:Hp):BN w x7 u z y H =
 Z0 (Zz w u) fun j =>
 Z0 (L5 j u) fun g =>
 Zk g (some ((.bool false),H)) (BO w x7 u y H):=by
 rw[OS];simp only[L5,PN,Qb]
theorem ZmJ (s:List UInt8)(j:s.length<=4611686018427387904)(g H:Hp):BM (.str s) g H=some (.bool (!s.isEmpty&&decide (s.length<=16)),H):=by
 rw[OR]
 cases s with
 |nil=>simp[go_sem,Xe,Dr]
 |cons b l =>
  simp only[Xe,Dr,go_sem,Zl];have:(!((b::l)==([]:List UInt8)))=true:=rfl;have c:decide (((b::l).length:Int)<=16)=decide ((b::l).length<=16):=by rw[Bool.eq_iff_iff];simp;omega
  simp only[this,go_sem,c,yZ,zN,yI]
theorem Zrr (s:List UInt8)(z:s.length<=4611686018427387904)(w H:Hp):∀ (k i:Nat),s.length-i=k->0<i->i<=s.length ->
 Qx (.str s) (.int .i64 s.length) (.int .i64 i) w H=some (.bool (((s.drop i).all fun c=>Wl c.toNat)&&(!s.isEmpty&&decide (s.length<=16))),H):=by
 intro k
 induction k with
 |zero =>
  intro i hk h0 hi;rw[VN];have g:decide ((i:Int)<(s.length:Int))=false:=by simp;omega
  have y:s.drop i=[]:=List.drop_eq_nil_iff.2 (by omega);simp only[go_sem,g,ZmJ s z,y,List.all_nil,yI]
 |succ k B =>
  intro i hk h0 hi;rw[VN];have u:i<s.length:=by omega
  have g:decide ((i:Int)<(s.length:Int))=true:=by simp;omega
  have hw:xP.wrap ((i:Int)+1)=((i+1:Nat):Int):=by rw[Zo (by omega) (by omega)];omega
  have j:((i:Int)==0)=false:=by simp;omega
  simp only[go_sem,g,ZeT,Y9 (List.getElem?_eq_getElem u),Zhx _ j];rw[List.drop_eq_getElem_cons u,yU]
  cases C:Wl s[i].toNat with
  |false=>simp only[go_sem,zN,Bool.false_and]
  |true =>
   simp only[go_sem,zS,yI,RR,hw];exact B (i+1) (by omega) (by omega) (by omega)
theorem Zrs (s:List UInt8)(w:s.length<=4611686018427387904)(H:Hp):U2 [.str s] H=some (.bool (DA s),H):=by
 rw[ZaD];unfold LH;simp only[go_sem,Zl]
 cases s with
 |nil=>rw[VN];simp[go_sem,ZmJ [] (by simp),DA]
 |cons b l =>
  rw[VN];have u:decide ((0:Int)<((b::l).length:Int))=true:=by simp
  have hw:xP.wrap ((0:Int)+1)=((0+1:Nat):Int):=by decide
  have j:Zz (.str (b::l)) (.int .i64 0)=some (.int .u8 b.toNat):=by simp[Zz]
  simp only[go_sem,u,ZeT,j,ZeN]
  cases g:(!Wl b.toNat || Pw b.toNat) with
  |true =>
   have:DA (b::l)=false:=by
    unfold DA;simp only[Bool.or_eq_true,Bool.not_eq_true']at g;rcases g with g|g <;> simp[g]
   simp only[go_sem,this]
  |false =>
   simp only[Bool.or_eq_false_iff,Bool.not_eq_false']at g;simp only[go_sem,RR,hw];rw[Zrr (b::l) w H H l.length 1 (by simp) (by omega) (by simp)]
   have:DA (b::l)=(((b::l).drop 1).all (fun c=>Wl c.toNat)&&(!(b::l).isEmpty&&decide ((b::l).length<=16))):=by
    unfold DA;simp only[g.1,g.2,yU,List.drop_one,List.tail_cons,yZ,zN,yI,Bool.and_true];rw[Bool.and_comm]
   rw[this]
theorem ZjJ (s:Zn)(g:s.length<=1048576)(H:Hp):Zf U2 [.str s] H=some (.bool (DA s),H) :=
 XO (a':=.str s) rfl (H1:=[]) (Zrs s (by omega) []) rfl
theorem Zp1 {H:Hp}{t:Nat}{s:Sto}{S:List Nat}(h:StoreAt H t s S)(hk:StoOk s)(B:s.files=[])(u:Zn)(z:u.length<=1048576):QU FN [.ptr t 0,.str u] H=some (.nils,H):=by
 have w:=ZjJ u z H;have g:Yy (.pointer 82) .eql (.ptr t 0) .nilp=some (.bool false):=rfl;refine Zdf (H1:=H) (v:=.nils) ?_ (Keep.refl _ _) (zG _) rfl;rw[ZbC];unfold SN
 cases j:DA u with
 |false =>
  rw[j]at w;simp only[go_sem,g,w,zN]
 |true =>
  rw[j]at w;obtain⟨x,D,E⟩:=Zo4 h hk
  have C:Zl (.slice 108) x=some (.int .i64 0):=by
   have:=Sl.len E 108;rw[B]at this;exact this
  have y:decide ((0:Int)<0)=false:=rfl;simp only[go_sem,g,w,zS,Zbc,ZhH u z,D,C,Zbe,y,Zbd]
theorem ZmN {H:Hp}{t:Nat}{s:Sto}{S:List Nat}(h:StoreAt H t s S)(hk:StoOk s)(F:s.files=[])(g:Zn)(C:g.length<=1048576)(L:DA g=true)(lim:Int) :
 ∃ H' A',UI [.ptr t 0,.str g,.int .i64 lim] H=some (.tuple [.ptr (H.length+1) 0,.int .i64 0],H')/\SysAt H' (H.length+1) t ⟨g,[],[],(max 0 lim).toNat,0,false⟩ s A'/\Stp S H H'/\(∀ a∈A',a∈S\/H.length<=a):=by
 have u:Yy (.pointer 82) .eql (.ptr t 0) .nilp=some (.bool false):=rfl;have w:=ZjJ g C H;rw[L]at w;have B:decide ((0:Int)<0)=false:=rfl;have y:(Xj [(0,1,.ptr t 0),(1,1,.str g),(3,1,.map H.length)] [.nilp,(.str []),.nils,.nilm]).map AV.agg=some (.agg [.ptr t 0,.str g,.nils,.map H.length]):=rfl;have z:(Xj [(0,4,.agg [.ptr t 0,.str g,.nils,.map H.length]),(4,1,.int .i64 (max 0 lim))] [.nilp,(.str []),.nils,.nilm,(.int .i64 0),(.int .i64 0),(.bool false)]).map AV.agg=some (.agg [.ptr t 0,.str g,.nils,.map H.length,.int .i64 (max 0 lim),.int .i64 0,.bool false]):=rfl;have E:∀ l:List AV,ZN (.agg l) (H++[.map [] 0])=some (.ptr (H.length+1) 0,H++[.map [] 0]++[.cells l]):=fun l=>by rw[Fo rfl];simp[AV.cells]
 have D:Stp S H (H++[AObj.map [] 0]++[.cells [.ptr t 0,.str g,.nils,.map H.length,.int .i64 (max 0 lim),.int .i64 0,.bool false]]):=by rw[zT];exact Stp.push _ _
 have I:((max 0 lim).toNat:Int)=max 0 lim:=by omega
 refine⟨H++[.map [] 0]++[.cells [.ptr t 0,.str g,.nils,.map H.length,.int .i64 (max 0 lim),.int .i64 0,.bool false]],[H.length+1,H.length]++S,?_,⟨[H.length+1,H.length],S,⟨H.length,0,.nils,[],⟨?_,.inl ⟨rfl,rfl⟩,?_,rfl,by simp[ZG]⟩,rfl⟩,h.frame fun a j=>?_,fun a j J=>?_,rfl⟩,D,fun a j=>?_⟩
 ·rw[ZbD];unfold SO;simp only[go_sem,u,Zbf,w,zS,Zbg,Zp1 h hk F g C,Zbi,B,Zbh,y,z,E]
 ·simp[I]
 ·simp
 ·rw[zT,zA (h.lt a j)]
 ·have:=h.lt a J;simp at j;omega
 ·simp at j;rcases j with e|e|j
  ·exact .inr (by omega)
  ·exact .inr (by omega)
  ·exact .inl j
theorem Zj5 (o:Nat)(n:Zn)(H:Hp):Po [.ptr o 0,.str n] H=some (.ptr H.length 0,H++[.cells (VS o n 0 false false [])]):=by
 have g:Yy (.pointer 124) .eql (.ptr o 0) .nilp=some (.bool false):=rfl;have hf:(Xj [(0,1,.ptr o 0),(1,1,.str n)] [.nilp,(.str []),(.int .i64 0),(.bool false),(.bool false),(.str [])]).map AV.agg=some (.agg (VS o n 0 false false [])):=rfl;rw[Zii];unfold Zew;simp only[go_sem,g,ZhN,hf,YD]
theorem Zd3 {H:Hp}{i:Nat}{L:Loc}{x c e:AV}(h:H[i]?=some (.cells (L.cells x c e))):Z3 true 6 (.ptr i 0) H=some (.agg (L.cells x c e)):=by
 rw[YZ h];simp[Go.Am.apart,Loc.cells]
theorem Gd {H:Hp}{i:Nat}{p:Spec}{x:AV}(h:H[i]?=some (.cells (p.cells x))):Z3 true 5 (.ptr i 0) H=some (.agg (p.cells x)):=by
 rw[YZ h];simp[Go.Am.apart,Spec.cells]
theorem SysRes.trans {H H1 w:Hp}{o t:Nat}{tm1 g:Tmp}{z y:Sto}{A A1 A2:List Nat}(h:SysRes H H1 o t tm1 z A A1)(k:SysRes H1 w o t g y A1 A2):SysRes H w o t g y A A2 :=
 ⟨k.at',h.stp.trans k.stp (fun _ h=>h) fun a j=>h.own a j,fun a j=>by
  rcases k.own a j with u|u
  ·exact h.own a u
  ·exact .inr (yY h.stp.len u)⟩
theorem SysRes.pre {H H1 w:Hp}{o t:Nat}{g:Tmp}{y:Sto}{A A2:List Nat}(h:Stp A H H1)(k:SysRes H1 w o t g y A A2):SysRes H w o t g y A A2 :=
 ⟨k.at',h.trans k.stp (fun _ h=>h) fun a j=>.inl j,fun a j=>by
  rcases k.own a j with u|u
  ·exact .inl u
  ·exact .inr (yY h.len u)⟩
theorem ZrD {H:Hp}{o t:Nat}{tm tm1 M:Tmp}{s Z s2 s3:Sto}{A:List Nat}{n:Zn}(h:SysAt H o t tm s A)(hm:TmpOk tm)(hk:StoOk s)(V:tm.last<1000000){a q x:AV}{L:Loc}{p:Spec}{l:List Zi}(B:LocAV a L)(W:LocOk L)(hq:SpecAV q p)(U:∀ k∈p.keys,KeOk k)(hx:SS x l)(hL:Wc l)(hl:l.length<=1048576)
 (j:Y1 (ZT L p l)<=1048576) (Q:Wc (ZT L p l))
 (hN:RT tm s=((n,0),(tm1,Z))) (E:TmpOk tm1) (S:StoOk Z) (hW:GA tm1 Z n (ZT L p l)=(0,s2)) (T:StoOk s2) (hS:RU tm1 s2 n=(0,(M,s3))) :
 ∃ H' A',Lt [.ptr o 0,a,q,x] H=some (.tuple [.str n,.int .i64 0],H')/\SysRes H H' o t M s3 A A':=by
 have R:=B;have X:=hq;obtain⟨lx,lc,le,rfl,ad,ab,ac⟩:=B;obtain⟨xp,rfl,ae⟩:=hq;have I:Yy (.pointer 124) .eql (.ptr o 0) .nilp=some (.bool false):=rfl;have w:=h.lt;have g1:(H++[zE (L.cells lx lc le),.cells (p.cells xp)])[H.length]?=some (.cells (L.cells lx lc le)):=by simp
 have g2:(H++[zE (L.cells lx lc le),.cells (p.cells xp)])[H.length+1]?=some (.cells (p.cells xp)):=by simp
 have z:Stp A H (H++[zE (L.cells lx lc le),.cells (p.cells xp)]):=Stp.push _ _;have u:(H++[zE (L.cells lx lc le),.cells (p.cells xp)]).length=H.length+2:=by simp
 have g:SysAt (H++[zE (L.cells lx lc le),.cells (p.cells xp)]) o t tm s A:=h.stp (C:=[]) (Stp.push _ _) (fun a B=>by simp);have D:ZN (.agg (p.cells xp)) (H++[zE (L.cells lx lc le)])=some (.ptr (H.length+1) 0,H++[zE (L.cells lx lc le),.cells (p.cells xp)]):=by rw[YD];simp
 generalize aa:H++[zE (L.cells lx lc le),.cells (p.cells xp)]=H0 at g1 g2 z g D u;obtain⟨H1,A1,p1,J⟩:=ZkI g hm hk V;rw[hN]at p1 J;have F:∀ i,H.length<=i->i∉A:=fun i hi B=>by have:=w i B;omega
 have N:=J.stp.get g1 (F _ (zG _));have O:=J.stp.get g2 (F _ (by omega));obtain⟨y,q1,q2⟩:=Zug R W X U hx hL hl H1;obtain⟨H2,A2,r1,Y⟩:=Zj6 J.at' E S n q2 Q j;rw[hW]at r1 Y;obtain⟨H3,A3,t1,t2⟩:=ZkH Y.at' E T n;rw[hS]at t1 t2;refine⟨H3,A3,?_,SysRes.pre z ((J.trans Y).trans t2)⟩;have e0:((0:Int) != 0)=false:=rfl;rw[Zga];unfold Zbw;simp only[YD,go_sem,D,I,ZfO,p1,zJ,zK,e0,ZfP,Zd3 N,Gd O,q1,r1,ZfQ,t1,ZfR]
section
variable {α:Type}(c:α->Int)(mem:Int)
structure Ck (α:Type) where
 done:List (List α)
 cur:List α
 cost:Int
def JC (s:Ck α)(x:α):Ck α :=
 if s.cur≠[]/\mem<s.cost+c x then ⟨s.done++[s.cur],[x],c x⟩ else ⟨s.done,s.cur++[x],s.cost+c x⟩
def ZZ (l:List α):Ck α:=l.foldl (JC c mem) ⟨[],[],0⟩
def UO (s:Ck α):List (List α):=if s.cur=[] then s.done else s.done++[s.cur]
def Xs (l:List α):Int:=l.foldl (fun n x=>n+c x) 0
theorem Zce (l:List α)(x:α):Xs c (l++[x])=Xs c l+c x:=by simp[Xs]
structure CkOk (l:List α)(s:Ck α):Prop where
 flat:s.done.flatten++s.cur=l
 cost:s.cost=Xs c s.cur
 emp:s.cur=[]->s.done=[]
 ne:∀ k∈s.done,k≠[]
 fit:∀ k∈s.done++[s.cur],1<k.length->Xs c k<=mem
 next:∀ (i:Nat) (a b:List α) (x:α),(s.done++[s.cur])[i]?=some a->(s.done++[s.cur])[i+1]?=some b->b.head?=some x->mem<Xs c a+c x
theorem Zvt:CkOk c mem ([]:List α) ⟨[],[],0⟩:=by
 refine⟨rfl,rfl,fun _=>rfl,by simp,by simp,fun i a b x j g u=>?_⟩;simp at g
theorem Zyn {l:List α}{s:Ck α}(h:CkOk c mem l s)(x:α):CkOk c mem (l++[x]) (JC c mem s x):=by
 unfold JC;split
 ·rename_i hc;obtain⟨F,I⟩:=hc;refine⟨by simp[<-h.flat],by simp[Xs],fun e=>(by simp at e),fun k hk=>?_,fun k hk B=>?_,fun i a b y j g w=>?_⟩
  ·rcases zV.1 hk with hk|hk
   ·exact h.ne k hk
   ·rw[zO.1 hk];exact F
  ·rcases zV.1 hk with hk|hk
   ·exact h.fit k hk B
   ·rw[zO.1 hk]at B;simp at B
  ·dsimp only at j g;have hlen:(s.done++[s.cur]).length=s.done.length+1:=by simp
   by_cases hi:i+1<(s.done++[s.cur]).length
   ·rw[zA (by omega)]at j;rw[zA hi]at g;exact h.next i a b y j g w
   ·have C:=(zD.1 g).1;simp only[zR,yA]at C hi;have D:i=s.done.length:=by omega
    subst D;rw[zA (by simp),zH (zG _)]at j;rw[zH (by simp)]at g;simp at j g;subst j g;simp at w;subst w;rw[<-h.cost];exact I
 ·rename_i hc;refine⟨by rw[<-zT,h.flat],by rw[Zce,h.cost],fun e=>(by simp at e),h.ne,fun k hk B=>?_,fun i a b y j g w=>?_⟩
  ·rcases zV.1 hk with hk|hk
   ·exact h.fit k (List.mem_append_left _ hk) B
   ·rw[zO.1 hk]at B ⊢;have E:s.cur≠[]:=fun e=>by rw[e]at B;simp at B
    rw[Zce,<-h.cost];simp only[ne_eq,E,not_false_eq_true,true_and]at hc;omega
  ·dsimp only at j g;by_cases hi:i+1<s.done.length
   ·rw[zA (by omega)]at j;rw[zA hi]at g;exact h.next i a b y (by rw[zA (by omega)];exact j) (by rw[zA hi];exact g) w
   ·have C:=(zD.1 g).1;simp only[zR,yA]at C hi;have D:i+1=s.done.length:=by omega
    rw[zA (by omega)]at j;rw[D,zH (zG _)]at g;simp at g;subst g
    cases u:s.cur with
    |nil =>
     have:=h.emp u;rw[this]at D;simp at D
    |cons z t =>
     rw[u]at w;simp at w;subst w;exact h.next i a s.cur z (by rw[zA (by omega)];exact j) (by rw[D,zH (zG _)];simp) (by rw[u];rfl)
theorem ZgN (l:List α):CkOk c mem l (ZZ c mem l):=by
 have:∀ (r d:List α) (s:Ck α),CkOk c mem d s->CkOk c mem (d++r) (r.foldl (JC c mem) s):=by
  intro r
  induction r with
  |nil=>intro d s h;simpa using h
  |cons x r g =>
   intro d s h;have:=g (d++[x]) _ (Zyn c mem h x);simpa using this
 have h:=this l [] _ (Zvt c mem);simpa[ZZ]using h
theorem IR (l:List α)(x:α):ZZ c mem (l++[x])=JC c mem (ZZ c mem l) x:=by simp[ZZ]
theorem Zsd (s:Ck α)(x:α):(JC c mem s x).cur≠[]:=by unfold JC;split <;> simp
theorem Zse {l:List α}(h:l≠[]):(ZZ c mem l).cur≠[]:=by
 obtain⟨x,g,rfl⟩:∃ x g,l=g++[x]:=⟨l.getLast h,l.dropLast,(List.dropLast_concat_getLast h).symm⟩;rw[IR];exact Zsd c mem _ x
end
def Ry (w i q:Nat):List Nat:=xL (q*w) (min w (i-q*w))
def YN (w i:Nat):Nat:=(i+w-1) / w
def Vr (w i:Nat):List (List Nat):=(xO (YN w i)).map (Ry w i)
theorem Zl8 {w:Nat}(hw:0<w):YN w 0=0:=by unfold YN;exact yB (by omega)
theorem Zyq {w i:Nat}(hw:0<w)(h:i % w=0):YN w i=i / w/\YN w (i+1)=i / w+1:=by
 obtain⟨q,rfl⟩:∃ q,i=w*q:=⟨i / w,by have:=zW i w;omega⟩;unfold YN;constructor
 ·rw[yL q hw,show w*q+w-1=w*q+(w-1) by omega,yG hw];rw[yB (by omega)];omega
 ·rw[yL q hw,show w*q+1+w-1=w*q+w by omega,yG hw,Nat.div_self hw]
theorem Zyr {w i:Nat}(hw:0<w)(h:i % w≠0):YN w i=i / w+1/\YN w (i+1)=i / w+1:=by
 have g:=zW i w;have j:=xD i hw;generalize i / w=q at g ⊢;generalize i % w=r at g j h;subst g;unfold YN;constructor
 ·rw[show w*q+r+w-1=w*q+(w+(r-1)) by omega,yG hw,xC _ hw,yB (by omega)]
 ·rw[show w*q+r+1+w-1=w*q+(w+r) by omega,yG hw,xC _ hw,yB (by omega)]
theorem Oi {w i q:Nat}(h:(q+1)*w<=i):Ry w i q=xL (q*w) w:=by
 unfold Ry;rw[xM,xN]at h;rw[Nat.min_eq_left (by omega)]
theorem ZwQ {w i:Nat}(hw:0<w)(h:i % w=0):Vr w (i+1)=Vr w i++[[i]]:=by
 obtain⟨u,y⟩:=Zyq hw h;have g:=zW i w;rw[h,Nat.add_zero]at g;unfold Vr;rw[u,y,yO,yP];congr 1
 ·refine yV fun q j=>?_;have j:=xF.1 j;have:(q+1)*w<=i:=by rw[<-g,zY w];exact yT _ j
  rw[Oi this,Oi (by omega)]
 ·simp only[xJ,xK,Ry];rw[zY,g,Nat.add_sub_cancel_left,yJ (by omega)];rfl
theorem ZwR {w i:Nat}(hw:0<w)(h:i % w≠0):∃ A g,Vr w i=A++[g]/\Vr w (i+1)=A++[g++[i]]/\g.length<w:=by
 obtain⟨u,y⟩:=Zyr hw h;have z:=zW i w;have B:=xD i hw;refine⟨(xO (i / w)).map (Ry w i),Ry w i (i / w),?_,?_,?_⟩
 ·unfold Vr;rw[u,yO,yP];rfl
 ·unfold Vr;rw[y,yO,yP];congr 1
  ·refine yV fun q j=>?_;have j:=xF.1 j
   have:(q+1)*w<=i:=by
    have:(q+1)*w<=w*(i / w):=by rw[zY w];exact yT _ j
    omega
   rw[Oi this,Oi (by omega)]
  ·simp only[xJ,xK,Ry];have e:i / w*w=w*(i / w):=zY _ _;rw[e,yJ (by omega),yJ (by omega),show i+1-w*(i / w)=(i-w*(i / w))+1 by omega,List.range'_concat];congr 3;omega
 ·unfold Ry;rw[yX];have e:i / w*w=w*(i / w):=zY _ _;omega
theorem ZfG (w i:Nat):(Vr w i).length=YN w i:=by simp[Vr]
theorem ZwP {w i q:Nat}(h:q<YN w i):(Vr w i)[q]?=some (Ry w i q):=by simp[Vr,h]
theorem ZyI {w i q k:Nat}(h:k<(Ry w i q).length):(Ry w i q)[k]?=some (q*w+k):=by
 unfold Ry at h ⊢;rw[yX]at h;rw[List.getElem?_range' h];simp
theorem Zcc {w i q:Nat}(hw:0<w)(h:q<YN w i):q*w<i:=by
 unfold YN at h;have g:(q+1)*w<=i+w-1:=(Nat.le_div_iff_mul_le hw).1 h;rw[xM,xN]at g;omega
theorem Zfh {w i:Nat}(hw:0<w):i<=YN w i*w:=by
 unfold YN;have h:=zW (i+w-1) w;have:=xD (i+w-1) hw;rw[zY];omega
theorem ZyJ {w i q:Nat}:(Ry w i q).length=min w (i-q*w):=by simp[Ry]
end Go.Am
