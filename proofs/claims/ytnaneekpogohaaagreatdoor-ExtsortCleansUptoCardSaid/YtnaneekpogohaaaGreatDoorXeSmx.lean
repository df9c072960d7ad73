/- Temporary files in the machine -/
import Derived.Test.YtnaneekpogohaaaGreatDoorXeQbx
import Derived.Test.YtnaneekpogohaaaGreatDoorXeGXx
import Derived.Test.YtnaneekpogohaaaGreatDoorXeEx
import Derived.Test.YtnaneekpogohaaaGreatDoorXeMzx
import Derived.Test.YtnaneekpogohaaaGreatDoorHmXx
open Go.Am.AV renaming int->xP
open Go.IntKind renaming i64->J
open Go.IntKind renaming i64->xO
open List renaming getElem?_append_left->zA,filter_cons->zB,pairwise_cons->zC,getElem?_eq_some_iff->zD,mem_cons->zE,getElem?_append_right->zF,length_nil->zG,length_take->zI,length_cons->zJ,length_append->zK,mem_singleton->zL,length_drop->zM,mem_append->zN,filter_append->zP,getElem?_cons_zero->zQ,getElem?_cons_succ->zR,take_append_drop->zT,length_singleton->zU,getElem?_of_mem->zW,mem_of_mem_take->zX,mem_of_mem_drop->zY,mem_filter->zZ,append_assoc->yE,length_eq_zero_iff->yH,filter_eq_nil_iff->yJ,nil_append->yK,range_succ->yL,map_append->yM,pairwise_append->yO,mem_of_getElem?->yP,all_cons->yR,map_congr_left->yT,getElem?_drop->yU,length_range'->yV,isEmpty_cons->yX,cons_append->yZ,mapM_cons->xC,mem_range->xD,mapM_nil->xG,map_cons->xI,map_nil->xJ,range'->xK,range->xN
open Nat renaming le_refl->zH,div_add_mod->zO,mul_comm->zS,div_eq_of_lt->zV,mul_add_div->yA,zero_add->yB,min_eq_right->yG,mul_div_cancel_left->yI,mul_le_mul_right->yQ,le_trans->yW,le_add_right->yY,add_div_left->xA,mod_lt->xB,add_mul->xL,one_mul->xM
open Bool renaming not_false->yC,false_eq_true->yD,true_and->yF,or_assoc->xE,not_true->xF
open Int renaming le_refl->yN
open Go.Am.AObj renaming cells->yS,dead->xH
namespace Go.Am
set_option linter.unusedSectionVars false
set_option maxRecDepth 100000
theorem SysAt.same {H H':Hp}{o t:Nat}{tm:Tmp}{s':Sto}{B S:List Nat}(j:TmpAt H o t tm B)(g:∀ a∈B,a∉S)(hr:StoRes H H' t s' S S):SysAt H' o t tm s' (B++S) :=
 ⟨B,S,j.stp hr.stp g,hr.at',g,rfl⟩
section
variable {H:Hp}{o t:Nat}{tm:Tmp}{s:Sto}{A:List Nat}(h:SysAt H o t tm s A)(hm:TmpOk tm)(hk:StoOk s)(n:Zm)
include h hm hk
theorem ZmC (hf:YG tm n=0)(hc:s.tick.crashed=true)(i:Int)(hi:-9223372036854775808<=i/\i<=9223372036854775807) :
 ∃ H',Vp [.ptr o 0,.str n,xP J i] H=some (.tuple [.str [],xP J 0,xP J 19],H')/\SysAt H' o t tm s.tick A/\Stp A H H':=by
 obtain⟨B,S,g,D,E,rfl⟩:=h;have F:=g;obtain⟨N,z,O,sl,g,rfl⟩:=g;have j:=Ek g hm n;have M:=ZS g.cells 0 (v:=.ptr t 0) rfl;have e0:(YG tm n != 0)=false:=by rw[hf];rfl
 have C:((19:Int) != 0)=true:=rfl;obtain⟨H1,w,y⟩:=Zkx D hk n i 4102 hi;have u:s.read n i 4102=([],19):=by unfold Sto.read;rw[if_pos hc]
 rw[u]at w;refine⟨H1,?_,SysAt.same F E y,y.stp.mono fun a L=>by simp[L]⟩;rw[Gg];unfold QW;simp only[j,go_sem,e0,yB,VX,M,w,zQ,zR,C]
theorem ZiZ (hf:YG tm n=0)(hc:s.tick.crashed=false){f:Fil}(hg:ZQ s.files n=some f){p:Zm}{rest:List Zm}(D:f.text=p++ZY rest)(hfit:YR rest=true)(hlen:f.text.length<=262144) :
 ∃ H',Vp [.ptr o 0,.str n,xP J (p.length:Int)] H=some (match rest with
  |[]=>.tuple [.str [],xP J 0,xP J 5]
  |l::_=>.tuple [.str l,xP J ((p++X0 l).length:Int),xP J 0],H')/\SysAt H' o t tm s.tick A/\Stp A H H':=by
 obtain⟨B,S,j,O,Q,rfl⟩:=h;have R:=j;obtain⟨X,N,Y,sl,j,rfl⟩:=j;have u:=Ek j hm n;have L:=ZS j.cells 0 (v:=.ptr t 0) rfl;have e0:(YG tm n != 0)=false:=by rw[hf];rfl
 have F:((0:Int) != 0)=false:=rfl;have W:p.length<=f.text.length:=by rw[D];simp
 obtain⟨H1,E,M⟩:=Zkx O hk n (p.length:Int) 4102 (by omega)
 have z:s.read n (p.length:Int) 4102=((ZY rest).take 4102,0):=by
  unfold Sto.read;rw[if_neg (by simp[hc]),hg];dsimp only;rw[if_neg (by omega),Int.toNat_natCast,D,List.drop_append_of_le_length (zH _),List.drop_length];rfl
 rw[z]at E;refine⟨H1,?_,SysAt.same R Q M,M.stp.mono fun a T=>by simp[T]⟩;rw[Gg];unfold QW
 cases rest with
 |nil =>
  have g:((ZY ([]:List Zm)).take 4102==([]:Zm))=true:=rfl;simp only[u,go_sem,e0,yB,VX,L,E,zQ,zR,F,G4,g]
 |cons l r =>
  have V:l.length<=4096:=by
   simp only[YR,yR,Bool.and_eq_true,decide_eq_true_eq]at hfit;exact hfit.1
  have y:(ZY (l::r)).take 4102=X0 l++(ZY r).take (4102-(X0 l).length):=by
   show (X0 l++ZY r).take 4102=_;rw[List.take_append,List.take_of_length_le (by rw[Gx];omega)]
  have g:((ZY (l::r)).take 4102==([]:Zm))=false:=by
   rw[y];have:(X0 l).length≠0:=by rw[Gx];omega
   cases hr:X0 l with
   |nil=>rw[hr]at this;simp at this
   |cons a b=>rfl
  have w:=Zsq l ((ZY r).take (4102-(X0 l).length)) V (by
   rw[zI];omega) H1
  rw[<-y]at w
  have U:(ZY (l::r)).length<=262144:=by
   have:=congrArg List.length D;rw[zK]at this;omega
  have C:(X0 l).length=l.length+6:=Gx l
  have hw:xO.wrap ((p.length:Int)+((l.length+6:Nat):Int))=((p++X0 l).length:Int):=by
   rw[zK,C,Zr (by omega) (by omega)];omega
  simp only[u,go_sem,e0,yB,VX,L,E,zQ,zR,F,G4,g,Lk,w,Ll,hw]
end
abbrev Qx (o:Nat)(n:Zm)(i:Nat)(g u:Bool)(j:Zm):List AV:=[.ptr o 0,.str n,xP J (i:Int),.bool g,.bool u,.str j]
def Rdr (H:Hp)(r o:Nat)(n text:Zm)(rest:List Zm):Prop :=
 (∃ l q p,H[r]?=some (.cells (Qx o n (p++X0 l).length true false l))/\rest=l::q/\text=p++X0 l++ZY q) \/
 (rest=[]/\∃ p,H[r]?=some (.cells (Qx o n p false true []))) \/
 ∃ p,H[r]?=some (.cells (Qx o n p.length false false []))/\text=p++ZY rest
theorem Rdr.cells {H:Hp}{r o:Nat}{n text:Zm}{rest:List Zm}(h:Rdr H r o n text rest):∃ c,H[r]?=some (.cells c):=by
 rcases h with ⟨l,q,p,h,_⟩|⟨_,p,h⟩|⟨p,h,_⟩ <;> exact⟨_,h⟩
theorem Rdr.frame {H H':Hp}{r o:Nat}{n text:Zm}{rest:List Zm}(h:Rdr H r o n text rest)(hf:H'[r]?=H[r]?):Rdr H' r o n text rest:=by
 unfold Rdr at h ⊢;rw[hf];exact h
section
variable {H:Hp}{o t:Nat}{tm:Tmp}{s:Sto}{A:List Nat}(h:SysAt H o t tm s A)(hm:TmpOk tm)(hk:StoOk s){n:Zm}{r:Nat}{f:Fil}{rest:List Zm}
 (hr:Rdr H r o n f.text rest) (hrA:r∉A) (hf:YG tm n=0) (hc:s.crashed=false) (h0:s.count=0) (hg:ZQ s.files n=some f) (hfit:YR rest=true) (hlen:f.text.length<=262144)
include h hm hk hr hrA hf hc h0 hg hfit hlen
end
structure Cm {α:Type}(f:α->α->Int):Prop where
 one:∀ a b,f a b=-1\/f a b=0\/f a b=1
 sym:∀ a b,f b a=-f a b
 tr:∀ a b c,f a b<=0->f b c<=0->f a c<=0/\(f a c<0↔f a b<0\/f b c<0)
theorem Cm.of {α:Type}{f g:α->α->Int}(h:Cm f)(e:∀ a b,g a b=f a b):Cm g:=by
 have:g=f:=funext fun a=>funext fun b=>e a b;rw[this];exact h
theorem Cm.comap {α β:Type}{f:β->β->Int}(h:Cm f)(g:α->β):Cm fun a b=>f (g a) (g b) :=
 ⟨fun a b=>h.one _ _,fun a b=>h.sym _ _,fun a b c=>h.tr _ _ _⟩
theorem Cm.tr2 {α:Type}{f:α->α->Int}(h:Cm f)(a b c:α)(w:0<=f a b)(y:0<=f b c):0<=f a c/\(0<f a c↔0<f a b\/0<f b c):=by
 have g:=h.sym a b;have j:=h.sym b c;have u:=h.sym a c;have:=h.tr c b a (by omega) (by omega);omega
theorem Cm.self {α:Type}{f:α->α->Int}(h:Cm f)(a:α):f a a=0:=by
 have:=h.sym a a;omega
theorem Cm.neg {α:Type}{f:α->α->Int}(h:Cm f):Cm fun a b=>-f a b:=by
 refine⟨fun a b=>?_,fun a b=>?_,fun a b c g j=>?_⟩
 ·have:=h.one a b;show -f a b=_\/-f a b=_\/-f a b=_;omega
 ·have:=h.sym a b;show -f b a=- -f a b;omega
 ·have:=h.tr2 a b c (by omega) (by omega);show -f a c<=0/\(-f a c<0↔-f a b<0\/-f b c<0);omega
theorem Cm.lex {α:Type}{f g:α->α->Int}(h:Cm f)(k:Cm g):Cm fun a b=>if (f a b != 0)=true then f a b else g a b:=by
 have e:∀ a b,(if (f a b != 0)=true then f a b else g a b)=if f a b=0 then g a b else f a b:=fun a b=>by
  by_cases h0:f a b=0 <;> simp[h0]
 refine Cm.of (f:=fun a b=>if f a b=0 then g a b else f a b) ⟨fun a b=>?_,fun a b=>?_,fun a b c=>?_⟩ e
 ·show (if f a b=0 then g a b else f a b)=-1\/_\/_;have j:=h.one a b;have u:=k.one a b;split <;> assumption
 ·show (if f b a=0 then g b a else f b a)=-(if f a b=0 then g a b else f a b);have j:=h.sym a b;have u:=k.sym a b;split <;> split <;> omega
 ·show (if f a b=0 then g a b else f a b)<=0->(if f b c=0 then g b c else f b c)<=0->(if f a c=0 then g a c else f a c)<=0/\((if f a c=0 then g a c else f a c)<0↔(if f a b=0 then g a b else f a b)<0\/(if f b c=0 then g b c else f b c)<0);have j:=h.tr a b c;have u:=k.tr a b c;intro w y;by_cases z:f a b=0 <;> by_cases B:f b c=0 <;> by_cases z3:f a c=0 <;> simp only[z,B,z3,if_true,if_false]at w y ⊢ <;> omega
theorem sgnS_cm:Cm HS:=by
 refine⟨Zme,fun a b=>?_,fun a b c=>?_⟩
 ·unfold HS;split <;> split <;> (try split) <;> (try split) <;> omega
 ·unfold HS;intro B C;by_cases g:a<b <;> by_cases j:b<a <;> by_cases u:b<c <;> by_cases w:c<b <;> by_cases y:a<c <;> by_cases z:c<a <;> simp only[g,j,u,w,y,z,if_true,if_false]at B C ⊢ <;> omega
theorem ordS_cm:Cm VU:=by
 refine⟨ZfP,?_,?_⟩
 ·intro a
  induction a with
  |nil=>intro b;cases b <;> simp[VU]
  |cons x a g =>
   intro b
   cases b with
   |nil=>simp[VU]
   |cons y b =>
    rw[Jh,Jh];have:=g b;split <;> split <;> (try split) <;> (try split) <;> omega
 ·intro a
  induction a with
  |nil=>intro b c;cases b <;> cases c <;> simp[VU]
  |cons x a g =>
   intro b c
   cases b with
   |nil=>cases c <;> simp[VU]
   |cons y b =>
    cases c with
    |nil=>simp[VU]
    |cons z c =>
     rw[Jh,Jh,Jh];have:=g b c;intro E F;by_cases j:x<y <;> by_cases u:y<x <;> by_cases w:y<z <;> by_cases B:z<y <;> by_cases C:x<z <;> by_cases D:z<x <;> simp only[j,u,w,B,C,D,if_true,if_false]at E F ⊢ <;> omega
theorem Zwk:Cm Jt:=(ordS_cm.comap ZyB).of fun a b=>(ZkY a b).symm
theorem Zis (L:Loc):Cm (BU L):=(ordS_cm.comap (wS (Ye L))).lex Zwk
theorem ZjC (L:Loc)(n:Nat):Cm (No L n):=by
 cases g:n.testBit 0 with
 |true=>exact (sgnS_cm.comap Zqa).of fun a b=>by simp[No,g]
 |false=>exact ((Zis L).comap (Qh L n)).of fun a b=>by simp[No,g]
theorem ZjD (L:Loc)(n:Nat):Cm (Qf L n):=by
 cases g:n.testBit 1 with
 |true=>exact (ZjC L n).neg.of fun a b=>by simp[Qf,g]
 |false=>exact (ZjC L n).of fun a b=>by simp[Qf,g]
theorem Zwl (L:Loc)(p:Spec):∀ l:List Ke,Cm fun a b=>II L p a b l:=by
 intro l
 induction l with
 |nil=>exact⟨fun _ _=>.inr (.inl rfl),fun _ _=>rfl,fun _ _ _ _ _=>⟨yN _,by simp[II]⟩⟩
 |cons k l g=>exact (((ZjD L (El p k)).comap fun a=>ex a (fields a p.sep) k).lex g).of fun a b=>Zj6 L p a b k l
theorem ZuS (L:Loc)(p:Spec):Cm (Zhn L p):=by
 cases g:(p.keys.length==0) with
 |true=>exact (ZjD L p.flags.toNat).of fun a b=>by simp only[Zhn,g,if_true]
 |false=>exact (Zwl L p p.keys).of fun a b=>by simp only[Zhn,g,yD,if_false]
theorem ZlH (L:Loc)(p:Spec):Cm (Wg L p):=ZuS L (Zy p)
theorem ZkT (p:Spec):ZJ (Zy p)=0:=by
 unfold Zy
 cases g:(ZJ p != 0) with
 |true=>rfl
 |false=>simpa using g
theorem ZnR (p:Spec):Zy (Zy p)=Zy p:=by
 show (if (ZJ (Zy p) != 0)=true then plainP else Zy p)=Zy p;rw[ZkT];rfl
theorem ZeS (L:Loc)(p:Spec)(a b:List UInt8):Wg L (Zy p) a b=Wg L p a b:=by unfold Wg;rw[ZnR]
def Zhk (L:Loc)(p:Spec)(a b:List UInt8):Int:=if (Zy p).flags.toNat.testBit 1 then -BU L a b else BU L a b
theorem ZuO (L:Loc)(p:Spec):Cm (Zhk L p):=by
 cases g:(Zy p).flags.toNat.testBit 1 with
 |true=>exact (Zis L).neg.of fun a b=>by simp[Zhk,g]
 |false=>exact (Zis L).of fun a b=>by simp[Zhk,g]
theorem HQ {L:Loc}{p:Spec}(h:((Zy p).stab || (Zy p).uniq)=true)(a b:List UInt8):Y0 L p a b=Wg L p a b:=by
 unfold Y0;rw[ZeS,xE,h,Bool.or_true,if_pos rfl]
theorem ZnD {L:Loc}{p:Spec}(h:((Zy p).stab || (Zy p).uniq)=false)(a b:List UInt8):Y0 L p a b=if (Wg L p a b != 0)=true then Wg L p a b else Zhk L p a b:=by
 unfold Y0 Zhk;rw[ZeS,xE,h,Bool.or_false]
theorem CJ (L:Loc)(p:Spec):Cm (Y0 L p):=by
 cases g:((Zy p).stab || (Zy p).uniq) with
 |true=>exact (ZlH L p).of (HQ g)
 |false=>exact ((ZlH L p).lex (ZuO L p)).of (ZnD g)
section
variable {α:Type}{f:α->α->Int}
def FG (f:α->α->Int)(l:List α):Prop:=l.Pairwise fun a b=>f a b<=0
def YO (f:α->α->Int)(x y:α):Bool:=f x y==0
def mergeL (f:α->α->Int):List α->List α->List α
 |[],b=>b
 |a::l,[]=>a::l
 |a::l,b::m=>if 0<f a b then b::mergeL f (a::l) m else a::mergeL f l (b::m)
termination_by a b=>a.length+b.length
theorem GQ (b:List α):mergeL f [] b=b:=by rw[mergeL]
theorem Kv (a:List α):mergeL f a []=a:=by cases a <;> rw[mergeL]
theorem Xn (a b:α)(l m:List α):mergeL f (a::l) (b::m)=if 0<f a b then b::mergeL f (a::l) m else a::mergeL f l (b::m):=by rw[mergeL]
def Qe (f:α->α->Int):Nat->List α->List α
 |0,l=>l
 |n+1,l=>if l.length<2 then l else mergeL f (Qe f n (l.take (l.length / 2))) (Qe f n (l.drop (l.length / 2)))
def JL (f:α->α->Int)(S:List α)(y:α):Nat->Nat
 |0=>0
 |k+1=>match S[k]? with
  |some s=>if 0<f s y then JL f S y k else k+1
  |none=>JL f S y k
def HK (f:α->α->Int)(S:List α)(y:α):List α:=S.take (JL f S y S.length)++y::S.drop (JL f S y S.length)
def Pg (f:α->α->Int)(l:List α):List α:=l.foldl (HK f) []
def JN (g:α->α->Int)(out:List α)(x:α):Bool:=match out.getLast? with
 |some y=>g y x==0
 |none=>false
def VT (g:α->α->Int):List α->List α->List α
 |out,[]=>out
 |out,x::l=>VT g (if JN g out x=true then out else out++[x]) l
variable (h:Cm f)
include h
theorem Cm.eqv_iff (x y:α):YO f x y=true↔f x y=0:=by unfold YO;rw[beq_iff_eq]
theorem Cm.le_trans {a b c:α}(g:f a b<=0)(j:f b c<=0):f a c<=0:=(h.tr a b c g j).1
theorem Cm.lt_le {a b c:α}(g:f a b<0)(j:f b c<=0):f a c<0:=(h.tr a b c (by omega) j).2.2 (.inl g)
theorem Cm.le_lt {a b c:α}(g:f a b<=0)(j:f b c<0):f a c<0:=(h.tr a b c g (by omega)).2.2 (.inr j)
theorem ZfZ:∀ A B:List α,FG f A->FG f B->(∀ x,A.filter (YO f x)=B.filter (YO f x))->A=B:=by
 intro A;have self:∀ x,YO f x x=true:=fun x=>by rw[h.eqv_iff];exact h.self x
 induction A with
 |nil =>
  intro B _ _ hf
  cases B with
  |nil=>rfl
  |cons b B =>
   have:=hf b;rw[zB,self b]at this;simp at this
 |cons a A F =>
  intro B D E hf
  cases B with
  |nil =>
   have:=hf a;rw[zB,self a]at this;simp at this
  |cons b B =>
   have j:=zC.1 D;have u:=zC.1 E
   have z:b∈a::A:=by
    have g:b∈(b::B).filter (YO f b):=zZ.2 ⟨by simp,self b⟩;rw[<-hf b]at g;exact (zZ.1 g).1
   have w:a∈b::B:=by
    have g:a∈(a::A).filter (YO f a):=zZ.2 ⟨by simp,self a⟩;rw[hf a]at g;exact (zZ.1 g).1
   have g:f a b<=0:=by
    rcases zE.1 z with e|e
    ·rw[e,h.self];exact yN _
    ·exact j.1 b e
   have L:f b a<=0:=by
    rcases zE.1 w with e|e
    ·rw[e,h.self];exact yN _
    ·exact u.1 a e
   have C:f a b=0:=by have:=h.sym a b;omega
   have y:a=b:=by
    have:=hf a;rw[zB,self a,zB,(h.eqv_iff a b).2 C]at this;simp only[if_true,List.cons.injEq]at this;exact this.1
   subst y;congr 1;refine F B j.2 u.2 fun x=>?_;have:=hf x;rw[zB,zB]at this;split at this
   ·simpa using this
   ·exact this
theorem Zjt:∀ (A B:List α) (x:α),x∈mergeL f A B↔x∈A\/x∈B:=by
 intro A B x
 induction A,B using mergeL.induct f with
 |case1 b=>simp[GQ]
 |case2 a l=>simp[Kv]
 |case3 a l b m hc g =>
  rw[Xn,if_pos hc,zE,g];simp only[zE];constructor
  ·rintro (h|h|h) <;> simp[h]
  ·rintro (h|h|h) <;> simp[h]
 |case4 a l b m hc g =>
  rw[Xn,if_neg hc,zE,g];simp only[zE];constructor
  ·rintro (h|h|h) <;> simp[h]
  ·rintro ((h|h)|h) <;> simp[h]
theorem Zsg:∀ A B:List α,FG f A->FG f B->FG f (mergeL f A B):=by
 intro A B
 induction A,B using mergeL.induct f with
 |case1 b=>intro _ z;rw[GQ];exact z
 |case2 a l=>intro w _;rw[Kv];exact w
 |case3 a l b m hc D =>
  intro w z;rw[Xn,if_pos hc];have j:=zC.1 w;have u:=zC.1 z;refine zC.2 ⟨fun y g=>?_,D w u.2⟩;rcases (Zjt h _ _ y).1 g with g|g
  ·have C:f b a<0:=by have:=h.sym a b;omega
   rcases zE.1 g with e|e
   ·rw[e];omega
   ·have:=h.lt_le C (j.1 y e);omega
  ·exact u.1 y g
 |case4 a l b m hc D =>
  intro w z;rw[Xn,if_neg hc];have j:=zC.1 w;have u:=zC.1 z;refine zC.2 ⟨fun y g=>?_,D j.2 z⟩;rcases (Zjt h _ _ y).1 g with g|g
  ·exact j.1 y g
  ·rcases zE.1 g with e|e
   ·rw[e];omega
   ·exact h.le_trans (by omega) (u.1 y e)
theorem ZlM (x:α):∀ A B:List α,FG f A->(mergeL f A B).filter (YO f x)=A.filter (YO f x)++B.filter (YO f x):=by
 intro A B
 induction A,B using mergeL.induct f with
 |case1 b=>intro _;rw[GQ];simp
 |case2 a l=>intro _;rw[Kv];simp
 |case3 a l b m hc D =>
  intro w;have g:=zC.1 w;rw[Xn,if_pos hc,zB,D w]
  cases z:YO f x b with
  |false=>simp only[zB,z,yD,if_false]
  |true =>
   rw[h.eqv_iff]at z;have j:f b a<0:=by have:=h.sym a b;omega
   have u:(a::l).filter (YO f x)=[]:=by
    rw[yJ];intro y F C;rw[h.eqv_iff]at C
    have E:f b y<0:=by
     rcases zE.1 F with e|e
     ·rw[e];exact j
     ·exact h.lt_le j (g.1 y e)
    have L:=h.le_lt (a:=x) (b:=b) (c:=y) (by omega) E;omega
   rw[u];simp[zB,(h.eqv_iff x b).2 z]
 |case4 a l b m hc D =>
  intro w;have g:=zC.1 w;rw[Xn,if_neg hc,zB,D g.2,zB (xs:=l)];split <;> simp
theorem ZpW:∀ (n:Nat) (l:List α),l.length<=n->FG f (Qe f n l)/\∀ x,(Qe f n l).filter (YO f x)=l.filter (YO f x):=by
 intro n
 induction n with
 |zero=>intro l B;have:l=[]:=yH.1 (by omega);subst this;exact⟨List.Pairwise.nil,fun _=>rfl⟩
 |succ n u =>
  intro l B;unfold Qe;split
  ·rename_i j;refine⟨?_,fun _=>rfl⟩
   match l,j with
   |[],_=>exact List.Pairwise.nil
   |[a],_=>exact List.pairwise_singleton _ _
  ·rename_i j;obtain⟨g,w⟩:=u (l.take (l.length / 2)) (by rw[zI];omega);obtain⟨y,z⟩:=u (l.drop (l.length / 2)) (by rw[zM];omega);refine⟨Zsg h _ _ g y,fun x=>?_⟩;rw[ZlM h x _ _ g,w,z,<-zP,zT]
omit h in
theorem ZwR (S:List α)(y:α):∀ k,JL f S y k<=k:=by
 intro k
 induction k with
 |zero=>exact zH _
 |succ k g =>
  unfold JL;split
  ·split <;> omega
  ·omega
omit h in
theorem Zhy (S:List α)(y:α):∀ k,∀ j s,JL f S y k<=j->j<k->S[j]?=some s->0<f s y:=by
 intro k
 induction k with
 |zero=>intro j s _ z;omega
 |succ k w =>
  intro j s g z u;unfold JL at g;by_cases B:j=k
  ·subst B;rw[u]at g;simp only at g;split at g
   ·assumption
   ·omega
  ·split at g
   ·split at g
    ·exact w j s g (by omega) u
    ·omega
   ·exact w j s g (by omega) u
omit h in
theorem ZwQ (S:List α)(y:α):∀ k,JL f S y k=0\/∃ s,S[JL f S y k-1]?=some s/\f s y<=0:=by
 intro k
 induction k with
 |zero=>exact .inl rfl
 |succ k g =>
  unfold JL;split
  ·rename_i s j;split
   ·exact g
   ·exact .inr ⟨s,by simpa using j,by omega⟩
  ·exact g
theorem ZwE {S:List α}(Q:FG f S)(y:α):FG f (HK f S y):=by
 unfold HK;have Y:=ZwR (f:=f) S y S.length;have D:FG f (S.take (JL f S y S.length)++S.drop (JL f S y S.length)):=by rw[zT];exact Q
 obtain⟨Z,s2,s3⟩:=yO.1 D
 have u:∀ z∈S.drop (JL f S y S.length),f y z<0:=fun z B=>by
  obtain⟨j,g⟩:=zW B;rw[yU]at g;have M:=(zD.1 g).1;have:=Zhy S y S.length _ z (yY _ _) M g;have:=h.sym z y;omega
 have w:∀ z∈S.take (JL f S y S.length),f z y<=0:=fun z B=>by
  rcases ZwQ (f:=f) S y S.length with h0|⟨s,C,O⟩
  ·rw[h0]at B;simp at B
  ·obtain⟨j,g⟩:=zW B;obtain⟨E,X⟩:=zD.1 g;rw[zI]at E;rw[List.getElem?_take_of_lt (by omega)]at g;by_cases W:j=JL f S y S.length-1
   ·rw[<-W,g]at C;injection C with C;rw[C];exact O
   ·have N:f z s<=0:=by
     obtain⟨F,T⟩:=zD.1 g;obtain⟨L,U⟩:=zD.1 C;rw[<-T,<-U];exact List.pairwise_iff_getElem.1 Q _ _ F L (by omega)
    exact h.le_trans N O
 refine yO.2 ⟨Z,zC.2 ⟨fun z B=>by have:=u z B;omega,s2⟩,fun a R b V=>?_⟩;rcases zE.1 V with e|e
 ·rw[e];exact w a R
 ·exact s3 a R b e
theorem ZpF (S:List α)(y x:α):(HK f S y).filter (YO f x)=S.filter (YO f x)++[y].filter (YO f x):=by
 unfold HK;have g:S.filter (YO f x)=(S.take (JL f S y S.length)).filter (YO f x)++(S.drop (JL f S y S.length)).filter (YO f x):=by rw[<-zP,zT]
 rw[g,zP,yE];congr 1;rw[zB,zB,List.filter_nil]
 cases B:YO f x y with
 |false=>simp
 |true =>
  rw[h.eqv_iff]at B
  have:(S.drop (JL f S y S.length)).filter (YO f x)=[]:=by
   rw[yJ];intro z D C;rw[h.eqv_iff]at C;obtain⟨j,u⟩:=zW D;rw[yU]at u;have w:=(zD.1 u).1;have E:=Zhy S y S.length _ z (yY _ _) w u;have F:=h.sym z y;have L:=h.le_lt (a:=x) (b:=y) (c:=z) (by omega) (by omega);omega
  rw[this];simp
theorem Zlv:∀ (l S:List α),FG f S->FG f (l.foldl (HK f) S)/\∀ x,(l.foldl (HK f) S).filter (YO f x)=S.filter (YO f x)++l.filter (YO f x):=by
 intro l
 induction l with
 |nil=>intro S g;exact⟨g,fun x=>by simp⟩
 |cons y l j =>
  intro S g;obtain⟨a,b⟩:=j (HK f S y) (ZwE h g y);refine⟨a,fun x=>?_⟩;rw[List.foldl_cons,b,ZpF h,yE,<-zP];rfl
theorem Zsi (l:List α){n:Nat}(y:l.length<=n):Qe f n l=Pg f l:=by
 obtain⟨g,j⟩:=ZpW h n l y;obtain⟨u,w⟩:=Zlv h l [] List.Pairwise.nil;exact ZfZ h _ _ g u fun x=>by rw[j,show Pg f l=l.foldl (HK f) [] from rfl,w];rfl
end
structure Fv (K:AV->Prop)(t:Zl->Zl->Bool):Prop where
 close:∀ v,K v->∃ v',Zd [] 0 9 v=some v'/\K v'
 run:∀ v,K v->∀ a b:Zl,a.length<=1048576->b.length<=1048576->∀ H,Yd cfg (Za cfg) v [.str a,.str b] H=some (.bool (t a b),H)
theorem Zsf {f:Zl->Zl->Int}:∀ A B:List Zl,(mergeL f A B).length=A.length+B.length:=by
 intro A B
 induction A,B using mergeL.induct f with
 |case1 b=>simp[GQ]
 |case2 a l=>simp[Kv]
 |case3 a l b m hc g=>rw[Xn,if_pos hc,zJ,g];simp only[zJ];omega
 |case4 a l b m hc g=>rw[Xn,if_neg hc,zJ,g];simp only[zJ];omega
theorem ZpS {f:Zl->Zl->Int}:∀ (A B:List Zl) (x:Zl),x∈mergeL f A B->x∈A\/x∈B:=by
 intro A B x
 induction A,B using mergeL.induct f with
 |case1 b=>simp[GQ]
 |case2 a l=>simp[Kv]
 |case3 a l b m hc g =>
  rw[Xn,if_pos hc,zE]
  rintro (h|h)
  ·exact .inr (by simp[h])
  ·rcases g h with h|h
   ·exact .inl h
   ·exact .inr (by simp[h])
 |case4 a l b m hc g =>
  rw[Xn,if_neg hc,zE]
  rintro (h|h)
  ·exact .inl (by simp[h])
  ·rcases g h with h|h
   ·exact .inl (by simp[h])
   ·exact .inr h
theorem HP {f:Zl->Zl->Int}:∀ (n:Nat) (l:List Zl),(Qe f n l).length=l.length/\∀ s∈Qe f n l,s∈l:=by
 intro n
 induction n with
 |zero=>intro l;exact⟨rfl,fun s h=>h⟩
 |succ n g =>
  intro l;unfold Qe;split
  ·exact⟨rfl,fun s h=>h⟩
  ·obtain⟨j,u⟩:=g (l.take (l.length / 2));obtain⟨w,y⟩:=g (l.drop (l.length / 2));refine⟨by rw[Zsf,j,w,zI,zM];omega,fun s z=>?_⟩;rcases ZpS _ _ s z with h|h
   ·exact zX (u s h)
   ·exact zY (y s h)
section
variable {K:AV->Prop}{f:Zl->Zl->Int}(hK:Fv K fun a b=>decide (0<f a b))
include hK
theorem ZpR {v:AV}(hv:K v)(H0:Hp):∀ (A B g:List Zl) (U V W:AV) (H:Hp),SS U A->SS V B->RS H W g->Wo A->Wo B->g.length+A.length+B.length<=4194304 ->
 ∃ y H',YF v U V W H0 H=some (y,H')/\RS H' y (g++mergeL f A B):=by
 intro A B
 induction A,B using mergeL.induct f with
 |case1 B =>
  intro g U V W H u w L M N F;obtain⟨Z,H1,Q,R⟩:=L.app u (by omega);obtain⟨y2,H2,S,T⟩:=R.app w (by simp at F ⊢;omega);refine⟨y2,H2,?_,by rw[GQ];simpa using T⟩;have j:=SS.len u 9;rw[YS];simp only[go_sem,j,zG,show decide ((0:Int)<((0:Nat):Int))=false from rfl,U2,Q,S]
 |case2 a l =>
  intro g U V W H u w L M N F;obtain⟨Z,H1,Q,R⟩:=L.app u (by simp at F ⊢;omega);obtain⟨y2,H2,S,T⟩:=R.app w (by simp at F ⊢;omega);refine⟨y2,H2,?_,by rw[Kv];simpa using T⟩;have j:=SS.len u 9;have D:=SS.len w 9;have X:decide ((0:Int)<(((a::l).length:Nat):Int))=true:=by simp
  rw[YS];simp only[go_sem,j,D,X,zG,show decide ((0:Int)<((0:Nat):Int))=false from rfl,U2,Q,S]
 |case3 a l b m hc ih =>
  intro g U V W H u w L M N F;have j:=SS.len u 9;have D:=SS.len w 9;have X:decide ((0:Int)<(((a::l).length:Nat):Int))=true:=by simp
  have O:decide ((0:Int)<(((b::m).length:Nat):Int))=true:=by simp
  have z:=SS.idx u (i:=0) (s:=a) rfl;have C:=SS.idx w (i:=0) (s:=b) rfl;obtain⟨ab,Y,r2⟩:=SS.lo w (n:=1) (by simp);have E:=hK.run v hv a b (M a (by simp)) (N b (by simp)) H;obtain⟨Z,H1,Q,R⟩:=L.app (Zhw b) (by simp at F ⊢;omega);obtain⟨y,H',S,T⟩:=ih (g++[b]) U ab Z H1 u r2 R M (fun s hs=>N s (by simp[hs])) (by simp at F ⊢;omega);refine⟨y,H',?_,by rw[Xn,if_pos hc];simpa using T⟩;rw[show ((0:Nat):Int)=0 from rfl]at z C;rw[show ((1:Nat):Int)=1 from rfl]at Y;rw[YS];simp only[go_sem,j,D,X,O,U3,z,C,Zz,E,decide_eq_true hc,FL,Q,Y,S]
 |case4 a l b m hc ih =>
  intro g U V W H u w L M N F;have j:=SS.len u 9;have D:=SS.len w 9;have X:decide ((0:Int)<(((a::l).length:Nat):Int))=true:=by simp
  have O:decide ((0:Int)<(((b::m).length:Nat):Int))=true:=by simp
  have z:=SS.idx u (i:=0) (s:=a) rfl;have C:=SS.idx w (i:=0) (s:=b) rfl;obtain⟨aa,Y,r2⟩:=SS.lo u (n:=1) (by simp);have E:=hK.run v hv a b (M a (by simp)) (N b (by simp)) H;obtain⟨Z,H1,Q,R⟩:=L.app (Zhw a) (by simp at F ⊢;omega);obtain⟨y,H',S,T⟩:=ih (g++[a]) aa V Z H1 r2 w R (fun s hs=>M s (by simp[hs])) N (by simp at F ⊢;omega);refine⟨y,H',?_,by rw[Xn,if_neg hc];simpa using T⟩;rw[show ((0:Nat):Int)=0 from rfl]at z C;rw[show ((1:Nat):Int)=1 from rfl]at Y;rw[YS];simp only[go_sem,j,D,X,O,U3,z,C,Zz,E,decide_eq_false hc,FL,Q,Y,S]
theorem ZpV:∀ (n:Nat) (l:List Zl) (x v:AV),l.length<=n->l.length<=1048576->Wo l->SS x l->K v->∀ H,∃ y,Zf YN [x,v] H=some (y,H)/\SS y (Qe f n l):=by
 intro n
 induction n with
 |zero =>
  intro l x v hn T z V U H;have:l=[]:=yH.1 (by omega);subst this;obtain⟨x',E,g⟩:=SS.closed V [] 0 7;obtain⟨v',F,L⟩:=hK.close v U;obtain⟨y,W,X⟩:=MY g T [];have M:=SS.len g 9;obtain⟨D,C,w⟩:=SS.closed X [] 0 7;refine⟨D,Nf E F ?_ C,w⟩;rw[W5];unfold Xg;simp only[go_sem,M,zG,show decide (((0:Nat):Int)<2)=true from rfl,W]
 |succ n Z =>
  intro l x v hn T z V U H;obtain⟨x',E,g⟩:=SS.closed V [] 0 7;obtain⟨v',F,L⟩:=hK.close v U;have M:=SS.len g 9;unfold Qe;by_cases Y:l.length<2
  ·have S:decide ((l.length:Int)<2)=true:=by simp;omega
   obtain⟨y,W,X⟩:=MY g T [];obtain⟨D,C,w⟩:=SS.closed X [] 0 7;rw[if_pos Y];refine⟨D,Nf E F ?_ C,w⟩;rw[W5];unfold Xg;simp only[go_sem,M,S,W]
  ·rw[if_neg Y];have S:decide ((l.length:Int)<2)=false:=by simp;omega
   have hq:Z5 .quo (xP J (l.length:Int)) (xP J 2)=some (xP J ((l.length / 2:Nat):Int)):=by
    simp[Z5,Wa,Wb];exact Zr (by omega) (by omega)
   obtain⟨xa,a1,a2⟩:=SS.hi g (n:=l.length / 2) (by omega);obtain⟨xb,b1,b2⟩:=SS.lo g (n:=l.length / 2) (by omega);obtain⟨ya,a3,a4⟩:=Z (l.take (l.length / 2)) xa v' (by rw[zI];omega) (by rw[zI];omega) (fun s u=>z s (zX u)) a2 L [];obtain⟨yb,b3,b4⟩:=Z (l.drop (l.length / 2)) xb v' (by rw[zM];omega) (by rw[zM];omega) (fun s u=>z s (zY u)) b2 L [];obtain⟨N,O⟩:=HP (f:=f) n (l.take (l.length / 2));obtain⟨Q,R⟩:=HP (f:=f) n (l.drop (l.length / 2))
   have j:Js 1 16 false (.str []) (xP J 0) (xP J (l.length:Int)) []=some (.vs 1 (.own 0 0) [],[.tok 0]):=by
    have hf:X9 (l.length:Int).toNat 16=true:=by simp[X9];omega
    unfold Js;dsimp only;rw[if_pos ⟨yN _,by omega,rfl,rfl,by decide,hf⟩];simp
   have B:RS [AObj.tok 0] (.vs 1 (.own 0 0) []) []:=.inr ⟨0,0,rfl,rfl,zH _⟩
   obtain⟨y,H',C,w⟩:=ZpR hK L [] (Qe f n (l.take (l.length / 2))) (Qe f n (l.drop (l.length / 2))) [] ya yb _ _ a4 b4 B
    (fun s u=>z s (zX (O s u))) (fun s u=>z s (zY (R s u))) (by rw[N,Q,zI,zM,zG];omega)
   rw[yK]at w;obtain⟨D,q3,q4⟩:=w.done H';refine⟨D,Nf E F ?_ q3,q4⟩;rw[W5];unfold Xg;simp only[go_sem,M,S,DG,hq,a1,a3,b1,b3,j,C]
end
theorem Zjy {g:Zl->Zl->Int}:∀ (l out:List Zl),(VT g out l).length<=out.length+l.length:=by
 intro l
 induction l with
 |nil=>intro out;simp[VT]
 |cons x l j =>
  intro out;unfold VT;refine yW (j _) ?_;split <;> simp <;> omega
theorem Zjz {g:Zl->Zl->Int}:∀ (l out:List Zl),∀ s∈VT g out l,s∈out\/s∈l:=by
 intro l
 induction l with
 |nil=>intro out s j;exact .inl j
 |cons x l u =>
  intro out s j;unfold VT at j;rcases u _ s j with h|h
  ·split at h
   ·exact .inl h
   ·rcases zN.1 h with h|h
    ·exact .inl h
    ·exact .inr (by rw[zL.1 h];simp)
  ·exact .inr (by simp[h])
theorem Zsw {K:AV->Prop}{g:Zl->Zl->Int}(hK:Fv K fun a b=>g a b==0){v:AV}(hv:K v){x:AV}{l:List Zl}(hx:SS x l)(hL:Wo l)(hl:l.length<=1048576)(W:Hp):∀ (r done out:List Zl) (O:AV) (H:Hp),l=done++r->RS H O out->Wo out->out.length<=done.length ->
 ∃ y H',Wj v O x (xP J (l.length:Int)) (xP J (done.length:Int)) W H=some (y,H')/\RS H' y (VT g out r):=by
 intro r
 induction r with
 |nil =>
  intro done out O H N M V aa;rw[List.append_nil]at N;subst N;have L:decide ((l.length:Int)<(l.length:Int))=false:=by simp
  refine⟨O,H,?_,M⟩;rw[J6];simp only[go_sem,L,Pm]
 |cons a r ih =>
  intro done out O H N M V aa;have hlen:l.length=done.length+(r.length+1):=by rw[N];simp
  have L:decide ((done.length:Int)<(l.length:Int))=true:=by simp;omega
  have ac:xO.wrap ((done.length:Int)+1)=((done.length+1:Nat):Int):=by rw[Zr (by omega) (by omega)];omega
  have S:l[done.length]?=some a:=by rw[N,zF (zH _)];simp
  have hi:=SS.idx hx S;have R:a.length<=1048576:=hL a (yP S);have Q:=SS.len M.sl 9;obtain⟨y1,H1,q1,q2⟩:=M.app (Zhw a) (by simp;omega)
  have w:∀ u F H',RS H' F u->Wo u->u.length<=done.length+1->∃ y j,Wh v F x (xP J (l.length:Int)) (xP J (done.length:Int)) W H'=some (y,j)/\RS j y (VT g u r):=fun u F H' h1 h2 h3=>by
   obtain⟨y,j,C,E⟩:=ih (done++[a]) u F H' (by rw[N];simp) h1 h2 (by simpa using h3);rw[zK,zU]at C;exact⟨y,j,by simp only[Po,go_sem,ac,C],E⟩
  have B:Wo (out++[a]):=fun s hs=>by
   rcases zN.1 hs with h|h
   ·exact V s h
   ·rw[zL.1 h];exact R
  have X:∃ y H',VQ v O x (xP J (l.length:Int)) (xP J (done.length:Int)) (.bool true) W H=some (y,H')/\RS H' y (VT g out (a::r)):=by
   rw[Pn];unfold VT
   cases D:out.getLast? with
   |none =>
    have:out=[]:=List.getLast?_eq_none_iff.1 D;subst this;rw[show JN g [] a=false from rfl];obtain⟨y,j,C,E⟩:=w _ _ _ q2 B (by simp);refine⟨y,j,?_,by simpa using E⟩;simp only[go_sem,hi,Zz,Q,zG,show (((0:Nat):Int)==0)=true from rfl,FL,q1,C]
   |some z =>
    have Z:out≠[]:=fun e=>by subst e;simp at D
    have ae:0<out.length:=List.length_pos_iff.2 Z;have U:out[out.length-1]?=some z:=by rw[<-List.getLast?_eq_getElem?];exact D
    have h0:((out.length:Int)==0)=false:=by rw[beq_eq_false_iff_ne];omega
    have ad:xO.wrap ((out.length:Int)-1)=((out.length-1:Nat):Int):=by rw[Zr (by omega) (by omega)];omega
    have Y:=SS.idx M.sl U;have T:=hK.run v hv z a (V z (yP U)) R H;have ab:JN g out a=(g z a==0):=by unfold JN;rw[D]
    simp only[go_sem,hi,Zz,Q,h0,ad,Y,T,ab]
    cases hg:(g z a==0) with
    |true =>
     obtain⟨y,j,C,E⟩:=w _ _ _ M V (by omega);exact⟨y,j,by simp only[xF,go_sem,C],by simpa using E⟩
    |false =>
     obtain⟨y,j,C,E⟩:=w _ _ _ q2 B (by simp;omega);exact⟨y,j,by simp only[yC,go_sem,FL,q1,C],by simpa using E⟩
  obtain⟨y,H',C,E⟩:=X;refine⟨y,H',?_,E⟩;rw[J6];simp only[go_sem,L,C]
theorem Zsv {K:AV->Prop}{g:Zl->Zl->Int}(hK:Fv K fun a b=>g a b==0){v:AV}(F:K v){x:AV}{l:List Zl}(L:SS x l)(C:Wo l)(D:l.length<=1048576)(H:Hp):∃ y,Zf Ub [x,v] H=some (y,H)/\SS y (VT g [] l):=by
 obtain⟨S,w,j⟩:=SS.closed L [] 0 7;obtain⟨v',z,B⟩:=hK.close v F;obtain⟨y,H',u,M⟩:=Zsw hK B j C D [] l [] [] .nils [] rfl (RowN.nil _ _ _) (fun s E=>by cases E) (zH _);rw[zG,show ((0:Nat):Int)=0 from rfl]at u;obtain⟨R,O,Q⟩:=M.done H';refine⟨R,Nf w z ?_ O,Q⟩;have N:=SS.len j 9;rw[PT];unfold Gf;simp only[go_sem,N,u]
def SpecCells (l:List AV)(p:Spec):Prop:=∃ x,l=p.cells x/\Sl 5 x (p.keys.map Ke.av)
theorem SpecCells.close {l:List AV}{p:Spec}(h:SpecCells l p)(H:Hp)(n f:Nat):∃ g,l.mapM (Zd H n (f+3))=some g/\SpecCells g p:=by
 obtain⟨x,rfl,y⟩:=h
 obtain⟨j,u,w⟩:=y.close (H:=H) (n:=n) (f:=f+2) (fun c hc=>by
  obtain⟨k,_,rfl⟩:=List.mem_map.1 hc;exact k.close H n f)
 refine⟨p.cells j,?_,j,rfl,w⟩;simp only[Spec.cells,xC,u,xG];rfl
def ClK (g:Nat)(L:Loc)(p:Spec)(v:AV):Prop:=∃ lc sc,v=.fn (.func g) [] [.vp lc,.vp sc]/\LocCells lc L/\SpecCells sc p
theorem Zp2 (H:Hp)(n f:Nat)(g:Fn)(a b:AV):Zd H n (f+1) (.fn g [] [a,b])=match Zd H n f a,Zd H n f b with
 |some a',some b'=>some (.fn g [] [a',b'])
 |_,_=>none:=by
 show (match ([]:List AV).mapM (Zd H n f),[a,b].mapM (Zd H n f) with
  |some a,some b=>some (AV.fn g a b)
  |_,_=>none)=_
 simp only[xG,xC];cases Zd H n f a <;> cases Zd H n f b <;> rfl
theorem ClK.close {g:Nat}{L:Loc}{p:Spec}{v:AV}(h:ClK g L p v):∃ v',Zd [] 0 9 v=some v'/\ClK g L p v':=by
 obtain⟨lc,sc,rfl,w,y⟩:=h;obtain⟨j,z,B⟩:=w.close [] 0 4;obtain⟨u,C,D⟩:=y.close [] 0 4;refine⟨.fn (.func g) [] [.vp j,.vp u],?_,j,u,rfl,B,D⟩;rw[Zp2,Q1,Q1,z,C]
theorem Zt1 (L:Loc)(w:LocOk L)(p:Spec)(u:∀ k∈p.keys,KeOk k):Fv (ClK 55 L p) fun a b=>decide (0<Y0 L p a b) where
 close:=fun v y=>ClK.close y
 run:=fun v y a b B C H=>by
  obtain⟨lc,sc,rfl,E,M⟩:=y;rw[Zfk];obtain⟨R,O,Q⟩:=E.close [] 0 5;obtain⟨U,S,T⟩:=M.close [] 0 5;obtain⟨x,c,e,rfl,N,hc,D⟩:=Q;obtain⟨xs,rfl,z⟩:=T;have g:Zd [] 0 9 (.vp lc)=some (.vp (L.cells x c e)):=by rw[Q1,O]
  have j:Zd [] 0 9 (.vp sc)=some (.vp (p.cells xs)):=by rw[Q1,S]
  have F:=ZlS (a:=.agg (L.cells x c e)) (L:=L) ⟨x,c,e,rfl,N,hc,D⟩ w (q:=.agg (p.cells xs)) (p:=p) ⟨xs,rfl,z⟩ u a b B C [];refine Zh6 (a':=.str a) (b':=.str b) rfl rfl g j (H1:=[]) ?_ rfl;rw[ZaD];unfold LJ;simp only[go_sem,Vh 6 (L.cells x c e) rfl,Vh 5 (p.cells xs) rfl,F]
theorem Zt2 (L:Loc)(w:LocOk L)(p:Spec)(u:∀ k∈p.keys,KeOk k):Fv (ClK 58 L p) fun a b=>Wg L p a b==0 where
 close:=fun v y=>ClK.close y
 run:=fun v y a b B C H=>by
  obtain⟨lc,sc,rfl,E,M⟩:=y;rw[Zfl];obtain⟨R,O,Q⟩:=E.close [] 0 5;obtain⟨U,S,T⟩:=M.close [] 0 5;obtain⟨x,c,e,rfl,N,hc,D⟩:=Q;obtain⟨xs,rfl,z⟩:=T;have g:Zd [] 0 9 (.vp lc)=some (.vp (L.cells x c e)):=by rw[Q1,O]
  have j:Zd [] 0 9 (.vp sc)=some (.vp (p.cells xs)):=by rw[Q1,S]
  have F:=Zd2 (a:=.agg (L.cells x c e)) (L:=L) ⟨x,c,e,rfl,N,hc,D⟩ w (q:=.agg (p.cells xs)) (p:=p) ⟨xs,rfl,z⟩ u a b B C [];refine Zh6 (a':=.str a) (b':=.str b) rfl rfl g j (H1:=[]) ?_ rfl;rw[ZaE];unfold LK;simp only[go_sem,Vh 6 (L.cells x c e) rfl,Vh 5 (p.cells xs) rfl,F]
def ZM (L:Loc)(p:Spec)(l:List Zl):List Zl :=
 if (ZJ p != 0)=true then l else if p.uniq then VT (Wg L p) [] (Pg (Y0 L p) l) else Pg (Y0 L p) l
theorem Zjm (L:Loc)(p:Spec)(l:List Zl):Qe (Y0 L p) l.length l=Pg (Y0 L p) l:=Zsi (CJ L p) l (zH _)
theorem Cy (L:Loc)(p:Spec)(l:List Zl):(Pg (Y0 L p) l).length=l.length/\∀ s∈Pg (Y0 L p) l,s∈l:=by
 rw[<-Zjm];exact HP _ _
theorem Zxx {f:List AV->Hp->Z4}{a a' b b' c c' v v':AV}{H H1:Hp}(g:Zd [] 0 9 a=some a')(j:Zd [] 0 9 b=some b')(u:Zd [] 0 9 c=some c')(hc:f [a',b',c'] []=some (v,H1))(w:Zd H1 0 9 v=some v'):Zf f [a,b,c] H=some (v',H) :=
 Pb (args':=[a',b',c']) (by simp[g,j,u]) hc w
theorem ZjJ {a:AV}{L:Loc}(h:LocAV a L)(C:LocOk L){q:AV}{p:Spec}(hq:SpecAV q p)(u:∀ k∈p.keys,KeOk k){x:AV}{l:List Zl}(hx:SS x l)(T:Wo l)(W:l.length<=1048576)(H:Hp) :
 ∃ y,Zf QS [a,q,x] H=some (y,H)/\SS y (ZM L p l):=by
 obtain⟨a1,h1,h2⟩:=h.close [] 0 5;obtain⟨q1,g1,S⟩:=hq.close [] 0 5;obtain⟨Y,k1,X⟩:=SS.closed hx [] 0 7;have g:=fun H=>MX S H;obtain⟨lx,c,e,rfl,B,hc,V⟩:=h2;obtain⟨xp,rfl,D⟩:=S
 suffices O:∃ y H1,QS [.agg (L.cells lx c e),.agg (p.cells xp),Y] []=some (y,H1)/\SS y (ZM L p l) by
  obtain⟨y,H1,r1,r2⟩:=O;obtain⟨y',r3,r4⟩:=SS.closed r2 H1 0 7;exact⟨y',Zxx h1 g1 k1 r1 r3,r4⟩
 have w:Z3 true 5 (.ptr 1 0) [yS (L.cells lx c e),.cells (p.cells xp)]=some (.agg (p.cells xp)):=by simp[Z3,Go.Am.apart,Spec.cells]
 rw[ZdS];unfold Ak ZM
 cases U:(ZJ p != 0) with
 |true =>
  obtain⟨y,R,E⟩:=MY X W [yS (L.cells lx c e),.cells (p.cells xp)];refine⟨y,[yS (L.cells lx c e),.cells (p.cells xp)],?_,by rw[if_pos rfl];exact E⟩;simp only[go_sem,Yu,yK,zG,zJ,yZ,yB,w,g,U,R]
 |false =>
  have N:∀ (k:AV->Hp->Z4),UI (.ptr 0 0) [yS (L.cells lx c e),.cells (p.cells xp)] k=k (.vp (L.cells lx c e)) [.dead,.cells (p.cells xp)]:=fun k=>rfl;have j:∀ (k:AV->Hp->Z4),UI (.ptr 1 0) [xH,.cells (p.cells xp)] k=k (.vp (p.cells xp)) [.dead,.dead]:=fun k=>rfl;have F:ClK 55 L p (.fn (.func 55) [] [.vp (L.cells lx c e),.vp (p.cells xp)]):=⟨_,_,rfl,⟨lx,c,e,rfl,B,hc,V⟩,⟨xp,rfl,D⟩⟩;have M:ClK 58 L p (.fn (.func 58) [] [.vp (L.cells lx c e),.vp (p.cells xp)]):=⟨_,_,rfl,⟨lx,c,e,rfl,B,hc,V⟩,⟨xp,rfl,D⟩⟩;obtain⟨y,R,E⟩:=ZpV (Zt1 L C p u) l.length l Y _ (zH _) W T X F [xH,.dead];rw[Zjm]at E;obtain⟨f1,Z⟩:=Cy L p l;have Q:Z7 3 (.vp (p.cells xp))=some (.vp [.bool p.uniq,.bool p.stab]):=rfl;simp only[go_sem,Yu,yK,zG,zJ,yZ,yB,w,g,U,Zdb,N,j,R,Q,Zz,yD,if_false]
  cases hu:p.uniq with
  |true =>
   obtain⟨z,o1,o2⟩:=Zsv (Zt2 L C p u) M E (fun s O=>T s (Z s O)) (by omega) [xH,.dead];exact⟨z,[.dead,.dead],by simp only[go_sem,o1,Nn],by simpa using o2⟩
  |false=>exact⟨y,[.dead,.dead],by simp only[go_sem,Nn],by simpa using E⟩
theorem Zp7:LocOk defL:=⟨by decide,by simp[defL],by simp[defL],by simp[defL],fun c hc=>(by cases hc),fun c hc=>(by cases hc),by simp[defL],by simp[defL]⟩
theorem Zyi (p:Spec)(h:p.keys=[]):SpecAV (.agg (p.cells .nils)) p:=⟨.nils,rfl,.inl ⟨rfl,by rw[h];rfl⟩⟩
theorem ZxL {p:Spec}(h:p.keys=[]):∀ k∈p.keys,KeOk k:=fun k hk=>by rw[h]at hk;cases hk
theorem ZxI (l:List Zl)(t:Tok):SS (.vs 1 t (l.map AV.str)) l:=.inr ⟨t,rfl⟩
theorem Zdk (L:Loc)(p:Spec)(l:List Zl):(ZM L p l).length<=l.length:=by
 obtain⟨j,u⟩:=Cy L p l;have:=Zjy (g:=Wg L p) (Pg (Y0 L p) l) [];unfold ZM;split
 ·exact zH _
 ·split
  ·simp at this;omega
  ·omega
def Qm (s:List UInt8):Bool :=
 match s with
 |[]=>false
 |b::_=>decide (s.length<=16)&&!PM b.toNat&&s.all fun c=>Wt c.toNat
theorem Zf1 (w z u B:AV)(y H:Hp):Db w z u B y H =
 Z0 (Zx w u) fun j =>
 Z0 (Lh j u) fun g =>
 Zj g (some ((.bool false),H)) (Dc w z u y H):=by
 rw[OV];simp only[Lh,N5,WZ]
theorem Zmx (s:List UInt8)(j:s.length<=4611686018427387904)(g H:Hp):Da (.str s) g H=some (.bool (!s.isEmpty&&decide (s.length<=16)),H):=by
 rw[OU]
 cases s with
 |nil=>simp[go_sem,Yr,Ki]
 |cons b l =>
  simp only[Yr,Ki,go_sem,Zk];have:(!((b::l)==([]:List UInt8)))=true:=rfl;have c:decide (((b::l).length:Int)<=16)=decide ((b::l).length<=16):=by rw[Bool.eq_iff_iff];simp;omega
  simp only[this,go_sem,c,yX,yC,yF]
theorem ZqD (s:List UInt8)(z:s.length<=4611686018427387904)(w H:Hp):∀ (k i:Nat),s.length-i=k->0<i->i<=s.length ->
 QQ (.str s) (xP J s.length) (xP J i) w H=some (.bool (((s.drop i).all fun c=>Wt c.toNat)&&(!s.isEmpty&&decide (s.length<=16))),H):=by
 intro k
 induction k with
 |zero =>
  intro i hk h0 hi;rw[U0];have g:decide ((i:Int)<(s.length:Int))=false:=by simp;omega
  have y:s.drop i=[]:=List.drop_eq_nil_iff.2 (by omega);simp only[go_sem,g,Zmx s z,y,List.all_nil,yF]
 |succ k B =>
  intro i hk h0 hi;rw[U0];have u:i<s.length:=by omega
  have g:decide ((i:Int)<(s.length:Int))=true:=by simp;omega
  have hw:xO.wrap ((i:Int)+1)=((i+1:Nat):Int):=by rw[Zr (by omega) (by omega)];omega
  have j:((i:Int)==0)=false:=by simp;omega
  simp only[go_sem,g,Zf1,ZX (List.getElem?_eq_getElem u),Zhr _ j];rw[List.drop_eq_getElem_cons u,yR]
  cases C:Wt s[i].toNat with
  |false=>simp only[go_sem,yC,Bool.false_and]
  |true =>
   simp only[go_sem,xF,yF,T7,hw];exact B (i+1) (by omega) (by omega) (by omega)
theorem ZqE (s:List UInt8)(w:s.length<=4611686018427387904)(H:Hp):Uc [.str s] H=some (.bool (Qm s),H):=by
 rw[ZaG];unfold LS;simp only[go_sem,Zk]
 cases s with
 |nil=>rw[U0];simp[go_sem,Zmx [] (by simp),Qm]
 |cons b l =>
  rw[U0];have u:decide ((0:Int)<((b::l).length:Int))=true:=by simp
  have hw:xO.wrap ((0:Int)+1)=((0+1:Nat):Int):=by decide
  have j:Zx (.str (b::l)) (xP J 0)=some (.int .u8 b.toNat):=by simp[Zx]
  simp only[go_sem,u,Zf1,j,ZeT]
  cases g:(!Wt b.toNat || PM b.toNat) with
  |true =>
   have:Qm (b::l)=false:=by
    unfold Qm;simp only[Bool.or_eq_true,Bool.not_eq_true']at g;rcases g with g|g <;> simp[g]
   simp only[go_sem,this]
  |false =>
   simp only[Bool.or_eq_false_iff,Bool.not_eq_false']at g;simp only[go_sem,T7,hw];rw[ZqD (b::l) w H H l.length 1 (by simp) (by omega) (by simp)]
   have:Qm (b::l)=(((b::l).drop 1).all (fun c=>Wt c.toNat)&&(!(b::l).isEmpty&&decide ((b::l).length<=16))):=by
    unfold Qm;simp only[g.1,g.2,yR,List.drop_one,List.tail_cons,yX,yC,yF,Bool.and_true];rw[Bool.and_comm]
   rw[this]
theorem ZjB (s:Zm)(g:s.length<=1048576)(H:Hp):Zf Uc [.str s] H=some (.bool (Qm s),H) :=
 XI (a':=.str s) rfl (H1:=[]) (ZqE s (by omega) []) rfl
theorem ZiY (o:Nat)(n:Zm)(H:Hp):PF [.ptr o 0,.str n] H=some (.ptr H.length 0,H++[.cells (Qx o n 0 false false [])]):=by
 have g:Yy (.pointer 124) .eql (.ptr o 0) .nilp=some (.bool false):=rfl;have hf:(YD [(0,1,.ptr o 0),(1,1,.str n)] [.nilp,(.str []),(xP J 0),(.bool false),(.bool false),(.str [])]).map AV.agg=some (.agg (Qx o n 0 false false [])):=rfl;rw[Zic];unfold Zey;simp only[go_sem,g,ZhH,hf,Yu]
theorem Nj {H:Hp}{i:Nat}{L:Loc}{x c e:AV}(h:H[i]?=some (.cells (L.cells x c e))):Z3 true 6 (.ptr i 0) H=some (.agg (L.cells x c e)):=by
 rw[YA h];simp[Go.Am.apart,Loc.cells]
theorem Q9 {H:Hp}{i:Nat}{p:Spec}{x:AV}(h:H[i]?=some (.cells (p.cells x))):Z3 true 5 (.ptr i 0) H=some (.agg (p.cells x)):=by
 rw[YA h];simp[Go.Am.apart,Spec.cells]
theorem SysRes.trans {H H1 w:Hp}{o t:Nat}{tm1 g:Tmp}{z y:Sto}{A A1 A2:List Nat}(h:SysRes H H1 o t tm1 z A A1)(k:SysRes H1 w o t g y A1 A2):SysRes H w o t g y A A2 :=
 ⟨k.at',h.stp.trans k.stp (fun _ h=>h) fun a j=>h.own a j,fun a j=>by
  rcases k.own a j with u|u
  ·exact h.own a u
  ·exact .inr (yW h.stp.len u)⟩
theorem SysRes.pre {H H1 w:Hp}{o t:Nat}{g:Tmp}{y:Sto}{A A2:List Nat}(h:Stp A H H1)(k:SysRes H1 w o t g y A A2):SysRes H w o t g y A A2 :=
 ⟨k.at',h.trans k.stp (fun _ h=>h) fun a j=>.inl j,fun a j=>by
  rcases k.own a j with u|u
  ·exact .inl u
  ·exact .inr (yW h.len u)⟩
section
variable {α:Type}(c:α->Int)(mem:Int)
structure Ck (α:Type) where
 done:List (List α)
 cur:List α
 cost:Int
def Gp (s:Ck α)(x:α):Ck α :=
 if s.cur≠[]/\mem<s.cost+c x then ⟨s.done++[s.cur],[x],c x⟩ else ⟨s.done,s.cur++[x],s.cost+c x⟩
def Ys (l:List α):Ck α:=l.foldl (Gp c mem) ⟨[],[],0⟩
def IH (s:Ck α):List (List α):=if s.cur=[] then s.done else s.done++[s.cur]
def XX (l:List α):Int:=l.foldl (fun n x=>n+c x) 0
theorem Zcf (l:List α)(x:α):XX c (l++[x])=XX c l+c x:=by simp[XX]
structure CkOk (l:List α)(s:Ck α):Prop where
 flat:s.done.flatten++s.cur=l
 cost:s.cost=XX c s.cur
 emp:s.cur=[]->s.done=[]
 ne:∀ k∈s.done,k≠[]
 fit:∀ k∈s.done++[s.cur],1<k.length->XX c k<=mem
 next:∀ (i:Nat) (a b:List α) (x:α),(s.done++[s.cur])[i]?=some a->(s.done++[s.cur])[i+1]?=some b->b.head?=some x->mem<XX c a+c x
theorem ZtT:CkOk c mem ([]:List α) ⟨[],[],0⟩:=by
 refine⟨rfl,rfl,fun _=>rfl,by simp,by simp,fun i a b x j g u=>?_⟩;simp at g
theorem Zwj {l:List α}{s:Ck α}(h:CkOk c mem l s)(x:α):CkOk c mem (l++[x]) (Gp c mem s x):=by
 unfold Gp;split
 ·rename_i hc;obtain⟨F,L⟩:=hc;refine⟨by simp[<-h.flat],by simp[XX],fun e=>(by simp at e),fun k hk=>?_,fun k hk B=>?_,fun i a b y j g w=>?_⟩
  ·rcases zN.1 hk with hk|hk
   ·exact h.ne k hk
   ·rw[zL.1 hk];exact F
  ·rcases zN.1 hk with hk|hk
   ·exact h.fit k hk B
   ·rw[zL.1 hk]at B;simp at B
  ·dsimp only at j g;have hlen:(s.done++[s.cur]).length=s.done.length+1:=by simp
   by_cases hi:i+1<(s.done++[s.cur]).length
   ·rw[zA (by omega)]at j;rw[zA hi]at g;exact h.next i a b y j g w
   ·have C:=(zD.1 g).1;simp only[zK,zU]at C hi;have D:i=s.done.length:=by omega
    subst D;rw[zA (by simp),zF (zH _)]at j;rw[zF (by simp)]at g;simp at j g;subst j g;simp at w;subst w;rw[<-h.cost];exact L
 ·rename_i hc;refine⟨by rw[<-yE,h.flat],by rw[Zcf,h.cost],fun e=>(by simp at e),h.ne,fun k hk B=>?_,fun i a b y j g w=>?_⟩
  ·rcases zN.1 hk with hk|hk
   ·exact h.fit k (List.mem_append_left _ hk) B
   ·rw[zL.1 hk]at B ⊢;have E:s.cur≠[]:=fun e=>by rw[e]at B;simp at B
    rw[Zcf,<-h.cost];simp only[ne_eq,E,not_false_eq_true,true_and]at hc;omega
  ·dsimp only at j g;by_cases hi:i+1<s.done.length
   ·rw[zA (by omega)]at j;rw[zA hi]at g;exact h.next i a b y (by rw[zA (by omega)];exact j) (by rw[zA hi];exact g) w
   ·have C:=(zD.1 g).1;simp only[zK,zU]at C hi;have D:i+1=s.done.length:=by omega
    rw[zA (by omega)]at j;rw[D,zF (zH _)]at g;simp at g;subst g
    cases u:s.cur with
    |nil =>
     have:=h.emp u;rw[this]at D;simp at D
    |cons z t =>
     rw[u]at w;simp at w;subst w;exact h.next i a s.cur z (by rw[zA (by omega)];exact j) (by rw[D,zF (zH _)];simp) (by rw[u];rfl)
theorem ZkV (l:List α):CkOk c mem l (Ys c mem l):=by
 have:∀ (r d:List α) (s:Ck α),CkOk c mem d s->CkOk c mem (d++r) (r.foldl (Gp c mem) s):=by
  intro r
  induction r with
  |nil=>intro d s h;simpa using h
  |cons x r g =>
   intro d s h;have:=g (d++[x]) _ (Zwj c mem h x);simpa using this
 have h:=this l [] _ (ZtT c mem);simpa[Ys]using h
theorem ZgL (l:List α)(x:α):Ys c mem (l++[x])=Gp c mem (Ys c mem l) x:=by simp[Ys]
theorem Zre (s:Ck α)(x:α):(Gp c mem s x).cur≠[]:=by unfold Gp;split <;> simp
theorem Zxr {l:List α}(h:l≠[]):(Ys c mem l).cur≠[]:=by
 obtain⟨x,g,rfl⟩:∃ x g,l=g++[x]:=⟨l.getLast h,l.dropLast,(List.dropLast_concat_getLast h).symm⟩;rw[ZgL];exact Zre c mem _ x
end
def RJ (w i q:Nat):List Nat:=xK (q*w) (min w (i-q*w))
def cnt (w i:Nat):Nat:=(i+w-1) / w
def VC (w i:Nat):List (List Nat):=(xN (cnt w i)).map (RJ w i)
theorem Zl3 {w:Nat}(hw:0<w):cnt w 0=0:=by unfold cnt;exact zV (by omega)
theorem Zwm {w i:Nat}(hw:0<w)(h:i % w=0):cnt w i=i / w/\cnt w (i+1)=i / w+1:=by
 obtain⟨q,rfl⟩:∃ q,i=w*q:=⟨i / w,by have:=zO i w;omega⟩;unfold cnt;constructor
 ·rw[yI q hw,show w*q+w-1=w*q+(w-1) by omega,yA hw];rw[zV (by omega)];omega
 ·rw[yI q hw,show w*q+1+w-1=w*q+w by omega,yA hw,Nat.div_self hw]
theorem Zwn {w i:Nat}(hw:0<w)(h:i % w≠0):cnt w i=i / w+1/\cnt w (i+1)=i / w+1:=by
 have g:=zO i w;have j:=xB i hw;generalize i / w=q at g ⊢;generalize i % w=r at g j h;subst g;unfold cnt;constructor
 ·rw[show w*q+r+w-1=w*q+(w+(r-1)) by omega,yA hw,xA _ hw,zV (by omega)]
 ·rw[show w*q+r+1+w-1=w*q+(w+r) by omega,yA hw,xA _ hw,zV (by omega)]
theorem Oc {w i q:Nat}(h:(q+1)*w<=i):RJ w i q=xK (q*w) w:=by
 unfold RJ;rw[xL,xM]at h;rw[Nat.min_eq_left (by omega)]
theorem Zv7 {w i:Nat}(hw:0<w)(h:i % w=0):VC w (i+1)=VC w i++[[i]]:=by
 obtain⟨u,y⟩:=Zwm hw h;have g:=zO i w;rw[h,Nat.add_zero]at g;unfold VC;rw[u,y,yL,yM];congr 1
 ·refine yT fun q j=>?_;have j:=xD.1 j;have:(q+1)*w<=i:=by rw[<-g,zS w];exact yQ _ j
  rw[Oc this,Oc (by omega)]
 ·simp only[xI,xJ,RJ];rw[zS,g,Nat.add_sub_cancel_left,yG (by omega)];rfl
theorem Zv8 {w i:Nat}(hw:0<w)(h:i % w≠0):∃ A g,VC w i=A++[g]/\VC w (i+1)=A++[g++[i]]/\g.length<w:=by
 obtain⟨u,y⟩:=Zwn hw h;have z:=zO i w;have B:=xB i hw;refine⟨(xN (i / w)).map (RJ w i),RJ w i (i / w),?_,?_,?_⟩
 ·unfold VC;rw[u,yL,yM];rfl
 ·unfold VC;rw[y,yL,yM];congr 1
  ·refine yT fun q j=>?_;have j:=xD.1 j
   have:(q+1)*w<=i:=by
    have:(q+1)*w<=w*(i / w):=by rw[zS w];exact yQ _ j
    omega
   rw[Oc this,Oc (by omega)]
  ·simp only[xI,xJ,RJ];have e:i / w*w=w*(i / w):=zS _ _;rw[e,yG (by omega),yG (by omega),show i+1-w*(i / w)=(i-w*(i / w))+1 by omega,List.range'_concat];congr 3;omega
 ·unfold RJ;rw[yV];have e:i / w*w=w*(i / w):=zS _ _;omega
theorem ZfR (w i:Nat):(VC w i).length=cnt w i:=by simp[VC]
theorem Zv6 {w i q:Nat}(h:q<cnt w i):(VC w i)[q]?=some (RJ w i q):=by simp[VC,h]
theorem ZwC {w i q k:Nat}(h:k<(RJ w i q).length):(RJ w i q)[k]?=some (q*w+k):=by
 unfold RJ at h ⊢;rw[yV]at h;rw[List.getElem?_range' h];simp
theorem Zcd {w i q:Nat}(hw:0<w)(h:q<cnt w i):q*w<i:=by
 unfold cnt at h;have g:(q+1)*w<=i+w-1:=(Nat.le_div_iff_mul_le hw).1 h;rw[xL,xM]at g;omega
theorem Zl1 {w i:Nat}(hw:0<w):i<=cnt w i*w:=by
 unfold cnt;have h:=zO (i+w-1) w;have:=xB (i+w-1) hw;rw[zS];omega
theorem ZwD {w i q:Nat}:(RJ w i q).length=min w (i-q*w):=by simp[RJ]
end Go.Am
