/- Temporary files in the machine -/
import Derived.Test.YtnaneekpogohaaaGreatDoorXeQbx
import Derived.Test.YtnaneekpogohaaaGreatDoorXeGXx
import Derived.Test.YtnaneekpogohaaaGreatDoorXeEx
import Derived.Test.YtnaneekpogohaaaGreatDoorXeMzx
import Derived.Test.YtnaneekpogohaaaGreatDoorHmXx
open Go.Am.AV renaming int->J
open Go.IntKind renaming i64->xP
open Go.IntKind renaming i64->xO
open List renaming getElem?_append_left->zA,filter_cons->zB,pairwise_cons->zC,getElem?_eq_some_iff->zD,mem_cons->zE,getElem?_append_right->zF,length_nil->zG,length_take->zI,length_cons->zJ,length_append->zK,mem_singleton->zL,length_drop->zM,mem_append->zN,filter_append->zP,getElem?_cons_zero->zQ,getElem?_cons_succ->zR,take_append_drop->zT,length_singleton->zU,getElem?_of_mem->zW,mem_of_mem_take->zX,mem_of_mem_drop->zY,mem_filter->zZ,append_assoc->yE,length_eq_zero_iff->yH,filter_eq_nil_iff->yJ,nil_append->yK,range_succ->yL,map_append->yM,pairwise_append->yO,mem_of_getElem?->yP,all_cons->yR,map_congr_left->yT,getElem?_drop->yU,length_range'->yV,isEmpty_cons->yX,cons_append->yZ,mapM_cons->xC,mem_range->xD,mapM_nil->xG,map_cons->xI,map_nil->xJ,range'->xK,range->xN
open Nat renaming le_refl->zH,div_add_mod->zO,mul_comm->zS,div_eq_of_lt->zV,mul_add_div->yA,zero_add->yB,min_eq_right->yG,mul_div_cancel_left->yI,mul_le_mul_right->yQ,le_trans->yW,le_add_right->yY,add_div_left->xA,mod_lt->xB,add_mul->xL,one_mul->xM
open Bool renaming not_false->yC,false_eq_true->yD,true_and->yF,or_assoc->xE,not_true->xF
open Int renaming le_refl->yN
open Go.Am.AObj renaming cells->yS,dead->xH
namespace Go.Am
set_option linter.unusedSectionVars false
set_option maxRecDepth 100000
theorem SysAt.same {H H':Hp}{o t:Nat}{tm:Tmp}{s':Sto}{B S:List Nat}(j:TmpAt H o t tm B)(g:∀ a∈B,a∉S)(hr:StoRes H H' t s' S S):SysAt H' o t tm s' (B++S) :=
 ⟨B,S,j.stp hr.stp g,hr.at',g,rfl⟩
section
variable {H:Hp}{o t:Nat}{tm:Tmp}{s:Sto}{A:List Nat}(h:SysAt H o t tm s A)(hm:TmpOk tm)(hk:StoOk s)(n:Zm)
include h hm hk
theorem ZnJ (hf:YI tm n=0)(hc:s.tick.crashed=true)(i:Int)(hi:-9223372036854775808<=i/\i<=9223372036854775807) :
 ∃ H',VL [.ptr o 0,.str n,J xP i] H=some (.tuple [.str [],J xP 0,J xP 19],H')/\SysAt H' o t tm s.tick A/\Stp A H H':=by
 obtain⟨B,S,g,D,E,rfl⟩:=h;have F:=g;obtain⟨M,z,N,sl,g,rfl⟩:=g;have j:=SW g hm n;have L:=ZN g.cells 0 (v:=.ptr t 0) rfl;have e0:(YI tm n != 0)=false:=by rw[hf];rfl
 have C:((19:Int) != 0)=true:=rfl;obtain⟨H1,w,y⟩:=Zgv D hk n i 4102 hi;have u:s.read n i 4102=([],19):=by unfold Sto.read;rw[if_pos hc]
 rw[u]at w;refine⟨H1,?_,SysAt.same F E y,y.stp.mono fun a I=>by simp[I]⟩;rw[GT];unfold Jv;simp only[j,go_sem,e0,yB,Ur,L,w,zQ,zR,C]
theorem Zk1 (hf:YI tm n=0)(hc:s.tick.crashed=false){f:Fil}(hg:ZP s.files n=some f){p:Zm}{rest:List Zm}(D:f.text=p++ZX rest)(hfit:YU rest=true)(hlen:f.text.length<=262144) :
 ∃ H',VL [.ptr o 0,.str n,J xP (p.length:Int)] H=some (match rest with
  |[]=>.tuple [.str [],J xP 0,J xP 5]
  |l::_=>.tuple [.str l,J xP ((p++X3 l).length:Int),J xP 0],H')/\SysAt H' o t tm s.tick A/\Stp A H H':=by
 obtain⟨B,S,j,N,O,rfl⟩:=h;have Q:=j;obtain⟨W,M,X,sl,j,rfl⟩:=j;have u:=SW j hm n;have I:=ZN j.cells 0 (v:=.ptr t 0) rfl;have e0:(YI tm n != 0)=false:=by rw[hf];rfl
 have F:((0:Int) != 0)=false:=rfl;have V:p.length<=f.text.length:=by rw[D];simp
 obtain⟨H1,E,L⟩:=Zgv N hk n (p.length:Int) 4102 (by omega)
 have z:s.read n (p.length:Int) 4102=((ZX rest).take 4102,0):=by
  unfold Sto.read;rw[if_neg (by simp[hc]),hg];dsimp only;rw[if_neg (by omega),Int.toNat_natCast,D,List.drop_append_of_le_length (zH _),List.drop_length];rfl
 rw[z]at E;refine⟨H1,?_,SysAt.same Q O L,L.stp.mono fun a R=>by simp[R]⟩;rw[GT];unfold Jv
 cases rest with
 |nil =>
  have g:((ZX ([]:List Zm)).take 4102==([]:Zm))=true:=rfl;simp only[u,go_sem,e0,yB,Ur,I,E,zQ,zR,F,GJ,g]
 |cons l r =>
  have U:l.length<=4096:=by
   simp only[YU,yR,Bool.and_eq_true,decide_eq_true_eq]at hfit;exact hfit.1
  have y:(ZX (l::r)).take 4102=X3 l++(ZX r).take (4102-(X3 l).length):=by
   show (X3 l++ZX r).take 4102=_;rw[List.take_append,List.take_of_length_le (by rw[B8];omega)]
  have g:((ZX (l::r)).take 4102==([]:Zm))=false:=by
   rw[y];have:(X3 l).length≠0:=by rw[B8];omega
   cases hr:X3 l with
   |nil=>rw[hr]at this;simp at this
   |cons a b=>rfl
  have w:=Ztu l ((ZX r).take (4102-(X3 l).length)) U (by
   rw[zI];omega) H1
  rw[<-y]at w
  have T:(ZX (l::r)).length<=262144:=by
   have:=congrArg List.length D;rw[zK]at this;omega
  have C:(X3 l).length=l.length+6:=B8 l
  have hw:xO.wrap ((p.length:Int)+((l.length+6:Nat):Int))=((p++X3 l).length:Int):=by
   rw[zK,C,Zp (by omega) (by omega)];omega
  simp only[u,go_sem,e0,yB,Ur,I,E,zQ,zR,F,GJ,g,ED,w,EF,hw]
end
abbrev J2 (o:Nat)(n:Zm)(i:Nat)(g u:Bool)(j:Zm):List AV:=[.ptr o 0,.str n,J xP (i:Int),.bool g,.bool u,.str j]
def Rdr (H:Hp)(r o:Nat)(n text:Zm)(rest:List Zm):Prop :=
 (∃ l q p,H[r]?=some (.cells (J2 o n (p++X3 l).length true false l))/\rest=l::q/\text=p++X3 l++ZX q) \/
 (rest=[]/\∃ p,H[r]?=some (.cells (J2 o n p false true []))) \/
 ∃ p,H[r]?=some (.cells (J2 o n p.length false false []))/\text=p++ZX rest
theorem Rdr.cells {H:Hp}{r o:Nat}{n text:Zm}{rest:List Zm}(h:Rdr H r o n text rest):∃ c,H[r]?=some (.cells c):=by
 rcases h with ⟨l,q,p,h,_⟩|⟨_,p,h⟩|⟨p,h,_⟩ <;> exact⟨_,h⟩
theorem Rdr.frame {H H':Hp}{r o:Nat}{n text:Zm}{rest:List Zm}(h:Rdr H r o n text rest)(hf:H'[r]?=H[r]?):Rdr H' r o n text rest:=by
 unfold Rdr at h ⊢;rw[hf];exact h
section
variable {H:Hp}{o t:Nat}{tm:Tmp}{s:Sto}{A:List Nat}(h:SysAt H o t tm s A)(hm:TmpOk tm)(hk:StoOk s){n:Zm}{r:Nat}{f:Fil}{rest:List Zm}
 (hr:Rdr H r o n f.text rest) (hrA:r∉A) (hf:YI tm n=0) (hc:s.crashed=false) (h0:s.count=0) (hg:ZP s.files n=some f) (hfit:YU rest=true) (hlen:f.text.length<=262144)
include h hm hk hr hrA hf hc h0 hg hfit hlen
end
structure Cm {α:Type}(f:α->α->Int):Prop where
 one:∀ a b,f a b=-1\/f a b=0\/f a b=1
 sym:∀ a b,f b a=-f a b
 tr:∀ a b c,f a b<=0->f b c<=0->f a c<=0/\(f a c<0↔f a b<0\/f b c<0)
theorem Cm.of {α:Type}{f g:α->α->Int}(h:Cm f)(e:∀ a b,g a b=f a b):Cm g:=by
 have:g=f:=funext fun a=>funext fun b=>e a b;rw[this];exact h
theorem Cm.comap {α β:Type}{f:β->β->Int}(h:Cm f)(g:α->β):Cm fun a b=>f (g a) (g b) :=
 ⟨fun a b=>h.one _ _,fun a b=>h.sym _ _,fun a b c=>h.tr _ _ _⟩
theorem Cm.tr2 {α:Type}{f:α->α->Int}(h:Cm f)(a b c:α)(w:0<=f a b)(y:0<=f b c):0<=f a c/\(0<f a c↔0<f a b\/0<f b c):=by
 have g:=h.sym a b;have j:=h.sym b c;have u:=h.sym a c;have:=h.tr c b a (by omega) (by omega);omega
theorem Cm.self {α:Type}{f:α->α->Int}(h:Cm f)(a:α):f a a=0:=by
 have:=h.sym a a;omega
theorem Cm.neg {α:Type}{f:α->α->Int}(h:Cm f):Cm fun a b=>-f a b:=by
 refine⟨fun a b=>?_,fun a b=>?_,fun a b c g j=>?_⟩
 ·have:=h.one a b;show -f a b=_\/-f a b=_\/-f a b=_;omega
 ·have:=h.sym a b;show -f b a=- -f a b;omega
 ·have:=h.tr2 a b c (by omega) (by omega);show -f a c<=0/\(-f a c<0↔-f a b<0\/-f b c<0);omega
theorem Cm.lex {α:Type}{f g:α->α->Int}(h:Cm f)(k:Cm g):Cm fun a b=>if (f a b != 0)=true then f a b else g a b:=by
 have e:∀ a b,(if (f a b != 0)=true then f a b else g a b)=if f a b=0 then g a b else f a b:=fun a b=>by
  by_cases h0:f a b=0 <;> simp[h0]
 refine Cm.of (f:=fun a b=>if f a b=0 then g a b else f a b) ⟨fun a b=>?_,fun a b=>?_,fun a b c=>?_⟩ e
 ·show (if f a b=0 then g a b else f a b)=-1\/_\/_;have j:=h.one a b;have u:=k.one a b;split <;> assumption
 ·show (if f b a=0 then g b a else f b a)=-(if f a b=0 then g a b else f a b);have j:=h.sym a b;have u:=k.sym a b;split <;> split <;> omega
 ·show (if f a b=0 then g a b else f a b)<=0->(if f b c=0 then g b c else f b c)<=0->(if f a c=0 then g a c else f a c)<=0/\((if f a c=0 then g a c else f a c)<0↔(if f a b=0 then g a b else f a b)<0\/(if f b c=0 then g b c else f b c)<0);have j:=h.tr a b c;have u:=k.tr a b c;intro w y;by_cases z:f a b=0 <;> by_cases B:f b c=0 <;> by_cases z3:f a c=0 <;> simp only[z,B,z3,if_true,if_false]at w y ⊢ <;> omega
theorem sgnS_cm:Cm Iw:=by
 refine⟨Znl,fun a b=>?_,fun a b c=>?_⟩
 ·unfold Iw;split <;> split <;> (try split) <;> (try split) <;> omega
 ·unfold Iw;intro B C;by_cases g:a<b <;> by_cases j:b<a <;> by_cases u:b<c <;> by_cases w:c<b <;> by_cases y:a<c <;> by_cases z:c<a <;> simp only[g,j,u,w,y,z,if_true,if_false]at B C ⊢ <;> omega
theorem ordS_cm:Cm Uo:=by
 refine⟨Zh1,?_,?_⟩
 ·intro a
  induction a with
  |nil=>intro b;cases b <;> simp[Uo]
  |cons x a g =>
   intro b
   cases b with
   |nil=>simp[Uo]
   |cons y b =>
    rw[JP,JP];have:=g b;split <;> split <;> (try split) <;> (try split) <;> omega
 ·intro a
  induction a with
  |nil=>intro b c;cases b <;> cases c <;> simp[Uo]
  |cons x a g =>
   intro b c
   cases b with
   |nil=>cases c <;> simp[Uo]
   |cons y b =>
    cases c with
    |nil=>simp[Uo]
    |cons z c =>
     rw[JP,JP,JP];have:=g b c;intro E F;by_cases j:x<y <;> by_cases u:y<x <;> by_cases w:y<z <;> by_cases B:z<y <;> by_cases C:x<z <;> by_cases D:z<x <;> simp only[j,u,w,B,C,D,if_true,if_false]at E F ⊢ <;> omega
theorem Zxv:Cm K3:=(ordS_cm.comap ZzL).of fun a b=>(Zm3 a b).symm
theorem Zjt (L:Loc):Cm (Dz L):=(ordS_cm.comap (wS (Yh L))).lex Zxv
theorem ZkG (L:Loc)(n:Nat):Cm (Mo L n):=by
 cases g:n.testBit 0 with
 |true=>exact (sgnS_cm.comap Zr9).of fun a b=>by simp[Mo,g]
 |false=>exact ((Zjt L).comap (QM L n)).of fun a b=>by simp[Mo,g]
theorem ZkH (L:Loc)(n:Nat):Cm (QK L n):=by
 cases g:n.testBit 1 with
 |true=>exact (ZkG L n).neg.of fun a b=>by simp[QK,g]
 |false=>exact (ZkG L n).of fun a b=>by simp[QK,g]
theorem Zxw (L:Loc)(p:Spec):∀ l:List Ke,Cm fun a b=>Zai L p a b l:=by
 intro l
 induction l with
 |nil=>exact⟨fun _ _=>.inr (.inl rfl),fun _ _=>rfl,fun _ _ _ _ _=>⟨yN _,by simp[Zai]⟩⟩
 |cons k l g=>exact (((ZkH L (SX p k)).comap fun a=>ex a (fields a p.sep) k).lex g).of fun a b=>Zk8 L p a b k l
theorem ZvZ (L:Loc)(p:Spec):Cm (Ziu L p):=by
 cases g:(p.keys.length==0) with
 |true=>exact (ZkH L p.flags.toNat).of fun a b=>by simp only[Ziu,g,if_true]
 |false=>exact (Zxw L p p.keys).of fun a b=>by simp only[Ziu,g,yD,if_false]
theorem ZmO (L:Loc)(p:Spec):Cm (Wp L p):=ZvZ L (ZA p)
theorem ZlY (p:Spec):ZK (ZA p)=0:=by
 unfold ZA
 cases g:(ZK p != 0) with
 |true=>rfl
 |false=>simpa using g
theorem ZoV (p:Spec):ZA (ZA p)=ZA p:=by
 show (if (ZK (ZA p) != 0)=true then plainP else ZA p)=ZA p;rw[ZlY];rfl
theorem Zg3 (L:Loc)(p:Spec)(a b:List UInt8):Wp L (ZA p) a b=Wp L p a b:=by unfold Wp;rw[ZoV]
def Zir (L:Loc)(p:Spec)(a b:List UInt8):Int:=if (ZA p).flags.toNat.testBit 1 then -Dz L a b else Dz L a b
theorem ZvV (L:Loc)(p:Spec):Cm (Zir L p):=by
 cases g:(ZA p).flags.toNat.testBit 1 with
 |true=>exact (Zjt L).neg.of fun a b=>by simp[Zir,g]
 |false=>exact (Zjt L).of fun a b=>by simp[Zir,g]
theorem Iu {L:Loc}{p:Spec}(h:((ZA p).stab || (ZA p).uniq)=true)(a b:List UInt8):Y0 L p a b=Wp L p a b:=by
 unfold Y0;rw[Zg3,xE,h,Bool.or_true,if_pos rfl]
theorem ZoJ {L:Loc}{p:Spec}(h:((ZA p).stab || (ZA p).uniq)=false)(a b:List UInt8):Y0 L p a b=if (Wp L p a b != 0)=true then Wp L p a b else Zir L p a b:=by
 unfold Y0 Zir;rw[Zg3,xE,h,Bool.or_false]
theorem AA (L:Loc)(p:Spec):Cm (Y0 L p):=by
 cases g:((ZA p).stab || (ZA p).uniq) with
 |true=>exact (ZmO L p).of (Iu g)
 |false=>exact ((ZmO L p).lex (ZvV L p)).of (ZoJ g)
section
variable {α:Type}{f:α->α->Int}
def Rs (f:α->α->Int)(l:List α):Prop:=l.Pairwise fun a b=>f a b<=0
def YP (f:α->α->Int)(x y:α):Bool:=f x y==0
def mergeL (f:α->α->Int):List α->List α->List α
 |[],b=>b
 |a::l,[]=>a::l
 |a::l,b::m=>if 0<f a b then b::mergeL f (a::l) m else a::mergeL f l (b::m)
termination_by a b=>a.length+b.length
theorem Bu (b:List α):mergeL f [] b=b:=by rw[mergeL]
theorem Gd (a:List α):mergeL f a []=a:=by cases a <;> rw[mergeL]
theorem Xt (a b:α)(l m:List α):mergeL f (a::l) (b::m)=if 0<f a b then b::mergeL f (a::l) m else a::mergeL f l (b::m):=by rw[mergeL]
def QJ (f:α->α->Int):Nat->List α->List α
 |0,l=>l
 |n+1,l=>if l.length<2 then l else mergeL f (QJ f n (l.take (l.length / 2))) (QJ f n (l.drop (l.length / 2)))
def Kq (f:α->α->Int)(S:List α)(y:α):Nat->Nat
 |0=>0
 |k+1=>match S[k]? with
  |some s=>if 0<f s y then Kq f S y k else k+1
  |none=>Kq f S y k
def Im (f:α->α->Int)(S:List α)(y:α):List α:=S.take (Kq f S y S.length)++y::S.drop (Kq f S y S.length)
def Nf (f:α->α->Int)(l:List α):List α:=l.foldl (Im f) []
def Ks (g:α->α->Int)(out:List α)(x:α):Bool:=match out.getLast? with
 |some y=>g y x==0
 |none=>false
def Un (g:α->α->Int):List α->List α->List α
 |out,[]=>out
 |out,x::l=>Un g (if Ks g out x=true then out else out++[x]) l
variable (h:Cm f)
include h
theorem Cm.eqv_iff (x y:α):YP f x y=true↔f x y=0:=by unfold YP;rw[beq_iff_eq]
theorem Cm.le_trans {a b c:α}(g:f a b<=0)(j:f b c<=0):f a c<=0:=(h.tr a b c g j).1
theorem Cm.lt_le {a b c:α}(g:f a b<0)(j:f b c<=0):f a c<0:=(h.tr a b c (by omega) j).2.2 (.inl g)
theorem Cm.le_lt {a b c:α}(g:f a b<=0)(j:f b c<0):f a c<0:=(h.tr a b c g (by omega)).2.2 (.inr j)
theorem Zhb:∀ A B:List α,Rs f A->Rs f B->(∀ x,A.filter (YP f x)=B.filter (YP f x))->A=B:=by
 intro A;have self:∀ x,YP f x x=true:=fun x=>by rw[h.eqv_iff];exact h.self x
 induction A with
 |nil =>
  intro B _ _ hf
  cases B with
  |nil=>rfl
  |cons b B =>
   have:=hf b;rw[zB,self b]at this;simp at this
 |cons a A F =>
  intro B D E hf
  cases B with
  |nil =>
   have:=hf a;rw[zB,self a]at this;simp at this
  |cons b B =>
   have j:=zC.1 D;have u:=zC.1 E
   have z:b∈a::A:=by
    have g:b∈(b::B).filter (YP f b):=zZ.2 ⟨by simp,self b⟩;rw[<-hf b]at g;exact (zZ.1 g).1
   have w:a∈b::B:=by
    have g:a∈(a::A).filter (YP f a):=zZ.2 ⟨by simp,self a⟩;rw[hf a]at g;exact (zZ.1 g).1
   have g:f a b<=0:=by
    rcases zE.1 z with e|e
    ·rw[e,h.self];exact yN _
    ·exact j.1 b e
   have I:f b a<=0:=by
    rcases zE.1 w with e|e
    ·rw[e,h.self];exact yN _
    ·exact u.1 a e
   have C:f a b=0:=by have:=h.sym a b;omega
   have y:a=b:=by
    have:=hf a;rw[zB,self a,zB,(h.eqv_iff a b).2 C]at this;simp only[if_true,List.cons.injEq]at this;exact this.1
   subst y;congr 1;refine F B j.2 u.2 fun x=>?_;have:=hf x;rw[zB,zB]at this;split at this
   ·simpa using this
   ·exact this
theorem Zkw:∀ (A B:List α) (x:α),x∈mergeL f A B↔x∈A\/x∈B:=by
 intro A B x
 induction A,B using mergeL.induct f with
 |case1 b=>simp[Bu]
 |case2 a l=>simp[Gd]
 |case3 a l b m hc g =>
  rw[Xt,if_pos hc,zE,g];simp only[zE];constructor
  ·rintro (h|h|h) <;> simp[h]
  ·rintro (h|h|h) <;> simp[h]
 |case4 a l b m hc g =>
  rw[Xt,if_neg hc,zE,g];simp only[zE];constructor
  ·rintro (h|h|h) <;> simp[h]
  ·rintro ((h|h)|h) <;> simp[h]
theorem Ztl:∀ A B:List α,Rs f A->Rs f B->Rs f (mergeL f A B):=by
 intro A B
 induction A,B using mergeL.induct f with
 |case1 b=>intro _ z;rw[Bu];exact z
 |case2 a l=>intro w _;rw[Gd];exact w
 |case3 a l b m hc D =>
  intro w z;rw[Xt,if_pos hc];have j:=zC.1 w;have u:=zC.1 z;refine zC.2 ⟨fun y g=>?_,D w u.2⟩;rcases (Zkw h _ _ y).1 g with g|g
  ·have C:f b a<0:=by have:=h.sym a b;omega
   rcases zE.1 g with e|e
   ·rw[e];omega
   ·have:=h.lt_le C (j.1 y e);omega
  ·exact u.1 y g
 |case4 a l b m hc D =>
  intro w z;rw[Xt,if_neg hc];have j:=zC.1 w;have u:=zC.1 z;refine zC.2 ⟨fun y g=>?_,D j.2 z⟩;rcases (Zkw h _ _ y).1 g with g|g
  ·exact j.1 y g
  ·rcases zE.1 g with e|e
   ·rw[e];omega
   ·exact h.le_trans (by omega) (u.1 y e)
theorem ZmT (x:α):∀ A B:List α,Rs f A->(mergeL f A B).filter (YP f x)=A.filter (YP f x)++B.filter (YP f x):=by
 intro A B
 induction A,B using mergeL.induct f with
 |case1 b=>intro _;rw[Bu];simp
 |case2 a l=>intro _;rw[Gd];simp
 |case3 a l b m hc D =>
  intro w;have g:=zC.1 w;rw[Xt,if_pos hc,zB,D w]
  cases z:YP f x b with
  |false=>simp only[zB,z,yD,if_false]
  |true =>
   rw[h.eqv_iff]at z;have j:f b a<0:=by have:=h.sym a b;omega
   have u:(a::l).filter (YP f x)=[]:=by
    rw[yJ];intro y F C;rw[h.eqv_iff]at C
    have E:f b y<0:=by
     rcases zE.1 F with e|e
     ·rw[e];exact j
     ·exact h.lt_le j (g.1 y e)
    have I:=h.le_lt (a:=x) (b:=b) (c:=y) (by omega) E;omega
   rw[u];simp[zB,(h.eqv_iff x b).2 z]
 |case4 a l b m hc D =>
  intro w;have g:=zC.1 w;rw[Xt,if_neg hc,zB,D g.2,zB (xs:=l)];split <;> simp
theorem ZqV:∀ (n:Nat) (l:List α),l.length<=n->Rs f (QJ f n l)/\∀ x,(QJ f n l).filter (YP f x)=l.filter (YP f x):=by
 intro n
 induction n with
 |zero=>intro l B;have:l=[]:=yH.1 (by omega);subst this;exact⟨List.Pairwise.nil,fun _=>rfl⟩
 |succ n u =>
  intro l B;unfold QJ;split
  ·rename_i j;refine⟨?_,fun _=>rfl⟩
   match l,j with
   |[],_=>exact List.Pairwise.nil
   |[a],_=>exact List.pairwise_singleton _ _
  ·rename_i j;obtain⟨g,w⟩:=u (l.take (l.length / 2)) (by rw[zI];omega);obtain⟨y,z⟩:=u (l.drop (l.length / 2)) (by rw[zM];omega);refine⟨Ztl h _ _ g y,fun x=>?_⟩;rw[ZmT h x _ _ g,w,z,<-zP,zT]
omit h in
theorem Zy1 (S:List α)(y:α):∀ k,Kq f S y k<=k:=by
 intro k
 induction k with
 |zero=>exact zH _
 |succ k g =>
  unfold Kq;split
  ·split <;> omega
  ·omega
omit h in
theorem ZiF (S:List α)(y:α):∀ k,∀ j s,Kq f S y k<=j->j<k->S[j]?=some s->0<f s y:=by
 intro k
 induction k with
 |zero=>intro j s _ z;omega
 |succ k w =>
  intro j s g z u;unfold Kq at g;by_cases B:j=k
  ·subst B;rw[u]at g;simp only at g;split at g
   ·assumption
   ·omega
  ·split at g
   ·split at g
    ·exact w j s g (by omega) u
    ·omega
   ·exact w j s g (by omega) u
omit h in
theorem Zy0 (S:List α)(y:α):∀ k,Kq f S y k=0\/∃ s,S[Kq f S y k-1]?=some s/\f s y<=0:=by
 intro k
 induction k with
 |zero=>exact .inl rfl
 |succ k g =>
  unfold Kq;split
  ·rename_i s j;split
   ·exact g
   ·exact .inr ⟨s,by simpa using j,by omega⟩
  ·exact g
theorem ZxP {S:List α}(O:Rs f S)(y:α):Rs f (Im f S y):=by
 unfold Im;have X:=Zy1 (f:=f) S y S.length;have D:Rs f (S.take (Kq f S y S.length)++S.drop (Kq f S y S.length)):=by rw[zT];exact O
 obtain⟨Y,Z,s3⟩:=yO.1 D
 have u:∀ z∈S.drop (Kq f S y S.length),f y z<0:=fun z B=>by
  obtain⟨j,g⟩:=zW B;rw[yU]at g;have L:=(zD.1 g).1;have:=ZiF S y S.length _ z (yY _ _) L g;have:=h.sym z y;omega
 have w:∀ z∈S.take (Kq f S y S.length),f z y<=0:=fun z B=>by
  rcases Zy0 (f:=f) S y S.length with h0|⟨s,C,N⟩
  ·rw[h0]at B;simp at B
  ·obtain⟨j,g⟩:=zW B;obtain⟨E,W⟩:=zD.1 g;rw[zI]at E;rw[List.getElem?_take_of_lt (by omega)]at g;by_cases V:j=Kq f S y S.length-1
   ·rw[<-V,g]at C;injection C with C;rw[C];exact N
   ·have M:f z s<=0:=by
     obtain⟨F,R⟩:=zD.1 g;obtain⟨I,T⟩:=zD.1 C;rw[<-R,<-T];exact List.pairwise_iff_getElem.1 O _ _ F I (by omega)
    exact h.le_trans M N
 refine yO.2 ⟨Y,zC.2 ⟨fun z B=>by have:=u z B;omega,Z⟩,fun a Q b U=>?_⟩;rcases zE.1 U with e|e
 ·rw[e];exact w a Q
 ·exact s3 a Q b e
theorem ZqE (S:List α)(y x:α):(Im f S y).filter (YP f x)=S.filter (YP f x)++[y].filter (YP f x):=by
 unfold Im;have g:S.filter (YP f x)=(S.take (Kq f S y S.length)).filter (YP f x)++(S.drop (Kq f S y S.length)).filter (YP f x):=by rw[<-zP,zT]
 rw[g,zP,yE];congr 1;rw[zB,zB,List.filter_nil]
 cases B:YP f x y with
 |false=>simp
 |true =>
  rw[h.eqv_iff]at B
  have:(S.drop (Kq f S y S.length)).filter (YP f x)=[]:=by
   rw[yJ];intro z D C;rw[h.eqv_iff]at C;obtain⟨j,u⟩:=zW D;rw[yU]at u;have w:=(zD.1 u).1;have E:=ZiF S y S.length _ z (yY _ _) w u;have F:=h.sym z y;have I:=h.le_lt (a:=x) (b:=y) (c:=z) (by omega) (by omega);omega
  rw[this];simp
theorem ZmB:∀ (l S:List α),Rs f S->Rs f (l.foldl (Im f) S)/\∀ x,(l.foldl (Im f) S).filter (YP f x)=S.filter (YP f x)++l.filter (YP f x):=by
 intro l
 induction l with
 |nil=>intro S g;exact⟨g,fun x=>by simp⟩
 |cons y l j =>
  intro S g;obtain⟨a,b⟩:=j (Im f S y) (ZxP h g y);refine⟨a,fun x=>?_⟩;rw[List.foldl_cons,b,ZqE h,yE,<-zP];rfl
theorem Ztn (l:List α){n:Nat}(y:l.length<=n):QJ f n l=Nf f l:=by
 obtain⟨g,j⟩:=ZqV h n l y;obtain⟨u,w⟩:=ZmB h l [] List.Pairwise.nil;exact Zhb h _ _ g u fun x=>by rw[j,show Nf f l=l.foldl (Im f) [] from rfl,w];rfl
end
structure Fv (K:AV->Prop)(t:Zl->Zl->Bool):Prop where
 close:∀ v,K v->∃ v',Ze [] 0 9 v=some v'/\K v'
 run:∀ v,K v->∀ a b:Zl,a.length<=1048576->b.length<=1048576->∀ H,Yf cfg (Zb cfg) v [.str a,.str b] H=some (.bool (t a b),H)
theorem Ztk {f:Zl->Zl->Int}:∀ A B:List Zl,(mergeL f A B).length=A.length+B.length:=by
 intro A B
 induction A,B using mergeL.induct f with
 |case1 b=>simp[Bu]
 |case2 a l=>simp[Gd]
 |case3 a l b m hc g=>rw[Xt,if_pos hc,zJ,g];simp only[zJ];omega
 |case4 a l b m hc g=>rw[Xt,if_neg hc,zJ,g];simp only[zJ];omega
theorem ZqR {f:Zl->Zl->Int}:∀ (A B:List Zl) (x:Zl),x∈mergeL f A B->x∈A\/x∈B:=by
 intro A B x
 induction A,B using mergeL.induct f with
 |case1 b=>simp[Bu]
 |case2 a l=>simp[Gd]
 |case3 a l b m hc g =>
  rw[Xt,if_pos hc,zE]
  rintro (h|h)
  ·exact .inr (by simp[h])
  ·rcases g h with h|h
   ·exact .inl h
   ·exact .inr (by simp[h])
 |case4 a l b m hc g =>
  rw[Xt,if_neg hc,zE]
  rintro (h|h)
  ·exact .inl (by simp[h])
  ·rcases g h with h|h
   ·exact .inl (by simp[h])
   ·exact .inr h
theorem Is {f:Zl->Zl->Int}:∀ (n:Nat) (l:List Zl),(QJ f n l).length=l.length/\∀ s∈QJ f n l,s∈l:=by
 intro n
 induction n with
 |zero=>intro l;exact⟨rfl,fun s h=>h⟩
 |succ n g =>
  intro l;unfold QJ;split
  ·exact⟨rfl,fun s h=>h⟩
  ·obtain⟨j,u⟩:=g (l.take (l.length / 2));obtain⟨w,y⟩:=g (l.drop (l.length / 2));refine⟨by rw[Ztk,j,w,zI,zM];omega,fun s z=>?_⟩;rcases ZqR _ _ s z with h|h
   ·exact zX (u s h)
   ·exact zY (y s h)
section
variable {K:AV->Prop}{f:Zl->Zl->Int}(hK:Fv K fun a b=>decide (0<f a b))
include hK
theorem ZqQ {v:AV}(hv:K v)(H0:Hp):∀ (A B g:List Zl) (T U V:AV) (H:Hp),SS T A->SS U B->RS H V g->We A->We B->g.length+A.length+B.length<=4194304 ->
 ∃ y H',YH v T U V H0 H=some (y,H')/\RS H' y (g++mergeL f A B):=by
 intro A B
 induction A,B using mergeL.induct f with
 |case1 B =>
  intro g T U V H u w I L M F;obtain⟨Y,H1,O,Q⟩:=I.app u (by omega);obtain⟨y2,Z,R,S⟩:=Q.app w (by simp at F ⊢;omega);refine⟨y2,Z,?_,by rw[Bu];simpa using S⟩;have j:=SS.len u 9;rw[YV];simp only[go_sem,j,zG,show decide ((0:Int)<((0:Nat):Int))=false from rfl,Uw,O,R]
 |case2 a l =>
  intro g T U V H u w I L M F;obtain⟨Y,H1,O,Q⟩:=I.app u (by simp at F ⊢;omega);obtain⟨y2,Z,R,S⟩:=Q.app w (by simp at F ⊢;omega);refine⟨y2,Z,?_,by rw[Gd];simpa using S⟩;have j:=SS.len u 9;have D:=SS.len w 9;have W:decide ((0:Int)<(((a::l).length:Nat):Int))=true:=by simp
  rw[YV];simp only[go_sem,j,D,W,zG,show decide ((0:Int)<((0:Nat):Int))=false from rfl,Uw,O,R]
 |case3 a l b m hc ih =>
  intro g T U V H u w I L M F;have j:=SS.len u 9;have D:=SS.len w 9;have W:decide ((0:Int)<(((a::l).length:Nat):Int))=true:=by simp
  have N:decide ((0:Int)<(((b::m).length:Nat):Int))=true:=by simp
  have z:=SS.idx u (i:=0) (s:=a) rfl;have C:=SS.idx w (i:=0) (s:=b) rfl;obtain⟨ab,X,r2⟩:=SS.lo w (n:=1) (by simp);have E:=hK.run v hv a b (L a (by simp)) (M b (by simp)) H;obtain⟨Y,H1,O,Q⟩:=I.app (ZiD b) (by simp at F ⊢;omega);obtain⟨y,H',R,S⟩:=ih (g++[b]) T ab Y H1 u r2 Q L (fun s hs=>M s (by simp[hs])) (by simp at F ⊢;omega);refine⟨y,H',?_,by rw[Xt,if_pos hc];simpa using S⟩;rw[show ((0:Nat):Int)=0 from rfl]at z C;rw[show ((1:Nat):Int)=1 from rfl]at X;rw[YV];simp only[go_sem,j,D,W,N,Ux,z,C,Zz,E,decide_eq_true hc,Rz,O,X,R]
 |case4 a l b m hc ih =>
  intro g T U V H u w I L M F;have j:=SS.len u 9;have D:=SS.len w 9;have W:decide ((0:Int)<(((a::l).length:Nat):Int))=true:=by simp
  have N:decide ((0:Int)<(((b::m).length:Nat):Int))=true:=by simp
  have z:=SS.idx u (i:=0) (s:=a) rfl;have C:=SS.idx w (i:=0) (s:=b) rfl;obtain⟨aa,X,r2⟩:=SS.lo u (n:=1) (by simp);have E:=hK.run v hv a b (L a (by simp)) (M b (by simp)) H;obtain⟨Y,H1,O,Q⟩:=I.app (ZiD a) (by simp at F ⊢;omega);obtain⟨y,H',R,S⟩:=ih (g++[a]) aa U Y H1 r2 w Q (fun s hs=>L s (by simp[hs])) M (by simp at F ⊢;omega);refine⟨y,H',?_,by rw[Xt,if_neg hc];simpa using S⟩;rw[show ((0:Nat):Int)=0 from rfl]at z C;rw[show ((1:Nat):Int)=1 from rfl]at X;rw[YV];simp only[go_sem,j,D,W,N,Ux,z,C,Zz,E,decide_eq_false hc,Rz,O,X,R]
theorem ZqU:∀ (n:Nat) (l:List Zl) (x v:AV),l.length<=n->l.length<=1048576->We l->SS x l->K v->∀ H,∃ y,Zh YO [x,v] H=some (y,H)/\SS y (QJ f n l):=by
 intro n
 induction n with
 |zero =>
  intro l x v hn S z U T H;have:l=[]:=yH.1 (by omega);subst this;obtain⟨x',E,g⟩:=SS.closed U [] 0 7;obtain⟨v',F,I⟩:=hK.close v T;obtain⟨y,V,W⟩:=Ec g S [];have L:=SS.len g 9;obtain⟨D,C,w⟩:=SS.closed W [] 0 7;refine⟨D,Mf E F ?_ C,w⟩;rw[Wc];unfold Xm;simp only[go_sem,L,zG,show decide (((0:Nat):Int)<2)=true from rfl,V]
 |succ n Y =>
  intro l x v hn S z U T H;obtain⟨x',E,g⟩:=SS.closed U [] 0 7;obtain⟨v',F,I⟩:=hK.close v T;have L:=SS.len g 9;unfold QJ;by_cases X:l.length<2
  ·have R:decide ((l.length:Int)<2)=true:=by simp;omega
   obtain⟨y,V,W⟩:=Ec g S [];obtain⟨D,C,w⟩:=SS.closed W [] 0 7;rw[if_pos X];refine⟨D,Mf E F ?_ C,w⟩;rw[Wc];unfold Xm;simp only[go_sem,L,R,V]
  ·rw[if_neg X];have R:decide ((l.length:Int)<2)=false:=by simp;omega
   have hq:Z5 .quo (J xP (l.length:Int)) (J xP 2)=some (J xP ((l.length / 2:Nat):Int)):=by
    simp[Z5,XB,XF];exact Zp (by omega) (by omega)
   obtain⟨xa,Z,a2⟩:=SS.hi g (n:=l.length / 2) (by omega);obtain⟨xb,b1,b2⟩:=SS.lo g (n:=l.length / 2) (by omega);obtain⟨ya,a3,a4⟩:=Y (l.take (l.length / 2)) xa v' (by rw[zI];omega) (by rw[zI];omega) (fun s u=>z s (zX u)) a2 I [];obtain⟨yb,b3,b4⟩:=Y (l.drop (l.length / 2)) xb v' (by rw[zM];omega) (by rw[zM];omega) (fun s u=>z s (zY u)) b2 I [];obtain⟨M,N⟩:=Is (f:=f) n (l.take (l.length / 2));obtain⟨O,Q⟩:=Is (f:=f) n (l.drop (l.length / 2))
   have j:K2 1 16 false (.str []) (J xP 0) (J xP (l.length:Int)) []=some (.vs 1 (.own 0 0) [],[.tok 0]):=by
    have hf:Xg (l.length:Int).toNat 16=true:=by simp[Xg];omega
    unfold K2;dsimp only;rw[if_pos ⟨yN _,by omega,rfl,rfl,by decide,hf⟩];simp
   have B:RS [AObj.tok 0] (.vs 1 (.own 0 0) []) []:=.inr ⟨0,0,rfl,rfl,zH _⟩
   obtain⟨y,H',C,w⟩:=ZqQ hK I [] (QJ f n (l.take (l.length / 2))) (QJ f n (l.drop (l.length / 2))) [] ya yb _ _ a4 b4 B
    (fun s u=>z s (zX (N s u))) (fun s u=>z s (zY (Q s u))) (by rw[M,O,zI,zM,zG];omega)
   rw[yK]at w;obtain⟨D,q3,q4⟩:=w.done H';refine⟨D,Mf E F ?_ q3,q4⟩;rw[Wc];unfold Xm;simp only[go_sem,L,R,Fm,hq,Z,a3,b1,b3,j,C]
end
theorem ZkC {g:Zl->Zl->Int}:∀ (l out:List Zl),(Un g out l).length<=out.length+l.length:=by
 intro l
 induction l with
 |nil=>intro out;simp[Un]
 |cons x l j =>
  intro out;unfold Un;refine yW (j _) ?_;split <;> simp <;> omega
theorem ZkD {g:Zl->Zl->Int}:∀ (l out:List Zl),∀ s∈Un g out l,s∈out\/s∈l:=by
 intro l
 induction l with
 |nil=>intro out s j;exact .inl j
 |cons x l u =>
  intro out s j;unfold Un at j;rcases u _ s j with h|h
  ·split at h
   ·exact .inl h
   ·rcases zN.1 h with h|h
    ·exact .inl h
    ·exact .inr (by rw[zL.1 h];simp)
  ·exact .inr (by simp[h])
theorem ZtA {K:AV->Prop}{g:Zl->Zl->Int}(hK:Fv K fun a b=>g a b==0){v:AV}(hv:K v){x:AV}{l:List Zl}(hx:SS x l)(hL:We l)(hl:l.length<=1048576)(V:Hp):∀ (r done out:List Zl) (N:AV) (H:Hp),l=done++r->RS H N out->We out->out.length<=done.length ->
 ∃ y H',Ws v N x (J xP (l.length:Int)) (J xP (done.length:Int)) V H=some (y,H')/\RS H' y (Un g out r):=by
 intro r
 induction r with
 |nil =>
  intro done out N H M L U Z;rw[List.append_nil]at M;subst M;have I:decide ((l.length:Int)<(l.length:Int))=false:=by simp
  refine⟨N,H,?_,L⟩;rw[JE];simp only[go_sem,I,Nl]
 |cons a r ih =>
  intro done out N H M L U Z;have hlen:l.length=done.length+(r.length+1):=by rw[M];simp
  have I:decide ((done.length:Int)<(l.length:Int))=true:=by simp;omega
  have ab:xO.wrap ((done.length:Int)+1)=((done.length+1:Nat):Int):=by rw[Zp (by omega) (by omega)];omega
  have R:l[done.length]?=some a:=by rw[M,zF (zH _)];simp
  have hi:=SS.idx hx R;have Q:a.length<=1048576:=hL a (yP R);have O:=SS.len L.sl 9;obtain⟨y1,H1,q1,q2⟩:=L.app (ZiD a) (by simp;omega)
  have w:∀ u F H',RS H' F u->We u->u.length<=done.length+1->∃ y j,Wq v F x (J xP (l.length:Int)) (J xP (done.length:Int)) V H'=some (y,j)/\RS j y (Un g u r):=fun u F H' h1 h2 h3=>by
   obtain⟨y,j,C,E⟩:=ih (done++[a]) u F H' (by rw[M];simp) h1 h2 (by simpa using h3);rw[zK,zU]at C;exact⟨y,j,by simp only[No,go_sem,ab,C],E⟩
  have B:We (out++[a]):=fun s hs=>by
   rcases zN.1 hs with h|h
   ·exact U s h
   ·rw[zL.1 h];exact Q
  have W:∃ y H',Uk v N x (J xP (l.length:Int)) (J xP (done.length:Int)) (.bool true) V H=some (y,H')/\RS H' y (Un g out (a::r)):=by
   rw[Nn];unfold Un
   cases D:out.getLast? with
   |none =>
    have:out=[]:=List.getLast?_eq_none_iff.1 D;subst this;rw[show Ks g [] a=false from rfl];obtain⟨y,j,C,E⟩:=w _ _ _ q2 B (by simp);refine⟨y,j,?_,by simpa using E⟩;simp only[go_sem,hi,Zz,O,zG,show (((0:Nat):Int)==0)=true from rfl,Rz,q1,C]
   |some z =>
    have Y:out≠[]:=fun e=>by subst e;simp at D
    have ad:0<out.length:=List.length_pos_iff.2 Y;have T:out[out.length-1]?=some z:=by rw[<-List.getLast?_eq_getElem?];exact D
    have h0:((out.length:Int)==0)=false:=by rw[beq_eq_false_iff_ne];omega
    have ac:xO.wrap ((out.length:Int)-1)=((out.length-1:Nat):Int):=by rw[Zp (by omega) (by omega)];omega
    have X:=SS.idx L.sl T;have S:=hK.run v hv z a (U z (yP T)) Q H;have aa:Ks g out a=(g z a==0):=by unfold Ks;rw[D]
    simp only[go_sem,hi,Zz,O,h0,ac,X,S,aa]
    cases hg:(g z a==0) with
    |true =>
     obtain⟨y,j,C,E⟩:=w _ _ _ L U (by omega);exact⟨y,j,by simp only[xF,go_sem,C],by simpa using E⟩
    |false =>
     obtain⟨y,j,C,E⟩:=w _ _ _ q2 B (by simp;omega);exact⟨y,j,by simp only[yC,go_sem,Rz,q1,C],by simpa using E⟩
  obtain⟨y,H',C,E⟩:=W;refine⟨y,H',?_,E⟩;rw[JE];simp only[go_sem,I,C]
theorem Ztz {K:AV->Prop}{g:Zl->Zl->Int}(hK:Fv K fun a b=>g a b==0){v:AV}(F:K v){x:AV}{l:List Zl}(I:SS x l)(C:We l)(D:l.length<=1048576)(H:Hp):∃ y,Zh UG [x,v] H=some (y,H)/\SS y (Un g [] l):=by
 obtain⟨R,w,j⟩:=SS.closed I [] 0 7;obtain⟨v',z,B⟩:=hK.close v F;obtain⟨y,H',u,L⟩:=ZtA hK B j C D [] l [] [] .nils [] rfl (RowN.nil _ _ _) (fun s E=>by cases E) (zH _);rw[zG,show ((0:Nat):Int)=0 from rfl]at u;obtain⟨Q,N,O⟩:=L.done H';refine⟨Q,Mf w z ?_ N,O⟩;have M:=SS.len j 9;rw[NO];unfold GS;simp only[go_sem,M,u]
def SpecCells (l:List AV)(p:Spec):Prop:=∃ x,l=p.cells x/\Sl 5 x (p.keys.map Ke.av)
theorem SpecCells.close {l:List AV}{p:Spec}(h:SpecCells l p)(H:Hp)(n f:Nat):∃ g,l.mapM (Ze H n (f+3))=some g/\SpecCells g p:=by
 obtain⟨x,rfl,y⟩:=h
 obtain⟨j,u,w⟩:=y.close (H:=H) (n:=n) (f:=f+2) (fun c hc=>by
  obtain⟨k,_,rfl⟩:=List.mem_map.1 hc;exact k.close H n f)
 refine⟨p.cells j,?_,j,rfl,w⟩;simp only[Spec.cells,xC,u,xG];rfl
def ClK (g:Nat)(L:Loc)(p:Spec)(v:AV):Prop:=∃ lc sc,v=.fn (.func g) [] [.vp lc,.vp sc]/\LocCells lc L/\SpecCells sc p
theorem Zq4 (H:Hp)(n f:Nat)(g:Fn)(a b:AV):Ze H n (f+1) (.fn g [] [a,b])=match Ze H n f a,Ze H n f b with
 |some a',some b'=>some (.fn g [] [a',b'])
 |_,_=>none:=by
 show (match ([]:List AV).mapM (Ze H n f),[a,b].mapM (Ze H n f) with
  |some a,some b=>some (AV.fn g a b)
  |_,_=>none)=_
 simp only[xG,xC];cases Ze H n f a <;> cases Ze H n f b <;> rfl
theorem ClK.close {g:Nat}{L:Loc}{p:Spec}{v:AV}(h:ClK g L p v):∃ v',Ze [] 0 9 v=some v'/\ClK g L p v':=by
 obtain⟨lc,sc,rfl,w,y⟩:=h;obtain⟨j,z,B⟩:=w.close [] 0 4;obtain⟨u,C,D⟩:=y.close [] 0 4;refine⟨.fn (.func g) [] [.vp j,.vp u],?_,j,u,rfl,B,D⟩;rw[Zq4,Qw,Qw,z,C]
theorem Zu5 (L:Loc)(w:LocOk L)(p:Spec)(u:∀ k∈p.keys,KeOk k):Fv (ClK 55 L p) fun a b=>decide (0<Y0 L p a b) where
 close:=fun v y=>ClK.close y
 run:=fun v y a b B C H=>by
  obtain⟨lc,sc,rfl,E,I⟩:=y;rw[Zgw];obtain⟨Q,N,O⟩:=E.close [] 0 5;obtain⟨T,R,S⟩:=I.close [] 0 5;obtain⟨x,c,e,rfl,M,hc,D⟩:=O;obtain⟨xs,rfl,z⟩:=S;have g:Ze [] 0 9 (.vp lc)=some (.vp (L.cells x c e)):=by rw[Qw,N]
  have j:Ze [] 0 9 (.vp sc)=some (.vp (p.cells xs)):=by rw[Qw,R]
  have F:=ZmZ (a:=.agg (L.cells x c e)) (L:=L) ⟨x,c,e,rfl,M,hc,D⟩ w (q:=.agg (p.cells xs)) (p:=p) ⟨xs,rfl,z⟩ u a b B C [];refine Zid (a':=.str a) (b':=.str b) rfl rfl g j (H1:=[]) ?_ rfl;rw[Zc4];unfold Sb;simp only[go_sem,Vz 6 (L.cells x c e) rfl,Vz 5 (p.cells xs) rfl,F]
theorem Zu6 (L:Loc)(w:LocOk L)(p:Spec)(u:∀ k∈p.keys,KeOk k):Fv (ClK 58 L p) fun a b=>Wp L p a b==0 where
 close:=fun v y=>ClK.close y
 run:=fun v y a b B C H=>by
  obtain⟨lc,sc,rfl,E,I⟩:=y;rw[Zgx];obtain⟨Q,N,O⟩:=E.close [] 0 5;obtain⟨T,R,S⟩:=I.close [] 0 5;obtain⟨x,c,e,rfl,M,hc,D⟩:=O;obtain⟨xs,rfl,z⟩:=S;have g:Ze [] 0 9 (.vp lc)=some (.vp (L.cells x c e)):=by rw[Qw,N]
  have j:Ze [] 0 9 (.vp sc)=some (.vp (p.cells xs)):=by rw[Qw,R]
  have F:=Zeh (a:=.agg (L.cells x c e)) (L:=L) ⟨x,c,e,rfl,M,hc,D⟩ w (q:=.agg (p.cells xs)) (p:=p) ⟨xs,rfl,z⟩ u a b B C [];refine Zid (a':=.str a) (b':=.str b) rfl rfl g j (H1:=[]) ?_ rfl;rw[Zc5];unfold Sd;simp only[go_sem,Vz 6 (L.cells x c e) rfl,Vz 5 (p.cells xs) rfl,F]
def ZO (L:Loc)(p:Spec)(l:List Zl):List Zl :=
 if (ZK p != 0)=true then l else if p.uniq then Un (Wp L p) [] (Nf (Y0 L p) l) else Nf (Y0 L p) l
theorem Zko (L:Loc)(p:Spec)(l:List Zl):QJ (Y0 L p) l.length l=Nf (Y0 L p) l:=Ztn (AA L p) l (zH _)
theorem Ap (L:Loc)(p:Spec)(l:List Zl):(Nf (Y0 L p) l).length=l.length/\∀ s∈Nf (Y0 L p) l,s∈l:=by
 rw[<-Zko];exact Is _ _
theorem ZyJ {f:List AV->Hp->Z4}{a a' b b' c c' v v':AV}{H H1:Hp}(g:Ze [] 0 9 a=some a')(j:Ze [] 0 9 b=some b')(u:Ze [] 0 9 c=some c')(hc:f [a',b',c'] []=some (v,H1))(w:Ze H1 0 9 v=some v'):Zh f [a,b,c] H=some (v',H) :=
 Na (args':=[a',b',c']) (by simp[g,j,u]) hc w
theorem ZeA {a:AV}{L:Loc}(h:LocAV a L)(C:LocOk L){q:AV}{p:Spec}(hq:SpecAV q p)(u:∀ k∈p.keys,KeOk k){x:AV}{l:List Zl}(hx:SS x l)(S:We l)(V:l.length<=1048576)(H:Hp) :
 ∃ y,Zh UA [a,q,x] H=some (y,H)/\SS y (ZO L p l):=by
 obtain⟨a1,h1,h2⟩:=h.close [] 0 5;obtain⟨q1,Z,R⟩:=hq.close [] 0 5;obtain⟨X,k1,W⟩:=SS.closed hx [] 0 7;have g:=fun H=>Eb R H;obtain⟨lx,c,e,rfl,B,hc,U⟩:=h2;obtain⟨xp,rfl,D⟩:=R
 suffices N:∃ y H1,UA [.agg (L.cells lx c e),.agg (p.cells xp),X] []=some (y,H1)/\SS y (ZO L p l) by
  obtain⟨y,H1,r1,r2⟩:=N;obtain⟨y',r3,r4⟩:=SS.closed r2 H1 0 7;exact⟨y',ZyJ h1 Z k1 r1 r3,r4⟩
 have w:Z3 true 5 (.ptr 1 0) [yS (L.cells lx c e),.cells (p.cells xp)]=some (.agg (p.cells xp)):=by simp[Z3,Go.Am.apart,Spec.cells]
 rw[Zf7];unfold IT ZO
 cases T:(ZK p != 0) with
 |true =>
  obtain⟨y,Q,E⟩:=Ec W V [yS (L.cells lx c e),.cells (p.cells xp)];refine⟨y,[yS (L.cells lx c e),.cells (p.cells xp)],?_,by rw[if_pos rfl];exact E⟩;simp only[go_sem,Yu,yK,zG,zJ,yZ,yB,w,g,T,Q]
 |false =>
  have M:∀ (k:AV->Hp->Z4),Qd (.ptr 0 0) [yS (L.cells lx c e),.cells (p.cells xp)] k=k (.vp (L.cells lx c e)) [.dead,.cells (p.cells xp)]:=fun k=>rfl;have j:∀ (k:AV->Hp->Z4),Qd (.ptr 1 0) [xH,.cells (p.cells xp)] k=k (.vp (p.cells xp)) [.dead,.dead]:=fun k=>rfl;have F:ClK 55 L p (.fn (.func 55) [] [.vp (L.cells lx c e),.vp (p.cells xp)]):=⟨_,_,rfl,⟨lx,c,e,rfl,B,hc,U⟩,⟨xp,rfl,D⟩⟩;have I:ClK 58 L p (.fn (.func 58) [] [.vp (L.cells lx c e),.vp (p.cells xp)]):=⟨_,_,rfl,⟨lx,c,e,rfl,B,hc,U⟩,⟨xp,rfl,D⟩⟩;obtain⟨y,Q,E⟩:=ZqU (Zu5 L C p u) l.length l X _ (zH _) V S W F [xH,.dead];rw[Zko]at E;obtain⟨f1,Y⟩:=Ap L p l;have O:Z6 3 (.vp (p.cells xp))=some (.vp [.bool p.uniq,.bool p.stab]):=rfl;simp only[go_sem,Yu,yK,zG,zJ,yZ,yB,w,g,T,Zeq,M,j,Q,O,Zz,yD,if_false]
  cases hu:p.uniq with
  |true =>
   obtain⟨z,o1,o2⟩:=Ztz (Zu6 L C p u) I E (fun s N=>S s (Y s N)) (by omega) [xH,.dead];exact⟨z,[.dead,.dead],by simp only[go_sem,o1,Mn],by simpa using o2⟩
  |false=>exact⟨y,[.dead,.dead],by simp only[go_sem,Mn],by simpa using E⟩
theorem Zlt:LocOk defL:=⟨by decide,by simp[defL],by simp[defL],by simp[defL],fun c hc=>(by cases hc),fun c hc=>(by cases hc),by simp[defL],by simp[defL]⟩
theorem Zzr (p:Spec)(h:p.keys=[]):SpecAV (.agg (p.cells .nils)) p:=⟨.nils,rfl,.inl ⟨rfl,by rw[h];rfl⟩⟩
theorem ZyU {p:Spec}(h:p.keys=[]):∀ k∈p.keys,KeOk k:=fun k hk=>by rw[h]at hk;cases hk
theorem Zte (l:List Zl)(t:Tok):SS (.vs 1 t (l.map AV.str)) l:=.inr ⟨t,rfl⟩
theorem Zez (L:Loc)(p:Spec)(l:List Zl):(ZO L p l).length<=l.length:=by
 obtain⟨j,u⟩:=Ap L p l;have:=ZkC (g:=Wp L p) (Nf (Y0 L p) l) [];unfold ZO;split
 ·exact zH _
 ·split
  ·simp at this;omega
  ·omega
def QR (s:List UInt8):Bool :=
 match s with
 |[]=>false
 |b::_=>decide (s.length<=16)&&!NH b.toNat&&s.all fun c=>WD c.toNat
theorem Zge (w z u B:AV)(y H:Hp):DP w z u B y H =
 Z0 (Zx w u) fun j =>
 Z0 (Ex j u) fun g =>
 Zj g (some ((.bool false),H)) (DQ w z u y H):=by
 rw[Zbn];simp only[Ex,M0,Vc]
theorem ZnF (s:List UInt8)(j:s.length<=4611686018427387904)(g H:Hp):DO (.str s) g H=some (.bool (!s.isEmpty&&decide (s.length<=16)),H):=by
 rw[Zbm]
 cases s with
 |nil=>simp[go_sem,YR,KX]
 |cons b l =>
  simp only[YR,KX,go_sem,Zk];have:(!((b::l)==([]:List UInt8)))=true:=rfl;have c:decide (((b::l).length:Int)<=16)=decide ((b::l).length<=16):=by rw[Bool.eq_iff_iff];simp;omega
  simp only[this,go_sem,c,yX,yC,yF]
theorem ZrB (s:List UInt8)(z:s.length<=4611686018427387904)(w H:Hp):∀ (k i:Nat),s.length-i=k->0<i->i<=s.length ->
 Jq (.str s) (J xP s.length) (J xP i) w H=some (.bool (((s.drop i).all fun c=>WD c.toNat)&&(!s.isEmpty&&decide (s.length<=16))),H):=by
 intro k
 induction k with
 |zero =>
  intro i hk h0 hi;rw[Uu];have g:decide ((i:Int)<(s.length:Int))=false:=by simp;omega
  have y:s.drop i=[]:=List.drop_eq_nil_iff.2 (by omega);simp only[go_sem,g,ZnF s z,y,List.all_nil,yF]
 |succ k B =>
  intro i hk h0 hi;rw[Uu];have u:i<s.length:=by omega
  have g:decide ((i:Int)<(s.length:Int))=true:=by simp;omega
  have hw:xO.wrap ((i:Int)+1)=((i+1:Nat):Int):=by rw[Zp (by omega) (by omega)];omega
  have j:((i:Int)==0)=false:=by simp;omega
  simp only[go_sem,g,Zge,ZW (List.getElem?_eq_getElem u),Ziy _ j];rw[List.drop_eq_getElem_cons u,yR]
  cases C:WD s[i].toNat with
  |false=>simp only[go_sem,yC,Bool.false_and]
  |true =>
   simp only[go_sem,xF,yF,P1,hw];exact B (i+1) (by omega) (by omega) (by omega)
theorem ZrC (s:List UInt8)(w:s.length<=4611686018427387904)(H:Hp):UH [.str s] H=some (.bool (QR s),H):=by
 rw[Zc7];unfold So;simp only[go_sem,Zk]
 cases s with
 |nil=>rw[Uu];simp[go_sem,ZnF [] (by simp),QR]
 |cons b l =>
  rw[Uu];have u:decide ((0:Int)<((b::l).length:Int))=true:=by simp
  have hw:xO.wrap ((0:Int)+1)=((0+1:Nat):Int):=by decide
  have j:Zx (.str (b::l)) (J xP 0)=some (.int .u8 b.toNat):=by simp[Zx]
  simp only[go_sem,u,Zge,j,Zg5]
  cases g:(!WD b.toNat || NH b.toNat) with
  |true =>
   have:QR (b::l)=false:=by
    unfold QR;simp only[Bool.or_eq_true,Bool.not_eq_true']at g;rcases g with g|g <;> simp[g]
   simp only[go_sem,this]
  |false =>
   simp only[Bool.or_eq_false_iff,Bool.not_eq_false']at g;simp only[go_sem,P1,hw];rw[ZrB (b::l) w H H l.length 1 (by simp) (by omega) (by simp)]
   have:QR (b::l)=(((b::l).drop 1).all (fun c=>WD c.toNat)&&(!(b::l).isEmpty&&decide ((b::l).length<=16))):=by
    unfold QR;simp only[g.1,g.2,yR,List.drop_one,List.tail_cons,yX,yC,yF,Bool.and_true];rw[Bool.and_comm]
   rw[this]
theorem ZkF (s:Zm)(g:s.length<=1048576)(H:Hp):Zh UH [.str s] H=some (.bool (QR s),H) :=
 XP (a':=.str s) rfl (H1:=[]) (ZrC s (by omega) []) rfl
theorem ZjZ (o:Nat)(n:Zm)(H:Hp):NC [.ptr o 0,.str n] H=some (.ptr H.length 0,H++[.cells (J2 o n 0 false false [])]):=by
 have g:Yr (.pointer 124) .eql (.ptr o 0) .nilp=some (.bool false):=rfl;have hf:(YS [(0,1,.ptr o 0),(1,1,.str n)] [.nilp,(.str []),(J xP 0),(.bool false),(.bool false),(.str [])]).map AV.agg=some (.agg (J2 o n 0 false false [])):=rfl;rw[Zjg];unfold ZfL;simp only[go_sem,g,ZiP,hf,Yu]
theorem Mk {H:Hp}{i:Nat}{L:Loc}{x c e:AV}(h:H[i]?=some (.cells (L.cells x c e))):Z3 true 6 (.ptr i 0) H=some (.agg (L.cells x c e)):=by
 rw[Yv h];simp[Go.Am.apart,Loc.cells]
theorem QE {H:Hp}{i:Nat}{p:Spec}{x:AV}(h:H[i]?=some (.cells (p.cells x))):Z3 true 5 (.ptr i 0) H=some (.agg (p.cells x)):=by
 rw[Yv h];simp[Go.Am.apart,Spec.cells]
theorem SysRes.trans {H H1 w:Hp}{o t:Nat}{tm1 g:Tmp}{z y:Sto}{A A1 A2:List Nat}(h:SysRes H H1 o t tm1 z A A1)(k:SysRes H1 w o t g y A1 A2):SysRes H w o t g y A A2 :=
 ⟨k.at',h.stp.trans k.stp (fun _ h=>h) fun a j=>h.own a j,fun a j=>by
  rcases k.own a j with u|u
  ·exact h.own a u
  ·exact .inr (yW h.stp.len u)⟩
theorem SysRes.pre {H H1 w:Hp}{o t:Nat}{g:Tmp}{y:Sto}{A A2:List Nat}(h:Stp A H H1)(k:SysRes H1 w o t g y A A2):SysRes H w o t g y A A2 :=
 ⟨k.at',h.trans k.stp (fun _ h=>h) fun a j=>.inl j,fun a j=>by
  rcases k.own a j with u|u
  ·exact .inl u
  ·exact .inr (yW h.len u)⟩
section
variable {α:Type}(c:α->Int)(mem:Int)
structure Ck (α:Type) where
 done:List (List α)
 cur:List α
 cost:Int
def GZ (s:Ck α)(x:α):Ck α :=
 if s.cur≠[]/\mem<s.cost+c x then ⟨s.done++[s.cur],[x],c x⟩ else ⟨s.done,s.cur++[x],s.cost+c x⟩
def Yy (l:List α):Ck α:=l.foldl (GZ c mem) ⟨[],[],0⟩
def Zah (s:Ck α):List (List α):=if s.cur=[] then s.done else s.done++[s.cur]
def W5 (l:List α):Int:=l.foldl (fun n x=>n+c x) 0
theorem ZdF (l:List α)(x:α):W5 c (l++[x])=W5 c l+c x:=by simp[W5]
structure CkOk (l:List α)(s:Ck α):Prop where
 flat:s.done.flatten++s.cur=l
 cost:s.cost=W5 c s.cur
 emp:s.cur=[]->s.done=[]
 ne:∀ k∈s.done,k≠[]
 fit:∀ k∈s.done++[s.cur],1<k.length->W5 c k<=mem
 next:∀ (i:Nat) (a b:List α) (x:α),(s.done++[s.cur])[i]?=some a->(s.done++[s.cur])[i+1]?=some b->b.head?=some x->mem<W5 c a+c x
theorem ZuX:CkOk c mem ([]:List α) ⟨[],[],0⟩:=by
 refine⟨rfl,rfl,fun _=>rfl,by simp,by simp,fun i a b x j g u=>?_⟩;simp at g
theorem Zxu {l:List α}{s:Ck α}(h:CkOk c mem l s)(x:α):CkOk c mem (l++[x]) (GZ c mem s x):=by
 unfold GZ;split
 ·rename_i hc;obtain⟨F,I⟩:=hc;refine⟨by simp[<-h.flat],by simp[W5],fun e=>(by simp at e),fun k hk=>?_,fun k hk B=>?_,fun i a b y j g w=>?_⟩
  ·rcases zN.1 hk with hk|hk
   ·exact h.ne k hk
   ·rw[zL.1 hk];exact F
  ·rcases zN.1 hk with hk|hk
   ·exact h.fit k hk B
   ·rw[zL.1 hk]at B;simp at B
  ·dsimp only at j g;have hlen:(s.done++[s.cur]).length=s.done.length+1:=by simp
   by_cases hi:i+1<(s.done++[s.cur]).length
   ·rw[zA (by omega)]at j;rw[zA hi]at g;exact h.next i a b y j g w
   ·have C:=(zD.1 g).1;simp only[zK,zU]at C hi;have D:i=s.done.length:=by omega
    subst D;rw[zA (by simp),zF (zH _)]at j;rw[zF (by simp)]at g;simp at j g;subst j g;simp at w;subst w;rw[<-h.cost];exact I
 ·rename_i hc;refine⟨by rw[<-yE,h.flat],by rw[ZdF,h.cost],fun e=>(by simp at e),h.ne,fun k hk B=>?_,fun i a b y j g w=>?_⟩
  ·rcases zN.1 hk with hk|hk
   ·exact h.fit k (List.mem_append_left _ hk) B
   ·rw[zL.1 hk]at B ⊢;have E:s.cur≠[]:=fun e=>by rw[e]at B;simp at B
    rw[ZdF,<-h.cost];simp only[ne_eq,E,not_false_eq_true,true_and]at hc;omega
  ·dsimp only at j g;by_cases hi:i+1<s.done.length
   ·rw[zA (by omega)]at j;rw[zA hi]at g;exact h.next i a b y (by rw[zA (by omega)];exact j) (by rw[zA hi];exact g) w
   ·have C:=(zD.1 g).1;simp only[zK,zU]at C hi;have D:i+1=s.done.length:=by omega
    rw[zA (by omega)]at j;rw[D,zF (zH _)]at g;simp at g;subst g
    cases u:s.cur with
    |nil =>
     have:=h.emp u;rw[this]at D;simp at D
    |cons z t =>
     rw[u]at w;simp at w;subst w;exact h.next i a s.cur z (by rw[zA (by omega)];exact j) (by rw[D,zF (zH _)];simp) (by rw[u];rfl)
theorem Zm0 (l:List α):CkOk c mem l (Yy c mem l):=by
 have:∀ (r d:List α) (s:Ck α),CkOk c mem d s->CkOk c mem (d++r) (r.foldl (GZ c mem) s):=by
  intro r
  induction r with
  |nil=>intro d s h;simpa using h
  |cons x r g =>
   intro d s h;have:=g (d++[x]) _ (Zxu c mem h x);simpa using this
 have h:=this l [] _ (ZuX c mem);simpa[Yy]using h
theorem ZhT (l:List α)(x:α):Yy c mem (l++[x])=GZ c mem (Yy c mem l) x:=by simp[Yy]
theorem Zsd (s:Ck α)(x:α):(GZ c mem s x).cur≠[]:=by unfold GZ;split <;> simp
theorem ZyB {l:List α}(h:l≠[]):(Yy c mem l).cur≠[]:=by
 obtain⟨x,g,rfl⟩:∃ x g,l=g++[x]:=⟨l.getLast h,l.dropLast,(List.dropLast_concat_getLast h).symm⟩;rw[ZhT];exact Zsd c mem _ x
end
def TF (w i q:Nat):List Nat:=xK (q*w) (min w (i-q*w))
def cnt (w i:Nat):Nat:=(i+w-1) / w
def U4 (w i:Nat):List (List Nat):=(xN (cnt w i)).map (TF w i)
theorem Zm8 {w:Nat}(hw:0<w):cnt w 0=0:=by unfold cnt;exact zV (by omega)
theorem Zxx {w i:Nat}(hw:0<w)(h:i % w=0):cnt w i=i / w/\cnt w (i+1)=i / w+1:=by
 obtain⟨q,rfl⟩:∃ q,i=w*q:=⟨i / w,by have:=zO i w;omega⟩;unfold cnt;constructor
 ·rw[yI q hw,show w*q+w-1=w*q+(w-1) by omega,yA hw];rw[zV (by omega)];omega
 ·rw[yI q hw,show w*q+1+w-1=w*q+w by omega,yA hw,Nat.div_self hw]
theorem Zxy {w i:Nat}(hw:0<w)(h:i % w≠0):cnt w i=i / w+1/\cnt w (i+1)=i / w+1:=by
 have g:=zO i w;have j:=xB i hw;generalize i / w=q at g ⊢;generalize i % w=r at g j h;subst g;unfold cnt;constructor
 ·rw[show w*q+r+w-1=w*q+(w+(r-1)) by omega,yA hw,xA _ hw,zV (by omega)]
 ·rw[show w*q+r+1+w-1=w*q+(w+r) by omega,yA hw,xA _ hw,zV (by omega)]
theorem ZaG {w i q:Nat}(h:(q+1)*w<=i):TF w i q=xK (q*w) w:=by
 unfold TF;rw[xL,xM]at h;rw[Nat.min_eq_left (by omega)]
theorem Zwe {w i:Nat}(hw:0<w)(h:i % w=0):U4 w (i+1)=U4 w i++[[i]]:=by
 obtain⟨u,y⟩:=Zxx hw h;have g:=zO i w;rw[h,Nat.add_zero]at g;unfold U4;rw[u,y,yL,yM];congr 1
 ·refine yT fun q j=>?_;have j:=xD.1 j;have:(q+1)*w<=i:=by rw[<-g,zS w];exact yQ _ j
  rw[ZaG this,ZaG (by omega)]
 ·simp only[xI,xJ,TF];rw[zS,g,Nat.add_sub_cancel_left,yG (by omega)];rfl
theorem Zwf {w i:Nat}(hw:0<w)(h:i % w≠0):∃ A g,U4 w i=A++[g]/\U4 w (i+1)=A++[g++[i]]/\g.length<w:=by
 obtain⟨u,y⟩:=Zxy hw h;have z:=zO i w;have B:=xB i hw;refine⟨(xN (i / w)).map (TF w i),TF w i (i / w),?_,?_,?_⟩
 ·unfold U4;rw[u,yL,yM];rfl
 ·unfold U4;rw[y,yL,yM];congr 1
  ·refine yT fun q j=>?_;have j:=xD.1 j
   have:(q+1)*w<=i:=by
    have:(q+1)*w<=w*(i / w):=by rw[zS w];exact yQ _ j
    omega
   rw[ZaG this,ZaG (by omega)]
  ·simp only[xI,xJ,TF];have e:i / w*w=w*(i / w):=zS _ _;rw[e,yG (by omega),yG (by omega),show i+1-w*(i / w)=(i-w*(i / w))+1 by omega,List.range'_concat];congr 3;omega
 ·unfold TF;rw[yV];have e:i / w*w=w*(i / w):=zS _ _;omega
theorem Zh3 (w i:Nat):(U4 w i).length=cnt w i:=by simp[U4]
theorem Zwd {w i q:Nat}(h:q<cnt w i):(U4 w i)[q]?=some (TF w i q):=by simp[U4,h]
theorem ZxN {w i q k:Nat}(h:k<(TF w i q).length):(TF w i q)[k]?=some (q*w+k):=by
 unfold TF at h ⊢;rw[yV]at h;rw[List.getElem?_range' h];simp
theorem ZdD {w i q:Nat}(hw:0<w)(h:q<cnt w i):q*w<i:=by
 unfold cnt at h;have g:(q+1)*w<=i+w-1:=(Nat.le_div_iff_mul_le hw).1 h;rw[xL,xM]at g;omega
theorem Zm6 {w i:Nat}(hw:0<w):i<=cnt w i*w:=by
 unfold cnt;have h:=zO (i+w-1) w;have:=xB (i+w-1) hw;rw[zS];omega
theorem ZxO {w i q:Nat}:(TF w i q).length=min w (i-q*w):=by simp[TF]
end Go.Am
