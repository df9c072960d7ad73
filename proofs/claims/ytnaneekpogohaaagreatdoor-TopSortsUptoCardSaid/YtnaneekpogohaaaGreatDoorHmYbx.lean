/- THE ABSTRACT MACHINE -/
import Derived.Test.YtnaneekpogohaaaGreatDoorHmYax
open List renaming mapM_cons->zC
open Nat renaming blt->zD
open Bool renaming and_eq_true->zA,false_eq_true->zB
namespace Go.Am
theorem ZR {α:Type}(x:Option α):Gr none x:=ZyK x
section
variable {C:Cfg}{n:Nat}
def FP.f (p:FP):AL->Option AV:=match p with|.mk f=>f
def FR.f (p:FR):AL->Hp->Option AV:=match p with|.mk f=>f
def FH.f (p:FH):Zw->AL->Hp->Option (AV×Hp):=match p with|.mk f=>f
theorem ZsC (g:List (Nat×Nat)):∀ (l:List (Nat×Operand)) (r:List (Nat×Nat×FA)),ZlK C n g l=some r ->
 ∃ m:List (Nat×Nat×Operand),r=m.map (fun p=>(p.1,p.2.1,cA C n p.2.2))/\∀ ev:Operand->AV,(l.map fun p=>(p.1,ev p.2)).mapM (fun p=>(g[p.1]?).map fun (q:Nat×Nat)=>(q.1,q.2,p.2))=some (m.map fun p=>(p.1,p.2.1,ev p.2.2)):=by
 intro l
 induction l with
 |nil=>intro r h;injection h with h;subst h;exact⟨[],rfl,fun ev=>rfl⟩
 |cons p l z =>
  intro r h
  have h:(match Fc g p.1,ZlK C n g l with
   |some q,some r=>some ((q.1,q.2,cA C n p.2)::r)
   |_,_=>none)=some r:=h
  rw[K7]at h;split at h
  ·rename_i q A y j;injection h with h;subst h;obtain⟨m,u,w⟩:=z _ j;refine⟨(q.1,q.2,p.2)::m,by rw[u];rfl,fun ev=>?_⟩;rw[List.map_cons,zC,w ev,y];rfl
  ·cases h
theorem ZsA (t:TypeId)(parts:List (Nat×Operand))(u:AL):Gr ((ZlH C n t parts).f u) (Es C.P t (parts.map fun p=>(p.1,Yx C n u p.2))):=by
 unfold ZlH;split
 ·rename_i zero fs F E;split
  ·rename_i j D;split
   ·rename_i z w;obtain⟨m,A,B⟩:=ZsC j parts z w;intro r g;have g:(match Zlh u z zero with|some l=>some (AV.agg l)|none=>none)=some r:=g;unfold Es;rw[F,E];dsimp only;rw[D];dsimp only;rw[B];dsimp only;split at g
    ·rename_i l y;rw[A]at y;rw[Zwc m zero _ y];exact g
    ·cases g
   ·exact ZR _
  ·exact ZR _
 ·intro r g;have g:Es C.P t (parts.map fun p=>(p.1,(cA C n p.2).get u))=some r:=g;simp only[ZM]at g;exact g
theorem Zq2 (t:TypeId)(len:Nat)(parts:List (Nat×Operand))(u:AL):Gr ((Zjg C n t len parts).f u) (Iu C.P t len (parts.map fun p=>(p.1,Yx C n u p.2))):=by
 unfold Zjg;split
 ·rename_i e w;split
  ·rename_i size z A B;split
   ·rename_i g;rw[zA,zA,zA,decide_eq_true_eq,ZmE]at g;intro r j;have j:(match Zli u size (parts.map fun p=>(p.1,cA C n p.2)) (List.replicate len z) with|some l=>some (AV.vs size .clip l)|none=>none)=some r:=j;unfold Iu;rw[w];dsimp only;rw[A,B];dsimp only;rw[if_pos ⟨g.1,g.2.1,g.2.2.1,Ew g.2.2.2⟩];split at j
    ·rename_i l y;rw[Zwl parts _ _ y];exact j
    ·cases j
   ·exact ZR _
  ·exact ZR _
 ·exact ZR _
theorem ZvA (op:Op)(u:AL):Gr ((Zq5 C n op).f u) (ZK C (Yx C n u) op):=by
 unfold Zq5;split
 ·rename_i op t x y _;simp only[ZK];split
  ·rename_i hi;rw[if_pos hi];split
   ·rename_i E;rw[if_pos E];intro r j;have j:OU op ((cA C n x).get u) ((cA C n y).get u)=some r:=j;rw[ZM,ZM]at j;exact j
   ·exact ZR _
  ·rename_i hi;rw[if_neg (by rw[hi];simp)];unfold Zpy;split
   ·rename_i k A;rw[A];intro r j;have j:fib op ((cA C n x).get u) ((cA C n y).get u)=some r:=j;rw[ZM,ZM]at j;exact Zzy _ _ _ _ j
   ·rename_i A;rw[A];intro r j;have j:fsb op ((cA C n x).get u) ((cA C n y).get u)=some r:=j;rw[ZM,ZM]at j;exact ZzB _ _ _ _ j
   ·rename_i A;rw[A];intro r j;have j:JL C.P C.eqok op t ((cA C n x).get u) ((cA C n y).get u)=some r:=j;rw[ZM,ZM]at j;exact j
   ·rename_i A;rw[A];intro r j;have j:JL C.P C.eqok op t ((cA C n x).get u) ((cA C n y).get u)=some r:=j;rw[ZM,ZM]at j;exact j
   ·rename_i d J K L M A;rw[A];intro r j;have j:Ys d op ((cA C n x).get u) ((cA C n y).get u)=some r:=j;rw[ZM,ZM]at j;cases d <;> first|exact j|(exact absurd rfl (J _))|(exact absurd rfl K)|(exact absurd rfl (L _))|(exact absurd rfl (M _ _))
   ·exact ZR _
 ·exact ZsA _ _ _
 ·exact Zq2 _ _ _ _
 ·rename_i t x f;simp only[ZK];split
  ·rename_i D H;rw[H];dsimp only;split
   ·rename_i sz w;rw[w];dsimp only;split
    ·rename_i O;rw[if_pos (Ew O)];intro r j;have j:Zdx D.offset ((cA C n x).get u)=some r:=j;rw[ZM]at j;exact Zk6 _ _ _ j
    ·exact ZR _
   ·exact ZR _
  ·exact ZR _
 ·rename_i t x f;simp only[ZK];split
  ·rename_i D H;rw[H];dsimp only;split
   ·rename_i g sz B w;rw[B,w];dsimp only;intro r j;have j:(match (cA C n x).get u with|.agg I=>Hm g sz I D.offset|_=>none)=some r:=j;rw[ZM]at j;unfold Pf;split at j
    ·rename_i I E;rw[E];rw[EY]at j;exact j
    ·cases j
   ·exact ZR _
  ·exact ZR _
 ·rename_i t x i;simp only[ZK];split
  ·rename_i e z;rw[z];dsimp only;split
   ·rename_i size w;rw[w];intro r j;have j:ZhV size ((cA C n x).get u) ((cA C n i).get u)=some r:=j;rw[ZM,ZM]at j;exact Ztk _ _ _ _ j
   ·exact ZR _
  ·rename_i len e z;rw[z];dsimp only;split
   ·rename_i size w;rw[w];intro r j;have j:Zep len size ((cA C n x).get u) ((cA C n i).get u)=some r:=j;rw[ZM,ZM]at j;exact ZqF _ _ _ _ _ j
   ·exact ZR _
  ·exact ZR _
 ·rename_i t x i;simp only[ZK];split
  ·rename_i z;rw[z];intro r j;have j:Hk ((cA C n x).get u) ((cA C n i).get u)=some r:=j;rw[ZM,ZM]at j;exact Zmp _ _ _ j
  ·rename_i len e z;rw[z];dsimp only;split
   ·rename_i g size B w;rw[B,w];intro r j;have j:Zeq g len size ((cA C n x).get u) ((cA C n i).get u)=some r:=j;rw[ZM,ZM]at j;exact ZqG _ _ _ _ _ _ j
   ·exact ZR _
  ·exact ZR _
 ·rename_i t x lo hi mx;simp only[ZK];split
  ·rename_i z;rw[z];intro r j;have j:Zjr ((cA C n x).get u) (Pv (lo.map (cA C n)) u) (Pv (hi.map (cA C n)) u) (Pv (mx.map (cA C n)) u)=some r:=j;rw[ZM,Pw,Pw,Pw,ZqP]at j;exact j
  ·rename_i e z;rw[z];dsimp only;split
   ·rename_i size w;rw[w];intro r j;have j:Zeu size ((cA C n x).get u) (Pv (lo.map (cA C n)) u) (Pv (hi.map (cA C n)) u) (Pv (mx.map (cA C n)) u)=some r:=j;rw[ZM,Pw,Pw,Pw]at j;exact ZqQ _ _ _ _ _ _ j
   ·exact ZR _
  ·exact ZR _
 ·rename_i s d x;simp only[ZK];split
  ·rename_i k w F;intro r j;have j:Zlg ((cA C n x).get u) k=some r:=j;rw[ZM,Zwb]at j;unfold CN;rename_i k0;rw[w,F];exact j
  ·intro r j;have j:CN C.P C.wrb s d ((cA C n x).get u)=some r:=j;rw[ZM]at j;exact j
 ·rename_i args argTypes;simp only[ZK];split
  ·rename_i x t N R;rw[N,R];dsimp only;split
   ·rename_i d F;intro r j;have j:ZqJ d ((cA C n x).get u)=some r:=j;rw[ZM,Zyv]at j;unfold Zjb;rw[F];exact j
   ·exact ZR _
  ·exact ZR _
 ·rename_i t i;intro r j;have j:(match (cA C n t).get u with|.tuple l=>Fc l i|_=>none)=some r:=j;rw[ZM]at j;simp only[ZK];unfold ZT;split at j
  ·rename_i l Q;rw[Q];rw[K7]at j;exact j
  ·cases j
 ·rename_i c a b;intro r j;have j:Zj ((cA C n c).get u) ((cA C n a).get u) ((cA C n b).get u)=some r:=j;rw[ZM,ZM,ZM]at j;exact j
 ·rename_i op _ x;intro r j;have j:Xv op ((cA C n x).get u)=some r:=j;rw[ZM]at j;exact j
 ·rename_i t a;simp only[ZK];split
  ·rename_i g sz B w;rw[B,w];intro r j;have j:XE g sz ((cA C n a).get u)=some r:=j;rw[ZM]at j;exact j
  ·exact ZR _
 ·rename_i x;intro r j;have j:Zu ((cA C n x).get u)=some r:=j;rw[ZM]at j;exact j
 ·exact le_refl _
theorem ZvB (op:Op)(u:AL)(H:Hp):Gr ((Zq6 C n op).f u H) (Gk C (Yx C n u) H op):=by
 unfold Zq6;split
 ·rename_i t a;simp only[Gk];split
  ·rename_i g sz w y;rw[w,y];intro r j;have j:Zes g sz ((cA C n a).get u) H=some r:=j;rw[ZM]at j;exact Zmq _ _ _ _ _ j
  ·exact ZR _
 ·exact le_refl _
def KOk (C:Cfg)(K:Kn):Prop:=(∀ f args v,K.fl f args=some v->∀ H,Ze (Z9 C f) args H=some (v,H))/\∀ f g h,C.eff f=some g->K.ef f=some h->∀ args H r,h args H=some r->g.run args H=some r
theorem Zvv {K:Kn}(y:KOk C K){CL:Zw}(h:Le CL (Z9 C))(f:FuncId)(args:List AV)(H:Hp):Gr ((Zld K C f).run K CL args H) (X4 C (Z9 C) f args H):=by
 unfold Zld X4
 cases C.ext f with
 |some e=>exact le_refl _
 |none =>
  dsimp only
  cases C.sum f with
  |some g=>exact le_refl _
  |none =>
   dsimp only
   cases u:C.eff f with
   |some g =>
    dsimp only
    cases w:K.ef f with
    |none=>exact le_refl _
    |some h=>exact fun r j=>y.2 f g h u w args H r j
   |none =>
    dsimp only
    cases C.user f with
    |false=>exact ZR _
    |true =>
     simp only[if_true]
     cases C.flat f with
     |true =>
      intro r j;have j:(match K.fl f args with|some v=>some (v,H)|none=>Ze (CL f) args H)=some r:=j;simp only[if_true];split at j
      ·rename_i v z;injection j with j;subst j;exact y.1 f args v z H
      ·exact Zyt (fun l H r j=>h _ _ _ _ j) args H r j
     |false =>
      simp only[zB,if_false]
      cases C.ro f with
      |true=>exact ZAs (fun l H r j=>h _ _ _ _ j) args H
      |false=>exact fun r j=>h _ _ _ _ j
theorem Zvx {K:Kn}(I:KOk C K){CL:Zw}(h:Le CL (Z9 C))(op:Op)(j:AL)(H:Hp):Gr ((Zq3 K C n op).f CL j H) (ZC C (Z9 C) (Yx C n j) H op):=by
 unfold Zq3;split
 ·rename_i t a x;simp only[ZC];split
  ·rename_i sz O;rw[O];split
   ·rename_i y;rw[y];intro r g;have g:ID sz ((cA C n a).get j) ((cA C n x).get j) H=some r:=g;rw[ZM,ZM]at g;exact Zkc _ _ _ _ _ g
   ·rename_i k y;rw[y];intro r g;have g:YA (stV (k+1) ((cA C n a).get j)) (ID sz ((cA C n a).get j) ((cA C n x).get j) H) none=some r:=g;rw[ZM,ZM]at g;obtain⟨E,F⟩:=YK g;dsimp only;rw[if_pos E];exact Zkc _ _ _ _ _ F
  ·exact ZR _
 ·rename_i x;intro r g;have g:Zml ((cA C n x).get j) H=some r:=g;rw[ZM]at g;exact Zp1 _ _ _ g
 ·rename_i e;simp only[ZC];split
  ·rename_i z y;rw[y];dsimp only;split
   ·rename_i u D;rw[D];exact fun r g=>g
   ·rename_i D;rw[D];intro r g;have g:Zml z H=some r:=g;have:=Zp1 _ _ _ g;unfold ZO at this;exact this
  ·exact ZR _
 ·rename_i args argTypes;simp only[ZC];split
  ·rename_i s x st xt J Q;rw[J,Q];dsimp only;split
   ·rename_i e S M R;rw[M,R];dsimp only;split
    ·exact ZR _
    ·rename_i A;rw[A];simp only[Bool.not_true,zB,if_false];split
     ·rename_i k bytes N L;rw[N,L];dsimp only;split
      ·rename_i B;rw[zA]at B;rw[if_pos (by rw[zA,decide_eq_true_eq];exact⟨Ew B.1,B.2⟩)];split
       ·rename_i ag w;rw[w];intro r g;have g:ZhO ag k bytes ((cA C n s).get j) ((cA C n x).get j) H=some r:=g;rw[ZM,ZM]at g;exact Zt8 _ _ _ _ _ _ _ g
       ·rename_i w;rw[w];intro r g;have g:Zlf k bytes ((cA C n s).get j) ((cA C n x).get j) H=some r:=g;rw[ZM,ZM]at g;exact Zw9 _ _ _ _ _ _ g
      ·exact ZR _
     ·exact ZR _
   ·exact ZR _
  ·exact ZR _
 ·rename_i f args _;intro r g;have g:(Zld K C f).run K CL (ZqR (cAs C n args.toList) j) H=some r:=g;rw[Zye]at g;simp only[ZC];rw[if_neg (by rw[show HM C (.func f) args=false from rfl];simp)];have:=Zvv I h f _ _ _ g;show X4 C (Z9 C) f ([]++args.toList.map (Yx C n j)++[]) H=some r;rw[List.nil_append,List.append_nil];exact this
 ·intro r g;exact Zhq h g
abbrev KGr (k j:AL->Hp->Z4):Prop:=∀ g H,Gr (k g H) (j g H)
theorem O0 (k:AL->Hp->Z4)(g:Option Tmp)(v:AV)(j:AL)(H:Hp):Sr k g v j H=k (PM j g v) H:=by cases g <;> rfl
theorem ZAu {k:AL->Hp->Z4}{u:Option Tmp}{g:FG}{f:FP}{CL:Zw}{b:Nat}{j:AL}{H:Hp}:FO.run (.p u g f) CL b k j H=Z0 (g.run j (.tuple []) (f.f j)) fun v=>k (PM j u v) H:=by
 show @Option.rec AV (fun _=>Z4) none (fun v=>Sr k u v j H) (g.run j (.tuple []) (@FP.rec (fun _=>Option AV) (fun f=>f j) f))=_;have:@FP.rec (fun _=>Option AV) (fun f=>f j) f=f.f j:=by cases f;rfl
 rw[this]
 cases g.run j (.tuple []) (f.f j) with
 |none=>rfl
 |some v=>exact O0 _ _ _ _ _
theorem ZAv {k:AL->Hp->Z4}{u:Option Tmp}{g:FG}{f:FR}{CL:Zw}{b:Nat}{j:AL}{H:Hp}:FO.run (.r u g f) CL b k j H=Z0 (g.run j (.tuple []) (f.f j H)) fun v=>k (PM j u v) H:=by
 show @Option.rec AV (fun _=>Z4) none (fun v=>Sr k u v j H) (g.run j (.tuple []) (@FR.rec (fun _=>Option AV) (fun f=>f j H) f))=_;have:@FR.rec (fun _=>Option AV) (fun f=>f j H) f=f.f j H:=by cases f;rfl
 rw[this]
 cases g.run j (.tuple []) (f.f j H) with
 |none=>rfl
 |some v=>exact O0 _ _ _ _ _
theorem ZAt {k:AL->Hp->Z4}{u:Option Tmp}{g:FG}{f:FH}{CL:Zw}{b:Nat}{j:AL}{H:Hp}:FO.run (.h u g f) CL b k j H=Z0 (g.run j (.tuple [],H) (f.f CL j H)) fun r=>k (PM j u r.1) r.2:=by
 show @Option.rec (AV×Hp) (fun _=>Z4) none (fun r=>@Prod.rec AV Hp (fun _=>Z4) (fun v H=>Sr k u v j H) r) (g.run j (.tuple [],H) (@FH.rec (fun _=>Option (AV×Hp)) (fun f=>f CL j H) f))=_;have:@FH.rec (fun _=>Option (AV×Hp)) (fun f=>f CL j H) f=f.f CL j H:=by cases f;rfl
 rw[this]
 cases g.run j (.tuple [],H) (f.f CL j H) with
 |none=>rfl
 |some r=>obtain⟨v,H'⟩:=r;exact O0 _ _ _ _ _
theorem ZsB {K:Kn}(E:KOk C K){CL:Zw}(h:Le CL (Z9 C)){k w:AL->Hp->Z4}(u:KGr k w)(ops:Array Oper)(fl:Bool)(o:Oper)(b:Nat)(j:AL)(H:Hp):Gr ((cOp K C n ops fl o).run CL b k j H) (CY C (Z9 C) n ops fl o w j H):=by
 unfold cOp;split
 ·rename_i x y z;unfold CY;rw[y,z];dsimp only;show Gr (Sr k o.dst ((cA C n x).get j) j H) _;rw[O0,ZM];exact u _ _
 ·rename_i A
  have e:CY C (Z9 C) n ops fl o w j H=Ix C (Z9 C) n ops fl o w j H:=by
   unfold CY;split
   ·rename_i x y z;exact absurd z (A _ y)
   ·rfl
  rw[e];unfold Ix;split
  ·rename_i g;rw[g];rw[ZAu,ZlJ];exact bC (Zgi (ZvA _ _)) fun v=>u _ _
  ·rename_i g;rw[g];rw[ZAv,ZlJ];exact bC (Zgi (ZvB _ _ _)) fun v=>u _ _
  ·rename_i B D;split
   ·rename_i g;exact absurd g B
   ·rename_i g;exact absurd g D
   ·rw[ZAt,ZlJ];exact bC (Zgi (Zvx E h _ _ _)) fun r=>u _ _
theorem Zyf {K:Kn}(u:KOk C K){CL:Zw}(h:Le CL (Z9 C)){k g:AL->Hp->Z4}(w:KGr k g)(ops:Array Oper)(draw:Bool)(b:Nat):∀ (l:List Oper) (i:Nat),KGr (Zar CL b k (Zq4 K C n ops draw l i)) (Zd9 C (Z9 C) n ops draw i l g):=by
 intro l
 induction l with
 |nil=>intro i;exact w
 |cons o l y =>
  intro i j H;show Gr ((cOp K C n ops (draw&&YF C ops i) o).run CL b (Zar CL b k (Zq4 K C n ops draw l (i+1))) j H) _;exact ZsB u h (y (i+1)) _ _ _ _ _ _
theorem Zvz {K:Kn}(w:KOk C K){CL:Zw}(h:Le CL (Z9 C)){k u:AL->Hp->Z4}(y:KGr k u)(ops:Array Oper)(b:Nat):∀ (l:List Oper) (i:Nat),KGr (Zar CL b k (Zhy K C n ops l i)) (EB C (Z9 C) n ops b i l u):=by
 intro l
 induction l with
 |nil=>intro i;exact y
 |cons o l j =>
  intro i g H;show Gr (FO.run (match lag C ops i with|true=>Zvy C n ops i o|false=>cOp K C n ops (YF C ops i) o) CL b (Zar CL b k (Zhy K C n ops l (i+1))) g H) _;unfold EB
  cases lag C ops i with
  |true =>
   dsimp only;unfold Zvy ZmJ
   cases YF C ops i with
   |true=>exact ZR _
   |false =>
    dsimp only;show Gr (Z0 (KV (b+XI C ops i) (T0 C (Yx C n g) o.op) H) fun r=>Sr (Zar CL b k (Zhy K C n ops l (i+1))) o.dst r.1 g r.2) _;refine bR fun r=>?_;rw[O0];exact j (i+1) _ _
  |false=>exact ZsB w h (j (i+1)) _ _ _ _ _ _
theorem Zyz {k u:AL->Hp->Z4}(w:KGr k u):∀ (g:List Nat),KGr (Zjq n k g) (Zmx n u g):=by
 intro g
 induction g with
 |nil=>exact w
 |cons t g y =>
  intro j H;show Gr (XG (YA (zD t n) (HI j t) (.tuple [])) H fun v H'=>Zjq n k g ((t,v)::j) H') _;unfold Zmx
  have:YA (zD t n) (HI j t) (.tuple [])=S4 n j t:=by
   unfold S4;rw[Zgn];cases zD t n <;> rfl
  rw[this];exact bF fun v H'=>y _ _
theorem Zp3 {k u:AL->Hp->Z4}(j:KGr k u)(g:Option (List Nat)):KGr (Zjq n k (match g with|none=>[]|some g=>g)) (Zmw n g u):=by
 cases g with
 |none=>exact j
 |some g=>exact Zyz j g
variable {kp:Nat->Option (List Nat)}
abbrev KK (k j:KL):Prop:=∀ e g H,Gr (k e g H) (j e g H)
theorem ZsI {CL:Zw}{ops:Array Oper}{draw:Bool}{k:AL->Hp->Z4}{r:Z4}{g:AL}{H:Hp}(h:Gr r (AO C CL n ops draw k g H)):Gr (ckR (ZlI C n ops draw) g r) (Zn0 C CL n ops draw k g H):=by
 unfold Zn0
 cases draw with
 |false=>exact h
 |true =>
  show Gr (ckR ((Po C ops).map fun p=>(cA C n (.tmp p.1),cA C n (.tmp p.2))) g r) (Nr (Yx C n g) (AO C CL n ops true k g H) (Po C ops));generalize Po C ops=l
  induction l with
  |nil=>exact h
  |cons p l j =>
   show Gr (Z0 (C3 ((cA C n (.tmp p.1)).get g) ((cA C n (.tmp p.2)).get g)) fun _=>ckR (l.map fun p=>(cA C n (.tmp p.1),cA C n (.tmp p.2))) g r) (Z0 (C3 (Yx C n g (.tmp p.1)) (Yx C n g (.tmp p.2))) fun _=>Nr (Yx C n g) (AO C CL n ops true k g H) l);rw[ZM,ZM]
   cases C3 (Yx C n g (.tmp p.1)) (Yx C n g (.tmp p.2)) with
   |none=>exact ZR _
   |some u=>exact j
theorem Zyg {K:Kn}(y:KOk C K){CL:Zw}(h:Le CL (Z9 C))(j:Nat){k A:KL}(z:KK k A)(id:Nat)(ops:Array Oper)(draw:Bool)(g:AL)(H:Hp) :
 Gr (PO n CL j (ZvC K C kp n id ops draw) k g H) (Y6 C (Z9 C) (ZZ C kp n) kp n Zc Z6 (.region id ops draw) A g H):=by
 unfold ZvC;simp only[Y6]
 cases D:(draw&&!(W7 ops&&K2 C ops)) with
 |true=>exact ZR _
 |false =>
  dsimp only;simp only[zB,if_false]
  cases u:ZmI C ops draw with
  |true =>
   dsimp only;show Gr (Zjq n (fun g H=>ckR (ZlI C n ops draw) g (Znc CL (XI C ops ops.size) (Zhy K C n ops ops.toList 0) k g H)) (match kp (id+1000000) with|none=>[]|some ts=>ts) g H) _;refine Zp3 (fun g H=>ZsI ?_) _ _ _;unfold AO;rw[u]
   have B:∃ m,XI C ops ops.size=m+1:=by
    cases w:XI C ops ops.size with
    |zero =>
     unfold ZmI at u;rw[w]at u;cases draw <;> cases u
    |succ m=>exact⟨m,rfl⟩
   obtain⟨m,w⟩:=B;rw[w];exact Zvz y h (fun g H=>z .normal g H) _ _ _ _ _ _
  |false =>
   dsimp only;show Gr (Zjq n (fun g H=>ckR (ZlI C n ops draw) g (Znc CL 0 (Zq4 K C n ops draw ops.toList 0) k g H)) (match kp (id+1000000) with|none=>[]|some ts=>ts) g H) _;refine Zp3 (fun g H=>ZsI ?_) _ _ _;unfold AO;rw[u];exact Zyf y h (fun g H=>z .normal g H) _ _ _ _ _ _ _
theorem Zxs (g:AL):∀ (l:List Nat) (k:AL->Z4),ZrO g l k=k (l.map fun t=>(t,look g t)):=by
 intro l
 induction l with
 |nil=>intro k;rfl
 |cons t l j =>
  intro k;show @Bx.rec (fun _=>Z4) (fun v=>ZrO g l fun r=>k ((t,v)::r)) (Zie g t)=_;rw[ZmN];exact j _
theorem Zns (c:Code)(g:AL)(k:AL->Z4):ZiI (N0 kp c) g k=k (ZS kp c g):=by
 unfold N0 ZS
 cases Yp c with
 |none=>rfl
 |some r =>
  dsimp only
  cases kp r with
  |none=>rfl
  |some keep=>exact Zxs _ _ _
theorem ZoM (c:Code)(g:AL):ZS kp c (ZS kp c g)=ZS kp c g:=by
 unfold ZS
 cases Yp c with
 |none=>rfl
 |some r =>
  dsimp only
  cases kp r with
  |none=>rfl
  |some keep =>
   dsimp only;apply List.map_congr_left;intro t j;rw[Sd,if_pos j]
theorem ZxH {k j:KL}(y:KK k j){B:AL->Hp->Z4}{u:KL->AL->Hp->Z4}(w:∀ g H,Gr (B g H) (u j g H))(e:AExit)(g:AL)(H:Hp) :
 Gr (eK e (B g H) (fun i=>k (.exit i) g H) (fun l=>k (.goto l) g H) (k .ret g H)) (Zc u j e g H):=by
 cases e with
 |normal=>exact w _ _
 |_=>exact y _ _ _
theorem Zz7 {K:Kn}(M:KOk C K){CL:Zw}(h:Le CL (Z9 C))(j:Nat):∀ (c:Code) (k w:KL),KK k w->ZU n w->∀ (g:AL) (H:Hp),
 Gr (PO n CL j (F0 K C kp n c) k g H) (Y6 C (Z9 C) (ZZ C kp n) kp n Zc Z6 c w g H):=by
 intro c
 induction c with
 |region id ops draw=>intro k w u z g H;exact Zyg M h j u id ops draw g H
 |seq a b D E =>
  intro k w u z g H;simp only[Y6];refine D _ _ (fun e g H=>?_) (Zx b z) g H;refine ZxH u (B:=fun g H=>ZiI (N0 kp b) g fun g=>PO n CL j (F0 K C kp n b) k g H) (fun g H=>?_) e g H;rw[Zns];exact E k w u z _ _
 |cond c x y I J =>
  intro k w u z g H;simp only[Y6];show Gr (match (cA C n c).get g with|.bool t=>YA t (PO n CL j (F0 K C kp n x) k g H) (PO n CL j (F0 K C kp n y) k g H)|_=>none) _;rw[ZM];unfold Zk;split
  ·rename_i t N;rw[N]
   cases t with
   |true=>exact I k w u z g H
   |false=>exact J k w u z g H
  ·exact ZR _
 |block id c A =>
  intro k w u z g H;simp only[Y6];refine A _ _ (fun e g H=>?_) (Zm id z) g H
  cases e with
  |exit i =>
   show Gr (YA (Nat.beq i id) (k .normal g H) (k (.exit i) g H)) (if i=id then w .normal g H else w (.exit i) g H)
   cases L:Nat.beq i id with
   |true=>rw[if_pos (Nat.eq_of_beq_eq_true L)];exact u _ _ _
   |false=>rw[if_neg (Nat.ne_of_beq_eq_false L)];exact u _ _ _
  |_=>exact u _ _ _
 |loop c A =>
  intro k w u z g H;simp only[Y6];show Gr (Zif (N0 kp c) (PO n CL j (F0 K C kp n c)) j k g H) _
  have key:∀ (m:Nat) (k w:KL),KK k w->ZU n w->∀ (g:AL) (H:Hp),Gr (Zif (N0 kp c) (PO n CL j (F0 K C kp n c)) m k g H) (ZZ C kp n c w (ZS kp c g) H):=by
   intro m
   induction m with
   |zero=>intro k w u z g H;exact ZR _
   |succ m F =>
    intro k w u z g H;show Gr (ZiI (N0 kp c) g fun g=>PO n CL j (F0 K C kp n c) (fun e g H=>eK e (Zif (N0 kp c) (PO n CL j (F0 K C kp n c)) m k g H) (fun i=>k (.exit i) g H) (fun l=>k (.goto l) g H) (k .ret g H)) g H) _;rw[Zns,Zs6 z,ZoM];refine A _ _ (fun e g H=>?_) (NQ c z) _ _;exact ZxH u (B:=fun g H=>Zif (N0 kp c) (PO n CL j (F0 K C kp n c)) m k g H) (fun g H=>F k w u z g H) e g H
  exact key j k w u z g H
 |scope c A =>
  intro k w u z g H;simp only[Y6];show Gr (PO n CL j (match Xf c with|true=>F0 K C kp n c|false=>.bad) k g H) _;split
  ·rename_i O;rw[if_pos O];exact A k w u z g H
  ·exact ZR _
 |skip=>intro k w u z g H;exact u _ _ _
 |exit id=>intro k w u z g H;exact u _ _ _
 |label l=>intro k w u z g H;exact u _ _ _
 |goto l=>intro k w u z g H;exact u _ _ _
 |ret=>intro k w u z g H;exact u _ _ _
 |_=>intro k w u z g H;exact ZR _
theorem Zkk (f:FuncId)(g:Hp)(l:List AV)(H:Hp):Gr (IE (C.pure f) g (Zgt l) H) (S5 C f g H l):=by
 have e:S5 C f g H l=Ku C f g (Zgt l,H):=by
  match l with
  |[]=>rfl
  |[v]=>rfl
  |v::w::l=>rfl
 rw[e];unfold Ku IE
 cases C.pure f with
 |false=>exact le_refl _
 |true =>
  simp only[if_true];unfold NC;intro r j
  have j:(match AB (H.take g.length) g with
   |true=>match Zb H g.length 9 (Zgt l) with
    |some v'=>some (v',g)
    |none=>none
   |false=>none)=some r:=j
  split at j
  ·rename_i u;rw[if_pos (Zen _ _ u)];exact j
  ·cases j
theorem Zpe (H:Hp)(y:AL){k B:List AV->Z4}(F:∀ l,Gr (k l) (B l)):∀ (rs:List ResultVar) (q:List (FA×Option (Bool×Nat))),rs.mapM (ZlL C n)=some q->∀ u,Gr (ZgA H y k q u) (Zgz C n y H rs u B):=by
 intro rs
 induction rs with
 |nil =>
  intro q j u;injection j with j;subst j;exact F _
 |cons r rs A =>
  intro q j u;rw[zC]at j
  cases w:ZlL C n r with
  |none=>rw[w]at j;cases j
  |some p =>
   rw[w]at j
   cases z:rs.mapM (ZlL C n) with
   |none=>rw[z]at j;cases j
   |some D =>
    rw[z]at j;injection j with j;subst j;unfold Zgz
    cases r with
    |tmp t =>
     injection w with w;subst w;show Gr (ZgA H y k D (J8 u [(cA C n (.tmp t)).get y])) _;rw[K0,ZM];exact A _ z _
    |cell a t =>
     unfold ZlL at w;simp only[Zez];dsimp only at w;split at w
     ·rename_i g sz E I;injection w with w;subst w;rw[E,I];show Gr (Z0 (Zes g sz ((cA C n (.tmp a)).get y) H) fun v=>ZgA H y k D (J8 u [v])) _;rw[ZM];refine bC (Zmq _ _ _ _) fun v=>?_;rw[K0];exact A _ z _
     ·cases w
theorem Zz8 {K:Kn}(A:KOk C K){CL:Zw}(h:Le CL (Z9 C))(g:Nat)(f:FuncId)(args:List AV)(H:Hp):Gr (ZA6 CL g (Zvw K C f) args H) (Z9 C f args H):=by
 unfold Zvw;split
 ·exact ZR _
 ·rename_i fn D;split
  ·exact ZR _
  ·rename_i c B;split
   ·rename_i rs u;intro r w;have w:YA (Nat.ble args.length fn.ntmps) (PO fn.ntmps CL g (F0 K C (C.keep f) fn.ntmps c) (fun e j H1=>eK e (ZgA H1 j (fun l=>IE (C.pure f) H (Zgt l) H1) rs []) (fun _=>none) (fun _=>none) (ZgA H1 j (fun l=>IE (C.pure f) H (Zgt l) H1) rs [])) (Lm 0 args) H) none=some r:=w;obtain⟨y,z⟩:=YK w;rw[ZjV D B rfl args y];refine Zz7 A h g c _ _ (fun e j H1=>?_) (ZB f fn H) _ _ r z
    cases e with
    |normal=>exact Zpe H1 j (fun l=>Zkk f H l H1) _ _ u _
    |ret=>exact Zpe H1 j (fun l=>Zkk f H l H1) _ _ u _
    |_=>exact ZR _
   ·exact ZR _
theorem ZlM {K:Kn}(j:KOk C K)(g:Nat):∀ d,Le (Zq7 K C g d) (Z9 C):=by
 intro d
 induction d with
 |zero=>intro f a H r h;cases h
 |succ d u=>intro f a H r h;exact Zz8 j u g f a H r h
end
theorem ZxO {C:Cfg}:KOk C k0:=⟨fun f args v h=>(nomatch h),fun f g h _ j=>(nomatch j)⟩
end Go.Am
