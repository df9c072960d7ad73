/- THE ABSTRACT MACHINE -/
import Derived.Test.YtnaneekpogohaaaGreatDoorHmYax
open List renaming mapM_cons->zE
open Nat renaming eq_of_beq_eq_true->zB,beq->zD,blt->zF
open Bool renaming and_eq_true->zA,false_eq_true->zC
namespace Go.Am
theorem ZS {α:Type}(x:Option α):Gr none x:=ZyP x
section
variable {C:Cfg}{n:Nat}
def FP.f (p:FP):AL->Option AV:=match p with|.mk f=>f
def FR.f (p:FR):AL->Hp->Option AV:=match p with|.mk f=>f
def FH.f (p:FH):Zw->AL->Hp->Option (AV×Hp):=match p with|.mk f=>f
theorem Zs6 (g:List (Nat×Nat)):∀ (l:List (Nat×Operand)) (r:List (Nat×Nat×FA)),ZkX C n g l=some r ->
 ∃ m:List (Nat×Nat×Operand),r=m.map (fun p=>(p.1,p.2.1,cA C n p.2.2))/\∀ ev:Operand->AV,(l.map fun p=>(p.1,ev p.2)).mapM (fun p=>(g[p.1]?).map fun (q:Nat×Nat)=>(q.1,q.2,p.2))=some (m.map fun p=>(p.1,p.2.1,ev p.2.2)):=by
 intro l
 induction l with
 |nil=>intro r h;injection h with h;subst h;exact⟨[],rfl,fun ev=>rfl⟩
 |cons p l z =>
  intro r h
  have h:(match DT g p.1,ZkX C n g l with
   |some q,some r=>some ((q.1,q.2,cA C n p.2)::r)
   |_,_=>none)=some r:=h
  rw[JX]at h;split at h
  ·rename_i q A y j;injection h with h;subst h;obtain⟨m,u,w⟩:=z _ j;refine⟨(q.1,q.2,p.2)::m,by rw[u];rfl,fun ev=>?_⟩;rw[List.map_cons,zE,w ev,y];rfl
  ·cases h
theorem Zs4 (t:TypeId)(parts:List (Nat×Operand))(u:AL):Gr ((ZkU C n t parts).f u) (LQ C.P t (parts.map fun p=>(p.1,YA C n u p.2))):=by
 unfold ZkU;split
 ·rename_i zero fs F E;split
  ·rename_i j D;split
   ·rename_i z w;obtain⟨m,A,B⟩:=Zs6 j parts z w;intro r g;have g:(match Zkw u z zero with|some l=>some (AV.agg l)|none=>none)=some r:=g;unfold LQ;rw[F,E];dsimp only;rw[D];dsimp only;rw[B];dsimp only;split at g
    ·rename_i l y;rw[A]at y;rw[ZvY m zero _ y];exact g
    ·cases g
   ·exact ZS _
  ·exact ZS _
 ·intro r g;have g:LQ C.P t (parts.map fun p=>(p.1,(cA C n p.2).get u))=some r:=g;simp only[ZK]at g;exact g
theorem Zpx (t:TypeId)(len:Nat)(parts:List (Nat×Operand))(u:AL):Gr ((Zit C n t len parts).f u) (AH C.P t len (parts.map fun p=>(p.1,YA C n u p.2))):=by
 unfold Zit;split
 ·rename_i e w;split
  ·rename_i size z A B;split
   ·rename_i g;rw[zA,zA,zA,decide_eq_true_eq,ZlN]at g;intro r j;have j:(match Zkx u size (parts.map fun p=>(p.1,cA C n p.2)) (List.replicate len z) with|some l=>some (AV.vs size .clip l)|none=>none)=some r:=j;unfold AH;rw[w];dsimp only;rw[A,B];dsimp only;rw[if_pos ⟨g.1,g.2.1,g.2.2.1,LU g.2.2.2⟩];split at j
    ·rename_i l y;rw[Zw7 parts _ _ y];exact j
    ·cases j
   ·exact ZS _
  ·exact ZS _
 ·exact ZS _
theorem Zvm (op:Op)(u:AL):Gr ((ZpA C n op).f u) (ZJ C (YA C n u) op):=by
 unfold ZpA;split
 ·rename_i op t x y _;simp only[ZJ];split
  ·rename_i hi;rw[if_pos hi];split
   ·rename_i E;rw[if_pos E];intro r j;have j:O5 op ((cA C n x).get u) ((cA C n y).get u)=some r:=j;rw[ZK,ZK]at j;exact j
   ·exact ZS _
  ·rename_i hi;rw[if_neg (by rw[hi];simp)];unfold Zp3;split
   ·rename_i k A;rw[A];intro r j;have j:fib op ((cA C n x).get u) ((cA C n y).get u)=some r:=j;rw[ZK,ZK]at j;exact ZzG _ _ _ _ j
   ·rename_i A;rw[A];intro r j;have j:fsb op ((cA C n x).get u) ((cA C n y).get u)=some r:=j;rw[ZK,ZK]at j;exact ZzJ _ _ _ _ j
   ·rename_i A;rw[A];intro r j;have j:JA C.P C.eqok op t ((cA C n x).get u) ((cA C n y).get u)=some r:=j;rw[ZK,ZK]at j;exact j
   ·rename_i A;rw[A];intro r j;have j:JA C.P C.eqok op t ((cA C n x).get u) ((cA C n y).get u)=some r:=j;rw[ZK,ZK]at j;exact j
   ·rename_i d J K L M A;rw[A];intro r j;have j:Yy d op ((cA C n x).get u) ((cA C n y).get u)=some r:=j;rw[ZK,ZK]at j;cases d <;> first|exact j|(exact absurd rfl (J _))|(exact absurd rfl K)|(exact absurd rfl (L _))|(exact absurd rfl (M _ _))
   ·exact ZS _
 ·exact Zs4 _ _ _
 ·exact Zpx _ _ _ _
 ·rename_i t x f;simp only[ZJ];split
  ·rename_i D H;rw[H];dsimp only;split
   ·rename_i sz w;rw[w];dsimp only;split
    ·rename_i O;rw[if_pos (LU O)];intro r j;have j:ZcI D.offset ((cA C n x).get u)=some r:=j;rw[ZK]at j;exact Zjk _ _ _ j
    ·exact ZS _
   ·exact ZS _
  ·exact ZS _
 ·rename_i t x f;simp only[ZJ];split
  ·rename_i D H;rw[H];dsimp only;split
   ·rename_i g sz B w;rw[B,w];dsimp only;intro r j;have j:(match (cA C n x).get u with|.agg I=>Cx g sz I D.offset|_=>none)=some r:=j;rw[ZK]at j;unfold TG;split at j
    ·rename_i I E;rw[E];rw[El]at j;exact j
    ·cases j
   ·exact ZS _
  ·exact ZS _
 ·rename_i t x i;simp only[ZJ];split
  ·rename_i e z;rw[z];dsimp only;split
   ·rename_i size w;rw[w];intro r j;have j:Zh7 size ((cA C n x).get u) ((cA C n i).get u)=some r:=j;rw[ZK,ZK]at j;exact ZsR _ _ _ _ j
   ·exact ZS _
  ·rename_i len e z;rw[z];dsimp only;split
   ·rename_i size w;rw[w];intro r j;have j:ZdA len size ((cA C n x).get u) ((cA C n i).get u)=some r:=j;rw[ZK,ZK]at j;exact Zq8 _ _ _ _ _ j
   ·exact ZS _
  ·exact ZS _
 ·rename_i t x i;simp only[ZJ];split
  ·rename_i z;rw[z];intro r j;have j:Cv ((cA C n x).get u) ((cA C n i).get u)=some r:=j;rw[ZK,ZK]at j;exact Zly _ _ _ j
  ·rename_i len e z;rw[z];dsimp only;split
   ·rename_i g size B w;rw[B,w];intro r j;have j:ZdB g len size ((cA C n x).get u) ((cA C n i).get u)=some r:=j;rw[ZK,ZK]at j;exact Zq9 _ _ _ _ _ _ j
   ·exact ZS _
  ·exact ZS _
 ·rename_i t x lo hi mx;simp only[ZJ];split
  ·rename_i z;rw[z];intro r j;have j:ZiF ((cA C n x).get u) (TU (lo.map (cA C n)) u) (TU (hi.map (cA C n)) u) (TU (mx.map (cA C n)) u)=some r:=j;rw[ZK,TW,TW,TW,Zqj]at j;exact j
  ·rename_i e z;rw[z];dsimp only;split
   ·rename_i size w;rw[w];intro r j;have j:ZdF size ((cA C n x).get u) (TU (lo.map (cA C n)) u) (TU (hi.map (cA C n)) u) (TU (mx.map (cA C n)) u)=some r:=j;rw[ZK,TW,TW,TW]at j;exact Zqk _ _ _ _ _ _ j
   ·exact ZS _
  ·exact ZS _
 ·rename_i s d x;simp only[ZJ];split
  ·rename_i k w F;intro r j;have j:Zkv ((cA C n x).get u) k=some r:=j;rw[ZK,ZvX]at j;unfold SZ;rename_i k0;rw[w,F];exact j
  ·intro r j;have j:SZ C.P C.wrb s d ((cA C n x).get u)=some r:=j;rw[ZK]at j;exact j
 ·rename_i args argTypes;simp only[ZJ];split
  ·rename_i x t N R;rw[N,R];dsimp only;split
   ·rename_i d F;intro r j;have j:Zqd d ((cA C n x).get u)=some r:=j;rw[ZK,ZyA]at j;unfold Zio;rw[F];exact j
   ·exact ZS _
  ·exact ZS _
 ·rename_i t i;intro r j;have j:(match (cA C n t).get u with|.tuple l=>DT l i|_=>none)=some r:=j;rw[ZK]at j;simp only[ZJ];unfold ZQ;split at j
  ·rename_i l Q;rw[Q];rw[JX]at j;exact j
  ·cases j
 ·rename_i c a b;intro r j;have j:Zj ((cA C n c).get u) ((cA C n a).get u) ((cA C n b).get u)=some r:=j;rw[ZK,ZK,ZK]at j;exact j
 ·rename_i op _ x;intro r j;have j:Xk op ((cA C n x).get u)=some r:=j;rw[ZK]at j;exact j
 ·rename_i t a;simp only[ZJ];split
  ·rename_i g sz B w;rw[B,w];intro r j;have j:Wf g sz ((cA C n a).get u)=some r:=j;rw[ZK]at j;exact j
  ·exact ZS _
 ·rename_i x;intro r j;have j:Zu ((cA C n x).get u)=some r:=j;rw[ZK]at j;exact j
 ·exact le_refl _
theorem Zvn (op:Op)(u:AL)(H:Hp):Gr ((ZpB C n op).f u H) (Ga C (YA C n u) H op):=by
 unfold ZpB;split
 ·rename_i t a;simp only[Ga];split
  ·rename_i g sz w y;rw[w,y];intro r j;have j:ZdD g sz ((cA C n a).get u) H=some r:=j;rw[ZK]at j;exact Zlz _ _ _ _ _ j
  ·exact ZS _
 ·exact le_refl _
def Xu (C:Cfg)(K:Kn):Prop:=(∀ f args v,K.fl f args=some v->∀ H,Zf (Z9 C f) args H=some (v,H))/\∀ f g h,C.eff f=some g->K.ef f=some h->∀ args H r,h args H=some r->g.run args H=some r
theorem Zvh {K:Kn}(y:Xu C K){CL:Zw}(h:Le CL (Z9 C))(f:FuncId)(args:List AV)(H:Hp):Gr ((Zks K C f).run K CL args H) (X5 C (Z9 C) f args H):=by
 unfold Zks X5
 cases C.ext f with
 |some e=>exact le_refl _
 |none =>
  dsimp only
  cases C.sum f with
  |some g=>exact le_refl _
  |none =>
   dsimp only
   cases u:C.eff f with
   |some g =>
    dsimp only
    cases w:K.ef f with
    |none=>exact le_refl _
    |some h=>exact fun r j=>y.2 f g h u w args H r j
   |none =>
    dsimp only
    cases C.user f with
    |false=>exact ZS _
    |true =>
     simp only[if_true]
     cases C.flat f with
     |true =>
      intro r j;have j:(match K.fl f args with|some v=>some (v,H)|none=>Zf (CL f) args H)=some r:=j;simp only[if_true];split at j
      ·rename_i v z;injection j with j;subst j;exact y.1 f args v z H
      ·exact Zof (fun l H r j=>h _ _ _ _ j) args H r j
     |false =>
      simp only[zC,if_false]
      cases C.ro f with
      |true=>exact ZAN (fun l H r j=>h _ _ _ _ j) args H
      |false=>exact fun r j=>h _ _ _ _ j
theorem Zvj {K:Kn}(I:Xu C K){CL:Zw}(h:Le CL (Z9 C))(op:Op)(j:AL)(H:Hp):Gr ((Zpy K C n op).f CL j H) (ZC C (Z9 C) (YA C n j) H op):=by
 unfold Zpy;split
 ·rename_i t a x;simp only[ZC];split
  ·rename_i sz O;rw[O];split
   ·rename_i y;rw[y];intro r g;have g:AQ sz ((cA C n a).get j) ((cA C n x).get j) H=some r:=g;rw[ZK,ZK]at g;exact Zjr _ _ _ _ _ g
   ·rename_i k y;rw[y];intro r g;have g:Yt (stV (k+1) ((cA C n a).get j)) (AQ sz ((cA C n a).get j) ((cA C n x).get j) H) none=some r:=g;rw[ZK,ZK]at g;obtain⟨E,F⟩:=YK g;dsimp only;rw[if_pos E];exact Zjr _ _ _ _ _ F
  ·exact ZS _
 ·rename_i x;intro r g;have g:Zlv ((cA C n x).get j) H=some r:=g;rw[ZK]at g;exact Zoe _ _ _ g
 ·rename_i e;simp only[ZC];split
  ·rename_i z y;rw[y];dsimp only;split
   ·rename_i u D;rw[D];exact fun r g=>g
   ·rename_i D;rw[D];intro r g;have g:Zlv z H=some r:=g;have:=Zoe _ _ _ g;unfold ZN at this;exact this
  ·exact ZS _
 ·rename_i args argTypes;simp only[ZC];split
  ·rename_i s x st xt J Q;rw[J,Q];dsimp only;split
   ·rename_i e S M R;rw[M,R];dsimp only;split
    ·exact ZS _
    ·rename_i A;rw[A];simp only[Bool.not_true,zC,if_false];split
     ·rename_i k bytes N L;rw[N,L];dsimp only;split
      ·rename_i B;rw[zA]at B;rw[if_pos (by rw[zA,decide_eq_true_eq];exact⟨LU B.1,B.2⟩)];split
       ·rename_i ag w;rw[w];intro r g;have g:Zh0 ag k bytes ((cA C n s).get j) ((cA C n x).get j) H=some r:=g;rw[ZK,ZK]at g;exact ZsH _ _ _ _ _ _ _ g
       ·rename_i w;rw[w];intro r g;have g:Zku k bytes ((cA C n s).get j) ((cA C n x).get j) H=some r:=g;rw[ZK,ZK]at g;exact ZvV _ _ _ _ _ _ g
      ·exact ZS _
     ·exact ZS _
   ·exact ZS _
  ·exact ZS _
 ·rename_i f args _;intro r g;have g:(Zks K C f).run K CL (Zql (cAs C n args.toList) j) H=some r:=g;rw[Zyj]at g;simp only[ZC];rw[if_neg (by rw[show CT C (.func f) args=false from rfl];simp)];have:=Zvh I h f _ _ _ g;show X5 C (Z9 C) f ([]++args.toList.map (YA C n j)++[]) H=some r;rw[List.nil_append,List.append_nil];exact this
 ·intro r g;exact ZgC h g
abbrev KGr (k j:AL->Hp->Z4):Prop:=∀ g H,Gr (k g H) (j g H)
theorem Ib (k:AL->Hp->Z4)(g:Option Tmp)(v:AV)(j:AL)(H:Hp):EA k g v j H=k (Pc j g v) H:=by cases g <;> rfl
theorem ZAP {k:AL->Hp->Z4}{u:Option Tmp}{g:FG}{f:FP}{CL:Zw}{b:Nat}{j:AL}{H:Hp}:FO.run (.p u g f) CL b k j H=Z0 (g.run j (.tuple []) (f.f j)) fun v=>k (Pc j u v) H:=by
 show @Option.rec AV (fun _=>Z4) none (fun v=>EA k u v j H) (g.run j (.tuple []) (@FP.rec (fun _=>Option AV) (fun f=>f j) f))=_;have:@FP.rec (fun _=>Option AV) (fun f=>f j) f=f.f j:=by cases f;rfl
 rw[this]
 cases g.run j (.tuple []) (f.f j) with
 |none=>rfl
 |some v=>exact Ib _ _ _ _ _
theorem ZAQ {k:AL->Hp->Z4}{u:Option Tmp}{g:FG}{f:FR}{CL:Zw}{b:Nat}{j:AL}{H:Hp}:FO.run (.r u g f) CL b k j H=Z0 (g.run j (.tuple []) (f.f j H)) fun v=>k (Pc j u v) H:=by
 show @Option.rec AV (fun _=>Z4) none (fun v=>EA k u v j H) (g.run j (.tuple []) (@FR.rec (fun _=>Option AV) (fun f=>f j H) f))=_;have:@FR.rec (fun _=>Option AV) (fun f=>f j H) f=f.f j H:=by cases f;rfl
 rw[this]
 cases g.run j (.tuple []) (f.f j H) with
 |none=>rfl
 |some v=>exact Ib _ _ _ _ _
theorem ZAO {k:AL->Hp->Z4}{u:Option Tmp}{g:FG}{f:FH}{CL:Zw}{b:Nat}{j:AL}{H:Hp}:FO.run (.h u g f) CL b k j H=Z0 (g.run j (.tuple [],H) (f.f CL j H)) fun r=>k (Pc j u r.1) r.2:=by
 show @Option.rec (AV×Hp) (fun _=>Z4) none (fun r=>@Prod.rec AV Hp (fun _=>Z4) (fun v H=>EA k u v j H) r) (g.run j (.tuple [],H) (@FH.rec (fun _=>Option (AV×Hp)) (fun f=>f CL j H) f))=_;have:@FH.rec (fun _=>Option (AV×Hp)) (fun f=>f CL j H) f=f.f CL j H:=by cases f;rfl
 rw[this]
 cases g.run j (.tuple [],H) (f.f CL j H) with
 |none=>rfl
 |some r=>obtain⟨v,H'⟩:=r;exact Ib _ _ _ _ _
theorem Zs5 {K:Kn}(E:Xu C K){CL:Zw}(h:Le CL (Z9 C)){k w:AL->Hp->Z4}(u:KGr k w)(ops:Array Oper)(fl:Bool)(o:Oper)(b:Nat)(j:AL)(H:Hp):Gr ((cOp K C n ops fl o).run CL b k j H) (C9 C (Z9 C) n ops fl o w j H):=by
 unfold cOp;split
 ·rename_i x y z;unfold C9;rw[y,z];dsimp only;show Gr (EA k o.dst ((cA C n x).get j) j H) _;rw[Ib,ZK];exact u _ _
 ·rename_i A
  have e:C9 C (Z9 C) n ops fl o w j H=AK C (Z9 C) n ops fl o w j H:=by
   unfold C9;split
   ·rename_i x y z;exact absurd z (A _ y)
   ·rfl
  rw[e];unfold AK;split
  ·rename_i g;rw[g];rw[ZAP,ZkW];exact bC (Zfu (Zvm _ _)) fun v=>u _ _
  ·rename_i g;rw[g];rw[ZAQ,ZkW];exact bC (Zfu (Zvn _ _ _)) fun v=>u _ _
  ·rename_i B D;split
   ·rename_i g;exact absurd g B
   ·rename_i g;exact absurd g D
   ·rw[ZAO,ZkW];exact bC (Zfu (Zvj E h _ _ _)) fun r=>u _ _
theorem Zyk {K:Kn}(u:Xu C K){CL:Zw}(h:Le CL (Z9 C)){k g:AL->Hp->Z4}(w:KGr k g)(ops:Array Oper)(draw:Bool)(b:Nat):∀ (l:List Oper) (i:Nat),KGr (OE CL b k (Zpz K C n ops draw l i)) (Zcg C (Z9 C) n ops draw i l g):=by
 intro l
 induction l with
 |nil=>intro i;exact w
 |cons o l y =>
  intro i j H;show Gr ((cOp K C n ops (draw&&YG C ops i) o).run CL b (OE CL b k (Zpz K C n ops draw l (i+1))) j H) _;exact Zs5 u h (y (i+1)) _ _ _ _ _ _
theorem Zvl {K:Kn}(w:Xu C K){CL:Zw}(h:Le CL (Z9 C)){k u:AL->Hp->Z4}(y:KGr k u)(ops:Array Oper)(b:Nat):∀ (l:List Oper) (i:Nat),KGr (OE CL b k (ZgK K C n ops l i)) (E0 C (Z9 C) n ops b i l u):=by
 intro l
 induction l with
 |nil=>intro i;exact y
 |cons o l j =>
  intro i g H;show Gr (FO.run (match lag C ops i with|true=>Zvk C n ops i o|false=>cOp K C n ops (YG C ops i) o) CL b (OE CL b k (ZgK K C n ops l (i+1))) g H) _;unfold E0
  cases lag C ops i with
  |true =>
   dsimp only;unfold Zvk ZlS
   cases YG C ops i with
   |true=>exact ZS _
   |false =>
    dsimp only;show Gr (Z0 (KN (b+XI C ops i) (RB C (YA C n g) o.op) H) fun r=>EA (OE CL b k (ZgK K C n ops l (i+1))) o.dst r.1 g r.2) _;refine bR fun r=>?_;rw[Ib];exact j (i+1) _ _
  |false=>exact Zs5 w h (j (i+1)) _ _ _ _ _ _
theorem ZyE {k u:AL->Hp->Z4}(w:KGr k u):∀ (g:List Nat),KGr (ZiE n k g) (ZlG n u g):=by
 intro g
 induction g with
 |nil=>exact w
 |cons t g y =>
  intro j H;show Gr (WS (Yt (zF t n) (CP j t) (.tuple [])) H fun v H'=>ZiE n k g ((t,v)::j) H') _;unfold ZlG
  have:Yt (zF t n) (CP j t) (.tuple [])=En n j t:=by
   unfold En;rw[Zfx];cases zF t n <;> rfl
  rw[this];exact bF fun v H'=>y _ _
theorem Zoh {k u:AL->Hp->Z4}(j:KGr k u)(g:Option (List Nat)):KGr (ZiE n k (match g with|none=>[]|some g=>g)) (ZlF n g u):=by
 cases g with
 |none=>exact j
 |some g=>exact ZyE j g
variable {kp:Nat->Option (List Nat)}
abbrev KK (k j:KL):Prop:=∀ e g H,Gr (k e g H) (j e g H)
theorem Zsc {CL:Zw}{ops:Array Oper}{draw:Bool}{k:AL->Hp->Z4}{r:Z4}{g:AL}{H:Hp}(h:Gr r (HZ C CL n ops draw k g H)):Gr (ckR (ZkV C n ops draw) g r) (Zmb C CL n ops draw k g H):=by
 unfold Zmb
 cases draw with
 |false=>exact h
 |true =>
  show Gr (ckR ((TP C ops).map fun p=>(cA C n (.tmp p.1),cA C n (.tmp p.2))) g r) (PO (YA C n g) (HZ C CL n ops true k g H) (TP C ops));generalize TP C ops=l
  induction l with
  |nil=>exact h
  |cons p l j =>
   show Gr (Z0 (Sa ((cA C n (.tmp p.1)).get g) ((cA C n (.tmp p.2)).get g)) fun _=>ckR (l.map fun p=>(cA C n (.tmp p.1),cA C n (.tmp p.2))) g r) (Z0 (Sa (YA C n g (.tmp p.1)) (YA C n g (.tmp p.2))) fun _=>PO (YA C n g) (HZ C CL n ops true k g H) l);rw[ZK,ZK]
   cases Sa (YA C n g (.tmp p.1)) (YA C n g (.tmp p.2)) with
   |none=>exact ZS _
   |some u=>exact j
theorem Zyl {K:Kn}(w:Xu C K){CL:Zw}(h:Le CL (Z9 C))(fuel:Nat){k z:KL}(y:KK k z)(id:Nat)(ops:Array Oper)(draw:Bool)(g:AL)(H:Hp) :
 Gr (Pe n CL fuel (Zvo K C kp n id ops draw) k g H) (Yc C (Z9 C) (Y7 C kp n) kp n Zc Z7 (.region id ops draw) z g H):=by
 unfold Zvo;simp only[Yc]
 cases B:(draw&&!(W2 ops&&JT C ops)) with
 |true=>exact ZS _
 |false =>
  dsimp only;simp only[zC,if_false]
  cases j:ZlR C ops draw with
  |true =>
   dsimp only;show Gr (ZiE n (fun g H=>ckR (ZkV C n ops draw) g (Zmn CL (XI C ops ops.size) (ZgK K C n ops ops.toList 0) k g H)) (match kp (id+1000000) with|none=>[]|some ts=>ts) g H) _;refine Zoh (fun g H=>Zsc ?_) _ _ _;unfold HZ;rw[j]
   have A:∃ m,XI C ops ops.size=m+1:=by
    cases u:XI C ops ops.size with
    |zero =>
     unfold ZlR at j;rw[u]at j;cases draw <;> cases j
    |succ m=>exact⟨m,rfl⟩
   obtain⟨m,u⟩:=A;rw[u];exact Zvl w h (fun g H=>y .normal g H) _ _ _ _ _ _
  |false =>
   dsimp only;show Gr (ZiE n (fun g H=>ckR (ZkV C n ops draw) g (Zmn CL 0 (Zpz K C n ops draw ops.toList 0) k g H)) (match kp (id+1000000) with|none=>[]|some ts=>ts) g H) _;refine Zoh (fun g H=>Zsc ?_) _ _ _;unfold HZ;rw[j];exact Zyk w h (fun g H=>y .normal g H) _ _ _ _ _ _ _
theorem Zxy (g:AL):∀ (l:List Nat) (k:AL->Z4),Zrj g l k=k (l.map fun t=>(t,look g t)):=by
 intro l
 induction l with
 |nil=>intro k;rfl
 |cons t l j =>
  intro k;show @Bx.rec (fun _=>Z4) (fun v=>Zrj g l fun r=>k ((t,v)::r)) (Zhs g t)=_;rw[ZlX];exact j _
theorem ZmE (c:Code)(g:AL)(k:AL->Z4):ZhV (Pp kp c) g k=k (ZW kp c g):=by
 unfold Pp ZW
 cases Yr c with
 |none=>rfl
 |some r =>
  dsimp only
  cases kp r with
  |none=>rfl
  |some keep=>exact Zxy _ _ _
theorem Zo1 (c:Code)(g:AL):ZW kp c (ZW kp c g)=ZW kp c g:=by
 unfold ZW
 cases Yr c with
 |none=>rfl
 |some r =>
  dsimp only
  cases kp r with
  |none=>rfl
  |some keep =>
   dsimp only;apply List.map_congr_left;intro t j;rw[Et,if_pos j]
theorem ZxM {k j:KL}(y:KK k j){B:AL->Hp->Z4}{u:KL->AL->Hp->Z4}(w:∀ g H,Gr (B g H) (u j g H))(e:AExit)(g:AL)(H:Hp) :
 Gr (eK e (B g H) (fun i=>k (.exit i) g H) (fun l=>k (.goto l) g H) (k .ret g H)) (Zc u j e g H):=by
 cases e with
 |normal=>exact w _ _
 |_=>exact y _ _ _
theorem Zzc {K:Kn}(L:Xu C K){CL:Zw}(h:Le CL (Z9 C))(fuel:Nat):∀ (c:Code) (k u:KL),KK k u->ZX n u->∀ (g:AL) (H:Hp),
 Gr (Pe n CL fuel (DH K C kp n c) k g H) (Yc C (Z9 C) (Y7 C kp n) kp n Zc Z7 c u g H):=by
 intro c
 induction c with
 |region id ops draw=>intro k u j w g H;exact Zyl L h fuel j id ops draw g H
 |seq a b A D =>
  intro k u j w g H;simp only[Yc];refine A _ _ (fun e g H=>?_) (Zx b w) g H;refine ZxM j (B:=fun g H=>ZhV (Pp kp b) g fun g=>Pe n CL fuel (DH K C kp n b) k g H) (fun g H=>?_) e g H;rw[ZmE];exact D k u j w _ _
 |cond c x y F I =>
  intro k u j w g H;simp only[Yc];show Gr (match (cA C n c).get g with|.bool t=>Yt t (Pe n CL fuel (DH K C kp n x) k g H) (Pe n CL fuel (DH K C kp n y) k g H)|_=>none) _;rw[ZK];unfold Zk;split
  ·rename_i t M;rw[M]
   cases t with
   |true=>exact F k u j w g H
   |false=>exact I k u j w g H
  ·exact ZS _
 |block id c z =>
  intro k u j w g H;simp only[Yc];refine z _ _ (fun e g H=>?_) (Zm id w) g H
  cases e with
  |exit i =>
   show Gr (Yt (zD i id) (k .normal g H) (k (.exit i) g H)) (if i=id then u .normal g H else u (.exit i) g H)
   cases J:zD i id with
   |true=>rw[if_pos (zB J)];exact j _ _ _
   |false=>rw[if_neg (Nat.ne_of_beq_eq_false J)];exact j _ _ _
  |_=>exact j _ _ _
 |loop c z =>
  intro k u j w g H;simp only[Yc];show Gr (Zht (Pp kp c) (Pe n CL fuel (DH K C kp n c)) fuel k g H) _
  have key:∀ (m:Nat) (k u:KL),KK k u->ZX n u->∀ (g:AL) (H:Hp),Gr (Zht (Pp kp c) (Pe n CL fuel (DH K C kp n c)) m k g H) (Y7 C kp n c u (ZW kp c g) H):=by
   intro m
   induction m with
   |zero=>intro k u j w g H;exact ZS _
   |succ m E =>
    intro k u j w g H;show Gr (ZhV (Pp kp c) g fun g=>Pe n CL fuel (DH K C kp n c) (fun e g H=>eK e (Zht (Pp kp c) (Pe n CL fuel (DH K C kp n c)) m k g H) (fun i=>k (.exit i) g H) (fun l=>k (.goto l) g H) (k .ret g H)) g H) _;rw[ZmE,ZrA w,Zo1];refine z _ _ (fun e g H=>?_) (Nh c w) _ _;exact ZxM j (B:=fun g H=>Zht (Pp kp c) (Pe n CL fuel (DH K C kp n c)) m k g H) (fun g H=>E k u j w g H) e g H
  exact key fuel k u j w g H
 |scope c z =>
  intro k u j w g H;simp only[Yc];show Gr (Pe n CL fuel (match Xd c with|true=>DH K C kp n c|false=>.bad) k g H) _;split
  ·rename_i N;rw[if_pos N];exact z k u j w g H
  ·exact ZS _
 |skip=>intro k u j w g H;exact j _ _ _
 |exit id=>intro k u j w g H;exact j _ _ _
 |label l=>intro k u j w g H;exact j _ _ _
 |goto l=>intro k u j w g H;exact j _ _ _
 |ret=>intro k u j w g H;exact j _ _ _
 |_=>intro k u j w g H;exact ZS _
theorem Zjy (f:FuncId)(g:Hp)(l:List AV)(H:Hp):Gr (AR (C.pure f) g (ZfD l) H) (Eo C f g H l):=by
 have e:Eo C f g H l=Kj C f g (ZfD l,H):=by
  match l with
  |[]=>rfl
  |[v]=>rfl
  |v::w::l=>rfl
 rw[e];unfold Kj AR
 cases C.pure f with
 |false=>exact le_refl _
 |true =>
  simp only[if_true];unfold Zhp;intro r j
  have j:(match HP (H.take g.length) g with
   |true=>match Zb H g.length 9 (ZfD l) with
    |some v'=>some (v',g)
    |none=>none
   |false=>none)=some r:=j
  split at j
  ·rename_i u;rw[if_pos (Zdy _ _ u)];exact j
  ·cases j
theorem Zot (H:Hp)(y:AL){k B:List AV->Z4}(F:∀ l,Gr (k l) (B l)):∀ (rs:List ResultVar) (q:List (FA×Option (Bool×Nat))),rs.mapM (ZkY C n)=some q->∀ u,Gr (ZfJ H y k q u) (ZfI C n y H rs u B):=by
 intro rs
 induction rs with
 |nil =>
  intro q j u;injection j with j;subst j;exact F _
 |cons r rs A =>
  intro q j u;rw[zE]at j
  cases w:ZkY C n r with
  |none=>rw[w]at j;cases j
  |some p =>
   rw[w]at j
   cases z:rs.mapM (ZkY C n) with
   |none=>rw[z]at j;cases j
   |some D =>
    rw[z]at j;injection j with j;subst j;unfold ZfI
    cases r with
    |tmp t =>
     injection w with w;subst w;show Gr (ZfJ H y k D (J5 u [(cA C n (.tmp t)).get y])) _;rw[JQ,ZK];exact A _ z _
    |cell a t =>
     unfold ZkY at w;simp only[ZdK];dsimp only at w;split at w
     ·rename_i g sz E I;injection w with w;subst w;rw[E,I];show Gr (Z0 (ZdD g sz ((cA C n (.tmp a)).get y) H) fun v=>ZfJ H y k D (J5 u [v])) _;rw[ZK];refine bC (Zlz _ _ _ _) fun v=>?_;rw[JQ];exact A _ z _
     ·cases w
theorem Zzd {K:Kn}(z:Xu C K){CL:Zw}(h:Le CL (Z9 C))(fuel:Nat)(f:FuncId)(args:List AV)(H:Hp):Gr (ZAe CL fuel (Zvi K C f) args H) (Z9 C f args H):=by
 unfold Zvi;split
 ·exact ZS _
 ·rename_i fn B;split
  ·exact ZS _
  ·rename_i c A;split
   ·rename_i rs j;intro r u;have u:Yt (Nat.ble args.length fn.ntmps) (Pe fn.ntmps CL fuel (DH K C (C.keep f) fn.ntmps c) (fun e g H1=>eK e (ZfJ H1 g (fun l=>AR (C.pure f) H (ZfD l) H1) rs []) (fun _=>none) (fun _=>none) (ZfJ H1 g (fun l=>AR (C.pure f) H (ZfD l) H1) rs [])) (MI 0 args) H) none=some r:=u;obtain⟨w,y⟩:=YK u;rw[Zj9 B A rfl args w];refine Zzc z h fuel c _ _ (fun e g H1=>?_) (ZA f fn H) _ _ r y
    cases e with
    |normal=>exact Zot H1 g (fun l=>Zjy f H l H1) _ _ j _
    |ret=>exact Zot H1 g (fun l=>Zjy f H l H1) _ _ j _
    |_=>exact ZS _
   ·exact ZS _
theorem LV {K:Kn}(g:Xu C K)(fuel:Nat):∀ d,Le (C5 K C fuel d) (Z9 C):=by
 intro d
 induction d with
 |zero=>intro f a H r h;cases h
 |succ d j=>intro f a H r h;exact Zzd g j fuel f a H r h
end
def okY (r:Z4):Bool:=match r with
 |some (.bool b,_)=>b
 |_=>false
theorem Zqb {f:List AV->Hp->Z4}{l:List AV}{H H':Hp}{r:AV×Hp}(h:Zf f l H'=some r):Zf f l H=some (r.1,H):=by
 unfold Zf at h ⊢;split at h
 ·split at h
  ·split at h
   ·simp only[Option.some.injEq]at h;rw[<-h]
   ·cases h
  ·cases h
 ·cases h
def okV (r:Z4)(v:AV):Bool:=match r with
 |some (w,_)=>AV.eqb w v
 |none=>false
theorem Zqr {C:Cfg}:Xu C k0:=⟨fun f args v h=>(nomatch h),fun f g h _ j=>(nomatch j)⟩
theorem ZwI {C:Cfg}{K:Kn}(j:Xu C K){fuel d:Nat}{f:FuncId}{args:List AV}{v:AV}(h:okV (Zf (C5 K C fuel d f) args []) v=true)(H:Hp):Zf (Z9 C f) args H=some (v,H):=by
 unfold okV at h;split at h
 ·rename_i w H' g;rw[AV.eqb_eq _ _ h]at g;have:=Zof (fun l H r g=>LV j fuel d f l H r g) args [] _ g;exact Zqb this
 ·cases h
theorem ZwJ {C:Cfg}{K:Kn}(g:Xu C K){fuel d:Nat}{f:FuncId}(h:okY (C5 K C fuel d f [] [])=true)(H:Hp):Zf (Z9 C f) [] H=some (.bool true,H):=by
 unfold okY at h;split at h
 ·rename_i b H' j;subst h;exact Vp (args':=[]) rfl (LV g fuel d _ _ _ _ j) rfl
 ·cases h
theorem Zyt {C:Cfg}{K:Kn}(A:Xu C K){f:FuncId}{g:EffFn}{h:List AV->Hp->Option (AV×Hp)}(D:C.eff f=some g)(E:∀ args H r,h args H=some r->g.run args H=some r):Xu C (ZzF K f h):=by
 refine⟨A.1,fun w B y u j=>?_⟩;have j:Yt (zD w f) (some h) (K.ef w)=some y:=j
 cases z:zD w f with
 |true =>
  rw[z]at j;have j:some h=some y:=j;injection j with j;subst j;have:=zB z;subst this;rw[D]at u;injection u with u;subst u;exact E
 |false =>
  rw[z]at j;exact A.2 w B y u j
theorem Zxe {C:Cfg}:Xu C (Yg []):=⟨fun f args v h=>(nomatch h),fun f g h _ j=>(nomatch j)⟩
theorem Yd {C:Cfg}{K:Kn}(z:Xu C K){fuel d:Nat}{f:FuncId}{args:List AV}{v:AV}{l:List (Nat×List AV×AV)}(h:okV (Zf (C5 K C fuel d f) args []) v=true)(A:Xu C (Yg l)):Xu C (Yg ((f,args,v)::l)):=by
 refine⟨fun g y u j H=>?_,fun f g h _ j=>(nomatch j)⟩;have j:Yt (zD g f&&AV.eqbL y args) (some v) ((Yg l).fl g y)=some u:=j
 cases w:(zD g f&&AV.eqbL y args) with
 |true =>
  rw[w]at j;have j:some v=some u:=j;injection j with j;subst j;rw[zA]at w;rw[zB w.1,AV.eqbL_eq _ _ w.2];exact ZwI z h H
 |false =>
  rw[w]at j;exact A.1 g y u j H
end Go.Am
