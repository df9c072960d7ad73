/- THE ABSTRACT MACHINE -/
import Derived.Test.YtnaneekpogohaaaGreatDoorHmYax
open List renaming mapM_cons->zE
open Nat renaming eq_of_beq_eq_true->zB,beq->zD,blt->zF
open Bool renaming and_eq_true->zA,false_eq_true->zC
namespace Go.Am
theorem ZR {α:Type}(x:Option α):Gr none x:=ZyM x
section
variable {C:Cfg}{n:Nat}
def FP.f (p:FP):AL->Option AV:=match p with|.mk f=>f
def FR.f (p:FR):AL->Hp->Option AV:=match p with|.mk f=>f
def FH.f (p:FH):Zx->AL->Hp->Option (AV×Hp):=match p with|.mk f=>f
theorem Zs6 (g:List (Nat×Nat)):∀ (l:List (Nat×Operand)) (r:List (Nat×Nat×FA)),ZkW C n g l=some r ->
 ∃ m:List (Nat×Nat×Operand),r=m.map (fun p=>(p.1,p.2.1,cA C n p.2.2))/\∀ ev:Operand->AV,(l.map fun p=>(p.1,ev p.2)).mapM (fun p=>(g[p.1]?).map fun (q:Nat×Nat)=>(q.1,q.2,p.2))=some (m.map fun p=>(p.1,p.2.1,ev p.2.2)):=by
 intro l
 induction l with
 |nil=>intro r h;injection h with h;subst h;exact⟨[],rfl,fun ev=>rfl⟩
 |cons p l z =>
  intro r h
  have h:(match DQ g p.1,ZkW C n g l with
   |some q,some r=>some ((q.1,q.2,cA C n p.2)::r)
   |_,_=>none)=some r:=h
  rw[K0]at h;split at h
  ·rename_i q A y j;injection h with h;subst h;obtain⟨m,u,w⟩:=z _ j;refine⟨(q.1,q.2,p.2)::m,by rw[u];rfl,fun ev=>?_⟩;rw[List.map_cons,zE,w ev,y];rfl
  ·cases h
theorem Zs4 (t:TypeId)(parts:List (Nat×Operand))(u:AL):Gr ((ZkT C n t parts).f u) (LQ C.P t (parts.map fun p=>(p.1,Yy C n u p.2))):=by
 unfold ZkT;split
 ·rename_i zero fs F E;split
  ·rename_i j D;split
   ·rename_i z w;obtain⟨m,A,B⟩:=Zs6 j parts z w;intro r g;have g:(match Zkt u z zero with|some l=>some (AV.agg l)|none=>none)=some r:=g;unfold LQ;rw[F,E];dsimp only;rw[D];dsimp only;rw[B];dsimp only;split at g
    ·rename_i l y;rw[A]at y;rw[ZvT m zero _ y];exact g
    ·cases g
   ·exact ZR _
  ·exact ZR _
 ·intro r g;have g:LQ C.P t (parts.map fun p=>(p.1,(cA C n p.2).get u))=some r:=g;simp only[ZJ]at g;exact g
theorem Zps (t:TypeId)(len:Nat)(parts:List (Nat×Operand))(u:AL):Gr ((Zin C n t len parts).f u) (AD C.P t len (parts.map fun p=>(p.1,Yy C n u p.2))):=by
 unfold Zin;split
 ·rename_i e w;split
  ·rename_i size z A B;split
   ·rename_i g;rw[zA,zA,zA,decide_eq_true_eq,ZlN]at g;intro r j;have j:(match Zku u size (parts.map fun p=>(p.1,cA C n p.2)) (List.replicate len z) with|some l=>some (AV.vs size .clip l)|none=>none)=some r:=j;unfold AD;rw[w];dsimp only;rw[A,B];dsimp only;rw[if_pos ⟨g.1,g.2.1,g.2.2.1,LU g.2.2.2⟩];split at j
    ·rename_i l y;rw[Zw2 parts _ _ y];exact j
    ·cases j
   ·exact ZR _
  ·exact ZR _
 ·exact ZR _
theorem Zvf (op:Op)(u:AL):Gr ((Zpv C n op).f u) (ZI C (Yy C n u) op):=by
 unfold Zpv;split
 ·rename_i op t x y _;simp only[ZI];split
  ·rename_i hi;rw[if_pos hi];split
   ·rename_i E;rw[if_pos E];intro r j;have j:O4 op ((cA C n x).get u) ((cA C n y).get u)=some r:=j;rw[ZJ,ZJ]at j;exact j
   ·exact ZR _
  ·rename_i hi;rw[if_neg (by rw[hi];simp)];unfold ZoZ;split
   ·rename_i k A;rw[A];intro r j;have j:fib op ((cA C n x).get u) ((cA C n y).get u)=some r:=j;rw[ZJ,ZJ]at j;exact ZzE _ _ _ _ j
   ·rename_i A;rw[A];intro r j;have j:fsb op ((cA C n x).get u) ((cA C n y).get u)=some r:=j;rw[ZJ,ZJ]at j;exact ZzH _ _ _ _ j
   ·rename_i A;rw[A];intro r j;have j:JD C.P C.eqok op t ((cA C n x).get u) ((cA C n y).get u)=some r:=j;rw[ZJ,ZJ]at j;exact j
   ·rename_i A;rw[A];intro r j;have j:JD C.P C.eqok op t ((cA C n x).get u) ((cA C n y).get u)=some r:=j;rw[ZJ,ZJ]at j;exact j
   ·rename_i d J K L M A;rw[A];intro r j;have j:YC d op ((cA C n x).get u) ((cA C n y).get u)=some r:=j;rw[ZJ,ZJ]at j;cases d <;> first|exact j|(exact absurd rfl (J _))|(exact absurd rfl K)|(exact absurd rfl (L _))|(exact absurd rfl (M _ _))
   ·exact ZR _
 ·exact Zs4 _ _ _
 ·exact Zps _ _ _ _
 ·rename_i t x f;simp only[ZI];split
  ·rename_i D H;rw[H];dsimp only;split
   ·rename_i sz w;rw[w];dsimp only;split
    ·rename_i O;rw[if_pos (LU O)];intro r j;have j:Zcv D.offset ((cA C n x).get u)=some r:=j;rw[ZJ]at j;exact Zjd _ _ _ j
    ·exact ZR _
   ·exact ZR _
  ·exact ZR _
 ·rename_i t x f;simp only[ZI];split
  ·rename_i D H;rw[H];dsimp only;split
   ·rename_i g sz B w;rw[B,w];dsimp only;intro r j;have j:(match (cA C n x).get u with|.agg I=>Cq g sz I D.offset|_=>none)=some r:=j;rw[ZJ]at j;unfold TG;split at j
    ·rename_i I E;rw[E];rw[Ek]at j;exact j
    ·cases j
   ·exact ZR _
  ·exact ZR _
 ·rename_i t x i;simp only[ZI];split
  ·rename_i e z;rw[z];dsimp only;split
   ·rename_i size w;rw[w];intro r j;have j:ZgW size ((cA C n x).get u) ((cA C n i).get u)=some r:=j;rw[ZJ,ZJ]at j;exact ZsM _ _ _ _ j
   ·exact ZR _
  ·rename_i len e z;rw[z];dsimp only;split
   ·rename_i size w;rw[w];intro r j;have j:Zdn len size ((cA C n x).get u) ((cA C n i).get u)=some r:=j;rw[ZJ,ZJ]at j;exact Zq4 _ _ _ _ _ j
   ·exact ZR _
  ·exact ZR _
 ·rename_i t x i;simp only[ZI];split
  ·rename_i z;rw[z];intro r j;have j:Co ((cA C n x).get u) ((cA C n i).get u)=some r:=j;rw[ZJ,ZJ]at j;exact Zly _ _ _ j
  ·rename_i len e z;rw[z];dsimp only;split
   ·rename_i g size B w;rw[B,w];intro r j;have j:Zdo g len size ((cA C n x).get u) ((cA C n i).get u)=some r:=j;rw[ZJ,ZJ]at j;exact Zq5 _ _ _ _ _ _ j
   ·exact ZR _
  ·exact ZR _
 ·rename_i t x lo hi mx;simp only[ZI];split
  ·rename_i z;rw[z];intro r j;have j:Ziz ((cA C n x).get u) (TU (lo.map (cA C n)) u) (TU (hi.map (cA C n)) u) (TU (mx.map (cA C n)) u)=some r:=j;rw[ZJ,TW,TW,TW,Zqf]at j;exact j
  ·rename_i e z;rw[z];dsimp only;split
   ·rename_i size w;rw[w];intro r j;have j:Zds size ((cA C n x).get u) (TU (lo.map (cA C n)) u) (TU (hi.map (cA C n)) u) (TU (mx.map (cA C n)) u)=some r:=j;rw[ZJ,TW,TW,TW]at j;exact Zqg _ _ _ _ _ _ j
   ·exact ZR _
  ·exact ZR _
 ·rename_i s d x;simp only[ZI];split
  ·rename_i k w F;intro r j;have j:Zks ((cA C n x).get u) k=some r:=j;rw[ZJ,ZvS]at j;unfold C0;rename_i k0;rw[w,F];exact j
  ·intro r j;have j:C0 C.P C.wrb s d ((cA C n x).get u)=some r:=j;rw[ZJ]at j;exact j
 ·rename_i args argTypes;simp only[ZI];split
  ·rename_i x t N R;rw[N,R];dsimp only;split
   ·rename_i d F;intro r j;have j:Zq9 d ((cA C n x).get u)=some r:=j;rw[ZJ,Zyx]at j;unfold Zii;rw[F];exact j
   ·exact ZR _
  ·exact ZR _
 ·rename_i t i;intro r j;have j:(match (cA C n t).get u with|.tuple l=>DQ l i|_=>none)=some r:=j;rw[ZJ]at j;simp only[ZI];unfold ZQ;split at j
  ·rename_i l Q;rw[Q];rw[K0]at j;exact j
  ·cases j
 ·rename_i c a b;intro r j;have j:Zi ((cA C n c).get u) ((cA C n a).get u) ((cA C n b).get u)=some r:=j;rw[ZJ,ZJ,ZJ]at j;exact j
 ·rename_i op _ x;intro r j;have j:Xo op ((cA C n x).get u)=some r:=j;rw[ZJ]at j;exact j
 ·rename_i t a;simp only[ZI];split
  ·rename_i g sz B w;rw[B,w];intro r j;have j:U6 g sz ((cA C n a).get u)=some r:=j;rw[ZJ]at j;exact j
  ·exact ZR _
 ·rename_i x;intro r j;have j:Zu ((cA C n x).get u)=some r:=j;rw[ZJ]at j;exact j
 ·exact le_refl _
theorem Zvg (op:Op)(u:AL)(H:Hp):Gr ((Zpw C n op).f u H) (G7 C (Yy C n u) H op):=by
 unfold Zpw;split
 ·rename_i t a;simp only[G7];split
  ·rename_i g sz w y;rw[w,y];intro r j;have j:Zdq g sz ((cA C n a).get u) H=some r:=j;rw[ZJ]at j;exact Zlz _ _ _ _ _ j
  ·exact ZR _
 ·exact le_refl _
def Xr (C:Cfg)(K:Kn):Prop:=(∀ f args v,K.fl f args=some v->∀ H,Zf (Z9 C f) args H=some (v,H))/\∀ f g h,C.eff f=some g->K.ef f=some h->∀ args H r,h args H=some r->g.run args H=some r
theorem Zva {K:Kn}(y:Xr C K){CL:Zx}(h:Le CL (Z9 C))(f:FuncId)(args:List AV)(H:Hp):Gr ((Zkp K C f).run K CL args H) (X5 C (Z9 C) f args H):=by
 unfold Zkp X5
 cases C.ext f with
 |some e=>exact le_refl _
 |none =>
  dsimp only
  cases C.sum f with
  |some g=>exact le_refl _
  |none =>
   dsimp only
   cases u:C.eff f with
   |some g =>
    dsimp only
    cases w:K.ef f with
    |none=>exact le_refl _
    |some h=>exact fun r j=>y.2 f g h u w args H r j
   |none =>
    dsimp only
    cases C.user f with
    |false=>exact ZR _
    |true =>
     simp only[if_true]
     cases C.flat f with
     |true =>
      intro r j;have j:(match K.fl f args with|some v=>some (v,H)|none=>Zf (CL f) args H)=some r:=j;simp only[if_true];split at j
      ·rename_i v z;injection j with j;subst j;exact y.1 f args v z H
      ·exact Zof (fun l H r j=>h _ _ _ _ j) args H r j
     |false =>
      simp only[zC,if_false]
      cases C.ro f with
      |true=>exact ZAI (fun l H r j=>h _ _ _ _ j) args H
      |false=>exact fun r j=>h _ _ _ _ j
theorem Zvc {K:Kn}(I:Xr C K){CL:Zx}(h:Le CL (Z9 C))(op:Op)(j:AL)(H:Hp):Gr ((Zpt K C n op).f CL j H) (ZA C (Z9 C) (Yy C n j) H op):=by
 unfold Zpt;split
 ·rename_i t a x;simp only[ZA];split
  ·rename_i sz O;rw[O];split
   ·rename_i y;rw[y];intro r g;have g:AN sz ((cA C n a).get j) ((cA C n x).get j) H=some r:=g;rw[ZJ,ZJ]at g;exact Zjk _ _ _ _ _ g
   ·rename_i k y;rw[y];intro r g;have g:Ys (stV (k+1) ((cA C n a).get j)) (AN sz ((cA C n a).get j) ((cA C n x).get j) H) none=some r:=g;rw[ZJ,ZJ]at g;obtain⟨E,F⟩:=YL g;dsimp only;rw[if_pos E];exact Zjk _ _ _ _ _ F
  ·exact ZR _
 ·rename_i x;intro r g;have g:Zlu ((cA C n x).get j) H=some r:=g;rw[ZJ]at g;exact Zoe _ _ _ g
 ·rename_i e;simp only[ZA];split
  ·rename_i z y;rw[y];dsimp only;split
   ·rename_i u D;rw[D];exact fun r g=>g
   ·rename_i D;rw[D];intro r g;have g:Zlu z H=some r:=g;have:=Zoe _ _ _ g;unfold ZM at this;exact this
  ·exact ZR _
 ·rename_i args argTypes;simp only[ZA];split
  ·rename_i s x st xt J Q;rw[J,Q];dsimp only;split
   ·rename_i e S M R;rw[M,R];dsimp only;split
    ·exact ZR _
    ·rename_i A;rw[A];simp only[Bool.not_true,zC,if_false];split
     ·rename_i k bytes N L;rw[N,L];dsimp only;split
      ·rename_i B;rw[zA]at B;rw[if_pos (by rw[zA,decide_eq_true_eq];exact⟨LU B.1,B.2⟩)];split
       ·rename_i ag w;rw[w];intro r g;have g:ZgP ag k bytes ((cA C n s).get j) ((cA C n x).get j) H=some r:=g;rw[ZJ,ZJ]at g;exact ZsC _ _ _ _ _ _ _ g
       ·rename_i w;rw[w];intro r g;have g:Zkr k bytes ((cA C n s).get j) ((cA C n x).get j) H=some r:=g;rw[ZJ,ZJ]at g;exact ZvQ _ _ _ _ _ _ g
      ·exact ZR _
     ·exact ZR _
   ·exact ZR _
  ·exact ZR _
 ·rename_i f args _;intro r g;have g:(Zkp K C f).run K CL (Zqh (cAs C n args.toList) j) H=some r:=g;rw[Zyg]at g;simp only[ZA];rw[if_neg (by rw[show CN C (.func f) args=false from rfl];simp)];have:=Zva I h f _ _ _ g;show X5 C (Z9 C) f ([]++args.toList.map (Yy C n j)++[]) H=some r;rw[List.nil_append,List.append_nil];exact this
 ·intro r g;exact Zgq h g
abbrev KGr (k j:AL->Hp->Z3):Prop:=∀ g H,Gr (k g H) (j g H)
theorem I9 (k:AL->Hp->Z3)(g:Option Tmp)(v:AV)(j:AL)(H:Hp):Ez k g v j H=k (Pd j g v) H:=by cases g <;> rfl
theorem ZAK {k:AL->Hp->Z3}{u:Option Tmp}{g:FG}{f:FP}{CL:Zx}{b:Nat}{j:AL}{H:Hp}:FO.run (.p u g f) CL b k j H=Z0 (g.run j (.tuple []) (f.f j)) fun v=>k (Pd j u v) H:=by
 show @Option.rec AV (fun _=>Z3) none (fun v=>Ez k u v j H) (g.run j (.tuple []) (@FP.rec (fun _=>Option AV) (fun f=>f j) f))=_;have:@FP.rec (fun _=>Option AV) (fun f=>f j) f=f.f j:=by cases f;rfl
 rw[this]
 cases g.run j (.tuple []) (f.f j) with
 |none=>rfl
 |some v=>exact I9 _ _ _ _ _
theorem ZAL {k:AL->Hp->Z3}{u:Option Tmp}{g:FG}{f:FR}{CL:Zx}{b:Nat}{j:AL}{H:Hp}:FO.run (.r u g f) CL b k j H=Z0 (g.run j (.tuple []) (f.f j H)) fun v=>k (Pd j u v) H:=by
 show @Option.rec AV (fun _=>Z3) none (fun v=>Ez k u v j H) (g.run j (.tuple []) (@FR.rec (fun _=>Option AV) (fun f=>f j H) f))=_;have:@FR.rec (fun _=>Option AV) (fun f=>f j H) f=f.f j H:=by cases f;rfl
 rw[this]
 cases g.run j (.tuple []) (f.f j H) with
 |none=>rfl
 |some v=>exact I9 _ _ _ _ _
theorem ZAJ {k:AL->Hp->Z3}{u:Option Tmp}{g:FG}{f:FH}{CL:Zx}{b:Nat}{j:AL}{H:Hp}:FO.run (.h u g f) CL b k j H=Z0 (g.run j (.tuple [],H) (f.f CL j H)) fun r=>k (Pd j u r.1) r.2:=by
 show @Option.rec (AV×Hp) (fun _=>Z3) none (fun r=>@Prod.rec AV Hp (fun _=>Z3) (fun v H=>Ez k u v j H) r) (g.run j (.tuple [],H) (@FH.rec (fun _=>Option (AV×Hp)) (fun f=>f CL j H) f))=_;have:@FH.rec (fun _=>Option (AV×Hp)) (fun f=>f CL j H) f=f.f CL j H:=by cases f;rfl
 rw[this]
 cases g.run j (.tuple [],H) (f.f CL j H) with
 |none=>rfl
 |some r=>obtain⟨v,H'⟩:=r;exact I9 _ _ _ _ _
theorem Zs5 {K:Kn}(E:Xr C K){CL:Zx}(h:Le CL (Z9 C)){k w:AL->Hp->Z3}(u:KGr k w)(ops:Array Oper)(fl:Bool)(o:Oper)(b:Nat)(j:AL)(H:Hp):Gr ((cOp K C n ops fl o).run CL b k j H) (Ca C (Z9 C) n ops fl o w j H):=by
 unfold cOp;split
 ·rename_i x y z;unfold Ca;rw[y,z];dsimp only;show Gr (Ez k o.dst ((cA C n x).get j) j H) _;rw[I9,ZJ];exact u _ _
 ·rename_i A
  have e:Ca C (Z9 C) n ops fl o w j H=AG C (Z9 C) n ops fl o w j H:=by
   unfold Ca;split
   ·rename_i x y z;exact absurd z (A _ y)
   ·rfl
  rw[e];unfold AG;split
  ·rename_i g;rw[g];rw[ZAK,ZkV];exact bC (Zfj (Zvf _ _)) fun v=>u _ _
  ·rename_i g;rw[g];rw[ZAL,ZkV];exact bC (Zfj (Zvg _ _ _)) fun v=>u _ _
  ·rename_i B D;split
   ·rename_i g;exact absurd g B
   ·rename_i g;exact absurd g D
   ·rw[ZAJ,ZkV];exact bC (Zfj (Zvc E h _ _ _)) fun r=>u _ _
theorem Zyh {K:Kn}(u:Xr C K){CL:Zx}(h:Le CL (Z9 C)){k g:AL->Hp->Z3}(w:KGr k g)(ops:Array Oper)(draw:Bool)(b:Nat):∀ (l:List Oper) (i:Nat),KGr (OA CL b k (Zpu K C n ops draw l i)) (Zc7 C (Z9 C) n ops draw i l g):=by
 intro l
 induction l with
 |nil=>intro i;exact w
 |cons o l y =>
  intro i j H;show Gr ((cOp K C n ops (draw&&YF C ops i) o).run CL b (OA CL b k (Zpu K C n ops draw l (i+1))) j H) _;exact Zs5 u h (y (i+1)) _ _ _ _ _ _
theorem Zve {K:Kn}(w:Xr C K){CL:Zx}(h:Le CL (Z9 C)){k u:AL->Hp->Z3}(y:KGr k u)(ops:Array Oper)(b:Nat):∀ (l:List Oper) (i:Nat),KGr (OA CL b k (Zgz K C n ops l i)) (E0 C (Z9 C) n ops b i l u):=by
 intro l
 induction l with
 |nil=>intro i;exact y
 |cons o l j =>
  intro i g H;show Gr (FO.run (match lag C ops i with|true=>Zvd C n ops i o|false=>cOp K C n ops (YF C ops i) o) CL b (OA CL b k (Zgz K C n ops l (i+1))) g H) _;unfold E0
  cases lag C ops i with
  |true =>
   dsimp only;unfold Zvd ZlS
   cases YF C ops i with
   |true=>exact ZR _
   |false =>
    dsimp only;show Gr (Z0 (KO (b+XD C ops i) (Rw C (Yy C n g) o.op) H) fun r=>Ez (OA CL b k (Zgz K C n ops l (i+1))) o.dst r.1 g r.2) _;refine bR fun r=>?_;rw[I9];exact j (i+1) _ _
  |false=>exact Zs5 w h (j (i+1)) _ _ _ _ _ _
theorem ZyB {k u:AL->Hp->Z3}(w:KGr k u):∀ (g:List Nat),KGr (Ziy n k g) (ZlG n u g):=by
 intro g
 induction g with
 |nil=>exact w
 |cons t g y =>
  intro j H;show Gr (V8 (Ys (zF t n) (CI j t) (.tuple [])) H fun v H'=>Ziy n k g ((t,v)::j) H') _;unfold ZlG
  have:Ys (zF t n) (CI j t) (.tuple [])=Em n j t:=by
   unfold Em;rw[Zfm];cases zF t n <;> rfl
  rw[this];exact bF fun v H'=>y _ _
theorem Zoh {k u:AL->Hp->Z3}(j:KGr k u)(g:Option (List Nat)):KGr (Ziy n k (match g with|none=>[]|some g=>g)) (ZlF n g u):=by
 cases g with
 |none=>exact j
 |some g=>exact ZyB j g
variable {kp:Nat->Option (List Nat)}
abbrev KK (k j:KL):Prop:=∀ e g H,Gr (k e g H) (j e g H)
theorem Zsc {CL:Zx}{ops:Array Oper}{draw:Bool}{k:AL->Hp->Z3}{r:Z3}{g:AL}{H:Hp}(h:Gr r (HW C CL n ops draw k g H)):Gr (ckR (ZkU C n ops draw) g r) (Zme C CL n ops draw k g H):=by
 unfold Zme
 cases draw with
 |false=>exact h
 |true =>
  show Gr (ckR ((TP C ops).map fun p=>(cA C n (.tmp p.1),cA C n (.tmp p.2))) g r) (PT (Yy C n g) (HW C CL n ops true k g H) (TP C ops));generalize TP C ops=l
  induction l with
  |nil=>exact h
  |cons p l j =>
   show Gr (Z0 (Sb ((cA C n (.tmp p.1)).get g) ((cA C n (.tmp p.2)).get g)) fun _=>ckR (l.map fun p=>(cA C n (.tmp p.1),cA C n (.tmp p.2))) g r) (Z0 (Sb (Yy C n g (.tmp p.1)) (Yy C n g (.tmp p.2))) fun _=>PT (Yy C n g) (HW C CL n ops true k g H) l);rw[ZJ,ZJ]
   cases Sb (Yy C n g (.tmp p.1)) (Yy C n g (.tmp p.2)) with
   |none=>exact ZR _
   |some u=>exact j
theorem Zyi {K:Kn}(w:Xr C K){CL:Zx}(h:Le CL (Z9 C))(fuel:Nat){k z:KL}(y:KK k z)(id:Nat)(ops:Array Oper)(draw:Bool)(g:AL)(H:Hp) :
 Gr (Pf n CL fuel (Zvh K C kp n id ops draw) k g H) (Y9 C (Z9 C) (Y6 C kp n) kp n Zc Z7 (.region id ops draw) z g H):=by
 unfold Zvh;simp only[Y9]
 cases B:(draw&&!(XZ ops&&JW C ops)) with
 |true=>exact ZR _
 |false =>
  dsimp only;simp only[zC,if_false]
  cases j:ZlR C ops draw with
  |true =>
   dsimp only;show Gr (Ziy n (fun g H=>ckR (ZkU C n ops draw) g (Zmq CL (XD C ops ops.size) (Zgz K C n ops ops.toList 0) k g H)) (match kp (id+1000000) with|none=>[]|some ts=>ts) g H) _;refine Zoh (fun g H=>Zsc ?_) _ _ _;unfold HW;rw[j]
   have A:∃ m,XD C ops ops.size=m+1:=by
    cases u:XD C ops ops.size with
    |zero =>
     unfold ZlR at j;rw[u]at j;cases draw <;> cases j
    |succ m=>exact⟨m,rfl⟩
   obtain⟨m,u⟩:=A;rw[u];exact Zve w h (fun g H=>y .normal g H) _ _ _ _ _ _
  |false =>
   dsimp only;show Gr (Ziy n (fun g H=>ckR (ZkU C n ops draw) g (Zmq CL 0 (Zpu K C n ops draw ops.toList 0) k g H)) (match kp (id+1000000) with|none=>[]|some ts=>ts) g H) _;refine Zoh (fun g H=>Zsc ?_) _ _ _;unfold HW;rw[j];exact Zyh w h (fun g H=>y .normal g H) _ _ _ _ _ _ _
theorem Zxs (g:AL):∀ (l:List Nat) (k:AL->Z3),Zrh g l k=k (l.map fun t=>(t,look g t)):=by
 intro l
 induction l with
 |nil=>intro k;rfl
 |cons t l j =>
  intro k;show @Bx.rec (fun _=>Z3) (fun v=>Zrh g l fun r=>k ((t,v)::r)) (Zhh g t)=_;rw[ZlY];exact j _
theorem ZmH (c:Code)(g:AL)(k:AL->Z3):ZhK (Pw kp c) g k=k (ZU kp c g):=by
 unfold Pw ZU
 cases Yq c with
 |none=>rfl
 |some r =>
  dsimp only
  cases kp r with
  |none=>rfl
  |some keep=>exact Zxs _ _ _
theorem Zo1 (c:Code)(g:AL):ZU kp c (ZU kp c g)=ZU kp c g:=by
 unfold ZU
 cases Yq c with
 |none=>rfl
 |some r =>
  dsimp only
  cases kp r with
  |none=>rfl
  |some keep =>
   dsimp only;apply List.map_congr_left;intro t j;rw[Es,if_pos j]
theorem ZxH {k j:KL}(y:KK k j){B:AL->Hp->Z3}{u:KL->AL->Hp->Z3}(w:∀ g H,Gr (B g H) (u j g H))(e:AExit)(g:AL)(H:Hp) :
 Gr (eK e (B g H) (fun i=>k (.exit i) g H) (fun l=>k (.goto l) g H) (k .ret g H)) (Zc u j e g H):=by
 cases e with
 |normal=>exact w _ _
 |_=>exact y _ _ _
theorem Zz9 {K:Kn}(L:Xr C K){CL:Zx}(h:Le CL (Z9 C))(fuel:Nat):∀ (c:Code) (k u:KL),KK k u->ZW n u->∀ (g:AL) (H:Hp),
 Gr (Pf n CL fuel (DE K C kp n c) k g H) (Y9 C (Z9 C) (Y6 C kp n) kp n Zc Z7 c u g H):=by
 intro c
 induction c with
 |region id ops draw=>intro k u j w g H;exact Zyi L h fuel j id ops draw g H
 |seq a b A D =>
  intro k u j w g H;simp only[Y9];refine A _ _ (fun e g H=>?_) (Zy b w) g H;refine ZxH j (B:=fun g H=>ZhK (Pw kp b) g fun g=>Pf n CL fuel (DE K C kp n b) k g H) (fun g H=>?_) e g H;rw[ZmH];exact D k u j w _ _
 |cond c x y F I =>
  intro k u j w g H;simp only[Y9];show Gr (match (cA C n c).get g with|.bool t=>Ys t (Pf n CL fuel (DE K C kp n x) k g H) (Pf n CL fuel (DE K C kp n y) k g H)|_=>none) _;rw[ZJ];unfold Zl;split
  ·rename_i t M;rw[M]
   cases t with
   |true=>exact F k u j w g H
   |false=>exact I k u j w g H
  ·exact ZR _
 |block id c z =>
  intro k u j w g H;simp only[Y9];refine z _ _ (fun e g H=>?_) (Zn id w) g H
  cases e with
  |exit i =>
   show Gr (Ys (zD i id) (k .normal g H) (k (.exit i) g H)) (if i=id then u .normal g H else u (.exit i) g H)
   cases J:zD i id with
   |true=>rw[if_pos (zB J)];exact j _ _ _
   |false=>rw[if_neg (Nat.ne_of_beq_eq_false J)];exact j _ _ _
  |_=>exact j _ _ _
 |loop c z =>
  intro k u j w g H;simp only[Y9];show Gr (Zhi (Pw kp c) (Pf n CL fuel (DE K C kp n c)) fuel k g H) _
  have key:∀ (m:Nat) (k u:KL),KK k u->ZW n u->∀ (g:AL) (H:Hp),Gr (Zhi (Pw kp c) (Pf n CL fuel (DE K C kp n c)) m k g H) (Y6 C kp n c u (ZU kp c g) H):=by
   intro m
   induction m with
   |zero=>intro k u j w g H;exact ZR _
   |succ m E =>
    intro k u j w g H;show Gr (ZhK (Pw kp c) g fun g=>Pf n CL fuel (DE K C kp n c) (fun e g H=>eK e (Zhi (Pw kp c) (Pf n CL fuel (DE K C kp n c)) m k g H) (fun i=>k (.exit i) g H) (fun l=>k (.goto l) g H) (k .ret g H)) g H) _;rw[ZmH,Zry w,Zo1];refine z _ _ (fun e g H=>?_) (Nj c w) _ _;exact ZxH j (B:=fun g H=>Zhi (Pw kp c) (Pf n CL fuel (DE K C kp n c)) m k g H) (fun g H=>E k u j w g H) e g H
  exact key fuel k u j w g H
 |scope c z =>
  intro k u j w g H;simp only[Y9];show Gr (Pf n CL fuel (match Xc c with|true=>DE K C kp n c|false=>.bad) k g H) _;split
  ·rename_i N;rw[if_pos N];exact z k u j w g H
  ·exact ZR _
 |skip=>intro k u j w g H;exact j _ _ _
 |exit id=>intro k u j w g H;exact j _ _ _
 |label l=>intro k u j w g H;exact j _ _ _
 |goto l=>intro k u j w g H;exact j _ _ _
 |ret=>intro k u j w g H;exact j _ _ _
 |_=>intro k u j w g H;exact ZR _
theorem Zjr (f:FuncId)(g:Hp)(l:List AV)(H:Hp):Gr (AO (C.pure f) g (Zfs l) H) (En C f g H l):=by
 have e:En C f g H l=Kp C f g (Zfs l,H):=by
  match l with
  |[]=>rfl
  |[v]=>rfl
  |v::w::l=>rfl
 rw[e];unfold Kp AO
 cases C.pure f with
 |false=>exact le_refl _
 |true =>
  simp only[if_true];unfold Zhe;intro r j
  have j:(match HL (H.take g.length) g with
   |true=>match Zb H g.length 9 (Zfs l) with
    |some v'=>some (v',g)
    |none=>none
   |false=>none)=some r:=j
  split at j
  ·rename_i u;rw[if_pos (Zdl _ _ u)];exact j
  ·cases j
theorem Zos (H:Hp)(y:AL){k B:List AV->Z3}(F:∀ l,Gr (k l) (B l)):∀ (rs:List ResultVar) (q:List (FA×Option (Bool×Nat))),rs.mapM (ZkX C n)=some q->∀ u,Gr (Zfy H y k q u) (Zfx C n y H rs u B):=by
 intro rs
 induction rs with
 |nil =>
  intro q j u;injection j with j;subst j;exact F _
 |cons r rs A =>
  intro q j u;rw[zE]at j
  cases w:ZkX C n r with
  |none=>rw[w]at j;cases j
  |some p =>
   rw[w]at j
   cases z:rs.mapM (ZkX C n) with
   |none=>rw[z]at j;cases j
   |some D =>
    rw[z]at j;injection j with j;subst j;unfold Zfx
    cases r with
    |tmp t =>
     injection w with w;subst w;show Gr (Zfy H y k D (J2 u [(cA C n (.tmp t)).get y])) _;rw[JT,ZJ];exact A _ z _
    |cell a t =>
     unfold ZkX at w;simp only[Zdx];dsimp only at w;split at w
     ·rename_i g sz E I;injection w with w;subst w;rw[E,I];show Gr (Z0 (Zdq g sz ((cA C n (.tmp a)).get y) H) fun v=>Zfy H y k D (J2 u [v])) _;rw[ZJ];refine bC (Zlz _ _ _ _) fun v=>?_;rw[JT];exact A _ z _
     ·cases w
theorem Zza {K:Kn}(z:Xr C K){CL:Zx}(h:Le CL (Z9 C))(fuel:Nat)(f:FuncId)(args:List AV)(H:Hp):Gr (ZAc CL fuel (Zvb K C f) args H) (Z9 C f args H):=by
 unfold Zvb;split
 ·exact ZR _
 ·rename_i fn B;split
  ·exact ZR _
  ·rename_i c A;split
   ·rename_i rs j;intro r u;have u:Ys (Nat.ble args.length fn.ntmps) (Pf fn.ntmps CL fuel (DE K C (C.keep f) fn.ntmps c) (fun e g H1=>eK e (Zfy H1 g (fun l=>AO (C.pure f) H (Zfs l) H1) rs []) (fun _=>none) (fun _=>none) (Zfy H1 g (fun l=>AO (C.pure f) H (Zfs l) H1) rs [])) (MI 0 args) H) none=some r:=u;obtain⟨w,y⟩:=YL u;rw[Zj2 B A rfl args w];refine Zz9 z h fuel c _ _ (fun e g H1=>?_) (ZB f fn H) _ _ r y
    cases e with
    |normal=>exact Zos H1 g (fun l=>Zjr f H l H1) _ _ j _
    |ret=>exact Zos H1 g (fun l=>Zjr f H l H1) _ _ j _
    |_=>exact ZR _
   ·exact ZR _
theorem LV {K:Kn}(g:Xr C K)(fuel:Nat):∀ d,Le (C6 K C fuel d) (Z9 C):=by
 intro d
 induction d with
 |zero=>intro f a H r h;cases h
 |succ d j=>intro f a H r h;exact Zza g j fuel f a H r h
end
def okY (r:Z3):Bool:=match r with
 |some (.bool b,_)=>b
 |_=>false
theorem Zq7 {f:List AV->Hp->Z3}{l:List AV}{H H':Hp}{r:AV×Hp}(h:Zf f l H'=some r):Zf f l H=some (r.1,H):=by
 unfold Zf at h ⊢;split at h
 ·split at h
  ·split at h
   ·simp only[Option.some.injEq]at h;rw[<-h]
   ·cases h
  ·cases h
 ·cases h
def okV (r:Z3)(v:AV):Bool:=match r with
 |some (w,_)=>AV.eqb w v
 |none=>false
theorem Zqo {C:Cfg}:Xr C k0:=⟨fun f args v h=>(nomatch h),fun f g h _ j=>(nomatch j)⟩
theorem ZwC {C:Cfg}{K:Kn}(j:Xr C K){fuel d:Nat}{f:FuncId}{args:List AV}{v:AV}(h:okV (Zf (C6 K C fuel d f) args []) v=true)(H:Hp):Zf (Z9 C f) args H=some (v,H):=by
 unfold okV at h;split at h
 ·rename_i w H' g;rw[AV.eqb_eq _ _ h]at g;have:=Zof (fun l H r g=>LV j fuel d f l H r g) args [] _ g;exact Zq7 this
 ·cases h
theorem ZwD {C:Cfg}{K:Kn}(g:Xr C K){fuel d:Nat}{f:FuncId}(h:okY (C6 K C fuel d f [] [])=true)(H:Hp):Zf (Z9 C f) [] H=some (.bool true,H):=by
 unfold okY at h;split at h
 ·rename_i b H' j;subst h;exact Vn (args':=[]) rfl (LV g fuel d _ _ _ _ j) rfl
 ·cases h
theorem Zyq {C:Cfg}{K:Kn}(A:Xr C K){f:FuncId}{g:EffFn}{h:List AV->Hp->Option (AV×Hp)}(D:C.eff f=some g)(E:∀ args H r,h args H=some r->g.run args H=some r):Xr C (ZzD K f h):=by
 refine⟨A.1,fun w B y u j=>?_⟩;have j:Ys (zD w f) (some h) (K.ef w)=some y:=j
 cases z:zD w f with
 |true =>
  rw[z]at j;have j:some h=some y:=j;injection j with j;subst j;have:=zB z;subst this;rw[D]at u;injection u with u;subst u;exact E
 |false =>
  rw[z]at j;exact A.2 w B y u j
theorem Zx6 {C:Cfg}:Xr C (Yf []):=⟨fun f args v h=>(nomatch h),fun f g h _ j=>(nomatch j)⟩
theorem Yc {C:Cfg}{K:Kn}(z:Xr C K){fuel d:Nat}{f:FuncId}{args:List AV}{v:AV}{l:List (Nat×List AV×AV)}(h:okV (Zf (C6 K C fuel d f) args []) v=true)(A:Xr C (Yf l)):Xr C (Yf ((f,args,v)::l)):=by
 refine⟨fun g y u j H=>?_,fun f g h _ j=>(nomatch j)⟩;have j:Ys (zD g f&&AV.eqbL y args) (some v) ((Yf l).fl g y)=some u:=j
 cases w:(zD g f&&AV.eqbL y args) with
 |true =>
  rw[w]at j;have j:some v=some u:=j;injection j with j;subst j;rw[zA]at w;rw[zB w.1,AV.eqbL_eq _ _ w.2];exact ZwC z h H
 |false =>
  rw[w]at j;exact A.1 g y u j H
end Go.Am
