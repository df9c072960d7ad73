/- THE ABSTRACT MACHINE -/
import Derived.Test.YtjmhpjoedfegkaaGreatDoorHmLx
open List renaming getElem?_set_ne->zE,length_set->zF,set_comm->zG
open Nat renaming le_refl->zC,le_trans->zD
open Option.some renaming injEq->zA
open Prod.mk renaming injEq->zB
namespace Go.Am
section
variable {C:Cfg}{call:ZQ}
def FrmS {α:Type}(f:St->Option (α×St)):Prop :=
 ∀ s e s',f s=some (e,s')->s.2.length<=s'.2.length/\∀ o,o<s.2.length->s'.2[o]?=some .free->s.2[o]?=some .free/\∀ x,f (s.1,s.2.set o x)=some (e,(s'.1,s'.2.set o x))
def FrmT (f:St->St):Prop :=
 ∀ s,s.2.length<=(f s).2.length/\∀ o,o<s.2.length->(f s).2[o]?=some .free->s.2[o]?=some .free/\∀ x,f (s.1,s.2.set o x)=((f s).1,(f s).2.set o x)
theorem FrmT.id:FrmT λs=>s:=λ_=>⟨zC _,λ_ _ h=>⟨h,λ_=>rfl⟩⟩
theorem FrmT.comp {f g:St->St}(hf:FrmT f)(hg:FrmT g):FrmT λs=>g (f s):=by
 intro s;obtain⟨f1,f2⟩:=hf s;obtain⟨g1,g2⟩:=hg (f s);refine⟨zD f1 g1,λo ho h=>?_⟩;obtain⟨g3,g4⟩:=g2 o (by omega) h;obtain⟨f3,f4⟩:=f2 o ho g3;exact⟨f3,λx=>by simp only[f4 x];exact g4 x⟩
theorem FrmS.after {α:Type}{f:St->St}{g:St->Option (α×St)}(hf:FrmT f)(hg:FrmS g):FrmS λs=>g (f s):=by
 intro s e s' h;obtain⟨f1,f2⟩:=hf s;obtain⟨g1,g2⟩:=hg (f s) e s' h;refine⟨zD f1 g1,λo ho h=>?_⟩;obtain⟨g3,g4⟩:=g2 o (by omega) h;obtain⟨f3,f4⟩:=f2 o ho g3;exact⟨f3,λx=>by simp only[f4 x];exact g4 x⟩
theorem ZyN (t:Nat):FrmT λs=>frz1 s t:=by
 intro s;obtain⟨tm,H⟩:=s;simp only[frz1];generalize tm.getD t (.tuple [])=a
 have key:H.length<=(Rm a H).2.length/\∀ o,o<H.length->(Rm a H).2[o]?=some .free->H[o]?=some .free/\∀ x,Rm a (H.set o x)=((Rm a H).1,(Rm a H).2.set o x):=by
  cases a with
  |ptr p off =>
   cases off with
   |zero =>
    simp only[Rm]
    cases hp:H[p]? with
    |none =>
     refine⟨zC _,λo ho h=>⟨h,λx=>?_⟩⟩;have hne:o≠p:=by rintro rfl;rw[h]at hp;cases hp
     rw[zE hne,hp]
    |some z =>
     cases z with
     |cells l =>
      refine⟨by simp,λo ho h=>?_⟩;obtain⟨h1,h2⟩:=Mx h (by simp);refine⟨h2,λx=>?_⟩;rw[zE h1,hp];simp only;rw[zG _ _ h1]
     |free =>
      refine⟨by simp,λo ho h=>?_⟩;obtain⟨h1,h2⟩:=Mx h (by simp);refine⟨h2,λx=>?_⟩;rw[zE h1,hp];simp only;rw[zG _ _ h1]
     |_ =>
      refine⟨zC _,λo ho h=>⟨h,λx=>?_⟩⟩;have hne:o≠p:=by rintro rfl;simp only at h;rw[h]at hp;cases hp
      rw[zE hne,hp]
   |succ n=>exact⟨zC _,λo ho h=>⟨h,λx=>rfl⟩⟩
  |_=>exact⟨zC _,λo ho h=>⟨h,λx=>rfl⟩⟩
 refine⟨key.1,λo ho h=>?_⟩;obtain⟨h1,h2⟩:=key.2 o ho h;exact⟨h1,λx=>by rw[h2 x]⟩
theorem ZyQ (kp:Nat->Option (List Nat))(id:Nat):FrmT (frzs kp id):=by
 unfold frzs
 cases kp (id+1000000) with
 |none=>exact FrmT.id
 |some ts =>
  simp only[ZjR]
  induction ts with
  |nil=>exact FrmT.id
  |cons t ts ih=>exact FrmT.comp (ZyN t) ih
theorem ZpQ (kp:Nat->Option (List Nat))(c:Code):FrmT (trim kp c):=by
 unfold trim
 cases YQ c with
 |none=>exact FrmT.id
 |some r =>
  simp only
  cases kp r with
  |none=>exact FrmT.id
  |some keep=>exact λs=>⟨zC _,λo _ h=>⟨h,λx=>rfl⟩⟩
theorem Zza (n:Nat):FrmT λs=>(s.1,Qw n s.2):=by
 intro s
 cases n with
 |zero=>exact⟨zC _,λo _ h=>⟨h,λx=>rfl⟩⟩
 |succ n =>
  simp only[Qw];refine⟨by simp,λo ho h=>?_⟩;obtain⟨h1,h2⟩:=ZbL ho h;exact⟨h1,λx=>by rw[h2]⟩
theorem Zxf (hc:XQ call){ops:Array Oper}{draw:Bool}{b i:Nat}{o:Oper}{s s':St}(h:Wb C call ops draw b i o s=some s') :
 s.2.length<=s'.2.length/\∀ q,q<s.2.length->s'.2[q]?=some .free->s.2[q]?=some .free/\∀ x,Wb C call ops draw b i o (s.1,s.2.set q x)=some (s'.1,s'.2.set q x):=by
 simp only[Bo]at h ⊢
 cases hv:UY C call ops draw b i o s.1 s.2 with
 |none=>simp[hv]at h
 |some p =>
  obtain⟨v,H⟩:=p;simp only[hv,zA]at h;subst h;obtain⟨h1,h2⟩:=Zk0 hc draw b i o s.1 s.2 v H hv;refine⟨h1,λo' ho hf=>?_⟩;obtain⟨h3,h4⟩:=h2 o' ho hf;exact⟨h3,λx=>by simp only[h4 x]⟩
theorem ZqL (hc:XQ call){ops:Array Oper}{draw:Bool}{b:Nat}:∀ (l:List Oper) (i:Nat) (s s':St),Yz C call ops draw b i l s=some s' ->
 s.2.length<=s'.2.length/\∀ q,q<s.2.length->s'.2[q]?=some .free->s.2[q]?=some .free/\∀ x,Yz C call ops draw b i l (s.1,s.2.set q x)=some (s'.1,s'.2.set q x):=by
 intro l
 induction l with
 |nil =>
  intro i s s' h;simp only[Yz,zA]at h;subst h;exact⟨zC _,λo _ hf=>⟨hf,λx=>rfl⟩⟩
 |cons o l ih =>
  intro i s s' h;simp only[Yz]at h ⊢
  cases hs:Wb C call ops draw b i o s with
  |none=>simp[hs]at h
  |some s1 =>
   simp only[hs]at h;obtain⟨f1,f2⟩:=Zxf hc hs;obtain⟨g1,g2⟩:=ih (i+1) s1 s' h;refine⟨zD f1 g1,λo' ho hf=>?_⟩;obtain⟨g3,g4⟩:=g2 o' (by omega) hf;obtain⟨f3,f4⟩:=f2 o' ho g3;refine⟨f3,λx=>?_⟩;simp only[f4 x];exact g4 x
theorem Zx1 {f:St->Option (AExit×St)}(hf:FrmS f):∀ n,FrmS (Wa f n):=by
 intro n
 induction n with
 |zero=>intro s e s' h;cases h
 |succ n ih =>
  intro s e s' h;simp only[Wa]at h ⊢
  cases hs:f s with
  |none=>simp[hs]at h
  |some p =>
   obtain⟨e1,s1⟩:=p;obtain⟨f1,f2⟩:=hf s e1 s1 hs
   cases e1 with
   |normal =>
    simp only[hs]at h;obtain⟨g1,g2⟩:=ih s1 e s' h;refine⟨zD f1 g1,λo ho hfr=>?_⟩;obtain⟨g3,g4⟩:=g2 o (by omega) hfr;obtain⟨f3,f4⟩:=f2 o ho g3;exact⟨f3,λx=>by simp only[f4 x];exact g4 x⟩
   |_ =>
    simp only[hs,zA,zB]at h;obtain⟨rfl,rfl⟩:=h;refine⟨f1,λo ho hfr=>?_⟩;obtain⟨f3,f4⟩:=f2 o ho hfr;exact⟨f3,λx=>by simp only[f4 x]⟩
theorem ZyK (hc:XQ call){kp:Nat->Option (List Nat)}{n:Nat}:∀ c:Code,FrmS (Zz C call kp n c):=by
 intro c
 have stay:∀ e0:AExit,FrmS λs:St=>some (e0,s):=by
  intro e0 s e s' h;simp only[zA,zB]at h;obtain⟨rfl,rfl⟩:=h;exact⟨zC _,λo _ hf=>⟨hf,λx=>rfl⟩⟩
 have never:FrmS λ_:St=>(none:Option (AExit×St)):=λs e s' h=>by cases h
 induction c with
 |skip=>exact stay _
 |region id ops draw =>
  intro s e s' h;simp only[Zz]at h ⊢;by_cases hd:(draw&&!(Vb ops&&F9 C ops (eval C (frzs kp id s).1)))=true
  ·rw[if_pos hd]at h;cases h
  ·rw[if_neg hd]at h;generalize hm:(if draw=true then Vt C ops ops.size else 0)=m at h ⊢;obtain⟨z1,z2⟩:=ZyQ kp id s;obtain⟨r1,r2⟩:=Zza m (frzs kp id s)
   cases hx:Yz C call ops draw (frzs kp id s).2.length 0 ops.toList ((frzs kp id s).1,Qw m (frzs kp id s).2) with
   |none=>simp[hx]at h
   |some s1 =>
    simp only[hx,zA,zB]at h;obtain⟨rfl,rfl⟩:=h;obtain⟨g1,g2⟩:=ZqL hc ops.toList 0 _ s1 hx;refine⟨zD z1 (zD r1 g1),λo ho hf=>?_⟩;obtain⟨g3,g4⟩:=g2 o (by simp only at r1 ⊢;omega) hf;obtain⟨r3,r4⟩:=r2 o (by omega) g3;obtain⟨z3,z4⟩:=z2 o ho r3;refine⟨z3,λx=>?_⟩;have r5:=r4 x;simp only[zB,true_and]at r5;rw[z4 x];simp only;rw[if_neg hd,r5,zF];have g5:=g4 x;simp only at g5;rw[g5]
 |seq a b iha ihb =>
  intro s e s' h;simp only[Zz]at h ⊢
  cases hx:Zz C call kp n a s with
  |none=>simp[hx]at h
  |some p =>
   obtain⟨e1,s1⟩:=p;obtain⟨f1,f2⟩:=iha s e1 s1 hx
   cases e1 with
   |normal =>
    simp only[hx]at h;obtain⟨g1,g2⟩:=FrmS.after (ZpQ kp b) ihb s1 e s' h;refine⟨zD f1 g1,λo ho hf=>?_⟩;obtain⟨g3,g4⟩:=g2 o (by omega) hf;obtain⟨f3,f4⟩:=f2 o ho g3;exact⟨f3,λx=>by simp only[f4 x];exact g4 x⟩
   |_ =>
    simp only[hx,zA,zB]at h;obtain⟨rfl,rfl⟩:=h;refine⟨f1,λo ho hf=>?_⟩;obtain⟨f3,f4⟩:=f2 o ho hf;exact⟨f3,λx=>by simp only[f4 x]⟩
 |cond c x y ihx ihy =>
  intro s e s' h;simp only[Zz]at h ⊢
  cases hc:eval C s.1 c with
  |bool t =>
   simp only[hc]at h ⊢
   cases t with
   |true=>exact ihx s e s' h
   |false=>exact ihy s e s' h
  |_=>simp[hc]at h
 |block id c ih =>
  intro s e s' h;simp only[Zz]at h ⊢
  cases hx:Zz C call kp n c s with
  |none=>simp[hx]at h
  |some p =>
   obtain⟨e1,s1⟩:=p;obtain⟨f1,f2⟩:=ih s e1 s1 hx
   have fin:∀ e2,(match some (e1,s1) with
    |some (AExit.exit i,s')=>if i=id then some (AExit.normal,s') else some (AExit.exit i,s')
    |r=>r)=some (e2,s')->s'=s1/\∀ s2:St,(match some (e1,s2) with
    |some (AExit.exit i,s')=>if i=id then some (AExit.normal,s') else some (AExit.exit i,s')
    |r=>r)=some (e2,s2):=by
    intro e2 h
    cases e1 with
    |exit i =>
     simp only at h ⊢;split at h
     ·rename_i hi;simp only[zA,zB]at h;obtain⟨rfl,rfl⟩:=h;exact⟨rfl,λs2=>by rw[if_pos hi]⟩
     ·rename_i hi;simp only[zA,zB]at h;obtain⟨rfl,rfl⟩:=h;exact⟨rfl,λs2=>by rw[if_neg hi]⟩
    |_ =>
     simp only[zA,zB]at h;obtain⟨rfl,rfl⟩:=h;exact⟨rfl,λs2=>rfl⟩
   rw[hx]at h;obtain⟨rfl,h2⟩:=fin e h;refine⟨f1,λo ho hf=>?_⟩;obtain⟨f3,f4⟩:=f2 o ho hf;exact⟨f3,λx=>by rw[f4 x];exact h2 _⟩
 |loop c ih=>exact Zx1 (FrmS.after (ZpQ kp c) ih) n
 |exit id=>exact stay _
 |label l=>exact stay _
 |goto l=>exact stay _
 |ret=>exact stay _
 |rangeFunc f p x y _ _=>exact never
 |scope c ih =>
  intro s e s' h;simp only[Zz]at h ⊢;split at h
  ·rename_i hg;obtain⟨f1,f2⟩:=ih s e s' h;refine⟨f1,λo ho hf=>?_⟩;obtain⟨f3,f4⟩:=f2 o ho hf;exact⟨f3,λx=>by rw[if_pos hg];exact f4 x⟩
  ·cases h
 |refuse s=>exact never
theorem ZuJ {tm:List AV}{H:Hp}{r:ResultVar}{v:AV}(h:WJ C (tm,H) r=some v){o:Nat}(ho:H[o]?=some .free)(x:AObj):WJ C (tm,H.set o x) r=some v:=by
 cases r with
 |tmp t=>exact h
 |cell a t =>
  simp only[WJ]at h ⊢;split at h
  ·exact Zmq _ _ _ H v h o ho x
  ·cases h
theorem Zx3 {α β:Type}{f g:α->Option β}(h:∀ a b,f a=some b->g a=some b){l:List α}{r:List β}(hl:l.mapM f=some r):l.mapM g=some r:=ZpC h hl
theorem ZuK {fn:Func}{tm:List AV}{H:Hp}{v:AV}(h:VQ C fn (tm,H)=some v){o:Nat}(ho:H[o]?=some .free)(x:AObj):VQ C fn (tm,H.set o x)=some v:=by
 unfold VQ at h ⊢
 cases hm:fn.results.toList.mapM (WJ C (tm,H)) with
 |none=>simp[hm]at h
 |some l =>
  rw[Zx3 (λa b hab=>ZuJ hab ho x) hm];rw[hm]at h;exact h
theorem Zyv (hc:XQ call){n:Nat}{f:FuncId}{fn:Func}{c:Code}{args:List AV}:Xr (body C call n f fn c args):=by
 intro H v H' h;unfold body at h ⊢
 cases hx:Zz C call (C.keep f) n c (args++List.replicate (fn.ntmps-args.length) .undef,H) with
 |none=>simp[hx]at h
 |some p =>
  obtain⟨e,s1⟩:=p;obtain⟨f1,f2⟩:=ZyK hc c _ e s1 hx;simp only at f1 f2
  have fin:(match VQ C fn s1 with|some v=>FZ C f H (v,s1.2)|none=>none)=some (v,H')->H.length<=H'.length/\∀ o,o<H.length->H'[o]?=some .free->H[o]?=some .free/\s1.2[o]?=some .free /\
   ∀ x,(match VQ C fn (s1.1,s1.2.set o x) with|some v=>FZ C f (H.set o x) (v,s1.2.set o x)|none=>none)=some (v,H'.set o x):=by
   intro h
   cases hr:VQ C fn s1 with
   |none=>simp[hr]at h
   |some u =>
    simp only[hr]at h;have hres:∀ o,s1.2[o]?=some .free->∀ x,VQ C fn (s1.1,s1.2.set o x)=some u:=λo ho x=>ZuK hr ho x;unfold FZ at h ⊢;by_cases hp:C.pure f=true
    ·simp only[hp,if_true]at h ⊢;unfold Znh at h ⊢;by_cases ht:s1.2.take H.length=H
     ·rw[if_pos ht]at h
      cases hcl:Zk s1.2 H.length 9 u with
      |none=>simp[hcl]at h
      |some u2 =>
       simp only[hcl,zA,zB]at h;obtain⟨rfl,rfl⟩:=h;refine⟨zC _,λo ho hf=>?_⟩
       have h1:s1.2[o]?=some .free:=by
        rw[<-ht,List.getElem?_take_of_lt ho]at hf;exact hf
       refine⟨hf,h1,λx=>?_⟩;rw[hres o h1 x];simp only
       have h2:(s1.2.set o x).take (H.set o x).length=H.set o x:=by
        rw[zF,List.take_set,ht]
       rw[if_pos h2]
       have h3:Zk (s1.2.set o x) (H.set o x).length 9 u=some u2:=by
        rw[zF];exact Zkl H.length 9 u s1.2 u2 hcl o h1 x
       rw[h3]
     ·rw[if_neg ht]at h;cases h
    ·simp only[hp,Bool.false_eq_true,if_false,zA,zB]at h ⊢;obtain⟨rfl,rfl⟩:=h;refine⟨f1,λo ho hf=>?_⟩;obtain⟨f3,f4⟩:=f2 o ho hf;exact⟨f3,hf,λx=>by rw[hres o hf x]⟩
  have both:(e=.normal\/e=.ret)->(match VQ C fn s1 with|some v=>FZ C f H (v,s1.2)|none=>none)=some (v,H'):=by
   intro he;rw[hx]at h;rcases he with rfl|rfl <;> exact h
  have he:e=.normal\/e=.ret:=by
   rw[hx]at h;cases e <;> first|exact .inl rfl|exact .inr rfl|(cases h;done)
  obtain⟨g1,g2⟩:=fin (both he);refine⟨g1,λo ho hf=>?_⟩;obtain⟨g3,g4,g5⟩:=g2 o ho hf;obtain⟨f3,f4⟩:=f2 o ho g4;refine⟨g3,λx=>?_⟩;rw[f4 x];rcases he with rfl|rfl <;> exact g5 x
end
theorem Ms (C:Cfg):∀ n,XQ (call C n):=by
 intro n
 induction n with
 |zero=>intro f args;exact ZF
 |succ n ih =>
  intro f args;show Xr λH=>call C (n+1) f args H;simp only[call]
  cases C.P.funcs[f]? with
  |none=>exact ZF
  |some fn =>
   simp only
   cases L8 C f fn with
   |none=>exact ZF
   |some c=>exact Zyv ih
end Go.Am
