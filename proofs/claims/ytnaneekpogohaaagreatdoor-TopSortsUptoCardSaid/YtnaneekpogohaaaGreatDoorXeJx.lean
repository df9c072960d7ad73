/- The default locale -/
import Derived.Test.YtnaneekpogohaaaGreatDoorXeEx
import Derived.Test.YtnaneekpogohaaaGreatDoorHmYbx
open Go.IntKind renaming i64->xH
open List renaming nil_append->zB,length_nil->zC,getElem?_eq_getElem->zD,length_cons->zF,cons_append->zG,drop_eq_nil_iff->zH,getElem?_cons_zero->zI,mem_map->zL,length_singleton->zM,drop_eq_getElem_cons->zN,length_append->zP,getElem?_append_right->zQ,append_nil->zR,getElem?_cons_succ->zS,length_map->zT,drop_zero->zW,getElem?_set_ne->zY,length_drop->zZ,getD_eq_getElem?_getD->yC,getElem?_append_left->yE,length_take->yF,length_eq_zero_iff->yG,replicate->yN,range->yO,mapM_nil->yP,map_cons->yQ,set_cons_zero->yT,contains_cons->yU,take_add_one->yW,take_append->yZ,filter_cons->xA,map_append->xB,mapM_cons->xD,drop_take->xF,map_nil->xG
open Nat renaming zero_add->zK,reduceAdd->yA,le_refl->yD,zero_le->yK,add_zero->yV
open Bool renaming false_eq_true->zE,true_or->yB,or_true->yH,or_eq_true->yI,or_false->yR,and_eq_true->yY,eq_iff_iff->xC,false_and->xE
open Prod renaming fst->yS
open UInt8 renaming ofNat->zV,lt_iff_toNat_lt->yL,ofNat_toNat->yX
open Go.Am.AObj renaming cells->zA,row->zX,bld->yJ,dead->yM
open Go.Am.AV renaming int->zJ,cells->zO,known->zU
namespace Go.Am
set_option maxRecDepth 100000
def defL:Loc:={
 name:=[112,111,115,105,120]
 w:=(yO 256).map Int.ofNat
 lo:=(yO 256).map fun n=>zV (if 65<=n/\n<=90 then n+32 else n)
 up:=(yO 256).map fun n=>zV (if 97<=n/\n<=122 then n-32 else n)
 cls:=[]
 els:=[] }
def ZdK:List AV->Option (List Int)
 |[]=>some []
 |.int .i64 n::r=>match ZdK r with
  |some l=>some (n::l)
  |none=>none
 |_=>none
theorem Zom:∀ {l:List AV} {r:List Int},ZdK l=some r->l=r.map (zJ .i64):=by
 intro l
 induction l with
 |nil=>intro r h;simp[ZdK]at h;subst h;rfl
 |cons a l z =>
  intro r h;unfold ZdK at h;split at h
  ·rename_i g;cases g
  ·rename_i n A g;injection g with j u;subst j u;split at h
   ·rename_i m w;injection h with h;subst h;rw[z w];rfl
   ·cases h
  ·cases h
def Zlk (L:Loc)(r:Z4):Bool :=
 match r with
 |some (v,H1)=>match Zb H1 0 9 v with
  |some (.agg [.str n,.vs 1 .no l,.str lo,.str up,.nils,.nils])=>n==L.name&&(ZdK l==some L.w&&(lo==L.lo&&(up==L.up&&(L.cls.isEmpty&&L.els.isEmpty))))
  |_=>false
 |none=>false
theorem Zia {f:List AV->Hp->Z4}{L:Loc}{x:Z4}(hx:Zlk L x=true)(D:∀ r,x=some r->f [] []=some r)(H:Hp):∃ a,Ze f [] H=some (a,H)/\LocAV a L:=by
 unfold Zlk at hx;split at hx
 ·rename_i v H1;split at hx
  ·rename_i n l lo up g;simp only[yY,beq_iff_eq,List.isEmpty_iff]at hx;obtain⟨j,u,w,z,A,B⟩:=hx;have C:=D _ rfl;refine⟨.agg [.str n,.vs 1 .no l,.str lo,.str up,.nils,.nils],?_,.vs 1 .no l,.nils,.nils,?_,.inr ⟨.no,?_⟩,.inl ⟨rfl,by rw[A];rfl⟩,.inl ⟨rfl,by rw[B];rfl⟩⟩
   ·unfold Ze;simp only[yP];show (match f [] [] with|some (v,H1)=>_|none=>_)=_;rw[C];simp only[g]
   ·rw[j,w,z];rfl
   ·rw[Zom u]
  ·cases hx
 ·cases hx
theorem Zo2:Zlk defL (Zq7 k0 cfg 1000 60 144 [] [])=true:=by kernel_rfl
theorem ZmZ:Zlk defL (Zq7 k0 cfg 1000 60 14 [] [])=true:=by kernel_rfl
theorem Zm4 (H:Hp):∃ a,Ze E1 [] H=some (a,H)/\LocAV a defL:=Zia Zo2 (fun r h=>ZlM ZxO 1000 60 144 [] [] r h) H
theorem Mt (H:Hp):∃ a,Ze DU [] H=some (a,H)/\LocAV a defL:=Zia ZmZ (fun r h=>ZlM ZxO 1000 60 14 [] [] r h) H
theorem Zhz:∀ (n:Nat) (l:List AV),l.length=n->Vz false 1 n l=l:=by
 intro n
 induction n with
 |zero=>intro l h;simp at h;subst h;rfl
 |succ n g =>
  intro l h
  cases l with
  |nil=>simp at h
  |cons a l =>
   have:l.length=n:=by simpa using h
   unfold Vz;simp[g l this]
theorem Zwg (l:List Int):((l.map (zJ .i64)).map zO).flatten=l.map (zJ .i64):=by
 induction l with
 |nil=>rfl
 |cons a l g=>simp[zO]at g ⊢;exact g
theorem Zvd (bytes:Nat)(hb:256*(bytes+1)<=140737488355328)(z:AV)(u:z.known=true)(g:z.cells.length=1)(H:Hp):RE 1 bytes false z (.int .i64 256) (.int .i64 256) H=some (.rs false 1 H.length 0 256 256,H++[.cells ((yN 256 z.cells).flatten)]):=by
 have j:YD 256 bytes=true:=by simpa[YD]using hb
 unfold RE;simp only;rw[if_pos ⟨by decide,by decide,u,g,by decide,j⟩,if_neg (by decide)];rfl
theorem ZvZ {k:Nat}{x:AV}{l:List AV}(h:Sl k x l)(H:Hp):elems k x H=some l:=by
 rcases h with ⟨rfl,rfl⟩|⟨tok,rfl⟩
 ·rfl
 ·simp[elems]
theorem Zsi {x:AV}{l:List Int}(h:Sl 1 x (l.map (zJ .i64))){H:Hp}{o n:Nat}{z:List AV}(j:H[o]?=some (.cells z))(u:z.length=n)(g:l.length=n)(hn:0<n) :
 CO 1 (.rs false 1 o 0 n n) x H=some (.int .i64 n,H.set o (.cells (l.map (zJ .i64)))):=by
 unfold CO;simp only[ZvZ h H];rw[if_neg (by intro e;have:=congrArg List.length e;simp at this;simp[this]at g;omega),if_pos (by simp;omega)];simp only[j];rw[if_pos (by simp;omega)];simp only[zT,g,splice,List.take_zero,zB,Zwg];rw[zH.2 (by simp;omega)];simp
theorem ZsO (H:Hp)(n f:Nat)(ag:Bool)(k o off len cap:Nat):Zb H n (f+1) (.rs ag k o off len cap)=if o<n then some (.rs ag k o off len cap) else
 match elems k (.rs ag k o off len cap) H with
 |some l=>match l.mapM (Zb H n f) with
  |some l=>some (.vs k .no l)
  |none=>none
 |none=>none:=(Eq.refl _).trans (Eq.refl _)
def Yh (L:Loc):Loc:=if (W6 L != 0)=true then defL else L
theorem Pt {f:List AV->Hp->Z4}{a a' v v':AV}{H H1:Hp}(ha:Zb [] 0 9 a=some a')(g:f [a'] []=some (v,H1))(j:Zb H1 0 9 v=some v'):Ze f [a] H=some (v',H):=by
 unfold Ze;simp[ha,g,j]
theorem checked {L:Loc}(h:(W6 L != 0)=false):L.w.length=256/\L.lo.length=256/\L.up.length=256:=by
 simp only[W6,bne_eq_false_iff_eq]at h;split at h
 ·split at h
  ·cases h
  ·rename_i g;simp only[yI,bne_iff_ne,ne_eq,not_or,Decidable.not_not]at g;exact g
 ·cases h
theorem Hy {H1:Hp}{x c e g:AV}{L:Loc}(hx:Zb H1 0 8 x=some g)(C:Sl 1 g (L.w.map (zJ .i64)))(D:Sl 5 c (L.cls.map Qq))(E:Sl 2 e (L.els.map BP)) :
 ∃ a',Zb H1 0 9 (.agg (L.cells x c e))=some a'/\LocAV a' L:=by
 obtain⟨c',u,z⟩:=D.close (H:=H1) (n:=0) (f:=7) (fun y hy=>by obtain⟨m,_,rfl⟩:=zL.1 hy;exact CU m H1 0 5);obtain⟨j,A,B⟩:=E.close (H:=H1) (n:=0) (f:=7) (fun y hy=>by obtain⟨m,_,rfl⟩:=zL.1 hy;exact OW m H1 0 5);refine⟨.agg (L.cells g c' j),?_,g,c',j,rfl,C,z,B⟩
 have:(L.cells x c e).mapM (Zb H1 0 8)=some (L.cells g c' j):=by
  simp only[Loc.cells,xD,hx,u,A,yP];rfl
 rw[Dh,this]
theorem ZiP {a:AV}{L:Loc}(h:LocAV a L)(hok:LocOk L)(H:Hp):∃ a',Ze U0 [a] H=some (a',H)/\LocAV a' (Yh L):=by
 obtain⟨a1,h1,h2⟩:=h.close [] 0 5;have C:=fun H=>(Zkh h2 hok H).1;obtain⟨x,c,e,rfl,hx,hc,he⟩:=h2;obtain⟨d,J,K⟩:=Zm4 [zA (L.cells x c e),.cells [(.str []),.nils,(.str []),(.str []),.nils,.nils]];unfold Yh
 cases hb:(W6 L != 0) with
 |true =>
  obtain⟨A,j,u,rfl,O,M,N⟩:=K
  have g:U0 [.agg (L.cells x c e)] []=some (.agg (defL.cells A j u),[zA (L.cells x c e),.cells (defL.cells A j u)]):=by
   rw[MI];unfold Pe;have R:Z3 true 6 (.ptr 0 0) [zA (L.cells x c e),.cells [(.str []),.nils,(.str []),(.str []),.nils,.nils]]=some (.agg (L.cells x c e)):=by simp[Z3,Go.Am.apart,Loc.cells]
   have Z:Zf 6 (.ptr 1 0) (.agg (defL.cells A j u)) [zA (L.cells x c e),.cells [(.str []),.nils,(.str []),(.str []),.nils,.nils]]=some (.tuple [],[zA (L.cells x c e),.cells (defL.cells A j u)]):=by simp[Zf,YM,zU,zO,Loc.cells,splice]
   have T:Z3 true 6 (.ptr 1 0) [zA (L.cells x c e),.cells (defL.cells A j u)]=some (.agg (defL.cells A j u)):=by simp[Z3,Go.Am.apart,Loc.cells]
   simp only[go_sem,zB,zC,zF,zG,zK,R,C,hb,J,Z,T]
  obtain⟨aa,E,F⟩:=O.close (H:=[zA (L.cells x c e),.cells (defL.cells A j u)]) (n:=0) (f:=7) (fun y hy=>by obtain⟨m,_,rfl⟩:=zL.1 hy;rfl);obtain⟨a',q1,q2⟩:=Hy E F M N;exact⟨a',Pt h1 g q1,by simpa using q2⟩
 |false =>
  obtain⟨hw,ab,ac⟩:=checked hb
  have g:U0 [.agg (L.cells x c e)] []=some (.agg (L.cells (.rs false 1 2 0 256 256) c e),[zA (L.cells (.rs false 1 2 0 256 256) c e),.cells (L.cells (.rs false 1 2 0 256 256) c e),.cells (L.w.map (zJ .i64))]):=by
   rw[MI];unfold Pe;have R:Z3 true 6 (.ptr 0 0) [zA (L.cells x c e),.cells [(.str []),.nils,(.str []),(.str []),.nils,.nils]]=some (.agg (L.cells x c e)):=by simp[Z3,Go.Am.apart,Loc.cells]
   have B:=Zvd 8 (by decide) (.int .i64 0) rfl rfl [zA (L.cells x c e),.cells [(.str []),.nils,(.str []),(.str []),.nils,.nils]];have I:((yN 256 (zJ .i64 0).cells).flatten).length=256:=by simp[zO]
   generalize ((yN 256 (zJ .i64 0).cells).flatten)=z at B I;simp only[zF,zC,zG,zB]at B;have S:Z3 false 1 (.ptr 0 1) [zA (L.cells x c e),.cells [(.str []),.nils,(.str []),(.str []),.nils,.nils],.cells z]=some x:=by simp[Z3,Go.Am.apart,Loc.cells]
   have D:=Zsi hx (H:=[zA (L.cells x c e),.cells [(.str []),.nils,(.str []),(.str []),.nils,.nils],.cells z]) (o:=2) rfl I hw (by omega);simp only[List.set_cons_succ,yT]at D;have X:Zf 1 (.ptr 0 1) (.rs false 1 2 0 256 256) [zA (L.cells x c e),.cells [(.str []),.nils,(.str []),(.str []),.nils,.nils],.cells (L.w.map (zJ .i64))]=some (.tuple [],[zA (L.cells (.rs false 1 2 0 256 256) c e),.cells [(.str []),.nils,(.str []),(.str []),.nils,.nils],.cells (L.w.map (zJ .i64))]):=by simp[Zf,YM,zU,zO,Loc.cells,splice]
   have U:Z3 true 6 (.ptr 0 0) [zA (L.cells (.rs false 1 2 0 256 256) c e),.cells [(.str []),.nils,(.str []),(.str []),.nils,.nils],.cells (L.w.map (zJ .i64))]=some (.agg (L.cells (.rs false 1 2 0 256 256) c e)):=by simp[Z3,Go.Am.apart,Loc.cells]
   have Y:Zf 6 (.ptr 1 0) (.agg (L.cells (.rs false 1 2 0 256 256) c e)) [zA (L.cells (.rs false 1 2 0 256 256) c e),.cells [(.str []),.nils,(.str []),(.str []),.nils,.nils],.cells (L.w.map (zJ .i64))]=some (.tuple [],[zA (L.cells (.rs false 1 2 0 256 256) c e),.cells (L.cells (.rs false 1 2 0 256 256) c e),.cells (L.w.map (zJ .i64))]):=by simp[Zf,YM,zU,zO,Loc.cells,splice]
   have V:Z3 true 6 (.ptr 1 0) [zA (L.cells (.rs false 1 2 0 256 256) c e),.cells (L.cells (.rs false 1 2 0 256 256) c e),.cells (L.w.map (zJ .i64))]=some (.agg (L.cells (.rs false 1 2 0 256 256) c e)):=by simp[Z3,Go.Am.apart,Loc.cells]
   simp only[go_sem,zB,zC,zF,zG,zK,R,C,hb,ZdX,B,S,D,X,U,Y,V]
  have W:Zb [zA (L.cells (.rs false 1 2 0 256 256) c e),.cells (L.cells (.rs false 1 2 0 256 256) c e),.cells (L.w.map (zJ .i64))] 0 8 (.rs false 1 2 0 256 256)=some (.vs 1 .no (L.w.map (zJ .i64))):=by
   have Q:elems 1 (.rs false 1 2 0 256 256) [zA (L.cells (.rs false 1 2 0 256 256) c e),.cells (L.cells (.rs false 1 2 0 256 256) c e),.cells (L.w.map (zJ .i64))]=some (L.w.map (zJ .i64)):=by
    simp[elems,hw];exact Zhz 256 _ (by simp[hw])
   rw[ZsO,if_neg (by omega),Q];simp only;rw[Zew (fun y hy=>by obtain⟨m,_,rfl⟩:=zL.1 hy;rfl)]
  obtain⟨a',q1,q2⟩:=Hy W (.inr ⟨.no,rfl⟩) hc he;exact⟨a',Pt h1 g q1,by simpa using q2⟩
theorem ZoE {a:AV}{L:Loc}(h:LocAV a L)(hok:LocOk L)(H:Hp):∃ a',Ze D4 [a] H=some (a',H)/\LocAV a' (Yh L):=by
 obtain⟨X,R,S⟩:=h.close [] 0 5;have B:=fun H=>(Zkh S hok H).2;obtain⟨x,c,e,rfl,hx,V,W⟩:=S;obtain⟨d,E,F⟩:=Mt [zA (L.cells x c e),.cells [(.str []),.nils,(.str []),(.str []),.nils,.nils]];unfold Yh;have T:Z3 true 6 (.ptr 0 0) [zA (L.cells x c e),.cells [(.str []),.nils,(.str []),(.str []),.nils,.nils]]=some (.agg (L.cells x c e)):=by simp[Z3,Go.Am.apart,Loc.cells]
 cases hb:(W6 L != 0) with
 |true =>
  obtain⟨w,j,u,rfl,K,I,J⟩:=F
  have g:D4 [.agg (L.cells x c e)] []=some (.agg (defL.cells w j u),[zA (L.cells x c e),.cells (defL.cells w j u)]):=by
   rw[I5];unfold Ac;have A:Zf 6 (.ptr 1 0) (.agg (defL.cells w j u)) [zA (L.cells x c e),.cells [(.str []),.nils,(.str []),(.str []),.nils,.nils]]=some (.tuple [],[zA (L.cells x c e),.cells (defL.cells w j u)]):=by simp[Zf,YM,zU,zO,Loc.cells,splice]
   have z:Z3 true 6 (.ptr 1 0) [zA (L.cells x c e),.cells (defL.cells w j u)]=some (.agg (defL.cells w j u)):=by simp[Z3,Go.Am.apart,Loc.cells]
   simp only[go_sem,zB,zC,zF,zG,zK,T,B,hb,E,A,z]
  obtain⟨U,C,D⟩:=K.close (H:=[zA (L.cells x c e),.cells (defL.cells w j u)]) (n:=0) (f:=7) (fun y hy=>by obtain⟨m,_,rfl⟩:=zL.1 hy;rfl);obtain⟨a',O,Q⟩:=Hy C D I J;exact⟨a',Pt R g O,by simpa using Q⟩
 |false =>
  have g:D4 [.agg (L.cells x c e)] []=some (.agg (L.cells x c e),[zA (L.cells x c e),.cells (L.cells x c e)]):=by
   rw[I5];unfold Ac;have A:Zf 6 (.ptr 1 0) (.agg (L.cells x c e)) [zA (L.cells x c e),.cells [(.str []),.nils,(.str []),(.str []),.nils,.nils]]=some (.tuple [],[zA (L.cells x c e),.cells (L.cells x c e)]):=by simp[Zf,YM,zU,zO,Loc.cells,splice]
   have z:Z3 true 6 (.ptr 1 0) [zA (L.cells x c e),.cells (L.cells x c e)]=some (.agg (L.cells x c e)):=by simp[Z3,Go.Am.apart,Loc.cells]
   simp only[go_sem,zB,zC,zF,zG,zK,T,B,hb,Zhd,A,z]
  obtain⟨Y,M,N⟩:=hx.close (H:=[zA (L.cells x c e),.cells (L.cells x c e)]) (n:=0) (f:=7) (fun y hy=>by obtain⟨m,_,rfl⟩:=zL.1 hy;rfl);obtain⟨a',O,Q⟩:=Hy M N V W;exact⟨a',Pt R g O,by simpa using Q⟩
def QJ (b:UInt8):AV:=.int .u8 b.toNat
def Vb (t s:List UInt8):List UInt8:=s.map fun b=>t.getD b.toNat 0
theorem Zft:∀ s:List UInt8,WU (s.map QJ)=some s:=by
 intro s
 induction s with
 |nil=>rfl
 |cons b l g =>
  show (match WU (l.map QJ) with|some l=>some (zV (b.toNat:Int).toNat::l)|none=>none)=_;rw[g];simp
theorem Zpi {t:List UInt8}(g:t.length=256)(b:UInt8):Zz (.str t) (.int .u8 b.toNat)=some (.int .u8 (t.getD b.toNat 0).toNat):=by
 have hb:b.toNat<t.length:=by rw[g];exact b.toNat_lt
 simp[Zz,zD hb,yC]
theorem ZAd (o e n:Nat){i:Nat}(hi:i<n):Zn 1 (.ws false 1 o e n) (.int .i64 (i:Int))=some (.wp o e i):=by
 simp[Zn,hi]
theorem Zuv (e:Nat)(l:List AV)(i:Nat):Z3 false 1 (.wp 0 e i) [zX e l]=l[i]?:=by simp[Z3,Go.Am.apart]
theorem ZrH (e:Nat)(l:List AV){i:Nat}(hi:i<l.length)(v:AV)(hk:v.known=true)(g:v.cells.length=1):Zf 1 (.wp 0 e i) v [zX e l]=some (.tuple [],[zX e (splice l i v.cells)]):=by
 unfold Zf YM;simp only[zI];rw[if_pos ⟨trivial,hk,g,by omega⟩];rfl
theorem Zrc (a:List AV)(x y:AV)(b:List AV):splice (a++x::b) a.length [y]=a++y::b:=by
 unfold splice;simp
theorem Zot {t:List UInt8}(E:t.length=256)(s:List UInt8)(H:s.length<=4611686018427387904)(B:Hp):∀ (r done:List UInt8),s=done++r ->
 Jl (.str t) (.ws false 1 0 0 s.length) (.int .i64 (s.length:Int)) (.int .i64 (done.length:Int)) B [zX 0 ((Vb t done).map QJ++r.map QJ)]=some (.str (Vb t s),[zX 0 ((Vb t s).map QJ)]):=by
 intro r
 induction r with
 |nil =>
  intro done w;obtain rfl:done=s:=by rw[w,zR]
  rw[TG];have g:decide ((done.length:Int)<(done.length:Int))=false:=by simp
  have z:QK (.ws false 1 0 0 done.length) [zX 0 ((Vb t done).map QJ)]=some ((Vb t done).map QJ):=by
   simp[QK,elems,Vb];exact Zhz _ _ (by simp)
  have D:BI (.ws false 1 0 0 done.length) [zX 0 ((Vb t done).map QJ)]=some (.str (Vb t done)):=by
   unfold BI;simp only[QR,z,Zft]
  simp only[go_sem,g,Zbw,xG,zR,D]
 |cons b r F =>
  intro done w;rw[TG];have C:done.length<s.length:=by rw[w];simp
  have g:decide ((done.length:Int)<(s.length:Int))=true:=by simp;omega
  have hw:xH.wrap ((done.length:Int)+1)=((done.length+1:Nat):Int):=by rw[Zr (by omega) (by omega)];omega
  have u:((Vb t done).map QJ).length=done.length:=by simp[Vb]
  have j:((Vb t done).map QJ++(b::r).map QJ)[done.length]?=some (.int .u8 b.toNat):=by
   rw[zQ (by omega),u];simp[QJ]
  have A:Zf 1 (.wp 0 0 done.length) (.int .u8 (t.getD b.toNat 0).toNat) [zX 0 ((Vb t done).map QJ++(b::r).map QJ)]=some (.tuple [],[zX 0 ((Vb t (done++[b])).map QJ++r.map QJ)]):=by
   rw[ZrH 0 _ (by simp[Vb]) _ rfl rfl];have:=Zrc ((Vb t done).map QJ) (QJ b) (.int .u8 (t.getD b.toNat 0).toNat) (r.map QJ);rw[u]at this;simp only[yQ,zO];rw[this];simp[Vb,QJ]
  have:=F (done++[b]) (by rw[w];simp);rw[zP,zM]at this;simp only[go_sem,g,Zbx,ZAd 0 0 s.length C,Zuv,j,Zpi E,A,Zby,hw];exact this
theorem Zos {t:List UInt8}(u:t.length=256)(s:List UInt8)(j:s.length<=4611686018427387904)(H:Hp):Ze Rf [.str t,.str s] H=some (.str (Vb t s),H):=by
 refine F2 (a':=.str t) (b':=.str s) (H1:=[zX 0 ((Vb t s).map QJ)]) rfl rfl ?_ rfl;rw[Zcj];unfold Cv;have:=Zot u s j [] s [] rfl;simp only[zC,Vb,xG,zB]at this;have e:OM (.str s) []=some (.ws false 1 0 0 s.length,[zX 0 (s.map QJ)]):=rfl;have g:Zl (.slice 5) (.ws false 1 0 0 s.length)=some (.int .i64 s.length):=rfl;simp only[e,g,go_sem];exact this
theorem ZzZ (b:UInt8):(ZA 1 [(0,zJ .u8 b.toNat)] [(.int .u8 0)]).map (AV.vs 1 .clip)=some (.vs 1 .clip [QJ b]):=rfl
theorem Zz6 {n:Nat}{H:Hp}{x:AV}{s:List UInt8}(h:RowN n H 1 x (s.map QJ)):BI x H=some (.str s):=by
 rcases h with ⟨rfl,h⟩|⟨t,e,rfl,_⟩
 ·have:s=[]:=by cases s with
   |nil=>rfl
   |cons a l=>simp at h
  subst this;rfl
 ·unfold BI QR;simp only[if_true,Zft]
theorem Zn8 {t:List UInt8}(A:t.length=256)(s:List UInt8)(E:s.length<=1048576)(u:Hp):∀ (r done:List UInt8) (x:AV) (H:Hp),s=done++r->RowN 0 H 1 x ((Vb t done).map QJ) ->
 ∃ H',DZ (.str t) (.str s) x (.int .i64 (done.length:Int)) u H=some (.str (Vb t s),H'):=by
 intro r
 induction r with
 |nil =>
  intro done x H j hx;rw[zR]at j;subst j;rw[Ep];have g:decide ((s.length:Int)<(s.length:Int))=false:=by simp
  simp only[go_sem,YI,g,ZfV,Zz6 hx];exact⟨_,rfl⟩
 |cons b r B =>
  intro done x H j hx;rw[Ep];have D:done.length<s.length:=by rw[j];simp
  have g:decide ((done.length:Int)<(s.length:Int))=true:=by simp;omega
  have hw:xH.wrap ((done.length:Int)+1)=((done.length+1:Nat):Int):=by rw[Zr (by omega) (by omega)];omega
  have hb:s[done.length]?=some b:=by rw[j,zQ (by omega)];simp
  obtain⟨C,H',w,z,_,_,_⟩:=hx.app (yK _) 1 (.vs 1 .clip [QJ (t.getD b.toNat 0)]) [QJ (t.getD b.toNat 0)] (by simp[elems]) (by simp[Vb];omega);simp only[go_sem,YI,g,ZfW,Y8 hb,Zpi A,ZzZ,w,ZfX,hw];have:=B (done++[b]) C H' (by rw[j];simp) (by simpa[Vb]using z);rw[zP,zM]at this;exact this
theorem Zn7 {t:List UInt8}(j:t.length=256)(s:List UInt8)(g:s.length<=1048576)(H:Hp):Ze LY [.str t,.str s] H=some (.str (Vb t s),H):=by
 obtain⟨H',h⟩:=Zn8 j s g [] s [] .nils [] rfl (RowN.nil 0 [] 1);refine F2 (a':=.str t) (b':=.str s) (H1:=H') rfl rfl ?_ rfl;rw[ZgX];unfold Zcd;exact h
theorem ZoZ:defL.up.length=256/\defL.w.length=256:=⟨by simp[defL],by simp[defL]⟩
theorem ZkL (L:Loc):(Yh L).up.length=256:=by
 unfold Yh
 cases h:(W6 L != 0) with
 |true=>exact ZoZ.1
 |false=>exact (checked h).2.2
theorem Znw (L:Loc):(Yh L).w.length=256:=by
 unfold Yh
 cases h:(W6 L != 0) with
 |true=>exact ZoZ.2
 |false=>exact (checked h).1
def upS (L:Loc)(s:List UInt8):List UInt8:=Vb (Yh L).up s
theorem ZrS {a:AV}{L:Loc}(h:LocAV a L)(hok:LocOk L)(s:List UInt8)(D:s.length<=1048576)(H:Hp):Ze Pb [a,.str s] H=some (.str (upS L s),H)/\Ze Zfa [a,.str s] H=some (.str (upS L s),H):=by
 obtain⟨F,B,u⟩:=h.close [] 0 5;have E:=fun H=>ZiP u hok H;have z:=fun H=>ZoE u hok H;obtain⟨x,c,e,rfl,hx,I,J⟩:=u;have C:Z3 true 6 (.ptr 0 0) [zA (L.cells x c e)]=some (.agg (L.cells x c e)):=by simp[Z3,Go.Am.apart,Loc.cells]
 constructor
 ·obtain⟨v,g,A,j,ev,rfl,_⟩:=E [zA (L.cells x c e)];have w:Pf false 1 3 (.agg ((Yh L).cells A j ev))=some (.str (Yh L).up):=rfl;refine F2 B (b':=.str s) rfl (H1:=[zA (L.cells x c e)]) ?_ rfl;rw[ZeH];unfold Ie;simp only[go_sem,zB,zC,C,g,w,Zos (ZkL L) s (by omega)];rfl
 ·obtain⟨v,g,A,j,ev,rfl,_⟩:=z [zA (L.cells x c e)];have w:Pf false 1 3 (.agg ((Yh L).cells A j ev))=some (.str (Yh L).up):=rfl;refine F2 B (b':=.str s) rfl (H1:=[zA (L.cells x c e)]) ?_ rfl;rw[ZiV];unfold Zfc;simp only[go_sem,zB,zC,C,g,w,Zn7 (ZkL L) s D];rfl
theorem ZsG {α:Type}{bad:α->Option Int}{key:α->List UInt8}(hb:∀ c e,bad c=some e->e≠0){l:List α}(h:M4 bad key l []=0):∀ i,i<=l.length->M4 bad key (l.drop i) ((l.take i).map key)=0:=by
 intro i
 induction i with
 |zero=>intro _;simpa using h
 |succ i u =>
  intro hi;have:=u (by omega);rw[zN (by omega),FU]at this
  cases g:bad l[i] with
  |some e=>rw[g]at this;exact absurd this (hb _ _ g)
  |none =>
   rw[g]at this;simp only at this;split at this
   ·cases this
   ·have j:(l.take (i+1)).map key=(l.take i).map key++[key l[i]]:=by
     rw[yW,zD (by omega),xB];rfl
    rw[j];exact this
theorem ZvF {α:Type}{bad:α->Option Int}{key:α->List UInt8}(hb:∀ c e,bad c=some e->e≠0){l:List α}(h:M4 bad key l []=0){i:Nat}(hi:i<l.length):((l.take i).map key).contains (key l[i])=false:=by
 have:=ZsG hb h i (by omega);rw[zN (by omega),FU]at this
 cases g:bad l[i] with
 |some e=>rw[g]at this;exact absurd this (hb _ _ g)
 |none =>
  rw[g]at this;simp only at this;split at this
  ·cases this
  ·rename_i hn;exact Bool.eq_false_iff.2 hn
theorem ZvY:∀ c e,OV c=some e->e≠0:=by
 intro c e h;unfold OV at h;split at h
 ·injection h with h;omega
 ·cases h
def Zlp (l:List (List UInt8×Int)):Prop:=∀ i (hi:i<l.length),((l.take i).map yS).contains l[i].1=false
theorem ZiO (L:Loc):Zlp (Yh L).els:=by
 unfold Yh
 cases h:(W6 L != 0) with
 |true=>intro i hi;simp[defL]at hi
 |false =>
  simp only[W6,bne_eq_false_iff_eq]at h
  have:EJ L.els=0:=by
   split at h
   ·split at h
    ·cases h
    ·split at h
     ·cases h
     ·unfold ZaB at h;split at h
      ·rename_i g;simp[h]at g
      ·exact h
   ·cases h
  unfold EJ at this;split at this
  ·cases this
  ·intro i hi;exact ZvF (key:=yS) ZvY this hi
def Em (g:List (AV×AV×Nat))(l:List (List UInt8×Int)):Prop:=g.map (fun e=>(e.1,e.2.1))=l.map fun e=>(AV.str e.1,zJ .i64 e.2)
theorem Zk9 (k:List UInt8):∀ (g:List (AV×AV×Nat)) (l:List (List UInt8×Int)) (i:Nat),Em g l ->
 match l.find? (fun e=>e.1==k) with
 |some e=>∃ j,YS (.str k) g i=some (some (j,.int .i64 e.2))
 |none=>YS (.str k) g i=some none:=by
 intro g
 induction g with
 |nil =>
  intro l i h
  cases l with
  |nil=>simp[YS]
  |cons s r=>simp[Em]at h
 |cons e g z =>
  intro l i h
  cases l with
  |nil=>simp[Em]at h
  |cons s r =>
   obtain⟨a,b,c⟩:=e;simp only[Em,yQ,List.cons.injEq,Prod.mk.injEq]at h;obtain⟨⟨rfl,rfl⟩,w⟩:=h;have:=z r (i+1) w;have u:(k==s.1)=(s.1==k):=by rw[xC,beq_iff_eq,beq_iff_eq];exact eq_comm
   simp only[YS,QL,List.find?_cons,u]
   cases hk:(s.1==k) with
   |true=>exact⟨i,rfl⟩
   |false=>exact this
theorem Zw0 {H:Hp}{m:Nat}{g:List (AV×AV×Nat)}{c:Nat}{l:List (List UInt8×Int)}(w:H[m]?=some (.map g c))(z:Em g l)(k:List UInt8) :
 Yc .string (.int .i64 0) true (.map m) (.str k) H=some (match l.find? (fun e=>e.1==k) with|some e=>.tuple [.int .i64 e.2,.bool true]|none=>.tuple [.int .i64 0,.bool false]):=by
 have h:=Zk9 k g l 0 z;unfold Yc;simp only[Wa,if_true,Xi,w]
 cases hk:l.find? (fun e=>e.1==k) with
 |some e =>
  rw[hk]at h;obtain⟨j,u⟩:=h;simp[u]
 |none =>
  rw[hk]at h;simp at h;simp[h]
theorem Ztj {l:List (List UInt8×Int)}{k:List UInt8}(h:(l.map yS).contains k=false):l.find? (fun e=>e.1==k)=none:=by
 rw[List.find?_eq_none];intro e he hk;have:k∈l.map yS:=zL.2 ⟨e,he,by simpa using hk⟩;simp at h
 exact h e.2 (by have : e.1 = k := by simpa using hk
                 subst this;exact he)
theorem Zyo {H:Hp}{m:Nat}{g:List (AV×AV×Nat)}{c:Nat}{l:List (List UInt8×Int)}(u:H[m]?=some (.map g c))(j:Em g l){e:List UInt8×Int}(hk:(l.map yS).contains e.1=false) :
 Xs .string (.map m) (.str e.1) (.int .i64 e.2) H=some (.tuple [],H.set m (.map (g++[(.str e.1,.int .i64 e.2,c)]) (c+1)))/\Em (g++[(.str e.1,.int .i64 e.2,c)]) (l++[e]):=by
 have h:=Zk9 e.1 g l 0 j;rw[Ztj hk]at h;constructor
 ·unfold Xs;simp only[u,Wa,if_true,h]
 ·unfold Em at j ⊢;simp[j]
theorem ZvX {x:AV}{l:List (List UInt8×Int)}(h:Sl 2 x (l.map BP))(A:Zlp l)(U:l.length<=1048576)(x1 F:AV)(E:Hp):∀ (k i:Nat) (H:Hp) (w:List (AV×AV×Nat)) (c:Nat),l.length-i=k->i<=l.length ->
 H[2]?=some (.map w c)->Em w (l.take i)->3<=H.length ->
 ∃ H' g c',Gu x1 F (.ptr 1 0) (.map 2) x (.int .i64 (l.length:Int)) (.int .i64 (i:Int)) E H=PB x1 F (.ptr 1 0) (.map 2) E H'/\H'[0]?=H[0]?/\H'[1]?=H[1]?/\H'[2]?=some (.map g c')/\Em g l/\3<=H'.length:=by
 intro k
 induction k with
 |zero =>
  intro i H w c hk hi C B hlen;rw[L3];have u:decide ((i:Int)<(l.length:Int))=false:=by simp;omega
  simp only[go_sem,u];exact⟨H,w,c,rfl,rfl,rfl,C,by rw[List.take_of_length_le (by omega)]at B;exact B,hlen⟩
 |succ k R =>
  intro i H w c hk hi C B hlen;rw[L3];have j:i<l.length:=by omega
  have u:decide ((i:Int)<(l.length:Int))=true:=by simp;omega
  have hw:xH.wrap ((i:Int)+1)=((i+1:Nat):Int):=by rw[Zr (by omega) (by omega)];omega
  have D:=Eu H 2 [.str l[i].1,.int .i64 l[i].2] [.str [],.int .i64 0] rfl rfl;have z:(H++[zA [AV.str l[i].1,zJ .i64 l[i].2]])[2]?=some (.map w c):=Yl C _;obtain⟨S,T⟩:=Zyo z B (e:=l[i]) (A i j);simp only[go_sem,u,ZeY,h.els (zD j),Xl 2 [.str l[i].1,.int .i64 l[i].2] rfl,D,zK,ZF,zI,zS,S,ZeZ,hw];have Q:l.take (i+1)=l.take i++[l[i]]:=by rw[yW,zD j];rfl
  obtain⟨H',g,c',I,J,K,M,N,O⟩:=R (i+1) _ _ _ (by omega) (by omega) (Zt _ z) (by rw[Q];exact T) (by simp;omega);refine⟨H',g,c',I,?_,?_,M,N,O⟩
  ·rw[J,zY (by omega),yE (by omega)]
  ·rw[K,zY (by omega),yE (by omega)]
def wOf (L:Loc)(b:UInt8):Int:=L.w.getD b.toNat 0
def wS (L:Loc):List UInt8->List Int
 |[]=>[]
 |[b]=>[wOf L b]
 |b::c::r=>match L.els.find? (fun e=>e.1==[b,c]) with
  |some e=>e.2::wS L r
  |none=>wOf L b::wS L (c::r)
theorem ZyR (n:Int):(ZA 1 [(0,zJ .i64 n)] [(.int .i64 0)]).map (AV.vs 1 .clip)=some (.vs 1 .clip [.int .i64 n]):=rfl
theorem Fj {s:List UInt8}{i j:Nat}(g:i<=j)(z:j<=s.length):Yj (.str s) (some (.int .i64 (i:Int))) (some (.int .i64 (j:Int))) none=some (.str ((s.take j).drop i)):=by
 have u:YW (.int .i64 (j:Int)) s.length=some j:=by simp[YW,z]
 have w:YW (.int .i64 (i:Int)) j=some i:=by simp[YW,g]
 unfold Yj UV Yw;simp only[u,w]
theorem ZAy {x:AV}{L:Loc}(h:Sl 1 x (L.w.map (zJ .i64)))(hw:L.w.length=256)(b:UInt8):Zn 1 x (.int .u8 b.toNat)=some (.vp [.int .i64 (wOf L b)]):=by
 have hb:b.toNat<L.w.length:=by rw[hw];exact b.toNat_lt
 rcases h with ⟨rfl,h⟩|⟨tok,rfl⟩
 ·simp at h;simp[h]at hb
 ·simp[Zn,zD hb,wOf,yC,zO]
structure WSt (L:Loc)(x c e:AV)(es:List (AV×AV×Nat))(acc:List Int)(H:Hp):Prop where
 out:∃ y,H[0]?=some (.cells [y])/\RowN 3 H 1 y (acc.map (zJ .i64))
 loc:H[1]?=some (.cells (L.cells x c e))
 mp:∃ k,H[2]?=some (.map es k)
 len:3<=H.length
theorem ZoW {L:Loc}{x c e:AV}{D:List (AV×AV×Nat)}{g:List Int}{H:Hp}(h:WSt L x c e D g H)(S:g.length<=1048576)(t:AV)(w:Int) :
 ∃ H',Yd cfg (Z9 cfg) (.fn (.func 110) [] [.ptr 0 0]) [t,.int .i64 w] H=some (.bool true,H')/\WSt L x c e D (g++[w]) H':=by
 obtain⟨⟨y,E,N⟩,I,⟨k,J⟩,K⟩:=h;obtain⟨j,H1,F,C,Q,z,R⟩:=N.app K 8 (.vs 1 .clip [.int .i64 w]) [.int .i64 w] (by simp[elems]) (by simp;omega);have u:H1[0]?=some (.cells [y]):=by rw[z 0 (by omega)];exact E
 have B:Zf 1 (.ptr 0 0) j H1=some (.tuple [],H1.set 0 (.cells [j])):=by
  have A:j.known=true/\j.cells=[j]:=by
   rcases C with ⟨rfl,_⟩|⟨t,e,rfl,_⟩ <;> exact⟨rfl,rfl⟩
  rw[VU (sz:=1) u A.1 (by rw[A.2];rfl) (by simp)];rw[A.2];rfl
 refine⟨H1.set 0 (.cells [j]),?_,⟨⟨j,Zt _ u,?_⟩,?_,⟨k,?_⟩,by simp;omega⟩⟩
 ·rw[Ow];show J1 [t,.int .i64 w,.ptr 0 0] H=_;rw[C4];unfold Rj;simp only[Y2 E,zI,go_sem,ZyR,F,B]
 ·rcases C with ⟨rfl,M⟩|⟨t,e,rfl,O,hn⟩
  ·exact .inl ⟨rfl,by rw[xB];exact M⟩
  ·exact .inr ⟨t,e,by simp,Yn _ (by omega) O,hn⟩
 ·rw[zY (by omega),z 1 (by omega)];exact I
 ·rw[zY (by omega),z 2 (by omega)];exact J
theorem Zt1 {L:Loc}{x c e:AV}(hx:Sl 1 x (L.w.map (zJ .i64)))(hw:L.w.length=256){E:List (AV×AV×Nat)}(R:Em E L.els)(s:List UInt8)(hs:s.length<=1048576)(V:Hp):∀ (n:Nat) (done r:List UInt8) (g:List Int) (H:Hp),r.length<=n->s=done++r->g.length<=done.length->WSt L x c e E g H ->
 ∃ H',Gt (.str s) (.fn (.func 110) [] [.ptr 0 0]) (.ptr 1 0) (.map 2) (.int .i64 (done.length:Int)) V H=some (.tuple [],H')/\WSt L x c e E (g++wS L r) H':=by
 intro n
 induction n with
 |zero =>
  intro done r g H S u ha j;have:r=[]:=yG.1 (by omega);subst this;rw[zR]at u;subst u;rw[BR];have z:decide ((s.length:Int)<(s.length:Int))=false:=by simp
  simp only[go_sem,YI,z];exact⟨H,rfl,by simpa[wS]using j⟩
 |succ n Y =>
  intro done r g H S u ha j
  cases r with
  |nil =>
   rw[zR]at u;subst u;rw[BR];have z:decide ((s.length:Int)<(s.length:Int))=false:=by simp
   simp only[go_sem,YI,z];exact⟨H,rfl,by simpa[wS]using j⟩
  |cons b r =>
   have hl:done.length<s.length:=by rw[u];simp
   have C:s.length=done.length+(r.length+1):=by rw[u];simp
   have z:decide ((done.length:Int)<(s.length:Int))=true:=by simp;omega
   have J:xH.wrap ((done.length:Int)+1)=((done.length+1:Nat):Int):=by rw[Zr (by omega) (by omega)];omega
   have K:xH.wrap ((done.length:Int)+2)=((done.length+2:Nat):Int):=by rw[Zr (by omega) (by omega)];omega
   have hb:s[done.length]?=some b:=by rw[u,zQ (by omega)];simp
   have T:(s.take (done.length+1)).drop done.length=[b]:=by rw[u,yZ];simp
   have one:∀ H,WSt L x c e E g H->∃ H',QM (.str s) (.fn (.func 110) [] [.ptr 0 0]) (.ptr 1 0) (.map 2) (.int .i64 (done.length:Int)) (.str [b]) (.int .i64 (wOf L b)) V H=some (.tuple [],H')/\WSt L x c e E (g++wOf L b::wS L r) H':=by
    intro H j;obtain⟨H1,N,O⟩:=ZoW j (by omega) (.str [b]) (wOf L b);obtain⟨M,F,Q⟩:=Y (done++[b]) r (g++[wOf L b]) H1 (by simp at S;omega) (by rw[u];simp) (by simp;omega) O;rw[zP,zM]at F;rw[L1];have A:(([b]:List UInt8).length:Int)=1:=rfl;simp only[N,go_sem,L2,YI,A,J,F];exact⟨M,rfl,by simpa using Q⟩
   rw[BR];obtain⟨⟨y,Z,I⟩,W,⟨k,X⟩,h3⟩:=j;have j:WSt L x c e E g H:=⟨⟨y,Z,I⟩,W,⟨k,X⟩,h3⟩;simp only[go_sem,YI,z,ZeX,J,Fj (Nat.le_succ _) (show done.length+1<=s.length by omega),T,zK,Y2 W,Loc.cells,zI,zS,Y8 hb,ZAy hx hw,ZE,K]
   cases r with
   |nil =>
    have B:decide (((done.length+2:Nat):Int)<=(s.length:Int))=false:=by simp at C ⊢;omega
    simp only[B,go_sem];have:=one H j;simpa[wS]using this
   |cons D r =>
    have B:decide (((done.length+2:Nat):Int)<=(s.length:Int))=true:=by simp at C ⊢;omega
    have U:(s.take (done.length+2)).drop done.length=[b,D]:=by rw[u,yZ];simp
    simp only[B,go_sem,Fj (show done.length<=done.length+2 by omega) (show done.length+2<=s.length by simp at C;omega),U,Zw0 X R];unfold wS
    cases hf:L.els.find? (fun e=>e.1==[b,D]) with
    |none =>
     simp only[go_sem,zI,zS];exact one H j
    |some el =>
     simp only[go_sem,zI,zS];obtain⟨H1,N,O⟩:=ZoW j (by omega) (.str [b,D]) el.2;obtain⟨M,F,Q⟩:=Y (done++[b,D]) r (g++[el.2]) H1 (by simp at S;omega) (by rw[u];simp) (by simp;omega) O;rw[zP,show ([b,D]:List UInt8).length=2 from rfl]at F;rw[L1];have A:(([b,D]:List UInt8).length:Int)=2:=rfl;simp only[N,go_sem,L2,YI,A,K,F];exact⟨M,rfl,by simpa using Q⟩
def LocCells (l:List AV)(L:Loc):Prop:=∃ x c e,l=L.cells x c e/\Sl 1 x (L.w.map (zJ .i64))/\Sl 5 c (L.cls.map Qq)/\Sl 2 e (L.els.map BP)
theorem LocCells.close {l:List AV}{L:Loc}(h:LocCells l L)(H:Hp)(n f:Nat):∃ C,l.mapM (Zb H n (f+3))=some C/\LocCells C L:=by
 obtain⟨x,c,e,rfl,hx,E,F⟩:=h;obtain⟨D,z,A⟩:=hx.close (H:=H) (n:=n) (f:=f+2) (fun y hy=>by obtain⟨m,_,rfl⟩:=zL.1 hy;rfl);obtain⟨c',g,j⟩:=E.close (H:=H) (n:=n) (f:=f+2) (fun y hy=>by obtain⟨m,_,rfl⟩:=zL.1 hy;exact CU m H n f);obtain⟨B,u,w⟩:=F.close (H:=H) (n:=n) (f:=f+2) (fun y hy=>by obtain⟨m,_,rfl⟩:=zL.1 hy;exact OW m H n f);refine⟨L.cells D c' B,?_,D,c',B,rfl,A,j,w⟩;simp only[Loc.cells,xD,z,g,u,yP];rfl
theorem XO (H:Hp)(n f:Nat)(l:List AV):Zb H n (f+1) (.vp l)=match l.mapM (Zb H n f) with
 |some l=>some (.vp l)
 |none=>none:=(Eq.refl _).trans (Eq.refl _)
theorem Ny {f:List AV->Hp->Z4}{a a' b b' v v':AV}{H H1:Hp}(ha:Zb [] 0 9 a=some a')(hb:Zb [] 0 9 b=some b')(g:f [a',b'] []=some (v,H1))(j:Zb H1 0 9 v=some v'):Ze f [a,b] H=some (v',H):=by
 unfold Ze;simp[ha,hb,g,j]
theorem RowN.close {n:Nat}{H:Hp}{x:AV}{l:List Int}(h:RowN n H 1 x (l.map (zJ .i64)))(H1:Hp):∃ g,Zb H1 0 9 x=some g/\Sl 1 g (l.map (zJ .i64)) :=
 h.sl.close (f:=8) (fun y hy=>by obtain⟨m,_,rfl⟩:=zL.1 hy;rfl)
theorem Zef {l:List AV}{L:Loc}(h:LocCells l L)(hw:L.w.length=256)(g:Zlp L.els)(hn:L.els.length<=1048576)(s:List UInt8)(N:s.length<=1048576)(H:Hp) :
 ∃ v,Ze UR [.str s,.vp l] H=some (v,H)/\Sl 1 v ((wS L s).map (zJ .i64)):=by
 obtain⟨W,M,x,c,e,rfl,hx,V,D⟩:=h.close [] 0 5;have j:Zb [] 0 9 (.vp l)=some (.vp (L.cells x c e)):=by rw[XO,M]
 have hlen:=D.len 189;rw[zT]at hlen;obtain⟨H1,K,k,E,O,Q,R,S,T⟩:=ZvX D g hn (.str s) (.fn (.func 110) [] [.ptr 0 0]) [zA [.nils]] L.els.length 0 [zA [.nils],.cells (L.cells x c e),.map [] 0] [] 0 (by omega) (by omega) rfl rfl (by simp);rw[show ((0:Nat):Int)=0 from rfl]at E;have z:WSt L x c e K [] H1:=⟨⟨.nils,by rw[O];rfl,RowN.nil _ _ _⟩,by rw[Q];rfl,⟨k,R⟩,T⟩;obtain⟨C,F,⟨⟨y,U,I⟩,_,_,_⟩⟩:=Zt1 hx hw S s N [zA [.nils]] s.length [] s [] H1 (yD _) rfl (by simp) z;rw[zC,show ((0:Nat):Int)=0 from rfl]at F;rw[zB]at I;obtain⟨v,A,B⟩:=I.close C;refine⟨v,Ny (a':=.str s) rfl j ?_ A,B⟩;rw[Ic];unfold Nc
 have J:NY [.agg (L.cells x c e),.str s,.fn (.func 110) [] [.ptr 0 0]] [zA [.nils]]=some (.tuple [],C):=by
  rw[ZfN];unfold ZaJ;have u:Z3 false 1 (.ptr 1 5) [zA [.nils],.cells (L.cells x c e),.map [] 0]=some e:=by simp[Z3,Go.Am.apart,Loc.cells]
  simp only[go_sem,zF,zC,zG,zB,zK,u,hlen,E,ZeW,F]
 simp only[go_sem,zC,zB,Xl 6 (L.cells x c e) rfl,J,Y2 U,zI]
def ZtP (r:List UInt8)(e:List UInt8×Int):Bool :=
 match r with
 |b::c::_=>e.1==[b,c]
 |_=>false
theorem ZAc (L:Loc)(b c:UInt8)(r:List UInt8):wS L (b::c::r)=match L.els.find? (ZtP (b::c::r)) with
 |some e=>e.2::wS L r
 |none=>wOf L b::wS L (c::r):=(Eq.refl _).trans (Eq.refl _)
set_option linter.unusedSectionVars false
def VO:List Int->List Int->Int
 |[],[]=>0
 |[],_::_=>-1
 |_::_,[]=>1
 |a::l,b::m=>if a<b then -1 else if b<a then 1 else VO l m
theorem QV (a b:Int)(l m:List Int):VO (a::l) (b::m)=if a<b then -1 else if b<a then 1 else VO l m:=(Eq.refl _).trans (Eq.refl _)
theorem Zu8 {l m:List Int}(h:l=[]\/m=[]):VO l m=if l.length<m.length then -1 else if m.length<l.length then 1 else 0:=by
 rcases h with rfl|rfl
 ·cases m <;> simp[VO]
 ·cases l <;> simp[VO]
theorem ZlT:∀ a b:List UInt8,VO (a.map fun c=>(c.toNat:Int)) (b.map fun c=>(c.toNat:Int))=Ja a b:=by
 intro a
 induction a with
 |nil=>intro b;cases b <;> simp[VO,Ja]
 |cons x a z =>
  intro b
  cases b with
  |nil=>simp[VO,Ja]
  |cons y b =>
   simp only[yQ,QV,Ja];by_cases h:x=y
   ·subst h;simp[z b]
   ·have w:x.toNat≠y.toNat:=fun e=>h (UInt8.toNat_inj.1 e);by_cases g:x<y
    ·have:(x.toNat:Int)<y.toNat:=by have:=yL.1 g;omega
     simp[h,g,this]
    ·have j:¬ (x.toNat:Int)<y.toNat:=by
      intro A;exact g (yL.2 (by omega))
     have u:(y.toNat:Int)<x.toNat:=by omega
     simp[h,g,j,u]
theorem Zuy (a b:List UInt8)(H:Hp):Ze BD [.str a,.str b] H=some (.int .i64 (Ja a b),H):=by
 have g:∀ H,Ze XX [.str a,.str b] H=some (.int .i64 (Ja a b),H):=fun H=>by
  refine F2 (a':=.str a) (b':=.str b) (H1:=[]) rfl rfl ?_ rfl;rw[Gg];rfl
 refine F2 (a':=.str a) (b':=.str b) (H1:=[]) rfl rfl ?_ rfl;rw[Oq];unfold MQ;simp only[g,go_sem]
section
variable {x y:AV}{a b:List Int}(hx:Sl 1 x (a.map (zJ .i64)))(hy:Sl 1 y (b.map (zJ .i64)))(ha:a.length<=4611686018427387904)(hb:b.length<=4611686018427387904)
include hx hy ha hb
theorem Zuc (s t:List UInt8)(E H:Hp):∀ (k i:Nat),min a.length b.length-i=k->i<=min a.length b.length ->
 Qw (.str s) (.str t) x y (.int .i64 ((min a.length b.length:Nat):Int)) (.int .i64 (i:Int)) E H=some (.int .i64 (if (VO (a.drop i) (b.drop i) != 0)=true then VO (a.drop i) (b.drop i) else Ja s t),H):=by
 have z:=hx.len 3;have A:=hy.len 3;rw[zT]at z A;intro k
 induction k with
 |zero =>
  intro i hk hi;rw[T4];have B:decide ((i:Int)<((min a.length b.length:Nat):Int))=false:=by simp;omega
  have F:a.drop i=[]\/b.drop i=[]:=by
   rcases Nat.le_total a.length b.length with h|h
   ·exact .inl (zH.2 (by omega))
   ·exact .inr (zH.2 (by omega))
  rw[Zu8 F];simp only[zZ,go_sem,B,Zae,z,A];by_cases J:a.length<b.length
  ·have c:decide ((a.length:Int)<(b.length:Int))=true:=by simp;omega
   have g:a.length-i<b.length-i:=by omega
   simp only[c,go_sem,g,if_true];rfl
  ·have c:decide ((a.length:Int)<(b.length:Int))=false:=by simp;omega
   have g:¬ a.length-i<b.length-i:=by omega
   simp only[c,go_sem,g,if_false,Zaf,z,A];by_cases K:b.length<a.length
   ·have c:decide ((b.length:Int)<(a.length:Int))=true:=by simp;omega
    have j:b.length-i<a.length-i:=by omega
    simp only[c,go_sem,j,if_true];rfl
   ·have c:decide ((b.length:Int)<(a.length:Int))=false:=by simp;omega
    have j:¬ b.length-i<a.length-i:=by omega
    simp only[c,go_sem,j,if_false,Zag,Zuy];rfl
 |succ k I =>
  intro i hk hi;rw[T4];have u:i<a.length:=by omega
  have w:i<b.length:=by omega
  have B:decide ((i:Int)<((min a.length b.length:Nat):Int))=true:=by simp;omega
  have hw:xH.wrap ((i:Int)+1)=((i+1:Nat):Int):=by rw[Zr (by omega) (by omega)];omega
  simp only[go_sem,B,Zah,hx.ints u,hy.ints w,ZE];rw[zN u,zN w,QV];by_cases C:a[i]<b[i]
  ·simp only[decide_eq_true C,go_sem,if_pos C];rfl
  ·simp only[decide_eq_false C,go_sem,if_neg C,Zaj,hx.ints u,hy.ints w,ZE];by_cases D:b[i]<a[i]
   ·simp only[decide_eq_true D,go_sem,if_pos D];rfl
   ·simp only[decide_eq_false D,go_sem,if_neg D,Zai,hw];exact I (i+1) (by omega) (by omega)
end
theorem ZuW (L:Loc):∀ (n:Nat) (s:List UInt8),s.length<=n->(wS L s).length<=s.length:=by
 intro n
 induction n with
 |zero=>intro s h;have:s=[]:=yG.1 (by omega);subst this;simp[wS]
 |succ n g =>
  intro s h
  match s,h with
  |[],_=>simp[wS]
  |[b],_=>simp[wS]
  |b::c::r,h =>
   rw[ZAc];simp only[zF]at h
   cases L.els.find? (ZtP (b::c::r)) with
   |none=>have:=g (c::r) (by simp;omega);simp only[zF]at this ⊢;omega
   |some e=>have:=g r (by omega);simp only[zF];omega
theorem ZiN (L:Loc):(Yh L).els.length<=64:=by
 unfold Yh
 cases h:(W6 L != 0) with
 |true=>simp[defL]
 |false =>
  simp only[W6,bne_eq_false_iff_eq]at h
  have:EJ L.els=0:=by
   split at h
   ·split at h
    ·cases h
    ·split at h
     ·cases h
     ·unfold ZaB at h;split at h
      ·rename_i g;simp[h]at g
      ·exact h
   ·cases h
  unfold EJ at this;split at this
  ·cases this
  ·simp;omega
def BH (L:Loc)(s t:List UInt8):Int:=if (VO (wS (Yh L) s) (wS (Yh L) t) != 0)=true then VO (wS (Yh L) s) (wS (Yh L) t) else Ja s t
theorem Zki {v:AV}{L:Loc}(h:LocAV v L)(hok:LocOk L)(s t:List UInt8)(U:s.length<=1048576)(V:t.length<=1048576)(H:Hp):Ze U7 [v,.str s,.str t] H=some (.int .i64 (BH L s t),H):=by
 obtain⟨J,Q,K⟩:=h.close [] 0 5;have W:=fun H=>ZiP K hok H;obtain⟨x,c,e,rfl,hx,hc,he⟩:=K;obtain⟨v',F,j,g,ev,rfl,I,B,C⟩:=W [zA (L.cells x c e)];have u:LocCells ((Yh L).cells j g ev) (Yh L):=⟨j,g,ev,rfl,I,B,C⟩;obtain⟨Z,X,M⟩:=Zef u (Znw L) (ZiO L) (by have:=ZiN L;omega) s U [yM];obtain⟨w2,Y,N⟩:=Zef u (Znw L) (ZiO L) (by have:=ZiN L;omega) t V [yM];have S:=ZuW (Yh L) s.length s (yD _);have T:=ZuW (Yh L) t.length t (yD _)
 have A:U7 [.agg (L.cells x c e),.str s,.str t] []=some (.int .i64 (BH L s t),[yM]):=by
  rw[Zbk];unfold Ea;have R:Z3 true 6 (.ptr 0 0) [zA (L.cells x c e)]=some (.agg (L.cells x c e)):=by simp[Z3,Go.Am.apart,Loc.cells]
  have E:Zf 6 (.ptr 0 0) (.agg ((Yh L).cells j g ev)) [zA (L.cells x c e)]=some (.tuple [],[zA ((Yh L).cells j g ev)]):=by simp[Zf,YM,zU,zO,Loc.cells,splice]
  have D:∀ k:AV->Hp->Z4,XG (.ptr 0 0) [zA ((Yh L).cells j g ev)] k=k (.vp ((Yh L).cells j g ev)) [yM]:=fun k=>rfl;have J:Zl (.slice 3) Z=some (.int .i64 (wS (Yh L) s).length):=by have:=M.len 3;rwa [zT]at this
  have O:Zl (.slice 3) w2=some (.int .i64 (wS (Yh L) t).length):=by have:=N.len 3;rwa [zT]at this
  have z:UU (.int .i64 ((wS (Yh L) s).length:Int)) (.int .i64 ((wS (Yh L) t).length:Int))=some (.int .i64 ((min (wS (Yh L) s).length (wS (Yh L) t).length:Nat):Int)):=by
   unfold UU;simp only[if_true];congr 2;split <;> omega
  have w:=Zuc M N (by omega) (by omega) s t [] [yM] _ 0 rfl (yK _);rw[show ((0:Nat):Int)=0 from rfl,zW,zW]at w;simp only[go_sem,zC,zB,R,F,E,D,Zcx,ZcU,zG,X,Y,J,O,z,w];rfl
 exact Vt (args':=[.agg (L.cells x c e),.str s,.str t]) (by simp[Q];rfl) A rfl
def ZAI (s:List UInt8):List Int:=s.map fun c=>(c.toNat:Int)
theorem ZmB {s done r:List UInt8}{b:UInt8}(h:s=done++b::r):Zz (.str s) (.int .i64 (done.length:Int))=some (.int .u8 b.toNat) :=
 Y8 (by rw[h,zQ (yD _)];simp)
def isD (b:UInt8):Bool:=decide (48<=(b.toNat:Int))&&decide ((b.toNat:Int)<=57)
def Zq (l:List UInt8):Nat:=(l.takeWhile isD).length
theorem ZuA:Zq []=0:=rfl
theorem ZiC (b:UInt8)(l:List UInt8):Zq (b::l)=if isD b then Zq l+1 else 0:=by
 unfold Zq;rw[List.takeWhile_cons];split <;> simp_all
theorem Znh (l:List UInt8):Zq l<=l.length:=by
 induction l with
 |nil=>simp[Zq]
 |cons b l g=>rw[ZiC];split <;> simp <;> omega
theorem Zo3 {s:List UInt8}(D:s.length<=1048576)(z H:Hp):∀ (k p:Nat),s.length-p=k->p<=s.length ->
 Qu (.str s) (.int .i64 (p:Int)) z H=some (.int .i64 ((p+Zq (s.drop p):Nat):Int),H):=by
 intro k
 induction k with
 |zero =>
  intro p hk B;rw[RO];have g:decide ((p:Int)<(s.length:Int))=false:=by simp;omega
  have A:s.drop p=[]:=zH.2 (by omega);simp only[go_sem,g,A,ZuA,yV,Jb]
 |succ k C =>
  intro p hk B;rw[RO];have g:decide ((p:Int)<(s.length:Int))=true:=by simp;omega
  have j:p<s.length:=by omega
  have hw:xH.wrap ((p:Int)+1)=((p+1:Nat):Int):=by rw[Zr (by omega) (by omega)];omega
  simp only[go_sem,g,Y8 (zD j)];rw[UZ j,ZiC]
  cases u:decide (48<=((s[p].toNat:Int))) with
  |false=>simp only[isD,u,go_sem,xE,zE,if_false,yV,Jb]
  |true =>
   cases w:decide (((s[p].toNat:Int))<=57) with
   |false=>simp only[isD,u,w,go_sem,Y8 (zD j),Bool.and_false,zE,if_false,yV,Jb]
   |true =>
    simp only[isD,u,w,go_sem,Y8 (zD j),Bool.and_true,if_true,OR,hw];rw[C (p+1) (by omega) (by omega),show p+1+Zq (s.drop (p+1))=p+(Zq (s.drop (p+1))+1) by omega]
theorem Zfw (s:List UInt8)(g:s.length<=1048576)(H:Hp):Ze J0 [.str s] H=some (.int .i64 (Zq s:Int),H):=by
 refine XQ (a':=.str s) (H1:=[]) rfl ?_ rfl;rw[Zbi];have:=Zo3 g [] [] s.length 0 rfl (by omega);rw[show ((0:Nat):Int)=0 from rfl,zW,zK]at this;exact this
def dg (b:UInt8):Int:=IntKind.u8.wrap ((b.toNat:Int)-48)
theorem Wm (b:UInt8):0<=dg b/\dg b<=255:=by
 unfold dg;have h:=b.toNat_lt;show 0<=((b.toNat:Int)-48) % 256/\((b.toNat:Int)-48) % 256<=255;omega
theorem ZxF (b:UInt8):Wl .i64 (.int .u8 (IntKind.u8.wrap ((b.toNat:Int)-48)))=some (.int .i64 (dg b)):=by
 have:=Wm b;show some (zJ .i64 (xH.wrap (dg b)))=_;rw[Zr (by omega) (by omega)]
def fr:Nat->List UInt8->Int->Int
 |0,_,d=>d
 |k+1,[],d=>fr k [] (d*10)
 |k+1,b::l,d=>fr k l (d*10+dg b)
theorem ZzA (k:Nat)(d:Int):fr (k+1) [] d=fr k [] (d*10):=(Eq.refl _).trans (Eq.refl _)
theorem Zyw (k:Nat)(b:UInt8)(l:List UInt8)(d:Int):fr (k+1) (b::l) d=fr k l (d*10+dg b):=(Eq.refl _).trans (Eq.refl _)
theorem Ztp (s:List UInt8)(Q:s.length<=1048576)(I H:Hp):∀ (k i:Nat) (d p:Int),i+k=4->0<=d->d+1000<=2000000000*p->p*10 ^ k<=10000 ->
 Uu (.str s) (.int .i64 d) (.int .i64 (i:Int)) I H=some (.int .i64 (fr k (s.drop i) d),H):=by
 intro k
 induction k with
 |zero =>
  intro i d p B J K E;rw[Dk];have j:decide ((i:Int)<4)=false:=by simp;omega
  simp only[go_sem,j,Ay,fr]
 |succ k F =>
  intro i d p B J K E;rw[Dk];have j:decide ((i:Int)<4)=true:=by simp;omega
  have z:xH.wrap ((i:Int)+1)=((i+1:Nat):Int):=by rw[Zr (by omega) (by omega)];omega
  have u:p*10*10 ^ k<=10000:=by rw[Int.mul_assoc,show (10:Int)*10 ^ k=10 ^ (k+1) by rw[Int.pow_succ,Int.mul_comm]];exact E
  have C:(1:Int)<=10 ^ k:=Int.add_one_le_iff.2 (Int.pow_pos (by decide))
  have O:p*10<=10000:=by
   by_cases N:0<=p
   ·have:=Int.mul_le_mul_of_nonneg_left C (show 0<=p*10 by omega);omega
   ·omega
  have D:xH.wrap (d*10)=d*10:=Zr (by omega) (by omega);simp only[go_sem,j,Az,D,YI];by_cases hi:i<s.length
  ·have hb:=Wm s[i];have g:decide ((i:Int)<(s.length:Int))=true:=by simp;omega
   have w:xH.wrap (d*10+dg s[i])=d*10+dg s[i]:=Zr (by omega) (by omega);simp only[g,go_sem,Y8 (zD hi),ZxF,w,Dj,z];rw[F (i+1) _ (p*10) (by omega) (by omega) (by omega) u,UZ hi,Zyw]
  ·have g:decide ((i:Int)<(s.length:Int))=false:=by simp;omega
   have M:s.drop i=[]:=zH.2 (by omega);have A:s.drop (i+1)=[]:=zH.2 (by omega);simp only[g,go_sem,Dj,z];rw[F (i+1) _ (p*10) (by omega) (by omega) (by omega) u,M,A,ZzA]
theorem Zto (s:List UInt8)(g:s.length<=1048576)(H:Hp):Ze KI [.str s] H=some (.int .i64 (fr 4 s 0),H):=by
 refine XQ (a':=.str s) (H1:=[]) rfl ?_ rfl;rw[I6];have:=Ztp s g [] [] 4 0 0 1 rfl (by omega) (by omega) (by decide);rw[show ((0:Nat):Int)=0 from rfl,zW]at this;exact this
def Zee:List UInt8->Int->Option Int
 |[],d=>some d
 |b::l,d=>if 1000000000<d*10+dg b then none else Zee l (d*10+dg b)
theorem ZkK (b:UInt8)(l:List UInt8)(d:Int):Zee (b::l) d=if 1000000000<d*10+dg b then none else Zee l (d*10+dg b):=(Eq.refl _).trans (Eq.refl _)
theorem Zka (l:List UInt8):0<=fr 4 l 0/\fr 4 l 0<=1000000:=by
 match l with
 |[]=>simp[fr]
 |[a]=>have:=Wm a;simp[fr];omega
 |[a,b]=>have:=Wm a;have:=Wm b;simp[fr];omega
 |[a,b,c]=>have:=Wm a;have:=Wm b;have:=Wm c;simp[fr];omega
 |a::b::c::d::l=>have:=Wm a;have:=Wm b;have:=Wm c;have:=Wm d;simp[fr];omega
def Zrj (w f:List UInt8):Option Int:=match Zee w 0 with
 |none=>none
 |some d=>some (d*10000+fr 4 f 0)
def PT (w f:List UInt8):Int:=match Zrj w f with
 |none=>10000000000001
 |some n=>min 10000000000001 n
theorem Zs0 (s f:List UInt8)(J:s.length<=1048576)(E:f.length<=1048576)(B H:Hp):∀ (r done:List UInt8) (d:Int),s=done++r->0<=d->d<=1000000000 ->
 Jd (.str s) (.str f) (.int .i64 d) (.int .i64 (s.length:Int)) (.int .i64 (done.length:Int)) B H=some (.int .i64 (match Zee r d with
  |none=>10000000000001
  |some n=>min 10000000000001 (n*10000+fr 4 f 0)),H):=by
 intro r
 induction r with
 |nil =>
  intro done d w C D;rw[zR]at w;subst w;rw[TB];have g:decide ((s.length:Int)<(s.length:Int))=false:=by simp
  have F:=Zka f;have j:xH.wrap (d*10000)=d*10000:=Zr (by omega) (by omega);have u:xH.wrap (d*10000+fr 4 f 0)=d*10000+fr 4 f 0:=Zr (by omega) (by omega);simp only[go_sem,g,Zbp,j,Zto f E,u,Zee]
 |cons b r I =>
  intro done d w C D;have hlen:s.length=done.length+(r.length+1):=by rw[w];simp
  have g:decide ((done.length:Int)<(s.length:Int))=true:=by simp;omega
  have A:xH.wrap ((done.length:Int)+1)=((done.length+1:Nat):Int):=by rw[Zr (by omega) (by omega)];omega
  have hb:=Wm b;have j:xH.wrap (10*d)=d*10:=by rw[Zr (by omega) (by omega)];omega
  have u:xH.wrap (d*10+dg b)=d*10+dg b:=Zr (by omega) (by omega);rw[TB,ZkK];simp only[go_sem,g,Zbq,j,ZmB w,ZxF,u];by_cases z:1000000000<d*10+dg b
  ·simp only[decide_eq_true z,go_sem,if_pos z]
  ·have:=I (done++[b]) (d*10+dg b) (by rw[w];simp) (by omega) (by omega);rw[zP,zM]at this;simp only[decide_eq_false z,go_sem,if_neg z,Zbr,A,this]
theorem ZrZ (s f:List UInt8)(j:s.length<=1048576)(g:f.length<=1048576)(H:Hp):Ze Rb [.str s,.str f] H=some (.int .i64 (PT s f),H):=by
 refine F2 (a':=.str s) (b':=.str f) (H1:=[]) rfl rfl ?_ rfl;rw[Zcf];unfold Cs;have:=Zs0 s f j g [] [] s [] 0 rfl (by omega) (by omega);rw[zC,show ((0:Nat):Int)=0 from rfl]at this;simp only[go_sem,this];unfold PT Zrj;cases Zee s 0 <;> rfl
def Za3 (neg:Bool)(n:Nat)(w f:List UInt8):Int :=
 if n=0/\f=[] then 0 else if neg then -(min 10000000000000 (PT w f)) else min 10000000000000 (PT w f)
def AN (neg:Bool)(r:List UInt8):Int :=
 match r.drop (Zq r) with
 |[]=>Za3 neg (Zq r) (r.take (Zq r)) []
 |b::q=>if (((b.toNat:Int)==46)&&(decide (0<Zq r) || decide (0<Zq q)))=true then Za3 neg (Zq r) (r.take (Zq r)) (q.take (Zq q)) else Za3 neg (Zq r) (r.take (Zq r)) []
theorem Zx2 {neg:Bool}{r:List UInt8}(h:r.drop (Zq r)=[]):AN neg r=Za3 neg (Zq r) (r.take (Zq r)) []:=by unfold AN;rw[h]
theorem Zug {neg:Bool}{r:List UInt8}{b:UInt8}{q:List UInt8}(h:r.drop (Zq r)=b::q):AN neg r=if (((b.toNat:Int)==46)&&(decide (0<Zq r) || decide (0<Zq q)))=true then Za3 neg (Zq r) (r.take (Zq r)) (q.take (Zq q)) else Za3 neg (Zq r) (r.take (Zq r)) []:=by unfold AN;rw[h]
theorem ZrW:∀ (l:List UInt8) (d n:Int),0<=d->d<=1000000000->Zee l d=some n->0<=n/\n<=1000000000:=by
 intro l
 induction l with
 |nil=>intro d n g j h;injection h with h;subst h;exact⟨g,j⟩
 |cons b l u =>
  intro d n g j h;rw[ZkK]at h;have:=Wm b;split at h
  ·cases h
  ·exact u _ n (by omega) (by omega) h
theorem Zrk {w f:List UInt8}{n:Int}(h:Zrj w f=some n):0<=n/\n<=10000001000000:=by
 unfold Zrj at h;split at h
 ·cases h
 ·rename_i d g;injection h with h;have:=ZrW w 0 d (by omega) (by omega) g;have:=Zka f;omega
theorem ZrV (w f:List UInt8):0<=PT w f/\PT w f<=10000000000001:=by
 unfold PT;split
 ·omega
 ·rename_i n h;have:=Zrk h;omega
theorem ZAe (x y:AV):ZT (.tuple [x,y]) 0=some x:=rfl
theorem ZAf (x y:AV):ZT (.tuple [x,y]) 1=some y:=rfl
theorem ZoS (n:Int):Xv .neg (.int .i64 n)=some (.int .i64 (xH.wrap (0-n))):=(Eq.refl _).trans (Eq.refl _)
theorem Zit (neg:Bool)(n:Nat)(w f:List UInt8)(hw:w.length<=1048576)(D:f.length<=1048576)(e:Int)(z H:Hp) :
 ∃ B,WA (.bool neg) (.int .i64 (n:Int)) (.str w) (.str f) (.int .i64 e) z H=some (.tuple [.int .i64 (Za3 neg n w f),.int .i64 B],H):=by
 have E:=ZrV w f
 have j:UU (.int .i64 10000000000000) (.int .i64 (PT w f))=some (.int .i64 (min 10000000000000 (PT w f))):=by
  unfold UU;simp only[if_true];congr 2;split <;> omega
 have u:xH.wrap (0-min 10000000000000 (PT w f))=-(min 10000000000000 (PT w f)):=by rw[Zr (by omega) (by omega)];omega
 have g:BK (.bool neg) (.str w) (.str f) (.int .i64 e) z H=some (.tuple [.int .i64 (if neg then -(min 10000000000000 (PT w f)) else min 10000000000000 (PT w f)),.int .i64 e],H):=by
  rw[OQ];simp only[go_sem,ZrZ w f hw D,j]
  cases neg with
  |true=>simp only[go_sem,ZoS,u,RL,if_true]
  |false=>simp only[go_sem,RL,zE,if_false]
 have A:Xb .eql (.str f) (.str [])=some (.bool (f==[])):=rfl;rw[OP];unfold Za3
 cases n with
 |zero =>
  cases f with
  |nil=>exact⟨0,by simp[go_sem,Xb];rfl⟩
  |cons b f =>
   have A:Xb .eql (.str (b::f)) (.str [])=some (.bool false):=rfl;refine⟨e,?_⟩;simp[go_sem,A,g]
 |succ n =>
  refine⟨e,?_⟩
  have C:(((n+1:Nat):Int)==0)=false:=by
   rw[beq_eq_false_iff_ne];omega
  simp only[go_sem,C,g];simp
theorem Zni {s:List UInt8}{i:Nat}(h:i<=s.length):Yj (.str s) (some (.int .i64 (i:Int))) none none=some (.str (s.drop i)):=by
 rw[OC .i64 (by omega) (by omega)];simp
theorem Zis (s:List UInt8)(X:s.length<=1048576)(neg:Bool){i:Nat}(hi:i<=s.length)(K H:Hp) :
 ∃ e,Qr (.str s) (.int .i64 (i:Int)) (.bool neg) K H=some (.tuple [.int .i64 (AN neg (s.drop i)),.int .i64 e],H):=by
 have W:(s.drop i).length=s.length-i:=zZ;have hn:=Znh (s.drop i);have S:xH.wrap ((i:Int)+(Zq (s.drop i):Int))=((i+Zq (s.drop i):Nat):Int):=by rw[Zr (by omega) (by omega)];omega
 have R:(s.take (i+Zq (s.drop i))).drop i=(s.drop i).take (Zq (s.drop i)):=by rw[xF];congr 1;omega
 rw[OO];simp only[go_sem,Zni hi,Zfw _ (show (s.drop i).length<=1048576 by omega),S,Fj (show i<=i+Zq (s.drop i) by omega) (show i+Zq (s.drop i)<=s.length by omega),R,YI];have z:((s.drop i).take (Zq (s.drop i))).length<=1048576:=by rw[yF];omega
 by_cases N:i+Zq (s.drop i)<s.length
 ·have O:decide (((i+Zq (s.drop i):Nat):Int)<(s.length:Int))=true:=by simp;omega
  have Q:(s.drop i).drop (Zq (s.drop i))=s[i+Zq (s.drop i)]::s.drop (i+Zq (s.drop i)+1):=by
   rw[List.drop_drop,UZ N]
  have u:xH.wrap (((i+Zq (s.drop i):Nat):Int)+1)=((i+Zq (s.drop i)+1:Nat):Int):=by rw[Zr (by omega) (by omega)];omega
  have V:(s.drop (i+Zq (s.drop i)+1)).length=s.length-(i+Zq (s.drop i)+1):=zZ;have hk:=Znh (s.drop (i+Zq (s.drop i)+1));rw[Zug Q];simp only[O,go_sem,Y8 (zD N)]
  cases T:((s[i+Zq (s.drop i)].toNat:Int)==46) with
  |false =>
   simp only[go_sem,xE,zE,if_false];exact Zit neg _ _ _ z (by simp) _ K H
  |true =>
   have B:xH.wrap (((i+Zq (s.drop i)+1:Nat):Int)+(Zq (s.drop (i+Zq (s.drop i)+1)):Int))=((i+Zq (s.drop i)+1+Zq (s.drop (i+Zq (s.drop i)+1)):Nat):Int):=by rw[Zr (by omega) (by omega)];omega
   have C:xH.wrap ((1:Int)+(Zq (s.drop (i+Zq (s.drop i)+1)):Int))=((1+Zq (s.drop (i+Zq (s.drop i)+1)):Nat):Int):=by rw[Zr (by omega) (by omega)];omega
   have A:(s.take (i+Zq (s.drop i)+1+Zq (s.drop (i+Zq (s.drop i)+1)))).drop (i+Zq (s.drop i)+1)=(s.drop (i+Zq (s.drop i)+1)).take (Zq (s.drop (i+Zq (s.drop i)+1))):=by rw[xF];congr 1;omega
   have hfl:((s.drop (i+Zq (s.drop i)+1)).take (Zq (s.drop (i+Zq (s.drop i)+1)))).length<=1048576:=by rw[yF];omega
   have j:∀ n:Nat,decide ((0:Int)<(n:Int))=decide (0<n):=fun n=>by simp
   simp only[go_sem,u,Zni (show i+Zq (s.drop i)+1<=s.length by omega),Zfw _ (show (s.drop (i+Zq (s.drop i)+1)).length<=1048576 by omega),j,Bool.true_and]
   have g:∃ e,(Z0 (Z5 .add (.int .i64 ((i+Zq (s.drop i):Nat):Int)) (.int .i64 1)) fun D =>
    Z0 (Z5 .add (.int .i64 ((i+Zq (s.drop i):Nat):Int)) (.int .i64 1)) fun E =>
    Z0 (Z5 .add E (.int .i64 (Zq (s.drop (i+Zq (s.drop i)+1)):Int))) fun F =>
    Z0 (Yj (.str s) (some D) (some F) none) fun I =>
    Z0 (Z5 .add (.int .i64 1) (.int .i64 (Zq (s.drop (i+Zq (s.drop i)+1)):Int))) fun J =>
    Z0 (Z5 .add (.int .i64 ((i+Zq (s.drop i):Nat):Int)) J) fun w =>
    WA (.bool neg) (.int .i64 (Zq (s.drop i):Int)) (.str ((s.drop i).take (Zq (s.drop i)))) I w K H)=some (.tuple [.int .i64 (Za3 neg (Zq (s.drop i)) ((s.drop i).take (Zq (s.drop i))) ((s.drop (i+Zq (s.drop i)+1)).take (Zq (s.drop (i+Zq (s.drop i)+1))))),.int .i64 e],H):=by
    simp only[go_sem,u,B,C,Fj (show i+Zq (s.drop i)+1<=i+Zq (s.drop i)+1+Zq (s.drop (i+Zq (s.drop i)+1)) by omega) (show i+Zq (s.drop i)+1+Zq (s.drop (i+Zq (s.drop i)+1))<=s.length by omega),A];exact Zit neg _ _ _ z hfl _ K H
   simp only[go_sem,u,B,C,Fj (show i+Zq (s.drop i)+1<=i+Zq (s.drop i)+1+Zq (s.drop (i+Zq (s.drop i)+1)) by omega) (show i+Zq (s.drop i)+1+Zq (s.drop (i+Zq (s.drop i)+1))<=s.length by omega),A]at g
   cases U:decide (0<Zq (s.drop i)) with
   |true =>
    simp only[go_sem,yB,if_true,u,B,C,Fj (show i+Zq (s.drop i)+1<=i+Zq (s.drop i)+1+Zq (s.drop (i+Zq (s.drop i)+1)) by omega) (show i+Zq (s.drop i)+1+Zq (s.drop (i+Zq (s.drop i)+1))<=s.length by omega),A];exact g
   |false =>
    cases M:decide (0<Zq (s.drop (i+Zq (s.drop i)+1))) with
    |true =>
     simp only[go_sem,j,M,yH,if_true,u,B,C,Fj (show i+Zq (s.drop i)+1<=i+Zq (s.drop i)+1+Zq (s.drop (i+Zq (s.drop i)+1)) by omega) (show i+Zq (s.drop i)+1+Zq (s.drop (i+Zq (s.drop i)+1))<=s.length by omega),A];exact g
    |false =>
     simp only[go_sem,j,M,yR,zE,if_false];exact Zit neg _ _ _ z (by simp) _ K H
 ·have O:decide (((i+Zq (s.drop i):Nat):Int)<(s.length:Int))=false:=by simp;omega
  have Q:(s.drop i).drop (Zq (s.drop i))=[]:=zH.2 (by omega);rw[Zx2 Q];simp only[O,go_sem];exact Zit neg _ _ _ z (by simp) _ K H
def Zru:List UInt8->Int
 |[]=>AN false []
 |b::r=>if (((b.toNat:Int)==45) || ((b.toNat:Int)==43))=true then AN ((b.toNat:Int)==45) r else AN ((b.toNat:Int)==45) (b::r)
theorem Zuf (b:UInt8)(r:List UInt8):Zru (b::r)=if (((b.toNat:Int)==45) || ((b.toNat:Int)==43))=true then AN ((b.toNat:Int)==45) r else AN ((b.toNat:Int)==45) (b::r):=(Eq.refl _).trans (Eq.refl _)
def Zrv (s:List UInt8):Int:=Zru (s.drop (YC s))
theorem Zuh (s:List UInt8)(A:s.length<=1048576){i:Nat}(hi:i<=s.length)(w H:Hp) :
 ∃ e,BJ (.str s) (.int .i64 (i:Int)) w H=some (.tuple [.int .i64 (Zru (s.drop i)),.int .i64 e],H):=by
 rw[ON];by_cases j:i<s.length
 ·have u:decide ((i:Int)<(s.length:Int))=true:=by simp;omega
  have z:xH.wrap ((i:Int)+1)=((i+1:Nat):Int):=by rw[Zr (by omega) (by omega)];omega
  have g:=Y8 (zD j);rw[UZ j];simp only[YI,go_sem,u,g,Zuf]
  cases D:((s[i].toNat:Int)==45) with
  |true =>
   simp only[go_sem,u,g,z,yB,if_true];exact Zis s A true (by omega) w H
  |false =>
   simp only[go_sem,YI,u,g]
   cases C:((s[i].toNat:Int)==43) with
   |true =>
    simp only[go_sem,u,g,z,yH,if_true];exact Zis s A false (by omega) w H
   |false =>
    simp only[go_sem,yR,Bool.or_self,zE,if_false];rw[<-UZ j];exact Zis s A false (by omega) w H
 ·have u:decide ((i:Int)<(s.length:Int))=false:=by simp;omega
  have B:s.drop i=[]:=zH.2 (by omega);simp only[YI,go_sem,u,B];have:=Zis s A false hi w H;rw[B]at this;exact this
theorem ZA0 (s:List UInt8)(F:s.length<=1048576)(C H:Hp):∀ (k i:Nat),s.length-i=k->i<=s.length ->
 ∃ e,Qt (.str s) (.int .i64 (i:Int)) C H=some (.tuple [.int .i64 (Zru ((s.drop i).drop (YC (s.drop i)))),.int .i64 e],H):=by
 intro k
 induction k with
 |zero =>
  intro i hk hi;have u:decide ((i:Int)<(s.length:Int))=false:=by simp;omega
  have I:s.drop i=[]:=zH.2 (by omega);rw[RN];simp only[YI,go_sem,u];have:=Zuh s F hi C H;rw[I]at this ⊢;exact this
 |succ k J =>
  intro i hk hi;have D:i<s.length:=by omega
  have u:decide ((i:Int)<(s.length:Int))=true:=by simp;omega
  have A:xH.wrap ((i:Int)+1)=((i+1:Nat):Int):=by rw[Zr (by omega) (by omega)];omega
  have z:=Y8 (zD D);have B:=J (i+1) (by omega) (by omega)
  have g:Xo s[i]=true->(s.drop i).drop (YC (s.drop i))=(s.drop (i+1)).drop (YC (s.drop (i+1))):=fun h=>by
   rw[UZ D,VP,h,if_pos rfl,List.drop_succ_cons]
  have w:Xo s[i]=false->(s.drop i).drop (YC (s.drop i))=s.drop i:=fun h=>by
   rw[UZ D,VP,h];simp
  have hb:Xo s[i]=(((s[i].toNat:Int)==32) || ((s[i].toNat:Int)==9)):=by
   rw[Xo,(CR s[i]).1,(CR s[i]).2]
  rw[RN];simp only[YI,go_sem,u,z]
  cases j:((s[i].toNat:Int)==32) with
  |true =>
   simp only[go_sem,RM,A];rw[g (by rw[hb,j];rfl)];exact B
  |false =>
   simp only[go_sem,z]
   cases E:((s[i].toNat:Int)==9) with
   |true =>
    simp only[go_sem,RM,A];rw[g (by rw[hb,j,E];rfl)];exact B
   |false =>
    simp only[go_sem];rw[w (by rw[hb,j,E];rfl)];exact Zuh s F hi C H
theorem ZmW (s:List UInt8)(g:s.length<=1048576)(H:Hp):∃ e,Ze QZ [.str s] H=some (.tuple [.int .i64 (Zrv s),.int .i64 e],H):=by
 obtain⟨e,h⟩:=ZA0 s g [] [] _ 0 rfl (yK _);rw[show ((0:Nat):Int)=0 from rfl,zW]at h;refine⟨e,XQ (a':=.str s) (H1:=[]) rfl ?_ rfl⟩;rw[Zbh];exact h
def AQ (a b:Int):Int:=if a<b then -1 else if b<a then 1 else 0
theorem Zuz (a b:Int)(H:Hp):Ze Pd [.int .i64 a,.int .i64 b] H=some (.int .i64 (AQ a b),H):=by
 refine F2 (a':=.int .i64 a) (b':=.int .i64 b) (H1:=[]) rfl rfl ?_ rfl;rw[ZeL];unfold Ik AQ;by_cases h:a<b
 ·simp only[go_sem,decide_eq_true h,if_pos h]
 ·by_cases g:b<a
  ·simp only[go_sem,decide_eq_false h,if_neg h,decide_eq_true g,if_pos g]
  ·simp only[go_sem,decide_eq_false h,if_neg h,decide_eq_false g,if_neg g,Zeb]
def Zem (b:UInt8):Bool:=Xo b || ZtK b.toNat || N4 b.toNat
def F1 (s:List UInt8):List UInt8:=s.filter Zem
theorem ZsW:((yO 256).all fun n=>(RH (Zle (.bool (Xo (zV n))) (.int .u8 (n:Int)))==some (Zem (zV n)))&&(RH (Zun (.bool (Xo (zV n))) (.int .u8 (n:Int)))==some (Zem (zV n))))=true:=by kernel_rfl
theorem ZvT (b:UInt8):Zle (.bool (Xo b)) (.int .u8 b.toNat)=some (.bool (Zem b))/\Zun (.bool (Xo b)) (.int .u8 b.toNat)=some (.bool (Zem b)):=by
 have:=Va ZsW (ZeB b);rw[yX,yY,beq_iff_eq,beq_iff_eq]at this;exact⟨Qh this.1,Qh this.2⟩
theorem Zvu (g:List UInt8)(b:UInt8)(h:g.length<=1048576):byteE.run [.ptr 0 0,.int .u8 b.toNat] [yJ 201 5 g]=some (.nili,[yJ 201 5 (g++[b])]):=by
 have hb:=b.toNat_lt;have u:g.length+1<=Zgo:=by unfold Zgo;omega
 have j:Zhx [.int .u8 b.toNat]=some fun l=>if l.length+1<=Zgo then some (.nili,l++[zV (b.toNat:Int).toNat]) else none:=by
  simp only[Zhx,if_pos (show (0:Int)<=(b.toNat:Int)/\(b.toNat:Int)<256 by omega)]
 simp only[byteE,Zxz,Zje,Ev,j,zI,Zg3,Pg,Ph,and_self,if_true,if_pos u,yT,Int.toNat_natCast,yX]
theorem ZiG (g:List UInt8):stringE.run [.ptr 0 0] [yJ 201 5 g]=some (.str g,[yJ 201 5 g]):=rfl
theorem ZsY (s:List UInt8)(B:s.length<=1048576)(A:Hp):∀ (r done:List UInt8) (g:List UInt8),s=done++r->g.length<=done.length ->
 ∃ H',KB (.str s) (.ptr 0 0) (.int .i64 (s.length:Int)) (.int .i64 (done.length:Int)) A [yJ 201 5 g]=some (.str (g++F1 r),H'):=by
 intro r
 induction r with
 |nil =>
  intro done g j ha;rw[zR]at j;subst j;have u:decide ((s.length:Int)<(s.length:Int))=false:=by simp
  refine⟨[yJ 201 5 g],?_⟩;rw[NP];simp only[go_sem,u,Ze9,ZiG];simp[F1]
 |cons b r z =>
  intro done g j ha;have hlen:s.length=done.length+(r.length+1):=by rw[j];simp
  have u:decide ((done.length:Int)<(s.length:Int))=true:=by simp;omega
  have w:xH.wrap ((done.length:Int)+1)=((done.length+1:Nat):Int):=by rw[Zr (by omega) (by omega)];omega
  rw[NP];simp only[go_sem,u,Zau,ZmB j,OD,(ZvT b).1]
  cases hb:Zem b with
  |true =>
   obtain⟨H',h⟩:=z (done++[b]) (g++[b]) (by rw[j];simp) (by simp;omega);rw[zP,zM]at h;refine⟨H',?_⟩;simp only[go_sem,Zvu g b (by omega),NO,w,h,F1,xA,hb,if_true,List.append_assoc,List.singleton_append]
  |false =>
   obtain⟨H',h⟩:=z (done++[b]) g (by rw[j];simp) (by simp;omega);rw[zP,zM]at h;refine⟨H',?_⟩;simp only[go_sem,NO,w,h,F1,xA,hb,zE,if_false]
theorem ZsX (s:List UInt8)(g:s.length<=1048576)(H:Hp):Ze Pc [.str s] H=some (.str (F1 s),H):=by
 obtain⟨H',h⟩:=ZsY s g [] s [] [] rfl (yD _);rw[zC,show ((0:Nat):Int)=0 from rfl,zB]at h;refine XQ (a':=.str s) (H1:=H') rfl ?_ rfl;rw[ZeK];unfold Ij;simp only[go_sem,zC,zB,h]
theorem Pj (s:List UInt8):(F1 s).length<=s.length:=List.length_filter_le _ _
def Xm (s:List UInt8):List UInt8:=s.drop (YC s)
theorem OS (s:List UInt8):(Xm s).length<=s.length:=by unfold Xm;rw[zZ];omega
theorem Zo4 (b:UInt8)(s:List UInt8):Xm (b::s)=if Xo b then Xm s else b::s:=by
 unfold Xm;rw[VP];split <;> simp
theorem ZrP (s:List UInt8):Go.Lib.trimLeftS s [32,9]=Xm s:=by
 unfold Go.Lib.trimLeftS
 induction s with
 |nil=>rfl
 |cons b s g =>
  rw[Zo4,List.dropWhile_cons]
  have:([32,9]:List UInt8).contains b=Xo b:=by
   rw[yU,yU,Xo];simp
  rw[this,g]
theorem ZuT (s:List UInt8)(H:Hp):Ze BB [.str s] H=some (.str (Xm s),H):=by
 refine XQ (a':=.str s) (H1:=[]) rfl ?_ rfl;rw[On];unfold MO
 have:ZeA [.str s,.str [32,9]]=some (.str (Xm s)):=by
  unfold ZeA;dsimp only;rw[if_pos ⟨by decide,by decide⟩,ZrP]
 simp only[go_sem,I1,this]
theorem ZA9 (L:Loc)(s:List UInt8):(upS L s).length=s.length:=by simp[upS,Vb]
theorem Ztm {l:List AV}{L:Loc}(h:LocCells l L)(hok:LocOk L)(s:List UInt8)(z:s.length<=1048576)(H:Hp):Ze BC [.str s,.vp l] H=some (.str (upS L s),H):=by
 obtain⟨B,j,x,c,e,rfl,hx,u,w⟩:=h.close [] 0 5;have g:Zb [] 0 9 (.vp l)=some (.vp (L.cells x c e)):=by rw[XO,j]
 refine F2 (a':=.str s) rfl g (H1:=[]) ?_ rfl;rw[Oo];unfold MP;have A:=ZrS (L:=L) ⟨x,c,e,rfl,hx,u,w⟩ hok s z [];simp only[go_sem,Xl 6 (L.cells x c e) rfl,A.1]
def Q7 (L:Loc)(n:Nat)(s:List UInt8):List UInt8 :=
 let s1:=if n.testBit 3 then Xm s else s
 let s2:=if n.testBit 4 then F1 s1 else s1
 if n.testBit 2 then upS L s2 else s2
theorem ZkB (L:Loc)(n:Nat)(s:List UInt8):(Q7 L n s).length<=s.length:=by
 have g:=OS s;have j:=Pj s;have u:=Pj (Xm s);simp only[Q7];split <;> split <;> split <;> (try rw[ZA9]) <;> omega
theorem Zgu:∀ a b:List Int,VO a b=-1\/VO a b=0\/VO a b=1:=by
 intro a
 induction a with
 |nil=>intro b;cases b <;> simp[VO]
 |cons x a g =>
  intro b
  cases b with
  |nil=>simp[VO]
  |cons y b =>
   rw[QV];split
   ·simp
   ·split
    ·simp
    ·exact g b
theorem ZvL (a b:List UInt8):Ja a b=-1\/Ja a b=0\/Ja a b=1:=by rw[<-ZlT];exact Zgu _ _
theorem ZlU (L:Loc)(a b:List UInt8):BH L a b=-1\/BH L a b=0\/BH L a b=1:=by
 unfold BH;split
 ·exact Zgu _ _
 ·exact ZvL _ _
theorem Zng (a b:Int):AQ a b=-1\/AQ a b=0\/AQ a b=1:=by
 unfold AQ;split
 ·simp
 ·split <;> simp
def NG (L:Loc)(n:Nat)(x y:List UInt8):Int:=if n.testBit 0 then AQ (Zrv x) (Zrv y) else BH L (Q7 L n x) (Q7 L n y)
def Q5 (L:Loc)(n:Nat)(x y:List UInt8):Int:=if n.testBit 1 then -NG L n x y else NG L n x y
theorem Znt {c t:Int}(g:c=-1\/c=0\/c=1)(j:t=1\/t=-1):xH.wrap (t*c)=if t=-1 then -c else c:=by
 rcases j with rfl|rfl <;> rcases g with rfl|rfl|rfl <;> decide
section
variable {n:Nat}(hn:n<32)
include hn
theorem Zzo:Z5 .and (.int .i64 n) (.int .i64 1)=some (.int .i64 (if n.testBit 0 then 1 else 0)):=ZcZ (j:=0) hn (by decide)
theorem Zvh:Z5 .and (.int .i64 n) (.int .i64 2)=some (.int .i64 (if n.testBit 1 then 2 else 0)):=ZcZ (j:=1) hn (by decide)
theorem ZAE:Z5 .and (.int .i64 n) (.int .i64 4)=some (.int .i64 (if n.testBit 2 then 4 else 0)):=ZcZ (j:=2) hn (by decide)
theorem ZAF:Z5 .and (.int .i64 n) (.int .i64 8)=some (.int .i64 (if n.testBit 3 then 8 else 0)):=ZcZ (j:=3) hn (by decide)
theorem ZAh:Z5 .and (.int .i64 n) (.int .i64 16)=some (.int .i64 (if n.testBit 4 then 16 else 0)):=ZcZ (j:=4) hn (by decide)
end
theorem ZAm {f:List AV->Hp->Z4}{a a' b b' c c' v:AV}{H H1:Hp}(ha:Zb [] 0 9 a=some a')(hb:Zb [] 0 9 b=some b')(j:Zb [] 0 9 c=some c')(g:f [a',b',c'] []=some (v,H1))(u:Gn 3 v=true):Ze f [a,b,c] H=some (v,H) :=
 Vt (args':=[a',b',c']) (by simp[ha,hb,j]) g u
theorem Za4 {f:List AV->Hp->Z4}{a a' b b' c c' d d' v:AV}{H H1:Hp}(ha:Zb [] 0 9 a=some a')(hb:Zb [] 0 9 b=some b')(j:Zb [] 0 9 c=some c')(u:Zb [] 0 9 d=some d')(g:f [a',b',c',d'] []=some (v,H1))(w:Gn 3 v=true):Ze f [a,b,c,d] H=some (v,H) :=
 Vt (args':=[a',b',c',d']) (by simp[ha,hb,j,u]) g w
theorem Zgm (L:Loc)(x c e:AV)(r:List AObj):Z3 true 6 (.ptr 0 0) (zA (L.cells x c e)::r)=some (.agg (L.cells x c e)):=by simp[Z3,Go.Am.apart,Loc.cells]
theorem ZyO {c:Int}(g:c=-1\/c=0\/c=1):xH.wrap (0-c)=-c:=by rcases g with rfl|rfl|rfl <;> decide
def G5 (z:AObj)(n:Nat)(x y:List UInt8):Hp:=[z,.cells [.int .i64 n],.cells [.str x],.cells [.str y]]
theorem Ar {z:AObj}{n:Nat}{x y:List UInt8}{fnv:AV}{g:List UInt8->List UInt8}{m:Int}{j:Bool}(u:Z5 .and (.int .i64 n) (.int .i64 m)=some (.int .i64 (if j then m else 0)))(B:(m != 0)=true)
 (w:∀ s:List UInt8,(s=x\/s=y)->∀ H,Xu cfg (Z9 cfg) fnv [.str s] H=some (.str (g s),H)) :
 BA [.int .i64 m,fnv,.ptr 1 0,.ptr 2 0,.ptr 3 0] (G5 z n x y)=some (.tuple [],G5 z n (if j then g x else x) (if j then g y else y)):=by
 have A:Z3 false 1 (.ptr 1 0) (G5 z n x y)=some (.int .i64 n):=Y2 (l:=[.int .i64 n]) rfl;have C:Z3 false 1 (.ptr 2 0) (G5 z n x y)=some (.str x):=Y2 (l:=[.str x]) rfl;have D:Z3 false 1 (.ptr 3 0) (G5 z n x y)=some (.str y):=Y2 (l:=[.str y]) rfl;have E:Zf 1 (.ptr 2 0) (.str (g x)) (G5 z n x y)=some (.tuple [],G5 z n (g x) y):=by simp[Zf,YM,G5,zU,zO,splice]
 have F:Zf 1 (.ptr 3 0) (.str (g y)) (G5 z n (g x) y)=some (.tuple [],G5 z n (g x) (g y)):=by simp[Zf,YM,G5,zU,zO,splice]
 rw[Om];unfold MN
 cases j with
 |true=>simp only[go_sem,A,u,if_true,B,C,w x (.inl rfl),D,w y (.inr rfl),E,F]
 |false=>simp only[go_sem,A,u,zE,if_false,bne_self_eq_false]
theorem Ziq {a:AV}{L:Loc}(h:LocAV a L)(hok:LocOk L){n:Nat}(hn:n<32)(s t:List UInt8)(I:s.length<=1048576)(ht:t.length<=1048576)(H:Hp):Ze US [a,.int .i64 n,.str s,.str t] H=some (.int .i64 (Q5 L n s t),H):=by
 obtain⟨a1,W,S⟩:=h.close [] 0 5;have C:=S;obtain⟨x,c,e,rfl,hx,X,Y⟩:=S;have E:LocCells (L.cells x c e) L:=⟨x,c,e,rfl,hx,X,Y⟩
 suffices I:∃ H1,US [.agg (L.cells x c e),.int .i64 n,.str s,.str t] []=some (.int .i64 (Q5 L n s t),H1) by
  obtain⟨H1,w⟩:=I;exact Za4 W (b':=.int .i64 n) (c':=.str s) (d':=.str t) rfl rfl rfl w rfl
 have B:∀ z x y,Z3 false 1 (.ptr 1 0) (G5 z n x y)=some (.int .i64 n):=fun z x y=>Y2 (l:=[.int .i64 n]) rfl;have T:∀ z x y,Z3 false 1 (.ptr 2 0) (G5 z n x y)=some (.str x):=fun z x y=>Y2 (l:=[.str x]) rfl;have U:∀ z x y,Z3 false 1 (.ptr 3 0) (G5 z n x y)=some (.str y):=fun z x y=>Y2 (l:=[.str y]) rfl
 have D:∀ (z:Int) (j:z=1\/z=-1),∃ H1,Fu (.ptr 0 0) (.ptr 1 0) (.ptr 2 0) (.ptr 3 0) (.int .i64 z) [] (G5 (.cells (L.cells x c e)) n s t)=some (.int .i64 (if z=-1 then -BH L (Q7 L n s) (Q7 L n t) else BH L (Q7 L n s) (Q7 L n t)),H1):=fun z j=>by
  have Q:=Ar (z:=.cells (L.cells x c e)) (n:=n) (x:=s) (y:=t) (fnv:=.fn (.func 115) [] []) (g:=Xm) (m:=8) (ZAF hn) rfl (fun r _ H=>by rw[ZeM];exact ZuT r H);have d1:=OS s;have d2:=OS t
  have R:=Ar (z:=.cells (L.cells x c e)) (n:=n) (x:=if n.testBit 3 then Xm s else s) (y:=if n.testBit 3 then Xm t else t) (fnv:=.fn (.func 117) [] []) (g:=F1) (m:=16) (ZAh hn) rfl (fun r w H=>by
   rw[Zj9];refine ZsX r ?_ H;rcases w with rfl|rfl <;> split <;> omega)
  have V:=Ar (z:=.dead) (n:=n) (x:=if n.testBit 4 then F1 (if n.testBit 3 then Xm s else s) else (if n.testBit 3 then Xm s else s)) (y:=if n.testBit 4 then F1 (if n.testBit 3 then Xm t else t) else (if n.testBit 3 then Xm t else t)) (fnv:=.fn (.func 118) [] [.vp (L.cells x c e)]) (g:=upS L) (m:=4) (ZAE hn) rfl (fun r w H=>by
   rw[ZeN];refine Ztm E hok r ?_ H;have:=Pj s;have:=Pj t;have:=Pj (Xm s);have:=Pj (Xm t);rcases w with rfl|rfl <;> split <;> split <;> omega)
  have Z:=ZkB L n s;have aa:=ZkB L n t;have F:∀ (K M:List UInt8) (k:AV->Hp->Z4),XG (.ptr 0 0) (G5 (.cells (L.cells x c e)) n K M) k=k (.vp (L.cells x c e)) (G5 .dead n K M):=fun K M k=>rfl;refine⟨G5 .dead n (Q7 L n s) (Q7 L n t),?_⟩;rw[Zc3];simp only[go_sem,ZeT,zB,zG,Q,R,F,V,Xl 6 (L.cells x c e) rfl,T,U];have J:∀ r,(if n.testBit 2=true then upS L (if n.testBit 4=true then F1 (if n.testBit 3=true then Xm r else r) else if n.testBit 3=true then Xm r else r) else if n.testBit 4=true then F1 (if n.testBit 3=true then Xm r else r) else if n.testBit 3=true then Xm r else r)=Q7 L n r:=fun r=>rfl;simp only[J,Zki C hok (Q7 L n s) (Q7 L n t) (by omega) (by omega),go_sem,Znt (ZlU _ _ _) j]
 have u:∀ (z:Int) (j:z=1\/z=-1),∃ H1,JI (.ptr 0 0) (.ptr 1 0) (.ptr 2 0) (.ptr 3 0) (.int .i64 z) [] (G5 (.cells (L.cells x c e)) n s t)=some (.int .i64 (if z=-1 then -NG L n s t else NG L n s t),H1):=fun z j=>by
  rw[Zc2];unfold NG
  cases hb:n.testBit 0 with
  |true =>
   obtain⟨Q,p1⟩:=ZmW s I (G5 (.cells (L.cells x c e)) n s t);obtain⟨R,p2⟩:=ZmW t ht (G5 (.cells (L.cells x c e)) n s t);refine⟨G5 (.cells (L.cells x c e)) n s t,?_⟩;simp only[go_sem,B,Zzo hn,hb,if_true,show ((1:Int) != 0)=true from rfl,T,U,p1,p2,ZAe,ZAf,Zuz,Znt (Zng _ _) j]
  |false =>
   obtain⟨H1,q⟩:=D z j;refine⟨H1,?_⟩;simp only[go_sem,B,Zzo hn,hb,zE,if_false,bne_self_eq_false];exact q
 have N:∀ (k:Int) (H:Hp),ZO (.int .i64 k) H=some (.ptr H.length 0,H++[.cells [.int .i64 k]]):=fun k H=>FS rfl;have O:∀ (k:List UInt8) (H:Hp),ZO (.str k) H=some (.ptr H.length 0,H++[.cells [.str k]]):=fun k H=>FS rfl;rw[Zcu];unfold CC;have A:[zA (L.cells x c e),.cells [.int .i64 n],.cells [.str s],.cells [.str t]]=G5 (.cells (L.cells x c e)) n s t:=rfl;unfold Q5
 cases hb:n.testBit 1 with
 |true =>
  obtain⟨H1,q⟩:=u (-1) (.inr rfl);refine⟨H1,?_⟩;simp only[go_sem,N,O,zC,zF,zB,zG,zK,yA,A,B,Zvh hn,hb,if_true,show ((2:Int) != 0)=true from rfl];simpa using q
 |false =>
  obtain⟨H1,q⟩:=u 1 (.inl rfl);refine⟨H1,?_⟩;simp only[go_sem,N,O,zC,zF,zB,zG,zK,yA,A,B,Zvh hn,hb,zE,if_false,bne_self_eq_false];simpa using q
def plainP:Spec:=⟨[],-1,0,false,false⟩
def Zy (p:Spec):Spec:=if (ZI p != 0)=true then plainP else p
theorem Sl.known {k:Nat}{x:AV}{l:List AV}(h:Sl k x l):x.known=true:=by
 rcases h with ⟨rfl,_⟩|⟨tok,rfl⟩ <;> rfl
theorem ZiR {a:AV}{p:Spec}(h:SpecAV a p)(H:Hp):∃ a',Ze Vg [a] H=some (a',H)/\SpecAV a' (Zy p):=by
 obtain⟨F,C,D⟩:=h.close [] 0 5;have z:=fun H=>Gl D H;obtain⟨x,rfl,hx⟩:=D;have E:Z3 true 5 (.ptr 0 0) [zA (p.cells x),.cells [.nils,.int .i64 0,.int .i64 0,.bool false,.bool false]]=some (.agg (p.cells x)):=by simp[Z3,Go.Am.apart,Spec.cells]
 unfold Zy
 cases hb:(ZI p != 0) with
 |true =>
  have j:(X5 [(1,1,(.int .i64 (-1)))] [.nils,(.int .i64 0),(.int .i64 0),(.bool false),(.bool false)]).map AV.agg=some (.agg (plainP.cells .nils)):=rfl;have w:Zf 5 (.ptr 1 0) (.agg (plainP.cells .nils)) [zA (p.cells x),.cells [.nils,.int .i64 0,.int .i64 0,.bool false,.bool false]]=some (.tuple [],[zA (p.cells x),.cells (plainP.cells .nils)]):=by simp[Zf,YM,zU,zO,Spec.cells,splice]
  have u:Z3 true 5 (.ptr 1 0) [zA (p.cells x),.cells (plainP.cells .nils)]=some (.agg (plainP.cells .nils)):=by simp[Z3,Go.Am.apart,Spec.cells]
  have g:Vg [.agg (p.cells x)] []=some (.agg (plainP.cells .nils),[zA (p.cells x),.cells (plainP.cells .nils)]):=by
   rw[Nh];unfold Rk;simp only[go_sem,zB,zC,zF,zG,zK,E,z,hb,j,w,u]
  obtain⟨a',A,B⟩:=SpecAV.close (a:=.agg (plainP.cells .nils)) (p:=plainP) ⟨.nils,rfl,.inl ⟨rfl,rfl⟩⟩ [zA (p.cells x),.cells (plainP.cells .nils)] 0 5;exact⟨a',Pt C g A,by simpa using B⟩
 |false =>
  have w:Zf 5 (.ptr 1 0) (.agg (p.cells x)) [zA (p.cells x),.cells [.nils,.int .i64 0,.int .i64 0,.bool false,.bool false]]=some (.tuple [],[zA (p.cells x),.cells (p.cells x)]):=by simp[Zf,YM,zU,zO,Spec.cells,splice]
  have u:Z3 true 5 (.ptr 1 0) [zA (p.cells x),.cells (p.cells x)]=some (.agg (p.cells x)):=by simp[Z3,Go.Am.apart,Spec.cells]
  have g:Vg [.agg (p.cells x)] []=some (.agg (p.cells x),[zA (p.cells x),.cells (p.cells x)]):=by
   rw[Nh];unfold Rk;simp only[go_sem,zB,zC,zF,zG,zK,E,z,hb,Zc4,w,u]
  obtain⟨a',A,B⟩:=SpecAV.close (a:=.agg (p.cells x)) (p:=p) ⟨x,rfl,hx⟩ [zA (p.cells x),.cells (p.cells x)] 0 5;exact⟨a',Pt C g A,by simpa using B⟩
theorem ZkM (p:Spec):(0<=(Zy p).flags/\(Zy p).flags<=31)/\(Zy p).keys.length<=8/\∀ k∈(Zy p).keys,0<=k.fl/\k.fl<=31:=by
 unfold Zy
 cases hb:(ZI p != 0) with
 |true=>simp[plainP]
 |false =>
  rw[bne_eq_false_iff_eq]at hb;unfold ZI at hb;split at hb
  ·cases hb
  ·split at hb
   ·cases hb
   ·split at hb
    ·cases hb
    ·rename_i w g j;simp only[yI,decide_eq_true_eq,not_or]at g;simp only[zE,if_false];refine⟨by omega,by omega,fun k hk=>?_⟩;have u:¬ JR k=true:=fun h=>j (List.any_eq_true.2 ⟨k,hk,h⟩);simp only[JR,yI,decide_eq_true_eq,not_or]at u;omega
theorem ZfG (p:Spec)(h:∀ k∈p.keys,KeOk k):∀ k∈(Zy p).keys,KeOk k:=by
 unfold Zy;split
 ·intro k hk;cases hk
 ·exact h
theorem Zt4 (g:List UInt8)(fs:List (Nat×Nat))(k:Ke):(ex g fs k).length<=g.length:=by
 unfold ex;split
 ·dsimp only;split
  ·simp
  ·rw[zZ,yF];omega
 ·simp
def EW (p:Spec)(k:Ke):Nat:=if (k.fl==0)=true then p.flags.toNat else k.fl.toNat
def OI (L:Loc)(p:Spec)(a b:List UInt8):List Ke->Int
 |[]=>0
 |k::l=>if (Q5 L (EW p k) (ex a (fields a p.sep) k) (ex b (fields b p.sep) k) != 0)=true then Q5 L (EW p k) (ex a (fields a p.sep) k) (ex b (fields b p.sep) k) else OI L p a b l
theorem ZjZ (L:Loc)(p:Spec)(a b:List UInt8)(k:Ke)(l:List Ke):OI L p a b (k::l)=if (Q5 L (EW p k) (ex a (fields a p.sep) k) (ex b (fields b p.sep) k) != 0)=true then Q5 L (EW p k) (ex a (fields a p.sep) k) (ex b (fields b p.sep) k) else OI L p a b l:=(Eq.refl _).trans (Eq.refl _)
def Zid (L:Loc)(p:Spec)(a b:List UInt8):Int:=if (p.keys.length==0)=true then Q5 L p.flags.toNat a b else OI L p a b p.keys
def XR (L:Loc)(p:Spec)(a b:List UInt8):Int:=Zid L (Zy p) a b
def CSt (lc sc:List AV)(x4 x5:AV)(H:Hp):Prop:=(x4=.vp lc/\x5=.vp sc)\/(x4=.ptr 0 0/\x5=.ptr 1 0/\H=[.cells lc,.cells sc])
theorem CSt.frz {lc sc:List AV}{x4 x5:AV}{H:Hp}(h:CSt lc sc x4 x5 H)(w:List AV):∃ z,∀ K:AV->AV->AV->Hp->Z4,
 (XG x4 (H++[.cells w]) fun z4 A=>XG x5 A fun z5 B=>XG (.ptr H.length 0) B fun j g=>K z4 z5 j g)=K (.vp lc) (.vp sc) (.vp w) z:=by
 rcases h with ⟨rfl,rfl⟩|⟨rfl,rfl,rfl⟩
 ·refine⟨H++[.dead],fun K=>?_⟩;have u:∀ (l:List AV) (H:Hp) (k:AV->Hp->Z4),XG (.vp l) H k=k (.vp l) H:=fun l H k=>rfl;rw[u,u,Zwj]
 ·exact⟨[.dead,.dead,.dead],fun K=>rfl⟩
theorem CSt.fld {lc:List AV}{x:AV}{p:Spec}{x4 x5:AV}{H:Hp}(h:CSt lc (p.cells x) x4 x5 H) :
 (∃ y,Z7 0 x5=some y/\∀ r,Z3 false 1 y (H++r)=some x)/\(∃ y,Z7 2 x5=some y/\∀ r,Z3 false 1 y (H++r)=some (.int .i64 p.flags)):=by
 rcases h with ⟨rfl,rfl⟩|⟨rfl,rfl,rfl⟩
 ·exact⟨⟨.vp (p.cells x),rfl,fun r=>by simp only[Spec.cells,ZE]⟩,⟨.vp [.int .i64 p.flags,.bool p.uniq,.bool p.stab],rfl,fun r=>by simp only[ZE]⟩⟩
 ·exact⟨⟨.ptr 1 0,rfl,fun r=>Y2 (l:=p.cells x) rfl⟩,⟨.ptr 1 2,rfl,fun r=>Y2 (l:=p.cells x) rfl⟩⟩
theorem vpf (x:AV)(p:Spec):Z7 1 (.vp (p.cells x))=some (.vp [.int .i64 p.sep,.int .i64 p.flags,.bool p.uniq,.bool p.stab]):=rfl
theorem ZpN (L:Loc)(x c e:AV):XE true 6 (.vp (L.cells x c e))=some (.agg (L.cells x c e)):=rfl
theorem Zsm (k:Ke):XE true 5 (.vp k.cells)=some (.agg k.cells):=rfl
section
variable {L:Loc}{x c e:AV}(hav:LocAV (.agg (L.cells x c e)) L)(hok:LocOk L){p:Spec}{xk:AV}(hk:Sl 5 xk (p.keys.map Ke.av))(hlen:p.keys.length<=8)
 (hks:∀ k∈p.keys,KeOk k) (hkf:∀ k∈p.keys,0<=k.fl/\k.fl<=31) (hfl:0<=p.flags/\p.flags<=31) (a b:List UInt8) (ha:a.length<=1048576) (hb:b.length<=1048576)
include hav hok hk hlen hks hkf hfl ha hb
theorem ZvM:∀ (m i:Nat) (x4 x5:AV) (H:Hp),p.keys.length-i=m->i<=p.keys.length->CSt (L.cells x c e) (p.cells xk) x4 x5 H ->
 ∃ H',Q9 (.str a) (.str b) x4 x5 xk (.int .i64 (p.keys.length:Int)) (.int .i64 (i:Int)) [] H=some (.int .i64 (OI L p a b (p.keys.drop i)),H'):=by
 intro m
 induction m with
 |zero =>
  intro i x4 x5 H V hi B;have A:decide ((i:Int)<(p.keys.length:Int))=false:=by simp;omega
  have U:p.keys.drop i=[]:=zH.2 (by omega);refine⟨H,?_⟩;rw[FW];simp only[go_sem,A,O5,U,OI]
 |succ m X =>
  intro i x4 x5 H V hi B;have w:i<p.keys.length:=by omega
  have A:decide ((i:Int)<(p.keys.length:Int))=true:=by simp;omega
  have hw:xH.wrap ((i:Int)+1)=((i+1:Nat):Int):=by rw[Zr (by omega) (by omega)];omega
  have u:p.keys[i]∈p.keys:=List.getElem_mem w;have z:=hks _ u;have C:=hkf _ u;rw[zN w,ZjZ];have j:p.keys[i]?=some p.keys[i]:=zD w;generalize p.keys[i]=k at z C j;obtain⟨_,y,K,M⟩:=B.fld;obtain⟨O,I⟩:=B.frz k.cells;obtain⟨Q,S,_⟩:=Zdi ha z p.sep O;obtain⟨E,T,_⟩:=Zdi hb z p.sep Q;have Z:=Zt4 a (fields a p.sep) k;have l2:=Zt4 b (fields b p.sep) k;have hn:EW p k<32:=by unfold EW;split <;> omega
  have W:=Ziq hav hok hn (ex a (fields a p.sep) k) (ex b (fields b p.sep) k) (by omega) (by omega) E
  have g:∃ H',Q8 (.str a) (.str b) x4 x5 (.ptr H.length 0) (.int .i64 (EW p k:Int)) xk (.int .i64 (p.keys.length:Int)) (.int .i64 (i:Int)) [] (H++[.cells k.cells])=some (.int .i64 (if (Q5 L (EW p k) (ex a (fields a p.sep) k) (ex b (fields b p.sep) k) != 0)=true then Q5 L (EW p k) (ex a (fields a p.sep) k) (ex b (fields b p.sep) k) else OI L p a b (p.keys.drop (i+1))),H'):=by
   rw[O8,I];simp only[ZpN,CQ,vpf,ZE,ZpO,Zsm,go_sem,S,T,W]
   cases Y:(Q5 L (EW p k) (ex a (fields a p.sep) k) (ex b (fields b p.sep) k) != 0) with
   |true=>exact⟨E,by simp only[go_sem,if_true]⟩
   |false =>
    obtain⟨R,q⟩:=X (i+1) (.vp (L.cells x c e)) (.vp (p.cells xk)) E (by omega) (by omega) (.inl ⟨rfl,rfl⟩);exact⟨R,by simp only[go_sem,zE,if_false,O7,hw,q]⟩
  obtain⟨H',g⟩:=g;refine⟨H',?_⟩;have D:=Zd1 H k [.int .i64 0,.int .i64 0,.int .i64 0,.int .i64 0,.int .i64 0] rfl;have J:Z3 false 1 (.ptr H.length (0+4)) (H++[.cells k.cells])=some (.int .i64 k.fl):=ZF H k.cells 4;rw[FW];simp only[go_sem,A,O6,hk.key j,CQ,D,J]
  cases N:(k.fl==0) with
  |true =>
   have F:(p.flags:Int)=((EW p k:Nat):Int):=by unfold EW;rw[N,if_pos rfl];omega
   simp only[go_sem,K,M,F];exact g
  |false =>
   have F:(k.fl:Int)=((EW p k:Nat):Int):=by unfold EW;rw[N,if_neg (by decide)];omega
   simp only[go_sem];rw[F];exact g
end
theorem Hx {a:AV}{L:Loc}(h:LocAV a L)(hok:LocOk L){q:AV}{p:Spec}(T:SpecAV q p)(hks:∀ k∈p.keys,KeOk k)(s t:List UInt8)(E:s.length<=1048576)(Q:t.length<=1048576)(H:Hp) :
 Ze XA [a,q,.str s,.str t] H=some (.int .i64 (XR L p s t),H):=by
 obtain⟨X,S,M⟩:=h.close [] 0 5;obtain⟨q1,R,J⟩:=T.close [] 0 5;have hav:=M;have V:=fun H=>ZiR J H;obtain⟨x,c,e,rfl,hx,Y,Z⟩:=M;obtain⟨xp,rfl,W⟩:=J;obtain⟨v',C,j,rfl,D⟩:=V [zA (L.cells x c e),.cells (p.cells xp)];obtain⟨hfl,hlen,hkf⟩:=ZkM p;have z:=ZfG p hks
 suffices E:∃ H1,XA [.agg (L.cells x c e),.agg (p.cells xp),.str s,.str t] []=some (.int .i64 (XR L p s t),H1) by
  obtain⟨H1,U⟩:=E;exact Za4 S R (c':=.str s) (d':=.str t) rfl rfl U rfl
 have N:Z3 true 5 (.ptr 1 0) [zA (L.cells x c e),.cells (p.cells xp)]=some (.agg (p.cells xp)):=by simp[Z3,Go.Am.apart,Spec.cells]
 have B:Zf 5 (.ptr 1 0) (.agg ((Zy p).cells j)) [zA (L.cells x c e),.cells (p.cells xp)]=some (.tuple [],[zA (L.cells x c e),.cells ((Zy p).cells j)]):=by simp[Zf,YM,zU,zO,Spec.cells,splice]
 have w:Z3 false 1 (.ptr 1 (0+0)) [zA (L.cells x c e),.cells ((Zy p).cells j)]=some j:=Y2 (l:=(Zy p).cells j) rfl;have F:Z3 false 1 (.ptr 1 (0+2)) [zA (L.cells x c e),.cells ((Zy p).cells j)]=some (.int .i64 (Zy p).flags):=Y2 (l:=(Zy p).cells j) rfl;have u:=D.len 119;rw[zT]at u;have A:=Zgm L x c e [.cells ((Zy p).cells j)];have hn:(Zy p).flags.toNat<32:=by omega
 have I:((Zy p).flags:Int)=(((Zy p).flags.toNat:Nat):Int):=by omega
 have O:=Ziq hav hok hn s t E Q [zA (L.cells x c e),.cells ((Zy p).cells j)];rw[<-I]at O
 have g:(((Zy p).keys.length:Int)==0)=((Zy p).keys.length==0):=by
  rw[xC,beq_iff_eq,beq_iff_eq];omega
 rw[Ok];unfold ML XR Zid
 cases K:((Zy p).keys.length==0) with
 |true =>
  exact⟨[zA (L.cells x c e),.cells ((Zy p).cells j)],by simp only[go_sem,Yf,zB,zC,zF,zG,N,C,B,w,u,g,K,A,F,O,if_true,zK,yA]⟩
 |false =>
  obtain⟨H',r⟩:=ZvM hav hok D hlen z hkf hfl s t E Q _ 0 (.ptr 0 0) (.ptr 1 0) _ rfl (yK _) (.inr ⟨rfl,rfl,rfl⟩);rw[zW,show ((0:Nat):Int)=0 from rfl]at r;refine⟨H',?_⟩;simp only[go_sem,Yf,zB,zC,zF,zG,N,C,B,w,u,g,K,O4,r,zE,if_false,zK,yA]
def ZL (L:Loc)(p:Spec)(s t:List UInt8):Int :=
 if (XR L (Zy p) s t != 0 || (Zy p).stab || (Zy p).uniq)=true then XR L (Zy p) s t else if (Zy p).flags.toNat.testBit 1 then -BH L s t else BH L s t
theorem Zap {a:AV}{L:Loc}(h:LocAV a L)(hok:LocOk L){q:AV}{p:Spec}(W:SpecAV q p)(hks:∀ k∈p.keys,KeOk k)(s t:List UInt8)(E:s.length<=1048576)(S:t.length<=1048576)(H:Hp) :
 Ze Wg [a,q,.str s,.str t] H=some (.int .i64 (ZL L p s t),H):=by
 obtain⟨a1,U,R⟩:=h.close [] 0 5;obtain⟨q1,T,Q⟩:=W.close [] 0 5;have hav:=R;have Y:=fun H=>ZiR Q H;obtain⟨x,c,e,rfl,hx,hc,he⟩:=R;obtain⟨xp,rfl,Z⟩:=Q;obtain⟨v',N,g,rfl,O⟩:=Y [zA (L.cells x c e),.cells (p.cells xp)];obtain⟨hfl,hlen,hkf⟩:=ZkM p;have C:=ZfG p hks
 suffices E:∃ H1,Wg [.agg (L.cells x c e),.agg (p.cells xp),.str s,.str t] []=some (.int .i64 (ZL L p s t),H1) by
  obtain⟨H1,X⟩:=E;exact Za4 U T (c':=.str s) (d':=.str t) rfl rfl X rfl
 have V:Z3 true 5 (.ptr 1 0) [zA (L.cells x c e),.cells (p.cells xp)]=some (.agg (p.cells xp)):=by simp[Z3,Go.Am.apart,Spec.cells]
 have M:Zf 5 (.ptr 1 0) (.agg ((Zy p).cells g)) [zA (L.cells x c e),.cells (p.cells xp)]=some (.tuple [],[zA (L.cells x c e),.cells ((Zy p).cells g)]):=by simp[Zf,YM,zU,zO,Spec.cells,splice]
 have K:Z3 true 5 (.ptr 1 0) [zA (L.cells x c e),.cells ((Zy p).cells g)]=some (.agg ((Zy p).cells g)):=by simp[Z3,Go.Am.apart,Spec.cells]
 have z:Z3 false 1 (.ptr 1 (0+2)) [zA (L.cells x c e),.cells ((Zy p).cells g)]=some (.int .i64 (Zy p).flags):=Y2 (l:=(Zy p).cells g) rfl;have B:Z3 false 1 (.ptr 1 (0+3)) [zA (L.cells x c e),.cells ((Zy p).cells g)]=some (.bool (Zy p).uniq):=Y2 (l:=(Zy p).cells g) rfl;have I:Z3 false 1 (.ptr 1 (0+4)) [zA (L.cells x c e),.cells ((Zy p).cells g)]=some (.bool (Zy p).stab):=Y2 (l:=(Zy p).cells g) rfl;have u:=Zgm L x c e [.cells ((Zy p).cells g)];have hn:(Zy p).flags.toNat<32:=by omega
 have J:((Zy p).flags:Int)=(((Zy p).flags.toNat:Nat):Int):=by omega
 have A:=Hx hav hok (q:=.agg ((Zy p).cells g)) ⟨g,rfl,O⟩ C s t E S [zA (L.cells x c e),.cells ((Zy p).cells g)];have w:=Zki hav hok s t E S [zA (L.cells x c e),.cells ((Zy p).cells g)];have D:=ZyO (ZlU L s t);have j:=Zvh hn
 have F:Fm (.str s) (.str t) (.ptr 0 0) (.ptr 1 0) [] [zA (L.cells x c e),.cells ((Zy p).cells g)]=some (.int .i64 (if (Zy p).flags.toNat.testBit 1 then -BH L s t else BH L s t),[zA (L.cells x c e),.cells ((Zy p).cells g)]):=by
  rw[ZbP];rw[J]at z
  cases hb:(Zy p).flags.toNat.testBit 1 with
  |true =>
   rw[hb]at j;simp only[go_sem,u,w,z,j,ZoS,D,if_true,show ((2:Int) != 0)=true from rfl]
  |false =>
   rw[hb]at j;simp only[go_sem,u,w,z,j,ZbQ,zE,if_false,bne_self_eq_false]
 refine⟨[zA (L.cells x c e),.cells ((Zy p).cells g)],?_⟩;rw[Zcr];unfold Cz ZL;simp only[go_sem,Yf,zB,zC,zF,zG,V,N,M,u,K,A,zK,yA]
 cases h0:(XR L (Zy p) s t != 0) with
 |true=>simp only[go_sem,yB,if_true]
 |false =>
  simp only[go_sem,I,B]
  cases h4:(Zy p).stab with
  |true=>simp only[go_sem,yB,yH,if_true]
  |false =>
   simp only[go_sem,B]
   cases h3:(Zy p).uniq with
   |true=>simp only[go_sem,yB,yH,if_true]
   |false=>simp only[go_sem,F,yR,zE,if_false]
end Go.Am
