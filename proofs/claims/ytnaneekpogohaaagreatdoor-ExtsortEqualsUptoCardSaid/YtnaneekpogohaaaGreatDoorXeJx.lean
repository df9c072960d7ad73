/- The default locale -/
import Derived.Test.YtnaneekpogohaaaGreatDoorXeEx
import Derived.Test.YtnaneekpogohaaaGreatDoorHmYbx
open Go.IntKind renaming i64->xH
open List renaming nil_append->zB,length_nil->zC,getElem?_eq_getElem->zD,length_cons->zF,cons_append->zG,drop_eq_nil_iff->zH,getElem?_cons_zero->zI,mem_map->zL,length_singleton->zM,drop_eq_getElem_cons->zN,length_append->zP,getElem?_append_right->zQ,append_nil->zR,getElem?_cons_succ->zS,length_map->zT,drop_zero->zW,getElem?_set_ne->zY,length_drop->zZ,getD_eq_getElem?_getD->yC,getElem?_append_left->yE,length_take->yF,length_eq_zero_iff->yG,replicate->yN,range->yO,mapM_nil->yP,map_cons->yQ,set_cons_zero->yT,contains_cons->yU,take_add_one->yW,take_append->yZ,filter_cons->xA,map_append->xB,mapM_cons->xD,drop_take->xF,map_nil->xG
open Nat renaming zero_add->zK,reduceAdd->yA,le_refl->yD,zero_le->yK,add_zero->yV
open Bool renaming false_eq_true->zE,true_or->yB,or_true->yH,or_eq_true->yI,or_false->yR,and_eq_true->yY,eq_iff_iff->xC,false_and->xE
open Prod renaming fst->yS
open UInt8 renaming ofNat->zV,lt_iff_toNat_lt->yL,ofNat_toNat->yX
open Go.Am.AObj renaming cells->zA,row->zX,bld->yJ,dead->yM
open Go.Am.AV renaming int->zJ,cells->zO,known->zU
namespace Go.Am
set_option maxRecDepth 100000
def defL:Loc:={
 name:=[112,111,115,105,120]
 w:=(yO 256).map Int.ofNat
 lo:=(yO 256).map fun n=>zV (if 65<=n/\n<=90 then n+32 else n)
 up:=(yO 256).map fun n=>zV (if 97<=n/\n<=122 then n-32 else n)
 cls:=[]
 els:=[] }
def ZcI:List AV->Option (List Int)
 |[]=>some []
 |.int .i64 n::r=>match ZcI r with
  |some l=>some (n::l)
  |none=>none
 |_=>none
theorem ZnA:∀ {l:List AV} {r:List Int},ZcI l=some r->l=r.map (zJ .i64):=by
 intro l
 induction l with
 |nil=>intro r h;simp[ZcI]at h;subst h;rfl
 |cons a l z =>
  intro r h;unfold ZcI at h;split at h
  ·rename_i g;cases g
  ·rename_i n A g;injection g with j u;subst j u;split at h
   ·rename_i m w;injection h with h;subst h;rw[z w];rfl
   ·cases h
  ·cases h
def Zkw (L:Loc)(r:Z3):Bool :=
 match r with
 |some (v,H1)=>match Zb H1 0 9 v with
  |some (.agg [.str n,.vs 1 .no l,.str lo,.str up,.nils,.nils])=>n==L.name&&(ZcI l==some L.w&&(lo==L.lo&&(up==L.up&&(L.cls.isEmpty&&L.els.isEmpty))))
  |_=>false
 |none=>false
theorem Zhb {f:List AV->Hp->Z3}{L:Loc}{x:Z3}(hx:Zkw L x=true)(D:∀ r,x=some r->f [] []=some r)(H:Hp):∃ a,Zf f [] H=some (a,H)/\LocAV a L:=by
 unfold Zkw at hx;split at hx
 ·rename_i v H1;split at hx
  ·rename_i n l lo up g;simp only[yY,beq_iff_eq,List.isEmpty_iff]at hx;obtain⟨j,u,w,z,A,B⟩:=hx;have C:=D _ rfl;refine⟨.agg [.str n,.vs 1 .no l,.str lo,.str up,.nils,.nils],?_,.vs 1 .no l,.nils,.nils,?_,.inr ⟨.no,?_⟩,.inl ⟨rfl,by rw[A];rfl⟩,.inl ⟨rfl,by rw[B];rfl⟩⟩
   ·unfold Zf;simp only[yP];show (match f [] [] with|some (v,H1)=>_|none=>_)=_;rw[C];simp only[g]
   ·rw[j,w,z];rfl
   ·rw[ZnA u]
  ·cases hx
 ·cases hx
theorem Zng:Zkw defL (C6 k0 cfg 1000 60 144 [] [])=true:=by kernel_rfl
theorem Zmd:Zkw defL (C6 k0 cfg 1000 60 14 [] [])=true:=by kernel_rfl
theorem Zle (H:Hp):∃ a,Zf Lo [] H=some (a,H)/\LocAV a defL:=Zhb Zng (fun r h=>LV Zqo 1000 60 144 [] [] r h) H
theorem NT (H:Hp):∃ a,Zf Dx [] H=some (a,H)/\LocAV a defL:=Zhb Zmd (fun r h=>LV Zqo 1000 60 14 [] [] r h) H
theorem ZgA:∀ (n:Nat) (l:List AV),l.length=n->U7 false 1 n l=l:=by
 intro n
 induction n with
 |zero=>intro l h;simp at h;subst h;rfl
 |succ n g =>
  intro l h
  cases l with
  |nil=>simp at h
  |cons a l =>
   have:l.length=n:=by simpa using h
   unfold U7;simp[g l this]
theorem ZvX (l:List Int):((l.map (zJ .i64)).map zO).flatten=l.map (zJ .i64):=by
 induction l with
 |nil=>rfl
 |cons a l g=>simp[zO]at g ⊢;exact g
theorem ZuR (bytes:Nat)(hb:256*(bytes+1)<=140737488355328)(z:AV)(u:z.known=true)(g:z.cells.length=1)(H:Hp):Ra 1 bytes false z (.int .i64 256) (.int .i64 256) H=some (.rs false 1 H.length 0 256 256,H++[.cells ((yN 256 z.cells).flatten)]):=by
 have j:YR 256 bytes=true:=by simpa[YR]using hb
 unfold Ra;simp only;rw[if_pos ⟨by decide,by decide,u,g,by decide,j⟩,if_neg (by decide)];rfl
theorem ZvG {k:Nat}{x:AV}{l:List AV}(h:Sl k x l)(H:Hp):elems k x H=some l:=by
 rcases h with ⟨rfl,rfl⟩|⟨tok,rfl⟩
 ·rfl
 ·simp[elems]
theorem ZrL {x:AV}{l:List Int}(h:Sl 1 x (l.map (zJ .i64))){H:Hp}{o n:Nat}{z:List AV}(j:H[o]?=some (.cells z))(u:z.length=n)(g:l.length=n)(hn:0<n) :
 C1 1 (.rs false 1 o 0 n n) x H=some (.int .i64 n,H.set o (.cells (l.map (zJ .i64)))):=by
 unfold C1;simp only[ZvG h H];rw[if_neg (by intro e;have:=congrArg List.length e;simp at this;simp[this]at g;omega),if_pos (by simp;omega)];simp only[j];rw[if_pos (by simp;omega)];simp only[zT,g,splice,List.take_zero,zB,ZvX];rw[zH.2 (by simp;omega)];simp
theorem Zsi (H:Hp)(n f:Nat)(ag:Bool)(k o off len cap:Nat):Zb H n (f+1) (.rs ag k o off len cap)=if o<n then some (.rs ag k o off len cap) else
 match elems k (.rs ag k o off len cap) H with
 |some l=>match l.mapM (Zb H n f) with
  |some l=>some (.vs k .no l)
  |none=>none
 |none=>none:=(Eq.refl _).trans (Eq.refl _)
def Yi (L:Loc):Loc:=if (XY L != 0)=true then defL else L
theorem TS {f:List AV->Hp->Z3}{a a' v v':AV}{H H1:Hp}(ha:Zb [] 0 9 a=some a')(g:f [a'] []=some (v,H1))(j:Zb H1 0 9 v=some v'):Zf f [a] H=some (v',H):=by
 unfold Zf;simp[ha,g,j]
theorem checked {L:Loc}(h:(XY L != 0)=false):L.w.length=256/\L.lo.length=256/\L.up.length=256:=by
 simp only[XY,bne_eq_false_iff_eq]at h;split at h
 ·split at h
  ·cases h
  ·rename_i g;simp only[yI,bne_iff_ne,ne_eq,not_or,Decidable.not_not]at g;exact g
 ·cases h
theorem CA {H1:Hp}{x c e g:AV}{L:Loc}(hx:Zb H1 0 8 x=some g)(C:Sl 1 g (L.w.map (zJ .i64)))(D:Sl 5 c (L.cls.map Qm))(E:Sl 2 e (L.els.map Bz)) :
 ∃ a',Zb H1 0 9 (.agg (L.cells x c e))=some a'/\LocAV a' L:=by
 obtain⟨c',u,z⟩:=D.close (H:=H1) (n:=0) (f:=7) (fun y hy=>by obtain⟨m,_,rfl⟩:=zL.1 hy;exact C8 m H1 0 5);obtain⟨j,A,B⟩:=E.close (H:=H1) (n:=0) (f:=7) (fun y hy=>by obtain⟨m,_,rfl⟩:=zL.1 hy;exact O6 m H1 0 5);refine⟨.agg (L.cells g c' j),?_,g,c',j,rfl,C,z,B⟩
 have:(L.cells x c e).mapM (Zb H1 0 8)=some (L.cells g c' j):=by
  simp only[Loc.cells,xD,hx,u,A,yP];rfl
 rw[JU,this]
theorem ZhR {a:AV}{L:Loc}(h:LocAV a L)(hok:LocOk L)(H:Hp):∃ a',Zf VU [a] H=some (a',H)/\LocAV a' (Yi L):=by
 obtain⟨a1,h1,h2⟩:=h.close [] 0 5;have C:=fun H=>(Zjp h2 hok H).1;obtain⟨x,c,e,rfl,hx,hc,he⟩:=h2;obtain⟨d,J,K⟩:=Zle [zA (L.cells x c e),.cells [(.str []),.nils,(.str []),(.str []),.nils,.nils]];unfold Yi
 cases hb:(XY L != 0) with
 |true =>
  obtain⟨A,j,u,rfl,O,M,N⟩:=K
  have g:VU [.agg (L.cells x c e)] []=some (.agg (defL.cells A j u),[zA (L.cells x c e),.cells (defL.cells A j u)]):=by
   rw[M5];unfold TF;have R:Z4 true 6 (.ptr 0 0) [zA (L.cells x c e),.cells [(.str []),.nils,(.str []),(.str []),.nils,.nils]]=some (.agg (L.cells x c e)):=by simp[Z4,Go.Am.apart,Loc.cells]
   have Z:Ze 6 (.ptr 1 0) (.agg (defL.cells A j u)) [zA (L.cells x c e),.cells [(.str []),.nils,(.str []),(.str []),.nils,.nils]]=some (.tuple [],[zA (L.cells x c e),.cells (defL.cells A j u)]):=by simp[Ze,YN,zU,zO,Loc.cells,splice]
   have T:Z4 true 6 (.ptr 1 0) [zA (L.cells x c e),.cells (defL.cells A j u)]=some (.agg (defL.cells A j u)):=by simp[Z4,Go.Am.apart,Loc.cells]
   simp only[go_sem,zB,zC,zF,zG,zK,R,C,hb,J,Z,T]
  obtain⟨aa,E,F⟩:=O.close (H:=[zA (L.cells x c e),.cells (defL.cells A j u)]) (n:=0) (f:=7) (fun y hy=>by obtain⟨m,_,rfl⟩:=zL.1 hy;rfl);obtain⟨a',q1,q2⟩:=CA E F M N;exact⟨a',TS h1 g q1,by simpa using q2⟩
 |false =>
  obtain⟨hw,ab,ac⟩:=checked hb
  have g:VU [.agg (L.cells x c e)] []=some (.agg (L.cells (.rs false 1 2 0 256 256) c e),[zA (L.cells (.rs false 1 2 0 256 256) c e),.cells (L.cells (.rs false 1 2 0 256 256) c e),.cells (L.w.map (zJ .i64))]):=by
   rw[M5];unfold TF;have R:Z4 true 6 (.ptr 0 0) [zA (L.cells x c e),.cells [(.str []),.nils,(.str []),(.str []),.nils,.nils]]=some (.agg (L.cells x c e)):=by simp[Z4,Go.Am.apart,Loc.cells]
   have B:=ZuR 8 (by decide) (.int .i64 0) rfl rfl [zA (L.cells x c e),.cells [(.str []),.nils,(.str []),(.str []),.nils,.nils]];have I:((yN 256 (zJ .i64 0).cells).flatten).length=256:=by simp[zO]
   generalize ((yN 256 (zJ .i64 0).cells).flatten)=z at B I;simp only[zF,zC,zG,zB]at B;have S:Z4 false 1 (.ptr 0 1) [zA (L.cells x c e),.cells [(.str []),.nils,(.str []),(.str []),.nils,.nils],.cells z]=some x:=by simp[Z4,Go.Am.apart,Loc.cells]
   have D:=ZrL hx (H:=[zA (L.cells x c e),.cells [(.str []),.nils,(.str []),(.str []),.nils,.nils],.cells z]) (o:=2) rfl I hw (by omega);simp only[List.set_cons_succ,yT]at D;have X:Ze 1 (.ptr 0 1) (.rs false 1 2 0 256 256) [zA (L.cells x c e),.cells [(.str []),.nils,(.str []),(.str []),.nils,.nils],.cells (L.w.map (zJ .i64))]=some (.tuple [],[zA (L.cells (.rs false 1 2 0 256 256) c e),.cells [(.str []),.nils,(.str []),(.str []),.nils,.nils],.cells (L.w.map (zJ .i64))]):=by simp[Ze,YN,zU,zO,Loc.cells,splice]
   have U:Z4 true 6 (.ptr 0 0) [zA (L.cells (.rs false 1 2 0 256 256) c e),.cells [(.str []),.nils,(.str []),(.str []),.nils,.nils],.cells (L.w.map (zJ .i64))]=some (.agg (L.cells (.rs false 1 2 0 256 256) c e)):=by simp[Z4,Go.Am.apart,Loc.cells]
   have Y:Ze 6 (.ptr 1 0) (.agg (L.cells (.rs false 1 2 0 256 256) c e)) [zA (L.cells (.rs false 1 2 0 256 256) c e),.cells [(.str []),.nils,(.str []),(.str []),.nils,.nils],.cells (L.w.map (zJ .i64))]=some (.tuple [],[zA (L.cells (.rs false 1 2 0 256 256) c e),.cells (L.cells (.rs false 1 2 0 256 256) c e),.cells (L.w.map (zJ .i64))]):=by simp[Ze,YN,zU,zO,Loc.cells,splice]
   have V:Z4 true 6 (.ptr 1 0) [zA (L.cells (.rs false 1 2 0 256 256) c e),.cells (L.cells (.rs false 1 2 0 256 256) c e),.cells (L.w.map (zJ .i64))]=some (.agg (L.cells (.rs false 1 2 0 256 256) c e)):=by simp[Z4,Go.Am.apart,Loc.cells]
   simp only[go_sem,zB,zC,zF,zG,zK,R,C,hb,ZcW,B,S,D,X,U,Y,V]
  have W:Zb [zA (L.cells (.rs false 1 2 0 256 256) c e),.cells (L.cells (.rs false 1 2 0 256 256) c e),.cells (L.w.map (zJ .i64))] 0 8 (.rs false 1 2 0 256 256)=some (.vs 1 .no (L.w.map (zJ .i64))):=by
   have Q:elems 1 (.rs false 1 2 0 256 256) [zA (L.cells (.rs false 1 2 0 256 256) c e),.cells (L.cells (.rs false 1 2 0 256 256) c e),.cells (L.w.map (zJ .i64))]=some (L.w.map (zJ .i64)):=by
    simp[elems,hw];exact ZgA 256 _ (by simp[hw])
   rw[Zsi,if_neg (by omega),Q];simp only;rw[AW (fun y hy=>by obtain⟨m,_,rfl⟩:=zL.1 hy;rfl)]
  obtain⟨a',q1,q2⟩:=CA W (.inr ⟨.no,rfl⟩) hc he;exact⟨a',TS h1 g q1,by simpa using q2⟩
theorem ZnS {a:AV}{L:Loc}(h:LocAV a L)(hok:LocOk L)(H:Hp):∃ a',Zf BN [a] H=some (a',H)/\LocAV a' (Yi L):=by
 obtain⟨X,R,S⟩:=h.close [] 0 5;have B:=fun H=>(Zjp S hok H).2;obtain⟨x,c,e,rfl,hx,V,W⟩:=S;obtain⟨d,E,F⟩:=NT [zA (L.cells x c e),.cells [(.str []),.nils,(.str []),(.str []),.nils,.nils]];unfold Yi;have T:Z4 true 6 (.ptr 0 0) [zA (L.cells x c e),.cells [(.str []),.nils,(.str []),(.str []),.nils,.nils]]=some (.agg (L.cells x c e)):=by simp[Z4,Go.Am.apart,Loc.cells]
 cases hb:(XY L != 0) with
 |true =>
  obtain⟨w,j,u,rfl,K,I,J⟩:=F
  have g:BN [.agg (L.cells x c e)] []=some (.agg (defL.cells w j u),[zA (L.cells x c e),.cells (defL.cells w j u)]):=by
   rw[Ah];unfold Hk;have A:Ze 6 (.ptr 1 0) (.agg (defL.cells w j u)) [zA (L.cells x c e),.cells [(.str []),.nils,(.str []),(.str []),.nils,.nils]]=some (.tuple [],[zA (L.cells x c e),.cells (defL.cells w j u)]):=by simp[Ze,YN,zU,zO,Loc.cells,splice]
   have z:Z4 true 6 (.ptr 1 0) [zA (L.cells x c e),.cells (defL.cells w j u)]=some (.agg (defL.cells w j u)):=by simp[Z4,Go.Am.apart,Loc.cells]
   simp only[go_sem,zB,zC,zF,zG,zK,T,B,hb,E,A,z]
  obtain⟨U,C,D⟩:=K.close (H:=[zA (L.cells x c e),.cells (defL.cells w j u)]) (n:=0) (f:=7) (fun y hy=>by obtain⟨m,_,rfl⟩:=zL.1 hy;rfl);obtain⟨a',O,Q⟩:=CA C D I J;exact⟨a',TS R g O,by simpa using Q⟩
 |false =>
  have g:BN [.agg (L.cells x c e)] []=some (.agg (L.cells x c e),[zA (L.cells x c e),.cells (L.cells x c e)]):=by
   rw[Ah];unfold Hk;have A:Ze 6 (.ptr 1 0) (.agg (L.cells x c e)) [zA (L.cells x c e),.cells [(.str []),.nils,(.str []),(.str []),.nils,.nils]]=some (.tuple [],[zA (L.cells x c e),.cells (L.cells x c e)]):=by simp[Ze,YN,zU,zO,Loc.cells,splice]
   have z:Z4 true 6 (.ptr 1 0) [zA (L.cells x c e),.cells (L.cells x c e)]=some (.agg (L.cells x c e)):=by simp[Z4,Go.Am.apart,Loc.cells]
   simp only[go_sem,zB,zC,zF,zG,zK,T,B,hb,Zge,A,z]
  obtain⟨Y,M,N⟩:=hx.close (H:=[zA (L.cells x c e),.cells (L.cells x c e)]) (n:=0) (f:=7) (fun y hy=>by obtain⟨m,_,rfl⟩:=zL.1 hy;rfl);obtain⟨a',O,Q⟩:=CA M N V W;exact⟨a',TS R g O,by simpa using Q⟩
def QI (b:UInt8):AV:=.int .u8 b.toNat
def V9 (t s:List UInt8):List UInt8:=s.map fun b=>t.getD b.toNat 0
theorem Zet:∀ s:List UInt8,WR (s.map QI)=some s:=by
 intro s
 induction s with
 |nil=>rfl
 |cons b l g =>
  show (match WR (l.map QI) with|some l=>some (zV (b.toNat:Int).toNat::l)|none=>none)=_;rw[g];simp
theorem Zow {t:List UInt8}(g:t.length=256)(b:UInt8):Zw (.str t) (.int .u8 b.toNat)=some (.int .u8 (t.getD b.toNat 0).toNat):=by
 have hb:b.toNat<t.length:=by rw[g];exact b.toNat_lt
 simp[Zw,zD hb,yC]
theorem ZAu (o e n:Nat){i:Nat}(hi:i<n):Zo 1 (.ws false 1 o e n) (.int .i64 (i:Int))=some (.wp o e i):=by
 simp[Zo,hi]
theorem Zu0 (e:Nat)(l:List AV)(i:Nat):Z4 false 1 (.wp 0 e i) [zX e l]=l[i]?:=by simp[Z4,Go.Am.apart]
theorem Zr8 (e:Nat)(l:List AV){i:Nat}(hi:i<l.length)(v:AV)(hk:v.known=true)(g:v.cells.length=1):Ze 1 (.wp 0 e i) v [zX e l]=some (.tuple [],[zX e (splice l i v.cells)]):=by
 unfold Ze YN;simp only[zI];rw[if_pos ⟨trivial,hk,g,by omega⟩];rfl
theorem ZqD (a:List AV)(x y:AV)(b:List AV):splice (a++x::b) a.length [y]=a++y::b:=by
 unfold splice;simp
theorem ZnG {t:List UInt8}(E:t.length=256)(s:List UInt8)(H:s.length<=4611686018427387904)(B:Hp):∀ (r done:List UInt8),s=done++r ->
 Je (.str t) (.ws false 1 0 0 s.length) (.int .i64 (s.length:Int)) (.int .i64 (done.length:Int)) B [zX 0 ((V9 t done).map QI++r.map QI)]=some (.str (V9 t s),[zX 0 ((V9 t s).map QI)]):=by
 intro r
 induction r with
 |nil =>
  intro done w;obtain rfl:done=s:=by rw[w,zR]
  rw[Te];have g:decide ((done.length:Int)<(done.length:Int))=false:=by simp
  have z:QJ (.ws false 1 0 0 done.length) [zX 0 ((V9 t done).map QI)]=some ((V9 t done).map QI):=by
   simp[QJ,elems,V9];exact ZgA _ _ (by simp)
  have D:Br (.ws false 1 0 0 done.length) [zX 0 ((V9 t done).map QI)]=some (.str (V9 t done)):=by
   unfold Br;simp only[QR,z,Zet]
  simp only[go_sem,g,ZaG,xG,zR,D]
 |cons b r F =>
  intro done w;rw[Te];have C:done.length<s.length:=by rw[w];simp
  have g:decide ((done.length:Int)<(s.length:Int))=true:=by simp;omega
  have hw:xH.wrap ((done.length:Int)+1)=((done.length+1:Nat):Int):=by rw[Zr (by omega) (by omega)];omega
  have u:((V9 t done).map QI).length=done.length:=by simp[V9]
  have j:((V9 t done).map QI++(b::r).map QI)[done.length]?=some (.int .u8 b.toNat):=by
   rw[zQ (by omega),u];simp[QI]
  have A:Ze 1 (.wp 0 0 done.length) (.int .u8 (t.getD b.toNat 0).toNat) [zX 0 ((V9 t done).map QI++(b::r).map QI)]=some (.tuple [],[zX 0 ((V9 t (done++[b])).map QI++r.map QI)]):=by
   rw[Zr8 0 _ (by simp[V9]) _ rfl rfl];have:=ZqD ((V9 t done).map QI) (QI b) (.int .u8 (t.getD b.toNat 0).toNat) (r.map QI);rw[u]at this;simp only[yQ,zO];rw[this];simp[V9,QI]
  have:=F (done++[b]) (by rw[w];simp);rw[zP,zM]at this;simp only[go_sem,g,ZaH,ZAu 0 0 s.length C,Zu0,j,Zow E,A,ZaI,hw];exact this
theorem ZnF {t:List UInt8}(u:t.length=256)(s:List UInt8)(j:s.length<=4611686018427387904)(H:Hp):Zf FJ [.str t,.str s] H=some (.str (V9 t s),H):=by
 refine DG (a':=.str t) (b':=.str s) (H1:=[zX 0 ((V9 t s).map QI)]) rfl rfl ?_ rfl;rw[Zbk];unfold SJ;have:=ZnG u s j [] s [] rfl;simp only[zC,V9,xG,zB]at this;have e:IU (.str s) []=some (.ws false 1 0 0 s.length,[zX 0 (s.map QI)]):=rfl;have g:Zk (.slice 5) (.ws false 1 0 0 s.length)=some (.int .i64 s.length):=rfl;simp only[e,g,go_sem];exact this
theorem ZA5 (b:UInt8):(ZE 1 [(0,zJ .u8 b.toNat)] [(.int .u8 0)]).map (AV.vs 1 .clip)=some (.vs 1 .clip [QI b]):=rfl
theorem Zz8 {n:Nat}{H:Hp}{x:AV}{s:List UInt8}(h:RowN n H 1 x (s.map QI)):Br x H=some (.str s):=by
 rcases h with ⟨rfl,h⟩|⟨t,e,rfl,_⟩
 ·have:s=[]:=by cases s with
   |nil=>rfl
   |cons a l=>simp at h
  subst this;rfl
 ·unfold Br QR;simp only[if_true,Zet]
theorem Zmm {t:List UInt8}(A:t.length=256)(s:List UInt8)(E:s.length<=1048576)(u:Hp):∀ (r done:List UInt8) (x:AV) (H:Hp),s=done++r->RowN 0 H 1 x ((V9 t done).map QI) ->
 ∃ H',DD (.str t) (.str s) x (.int .i64 (done.length:Int)) u H=some (.str (V9 t s),H'):=by
 intro r
 induction r with
 |nil =>
  intro done x H j hx;rw[zR]at j;subst j;rw[LN];have g:decide ((s.length:Int)<(s.length:Int))=false:=by simp
  simp only[go_sem,YI,g,ZeW,Zz8 hx];exact⟨_,rfl⟩
 |cons b r B =>
  intro done x H j hx;rw[LN];have D:done.length<s.length:=by rw[j];simp
  have g:decide ((done.length:Int)<(s.length:Int))=true:=by simp;omega
  have hw:xH.wrap ((done.length:Int)+1)=((done.length+1:Nat):Int):=by rw[Zr (by omega) (by omega)];omega
  have hb:s[done.length]?=some b:=by rw[j,zQ (by omega)];simp
  obtain⟨C,H',w,z,_,_,_⟩:=hx.app (yK _) 1 (.vs 1 .clip [QI (t.getD b.toNat 0)]) [QI (t.getD b.toNat 0)] (by simp[elems]) (by simp[V9];omega);simp only[go_sem,YI,g,ZeX,Y1 hb,Zow A,ZA5,w,ZeY,hw];have:=B (done++[b]) C H' (by rw[j];simp) (by simpa[V9]using z);rw[zP,zM]at this;exact this
theorem Zml {t:List UInt8}(j:t.length=256)(s:List UInt8)(g:s.length<=1048576)(H:Hp):Zf Ll [.str t,.str s] H=some (.str (V9 t s),H):=by
 obtain⟨H',h⟩:=Zmm j s g [] s [] .nils [] rfl (RowN.nil 0 [] 1);refine DG (a':=.str t) (b':=.str s) (H1:=H') rfl rfl ?_ rfl;rw[ZfV];unfold Zbe;exact h
theorem Zoc:defL.up.length=256/\defL.w.length=256:=⟨by simp[defL],by simp[defL]⟩
theorem ZjS (L:Loc):(Yi L).up.length=256:=by
 unfold Yi
 cases h:(XY L != 0) with
 |true=>exact Zoc.1
 |false=>exact (checked h).2.2
theorem ZmL (L:Loc):(Yi L).w.length=256:=by
 unfold Yi
 cases h:(XY L != 0) with
 |true=>exact Zoc.2
 |false=>exact (checked h).1
def upS (L:Loc)(s:List UInt8):List UInt8:=V9 (Yi L).up s
theorem Zrk {a:AV}{L:Loc}(h:LocAV a L)(hok:LocOk L)(s:List UInt8)(D:s.length<=1048576)(H:Hp):Zf TC [a,.str s] H=some (.str (upS L s),H)/\Zf Ze6 [a,.str s] H=some (.str (upS L s),H):=by
 obtain⟨F,B,u⟩:=h.close [] 0 5;have E:=fun H=>ZhR u hok H;have z:=fun H=>ZnS u hok H;obtain⟨x,c,e,rfl,hx,I,J⟩:=u;have C:Z4 true 6 (.ptr 0 0) [zA (L.cells x c e)]=some (.agg (L.cells x c e)):=by simp[Z4,Go.Am.apart,Loc.cells]
 constructor
 ·obtain⟨v,g,A,j,ev,rfl,_⟩:=E [zA (L.cells x c e)];have w:TG false 1 3 (.agg ((Yi L).cells A j ev))=some (.str (Yi L).up):=rfl;refine DG B (b':=.str s) rfl (H1:=[zA (L.cells x c e)]) ?_ rfl;rw[ZdF];unfold Aq;simp only[go_sem,zB,zC,C,g,w,ZnF (ZjS L) s (by omega)];rfl
 ·obtain⟨v,g,A,j,ev,rfl,_⟩:=z [zA (L.cells x c e)];have w:TG false 1 3 (.agg ((Yi L).cells A j ev))=some (.str (Yi L).up):=rfl;refine DG B (b':=.str s) rfl (H1:=[zA (L.cells x c e)]) ?_ rfl;rw[ZhY];unfold Ze9;simp only[go_sem,zB,zC,C,g,w,Zml (ZjS L) s D];rfl
theorem Zsa {α:Type}{bad:α->Option Int}{key:α->List UInt8}(hb:∀ c e,bad c=some e->e≠0){l:List α}(h:Nu bad key l []=0):∀ i,i<=l.length->Nu bad key (l.drop i) ((l.take i).map key)=0:=by
 intro i
 induction i with
 |zero=>intro _;simpa using h
 |succ i u =>
  intro hi;have:=u (by omega);rw[zN (by omega),Fk]at this
  cases g:bad l[i] with
  |some e=>rw[g]at this;exact absurd this (hb _ _ g)
  |none =>
   rw[g]at this;simp only at this;split at this
   ·cases this
   ·have j:(l.take (i+1)).map key=(l.take i).map key++[key l[i]]:=by
     rw[yW,zD (by omega),xB];rfl
    rw[j];exact this
theorem Zvk {α:Type}{bad:α->Option Int}{key:α->List UInt8}(hb:∀ c e,bad c=some e->e≠0){l:List α}(h:Nu bad key l []=0){i:Nat}(hi:i<l.length):((l.take i).map key).contains (key l[i])=false:=by
 have:=Zsa hb h i (by omega);rw[zN (by omega),Fk]at this
 cases g:bad l[i] with
 |some e=>rw[g]at this;exact absurd this (hb _ _ g)
 |none =>
  rw[g]at this;simp only at this;split at this
  ·cases this
  ·rename_i hn;exact Bool.eq_false_iff.2 hn
theorem ZvF:∀ c e,O5 c=some e->e≠0:=by
 intro c e h;unfold O5 at h;split at h
 ·injection h with h;omega
 ·cases h
def ZkB (l:List (List UInt8×Int)):Prop:=∀ i (hi:i<l.length),((l.take i).map yS).contains l[i].1=false
theorem ZhQ (L:Loc):ZkB (Yi L).els:=by
 unfold Yi
 cases h:(XY L != 0) with
 |true=>intro i hi;simp[defL]at hi
 |false =>
  simp only[XY,bne_eq_false_iff_eq]at h
  have:E6 L.els=0:=by
   split at h
   ·split at h
    ·cases h
    ·split at h
     ·cases h
     ·unfold OL at h;split at h
      ·rename_i g;simp[h]at g
      ·exact h
   ·cases h
  unfold E6 at this;split at this
  ·cases this
  ·intro i hi;exact Zvk (key:=yS) ZvF this hi
def LJ (g:List (AV×AV×Nat))(l:List (List UInt8×Int)):Prop:=g.map (fun e=>(e.1,e.2.1))=l.map fun e=>(AV.str e.1,zJ .i64 e.2)
theorem Zjg (k:List UInt8):∀ (g:List (AV×AV×Nat)) (l:List (List UInt8×Int)) (i:Nat),LJ g l ->
 match l.find? (fun e=>e.1==k) with
 |some e=>∃ j,YS (.str k) g i=some (some (j,.int .i64 e.2))
 |none=>YS (.str k) g i=some none:=by
 intro g
 induction g with
 |nil =>
  intro l i h
  cases l with
  |nil=>simp[YS]
  |cons s r=>simp[LJ]at h
 |cons e g z =>
  intro l i h
  cases l with
  |nil=>simp[LJ]at h
  |cons s r =>
   obtain⟨a,b,c⟩:=e;simp only[LJ,yQ,List.cons.injEq,Prod.mk.injEq]at h;obtain⟨⟨rfl,rfl⟩,w⟩:=h;have:=z r (i+1) w;have u:(k==s.1)=(s.1==k):=by rw[xC,beq_iff_eq,beq_iff_eq];exact eq_comm
   simp only[YS,QK,List.find?_cons,u]
   cases hk:(s.1==k) with
   |true=>exact⟨i,rfl⟩
   |false=>exact this
theorem ZvH {H:Hp}{m:Nat}{g:List (AV×AV×Nat)}{c:Nat}{l:List (List UInt8×Int)}(w:H[m]?=some (.map g c))(z:LJ g l)(k:List UInt8) :
 Yd .string (.int .i64 0) true (.map m) (.str k) H=some (match l.find? (fun e=>e.1==k) with|some e=>.tuple [.int .i64 e.2,.bool true]|none=>.tuple [.int .i64 0,.bool false]):=by
 have h:=Zjg k g l 0 z;unfold Yd;simp only[W4,if_true,Xe,w]
 cases hk:l.find? (fun e=>e.1==k) with
 |some e =>
  rw[hk]at h;obtain⟨j,u⟩:=h;simp[u]
 |none =>
  rw[hk]at h;simp at h;simp[h]
theorem ZsL {l:List (List UInt8×Int)}{k:List UInt8}(h:(l.map yS).contains k=false):l.find? (fun e=>e.1==k)=none:=by
 rw[List.find?_eq_none];intro e he hk;have:k∈l.map yS:=zL.2 ⟨e,he,by simpa using hk⟩;simp at h
 exact h e.2 (by have : e.1 = k := by simpa using hk
                 subst this;exact he)
theorem Zyr {H:Hp}{m:Nat}{g:List (AV×AV×Nat)}{c:Nat}{l:List (List UInt8×Int)}(u:H[m]?=some (.map g c))(j:LJ g l){e:List UInt8×Int}(hk:(l.map yS).contains e.1=false) :
 Xp .string (.map m) (.str e.1) (.int .i64 e.2) H=some (.tuple [],H.set m (.map (g++[(.str e.1,.int .i64 e.2,c)]) (c+1)))/\LJ (g++[(.str e.1,.int .i64 e.2,c)]) (l++[e]):=by
 have h:=Zjg e.1 g l 0 j;rw[ZsL hk]at h;constructor
 ·unfold Xp;simp only[u,W4,if_true,h]
 ·unfold LJ at j ⊢;simp[j]
theorem ZvE {x:AV}{l:List (List UInt8×Int)}(h:Sl 2 x (l.map Bz))(A:ZkB l)(V:l.length<=1048576)(F I:AV)(E:Hp):∀ (k i:Nat) (H:Hp) (w:List (AV×AV×Nat)) (c:Nat),l.length-i=k->i<=l.length ->
 H[2]?=some (.map w c)->LJ w (l.take i)->3<=H.length ->
 ∃ H' g c',Gd F I (.ptr 1 0) (.map 2) x (.int .i64 (l.length:Int)) (.int .i64 (i:Int)) E H=P2 F I (.ptr 1 0) (.map 2) E H'/\H'[0]?=H[0]?/\H'[1]?=H[1]?/\H'[2]?=some (.map g c')/\LJ g l/\3<=H'.length:=by
 intro k
 induction k with
 |zero =>
  intro i H w c hk hi C B hlen;rw[Mo];have u:decide ((i:Int)<(l.length:Int))=false:=by simp;omega
  simp only[go_sem,u];exact⟨H,w,c,rfl,rfl,rfl,C,by rw[List.take_of_length_le (by omega)]at B;exact B,hlen⟩
 |succ k S =>
  intro i H w c hk hi C B hlen;rw[Mo];have j:i<l.length:=by omega
  have u:decide ((i:Int)<(l.length:Int))=true:=by simp;omega
  have hw:xH.wrap ((i:Int)+1)=((i+1:Nat):Int):=by rw[Zr (by omega) (by omega)];omega
  have D:=LS H 2 [.str l[i].1,.int .i64 l[i].2] [.str [],.int .i64 0] rfl rfl;have z:(H++[zA [AV.str l[i].1,zJ .i64 l[i].2]])[2]?=some (.map w c):=Yg C _;obtain⟨T,U⟩:=Zyr z B (e:=l[i]) (A i j);simp only[go_sem,u,ZdU,h.els (zD j),V7 2 [.str l[i].1,.int .i64 l[i].2] rfl,D,zK,ZF,zI,zS,T,ZdV,hw];have R:l.take (i+1)=l.take i++[l[i]]:=by rw[yW,zD j];rfl
  obtain⟨H',g,c',J,K,M,N,O,Q⟩:=S (i+1) _ _ _ (by omega) (by omega) (Zt _ z) (by rw[R];exact U) (by simp;omega);refine⟨H',g,c',J,?_,?_,N,O,Q⟩
  ·rw[K,zY (by omega),yE (by omega)]
  ·rw[M,zY (by omega),yE (by omega)]
def wOf (L:Loc)(b:UInt8):Int:=L.w.getD b.toNat 0
def wS (L:Loc):List UInt8->List Int
 |[]=>[]
 |[b]=>[wOf L b]
 |b::c::r=>match L.els.find? (fun e=>e.1==[b,c]) with
  |some e=>e.2::wS L r
  |none=>wOf L b::wS L (c::r)
theorem ZyT (n:Int):(ZE 1 [(0,zJ .i64 n)] [(.int .i64 0)]).map (AV.vs 1 .clip)=some (.vs 1 .clip [.int .i64 n]):=rfl
theorem DW {s:List UInt8}{i j:Nat}(g:i<=j)(z:j<=s.length):Y8 (.str s) (some (.int .i64 (i:Int))) (some (.int .i64 (j:Int))) none=some (.str ((s.take j).drop i)):=by
 have u:YW (.int .i64 (j:Int)) s.length=some j:=by simp[YW,z]
 have w:YW (.int .i64 (i:Int)) j=some i:=by simp[YW,g]
 unfold Y8 UP Yw;simp only[u,w]
theorem ZAN {x:AV}{L:Loc}(h:Sl 1 x (L.w.map (zJ .i64)))(hw:L.w.length=256)(b:UInt8):Zo 1 x (.int .u8 b.toNat)=some (.vp [.int .i64 (wOf L b)]):=by
 have hb:b.toNat<L.w.length:=by rw[hw];exact b.toNat_lt
 rcases h with ⟨rfl,h⟩|⟨tok,rfl⟩
 ·simp at h;simp[h]at hb
 ·simp[Zo,zD hb,wOf,yC,zO]
structure WSt (L:Loc)(x c e:AV)(es:List (AV×AV×Nat))(acc:List Int)(H:Hp):Prop where
 out:∃ y,H[0]?=some (.cells [y])/\RowN 3 H 1 y (acc.map (zJ .i64))
 loc:H[1]?=some (.cells (L.cells x c e))
 mp:∃ k,H[2]?=some (.map es k)
 len:3<=H.length
theorem Zo9 {L:Loc}{x c e:AV}{D:List (AV×AV×Nat)}{g:List Int}{H:Hp}(h:WSt L x c e D g H)(S:g.length<=1048576)(t:AV)(w:Int) :
 ∃ H',Ym cfg (Z9 cfg) (.fn (.func 110) [] [.ptr 0 0]) [t,.int .i64 w] H=some (.bool true,H')/\WSt L x c e D (g++[w]) H':=by
 obtain⟨⟨y,E,N⟩,I,⟨k,J⟩,K⟩:=h;obtain⟨j,H1,F,C,Q,z,R⟩:=N.app K 8 (.vs 1 .clip [.int .i64 w]) [.int .i64 w] (by simp[elems]) (by simp;omega);have u:H1[0]?=some (.cells [y]):=by rw[z 0 (by omega)];exact E
 have B:Ze 1 (.ptr 0 0) j H1=some (.tuple [],H1.set 0 (.cells [j])):=by
  have A:j.known=true/\j.cells=[j]:=by
   rcases C with ⟨rfl,_⟩|⟨t,e,rfl,_⟩ <;> exact⟨rfl,rfl⟩
  rw[VP (sz:=1) u A.1 (by rw[A.2];rfl) (by simp)];rw[A.2];rfl
 refine⟨H1.set 0 (.cells [j]),?_,⟨⟨j,Zt _ u,?_⟩,?_,⟨k,?_⟩,by simp;omega⟩⟩
 ·rw[IF];show QY [t,.int .i64 w,.ptr 0 0] H=_;rw[Sd];unfold FK;simp only[Y5 E,zI,go_sem,ZyT,F,B]
 ·rcases C with ⟨rfl,M⟩|⟨t,e,rfl,O,hn⟩
  ·exact .inl ⟨rfl,by rw[xB];exact M⟩
  ·exact .inr ⟨t,e,by simp,Yo _ (by omega) O,hn⟩
 ·rw[zY (by omega),z 1 (by omega)];exact I
 ·rw[zY (by omega),z 2 (by omega)];exact J
theorem Zsv {L:Loc}{x c e:AV}(hx:Sl 1 x (L.w.map (zJ .i64)))(hw:L.w.length=256){E:List (AV×AV×Nat)}(R:LJ E L.els)(s:List UInt8)(hs:s.length<=1048576)(V:Hp):∀ (n:Nat) (done r:List UInt8) (g:List Int) (H:Hp),r.length<=n->s=done++r->g.length<=done.length->WSt L x c e E g H ->
 ∃ H',Gc (.str s) (.fn (.func 110) [] [.ptr 0 0]) (.ptr 1 0) (.map 2) (.int .i64 (done.length:Int)) V H=some (.tuple [],H')/\WSt L x c e E (g++wS L r) H':=by
 intro n
 induction n with
 |zero =>
  intro done r g H S u ha j;have:r=[]:=yG.1 (by omega);subst this;rw[zR]at u;subst u;rw[BB];have z:decide ((s.length:Int)<(s.length:Int))=false:=by simp
  simp only[go_sem,YI,z];exact⟨H,rfl,by simpa[wS]using j⟩
 |succ n Y =>
  intro done r g H S u ha j
  cases r with
  |nil =>
   rw[zR]at u;subst u;rw[BB];have z:decide ((s.length:Int)<(s.length:Int))=false:=by simp
   simp only[go_sem,YI,z];exact⟨H,rfl,by simpa[wS]using j⟩
  |cons b r =>
   have hl:done.length<s.length:=by rw[u];simp
   have C:s.length=done.length+(r.length+1):=by rw[u];simp
   have z:decide ((done.length:Int)<(s.length:Int))=true:=by simp;omega
   have J:xH.wrap ((done.length:Int)+1)=((done.length+1:Nat):Int):=by rw[Zr (by omega) (by omega)];omega
   have K:xH.wrap ((done.length:Int)+2)=((done.length+2:Nat):Int):=by rw[Zr (by omega) (by omega)];omega
   have hb:s[done.length]?=some b:=by rw[u,zQ (by omega)];simp
   have T:(s.take (done.length+1)).drop done.length=[b]:=by rw[u,yZ];simp
   have one:∀ H,WSt L x c e E g H->∃ H',QL (.str s) (.fn (.func 110) [] [.ptr 0 0]) (.ptr 1 0) (.map 2) (.int .i64 (done.length:Int)) (.str [b]) (.int .i64 (wOf L b)) V H=some (.tuple [],H')/\WSt L x c e E (g++wOf L b::wS L r) H':=by
    intro H j;obtain⟨H1,N,O⟩:=Zo9 j (by omega) (.str [b]) (wOf L b);obtain⟨M,F,Q⟩:=Y (done++[b]) r (g++[wOf L b]) H1 (by simp at S;omega) (by rw[u];simp) (by simp;omega) O;rw[zP,zM]at F;rw[Mm];have A:(([b]:List UInt8).length:Int)=1:=rfl;simp only[N,go_sem,Mn,YI,A,J,F];exact⟨M,rfl,by simpa using Q⟩
   rw[BB];obtain⟨⟨y,Z,I⟩,W,⟨k,X⟩,h3⟩:=j;have j:WSt L x c e E g H:=⟨⟨y,Z,I⟩,W,⟨k,X⟩,h3⟩;simp only[go_sem,YI,z,ZdT,J,DW (Nat.le_succ _) (show done.length+1<=s.length by omega),T,zK,Y5 W,Loc.cells,zI,zS,Y1 hb,ZAN hx hw,ZC,K]
   cases r with
   |nil =>
    have B:decide (((done.length+2:Nat):Int)<=(s.length:Int))=false:=by simp at C ⊢;omega
    simp only[B,go_sem];have:=one H j;simpa[wS]using this
   |cons D r =>
    have B:decide (((done.length+2:Nat):Int)<=(s.length:Int))=true:=by simp at C ⊢;omega
    have U:(s.take (done.length+2)).drop done.length=[b,D]:=by rw[u,yZ];simp
    simp only[B,go_sem,DW (show done.length<=done.length+2 by omega) (show done.length+2<=s.length by simp at C;omega),U,ZvH X R];unfold wS
    cases hf:L.els.find? (fun e=>e.1==[b,D]) with
    |none =>
     simp only[go_sem,zI,zS];exact one H j
    |some el =>
     simp only[go_sem,zI,zS];obtain⟨H1,N,O⟩:=Zo9 j (by omega) (.str [b,D]) el.2;obtain⟨M,F,Q⟩:=Y (done++[b,D]) r (g++[el.2]) H1 (by simp at S;omega) (by rw[u];simp) (by simp;omega) O;rw[zP,show ([b,D]:List UInt8).length=2 from rfl]at F;rw[Mm];have A:(([b,D]:List UInt8).length:Int)=2:=rfl;simp only[N,go_sem,Mn,YI,A,K,F];exact⟨M,rfl,by simpa using Q⟩
def LocCells (l:List AV)(L:Loc):Prop:=∃ x c e,l=L.cells x c e/\Sl 1 x (L.w.map (zJ .i64))/\Sl 5 c (L.cls.map Qm)/\Sl 2 e (L.els.map Bz)
theorem LocCells.close {l:List AV}{L:Loc}(h:LocCells l L)(H:Hp)(n f:Nat):∃ C,l.mapM (Zb H n (f+3))=some C/\LocCells C L:=by
 obtain⟨x,c,e,rfl,hx,E,F⟩:=h;obtain⟨D,z,A⟩:=hx.close (H:=H) (n:=n) (f:=f+2) (fun y hy=>by obtain⟨m,_,rfl⟩:=zL.1 hy;rfl);obtain⟨c',g,j⟩:=E.close (H:=H) (n:=n) (f:=f+2) (fun y hy=>by obtain⟨m,_,rfl⟩:=zL.1 hy;exact C8 m H n f);obtain⟨B,u,w⟩:=F.close (H:=H) (n:=n) (f:=f+2) (fun y hy=>by obtain⟨m,_,rfl⟩:=zL.1 hy;exact O6 m H n f);refine⟨L.cells D c' B,?_,D,c',B,rfl,A,j,w⟩;simp only[Loc.cells,xD,z,g,u,yP];rfl
theorem US (H:Hp)(n f:Nat)(l:List AV):Zb H n (f+1) (.vp l)=match l.mapM (Zb H n f) with
 |some l=>some (.vp l)
 |none=>none:=(Eq.refl _).trans (Eq.refl _)
theorem N0 {f:List AV->Hp->Z3}{a a' b b' v v':AV}{H H1:Hp}(ha:Zb [] 0 9 a=some a')(hb:Zb [] 0 9 b=some b')(g:f [a',b'] []=some (v,H1))(j:Zb H1 0 9 v=some v'):Zf f [a,b] H=some (v',H):=by
 unfold Zf;simp[ha,hb,g,j]
theorem RowN.close {n:Nat}{H:Hp}{x:AV}{l:List Int}(h:RowN n H 1 x (l.map (zJ .i64)))(H1:Hp):∃ g,Zb H1 0 9 x=some g/\Sl 1 g (l.map (zJ .i64)) :=
 h.sl.close (f:=8) (fun y hy=>by obtain⟨m,_,rfl⟩:=zL.1 hy;rfl)
theorem Zdf {l:List AV}{L:Loc}(h:LocCells l L)(hw:L.w.length=256)(g:ZkB L.els)(hn:L.els.length<=1048576)(s:List UInt8)(N:s.length<=1048576)(H:Hp) :
 ∃ v,Zf UK [.str s,.vp l] H=some (v,H)/\Sl 1 v ((wS L s).map (zJ .i64)):=by
 obtain⟨W,M,x,c,e,rfl,hx,V,D⟩:=h.close [] 0 5;have j:Zb [] 0 9 (.vp l)=some (.vp (L.cells x c e)):=by rw[US,M]
 have hlen:=D.len 189;rw[zT]at hlen;obtain⟨H1,K,k,E,O,Q,R,S,T⟩:=ZvE D g hn (.str s) (.fn (.func 110) [] [.ptr 0 0]) [zA [.nils]] L.els.length 0 [zA [.nils],.cells (L.cells x c e),.map [] 0] [] 0 (by omega) (by omega) rfl rfl (by simp);rw[show ((0:Nat):Int)=0 from rfl]at E;have z:WSt L x c e K [] H1:=⟨⟨.nils,by rw[O];rfl,RowN.nil _ _ _⟩,by rw[Q];rfl,⟨k,R⟩,T⟩;obtain⟨C,F,⟨⟨y,U,I⟩,_,_,_⟩⟩:=Zsv hx hw S s N [zA [.nils]] s.length [] s [] H1 (yD _) rfl (by simp) z;rw[zC,show ((0:Nat):Int)=0 from rfl]at F;rw[zB]at I;obtain⟨v,A,B⟩:=I.close C;refine⟨v,N0 (a':=.str s) rfl j ?_ A,B⟩;rw[Ap];unfold PH
 have J:No [.agg (L.cells x c e),.str s,.fn (.func 110) [] [.ptr 0 0]] [zA [.nils]]=some (.tuple [],C):=by
  rw[ZeO];unfold OS;have u:Z4 false 1 (.ptr 1 5) [zA [.nils],.cells (L.cells x c e),.map [] 0]=some e:=by simp[Z4,Go.Am.apart,Loc.cells]
  simp only[go_sem,zF,zC,zG,zB,zK,u,hlen,E,ZdS,F]
 simp only[go_sem,zC,zB,V7 6 (L.cells x c e) rfl,J,Y5 U,zI]
def Ztl (r:List UInt8)(e:List UInt8×Int):Bool :=
 match r with
 |b::c::_=>e.1==[b,c]
 |_=>false
theorem ZAt (L:Loc)(b c:UInt8)(r:List UInt8):wS L (b::c::r)=match L.els.find? (Ztl (b::c::r)) with
 |some e=>e.2::wS L r
 |none=>wOf L b::wS L (c::r):=(Eq.refl _).trans (Eq.refl _)
set_option linter.unusedSectionVars false
def VG:List Int->List Int->Int
 |[],[]=>0
 |[],_::_=>-1
 |_::_,[]=>1
 |a::l,b::m=>if a<b then -1 else if b<a then 1 else VG l m
theorem QV (a b:Int)(l m:List Int):VG (a::l) (b::m)=if a<b then -1 else if b<a then 1 else VG l m:=(Eq.refl _).trans (Eq.refl _)
theorem ZtE {l m:List Int}(h:l=[]\/m=[]):VG l m=if l.length<m.length then -1 else if m.length<l.length then 1 else 0:=by
 rcases h with rfl|rfl
 ·cases m <;> simp[VG]
 ·cases l <;> simp[VG]
theorem Zl3:∀ a b:List UInt8,VG (a.map fun c=>(c.toNat:Int)) (b.map fun c=>(c.toNat:Int))=J3 a b:=by
 intro a
 induction a with
 |nil=>intro b;cases b <;> simp[VG,J3]
 |cons x a z =>
  intro b
  cases b with
  |nil=>simp[VG,J3]
  |cons y b =>
   simp only[yQ,QV,J3];by_cases h:x=y
   ·subst h;simp[z b]
   ·have w:x.toNat≠y.toNat:=fun e=>h (UInt8.toNat_inj.1 e);by_cases g:x<y
    ·have:(x.toNat:Int)<y.toNat:=by have:=yL.1 g;omega
     simp[h,g,this]
    ·have j:¬ (x.toNat:Int)<y.toNat:=by
      intro A;exact g (yL.2 (by omega))
     have u:(y.toNat:Int)<x.toNat:=by omega
     simp[h,g,j,u]
theorem Zu3 (a b:List UInt8)(H:Hp):Zf Bm [.str a,.str b] H=some (.int .i64 (J3 a b),H):=by
 have g:∀ H,Zf XO [.str a,.str b] H=some (.int .i64 (J3 a b),H):=fun H=>by
  refine DG (a':=.str a) (b':=.str b) (H1:=[]) rfl rfl ?_ rfl;rw[G4];rfl
 refine DG (a':=.str a) (b':=.str b) (H1:=[]) rfl rfl ?_ rfl;rw[IA];unfold Mb;simp only[g,go_sem]
section
variable {x y:AV}{a b:List Int}(hx:Sl 1 x (a.map (zJ .i64)))(hy:Sl 1 y (b.map (zJ .i64)))(ha:a.length<=4611686018427387904)(hb:b.length<=4611686018427387904)
include hx hy ha hb
theorem ZtH (s t:List UInt8)(E H:Hp):∀ (k i:Nat),min a.length b.length-i=k->i<=min a.length b.length ->
 Qt (.str s) (.str t) x y (.int .i64 ((min a.length b.length:Nat):Int)) (.int .i64 (i:Int)) E H=some (.int .i64 (if (VG (a.drop i) (b.drop i) != 0)=true then VG (a.drop i) (b.drop i) else J3 s t),H):=by
 have z:=hx.len 3;have A:=hy.len 3;rw[zT]at z A;intro k
 induction k with
 |zero =>
  intro i hk hi;rw[Rx];have B:decide ((i:Int)<((min a.length b.length:Nat):Int))=false:=by simp;omega
  have F:a.drop i=[]\/b.drop i=[]:=by
   rcases Nat.le_total a.length b.length with h|h
   ·exact .inl (zH.2 (by omega))
   ·exact .inr (zH.2 (by omega))
  rw[ZtE F];simp only[zZ,go_sem,B,Om,z,A];by_cases J:a.length<b.length
  ·have c:decide ((a.length:Int)<(b.length:Int))=true:=by simp;omega
   have g:a.length-i<b.length-i:=by omega
   simp only[c,go_sem,g,if_true];rfl
  ·have c:decide ((a.length:Int)<(b.length:Int))=false:=by simp;omega
   have g:¬ a.length-i<b.length-i:=by omega
   simp only[c,go_sem,g,if_false,On,z,A];by_cases K:b.length<a.length
   ·have c:decide ((b.length:Int)<(a.length:Int))=true:=by simp;omega
    have j:b.length-i<a.length-i:=by omega
    simp only[c,go_sem,j,if_true];rfl
   ·have c:decide ((b.length:Int)<(a.length:Int))=false:=by simp;omega
    have j:¬ b.length-i<a.length-i:=by omega
    simp only[c,go_sem,j,if_false,Oo,Zu3];rfl
 |succ k I =>
  intro i hk hi;rw[Rx];have u:i<a.length:=by omega
  have w:i<b.length:=by omega
  have B:decide ((i:Int)<((min a.length b.length:Nat):Int))=true:=by simp;omega
  have hw:xH.wrap ((i:Int)+1)=((i+1:Nat):Int):=by rw[Zr (by omega) (by omega)];omega
  simp only[go_sem,B,Oq,hx.ints u,hy.ints w,ZC];rw[zN u,zN w,QV];by_cases C:a[i]<b[i]
  ·simp only[decide_eq_true C,go_sem,if_pos C];rfl
  ·simp only[decide_eq_false C,go_sem,if_neg C,Ou,hx.ints u,hy.ints w,ZC];by_cases D:b[i]<a[i]
   ·simp only[decide_eq_true D,go_sem,if_pos D];rfl
   ·simp only[decide_eq_false D,go_sem,if_neg D,Ot,hw];exact I (i+1) (by omega) (by omega)
end
theorem Zuz (L:Loc):∀ (n:Nat) (s:List UInt8),s.length<=n->(wS L s).length<=s.length:=by
 intro n
 induction n with
 |zero=>intro s h;have:s=[]:=yG.1 (by omega);subst this;simp[wS]
 |succ n g =>
  intro s h
  match s,h with
  |[],_=>simp[wS]
  |[b],_=>simp[wS]
  |b::c::r,h =>
   rw[ZAt];simp only[zF]at h
   cases L.els.find? (Ztl (b::c::r)) with
   |none=>have:=g (c::r) (by simp;omega);simp only[zF]at this ⊢;omega
   |some e=>have:=g r (by omega);simp only[zF];omega
theorem ZhP (L:Loc):(Yi L).els.length<=64:=by
 unfold Yi
 cases h:(XY L != 0) with
 |true=>simp[defL]
 |false =>
  simp only[XY,bne_eq_false_iff_eq]at h
  have:E6 L.els=0:=by
   split at h
   ·split at h
    ·cases h
    ·split at h
     ·cases h
     ·unfold OL at h;split at h
      ·rename_i g;simp[h]at g
      ·exact h
   ·cases h
  unfold E6 at this;split at this
  ·cases this
  ·simp;omega
def Bq (L:Loc)(s t:List UInt8):Int:=if (VG (wS (Yi L) s) (wS (Yi L) t) != 0)=true then VG (wS (Yi L) s) (wS (Yi L) t) else J3 s t
theorem Zjq {v:AV}{L:Loc}(h:LocAV v L)(hok:LocOk L)(s t:List UInt8)(U:s.length<=1048576)(V:t.length<=1048576)(H:Hp):Zf U1 [v,.str s,.str t] H=some (.int .i64 (Bq L s t),H):=by
 obtain⟨J,Q,K⟩:=h.close [] 0 5;have W:=fun H=>ZhR K hok H;obtain⟨x,c,e,rfl,hx,hc,he⟩:=K;obtain⟨v',F,j,g,ev,rfl,I,B,C⟩:=W [zA (L.cells x c e)];have u:LocCells ((Yi L).cells j g ev) (Yi L):=⟨j,g,ev,rfl,I,B,C⟩;obtain⟨Z,X,M⟩:=Zdf u (ZmL L) (ZhQ L) (by have:=ZhP L;omega) s U [yM];obtain⟨w2,Y,N⟩:=Zdf u (ZmL L) (ZhQ L) (by have:=ZhP L;omega) t V [yM];have S:=Zuz (Yi L) s.length s (yD _);have T:=Zuz (Yi L) t.length t (yD _)
 have A:U1 [.agg (L.cells x c e),.str s,.str t] []=some (.int .i64 (Bq L s t),[yM]):=by
  rw[Zau];unfold Lz;have R:Z4 true 6 (.ptr 0 0) [zA (L.cells x c e)]=some (.agg (L.cells x c e)):=by simp[Z4,Go.Am.apart,Loc.cells]
  have E:Ze 6 (.ptr 0 0) (.agg ((Yi L).cells j g ev)) [zA (L.cells x c e)]=some (.tuple [],[zA ((Yi L).cells j g ev)]):=by simp[Ze,YN,zU,zO,Loc.cells,splice]
  have D:∀ k:AV->Hp->Z3,V8 (.ptr 0 0) [zA ((Yi L).cells j g ev)] k=k (.vp ((Yi L).cells j g ev)) [yM]:=fun k=>rfl;have J:Zk (.slice 3) Z=some (.int .i64 (wS (Yi L) s).length):=by have:=M.len 3;rwa [zT]at this
  have O:Zk (.slice 3) w2=some (.int .i64 (wS (Yi L) t).length):=by have:=N.len 3;rwa [zT]at this
  have z:UO (.int .i64 ((wS (Yi L) s).length:Int)) (.int .i64 ((wS (Yi L) t).length:Int))=some (.int .i64 ((min (wS (Yi L) s).length (wS (Yi L) t).length:Nat):Int)):=by
   unfold UO;simp only[if_true];congr 2;split <;> omega
  have w:=ZtH M N (by omega) (by omega) s t [] [yM] _ 0 rfl (yK _);rw[show ((0:Nat):Int)=0 from rfl,zW,zW]at w;simp only[go_sem,zC,zB,R,F,E,D,Zbv,ZbS,zG,X,Y,J,O,z,w];rfl
 exact Vn (args':=[.agg (L.cells x c e),.str s,.str t]) (by simp[Q];rfl) A rfl
def ZAX (s:List UInt8):List Int:=s.map fun c=>(c.toNat:Int)
theorem ZlK {s done r:List UInt8}{b:UInt8}(h:s=done++b::r):Zw (.str s) (.int .i64 (done.length:Int))=some (.int .u8 b.toNat) :=
 Y1 (by rw[h,zQ (yD _)];simp)
def isD (b:UInt8):Bool:=decide (48<=(b.toNat:Int))&&decide ((b.toNat:Int)<=57)
def Zq (l:List UInt8):Nat:=(l.takeWhile isD).length
theorem Zu5:Zq []=0:=rfl
theorem ZhE (b:UInt8)(l:List UInt8):Zq (b::l)=if isD b then Zq l+1 else 0:=by
 unfold Zq;rw[List.takeWhile_cons];split <;> simp_all
theorem Zmv (l:List UInt8):Zq l<=l.length:=by
 induction l with
 |nil=>simp[Zq]
 |cons b l g=>rw[ZhE];split <;> simp <;> omega
theorem Znh {s:List UInt8}(D:s.length<=1048576)(z H:Hp):∀ (k p:Nat),s.length-p=k->p<=s.length ->
 Qp (.str s) (.int .i64 (p:Int)) z H=some (.int .i64 ((p+Zq (s.drop p):Nat):Int),H):=by
 intro k
 induction k with
 |zero =>
  intro p hk B;rw[Rl];have g:decide ((p:Int)<(s.length:Int))=false:=by simp;omega
  have A:s.drop p=[]:=zH.2 (by omega);simp only[go_sem,g,A,Zu5,yV,J4]
 |succ k C =>
  intro p hk B;rw[Rl];have g:decide ((p:Int)<(s.length:Int))=true:=by simp;omega
  have j:p<s.length:=by omega
  have hw:xH.wrap ((p:Int)+1)=((p+1:Nat):Int):=by rw[Zr (by omega) (by omega)];omega
  simp only[go_sem,g,Y1 (zD j)];rw[UU j,ZhE]
  cases u:decide (48<=((s[p].toNat:Int))) with
  |false=>simp only[isD,u,go_sem,xE,zE,if_false,yV,J4]
  |true =>
   cases w:decide (((s[p].toNat:Int))<=57) with
   |false=>simp only[isD,u,w,go_sem,Y1 (zD j),Bool.and_false,zE,if_false,yV,J4]
   |true =>
    simp only[isD,u,w,go_sem,Y1 (zD j),Bool.and_true,if_true,O0,hw];rw[C (p+1) (by omega) (by omega),show p+1+Zq (s.drop (p+1))=p+(Zq (s.drop (p+1))+1) by omega]
theorem Zex (s:List UInt8)(g:s.length<=1048576)(H:Hp):Zf QX [.str s] H=some (.int .i64 (Zq s:Int),H):=by
 refine Xy (a':=.str s) (H1:=[]) rfl ?_ rfl;rw[Zas];have:=Znh g [] [] s.length 0 rfl (by omega);rw[show ((0:Nat):Int)=0 from rfl,zW,zK]at this;exact this
def dg (b:UInt8):Int:=IntKind.u8.wrap ((b.toNat:Int)-48)
theorem Wi (b:UInt8):0<=dg b/\dg b<=255:=by
 unfold dg;have h:=b.toNat_lt;show 0<=((b.toNat:Int)-48) % 256/\((b.toNat:Int)-48) % 256<=255;omega
theorem ZxE (b:UInt8):Wh .i64 (.int .u8 (IntKind.u8.wrap ((b.toNat:Int)-48)))=some (.int .i64 (dg b)):=by
 have:=Wi b;show some (zJ .i64 (xH.wrap (dg b)))=_;rw[Zr (by omega) (by omega)]
def fr:Nat->List UInt8->Int->Int
 |0,_,d=>d
 |k+1,[],d=>fr k [] (d*10)
 |k+1,b::l,d=>fr k l (d*10+dg b)
theorem ZzG (k:Nat)(d:Int):fr (k+1) [] d=fr k [] (d*10):=(Eq.refl _).trans (Eq.refl _)
theorem Zyy (k:Nat)(b:UInt8)(l:List UInt8)(d:Int):fr (k+1) (b::l) d=fr k l (d*10+dg b):=(Eq.refl _).trans (Eq.refl _)
theorem ZsR (s:List UInt8)(Q:s.length<=1048576)(I H:Hp):∀ (k i:Nat) (d p:Int),i+k=4->0<=d->d+1000<=2000000000*p->p*10 ^ k<=10000 ->
 Up (.str s) (.int .i64 d) (.int .i64 (i:Int)) I H=some (.int .i64 (fr k (s.drop i) d),H):=by
 intro k
 induction k with
 |zero =>
  intro i d p B J K E;rw[D3];have j:decide ((i:Int)<4)=false:=by simp;omega
  simp only[go_sem,j,HI,fr]
 |succ k F =>
  intro i d p B J K E;rw[D3];have j:decide ((i:Int)<4)=true:=by simp;omega
  have z:xH.wrap ((i:Int)+1)=((i+1:Nat):Int):=by rw[Zr (by omega) (by omega)];omega
  have u:p*10*10 ^ k<=10000:=by rw[Int.mul_assoc,show (10:Int)*10 ^ k=10 ^ (k+1) by rw[Int.pow_succ,Int.mul_comm]];exact E
  have C:(1:Int)<=10 ^ k:=Int.add_one_le_iff.2 (Int.pow_pos (by decide))
  have O:p*10<=10000:=by
   by_cases N:0<=p
   ·have:=Int.mul_le_mul_of_nonneg_left C (show 0<=p*10 by omega);omega
   ·omega
  have D:xH.wrap (d*10)=d*10:=Zr (by omega) (by omega);simp only[go_sem,j,HJ,D,YI];by_cases hi:i<s.length
  ·have hb:=Wi s[i];have g:decide ((i:Int)<(s.length:Int))=true:=by simp;omega
   have w:xH.wrap (d*10+dg s[i])=d*10+dg s[i]:=Zr (by omega) (by omega);simp only[g,go_sem,Y1 (zD hi),ZxE,w,D2,z];rw[F (i+1) _ (p*10) (by omega) (by omega) (by omega) u,UU hi,Zyy]
  ·have g:decide ((i:Int)<(s.length:Int))=false:=by simp;omega
   have M:s.drop i=[]:=zH.2 (by omega);have A:s.drop (i+1)=[]:=zH.2 (by omega);simp only[g,go_sem,D2,z];rw[F (i+1) _ (p*10) (by omega) (by omega) (by omega) u,M,A,ZzG]
theorem ZsQ (s:List UInt8)(g:s.length<=1048576)(H:Hp):Zf KE [.str s] H=some (.int .i64 (fr 4 s 0),H):=by
 refine Xy (a':=.str s) (H1:=[]) rfl ?_ rfl;rw[Ai];have:=ZsR s g [] [] 4 0 0 1 rfl (by omega) (by omega) (by decide);rw[show ((0:Nat):Int)=0 from rfl,zW]at this;exact this
def Zde:List UInt8->Int->Option Int
 |[],d=>some d
 |b::l,d=>if 1000000000<d*10+dg b then none else Zde l (d*10+dg b)
theorem ZjR (b:UInt8)(l:List UInt8)(d:Int):Zde (b::l) d=if 1000000000<d*10+dg b then none else Zde l (d*10+dg b):=(Eq.refl _).trans (Eq.refl _)
theorem Zji (l:List UInt8):0<=fr 4 l 0/\fr 4 l 0<=1000000:=by
 match l with
 |[]=>simp[fr]
 |[a]=>have:=Wi a;simp[fr];omega
 |[a,b]=>have:=Wi a;have:=Wi b;simp[fr];omega
 |[a,b,c]=>have:=Wi a;have:=Wi b;have:=Wi c;simp[fr];omega
 |a::b::c::d::l=>have:=Wi a;have:=Wi b;have:=Wi c;have:=Wi d;simp[fr];omega
def ZqK (w f:List UInt8):Option Int:=match Zde w 0 with
 |none=>none
 |some d=>some (d*10000+fr 4 f 0)
def Pk (w f:List UInt8):Int:=match ZqK w f with
 |none=>10000000000001
 |some n=>min 10000000000001 n
theorem Zrs (s f:List UInt8)(J:s.length<=1048576)(E:f.length<=1048576)(B H:Hp):∀ (r done:List UInt8) (d:Int),s=done++r->0<=d->d<=1000000000 ->
 J6 (.str s) (.str f) (.int .i64 d) (.int .i64 (s.length:Int)) (.int .i64 (done.length:Int)) B H=some (.int .i64 (match Zde r d with
  |none=>10000000000001
  |some n=>min 10000000000001 (n*10000+fr 4 f 0)),H):=by
 intro r
 induction r with
 |nil =>
  intro done d w C D;rw[zR]at w;subst w;rw[Ta];have g:decide ((s.length:Int)<(s.length:Int))=false:=by simp
  have F:=Zji f;have j:xH.wrap (d*10000)=d*10000:=Zr (by omega) (by omega);have u:xH.wrap (d*10000+fr 4 f 0)=d*10000+fr 4 f 0:=Zr (by omega) (by omega);simp only[go_sem,g,Zaz,j,ZsQ f E,u,Zde]
 |cons b r I =>
  intro done d w C D;have hlen:s.length=done.length+(r.length+1):=by rw[w];simp
  have g:decide ((done.length:Int)<(s.length:Int))=true:=by simp;omega
  have A:xH.wrap ((done.length:Int)+1)=((done.length+1:Nat):Int):=by rw[Zr (by omega) (by omega)];omega
  have hb:=Wi b;have j:xH.wrap (10*d)=d*10:=by rw[Zr (by omega) (by omega)];omega
  have u:xH.wrap (d*10+dg b)=d*10+dg b:=Zr (by omega) (by omega);rw[Ta,ZjR];simp only[go_sem,g,ZaA,j,ZlK w,ZxE,u];by_cases z:1000000000<d*10+dg b
  ·simp only[decide_eq_true z,go_sem,if_pos z]
  ·have:=I (done++[b]) (d*10+dg b) (by rw[w];simp) (by omega) (by omega);rw[zP,zM]at this;simp only[decide_eq_false z,go_sem,if_neg z,ZaB,A,this]
theorem Zrr (s f:List UInt8)(j:s.length<=1048576)(g:f.length<=1048576)(H:Hp):Zf FB [.str s,.str f] H=some (.int .i64 (Pk s f),H):=by
 refine DG (a':=.str s) (b':=.str f) (H1:=[]) rfl rfl ?_ rfl;rw[Zbg];unfold SG;have:=Zrs s f j g [] [] s [] 0 rfl (by omega) (by omega);rw[zC,show ((0:Nat):Int)=0 from rfl]at this;simp only[go_sem,this];unfold Pk ZqK;cases Zde s 0 <;> rfl
def Od (neg:Bool)(n:Nat)(w f:List UInt8):Int :=
 if n=0/\f=[] then 0 else if neg then -(min 10000000000000 (Pk w f)) else min 10000000000000 (Pk w f)
def HV (neg:Bool)(r:List UInt8):Int :=
 match r.drop (Zq r) with
 |[]=>Od neg (Zq r) (r.take (Zq r)) []
 |b::q=>if (((b.toNat:Int)==46)&&(decide (0<Zq r) || decide (0<Zq q)))=true then Od neg (Zq r) (r.take (Zq r)) (q.take (Zq q)) else Od neg (Zq r) (r.take (Zq r)) []
theorem ZwK {neg:Bool}{r:List UInt8}(h:r.drop (Zq r)=[]):HV neg r=Od neg (Zq r) (r.take (Zq r)) []:=by unfold HV;rw[h]
theorem ZtL {neg:Bool}{r:List UInt8}{b:UInt8}{q:List UInt8}(h:r.drop (Zq r)=b::q):HV neg r=if (((b.toNat:Int)==46)&&(decide (0<Zq r) || decide (0<Zq q)))=true then Od neg (Zq r) (r.take (Zq r)) (q.take (Zq q)) else Od neg (Zq r) (r.take (Zq r)) []:=by unfold HV;rw[h]
theorem Zro:∀ (l:List UInt8) (d n:Int),0<=d->d<=1000000000->Zde l d=some n->0<=n/\n<=1000000000:=by
 intro l
 induction l with
 |nil=>intro d n g j h;injection h with h;subst h;exact⟨g,j⟩
 |cons b l u =>
  intro d n g j h;rw[ZjR]at h;have:=Wi b;split at h
  ·cases h
  ·exact u _ n (by omega) (by omega) h
theorem ZqL {w f:List UInt8}{n:Int}(h:ZqK w f=some n):0<=n/\n<=10000001000000:=by
 unfold ZqK at h;split at h
 ·cases h
 ·rename_i d g;injection h with h;have:=Zro w 0 d (by omega) (by omega) g;have:=Zji f;omega
theorem Zrn (w f:List UInt8):0<=Pk w f/\Pk w f<=10000000000001:=by
 unfold Pk;split
 ·omega
 ·rename_i n h;have:=ZqL h;omega
theorem ZAv (x y:AV):ZQ (.tuple [x,y]) 0=some x:=rfl
theorem ZAw (x y:AV):ZQ (.tuple [x,y]) 1=some y:=rfl
theorem Zo6 (n:Int):Xo .neg (.int .i64 n)=some (.int .i64 (xH.wrap (0-n))):=(Eq.refl _).trans (Eq.refl _)
theorem Zhv (neg:Bool)(n:Nat)(w f:List UInt8)(hw:w.length<=1048576)(D:f.length<=1048576)(e:Int)(z H:Hp) :
 ∃ B,Ww (.bool neg) (.int .i64 (n:Int)) (.str w) (.str f) (.int .i64 e) z H=some (.tuple [.int .i64 (Od neg n w f),.int .i64 B],H):=by
 have E:=Zrn w f
 have j:UO (.int .i64 10000000000000) (.int .i64 (Pk w f))=some (.int .i64 (min 10000000000000 (Pk w f))):=by
  unfold UO;simp only[if_true];congr 2;split <;> omega
 have u:xH.wrap (0-min 10000000000000 (Pk w f))=-(min 10000000000000 (Pk w f)):=by rw[Zr (by omega) (by omega)];omega
 have g:Bu (.bool neg) (.str w) (.str f) (.int .i64 e) z H=some (.tuple [.int .i64 (if neg then -(min 10000000000000 (Pk w f)) else min 10000000000000 (Pk w f)),.int .i64 e],H):=by
  rw[IZ];simp only[go_sem,Zrr w f hw D,j]
  cases neg with
  |true=>simp only[go_sem,Zo6,u,Ri,if_true]
  |false=>simp only[go_sem,Ri,zE,if_false]
 have A:YK .eql (.str f) (.str [])=some (.bool (f==[])):=rfl;rw[IY];unfold Od
 cases n with
 |zero =>
  cases f with
  |nil=>exact⟨0,by simp[go_sem,YK];rfl⟩
  |cons b f =>
   have A:YK .eql (.str (b::f)) (.str [])=some (.bool false):=rfl;refine⟨e,?_⟩;simp[go_sem,A,g]
 |succ n =>
  refine⟨e,?_⟩
  have C:(((n+1:Nat):Int)==0)=false:=by
   rw[beq_eq_false_iff_ne];omega
  simp only[go_sem,C,g];simp
theorem Zmw {s:List UInt8}{i:Nat}(h:i<=s.length):Y8 (.str s) (some (.int .i64 (i:Int))) none none=some (.str (s.drop i)):=by
 rw[MJ .i64 (by omega) (by omega)];simp
theorem Zhu (s:List UInt8)(X:s.length<=1048576)(neg:Bool){i:Nat}(hi:i<=s.length)(K H:Hp) :
 ∃ e,Qn (.str s) (.int .i64 (i:Int)) (.bool neg) K H=some (.tuple [.int .i64 (HV neg (s.drop i)),.int .i64 e],H):=by
 have W:(s.drop i).length=s.length-i:=zZ;have hn:=Zmv (s.drop i);have S:xH.wrap ((i:Int)+(Zq (s.drop i):Int))=((i+Zq (s.drop i):Nat):Int):=by rw[Zr (by omega) (by omega)];omega
 have R:(s.take (i+Zq (s.drop i))).drop i=(s.drop i).take (Zq (s.drop i)):=by rw[xF];congr 1;omega
 rw[IX];simp only[go_sem,Zmw hi,Zex _ (show (s.drop i).length<=1048576 by omega),S,DW (show i<=i+Zq (s.drop i) by omega) (show i+Zq (s.drop i)<=s.length by omega),R,YI];have z:((s.drop i).take (Zq (s.drop i))).length<=1048576:=by rw[yF];omega
 by_cases N:i+Zq (s.drop i)<s.length
 ·have O:decide (((i+Zq (s.drop i):Nat):Int)<(s.length:Int))=true:=by simp;omega
  have Q:(s.drop i).drop (Zq (s.drop i))=s[i+Zq (s.drop i)]::s.drop (i+Zq (s.drop i)+1):=by
   rw[List.drop_drop,UU N]
  have u:xH.wrap (((i+Zq (s.drop i):Nat):Int)+1)=((i+Zq (s.drop i)+1:Nat):Int):=by rw[Zr (by omega) (by omega)];omega
  have V:(s.drop (i+Zq (s.drop i)+1)).length=s.length-(i+Zq (s.drop i)+1):=zZ;have hk:=Zmv (s.drop (i+Zq (s.drop i)+1));rw[ZtL Q];simp only[O,go_sem,Y1 (zD N)]
  cases T:((s[i+Zq (s.drop i)].toNat:Int)==46) with
  |false =>
   simp only[go_sem,xE,zE,if_false];exact Zhv neg _ _ _ z (by simp) _ K H
  |true =>
   have B:xH.wrap (((i+Zq (s.drop i)+1:Nat):Int)+(Zq (s.drop (i+Zq (s.drop i)+1)):Int))=((i+Zq (s.drop i)+1+Zq (s.drop (i+Zq (s.drop i)+1)):Nat):Int):=by rw[Zr (by omega) (by omega)];omega
   have C:xH.wrap ((1:Int)+(Zq (s.drop (i+Zq (s.drop i)+1)):Int))=((1+Zq (s.drop (i+Zq (s.drop i)+1)):Nat):Int):=by rw[Zr (by omega) (by omega)];omega
   have A:(s.take (i+Zq (s.drop i)+1+Zq (s.drop (i+Zq (s.drop i)+1)))).drop (i+Zq (s.drop i)+1)=(s.drop (i+Zq (s.drop i)+1)).take (Zq (s.drop (i+Zq (s.drop i)+1))):=by rw[xF];congr 1;omega
   have hfl:((s.drop (i+Zq (s.drop i)+1)).take (Zq (s.drop (i+Zq (s.drop i)+1)))).length<=1048576:=by rw[yF];omega
   have j:∀ n:Nat,decide ((0:Int)<(n:Int))=decide (0<n):=fun n=>by simp
   simp only[go_sem,u,Zmw (show i+Zq (s.drop i)+1<=s.length by omega),Zex _ (show (s.drop (i+Zq (s.drop i)+1)).length<=1048576 by omega),j,Bool.true_and]
   have g:∃ e,(Z0 (Z5 .add (.int .i64 ((i+Zq (s.drop i):Nat):Int)) (.int .i64 1)) fun D =>
    Z0 (Z5 .add (.int .i64 ((i+Zq (s.drop i):Nat):Int)) (.int .i64 1)) fun E =>
    Z0 (Z5 .add E (.int .i64 (Zq (s.drop (i+Zq (s.drop i)+1)):Int))) fun F =>
    Z0 (Y8 (.str s) (some D) (some F) none) fun I =>
    Z0 (Z5 .add (.int .i64 1) (.int .i64 (Zq (s.drop (i+Zq (s.drop i)+1)):Int))) fun J =>
    Z0 (Z5 .add (.int .i64 ((i+Zq (s.drop i):Nat):Int)) J) fun w =>
    Ww (.bool neg) (.int .i64 (Zq (s.drop i):Int)) (.str ((s.drop i).take (Zq (s.drop i)))) I w K H)=some (.tuple [.int .i64 (Od neg (Zq (s.drop i)) ((s.drop i).take (Zq (s.drop i))) ((s.drop (i+Zq (s.drop i)+1)).take (Zq (s.drop (i+Zq (s.drop i)+1))))),.int .i64 e],H):=by
    simp only[go_sem,u,B,C,DW (show i+Zq (s.drop i)+1<=i+Zq (s.drop i)+1+Zq (s.drop (i+Zq (s.drop i)+1)) by omega) (show i+Zq (s.drop i)+1+Zq (s.drop (i+Zq (s.drop i)+1))<=s.length by omega),A];exact Zhv neg _ _ _ z hfl _ K H
   simp only[go_sem,u,B,C,DW (show i+Zq (s.drop i)+1<=i+Zq (s.drop i)+1+Zq (s.drop (i+Zq (s.drop i)+1)) by omega) (show i+Zq (s.drop i)+1+Zq (s.drop (i+Zq (s.drop i)+1))<=s.length by omega),A]at g
   cases U:decide (0<Zq (s.drop i)) with
   |true =>
    simp only[go_sem,yB,if_true,u,B,C,DW (show i+Zq (s.drop i)+1<=i+Zq (s.drop i)+1+Zq (s.drop (i+Zq (s.drop i)+1)) by omega) (show i+Zq (s.drop i)+1+Zq (s.drop (i+Zq (s.drop i)+1))<=s.length by omega),A];exact g
   |false =>
    cases M:decide (0<Zq (s.drop (i+Zq (s.drop i)+1))) with
    |true =>
     simp only[go_sem,j,M,yH,if_true,u,B,C,DW (show i+Zq (s.drop i)+1<=i+Zq (s.drop i)+1+Zq (s.drop (i+Zq (s.drop i)+1)) by omega) (show i+Zq (s.drop i)+1+Zq (s.drop (i+Zq (s.drop i)+1))<=s.length by omega),A];exact g
    |false =>
     simp only[go_sem,j,M,yR,zE,if_false];exact Zhv neg _ _ _ z (by simp) _ K H
 ·have O:decide (((i+Zq (s.drop i):Nat):Int)<(s.length:Int))=false:=by simp;omega
  have Q:(s.drop i).drop (Zq (s.drop i))=[]:=zH.2 (by omega);rw[ZwK Q];simp only[O,go_sem];exact Zhv neg _ _ _ z (by simp) _ K H
def ZqU:List UInt8->Int
 |[]=>HV false []
 |b::r=>if (((b.toNat:Int)==45) || ((b.toNat:Int)==43))=true then HV ((b.toNat:Int)==45) r else HV ((b.toNat:Int)==45) (b::r)
theorem ZtK (b:UInt8)(r:List UInt8):ZqU (b::r)=if (((b.toNat:Int)==45) || ((b.toNat:Int)==43))=true then HV ((b.toNat:Int)==45) r else HV ((b.toNat:Int)==45) (b::r):=(Eq.refl _).trans (Eq.refl _)
def ZqV (s:List UInt8):Int:=ZqU (s.drop (YE s))
theorem ZtM (s:List UInt8)(A:s.length<=1048576){i:Nat}(hi:i<=s.length)(w H:Hp) :
 ∃ e,Bt (.str s) (.int .i64 (i:Int)) w H=some (.tuple [.int .i64 (ZqU (s.drop i)),.int .i64 e],H):=by
 rw[IW];by_cases j:i<s.length
 ·have u:decide ((i:Int)<(s.length:Int))=true:=by simp;omega
  have z:xH.wrap ((i:Int)+1)=((i+1:Nat):Int):=by rw[Zr (by omega) (by omega)];omega
  have g:=Y1 (zD j);rw[UU j];simp only[YI,go_sem,u,g,ZtK]
  cases D:((s[i].toNat:Int)==45) with
  |true =>
   simp only[go_sem,u,g,z,yB,if_true];exact Zhu s A true (by omega) w H
  |false =>
   simp only[go_sem,YI,u,g]
   cases C:((s[i].toNat:Int)==43) with
   |true =>
    simp only[go_sem,u,g,z,yH,if_true];exact Zhu s A false (by omega) w H
   |false =>
    simp only[go_sem,yR,Bool.or_self,zE,if_false];rw[<-UU j];exact Zhu s A false (by omega) w H
 ·have u:decide ((i:Int)<(s.length:Int))=false:=by simp;omega
  have B:s.drop i=[]:=zH.2 (by omega);simp only[YI,go_sem,u,B];have:=Zhu s A false hi w H;rw[B]at this;exact this
theorem ZA6 (s:List UInt8)(F:s.length<=1048576)(C H:Hp):∀ (k i:Nat),s.length-i=k->i<=s.length ->
 ∃ e,Qo (.str s) (.int .i64 (i:Int)) C H=some (.tuple [.int .i64 (ZqU ((s.drop i).drop (YE (s.drop i)))),.int .i64 e],H):=by
 intro k
 induction k with
 |zero =>
  intro i hk hi;have u:decide ((i:Int)<(s.length:Int))=false:=by simp;omega
  have I:s.drop i=[]:=zH.2 (by omega);rw[Rk];simp only[YI,go_sem,u];have:=ZtM s F hi C H;rw[I]at this ⊢;exact this
 |succ k J =>
  intro i hk hi;have D:i<s.length:=by omega
  have u:decide ((i:Int)<(s.length:Int))=true:=by simp;omega
  have A:xH.wrap ((i:Int)+1)=((i+1:Nat):Int):=by rw[Zr (by omega) (by omega)];omega
  have z:=Y1 (zD D);have B:=J (i+1) (by omega) (by omega)
  have g:Xk s[i]=true->(s.drop i).drop (YE (s.drop i))=(s.drop (i+1)).drop (YE (s.drop (i+1))):=fun h=>by
   rw[UU D,VH,h,if_pos rfl,List.drop_succ_cons]
  have w:Xk s[i]=false->(s.drop i).drop (YE (s.drop i))=s.drop i:=fun h=>by
   rw[UU D,VH,h];simp
  have hb:Xk s[i]=(((s[i].toNat:Int)==32) || ((s[i].toNat:Int)==9)):=by
   rw[Xk,(C4 s[i]).1,(C4 s[i]).2]
  rw[Rk];simp only[YI,go_sem,u,z]
  cases j:((s[i].toNat:Int)==32) with
  |true =>
   simp only[go_sem,Rj,A];rw[g (by rw[hb,j];rfl)];exact B
  |false =>
   simp only[go_sem,z]
   cases E:((s[i].toNat:Int)==9) with
   |true =>
    simp only[go_sem,Rj,A];rw[g (by rw[hb,j,E];rfl)];exact B
   |false =>
    simp only[go_sem];rw[w (by rw[hb,j,E];rfl)];exact ZtM s F hi C H
theorem Zma (s:List UInt8)(g:s.length<=1048576)(H:Hp):∃ e,Zf QW [.str s] H=some (.tuple [.int .i64 (ZqV s),.int .i64 e],H):=by
 obtain⟨e,h⟩:=ZA6 s g [] [] _ 0 rfl (yK _);rw[show ((0:Nat):Int)=0 from rfl,zW]at h;refine⟨e,Xy (a':=.str s) (H1:=[]) rfl ?_ rfl⟩;rw[Zar];exact h
def HY (a b:Int):Int:=if a<b then -1 else if b<a then 1 else 0
theorem Zu4 (a b:Int)(H:Hp):Zf TE [.int .i64 a,.int .i64 b] H=some (.int .i64 (HY a b),H):=by
 refine DG (a':=.int .i64 a) (b':=.int .i64 b) (H1:=[]) rfl rfl ?_ rfl;rw[ZdJ];unfold Av HY;by_cases h:a<b
 ·simp only[go_sem,decide_eq_true h,if_pos h]
 ·by_cases g:b<a
  ·simp only[go_sem,decide_eq_false h,if_neg h,decide_eq_true g,if_pos g]
  ·simp only[go_sem,decide_eq_false h,if_neg h,decide_eq_false g,if_neg g,Zdb]
def Zdk (b:UInt8):Bool:=Xk b || Ztg b.toNat || PA b.toNat
def DF (s:List UInt8):List UInt8:=s.filter Zdk
theorem Zsq:((yO 256).all fun n=>(Re (Zkq (.bool (Xk (zV n))) (.int .u8 (n:Int)))==some (Zdk (zV n)))&&(Re (ZtS (.bool (Xk (zV n))) (.int .u8 (n:Int)))==some (Zdk (zV n))))=true:=by kernel_rfl
theorem Zvz (b:UInt8):Zkq (.bool (Xk b)) (.int .u8 b.toNat)=some (.bool (Zdk b))/\ZtS (.bool (Xk b)) (.int .u8 b.toNat)=some (.bool (Zdk b)):=by
 have:=V6 Zsq (Zdz b);rw[yX,yY,beq_iff_eq,beq_iff_eq]at this;exact⟨Qd this.1,Qd this.2⟩
theorem Zv9 (g:List UInt8)(b:UInt8)(h:g.length<=1048576):byteE.run [.ptr 0 0,.int .u8 b.toNat] [yJ 201 5 g]=some (.nili,[yJ 201 5 (g++[b])]):=by
 have hb:=b.toNat_lt;have u:g.length+1<=Zfn:=by unfold Zfn;omega
 have j:Zgy [.int .u8 b.toNat]=some fun l=>if l.length+1<=Zfn then some (.nili,l++[zV (b.toNat:Int).toNat]) else none:=by
  simp only[Zgy,if_pos (show (0:Int)<=(b.toNat:Int)/\(b.toNat:Int)<256 by omega)]
 simp only[byteE,Zxy,Zil,LT,j,zI,Zf4,TH,TI,and_self,if_true,if_pos u,yT,Int.toNat_natCast,yX]
theorem ZhH (g:List UInt8):stringE.run [.ptr 0 0] [yJ 201 5 g]=some (.str g,[yJ 201 5 g]):=rfl
theorem Zss (s:List UInt8)(B:s.length<=1048576)(A:Hp):∀ (r done:List UInt8) (g:List UInt8),s=done++r->g.length<=done.length ->
 ∃ H',Kx (.str s) (.ptr 0 0) (.int .i64 (s.length:Int)) (.int .i64 (done.length:Int)) A [yJ 201 5 g]=some (.str (g++DF r),H'):=by
 intro r
 induction r with
 |nil =>
  intro done g j ha;rw[zR]at j;subst j;have u:decide ((s.length:Int)<(s.length:Int))=false:=by simp
  refine⟨[yJ 201 5 g],?_⟩;rw[Ni];simp only[go_sem,u,Zd9,ZhH];simp[DF]
 |cons b r z =>
  intro done g j ha;have hlen:s.length=done.length+(r.length+1):=by rw[j];simp
  have u:decide ((done.length:Int)<(s.length:Int))=true:=by simp;omega
  have w:xH.wrap ((done.length:Int)+1)=((done.length+1:Nat):Int):=by rw[Zr (by omega) (by omega)];omega
  rw[Ni];simp only[go_sem,u,OE,ZlK j,IL,(Zvz b).1]
  cases hb:Zdk b with
  |true =>
   obtain⟨H',h⟩:=z (done++[b]) (g++[b]) (by rw[j];simp) (by simp;omega);rw[zP,zM]at h;refine⟨H',?_⟩;simp only[go_sem,Zv9 g b (by omega),Nh,w,h,DF,xA,hb,if_true,List.append_assoc,List.singleton_append]
  |false =>
   obtain⟨H',h⟩:=z (done++[b]) g (by rw[j];simp) (by simp;omega);rw[zP,zM]at h;refine⟨H',?_⟩;simp only[go_sem,Nh,w,h,DF,xA,hb,zE,if_false]
theorem Zsr (s:List UInt8)(g:s.length<=1048576)(H:Hp):Zf TD [.str s] H=some (.str (DF s),H):=by
 obtain⟨H',h⟩:=Zss s g [] s [] [] rfl (yD _);rw[zC,show ((0:Nat):Int)=0 from rfl,zB]at h;refine Xy (a':=.str s) (H1:=H') rfl ?_ rfl;rw[ZdI];unfold Au;simp only[go_sem,zC,zB,h]
theorem TK (s:List UInt8):(DF s).length<=s.length:=List.length_filter_le _ _
def Xi (s:List UInt8):List UInt8:=s.drop (YE s)
theorem O2 (s:List UInt8):(Xi s).length<=s.length:=by unfold Xi;rw[zZ];omega
theorem Zni (b:UInt8)(s:List UInt8):Xi (b::s)=if Xk b then Xi s else b::s:=by
 unfold Xi;rw[VH];split <;> simp
theorem Zri (s:List UInt8):Go.Lib.trimLeftS s [32,9]=Xi s:=by
 unfold Go.Lib.trimLeftS
 induction s with
 |nil=>rfl
 |cons b s g =>
  rw[Zni,List.dropWhile_cons]
  have:([32,9]:List UInt8).contains b=Xk b:=by
   rw[yU,yU,Xk];simp
  rw[this,g]
theorem Zuw (s:List UInt8)(H:Hp):Zf Bk [.str s] H=some (.str (Xi s),H):=by
 refine Xy (a':=.str s) (H1:=[]) rfl ?_ rfl;rw[Iy];unfold M9
 have:Zdy [.str s,.str [32,9]]=some (.str (Xi s)):=by
  unfold Zdy;dsimp only;rw[if_pos ⟨by decide,by decide⟩,Zri]
 simp only[go_sem,Ae,this]
theorem ZAq (L:Loc)(s:List UInt8):(upS L s).length=s.length:=by simp[upS,V9]
theorem ZsO {l:List AV}{L:Loc}(h:LocCells l L)(hok:LocOk L)(s:List UInt8)(z:s.length<=1048576)(H:Hp):Zf Bl [.str s,.vp l] H=some (.str (upS L s),H):=by
 obtain⟨B,j,x,c,e,rfl,hx,u,w⟩:=h.close [] 0 5;have g:Zb [] 0 9 (.vp l)=some (.vp (L.cells x c e)):=by rw[US,j]
 refine DG (a':=.str s) rfl g (H1:=[]) ?_ rfl;rw[Iz];unfold Ma;have A:=Zrk (L:=L) ⟨x,c,e,rfl,hx,u,w⟩ hok s z [];simp only[go_sem,V7 6 (L.cells x c e) rfl,A.1]
def Q3 (L:Loc)(n:Nat)(s:List UInt8):List UInt8 :=
 let s1:=if n.testBit 3 then Xi s else s
 let s2:=if n.testBit 4 then DF s1 else s1
 if n.testBit 2 then upS L s2 else s2
theorem ZjJ (L:Loc)(n:Nat)(s:List UInt8):(Q3 L n s).length<=s.length:=by
 have g:=O2 s;have j:=TK s;have u:=TK (Xi s);simp only[Q3];split <;> split <;> split <;> (try rw[ZAq]) <;> omega
theorem Zft:∀ a b:List Int,VG a b=-1\/VG a b=0\/VG a b=1:=by
 intro a
 induction a with
 |nil=>intro b;cases b <;> simp[VG]
 |cons x a g =>
  intro b
  cases b with
  |nil=>simp[VG]
  |cons y b =>
   rw[QV];split
   ·simp
   ·split
    ·simp
    ·exact g b
theorem Zvr (a b:List UInt8):J3 a b=-1\/J3 a b=0\/J3 a b=1:=by rw[<-Zl3];exact Zft _ _
theorem Zl4 (L:Loc)(a b:List UInt8):Bq L a b=-1\/Bq L a b=0\/Bq L a b=1:=by
 unfold Bq;split
 ·exact Zft _ _
 ·exact Zvr _ _
theorem Zmu (a b:Int):HY a b=-1\/HY a b=0\/HY a b=1:=by
 unfold HY;split
 ·simp
 ·split <;> simp
def N9 (L:Loc)(n:Nat)(x y:List UInt8):Int:=if n.testBit 0 then HY (ZqV x) (ZqV y) else Bq L (Q3 L n x) (Q3 L n y)
def Q1 (L:Loc)(n:Nat)(x y:List UInt8):Int:=if n.testBit 1 then -N9 L n x y else N9 L n x y
theorem ZmI {c t:Int}(g:c=-1\/c=0\/c=1)(j:t=1\/t=-1):xH.wrap (t*c)=if t=-1 then -c else c:=by
 rcases j with rfl|rfl <;> rcases g with rfl|rfl|rfl <;> decide
section
variable {n:Nat}(hn:n<32)
include hn
theorem Zzt:Z5 .and (.int .i64 n) (.int .i64 1)=some (.int .i64 (if n.testBit 0 then 1 else 0)):=ZbX (j:=0) hn (by decide)
theorem ZuV:Z5 .and (.int .i64 n) (.int .i64 2)=some (.int .i64 (if n.testBit 1 then 2 else 0)):=ZbX (j:=1) hn (by decide)
theorem ZAT:Z5 .and (.int .i64 n) (.int .i64 4)=some (.int .i64 (if n.testBit 2 then 4 else 0)):=ZbX (j:=2) hn (by decide)
theorem ZAU:Z5 .and (.int .i64 n) (.int .i64 8)=some (.int .i64 (if n.testBit 3 then 8 else 0)):=ZbX (j:=3) hn (by decide)
theorem ZAy:Z5 .and (.int .i64 n) (.int .i64 16)=some (.int .i64 (if n.testBit 4 then 16 else 0)):=ZbX (j:=4) hn (by decide)
end
theorem ZgX {f:List AV->Hp->Z3}{a a' b b' c c' d d' v:AV}{H H1:Hp}(ha:Zb [] 0 9 a=some a')(hb:Zb [] 0 9 b=some b')(j:Zb [] 0 9 c=some c')(u:Zb [] 0 9 d=some d')(g:f [a',b',c',d'] []=some (v,H1))(w:DH 3 v=true):Zf f [a,b,c,d] H=some (v,H) :=
 Vn (args':=[a',b',c',d']) (by simp[ha,hb,j,u]) g w
theorem ZlX (L:Loc)(x c e:AV)(r:List AObj):Z4 true 6 (.ptr 0 0) (zA (L.cells x c e)::r)=some (.agg (L.cells x c e)):=by simp[Z4,Go.Am.apart,Loc.cells]
theorem ZyQ {c:Int}(g:c=-1\/c=0\/c=1):xH.wrap (0-c)=-c:=by rcases g with rfl|rfl|rfl <;> decide
def KX (z:AObj)(n:Nat)(x y:List UInt8):Hp:=[z,.cells [.int .i64 n],.cells [.str x],.cells [.str y]]
theorem HC {z:AObj}{n:Nat}{x y:List UInt8}{fnv:AV}{g:List UInt8->List UInt8}{m:Int}{j:Bool}(u:Z5 .and (.int .i64 n) (.int .i64 m)=some (.int .i64 (if j then m else 0)))(B:(m != 0)=true)
 (w:∀ s:List UInt8,(s=x\/s=y)->∀ H,Xs cfg (Z9 cfg) fnv [.str s] H=some (.str (g s),H)) :
 Bj [.int .i64 m,fnv,.ptr 1 0,.ptr 2 0,.ptr 3 0] (KX z n x y)=some (.tuple [],KX z n (if j then g x else x) (if j then g y else y)):=by
 have A:Z4 false 1 (.ptr 1 0) (KX z n x y)=some (.int .i64 n):=Y5 (l:=[.int .i64 n]) rfl;have C:Z4 false 1 (.ptr 2 0) (KX z n x y)=some (.str x):=Y5 (l:=[.str x]) rfl;have D:Z4 false 1 (.ptr 3 0) (KX z n x y)=some (.str y):=Y5 (l:=[.str y]) rfl;have E:Ze 1 (.ptr 2 0) (.str (g x)) (KX z n x y)=some (.tuple [],KX z n (g x) y):=by simp[Ze,YN,KX,zU,zO,splice]
 have F:Ze 1 (.ptr 3 0) (.str (g y)) (KX z n (g x) y)=some (.tuple [],KX z n (g x) (g y)):=by simp[Ze,YN,KX,zU,zO,splice]
 rw[Ix];unfold M8
 cases j with
 |true=>simp only[go_sem,A,u,if_true,B,C,w x (.inl rfl),D,w y (.inr rfl),E,F]
 |false=>simp only[go_sem,A,u,zE,if_false,bne_self_eq_false]
theorem Zhs {a:AV}{L:Loc}(h:LocAV a L)(hok:LocOk L){n:Nat}(hn:n<32)(s t:List UInt8)(I:s.length<=1048576)(ht:t.length<=1048576)(H:Hp):Zf UM [a,.int .i64 n,.str s,.str t] H=some (.int .i64 (Q1 L n s t),H):=by
 obtain⟨a1,W,S⟩:=h.close [] 0 5;have C:=S;obtain⟨x,c,e,rfl,hx,X,Y⟩:=S;have E:LocCells (L.cells x c e) L:=⟨x,c,e,rfl,hx,X,Y⟩
 suffices I:∃ H1,UM [.agg (L.cells x c e),.int .i64 n,.str s,.str t] []=some (.int .i64 (Q1 L n s t),H1) by
  obtain⟨H1,w⟩:=I;exact ZgX W (b':=.int .i64 n) (c':=.str s) (d':=.str t) rfl rfl rfl w rfl
 have B:∀ z x y,Z4 false 1 (.ptr 1 0) (KX z n x y)=some (.int .i64 n):=fun z x y=>Y5 (l:=[.int .i64 n]) rfl;have T:∀ z x y,Z4 false 1 (.ptr 2 0) (KX z n x y)=some (.str x):=fun z x y=>Y5 (l:=[.str x]) rfl;have U:∀ z x y,Z4 false 1 (.ptr 3 0) (KX z n x y)=some (.str y):=fun z x y=>Y5 (l:=[.str y]) rfl
 have D:∀ (z:Int) (j:z=1\/z=-1),∃ H1,F5 (.ptr 0 0) (.ptr 1 0) (.ptr 2 0) (.ptr 3 0) (.int .i64 z) [] (KX (.cells (L.cells x c e)) n s t)=some (.int .i64 (if z=-1 then -Bq L (Q3 L n s) (Q3 L n t) else Bq L (Q3 L n s) (Q3 L n t)),H1):=fun z j=>by
  have Q:=HC (z:=.cells (L.cells x c e)) (n:=n) (x:=s) (y:=t) (fnv:=.fn (.func 115) [] []) (g:=Xi) (m:=8) (ZAU hn) rfl (fun r _ H=>by rw[ZdK];exact Zuw r H);have d1:=O2 s;have d2:=O2 t
  have R:=HC (z:=.cells (L.cells x c e)) (n:=n) (x:=if n.testBit 3 then Xi s else s) (y:=if n.testBit 3 then Xi t else t) (fnv:=.fn (.func 117) [] []) (g:=DF) (m:=16) (ZAy hn) rfl (fun r w H=>by
   rw[Zig];refine Zsr r ?_ H;rcases w with rfl|rfl <;> split <;> omega)
  have V:=HC (z:=.dead) (n:=n) (x:=if n.testBit 4 then DF (if n.testBit 3 then Xi s else s) else (if n.testBit 3 then Xi s else s)) (y:=if n.testBit 4 then DF (if n.testBit 3 then Xi t else t) else (if n.testBit 3 then Xi t else t)) (fnv:=.fn (.func 118) [] [.vp (L.cells x c e)]) (g:=upS L) (m:=4) (ZAT hn) rfl (fun r w H=>by
   rw[ZdL];refine ZsO E hok r ?_ H;have:=TK s;have:=TK t;have:=TK (Xi s);have:=TK (Xi t);rcases w with rfl|rfl <;> split <;> split <;> omega)
  have Z:=ZjJ L n s;have aa:=ZjJ L n t;have F:∀ (K M:List UInt8) (k:AV->Hp->Z3),V8 (.ptr 0 0) (KX (.cells (L.cells x c e)) n K M) k=k (.vp (L.cells x c e)) (KX .dead n K M):=fun K M k=>rfl;refine⟨KX .dead n (Q3 L n s) (Q3 L n t),?_⟩;rw[Zb5];simp only[go_sem,ZdP,zB,zG,Q,R,F,V,V7 6 (L.cells x c e) rfl,T,U];have J:∀ r,(if n.testBit 2=true then upS L (if n.testBit 4=true then DF (if n.testBit 3=true then Xi r else r) else if n.testBit 3=true then Xi r else r) else if n.testBit 4=true then DF (if n.testBit 3=true then Xi r else r) else if n.testBit 3=true then Xi r else r)=Q3 L n r:=fun r=>rfl;simp only[J,Zjq C hok (Q3 L n s) (Q3 L n t) (by omega) (by omega),go_sem,ZmI (Zl4 _ _ _) j]
 have u:∀ (z:Int) (j:z=1\/z=-1),∃ H1,Ju (.ptr 0 0) (.ptr 1 0) (.ptr 2 0) (.ptr 3 0) (.int .i64 z) [] (KX (.cells (L.cells x c e)) n s t)=some (.int .i64 (if z=-1 then -N9 L n s t else N9 L n s t),H1):=fun z j=>by
  rw[Zb4];unfold N9
  cases hb:n.testBit 0 with
  |true =>
   obtain⟨Q,p1⟩:=Zma s I (KX (.cells (L.cells x c e)) n s t);obtain⟨R,p2⟩:=Zma t ht (KX (.cells (L.cells x c e)) n s t);refine⟨KX (.cells (L.cells x c e)) n s t,?_⟩;simp only[go_sem,B,Zzt hn,hb,if_true,show ((1:Int) != 0)=true from rfl,T,U,p1,p2,ZAv,ZAw,Zu4,ZmI (Zmu _ _) j]
  |false =>
   obtain⟨H1,q⟩:=D z j;refine⟨H1,?_⟩;simp only[go_sem,B,Zzt hn,hb,zE,if_false,bne_self_eq_false];exact q
 have N:∀ (k:Int) (H:Hp),ZM (.int .i64 k) H=some (.ptr H.length 0,H++[.cells [.int .i64 k]]):=fun k H=>Fi rfl;have O:∀ (k:List UInt8) (H:Hp),ZM (.str k) H=some (.ptr H.length 0,H++[.cells [.str k]]):=fun k H=>Fi rfl;rw[Zbt];unfold SO;have A:[zA (L.cells x c e),.cells [.int .i64 n],.cells [.str s],.cells [.str t]]=KX (.cells (L.cells x c e)) n s t:=rfl;unfold Q1
 cases hb:n.testBit 1 with
 |true =>
  obtain⟨H1,q⟩:=u (-1) (.inr rfl);refine⟨H1,?_⟩;simp only[go_sem,N,O,zC,zF,zB,zG,zK,yA,A,B,ZuV hn,hb,if_true,show ((2:Int) != 0)=true from rfl];simpa using q
 |false =>
  obtain⟨H1,q⟩:=u 1 (.inl rfl);refine⟨H1,?_⟩;simp only[go_sem,N,O,zC,zF,zB,zG,zK,yA,A,B,ZuV hn,hb,zE,if_false,bne_self_eq_false];simpa using q
def plainP:Spec:=⟨[],-1,0,false,false⟩
def Zz (p:Spec):Spec:=if (ZK p != 0)=true then plainP else p
theorem Sl.known {k:Nat}{x:AV}{l:List AV}(h:Sl k x l):x.known=true:=by
 rcases h with ⟨rfl,_⟩|⟨tok,rfl⟩ <;> rfl
theorem ZhT {a:AV}{p:Spec}(h:SpecAV a p)(H:Hp):∃ a',Zf Vd [a] H=some (a',H)/\SpecAV a' (Zz p):=by
 obtain⟨F,C,D⟩:=h.close [] 0 5;have z:=fun H=>ML D H;obtain⟨x,rfl,hx⟩:=D;have E:Z4 true 5 (.ptr 0 0) [zA (p.cells x),.cells [.nils,.int .i64 0,.int .i64 0,.bool false,.bool false]]=some (.agg (p.cells x)):=by simp[Z4,Go.Am.apart,Spec.cells]
 unfold Zz
 cases hb:(ZK p != 0) with
 |true =>
  have j:(Xh [(1,1,(.int .i64 (-1)))] [.nils,(.int .i64 0),(.int .i64 0),(.bool false),(.bool false)]).map AV.agg=some (.agg (plainP.cells .nils)):=rfl;have w:Ze 5 (.ptr 1 0) (.agg (plainP.cells .nils)) [zA (p.cells x),.cells [.nils,.int .i64 0,.int .i64 0,.bool false,.bool false]]=some (.tuple [],[zA (p.cells x),.cells (plainP.cells .nils)]):=by simp[Ze,YN,zU,zO,Spec.cells,splice]
  have u:Z4 true 5 (.ptr 1 0) [zA (p.cells x),.cells (plainP.cells .nils)]=some (.agg (plainP.cells .nils)):=by simp[Z4,Go.Am.apart,Spec.cells]
  have g:Vd [.agg (p.cells x)] []=some (.agg (plainP.cells .nils),[zA (p.cells x),.cells (plainP.cells .nils)]):=by
   rw[PK];unfold FL;simp only[go_sem,zB,zC,zF,zG,zK,E,z,hb,j,w,u]
  obtain⟨a',A,B⟩:=SpecAV.close (a:=.agg (plainP.cells .nils)) (p:=plainP) ⟨.nils,rfl,.inl ⟨rfl,rfl⟩⟩ [zA (p.cells x),.cells (plainP.cells .nils)] 0 5;exact⟨a',TS C g A,by simpa using B⟩
 |false =>
  have w:Ze 5 (.ptr 1 0) (.agg (p.cells x)) [zA (p.cells x),.cells [.nils,.int .i64 0,.int .i64 0,.bool false,.bool false]]=some (.tuple [],[zA (p.cells x),.cells (p.cells x)]):=by simp[Ze,YN,zU,zO,Spec.cells,splice]
  have u:Z4 true 5 (.ptr 1 0) [zA (p.cells x),.cells (p.cells x)]=some (.agg (p.cells x)):=by simp[Z4,Go.Am.apart,Spec.cells]
  have g:Vd [.agg (p.cells x)] []=some (.agg (p.cells x),[zA (p.cells x),.cells (p.cells x)]):=by
   rw[PK];unfold FL;simp only[go_sem,zB,zC,zF,zG,zK,E,z,hb,Zb6,w,u]
  obtain⟨a',A,B⟩:=SpecAV.close (a:=.agg (p.cells x)) (p:=p) ⟨x,rfl,hx⟩ [zA (p.cells x),.cells (p.cells x)] 0 5;exact⟨a',TS C g A,by simpa using B⟩
theorem ZjT (p:Spec):(0<=(Zz p).flags/\(Zz p).flags<=31)/\(Zz p).keys.length<=8/\∀ k∈(Zz p).keys,0<=k.fl/\k.fl<=31:=by
 unfold Zz
 cases hb:(ZK p != 0) with
 |true=>simp[plainP]
 |false =>
  rw[bne_eq_false_iff_eq]at hb;unfold ZK at hb;split at hb
  ·cases hb
  ·split at hb
   ·cases hb
   ·split at hb
    ·cases hb
    ·rename_i w g j;simp only[yI,decide_eq_true_eq,not_or]at g;simp only[zE,if_false];refine⟨by omega,by omega,fun k hk=>?_⟩;have u:¬ JJ k=true:=fun h=>j (List.any_eq_true.2 ⟨k,hk,h⟩);simp only[JJ,yI,decide_eq_true_eq,not_or]at u;omega
theorem ZeH (p:Spec)(h:∀ k∈p.keys,KeOk k):∀ k∈(Zz p).keys,KeOk k:=by
 unfold Zz;split
 ·intro k hk;cases hk
 ·exact h
theorem Zsy (g:List UInt8)(fs:List (Nat×Nat))(k:Ke):(ex g fs k).length<=g.length:=by
 unfold ex;split
 ·dsimp only;split
  ·simp
  ·rw[zZ,yF];omega
 ·simp
def Ei (p:Spec)(k:Ke):Nat:=if (k.fl==0)=true then p.flags.toNat else k.fl.toNat
def IR (L:Loc)(p:Spec)(a b:List UInt8):List Ke->Int
 |[]=>0
 |k::l=>if (Q1 L (Ei p k) (ex a (fields a p.sep) k) (ex b (fields b p.sep) k) != 0)=true then Q1 L (Ei p k) (ex a (fields a p.sep) k) (ex b (fields b p.sep) k) else IR L p a b l
theorem Zj6 (L:Loc)(p:Spec)(a b:List UInt8)(k:Ke)(l:List Ke):IR L p a b (k::l)=if (Q1 L (Ei p k) (ex a (fields a p.sep) k) (ex b (fields b p.sep) k) != 0)=true then Q1 L (Ei p k) (ex a (fields a p.sep) k) (ex b (fields b p.sep) k) else IR L p a b l:=(Eq.refl _).trans (Eq.refl _)
def Zhg (L:Loc)(p:Spec)(a b:List UInt8):Int:=if (p.keys.length==0)=true then Q1 L p.flags.toNat a b else IR L p a b p.keys
def W5 (L:Loc)(p:Spec)(a b:List UInt8):Int:=Zhg L (Zz p) a b
def CSt (lc sc:List AV)(g j:AV)(H:Hp):Prop:=(g=.vp lc/\j=.vp sc)\/(g=.ptr 0 0/\j=.ptr 1 0/\H=[.cells lc,.cells sc])
theorem CSt.frz {lc sc:List AV}{z A:AV}{H:Hp}(h:CSt lc sc z A H)(w:List AV):∃ B,∀ K:AV->AV->AV->Hp->Z3,
 (V8 z (H++[.cells w]) fun z4 C=>V8 A C fun z5 D=>V8 (.ptr H.length 0) D fun j g=>K z4 z5 j g)=K (.vp lc) (.vp sc) (.vp w) B:=by
 rcases h with ⟨rfl,rfl⟩|⟨rfl,rfl,rfl⟩
 ·refine⟨H++[.dead],fun K=>?_⟩;have u:∀ (l:List AV) (H:Hp) (k:AV->Hp->Z3),V8 (.vp l) H k=k (.vp l) H:=fun l H k=>rfl;rw[u,u,Zw0]
 ·exact⟨[.dead,.dead,.dead],fun K=>rfl⟩
theorem CSt.fld {lc:List AV}{x:AV}{p:Spec}{j g:AV}{H:Hp}(h:CSt lc (p.cells x) j g H) :
 (∃ y,Z6 0 g=some y/\∀ r,Z4 false 1 y (H++r)=some x)/\(∃ y,Z6 2 g=some y/\∀ r,Z4 false 1 y (H++r)=some (.int .i64 p.flags)):=by
 rcases h with ⟨rfl,rfl⟩|⟨rfl,rfl,rfl⟩
 ·exact⟨⟨.vp (p.cells x),rfl,fun r=>by simp only[Spec.cells,ZC]⟩,⟨.vp [.int .i64 p.flags,.bool p.uniq,.bool p.stab],rfl,fun r=>by simp only[ZC]⟩⟩
 ·exact⟨⟨.ptr 1 0,rfl,fun r=>Y5 (l:=p.cells x) rfl⟩,⟨.ptr 1 2,rfl,fun r=>Y5 (l:=p.cells x) rfl⟩⟩
theorem vpf (x:AV)(p:Spec):Z6 1 (.vp (p.cells x))=some (.vp [.int .i64 p.sep,.int .i64 p.flags,.bool p.uniq,.bool p.stab]):=rfl
theorem Zpe (L:Loc)(x c e:AV):U6 true 6 (.vp (L.cells x c e))=some (.agg (L.cells x c e)):=rfl
theorem ZrP (k:Ke):U6 true 5 (.vp k.cells)=some (.agg k.cells):=rfl
section
variable {L:Loc}{x c e:AV}(hav:LocAV (.agg (L.cells x c e)) L)(hok:LocOk L){p:Spec}{xk:AV}(hk:Sl 5 xk (p.keys.map Ke.av))(hlen:p.keys.length<=8)
 (hks:∀ k∈p.keys,KeOk k) (hkf:∀ k∈p.keys,0<=k.fl/\k.fl<=31) (hfl:0<=p.flags/\p.flags<=31) (a b:List UInt8) (ha:a.length<=1048576) (hb:b.length<=1048576)
include hav hok hk hlen hks hkf hfl ha hb
theorem Zvs:∀ (m i:Nat) (E F:AV) (H:Hp),p.keys.length-i=m->i<=p.keys.length->CSt (L.cells x c e) (p.cells xk) E F H ->
 ∃ H',Q5 (.str a) (.str b) E F xk (.int .i64 (p.keys.length:Int)) (.int .i64 (i:Int)) [] H=some (.int .i64 (IR L p a b (p.keys.drop i)),H'):=by
 intro m
 induction m with
 |zero =>
  intro i E F H X hi B;have A:decide ((i:Int)<(p.keys.length:Int))=false:=by simp;omega
  have W:p.keys.drop i=[]:=zH.2 (by omega);refine⟨H,?_⟩;rw[Fm];simp only[go_sem,A,If,W,IR]
 |succ m Z =>
  intro i E F H X hi B;have w:i<p.keys.length:=by omega
  have A:decide ((i:Int)<(p.keys.length:Int))=true:=by simp;omega
  have hw:xH.wrap ((i:Int)+1)=((i+1:Nat):Int):=by rw[Zr (by omega) (by omega)];omega
  have u:p.keys[i]∈p.keys:=List.getElem_mem w;have z:=hks _ u;have C:=hkf _ u;rw[zN w,Zj6];have j:p.keys[i]?=some p.keys[i]:=zD w;generalize p.keys[i]=k at z C j;obtain⟨_,y,N,O⟩:=B.fld;obtain⟨R,K⟩:=B.frz k.cells;obtain⟨S,U,_⟩:=Zcg ha z p.sep R;obtain⟨I,V,_⟩:=Zcg hb z p.sep S;have l1:=Zsy a (fields a p.sep) k;have l2:=Zsy b (fields b p.sep) k;have hn:Ei p k<32:=by unfold Ei;split <;> omega
  have Y:=Zhs hav hok hn (ex a (fields a p.sep) k) (ex b (fields b p.sep) k) (by omega) (by omega) I
  have g:∃ H',Q4 (.str a) (.str b) E F (.ptr H.length 0) (.int .i64 (Ei p k:Int)) xk (.int .i64 (p.keys.length:Int)) (.int .i64 (i:Int)) [] (H++[.cells k.cells])=some (.int .i64 (if (Q1 L (Ei p k) (ex a (fields a p.sep) k) (ex b (fields b p.sep) k) != 0)=true then Q1 L (Ei p k) (ex a (fields a p.sep) k) (ex b (fields b p.sep) k) else IR L p a b (p.keys.drop (i+1))),H'):=by
   rw[Ii,K];simp only[Zpe,C3,vpf,ZC,Zpf,ZrP,go_sem,U,V,Y]
   cases hc:(Q1 L (Ei p k) (ex a (fields a p.sep) k) (ex b (fields b p.sep) k) != 0) with
   |true=>exact⟨I,by simp only[go_sem,if_true]⟩
   |false =>
    obtain⟨T,q⟩:=Z (i+1) (.vp (L.cells x c e)) (.vp (p.cells xk)) I (by omega) (by omega) (.inl ⟨rfl,rfl⟩);exact⟨T,by simp only[go_sem,zE,if_false,Ih,hw,q]⟩
  obtain⟨H',g⟩:=g;refine⟨H',?_⟩;have D:=ZbZ H k [.int .i64 0,.int .i64 0,.int .i64 0,.int .i64 0,.int .i64 0] rfl;have M:Z4 false 1 (.ptr H.length (0+4)) (H++[.cells k.cells])=some (.int .i64 k.fl):=ZF H k.cells 4;rw[Fm];simp only[go_sem,A,Ig,hk.key j,C3,D,M]
  cases Q:(k.fl==0) with
  |true =>
   have J:(p.flags:Int)=((Ei p k:Nat):Int):=by unfold Ei;rw[Q,if_pos rfl];omega
   simp only[go_sem,N,O,J];exact g
  |false =>
   have J:(k.fl:Int)=((Ei p k:Nat):Int):=by unfold Ei;rw[Q,if_neg (by decide)];omega
   simp only[go_sem];rw[J];exact g
end
theorem ZcN {a:AV}{L:Loc}(h:LocAV a L)(hok:LocOk L){q:AV}{p:Spec}(T:SpecAV q p)(hks:∀ k∈p.keys,KeOk k)(s t:List UInt8)(E:s.length<=1048576)(Q:t.length<=1048576)(H:Hp) :
 Zf Wu [a,q,.str s,.str t] H=some (.int .i64 (W5 L p s t),H):=by
 obtain⟨X,S,M⟩:=h.close [] 0 5;obtain⟨q1,R,J⟩:=T.close [] 0 5;have hav:=M;have V:=fun H=>ZhT J H;obtain⟨x,c,e,rfl,hx,Y,Z⟩:=M;obtain⟨xp,rfl,W⟩:=J;obtain⟨v',C,j,rfl,D⟩:=V [zA (L.cells x c e),.cells (p.cells xp)];obtain⟨hfl,hlen,hkf⟩:=ZjT p;have z:=ZeH p hks
 suffices E:∃ H1,Wu [.agg (L.cells x c e),.agg (p.cells xp),.str s,.str t] []=some (.int .i64 (W5 L p s t),H1) by
  obtain⟨H1,U⟩:=E;exact ZgX S R (c':=.str s) (d':=.str t) rfl rfl U rfl
 have N:Z4 true 5 (.ptr 1 0) [zA (L.cells x c e),.cells (p.cells xp)]=some (.agg (p.cells xp)):=by simp[Z4,Go.Am.apart,Spec.cells]
 have B:Ze 5 (.ptr 1 0) (.agg ((Zz p).cells j)) [zA (L.cells x c e),.cells (p.cells xp)]=some (.tuple [],[zA (L.cells x c e),.cells ((Zz p).cells j)]):=by simp[Ze,YN,zU,zO,Spec.cells,splice]
 have w:Z4 false 1 (.ptr 1 (0+0)) [zA (L.cells x c e),.cells ((Zz p).cells j)]=some j:=Y5 (l:=(Zz p).cells j) rfl;have F:Z4 false 1 (.ptr 1 (0+2)) [zA (L.cells x c e),.cells ((Zz p).cells j)]=some (.int .i64 (Zz p).flags):=Y5 (l:=(Zz p).cells j) rfl;have u:=D.len 119;rw[zT]at u;have A:=ZlX L x c e [.cells ((Zz p).cells j)];have hn:(Zz p).flags.toNat<32:=by omega
 have I:((Zz p).flags:Int)=(((Zz p).flags.toNat:Nat):Int):=by omega
 have O:=Zhs hav hok hn s t E Q [zA (L.cells x c e),.cells ((Zz p).cells j)];rw[<-I]at O
 have g:(((Zz p).keys.length:Int)==0)=((Zz p).keys.length==0):=by
  rw[xC,beq_iff_eq,beq_iff_eq];omega
 rw[Iv];unfold M6 W5 Zhg
 cases K:((Zz p).keys.length==0) with
 |true =>
  exact⟨[zA (L.cells x c e),.cells ((Zz p).cells j)],by simp only[go_sem,YB,zB,zC,zF,zG,N,C,B,w,u,g,K,A,F,O,if_true,zK,yA]⟩
 |false =>
  obtain⟨H',r⟩:=Zvs hav hok D hlen z hkf hfl s t E Q _ 0 (.ptr 0 0) (.ptr 1 0) _ rfl (yK _) (.inr ⟨rfl,rfl,rfl⟩);rw[zW,show ((0:Nat):Int)=0 from rfl]at r;refine⟨H',?_⟩;simp only[go_sem,YB,zB,zC,zF,zG,N,C,B,w,u,g,K,Ie,r,zE,if_false,zK,yA]
def Y3 (L:Loc)(p:Spec)(s t:List UInt8):Int :=
 if (W5 L (Zz p) s t != 0 || (Zz p).stab || (Zz p).uniq)=true then W5 L (Zz p) s t else if (Zz p).flags.toNat.testBit 1 then -Bq L s t else Bq L s t
theorem Zm7 {a:AV}{L:Loc}(h:LocAV a L)(hok:LocOk L){q:AV}{p:Spec}(W:SpecAV q p)(hks:∀ k∈p.keys,KeOk k)(s t:List UInt8)(E:s.length<=1048576)(S:t.length<=1048576)(H:Hp) :
 Zf UL [a,q,.str s,.str t] H=some (.int .i64 (Y3 L p s t),H):=by
 obtain⟨a1,U,R⟩:=h.close [] 0 5;obtain⟨q1,T,Q⟩:=W.close [] 0 5;have hav:=R;have Y:=fun H=>ZhT Q H;obtain⟨x,c,e,rfl,hx,hc,he⟩:=R;obtain⟨xp,rfl,Z⟩:=Q;obtain⟨v',N,g,rfl,O⟩:=Y [zA (L.cells x c e),.cells (p.cells xp)];obtain⟨hfl,hlen,hkf⟩:=ZjT p;have C:=ZeH p hks
 suffices E:∃ H1,UL [.agg (L.cells x c e),.agg (p.cells xp),.str s,.str t] []=some (.int .i64 (Y3 L p s t),H1) by
  obtain⟨H1,X⟩:=E;exact ZgX U T (c':=.str s) (d':=.str t) rfl rfl X rfl
 have V:Z4 true 5 (.ptr 1 0) [zA (L.cells x c e),.cells (p.cells xp)]=some (.agg (p.cells xp)):=by simp[Z4,Go.Am.apart,Spec.cells]
 have M:Ze 5 (.ptr 1 0) (.agg ((Zz p).cells g)) [zA (L.cells x c e),.cells (p.cells xp)]=some (.tuple [],[zA (L.cells x c e),.cells ((Zz p).cells g)]):=by simp[Ze,YN,zU,zO,Spec.cells,splice]
 have K:Z4 true 5 (.ptr 1 0) [zA (L.cells x c e),.cells ((Zz p).cells g)]=some (.agg ((Zz p).cells g)):=by simp[Z4,Go.Am.apart,Spec.cells]
 have z:Z4 false 1 (.ptr 1 (0+2)) [zA (L.cells x c e),.cells ((Zz p).cells g)]=some (.int .i64 (Zz p).flags):=Y5 (l:=(Zz p).cells g) rfl;have B:Z4 false 1 (.ptr 1 (0+3)) [zA (L.cells x c e),.cells ((Zz p).cells g)]=some (.bool (Zz p).uniq):=Y5 (l:=(Zz p).cells g) rfl;have I:Z4 false 1 (.ptr 1 (0+4)) [zA (L.cells x c e),.cells ((Zz p).cells g)]=some (.bool (Zz p).stab):=Y5 (l:=(Zz p).cells g) rfl;have u:=ZlX L x c e [.cells ((Zz p).cells g)];have hn:(Zz p).flags.toNat<32:=by omega
 have J:((Zz p).flags:Int)=(((Zz p).flags.toNat:Nat):Int):=by omega
 have A:=ZcN hav hok (q:=.agg ((Zz p).cells g)) ⟨g,rfl,O⟩ C s t E S [zA (L.cells x c e),.cells ((Zz p).cells g)];have w:=Zjq hav hok s t E S [zA (L.cells x c e),.cells ((Zz p).cells g)];have D:=ZyQ (Zl4 L s t);have j:=ZuV hn
 have F:DZ (.str s) (.str t) (.ptr 0 0) (.ptr 1 0) [] [zA (L.cells x c e),.cells ((Zz p).cells g)]=some (.int .i64 (if (Zz p).flags.toNat.testBit 1 then -Bq L s t else Bq L s t),[zA (L.cells x c e),.cells ((Zz p).cells g)]):=by
  rw[ZaR];rw[J]at z
  cases hb:(Zz p).flags.toNat.testBit 1 with
  |true =>
   rw[hb]at j;simp only[go_sem,u,w,z,j,Zo6,D,if_true,show ((2:Int) != 0)=true from rfl]
  |false =>
   rw[hb]at j;simp only[go_sem,u,w,z,j,ZaS,zE,if_false,bne_self_eq_false]
 refine⟨[zA (L.cells x c e),.cells ((Zz p).cells g)],?_⟩;rw[Zbq];unfold SL Y3;simp only[go_sem,YB,zB,zC,zF,zG,V,N,M,u,K,A,zK,yA]
 cases h0:(W5 L (Zz p) s t != 0) with
 |true=>simp only[go_sem,yB,if_true]
 |false =>
  simp only[go_sem,I,B]
  cases h4:(Zz p).stab with
  |true=>simp only[go_sem,yB,yH,if_true]
  |false =>
   simp only[go_sem,B]
   cases h3:(Zz p).uniq with
   |true=>simp only[go_sem,yB,yH,if_true]
   |false=>simp only[go_sem,F,yR,zE,if_false]
end Go.Am
