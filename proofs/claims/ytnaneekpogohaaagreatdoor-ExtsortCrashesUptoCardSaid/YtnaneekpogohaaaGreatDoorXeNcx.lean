/- The example of chapter 24 -/
import Derived.Test.YtnaneekpogohaaaGreatDoorXeCox
import Derived.Test.YtnaneekpogohaaaGreatDoorXeKlx
import Derived.Test.YtnaneekpogohaaaGreatDoorXeGAx
import Derived.Test.YtnaneekpogohaaaGreatDoorXeLax
import Derived.Test.YtnaneekpogohaaaGreatDoorXeOex
open Go.Am.AV renaming int->J
open Go.IntKind renaming i64->yC
open Go.IntKind renaming i64->yB
open List renaming mem_singleton->zB,set->zC,mem_cons->zD,getElem?_cons_zero->zF,getElem?_cons_succ->zG,length_map->zI,flatMap_append->zJ,getElem?_append_right->zL,flatMap_cons->zM,append_nil->zN,length_singleton->zO,mem_map_of_mem->zP,length_append->zR,length_take->zT,map_append->zU,mem_append->zV,map_cons->zX,mem_map->yA
open Nat renaming le_refl->zK,zero_add->zS,le_trans->zZ
open Bool renaming not_true->zE,not_false->zH
open Int renaming reduceAdd->zW,reduceLT->zY
open Go.Am.AObj renaming cells->zA
open Go.Am.AV renaming int->zQ
namespace Go.Am
set_option maxRecDepth 100000
theorem ZxV (H:Hp):Zh Pg [.vs 1 .clip [J yC 40,J yC 40,J yC 40],.agg [J yC 64,J yC 2]] H=some (.tuple [J yC 3,J yC 1],H):=by
 refine Wy (args':=[.vs 1 .clip [J yC 40,J yC 40,J yC 40],.agg [J yC 64,J yC 2]]) (H1:=Hz 64 2) rfl ?_ rfl;rw[ZeQ];unfold Ik;have h:GR 64 2=true:=rfl;have g:Zk (.slice 3) (.vs 1 .clip [J yC 40,J yC 40,J yC 40])=some (J yC 3):=rfl;have j:Zo 1 (.vs 1 .clip [J yC 40,J yC 40,J yC 40]) (J yC 0)=some (.vp [J yC 40]):=rfl;have u:Zo 1 (.vs 1 .clip [J yC 40,J yC 40,J yC 40]) (J yC 1)=some (.vp [J yC 40]):=rfl;have w:Zo 1 (.vs 1 .clip [J yC 40,J yC 40,J yC 40]) (J yC 2)=some (.vp [J yC 40]):=rfl;have q:Z4 .quo (J yC 4) (J yC 2)=some (J yC 2):=rfl;simp only[ZlY,go_sem,hza,Zga,h,zE,Zdx,g]
 iterate 4
  rw[ZdH];simp (disch:=omega) only[go_sem,Zdy,ZdC,ZdD,ZdE,ZdF,j,u,w,Zx,Jn,Zic,MO,DO,Zp,zW,zY,Int.reduceEq,Int.reduceBEq,decide_true,decide_false]
 iterate 2
  rw[ZdG];simp (disch:=omega) only[go_sem,Zdz,ZdA,ZdB,Jn,Zic,MO,DO,Zp,zW,Int.reduceSub,zY,q,decide_true,decide_false]
def Jk:Zl:=[49,50,51,52,53,54,55,56,57,48,49,50,51,52,53,54,55,56,57,48,49,50,51,52,53,54,55,56,57,48,49,50,51,52,53,54,55,56,57]
def awL:List Zl:=[101::Jk,97::Jk,100::Jk,98::Jk,99::Jk]
theorem awS:ZP defL plainP awL=[97::Jk,98::Jk,99::Jk,100::Jk,101::Jk]:=by kernel_rfl
theorem awE:(Za6 defL plainP 64 2 awL).r=5/\(Za6 defL plainP 64 2 awL).y=56:=⟨by kernel_rfl,by kernel_rfl⟩
theorem awC:ET plainP 64 2 awL=0:=by kernel_rfl
theorem ZA4:ZU (.str [48,49,50,51,52,53,54,55,56,57,48,49,50,51,52,53,54,55,56,57,48,49,50,51,52,53,54,55,56,57,48,49,50,51,52,53,54,55,56,57]) (some (J yC 1)) none none=some (.str Jk):=by kernel_rfl
theorem awA (c:UInt8):Yx .add (.str [c]) (.str Jk)=some (.str (c::Jk)):=rfl
theorem awV:(ZB 1 [(0,.str (101::Jk)),(1,.str (97::Jk)),(2,.str (100::Jk)),(3,.str (98::Jk)),(4,.str (99::Jk))] [(.str []),(.str []),(.str []),(.str []),(.str [])]).map (AV.vs 1 .clip)=some (.vs 1 .clip (awL.map AV.str)):=rfl
theorem Zv4:∃ H',Dr [] []=some (.bool true,H'):=by
 obtain⟨W,s1,V,s3⟩:=Zph 262144 (by omega) [];have N:(min (max (262144:Int) 0) 262144).toNat=262144:=rfl;rw[N]at V;have en:Yo (.pointer 82) .eql (.ptr (([]:Hp).length+1) 0) .nilp=some (.bool false):=rfl;obtain⟨ad,g1,g2⟩:=KD W;have hQ:Qt [] 262145 ⟨262144,0,[],false,0⟩:=⟨rfl,by show 0<=262144;omega,rfl,rfl,⟨by omega,by show 0<=_;omega,.inl rfl⟩,by show 0<=262144;omega⟩;have hB:∀ f∈([]:List Fil),Q3 XK f.name=false:=fun f hf=>by cases hf
 obtain⟨B,s',S1,r1,r2,r3,r4⟩:=ZlU (w:=2) (mem:=64) g2 ZlI Zqr (ZzM plainP rfl) (Zzg rfl) (by show 0<=_;omega) (Zzd awL .clip) (by decide) (by decide) ZjC hB awC (hQ.lft ZjC) V;rcases r4 with ⟨y,U,C,_⟩|⟨_,M⟩|⟨_,_,h⟩
 rotate_left
 ·have:=M.big;omega
 ·omega
 rw[awS]at C;obtain⟨c1,c2⟩:=awE;have F:(YF [(1,1,(J yC (-1)))] [.nils,(J yC 0),(J yC 0),(.bool false),(.bool false)]).map AV.agg=some (.agg (plainP.cells .nils)):=rfl;have I:(YF [(0,1,(J yC 64)),(1,1,(J yC 2))] [(J yC 0),(J yC 0)]).map AV.agg=some (.agg [J yC 64,J yC 2]):=rfl;have K:(ZB 1 [(0,(J yC 40)),(1,(J yC 40)),(2,(J yC 40))] [(J yC 0),(J yC 0),(J yC 0)]).map (AV.vs 1 .clip)=some (.vs 1 .clip [J yC 40,J yC 40,J yC 40]):=rfl;have ew:((2:Nat):Int)=2:=rfl;rw[ew]at U;have O:=C.len 9;have u:=C.idx (i:=0) (s:=97::Jk) rfl;have z:=C.idx (i:=4) (s:=101::Jk) rfl;have A:((0:Nat):Int)=0:=rfl;have Q:((4:Nat):Int)=4:=rfl;rw[A]at u;rw[Q]at z;have l1:Zo 1 (.vs 1 .clip (awL.map AV.str)) (J yC 1)=some (.vp [.str (97::Jk)]):=rfl;have l0:Zo 1 (.vs 1 .clip (awL.map AV.str)) (J yC 0)=some (.vp [.str (101::Jk)]):=rfl;have j:(B++[zA [zQ .i64 0,J yC 0,J yC 0,J yC 0]])[B.length]?=some (.cells [zQ .i64 0,J yC 0,J yC 0,J yC 0]):=by simp
 have g:=WN (off:=0) (sz:=4) (v:=Tx (Za6 defL plainP 64 2 awL)) j rfl rfl (by simp);have L:=Zq (zA (splice [zQ .i64 0,J yC 0,J yC 0,J yC 0] 0 (Tx (Za6 defL plainP 64 2 awL)).cells)) j;generalize (B++[zA [zQ .i64 0,J yC 0,J yC 0,J yC 0]]).set B.length (zA (splice [zQ .i64 0,J yC 0,J yC 0,J yC 0] 0 (Tx (Za6 defL plainP 64 2 awL)).cells))=X at g L;have R:=ZQ L 0 (v:=J yC (Za6 defL plainP 64 2 awL).r) rfl;have T:=ZQ L 2 (v:=J yC (Za6 defL plainP 64 2 awL).y) rfl;rw[c1]at R;rw[c2]at T;have f2:∀ o,Z6 2 (.ptr o 0)=some (.ptr o 2):=fun _=>rfl;have Y:((0:Int)==0)=true:=rfl;have b3:((3:Int)==3)=true:=rfl;have b5:((5:Int)==5)=true:=rfl;have D:((([97::Jk,98::Jk,99::Jk,100::Jk,101::Jk]:List Zl).length:Int)==5)=true:=rfl;have E:((56:Int)==56)=true:=rfl;have bs:∀ s:Zl,(s==s)=true:=fun s=>beq_self_eq_true s;have Z:decide ((1:Int)<=1)=true:=rfl;refine⟨X,?_⟩;rw[Zja];unfold Zfr;simp only[s1,go_sem,en,Zhn,ZA4,awA,awV,g1,F,I,U,zF,zG,g,K,ZxV,Y,O,D,u,z,l0,l1,Zx,bs,Jn,R,b5,f2,T,E,b3,Z]
theorem E7 (H:Hp):Zh Dr [] H=some (.bool true,H):=by
 obtain⟨H',h⟩:=Zv4;exact Wy (args':=[]) rfl h rfl
set_option linter.unusedSectionVars false
theorem ZwX {H:Hp}{n:Nat}(y:H[n]?=some .free)(R:Stt):∃ H1 w,JK n (some (.cells [J yC 0,J yC 0,J yC 0,J yC 0])) H=some (.ptr n 0,H1)/\Za 4 (.ptr n 0) (Tx R) H1=some (.tuple [],w)/\Stp [n] H w:=by
 have j:=Zsd (l:=[zQ .i64 0,J yC 0,J yC 0,J yC 0]) y;have u:=Zq (zA [zQ .i64 0,J yC 0,J yC 0,J yC 0]) y;have g:=WN (off:=0) (sz:=4) (v:=Tx R) u rfl rfl (by simp);exact⟨_,_,j,g,(Stp.set (A:=[n]) H _ (by simp)).trans (Stp.set (A:=[n]) _ _ (by simp)) (fun _ h=>h) fun _ h=>.inl h⟩
def Fq (k i:Nat):Nat:=k / 2 ^ (8*(i % 8)) % 256
def VO (k i:Nat)(f:Fil):Fil:=⟨f.name,f.text.take (f.syn+min (Fq k i) (f.text.length-f.syn)),f.syn+min (Fq k i) (f.text.length-f.syn)⟩
def ZgD (k:Nat):Nat->List Zm->List Fil->List Fil
 |_,[],l=>l
 |i,n::r,l=>ZgD k (i+1) r (X6 l n (VO k i))
def Sto.restart (s:Sto)(k:Nat):Sto:={ s with crashed:=false,count:=0,files:=ZgD k 0 (VK (s.files.map Fil.name)) s.files }
theorem Zb4 (l:List Fil)(n:Zm)(u:Fil->Fil)(h:∀ f,(u f).name=f.name):(X6 l n u).map Fil.name=l.map Fil.name:=by
 induction l with
 |nil=>rfl
 |cons f l g =>
  rw[X6];split
  ·simp[h]
  ·simp[g]
theorem Zuz (l:List Fil)(n:Zm)(u:Fil->Fil)(h:∀ f,(u f).text.length<=f.text.length):Zr (X6 l n u)<=Zr l:=by
 induction l with
 |nil=>exact zK _
 |cons f l g =>
  rw[X6];split
  ·have:=h f;simp only[Zr];omega
  ·simp only[Zr];omega
theorem ZnQ {P:Fil->Prop}(l:List Fil)(n:Zm)(u:Fil->Fil)(w:∀ f∈l,P f)(h:∀ f,P f->P (u f)):∀ f∈X6 l n u,P f:=by
 induction l with
 |nil=>intro f j;cases j
 |cons x l z =>
  rw[X6];split
  ·intro f j;rcases zD.1 j with rfl|j
   ·exact h x (w x (by simp))
   ·exact w f (by simp[j])
  ·intro f j;rcases zD.1 j with rfl|j
   ·exact w _ (by simp)
   ·exact z (fun g y=>w g (by simp[y])) f j
theorem ZxP (k i:Nat)(f:Fil):(VO k i f).text.length<=f.text.length:=by simp[VO];omega
theorem ZyW {s:Sto}(hk:StoOk s)(k i:Nat)(n:Zm):StoOk { s with files:=X6 s.files n (VO k i) }:=by
 have g:=Zb4 s.files n (VO k i) fun _=>rfl;have j:=Zuz s.files n (VO k i) (ZxP k i);have u:=hk.used;have w:=hk.len;refine⟨hk.limit,zZ j u,hk.peak,ZnQ s.files n _ hk.name fun f h=>h,by show ((X6 s.files n (VO k i)).map Fil.name).Nodup;rw[g];exact hk.nd,ZnQ (P:=fun f=>f.syn<=f.text.length) s.files n _ hk.syn fun f h=>?_,?_,hk.count⟩
 ·show f.syn+min (Fq k i) (f.text.length-f.syn)<=(f.text.take (f.syn+min (Fq k i) (f.text.length-f.syn))).length;rw[zT];omega
 ·show (X6 s.files n (VO k i)).length<=64;have:=congrArg List.length g;rw[zI,zI]at this;omega
theorem Zlz {H:Hp}{o:Nat}{s:Sto}{A:List Nat}(h:StoreAt H o s A)(hk:StoOk s)(k:Nat){x:AV}{ns:List Zm}(hx:SS x ns){i:Nat}{n:Zm}(hi:ns[i]?=some n)(an:i<=64){f:Fil}(hn:ZR s.files n=some f)(nl:AV)(H0:Hp) :
 ∃ H' A',QL (.ptr o 0) (.int .u64 (k:Int)) x nl (J yC (i:Int)) (.bool true) H0 H=QM (.ptr o 0) (.int .u64 (k:Int)) x nl (J yC (i:Int)) H0 H'/\StoRes H H' o { s with files:=X6 s.files n (VO k i) } A A':=by
 obtain⟨m,X,ds,h,rfl⟩:=h;have O:=SS.idx hx hi;have l3:=ZQ h.cells 3 (v:=.map m) rfl;rcases h.look n with ⟨k,_⟩|⟨a,d,b,rfl,c3,c4,c5,c6⟩
 ·rw[hn]at k;cases k
 obtain⟨k1,M,k3,k4⟩:=h.mid;have af:d.fil∈s.files:=by rw[<-h.files];simp
 have au:=hk.syn _ af;have ak:=hk.used;have ao:=hk.limit;have aq:d.fil.text.length<=Zr s.files:=by rw[<-h.files,zU,zX,GQ];omega
 have N:X6 s.files n (VO k i)=a.map FD.fil++VO k i d.fil::b.map FD.fil:=by
  rw[<-h.files];exact Cg a d b n (VO k i) c3 c4
 generalize hz:d.fil.syn+min (Fq k i) (d.fil.text.length-d.fil.syn)=z;have al:z<=d.fil.text.length:=by omega
 have g:VO k i d.fil=⟨d.fil.name,d.fil.text.take z,z⟩:=by unfold VO;rw[hz]
 have ag:Zr (a.map FD.fil++VO k i d.fil::b.map FD.fil)=Zr s.files-(d.fil.text.length-z):=by
  have hf:Zr s.files=Zr (a.map FD.fil++d.fil::b.map FD.fil):=by rw[<-h.files,zU,zX]
  rw[hf,GQ,GQ,g];show _+((d.fil.text.take z).length+_)=_;rw[zT];omega
 have m0:=ZQ M.cells 0 (v:=d.tx) rfl;have m1:=ZQ M.cells 1 (v:=J yC (d.fil.syn:Int)) rfl;have Q:=M.text.len 5;have V:Z4 .rem (J yC (i:Int)) (J yC 8)=some (J yC ((i % 8:Nat):Int)):=ZA7 i
 have T:Z4 .mul (J yC 8) (J yC ((i % 8:Nat):Int))=some (J yC ((8*(i % 8):Nat):Int)):=by
  have:yB.wrap (8*((i % 8:Nat):Int))=((8*(i % 8):Nat):Int):=by rw[Zp (by omega) (by omega)];omega
  simp only[go_sem,this]
 have hb:min (8*(i % 8)) IntKind.u64.bits=8*(i % 8):=Nat.min_eq_left (by show 8*(i % 8)<=64;omega)
 have W:Z4 .shr (.int .u64 (k:Int)) (J yC ((8*(i % 8):Nat):Int))=some (.int .u64 ((k / 2 ^ (8*(i % 8)):Nat):Int)):=by
  rw[Fy];unfold Dk;rw[hb,Int.fdiv_eq_ediv_of_nonneg _ (Int.pow_nonneg (by decide))];have:(2:Int) ^ (8*(i % 8))=((2 ^ (8*(i % 8)):Nat):Int):=by simp
  rw[this,<-Int.natCast_ediv]
 have F:Z4 .rem (.int .u64 ((k / 2 ^ (8*(i % 8)):Nat):Int)) (.int .u64 256)=some (.int .u64 ((Fq k i:Nat):Int)):=by
  unfold Z4 XA;simp only[if_true,XE];rw[if_neg (by omega)];congr 2
 have ar:Fq k i<256:=Nat.mod_lt _ (by decide)
 have ae:Yr .i64 (.int .u64 ((Fq k i:Nat):Int))=some (J yC ((Fq k i:Nat):Int)):=by
  unfold Yr;dsimp only;rw[Zp (by omega) (by omega)]
 have ah:yB.wrap ((d.fil.text.length:Int)-(d.fil.syn:Int))=((d.fil.text.length-d.fil.syn:Nat):Int):=by rw[Zp (by omega) (by omega)];omega
 have R:VE (J yC ((Fq k i:Nat):Int)) (J yC ((d.fil.text.length-d.fil.syn:Nat):Int))=some (J yC ((min (Fq k i) (d.fil.text.length-d.fil.syn):Nat):Int)):=by
  simp[VE];omega
 have ac:yB.wrap ((d.fil.syn:Int)+((min (Fq k i) (d.fil.text.length-d.fil.syn):Nat):Int))=(z:Int):=by rw[Zp (by omega) (by omega)];omega
 have ai:yB.wrap ((d.fil.text.length:Int)-(z:Int))=((d.fil.text.length-z:Nat):Int):=by rw[Zp (by omega) (by omega)];omega
 have D:H[o]?=some (.cells (YE m s)):=h.cells;have l1:=ZQ D 1 (v:=J yC (Zr s.files:Int)) rfl;have aj:yB.wrap ((Zr s.files:Int)-((d.fil.text.length-z:Nat):Int))=((Zr s.files-(d.fil.text.length-z):Nat):Int):=by rw[Zp (by omega) (by omega)];omega
 have s1:=V2 D 1 (v:=J yC ((Zr s.files-(d.fil.text.length-z):Nat):Int)) rfl rfl (by simp[YE]);have g1:=Zq (zA (zC (YE m s) 1 (J yC ((Zr s.files-(d.fil.text.length-z):Nat):Int)))) D;have E:=k3 d.f (by simp[FD.own]);have u:=Yd (zA (zC (YE m s) 1 (J yC ((Zr s.files-(d.fil.text.length-z):Nat):Int)))) (fun e=>E.1 e.symm) M.cells;obtain⟨K,p1,p2,p3,p4,p5⟩:=M.text.cut (n:=z) al;have j:Stp [o] H (H.set o (.cells (zC (YE m s) 1 (J yC ((Zr s.files-(d.fil.text.length-z):Nat):Int))))):=Stp.set _ _ (by simp);generalize ap:H.set o (.cells (zC (YE m s) 1 (J yC ((Zr s.files-(d.fil.text.length-z):Nat):Int))))=H1 at s1 g1 u j;have am:=ZQ u 0 (v:=d.tx) rfl;have s2:=V2 u 0 (v:=K) p4 p5 (by simp);have Y:=Zq (zA (zC [d.tx,J yC (d.fil.syn:Int)] 0 K)) u;have s3:=V2 Y 1 (v:=J yC (z:Int)) rfl rfl (by simp);have Z:=Zq (zA (zC (zC [d.tx,J yC (d.fil.syn:Int)] 0 K) 1 (J yC (z:Int)))) Y;generalize aa:H1.set d.f (.cells (zC [d.tx,J yC (d.fil.syn:Int)] 0 K))=H2 at s2 Y s3 Z;generalize ab:H2.set d.f (.cells (zC (zC [d.tx,J yC (d.fil.syn:Int)] 0 K) 1 (J yC (z:Int))))=L at s3 Z
 have B:Stp [d.f] H1 L:=by
  rw[<-ab,<-aa];exact (Stp.set _ _ (by simp)).trans (Stp.set _ _ (by simp)) (fun _ h=>h) fun _ h=>.inl h
 have hS:Stp (o::d.own) H L:=j.trans B (fun a C=>by simp[zB.1 C]) fun a C=>.inl (by simp[FD.own,zB.1 C]);have U:=h.om;have I:({ d with fil:=VO k i d.fil,tx:=K }:FD).own=[d.f]:=by simp[FD.own,p2]
 have ad:=h.upd (d':={ d with fil:=VO k i d.fil,tx:=K }) (s':={ s with files:=X6 s.files n (VO k i) }) (H':=L) (by rw[B.get g1 (by simpa using fun e=>E.1 e.symm)];show some (zA [_,_,_,_,_,_])=some (zA [_,J yC ((Zr (X6 s.files n (VO k i)):Nat):Int),_,_,_,_]);rw[N,ag]) (by rw[B.at' m (Zg (j.get h.map (by simpa using Ne.symm U))) (by simpa using fun e=>E.2 e.symm),j.get h.map (by simpa using Ne.symm U),h.map]) rfl N
  ⟨by rw[Z,g];rfl,by have:=p3 L;rw[g];exact this⟩ hS (by rw[I];simp) (fun y w=>.inl (by rw[I]at w;simp[FD.own,zB.1 w]))
 refine⟨L,_,?_,⟨⟨m,X,_,ad,rfl⟩,hS.mono fun a C=>?_,fun y w=>?_⟩⟩
 ·rw[LS];simp only[go_sem,O,Zx,zS,l3,c6,V,T,W,F,ae,m1,m0,Q,ah,R,ac,ai,l1,aj,s1,am,p1,s2,s3]
 ·rcases zD.1 C with e|C
  ·simp[e]
  ·rw[zD,zD,zJ,zM];exact .inr (.inr (by simp[C]))
 ·rw[zD,zD,zJ,zM,I]at w;refine .inl ?_;rw[zD,zD,zJ,zM];rcases w with e|e|w
  ·exact .inl e
  ·exact .inr (.inl e)
  ·refine .inr (.inr ?_);simp only[zV]at w ⊢;rcases w with k|k|k
   ·exact .inl k
   ·exact .inr (.inl (by simp[FD.own,zB.1 k]))
   ·exact .inr (.inr k)
theorem Zly {o:Nat}(k:Nat){x:AV}{j:List Zm}(T:SS x j)(W:j.length<=64)(E:Hp):∀ (r d:List Zm) (H:Hp) (A:List Nat) (s:Sto),j=d++r->StoreAt H o s A->StoOk s->(∀ n∈j,∃ f,ZR s.files n=some f) ->
 ∃ H' A',Vm (.ptr o 0) (.int .u64 (k:Int)) x (J yC (j.length:Int)) (J yC (d.length:Int)) E H=some (.tuple [],H')/\StoRes H H' o { s with files:=ZgD k d.length r s.files } A A'/\StoOk { s with files:=ZgD k d.length r s.files }:=by
 intro r
 induction r with
 |nil =>
  intro d H A s u h hk y;rw[zN]at u;subst u;have w:decide ((j.length:Int)<(j.length:Int))=false:=by simp
  refine⟨H,A,?_,⟨h,Stp.refl _ _,fun a O=>.inl O⟩,hk⟩;rw[Gl];simp only[go_sem,w]
 |cons n r U =>
  intro d H A s u h hk y;have B:j.length=d.length+(r.length+1):=by rw[u];simp
  have w:decide ((d.length:Int)<(j.length:Int))=true:=by simp;omega
  have D:yB.wrap ((d.length:Int)+1)=((d.length+1:Nat):Int):=by rw[Zp (by omega) (by omega)];omega
  have z:j[d.length]?=some n:=by rw[u,zL (zK _)];simp
  obtain⟨f,Q⟩:=y n (by rw[u];simp);obtain⟨H1,A1,V,F⟩:=Zlz h hk k T z (by omega) Q (J yC (j.length:Int)) E;have C:=Zb4 s.files n (VO k d.length) fun _=>rfl
  obtain⟨M,A2,I,K,L⟩:=U (d++[n]) H1 A1 { s with files:=X6 s.files n (VO k d.length) } (by rw[u];simp) F.at' (ZyW hk k d.length n) (fun m hm=>by
   obtain⟨g,R⟩:=y m hm;refine Sw ?_;show m∈(X6 s.files n (VO k d.length)).map Fil.name;rw[C];obtain⟨a,b,e,N,_⟩:=Tc R;rw[e,<-N];simp)
  rw[zR,zO]at I K L;refine⟨M,A2,?_,F.trans K,L⟩;rw[Gl];simp only[go_sem,w,V,LT,D];exact I
theorem ZnZ {H:Hp}{o:Nat}{s:Sto}{A:List Nat}(h:StoreAt H o s A)(hk:StoOk s)(k:Nat) :
 ∃ H' A',Jb [.ptr o 0,.int .u64 (k:Int)] H=some (.tuple [],H')/\StoRes H H' o (s.restart k) A A'/\StoOk (s.restart k):=by
 obtain⟨m,w,N,h,rfl⟩:=h;have u:Yo (.pointer 82) .eql (.ptr o 0) .nilp=some (.bool false):=rfl;have g:H[o]?=some (.cells (YE m s)):=h.cells;have M:=V2 g 4 (v:=.bool false) rfl rfl (by simp[YE]);have y:=Zq (zA (zC (YE m s) 4 (.bool false))) g;have F:=V2 y 5 (v:=J yC 0) rfl rfl (by simp[YE]);have z:=Zq (zA (zC (zC (YE m s) 4 (.bool false)) 5 (J yC 0))) y;generalize C:H.set o (.cells (zC (YE m s) 4 (.bool false)))=H1 at M y F z;generalize D:H1.set o (.cells (zC (zC (YE m s) 4 (.bool false)) 5 (J yC 0)))=I at F z
 have K:Stp [o] H I:=by
  rw[<-D,<-C];exact (Stp.set _ _ (by simp)).trans (Stp.set _ _ (by simp)) (fun _ h=>h) fun _ h=>.inl h
 have B:=h.cell (s':={ s with crashed:=false,count:=0 }) K z rfl;have j:StoOk { s with crashed:=false,count:=0 }:=⟨hk.limit,hk.used,hk.peak,hk.name,hk.nd,hk.syn,hk.len,by simp⟩;obtain⟨x,Q,L⟩:=ZkK B j;have E:(VK (s.files.map Fil.name)).length<=64:=by rw[(Qz _).length_eq,zI];exact hk.len
 obtain⟨H',A',R,T,U⟩:=Zly k L E H _ [] I _ { s with crashed:=false,count:=0 } rfl ⟨m,w,N,B,rfl⟩ j (fun n O=>Sw ((Rb _ _).1 O));refine⟨H',A',?_,(B.res K).trans T,U⟩;rw[Ey];unfold FV;simp only[u,go_sem,LR,zS,M,F,Q,SS.len L 9];exact R
theorem Zvp (k i:Nat){f:Fil}(h:f.syn=f.text.length):VO k i f=f:=by
 unfold VO;rw[h,Nat.sub_self,Nat.min_zero,Nat.add_zero,List.take_of_length_le (zK _)];cases f;dsimp only at h ⊢;rw[h]
theorem Zx7 (B T:List Fil)(n:Zm)(u:Fil->Fil)(j:∀ f∈B,u f=f)(A:∀ f,(u f).name=f.name):∃ h,X6 (B++T) n u=B++h/\h.map Fil.name=T.map Fil.name:=by
 induction B with
 |nil=>exact⟨X6 T n u,rfl,Zb4 T n u A⟩
 |cons f B C =>
  obtain⟨h,w,y⟩:=C fun g z=>j g (by simp[z]);rw[List.cons_append];unfold X6;split
  ·exact⟨T,by rw[j f (by simp)];rfl,rfl⟩
  ·exact⟨h,by rw[w];rfl,y⟩
theorem Zvq (k:Nat){B:List Fil}(C:∀ f∈B,f.syn=f.text.length):∀ (g:List Zm) (i:Nat) (T:List Fil),∃ h,ZgD k i g (B++T)=B++h/\h.map Fil.name=T.map Fil.name:=by
 intro g
 induction g with
 |nil=>intro i T;exact⟨T,rfl,rfl⟩
 |cons n g E =>
  intro i T;obtain⟨j,w,y⟩:=Zx7 B T n (VO k i) (fun f D=>Zvp k i (C f D)) fun _=>rfl;obtain⟨u,z,A⟩:=E (i+1) j;exact⟨u,by rw[ZgD,w];exact z,A.trans y⟩
theorem ZoO {B:List Fil}(D:∀ f∈B,f.syn=f.text.length){lim:Nat}(g:lim<=262145){s:Sto}{k:Nat}(hk:StoOk (s.restart k))(E:s.limit=min lim 262144)
 (h:∃ T,s.files=B++T/\∀ f∈T,∃ i,1<=i/\i<=128/\f.name=ZK i):Lft B lim (s.restart k):=by
 obtain⟨T,z,A⟩:=h;obtain⟨w,u,C⟩:=Zvq k D (VK (s.files.map Fil.name)) 0 T;refine⟨hk,E,rfl,⟨g,by show 0<=_;omega,.inl rfl⟩,w,by show ZgD k 0 _ s.files=_;rw[z]at u ⊢;exact u,fun f h=>?_⟩;have:f.name∈T.map Fil.name:=by rw[<-C];exact zP h
 obtain⟨y,j,e⟩:=yA.1 this;rw[<-e];exact A y j
theorem Ztv {B:List Fil}(g:∀ f∈B,Q3 XK f.name=false){s:Sto}(h:s.files=B):XP XK s=[]:=by
 unfold XP UN;rw[if_pos I4,ZfY,List.filter_eq_nil_iff];intro n j;rw[Rb,h]at j;obtain⟨f,u,rfl⟩:=yA.1 j;rw[g f u];simp
theorem Znk {t:Nat}{x:AV}{g:List Zm}(Q:SS x g)(U:g.length<=64)(L:Hp):∀ (r d:List Zm) (H:Hp) (S:List Nat) (s:Sto),g=d++r->StoreAt H t s S->ROk s ->
 ∃ H' M,Vt (.ptr t 0) (J yC (d.length:Int)) x (J yC (g.length:Int)) (J yC (d.length:Int)) L H=(if (Y7 r s).1≠0 then some (.tuple [J yC 0,J yC (Y7 r s).1],H') else some (.tuple [J yC (g.length:Int),J yC 0],H'))/\StoRes H H' t (Y7 r s).2 S M:=by
 intro r
 induction r with
 |nil =>
  intro d H S s y h hk;rw[zN]at y;subst y;have j:decide ((g.length:Int)<(g.length:Int))=false:=by simp
  refine⟨H,S,?_,⟨h,Stp.refl _ _,fun a O=>.inl O⟩⟩;rw[R8,Y7,if_neg (by simp)];simp only[go_sem,j,IT]
 |cons n r R =>
  intro d H S s y h hk;have E:g.length=d.length+(r.length+1):=by rw[y];simp
  have j:decide ((d.length:Int)<(g.length:Int))=true:=by simp;omega
  have B:yB.wrap ((d.length:Int)+1)=((d.length+1:Nat):Int):=by rw[Zp (by omega) (by omega)];omega
  have A:g[d.length]?=some n:=by rw[y,zL (zK _)];simp
  have u:=SS.idx Q A;obtain⟨H1,D,F,C⟩:=Lp h hk.sto n;rw[R8];by_cases z:(s.remove n).1=0
  ·have e0:((s.remove n).1 != 0)=false:=by rw[z];rfl
   have w:Y7 (n::r) s=Y7 r (s.remove n).2:=by rw[Y7,if_neg (by simp[z])]
   obtain⟨K,N,I,T⟩:=R (d++[n]) H1 D _ (by rw[y];simp) C.at' (ZiP hk n);rw[zR,zO]at I;rw[w];refine⟨K,N,?_,C.trans T⟩;simp only[go_sem,j,R7,u,Zx,F,e0,IW,IU,B];exact I
  ·have e0:((s.remove n).1 != 0)=true:=by simpa using z
   have w:Y7 (n::r) s=s.remove n:=by rw[Y7,if_pos z]
   rw[w];refine⟨H1,D,?_,C⟩;rw[if_pos z];simp only[go_sem,j,R7,u,Zx,F,e0]
theorem Zd7 {B:List Fil}(I:∀ f∈B,Q3 XK f.name=false){lim:Nat}{s:Sto}(g:Lft B lim s){H:Hp}{t:Nat}{S:List Nat}(h:StoreAt H t s S) :
 ∃ H' s' C,StoRes H H' t s' S C/\(WH [.ptr t 0] H=some (.tuple [J yC ((XP XK s).length:Int),J yC 0],H')/\Qt B lim s'\/WH [.ptr t 0] H=some (.tuple [J yC 0,J yC 19],H')/\Lost B lim s'):=by
 have hR:ROk s:=⟨g.sto,fun h=>by rw[g.crashed]at h;cases h⟩;obtain⟨l1,L,l3⟩:=g.left I;obtain⟨F,X,Y,Z⟩:=Zg2 (XP XK s) s g.sto g.crashed l1 L l3;have y:=X.trans g.lm;have hu:=F.used;have hp:=F.peak;obtain⟨x,q1,O⟩:=Zpg h g.sto XK (by show 4<=_;omega);have K:=O.len 9;obtain⟨H',C,Q,r2⟩:=Znk O (ZkD XK g.sto) H (XP XK s) [] H S s rfl h hR;have hz:((([]:List Zm).length:Nat):Int)=0:=rfl;rw[hz]at Q
 have hF:WH [.ptr t 0] H=Vt (.ptr t 0) (J yC 0) x (J yC ((XP XK s).length:Int)) (J yC 0) H H:=by
  have z:Yo (.pointer 82) .eql (.ptr t 0) .nilp=some (.bool false):=rfl;have M:Jr VB [.ptr t 0,.str [115,111,114,116]] H=some (x,H):=q1;rw[Oz];unfold MB;simp only[z,go_sem,IR,M,K]
 rw[hF,Q];refine⟨H',_,C,r2,?_⟩;rcases Z with ⟨A,D,E⟩|⟨A,D,E,R⟩
 ·rw[if_neg (by simp[A])];rw[E]at hu;exact .inl ⟨rfl,y,by omega,E,D,g.cn.less Y,by omega⟩
 ·rw[if_pos (by rw[A];decide),A];refine .inr ⟨rfl,F,y,?_,D,?_⟩
  ·rcases g.cn.2.2 with h|h
   ·omega
   ·exact h
  ·obtain⟨T,V,W⟩:=R;refine⟨T,V,fun f hf=>?_⟩;obtain⟨T0,t1,t2⟩:=g.files;have N:=W f hf;have hm:=(L _ N).2;obtain⟨U,w⟩:=Option.ne_none_iff_exists'.1 hm;obtain⟨_,_,_,j,_⟩:=Tc w;have u:=Sx w;rw[t1]at u;rcases zV.1 u with h|h
   ·exact absurd (by rw[<-j];exact zP h) (L _ N).1
   ·rw[<-j];exact t2 U h
structure CEnv (c0 c1:List AV)(H:Hp)(t:Nat)(s:Sto)(S:List Nat):Prop where
 at':StoreAt H t s S
 o:H[0]?=some (.cells c0)
 f:H[1]?=some (.cells c1)
 lo:∀ a∈S,2<=a
section
variable {c0 c1:List AV}{H:Hp}{t:Nat}{s:Sto}{S:List Nat}
theorem CEnv.step (h:CEnv c0 c1 H t s S){H':Hp}{s':Sto}{g:List Nat}(u:StoreAt H' t s' g)(j:Stp S H H')(w:∀ a∈g,a∈S\/H.length<=a):CEnv c0 c1 H' t s' g :=
 ⟨u,j.get h.o fun hm=>by have:=h.lo _ hm;omega,j.get h.f fun hm=>by have:=h.lo _ hm;omega,fun a y=>by
  rcases w a y with k|k
  ·exact h.lo a k
  ·have:=Zg h.f;omega⟩
theorem CEnv.res (h:CEnv c0 c1 H t s S){H':Hp}{s':Sto}{g:List Nat}(k:StoRes H H' t s' S g):CEnv c0 c1 H' t s' g:=h.step k.at' k.stp k.own
theorem CEnv.push (h:CEnv c0 c1 H t s S):CEnv c0 c1 (H++[.free]) t s S:=h.step (h.at'.stp (Stp.push (A:=[]) _ _) fun a _ h=>by cases h) (Stp.push _ _) fun a g=>.inl g
theorem Zka (h:CEnv c0 c1 H t s S){a q x:AV}{L:Loc}{p:Spec}{l:List Zl}(X:LocAV a L)(ad:LocOk L)(ae:LocSm L)(hq:SpecAV q p)(ab:∀ k∈p.keys,KeOk k)(aa:p.keys.length<=1048576)(hx:SS x l)(M:l.length<=40)(D:∀ s∈l,s.length<=200)
 {B:List Fil} (hB:BOk B) (T:∀ f∈B,Q3 XK f.name=false) {lim:Nat} {w:Nat} {mem:Int} (Y:ET p mem (w:Int) l=0) (hL:Lft B lim s) :
 ∃ A g j y R O s' S',YR [.ptr t 0,a,q,.agg [J yC mem,J yC (w:Int)],x] (H++[.free])=some (.tuple [y,Tx R,J yC O],A) /\
  JK (H.length+0) (some (.cells [J yC 0,J yC 0,J yC 0,J yC 0])) A=some (.ptr H.length 0,g)/\Za 4 (.ptr H.length 0) (Tx R) g=some (.tuple [],j)/\CEnv c0 c1 j t s' S' /\
  (O=0/\SS y (ZP L p l)/\Qt B lim s'\/O=19/\y=.nils/\Lost B lim s'\/O=12/\y=.nils/\Qt B lim s'/\lim<262144):=by
 have hp:=h.push;obtain⟨A,s',I,r1,r2,r3,r4⟩:=ZlU X ad ae hq ab aa hx M D hB T Y hL hp.at';have K:=h.at'.lt;have hf:(H++[AObj.free])[H.length]?=some .free:=by simp
 have Z:=r2.get hf fun hm=>by have:=K _ hm;omega
 have Q:=hp.step r1 r2 r3
 have W:∀ z∈I,z≠H.length:=fun z hz e=>by
  rcases r3 z hz with k|k
  ·have:=K _ k;omega
  ·simp at k;omega
 have af:=Zg h.f
 have C:∀ R:Stt,∃ g j,JK (H.length+0) (some (.cells [J yC 0,J yC 0,J yC 0,J yC 0])) A=some (.ptr H.length 0,g)/\Za 4 (.ptr H.length 0) (Tx R) g=some (.tuple [],j)/\CEnv c0 c1 j t s' I:=fun R=>by
  obtain⟨g,j,E,F,u⟩:=ZwX Z R;exact⟨g,j,E,F,r1.stp u fun a X e=>W a X (zB.1 e),u.get Q.o (by simp;omega),u.get Q.f (by simp;omega),Q.lo⟩
 rcases r4 with ⟨y,N,q2,V⟩|⟨N,U⟩|⟨N,V,ac⟩
 ·obtain⟨g,j,E,F,u⟩:=C (Za6 L p mem w l);exact⟨A,g,j,y,_,0,s',I,N,E,F,u,.inl ⟨rfl,q2,V⟩⟩
 ·obtain⟨g,j,E,F,u⟩:=C ⟨0,0,0,0⟩;exact⟨A,g,j,.nils,⟨0,0,0,0⟩,19,s',I,N,E,F,u,.inr (.inl ⟨rfl,rfl,U⟩)⟩
 ·obtain⟨g,j,E,F,u⟩:=C ⟨0,0,0,0⟩;exact⟨A,g,j,.nils,⟨0,0,0,0⟩,12,s',I,N,E,F,u,.inr (.inr ⟨rfl,rfl,V,ac⟩)⟩
end
theorem EY (n:Nat):∀ f∈[G6 n],Q3 XK f.name=false:=fun f g=>by rw[zB.1 g];kernel_rfl
theorem Zvt:∀ f∈[G6 4],f.syn=f.text.length:=fun f g=>by rw[zB.1 g];rfl
theorem Qt.eq {B:List Fil}{s:Sto}(h:Qt B 262145 s):s=⟨262144,s.peak,B,false,0⟩:=by
 have g:=h.lm;have j:=h.files;have u:=h.crashed;have w:s.count=0:=by rcases h.cn.2.2 with h|h <;> omega
 cases s;dsimp only at g j u w ⊢;subst j u w;rw[g];rfl
theorem Zri {B:List Fil}{s:Sto}(h:Lost B 262145 s):False:=by have:=h.big;omega
theorem Zwk {c0 c1:List AV}{H1:Hp}(U:H1[0]?=some (.cells c0))(I:H1[1]?=some (.cells c1)) :
 ∃ g h j u S,Du [J yC 262144] H1=some (.ptr (H1.length+1) 0,g)/\Wr [.ptr (H1.length+1) 0,.str [100,97,116,97]] g=some (J yC 0,h) /\
  Wq [.ptr (H1.length+1) 0,.str [100,97,116,97],.str [107,101,112,116]] h=some (J yC 0,j)/\Vq [.ptr (H1.length+1) 0,.str [100,97,116,97]] j=some (J yC 0,u) /\
  CEnv c0 c1 u (H1.length+1) ⟨262144,4,[G6 4],false,0⟩ S:=by
 have Y:=Zg I;obtain⟨g,X,C,L⟩:=Zph 262144 (by omega) H1;have z:(min (max (262144:Int) 0) 262144).toNat=262144:=rfl;rw[z]at C;have M:CEnv c0 c1 g (H1.length+1) ⟨262144,0,[],false,0⟩ [H1.length+1,H1.length]:=⟨C,by rw[L];exact Y3 U _,by rw[L];exact Y3 I _,fun a V=>by simp at V;omega⟩;have k0:StoOk ⟨262144,0,[],false,0⟩:=(XS.start (B:=[]) (pk:=0) (by omega)).stoOk ZjC;obtain⟨h,A3,K,A⟩:=Zhe C k0 Fi (by show 4<=_;omega);have Q:(⟨262144,0,[],false,0⟩:Sto).create Fi=(0,⟨262144,0,[⟨Fi,[],0⟩],false,0⟩):=by kernel_rfl
 rw[Q]at K A;have N:=M.res A;have W:StoOk ⟨262144,0,[⟨Fi,[],0⟩],false,0⟩:=⟨by show 262144<=262144;omega,by show 0<=262144;omega,by show 0<=262144;omega,fun f y=>by rw[zB.1 y];kernel_rfl,by simp,fun f y=>by rw[zB.1 y];exact zK _,by simp,by simp⟩;obtain⟨j,A4,D,w⟩:=Zhc A.at' W Fi ZlL (by show 4<=_;omega);have R:(⟨262144,0,[⟨Fi,[],0⟩],false,0⟩:Sto).append Fi ZlL=(0,⟨262144,4,[G6 0],false,0⟩):=by kernel_rfl
 rw[R]at D w;have O:=N.res w;obtain⟨u,A5,E,F⟩:=ZlV w.at' (by show 0<=_;omega) Fi;have T:(⟨262144,4,[G6 0],false,0⟩:Sto).sync Fi=(0,⟨262144,4,[G6 4],false,0⟩):=by kernel_rfl
 rw[T]at E F;exact⟨g,h,j,u,A5,X,K,D,E,O.res F⟩
theorem Zu8 {c0 c1:List AV}{H:Hp}{t:Nat}{s:Sto}{S:List Nat}(h:CEnv c0 c1 H t s S)(g:Qt [G6 4] 262145 s) :
 ∃ H',Vp [.ptr t 0,.str [100,97,116,97],J yC 0,J yC 10] H=some (.tuple [.str [107,101,112,116],J yC 0],H')/\CEnv c0 c1 H' t s S:=by
 have hk:=g.sto (ZgA (by omega));obtain⟨H',j,u⟩:=Zgr h.at' hk Fi 0 10 (by omega);have w:s.read Fi 0 10=(ZlL,0):=by rw[g.eq];rfl
 have y:s.tick=s:=by rw[g.eq];rfl
 rw[w]at j;rw[y]at u;exact⟨H',j,h.res u⟩
theorem ZkF {c0 c1:List AV}{H:Hp}{t:Nat}{s:Sto}{S:List Nat}(h:CEnv c0 c1 H t s S)(j:Qt [G6 4] 262145 s) :
 ∃ g,Jr YW [.ptr t 0] H=some (g,H)/\Zk (.slice 108) g=some (J yC 1):=by
 obtain⟨g,u,w⟩:=Zjt h.at' (j.sto (ZgA (by omega)));have:=Sl.len w 108;rw[zI,j.files]at this;exact⟨g,u,this⟩
theorem ZnX {x:AV}{p:Spec}{xp:AV}{mem w:Int}{l:List Zl}(am:Sl 5 xp (p.keys.map Ke.av))(O:∀ k∈p.keys,KeOk k)(ah:p.keys.length<=1048576)(hx:SS x l)(hL:Wt l)(hl:l.length<=1048576)(j:Int)(k:Nat) :
 ∃ H',Rn [.agg (V8 p xp mem w),x,.agg [J yC j,.int .u64 (k:Int)]] []=some (.bool true,H'):=by
 have F:SpecAV (.agg (p.cells xp)) p:=⟨xp,rfl,am⟩;have b1:=Zwv (p:=p) (xp:=xp) (mem:=mem) (w:=w) [];have b2:ZO (.agg [J yC j,.int .u64 (k:Int)]) ([]++[zA (V8 p xp mem w)])=some (.ptr 1 0,[zA (V8 p xp mem w),.cells [J yC j,.int .u64 (k:Int)]]):=by rw[Yu];rfl
 have A:([zA (V8 p xp mem w),.cells [J yC j,.int .u64 (k:Int)]]:Hp)[0]?=some (.cells (V8 p xp mem w)):=rfl;have M:([zA (V8 p xp mem w),.cells [J yC j,.int .u64 (k:Int)]]:Hp)[1]?=some (.cells [J yC j,.int .u64 (k:Int)]):=rfl;have W:Z3 true 7 (.ptr 0 0) [zA (V8 p xp mem w),.cells [J yC j,.int .u64 (k:Int)]]=some (.agg (V8 p xp mem w)):=by rw[YB A];rfl
 have z:=ZaI A;have Y:=ZgZ A;have I:=ZQ M 0 (v:=J yC j) rfl;have el:([]:Hp).length=0:=rfl;rw[el]at b1;have ai:([zA (V8 p xp mem w),.cells [J yC j,.int .u64 (k:Int)]]:Hp).length=2:=rfl;rw[Ch];unfold Rr;simp only[b1,go_sem,b2];generalize [zA (V8 p xp mem w),.cells [J yC j,.int .u64 (k:Int)]]=H1 at W z Y I A M ai;obtain⟨b,X,f2⟩:=ZqH hx hl hL H1;have f3:=ZnE (p:=p) (mem:=mem) (w:=w) am H1;have f4:=Zu1 hx hL hl F mem w H1
 cases b with
 |false=>exact⟨H1,by simp only[go_sem,X,zH,E7]⟩
 |true =>
 obtain⟨K,D⟩:=f2 rfl
 cases hk:decide ((p.keys.length:Int)<=10) with
 |false=>exact⟨H1,by simp only[go_sem,X,zE,W,f3,hk,zH,E7]⟩
 |true =>
 cases B:ET p mem w l != 0 with
 |true=>exact⟨H1,by simp only[go_sem,X,zE,W,f3,hk,zH,Jn,So,z,Y,f4,B,E7]⟩
 |false =>
 cases E:decide (j<1) with
 |true=>exact⟨H1,by simp only[go_sem,X,zE,W,f3,hk,zH,Jn,So,z,Y,f4,B,I,E,E7]⟩
 |false =>
 cases Q:decide ((300:Int)<j) with
 |true=>exact⟨H1,by simp only[go_sem,X,zE,W,f3,hk,zH,Jn,So,z,Y,f4,B,I,E,Q,E7]⟩
 |false =>
 have C:ET p mem w l=0:=by simpa using B
 obtain⟨_,bk,bl,bm,bn⟩:=Zpl C;obtain⟨wn,rfl⟩:∃ wn:Nat,w=(wn:Int):=⟨w.toNat,by omega⟩;have aj:=E;have ak:=Q;rw[decide_eq_false_iff_not]at aj ak;obtain⟨n,rfl⟩:∃ n:Nat,j=(n:Int):=⟨j.toNat,by omega⟩;obtain⟨H2,H3,H4,H5,S5,s1,s2,s3,s4,E5⟩:=Zwk A M;rw[ai]at s1 s2 s3 s4 E5;have V:((0:Int) != 0)=false:=rfl;simp only[go_sem,X,zE,W,f3,hk,zH,Jn,So,z,Y,f4,B,I,E,Q,EF,s1,s2,V,s3,s4,EG]
 -- the crash is near
 have L:=ZQ E5.f 0 (v:=J yC (n:Int)) rfl;obtain⟨H6,t1,t2⟩:=Zla E5.at' rfl n (by omega);have E6:=E5.res t2;obtain⟨bg,v1,v2⟩:=KD H6;have an:=ZaI E6.o;obtain⟨y8,w1,w2⟩:=ZkY v2 ZlI F O hx hL hl H6;obtain⟨bh,v3,v4⟩:=KD (H6++[.free]);have ao:=ZaI E6.push.o;have ap:=ZgZ E6.push.o;have u:BOk [G6 4]:=ZgA (by omega);have ay:Qt [G6 4] 262144 ⟨262144,4,[G6 4],false,n⟩:=⟨rfl,by show 4<=262144;omega,rfl,rfl,⟨by omega,by show n<=_;omega,.inr rfl⟩,by show 4+0<=262144;omega⟩;obtain⟨H7,H8,H9,y,R,er,s',S',r1,r2,r3,E9,r4⟩:=Zka E6 v4 ZlI Zqr F O ah hx K D u (EY 4) C (ay.lft u);have al:(ZP defL p l).length<=1048576:=zZ (Zep defL p l) hl;have ar:((19:Int) != 0)=true:=rfl;have ac:((19:Int) != 19)=false:=rfl;have ad:((19:Int)==0)=false:=rfl;have aa:((0:Int)==0)=true:=rfl;have bb:Zk (.slice 9) .nils=some (J yC 0):=rfl;have aw:decide ((0:Int)<0)=false:=rfl
 have bd:StoOk s'/\s'.limit=min 262145 262144/\∃ T,s'.files=[G6 4]++T/\∀ f∈T,∃ i,1<=i/\i<=128/\f.name=ZK i:=by
  rcases r4 with ⟨_,_,hq⟩|⟨_,_,g⟩|⟨_,_,_,h⟩
  ·exact⟨hq.sto u,hq.lm,[],by rw[zN];exact hq.files,fun f hf=>by cases hf⟩
  ·exact⟨g.sto,g.lm,g.files⟩
  ·omega
 obtain⟨g1,g2,g3⟩:=bd
 -- restart and recovery
 have lk:=ZQ E9.f 1 (v:=.int .u64 (k:Int)) rfl;obtain⟨Ha,Aa,a1,a2,a3⟩:=ZnZ E9.at' g1 k;have Ea:=E9.res a2;have ax:Lft [G6 4] 262145 (s'.restart k):=ZoO Zvt (by omega) a3 g2 g3;obtain⟨Hb,sb,Sb,c1,c2⟩:=Zd7 (EY 4) ax Ea.at';have Eb:=Ea.res c1;rcases c2 with ⟨c2,ag⟩|⟨_,g⟩
 rotate_left
 ·exact (Zri g).elim
 obtain⟨Hc,sc,Sc,d1,Z⟩:=Zd7 (EY 4) (ag.lft u) Eb.at';have Ec:=Eb.res d1;rw[Ztv (EY 4) ag.files]at Z;rcases Z with ⟨Z,N⟩|⟨_,g⟩
 rotate_left
 ·exact (Zri g).elim
 obtain⟨Hd,i1,Ed⟩:=Zu8 Ec N;obtain⟨xl,j1,j2⟩:=ZkF Ed N
 -- the second sort
 obtain⟨bi,v5,v6⟩:=KD (Hd++[.free]);have be:=ZaI Ed.push.o;have bf:=ZgZ Ed.push.o;obtain⟨He,Hf,Hg,y2,R2,bj,sg,Sg,k1,k2,k3,Eg,k4⟩:=Zka Ed v6 ZlI Zqr F O ah hx K D u (EY 4) C (N.lft u);rcases k4 with ⟨rfl,k4,ba⟩|⟨_,_,g⟩|⟨_,_,_,h⟩
 rotate_left
 ·exact (Zri g).elim
 ·omega
 obtain⟨xm,m1,m2⟩:=ZkF Eg ba;have U:=Zg6 k4 w2 al Hg;have hz:((([]:List Zm).length:Nat):Int)=0:=rfl;rw[hz]at Z;have au:((([107,101,112,116]:List UInt8))==[107,101,112,116])=true:=rfl;have aq:((1:Int)==1)=true:=rfl;have ab:((1:Int) != 1)=false:=rfl
 have ae:Jf x (.ptr 0 0) (.ptr 1 0) (.ptr 3 0) y8 [] H9=some (.bool true,Hg):=by
  rw[EH];simp only[go_sem,zS,lk,a1,c2,zF,zG,Z,i1,V,au,zE,j1,j2,ab,EJ,v5,Jn,So,be,bf,k1,k2,k3,aa,U,m1,m2,aq,E7]
 refine⟨Hg,?_⟩;rcases r4 with ⟨rfl,q2,_⟩|⟨rfl,rfl,_⟩|⟨_,_,_,h⟩
 ·have bc:=Zg6 q2 w2 al H9;simp only[L,go_sem,t1,v1,Jn,So,an,w1,v3,ao,ap,r1,zF,zG,r2,r3,V,aa,bc,zE];exact ae
 ·simp only[L,go_sem,t1,v1,Jn,So,an,w1,v3,ao,ap,r1,zF,zG,r2,r3,ar,ac,bb,aw,ad];exact ae
 ·omega
end Go.Am
